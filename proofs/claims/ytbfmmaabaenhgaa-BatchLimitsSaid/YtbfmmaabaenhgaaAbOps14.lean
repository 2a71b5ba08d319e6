/- A region of one order, operation by operation, told anew on the way. -/
import Derived.Test.YtbfmmaabaenhgaaAbOps13
namespace Go.Proofs.Ytbfmmaabaenhgaa.Ab
open Go Go.RowKit
set_option linter.unusedVariables false
set_option linter.unusedSimpArgs false
variable {P : Program} {N : Nat} {ops : Array Oper} {s : St} {Q : Exit → St → Prop}
/-- What is left of a region that has one order. -/
def AL (P : Program) (N : Nat) (ops : Array Oper) (l : List Oper) (s : St) (Q : Exit → St → Prop) : Prop :=
  ∀ w0 Mv J a w, Sim w0 Mv N J s a w → wpList P ops (fun e a' w' => ∃ s' J', Sim w0 Mv N J' s' a' w' ∧ s'.X = s.X ∧ Q e s') l a w
theorem al_nil (h : Q .normal s) : AL P N ops [] s Q := fun w0 Mv J a w hs => wpList_nil ⟨s, J, hs, rfl, h⟩
theorem al_cons {o : Oper} {l : List Oper} {x : Fx} (ha : Acts P N ops o s x) (hN : ∀ t ∈ o.looksAt ops, t < N) (h : AL P N ops l (s.app o.dst x) Q) : AL P N ops (o :: l) s Q := by
  intro w0 Mv J a w hs
  unfold wpList
  exact ha.op (Agree.refl _ _ _ _) hN hs fun J' a' w' h' => h w0 Mv J' a' w' h'
theorem al_reb {l : List Oper} {s' : St} (h : Reb N s s') (k : AL P N ops l s' Q) : AL P N ops l s Q := by
  intro w0 Mv J a w hs
  obtain ⟨J', hs'⟩ := h.2 w0 Mv J a w hs
  have := k w0 Mv J' a w hs'
  rw [h.1] at this
  exact this
theorem al_bool {l : List Oper} (t : Nat) {c : Bool} (hb : s.env t = .bool c) (h1 : c = true → AL P N ops l (s.put (some t) (.bool true)) Q) (h2 : c = false → AL P N ops l (s.put (some t) (.bool false)) Q) : AL P N ops l s Q := by
  cases c with
  | true => have := h1 rfl; rwa [s.put_self hb] at this
  | false => have := h2 rfl; rwa [s.put_self hb] at this
theorem aw_regL {id : Nat} {l : List Oper} (h : AL P N l.toArray l s Q) : AW P N (.region id l.toArray false) s Q :=
  fun w0 Mv J a w hs => wp_region_lit (h w0 Mv J a w hs)
end Go.Proofs.Ytbfmmaabaenhgaa.Ab
