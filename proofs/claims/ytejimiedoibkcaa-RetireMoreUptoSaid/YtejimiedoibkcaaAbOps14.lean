/- A region of one order, operation by operation, told anew on the way. -/
import Derived.Test.YtejimiedoibkcaaAbOps13
namespace Go.Proofs.Ytejimiedoibkcaa.Ab
open Go Go.RowKit
set_option linter.unusedVariables false
set_option linter.unusedSimpArgs false
variable {P : Program} {N : Nat} {ops : Array Oper} {s : St} {Q : Exit → St → Prop}
/-- What is left of a region that has one order. -/
def AL (P : Program) (N : Nat) (ops : Array Oper) (l : List Oper) (s : St) (Q : Exit → St → Prop) : Prop :=
  ∀ w0 Mv J a w, Sim w0 Mv N J s a w → wpList P ops (fun e a' w' => ∃ s' J', Sim w0 Mv N J' s' a' w' ∧ s'.X = s.X ∧ Q e s') l a w
theorem al_nil (h : Q .normal s) : AL P N ops [] s Q := fun w0 Mv J a w hs => wpList_nil ⟨s, J, hs, rfl, h⟩
theorem al_cons {o : Oper} {l : List Oper} {x : Fx} (ha : Acts P N ops o s x) (hN : ∀ t ∈ o.looksAt ops, t < N) (h : AL P N ops l (s.app o.dst x) Q) : AL P N ops (o :: l) s Q := by
  intro w0 Mv J a w hs
  unfold wpList
  exact ha.op (Agree.refl _ _ _ _) hN hs fun J' a' w' h' => h w0 Mv J' a' w' h'
theorem al_reb {l : List Oper} {s' : St} (h : Reb N s s') (k : AL P N ops l s' Q) : AL P N ops l s Q := by
  intro w0 Mv J a w hs
  obtain ⟨J', hs'⟩ := h.2 w0 Mv J a w hs
  have := k w0 Mv J' a w hs'
  rw [h.1] at this
  exact this
theorem al_bool {l : List Oper} (t : Nat) {c : Bool} (hb : s.env t = .bool c) (h1 : c = true → AL P N ops l (s.put (some t) (.bool true)) Q) (h2 : c = false → AL P N ops l (s.put (some t) (.bool false)) Q) : AL P N ops l s Q := by
  cases c with
  | true => have := h1 rfl; rwa [s.put_self hb] at this
  | false => have := h2 rfl; rwa [s.put_self hb] at this
theorem aw_regL {id : Nat} {l : List Oper} (h : AL P N l.toArray l s Q) : AW P N (.region id l.toArray false) s Q :=
  fun w0 Mv J a w hs => wp_region_lit (h w0 Mv J a w hs)
theorem al_consD {o : Oper} {l : List Oper} {x : Fx} {d : Option Tmp} (hd : o.dst = d) (ha : Acts P N ops o s x) (hN : ∀ t ∈ o.looksAt ops, t < N) (h : AL P N ops l (s.app d x) Q) : AL P N ops (o :: l) s Q := al_cons ha hN (hd ▸ h)
theorem al_consP {o : Oper} {l : List Oper} {v : PV} {d : Option Tmp} (hd : o.dst = d) (ha : Acts P N ops o s (pureFx v)) (hN : ∀ t ∈ o.looksAt ops, t < N) (h : AL P N ops l (s.put d v) Q) : AL P N ops (o :: l) s Q :=
  al_consD hd ha hN (by rw [app_pure]; exact h)
theorem pairs_insert {b : Nat → Nat → Bool} {i : Nat} {y : Fx} (hy : y.quiet) : ∀ {A B : List (Nat × Fx)}, pairsFx b (A ++ B) → pairsFx b (A ++ (i, y) :: B)
  | [], B, h => ⟨fun q _ => .inr (fxApart_quiet (.inl hy)), h⟩
  | (j, x) :: A, B, h => ⟨fun q hq => by
      rcases List.mem_append.1 hq with hq | hq
      · exact h.1 q (List.mem_append_left _ hq)
      · rcases List.mem_cons.1 hq with rfl | hq
        · exact .inr (fxApart_quiet (.inr hy))
        · exact h.1 q (List.mem_append_right _ hq), pairs_insert hy h.2⟩
theorem ao_consD {b : Option (Nat → Nat → Bool)} {i : Nat} {fx : List (Nat × Fx)} {o : Oper} {l : List Oper} {x : Fx} {d : Option Tmp} (hd : o.dst = d) (ha : Acts P N ops o s x) (hN : ∀ t ∈ o.looksAt ops, t < N) (h : AO P N ops b (i + 1) (fx ++ [(i, x)]) l (s.app d x) Q) :
    AO P N ops b i fx (o :: l) s Q := ao_cons ha hN (hd ▸ h)
theorem ao_consP {b : Option (Nat → Nat → Bool)} {i : Nat} {fx : List (Nat × Fx)} {o : Oper} {l : List Oper} {v : PV} {d : Option Tmp} (hd : o.dst = d) (ha : Acts P N ops o s (pureFx v)) (hN : ∀ t ∈ o.looksAt ops, t < N) (h : AO P N ops b (i + 1) fx l (s.put d v) Q) :
    AO P N ops b i fx (o :: l) s Q := by
  subst hd
  rw [← app_pure] at h
  obtain ⟨xs, s', h1, h2, h3⟩ := h
  exact ⟨pureFx v :: xs, s', .cons ha hN h1, fun w hw => pairs_insert ⟨rfl, rfl, rfl⟩ (h2 w hw), h3⟩
theorem alP (d : Option Tmp) {o : Oper} {l : List Oper} {v : PV} (hd : o.dst = d) (hg : guardOk ops o s = some true) (h : Does P N ops o s (pureFx v)) (hN : ∀ t ∈ o.looksAt ops, t < N) (k : AL P N ops l (s.put d v) Q) : AL P N ops (o :: l) s Q := al_consP hd (acts_of hg h) hN k
theorem alD (d : Option Tmp) {o : Oper} {l : List Oper} {x : Fx} (hd : o.dst = d) (hg : guardOk ops o s = some true) (h : Does P N ops o s x) (hN : ∀ t ∈ o.looksAt ops, t < N) (k : AL P N ops l (s.app d x) Q) : AL P N ops (o :: l) s Q := al_consD hd (acts_of hg h) hN k
theorem alS (d : Option Tmp) {o : Oper} {l : List Oper} (hd : o.dst = d) (hg : guardOk ops o s = some false) (hN : ∀ t ∈ o.looksAt ops, t < N) (k : AL P N ops l (s.put d .skip) Q) : AL P N ops (o :: l) s Q := al_consP hd (acts_skip hg) hN k
theorem alR (d : Option Tmp) {o : Oper} {l : List Oper} {L : List (Nat × Nat)} {v : PV} (hd : o.dst = d) (hg : guardOk ops o s = some true) (h : Does P N ops o s ⟨L, v, [], []⟩) (hN : ∀ t ∈ o.looksAt ops, t < N) (k : AL P N ops l (s.put d v) Q) : AL P N ops (o :: l) s Q :=
  al_consD hd (acts_of hg h) hN (by rw [app_read]; exact k)
theorem Does.fx {o : Oper} {x y : Fx} (h : Does P N ops o s x) (e : x = y) : Does P N ops o s y := e ▸ h
section
variable {b : Option (Nat → Nat → Bool)} {i : Nat} {fx : List (Nat × Fx)} {o : Oper} {l : List Oper}
theorem aoP (d : Option Tmp) {v : PV} (hd : o.dst = d) (hg : guardOk ops o s = some true) (h : Does P N ops o s (pureFx v)) (hN : ∀ t ∈ o.looksAt ops, t < N) (k : AO P N ops b (i + 1) fx l (s.put d v) Q) : AO P N ops b i fx (o :: l) s Q := ao_consP hd (acts_of hg h) hN k
theorem aoD (d : Option Tmp) {x : Fx} (hd : o.dst = d) (hg : guardOk ops o s = some true) (h : Does P N ops o s x) (hN : ∀ t ∈ o.looksAt ops, t < N) (k : AO P N ops b (i + 1) (fx ++ [(i, x)]) l (s.app d x) Q) : AO P N ops b i fx (o :: l) s Q := ao_consD hd (acts_of hg h) hN k
theorem aoR (d : Option Tmp) {L : List (Nat × Nat)} {v : PV} (hd : o.dst = d) (hg : guardOk ops o s = some true) (h : Does P N ops o s ⟨L, v, [], []⟩) (hN : ∀ t ∈ o.looksAt ops, t < N) (k : AO P N ops b (i + 1) (fx ++ [(i, ⟨L, v, [], []⟩)]) l (s.put d v) Q) : AO P N ops b i fx (o :: l) s Q :=
  ao_consD hd (acts_of hg h) hN (by rw [app_read]; exact k)
theorem aoS (d : Option Tmp) (hd : o.dst = d) (hg : guardOk ops o s = some false) (hN : ∀ t ∈ o.looksAt ops, t < N) (k : AO P N ops b (i + 1) fx l (s.put d .skip) Q) : AO P N ops b i fx (o :: l) s Q := ao_consP hd (acts_skip hg) hN k
end
end Go.Proofs.Ytejimiedoibkcaa.Ab
