import Derived.Test.YtmompdklolomfaaAbReb
namespace Go.Proofs.Ytmompdklolomfaa.Ab
open Go Go.RowKit
set_option linter.unusedVariables false
set_option linter.unusedSimpArgs false
variable {P : Program} {N : Nat} {ops : Array Oper} {s : St} {Q : Exit → St → Prop}
def AO (P : Program) (N : Nat) (ops : Array Oper) (b : Option (Nat → Nat → Bool)) (i : Nat) (fx : List (Nat × Fx)) (l : List Oper) (s : St) (Q : Exit → St → Prop) : Prop :=
 ∃ xs s', Lex P N ops l s xs s' ∧ (∀ w, b = some w → pairsFx w (fx ++ numFx i xs)) ∧ Q .normal s'
theorem ao_nil {b : Option (Nat → Nat → Bool)} {i : Nat} {fx : List (Nat × Fx)} (hp : ∀ w, b = some w → pairsFx w fx) (h : Q .normal s) : AO P N ops b i fx [] s Q :=
 ⟨[], s, .nil _, fun w hw => by simpa [numFx] using hp w hw, h⟩
theorem ao_cons {b : Option (Nat → Nat → Bool)} {i : Nat} {fx : List (Nat × Fx)} {o : Oper} {l : List Oper} {x : Fx} (ha : Acts P N ops o s x) (hN : ∀ t ∈ o.looksAt ops, t < N) (h : AO P N ops b (i + 1) (fx ++ [(i, x)]) l (s.app o.dst x) Q) :
  AO P N ops b i fx (o :: l) s Q := by
 obtain ⟨xs, s', h1, h2, h3⟩ := h
 exact ⟨x :: xs, s', .cons ha hN h1, fun w hw => by have := h2 w hw; simpa [numFx] using this, h3⟩
theorem St.put_self (s : St) {t : Nat} {v : PV} (h : s.env t = v) : s.put (some t) v = s := by
 subst h
 cases s
 simp only [St.put]
 congr 1
 funext j
 simp only [upd]
 split
 ·rename_i e; rw [e]
 ·rfl
theorem ao_bool {b : Option (Nat → Nat → Bool)} {i : Nat} {fx : List (Nat × Fx)} {l : List Oper} (t : Nat) {c : Bool} (hb : s.env t = .bool c) (h1 : c = true → AO P N ops b i fx l (s.put (some t) (.bool true)) Q) (h2 : c = false → AO P N ops b i fx l (s.put (some t) (.bool false)) Q) :
  AO P N ops b i fx l s Q := by
 cases c with
 | true => have := h1 rfl; rwa [s.put_self hb] at this
 | false => have := h2 rfl; rwa [s.put_self hb] at this
theorem aw_bool {c : Code} (t : Nat) {b : Bool} (hb : s.env t = .bool b) (h1 : b = true → AW P N c (s.put (some t) (.bool true)) Q) (h2 : b = false → AW P N c (s.put (some t) (.bool false)) Q) : AW P N c s Q := by
 cases b with
 | true => have := h1 rfl; rwa [s.put_self hb] at this
 | false => have := h2 rfl; rwa [s.put_self hb] at this
theorem aw_regd {id : Nat} {l : List Oper} (hm : P.follows .mixedOrders = true) (hst : (backB l.toArray && apartB l.toArray (Region.before l.toArray) (numOps 0 l)) = true)
  (h : AO P N l.toArray (some fun i j => ((Region.before l.toArray).getD j 0).testBit i) 0 [] l s Q) : AW P N (.region id l.toArray true) s Q := by
 obtain ⟨xs, s', h1, h2, h3⟩ := h
 exact aw_draw hm hst h1 (by simpa using h2 _ rfl) h3
theorem pairs_some {fx : List (Nat × Fx)} {b : Nat → Nat → Bool} (h : pairsFx b fx) : ∀ w, some b = some w → pairsFx w fx := fun w e => by injection e with e; subst e; exact h
end Go.Proofs.Ytmompdklolomfaa.Ab
