import Derived.Test.YtmompdklolomfaaAbArg2
import Derived.Test.YtmompdklolomfaaAbWords
namespace Go.Proofs.Ytmompdklolomfaa.Ab
open Go Go.RowKit
set_option linter.unusedVariables false
set_option linter.unusedSimpArgs false
variable {α β σ ρ τ : Type}
def gd (p : Prop) [Decidable p] (x : Option α) : Option α := if p then x else none
theorem gd_some {p : Prop} [Decidable p] {x : Option α} {r : α} (h : gd p x = some r) : p ∧ x = some r := by
 unfold gd at h
 split at h
 ·exact ⟨‹_›, h⟩
 ·cases h
theorem gd_pos {p : Prop} [Decidable p] {x : Option α} (h : p) : gd p x = x := if_pos h
theorem bnd_some {x : Option α} {f : α → Option β} {r : β} (h : Option.bind x f = some r) : ∃ a, x = some a ∧ f a = some r := by
 cases x with
 | none => cases h
 | some a => exact ⟨a, rfl, h⟩
theorem ifT {c : Bool} {A B : Option α} {r : α} (g : c = true) (h : (if c = true then A else B) = some r) : A = some r := by rw [if_pos g] at h; exact h
theorem ifF {c : Bool} {A B : Option α} {r : α} (g : c = false) (h : (if c = true then A else B) = some r) : B = some r := by rw [if_neg (by rw [g]; decide)] at h; exact h
def loopN (body : σ → Option (σ ⊕ ρ)) : Nat → σ → Option ρ
 | 0, _ => none
 | n + 1, s => match body s with
  | none => none
  | some (.inl s') => loopN body n s'
  | some (.inr r) => some r
theorem loop_some {body : σ → Option (σ ⊕ ρ)} {m : Nat} {s : σ} {r : ρ} (h : loopN body m s = some r) : ∃ m' q, m = m' + 1 ∧ body s = some q ∧ Sum.elim (loopN body m') some q = some r := by
 cases m with
 | zero => cases h
 | succ m =>
  simp only [loopN] at h
  split at h
  ·cases h
  ·rename_i s' e; exact ⟨m, _, rfl, e, h⟩
  ·rename_i r' e; exact ⟨m, _, rfl, e, h⟩
theorem leafL {a : σ} {q : σ ⊕ τ} {f : σ → Option ρ} {g : τ → Option ρ} {r : ρ} (h : some (Sum.inl a) = some q) (k : Sum.elim f g q = some r) : f a = some r := by
 injection h with h; subst h; exact k
theorem leafR {x : ρ} {q : σ ⊕ ρ} {f : σ → Option ρ} {r : ρ} (h : some (Sum.inr x) = some q) (k : Sum.elim f some q = some r) : some x = some r := by
 injection h with h; subst h; exact k
def Fu : Nat := 1208925819614629174706176
theorem fu_eq : Fu = 1208925819614629174706176 := rfl
theorem loop_inv {body : σ → Option (σ ⊕ ρ)} (I : Nat → σ → Prop) (Q : ρ → Prop) (step : ∀ n s, I n s → (∃ s' m, body s = some (.inl s') ∧ m < n ∧ I m s') ∨ ∃ r, body s = some (.inr r) ∧ Q r) :
  ∀ N n s, I n s → n < N → ∃ r, loopN body N s = some r ∧ Q r
 | 0, n, s, _, h => absurd h (Nat.not_lt_zero _)
 | N + 1, n, s, hi, h => by
  rcases step n s hi with ⟨s', m, h1, h2, h3⟩ | ⟨r, h1, h2⟩
  ·obtain ⟨r, h4, h5⟩ := loop_inv I Q step N m s' h3 (by omega)
   exact ⟨r, by simp only [loopN, h1]; exact h4, h5⟩
  ·exact ⟨r, by simp only [loopN, h1], h2⟩
def PVle (p q : PV) : Prop := (p.one = true → q.one = true) ∧ ∀ w M J v, Rep w M J p v → Rep w M J q v
theorem le_refl (p : PV) : PVle p p := ⟨id, fun _ _ _ _ h => h⟩
theorem le_nil (sz : Nat) : PVle .nil (.sl sz []) := ⟨fun _ => rfl, fun _ _ _ _ h => by cases h; exact .sl0 _ _ _⟩
def leL : List PV → List PV → Prop
 | [], [] => True
 | p :: ps, q :: qs => PVle p q ∧ leL ps qs
 | _, _ => False
theorem leL_get : ∀ {ps qs : List PV}, leL ps qs → ps.length = qs.length ∧ ∀ (i : Nat) (p q : PV), ps[i]? = some p → qs[i]? = some q → PVle p q
 | [], [], _ => ⟨rfl, fun i p q h => by simp at h⟩
 | p :: ps, [], h => h.elim
 | [], q :: qs, h => h.elim
 | p :: ps, q :: qs, ⟨h1, h2⟩ => by
  obtain ⟨h3, h4⟩ := leL_get h2
  refine ⟨by simp [h3], fun i a b ha hb => ?_⟩
  cases i with
  | zero => simp at ha hb; subst ha hb; exact h1
  | succ i => simp at ha hb; exact h4 i a b ha hb
theorem le_agg {ps qs : List PV} (h : leL ps qs) : PVle (.agg ps) (.agg qs) := ⟨fun h => by simp [PV.one] at h, fun w M J v hv => by
 obtain ⟨h3, h4⟩ := leL_get h
 cases hv with
 | agg _ _ vs hl hr =>
  refine .agg _ _ _ (h3 ▸ hl) fun i c v hc hv => ?_
  have hi : i < ps.length := by rw [h3]; exact (List.getElem?_eq_some_iff.1 hc).1
  exact (h4 i _ c (List.getElem?_eq_getElem hi) hc).2 _ _ _ _ (hr i _ v (List.getElem?_eq_getElem hi) hv)⟩
def leE : List (Nat × PV) → List (Nat × PV) → Prop
 | [], [] => True
 | p :: ps, q :: qs => p.1 = q.1 ∧ PVle p.2 q.2 ∧ leE ps qs
 | _, _ => False
inductive leO1 : AObj → AObj → Prop
 | rfl (o) : leO1 o o
 | box {a b : List PV} (h : leL a b) : leO1 (.box a) (.box b)
def leO : List ((Nat × Nat) × AObj) → List ((Nat × Nat) × AObj) → Prop
 | [], [] => True
 | p :: ps, q :: qs => p.1 = q.1 ∧ leO1 p.2 q.2 ∧ leO ps qs
 | _, _ => False
variable {P : Program} {N : Nat}
theorem Reb.trans {s s' s'' : St} (h : Reb N s s') (k : Reb N s' s'') : Reb N s s'' := ⟨k.1.trans h.1, fun w0 Mv J a w hs => by
 obtain ⟨J', h'⟩ := h.2 w0 Mv J a w hs
 exact k.2 w0 Mv J' a w h'⟩
theorem map_get {α : Type} {f : α → PV} {l : List α} {i : Nat} {x : α} (h : l[i]? = some x) : (List.map f l)[i]? = some (f x) := by simp [h]
theorem map_app {α : Type} {f : α → PV} (a b : List α) : List.map f a ++ List.map f b = List.map f (a ++ b) := List.map_append.symm
theorem map_set' {α : Type} {f : α → PV} (l : List α) (i : Nat) (x : α) : (List.map f l).set i (f x) = List.map f (l.set i x) := List.map_set.symm
theorem len_map {α : Type} {f : α → PV} (l : List α) : PV.int .i64 ((List.map f l).length : Int) = .int .i64 (l.length : Int) := by rw [List.length_map]
theorem fit_map {α : Type} {f : α → PV} {l : List α} {b : Nat} (h : l.length * b ≤ 140737488355328 ∧ l.length ≤ 140737488355328) : (List.map f l).length * b ≤ 140737488355328 ∧ (List.map f l).length ≤ 140737488355328 := by rw [List.length_map]; exact h
def u8 (e : Int) : UInt8 := UInt8.ofNat e.toNat
theorem nat_of {i : Int} (h : 0 ≤ i) : i = (i.toNat : Int) := (Int.toNat_of_nonneg h).symm
end Go.Proofs.Ytmompdklolomfaa.Ab
