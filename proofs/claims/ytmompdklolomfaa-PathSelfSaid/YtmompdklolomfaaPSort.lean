/- Sorting, told plainly: the library's sort and one by insertion come to one list where the order parts all. -/
import Derived.Test.YtmompdklolomfaaAbSort
import Derived.Test.YtmompdklolomfaaPKit
namespace Go.Proofs.Ytmompdklolomfaa.Ab
open Go Go.RowKit Go.Lib Go.Proofs
set_option linter.unusedVariables false
set_option linter.unusedSimpArgs false
variable {α : Type}
theorem sortF_perm [Inhabited α] {cf : α → α → Int} (hO : Sort.SWO (ltOf cf)) (l : List α) : (sortF cf l).Perm l := by
 obtain ⟨h1, _, h3⟩ := (Sort.pdq_sorts (ltOf cf) hO l.toArray 0 l.toArray.size (Lib.bitLen l.toArray.size) true true (Nat.zero_le _) (Nat.le_refl _) (Or.inl rfl)).1
 have e : ∀ (A : Array α) n, A.size = n → A.extract 0 n = A := fun A n h => by subst h; simp
 rw [e _ _ h1, e _ _ rfl] at h3
 exact h3
theorem sortF_sorted [Inhabited α] {cf : α → α → Int} (hO : Sort.SWO (ltOf cf)) (l : List α) : (sortF cf l).Pairwise (fun a b => ltOf cf b a = false) := by
 have hp := (Sort.pdq_sorts (ltOf cf) hO l.toArray 0 l.toArray.size (Lib.bitLen l.toArray.size) true true (Nat.zero_le _) (Nat.le_refl _) (Or.inl rfl))
 have hs := hp.2
 have hz := hp.1.1
 rw [List.pairwise_iff_getElem]
 intro i j hi hj hij
 have hi' : i < (Sort.pdq (ltOf cf) l.toArray 0 l.toArray.size (Lib.bitLen l.toArray.size) true true).size := by simpa [sortF] using hi
 have hj' : j < (Sort.pdq (ltOf cf) l.toArray 0 l.toArray.size (Lib.bitLen l.toArray.size) true true).size := by simpa [sortF] using hj
 have := hs i j (Nat.zero_le _) hij (by rw [← hz]; exact hj')
 rw [getElem!_pos _ i hi', getElem!_pos _ j hj'] at this
 exact this
def bub (lt : α → α → Prop) [∀ x y, Decidable (lt x y)] (x : α) : List α → List α
 | [] => [x]
 | a :: r => if lt x a then bub lt x r ++ [a] else (a :: r).reverse ++ [x]
structure Wk (lt : α → α → Prop) : Prop where
 irr : ∀ x, ¬ lt x x
 tr : ∀ x y z, lt x y → lt y z → lt x z
 ntr : ∀ x y z, ¬ lt x y → ¬ lt y z → ¬ lt x z
section
variable {lt : α → α → Prop} [∀ x y, Decidable (lt x y)]
theorem bub_perm (x : α) : ∀ r : List α, (bub lt x r).Perm (r.reverse ++ [x])
 | [] => List.Perm.refl _
 | a :: r => by
  unfold bub
  split
  ·rw [List.reverse_cons, List.append_assoc]
   exact ((bub_perm x r).append_right [a]).trans (by
    rw [List.append_assoc]
    exact (List.Perm.append_left _ (List.Perm.swap a x [])))
  ·exact List.Perm.refl _
theorem bub_mem {x y : α} {r : List α} (h : y ∈ bub lt x r) : y = x ∨ y ∈ r := by
 have := (bub_perm (lt := lt) x r).mem_iff.1 h
 simp only [List.mem_append, List.mem_reverse, List.mem_singleton] at this
 rcases this with h | h
 ·exact .inr h
 ·exact .inl h
theorem bub_sorted (w : Wk lt) (x : α) : ∀ r : List α, r.reverse.Pairwise (fun a b => ¬ lt b a) → (bub lt x r).Pairwise (fun a b => ¬ lt b a)
 | [], _ => by simp [bub]
 | a :: r, h => by
  rw [List.reverse_cons, List.pairwise_append] at h
  obtain ⟨h1, _, h3⟩ := h
  unfold bub
  split
  ·rename_i hx
   rw [List.pairwise_append]
   refine ⟨bub_sorted w x r h1, by simp, fun y hy z hz => ?_⟩
   rw [List.mem_singleton.1 hz]
   rcases bub_mem hy with rfl | hy
   ·exact fun k => w.irr _ (w.tr _ _ _ k hx)
   ·exact h3 y (List.mem_reverse.2 hy) a (by simp)
  ·rename_i hx
   rw [List.reverse_cons, List.pairwise_append, List.pairwise_append]
   refine ⟨⟨h1, by simp, h3⟩, by simp, fun y hy z hz => ?_⟩
   rw [List.mem_singleton.1 hz]
   rcases List.mem_append.1 hy with hy | hy
   ·exact w.ntr _ _ _ hx (h3 y hy a (by simp))
   ·rw [List.mem_singleton.1 hy]; exact hx
def insAll (lt : α → α → Prop) [∀ x y, Decidable (lt x y)] (S R : List α) : List α := R.foldl (fun S x => bub lt x S.reverse) S
theorem insAll_perm : ∀ (R S : List α), (insAll lt S R).Perm (S ++ R)
 | [], S => by simp [insAll]
 | x :: R, S => by
  have h := insAll_perm R (bub lt x S.reverse)
  refine h.trans ?_
  have h2 := (bub_perm (lt := lt) x S.reverse).append_right R
  rw [List.reverse_reverse] at h2
  simpa using h2
theorem insAll_sorted (w : Wk lt) : ∀ (R S : List α), S.Pairwise (fun a b => ¬ lt b a) → (insAll lt S R).Pairwise (fun a b => ¬ lt b a)
 | [], S, h => h
 | x :: R, S, h => insAll_sorted w R _ (bub_sorted w x _ (by rw [List.reverse_reverse]; exact h))
theorem set_at {A B : List α} {x y : α} : (A ++ x :: B).set A.length y = A ++ y :: B := by
 rw [List.set_append_right _ _ (Nat.le_refl _), Nat.sub_self, List.set_cons_zero]
theorem get_at {A B : List α} {x : α} : (A ++ x :: B)[A.length]? = some x := by
 rw [List.getElem?_append_right (Nat.le_refl _), Nat.sub_self, List.getElem?_cons_zero]
end
theorem loop_idx {ρ : Type} {body : Int → Option (Int ⊕ ρ)} (p : α → Bool) (l : List α) (fin : Nat → ρ) (dflt : ρ) (hl : l.length ≤ 1000000000)
  (h : ∀ (k : Nat) (hk : k < l.length), body (k : Int) = if p l[k] = true then some (.inr (fin k)) else some (.inl ((k + 1 : Nat) : Int))) (hend : body (l.length : Int) = some (.inr dflt)) :
  loopN body Fu 0 = some (if l.findIdx p < l.length then fin (l.findIdx p) else dflt) := by
 have key : ∀ (m k : Nat) (N : Nat), k + m = l.length → m < N → loopN body N (k : Int) = some (if (l.drop k).findIdx p + k < l.length then fin ((l.drop k).findIdx p + k) else dflt) := by
  intro m
  induction m with
  | zero =>
   intro k N hk hN
   obtain ⟨N', rfl⟩ : ∃ N', N = N' + 1 := ⟨N - 1, by omega⟩
   have : k = l.length := by omega
   subst this
   rw [loop_r hend, if_neg (by omega)]
  | succ m ih =>
   intro k N hk hN
   obtain ⟨N', rfl⟩ : ∃ N', N = N' + 1 := ⟨N - 1, by omega⟩
   have hk2 : k < l.length := by omega
   have hb := h k hk2
   rw [List.drop_eq_getElem_cons hk2, List.findIdx_cons]
   cases e : p l[k] with
   | true =>
    rw [e, if_pos rfl] at hb
    rw [loop_r hb, cond_true, Nat.zero_add, if_pos hk2]
   | false =>
    rw [e, if_neg (by decide)] at hb
    rw [loop_l hb, ih (k + 1) N' (by omega) (by omega), cond_false, Nat.add_assoc, Nat.add_comm 1 k]
 have := key l.length 0 Fu (by omega) (by rw [show Fu = 1208925819614629174706175 + 1 from rfl]; omega)
 simpa using this
end Go.Proofs.Ytmompdklolomfaa.Ab
