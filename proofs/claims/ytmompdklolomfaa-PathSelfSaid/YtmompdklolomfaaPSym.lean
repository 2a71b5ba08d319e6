/- Merged in place, and sorted stably, told plainly. -/
import Derived.Test.YtmompdklolomfaaXSym
import Derived.Test.YtmompdklolomfaaPSpanP
import Derived.Test.YtmompdklolomfaaXStb
namespace Go.Proofs.Ytmompdklolomfaa.Ab
open Go Go.RowKit
set_option linter.unusedVariables false
set_option linter.unusedSimpArgs false
theorem get_mid {α : Type} (A : List α) (x : α) (B : List α) {i : Nat} (h : i = A.length) : (A ++ x :: B)[i]? = some x := by subst h; simp
theorem set_mid {α : Type} (A : List α) (x y : α) (B : List α) {i : Nat} (h : i = A.length) : (A ++ x :: B).set i y = A ++ y :: B := by subst h; simp
theorem wn {z : Int} {i : Nat} (h : z = (i : Int)) (hi : i ≤ 1000000) : IntKind.i64.wrap z = (i : Int) := by rw [w64 (by omega) (by omega), h]
theorem lt_d {i j : Nat} (h : i < j) : decide ((i : Int) < (j : Int)) = true := decide_eq_true (by omega)
theorem lt_n {i j : Nat} (h : ¬ i < j) : decide ((i : Int) < (j : Int)) = false := decide_eq_false (by omega)
section
variable {a b n : Nat}
theorem swap_step {P M Q A B : List Int} {x y : Int} {k : Nat} (hn : n ≤ 100000) (hk : k < n) (ha : a + k = P.length) (hb : b + k = P.length + 1 + A.length + M.length) (hab : a ≤ 100000 ∧ b ≤ 100000) :
  slices_swapRangeCmpFunc_int_tree_Kids_c1_l0 (a : Int) (b : Int) (n : Int) (P ++ x :: A ++ M ++ y :: B ++ Q) (k : Int) = some (.inl ((P ++ [y]) ++ A ++ (M ++ [x]) ++ B ++ Q, ((k + 1 : Nat) : Int))) := by
 have ea : IntKind.i64.wrap ((a : Int) + (k : Int)) = (P.length : Int) := wn (by omega) (by omega)
 have eb : IntKind.i64.wrap ((b : Int) + (k : Int)) = ((P.length + 1 + A.length + M.length : Nat) : Int) := wn (by omega) (by omega)
 have ek : IntKind.i64.wrap ((k : Int) + 1) = ((k + 1 : Nat) : Int) := wn (by omega) (by omega)
 have e1 : P ++ x :: A ++ M ++ y :: B ++ Q = P ++ x :: (A ++ M ++ y :: B ++ Q) := by simp
 have e2 : P ++ x :: A ++ M ++ y :: B ++ Q = (P ++ x :: A ++ M) ++ y :: (B ++ Q) := by simp
 have l2 : (P ++ x :: A ++ M).length = P.length + 1 + A.length + M.length := by simp; omega
 have g1 : (P ++ x :: A ++ M ++ y :: B ++ Q)[P.length]? = some x := by rw [e1]; exact get_mid _ _ _ rfl
 have g2 : (P ++ x :: A ++ M ++ y :: B ++ Q)[P.length + 1 + A.length + M.length]? = some y := by rw [e2]; exact get_mid _ _ _ l2.symm
 have s1 : (P ++ x :: A ++ M ++ y :: B ++ Q).set P.length y = (P ++ y :: A ++ M) ++ y :: (B ++ Q) := by rw [e1, set_mid _ _ _ _ rfl]; simp
 have l3 : (P ++ y :: A ++ M).length = P.length + 1 + A.length + M.length := by simp; omega
 unfold slices_swapRangeCmpFunc_int_tree_Kids_c1_l0
 rw [ite_t (lt_d hk), ea, eb, ek]
 simp only [gd_pos (by omega : (0 : Int) ≤ ((P.length + 1 + A.length + M.length : Nat) : Int)), gd_pos (by omega : (0 : Int) ≤ (P.length : Int)), Int.toNat_natCast, g1, g2, Option.bind_some, s1]
 rw [get_mid _ _ _ l3.symm, Option.bind_some, set_mid _ _ _ _ l3.symm]
 simp
theorem swap_loop (hn : n ≤ 100000) (hab : a ≤ 100000 ∧ b ≤ 100000) : ∀ (A B P M Q : List Int) (k N : Nat), A.length = B.length → k + A.length = n → a + k = P.length → b + k = P.length + A.length + M.length → A.length < N →
  loopN (fun (s : List Int × Int) => slices_swapRangeCmpFunc_int_tree_Kids_c1_l0 (a : Int) (b : Int) (n : Int) s.1 s.2) N (P ++ A ++ M ++ B ++ Q, (k : Int)) = some (P ++ B ++ M ++ A ++ Q)
 | [], [], P, M, Q, k, N, _, hk, _, _, hN => by
  obtain ⟨N, rfl⟩ : ∃ M, N = M + 1 := ⟨N - 1, by omega⟩
  refine loop_r ?_
  show slices_swapRangeCmpFunc_int_tree_Kids_c1_l0 _ _ _ _ _ = _
  unfold slices_swapRangeCmpFunc_int_tree_Kids_c1_l0
  simp only [List.length_nil] at hk
  rw [ite_f (lt_n (by omega))]
 | [], y :: B, P, M, Q, k, N, h, _, _, _, _ => by simp at h
 | x :: A, [], P, M, Q, k, N, h, _, _, _, _ => by simp at h
 | x :: A, y :: B, P, M, Q, k, N, h, hk, ha, hb, hN => by
  simp only [List.length_cons] at h hk hb hN
  obtain ⟨N, rfl⟩ : ∃ M, N = M + 1 := ⟨N - 1, by omega⟩
  rw [loop_l (swap_step (P := P) (M := M) (Q := Q) (A := A) (B := B) (x := x) (y := y) hn (by omega) ha (by omega) hab)]
  rw [swap_loop hn hab A B (P ++ [y]) (M ++ [x]) Q (k + 1) N (by omega) (by omega) (by simp; omega) (by simp; omega) (by omega)]
  simp
end
theorem swap_spec (l : List Span) (P A M B Q : List Int) (h : A.length = B.length) (hs : P.length + A.length + M.length ≤ 100000) {a b n : Int} (ha : a = (P.length : Int)) (hb : b = ((P.length + A.length + M.length : Nat) : Int)) (hn : n = (A.length : Int)) :
  slices_swapRangeCmpFunc_int_tree_Kids_c1 (P ++ A ++ M ++ B ++ Q) a b n l = some (P ++ B ++ M ++ A ++ Q) := by
 subst ha hb hn
 have := swap_loop (a := P.length) (b := P.length + A.length + M.length) (n := A.length) (by omega) (by omega) A B P M Q 0 Fu h (by omega) (by omega) (by omega) (by rw [fu_eq]; omega)
 exact this
theorem rot_loop (l : List Span) : ∀ (t : Nat) (P U V Q : List Int) (m N : Nat), U.length + V.length = t → 0 < U.length → 0 < V.length → m = P.length + U.length → P.length + t ≤ 100000 → t < N →
  ∃ P' U' V' Q', loopN (fun (s : List Int × Int × Int) => slices_rotateCmpFunc_int_tree_Kids_c1_l1 (m : Int) l s.1 s.2.1 s.2.2) N (P ++ U ++ V ++ Q, (U.length : Int), (V.length : Int)) = some (P' ++ U' ++ V' ++ Q', (U'.length : Int)) ∧ U'.length = V'.length ∧ m = P'.length + U'.length ∧ P'.length + U'.length ≤ 100000 ∧ P' ++ V' ++ U' ++ Q' = P ++ V ++ U ++ Q := by
 intro t
 induction t using Nat.strongRecOn with
 | _ t ih =>
  intro P U V Q m N ht hU hV hm hs hN
  obtain ⟨N, rfl⟩ : ∃ M, N = M + 1 := ⟨N - 1, by omega⟩
  by_cases he : U.length = V.length
  ·refine ⟨P, U, V, Q, loop_r ?_, he, hm, by omega, rfl⟩
   show slices_rotateCmpFunc_int_tree_Kids_c1_l1 _ _ _ _ _ = _
   unfold slices_rotateCmpFunc_int_tree_Kids_c1_l1
   rw [he]; simp
  ·have hne : ((U.length : Int) != (V.length : Int)) = true := by simp; omega
   by_cases hlt : V.length < U.length
   ·have hb : slices_rotateCmpFunc_int_tree_Kids_c1_l1 (m : Int) l (P ++ U ++ V ++ Q) (U.length : Int) (V.length : Int) = some (.inl ((P ++ V) ++ U.drop V.length ++ U.take V.length ++ Q, ((U.drop V.length).length : Int), ((U.take V.length).length : Int))) := by
     unfold slices_rotateCmpFunc_int_tree_Kids_c1_l1
     rw [ite_t hne, ite_t (lt_d hlt)]
     have e : P ++ U ++ V ++ Q = P ++ U.take V.length ++ U.drop V.length ++ V ++ Q := by simp
     rw [e, swap_spec l P (U.take V.length) (U.drop V.length) V Q (by simp; omega) (by simp; omega) (wn (by omega) (by omega)) (by simp; omega) (by simp; omega), Option.bind_some]
     rw [wn (i := U.length - V.length) (by omega) (by omega)]
     simp [Nat.min_eq_left (Nat.le_of_lt hlt)]
    rw [loop_l hb]
    obtain ⟨P', U', V', Q', h1, h2, h3, h4, h5⟩ := ih (U.length) (by omega) (P ++ V) (U.drop V.length) (U.take V.length) Q m N (by simp; omega) (by simp; omega) (by simp; omega) (by simp; omega) (by simp; omega) (by omega)
    exact ⟨P', U', V', Q', h1, h2, h3, h4, by rw [h5]; simp⟩
   ·have hb : slices_rotateCmpFunc_int_tree_Kids_c1_l1 (m : Int) l (P ++ U ++ V ++ Q) (U.length : Int) (V.length : Int) = some (.inl (P ++ V.drop (V.length - U.length) ++ V.take (V.length - U.length) ++ (U ++ Q), ((V.drop (V.length - U.length)).length : Int), ((V.take (V.length - U.length)).length : Int))) := by
     unfold slices_rotateCmpFunc_int_tree_Kids_c1_l1
     rw [ite_t hne, ite_f (lt_n hlt)]
     have e : P ++ U ++ V ++ Q = P ++ U ++ V.take (V.length - U.length) ++ V.drop (V.length - U.length) ++ Q := by simp
     rw [e, wn (z := (m : Int) + (V.length : Int)) (i := m + V.length) (by omega) (by omega)]
     rw [swap_spec l P U (V.take (V.length - U.length)) (V.drop (V.length - U.length)) Q (by simp; omega) (by simp; omega) (wn (by omega) (by omega)) (by rw [wn (i := m + V.length - U.length) (by omega) (by omega)]; simp; omega) rfl, Option.bind_some]
     rw [wn (i := V.length - U.length) (by omega) (by omega)]
     have e3 : V.length - (V.length - U.length) = U.length := by omega
     simp [e3]
    rw [loop_l hb]
    obtain ⟨P', U', V', Q', h1, h2, h3, h4, h5⟩ := ih V.length (by omega) P (V.drop (V.length - U.length)) (V.take (V.length - U.length)) (U ++ Q) m N (by simp) (by simp; omega) (by simp; omega) (by simp; omega) (by omega) (by omega)
    exact ⟨P', U', V', Q', h1, h2, h3, h4, by rw [h5]; simp⟩
theorem rot_spec (l : List Span) (P U V Q : List Int) (hU : 0 < U.length) (hV : 0 < V.length) (hs : P.length + U.length + V.length ≤ 100000) {a m b : Int} (ha : a = (P.length : Int)) (hm : m = ((P.length + U.length : Nat) : Int)) (hb : b = ((P.length + U.length + V.length : Nat) : Int)) :
  slices_rotateCmpFunc_int_tree_Kids_c1 (P ++ U ++ V ++ Q) a m b l = some (P ++ V ++ U ++ Q) := by
 subst ha hm hb
 obtain ⟨P', U', V', Q', h1, h2, h3, h4, h5⟩ := rot_loop l (U.length + V.length) P U V Q (P.length + U.length) Fu rfl hU hV rfl (by omega) (by rw [fu_eq]; omega)
 unfold slices_rotateCmpFunc_int_tree_Kids_c1
 rw [wn (i := U.length) (by omega) (by omega), wn (i := V.length) (by omega) (by omega), h1, Option.bind_some]
 unfold slices_rotateCmpFunc_int_tree_Kids_c1_k0
 have := swap_spec l P' U' [] V' Q' h2 (by simp; omega) (a := IntKind.i64.wrap (((P.length + U.length : Nat) : Int) - (U'.length : Int))) (b := ((P.length + U.length : Nat) : Int)) (wn (by omega) (by omega)) (by simp; omega) rfl
 simp only [List.append_nil] at this
 rw [this, Option.bind_some, h5]
theorem half_nat {i j : Nat} (h : i + j ≤ 100000) : IntKind.i64.wrap (Int.fdiv (IntKind.u64.wrap (IntKind.i64.wrap ((i : Int) + (j : Int)))) (2 ^ (min (Int.toNat 1) (IntKind.bits .u64)))) = (((i + j) / 2 : Nat) : Int) := by
 rw [wn (z := (i : Int) + (j : Int)) (i := i + j) (by omega) (by omega), wu64 (by omega) (by omega)]
 have := shr_nat (i + j) 1 (by decide)
 rw [show Int.toNat 1 = Int.toNat ((1 : Nat) : Int) from rfl, this, wn (i := (i + j) / 2) (by simp) (by omega)]
theorem bs_loop {body : Int × Int → Option ((Int × Int) ⊕ Int)} (p : Nat → Bool) {lo hi : Nat}
  (hb : ∀ i j : Nat, lo ≤ i → i < j → j ≤ hi → body ((i : Int), (j : Int)) = some (.inl (if p ((i + j) / 2) = true then ((((i + j) / 2 + 1 : Nat) : Int), (j : Int)) else ((i : Int), (((i + j) / 2 : Nat) : Int)))))
  (he : ∀ i : Nat, lo ≤ i → i ≤ hi → body ((i : Int), (i : Int)) = some (.inr (i : Int))) (hmono : ∀ k k', lo ≤ k → k ≤ k' → k' < hi → p k' = true → p k = true) :
  ∀ (t i j N : Nat), j - i = t → lo ≤ i → i ≤ j → j ≤ hi → t < N → (∀ k, lo ≤ k → k < i → p k = true) → (∀ k, j ≤ k → k < hi → p k = false) →
   ∃ r : Nat, loopN body N ((i : Int), (j : Int)) = some (r : Int) ∧ lo ≤ r ∧ r ≤ hi ∧ (∀ k, lo ≤ k → k < r → p k = true) ∧ (∀ k, r ≤ k → k < hi → p k = false) := by
 intro t
 induction t using Nat.strongRecOn with
 | _ t ih =>
  intro i j N ht hi0 hij hj hN h1 h2
  obtain ⟨N, rfl⟩ : ∃ M, N = M + 1 := ⟨N - 1, by omega⟩
  by_cases e : i = j
  ·subst e
   exact ⟨i, loop_r (he i hi0 hj), hi0, hj, h1, h2⟩
  ·have hlt : i < j := by omega
   have hb' := hb i j hi0 hlt hj
   cases hp : p ((i + j) / 2) with
   | true =>
    rw [hp, if_pos rfl] at hb'
    rw [loop_l hb']
    exact ih (j - ((i + j) / 2 + 1)) (by omega) _ j N rfl (by omega) (by omega) hj (by omega) (fun k hk1 hk2 => hmono k ((i + j) / 2) hk1 (by omega) (by omega) hp) h2
   | false =>
    rw [hp, if_neg (by decide)] at hb'
    rw [loop_l hb']
    refine ih ((i + j) / 2 - i) (by omega) i _ N rfl hi0 (by omega) (by omega) (by omega) h1 (fun k hk1 hk2 => ?_)
    cases hq : p k with
    | false => rfl
    | true => rw [hmono ((i + j) / 2) k (by omega) hk1 hk2 hq] at hp; cases hp
theorem bs_spec {body : Int × Int → Option ((Int × Int) ⊕ Int)} (p : Nat → Bool) {lo hi : Nat} (hle : lo ≤ hi) (hhi : hi ≤ 100000)
  (hb : ∀ i j : Nat, lo ≤ i → i < j → j ≤ hi → body ((i : Int), (j : Int)) = some (.inl (if p ((i + j) / 2) = true then ((((i + j) / 2 + 1 : Nat) : Int), (j : Int)) else ((i : Int), (((i + j) / 2 : Nat) : Int)))))
  (he : ∀ i : Nat, lo ≤ i → i ≤ hi → body ((i : Int), (i : Int)) = some (.inr (i : Int))) (hmono : ∀ k k', lo ≤ k → k ≤ k' → k' < hi → p k' = true → p k = true) :
  ∃ r : Nat, loopN body Fu ((lo : Int), (hi : Int)) = some (r : Int) ∧ lo ≤ r ∧ r ≤ hi ∧ (∀ k, lo ≤ k → k < r → p k = true) ∧ (∀ k, r ≤ k → k < hi → p k = false) :=
 bs_loop p hb he hmono (hi - lo) lo hi Fu rfl (Nat.le_refl _) hle (Nat.le_refl _) (by rw [fu_eq]; omega) (fun k h1 h2 => by omega) (fun k h1 h2 => by omega)
end Go.Proofs.Ytmompdklolomfaa.Ab
namespace Go.Proofs.Ytmompdklolomfaa.Ab
open Go Go.RowKit
set_option linter.unusedVariables false
set_option linter.unusedSimpArgs false
def stOf (l : List Span) (x : Int) : Int := match l[x.toNat]? with | some s => s.Start | none => 0
def okP (l : List Span) (x : Int) : Prop := 0 ≤ x ∧ x.toNat < l.length
def ltP (l : List Span) (x y : Int) : Prop := stOf l x < stOf l y ∨ (stOf l x = stOf l y ∧ x < y)
theorem ltP_trans {l : List Span} {x y z : Int} (h : ltP l x y) (k : ltP l y z) : ltP l x z := by unfold ltP at *; omega
theorem ltP_irr {l : List Span} {x : Int} (h : ltP l x x) : False := by unfold ltP at h; omega
theorem ltP_tot {l : List Span} {x y : Int} (h : ¬ ltP l x y) (hne : x ≠ y) : ltP l y x := by unfold ltP at *; omega
theorem ok_get {l : List Span} {x : Int} (h : okP l x) : ∃ s, l[x.toNat]? = some s ∧ stOf l x = s.Start ∧ s ∈ l :=
 ⟨l[x.toNat]'h.2, List.getElem?_eq_getElem h.2, by simp [stOf, List.getElem?_eq_getElem h.2], List.getElem_mem h.2⟩
theorem cmpI_spec (a b : Int) : ∃ c, cmp_Compare_int a b = some c ∧ decide (c < 0) = decide (a < b) := by
 unfold cmp_Compare_int cmp_isNaN_int
 simp only [bne_self_eq_false, Option.bind_some, Bool.false_eq_true, if_false]
 by_cases h : a < b
 ·rw [ite_t (dec_t h)]; exact ⟨-1, rfl, by simp [h]⟩
 ·rw [ite_f (dec_f h)]
  by_cases k : b < a
  ·rw [ite_t (dec_t k)]; exact ⟨1, rfl, by simp [h]⟩
  ·rw [ite_f (dec_f k)]; exact ⟨0, rfl, by simp [h]⟩
theorem cmp_spec {l : List Span} {x y : Int} (hx : okP l x) (hy : okP l y) : ∃ c, tree_Kids_c1 x y l = some c ∧ decide (c < 0) = decide (stOf l x < stOf l y) := by
 obtain ⟨s, h1, h2, _⟩ := ok_get hx
 obtain ⟨t, h3, h4, _⟩ := ok_get hy
 obtain ⟨c, h5, h6⟩ := cmpI_spec s.Start t.Start
 refine ⟨c, ?_, by rw [h6, h2, h4]⟩
 unfold tree_Kids_c1
 rw [gd_pos hx.1, h1, Option.bind_some, gd_pos hy.1, h3, Option.bind_some, h5]; rfl
theorem wm {i : Nat} (h : i + 1 ≤ 1000000) : IntKind.i64.wrap (((i + 1 : Nat) : Int) - 1) = (i : Int) := wn (by omega) (by omega)
theorem wp1 {i : Nat} (h : i + 1 ≤ 1000000) : IntKind.i64.wrap ((i : Int) + 1) = ((i + 1 : Nat) : Int) := wn (by omega) (by omega)
theorem adj {A B : List Int} {y x : Int} {i : Nat} (h : i = A.length) : (A ++ y :: x :: B)[i]? = some y ∧ (A ++ y :: x :: B)[i + 1]? = some x ∧ ((A ++ y :: x :: B).set (i + 1) y).set i x = A ++ x :: y :: B ∧ ((A ++ y :: x :: B).set (i + 1) y)[i]? = some y ∧ ((A ++ y :: x :: B).set i x).set (i + 1) y = A ++ x :: y :: B ∧ ((A ++ y :: x :: B).set i x)[i + 1]? = some x := by
 subst h
 refine ⟨by simp, by simp, ?_, ?_, ?_, ?_⟩ <;> simp [List.set_append, List.getElem?_append]
theorem ins_inner (l : List Span) {a i : Nat} {x : Int} (hx : okP l x) (hi : i + 1 ≤ 1000000) : ∀ (n : Nat) (P P1 P2 : List Int) (N : Nat), P1.length = n → P.length = a → (∀ y ∈ P1, okP l y) → a + n ≤ 100000 → n < N →
  ∃ L1 L2, P1 = L1 ++ L2 ∧ loopN (fun (s : List Int × Int) => slices_insertionSortCmpFunc_int_tree_Kids_c1_l1 (a : Int) l (i : Int) s.1 s.2) N (P ++ P1 ++ x :: P2, ((a + n : Nat) : Int)) = some (.inl (P ++ L1 ++ x :: (L2 ++ P2), ((i + 1 : Nat) : Int))) ∧ (∀ y ∈ L2, stOf l x < stOf l y) ∧ ∀ A y, L1 = A ++ [y] → ¬ stOf l x < stOf l y := by
 intro n
 induction n with
 | zero =>
  intro P P1 P2 N h1 hP hok hs hN
  obtain ⟨N, rfl⟩ : ∃ M, N = M + 1 := ⟨N - 1, by omega⟩
  have : P1 = [] := List.eq_nil_of_length_eq_zero h1
  subst this
  refine ⟨[], [], rfl, loop_r ?_, by simp, fun A y h => by simp at h⟩
  show slices_insertionSortCmpFunc_int_tree_Kids_c1_l1 _ _ _ _ _ = _
  unfold slices_insertionSortCmpFunc_int_tree_Kids_c1_l1
  rw [ite_f (lt_n (by omega)), wp1 hi]
  simp
 | succ n ih =>
  intro P P1 P2 N h1 hP hok hs hN
  obtain ⟨N, rfl⟩ : ∃ M, N = M + 1 := ⟨N - 1, by omega⟩
  obtain ⟨A, y, rfl⟩ : ∃ A y, P1 = A ++ [y] := ⟨P1.dropLast, P1.getLast (by intro e; rw [e] at h1; cases h1), (List.dropLast_concat_getLast _).symm⟩
  have hA : A.length = n := by simpa using h1
  have hy : okP l y := hok y (by simp)
  obtain ⟨c, hc1, hc2⟩ := cmp_spec hx hy
  have hsplit : P ++ (A ++ [y]) ++ x :: P2 = (P ++ A) ++ y :: x :: P2 := by simp
  obtain ⟨d1, d2, d3, d4, _, _⟩ := adj (A := P ++ A) (B := P2) (y := y) (x := x) (i := a + n) (by simp; omega)
  have hbody : slices_insertionSortCmpFunc_int_tree_Kids_c1_l1 (a : Int) l (i : Int) (P ++ (A ++ [y]) ++ x :: P2) ((a + (n + 1) : Nat) : Int) = if stOf l x < stOf l y then some (.inl (P ++ A ++ x :: (y :: P2), ((a + n : Nat) : Int))) else some (.inr (.inl (P ++ (A ++ [y]) ++ x :: P2, ((i + 1 : Nat) : Int)))) := by
   unfold slices_insertionSortCmpFunc_int_tree_Kids_c1_l1
   have e1 : a + (n + 1) = (a + n) + 1 := by omega
   rw [hsplit, ite_t (lt_d (by omega)), e1, wm (by omega)]
   rw [gd_pos (by omega), Int.toNat_natCast, d2, Option.bind_some, gd_pos (by omega), Int.toNat_natCast, d1, Option.bind_some, hc1, Option.bind_some, hc2]
   by_cases h : stOf l x < stOf l y
   ·rw [ite_t (dec_t h), if_pos h]
    show slices_insertionSortCmpFunc_int_tree_Kids_c1_k2 _ _ = _
    unfold slices_insertionSortCmpFunc_int_tree_Kids_c1_k2
    rw [wm (by omega), gd_pos (by omega), Int.toNat_natCast, Int.toNat_natCast, d1, Option.bind_some, gd_pos (by omega), d2, Option.bind_some, gd_pos (by omega), Option.bind_some, gd_pos (by omega), d4, Option.bind_some, d3]
   ·rw [ite_f (dec_f h), if_neg h, wp1 hi]; rfl
  by_cases h : stOf l x < stOf l y
  ·rw [if_pos h] at hbody
   rw [loop_l hbody]
   obtain ⟨L1, L2, e1, e2, e3, e4⟩ := ih P A (y :: P2) N hA hP (fun z hz => hok z (by simp [hz])) (by omega) (by omega)
   refine ⟨L1, L2 ++ [y], by rw [e1, List.append_assoc], by rw [e2]; simp, fun z hz => ?_, e4⟩
   rcases List.mem_append.1 hz with hz | hz
   ·exact e3 z hz
   ·rw [List.mem_singleton.1 hz]; exact h
  ·rw [if_neg h] at hbody
   refine ⟨A ++ [y], [], by simp, by rw [loop_r hbody]; simp, by simp, fun B z e => ?_⟩
   have := List.append_inj_right' e (by simp)
   injection this with this
   subst this
   exact h
theorem ins_put {l : List Span} {L1 L2 : List Int} {x : Int} (hs : (L1 ++ L2).Pairwise (ltP l)) (hlt : ∀ y ∈ L1 ++ L2, y < x) (h2 : ∀ y ∈ L2, stOf l x < stOf l y) (h1 : ∀ A y, L1 = A ++ [y] → ¬ stOf l x < stOf l y) : (L1 ++ x :: L2).Pairwise (ltP l) := by
 rw [List.pairwise_append] at hs ⊢
 obtain ⟨s1, s2, s3⟩ := hs
 have hx2 : ∀ y ∈ L2, ltP l x y := fun y hy => .inl (h2 y hy)
 have hx1 : ∀ y ∈ L1, ltP l y x := by
  intro y hy
  obtain ⟨A, z, rfl⟩ : ∃ A z, L1 = A ++ [z] := ⟨L1.dropLast, L1.getLast (List.ne_nil_of_mem hy), (List.dropLast_concat_getLast _).symm⟩
  have hz : ltP l z x := by
   have := h1 A z rfl
   have h3 : z < x := hlt z (by simp)
   unfold ltP; omega
  rcases List.mem_append.1 hy with hy | hy
  ·rw [List.pairwise_append] at s1
   exact ltP_trans (s1.2.2 y hy z (by simp)) hz
  ·rw [List.mem_singleton.1 hy]; exact hz
 refine ⟨s1, List.pairwise_cons.2 ⟨hx2, s2⟩, fun y hy z hz => ?_⟩
 rcases List.mem_cons.1 hz with rfl | hz
 ·exact hx1 y hy
 ·exact s3 y hy z hz
theorem ins_loop (l : List Span) {a b : Nat} (Q : List Int) : ∀ (M2 P D M1 : List Int) (N : Nat), P.length = a → b = a + D.length + M2.length → (∀ y ∈ D, okP l y) → (∀ y ∈ M2, okP l y) → D.Perm M1 → D.Pairwise (ltP l) → (M1 ++ M2).Pairwise (· < ·) → b ≤ 100000 → M2.length < N →
  ∃ M, loopN (fun (s : List Int × Int) => slices_insertionSortCmpFunc_int_tree_Kids_c1_l0 (a : Int) (b : Int) l s.1 s.2) N (P ++ D ++ M2 ++ Q, ((a + D.length : Nat) : Int)) = some (P ++ M ++ Q) ∧ M.Perm (M1 ++ M2) ∧ M.Pairwise (ltP l)
 | [], P, D, M1, N, hP, hb, hok, _, hp, hs, hlt, hbn, hN => by
  obtain ⟨N, rfl⟩ : ∃ M, N = M + 1 := ⟨N - 1, by omega⟩
  refine ⟨D, loop_r ?_, by simpa using hp, hs⟩
  show slices_insertionSortCmpFunc_int_tree_Kids_c1_l0 _ _ _ _ _ = _
  unfold slices_insertionSortCmpFunc_int_tree_Kids_c1_l0
  rw [ite_f (lt_n (by simp at hb; omega))]
  simp
 | x :: M2, P, D, M1, N, hP, hb, hok, hok2, hp, hs, hlt, hbn, hN => by
  obtain ⟨N, rfl⟩ : ∃ M, N = M + 1 := ⟨N - 1, by omega⟩
  simp only [List.length_cons] at hb hN
  obtain ⟨L1, L2, e1, e2, e3, e4⟩ := ins_inner l (a := a) (i := a + D.length) (x := x) (hok2 x List.mem_cons_self) (by omega) D.length P D (M2 ++ Q) Fu rfl hP hok (by omega) (by rw [fu_eq]; omega)
  have hbody : slices_insertionSortCmpFunc_int_tree_Kids_c1_l0 (a : Int) (b : Int) l (P ++ D ++ x :: M2 ++ Q) ((a + D.length : Nat) : Int) = some (.inl (P ++ (L1 ++ x :: L2) ++ M2 ++ Q, ((a + (L1 ++ x :: L2).length : Nat) : Int))) := by
   unfold slices_insertionSortCmpFunc_int_tree_Kids_c1_l0
   rw [ite_t (lt_d (by omega)), show P ++ D ++ x :: M2 ++ Q = P ++ D ++ x :: (M2 ++ Q) by simp, e2]
   have hl : D.length = L1.length + L2.length := by rw [e1, List.length_append]
   simp [hl]; omega
  have hlx : ∀ y ∈ L1 ++ L2, y < x := fun y hy => by
   rw [List.pairwise_append] at hlt
   exact hlt.2.2 y (hp.mem_iff.1 (by rw [e1]; exact hy)) x List.mem_cons_self
  have hp2 : (L1 ++ x :: L2).Perm (M1 ++ [x]) := by
   have h1 : (L1 ++ x :: L2).Perm (x :: (L1 ++ L2)) := List.perm_middle
   have h2 : (x :: (L1 ++ L2)).Perm (x :: M1) := List.Perm.cons x (by rw [← e1]; exact hp)
   have h3 : (M1 ++ [x]).Perm (x :: M1) := by simpa only [List.append_nil] using (List.perm_middle (a := x) (l₁ := M1) (l₂ := []))
   exact (h1.trans h2).trans h3.symm
  obtain ⟨M, f1, f2, f3⟩ := ins_loop l Q M2 P (L1 ++ x :: L2) (M1 ++ [x]) N hP (by rw [hb, e1]; simp; omega) (fun y hy => by
   rcases List.mem_append.1 hy with hy | hy
   ·exact hok y (by rw [e1]; exact List.mem_append_left _ hy)
   ·rcases List.mem_cons.1 hy with rfl | hy
    ·exact hok2 _ List.mem_cons_self
    ·exact hok y (by rw [e1]; exact List.mem_append_right _ hy)) (fun y hy => hok2 y (List.mem_cons_of_mem _ hy)) hp2 (ins_put (by rw [← e1]; exact hs) hlx e3 e4) (by rw [List.append_assoc]; exact hlt) hbn (by omega)
  refine ⟨M, by rw [loop_l hbody]; exact f1, by rw [List.append_assoc] at f2; exact f2, f3⟩
theorem ins_spec (l : List Span) (P M Q : List Int) (hok : ∀ y ∈ M, okP l y) (hlt : M.Pairwise (· < ·)) (hs : P.length + M.length ≤ 10000) {a b : Int} (ha : a = (P.length : Int)) (hb : b = ((P.length + M.length : Nat) : Int)) :
  ∃ M', slices_insertionSortCmpFunc_int_tree_Kids_c1 (P ++ M ++ Q) a b l = some (P ++ M' ++ Q) ∧ M'.Perm M ∧ M'.Pairwise (ltP l) := by
 subst ha hb
 unfold slices_insertionSortCmpFunc_int_tree_Kids_c1
 rw [wp1 (by omega)]
 cases M with
 | nil =>
  refine ⟨[], ?_, List.Perm.refl _, List.Pairwise.nil⟩
  rw [fuPos]
  refine loop_r ?_
  show slices_insertionSortCmpFunc_int_tree_Kids_c1_l0 _ _ _ _ _ = _
  unfold slices_insertionSortCmpFunc_int_tree_Kids_c1_l0
  rw [ite_f (lt_n (by simp))]
 | cons x M =>
  obtain ⟨M', h1, h2, h3⟩ := ins_loop l (a := P.length) (b := P.length + (x :: M).length) Q M P [x] [x] Fu rfl (by simp; omega) (fun y hy => hok y (by rw [List.mem_singleton.1 hy]; exact List.mem_cons_self)) (fun y hy => hok y (List.mem_cons_of_mem _ hy)) (List.Perm.refl _) (by simp) (by simpa using hlt) (by omega) (by rw [fu_eq]; simp at hs; omega)
  refine ⟨M', ?_, by simpa using h2, h3⟩
  simp only [List.length_singleton, List.append_assoc, List.singleton_append] at h1 ⊢
  simpa using h1
end Go.Proofs.Ytmompdklolomfaa.Ab
namespace Go.Proofs.Ytmompdklolomfaa.Ab
open Go Go.RowKit
set_option linter.unusedVariables false
set_option linter.unusedSimpArgs false

/-- one moves to the right, over all of R -/
theorem bub_r : ∀ (R A B : List Int) (x : Int) (i k N : Nat), k = A.length → i = k + R.length + 1 → i ≤ 100000 → R.length < N →
    loopN (fun (s : List Int × Int) => slices_symMergeCmpFunc_int_tree_Kids_c1_b_l2 (i : Int) s.1 s.2) N (A ++ x :: (R ++ B), (k : Int)) = some (A ++ R ++ x :: B)
  | [], A, B, x, i, k, N, hk, hi, hl, hN => by
    obtain ⟨N, rfl⟩ : ∃ M, N = M + 1 := ⟨N - 1, by omega⟩
    refine loop_r ?_
    show slices_symMergeCmpFunc_int_tree_Kids_c1_b_l2 _ _ _ = _
    unfold slices_symMergeCmpFunc_int_tree_Kids_c1_b_l2
    simp only [List.length_nil] at hi
    have e : i = k + 1 := by omega
    subst e
    rw [wm (by omega), ite_f (lt_n (by omega))]
    simp
  | y :: R, A, B, x, i, k, N, hk, hi, hl, hN => by
    obtain ⟨N, rfl⟩ : ∃ M, N = M + 1 := ⟨N - 1, by omega⟩
    simp only [List.length_cons] at hi hN
    obtain ⟨d1, d2, _, _, d5, d6⟩ := adj (A := A) (B := R ++ B) (y := x) (x := y) (i := k) hk
    have hb : slices_symMergeCmpFunc_int_tree_Kids_c1_b_l2 (i : Int) (A ++ x :: (y :: R ++ B)) (k : Int) = some (.inl ((A ++ [y]) ++ x :: (R ++ B), ((k + 1 : Nat) : Int))) := by
      unfold slices_symMergeCmpFunc_int_tree_Kids_c1_b_l2
      rw [wn (z := (i : Int) - 1) (i := i - 1) (by omega) (by omega), ite_t (lt_d (by omega)), wp1 (by omega)]
      rw [List.cons_append, gd_pos (by omega), Int.toNat_natCast, d2, Option.bind_some, gd_pos (by omega), Int.toNat_natCast, d1, Option.bind_some, gd_pos (by omega), Option.bind_some, gd_pos (by omega), d6, Option.bind_some, d5]
      simp
    rw [loop_l hb, bub_r R (A ++ [y]) B x i (k + 1) N (by simp; omega) (by omega) hl (by omega)]
    simp
/-- one moves to the left, over all of R -/
theorem bub_l : ∀ (n : Nat) (R A B : List Int) (x : Int) (i k N : Nat), R.length = n → i = A.length → k = i + n → k ≤ 100000 → n < N →
    loopN (fun (s : List Int × Int) => slices_symMergeCmpFunc_int_tree_Kids_c1_b_l5 (i : Int) s.1 s.2) N (A ++ R ++ x :: B, (k : Int)) = some (A ++ x :: (R ++ B))
  | 0, R, A, B, x, i, k, N, hR, hi, hk, hl, hN => by
    obtain ⟨N, rfl⟩ : ∃ M, N = M + 1 := ⟨N - 1, by omega⟩
    have : R = [] := List.eq_nil_of_length_eq_zero hR
    subst this
    refine loop_r ?_
    show slices_symMergeCmpFunc_int_tree_Kids_c1_b_l5 _ _ _ = _
    unfold slices_symMergeCmpFunc_int_tree_Kids_c1_b_l5
    rw [ite_f (lt_n (by omega))]
    simp
  | n + 1, R, A, B, x, i, k, N, hR, hi, hk, hl, hN => by
    obtain ⟨N, rfl⟩ : ∃ M, N = M + 1 := ⟨N - 1, by omega⟩
    obtain ⟨R, y, rfl⟩ : ∃ A y, R = A ++ [y] := ⟨R.dropLast, R.getLast (by intro e; rw [e] at hR; cases hR), (List.dropLast_concat_getLast _).symm⟩
    have hR' : R.length = n := by simpa using hR
    obtain ⟨d1, d2, d3, d4, _, _⟩ := adj (A := A ++ R) (B := B) (y := y) (x := x) (i := i + n) (by simp; omega)
    have hb : slices_symMergeCmpFunc_int_tree_Kids_c1_b_l5 (i : Int) (A ++ (R ++ [y]) ++ x :: B) (k : Int) = some (.inl (A ++ R ++ x :: (y :: B), ((i + n : Nat) : Int))) := by
      unfold slices_symMergeCmpFunc_int_tree_Kids_c1_b_l5
      have e1 : k = (i + n) + 1 := by omega
      subst e1
      rw [ite_t (lt_d (by omega)), wm (by omega), show A ++ (R ++ [y]) ++ x :: B = (A ++ R) ++ y :: x :: B by simp]
      rw [gd_pos (by omega), Int.toNat_natCast, d1, Option.bind_some, gd_pos (by omega), Int.toNat_natCast, d2, Option.bind_some, gd_pos (by omega), Option.bind_some, gd_pos (by omega), d4, Option.bind_some, d3]
    rw [loop_l hb, bub_l n R A (y :: B) x i (i + n) N hR' hi rfl (by omega) (by omega)]
    simp

instance {l : List Span} {x y : Int} : Decidable (ltP l x y) := by unfold ltP; exact inferInstance
structure MrgOk (l : List Span) (L R : List Int) : Prop where
  ok : ∀ y ∈ L ++ R, okP l y
  sl : L.Pairwise (ltP l)
  sr : R.Pairwise (ltP l)
  lt : ∀ x ∈ L, ∀ y ∈ R, x < y
theorem MrgOk.dec {l : List Span} {L R : List Int} (h : MrgOk l L R) {x y : Int} (hx : x ∈ L) (hy : y ∈ R) : ∃ c, tree_Kids_c1 y x l = some c ∧ (decide (c < 0) = true ↔ ltP l y x) := by
  obtain ⟨c, h1, h2⟩ := cmp_spec (h.ok y (List.mem_append_right _ hy)) (h.ok x (List.mem_append_left _ hx))
  refine ⟨c, h1, ?_⟩
  rw [h2, decide_eq_true_iff]
  have := h.lt x hx y hy
  unfold ltP; omega
theorem pair_le {l : List Span} {M : List Int} (h : M.Pairwise (ltP l)) {i j : Nat} {x y : Int} (hi : M[i]? = some x) (hj : M[j]? = some y) (hij : i ≤ j) : x = y ∨ ltP l x y := by
  by_cases e : i = j
  · subst e; rw [hi] at hj; injection hj with hj; exact .inl hj
  · right
    obtain ⟨hi', rfl⟩ := List.getElem?_eq_some_iff.1 hi
    obtain ⟨hj', rfl⟩ := List.getElem?_eq_some_iff.1 hj
    exact List.pairwise_iff_getElem.1 h i j hi' hj' (by omega)

/-- a list in two, at a place -/
theorem take_mem {M : List Int} {n k : Nat} {x : Int} (h : k < n) (hx : M[k]? = some x) : x ∈ M.take n := by
  refine List.mem_of_getElem? (i := k) ?_
  rw [List.getElem?_take, if_pos h, hx]
theorem mem_take {M : List Int} {n : Nat} {x : Int} (h : x ∈ M.take n) : ∃ k, k < n ∧ M[k]? = some x := by
  obtain ⟨k, hk⟩ := List.getElem?_of_mem h
  rw [List.getElem?_take] at hk
  split at hk
  · exact ⟨k, ‹_›, hk⟩
  · cases hk
theorem mem_drop {M : List Int} {n : Nat} {x : Int} (h : x ∈ M.drop n) : ∃ k, n ≤ k ∧ M[k]? = some x := by
  obtain ⟨k, hk⟩ := List.getElem?_of_mem h
  rw [List.getElem?_drop] at hk
  exact ⟨n + k, by omega, hk⟩
/-- one is put into a sorted row -/
theorem sym_one_l (l : List Span) (K : List Int → Int → Int → Int → List Span → Option (List Int)) (P R Q : List Int) (x : Int) (h : MrgOk l [x] R) (hs : P.length + R.length ≤ 10000) :
    ∃ M, slices_symMergeCmpFunc_int_tree_Kids_c1_b K (P ++ [x] ++ R ++ Q) (P.length : Int) ((P.length + 1 : Nat) : Int) ((P.length + 1 + R.length : Nat) : Int) l = some (P ++ M ++ Q) ∧ M.Perm ([x] ++ R) ∧ M.Pairwise (ltP l) := by
  have hdat : ∀ k, k < R.length → ∃ y, y ∈ R ∧ R[k]? = some y ∧ (P ++ [x] ++ R ++ Q)[P.length + 1 + k]? = some y := by
    intro k hk
    refine ⟨R[k], List.getElem_mem hk, List.getElem?_eq_getElem hk, ?_⟩
    rw [List.append_assoc, List.getElem?_append_right (by simp), List.getElem?_append_left (by simp; omega)]
    simp [show P.length + 1 + k - (P.length + 1) = k by omega, hk]
  have hdx : (P ++ [x] ++ R ++ Q)[P.length]? = some x := by simp
  let p : Nat → Bool := fun k => match R[k - (P.length + 1)]? with | some y => decide (ltP l y x) | none => false
  have hp : ∀ k, P.length + 1 ≤ k → k < P.length + 1 + R.length → ∃ y c, y ∈ R ∧ R[k - (P.length + 1)]? = some y ∧ (P ++ [x] ++ R ++ Q)[k]? = some y ∧ tree_Kids_c1 y x l = some c ∧ decide (c < 0) = p k := by
    intro k h1 h2
    obtain ⟨y, h3, h4, h5⟩ := hdat (k - (P.length + 1)) (by omega)
    obtain ⟨c, h6, h7⟩ := h.dec (x := x) (y := y) (by simp) h3
    rw [show P.length + 1 + (k - (P.length + 1)) = k by omega] at h5
    refine ⟨y, c, h3, h4, h5, h6, ?_⟩
    simp only [p, h4]
    rw [Bool.eq_iff_iff, h7, decide_eq_true_iff]
  obtain ⟨r, b1, b2, b3, b4, b5⟩ := bs_spec (body := fun (s : Int × Int) => slices_symMergeCmpFunc_int_tree_Kids_c1_b_l1 (P ++ [x] ++ R ++ Q) (P.length : Int) l s.1 s.2) p (lo := P.length + 1) (hi := P.length + 1 + R.length) (by omega) (by omega)
    (fun i j hi hij hj => by
      obtain ⟨y, c, h1, h2, h3, h4, h5⟩ := hp ((i + j) / 2) (by omega) (by omega)
      show slices_symMergeCmpFunc_int_tree_Kids_c1_b_l1 _ _ _ _ _ = _
      unfold slices_symMergeCmpFunc_int_tree_Kids_c1_b_l1
      rw [ite_t (lt_d hij), half_nat (by omega), gd_pos (by omega), Int.toNat_natCast, h3, Option.bind_some, gd_pos (by omega), Int.toNat_natCast, hdx, Option.bind_some, h4, Option.bind_some, h5, wp1 (by omega)]
      cases p ((i + j) / 2) <;> rfl)
    (fun i _ _ => by
      show slices_symMergeCmpFunc_int_tree_Kids_c1_b_l1 _ _ _ _ _ = _
      unfold slices_symMergeCmpFunc_int_tree_Kids_c1_b_l1
      rw [ite_f (lt_n (by omega))])
    (fun k k' h1 h2 h3 h4 => by
      obtain ⟨y, c, _, g1, _⟩ := hp k h1 (by omega)
      obtain ⟨y', c', _, g2, _⟩ := hp k' (by omega) h3
      simp only [p, g1, g2, decide_eq_true_iff] at h4 ⊢
      rcases pair_le h.sr g1 g2 (by omega) with e | e
      · rw [e]; exact h4
      · exact ltP_trans e h4)
  have e1 : IntKind.i64.wrap (((P.length + 1 : Nat) : Int) - (P.length : Int)) = 1 := wn (i := 1) (by omega) (by omega)
  refine ⟨R.take (r - (P.length + 1)) ++ x :: R.drop (r - (P.length + 1)), ?_, ?_, ?_⟩
  · unfold slices_symMergeCmpFunc_int_tree_Kids_c1_b
    rw [e1, ite_t (show ((1 : Int) == 1) = true from rfl), b1, Option.bind_some]
    unfold slices_symMergeCmpFunc_int_tree_Kids_c1_b_k0
    have := bub_r (R.take (r - (P.length + 1))) P (R.drop (r - (P.length + 1)) ++ Q) x r P.length Fu rfl (by simp; omega) (by omega) (by rw [fu_eq]; simp; omega)
    rw [← List.append_assoc (R.take _), List.take_append_drop] at this
    rw [show P ++ [x] ++ R ++ Q = P ++ x :: (R ++ Q) by simp, this]
    simp
  · refine List.perm_middle.trans ?_
    rw [List.take_append_drop]; exact List.Perm.refl _
  · have hsr : (R.take (r - (P.length + 1)) ++ R.drop (r - (P.length + 1))).Pairwise (ltP l) := by rw [List.take_append_drop]; exact h.sr
    rw [List.pairwise_append] at hsr
    rw [List.pairwise_append]
    have hlo : ∀ y ∈ R.take (r - (P.length + 1)), ltP l y x := by
      intro y hy
      obtain ⟨k, hk, hy2⟩ := mem_take hy
      have := b4 (k + (P.length + 1)) (by omega) (by omega)
      simp only [p, show k + (P.length + 1) - (P.length + 1) = k by omega, hy2, decide_eq_true_iff] at this
      exact this
    have hhi : ∀ y ∈ R.drop (r - (P.length + 1)), ltP l x y := by
      intro y hy
      obtain ⟨k, hk, hy2⟩ := mem_drop hy
      have hkl := (List.getElem?_eq_some_iff.1 hy2).1
      have := b5 (k + (P.length + 1)) (by omega) (by omega)
      simp only [p, show k + (P.length + 1) - (P.length + 1) = k by omega, hy2, decide_eq_false_iff_not] at this
      refine ltP_tot this ?_
      have := h.lt x (by simp) y (List.mem_of_mem_drop hy)
      omega
    refine ⟨hsr.1, List.pairwise_cons.2 ⟨hhi, hsr.2.1⟩, fun y hy z hz => ?_⟩
    rcases List.mem_cons.1 hz with rfl | hz
    · exact hlo y hy
    · exact hsr.2.2 y hy z hz
theorem sym_one_r (l : List Span) (K : List Int → Int → Int → Int → List Span → Option (List Int)) (P L Q : List Int) (y : Int) (h : MrgOk l L [y]) (hL : L.length ≠ 1) (hs : P.length + L.length ≤ 10000) :
    ∃ M, slices_symMergeCmpFunc_int_tree_Kids_c1_b K (P ++ L ++ [y] ++ Q) (P.length : Int) ((P.length + L.length : Nat) : Int) ((P.length + L.length + 1 : Nat) : Int) l = some (P ++ M ++ Q) ∧ M.Perm (L ++ [y]) ∧ M.Pairwise (ltP l) := by
  have hdat : ∀ k, k < L.length → ∃ x, x ∈ L ∧ L[k]? = some x ∧ (P ++ L ++ [y] ++ Q)[P.length + k]? = some x := by
    intro k hk
    refine ⟨L[k], List.getElem_mem hk, List.getElem?_eq_getElem hk, ?_⟩
    rw [List.append_assoc, List.append_assoc, List.getElem?_append_right (by omega), List.getElem?_append_left (by omega)]
    simp [hk]
  have hdy : (P ++ L ++ [y] ++ Q)[P.length + L.length]? = some y := by
    rw [List.append_assoc, List.getElem?_append_right (by simp)]
    simp
  let p : Nat → Bool := fun k => match L[k - P.length]? with | some x => !decide (ltP l y x) | none => false
  have hp : ∀ k, P.length ≤ k → k < P.length + L.length → ∃ x c, x ∈ L ∧ L[k - P.length]? = some x ∧ (P ++ L ++ [y] ++ Q)[k]? = some x ∧ tree_Kids_c1 y x l = some c ∧ (!decide (c < 0)) = p k := by
    intro k h1 h2
    obtain ⟨x, h3, h4, h5⟩ := hdat (k - P.length) (by omega)
    obtain ⟨c, h6, h7⟩ := h.dec (x := x) (y := y) h3 (by simp)
    rw [show P.length + (k - P.length) = k by omega] at h5
    refine ⟨x, c, h3, h4, h5, h6, ?_⟩
    simp only [p, h4]
    congr 1
    rw [Bool.eq_iff_iff, h7, decide_eq_true_iff]
  obtain ⟨r, b1, b2, b3, b4, b5⟩ := bs_spec (body := fun (s : Int × Int) => slices_symMergeCmpFunc_int_tree_Kids_c1_b_l4 (P ++ L ++ [y] ++ Q) ((P.length + L.length : Nat) : Int) l s.1 s.2) p (lo := P.length) (hi := P.length + L.length) (by omega) (by omega)
    (fun i j hi hij hj => by
      obtain ⟨x, c, h1, h2, h3, h4, h5⟩ := hp ((i + j) / 2) (by omega) (by omega)
      show slices_symMergeCmpFunc_int_tree_Kids_c1_b_l4 _ _ _ _ _ = _
      unfold slices_symMergeCmpFunc_int_tree_Kids_c1_b_l4
      rw [ite_t (lt_d hij), half_nat (by omega), gd_pos (by omega), Int.toNat_natCast, hdy, Option.bind_some, gd_pos (by omega), Int.toNat_natCast, h3, Option.bind_some, h4, Option.bind_some, h5, wp1 (by omega)]
      cases p ((i + j) / 2) <;> rfl)
    (fun i _ _ => by
      show slices_symMergeCmpFunc_int_tree_Kids_c1_b_l4 _ _ _ _ _ = _
      unfold slices_symMergeCmpFunc_int_tree_Kids_c1_b_l4
      rw [ite_f (lt_n (by omega))])
    (fun k k' h1 h2 h3 h4 => by
      obtain ⟨x, c, _, g1, _⟩ := hp k h1 (by omega)
      obtain ⟨x', c', _, g2, _⟩ := hp k' (by omega) h3
      simp only [p, g1, g2, Bool.not_eq_true', decide_eq_false_iff_not] at h4 ⊢
      rcases pair_le h.sl g1 g2 (by omega) with e | e
      · rw [e]; exact h4
      · exact fun q => h4 (ltP_trans q e))
  have e1 : IntKind.i64.wrap (((P.length + L.length : Nat) : Int) - (P.length : Int)) = (L.length : Int) := wn (by omega) (by omega)
  have e2 : IntKind.i64.wrap (((P.length + L.length + 1 : Nat) : Int) - ((P.length + L.length : Nat) : Int)) = 1 := wn (i := 1) (by omega) (by omega)
  have e3 : ((L.length : Int) == 1) = false := by simp; omega
  refine ⟨L.take (r - P.length) ++ y :: L.drop (r - P.length), ?_, ?_, ?_⟩
  · unfold slices_symMergeCmpFunc_int_tree_Kids_c1_b
    rw [e1, ite_f e3, e2, ite_t (show ((1 : Int) == 1) = true from rfl), b1, Option.bind_some]
    unfold slices_symMergeCmpFunc_int_tree_Kids_c1_b_k3
    have := bub_l (L.drop (r - P.length)).length (L.drop (r - P.length)) (P ++ L.take (r - P.length)) Q y r (P.length + L.length) Fu rfl (by simp; omega) (by simp; omega) (by omega) (by rw [fu_eq]; simp; omega)
    rw [List.append_assoc P, List.take_append_drop] at this
    rw [show P ++ L ++ [y] ++ Q = P ++ L ++ y :: Q by simp, this]
    simp
  · refine List.perm_middle.trans ?_
    rw [List.take_append_drop]
    simpa using (List.perm_middle (a := y) (l₁ := L) (l₂ := [])).symm
  · have hsl : (L.take (r - P.length) ++ L.drop (r - P.length)).Pairwise (ltP l) := by rw [List.take_append_drop]; exact h.sl
    rw [List.pairwise_append] at hsl
    rw [List.pairwise_append]
    have hlo : ∀ x ∈ L.take (r - P.length), ltP l x y := by
      intro x hx
      obtain ⟨k, hk, hx2⟩ := mem_take hx
      have hkl := (List.getElem?_eq_some_iff.1 hx2).1
      have := b4 (k + P.length) (by omega) (by omega)
      simp only [p, show k + P.length - P.length = k by omega, hx2, Bool.not_eq_true', decide_eq_false_iff_not] at this
      refine ltP_tot this ?_
      have := h.lt x (List.mem_of_mem_take hx) y (by simp)
      omega
    have hhi : ∀ x ∈ L.drop (r - P.length), ltP l y x := by
      intro x hx
      obtain ⟨k, hk, hx2⟩ := mem_drop hx
      have hkl := (List.getElem?_eq_some_iff.1 hx2).1
      have := b5 (k + P.length) (by omega) (by omega)
      simp only [p, show k + P.length - P.length = k by omega, hx2, Bool.not_eq_false', decide_eq_true_iff] at this
      exact this
    refine ⟨hsl.1, List.pairwise_cons.2 ⟨hhi, hsl.2.1⟩, fun a ha z hz => ?_⟩
    rcases List.mem_cons.1 hz with rfl | hz
    · exact hlo a ha
    · exact hsl.2.2 a ha z hz
/-- the middle: where the two rows are cut -/
theorem sym_cut (l : List Span) (P L R Q : List Int) (h : MrgOk l L R) (hL : 2 ≤ L.length) (hR : 2 ≤ R.length) (hs : P.length + L.length + R.length ≤ 10000) {mid s0 r0 : Nat} (hmid : mid = (P.length + (P.length + L.length + R.length)) / 2)
    (h0 : if mid < P.length + L.length then s0 + (P.length + L.length + R.length) = mid + (P.length + L.length) ∧ r0 = mid else s0 = P.length ∧ r0 = P.length + L.length) :
    ∃ s : Nat, loopN (fun (q : Int × Int) => slices_symMergeCmpFunc_int_tree_Kids_c1_b_l8 (P ++ L ++ R ++ Q) (P.length : Int) ((P.length + L.length : Nat) : Int) ((P.length + L.length + R.length : Nat) : Int) l q.1 q.2) Fu ((s0 : Int), (r0 : Int)) = some (s : Int) ∧
      P.length ≤ s ∧ s ≤ P.length + L.length ∧ s ≤ mid ∧ mid + (P.length + L.length) - s ≤ P.length + L.length + R.length ∧
      (∀ x ∈ L.take (s - P.length), ∀ y ∈ R.drop (mid - s), ltP l x y) ∧ (∀ y ∈ R.take (mid - s), ∀ x ∈ L.drop (s - P.length), ltP l y x) := by
  have hlen : (P ++ L ++ R ++ Q).length = P.length + L.length + R.length + Q.length := by simp; omega
  have hrng : P.length ≤ s0 ∧ r0 ≤ P.length + L.length ∧ r0 ≤ mid ∧ mid + (P.length + L.length) - s0 ≤ P.length + L.length + R.length ∧ s0 ≤ r0 := by split at h0 <;> omega
  have hdl : ∀ c, P.length ≤ c → c < P.length + L.length → ∃ x, x ∈ L ∧ L[c - P.length]? = some x ∧ (P ++ L ++ R ++ Q)[c]? = some x := by
    intro c h1 h2
    refine ⟨L[c - P.length]'(by omega), List.getElem_mem _, List.getElem?_eq_getElem _, ?_⟩
    rw [List.append_assoc, List.append_assoc, List.getElem?_append_right (by omega), List.getElem?_append_left (by omega)]
    exact List.getElem?_eq_getElem _
  have hdr : ∀ c, P.length + L.length ≤ c → c < P.length + L.length + R.length → ∃ y, y ∈ R ∧ R[c - (P.length + L.length)]? = some y ∧ (P ++ L ++ R ++ Q)[c]? = some y := by
    intro c h1 h2
    refine ⟨R[c - (P.length + L.length)]'(by omega), List.getElem_mem _, List.getElem?_eq_getElem _, ?_⟩
    rw [List.append_assoc, List.getElem?_append_right (by simp; omega), List.getElem?_append_left (by simp; omega)]
    simp only [List.length_append]
    exact List.getElem?_eq_getElem _
  -- what is compared with what
  let xi : Nat → Nat := fun c => c - P.length
  let yi : Nat → Nat := fun c => mid + (P.length + L.length) - 1 - c - (P.length + L.length)
  let p : Nat → Bool := fun c => match L[xi c]?, R[yi c]? with | some x, some y => !decide (ltP l y x) | _, _ => false
  have hp : ∀ c, s0 ≤ c → c < r0 → ∃ x y q, x ∈ L ∧ y ∈ R ∧ L[xi c]? = some x ∧ R[yi c]? = some y ∧ (P ++ L ++ R ++ Q)[c]? = some x ∧ (P ++ L ++ R ++ Q)[mid + (P.length + L.length) - 1 - c]? = some y ∧ tree_Kids_c1 y x l = some q ∧ (!decide (q < 0)) = p c := by
    intro c h1 h2
    obtain ⟨x, g1, g2, g3⟩ := hdl c (by omega) (by omega)
    obtain ⟨y, k1, k2, k3⟩ := hdr (mid + (P.length + L.length) - 1 - c) (by omega) (by omega)
    obtain ⟨q, q1, q2⟩ := h.dec g1 k1
    refine ⟨x, y, q, g1, k1, g2, k2, g3, k3, q1, ?_⟩
    simp only [p, xi, yi, g2, k2]
    congr 1
    rw [Bool.eq_iff_iff, q2, decide_eq_true_iff]
  have hm1 : IntKind.i64.wrap ((mid : Int) + ((P.length + L.length : Nat) : Int)) = ((mid + (P.length + L.length) : Nat) : Int) := wn (by omega) (by omega)
  have hhalf : IntKind.i64.wrap (Int.fdiv (IntKind.u64.wrap (IntKind.i64.wrap ((P.length : Int) + ((P.length + L.length + R.length : Nat) : Int)))) (2 ^ (min (Int.toNat 1) (IntKind.bits .u64)))) = (mid : Int) := by rw [half_nat (by omega), hmid]
  have hm2 : IntKind.i64.wrap (((mid + (P.length + L.length) : Nat) : Int) - 1) = ((mid + (P.length + L.length) - 1 : Nat) : Int) := wn (by omega) (by omega)
  obtain ⟨s, b1, b2, b3, b4, b5⟩ := bs_spec (body := fun (q : Int × Int) => slices_symMergeCmpFunc_int_tree_Kids_c1_b_l8 (P ++ L ++ R ++ Q) (P.length : Int) ((P.length + L.length : Nat) : Int) ((P.length + L.length + R.length : Nat) : Int) l q.1 q.2) p (lo := s0) (hi := r0) (by omega) (by omega)
    (fun i j hi hij hj => by
      obtain ⟨x, y, q, _, _, _, _, g3, g4, g5, g6⟩ := hp ((i + j) / 2) (by omega) (by omega)
      show slices_symMergeCmpFunc_int_tree_Kids_c1_b_l8 _ _ _ _ _ _ _ = _
      unfold slices_symMergeCmpFunc_int_tree_Kids_c1_b_l8
      have hm3 : IntKind.i64.wrap (((mid + (P.length + L.length) - 1 : Nat) : Int) - (((i + j) / 2 : Nat) : Int)) = ((mid + (P.length + L.length) - 1 - (i + j) / 2 : Nat) : Int) := wn (by omega) (by omega)
      rw [ite_t (lt_d hij), half_nat (i := i) (j := j) (by omega), hhalf, hm1, hm2, hm3, gd_pos (by omega), Int.toNat_natCast, g4, Option.bind_some, gd_pos (by omega), Int.toNat_natCast, g3, Option.bind_some, g5, Option.bind_some, g6, wp1 (by omega)]
      cases p ((i + j) / 2) <;> rfl)
    (fun i _ _ => by
      show slices_symMergeCmpFunc_int_tree_Kids_c1_b_l8 _ _ _ _ _ _ _ = _
      unfold slices_symMergeCmpFunc_int_tree_Kids_c1_b_l8
      rw [ite_f (lt_n (by omega))])
    (fun k k' h1 h2 h3 h4 => by
      obtain ⟨x, y, q, _, _, g1, g2, _⟩ := hp k h1 (by omega)
      obtain ⟨x', y', q', _, _, g1', g2', _⟩ := hp k' (by omega) h3
      simp only [p, g1, g2, g1', g2', Bool.not_eq_true', decide_eq_false_iff_not] at h4 ⊢
      intro hc
      refine h4 ?_
      have hy : y' = y ∨ ltP l y' y := pair_le h.sr g2' g2 (by simp only [yi]; omega)
      have hx : x = x' ∨ ltP l x x' := pair_le h.sl g1 g1' (by simp only [xi]; omega)
      have hyx : ltP l y' x := by rcases hy with e | e; · rw [e]; exact hc
                                  · exact ltP_trans e hc
      rcases hx with e | e
      · rw [← e]; exact hyx
      · exact ltP_trans hyx e)
  refine ⟨s, b1, by omega, by omega, by omega, by omega, ?_, ?_⟩
  · intro x hx y hy
    obtain ⟨i, hi, hx2⟩ := mem_take hx
    obtain ⟨j, hj, hy2⟩ := mem_drop hy
    have hil := (List.getElem?_eq_some_iff.1 hx2).1
    have hjl := (List.getElem?_eq_some_iff.1 hy2).1
    have hs0 : s0 < s := by
      rcases Nat.lt_or_ge s0 s with h | h
      · exact h
      · exfalso; split at h0 <;> omega
    obtain ⟨x', y', q, m1, m2, g1, g2, _⟩ := hp (s - 1) (by omega) (by omega)
    have hb := b4 (s - 1) (by omega) (by omega)
    simp only [p, g1, g2, Bool.not_eq_true', decide_eq_false_iff_not] at hb
    have h1 : ltP l x' y' := ltP_tot hb (by have := h.lt x' m1 y' m2; omega)
    have hx' : x = x' ∨ ltP l x x' := pair_le h.sl hx2 g1 (by simp only [xi]; omega)
    have hy' : y' = y ∨ ltP l y' y := pair_le h.sr g2 hy2 (by simp only [yi]; omega)
    have h2 : ltP l x y' := by rcases hx' with e | e; · rw [e]; exact h1
                               · exact ltP_trans e h1
    rcases hy' with e | e
    · rw [← e]; exact h2
    · exact ltP_trans h2 e
  · intro y hy x hx
    obtain ⟨i, hi, hy2⟩ := mem_take hy
    obtain ⟨j, hj, hx2⟩ := mem_drop hx
    have hil := (List.getElem?_eq_some_iff.1 hy2).1
    have hjl := (List.getElem?_eq_some_iff.1 hx2).1
    have hs0 : s < r0 := by
      rcases Nat.lt_or_ge s r0 with h | h
      · exact h
      · exfalso; split at h0 <;> omega
    obtain ⟨x', y', q, m1, m2, g1, g2, _⟩ := hp s (by omega) hs0
    have hb := b5 s (by omega) hs0
    simp only [p, g1, g2, Bool.not_eq_false', decide_eq_true_iff] at hb
    have hx' : x' = x ∨ ltP l x' x := pair_le h.sl g1 hx2 (by simp only [xi]; omega)
    have hy' : y = y' ∨ ltP l y y' := pair_le h.sr hy2 g2 (by simp only [yi]; omega)
    have h2 : ltP l y x' := by rcases hy' with e | e; · rw [e]; exact hb
                               · exact ltP_trans e hb
    rcases hx' with e | e
    · rw [← e]; exact h2
    · exact ltP_trans h2 e
end Go.Proofs.Ytmompdklolomfaa.Ab
