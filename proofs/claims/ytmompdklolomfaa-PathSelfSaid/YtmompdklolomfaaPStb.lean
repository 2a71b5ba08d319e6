/- The stable sort, told plainly: what it comes to is in order. -/
import Derived.Test.YtmompdklolomfaaPSym
namespace Go.Proofs.Ytmompdklolomfaa.Ab
open Go Go.RowKit
set_option linter.unusedVariables false
set_option linter.unusedSimpArgs false
theorem dec_pair {a b c d : Nat} : (if decide ((a : Int) < (b : Int)) = true then some (decide ((c : Int) < (d : Int))) else some false) = some (decide (a < b ∧ c < d)) := by
 by_cases h : a < b
 ·rw [ite_t (lt_d h)]
  congr 1
  rw [decide_eq_decide]; omega
 ·rw [ite_f (lt_n h)]
  congr 1
  symm; rw [decide_eq_false_iff_not]; omega
theorem sorted_two {l : List Span} {A B : List Int} (ha : A.Pairwise (ltP l)) (hb : B.Pairwise (ltP l)) (h : ∀ x ∈ A, ∀ y ∈ B, ltP l x y) : (A ++ B).Pairwise (ltP l) := List.pairwise_append.2 ⟨ha, hb, h⟩
theorem sym_spec (l : List Span) : ∀ (N : Nat) (P L R Q : List Int), MrgOk l L R → 0 < L.length → 0 < R.length → P.length + L.length + R.length ≤ 10000 → L.length + R.length < N →
  ∃ M, slices_symMergeCmpFunc_int_tree_Kids_c1N N (P ++ L ++ R ++ Q) (P.length : Int) ((P.length + L.length : Nat) : Int) ((P.length + L.length + R.length : Nat) : Int) l = some (P ++ M ++ Q) ∧ M.Perm (L ++ R) ∧ M.Pairwise (ltP l)
 | 0, P, L, R, Q, h, hL, hR, hs, hN => by omega
 | N + 1, P, L, R, Q, h, hL, hR, hs, hN => by
  show ∃ M, slices_symMergeCmpFunc_int_tree_Kids_c1_b (slices_symMergeCmpFunc_int_tree_Kids_c1N N) _ _ _ _ _ = _ ∧ _
  by_cases h1 : L.length = 1
  ·obtain ⟨x, rfl⟩ := List.length_eq_one_iff.1 h1
   exact sym_one_l l _ P R Q x h (by simp at hs; omega)
  by_cases h2 : R.length = 1
  ·obtain ⟨y, rfl⟩ := List.length_eq_one_iff.1 h2
   exact sym_one_r l _ P L Q y h h1 (by omega)
  generalize hmid : (P.length + (P.length + L.length + R.length)) / 2 = mid
  have hhalf : IntKind.i64.wrap (Int.fdiv (IntKind.u64.wrap (IntKind.i64.wrap ((P.length : Int) + ((P.length + L.length + R.length : Nat) : Int)))) (2 ^ (min (Int.toNat 1) (IntKind.bits .u64)))) = (mid : Int) := by rw [half_nat (by omega), hmid]
  have hm1 : IntKind.i64.wrap ((mid : Int) + ((P.length + L.length : Nat) : Int)) = ((mid + (P.length + L.length) : Nat) : Int) := wn (by omega) (by omega)
  have e1 : IntKind.i64.wrap (((P.length + L.length : Nat) : Int) - (P.length : Int)) = (L.length : Int) := wn (by omega) (by omega)
  have e2 : IntKind.i64.wrap (((P.length + L.length + R.length : Nat) : Int) - ((P.length + L.length : Nat) : Int)) = (R.length : Int) := wn (by omega) (by omega)
  obtain ⟨s0, r0, hsr, hq⟩ : ∃ s0 r0 : Nat, (if mid < P.length + L.length then s0 + (P.length + L.length + R.length) = mid + (P.length + L.length) ∧ r0 = mid else s0 = P.length ∧ r0 = P.length + L.length) ∧
    (if decide ((mid : Int) < ((P.length + L.length : Nat) : Int)) = true then (some ((IntKind.i64.wrap (((mid + (P.length + L.length) : Nat) : Int) - ((P.length + L.length + R.length : Nat) : Int))), (mid : Int)) : Option (Int × Int)) else some ((P.length : Int), ((P.length + L.length : Nat) : Int))) = some ((s0 : Int), (r0 : Int)) := by
   by_cases hc : mid < P.length + L.length
   ·refine ⟨mid + (P.length + L.length) - (P.length + L.length + R.length), mid, by rw [if_pos hc]; omega, ?_⟩
    rw [ite_t (lt_d hc), wn (i := mid + (P.length + L.length) - (P.length + L.length + R.length)) (by omega) (by omega)]
   ·exact ⟨P.length, P.length + L.length, by rw [if_neg hc]; omega, by rw [ite_f (lt_n hc)]⟩
  obtain ⟨s, c1, c2, c3, c4, c5, c6, c7⟩ := sym_cut l P L R Q h (by omega) (by omega) hs hmid.symm hsr
  generalize hL1 : L.take (s - P.length) = L1 at c6
  generalize hL2 : L.drop (s - P.length) = L2 at c7
  generalize hR1 : R.take (mid - s) = R1 at c7
  generalize hR2 : R.drop (mid - s) = R2 at c6
  have hLe : L = L1 ++ L2 := by rw [← hL1, ← hL2, List.take_append_drop]
  have hRe : R = R1 ++ R2 := by rw [← hR1, ← hR2, List.take_append_drop]
  have l1 : L1.length = s - P.length := by rw [← hL1, List.length_take]; omega
  have l2 : L2.length = P.length + L.length - s := by rw [← hL2, List.length_drop]; omega
  have l3 : R1.length = mid - s := by rw [← hR1, List.length_take]; omega
  have l4 : R2.length = R.length - (mid - s) := by rw [← hR2, List.length_drop]
  have hend : IntKind.i64.wrap (((mid + (P.length + L.length) : Nat) : Int) - (s : Int)) = ((mid + (P.length + L.length) - s : Nat) : Int) := wn (by omega) (by omega)
  have hrot : slices_symMergeCmpFunc_int_tree_Kids_c1_b_k10 (P ++ L ++ R ++ Q) (P.length : Int) ((P.length + L.length : Nat) : Int) ((P.length + L.length + R.length : Nat) : Int) l (s : Int) (decide (s < P.length + L.length ∧ P.length + L.length < mid + (P.length + L.length) - s)) = some (P ++ L1 ++ R1 ++ L2 ++ R2 ++ Q) := by
   unfold slices_symMergeCmpFunc_int_tree_Kids_c1_b_k10
   by_cases hc : s < P.length + L.length ∧ P.length + L.length < mid + (P.length + L.length) - s
   ·rw [ite_t (dec_t hc), hhalf, hm1, hend]
    have := rot_spec l (P ++ L1) L2 R1 (R2 ++ Q) (by omega) (by omega) (by simp; omega) (a := (s : Int)) (m := ((P.length + L.length : Nat) : Int)) (b := ((mid + (P.length + L.length) - s : Nat) : Int)) (by simp; omega) (by simp; omega) (by simp; omega)
    rw [show P ++ L ++ R ++ Q = P ++ L1 ++ L2 ++ R1 ++ (R2 ++ Q) by rw [hLe, hRe]; simp, this]
    simp
   ·rw [ite_f (dec_f hc)]
    have : L2 = [] ∨ R1 = [] := by
     rcases Classical.em (s < P.length + L.length) with h5 | h5
     ·right; exact List.eq_nil_of_length_eq_zero (by omega)
     ·left; exact List.eq_nil_of_length_eq_zero (by omega)
    rcases this with e | e
    ·rw [hLe, hRe, e]; simp
    ·rw [hLe, hRe, e]; simp
  have ok1 : MrgOk l L1 R1 := ⟨fun y hy => h.ok y (by rw [hLe, hRe]; simp at hy ⊢; rcases hy with hy | hy <;> simp [hy]), by have := h.sl; rw [hLe, List.pairwise_append] at this; exact this.1, by have := h.sr; rw [hRe, List.pairwise_append] at this; exact this.1, fun x hx y hy => h.lt x (by rw [hLe]; simp [hx]) y (by rw [hRe]; simp [hy])⟩
  have ok2 : MrgOk l L2 R2 := ⟨fun y hy => h.ok y (by rw [hLe, hRe]; simp at hy ⊢; rcases hy with hy | hy <;> simp [hy]), by have := h.sl; rw [hLe, List.pairwise_append] at this; exact this.2.1, by have := h.sr; rw [hRe, List.pairwise_append] at this; exact this.2.1, fun x hx y hy => h.lt x (by rw [hLe]; simp [hx]) y (by rw [hRe]; simp [hy])⟩
  obtain ⟨M1, m1, m2, m3⟩ : ∃ M1, slices_symMergeCmpFunc_int_tree_Kids_c1_b_k12 (slices_symMergeCmpFunc_int_tree_Kids_c1N N) (P.length : Int) ((P.length + L.length + R.length : Nat) : Int) l (s : Int) (P ++ L1 ++ R1 ++ L2 ++ R2 ++ Q) (decide (P.length < s ∧ s < mid)) = some (P ++ M1 ++ L2 ++ R2 ++ Q) ∧ M1.Perm (L1 ++ R1) ∧ M1.Pairwise (ltP l) := by
   unfold slices_symMergeCmpFunc_int_tree_Kids_c1_b_k12
   by_cases hc : P.length < s ∧ s < mid
   ·obtain ⟨M, k1, k2, k3⟩ := sym_spec l N P L1 R1 (L2 ++ R2 ++ Q) ok1 (by omega) (by omega) (by omega) (by omega)
    refine ⟨M, ?_, k2, k3⟩
    rw [ite_t (dec_t hc), hhalf]
    rw [show P.length + L1.length = s by omega, show s + R1.length = mid by omega] at k1
    rw [show P ++ L1 ++ R1 ++ L2 ++ R2 ++ Q = P ++ L1 ++ R1 ++ (L2 ++ R2 ++ Q) by simp, k1]
    simp
   ·refine ⟨L1 ++ R1, ?_, List.Perm.refl _, ?_⟩
    ·rw [ite_f (dec_f hc)]; simp
    ·have : L1 = [] ∨ R1 = [] := by
      rcases Classical.em (P.length < s) with h5 | h5
      ·right; exact List.eq_nil_of_length_eq_zero (by omega)
      ·left; exact List.eq_nil_of_length_eq_zero (by omega)
     rcases this with e | e
     ·rw [e]; exact ok1.sr
     ·rw [e, List.append_nil]; exact ok1.sl
  have lm1 : M1.length = mid - P.length := by rw [m2.length_eq, List.length_append]; omega
  obtain ⟨M2, n1, n2, n3⟩ : ∃ M2, slices_symMergeCmpFunc_int_tree_Kids_c1_b_k13 (slices_symMergeCmpFunc_int_tree_Kids_c1N N) (P.length : Int) ((P.length + L.length : Nat) : Int) ((P.length + L.length + R.length : Nat) : Int) l (s : Int) (P ++ M1 ++ L2 ++ R2 ++ Q) (decide (mid < mid + (P.length + L.length) - s ∧ mid + (P.length + L.length) - s < P.length + L.length + R.length)) = some (P ++ M1 ++ M2 ++ Q) ∧ M2.Perm (L2 ++ R2) ∧ M2.Pairwise (ltP l) := by
   unfold slices_symMergeCmpFunc_int_tree_Kids_c1_b_k13
   by_cases hc : mid < mid + (P.length + L.length) - s ∧ mid + (P.length + L.length) - s < P.length + L.length + R.length
   ·obtain ⟨M, k1, k2, k3⟩ := sym_spec l N (P ++ M1) L2 R2 Q ok2 (by omega) (by omega) (by simp; omega) (by omega)
    refine ⟨M, ?_, k2, k3⟩
    rw [ite_t (dec_t hc), hhalf, hm1, hend]
    rw [show (P ++ M1).length = mid by simp; omega, show mid + L2.length = mid + (P.length + L.length) - s by omega, show mid + (P.length + L.length) - s + R2.length = P.length + L.length + R.length by omega] at k1
    rw [k1]; rfl
   ·refine ⟨L2 ++ R2, ?_, List.Perm.refl _, ?_⟩
    ·rw [ite_f (dec_f hc)]; simp
    ·have : L2 = [] ∨ R2 = [] := by
      rcases Classical.em (mid < mid + (P.length + L.length) - s) with h5 | h5
      ·right; exact List.eq_nil_of_length_eq_zero (by omega)
      ·left; exact List.eq_nil_of_length_eq_zero (by omega)
     rcases this with e | e
     ·rw [e]; exact ok2.sr
     ·rw [e, List.append_nil]; exact ok2.sl
  refine ⟨M1 ++ M2, ?_, ?_, ?_⟩
  ·unfold slices_symMergeCmpFunc_int_tree_Kids_c1_b
   rw [e1, ite_f (by simp; omega), e2, ite_f (by simp; omega), hhalf, hm1, hq, Option.bind_some]
   unfold slices_symMergeCmpFunc_int_tree_Kids_c1_b_k6
   rw [c1, Option.bind_some]
   unfold slices_symMergeCmpFunc_int_tree_Kids_c1_b_k7
   rw [hhalf, hm1, hend, dec_pair, Option.bind_some, hrot, Option.bind_some]
   unfold slices_symMergeCmpFunc_int_tree_Kids_c1_b_k9
   rw [hhalf, dec_pair, Option.bind_some, m1, Option.bind_some]
   unfold slices_symMergeCmpFunc_int_tree_Kids_c1_b_k11
   rw [hhalf, hm1, hend, dec_pair, Option.bind_some, n1]
   simp
  ·refine (m2.append n2).trans ?_
   rw [hLe, hRe]
   simp only [List.append_assoc]
   refine List.Perm.append_left L1 ?_
   rw [← List.append_assoc, ← List.append_assoc]
   exact List.Perm.append_right R2 List.perm_append_comm
  ·refine sorted_two m3 n3 fun x hx y hy => ?_
   have hx' := m2.mem_iff.1 hx
   have hy' := n2.mem_iff.1 hy
   rcases List.mem_append.1 hx' with hx' | hx' <;> rcases List.mem_append.1 hy' with hy' | hy'
   ·have := h.sl; rw [hLe, List.pairwise_append] at this; exact this.2.2 x hx' y hy'
   ·exact c6 x hx' y hy'
   ·exact c7 x hx' y hy'
   ·have := h.sr; rw [hRe, List.pairwise_append] at this; exact this.2.2 x hx' y hy'
theorem symF (l : List Span) (P L R Q : List Int) (h : MrgOk l L R) (hL : 0 < L.length) (hR : 0 < R.length) (hs : P.length + L.length + R.length ≤ 10000) {a m b : Int} (ha : a = (P.length : Int)) (hm : m = ((P.length + L.length : Nat) : Int)) (hb : b = ((P.length + L.length + R.length : Nat) : Int)) :
  ∃ M, slices_symMergeCmpFunc_int_tree_Kids_c1 (P ++ L ++ R ++ Q) a m b l = some (P ++ M ++ Q) ∧ M.Perm (L ++ R) ∧ M.Pairwise (ltP l) := by
 subst ha hm hb
 exact sym_spec l Fu P L R Q h hL hR hs (by rw [fu_eq]; omega)
def Lv {σ ρ : Type} (body : σ → Option (σ ⊕ ρ)) (k : Nat) (s : σ) (r : ρ) : Prop := ∀ N, k ≤ N → loopN body N s = some r
theorem Lv.go {σ ρ : Type} {body : σ → Option (σ ⊕ ρ)} {k : Nat} {s s' : σ} {r : ρ} (h : body s = some (.inl s')) (hr : Lv body k s' r) : Lv body (k + 1) s r := fun N hN => by
 obtain ⟨N, rfl⟩ : ∃ M, N = M + 1 := ⟨N - 1, by omega⟩
 rw [loop_l h]; exact hr N (by omega)
theorem Lv.end_ {σ ρ : Type} {body : σ → Option (σ ⊕ ρ)} {s : σ} {r : ρ} (h : body s = some (.inr r)) : Lv body 1 s r := fun N hN => by
 obtain ⟨N, rfl⟩ : ∃ M, N = M + 1 := ⟨N - 1, by omega⟩
 exact loop_r h
theorem Lv.fu {σ ρ : Type} {body : σ → Option (σ ⊕ ρ)} {k : Nat} {s : σ} {r : ρ} (h : Lv body k s r) (hk : k ≤ 1000) : loopN body Fu s = some r := h Fu (by rw [fu_eq]; omega)
theorem mrg_of {l : List Span} {A A' B B' : List Int} (ha : A'.Perm A) (hb : B'.Perm B) (sa : A'.Pairwise (ltP l)) (sb : B'.Pairwise (ltP l)) (hok : ∀ y ∈ A ++ B, okP l y) (hlt : (A ++ B).Pairwise (· < ·)) : MrgOk l A' B' :=
 ⟨fun y hy => hok y (List.mem_append.2 ((List.mem_append.1 hy).imp ha.mem_iff.1 hb.mem_iff.1)), sa, sb, fun x hx y hy => (List.pairwise_append.1 hlt).2.2 x (ha.mem_iff.1 hx) y (hb.mem_iff.1 hy)⟩
section
variable {l : List Span} {r : List Int} (hok : ∀ y ∈ r, okP l y) (hlt : r.Pairwise (· < ·))
include hok hlt
theorem stb_1 (h : r.length < 20) : ∃ M, slices_SortStableFunc_int_tree_Kids_c1 r l = some M ∧ M.Perm r ∧ M.Pairwise (ltP l) := by
 obtain ⟨M, h1, h2, h3⟩ := ins_spec l [] r [] hok hlt (by simp; omega) (a := 0) (b := (r.length : Int)) rfl (by simp)
 simp only [List.nil_append, List.append_nil] at h1
 refine ⟨M, ?_, h2, h3⟩
 unfold slices_SortStableFunc_int_tree_Kids_c1 slices_stableCmpFunc_int_tree_Kids_c1
 have a1 : loopN (fun (s : List Int × Int × Int) => slices_stableCmpFunc_int_tree_Kids_c1_l1 (r.length : Int) l s.1 s.2.1 s.2.2) Fu (r, 0, 20) = some (r, 0) := by
  refine (Lv.end_ ?_).fu (by omega)
  show slices_stableCmpFunc_int_tree_Kids_c1_l1 _ _ _ _ _ = _
  unfold slices_stableCmpFunc_int_tree_Kids_c1_l1
  try dsimp only
  rw [ite_f (dec_f (by omega))]
 have a2 : loopN (fun (s : List Int × Int) => slices_stableCmpFunc_int_tree_Kids_c1_l2 (r.length : Int) l s.1 s.2) Fu (M, 20) = some M := by
  refine (Lv.end_ ?_).fu (by omega)
  show slices_stableCmpFunc_int_tree_Kids_c1_l2 _ _ _ _ = _
  unfold slices_stableCmpFunc_int_tree_Kids_c1_l2
  try dsimp only
  rw [ite_f (dec_f (by omega))]
 rw [a1, Option.bind_some, slices_stableCmpFunc_int_tree_Kids_c1_k0, h1, Option.bind_some, a2]; rfl
theorem stb_2 (h : 20 ≤ r.length) (h' : r.length < 40) : ∃ M, slices_SortStableFunc_int_tree_Kids_c1 r l = some M ∧ M.Perm r ∧ M.Pairwise (ltP l) := by
 obtain ⟨A, B, rfl, hA⟩ : ∃ A B, r = A ++ B ∧ A.length = 20 := ⟨r.take 20, r.drop 20, (List.take_append_drop _ _).symm, by rw [List.length_take]; omega⟩
 have hl : (A ++ B).length = 20 + B.length := by rw [List.length_append, hA]
 obtain ⟨A', a1, a2, a3⟩ := ins_spec l [] A B (fun y hy => hok y (List.mem_append_left _ hy)) (List.pairwise_append.1 hlt).1 (by simp; omega) (a := 0) (b := 20) rfl (by simp [hA])
 have hA' : A'.length = 20 := by rw [a2.length_eq, hA]
 obtain ⟨B', b1, b2, b3⟩ := ins_spec l A' B [] (fun y hy => hok y (List.mem_append_right _ hy)) (List.pairwise_append.1 hlt).2.1 (by omega) (a := 20) (b := ((20 + B.length : Nat) : Int)) (by simp [hA']) (by simp [hA'])
 simp only [List.nil_append, List.append_nil] at a1 b1
 have hB' : B'.length = B.length := b2.length_eq
 have w40 : IntKind.i64.wrap (20 + 20) = 40 := by decide
 have s1 : loopN (fun (s : List Int × Int × Int) => slices_stableCmpFunc_int_tree_Kids_c1_l1 ((20 + B.length : Nat) : Int) l s.1 s.2.1 s.2.2) Fu (A ++ B, 0, 20) = some (A' ++ B, 20) := by
  refine (Lv.go (s' := (A' ++ B, 20, 40)) ?_ (Lv.end_ ?_)).fu (by omega)
  ·show slices_stableCmpFunc_int_tree_Kids_c1_l1 _ _ _ _ _ = _
   unfold slices_stableCmpFunc_int_tree_Kids_c1_l1
   try dsimp only
   rw [ite_t (dec_t (by omega)), a1, Option.bind_some, w40]
  ·show slices_stableCmpFunc_int_tree_Kids_c1_l1 _ _ _ _ _ = _
   unfold slices_stableCmpFunc_int_tree_Kids_c1_l1
   try dsimp only
   rw [ite_f (dec_f (by omega))]
 by_cases hB : B.length = 0
 ·have hBn : B = [] := List.eq_nil_of_length_eq_zero hB
  subst hBn
  have hBn' : B' = [] := List.eq_nil_of_length_eq_zero (by simpa using hB')
  subst hBn'
  refine ⟨A', ?_, by simpa using a2, a3⟩
  unfold slices_SortStableFunc_int_tree_Kids_c1 slices_stableCmpFunc_int_tree_Kids_c1
  have s2 : loopN (fun (s : List Int × Int) => slices_stableCmpFunc_int_tree_Kids_c1_l2 ((20 + ([] : List Int).length : Nat) : Int) l s.1 s.2) Fu (A' ++ [], 20) = some A' := by
   refine (Lv.end_ ?_).fu (by omega)
   show slices_stableCmpFunc_int_tree_Kids_c1_l2 _ _ _ _ = _
   unfold slices_stableCmpFunc_int_tree_Kids_c1_l2
   try dsimp only
   rw [ite_f (dec_f (by simp)), List.append_nil]
  rw [hl, s1, Option.bind_some, slices_stableCmpFunc_int_tree_Kids_c1_k0, b1, Option.bind_some, s2]; rfl
 ·obtain ⟨M, m1, m2, m3⟩ := symF l [] A' B' [] (mrg_of a2 b2 a3 b3 hok hlt) (by omega) (by omega) (by simp; omega) (a := 0) (m := 20) (b := ((20 + B.length : Nat) : Int)) rfl (by simp [hA']) (by simp [hA', hB'])
  simp only [List.nil_append, List.append_nil] at m1
  refine ⟨M, ?_, m2.trans (a2.append b2), m3⟩
  unfold slices_SortStableFunc_int_tree_Kids_c1 slices_stableCmpFunc_int_tree_Kids_c1
  have w1 : IntKind.i64.wrap (2 * 20) = 40 := by decide
  have w2 : IntKind.i64.wrap (20 * 2) = 40 := by decide
  have w3 : IntKind.i64.wrap (0 + 20) = 20 := by decide
  have s2 : loopN (fun (s : List Int × Int × Int) => slices_stableCmpFunc_int_tree_Kids_c1_l4 ((20 + B.length : Nat) : Int) l 20 s.1 s.2.1 s.2.2) Fu (A' ++ B', 0, 40) = some (A' ++ B', 0) := by
   refine (Lv.end_ ?_).fu (by omega)
   show slices_stableCmpFunc_int_tree_Kids_c1_l4 _ _ _ _ _ _ = _
   unfold slices_stableCmpFunc_int_tree_Kids_c1_l4
   try dsimp only
   rw [ite_f (dec_f (by omega))]
  have s3 : loopN (fun (s : List Int × Int) => slices_stableCmpFunc_int_tree_Kids_c1_l2 ((20 + B.length : Nat) : Int) l s.1 s.2) Fu (A' ++ B', 20) = some M := by
   refine (Lv.go (s' := (M, 40)) ?_ (Lv.end_ ?_)).fu (by omega)
   ·show slices_stableCmpFunc_int_tree_Kids_c1_l2 _ _ _ _ = _
    unfold slices_stableCmpFunc_int_tree_Kids_c1_l2
    try dsimp only
    rw [ite_t (dec_t (by omega)), w1, s2, Option.bind_some]
    unfold slices_stableCmpFunc_int_tree_Kids_c1_k3
    rw [w3, ite_t (dec_t (by omega)), m1, Option.bind_some, w2]
   ·show slices_stableCmpFunc_int_tree_Kids_c1_l2 _ _ _ _ = _
    unfold slices_stableCmpFunc_int_tree_Kids_c1_l2
    try dsimp only
    rw [ite_f (dec_f (by omega))]
  rw [hl, s1, Option.bind_some, slices_stableCmpFunc_int_tree_Kids_c1_k0, b1, Option.bind_some, s3]; rfl
theorem stb_3 (h : 40 ≤ r.length) (h' : r.length ≤ 60) : ∃ M, slices_SortStableFunc_int_tree_Kids_c1 r l = some M ∧ M.Perm r ∧ M.Pairwise (ltP l) := by
 obtain ⟨A, B, C, rfl, hA, hB⟩ : ∃ A B C, r = A ++ (B ++ C) ∧ A.length = 20 ∧ B.length = 20 := ⟨r.take 20, (r.drop 20).take 20, (r.drop 20).drop 20, by rw [List.take_append_drop, List.take_append_drop], by rw [List.length_take]; omega, by rw [List.length_take, List.length_drop]; omega⟩
 have hl : (A ++ (B ++ C)).length = 40 + C.length := by rw [List.length_append, List.length_append, hA, hB]; omega
 have ltA := (List.pairwise_append.1 hlt).1
 have ltBC := (List.pairwise_append.1 hlt).2.1
 obtain ⟨A', a1, a2, a3⟩ := ins_spec l [] A (B ++ C) (fun y hy => hok y (List.mem_append_left _ hy)) ltA (by simp; omega) (a := 0) (b := 20) rfl (by simp [hA])
 have hA' : A'.length = 20 := by rw [a2.length_eq, hA]
 obtain ⟨B', b1, b2, b3⟩ := ins_spec l A' B C (fun y hy => hok y (List.mem_append_right _ (List.mem_append_left _ hy))) (List.pairwise_append.1 ltBC).1 (by omega) (a := 20) (b := 40) (by simp [hA']) (by simp [hA', hB])
 have hB' : B'.length = 20 := by rw [b2.length_eq, hB]
 obtain ⟨C', c1, c2, c3⟩ := ins_spec l (A' ++ B') C [] (fun y hy => hok y (List.mem_append_right _ (List.mem_append_right _ hy))) (List.pairwise_append.1 ltBC).2.1 (by simp; omega) (a := 40) (b := ((40 + C.length : Nat) : Int)) (by simp [hA', hB']) (by simp [hA', hB'])
 have hC' : C'.length = C.length := c2.length_eq
 simp only [List.nil_append, List.append_nil] at a1 c1
 have okAB : ∀ y ∈ A ++ B, okP l y := fun y hy => hok y (by rw [← List.append_assoc]; exact List.mem_append_left _ hy)
 have ltAll : ((A ++ B) ++ C).Pairwise (· < ·) := by rw [List.append_assoc]; exact hlt
 obtain ⟨D, d1, d2, d3⟩ := symF l [] A' B' C' (mrg_of a2 b2 a3 b3 okAB (List.pairwise_append.1 ltAll).1) (by omega) (by omega) (by simp; omega) (a := 0) (m := 20) (b := 40) rfl (by simp [hA']) (by simp [hA', hB'])
 have hD : D.Perm (A ++ B) := d2.trans (a2.append b2)
 have hDl : D.length = 40 := by rw [hD.length_eq, List.length_append]; omega
 simp only [List.nil_append] at d1
 have w40 : IntKind.i64.wrap (20 + 20) = 40 := by decide
 have w60 : IntKind.i64.wrap (40 + 20) = 60 := by decide
 have w80 : IntKind.i64.wrap (60 + 20) = 80 := by decide
 have w1 : IntKind.i64.wrap (2 * 20) = 40 := by decide
 have w2 : IntKind.i64.wrap (20 * 2) = 40 := by decide
 have w3 : IntKind.i64.wrap (0 + 20) = 20 := by decide
 have w4 : IntKind.i64.wrap (2 * 40) = 80 := by decide
 have w5 : IntKind.i64.wrap (40 * 2) = 80 := by decide
 have w6 : IntKind.i64.wrap (0 + 40) = 40 := by decide
 have w7 : IntKind.i64.wrap (40 + 40) = 80 := by decide
 have s1 : ∃ x y : Int, loopN (fun (s : List Int × Int × Int) => slices_stableCmpFunc_int_tree_Kids_c1_l1 ((40 + C.length : Nat) : Int) l s.1 s.2.1 s.2.2) Fu (A ++ (B ++ C), 0, 20) = some ((if C.length = 20 then A' ++ B' ++ C' else A' ++ B' ++ C), x) ∧ slices_insertionSortCmpFunc_int_tree_Kids_c1 (if C.length = 20 then A' ++ B' ++ C' else A' ++ B' ++ C) x ((40 + C.length : Nat) : Int) l = some (A' ++ B' ++ C') := by
  have q1 : slices_stableCmpFunc_int_tree_Kids_c1_l1 ((40 + C.length : Nat) : Int) l (A ++ (B ++ C)) 0 20 = some (.inl (A' ++ (B ++ C), 20, 40)) := by
   unfold slices_stableCmpFunc_int_tree_Kids_c1_l1
   try dsimp only
   rw [ite_t (dec_t (by omega)), a1, Option.bind_some, w40]
  have q2 : slices_stableCmpFunc_int_tree_Kids_c1_l1 ((40 + C.length : Nat) : Int) l (A' ++ (B ++ C)) 20 40 = some (.inl (A' ++ B' ++ C, 40, 60)) := by
   unfold slices_stableCmpFunc_int_tree_Kids_c1_l1
   try dsimp only
   rw [ite_t (dec_t (by omega)), ← List.append_assoc, b1, Option.bind_some, w60]
  by_cases hc : C.length = 20
  ·refine ⟨60, 0, ?_, ?_⟩
   ·rw [if_pos hc]
    refine (Lv.go (s' := (A' ++ (B ++ C), 20, 40)) q1 (Lv.go (s' := (A' ++ B' ++ C, 40, 60)) q2 (Lv.go (s' := (A' ++ B' ++ C', 60, 80)) ?_ (Lv.end_ ?_)))).fu (by omega)
    ·show slices_stableCmpFunc_int_tree_Kids_c1_l1 _ _ _ _ _ = _
     unfold slices_stableCmpFunc_int_tree_Kids_c1_l1
     try dsimp only
     rw [show ((40 + C.length : Nat) : Int) = 60 by omega] at c1 ⊢
     rw [ite_t (dec_t (by omega)), c1, Option.bind_some, w80]
    ·show slices_stableCmpFunc_int_tree_Kids_c1_l1 _ _ _ _ _ = _
     unfold slices_stableCmpFunc_int_tree_Kids_c1_l1
     try dsimp only
     rw [ite_f (dec_f (by omega))]
   ·rw [if_pos hc]
    obtain ⟨E, e1, e2, _⟩ := ins_spec l (A' ++ B' ++ C') [] [] (by simp) List.Pairwise.nil (by simp; omega) (a := 60) (b := ((40 + C.length : Nat) : Int)) (by simp; omega) (by simp; omega)
    have : E = [] := List.Perm.eq_nil e2
    subst this
    simpa using e1
  ·refine ⟨40, 0, ?_, ?_⟩
   ·rw [if_neg hc]
    refine (Lv.go (s' := (A' ++ (B ++ C), 20, 40)) q1 (Lv.go (s' := (A' ++ B' ++ C, 40, 60)) q2 (Lv.end_ ?_))).fu (by omega)
    show slices_stableCmpFunc_int_tree_Kids_c1_l1 _ _ _ _ _ = _
    unfold slices_stableCmpFunc_int_tree_Kids_c1_l1
    try dsimp only
    rw [ite_f (dec_f (by rw [hl] at h'; omega))]
   ·rw [if_neg hc]; exact c1
 obtain ⟨x, _, s1, s1'⟩ := s1
 have s2 : loopN (fun (s : List Int × Int × Int) => slices_stableCmpFunc_int_tree_Kids_c1_l4 ((40 + C.length : Nat) : Int) l 20 s.1 s.2.1 s.2.2) Fu (A' ++ B' ++ C', 0, 40) = some (D ++ C', 40) := by
  refine (Lv.go (s' := (D ++ C', 40, 80)) ?_ (Lv.end_ ?_)).fu (by omega)
  ·show slices_stableCmpFunc_int_tree_Kids_c1_l4 _ _ _ _ _ _ = _
   unfold slices_stableCmpFunc_int_tree_Kids_c1_l4
   try dsimp only
   rw [ite_t (dec_t (by omega)), w3, d1, Option.bind_some, w1, w7]
  ·show slices_stableCmpFunc_int_tree_Kids_c1_l4 _ _ _ _ _ _ = _
   unfold slices_stableCmpFunc_int_tree_Kids_c1_l4
   try dsimp only
   rw [ite_f (dec_f (by rw [hl] at h'; omega))]
 have r1 : slices_stableCmpFunc_int_tree_Kids_c1_l2 ((40 + C.length : Nat) : Int) l (A' ++ B' ++ C') 20 = some (.inl (D ++ C', 40)) := by
  unfold slices_stableCmpFunc_int_tree_Kids_c1_l2
  try dsimp only
  rw [ite_t (dec_t (by omega)), w1, s2, Option.bind_some]
  unfold slices_stableCmpFunc_int_tree_Kids_c1_k3
  rw [w60, ite_f (dec_f (by rw [hl] at h'; omega)), w2]
 unfold slices_SortStableFunc_int_tree_Kids_c1 slices_stableCmpFunc_int_tree_Kids_c1
 by_cases hC : C.length = 0
 ·have hCn : C = [] := List.eq_nil_of_length_eq_zero hC
  subst hCn
  have hCn' : C' = [] := List.eq_nil_of_length_eq_zero (by simpa using hC')
  subst hCn'
  refine ⟨D, ?_, by simpa using hD, d3⟩
  have s3 : loopN (fun (s : List Int × Int) => slices_stableCmpFunc_int_tree_Kids_c1_l2 ((40 + ([] : List Int).length : Nat) : Int) l s.1 s.2) Fu (A' ++ B' ++ [], 20) = some (D ++ []) := by
   refine (Lv.go (s' := (D ++ [], 40)) r1 (Lv.end_ ?_)).fu (by omega)
   show slices_stableCmpFunc_int_tree_Kids_c1_l2 _ _ _ _ = _
   unfold slices_stableCmpFunc_int_tree_Kids_c1_l2
   try dsimp only
   rw [ite_f (dec_f (by simp))]
  rw [hl, s1, Option.bind_some, slices_stableCmpFunc_int_tree_Kids_c1_k0, s1', Option.bind_some, s3, List.append_nil]; rfl
 ·obtain ⟨M, m1, m2, m3⟩ := symF l [] D C' [] (mrg_of hD c2 d3 c3 (by rw [List.append_assoc]; exact hok) ltAll) (by omega) (by omega) (by simp; rw [hl] at h'; omega) (a := 0) (m := 40) (b := ((40 + C.length : Nat) : Int)) rfl (by simp [hDl]) (by simp [hDl, hC'])
  simp only [List.nil_append, List.append_nil] at m1
  refine ⟨M, ?_, by rw [← List.append_assoc]; exact m2.trans (hD.append c2), m3⟩
  have s4 : loopN (fun (s : List Int × Int × Int) => slices_stableCmpFunc_int_tree_Kids_c1_l4 ((40 + C.length : Nat) : Int) l 40 s.1 s.2.1 s.2.2) Fu (D ++ C', 0, 80) = some (D ++ C', 0) := by
   refine (Lv.end_ ?_).fu (by omega)
   show slices_stableCmpFunc_int_tree_Kids_c1_l4 _ _ _ _ _ _ = _
   unfold slices_stableCmpFunc_int_tree_Kids_c1_l4
   try dsimp only
   rw [ite_f (dec_f (by rw [hl] at h'; omega))]
  have s3 : loopN (fun (s : List Int × Int) => slices_stableCmpFunc_int_tree_Kids_c1_l2 ((40 + C.length : Nat) : Int) l s.1 s.2) Fu (A' ++ B' ++ C', 20) = some M := by
   refine (Lv.go (s' := (D ++ C', 40)) r1 (Lv.go (s' := (M, 80)) ?_ (Lv.end_ ?_))).fu (by omega)
   ·show slices_stableCmpFunc_int_tree_Kids_c1_l2 _ _ _ _ = _
    unfold slices_stableCmpFunc_int_tree_Kids_c1_l2
    try dsimp only
    rw [ite_t (dec_t (by omega)), w4, s4, Option.bind_some]
    unfold slices_stableCmpFunc_int_tree_Kids_c1_k3
    rw [w6, ite_t (dec_t (by omega)), m1, Option.bind_some, w5]
   ·show slices_stableCmpFunc_int_tree_Kids_c1_l2 _ _ _ _ = _
    unfold slices_stableCmpFunc_int_tree_Kids_c1_l2
    try dsimp only
    rw [ite_f (dec_f (by rw [hl] at h'; omega))]
  rw [hl, s1, Option.bind_some, slices_stableCmpFunc_int_tree_Kids_c1_k0, s1', Option.bind_some, s3]; rfl
theorem stb_spec (h' : r.length ≤ 60) : ∃ M, slices_SortStableFunc_int_tree_Kids_c1 r l = some M ∧ M.Perm r ∧ M.Pairwise (ltP l) := by
 by_cases h1 : r.length < 20
 ·exact stb_1 hok hlt h1
 by_cases h2 : r.length < 40
 ·exact stb_2 hok hlt (by omega) h2
 exact stb_3 hok hlt (by omega) h'
end
end Go.Proofs.Ytmompdklolomfaa.Ab
