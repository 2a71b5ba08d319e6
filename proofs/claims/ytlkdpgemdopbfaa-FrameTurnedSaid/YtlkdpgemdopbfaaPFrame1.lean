/- Chapter 5's laws hold of the pure functions. -/
import Derived.Test.YtlkdpgemdopbfaaPFrame
namespace Go.Proofs.Ytlkdpgemdopbfaa.Ab
open Go Go.RowKit
set_option linter.unusedVariables false
set_option linter.unusedSimpArgs false

theorem fseq (l : List UInt8) (n k : Nat) : ((l.drop n).take k) = (l.take (n + k)).drop n := by rw [List.drop_take, Nat.add_sub_cancel_left]
theorem rsplit_spec (l : List UInt8) (hl : l.length ≤ 4294967296) : gleaningref1_Split l = some ((splitF l).1, ((l.length - (splitF l).2.length : Nat) : Int)) := by
  have hloop : loopN (fun (s : List (List UInt8) × Int) => gleaningref1_Split_l1 l s.1 s.2) Fu ([], 0) = some ((splitF l).1, ((l.length - (splitF l).2.length : Nat) : Int)) := by
    refine loop_fu (fun m s r => ∃ (a : List (List UInt8)) (j : Nat), s = (a, (j : Int)) ∧ m = l.length - j ∧ j ≤ l.length ∧ a.length ≤ j ∧ r = (a ++ (splitF (l.drop j)).1, ((l.length - (splitF (l.drop j)).2.length : Nat) : Int))) ?_ ⟨[], 0, rfl, rfl, by omega, by simp, by simp⟩ (by omega)
    rintro m s r ⟨a, j, rfl, rfl, hj, ha, rfl⟩
    have hend : ∀ (x : List (List UInt8) × Int), oneF (l.drop j) = none → x = (a, (j : Int)) → x = (a ++ (splitF (l.drop j)).1, ((l.length - (splitF (l.drop j)).2.length : Nat) : Int)) := by
      intro x ho hx
      rw [splitF_none ho, hx]
      simp; omega
    have hdl : (l.drop j).length = l.length - j := by simp
    by_cases hj2 : j < l.length
    · cases hg : getN (l.drop j) with
      | none =>
        refine .inr ?_
        rw [← hend _ (by simp [oneF, hg]) rfl]
        simp only [gleaningref1_Split_l1, dec_t (by omega : (j : Int) < (l.length : Int)), if_true, gd_pos (by omega : (0 : Int) ≤ (j : Int)), gd_pos (by omega : (j : Int) ≤ (l.length : Int)), Int.toNat_natCast]
        rw [rget_spec _ (by omega), hg]
        rfl
      | some nk =>
        obtain ⟨n, k⟩ := nk
        obtain ⟨h1, h2⟩ := getA_len _ _ _ _ hg
        rw [hdl] at h2
        have q1 : IntKind.i64.wrap ((l.length : Int) - (j : Int)) = ((l.length - j : Nat) : Int) := by rw [w64 (by omega) (by omega)]; omega
        have q2 : IntKind.i64.wrap (((l.length - j : Nat) : Int) - (k : Int)) = ((l.length - j - k : Nat) : Int) := by rw [w64 (by omega) (by omega)]; omega
        have hbl : ((l.drop j).drop k).length = l.length - j - k := by simp; omega
        simp only [gleaningref1_Split_l1, dec_t (by omega : (j : Int) < (l.length : Int)), if_true, gd_pos (by omega : (0 : Int) ≤ (j : Int)), gd_pos (by omega : (j : Int) ≤ (l.length : Int)), Int.toNat_natCast]
        rw [rget_spec _ (by omega), hg]
        simp only [getR, Option.bind_some, Bool.not_true, Bool.false_eq_true, if_false, q1, q2]
        by_cases h4 : l.length - j - k < 4
        · refine .inr ?_
          rw [← hend _ (by simp only [oneF, hg]; rw [if_pos (by omega)]) rfl]
          have : IntKind.i64.wrap (((l.length - j - k : Nat) : Int) - 4) < 0 := by rw [w64 (by omega) (by omega)]; omega
          simp only [dec_t this, if_true, Option.bind_some, Sum.elim_inr]
        · have q3 : IntKind.i64.wrap (((l.length - j - k : Nat) : Int) - 4) = ((l.length - j - k - 4 : Nat) : Int) := by rw [w64 (by omega) (by omega)]; omega
          have q4 : IntKind.u64.wrap ((l.length - j - k - 4 : Nat) : Int) = ((l.length - j - k - 4 : Nat) : Int) := wrap_u64 _ (by omega)
          simp only [q3, q4, dec_f (by omega : ¬ ((l.length - j - k - 4 : Nat) : Int) < 0), Bool.false_eq_true, if_false]
          by_cases hn : l.length - j - k - 4 < n
          · refine .inr ?_
            rw [← hend _ (by simp only [oneF, hg]; rw [if_neg (by omega), if_pos (by omega)]) rfl]
            simp only [dec_t (by omega : ((l.length - j - k - 4 : Nat) : Int) < (n : Int)), if_true, Option.bind_some, Sum.elim_inr]
          · have q5 : IntKind.i64.wrap ((j : Int) + (k : Int)) = ((j + k : Nat) : Int) := by rw [w64 (by omega) (by omega)]; push_cast; rfl
            have q6 : IntKind.i64.wrap (((j + k : Nat) : Int) + 4) = ((j + k + 4 : Nat) : Int) := by rw [w64 (by omega) (by omega)]; push_cast; rfl
            have q7 : IntKind.i64.wrap (n : Int) = (n : Int) := w64 (by omega) (by omega)
            have q8 : IntKind.i64.wrap (((j + k + 4 : Nat) : Int) + (n : Int)) = ((j + k + 4 + n : Nat) : Int) := by rw [w64 (by omega) (by omega)]; push_cast; rfl
            have hp : List.drop (j + k + 4) (List.take (j + k + 4 + n) l) = (((l.drop j).drop k).drop 4).take n := by rw [List.drop_drop, List.drop_drop, fseq, Nat.add_assoc j k 4]
            have hs : List.drop (j + k) (List.take (j + k + 4) l) = ((l.drop j).drop k).take 4 := by rw [List.drop_drop, fseq]
            have hpl : ((((l.drop j).drop k).drop 4).take n).length ≤ n := by simp; omega
            simp only [dec_f (by omega : ¬ ((l.length - j - k - 4 : Nat) : Int) < (n : Int)), Bool.false_eq_true, if_false, Option.bind_some, Sum.elim_inl, gleaningref1_Split_k2, q5, q6, q7, q8, Int.toNat_natCast, hp, hs,
              gd_pos (by omega : (0 : Int) ≤ ((j + k + 4 : Nat) : Int)), gd_pos (by omega : ((j + k + 4 : Nat) : Int) ≤ ((j + k + 4 + n : Nat) : Int)), gd_pos (by omega : ((j + k + 4 + n : Nat) : Int) ≤ (l.length : Int)), rsum_spec _ (by omega : ((((l.drop j).drop k).drop 4).take n).length < 1099511627776),
              rfour_spec _ (sumB ((((l.drop j).drop k).drop 4).take n)).isLt, gd_pos (by omega : (0 : Int) ≤ ((j + k : Nat) : Int)), gd_pos (by omega : ((j + k : Nat) : Int) ≤ ((j + k + 4 : Nat) : Int)), gd_pos (by omega : ((j + k + 4 : Nat) : Int) ≤ (l.length : Int)), toList_str]
            by_cases he : fourN (sumB ((((l.drop j).drop k).drop 4).take n)).toNat = ((l.drop j).drop k).take 4
            · have ho : oneF (l.drop j) = some ((((l.drop j).drop k).drop 4).take n, ((l.drop j).drop k).drop (4 + n)) := by simp only [oneF, hg]; rw [if_neg (by omega), if_neg (by omega), if_pos he]
              refine .inl ⟨(a ++ [(((l.drop j).drop k).drop 4).take n], ((j + k + 4 + n : Nat) : Int)), l.length - (j + k + 4 + n), ?_, by omega, _, j + k + 4 + n, rfl, rfl, by omega, by simp; omega, ?_⟩
              · rw [he]
                simp only [beq_self_eq_true, Bool.not_true, Bool.false_eq_true, if_false]
                rw [gd_pos (by omega), gd_pos (by simp only [List.length_append, List.length_singleton]; omega)]
              · have hr : ((l.drop j).drop k).drop (4 + n) = l.drop (j + k + 4 + n) := by rw [List.drop_drop, List.drop_drop]; congr 1; omega
                rw [splitF_some ho, hr]; simp
            · refine .inr ?_
              rw [← hend _ (by simp only [oneF, hg]; rw [if_neg (by omega), if_neg (by omega), if_neg he]) rfl]
              have : (fourN (sumB ((((l.drop j).drop k).drop 4).take n)).toNat == ((l.drop j).drop k).take 4) = false := by simpa using he
              simp only [this, Bool.not_false, if_true]
    · have : j = l.length := by omega
      subst this
      refine .inr ?_
      rw [← hend _ (by simp [oneF, getN, getA]) rfl]
      simp only [gleaningref1_Split_l1, dec_f (by omega : ¬ (l.length : Int) < (l.length : Int)), Bool.false_eq_true, if_false]
  rw [gleaningref1_Split, hloop]; rfl
theorem same_spec (a b : List (List UInt8)) (ha : a.length ≤ 4294967296) : gleaninglaw5_same a b = some (decide (a = b)) := by
  by_cases hl : a.length = b.length
  · have h0 : ((a.length : Int) != (b.length : Int)) = false := by simp [hl]
    rw [gleaninglaw5_same, ite_f h0]
    refine loop_list (l := a) (fun k r s => s = (k : Int) ∧ a.take k = b.take k ∧ r = decide (a = b)) (by omega) ?_ ?_ ⟨rfl, rfl, rfl⟩
    · rintro k hk r s ⟨rfl, he, rfl⟩
      have hkb : k < b.length := by omega
      simp only [gleaninglaw5_same_l0, dec_t (by omega : (k : Int) < (a.length : Int)), if_true, gd_pos (by omega : (0 : Int) ≤ (k : Int)), Int.toNat_natCast, List.getElem?_eq_getElem hk, List.getElem?_eq_getElem hkb, Option.bind_some, toList_str]
      by_cases hx : a[k] = b[k]
      · refine .inl ⟨((k + 1 : Nat) : Int), ?_, rfl, ?_, (by first | rfl | trivial)⟩
        · simp only [hx, beq_self_eq_true, Bool.not_true, Bool.false_eq_true, if_false, wrap_succ (by omega : k < 1099511627776)]
        · rw [List.take_succ_eq_append_getElem hk, List.take_succ_eq_append_getElem hkb, he, hx]
      · refine .inr ?_
        have h1 : (a[k] == b[k]) = false := by simpa using hx
        have h2 : decide (a = b) = false := by simp only [decide_eq_false_iff_not]; rintro rfl; exact hx rfl
        simp only [h1, h2, Bool.not_false, if_true]
    · rintro r s ⟨rfl, he, rfl⟩
      have : a = b := by rw [List.take_length, hl, List.take_length] at he; exact he
      simp only [gleaninglaw5_same_l0, dec_f (by omega : ¬ (a.length : Int) < (a.length : Int)), Bool.false_eq_true, if_false, dec_t this]
  · have h0 : ((a.length : Int) != (b.length : Int)) = true := by simp only [bne_iff_ne, ne_eq]; omega
    rw [gleaninglaw5_same, ite_t h0, dec_f (by rintro rfl; exact hl rfl)]
/-! ### records behind one another -/
def catB (l : List (List UInt8)) : List UInt8 := l.flatMap recB
theorem catB_cons (p : List UInt8) (l : List (List UInt8)) : catB (p :: l) = recB p ++ catB l := rfl
theorem catB_app (a b : List (List UInt8)) : catB (a ++ b) = catB a ++ catB b := by simp [catB]
theorem catB_one (p : List UInt8) : catB [p] = recB p := by simp [catB]
theorem oneF_rec (p r : List UInt8) (hp : p.length < 18446744073709551616) : oneF (recB p ++ r) = some (p, r) := by
  have e : recB p ++ r = putN p.length ++ (fourN (sumB p).toNat ++ (p ++ r)) := by simp [recB]
  simp only [oneF, e, getN_put hp, List.drop_left]
  have h4 : (fourN (sumB p).toNat ++ (p ++ r)).drop 4 = p ++ r := List.drop_left (l₁ := fourN (sumB p).toNat)
  have t4 : (fourN (sumB p).toNat ++ (p ++ r)).take 4 = fourN (sumB p).toNat := List.take_left (l₁ := fourN (sumB p).toNat)
  have hl : (fourN (sumB p).toNat ++ (p ++ r)).length = 4 + (p.length + r.length) := by simp [fourN_length]
  rw [if_neg (by omega), if_neg (by omega), h4, t4, List.take_left, if_pos rfl, ← List.drop_drop, h4, List.drop_left]
theorem splitF_cat (t : List UInt8) : ∀ l : List (List UInt8), (∀ p ∈ l, p.length < 18446744073709551616) → splitF (catB l ++ t) = (l ++ (splitF t).1, (splitF t).2)
  | [], _ => rfl
  | p :: l, h => by
    rw [catB_cons, List.append_assoc, splitF_some (oneF_rec p _ (h p List.mem_cons_self)), splitF_cat t l fun q hq => h q (List.mem_cons_of_mem _ hq)]
    rfl
theorem splitF_nil : splitF [] = ([], []) := splitF_none (by simp [oneF, getN, getA])
theorem oneF_cut (p : List UInt8) (hp : p.length < 18446744073709551616) {k : Nat} (hk : k < (recB p).length) : oneF ((recB p).take k) = none := by
  have hl := recB_len p
  by_cases h : k < (putN p.length).length
  · have : (recB p).take k = (putN p.length).take k := by rw [recB, List.append_assoc, List.take_append_of_le_length (by omega)]
    rw [this, oneF, getN_cut hp h]
  · have : (recB p).take k = putN p.length ++ (fourN (sumB p).toNat ++ p).take (k - (putN p.length).length) := by rw [recB, List.append_assoc, List.take_append, List.take_of_length_le (by omega)]
    rw [this]
    simp only [oneF, getN_put hp, List.drop_left]
    have hlen : ((fourN (sumB p).toNat ++ p).take (k - (putN p.length).length)).length = k - (putN p.length).length := by simp [fourN_length]; omega
    rw [hlen]
    by_cases h4 : k - (putN p.length).length < 4
    · rw [if_pos h4]
    · rw [if_neg h4, if_pos (by omega)]
theorem catB_le (m : Nat) (hm : m ≤ 1000) : ∀ l : List (List UInt8), (∀ p ∈ l, p.length ≤ m) → (catB l).length ≤ (m + 14) * l.length
  | [], _ => by simp [catB]
  | p :: l, h => by
    have h1 := catB_le m hm l fun q hq => h q (List.mem_cons_of_mem _ hq)
    have h2 := h p List.mem_cons_self
    have h3 := putN_len10 (n := p.length) (by omega)
    rw [catB_cons, List.length_append, recB_len, List.length_cons, Nat.mul_succ]; omega
theorem split_cat (l : List (List UInt8)) (t : List UInt8) (h : ∀ p ∈ l, p.length ≤ 1000) (hl : (catB l ++ t).length ≤ 4294967296) (ht : oneF t = none) : frame_Split (catB l ++ t) = some (l, ((catB l).length : Int)) := by
  rw [split_spec _ hl, splitF_cat t l fun p hp => by have := h p hp; omega, splitF_none ht]
  simp
theorem alive5 : gleaninglaw5_alive = some true := by
  have h1 := split_spec [] (by decide)
  have h2 := frame_spec [97, 98] (by decide)
  have h3 := split_cat [[97, 98]] [] (by decide) (by simp [catB, recB_len, putN_lt (show 2 < 128 by decide)]) (by simp [oneF, getN, getA])
  rw [List.append_nil, catB_one] at h3
  rw [splitF_nil] at h1
  have hl : (recB [97, 98]).length = 7 := by rw [recB_len, putN_lt (by decide)]; rfl
  rw [hl] at h3
  simp only [gleaninglaw5_alive, h1, h2, h3, Option.bind_some]
  simp [toList_str]
theorem frameTells_true (p b : List UInt8) (_ : p.length ≤ maxLen) (_ : b.length ≤ maxLen) : gleaninglaw5_FrameTells p b = some true := by
  simp only [gleaninglaw5_FrameTells, alive5, Option.bind_some, Bool.not_true, Bool.false_eq_true, if_false]
  by_cases a1 : (500 : Int) < (p.length : Int)
  · simp [a1]
  by_cases a2 : (1000 : Int) < (b.length : Int)
  · simp [a1, a2]
  simp only [a1, a2, decide_false, Bool.false_eq_true, if_false, Option.bind_some, Sum.elim_inl, gleaninglaw5_FrameTells_k0]
  have hs := splitF_len b.length b (Nat.le_refl _)
  rw [gd_pos (by omega), split_spec b (by omega), rsplit_spec b (by omega), frame_spec p (by omega), rframe_spec p (by omega)]
  simp only [Option.bind_some, beq_self_eq_true, if_true, same_spec _ _ (by omega : (splitF b).1.length ≤ 4294967296), decide_true]
theorem frameTorn_true (l : List (List UInt8)) (cut : Int) (hl : l.length ≤ maxLen ∧ ∀ y ∈ l, y.length ≤ maxLen) (hc : inI .i64 cut) : gleaninglaw5_FrameTorn l cut = some true := by
  simp only [gleaninglaw5_FrameTorn, alive5, Option.bind_some, Bool.not_true, Bool.false_eq_true, if_false]
  by_cases a1 : (20 : Int) < (l.length : Int)
  · simp [a1]
  by_cases a2 : cut < 0
  · simp [a1, a2]
  simp only [a1, a2, decide_false, Bool.false_eq_true, if_false, Option.bind_some, Sum.elim_inl, gleaninglaw5_FrameTorn_k0]
  obtain ⟨c, rfl⟩ := Int.eq_ofNat_of_zero_le (by omega : 0 ≤ cut)
  have hc' := inI64 hc
  let ends : Nat → List Int := fun k => (List.range k).map fun i => ((catB (l.take (i + 1))).length : Int)
  have hle : ∀ k, (∀ x ∈ l.take k, decide (200 < x.length) = false) → (catB (l.take k)).length ≤ 4280 := fun k h => by
    have := catB_le 200 (by decide) (l.take k) fun p hp => by have := h p hp; simp at this; omega
    have h2 : (l.take k).length ≤ 20 := by simp; omega
    omega
  have hA := loop_write (body := fun (s : List UInt8 × List Int × Int) => gleaninglaw5_FrameTorn_l2 l s.1 s.2.1 s.2.2) (l := l) (fun x => decide (200 < x.length)) (fun k => (catB (l.take k), ends k, (k : Int))) (Sum.inl (catB l, ends l.length)) (Sum.inr true) (by omega)
    (fun k hk hb h => by
      have hx : l[k].length ≤ 200 := by simpa using h
      have h1 := hle k hb
      have h10 := putN_len10 (n := l[k].length) (by omega)
      have hcat : catB (l.take (k + 1)) = catB (l.take k) ++ recB l[k] := by rw [List.take_succ_eq_append_getElem hk, catB_app, catB_one]
      simp only [gleaninglaw5_FrameTorn_l2, dec_t (by omega : (k : Int) < (l.length : Int)), if_true, gd_pos (by omega : (0 : Int) ≤ (k : Int)), Int.toNat_natCast, List.getElem?_eq_getElem hk, Option.bind_some, dec_f (by omega : ¬ (200 : Int) < (l[k].length : Int)), Bool.false_eq_true, if_false, frame_spec _ (by omega : l[k].length ≤ 549755813888), ← hcat]
      rw [gd_pos (by rw [hcat, List.length_append, recB_len]; omega), gd_pos (by simp [ends]; omega), wrap_succ (by omega)]
      simp [ends, List.range_succ])
    (fun k hk hb h => by
      have hx : 200 < l[k].length := by simpa using h
      simp only [gleaninglaw5_FrameTorn_l2, dec_t (by omega : (k : Int) < (l.length : Int)), if_true, gd_pos (by omega : (0 : Int) ≤ (k : Int)), Int.toNat_natCast, List.getElem?_eq_getElem hk, Option.bind_some, dec_t (by omega : (200 : Int) < (l[k].length : Int))])
    (fun hb => by simp only [gleaninglaw5_FrameTorn_l2, dec_f (by omega : ¬ (l.length : Int) < (l.length : Int)), Bool.false_eq_true, if_false, List.take_length])
  have h00 : (catB (l.take 0), ends 0, ((0 : Nat) : Int)) = ([], [], 0) := rfl
  simp only [h00] at hA
  rw [hA]
  cases hany : l.any fun x => decide (200 < x.length) with
  | true => rfl
  | false =>
    have hall : ∀ x ∈ l, decide (200 < x.length) = false := by simpa using hany
    have hall2 : ∀ x ∈ l, x.length ≤ 1000 := fun x hx => by have := hall x hx; simp at this; omega
    have hcl : (catB l).length ≤ 4280 := by have := hle l.length (by rw [List.take_length]; exact hall); rwa [List.take_length] at this
    simp only [Bool.false_eq_true, if_false, Option.bind_some, Sum.elim_inl, gleaninglaw5_FrameTorn_k1]
    have hsp := split_cat l [] hall2 (by simp; omega) (by simp [oneF, getN, getA])
    rw [List.append_nil] at hsp
    simp only [hsp, Option.bind_some, same_spec l l (by omega), decide_true, Bool.not_true, Bool.false_eq_true, if_false, bne_self_eq_false, Sum.elim_inl, gleaninglaw5_FrameTorn_k3]
    have hw : IntKind.i64.wrap (((catB l).length : Int) + 1) = (((catB l).length + 1 : Nat) : Int) := wrap_succ (by omega)
    rw [hw, gd_pos (by omega)]
    have htm : Int.tmod (c : Int) (((catB l).length + 1 : Nat) : Int) = ((c % ((catB l).length + 1) : Nat) : Int) := by rw [Int.tmod_eq_emod_of_nonneg (by omega)]; rfl
    have hk0 : c % ((catB l).length + 1) ≤ (catB l).length := Nat.lt_succ_iff.1 (Nat.mod_lt _ (by omega))
    generalize hkk : c % ((catB l).length + 1) = k at hk0 htm
    -- how many are whole
    have hB : ∃ n, n ≤ l.length ∧ (catB (l.take n)).length ≤ k ∧ (n = l.length ∨ k < (catB (l.take (n + 1))).length) ∧ loopN (fun (s : Int × Int) => gleaninglaw5_FrameTorn_l5 l (c : Int) (catB l) (ends l.length) s.1 s.2) Fu (0, 0) = some ((n : Int), ((catB (l.take n)).length : Int)) := by
      obtain ⟨r, h1, h2⟩ := loop_inv (body := fun (s : Int × Int) => gleaninglaw5_FrameTorn_l5 l (c : Int) (catB l) (ends l.length) s.1 s.2) (fun m s => ∃ n : Nat, n ≤ l.length ∧ m = l.length - n ∧ (catB (l.take n)).length ≤ k ∧ s = ((n : Int), ((catB (l.take n)).length : Int)))
        (fun r => ∃ n : Nat, n ≤ l.length ∧ (catB (l.take n)).length ≤ k ∧ (n = l.length ∨ k < (catB (l.take (n + 1))).length) ∧ r = ((n : Int), ((catB (l.take n)).length : Int)))
        (fun m s ⟨n, hn, hm, hnk, hs⟩ => by
          subst hs
          by_cases e : n = l.length
          · subst e
            refine .inr ⟨_, ?_, l.length, Nat.le_refl _, hnk, .inl rfl, rfl⟩
            simp only [gleaninglaw5_FrameTorn_l5, dec_f (by omega : ¬ (l.length : Int) < (l.length : Int)), Bool.false_eq_true, if_false, Option.bind_some, Sum.elim_inr]
          · have hn2 : n < l.length := by omega
            have hge : (ends l.length)[n]? = some ((catB (l.take (n + 1))).length : Int) := by simp [ends, hn2]
            by_cases hle2 : (catB (l.take (n + 1))).length ≤ k
            · refine .inl ⟨_, l.length - (n + 1), ?_, by omega, n + 1, by omega, rfl, hle2, rfl⟩
              simp only [gleaninglaw5_FrameTorn_l5, dec_t (by omega : (n : Int) < (l.length : Int)), if_true, gd_pos (by omega : (0 : Int) ≤ (n : Int)), Int.toNat_natCast, hge, Option.bind_some, hw, htm, dec_t (by omega : ((catB (l.take (n + 1))).length : Int) ≤ (k : Int)), Sum.elim_inl, gleaninglaw5_FrameTorn_k6, wrap_succ (by omega : n < 1099511627776)]
            · refine .inr ⟨_, ?_, n, hn, hnk, .inr (by omega), rfl⟩
              simp only [gleaninglaw5_FrameTorn_l5, dec_t (by omega : (n : Int) < (l.length : Int)), if_true, gd_pos (by omega : (0 : Int) ≤ (n : Int)), Int.toNat_natCast, hge, Option.bind_some, hw, htm, dec_f (by omega : ¬ ((catB (l.take (n + 1))).length : Int) ≤ (k : Int)), Bool.false_eq_true, if_false, Sum.elim_inr])
        Fu l.length (0, 0) ⟨0, by omega, rfl, by simp [catB], by simp [catB]⟩ (by rw [fu_eq]; omega)
      obtain ⟨n, k1, k2, k3, rfl⟩ := h2
      exact ⟨n, k1, k2, k3, h1⟩
    obtain ⟨n, hn, hnk, hmax, hloop⟩ := hB
    rw [hloop, Option.bind_some, gleaninglaw5_FrameTorn_k4, hw, htm]
    have hsplit : (catB l).take k = catB (l.take n) ++ (catB (l.drop n)).take (k - (catB (l.take n)).length) := by
      conv => lhs; rw [← List.take_append_drop n l, catB_app]
      rw [List.take_append, List.take_of_length_le hnk]
    have htail : oneF ((catB (l.drop n)).take (k - (catB (l.take n)).length)) = none := by
      rcases hmax with rfl | hmax
      · simp [catB, oneF, getN, getA]
      · have hn2 : n < l.length := by
          rcases Nat.lt_or_ge n l.length with h | h
          · exact h
          · rw [List.take_of_length_le (show l.length ≤ n + 1 by omega)] at hmax; rw [List.take_of_length_le h] at hnk; omega
        rw [List.take_succ_eq_append_getElem hn2, catB_app, catB_one, List.length_append] at hmax
        rw [List.drop_eq_getElem_cons hn2, catB_cons, List.take_append_of_le_length (by omega)]
        exact oneF_cut _ (by have := hall2 l[n] (List.getElem_mem hn2); omega) (by omega)
    have hs2 := split_cat (l.take n) ((catB (l.drop n)).take (k - (catB (l.take n)).length)) (fun p hp => hall2 p (List.mem_of_mem_take hp)) (by rw [← hsplit, List.length_take]; omega) htail
    rw [← hsplit] at hs2
    rw [gd_pos (by omega), gd_pos (by omega), Int.toNat_natCast, hs2]
    simp only [Option.bind_some, gd_pos (by omega : (0 : Int) ≤ (n : Int)), gd_pos (by omega : (n : Int) ≤ (l.length : Int)), Int.toNat_natCast, same_spec (l.take n) (l.take n) (by simp; omega), decide_true, if_true, beq_self_eq_true]
/-- the loops that write records, one behind the other -/
theorem join_loop {body : List UInt8 × Int → Option ((List UInt8 × Int) ⊕ ((List UInt8) ⊕ Bool))} (l : List (List UInt8)) (hl : l.length ≤ 20)
    (h : ∀ (k : Nat) (o : List UInt8), k < l.length → o.length ≤ 4280 → body (o, (k : Int)) = if 200 < (l.getD k []).length then some (.inr (.inr true)) else some (.inl (o ++ recB (l.getD k []), ((k + 1 : Nat) : Int))))
    (hend : ∀ o : List UInt8, body (o, (l.length : Int)) = some (.inr (.inl o))) : loopN body Fu ([], 0) = some (if l.any (fun x => decide (200 < x.length)) then .inr true else .inl (catB l)) := by
  have hle : ∀ k, (∀ x ∈ l.take k, decide (200 < x.length) = false) → (catB (l.take k)).length ≤ 4280 := fun k h => by
    have := catB_le 200 (by decide) (l.take k) fun p hp => by have := h p hp; simp at this; omega
    have h2 : (l.take k).length ≤ 20 := by simp; omega
    omega
  have hd : ∀ k (hk : k < l.length), l.getD k [] = l[k] := fun k hk => by simp [hk]
  refine loop_write (body := body) (l := l) (fun x => decide (200 < x.length)) (fun k => (catB (l.take k), (k : Int))) (Sum.inl (catB l)) (Sum.inr true) (by omega) (fun k hk hb hx => ?_) (fun k hk hb hx => ?_) (fun hb => ?_)
  · have hx : ¬ 200 < l[k].length := by simpa using hx
    rw [h k _ hk (hle k hb), hd k hk, if_neg hx, List.take_succ_eq_append_getElem hk, catB_app, catB_one]
  · have hx : 200 < l[k].length := by simpa using hx
    rw [h k _ hk (hle k hb), hd k hk, if_pos hx]
  · rw [hend, List.take_length]
theorem or128_high (c : UInt8) : 128 ≤ (u8 (bits .or .u8 (c.toNat : Int) 128)).toNat := all_u8 (p := fun c => 128 ≤ (u8 (bits .or .u8 (c.toNat : Int) 128)).toNat) (by decide +kernel) c
theorem junk_none {j : Int} (hj : inI .u8 j) (r : List UInt8) : oneF ((u8 (bits .or .u8 j 128)) :: 0 :: r) = none := by
  have h0 := inU8 hj
  have hh : 128 ≤ (u8 (bits .or .u8 j 128)).toNat := by rw [u8_eq (e := j) (by omega)]; exact or128_high _
  have hg : getN ((u8 (bits .or .u8 j 128)) :: 0 :: r) = none := by
    generalize u8 (bits .or .u8 j 128) = c at hh
    simp [getN, getA, hh]
  simp only [oneF, hg]
theorem frameJoin_true (a b : List (List UInt8)) (junk : Int) (ha : a.length ≤ maxLen ∧ ∀ y ∈ a, y.length ≤ maxLen) (hb : b.length ≤ maxLen ∧ ∀ y ∈ b, y.length ≤ maxLen) (hj : inI .u8 junk) : gleaninglaw5_FrameJoin a b junk = some true := by
  simp only [gleaninglaw5_FrameJoin, alive5, Option.bind_some, Bool.not_true, Bool.false_eq_true, if_false]
  by_cases a1 : (12 : Int) < (a.length : Int)
  · simp [a1]
  by_cases a2 : (12 : Int) < (b.length : Int)
  · simp [a1, a2]
  simp only [a1, a2, decide_false, Bool.false_eq_true, if_false, Option.bind_some, Sum.elim_inl, gleaninglaw5_FrameJoin_k0]
  have hA := join_loop (body := fun (s : List UInt8 × Int) => gleaninglaw5_FrameJoin_l2 a s.1 s.2) a (by omega) (fun k o hk ho => by
    have hd : a.getD k [] = a[k] := by simp [hk]
    rw [hd]
    by_cases hx : 200 < a[k].length
    · simp only [gleaninglaw5_FrameJoin_l2, dec_t (by omega : (k : Int) < (a.length : Int)), if_true, gd_pos (by omega : (0 : Int) ≤ (k : Int)), Int.toNat_natCast, List.getElem?_eq_getElem hk, Option.bind_some, dec_t (by omega : (200 : Int) < (a[k].length : Int)), if_pos hx]
    · have h10 := putN_len10 (n := a[k].length) (by omega)
      simp only [gleaninglaw5_FrameJoin_l2, dec_t (by omega : (k : Int) < (a.length : Int)), if_true, gd_pos (by omega : (0 : Int) ≤ (k : Int)), Int.toNat_natCast, List.getElem?_eq_getElem hk, Option.bind_some, dec_f (by omega : ¬ (200 : Int) < (a[k].length : Int)), Bool.false_eq_true, if_false, if_neg hx, frame_spec _ (by omega : a[k].length ≤ 549755813888)]
      rw [gd_pos (by rw [List.length_append, recB_len]; omega), wrap_succ (by omega)])
    (fun o => by simp only [gleaninglaw5_FrameJoin_l2, dec_f (by omega : ¬ (a.length : Int) < (a.length : Int)), Bool.false_eq_true, if_false])
  have hB := join_loop (body := fun (s : List UInt8 × Int) => gleaninglaw5_FrameJoin_l4 b s.1 s.2) b (by omega) (fun k o hk ho => by
    have hd : b.getD k [] = b[k] := by simp [hk]
    rw [hd]
    by_cases hx : 200 < b[k].length
    · simp only [gleaninglaw5_FrameJoin_l4, dec_t (by omega : (k : Int) < (b.length : Int)), if_true, gd_pos (by omega : (0 : Int) ≤ (k : Int)), Int.toNat_natCast, List.getElem?_eq_getElem hk, Option.bind_some, dec_t (by omega : (200 : Int) < (b[k].length : Int)), if_pos hx]
    · have h10 := putN_len10 (n := b[k].length) (by omega)
      simp only [gleaninglaw5_FrameJoin_l4, dec_t (by omega : (k : Int) < (b.length : Int)), if_true, gd_pos (by omega : (0 : Int) ≤ (k : Int)), Int.toNat_natCast, List.getElem?_eq_getElem hk, Option.bind_some, dec_f (by omega : ¬ (200 : Int) < (b[k].length : Int)), Bool.false_eq_true, if_false, if_neg hx, frame_spec _ (by omega : b[k].length ≤ 549755813888)]
      rw [gd_pos (by rw [List.length_append, recB_len]; omega), wrap_succ (by omega)])
    (fun o => by simp only [gleaninglaw5_FrameJoin_l4, dec_f (by omega : ¬ (b.length : Int) < (b.length : Int)), Bool.false_eq_true, if_false])
  rw [hA]
  cases hany : a.any fun x => decide (200 < x.length) with
  | true => rfl
  | false =>
  simp only [Bool.false_eq_true, if_false, Option.bind_some, Sum.elim_inl, gleaninglaw5_FrameJoin_k1]
  rw [hB]
  cases hany2 : b.any fun x => decide (200 < x.length) with
  | true => rfl
  | false =>
  have hall : ∀ x ∈ a, x.length ≤ 200 := by
    have : ∀ x ∈ a, decide (200 < x.length) = false := by simpa using hany
    exact fun x hx => by have := this x hx; simp at this; omega
  have hall2 : ∀ x ∈ b, x.length ≤ 200 := by
    have : ∀ x ∈ b, decide (200 < x.length) = false := by simpa using hany2
    exact fun x hx => by have := this x hx; simp at this; omega
  have l1 := catB_le 200 (by decide) a hall
  have l2 := catB_le 200 (by decide) b hall2
  have hs1 := split_cat (a ++ b) [] (fun p hp => by rcases List.mem_append.1 hp with h | h; have := hall p h; omega; have := hall2 p h; omega) (by rw [catB_app]; simp; omega) (by simp [oneF, getN, getA])
  have hs2 := split_cat a ((u8 (bits .or .u8 junk 128)) :: 0 :: catB b) (fun p hp => by have := hall p hp; omega) (by simp; omega) (junk_none hj _)
  rw [List.append_nil, catB_app] at hs1
  have e2 : (catB a ++ [u8 (bits .or .u8 junk 128), (0 : UInt8)]) ++ catB b = catB a ++ ((u8 (bits .or .u8 junk 128)) :: 0 :: catB b) := by simp
  simp only [Bool.false_eq_true, if_false, Option.bind_some, Sum.elim_inl, gleaninglaw5_FrameJoin_k3]
  have g1 : (catB a).length * 1 ≤ 140737488355328 ∧ (catB a).length ≤ 140737488355328 := by omega
  have g2 : (catB a ++ catB b).length * 1 ≤ 140737488355328 ∧ (catB a ++ catB b).length ≤ 140737488355328 := by rw [List.length_append]; omega
  have g3 : (catB a ++ [u8 (bits .or .u8 junk 128), (0 : UInt8)]).length * 1 ≤ 140737488355328 ∧ (catB a ++ [u8 (bits .or .u8 junk 128), (0 : UInt8)]).length ≤ 140737488355328 := by simp only [List.length_append, List.length_cons, List.length_nil]; omega
  have g4 : ((catB a ++ [u8 (bits .or .u8 junk 128), (0 : UInt8)]) ++ catB b).length * 1 ≤ 140737488355328 ∧ ((catB a ++ [u8 (bits .or .u8 junk 128), (0 : UInt8)]) ++ catB b).length ≤ 140737488355328 := by simp only [List.length_append, List.length_cons, List.length_nil]; omega
  have g5 : a.length * 24 ≤ 140737488355328 ∧ a.length ≤ 140737488355328 := by omega
  have g6 : (a ++ b).length * 24 ≤ 140737488355328 ∧ (a ++ b).length ≤ 140737488355328 := by rw [List.length_append]; omega
  have hw : IntKind.i64.wrap (((catB a).length : Int) + ((catB b).length : Int)) = ((catB a ++ catB b).length : Int) := by rw [w64 (by omega) (by omega), List.length_append]; push_cast; rfl
  rw [← e2] at hs2
  simp only [gd_pos g1, gd_pos g2, gd_pos g3, gd_pos g4, gd_pos g5, gd_pos g6, hs1, hs2, Option.bind_some, same_spec (a ++ b) (a ++ b) (by rw [List.length_append]; omega), same_spec a a (by omega), decide_true, if_true, hw, beq_self_eq_true]
/-! ### a turned bit -/
theorem oneF_bad (p q r : List UInt8) (hp : p.length < 18446744073709551616) (hl : q.length = p.length) (hs : sumB q ≠ sumB p) : oneF (putN p.length ++ fourN (sumB p).toNat ++ q ++ r) = none := by
  have e : putN p.length ++ fourN (sumB p).toNat ++ q ++ r = putN p.length ++ (fourN (sumB p).toNat ++ (q ++ r)) := by simp
  simp only [oneF, e, getN_put hp, List.drop_left]
  have h4 : (fourN (sumB p).toNat ++ (q ++ r)).drop 4 = q ++ r := List.drop_left (l₁ := fourN (sumB p).toNat)
  have t4 : (fourN (sumB p).toNat ++ (q ++ r)).take 4 = fourN (sumB p).toNat := List.take_left (l₁ := fourN (sumB p).toNat)
  have hll : (fourN (sumB p).toNat ++ (q ++ r)).length = 4 + (q.length + r.length) := by simp [fourN_length]
  have ht : (q ++ r).take p.length = q := by rw [← hl, List.take_left]
  rw [if_neg (by omega), if_neg (by omega), h4, t4, ht, if_neg]
  intro h
  exact hs (BitVec.eq_of_toNat_eq (fourN_inj (sumB q).isLt (sumB p).isLt h))
theorem bit_prog (q : Nat) (h : q < 8) : u8 (IntKind.u8.wrap (1 * 2 ^ (min (Int.toNat (IntKind.u64.wrap (q : Int))) (IntKind.bits .u8)))) = bitB q := by
  have : q = 0 ∨ q = 1 ∨ q = 2 ∨ q = 3 ∨ q = 4 ∨ q = 5 ∨ q = 6 ∨ q = 7 := by omega
  rcases this with rfl | rfl | rfl | rfl | rfl | rfl | rfl | rfl <;> decide
theorem frameTurned_true (l : List (List UInt8)) (at_ by_ bit : Int) (hl : l.length ≤ maxLen ∧ ∀ y ∈ l, y.length ≤ maxLen) (ha : inI .i64 at_) (hb : inI .i64 by_) (hq : inI .i64 bit) : gleaninglaw5_FrameTurned l at_ by_ bit = some true := by
  simp only [gleaninglaw5_FrameTurned, alive5, Option.bind_some, Bool.not_true, Bool.false_eq_true, if_false]
  by_cases a1 : (l.length : Int) < 1
  · simp [a1]
  by_cases a2 : (12 : Int) < (l.length : Int)
  · simp [a1, a2]
  by_cases a3 : at_ < 0
  · simp [a1, a2, a3]
  by_cases a4 : (l.length : Int) ≤ at_
  · simp [a1, a2, a3, a4]
  by_cases a5 : by_ < 0
  · simp [a1, a2, a3, a4, a5]
  by_cases a6 : bit < 0
  · simp [a1, a2, a3, a4, a5, a6]
  by_cases a7 : (7 : Int) < bit
  · simp [a1, a2, a3, a4, a5, a6, a7]
  simp only [a1, a2, a3, a4, a5, a6, a7, decide_false, Bool.false_eq_true, if_false, Option.bind_some, Sum.elim_inl, gleaninglaw5_FrameTurned_k0]
  obtain ⟨n, rfl⟩ := Int.eq_ofNat_of_zero_le (by omega : 0 ≤ at_)
  obtain ⟨y, rfl⟩ := Int.eq_ofNat_of_zero_le (by omega : 0 ≤ by_)
  obtain ⟨q, rfl⟩ := Int.eq_ofNat_of_zero_le (by omega : 0 ≤ bit)
  have hn : n < l.length := by omega
  have hle : ∀ k, (∀ x ∈ l.take k, decide (100 < x.length) = false) → (catB (l.take k)).length ≤ 1368 := fun k h => by
    have := catB_le 100 (by decide) (l.take k) fun p hp => by have := h p hp; simp at this; omega
    have h2 : (l.take k).length ≤ 12 := by simp; omega
    omega
  have hA := loop_write (body := fun (s : List UInt8 × Int × Int) => gleaninglaw5_FrameTurned_l2 l (n : Int) s.1 s.2.1 s.2.2) (l := l) (fun x => decide (100 < x.length)) (fun k => (catB (l.take k), (if n < k then ((catB (l.take n)).length : Int) else 0), (k : Int))) (Sum.inl (catB l, ((catB (l.take n)).length : Int))) (Sum.inr true) (by omega)
    (fun k hk hb h => by
      have hx : l[k].length ≤ 100 := by simpa using h
      have h1 := hle k hb
      have h10 := putN_len10 (n := l[k].length) (by omega)
      have hcat : catB (l.take (k + 1)) = catB (l.take k) ++ recB l[k] := by rw [List.take_succ_eq_append_getElem hk, catB_app, catB_one]
      have hfrom : (if ((k : Int) == (n : Int)) = true then (some ((catB (l.take k)).length : Int)) else (some (if n < k then ((catB (l.take n)).length : Int) else 0))) = some (if n < k + 1 then ((catB (l.take n)).length : Int) else 0) := by
        by_cases e : k = n
        · subst e; simp
        · have : ((k : Int) == (n : Int)) = false := by simp only [beq_eq_false_iff_ne]; omega
          rw [ite_f this]
          by_cases e2 : n < k
          · rw [if_pos e2, if_pos (by omega)]
          · rw [if_neg e2, if_neg (by omega)]
      simp only [gleaninglaw5_FrameTurned_l2, dec_t (by omega : (k : Int) < (l.length : Int)), if_true, gd_pos (by omega : (0 : Int) ≤ (k : Int)), Int.toNat_natCast, List.getElem?_eq_getElem hk, Option.bind_some, dec_f (by omega : ¬ (100 : Int) < (l[k].length : Int)), Bool.false_eq_true, if_false]
      rw [hfrom]
      simp only [Option.bind_some, gleaninglaw5_FrameTurned_k3, gd_pos (by omega : (0 : Int) ≤ (k : Int)), Int.toNat_natCast, List.getElem?_eq_getElem hk, frame_spec _ (by omega : l[k].length ≤ 549755813888), ← hcat]
      rw [gd_pos (by rw [hcat, List.length_append, recB_len]; omega), wrap_succ (by omega)])
    (fun k hk hb h => by
      have hx : 100 < l[k].length := by simpa using h
      simp only [gleaninglaw5_FrameTurned_l2, dec_t (by omega : (k : Int) < (l.length : Int)), if_true, gd_pos (by omega : (0 : Int) ≤ (k : Int)), Int.toNat_natCast, List.getElem?_eq_getElem hk, Option.bind_some, dec_t (by omega : (100 : Int) < (l[k].length : Int))])
    (fun hb => by simp only [gleaninglaw5_FrameTurned_l2, dec_f (by omega : ¬ (l.length : Int) < (l.length : Int)), Bool.false_eq_true, if_false, List.take_length, if_pos hn])
  have h00 : (catB (l.take 0), (if n < 0 then ((catB (l.take n)).length : Int) else 0), ((0 : Nat) : Int)) = ([], 0, 0) := rfl
  simp only [h00] at hA
  rw [hA]
  cases hany : l.any fun x => decide (100 < x.length) with
  | true => rfl
  | false =>
  have hall : ∀ x ∈ l, x.length ≤ 100 := by
    have : ∀ x ∈ l, decide (100 < x.length) = false := by simpa using hany
    exact fun x hx => by have := this x hx; simp at this; omega
  have hcl : (catB l).length ≤ 1368 := by
    have := catB_le 100 (by decide) l hall
    omega
  simp only [Bool.false_eq_true, if_false, Option.bind_some, Sum.elim_inl, gleaninglaw5_FrameTurned_k1, gd_pos (by omega : (0 : Int) ≤ (n : Int)), Int.toNat_natCast, List.getElem?_eq_getElem hn]
  generalize hp : l[n] = p
  have hpl : p.length ≤ 100 := by rw [← hp]; exact hall _ (List.getElem_mem hn)
  by_cases h0 : p.length = 0
  · simp [h0]
  have z : ((p.length : Int) == 0) = false := by simp only [beq_eq_false_iff_ne]; omega
  have htm : Int.tmod (y : Int) (p.length : Int) = ((y % p.length : Nat) : Int) := by rw [Int.tmod_eq_emod_of_nonneg (by omega)]; rfl
  have hi : y % p.length < p.length := Nat.mod_lt _ (by omega)
  generalize y % p.length = i at htm hi
  have hput : (putN p.length).length = 1 := by rw [putN_lt (by omega)]; rfl
  have hsplit : catB l = catB (l.take n) ++ (recB p ++ catB (l.drop (n + 1))) := by
    conv => lhs; rw [← List.take_append_drop n l, catB_app, List.drop_eq_getElem_cons hn, catB_cons, hp]
  have hlen : (catB l).length = (catB (l.take n)).length + (5 + p.length + (catB (l.drop (n + 1))).length) := by rw [hsplit]; simp only [List.length_append, recB_len, hput]
  have hw1 : IntKind.i64.wrap (((catB (l.take n)).length : Int) + 5) = (((catB (l.take n)).length + 5 : Nat) : Int) := by rw [w64 (by omega) (by omega)]; push_cast; rfl
  have hw2 : IntKind.i64.wrap ((((catB (l.take n)).length + 5 : Nat) : Int) + (i : Int)) = (((catB (l.take n)).length + 5 + i : Nat) : Int) := by rw [w64 (by omega) (by omega)]; push_cast; rfl
  have hk : (catB (l.take n)).length + 5 + i < (catB l).length := by omega
  have hg : (catB l)[(catB (l.take n)).length + 5 + i]? = some p[i] := by
    rw [hsplit, List.getElem?_append_right (by omega), List.getElem?_append_left (by rw [recB_len, hput]; omega), recB, List.getElem?_append_right (by simp only [List.length_append, hput, fourN_length]; omega)]
    rw [show (catB (l.take n)).length + 5 + i - (catB (l.take n)).length - (putN p.length ++ fourN (sumB p).toNat).length = i by simp only [List.length_append, hput, fourN_length]; omega]
    exact List.getElem?_eq_getElem hi
  have hwq : ¬ IntKind.u64.wrap (q : Int) < 0 := by rw [wrap_u64 _ (by omega)]; omega
  simp only [z, Bool.false_eq_true, if_false, gd_pos (by omega : ¬ (p.length : Int) = 0), htm, hw1, hw2, dec_f (by omega : ¬ ((catB l).length : Int) ≤ (((catB (l.take n)).length + 5 + i : Nat) : Int)), gd_pos (by omega : (0 : Int) ≤ (((catB (l.take n)).length + 5 + i : Nat) : Int)), Int.toNat_natCast, hg, Option.bind_some, gd_pos hwq, bit_prog q (by omega), xor8, u8_toNat]
  have hset : (catB l).set ((catB (l.take n)).length + 5 + i) (p[i] ^^^ bitB q) = catB (l.take n) ++ (putN p.length ++ fourN (sumB p).toNat ++ flip p i (bitB q) ++ catB (l.drop (n + 1))) := by
    rw [hsplit, List.set_append_right _ _ (by omega), List.set_append_left _ _ (by rw [recB_len, hput]; omega), recB, List.set_append_right _ _ (by simp only [List.length_append, hput, fourN_length]; omega)]
    rw [show (catB (l.take n)).length + 5 + i - (catB (l.take n)).length - (putN p.length ++ fourN (sumB p).toNat).length = i by simp only [List.length_append, hput, fourN_length]; omega]
    simp only [flip, List.getD_eq_getElem?_getD, List.getElem?_eq_getElem hi, Option.getD_some]
  have hbad : sumB (flip p i (bitB q)) ≠ sumB p := by
    have := turn_one p (8 * i + q) (by omega)
    rwa [show (8 * i + q) / 8 = i by omega, show (8 * i + q) % 8 = q by omega] at this
  have hs := split_cat (l.take n) (putN p.length ++ fourN (sumB p).toNat ++ flip p i (bitB q) ++ catB (l.drop (n + 1))) (fun x hx => by have := hall x (List.mem_of_mem_take hx); omega) (by rw [← hset, List.length_set]; omega) (oneF_bad p _ _ (by omega) (flip_length _ _ _) hbad)
  rw [hset, hs]
  simp only [Option.bind_some, gd_pos (by omega : (0 : Int) ≤ (n : Int)), gd_pos (by omega : (n : Int) ≤ (l.length : Int)), Int.toNat_natCast, same_spec (l.take n) (l.take n) (by simp; omega), decide_true, if_true, beq_self_eq_true]
end Go.Proofs.Ytlkdpgemdopbfaa.Ab
