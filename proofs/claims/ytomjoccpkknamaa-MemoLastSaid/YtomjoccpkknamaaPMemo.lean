/- Chapter 17's law on the last verdicts holds of the pure functions. -/
import Derived.Test.YtomjoccpkknamaaXMemo
import Derived.Test.YtomjoccpkknamaaPKit
namespace Go.Proofs.Ytomjoccpkknamaa.Ab
open Go Go.RowKit
set_option linter.unusedVariables false
set_option linter.unusedSimpArgs false

abbrev KB := Nat × Bool
def vk (x : KB) : Verdict := Verdict.mk (Trace.mk 0 (x.1 : Int)) x.2
def vks (l : List KB) : List Verdict := l.map vk
def putI (l : List KB) (v : KB) : List KB := v :: l.filter fun x => x.1 != v.1
theorem vk_same (x v : KB) : (((vk x).Trace.Hi == (vk v).Trace.Hi) && (((vk x).Trace.Lo == (vk v).Trace.Lo) && true)) = (x.1 == v.1) := by
  simp only [vk, beq_self_eq_true, Bool.true_and, Bool.and_true]
  rw [Bool.eq_iff_iff, beq_iff_eq, beq_iff_eq]; omega
theorem wsucc {k : Nat} (h : k < 1099511627776) : IntKind.i64.wrap ((k : Int) + 1) = ((k + 1 : Nat) : Int) := by rw [w64 (by omega) (by omega)]; push_cast; rfl
theorem put_memo (l : List KB) (v : KB) (m : Nat) (hl : l.length ≤ 4294967296) : memo_Put (vks l) (vk v) (m : Int) = some (vks ((putI l v).take m)) := by
  have hloop : loopN (fun (s : List Verdict × Int) => memo_Put_l1 (vks l) (vk v) s.1 s.2) Fu ([vk v], 0) = some (vks (putI l v)) := by
    refine loop_list (l := l) (fun k r s => s = (vks (putI (l.take k) v), (k : Int)) ∧ r = vks (putI l v)) (by omega) ?_ ?_ ⟨rfl, rfl⟩
    · rintro k hk r s ⟨rfl, rfl⟩
      have hlen : (vks l).length = l.length := by simp [vks]
      have hg : (vks l)[k]? = some (vk l[k]) := by simp [vks, hk]
      have hfl : ((l.take k).filter fun x => x.1 != v.1).length ≤ k := Nat.le_trans (List.length_filter_le _ _) (by simp; omega)
      refine .inl ⟨(vks (putI (l.take (k + 1)) v), ((k + 1 : Nat) : Int)), ?_, rfl, rfl⟩
      simp only [memo_Put_l1, hlen, dec_t (by omega : (k : Int) < (l.length : Int)), if_true, gd_pos (by omega : (0 : Int) ≤ (k : Int)), Int.toNat_natCast, hg, Option.bind_some, vk_same, wsucc (by omega : k < 1099511627776)]
      rw [List.take_succ_eq_append_getElem hk]
      by_cases e : l[k].1 = v.1
      · have h1 : (l[k].1 == v.1) = true := by simpa using e
        simp only [h1, Bool.not_true, Bool.false_eq_true, if_false, putI, List.filter_append, List.filter_cons, List.filter_nil, bne, List.append_nil]
      · have h1 : (l[k].1 == v.1) = false := by simpa using e
        simp only [h1, Bool.not_false, if_true, putI, List.filter_append, List.filter_cons, List.filter_nil, bne]
        refine gd_some' ?_ ?_
        · have : (vks (v :: (l.take k).filter fun x => x.1 != v.1)).length ≤ k + 1 := by simp only [vks, List.length_map, List.length_cons]; omega
          have h2 : (vks (v :: (l.take k).filter fun x => !(x.1 == v.1)) ++ [vk l[k]]).length ≤ k + 2 := by rw [List.length_append]; exact Nat.succ_le_succ this
          omega
        · simp [vks]
    · rintro r s ⟨rfl, rfl⟩
      have hlen : (vks l).length = l.length := by simp [vks]
      simp only [memo_Put_l1, hlen, dec_f (by omega : ¬ (l.length : Int) < (l.length : Int)), Bool.false_eq_true, if_false, List.take_length]
  rw [memo_Put, hloop, Option.bind_some, memo_Put_k0]
  have hn : (vks (putI l v)).length = (putI l v).length := by simp [vks]
  rw [hn]
  have hc : (if (if (m : Int) < ((putI l v).length : Int) then (m : Int) else ((putI l v).length : Int)) > 0 then (if (m : Int) < ((putI l v).length : Int) then (m : Int) else ((putI l v).length : Int)) else 0) = ((min m (putI l v).length : Nat) : Int) := by
    by_cases h : m < (putI l v).length
    · rw [if_pos (by omega : (m : Int) < ((putI l v).length : Int)), Nat.min_eq_left (by omega)]; split <;> omega
    · rw [if_neg (by omega : ¬ (m : Int) < ((putI l v).length : Int)), Nat.min_eq_right (by omega)]; split <;> omega
  rw [hc, gd_pos (by omega), gd_pos (by omega), Int.toNat_natCast]
  congr 1
  simp only [vks, List.map_take]
  rw [← List.take_eq_take_iff.2 (by simp : min (min m (putI l v).length) (List.map vk (putI l v)).length = min m (List.map vk (putI l v)).length)]
/-- all that is remembered of a row, the newest first -/
def nub : List KB → List KB
  | [] => []
  | v :: r => v :: (nub r).filter fun x => x.1 != v.1
theorem putI_nub (v : KB) (r : List KB) : putI (nub r) v = nub (v :: r) := rfl
theorem nub_nodup : ∀ r : List KB, ((nub r).map (·.1)).Nodup
  | [] => List.nodup_nil
  | v :: r => by
    have ih := nub_nodup r
    simp only [nub, List.map_cons, List.nodup_cons]
    refine ⟨fun h => ?_, ?_⟩
    · obtain ⟨x, hx, e⟩ := List.mem_map.1 h
      have := (List.mem_filter.1 hx).2
      simp [e] at this
    · exact ih.sublist ((List.filter_sublist).map _)
theorem filter_take (p : KB → Bool) : ∀ (l : List KB) (m : Nat), (l.filter fun x => !p x).length ≤ 1 → ((l.take (m + 1)).filter p).take m = (l.filter p).take m
  | [], m, _ => by simp
  | x :: l, 0, h => by simp
  | x :: l, m + 1, h => by
    cases hp : p x with
    | true =>
      simp only [List.filter_cons, hp, Bool.not_true, Bool.false_eq_true, if_false] at h
      simp only [List.take_succ_cons, List.filter_cons, hp, if_true]
      rw [filter_take p l m h]
    | false =>
      have h0 : ∀ y ∈ l, p y = true := by
        simp only [List.filter_cons, hp, Bool.not_false, if_true, List.length_cons] at h
        have h1 : (l.filter fun x => !p x) = [] := List.eq_nil_of_length_eq_zero (by omega)
        intro y hy
        have := List.filter_eq_nil_iff.1 h1 y hy
        simpa using this
      simp only [List.take_succ_cons, List.filter_cons, hp, Bool.false_eq_true, if_false]
      rw [List.filter_eq_self.2 h0, List.filter_eq_self.2 fun y hy => h0 y (List.mem_of_mem_take hy), List.take_take, Nat.min_eq_left (by omega)]
theorem put_take (r : List KB) (v : KB) (m : Nat) : (putI ((nub r).take m) v).take m = (nub (v :: r)).take m := by
  cases m with
  | zero => simp
  | succ m =>
    simp only [putI, nub, List.take_succ_cons]
    congr 1
    refine filter_take _ _ _ ?_
    have hn := nub_nodup r
    generalize nub r = l at hn
    induction l with
    | nil => simp
    | cons x l ih =>
      simp only [List.map_cons, List.nodup_cons] at hn
      by_cases e : x.1 = v.1
      · have : ∀ y ∈ l, (!(y.1 != v.1)) = false := fun y hy => by
          have : y.1 ≠ v.1 := fun e2 => hn.1 (List.mem_map.2 ⟨y, hy, by rw [e2, e]⟩)
          simp [this]
        rw [List.filter_cons, List.filter_eq_nil_iff.2 (fun y hy => by rw [this y hy]; decide)]
        split <;> simp
      · have : (!(x.1 != v.1)) = false := by simp [e]
        rw [List.filter_cons, this]
        exact ih hn.2
theorem and31 (x : Int) : bits .and .i64 x 31 = ((x % 32).toNat : Int) := by
  show IntKind.i64.wrap (((BitVec.ofInt 64 x) &&& (BitVec.ofInt 64 31)).toNat : Int) = _
  have h : ((BitVec.ofInt 64 x) &&& (BitVec.ofInt 64 31)).toNat = (x % 32).toNat := by
    rw [BitVec.toNat_and, show (BitVec.ofInt 64 31).toNat = 2 ^ 5 - 1 from rfl, Nat.and_two_pow_sub_one_eq_mod, BitVec.toNat_ofInt]
    omega
  rw [h, w64 (by omega) (by omega)]
theorem memoLast_true (ts : List Int) (ks : List Bool) (most : Int) (ht : ts.length ≤ maxLen ∧ ∀ y ∈ ts, inI .i64 y) (hk : ks.length ≤ maxLen ∧ ∀ y ∈ ks, True) (hm : inI .i64 most) : gleaninglaw17_MemoLast ts ks most = some true := by
  have alive : gleaninglaw17_alive = some true := by
    have h1 := put_memo [] (0, true) 3 (by decide)
    have e1 : memo_Put [] (Verdict.mk (Trace.mk 0 0) true) 3 = some [Verdict.mk (Trace.mk 0 0) true] := h1
    have e2 : memo_Find [] (Trace.mk 0 0) = some (false, false) := by decide +kernel
    have e3 : memo_Find [Verdict.mk (Trace.mk 0 0) true] (Trace.mk 0 0) = some (true, true) := by decide +kernel
    simp only [gleaninglaw17_alive, e1, e2, e3, Option.bind_some]
    rfl
  simp only [gleaninglaw17_MemoLast, alive, Option.bind_some, Bool.not_true, Bool.false_eq_true, if_false]
  by_cases a1 : (80 : Int) < (ts.length : Int)
  · simp [a1]
  by_cases a2 : (ks.length : Int) < (ts.length : Int)
  · simp [a1, a2]
  by_cases a3 : most < 0
  · simp [a1, a2, a3]
  by_cases a4 : (40 : Int) < most
  · simp [a1, a2, a3, a4]
  simp only [a1, a2, a3, a4, decide_false, Bool.false_eq_true, if_false, Option.bind_some, Sum.elim_inl, gleaninglaw17_MemoLast_k0]
  obtain ⟨m, rfl⟩ := Int.eq_ofNat_of_zero_le (by omega : 0 ≤ most)
  -- the row of keys and verdicts, oldest first
  let kb : Nat → KB := fun i => (((ts.getD i 0) % 32).toNat, ks.getD i false)
  let old : Nat → List KB := fun n => ((List.range n).map kb).reverse   -- the newest first
  have hold : ∀ n, old (n + 1) = kb n :: old n := fun n => by simp [old, List.range_succ]
  have hnl : ∀ n, (nub (old n)).length ≤ n := fun n => by
    induction n with
    | zero => simp [old, nub]
    | succ n ih => rw [hold, nub, List.length_cons]; have := List.length_filter_le (fun x : KB => x.1 != (kb n).1) (nub (old n)); omega
  have hA : loopN (fun (s : List Verdict × Int) => gleaninglaw17_MemoLast_l2 ts ks (m : Int) s.1 s.2) Fu ([], 0) = some (vks ((nub (old ts.length)).take m)) := by
    refine loop_list (l := ts) (fun k r s => s = (vks ((nub (old k)).take m), (k : Int)) ∧ r = vks ((nub (old ts.length)).take m)) (by omega) ?_ ?_ ⟨by simp [old, nub, vks], rfl⟩
    · rintro k hk r s ⟨rfl, rfl⟩
      have hk2 : k < ks.length := by omega
      refine .inl ⟨(vks ((nub (old (k + 1))).take m), ((k + 1 : Nat) : Int)), ?_, rfl, rfl⟩
      have hv : Verdict.mk (Trace.mk 0 (IntKind.u64.wrap (bits .and .i64 ts[k] 31))) ks[k] = vk (kb k) := by
        rw [and31, wrap_u64 _ (by omega)]
        simp [vk, kb, hk, hk2]
      simp only [gleaninglaw17_MemoLast_l2, dec_t (by omega : (k : Int) < (ts.length : Int)), if_true, gd_pos (by omega : (0 : Int) ≤ (k : Int)), Int.toNat_natCast, List.getElem?_eq_getElem hk, List.getElem?_eq_getElem hk2, Option.bind_some, hv]
      rw [put_memo _ _ _ (by simp; have := hnl k; omega), Option.bind_some, put_take, hold, wsucc (by omega)]
    · rintro r s ⟨rfl, rfl⟩
      simp only [gleaninglaw17_MemoLast_l2, dec_f (by omega : ¬ (ts.length : Int) < (ts.length : Int)), Bool.false_eq_true, if_false]
  rw [hA, Option.bind_some, gleaninglaw17_MemoLast_k1]
  -- read back
  let F := nub (old ts.length)
  have hFl : F.length ≤ 80 := by have := hnl ts.length; show (nub (old ts.length)).length ≤ 80; omega
  have hkb : ∀ n, (kb n).1 < 32 := fun n => by simp only [kb]; omega
  have hB : loopN (fun (s : Int × List Bool × Int) => gleaninglaw17_MemoLast_l4 ts ks (m : Int) (vks (F.take m)) s.1 s.2.1 s.2.2) Fu (0, (List.replicate 32 false), (IntKind.i64.wrap ((ts.length : Int) - 1))) = some (.inl (F.length : Int)) := by
    refine loop_fu (fun q s r => ∃ (n : Nat) (seen : List Bool), s = ((n : Int), seen, (q : Int) - 1) ∧ r = .inl (F.length : Int) ∧ q ≤ ts.length ∧ seen.length = 32 ∧ n ≤ F.length ∧ F.drop n = (nub (old q)).filter (fun x => !(seen.getD x.1 false))) ?_
      ⟨0, List.replicate 32 false, by rw [w64 (by omega) (by omega)]; rfl, rfl, Nat.le_refl ts.length, by simp, by omega, ?_⟩ (by omega)
    · rintro q s r ⟨n, seen, rfl, rfl, hj, hs, hn, hd⟩
      cases q with
      | zero =>
        refine .inr ?_
        have : F.length ≤ n := by
          have h := congrArg List.length hd
          simp [old, nub] at h; omega
        simp only [gleaninglaw17_MemoLast_l4, dec_f (by omega : ¬ (0 : Int) ≤ (((0 : Nat) : Int) - 1)), Bool.false_eq_true, if_false]
        congr 3; omega
      | succ j =>
        have hjt : j < ts.length := by omega
        have hjk : j < ks.length := by omega
        have e1 : ((j + 1 : Nat) : Int) - 1 = (j : Int) := by omega
        have hkey : bits .and .i64 ts[j] 31 = ((kb j).1 : Int) := by rw [and31]; simp [kb, hjt]
        have hlt := hkb j
        have hsl : (kb j).1 < seen.length := by omega
        have hw : IntKind.i64.wrap ((j : Int) - 1) = (j : Int) - 1 := w64 (by omega) (by omega)
        have hget : seen.getD (kb j).1 false = seen[(kb j).1] := by simp [hsl]
        rw [hold, nub, List.filter_cons, List.filter_filter] at hd
        simp only [gleaninglaw17_MemoLast_l4, e1, dec_t (by omega : (0 : Int) ≤ (j : Int)), if_true, gd_pos (by omega : (0 : Int) ≤ (j : Int)), Int.toNat_natCast, List.getElem?_eq_getElem hjt, Option.bind_some, hkey, gd_pos (by omega : (0 : Int) ≤ ((kb j).1 : Int)), gd_pos (by omega : ((kb j).1 : Int) < 32), List.getElem?_eq_getElem hsl, hw]
        cases hse : seen[(kb j).1] with
        | true =>
          rw [hget, hse] at hd
          simp only [Bool.not_true, Bool.false_eq_true, if_false] at hd
          refine .inl ⟨(((n : Nat) : Int), seen, (j : Int) - 1), j, rfl, by omega, n, seen, rfl, (by first | rfl | trivial), by omega, hs, hn, ?_⟩
          rw [hd]
          refine List.filter_congr fun x _ => ?_
          by_cases e : x.1 = (kb j).1
          · rw [e, hget, hse]; simp
          · simp [e]
        | false =>
          rw [hget, hse] at hd
          simp only [Bool.not_false, if_true] at hd
          have hnF : n < F.length := by
            rcases Nat.lt_or_ge n F.length with h | h
            · exact h
            · rw [List.drop_of_length_le h] at hd; cases hd
          have hFn : F[n] = kb j := by
            have := List.drop_eq_getElem_cons hnF
            rw [hd] at this
            injection this with h1 _
            exact h1.symm
          have hd2 : F.drop (n + 1) = (nub (old j)).filter fun x => !((seen.set (kb j).1 true).getD x.1 false) := by
            have := List.drop_eq_getElem_cons hnF
            rw [hd] at this
            injection this with _ h2
            rw [← h2]
            refine List.filter_congr fun x hx => ?_
            by_cases e : x.1 = (kb j).1
            · rw [e]; simp [hsl]
            · simp only [List.getD_eq_getElem?_getD, List.getElem?_set_ne (Ne.symm e)]
              simp [e]
          have hset : (seen.set (kb j).1 true).length = 32 := by simp [hs]
          refine .inl ⟨(((n + 1 : Nat) : Int), seen.set (kb j).1 true, (j : Int) - 1), j, ?_, by omega, n + 1, _, rfl, (by first | rfl | trivial), by omega, hset, by omega, hd2⟩
          simp only [Bool.false_eq_true, if_false, wsucc (by omega : n < 1099511627776)]
          by_cases hnm : n < m
          · have hlen : (vks (F.take m)).length = min m F.length := by simp [vks]
            have hg : (vks (F.take m))[n]? = some (vk (kb j)) := by
              rw [vks, List.getElem?_map, List.getElem?_take, if_pos hnm, List.getElem?_eq_getElem hnF, hFn]; rfl
            have hcmp : (((vk (kb j)).Trace.Hi == 0) && (((vk (kb j)).Trace.Lo == (IntKind.u64.wrap ((kb j).1 : Int))) && (((vk (kb j)).Kept == ks[j]) && true))) = true := by
              rw [wrap_u64 _ (by omega)]
              simp [vk, kb, hjk]
            simp only [dec_t (by omega : (n : Int) < (m : Int)), if_true, hlen, dec_f (by omega : ¬ ((min m F.length : Nat) : Int) ≤ (n : Int)), Bool.false_eq_true, if_false, gd_pos (by omega : (0 : Int) ≤ (n : Int)), Int.toNat_natCast, hg, Option.bind_some, List.getElem?_eq_getElem hjk, hcmp, Bool.not_true]
          · simp only [dec_f (by omega : ¬ (n : Int) < (m : Int)), Bool.false_eq_true, if_false]
    · show (nub (old ts.length)).drop 0 = _
      rw [List.drop_zero]
      symm
      refine List.filter_eq_self.2 fun x _ => ?_
      have : (List.replicate 32 false).getD x.1 false = false := by rw [List.getD_eq_getElem?_getD, List.getElem?_replicate]; split <;> rfl
      rw [this]; rfl
  show Option.bind (loopN (fun (s : Int × List Bool × Int) => gleaninglaw17_MemoLast_l4 ts ks (m : Int) (vks (F.take m)) s.1 s.2.1 s.2.2) Fu (0, (List.replicate 32 false), (IntKind.i64.wrap ((ts.length : Int) - 1)))) (Sum.elim (fun (s : Int) => gleaninglaw17_MemoLast_k3 (m : Int) (vks (F.take m)) s) some) = some true
  rw [hB, Option.bind_some, Sum.elim_inl, gleaninglaw17_MemoLast_k3]
  have hlen : (vks (F.take m)).length = min m F.length := by simp [vks]
  by_cases h : m < F.length
  · simp only [dec_t (by omega : (m : Int) < (F.length : Int)), if_true, Option.bind_some, gleaninglaw17_MemoLast_k5, hlen, Nat.min_eq_left (Nat.le_of_lt h), beq_self_eq_true]
  · simp only [dec_f (by omega : ¬ (m : Int) < (F.length : Int)), Bool.false_eq_true, if_false, Option.bind_some, gleaninglaw17_MemoLast_k5, hlen, Nat.min_eq_right (by omega : F.length ≤ m), beq_self_eq_true]
end Go.Proofs.Ytomjoccpkknamaa.Ab
