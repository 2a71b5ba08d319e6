/- Which blocks go, told plainly. -/
import Derived.Test.YtejimiedoibkcaaXRFew
import Derived.Test.YtejimiedoibkcaaPSpanR
import Derived.Test.YtejimiedoibkcaaPBlk2
namespace Go.Proofs.Ytejimiedoibkcaa.Ab
open Go Go.RowKit
set_option linter.unusedVariables false
set_option linter.unusedSimpArgs false
def smallE (e : Episode) : Prop := e.Spans.length ≤ 60 ∧ ∀ s ∈ e.Spans, s.Attrs.length ≤ 20
theorem few15_spec (l : List Episode) : ∃ b, gleaninglaw15_Few l = some b ∧ (b = true → l.length ≤ 120 ∧ ∀ e ∈ l, smallE e) := by
  refine loop_inv (fun n (q : Int × Int) => ∃ (k c : Nat), k ≤ l.length ∧ k ≤ c ∧ c ≤ 1061 ∧ n = 2000 - k ∧ q = ((c : Int), (k : Int)) ∧ ∀ a ∈ l.take k, smallE a) _ ?_ Fu 2000 (0, 0) ⟨0, 0, by omega, by omega, by omega, rfl, rfl, by simp⟩ (by rw [fu_eq]; omega)
  rintro n q ⟨k, c, hk, hc, hc2, rfl, rfl, ha⟩
  by_cases e : k = l.length
  · refine .inr ⟨decide ((c : Int) ≤ 120), ?_, fun h => ⟨by have := of_decide_eq_true h; omega, by rwa [e, List.take_length] at ha⟩⟩
    simp only [gleaninglaw15_Few_l0, dec_f (by omega : ¬ (k : Int) < (l.length : Int)), Bool.false_eq_true, if_false, Option.bind_some, Sum.elim_inr]
  have hk2 : k < l.length := by omega
  by_cases e1 : c < 1000
  · obtain ⟨b, hb, hb2⟩ := fewAll_spec l[k].Spans
    cases b with
    | false =>
      refine .inr ⟨false, ?_, by simp⟩
      simp only [gleaninglaw15_Few_l0, gleaninglaw15_Few_k1, dec_t (by omega : (k : Int) < (l.length : Int)), dec_t (by omega : (c : Int) < 1000), if_true, gd_pos (by omega : (0 : Int) ≤ (k : Int)), Int.toNat_natCast, List.getElem?_eq_getElem hk2, Option.bind_some, Sum.elim_inl, hb, Bool.not_false]
    | true =>
      have hlen := (hb2 rfl).1
      refine .inl ⟨(((c + 1 + l[k].Spans.length : Nat) : Int), ((k + 1 : Nat) : Int)), 2000 - (k + 1), ?_, by omega, k + 1, _, by omega, by omega, by omega, rfl, rfl, fun a h => ?_⟩
      · simp only [gleaninglaw15_Few_l0, gleaninglaw15_Few_k1, dec_t (by omega : (k : Int) < (l.length : Int)), dec_t (by omega : (c : Int) < 1000), if_true, gd_pos (by omega : (0 : Int) ≤ (k : Int)), Int.toNat_natCast, List.getElem?_eq_getElem hk2, Option.bind_some, Sum.elim_inl, hb, Bool.not_true, Bool.false_eq_true, if_false, ksucc (by omega : k < 1099511627776), ksucc (by omega : c < 1099511627776)]
        rw [w64 (by omega) (by omega)]
        push_cast; rfl
      · rw [List.take_succ_eq_append_getElem hk2] at h
        rcases List.mem_append.1 h with h | h
        · exact ha a h
        · rw [List.mem_singleton.1 h]; exact ⟨hlen, fun s hs => ((hb2 rfl).2 s hs).2.2.1⟩
  · refine .inr ⟨false, ?_, by simp⟩
    simp only [gleaninglaw15_Few_l0, dec_t (by omega : (k : Int) < (l.length : Int)), dec_f (by omega : ¬ (c : Int) < 1000), dec_f (by omega : ¬ (c : Int) ≤ 120), if_true, Bool.false_eq_true, if_false, Option.bind_some, Sum.elim_inr]
theorem eflat_take {l : List Block} {k : Nat} (hk : k < l.length) : (l.take (k + 1)).flatMap (·.Episodes) = (l.take k).flatMap (·.Episodes) ++ l[k].Episodes := by
  rw [List.take_succ_eq_append_getElem hk, List.flatMap_append]; simp
theorem eflat_le {l : List Block} (k : Nat) : ((l.take k).flatMap (·.Episodes)).length ≤ (l.flatMap (·.Episodes)).length := by
  conv => rhs; rw [← List.take_append_drop k l, List.flatMap_append, List.length_append]
  exact Nat.le_add_right _ _
structure fewB (l : List Block) : Prop where
  len : l.length ≤ 12
  eps : (l.flatMap (·.Episodes)).length ≤ 120
  small : ∀ e ∈ l.flatMap (·.Episodes), smallE e
theorem few19_spec (l : List Block) (hb : (l.flatMap (·.Episodes)).length ≤ 1048576) : ∃ b, gleaninglaw19_Few l = some b ∧ (b = true → fewB l) := by
  have hloop : loopN (fun (s : List Episode × Int) => gleaninglaw19_Few_l1 l s.1 s.2) Fu ([], 0) = some ((l.take 20).flatMap (·.Episodes)) := by
    refine loop_fu (fun n s r => ∃ k, k ≤ l.length ∧ k ≤ 20 ∧ n = 20 - k ∧ s = ((l.take k).flatMap (·.Episodes), (k : Int)) ∧ r = (l.take 20).flatMap (·.Episodes)) ?_ ⟨0, by omega, by omega, rfl, rfl, rfl⟩ (by omega)
    rintro n s r ⟨k, h1, h2, rfl, rfl, rfl⟩
    by_cases e : k < l.length ∧ k < 20
    · refine .inl ⟨((l.take (k + 1)).flatMap (·.Episodes), ((k + 1 : Nat) : Int)), 20 - (k + 1), ?_, by omega, k + 1, by omega, by omega, rfl, rfl, rfl⟩
      have := eflat_le (l := l) (k + 1)
      rw [eflat_take e.1] at this
      simp only [gleaninglaw19_Few_l1, dec_t (by omega : (k : Int) < (l.length : Int)), dec_t (by omega : (k : Int) < 20), if_true, Option.bind_some, Sum.elim_inl, gleaninglaw19_Few_k2, gd_pos (by omega : (0 : Int) ≤ (k : Int)), Int.toNat_natCast, List.getElem?_eq_getElem e.1, ksucc (by omega : k < 1099511627776)]
      rw [gd_pos (by omega), eflat_take e.1]
    · refine .inr ?_
      have hr : (l.take 20).flatMap (·.Episodes) = (l.take k).flatMap (·.Episodes) := by
        by_cases q : k = 20
        · rw [q]
        · have : k = l.length := by omega
          rw [List.take_of_length_le (by omega), List.take_of_length_le (by omega)]
      rw [hr]
      by_cases q : k < l.length
      · simp only [gleaninglaw19_Few_l1, dec_t (by omega : (k : Int) < (l.length : Int)), dec_f (by omega : ¬ (k : Int) < 20), if_true, Bool.false_eq_true, if_false, Option.bind_some, Sum.elim_inr]
      · simp only [gleaninglaw19_Few_l1, dec_f (by omega : ¬ (k : Int) < (l.length : Int)), Bool.false_eq_true, if_false, Option.bind_some, Sum.elim_inr]
  rw [gleaninglaw19_Few, hloop, Option.bind_some, gleaninglaw19_Few_k0]
  by_cases h12 : (l.length : Int) ≤ 12
  · rw [dec_t h12, ite_tt, List.take_of_length_le (by omega)]
    obtain ⟨b, q1, q2⟩ := few15_spec (l.flatMap (·.Episodes))
    rw [q1, Option.bind_some]
    exact ⟨b, rfl, fun h => ⟨by omega, (q2 h).1, (q2 h).2⟩⟩
  · rw [dec_f h12, ite_ff]
    exact ⟨false, rfl, fun h => by cases h⟩
end Go.Proofs.Ytejimiedoibkcaa.Ab
namespace Go.Proofs.Ytejimiedoibkcaa.Ab
open Go Go.RowKit
set_option linter.unusedVariables false
set_option linter.unusedSimpArgs false
/-! ### how long ago -/
def lessR (a b : Int) : Int := (rollup_Less a b).getD 0
theorem less_spec (a b : Int) : rollup_Less a b = some (lessR a b) := by
  have : ∃ r, rollup_Less a b = some r := by
    unfold rollup_Less
    split <;> simp only [Option.bind_some, rollup_Less_k0] <;> (repeat' split) <;> exact ⟨_, rfl⟩
  obtain ⟨r, hr⟩ := this
  rw [lessR, hr]; rfl
theorem lessR_in {a b : Int} (ha : 0 ≤ a) (ha2 : a ≤ 1099511627776) (hb : 0 ≤ b) (hb2 : b ≤ 1099511627776) : lessR a b = a - b := by
  have hw : IntKind.i64.wrap (a - b) = a - b := w64 (by omega) (by omega)
  rw [lessR, rollup_Less]
  by_cases h : (0 : Int) < b
  · have e1 : decide (a < a - b) = false := dec_f (by omega)
    have e2 : decide (b < 0) = false := dec_f (by omega)
    simp [h, hw, rollup_Less_k0, e1, e2]
  · have e2 : decide (b < 0) = false := dec_f (by omega)
    simp [h, hw, rollup_Less_k0, e2]
theorem wrap3 {n : Int} (h : -18446744073709551616 ≤ n) (h2 : n < 18446744073709551616) : IntKind.i64.wrap n = if n < -9223372036854775808 then n + 18446744073709551616 else if 9223372036854775808 ≤ n then n - 18446744073709551616 else n := by
  have h3 : IntKind.i64.wrap n = (n + 9223372036854775808) % 18446744073709551616 - 9223372036854775808 := by
    simp only [IntKind.wrap, IntKind.bits, IntKind.signed]
    simp
    split <;> omega
  rw [h3]
  split
  · omega
  · split <;> omega
theorem refLess_spec {a b : Int} (ha : inI .i64 a) (hb : inI .i64 b) : gleaningref15_less a b = some (lessR a b) := by
  have ha' : -9223372036854775808 ≤ a ∧ a ≤ 9223372036854775807 := ha
  have hb' : -9223372036854775808 ≤ b ∧ b ≤ 9223372036854775807 := hb
  rw [← less_spec]
  have hw := wrap3 (n := a - b) (by omega) (by omega)
  unfold gleaningref15_less rollup_Less
  by_cases c1 : b < 0
  · have c2 : ¬ (0 : Int) < b := by omega
    rw [w64 (n := 9223372036854775807 + b) (by omega) (by omega)]
    simp only [c1, c2, decide_true, decide_false, if_true, Bool.false_eq_true, if_false, Option.bind_some, gleaningref15_less_k1, rollup_Less_k0]
    by_cases c3 : 9223372036854775807 + b < a
    · have : IntKind.i64.wrap (a - b) < a := by rw [hw]; (repeat' split) <;> omega
      simp [c3, this]
    · have : ¬ IntKind.i64.wrap (a - b) < a := by rw [hw]; (repeat' split) <;> omega
      simp [c3, this, gleaningref15_less_k0]
  · by_cases c2 : (0 : Int) < b
    · simp only [c1, c2, decide_true, decide_false, if_true, Bool.false_eq_true, if_false, Option.bind_some, gleaningref15_less_k1, w64 (n := -9223372036854775808 + b) (by omega) (by omega)]
      by_cases c3 : a < -9223372036854775808 + b
      · have : a < IntKind.i64.wrap (a - b) := by rw [hw]; (repeat' split) <;> omega
        simp [c3, this, rollup_Less_k0]
      · have : ¬ a < IntKind.i64.wrap (a - b) := by rw [hw]; (repeat' split) <;> omega
        simp [c1, c3, this, gleaningref15_less_k0, rollup_Less_k0]
    · simp [c1, c2, gleaningref15_less_k1, gleaningref15_less_k0, rollup_Less_k0]
/-! ### how many bytes -/
def totB (l : List Block) : Int := (l.map sizeB).sum
theorem totB_app (a b : List Block) : totB (a ++ b) = totB a + totB b := by simp [totB]
theorem totB_cons (a : Block) (b : List Block) : totB (a :: b) = sizeB a + totB b := by simp [totB]
theorem totB_le : ∀ (l : List Block), (∀ b ∈ l, okB b) → 0 ≤ totB l ∧ totB l ≤ 100000000 * (l.length : Int)
  | [], _ => by simp [totB]
  | b :: l, h => by
    have h1 := sizeB_le b (h b List.mem_cons_self)
    have h2 := totB_le l fun c hc => h c (List.mem_cons_of_mem _ hc)
    rw [totB_cons, List.length_cons]; push_cast; omega
theorem totB_suc {l : List Block} {k : Nat} (hk : k < l.length) : totB (l.take (k + 1)) = totB (l.take k) + sizeB l[k] := by
  rw [List.take_succ_eq_append_getElem hk, totB_app]; simp [totB]
theorem total_spec (l : List Block) (hl : l.length ≤ 1000) (h : ∀ b ∈ l, okB b) : retire_Total l = some (totB l) := by
  refine loop_list (l := l) (fun k r s => s = (totB (l.take k), (k : Int)) ∧ r = totB l) (by omega) ?_ ?_ ⟨rfl, rfl⟩
  · rintro k hk r s ⟨rfl, rfl⟩
    have h1 := totB_le (l.take k) fun b hb => h b (List.mem_of_mem_take hb)
    have h2 := sizeB_le l[k] (h _ (List.getElem_mem hk))
    have h3 : ((l.take k).length : Int) ≤ 1000 := by rw [List.length_take]; omega
    refine .inl ⟨(totB (l.take (k + 1)), ((k + 1 : Nat) : Int)), ?_, rfl, rfl⟩
    simp only [retire_Total_l0, dec_t (by omega : (k : Int) < (l.length : Int)), if_true, gd_pos (by omega : (0 : Int) ≤ (k : Int)), Int.toNat_natCast, List.getElem?_eq_getElem hk, Option.bind_some, size_spec _ (h _ (List.getElem_mem hk)), ksuc (by omega : k < 1099511627776), w64 (n := totB (l.take k) + sizeB l[k]) (by omega) (by omega), totB_suc hk]
  · rintro r s ⟨rfl, rfl⟩
    simp only [retire_Total_l0, dec_f (by omega : ¬ (l.length : Int) < (l.length : Int)), Bool.false_eq_true, if_false, List.take_length]
theorem xtotal_spec (l : List Block) (hl : l.length ≤ 1000) (h : ∀ b ∈ l, okB b) : gleaningref15_Total l = some (totB l) := by
  refine loop_list (l := l) (fun k r s => s = (totB (l.take k), (k : Int)) ∧ r = totB l) (by omega) ?_ ?_ ⟨rfl, rfl⟩
  · rintro k hk r s ⟨rfl, rfl⟩
    have h1 := totB_le (l.take k) fun b hb => h b (List.mem_of_mem_take hb)
    have h2 := sizeB_le l[k] (h _ (List.getElem_mem hk))
    have h3 : ((l.take k).length : Int) ≤ 1000 := by rw [List.length_take]; omega
    refine .inl ⟨(totB (l.take (k + 1)), ((k + 1 : Nat) : Int)), ?_, rfl, rfl⟩
    have hw : IntKind.i64.wrap (totB (l.take k) + ((blkB l[k]).length : Int)) = totB (l.take (k + 1)) := by
      rw [totB_suc hk, show ((blkB l[k]).length : Int) = sizeB l[k] from rfl, w64 (by omega) (by omega)]
    simp only [gleaningref15_Total_l0, dec_t (by omega : (k : Int) < (l.length : Int)), if_true, gd_pos (by omega : (0 : Int) ≤ (k : Int)), Int.toNat_natCast, List.getElem?_eq_getElem hk, Option.bind_some, xbytesB_spec _ (h _ (List.getElem_mem hk)), ksuc (by omega : k < 1099511627776), hw]
  · rintro r s ⟨rfl, rfl⟩
    simp only [gleaningref15_Total_l0, dec_f (by omega : ¬ (l.length : Int) < (l.length : Int)), Bool.false_eq_true, if_false, List.take_length]
/-! ### the oldest -/
def minF (l : List Block) : Nat → Nat
  | 0 => 0
  | i + 1 => match l[i]?, l[minF l i]? with
    | some x, some y => if x.Born < y.Born then i else minF l i
    | _, _ => minF l i
theorem minF_suc {l : List Block} {i : Nat} (hi : i < l.length) (hm : minF l i < l.length) : minF l (i + 1) = if l[i].Born < l[minF l i].Born then i else minF l i := by
  rw [minF, List.getElem?_eq_getElem hi, List.getElem?_eq_getElem hm]
theorem minF_lt {l : List Block} (h : 0 < l.length) : ∀ i, i ≤ l.length → minF l i < l.length
  | 0, _ => h
  | i + 1, hi => by
    have := minF_lt h i (by omega)
    rw [minF_suc (by omega) this]
    split <;> omega
theorem minF_le {l : List Block} (h : 0 < l.length) : ∀ i (hi : i ≤ l.length), ∀ j (hj : j < l.length), j < i → (l[minF l i]'(minF_lt h i hi)).Born ≤ l[j].Born
  | 0, _, j, _, hj => absurd hj (Nat.not_lt_zero _)
  | i + 1, hi, j, hjl, hj => by
    have h1 := minF_lt h i (by omega)
    have ih := minF_le h i (by omega) j hjl
    have e := minF_suc (by omega : i < l.length) h1
    by_cases c : l[i].Born < l[minF l i].Born
    · rw [if_pos c] at e
      simp only [e]
      by_cases z : j = i
      · subst z; exact Int.le_refl _
      · have := ih (by omega); omega
    · rw [if_neg c] at e
      simp only [e]
      by_cases z : j = i
      · subst z; omega
      · exact ih (by omega)
def cutAt (l : List Block) (k : Nat) : List Block := l.take k ++ l.drop (k + 1)
theorem cutAt_len {l : List Block} {k : Nat} (hk : k < l.length) : (cutAt l k).length = l.length - 1 := by
  rw [cutAt, List.length_append, List.length_take, List.length_drop]; omega
theorem cutAt_tot {l : List Block} {k : Nat} (hk : k < l.length) : totB (cutAt l k) = totB l - sizeB l[k] := by
  have : totB l = totB (l.take k ++ l[k] :: l.drop (k + 1)) := by rw [← List.drop_eq_getElem_cons hk, List.take_append_drop]
  rw [this, cutAt, totB_app, totB_app, totB_cons]; omega
theorem cutAt_mem {l : List Block} {k : Nat} {b : Block} (h : b ∈ cutAt l k) : b ∈ l := by
  rcases List.mem_append.1 h with h | h
  · exact List.mem_of_mem_take h
  · exact List.mem_of_mem_drop h
/-- which go, for want of room -/
def goL (m : Int) : Nat → List Block → List Block
  | 0, _ => []
  | n + 1, l => if 1 < l.length ∧ m < totB l then match l[minF l l.length]? with | some b => b :: goL m n (cutAt l (minF l l.length)) | none => [] else []
theorem goL_no {m : Int} {l : List Block} (h : ¬ (1 < l.length ∧ m < totB l)) : ∀ n, goL m n l = []
  | 0 => rfl
  | n + 1 => by rw [goL, if_neg h]
theorem goL_go {m : Int} {l : List Block} (h : 1 < l.length ∧ m < totB l) : goL m l.length l = l[minF l l.length]'(minF_lt (by omega) _ (Nat.le_refl _)) :: goL m (cutAt l (minF l l.length)).length (cutAt l (minF l l.length)) := by
  have hm := minF_lt (l := l) (by omega) l.length (Nat.le_refl _)
  rw [cutAt_len hm]
  obtain ⟨n, hn⟩ : ∃ n, l.length = n + 1 := ⟨l.length - 1, by omega⟩
  have : goL m l.length l = goL m (n + 1) l := by rw [hn]
  rw [this, goL, if_pos h, List.getElem?_eq_getElem hm, show l.length - 1 = n by omega]
def oldB (now keep : Int) (b : Block) : Bool := decide (keep < lessR now b.Born)
def newB (now keep : Int) (b : Block) : Bool := !oldB now keep b
def chooseB (l : List Block) (now keep m : Int) : List Int := (l.filter (oldB now keep) ++ goL m (l.filter (newB now keep)).length (l.filter (newB now keep))).map (·.Number)
theorem filt_suc (p : Block → Bool) {l : List Block} {k : Nat} (hk : k < l.length) : (l.take (k + 1)).filter p = (l.take k).filter p ++ if p l[k] = true then [l[k]] else [] := by
  rw [List.take_succ_eq_append_getElem hk, List.filter_append]
  congr 1
  simp only [List.filter_cons, List.filter_nil]
theorem filt_le (p : Block → Bool) (l : List Block) (k : Nat) : ((l.take k).filter p).length ≤ l.length := by
  have := List.length_filter_le p (l.take k)
  have : (l.take k).length ≤ l.length := by rw [List.length_take]; omega
  omega
theorem choose_spec (l : List Block) (now keep m : Int) (hl : l.length ≤ 1000) (h : ∀ b ∈ l, okB b) : retire_Choose l now keep m = some (chooseB l now keep m) := by
  have hloop : loopN (fun (s : List Int × List Block × Int) => retire_Choose_l1 l now keep s.1 s.2.1 s.2.2) Fu ([], [], 0) = some ((l.filter (oldB now keep)).map (·.Number), l.filter (newB now keep)) := by
    refine loop_list (l := l) (fun k r s => s = (((l.take k).filter (oldB now keep)).map (·.Number), (l.take k).filter (newB now keep), (k : Int)) ∧ r = ((l.filter (oldB now keep)).map (·.Number), l.filter (newB now keep))) (by omega) ?_ ?_ ⟨rfl, rfl⟩
    · rintro k hk r s ⟨rfl, rfl⟩
      refine .inl ⟨(((l.take (k + 1)).filter (oldB now keep)).map (·.Number), (l.take (k + 1)).filter (newB now keep), ((k + 1 : Nat) : Int)), ?_, rfl, rfl⟩
      have f1 := filt_le (oldB now keep) l k
      have f2 := filt_le (newB now keep) l k
      simp only [retire_Choose_l1, dec_t (by omega : (k : Int) < (l.length : Int)), if_true, gd_pos (by omega : (0 : Int) ≤ (k : Int)), Int.toNat_natCast, List.getElem?_eq_getElem hk, Option.bind_some, less_spec, ksuc (by omega : k < 1099511627776), filt_suc _ hk]
      cases c : oldB now keep l[k] with
      | true =>
        have c' := c
        rw [oldB] at c'
        rw [c', ite_tt, gd_pos (by rw [List.length_append, List.length_map]; simp only [List.length_cons, List.length_nil]; omega)]
        simp [newB, c]
      | false =>
        have c' := c
        rw [oldB] at c'
        rw [c', ite_ff, gd_pos (by rw [List.length_append]; simp only [List.length_cons, List.length_nil]; omega)]
        simp [newB, c]
    · rintro r s ⟨rfl, rfl⟩
      simp only [retire_Choose_l1, dec_f (by omega : ¬ (l.length : Int) < (l.length : Int)), Bool.false_eq_true, if_false, List.take_length]
  rw [retire_Choose]
  refine (congrArg (fun o => Option.bind o _) hloop).trans ?_
  have fl : (l.filter (newB now keep)).length ≤ 1000 := by have := List.length_filter_le (newB now keep) l; omega
  have fo : (l.filter (oldB now keep)).length ≤ 1000 := by have := List.length_filter_le (oldB now keep) l; omega
  have fh : ∀ b ∈ l.filter (newB now keep), okB b := fun b hb => h b (List.mem_filter.1 hb).1
  rw [Option.bind_some]
  dsimp only
  rw [retire_Choose_k0, total_spec _ fl fh, Option.bind_some]
  refine loop_fu (fun n s r => ∃ (out left : List Block), n = left.length ∧ left.length ≤ 1000 ∧ out.length + left.length ≤ 2000 ∧ (∀ b ∈ left, okB b) ∧ s = (out.map (·.Number), left, totB left) ∧ r = (out ++ goL m left.length left).map (·.Number)) ?_ ⟨l.filter (oldB now keep), l.filter (newB now keep), rfl, fl, by omega, fh, rfl, rfl⟩ (by omega)
  rintro n s r ⟨out, left, rfl, g1, g2, g3, rfl, rfl⟩
  by_cases c : 1 < left.length ∧ m < totB left
  · have hm := minF_lt (l := left) (by omega) left.length (Nat.le_refl _)
    refine .inl ⟨((out ++ [left[minF left left.length]]).map (·.Number), cutAt left (minF left left.length), totB (cutAt left (minF left left.length))), (cutAt left (minF left left.length)).length, ?_, by rw [cutAt_len hm]; omega, out ++ [left[minF left left.length]], _, rfl, by rw [cutAt_len hm]; omega, by rw [cutAt_len hm, List.length_append, List.length_cons, List.length_nil]; omega, fun b hb => g3 b (cutAt_mem hb), rfl, by rw [goL_go c, List.append_assoc]; rfl⟩
    have h5 : loopN (fun (s : Int × Int) => retire_Choose_l5 left s.1 s.2) Fu (0, 0) = some ((minF left left.length : Nat) : Int) := by
      refine loop_list (l := left) (fun k r s => s = (((minF left k : Nat) : Int), (k : Int)) ∧ r = ((minF left left.length : Nat) : Int)) (by omega) ?_ ?_ ⟨rfl, rfl⟩
      · rintro k hk r s ⟨rfl, rfl⟩
        have hmk := minF_lt (l := left) (by omega) k (by omega)
        refine .inl ⟨(((minF left (k + 1) : Nat) : Int), ((k + 1 : Nat) : Int)), ?_, rfl, rfl⟩
        simp only [retire_Choose_l5, dec_t (by omega : (k : Int) < (left.length : Int)), if_true, gd_pos (by omega : (0 : Int) ≤ (k : Int)), gd_pos (by omega : (0 : Int) ≤ ((minF left k : Nat) : Int)), Int.toNat_natCast, List.getElem?_eq_getElem hk, List.getElem?_eq_getElem hmk, Option.bind_some, ksuc (by omega : k < 1099511627776), minF_suc hk hmk]
        by_cases c2 : left[k].Born < left[minF left k].Born
        · rw [dec_t c2, ite_tt, if_pos c2]
        · rw [dec_f c2, ite_ff, if_neg c2]
      · rintro r s ⟨rfl, rfl⟩
        simp only [retire_Choose_l5, dec_f (by omega : ¬ (left.length : Int) < (left.length : Int)), Bool.false_eq_true, if_false]
    have ht := totB_le left g3
    have hs := sizeB_le left[minF left left.length] (g3 _ (List.getElem_mem hm))
    have ht2 : totB left ≤ 100000000000 := by omega
    simp only [retire_Choose_l2, dec_t c.2, if_true, dec_t (by omega : (1 : Int) < (left.length : Int)), Option.bind_some, Sum.elim_inl, retire_Choose_k3, h5, retire_Choose_k4, gd_pos (by omega : (0 : Int) ≤ ((minF left left.length : Nat) : Int)), Int.toNat_natCast, List.getElem?_eq_getElem hm, size_spec _ (g3 _ (List.getElem_mem hm)), ksuc (by omega : minF left left.length < 1099511627776), slices_Delete_Block]
    rw [gd_pos (by rw [List.length_append, List.length_map, List.length_cons, List.length_nil]; omega), gd_pos (by omega), gd_pos (by omega), Option.bind_some, w64 (by omega) (by omega), cutAt_tot hm, List.map_append]
    rfl
  · refine .inr ?_
    rw [goL_no c, List.append_nil]
    by_cases c2 : m < totB left
    · have c3 : ¬ (1 : Int) < (left.length : Int) := by omega
      simp only [retire_Choose_l2, dec_t c2, if_true, dec_f c3, Bool.false_eq_true, if_false, Option.bind_some, Sum.elim_inr]
    · simp only [retire_Choose_l2, dec_f c2, Bool.false_eq_true, if_false, Option.bind_some, Sum.elim_inr]
theorem xchoose_spec (l : List Block) (now keep m : Int) (hl : l.length ≤ 1000) (h : ∀ b ∈ l, okB b) (hn : inI .i64 now) (hb : ∀ b ∈ l, inI .i64 b.Born) : gleaningref15_Choose l now keep m = some (chooseB l now keep m) := by
  have hloop : loopN (fun (s : List Int × List Block × Int) => gleaningref15_Choose_l1 l now keep s.1 s.2.1 s.2.2) Fu ([], [], 0) = some ((l.filter (oldB now keep)).map (·.Number), l.filter (newB now keep)) := by
    refine loop_list (l := l) (fun k r s => s = (((l.take k).filter (oldB now keep)).map (·.Number), (l.take k).filter (newB now keep), (k : Int)) ∧ r = ((l.filter (oldB now keep)).map (·.Number), l.filter (newB now keep))) (by omega) ?_ ?_ ⟨rfl, rfl⟩
    · rintro k hk r s ⟨rfl, rfl⟩
      refine .inl ⟨(((l.take (k + 1)).filter (oldB now keep)).map (·.Number), (l.take (k + 1)).filter (newB now keep), ((k + 1 : Nat) : Int)), ?_, rfl, rfl⟩
      have f1 := filt_le (oldB now keep) l k
      have f2 := filt_le (newB now keep) l k
      simp only [gleaningref15_Choose_l1, dec_t (by omega : (k : Int) < (l.length : Int)), if_true, gd_pos (by omega : (0 : Int) ≤ (k : Int)), Int.toNat_natCast, List.getElem?_eq_getElem hk, Option.bind_some, refLess_spec hn (hb _ (List.getElem_mem hk)), ksuc (by omega : k < 1099511627776), filt_suc _ hk]
      cases c : oldB now keep l[k] with
      | true =>
        have c' := c
        rw [oldB] at c'
        rw [c', ite_tt, gd_pos (by rw [List.length_append, List.length_map]; simp only [List.length_cons, List.length_nil]; omega)]
        simp [newB, c]
      | false =>
        have c' := c
        rw [oldB] at c'
        rw [c', ite_ff, gd_pos (by rw [List.length_append]; simp only [List.length_cons, List.length_nil]; omega)]
        simp [newB, c]
    · rintro r s ⟨rfl, rfl⟩
      simp only [gleaningref15_Choose_l1, dec_f (by omega : ¬ (l.length : Int) < (l.length : Int)), Bool.false_eq_true, if_false, List.take_length]
  rw [gleaningref15_Choose]
  refine (congrArg (fun o => Option.bind o _) hloop).trans ?_
  have fl : (l.filter (newB now keep)).length ≤ 1000 := by have := List.length_filter_le (newB now keep) l; omega
  have fo : (l.filter (oldB now keep)).length ≤ 1000 := by have := List.length_filter_le (oldB now keep) l; omega
  have fh : ∀ b ∈ l.filter (newB now keep), okB b := fun b hb => h b (List.mem_filter.1 hb).1
  rw [Option.bind_some]
  dsimp only
  rw [gleaningref15_Choose_k0]
  refine loop_fu (fun n s r => ∃ (out left : List Block), n = left.length ∧ left.length ≤ 1000 ∧ out.length + left.length ≤ 2000 ∧ (∀ b ∈ left, okB b) ∧ s = (out.map (·.Number), left) ∧ r = (out ++ goL m left.length left).map (·.Number)) ?_ ⟨l.filter (oldB now keep), l.filter (newB now keep), rfl, fl, by omega, fh, rfl, rfl⟩ (by omega)
  rintro n s r ⟨out, left, rfl, g1, g2, g3, rfl, rfl⟩
  by_cases c : 1 < left.length ∧ m < totB left
  · have hm := minF_lt (l := left) (by omega) left.length (Nat.le_refl _)
    refine .inl ⟨((out ++ [left[minF left left.length]]).map (·.Number), cutAt left (minF left left.length)), (cutAt left (minF left left.length)).length, ?_, by rw [cutAt_len hm]; omega, out ++ [left[minF left left.length]], _, rfl, by rw [cutAt_len hm]; omega, by rw [cutAt_len hm, List.length_append, List.length_cons, List.length_nil]; omega, fun b hb => g3 b (cutAt_mem hb), rfl, by rw [goL_go c, List.append_assoc]; rfl⟩
    have h5 : loopN (fun (s : Int × Int) => gleaningref15_Choose_l5 left s.1 s.2) Fu (0, 0) = some ((minF left left.length : Nat) : Int) := by
      refine loop_list (l := left) (fun k r s => s = (((minF left k : Nat) : Int), (k : Int)) ∧ r = ((minF left left.length : Nat) : Int)) (by omega) ?_ ?_ ⟨rfl, rfl⟩
      · rintro k hk r s ⟨rfl, rfl⟩
        have hmk := minF_lt (l := left) (by omega) k (by omega)
        refine .inl ⟨(((minF left (k + 1) : Nat) : Int), ((k + 1 : Nat) : Int)), ?_, rfl, rfl⟩
        simp only [gleaningref15_Choose_l5, dec_t (by omega : (k : Int) < (left.length : Int)), if_true, gd_pos (by omega : (0 : Int) ≤ (k : Int)), gd_pos (by omega : (0 : Int) ≤ ((minF left k : Nat) : Int)), Int.toNat_natCast, List.getElem?_eq_getElem hk, List.getElem?_eq_getElem hmk, Option.bind_some, ksuc (by omega : k < 1099511627776), minF_suc hk hmk]
        by_cases c2 : left[k].Born < left[minF left k].Born
        · rw [dec_t c2, ite_tt, if_pos c2]
        · rw [dec_f c2, ite_ff, if_neg c2]
      · rintro r s ⟨rfl, rfl⟩
        simp only [gleaningref15_Choose_l5, dec_f (by omega : ¬ (left.length : Int) < (left.length : Int)), Bool.false_eq_true, if_false]
    simp only [gleaningref15_Choose_l2, dec_t c.2, if_true, dec_t (by omega : (1 : Int) < (left.length : Int)), Option.bind_some, Sum.elim_inl, xtotal_spec left g1 g3, gleaningref15_Choose_k3, h5, gleaningref15_Choose_k4, gd_pos (by omega : (0 : Int) ≤ ((minF left left.length : Nat) : Int)), Int.toNat_natCast, List.getElem?_eq_getElem hm, ksuc (by omega : minF left left.length < 1099511627776)]
    rw [gd_pos (by rw [List.length_append, List.length_map, List.length_cons, List.length_nil]; omega), gd_pos (by omega), gd_pos (by rw [List.length_take]; omega), gd_pos (by omega), gd_pos (by omega), gd_pos (by rw [List.length_append, List.length_take, List.length_drop]; omega), List.map_append]
    rfl
  · refine .inr ?_
    rw [goL_no c, List.append_nil]
    by_cases c2 : 1 < left.length
    · have c3 : ¬ m < totB left := fun q => c ⟨c2, q⟩
      simp only [gleaningref15_Choose_l2, dec_t (by omega : (1 : Int) < (left.length : Int)), if_true, xtotal_spec left g1 g3, dec_f c3, Bool.false_eq_true, if_false, Option.bind_some, Sum.elim_inr]
    · simp only [gleaningref15_Choose_l2, dec_f (by omega : ¬ (1 : Int) < (left.length : Int)), Bool.false_eq_true, if_false, Option.bind_some, Sum.elim_inr]
theorem alive20 : gleaninglaw20_alive = some true := by
  have o1 : okB (Block.mk 7 0 0 []) := ⟨by simp, by simp, by simp⟩
  have o2 : okB (Block.mk 8 9 0 []) := ⟨by simp, by simp, by simp⟩
  have e1 : oldB 10 5 (Block.mk 7 0 0 []) = true := by rw [oldB, lessR_in (by omega) (by omega) (by dsimp only; omega) (by dsimp only; omega)]; rfl
  have e2 : oldB 10 5 (Block.mk 8 9 0 []) = false := by rw [oldB, lessR_in (by omega) (by omega) (by dsimp only; omega) (by dsimp only; omega)]; rfl
  rw [gleaninglaw20_alive, choose_spec _ 10 5 1000 (by simp) (by simp only [List.mem_cons, List.not_mem_nil, or_false]; exact fun b hb => hb.elim (fun e => e ▸ o1) (fun e => e ▸ o2)), Option.bind_some, choose_spec [] 0 0 0 (by simp) (by simp)]
  have c1 : chooseB [(Block.mk 7 0 0 []), (Block.mk 8 9 0 [])] 10 5 1000 = [7] := by
    rw [chooseB]
    simp only [List.filter_cons, List.filter_nil, e1, e2, newB, Bool.not_true, Bool.not_false, if_true, Bool.false_eq_true, if_false]
    rw [goL_no (by simp)]
    rfl
  have c2 : chooseB [] 0 0 0 = [] := rfl
  rw [c1, c2, Option.bind_some]
  rfl
/-- what the laws' guards give -/
theorem okB_of {l : List Block} (hw : ∀ b ∈ l, Block.wf b) (hf : fewB l) : ∀ b ∈ l, okB b := fun b hb => by
  have hu : ∀ n : Int, inI .u64 n → isU n := fun n h => by simp [inI, IntKind.min, IntKind.max, IntKind.signed, IntKind.bits] at h; exact ⟨by omega, by omega⟩
  have hm : ∀ e ∈ b.Episodes, e ∈ l.flatMap (·.Episodes) := fun e he => List.mem_flatMap.2 ⟨b, hb, he⟩
  refine ⟨?_, fun e he => ?_, fun e he => ?_⟩
  · have h1 := hf.eps
    have : b.Episodes.length ≤ (l.flatMap (·.Episodes)).length := by
      obtain ⟨i, hi, rfl⟩ := List.getElem_of_mem hb
      have h2 := eflat_le (l := l) (i + 1)
      rw [eflat_take hi, List.length_append] at h2
      omega
    omega
  · have := (hf.small e (hm e he)).1; omega
  · have h3 := (hw b hb).2.2.2.2 e he
    refine ⟨hu _ h3.1.1, hu _ h3.1.2, fun s hs => ?_⟩
    have h4 := h3.2.2.2.2.2 s hs
    exact ⟨hu _ h4.1.1, hu _ h4.1.2, hu _ h4.2.1, hu _ h4.2.2.1⟩
end Go.Proofs.Ytejimiedoibkcaa.Ab
