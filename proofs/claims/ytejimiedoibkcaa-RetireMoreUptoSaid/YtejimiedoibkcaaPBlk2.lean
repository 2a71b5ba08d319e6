/- Blocks as bytes, told plainly: the program's and the document's are one. -/
import Derived.Test.YtejimiedoibkcaaPSpanB
import Derived.Test.YtejimiedoibkcaaPSumB
import Derived.Test.YtejimiedoibkcaaXBlk2
namespace Go.Proofs.Ytejimiedoibkcaa.Ab
open Go Go.RowKit
set_option linter.unusedVariables false
set_option linter.unusedSimpArgs false

def sealB (b : List UInt8) : List UInt8 := b ++ fourN (sumB b).toNat
theorem sum_nat (b : List UInt8) : (sumB b).toNat < 4294967296 := (sumB b).isLt
theorem seal_spec (b : List UInt8) (hb : b.length ≤ 100000000) : check_Seal b = some (sealB b) := by
  rw [check_Seal, gd_pos (by omega), sum_spec b (by omega), Option.bind_some, putc_spec b _ (by omega)]
  rfl
theorem xseal_spec (b : List UInt8) (hb : b.length ≤ 100000000) : gleaningref1_Sealed b = some (sealB b) := by
  rw [gleaningref1_Sealed, gd_pos (by omega), rsum_spec b (by omega), Option.bind_some, rfour_spec _ (sum_nat b), Option.bind_some, gd_pos (by rw [List.length_append, fourN_length]; omega)]
  rfl
def spansB (l : List Span) : List UInt8 := l.flatMap spanB
theorem spansB_app (a b : List Span) : spansB (a ++ b) = spansB a ++ spansB b := by simp [spansB]
theorem spansB_le : ∀ (l : List Span), (∀ s ∈ l, wfS s ∧ rightS s = true) → (spansB l).length ≤ 400 * l.length
  | [], _ => by simp [spansB]
  | s :: l, h => by
    have h1 := h s List.mem_cons_self
    have h2 := spansB_le l fun m hm => h m (List.mem_cons_of_mem _ hm)
    have h3 := spanB_le h1.1 h1.2
    simp only [spansB, List.flatMap_cons, List.length_append, List.length_cons] at h2 ⊢; omega
end Go.Proofs.Ytejimiedoibkcaa.Ab
namespace Go.Proofs.Ytejimiedoibkcaa.Ab
open Go Go.RowKit
set_option linter.unusedVariables false
set_option linter.unusedSimpArgs false
def countB (n : Int) : Bool := decide (0 ≤ n) && decide (n ≤ 1099511627776)
theorem countB_of {n : Int} (h : countB n = true) : 0 ≤ n ∧ n ≤ 1099511627776 := by simpa [countB] using h
theorem epoch_c (n : Int) : block_Epoch_c1 n = some (!countB n) := by
  unfold block_Epoch_c1 countB
  by_cases h : n < 0
  · rw [dec_t h, ite_tt, dec_f (by omega : ¬ 0 ≤ n)]; rfl
  · rw [dec_f h, ite_ff, dec_t (by omega : 0 ≤ n), Bool.true_and]
    congr 1
    by_cases h2 : n ≤ 1099511627776
    · rw [dec_t h2, dec_f (by omega)]; rfl
    · rw [dec_f h2, dec_t (by omega)]; rfl
theorem epoch_spec (l : List Int) (hl : l.length ≤ 1000000000) : block_Epoch l = some (l.all countB) := by
  obtain ⟨v, g1, g2⟩ := loop_has (body := fun (q : Int) => slices_IndexFunc_int_block_Epoch_c1_l0 l q) (fun n => !countB n) l hl (fun j hj => by
    simp only [slices_IndexFunc_int_block_Epoch_c1_l0, dec_t (by omega : (j : Int) < (l.length : Int)), if_true, gd_pos (by omega : (0 : Int) ≤ (j : Int)), Int.toNat_natCast, List.getElem?_eq_getElem hj, Option.bind_some, epoch_c, ksuc (by omega : j < 1099511627776)]) (by simp only [slices_IndexFunc_int_block_Epoch_c1_l0, dec_f (by omega : ¬ (l.length : Int) < (l.length : Int)), Bool.false_eq_true, if_false])
  rw [block_Epoch, slices_ContainsFunc_int_block_Epoch_c1, slices_IndexFunc_int_block_Epoch_c1, g1, Option.bind_some, g2, Option.bind_some]
  congr 1
  rw [Bool.eq_iff_iff]; simp
theorem xcount_spec (n : Int) : gleaningref15_count n = some (countB n) := by
  unfold gleaningref15_count countB
  by_cases h : 0 ≤ n
  · rw [dec_t h, ite_tt]; rfl
  · rw [dec_f h, ite_ff]; rfl
theorem sall_spec (l : List Span) (hl : l.length ≤ 1000000) : span_All l = some (l.all rightS) := by
  obtain ⟨v, g1, g2⟩ := loop_has (body := fun (q : Int) => slices_IndexFunc_Span_span_All_c1_l0 l q) (fun s => !rightS s) l (by omega) (fun j hj => by
    simp only [slices_IndexFunc_Span_span_All_c1_l0, dec_t (by omega : (j : Int) < (l.length : Int)), if_true, gd_pos (by omega : (0 : Int) ≤ (j : Int)), Int.toNat_natCast, List.getElem?_eq_getElem hj, Option.bind_some, span_All_c1, right_spec, ksuc (by omega : j < 1099511627776)]) (by simp only [slices_IndexFunc_Span_span_All_c1_l0, dec_f (by omega : ¬ (l.length : Int) < (l.length : Int)), Bool.false_eq_true, if_false])
  rw [span_All, slices_ContainsFunc_Span_span_All_c1, slices_IndexFunc_Span_span_All_c1, g1, Option.bind_some, g2, Option.bind_some]
  congr 1
  rw [Bool.eq_iff_iff]; simp
/-! ### episodes -/
def badE (e : Episode) (i : Nat) : Bool := match e.Spans[i]? with | none => false | some s => !decide (s.Trace = e.Trace) || (e.Spans.take i).any (fun x => decide (x.Id = s.Id))
def rightE (e : Episode) : Bool := countB e.First && (countB e.Last && (!e.Spans.isEmpty && (e.Spans.all rightS && !(List.range e.Spans.length).any (badE e))))
def idsOf (l : List Span) : List Int := l.foldl (fun k s => addN k s.Id) []
theorem addN_mem {ks : List Int} {v n : Int} : n ∈ addN ks v ↔ n ∈ ks ∨ n = v := by
  unfold addN
  split
  · rename_i h
    exact ⟨.inl, fun q => q.elim id fun e => e ▸ h⟩
  · simp
theorem ids_mem (n : Int) : ∀ (l : List Span) (acc : List Int), n ∈ l.foldl (fun k s => addN k s.Id) acc ↔ n ∈ acc ∨ ∃ s ∈ l, s.Id = n
  | [], acc => by simp
  | x :: l, acc => by
    rw [List.foldl_cons, ids_mem n l, addN_mem]
    constructor
    · rintro ((h | h) | ⟨s, h1, h2⟩)
      · exact .inl h
      · exact .inr ⟨x, List.mem_cons_self, h.symm⟩
      · exact .inr ⟨s, List.mem_cons_of_mem _ h1, h2⟩
    · rintro (h | ⟨s, h1, h2⟩)
      · exact .inl (.inl h)
      · rcases List.mem_cons.1 h1 with rfl | h1
        · exact .inl (.inr h2.symm)
        · exact .inr ⟨s, h1, h2⟩
theorem idsOf_dec (l : List Span) (n : Int) : decide (n ∈ idsOf l) = l.any (fun x => decide (x.Id = n)) := by
  rw [Bool.eq_iff_iff, decide_eq_true_iff, idsOf, ids_mem]
  simp
theorem idsOf_suc {l : List Span} {k : Nat} (hk : k < l.length) : addN (idsOf (l.take k)) l[k].Id = idsOf (l.take (k + 1)) := by
  rw [List.take_succ_eq_append_getElem hk, idsOf, idsOf, List.foldl_append]; rfl
theorem isE_spec (e : Episode) (hl : e.Spans.length ≤ 1000000) : block_Episode e = some (rightE e) := by
  have hk0 : block_Episode_k0 e = some (!(List.range e.Spans.length).any (badE e)) := by
    have := loop_write (body := fun (s : List Int × Int) => block_Episode_l1 e s.1 s.2) (l := List.range e.Spans.length) (badE e) (fun k => (idsOf (e.Spans.take k), (k : Int))) true false (by simp; omega) (fun k hk hb hk2 => by
        have hk' : k < e.Spans.length := by simpa using hk
        rw [List.getElem_range] at hk2
        simp only [badE, List.getElem?_eq_getElem hk', Bool.or_eq_false_iff, Bool.not_eq_false'] at hk2
        simp only [block_Episode_l1, dec_t (by omega : (k : Int) < (e.Spans.length : Int)), if_true, gd_pos (by omega : (0 : Int) ≤ (k : Int)), Int.toNat_natCast, List.getElem?_eq_getElem hk', Option.bind_some, trace_eq, hk2.1, idsOf_dec, hk2.2, Bool.not_true, Bool.false_eq_true, if_false, Sum.elim_inl, block_Episode_k2, ksuc (by omega : k < 1099511627776), idsOf_suc hk']) (fun k hk hb hk2 => by
        have hk' : k < e.Spans.length := by simpa using hk
        rw [List.getElem_range] at hk2
        simp only [badE, List.getElem?_eq_getElem hk'] at hk2
        simp only [block_Episode_l1, dec_t (by omega : (k : Int) < (e.Spans.length : Int)), if_true, gd_pos (by omega : (0 : Int) ≤ (k : Int)), Int.toNat_natCast, List.getElem?_eq_getElem hk', Option.bind_some, trace_eq, idsOf_dec]
        cases h1 : decide (e.Spans[k].Trace = e.Trace) with
        | false => rfl
        | true =>
          rw [h1, Bool.not_true, Bool.false_or] at hk2
          simp only [Bool.not_true, Bool.false_eq_true, if_false, hk2, if_true, Option.bind_some, Sum.elim_inr]) (fun hb => by
        simp only [List.length_range, block_Episode_l1, dec_f (by omega : ¬ (e.Spans.length : Int) < (e.Spans.length : Int)), Bool.false_eq_true, if_false])
    rw [block_Episode_k0]
    refine this.trans ?_
    cases (List.range e.Spans.length).any (badE e) <;> rfl
  rw [block_Episode, epoch_spec _ (by simp), Option.bind_some, rightE]
  simp only [List.all_cons, List.all_nil, Bool.and_true]
  cases h1 : countB e.First
  · rfl
  cases h2 : countB e.Last
  · rfl
  by_cases h3 : e.Spans = []
  · rw [h3]; rfl
  · have : e.Spans.length ≠ 0 := fun q => h3 (List.length_eq_zero_iff.1 q)
    rw [show (((e.Spans.length : Nat) : Int) == 0) = false from by simpa using h3, show e.Spans.isEmpty = false from by simpa using h3, sall_spec _ hl]
    cases h4 : e.Spans.all rightS
    · rfl
    · simp only [Bool.and_self, Bool.not_true, Bool.false_eq_true, if_false, Option.bind_some, Sum.elim_inl, hk0, Bool.not_false, Bool.true_and]
def badX (e : Episode) (i : Nat) : Bool := match e.Spans[i]? with | none => false | some s => !rightS s || badE e i
theorem anyX (e : Episode) : (List.range e.Spans.length).any (badX e) = (!e.Spans.all rightS || (List.range e.Spans.length).any (badE e)) := by
  rw [Bool.eq_iff_iff]
  simp only [List.any_eq_true, List.mem_range, Bool.or_eq_true, Bool.not_eq_true', badX]
  constructor
  · rintro ⟨i, hi, h⟩
    rw [List.getElem?_eq_getElem hi] at h
    simp only [Bool.or_eq_true, Bool.not_eq_true'] at h
    rcases h with h | h
    · left
      rw [← Bool.not_eq_true, List.all_eq_true]
      intro q
      rw [q _ (List.getElem_mem hi)] at h
      cases h
    · exact .inr ⟨i, hi, h⟩
  · rintro (h | ⟨i, hi, h⟩)
    · rw [← Bool.not_eq_true, List.all_eq_true] at h
      have : ∃ x ∈ e.Spans, rightS x = false := Classical.byContradiction fun q => h fun x hx => by
        cases c : rightS x with
        | true => rfl
        | false => exact absurd ⟨x, hx, c⟩ q
      obtain ⟨x, hx, c⟩ := this
      obtain ⟨i, hi, rfl⟩ := List.getElem_of_mem hx
      exact ⟨i, hi, by rw [List.getElem?_eq_getElem hi]; simp [c]⟩
    · exact ⟨i, hi, by rw [List.getElem?_eq_getElem hi]; simp [h]⟩
theorem xisE_spec (e : Episode) (hl : e.Spans.length ≤ 1000000) : gleaningref15_RightEpisode e = some (rightE e) := by
  have hin : ∀ (k : Nat) (hk : k < e.Spans.length), gleaningref15_RightEpisode_k2 e (k : Int) = some (if (e.Spans.take k).any (fun x => decide (x.Id = e.Spans[k].Id)) then .inr false else .inl ((k + 1 : Nat) : Int)) := by
    intro k hk
    rw [gleaningref15_RightEpisode_k2]
    have := loop_write (body := fun (q : Int) => gleaningref15_RightEpisode_l3 e (k : Int) q) (l := e.Spans.take k) (fun x => decide (x.Id = e.Spans[k].Id)) (fun j => (j : Int)) (.inl ((k + 1 : Nat) : Int)) (.inr false) (by simp; omega) (fun j hj hb hj2 => by
        have hjk : j < k := by simp at hj; omega
        have hjl : j < e.Spans.length := by omega
        rw [List.getElem_take] at hj2
        simp only [gleaningref15_RightEpisode_l3, dec_t (by omega : (j : Int) < (k : Int)), if_true, gd_pos (by omega : (0 : Int) ≤ (j : Int)), gd_pos (by omega : (0 : Int) ≤ (k : Int)), Int.toNat_natCast, List.getElem?_eq_getElem hjl, List.getElem?_eq_getElem hk, Option.bind_some, show (e.Spans[j].Id == e.Spans[k].Id) = false from by simpa using hj2, Bool.false_eq_true, if_false, ksuc (by omega : j < 1099511627776)]) (fun j hj hb hj2 => by
        have hjk : j < k := by simp at hj; omega
        have hjl : j < e.Spans.length := by omega
        rw [List.getElem_take] at hj2
        simp only [gleaningref15_RightEpisode_l3, dec_t (by omega : (j : Int) < (k : Int)), if_true, gd_pos (by omega : (0 : Int) ≤ (j : Int)), gd_pos (by omega : (0 : Int) ≤ (k : Int)), Int.toNat_natCast, List.getElem?_eq_getElem hjl, List.getElem?_eq_getElem hk, Option.bind_some, show (e.Spans[j].Id == e.Spans[k].Id) = true from by simpa using hj2]) (fun hb => by
        have : (e.Spans.take k).length = k := by simp; omega
        simp only [this, gleaningref15_RightEpisode_l3, dec_f (by omega : ¬ (k : Int) < (k : Int)), Bool.false_eq_true, if_false, ksuc (by omega : k < 1099511627776)])
    exact this
  have hk0 : gleaningref15_RightEpisode_k0 e = some (!(List.range e.Spans.length).any (badX e)) := by
    have := loop_write (body := fun (s : Int) => gleaningref15_RightEpisode_l1 e s) (l := List.range e.Spans.length) (badX e) (fun k => (k : Int)) true false (by simp; omega) (fun k hk hb hk2 => by
        have hk' : k < e.Spans.length := by simpa using hk
        rw [List.getElem_range] at hk2
        simp only [badX, badE, List.getElem?_eq_getElem hk', Bool.or_eq_false_iff, Bool.not_eq_false'] at hk2
        simp only [gleaningref15_RightEpisode_l1, dec_t (by omega : (k : Int) < (e.Spans.length : Int)), if_true, gd_pos (by omega : (0 : Int) ≤ (k : Int)), Int.toNat_natCast, List.getElem?_eq_getElem hk', Option.bind_some, xright_spec, hk2.1, trace_eq, hk2.2.1, Bool.not_true, Bool.false_eq_true, if_false, Sum.elim_inl, hin k hk', hk2.2.2]) (fun k hk hb hk2 => by
        have hk' : k < e.Spans.length := by simpa using hk
        rw [List.getElem_range] at hk2
        simp only [badX, badE, List.getElem?_eq_getElem hk'] at hk2
        simp only [gleaningref15_RightEpisode_l1, dec_t (by omega : (k : Int) < (e.Spans.length : Int)), if_true, gd_pos (by omega : (0 : Int) ≤ (k : Int)), Int.toNat_natCast, List.getElem?_eq_getElem hk', Option.bind_some, xright_spec, trace_eq]
        cases h0 : rightS e.Spans[k] with
        | false => rfl
        | true =>
        cases h1 : decide (e.Spans[k].Trace = e.Trace) with
        | false => rfl
        | true =>
          rw [h0, h1, Bool.not_true, Bool.false_or, Bool.false_or] at hk2
          simp only [Bool.not_true, Bool.false_eq_true, if_false, hk2, if_true, Option.bind_some, Sum.elim_inl, hin k hk']) (fun hb => by
        simp only [List.length_range, gleaningref15_RightEpisode_l1, dec_f (by omega : ¬ (e.Spans.length : Int) < (e.Spans.length : Int)), Bool.false_eq_true, if_false])
    rw [gleaningref15_RightEpisode_k0]
    refine this.trans ?_
    cases (List.range e.Spans.length).any (badX e) <;> rfl
  rw [gleaningref15_RightEpisode, xcount_spec, Option.bind_some, xcount_spec, rightE]
  cases h1 : countB e.First
  · rfl
  cases h2 : countB e.Last
  · rfl
  by_cases h3 : e.Spans = []
  · rw [h3]; rfl
  · rw [show (((e.Spans.length : Nat) : Int) == 0) = false from by simpa using h3, show e.Spans.isEmpty = false from by simpa using h3]
    simp only [Bool.not_true, Bool.false_eq_true, if_false, Option.bind_some, Sum.elim_inl, hk0, anyX, Bool.not_false, Bool.true_and, Bool.not_or, Bool.not_not]
theorem rightE_of {e : Episode} (h : rightE e = true) : countB e.First = true ∧ countB e.Last = true ∧ e.Spans ≠ [] ∧ ∀ s ∈ e.Spans, rightS s = true := by
  simp only [rightE, Bool.and_eq_true, Bool.not_eq_true', List.all_eq_true] at h
  exact ⟨h.1, h.2.1, by simpa using h.2.2.1, h.2.2.2.1⟩
/-! ### blocks -/
def lessT (a b : Trace) : Bool := decide (a.Hi < b.Hi) || (decide (a.Hi = b.Hi) && decide (a.Lo < b.Lo))
theorem cmpU_spec (a b : Int) : cmp_Compare_uint64 a b = some (if a < b then -1 else if b < a then 1 else 0) := by
  simp only [cmp_Compare_uint64, cmp_isNaN_uint64, bne_self_eq_false, Option.bind_some, Bool.false_eq_true, if_false]
  by_cases h : a < b
  · simp [h]
  · by_cases k : b < a <;> simp [h, k]
theorem fuC : Fu = 1208925819614629174706173 + 1 + 1 + 1 := rfl
theorem or2_spec (x y : Int) : cmp_Or_int [x, y] = some (if x ≠ 0 then x else y) := by
  rw [cmp_Or_int, fuC]
  by_cases hx : x = 0
  · subst hx
    rw [loop_l (s' := (1 : Int)) (by rfl)]
    by_cases hy : y = 0
    · subst hy
      rw [loop_l (s' := (2 : Int)) (by rfl), loop_r (r := (0 : Int)) (by rfl)]
      rfl
    · rw [loop_r (r := y) (by simp [cmp_Or_int_l0, gd, hy])]
      simp
  · rw [loop_r (r := x) (by simp [cmp_Or_int_l0, gd, hx])]
    simp [hx]
theorem bcompare_spec (x y : Episode) : ∃ r, block_compare x y = some r ∧ decide (r < 0) = lessT x.Trace y.Trace := by
  rw [block_compare, cmpU_spec, Option.bind_some, cmpU_spec, Option.bind_some, or2_spec, Option.bind_some]
  refine ⟨_, rfl, ?_⟩
  unfold lessT
  by_cases c1 : x.Trace.Hi < y.Trace.Hi
  · simp [c1]
  by_cases c2 : y.Trace.Hi < x.Trace.Hi
  · have : x.Trace.Hi ≠ y.Trace.Hi := by omega
    simp [c1, c2, this]
  have c3 : x.Trace.Hi = y.Trace.Hi := by omega
  by_cases o1 : x.Trace.Lo < y.Trace.Lo
  · simp [c3, o1]
  · by_cases o2 : y.Trace.Lo < x.Trace.Lo <;> simp [c3, o1, o2]
theorem xless_spec (a b : Trace) : gleaningref15_LessTrace a b = some (lessT a b) := by
  unfold gleaningref15_LessTrace lessT
  by_cases h : a.Hi < b.Hi
  · simp [h]
  · by_cases h2 : a.Hi = b.Hi
    · simp [h2]
    · simp [h, h2]
def fallB (l : List Episode) (i : Nat) : Bool := decide (0 < i) && match l[i]?, l[i - 1]? with | some a, some b => lessT a.Trace b.Trace | _, _ => false
def sortedB (l : List Episode) : Bool := !(List.range l.length).any (fallB l)
theorem sorted_spec (l : List Episode) (hl : l.length ≤ 1000000) : slices_IsSortedFunc_Episode_block_compare l = some (sortedB l) := by
  rw [slices_IsSortedFunc_Episode_block_compare, w64 (by omega) (by omega)]
  by_cases h0 : l = []
  · subst h0
    exact loop_now (by rfl)
  have hp : 0 < l.length := List.length_pos_iff.2 h0
  rw [show ((l.length : Int) - 1) = ((l.length - 1 : Nat) : Int) by omega]
  refine loop_fu (fun n s r => ∃ k : Nat, k < l.length ∧ k = n ∧ s = (k : Int) ∧ (∀ j, k < j → j < l.length → fallB l j = false) ∧ r = sortedB l) ?_ ⟨l.length - 1, by omega, rfl, rfl, fun j h1 h2 => by omega, rfl⟩ (by omega)
  rintro n s r ⟨k, hk, q0, rfl, hj, rfl⟩
  by_cases e : k = 0
  · subst e
    refine .inr ?_
    have : sortedB l = true := by
      rw [sortedB, Bool.not_eq_true']
      rw [← Bool.not_eq_true, List.any_eq_true]
      rintro ⟨j, h1, h2⟩
      rw [List.mem_range] at h1
      by_cases z : j = 0
      · subst z; simp [fallB] at h2
      · rw [hj j (by omega) h1] at h2; cases h2
    rw [this]; rfl
  · obtain ⟨v, q1, q2⟩ := bcompare_spec l[k] l[k - 1]
    have hw : IntKind.i64.wrap ((k : Int) - 1) = ((k - 1 : Nat) : Int) := by rw [w64 (by omega) (by omega)]; omega
    have hf : fallB l k = lessT l[k].Trace l[k - 1].Trace := by
      rw [fallB, dec_t (by omega : 0 < k), Bool.true_and, List.getElem?_eq_getElem hk, List.getElem?_eq_getElem (by omega : k - 1 < l.length)]
    cases hb : lessT l[k].Trace l[k - 1].Trace with
    | true =>
      refine .inr ?_
      have : sortedB l = false := by
        rw [sortedB, Bool.not_eq_false', List.any_eq_true]
        exact ⟨k, List.mem_range.2 hk, hf.trans hb⟩
      rw [this]
      simp only [slices_IsSortedFunc_Episode_block_compare_l0, dec_t (by omega : (0 : Int) < (k : Int)), if_true, gd_pos (by omega : (0 : Int) ≤ (k : Int)), Int.toNat_natCast, List.getElem?_eq_getElem hk, Option.bind_some, hw, gd_pos (by omega : (0 : Int) ≤ ((k - 1 : Nat) : Int)), List.getElem?_eq_getElem (by omega : k - 1 < l.length), q1, q2, hb]
    | false =>
      refine .inl ⟨((k - 1 : Nat) : Int), k - 1, ?_, by omega, k - 1, by omega, rfl, rfl, fun j h1 h2 => ?_, rfl⟩
      · simp only [slices_IsSortedFunc_Episode_block_compare_l0, dec_t (by omega : (0 : Int) < (k : Int)), if_true, gd_pos (by omega : (0 : Int) ≤ (k : Int)), Int.toNat_natCast, List.getElem?_eq_getElem hk, Option.bind_some, hw, gd_pos (by omega : (0 : Int) ≤ ((k - 1 : Nat) : Int)), List.getElem?_eq_getElem (by omega : k - 1 < l.length), q1, q2, hb, Bool.false_eq_true, if_false]
      · by_cases z : j = k
        · rw [z, hf, hb]
        · exact hj j (by omega) h2
def rightB (b : Block) : Bool := countB b.Number && (countB b.Born && (countB b.Tier && (sortedB b.Episodes && b.Episodes.all rightE)))
/-- few episodes, of few spans -/
def fewE (l : List Episode) : Prop := l.length ≤ 1000 ∧ ∀ e ∈ l, e.Spans.length ≤ 1000
theorem isB_spec (b : Block) (hl : fewE b.Episodes) : block_Right b = some (rightB b) := by
  have h2 := hl.2
  obtain ⟨v, g1, g2⟩ := loop_has (body := fun (q : Int) => slices_IndexFunc_Episode_block_Right_c1_l0 b.Episodes q) (fun s => !rightE s) b.Episodes (by have := hl.1; omega) (fun j hj => by
    have := hl.1
    simp only [slices_IndexFunc_Episode_block_Right_c1_l0, dec_t (by omega : (j : Int) < (b.Episodes.length : Int)), if_true, gd_pos (by omega : (0 : Int) ≤ (j : Int)), Int.toNat_natCast, List.getElem?_eq_getElem hj, Option.bind_some, block_Right_c1, isE_spec b.Episodes[j] (by have := h2 _ (List.getElem_mem hj); omega), ksuc (by omega : j < 1099511627776)]) (by simp only [slices_IndexFunc_Episode_block_Right_c1_l0, dec_f (by omega : ¬ (b.Episodes.length : Int) < (b.Episodes.length : Int)), Bool.false_eq_true, if_false])
  rw [block_Right, epoch_spec _ (by simp), Option.bind_some, rightB, sorted_spec _ (by have := hl.1; omega), slices_ContainsFunc_Episode_block_Right_c1, slices_IndexFunc_Episode_block_Right_c1, g1]
  simp only [List.all_cons, List.all_nil, Bool.and_true, Option.bind_some, g2]
  cases h1 : countB b.Number
  · rfl
  cases h2 : countB b.Born
  · rfl
  cases h3 : countB b.Tier
  · rfl
  cases h4 : sortedB b.Episodes
  · rfl
  simp only [Bool.and_self, if_true, Bool.true_and]
  congr 1
  rw [Bool.eq_iff_iff]; simp
def badB (b : Block) (i : Nat) : Bool := match b.Episodes[i]? with | none => false | some e => !rightE e || fallB b.Episodes i
theorem anyB (b : Block) : (List.range b.Episodes.length).any (badB b) = (!sortedB b.Episodes || !b.Episodes.all rightE) := by
  rw [Bool.eq_iff_iff]
  simp only [List.any_eq_true, List.mem_range, Bool.or_eq_true, badB, sortedB, Bool.not_not]
  constructor
  · rintro ⟨i, hi, h⟩
    rw [List.getElem?_eq_getElem hi] at h
    simp only [Bool.or_eq_true, Bool.not_eq_true'] at h
    rcases h with h | h
    · right
      rw [Bool.not_eq_true', ← Bool.not_eq_true, List.all_eq_true]
      intro q
      rw [q _ (List.getElem_mem hi)] at h
      cases h
    · exact .inl ⟨i, hi, h⟩
  · rintro (⟨i, hi, h⟩ | h)
    · exact ⟨i, hi, by rw [List.getElem?_eq_getElem hi]; simp [h]⟩
    · rw [Bool.not_eq_true', ← Bool.not_eq_true, List.all_eq_true] at h
      have : ∃ x ∈ b.Episodes, rightE x = false := Classical.byContradiction fun q => h fun x hx => by
        cases c : rightE x with
        | true => rfl
        | false => exact absurd ⟨x, hx, c⟩ q
      obtain ⟨x, hx, c⟩ := this
      obtain ⟨i, hi, rfl⟩ := List.getElem_of_mem hx
      exact ⟨i, hi, by rw [List.getElem?_eq_getElem hi]; simp [c]⟩
theorem xisB_spec (b : Block) (hl : fewE b.Episodes) : gleaningref15_RightBlock b = some (rightB b) := by
  have h1 := hl.1
  have h2 := hl.2
  have hstep : ∀ k (hk : k < b.Episodes.length), gleaningref15_RightBlock_l1 b (k : Int) = if badB b k = true then some (.inr (.inr false)) else some (.inl ((k + 1 : Nat) : Int)) := by
    intro k hk
    have hE := xisE_spec b.Episodes[k] (by have := h2 _ (List.getElem_mem hk); omega)
    simp only [gleaningref15_RightBlock_l1, dec_t (by omega : (k : Int) < (b.Episodes.length : Int)), if_true, gd_pos (by omega : (0 : Int) ≤ (k : Int)), Int.toNat_natCast, List.getElem?_eq_getElem hk, Option.bind_some, hE, badB]
    cases c : rightE b.Episodes[k] with
    | false => rfl
    | true =>
      simp only [Bool.not_true, Bool.false_eq_true, if_false, Bool.false_or, fallB, List.getElem?_eq_getElem hk]
      by_cases z : k = 0
      · subst z
        simp [ksuc (by omega : 0 < 1099511627776)]
        rfl
      · have hw : IntKind.i64.wrap ((k : Int) - 1) = ((k - 1 : Nat) : Int) := by rw [w64 (by omega) (by omega)]; omega
        simp only [dec_t (by omega : (0 : Int) < (k : Int)), dec_t (by omega : 0 < k), if_true, hw, gd_pos (by omega : (0 : Int) ≤ ((k - 1 : Nat) : Int)), Int.toNat_natCast, List.getElem?_eq_getElem (by omega : k - 1 < b.Episodes.length), Option.bind_some, xless_spec, Bool.true_and, ksuc (by omega : k < 1099511627776)]
  have := loop_write (body := fun (s : Int) => gleaningref15_RightBlock_l1 b s) (l := List.range b.Episodes.length) (badB b) (fun k => (k : Int)) (.inl ()) (.inr false) (by simp; omega) (fun k hk hb hk2 => by
      rw [List.getElem_range] at hk2
      rw [hstep k (by simpa using hk), hk2]; rfl) (fun k hk hb hk2 => by
      rw [List.getElem_range] at hk2
      rw [hstep k (by simpa using hk), hk2]; rfl) (fun hb => by
      simp only [List.length_range, gleaningref15_RightBlock_l1, dec_f (by omega : ¬ (b.Episodes.length : Int) < (b.Episodes.length : Int)), Bool.false_eq_true, if_false])
  rw [gleaningref15_RightBlock]
  refine (congrArg (fun o => Option.bind o _) this).trans ?_
  rw [anyB, rightB]
  cases c1 : sortedB b.Episodes
  · simp
  cases c2 : b.Episodes.all rightE
  · simp
  simp only [Bool.not_true, Bool.or_self, Bool.false_eq_true, if_false, Option.bind_some, Sum.elim_inl, gleaningref15_RightBlock_k0, xcount_spec]
  cases countB b.Number
  · rfl
  cases countB b.Born
  · rfl
  cases countB b.Tier <;> rfl
end Go.Proofs.Ytejimiedoibkcaa.Ab
namespace Go.Proofs.Ytejimiedoibkcaa.Ab
open Go Go.RowKit
set_option linter.unusedVariables false
set_option linter.unusedSimpArgs false
def epB (e : Episode) : List UInt8 := numsB [e.First, e.Last] ++ (numsB [bitI e.Sure] ++ (numsB [(e.Spans.length : Int)] ++ spansB e.Spans))
def idxB (e : Episode) : List UInt8 := numsB [e.Trace.Hi, e.Trace.Lo] ++ numsB [((epB e).length : Int)]
def bodyB (b : Block) : List UInt8 := numsB [b.Number, b.Born, b.Tier, (b.Episodes.length : Int)] ++ (b.Episodes.flatMap idxB ++ b.Episodes.flatMap epB)
def blkB (b : Block) : List UInt8 := if rightB b = true then sealB (bodyB b) else []
/-- an episode of numbers that there are -/
def wfE (e : Episode) : Prop := isU e.Trace.Hi ∧ isU e.Trace.Lo ∧ ∀ s ∈ e.Spans, wfS s
theorem isU_c {n : Int} (h : countB n = true) : isU n := ⟨(countB_of h).1, by have := (countB_of h).2; omega⟩
theorem isU_len {n : Nat} (h : n ≤ 1000000000) : isU (n : Int) := ⟨by omega, by omega⟩
theorem isU_bit (b : Bool) : isU (bitI b) := ⟨(bitU b).1, by have := (bitU b).2; omega⟩
theorem nums_le1 {n : Int} (h : isU n) : (numsB [n]).length ≤ 10 := numsB_le [n] (by simpa using h)
theorem nums_le2 {m n : Int} (k : isU m) (h : isU n) : (numsB [m, n]).length ≤ 20 := numsB_le [m, n] (by simpa using ⟨k, h⟩)
theorem epB_le {e : Episode} (hw : wfE e) (h : rightE e = true) (hl : e.Spans.length ≤ 1000) : (epB e).length ≤ 400100 := by
  obtain ⟨h1, h2, h3, h4⟩ := rightE_of h
  have a1 := nums_le2 (isU_c h1) (isU_c h2)
  have a2 := nums_le1 (isU_bit e.Sure)
  have a3 := nums_le1 (isU_len (n := e.Spans.length) (by omega))
  have a4 := spansB_le e.Spans fun s hs => ⟨hw.2.2 s hs, h4 s hs⟩
  simp only [epB, List.length_append]; omega
theorem puts_spec (w : Writer) (e : Episode) (hw : wfE e) (h : rightE e = true) (hl : e.Spans.length ≤ 1000) (hb : w.B.length ≤ 900000000) : block_PutSpans w e = some ⟨w.B ++ epB e⟩ := by
  obtain ⟨h1, h2, h3, h4⟩ := rightE_of h
  have c1 := countB_of h1
  have c2 := countB_of h2
  have a1 := nums_le2 (isU_c h1) (isU_c h2)
  have a2 := nums_le1 (isU_bit e.Sure)
  have a3 := nums_le1 (isU_len (n := e.Spans.length) (by omega))
  rw [block_PutSpans, num_spec _ _ (by simp only [List.mem_cons, List.not_mem_nil, or_false]; rintro n (rfl | rfl) <;> omega) (by simp only [List.length_cons, List.length_nil]; omega), Option.bind_some,
    flag_spec _ _ (by simp only [List.length_append]; omega), Option.bind_some, num_spec _ _ (fun n hn => by rw [List.mem_singleton.1 hn]; omega) (by simp only [List.length_cons, List.length_nil, List.length_append]; omega), Option.bind_some]
  have hB : w.B ++ epB e = (w.B ++ numsB [e.First, e.Last] ++ numsB [bitI e.Sure] ++ numsB [(e.Spans.length : Int)]) ++ spansB e.Spans := by simp [epB]
  rw [hB]
  dsimp only
  generalize hC : w.B ++ numsB [e.First, e.Last] ++ numsB [bitI e.Sure] ++ numsB [(e.Spans.length : Int)] = C
  have hCl : C.length ≤ 900000100 := by rw [← hC]; simp only [List.length_append]; omega
  refine loop_list (l := e.Spans) (fun k r q => q = (C ++ spansB (e.Spans.take k), (k : Int)) ∧ r = ⟨C ++ spansB e.Spans⟩) (by omega) ?_ ?_ ⟨by simp [spansB], rfl⟩
  · rintro k hk r q ⟨rfl, rfl⟩
    have hle := spansB_le (e.Spans.take k) fun s hs => ⟨hw.2.2 s (List.mem_of_mem_take hs), h4 s (List.mem_of_mem_take hs)⟩
    have hle2 : (e.Spans.take k).length ≤ 1000 := by simp; omega
    refine .inl ⟨(C ++ spansB (e.Spans.take (k + 1)), ((k + 1 : Nat) : Int)), ?_, rfl, rfl⟩
    simp only [block_PutSpans_l0, dec_t (by omega : (k : Int) < (e.Spans.length : Int)), if_true, gd_pos (by omega : (0 : Int) ≤ (k : Int)), Int.toNat_natCast, List.getElem?_eq_getElem hk, Option.bind_some]
    rw [put_spec _ _ (hw.2.2 _ (List.getElem_mem hk)) (h4 _ (List.getElem_mem hk)) (by simp only [List.length_append]; omega), Option.bind_some, ksuc (by omega), List.take_succ_eq_append_getElem hk, spansB_app]
    simp [spansB]
  · rintro r q ⟨rfl, rfl⟩
    simp only [block_PutSpans_l0, dec_f (by omega : ¬ (e.Spans.length : Int) < (e.Spans.length : Int)), Bool.false_eq_true, if_false, List.take_length]
theorem xput (b : List UInt8) {n : Int} (h : isU n) (hl : b.length ≤ 1000000000) : gleaningref1_Put b n = some (b ++ numsB [n]) := by
  have := rput_spec b n.toNat (by have := h.2; have := h.1; omega) (by omega)
  rw [Int.toNat_of_nonneg h.1] at this
  rw [this]; simp [numsB]
theorem xputw (b : List UInt8) {n : Int} (h : isU n) (hl : b.length ≤ 1000000000) : gleaningref1_Put b (IntKind.u64.wrap n) = some (b ++ numsB [n]) := by
  rw [wu64 h.1 h.2]; exact xput b h hl
theorem xbit (b : Bool) : gleaningref1_Bit b = some (bitI b) := by cases b <;> rfl
theorem xbody_spec (b : List UInt8) (e : Episode) (hw : wfE e) (h : rightE e = true) (hl : e.Spans.length ≤ 1000) (hb : b.length ≤ 900000000) : gleaningref15_body b e = some (b ++ epB e) := by
  obtain ⟨h1, h2, h3, h4⟩ := rightE_of h
  have u1 := isU_c h1
  have u2 := isU_c h2
  have u3 := isU_bit e.Sure
  have u4 := isU_len (n := e.Spans.length) (by omega)
  have a0 := nums_le1 u1
  have a1 := nums_le1 u2
  have a2 := nums_le1 u3
  have a3 := nums_le1 u4
  rw [gleaningref15_body, xputw _ u1 (by omega), Option.bind_some, xputw _ u2 (by simp only [List.length_append]; omega), Option.bind_some, xbit, Option.bind_some, xput _ u3 (by simp only [List.length_append]; omega), Option.bind_some, xputw _ u4 (by simp only [List.length_append]; omega), Option.bind_some]
  have hB : b ++ epB e = (b ++ numsB [e.First] ++ numsB [e.Last] ++ numsB [bitI e.Sure] ++ numsB [(e.Spans.length : Int)]) ++ spansB e.Spans := by simp [epB, numsB]
  rw [hB]
  generalize hC : b ++ numsB [e.First] ++ numsB [e.Last] ++ numsB [bitI e.Sure] ++ numsB [(e.Spans.length : Int)] = C
  have hCl : C.length ≤ 900000100 := by rw [← hC]; simp only [List.length_append]; omega
  refine loop_list (l := e.Spans) (fun k r q => q = (C ++ spansB (e.Spans.take k), (k : Int)) ∧ r = C ++ spansB e.Spans) (by omega) ?_ ?_ ⟨by simp [spansB], rfl⟩
  · rintro k hk r q ⟨rfl, rfl⟩
    have hle := spansB_le (e.Spans.take k) fun s hs => ⟨hw.2.2 s (List.mem_of_mem_take hs), h4 s (List.mem_of_mem_take hs)⟩
    have hle2 : (e.Spans.take k).length ≤ 1000 := by simp; omega
    refine .inl ⟨(C ++ spansB (e.Spans.take (k + 1)), ((k + 1 : Nat) : Int)), ?_, rfl, rfl⟩
    simp only [gleaningref15_body_l0, dec_t (by omega : (k : Int) < (e.Spans.length : Int)), if_true, gd_pos (by omega : (0 : Int) ≤ (k : Int)), Int.toNat_natCast, List.getElem?_eq_getElem hk, Option.bind_some]
    rw [xadd_spec _ _ (hw.2.2 _ (List.getElem_mem hk)) (h4 _ (List.getElem_mem hk)) (by simp only [List.length_append]; omega), Option.bind_some, ksuc (by omega), List.take_succ_eq_append_getElem hk, spansB_app]
    simp [spansB]
  · rintro r q ⟨rfl, rfl⟩
    simp only [gleaningref15_body_l0, dec_f (by omega : ¬ (e.Spans.length : Int) < (e.Spans.length : Int)), Bool.false_eq_true, if_false, List.take_length]
theorem xputs_spec (l : List Int) (b : List UInt8) (hu : ∀ n ∈ l, isU n) (hl : l.length ≤ 1000000) (hb : b.length ≤ 900000000) : gleaningref15_puts b l = some (b ++ numsB l) := by
  rw [gleaningref15_puts]
  refine loop_list (l := l) (fun k r q => q = (b ++ numsB (l.take k), (k : Int)) ∧ r = b ++ numsB l) (by omega) ?_ ?_ ⟨by simp [numsB], rfl⟩
  · rintro k hk r q ⟨rfl, rfl⟩
    have hle := numsB_le (l.take k) fun n hn => hu n (List.mem_of_mem_take hn)
    have hle2 : (l.take k).length ≤ 1000000 := by simp; omega
    refine .inl ⟨(b ++ numsB (l.take (k + 1)), ((k + 1 : Nat) : Int)), ?_, rfl, rfl⟩
    simp only [gleaningref15_puts_l0, dec_t (by omega : (k : Int) < (l.length : Int)), if_true, gd_pos (by omega : (0 : Int) ≤ (k : Int)), Int.toNat_natCast, List.getElem?_eq_getElem hk, Option.bind_some]
    rw [xputw _ (hu _ (List.getElem_mem hk)) (by simp only [List.length_append]; omega), Option.bind_some, ksuc (by omega), List.take_succ_eq_append_getElem hk, numsB_app, List.append_assoc]
  · rintro r q ⟨rfl, rfl⟩
    simp only [gleaningref15_puts_l0, dec_f (by omega : ¬ (l.length : Int) < (l.length : Int)), Bool.false_eq_true, if_false, List.take_length]
theorem xtrace_spec (b : List UInt8) (t : Trace) (h1 : isU t.Hi) (h2 : isU t.Lo) (hb : b.length ≤ 900000000) : gleaningref15_trace b t = some (b ++ numsB [t.Hi, t.Lo]) := by
  have a1 := nums_le1 h1
  rw [gleaningref15_trace, xput _ h1 (by omega), Option.bind_some, xput _ h2 (by simp only [List.length_append]; omega), Option.bind_some]
  simp [numsB]
/-- blocks of few episodes, of numbers that there are -/
structure okB (b : Block) : Prop where
  len : b.Episodes.length ≤ 200
  few : ∀ e ∈ b.Episodes, e.Spans.length ≤ 100
  wf : ∀ e ∈ b.Episodes, wfE e
theorem okB.fe {b : Block} (h : okB b) : fewE b.Episodes := ⟨by have := h.len; omega, fun e he => by have := h.few e he; omega⟩
theorem ep_le {e : Episode} (hw : wfE e) (h : rightE e = true) (hl : e.Spans.length ≤ 100) : (epB e).length ≤ 40100 := by
  obtain ⟨h1, h2, h3, h4⟩ := rightE_of h
  have a1 := nums_le2 (isU_c h1) (isU_c h2)
  have a2 := nums_le1 (isU_bit e.Sure)
  have a3 := nums_le1 (isU_len (n := e.Spans.length) (by omega))
  have a4 := spansB_le e.Spans fun s hs => ⟨hw.2.2 s hs, h4 s hs⟩
  simp only [epB, List.length_append]; omega
theorem idx_le {e : Episode} (hw : wfE e) (h : rightE e = true) (hl : e.Spans.length ≤ 100) : (idxB e).length ≤ 30 := by
  have a1 := nums_le2 hw.1 hw.2.1
  have a2 := nums_le1 (isU_len (n := (epB e).length) (by have := ep_le hw h hl; omega))
  simp only [idxB, List.length_append]; omega
theorem flat_le {α : Type} {f : α → List UInt8} {m : Nat} : ∀ (l : List α), (∀ x ∈ l, (f x).length ≤ m) → (l.flatMap f).length ≤ m * l.length
  | [], _ => by simp
  | x :: l, h => by
    have h1 := h x List.mem_cons_self
    have h2 := flat_le l fun y hy => h y (List.mem_cons_of_mem _ hy)
    rw [List.flatMap_cons, List.length_append, List.length_cons, Nat.mul_succ]; omega
theorem flat_suc {α : Type} (f : α → List UInt8) {l : List α} {k : Nat} (hk : k < l.length) : (l.take (k + 1)).flatMap f = (l.take k).flatMap f ++ f l[k] := by
  rw [List.take_succ_eq_append_getElem hk, List.flatMap_append]; simp
theorem bytesB_spec (b : Block) (hb : okB b) : block_Bytes b = some (blkB b) := by
  rw [block_Bytes, isB_spec b hb.fe, Option.bind_some, blkB]
  cases hr : rightB b with
  | false => rfl
  | true =>
    have hr' := hr
    simp only [rightB, Bool.and_eq_true, List.all_eq_true] at hr'
    obtain ⟨r1, r2, r3, r4, r5⟩ := hr'
    have l0 := hb.len
    have u : ∀ n ∈ [b.Number, b.Born, b.Tier, (b.Episodes.length : Int)], isU n := by
      simp only [List.mem_cons, List.not_mem_nil, or_false]
      rintro n (rfl | rfl | rfl | rfl)
      · exact isU_c r1
      · exact isU_c r2
      · exact isU_c r3
      · exact isU_len (by omega)
    have un : ∀ n ∈ [b.Number, b.Born, b.Tier, (b.Episodes.length : Int)], 0 ≤ n ∧ n < 9223372036854775808 := by
      have c1 := countB_of r1
      have c2 := countB_of r2
      have c3 := countB_of r3
      simp only [List.mem_cons, List.not_mem_nil, or_false]
      rintro n (rfl | rfl | rfl | rfl) <;> omega
    have a0 := numsB_le _ u
    simp only [List.length_cons, List.length_nil] at a0
    simp only [Bool.not_true, Bool.false_eq_true, if_false, if_true]
    rw [num_spec _ _ un (by simp), Option.bind_some]
    dsimp only
    rw [List.nil_append]
    generalize hC : numsB [b.Number, b.Born, b.Tier, (b.Episodes.length : Int)] = C at a0 ⊢
    have i1 : ∀ k, ((b.Episodes.take k).flatMap idxB).length ≤ 30 * 200 := fun k => by
      have := flat_le (f := idxB) (m := 30) (b.Episodes.take k) fun e he => idx_le (hb.wf _ (List.mem_of_mem_take he)) (r5 _ (List.mem_of_mem_take he)) (hb.few _ (List.mem_of_mem_take he))
      have : (b.Episodes.take k).length ≤ 200 := by simp; omega
      omega
    have i2 : ∀ k, ((b.Episodes.take k).flatMap epB).length ≤ 40100 * 200 := fun k => by
      have := flat_le (f := epB) (m := 40100) (b.Episodes.take k) fun e he => ep_le (hb.wf _ (List.mem_of_mem_take he)) (r5 _ (List.mem_of_mem_take he)) (hb.few _ (List.mem_of_mem_take he))
      have : (b.Episodes.take k).length ≤ 200 := by simp; omega
      omega
    have hloop : loopN (fun (s : List UInt8 × List UInt8 × Int) => block_Bytes_l1 b s.1 s.2.1 s.2.2) Fu (C, [], 0) = some (C ++ b.Episodes.flatMap idxB, b.Episodes.flatMap epB) := by
      refine loop_list (l := b.Episodes) (fun k r q => q = (C ++ (b.Episodes.take k).flatMap idxB, (b.Episodes.take k).flatMap epB, (k : Int)) ∧ r = (C ++ b.Episodes.flatMap idxB, b.Episodes.flatMap epB)) (by omega) ?_ ?_ ⟨by simp, rfl⟩
      · rintro k hk r q ⟨rfl, rfl⟩
        have j1 := i1 k
        have j2 := i2 k
        have hwe := hb.wf _ (List.getElem_mem hk)
        have hre := r5 _ (List.getElem_mem hk)
        have hle := ep_le hwe hre (hb.few _ (List.getElem_mem hk))
        refine .inl ⟨(C ++ (b.Episodes.take (k + 1)).flatMap idxB, (b.Episodes.take (k + 1)).flatMap epB, ((k + 1 : Nat) : Int)), ?_, rfl, rfl⟩
        simp only [block_Bytes_l1, dec_t (by omega : (k : Int) < (b.Episodes.length : Int)), if_true, gd_pos (by omega : (0 : Int) ≤ (k : Int)), Int.toNat_natCast, List.getElem?_eq_getElem hk, Option.bind_some]
        have e1 : IntKind.i64.wrap ((((b.Episodes.take k).flatMap epB ++ epB b.Episodes[k]).length : Int) - (((b.Episodes.take k).flatMap epB).length : Int)) = ((epB b.Episodes[k]).length : Int) := by
          rw [w64 (by rw [List.length_append]; omega) (by rw [List.length_append]; omega), List.length_append]; omega
        have u2 : ∀ n ∈ [b.Episodes[k].Trace.Hi, b.Episodes[k].Trace.Lo], isU n := by
          simp only [List.mem_cons, List.not_mem_nil, or_false]
          rintro n (rfl | rfl)
          · exact hwe.1
          · exact hwe.2.1
        have n2 := nums_le2 hwe.1 hwe.2.1
        rw [puts_spec _ _ hwe hre (by have := hb.few _ (List.getElem_mem hk); omega) (by dsimp only; omega), Option.bind_some, wide_spec _ _ u2 (by simp only [List.length_append, List.length_cons, List.length_nil]; omega), Option.bind_some]
        dsimp only
        rw [e1, num_spec _ _ (fun n hn => by rw [List.mem_singleton.1 hn]; omega) (by simp only [List.length_append, List.length_cons, List.length_nil]; omega), Option.bind_some, ksuc (by omega), flat_suc idxB hk, flat_suc epB hk]
        simp [idxB]
      · rintro r q ⟨rfl, rfl⟩
        simp only [block_Bytes_l1, dec_f (by omega : ¬ (b.Episodes.length : Int) < (b.Episodes.length : Int)), Bool.false_eq_true, if_false, List.take_length]
    refine (congrArg (fun o => Option.bind o _) hloop).trans ?_
    have j1 := i1 b.Episodes.length
    have j2 := i2 b.Episodes.length
    rw [List.take_length] at j1 j2
    have hlen : (C ++ b.Episodes.flatMap idxB ++ b.Episodes.flatMap epB).length ≤ 100000000 := by simp only [List.length_append]; omega
    rw [Option.bind_some, block_Bytes_k0, gd_pos (by dsimp only; omega), seal_spec _ hlen, Option.bind_some, bodyB, hC, List.append_assoc]
theorem xbytesB_spec (b : Block) (hb : okB b) : gleaningref15_BlockBytes b = some (blkB b) := by
  rw [gleaningref15_BlockBytes, xisB_spec b hb.fe, Option.bind_some, blkB]
  cases hr : rightB b with
  | false => rfl
  | true =>
    have hr' := hr
    simp only [rightB, Bool.and_eq_true, List.all_eq_true] at hr'
    obtain ⟨r1, r2, r3, r4, r5⟩ := hr'
    have l0 := hb.len
    have u : ∀ n ∈ [b.Number, b.Born, b.Tier, (b.Episodes.length : Int)], isU n := by
      simp only [List.mem_cons, List.not_mem_nil, or_false]
      rintro n (rfl | rfl | rfl | rfl)
      · exact isU_c r1
      · exact isU_c r2
      · exact isU_c r3
      · exact isU_len (by omega)
    have a0 := numsB_le _ u
    simp only [List.length_cons, List.length_nil] at a0
    simp only [Bool.not_true, Bool.false_eq_true, if_false, if_true]
    rw [xputs_spec _ _ u (by simp) (by simp), Option.bind_some, List.nil_append]
    generalize hC : numsB [b.Number, b.Born, b.Tier, (b.Episodes.length : Int)] = C at a0 ⊢
    have i1 : ∀ k, ((b.Episodes.take k).flatMap idxB).length ≤ 30 * 200 := fun k => by
      have := flat_le (f := idxB) (m := 30) (b.Episodes.take k) fun e he => idx_le (hb.wf _ (List.mem_of_mem_take he)) (r5 _ (List.mem_of_mem_take he)) (hb.few _ (List.mem_of_mem_take he))
      have : (b.Episodes.take k).length ≤ 200 := by simp; omega
      omega
    have i2 : ∀ k, ((b.Episodes.take k).flatMap epB).length ≤ 40100 * 200 := fun k => by
      have := flat_le (f := epB) (m := 40100) (b.Episodes.take k) fun e he => ep_le (hb.wf _ (List.mem_of_mem_take he)) (r5 _ (List.mem_of_mem_take he)) (hb.few _ (List.mem_of_mem_take he))
      have : (b.Episodes.take k).length ≤ 200 := by simp; omega
      omega
    have hloop : loopN (fun (s : List UInt8 × List UInt8 × Int) => gleaningref15_BlockBytes_l1 b s.1 s.2.1 s.2.2) Fu (C, [], 0) = some (C ++ b.Episodes.flatMap idxB, b.Episodes.flatMap epB) := by
      refine loop_list (l := b.Episodes) (fun k r q => q = (C ++ (b.Episodes.take k).flatMap idxB, (b.Episodes.take k).flatMap epB, (k : Int)) ∧ r = (C ++ b.Episodes.flatMap idxB, b.Episodes.flatMap epB)) (by omega) ?_ ?_ ⟨by simp, rfl⟩
      · rintro k hk r q ⟨rfl, rfl⟩
        have j1 := i1 k
        have j2 := i2 k
        have hwe := hb.wf _ (List.getElem_mem hk)
        have hre := r5 _ (List.getElem_mem hk)
        have hle := ep_le hwe hre (hb.few _ (List.getElem_mem hk))
        refine .inl ⟨(C ++ (b.Episodes.take (k + 1)).flatMap idxB, (b.Episodes.take (k + 1)).flatMap epB, ((k + 1 : Nat) : Int)), ?_, rfl, rfl⟩
        have n2 := nums_le2 hwe.1 hwe.2.1
        simp only [gleaningref15_BlockBytes_l1, dec_t (by omega : (k : Int) < (b.Episodes.length : Int)), if_true, gd_pos (by omega : (0 : Int) ≤ (k : Int)), Int.toNat_natCast, List.getElem?_eq_getElem hk, Option.bind_some]
        rw [xbody_spec _ _ hwe hre (by have := hb.few _ (List.getElem_mem hk); omega) (by simp), Option.bind_some, List.nil_append, xtrace_spec _ _ hwe.1 hwe.2.1 (by simp only [List.length_append]; omega), Option.bind_some, xputw _ (isU_len (by omega)) (by simp only [List.length_append]; omega), Option.bind_some, gd_pos (by simp only [List.length_append]; omega), ksuc (by omega), flat_suc idxB hk, flat_suc epB hk]
        simp [idxB]
      · rintro r q ⟨rfl, rfl⟩
        simp only [gleaningref15_BlockBytes_l1, dec_f (by omega : ¬ (b.Episodes.length : Int) < (b.Episodes.length : Int)), Bool.false_eq_true, if_false, List.take_length]
    refine (congrArg (fun o => Option.bind o _) hloop).trans ?_
    have j1 := i1 b.Episodes.length
    have j2 := i2 b.Episodes.length
    rw [List.take_length] at j1 j2
    have hlen : (C ++ b.Episodes.flatMap idxB ++ b.Episodes.flatMap epB).length ≤ 100000000 := by simp only [List.length_append]; omega
    rw [Option.bind_some, gleaningref15_BlockBytes_k0, gd_pos (by dsimp only; omega), xseal_spec _ hlen, Option.bind_some, bodyB, hC, List.append_assoc]
theorem blkB_le (b : Block) (hb : okB b) : (blkB b).length ≤ 100000000 := by
  rw [blkB]
  cases hr : rightB b with
  | false => simp
  | true =>
    have hr' := hr
    simp only [rightB, Bool.and_eq_true, List.all_eq_true] at hr'
    obtain ⟨r1, r2, r3, r4, r5⟩ := hr'
    have l0 := hb.len
    have u : ∀ n ∈ [b.Number, b.Born, b.Tier, (b.Episodes.length : Int)], isU n := by
      simp only [List.mem_cons, List.not_mem_nil, or_false]
      rintro n (rfl | rfl | rfl | rfl)
      · exact isU_c r1
      · exact isU_c r2
      · exact isU_c r3
      · exact isU_len (by omega)
    have a0 := numsB_le _ u
    simp only [List.length_cons, List.length_nil] at a0
    have i1 := flat_le (f := idxB) (m := 30) b.Episodes fun e he => idx_le (hb.wf _ he) (r5 _ he) (hb.few _ he)
    have i2 := flat_le (f := epB) (m := 40100) b.Episodes fun e he => ep_le (hb.wf _ he) (r5 _ he) (hb.few _ he)
    simp only [if_true, sealB, bodyB, List.length_append, fourN_length]; omega
/-- how many bytes a block has -/
def sizeB (b : Block) : Int := ((blkB b).length : Int)
theorem size_spec (b : Block) (hb : okB b) : block_Size b = some (sizeB b) := by rw [block_Size, bytesB_spec b hb]; rfl
theorem sizeB_le (b : Block) (hb : okB b) : 0 ≤ sizeB b ∧ sizeB b ≤ 100000000 := by have := blkB_le b hb; unfold sizeB; omega
end Go.Proofs.Ytejimiedoibkcaa.Ab
