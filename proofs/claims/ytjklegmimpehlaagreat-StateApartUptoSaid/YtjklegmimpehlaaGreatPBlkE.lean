/- Episodes, told plainly: which may be, and how one is written. -/
import Derived.Test.YtjklegmimpehlaaGreatXBlk
import Derived.Test.YtjklegmimpehlaaGreatPSealO
namespace Go.Proofs.YtjklegmimpehlaaGreat.Ab
open Go Go.RowKit
set_option linter.unusedVariables false
set_option linter.unusedSimpArgs false
def countB (n : Int) : Bool := decide (0 ≤ n) && decide (n ≤ 1099511627776)
theorem countB_of {n : Int} (h : countB n = true) : 0 ≤ n ∧ n ≤ 1099511627776 := by simpa [countB] using h
theorem epoch_c (n : Int) : block_Epoch_c1 n = some (!countB n) := by
 unfold block_Epoch_c1 countB
 by_cases h : n < 0
 ·rw [dec_t h, ite_tt, dec_f (by omega : ¬ 0 ≤ n)]; rfl
 ·rw [dec_f h, ite_ff, dec_t (by omega : 0 ≤ n), Bool.true_and]
  congr 1
  by_cases h2 : n ≤ 1099511627776
  ·rw [dec_t h2, dec_f (by omega)]; rfl
  ·rw [dec_f h2, dec_t (by omega)]; rfl
theorem epoch_spec (l : List Int) (hl : l.length ≤ 1000000000) : block_Epoch l = some (l.all countB) := by
 obtain ⟨v, g1, g2⟩ := loop_has (body := fun (q : Int) => slices_IndexFunc_int_block_Epoch_c1_l0 l q) (fun n => !countB n) l hl (fun j hj => by
  simp only [slices_IndexFunc_int_block_Epoch_c1_l0, dec_t (by omega : (j : Int) < (l.length : Int)), if_true, gd_pos (by omega : (0 : Int) ≤ (j : Int)), Int.toNat_natCast, List.getElem?_eq_getElem hj, Option.bind_some, epoch_c, ksuc (by omega : j < 1099511627776)]) (by simp only [slices_IndexFunc_int_block_Epoch_c1_l0, dec_f (by omega : ¬ (l.length : Int) < (l.length : Int)), Bool.false_eq_true, if_false])
 rw [block_Epoch, slices_ContainsFunc_int_block_Epoch_c1, slices_IndexFunc_int_block_Epoch_c1, g1, Option.bind_some, g2, Option.bind_some]
 congr 1
 rw [Bool.eq_iff_iff]; simp
theorem xcount_spec (n : Int) : gleaningref15_count n = some (countB n) := by
 unfold gleaningref15_count countB
 by_cases h : 0 ≤ n
 ·rw [dec_t h, ite_tt]; rfl
 ·rw [dec_f h, ite_ff]; rfl
theorem sall_spec (l : List Span) (hl : l.length ≤ 1000000) : span_All l = some (l.all rightS) := by
 obtain ⟨v, g1, g2⟩ := loop_has (body := fun (q : Int) => slices_IndexFunc_Span_span_All_c1_l0 l q) (fun s => !rightS s) l (by omega) (fun j hj => by
  simp only [slices_IndexFunc_Span_span_All_c1_l0, dec_t (by omega : (j : Int) < (l.length : Int)), if_true, gd_pos (by omega : (0 : Int) ≤ (j : Int)), Int.toNat_natCast, List.getElem?_eq_getElem hj, Option.bind_some, span_All_c1, right_spec, ksuc (by omega : j < 1099511627776)]) (by simp only [slices_IndexFunc_Span_span_All_c1_l0, dec_f (by omega : ¬ (l.length : Int) < (l.length : Int)), Bool.false_eq_true, if_false])
 rw [span_All, slices_ContainsFunc_Span_span_All_c1, slices_IndexFunc_Span_span_All_c1, g1, Option.bind_some, g2, Option.bind_some]
 congr 1
 rw [Bool.eq_iff_iff]; simp
def badE (e : Episode) (i : Nat) : Bool := match e.Spans[i]? with | none => false | some s => !decide (s.Trace = e.Trace) || (e.Spans.take i).any (fun x => decide (x.Id = s.Id))
def rightE (e : Episode) : Bool := countB e.First && (countB e.Last && (!e.Spans.isEmpty && (e.Spans.all rightS && !(List.range e.Spans.length).any (badE e))))
def idsOf (l : List Span) : List Int := l.foldl (fun k s => addN k s.Id) []
theorem addN_mem {ks : List Int} {v n : Int} : n ∈ addN ks v ↔ n ∈ ks ∨ n = v := by
 unfold addN
 split
 ·rename_i h
  exact ⟨.inl, fun q => q.elim id fun e => e ▸ h⟩
 ·simp
theorem ids_mem (n : Int) : ∀ (l : List Span) (acc : List Int), n ∈ l.foldl (fun k s => addN k s.Id) acc ↔ n ∈ acc ∨ ∃ s ∈ l, s.Id = n
 | [], acc => by simp
 | x :: l, acc => by
  rw [List.foldl_cons, ids_mem n l, addN_mem]
  constructor
  ·rintro ((h | h) | ⟨s, h1, h2⟩)
   ·exact .inl h
   ·exact .inr ⟨x, List.mem_cons_self, h.symm⟩
   ·exact .inr ⟨s, List.mem_cons_of_mem _ h1, h2⟩
  ·rintro (h | ⟨s, h1, h2⟩)
   ·exact .inl (.inl h)
   ·rcases List.mem_cons.1 h1 with rfl | h1
    ·exact .inl (.inr h2.symm)
    ·exact .inr ⟨s, h1, h2⟩
theorem idsOf_dec (l : List Span) (n : Int) : decide (n ∈ idsOf l) = l.any (fun x => decide (x.Id = n)) := by
 rw [Bool.eq_iff_iff, decide_eq_true_iff, idsOf, ids_mem]
 simp
theorem idsOf_suc {l : List Span} {k : Nat} (hk : k < l.length) : addN (idsOf (l.take k)) l[k].Id = idsOf (l.take (k + 1)) := by
 rw [List.take_succ_eq_append_getElem hk, idsOf, idsOf, List.foldl_append]; rfl
theorem isE_spec (e : Episode) (hl : e.Spans.length ≤ 1000000) : block_Episode e = some (rightE e) := by
 have hk0 : block_Episode_k0 e = some (!(List.range e.Spans.length).any (badE e)) := by
  have := loop_write (body := fun (s : List Int × Int) => block_Episode_l1 e s.1 s.2) (l := List.range e.Spans.length) (badE e) (fun k => (idsOf (e.Spans.take k), (k : Int))) true false (by simp; omega) (fun k hk hb hk2 => by
    have hk' : k < e.Spans.length := by simpa using hk
    rw [List.getElem_range] at hk2
    simp only [badE, List.getElem?_eq_getElem hk', Bool.or_eq_false_iff, Bool.not_eq_false'] at hk2
    simp only [block_Episode_l1, dec_t (by omega : (k : Int) < (e.Spans.length : Int)), if_true, gd_pos (by omega : (0 : Int) ≤ (k : Int)), Int.toNat_natCast, List.getElem?_eq_getElem hk', Option.bind_some, trace_eq, hk2.1, idsOf_dec, hk2.2, Bool.not_true, Bool.false_eq_true, if_false, Sum.elim_inl, block_Episode_k2, ksuc (by omega : k < 1099511627776), idsOf_suc hk']) (fun k hk hb hk2 => by
    have hk' : k < e.Spans.length := by simpa using hk
    rw [List.getElem_range] at hk2
    simp only [badE, List.getElem?_eq_getElem hk'] at hk2
    simp only [block_Episode_l1, dec_t (by omega : (k : Int) < (e.Spans.length : Int)), if_true, gd_pos (by omega : (0 : Int) ≤ (k : Int)), Int.toNat_natCast, List.getElem?_eq_getElem hk', Option.bind_some, trace_eq, idsOf_dec]
    cases h1 : decide (e.Spans[k].Trace = e.Trace) with
    | false => rfl
    | true =>
     rw [h1, Bool.not_true, Bool.false_or] at hk2
     simp only [Bool.not_true, Bool.false_eq_true, if_false, hk2, if_true, Option.bind_some, Sum.elim_inr]) (fun hb => by
    simp only [List.length_range, block_Episode_l1, dec_f (by omega : ¬ (e.Spans.length : Int) < (e.Spans.length : Int)), Bool.false_eq_true, if_false])
  rw [block_Episode_k0]
  refine this.trans ?_
  cases (List.range e.Spans.length).any (badE e) <;> rfl
 rw [block_Episode, epoch_spec _ (by simp), Option.bind_some, rightE]
 simp only [List.all_cons, List.all_nil, Bool.and_true]
 cases h1 : countB e.First
 ·rfl
 cases h2 : countB e.Last
 ·rfl
 by_cases h3 : e.Spans = []
 ·rw [h3]; rfl
 ·have : e.Spans.length ≠ 0 := fun q => h3 (List.length_eq_zero_iff.1 q)
  rw [show (((e.Spans.length : Nat) : Int) == 0) = false from by simpa using h3, show e.Spans.isEmpty = false from by simpa using h3, sall_spec _ hl]
  cases h4 : e.Spans.all rightS
  ·rfl
  ·simp only [Bool.and_self, Bool.not_true, Bool.false_eq_true, if_false, Option.bind_some, Sum.elim_inl, hk0, Bool.not_false, Bool.true_and]
def badX (e : Episode) (i : Nat) : Bool := match e.Spans[i]? with | none => false | some s => !rightS s || badE e i
theorem anyX (e : Episode) : (List.range e.Spans.length).any (badX e) = (!e.Spans.all rightS || (List.range e.Spans.length).any (badE e)) := by
 rw [Bool.eq_iff_iff]
 simp only [List.any_eq_true, List.mem_range, Bool.or_eq_true, Bool.not_eq_true', badX]
 constructor
 ·rintro ⟨i, hi, h⟩
  rw [List.getElem?_eq_getElem hi] at h
  simp only [Bool.or_eq_true, Bool.not_eq_true'] at h
  rcases h with h | h
  ·left
   rw [← Bool.not_eq_true, List.all_eq_true]
   intro q
   rw [q _ (List.getElem_mem hi)] at h
   cases h
  ·exact .inr ⟨i, hi, h⟩
 ·rintro (h | ⟨i, hi, h⟩)
  ·rw [← Bool.not_eq_true, List.all_eq_true] at h
   have : ∃ x ∈ e.Spans, rightS x = false := Classical.byContradiction fun q => h fun x hx => by
    cases c : rightS x with
    | true => rfl
    | false => exact absurd ⟨x, hx, c⟩ q
   obtain ⟨x, hx, c⟩ := this
   obtain ⟨i, hi, rfl⟩ := List.getElem_of_mem hx
   exact ⟨i, hi, by rw [List.getElem?_eq_getElem hi]; simp [c]⟩
  ·exact ⟨i, hi, by rw [List.getElem?_eq_getElem hi]; simp [h]⟩
theorem xisE_spec (e : Episode) (hl : e.Spans.length ≤ 1000000) : gleaningref15_RightEpisode e = some (rightE e) := by
 have hin : ∀ (k : Nat) (hk : k < e.Spans.length), gleaningref15_RightEpisode_k2 e (k : Int) = some (if (e.Spans.take k).any (fun x => decide (x.Id = e.Spans[k].Id)) then .inr false else .inl ((k + 1 : Nat) : Int)) := by
  intro k hk
  rw [gleaningref15_RightEpisode_k2]
  have := loop_write (body := fun (q : Int) => gleaningref15_RightEpisode_l3 e (k : Int) q) (l := e.Spans.take k) (fun x => decide (x.Id = e.Spans[k].Id)) (fun j => (j : Int)) (.inl ((k + 1 : Nat) : Int)) (.inr false) (by simp; omega) (fun j hj hb hj2 => by
    have hjk : j < k := by simp at hj; omega
    have hjl : j < e.Spans.length := by omega
    rw [List.getElem_take] at hj2
    simp only [gleaningref15_RightEpisode_l3, dec_t (by omega : (j : Int) < (k : Int)), if_true, gd_pos (by omega : (0 : Int) ≤ (j : Int)), gd_pos (by omega : (0 : Int) ≤ (k : Int)), Int.toNat_natCast, List.getElem?_eq_getElem hjl, List.getElem?_eq_getElem hk, Option.bind_some, show (e.Spans[j].Id == e.Spans[k].Id) = false from by simpa using hj2, Bool.false_eq_true, if_false, ksuc (by omega : j < 1099511627776)]) (fun j hj hb hj2 => by
    have hjk : j < k := by simp at hj; omega
    have hjl : j < e.Spans.length := by omega
    rw [List.getElem_take] at hj2
    simp only [gleaningref15_RightEpisode_l3, dec_t (by omega : (j : Int) < (k : Int)), if_true, gd_pos (by omega : (0 : Int) ≤ (j : Int)), gd_pos (by omega : (0 : Int) ≤ (k : Int)), Int.toNat_natCast, List.getElem?_eq_getElem hjl, List.getElem?_eq_getElem hk, Option.bind_some, show (e.Spans[j].Id == e.Spans[k].Id) = true from by simpa using hj2]) (fun hb => by
    have : (e.Spans.take k).length = k := by simp; omega
    simp only [this, gleaningref15_RightEpisode_l3, dec_f (by omega : ¬ (k : Int) < (k : Int)), Bool.false_eq_true, if_false, ksuc (by omega : k < 1099511627776)])
  exact this
 have hk0 : gleaningref15_RightEpisode_k0 e = some (!(List.range e.Spans.length).any (badX e)) := by
  have := loop_write (body := fun (s : Int) => gleaningref15_RightEpisode_l1 e s) (l := List.range e.Spans.length) (badX e) (fun k => (k : Int)) true false (by simp; omega) (fun k hk hb hk2 => by
    have hk' : k < e.Spans.length := by simpa using hk
    rw [List.getElem_range] at hk2
    simp only [badX, badE, List.getElem?_eq_getElem hk', Bool.or_eq_false_iff, Bool.not_eq_false'] at hk2
    simp only [gleaningref15_RightEpisode_l1, dec_t (by omega : (k : Int) < (e.Spans.length : Int)), if_true, gd_pos (by omega : (0 : Int) ≤ (k : Int)), Int.toNat_natCast, List.getElem?_eq_getElem hk', Option.bind_some, xright_spec, hk2.1, trace_eq, hk2.2.1, Bool.not_true, Bool.false_eq_true, if_false, Sum.elim_inl, hin k hk', hk2.2.2]) (fun k hk hb hk2 => by
    have hk' : k < e.Spans.length := by simpa using hk
    rw [List.getElem_range] at hk2
    simp only [badX, badE, List.getElem?_eq_getElem hk'] at hk2
    simp only [gleaningref15_RightEpisode_l1, dec_t (by omega : (k : Int) < (e.Spans.length : Int)), if_true, gd_pos (by omega : (0 : Int) ≤ (k : Int)), Int.toNat_natCast, List.getElem?_eq_getElem hk', Option.bind_some, xright_spec, trace_eq]
    cases h0 : rightS e.Spans[k] with
    | false => rfl
    | true =>
    cases h1 : decide (e.Spans[k].Trace = e.Trace) with
    | false => rfl
    | true =>
     rw [h0, h1, Bool.not_true, Bool.false_or, Bool.false_or] at hk2
     simp only [Bool.not_true, Bool.false_eq_true, if_false, hk2, if_true, Option.bind_some, Sum.elim_inl, hin k hk']) (fun hb => by
    simp only [List.length_range, gleaningref15_RightEpisode_l1, dec_f (by omega : ¬ (e.Spans.length : Int) < (e.Spans.length : Int)), Bool.false_eq_true, if_false])
  rw [gleaningref15_RightEpisode_k0]
  refine this.trans ?_
  cases (List.range e.Spans.length).any (badX e) <;> rfl
 rw [gleaningref15_RightEpisode, xcount_spec, Option.bind_some, xcount_spec, rightE]
 cases h1 : countB e.First
 ·rfl
 cases h2 : countB e.Last
 ·rfl
 by_cases h3 : e.Spans = []
 ·rw [h3]; rfl
 ·rw [show (((e.Spans.length : Nat) : Int) == 0) = false from by simpa using h3, show e.Spans.isEmpty = false from by simpa using h3]
  simp only [Bool.not_true, Bool.false_eq_true, if_false, Option.bind_some, Sum.elim_inl, hk0, anyX, Bool.not_false, Bool.true_and, Bool.not_or, Bool.not_not]
theorem rightE_of {e : Episode} (h : rightE e = true) : countB e.First = true ∧ countB e.Last = true ∧ e.Spans ≠ [] ∧ ∀ s ∈ e.Spans, rightS s = true := by
 simp only [rightE, Bool.and_eq_true, Bool.not_eq_true', List.all_eq_true] at h
 exact ⟨h.1, h.2.1, by simpa using h.2.2.1, h.2.2.2.1⟩
def epB (e : Episode) : List UInt8 := numsB [e.First, e.Last] ++ (numsB [bitI e.Sure] ++ (numsB [(e.Spans.length : Int)] ++ spansB e.Spans))
def wfE (e : Episode) : Prop := isU e.Trace.Hi ∧ isU e.Trace.Lo ∧ ∀ s ∈ e.Spans, wfS s
theorem isU_c {n : Int} (h : countB n = true) : isU n := ⟨(countB_of h).1, by have := (countB_of h).2; omega⟩
theorem isU_len {n : Nat} (h : n ≤ 1000000000) : isU (n : Int) := ⟨by omega, by omega⟩
theorem isU_bit (b : Bool) : isU (bitI b) := ⟨(bitU b).1, by have := (bitU b).2; omega⟩
theorem nums_le1 {n : Int} (h : isU n) : (numsB [n]).length ≤ 10 := numsB_le [n] (by simpa using h)
theorem nums_le2 {m n : Int} (k : isU m) (h : isU n) : (numsB [m, n]).length ≤ 20 := numsB_le [m, n] (by simpa using ⟨k, h⟩)
theorem epB_le {e : Episode} (hw : wfE e) (h : rightE e = true) (hl : e.Spans.length ≤ 1000) : (epB e).length ≤ 400100 := by
 obtain ⟨h1, h2, h3, h4⟩ := rightE_of h
 have a1 := nums_le2 (isU_c h1) (isU_c h2)
 have a2 := nums_le1 (isU_bit e.Sure)
 have a3 := nums_le1 (isU_len (n := e.Spans.length) (by omega))
 have a4 := spansB_le e.Spans fun s hs => ⟨hw.2.2 s hs, h4 s hs⟩
 simp only [epB, List.length_append]; omega
theorem puts_spec (w : Writer) (e : Episode) (hw : wfE e) (h : rightE e = true) (hl : e.Spans.length ≤ 1000) (hb : w.B.length ≤ 900000000) : block_PutSpans w e = some ⟨w.B ++ epB e⟩ := by
 obtain ⟨h1, h2, h3, h4⟩ := rightE_of h
 have c1 := countB_of h1
 have c2 := countB_of h2
 have a1 := nums_le2 (isU_c h1) (isU_c h2)
 have a2 := nums_le1 (isU_bit e.Sure)
 have a3 := nums_le1 (isU_len (n := e.Spans.length) (by omega))
 rw [block_PutSpans, num_spec _ _ (by simp only [List.mem_cons, List.not_mem_nil, or_false]; rintro n (rfl | rfl) <;> omega) (by simp only [List.length_cons, List.length_nil]; omega), Option.bind_some,
  flag_spec _ _ (by simp only [List.length_append]; omega), Option.bind_some, num_spec _ _ (fun n hn => by rw [List.mem_singleton.1 hn]; omega) (by simp only [List.length_cons, List.length_nil, List.length_append]; omega), Option.bind_some]
 have hB : w.B ++ epB e = (w.B ++ numsB [e.First, e.Last] ++ numsB [bitI e.Sure] ++ numsB [(e.Spans.length : Int)]) ++ spansB e.Spans := by simp [epB]
 rw [hB]
 dsimp only
 generalize hC : w.B ++ numsB [e.First, e.Last] ++ numsB [bitI e.Sure] ++ numsB [(e.Spans.length : Int)] = C
 have hCl : C.length ≤ 900000100 := by rw [← hC]; simp only [List.length_append]; omega
 refine loop_list (l := e.Spans) (fun k r q => q = (C ++ spansB (e.Spans.take k), (k : Int)) ∧ r = ⟨C ++ spansB e.Spans⟩) (by omega) ?_ ?_ ⟨by simp [spansB], rfl⟩
 ·rintro k hk r q ⟨rfl, rfl⟩
  have hle := spansB_le (e.Spans.take k) fun s hs => ⟨hw.2.2 s (List.mem_of_mem_take hs), h4 s (List.mem_of_mem_take hs)⟩
  have hle2 : (e.Spans.take k).length ≤ 1000 := by simp; omega
  refine .inl ⟨(C ++ spansB (e.Spans.take (k + 1)), ((k + 1 : Nat) : Int)), ?_, rfl, rfl⟩
  simp only [block_PutSpans_l0, dec_t (by omega : (k : Int) < (e.Spans.length : Int)), if_true, gd_pos (by omega : (0 : Int) ≤ (k : Int)), Int.toNat_natCast, List.getElem?_eq_getElem hk, Option.bind_some]
  rw [put_spec _ _ (hw.2.2 _ (List.getElem_mem hk)) (h4 _ (List.getElem_mem hk)) (by simp only [List.length_append]; omega), Option.bind_some, ksuc (by omega), List.take_succ_eq_append_getElem hk, spansB_app]
  simp [spansB]
 ·rintro r q ⟨rfl, rfl⟩
  simp only [block_PutSpans_l0, dec_f (by omega : ¬ (e.Spans.length : Int) < (e.Spans.length : Int)), Bool.false_eq_true, if_false, List.take_length]
end Go.Proofs.YtjklegmimpehlaaGreat.Ab
