/- Batches as bytes: the program. -/
import Derived.Test.YtbaibpjffcahiaaGreatXB1
import Derived.Test.YtbaibpjffcahiaaGreatPSpanB
import Derived.Test.YtbaibpjffcahiaaGreatPSumB
namespace Go.Proofs.YtbaibpjffcahiaaGreat.Ab
open Go Go.RowKit
set_option linter.unusedVariables false
set_option linter.unusedSimpArgs false
def sealB (b : List UInt8) : List UInt8 := b ++ fourN (sumB b).toNat
def openB (b : List UInt8) : Option (List UInt8) := if b.length < 4 then none else if fourN (sumB (b.take (b.length - 4))).toNat = b.drop (b.length - 4) then some (b.take (b.length - 4)) else none
theorem seal_spec (b : List UInt8) (hb : b.length ≤ 1000000) : check_Seal b = some (sealB b) := by
 rw [check_Seal, gd_pos (by omega), sum_spec b (by omega), Option.bind_some, putc_spec b _ (by omega)]
 rfl
def spansB (l : List Span) : List UInt8 := l.flatMap spanB
def rightL (l : List Span) : Bool := decide (1 ≤ l.length) && decide (l.length ≤ 50) && l.all rightS
def batchB (l : List Span) : List UInt8 := if rightL l = true then sealB (putN l.length ++ spansB l) else []
theorem spansB_app (a b : List Span) : spansB (a ++ b) = spansB a ++ spansB b := by simp [spansB]
theorem spansB_le : ∀ (l : List Span), (∀ s ∈ l, wfS s ∧ rightS s = true) → (spansB l).length ≤ 400 * l.length
 | [], _ => by simp [spansB]
 | s :: l, h => by
  have h1 := h s List.mem_cons_self
  have h2 := spansB_le l fun m hm => h m (List.mem_cons_of_mem _ hm)
  have h3 := spanB_le h1.1 h1.2
  simp only [spansB, List.flatMap_cons, List.length_append, List.length_cons] at h2 ⊢; omega
theorem rightL_of {l : List Span} (h : rightL l = true) : 1 ≤ l.length ∧ l.length ≤ 50 ∧ ∀ s ∈ l, rightS s = true := by
 simp only [rightL, Bool.and_eq_true, decide_eq_true_eq, List.all_eq_true] at h
 exact ⟨h.1.1, h.1.2, h.2⟩
theorem bright_spec (l : List Span) : batch_Right l = some (rightL l) := by
 unfold batch_Right rightL
 by_cases h1 : 1 ≤ l.length
 case neg => rw [dec_f (by omega : ¬ (1 : Int) ≤ (l.length : Int)), ite_ff, dec_f h1]; rfl
 by_cases h2 : l.length ≤ 50
 case neg => rw [dec_t (by omega : (1 : Int) ≤ (l.length : Int)), ite_tt, dec_f (by omega : ¬ (l.length : Int) ≤ 50), ite_ff, dec_f h2, Bool.and_false, Bool.false_and]
 obtain ⟨v, g1, g2⟩ := loop_has (body := fun (q : Int) => slices_IndexFunc_Span_span_All_c1_l0 l q) (fun s => !rightS s) l (by omega) (fun j hj => by
  simp only [slices_IndexFunc_Span_span_All_c1_l0, dec_t (by omega : (j : Int) < (l.length : Int)), if_true, gd_pos (by omega : (0 : Int) ≤ (j : Int)), Int.toNat_natCast, List.getElem?_eq_getElem hj, Option.bind_some, span_All_c1, right_spec, ksuc (by omega : j < 1099511627776)]) (by simp only [slices_IndexFunc_Span_span_All_c1_l0, dec_f (by omega : ¬ (l.length : Int) < (l.length : Int)), Bool.false_eq_true, if_false])
 rw [dec_t (by omega : (1 : Int) ≤ (l.length : Int)), ite_tt, dec_t (by omega : (l.length : Int) ≤ 50), ite_tt, dec_t h1, dec_t h2, span_All, slices_ContainsFunc_Span_span_All_c1, slices_IndexFunc_Span_span_All_c1, g1, Option.bind_some, g2, Option.bind_some, Option.bind_some]
 congr 1
 rw [Bool.eq_iff_iff]; simp
theorem batch_spec (l : List Span) (hw : ∀ s ∈ l, wfS s) : batch_Bytes l = some (batchB l) := by
 rw [batch_Bytes, bright_spec, Option.bind_some, batchB]
 cases hr : rightL l with
 | false => rfl
 | true =>
  obtain ⟨h1, h2, h3⟩ := rightL_of hr
  have hle := spansB_le l fun s hs => ⟨hw s hs, h3 s hs⟩
  have hp := putN_len10 (n := l.length) (by omega)
  simp only [Bool.not_true, Bool.false_eq_true, if_false, if_true]
  rw [num_spec ⟨[]⟩ _ (fun n hn => by rw [List.mem_singleton.1 hn]; omega) (by simp), Option.bind_some]
  have e1 : ([] : List UInt8) ++ numsB [(l.length : Int)] = putN l.length := by simp [numsB]
  dsimp only
  rw [e1]
  have hloop : loopN (fun (s : List UInt8 × Int) => batch_Bytes_l1 l s.1 s.2) Fu (putN l.length, 0) = some (putN l.length ++ spansB l) := by
   refine loop_list (l := l) (fun k r q => q = (putN l.length ++ spansB (l.take k), (k : Int)) ∧ r = putN l.length ++ spansB l) (by omega) ?_ ?_ ⟨by simp [spansB], rfl⟩
   ·rintro k hk r q ⟨rfl, rfl⟩
    have hm := List.getElem_mem hk
    have hle2 := spansB_le (l.take k) fun s hs => ⟨hw s (List.mem_of_mem_take hs), h3 s (List.mem_of_mem_take hs)⟩
    have hle3 : (l.take k).length ≤ 50 := by simp; omega
    refine .inl ⟨(putN l.length ++ spansB (l.take (k + 1)), ((k + 1 : Nat) : Int)), ?_, rfl, rfl⟩
    simp only [batch_Bytes_l1, dec_t (by omega : (k : Int) < (l.length : Int)), if_true, gd_pos (by omega : (0 : Int) ≤ (k : Int)), Int.toNat_natCast, List.getElem?_eq_getElem hk, Option.bind_some]
    rw [put_spec _ _ (hw _ hm) (h3 _ hm) (by simp only [List.length_append]; omega), Option.bind_some, ksuc (by omega), List.take_succ_eq_append_getElem hk, spansB_app, List.append_assoc]
    simp [spansB]
   ·rintro r q ⟨rfl, rfl⟩
    simp only [batch_Bytes_l1, dec_f (by omega : ¬ (l.length : Int) < (l.length : Int)), Bool.false_eq_true, if_false, List.take_length]
  rw [hloop, Option.bind_some, batch_Bytes_k0, seal_spec _ (by rw [List.length_append]; omega)]
  rfl
theorem isU_of {n : Int} (h : inI .u64 n) : isU n := by simp [inI, IntKind.min, IntKind.max, IntKind.signed, IntKind.bits] at h; exact ⟨by omega, by omega⟩
theorem wfS_of {s : Span} (h : Span.wf s) : wfS s := ⟨isU_of h.1.1, isU_of h.1.2, isU_of h.2.1, isU_of h.2.2.1⟩
theorem batchB_le {l : List Span} (hw : ∀ s ∈ l, wfS s) : (batchB l).length ≤ 20100 := by
 unfold batchB
 split
 ·rename_i h
  obtain ⟨h1, h2, h3⟩ := rightL_of h
  have hle := spansB_le l fun s hs => ⟨hw s hs, h3 s hs⟩
  have hp := putN_len10 (n := l.length) (by omega)
  simp only [sealB, List.length_append, fourN_length]; omega
 ·simp
theorem batchB_pos {l : List Span} (h : rightL l = true) : 4 ≤ (batchB l).length := by
 rw [batchB, if_pos h, sealB, List.length_append, fourN_length]; omega
end Go.Proofs.YtbaibpjffcahiaaGreat.Ab
