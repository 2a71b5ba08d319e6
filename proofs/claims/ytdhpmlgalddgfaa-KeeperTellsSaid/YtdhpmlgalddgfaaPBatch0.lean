import Derived.Test.YtdhpmlgalddgfaaXB1
import Derived.Test.YtdhpmlgalddgfaaPSpanC
import Derived.Test.YtdhpmlgalddgfaaPSumB
namespace Go.Proofs.Ytdhpmlgalddgfaa.Ab
open Go Go.RowKit
set_option linter.unusedVariables false
set_option linter.unusedSimpArgs false
def sealB (b : List UInt8) : List UInt8 := b ++ fourN (sumB b).toNat
def openB (b : List UInt8) : Option (List UInt8) := if b.length < 4 then none else if fourN (sumB (b.take (b.length - 4))).toNat = b.drop (b.length - 4) then some (b.take (b.length - 4)) else none
theorem sum_nat (b : List UInt8) : (sumB b).toNat < 4294967296 := (sumB b).isLt
theorem seal_spec (b : List UInt8) (hb : b.length ≤ 1000000) : check_Seal b = some (sealB b) := by
 rw [check_Seal, gd_pos (by omega), sum_spec b (by omega), Option.bind_some, putc_spec b _ (by omega)]
 rfl
theorem xseal_spec (b : List UInt8) (hb : b.length ≤ 1000000) : gleaningref1_Sealed b = some (sealB b) := by
 rw [gleaningref1_Sealed, gd_pos (by omega), rsum_spec b (by omega), Option.bind_some, rfour_spec _ (sum_nat b), Option.bind_some, gd_pos (by rw [List.length_append, fourN_length]; omega)]
 rfl
theorem four_list {l : List UInt8} (h : l.length = 4) : ∃ a b c d, l = [a, b, c, d] := by
 match l, h with
 | [a, b, c, d], _ => exact ⟨a, b, c, d, rfl⟩
theorem open_spec (b : List UInt8) (hb : b.length ≤ 1000000) : match openB b with
  | none => ∃ x, check_Open b = some (x, false)
  | some p => check_Open b = some (p, true) := by
 unfold openB
 by_cases h : b.length < 4
 ·rw [if_pos h]
  refine ⟨[], ?_⟩
  rw [check_Open, w64 (by omega) (by omega), dec_t (by omega), ite_tt]
 ·rw [if_neg h]
  have hw : IntKind.i64.wrap ((b.length : Int) - 4) = ((b.length - 4 : Nat) : Int) := by rw [w64 (by omega) (by omega)]; omega
  obtain ⟨c0, c1, c2, c3, hd⟩ := four_list (l := b.drop (b.length - 4)) (by rw [List.length_drop]; omega)
  have hsum := sum_nat (b.take (b.length - 4))
  have hcode : check_Open b = some (b.take (b.length - 4), (((wordN c0 c1 c2 c3 : Nat) : Int) == ((sumB (b.take (b.length - 4))).toNat : Int))) := by
   simp only [check_Open, hw, dec_f (by omega : ¬ ((b.length - 4 : Nat) : Int) < 0), Bool.false_eq_true, if_false, gd_pos (by omega : (0 : Int) ≤ ((b.length - 4 : Nat) : Int)), gd_pos (by omega : ((b.length - 4 : Nat) : Int) ≤ (b.length : Int)), Int.toNat_natCast, hd]
   rw [getc_spec c0 c1 c2 c3 [] (by simp), Option.bind_some]
   simp only [if_true]
   rw [sum_spec _ (by rw [List.length_take]; omega), Option.bind_some]
  rw [hcode, hd]
  by_cases e : fourN (sumB (b.take (b.length - 4))).toNat = [c0, c1, c2, c3]
  ·rw [if_pos e]
   rw [← four_word] at e
   have := fourN_inj hsum (by simp only [wordN]; have := c0.toNat_lt; have := c1.toNat_lt; have := c2.toNat_lt; have := c3.toNat_lt; omega) e
   rw [← this]
   simp
  ·rw [if_neg e]
   refine ⟨b.take (b.length - 4), ?_⟩
   rw [show (((wordN c0 c1 c2 c3 : Nat) : Int) == ((sumB (b.take (b.length - 4))).toNat : Int)) = false from ?_]
   rw [beq_eq_false_iff_ne]
   intro h2
   have h3 : wordN c0 c1 c2 c3 = (sumB (b.take (b.length - 4))).toNat := by omega
   exact e (by rw [← h3, four_word])
theorem xopen_spec (b : List UInt8) (hb : b.length ≤ 1000000) : gleaningref1_Open b = some (match openB b with | none => ([], false) | some p => (p, true)) := by
 unfold openB
 by_cases h : b.length < 4
 ·rw [if_pos h, gleaningref1_Open, w64 (by omega) (by omega), dec_t (by omega), ite_tt]
  rfl
 ·rw [if_neg h]
  have hw : IntKind.i64.wrap ((b.length : Int) - 4) = ((b.length - 4 : Nat) : Int) := by rw [w64 (by omega) (by omega)]; omega
  simp only [gleaningref1_Open, hw, dec_f (by omega : ¬ ((b.length - 4 : Nat) : Int) < 0), Bool.false_eq_true, if_false, gd_pos (by omega : (0 : Int) ≤ ((b.length - 4 : Nat) : Int)), gd_pos (by omega : ((b.length - 4 : Nat) : Int) ≤ (b.length : Int)), Int.toNat_natCast]
  rw [rsum_spec _ (by rw [List.length_take]; omega), Option.bind_some, rfour_spec _ (sum_nat _), Option.bind_some, toList_str, toList_str]
  by_cases e : fourN (sumB (b.take (b.length - 4))).toNat = b.drop (b.length - 4)
  ·rw [if_pos e, e]
   simp only [beq_self_eq_true, Bool.not_true, Bool.false_eq_true, if_false, Option.bind_some, Sum.elim_inl, gleaningref1_Open_k0, hw, gd_pos (by omega : (0 : Int) ≤ ((b.length - 4 : Nat) : Int)), gd_pos (by omega : ((b.length - 4 : Nat) : Int) ≤ (b.length : Int)), Int.toNat_natCast]
  ·rw [if_neg e, show (fourN (sumB (b.take (b.length - 4))).toNat == b.drop (b.length - 4)) = false from by simpa using e]
   rfl
theorem open_seal (x : List UInt8) : openB (sealB x) = some x := by
 have h1 : (sealB x).length - 4 = x.length := by simp [sealB, fourN_length]
 rw [openB, if_neg (by simp [sealB, fourN_length]), h1, sealB, List.take_left, List.drop_left, if_pos rfl]
def spansB (l : List Span) : List UInt8 := l.flatMap spanB
def rightL (l : List Span) : Bool := decide (1 ≤ l.length) && decide (l.length ≤ 50) && l.all rightS
def batchB (l : List Span) : List UInt8 := if rightL l = true then sealB (putN l.length ++ spansB l) else []
theorem spansB_app (a b : List Span) : spansB (a ++ b) = spansB a ++ spansB b := by simp [spansB]
theorem spansB_le : ∀ (l : List Span), (∀ s ∈ l, wfS s ∧ rightS s = true) → (spansB l).length ≤ 400 * l.length
 | [], _ => by simp [spansB]
 | s :: l, h => by
  have h1 := h s List.mem_cons_self
  have h2 := spansB_le l fun m hm => h m (List.mem_cons_of_mem _ hm)
  have h3 := spanB_le h1.1 h1.2
  simp only [spansB, List.flatMap_cons, List.length_append, List.length_cons] at h2 ⊢; omega
theorem rightL_of {l : List Span} (h : rightL l = true) : 1 ≤ l.length ∧ l.length ≤ 50 ∧ ∀ s ∈ l, rightS s = true := by
 simp only [rightL, Bool.and_eq_true, decide_eq_true_eq, List.all_eq_true] at h
 exact ⟨h.1.1, h.1.2, h.2⟩
theorem bright_spec (l : List Span) : batch_Right l = some (rightL l) := by
 unfold batch_Right rightL
 by_cases h1 : 1 ≤ l.length
 case neg => rw [dec_f (by omega : ¬ (1 : Int) ≤ (l.length : Int)), ite_ff, dec_f h1]; rfl
 by_cases h2 : l.length ≤ 50
 case neg => rw [dec_t (by omega : (1 : Int) ≤ (l.length : Int)), ite_tt, dec_f (by omega : ¬ (l.length : Int) ≤ 50), ite_ff, dec_f h2, Bool.and_false, Bool.false_and]
 obtain ⟨v, g1, g2⟩ := loop_has (body := fun (q : Int) => slices_IndexFunc_Span_span_All_c1_l0 l q) (fun s => !rightS s) l (by omega) (fun j hj => by
  simp only [slices_IndexFunc_Span_span_All_c1_l0, dec_t (by omega : (j : Int) < (l.length : Int)), if_true, gd_pos (by omega : (0 : Int) ≤ (j : Int)), Int.toNat_natCast, List.getElem?_eq_getElem hj, Option.bind_some, span_All_c1, right_spec, ksuc (by omega : j < 1099511627776)]) (by simp only [slices_IndexFunc_Span_span_All_c1_l0, dec_f (by omega : ¬ (l.length : Int) < (l.length : Int)), Bool.false_eq_true, if_false])
 rw [dec_t (by omega : (1 : Int) ≤ (l.length : Int)), ite_tt, dec_t (by omega : (l.length : Int) ≤ 50), ite_tt, dec_t h1, dec_t h2, span_All, slices_ContainsFunc_Span_span_All_c1, slices_IndexFunc_Span_span_All_c1, g1, Option.bind_some, g2, Option.bind_some, Option.bind_some]
 congr 1
 rw [Bool.eq_iff_iff]; simp
theorem batch_spec (l : List Span) (hw : ∀ s ∈ l, wfS s) : batch_Bytes l = some (batchB l) := by
 rw [batch_Bytes, bright_spec, Option.bind_some, batchB]
 cases hr : rightL l with
 | false => rfl
 | true =>
  obtain ⟨h1, h2, h3⟩ := rightL_of hr
  have hle := spansB_le l fun s hs => ⟨hw s hs, h3 s hs⟩
  have hp := putN_len10 (n := l.length) (by omega)
  simp only [Bool.not_true, Bool.false_eq_true, if_false, if_true]
  rw [num_spec ⟨[]⟩ _ (fun n hn => by rw [List.mem_singleton.1 hn]; omega) (by simp), Option.bind_some]
  have e1 : ([] : List UInt8) ++ numsB [(l.length : Int)] = putN l.length := by simp [numsB]
  dsimp only
  rw [e1]
  have hloop : loopN (fun (s : List UInt8 × Int) => batch_Bytes_l1 l s.1 s.2) Fu (putN l.length, 0) = some (putN l.length ++ spansB l) := by
   refine loop_list (l := l) (fun k r q => q = (putN l.length ++ spansB (l.take k), (k : Int)) ∧ r = putN l.length ++ spansB l) (by omega) ?_ ?_ ⟨by simp [spansB], rfl⟩
   ·rintro k hk r q ⟨rfl, rfl⟩
    have hm := List.getElem_mem hk
    have hle2 := spansB_le (l.take k) fun s hs => ⟨hw s (List.mem_of_mem_take hs), h3 s (List.mem_of_mem_take hs)⟩
    have hle3 : (l.take k).length ≤ 50 := by simp; omega
    refine .inl ⟨(putN l.length ++ spansB (l.take (k + 1)), ((k + 1 : Nat) : Int)), ?_, rfl, rfl⟩
    simp only [batch_Bytes_l1, dec_t (by omega : (k : Int) < (l.length : Int)), if_true, gd_pos (by omega : (0 : Int) ≤ (k : Int)), Int.toNat_natCast, List.getElem?_eq_getElem hk, Option.bind_some]
    rw [put_spec _ _ (hw _ hm) (h3 _ hm) (by simp only [List.length_append]; omega), Option.bind_some, ksuc (by omega), List.take_succ_eq_append_getElem hk, spansB_app, List.append_assoc]
    simp [spansB]
   ·rintro r q ⟨rfl, rfl⟩
    simp only [batch_Bytes_l1, dec_f (by omega : ¬ (l.length : Int) < (l.length : Int)), Bool.false_eq_true, if_false, List.take_length]
  rw [hloop, Option.bind_some, batch_Bytes_k0, seal_spec _ (by rw [List.length_append]; omega)]
  rfl
theorem xbatch_spec (l : List Span) (hw : ∀ s ∈ l, wfS s) : gleaningref1_BatchBytes l = some (batchB l) := by
 rw [gleaningref1_BatchBytes, batchB, rightL]
 by_cases h1 : 1 ≤ l.length
 case neg => rw [dec_t (by omega : (l.length : Int) < 1), ite_tt, dec_f h1]; rfl
 by_cases h2 : l.length ≤ 50
 case neg => rw [dec_f (by omega : ¬ (l.length : Int) < 1), ite_ff, dec_t (by omega : (50 : Int) < (l.length : Int)), ite_tt, dec_f h2, Bool.and_false, Bool.false_and]; rfl
 have hall : gleaningref1_RightSpans l = some (l.all rightS) := by
  have := loop_write (body := fun (q : Int) => gleaningref1_RightSpans_l0 l q) (l := l) (fun s => !rightS s) (fun j => (j : Int)) true false (by omega) (fun j hj hb hj2 => by
    simp only [Bool.not_eq_false'] at hj2
    simp only [gleaningref1_RightSpans_l0, dec_t (by omega : (j : Int) < (l.length : Int)), if_true, gd_pos (by omega : (0 : Int) ≤ (j : Int)), Int.toNat_natCast, List.getElem?_eq_getElem hj, Option.bind_some, xright_spec, hj2, Bool.not_true, Bool.false_eq_true, if_false, ksuc (by omega : j < 1099511627776)]) (fun j hj hb hj2 => by
    simp only [Bool.not_eq_true'] at hj2
    simp only [gleaningref1_RightSpans_l0, dec_t (by omega : (j : Int) < (l.length : Int)), if_true, gd_pos (by omega : (0 : Int) ≤ (j : Int)), Int.toNat_natCast, List.getElem?_eq_getElem hj, Option.bind_some, xright_spec, hj2, Bool.not_false]) (fun hb => by
    simp only [gleaningref1_RightSpans_l0, dec_f (by omega : ¬ (l.length : Int) < (l.length : Int)), Bool.false_eq_true, if_false])
  have e0 : (((0 : Nat) : Int)) = 0 := rfl
  rw [gleaningref1_RightSpans, ← e0, this]
  have h5 : l.all rightS = !(l.any fun x => !rightS x) := by rw [Bool.eq_iff_iff]; simp
  rw [h5]
  cases l.any (fun x => !rightS x) <;> rfl
 rw [dec_f (by omega : ¬ (l.length : Int) < 1), ite_ff, dec_f (by omega : ¬ (50 : Int) < (l.length : Int)), ite_ff, hall, Option.bind_some, dec_t h1, dec_t h2]
 cases hr : l.all rightS with
 | false => rfl
 | true =>
  have h3 : ∀ s ∈ l, rightS s = true := List.all_eq_true.1 hr
  have hle := spansB_le l fun s hs => ⟨hw s hs, h3 s hs⟩
  have hp := putN_len10 (n := l.length) (by omega)
  simp only [Bool.not_true, Bool.false_eq_true, if_false, Option.bind_some, Sum.elim_inl, gleaningref1_BatchBytes_k0, Bool.true_and, if_true]
  rw [wrap_u64 _ (by omega), rput_spec [] _ (by omega) (by simp), Option.bind_some, List.nil_append]
  have hloop : loopN (fun (s : List UInt8 × Int) => gleaningref1_BatchBytes_l2 l s.1 s.2) Fu (putN l.length, 0) = some (putN l.length ++ spansB l) := by
   refine loop_list (l := l) (fun k r q => q = (putN l.length ++ spansB (l.take k), (k : Int)) ∧ r = putN l.length ++ spansB l) (by omega) ?_ ?_ ⟨by simp [spansB], rfl⟩
   ·rintro k hk r q ⟨rfl, rfl⟩
    have hm := List.getElem_mem hk
    have hle2 := spansB_le (l.take k) fun s hs => ⟨hw s (List.mem_of_mem_take hs), h3 s (List.mem_of_mem_take hs)⟩
    have hle3 : (l.take k).length ≤ 50 := by simp; omega
    refine .inl ⟨(putN l.length ++ spansB (l.take (k + 1)), ((k + 1 : Nat) : Int)), ?_, rfl, rfl⟩
    simp only [gleaningref1_BatchBytes_l2, dec_t (by omega : (k : Int) < (l.length : Int)), if_true, gd_pos (by omega : (0 : Int) ≤ (k : Int)), Int.toNat_natCast, List.getElem?_eq_getElem hk, Option.bind_some]
    rw [xadd_spec _ _ (hw _ hm) (h3 _ hm) (by simp only [List.length_append]; omega), Option.bind_some, ksuc (by omega), List.take_succ_eq_append_getElem hk, spansB_app, List.append_assoc]
    simp [spansB]
   ·rintro r q ⟨rfl, rfl⟩
    simp only [gleaningref1_BatchBytes_l2, dec_f (by omega : ¬ (l.length : Int) < (l.length : Int)), Bool.false_eq_true, if_false, List.take_length]
  rw [hloop, Option.bind_some, gleaningref1_BatchBytes_k1, xseal_spec _ (by rw [List.length_append]; omega)]
  rfl
def pSpans : Nat → List UInt8 → Option (List Span × List UInt8)
 | 0, b => some ([], b)
 | k + 1, b => match readS b with
  | none => none
  | some (s, b1) => match pSpans k b1 with
   | none => none
   | some (l, r) => some (s :: l, r)
def readB (b : List UInt8) : Option (List Span) := match openB b with
 | none => none
 | some x => match pNum 50 x with
  | none => none
  | some (n, r) => if n < 1 then none else match pSpans n.toNat r with
   | none => none
   | some (l, r) => if r.length = 0 then some l else none
def codeB (b : List UInt8) : List Span × Int := match readB b with | none => ([], 2) | some l => (l, 0)
theorem pSpans_len : ∀ (k : Nat) (b r : List UInt8) (l : List Span), pSpans k b = some (l, r) → l.length = k ∧ ∀ s ∈ l, rightS s = true
 | 0, b, r, l, h => by
  simp only [pSpans, Option.some.injEq, Prod.mk.injEq] at h
  obtain ⟨rfl, rfl⟩ := h
  exact ⟨rfl, by simp⟩
 | k + 1, b, r, l, h => by
  simp only [pSpans] at h
  split at h
  ·cases h
  ·rename_i s b1 h1
   split at h
   ·cases h
   ·rename_i l2 r2 h2
    simp only [Option.some.injEq, Prod.mk.injEq] at h
    obtain ⟨rfl, rfl⟩ := h
    obtain ⟨h3, h4⟩ := pSpans_len k _ _ _ h2
    refine ⟨by simp [h3], fun x hx => ?_⟩
    rcases List.mem_cons.1 hx with rfl | hx
    ·exact (readS_sound h1).2.1
    ·exact h4 x hx
theorem pSpans_put : ∀ (l : List Span) (r : List UInt8), (∀ s ∈ l, wfS s ∧ rightS s = true) → pSpans l.length (spansB l ++ r) = some (l, r)
 | [], r, _ => by simp [pSpans, spansB]
 | s :: l, r, h => by
  have h1 := h s List.mem_cons_self
  have e : spansB (s :: l) ++ r = spanB s ++ (spansB l ++ r) := by simp [spansB]
  simp only [List.length_cons, pSpans, e, readS_put h1.1 h1.2, pSpans_put l r fun x hx => h x (List.mem_cons_of_mem _ hx)]
theorem readB_put {l : List Span} (h : rightL l = true) (hw : ∀ s ∈ l, wfS s) : readB (batchB l) = some l := by
 obtain ⟨h1, h2, h3⟩ := rightL_of h
 have hn : putN l.length = putN (Int.toNat (l.length : Int)) := by simp
 have hp := pSpans_put l [] fun s hs => ⟨hw s hs, h3 s hs⟩
 rw [List.append_nil] at hp
 rw [batchB, if_pos h, readB, open_seal]
 dsimp only
 rw [hn, pNum_put (by omega) (by omega) (by omega)]
 dsimp only
 rw [if_neg (by omega), Int.toNat_natCast, hp]
 rfl
theorem spans_fit {l : List Span} (h : l.length ≤ 100) : l.length * 112 ≤ 140737488355328 ∧ l.length ≤ 140737488355328 := by omega
theorem bread_bad (x : Int × Reader) : ∀ (m i N : Nat) (B : List UInt8) (acc : List Span), (i : Int) + m = x.1 → m < N → acc.length + m ≤ 60 → i + m ≤ 60 → B.length ≤ 1099511627776 →
  ∃ B' acc', loopN (fun (s : List UInt8 × Bool × List Span × Int) => batch_Read_l1 x s.1 s.2.1 s.2.2.1 s.2.2.2) N (B, true, acc, (i : Int)) = some (B', true, acc') := by
 intro m
 induction m with
 | zero =>
  intro i N B acc hi hN _ _ _
  obtain ⟨N', rfl⟩ : ∃ N', N = N' + 1 := ⟨N - 1, by omega⟩
  exact ⟨B, acc, loop_r (by simp only [batch_Read_l1, dec_f (by omega : ¬ (i : Int) < x.1), Bool.false_eq_true, if_false])⟩
 | succ m ih =>
  intro i N B acc hi hN ha hi2 hB
  obtain ⟨N', rfl⟩ : ∃ N', N = N' + 1 := ⟨N - 1, by omega⟩
  obtain ⟨s, hs⟩ := get_lost hB
  obtain ⟨B', acc', h⟩ := ih (i + 1) N' [] (acc ++ [s]) (by omega) (by omega) (by simp; omega) (by omega) (by simp)
  refine ⟨B', acc', ?_⟩
  rw [loop_l (s' := ([], true, acc ++ [s], ((i + 1 : Nat) : Int)))]
  ·exact h
  ·simp only [batch_Read_l1, dec_t (by omega : (i : Int) < x.1), if_true, hs, Option.bind_some]
   rw [gd_pos (spans_fit (by simp; omega)), ksuc (by omega)]
theorem bread_loop (x : Int × Reader) : ∀ (m i N : Nat) (b : List UInt8) (acc : List Span), (i : Int) + m = x.1 → m < N → acc.length + m ≤ 60 → i + m ≤ 60 → b.length ≤ 1099511627776 →
  (∀ l r, pSpans m b = some (l, r) → loopN (fun (s : List UInt8 × Bool × List Span × Int) => batch_Read_l1 x s.1 s.2.1 s.2.2.1 s.2.2.2) N (b, false, acc, (i : Int)) = some (r, false, acc ++ l)) ∧
  (pSpans m b = none → ∃ B' acc', loopN (fun (s : List UInt8 × Bool × List Span × Int) => batch_Read_l1 x s.1 s.2.1 s.2.2.1 s.2.2.2) N (b, false, acc, (i : Int)) = some (B', true, acc')) := by
 intro m
 induction m with
 | zero =>
  intro i N b acc hi hN _ _ _
  obtain ⟨N', rfl⟩ : ∃ N', N = N' + 1 := ⟨N - 1, by omega⟩
  refine ⟨fun l r h => ?_, fun h => by cases h⟩
  simp only [pSpans, Option.some.injEq, Prod.mk.injEq] at h
  obtain ⟨rfl, rfl⟩ := h
  exact loop_r (by simp only [batch_Read_l1, dec_f (by omega : ¬ (i : Int) < x.1), Bool.false_eq_true, if_false, List.append_nil])
 | succ m ih =>
  intro i N b acc hi hN ha hi2 hb
  obtain ⟨N', rfl⟩ : ∃ N', N = N' + 1 := ⟨N - 1, by omega⟩
  have hfit : ∀ a : Span, (acc ++ [a]).length * 112 ≤ 140737488355328 ∧ (acc ++ [a]).length ≤ 140737488355328 := fun a => spans_fit (by simp; omega)
  cases h1 : pSpan b with
  | none =>
   have hr : readS b = none := by rw [readS, h1]
   refine ⟨fun l r h => by simp [pSpans, hr] at h, fun _ => ?_⟩
   obtain ⟨s, hs⟩ := get_not hb h1
   obtain ⟨B', acc', h⟩ := bread_bad x m (i + 1) N' [] (acc ++ [s]) (by omega) (by omega) (by simp; omega) (by omega) (by simp)
   refine ⟨B', acc', ?_⟩
   rw [loop_l (s' := ([], true, acc ++ [s], ((i + 1 : Nat) : Int)))]
   ·exact h
   ·simp only [batch_Read_l1, dec_t (by omega : (i : Int) < x.1), if_true, hs, Option.bind_some, gd_pos (hfit _), ksuc (by omega : i < 1099511627776)]
  | some p =>
   obtain ⟨s, b1⟩ := p
   have hb1 := len_of (pSpan_sound h1).2.2 hb
   have hg := get_yes hb h1
   cases hrs : rightS s with
   | false =>
    have hr : readS b = none := by rw [readS, h1]; simp [hrs]
    rw [hrs] at hg
    refine ⟨fun l r h => by simp [pSpans, hr] at h, fun _ => ?_⟩
    obtain ⟨B', acc', h⟩ := bread_bad x m (i + 1) N' b1 (acc ++ [s]) (by omega) (by omega) (by simp; omega) (by omega) hb1
    refine ⟨B', acc', ?_⟩
    rw [loop_l (s' := (b1, true, acc ++ [s], ((i + 1 : Nat) : Int)))]
    ·exact h
    ·simp only [batch_Read_l1, dec_t (by omega : (i : Int) < x.1), if_true, hg, Option.bind_some, gd_pos (hfit _), ksuc (by omega : i < 1099511627776), Bool.not_false]
   | true =>
    have hr : readS b = some (s, b1) := by rw [readS, h1]; simp [hrs]
    rw [hrs] at hg
    have hstep : loopN (fun (s : List UInt8 × Bool × List Span × Int) => batch_Read_l1 x s.1 s.2.1 s.2.2.1 s.2.2.2) (N' + 1) (b, false, acc, (i : Int)) = loopN (fun (s : List UInt8 × Bool × List Span × Int) => batch_Read_l1 x s.1 s.2.1 s.2.2.1 s.2.2.2) N' (b1, false, acc ++ [s], ((i + 1 : Nat) : Int)) :=
     loop_l (by simp only [batch_Read_l1, dec_t (by omega : (i : Int) < x.1), if_true, hg, Option.bind_some, gd_pos (hfit _), ksuc (by omega : i < 1099511627776), Bool.not_true])
    obtain ⟨g1, g2⟩ := ih (i + 1) N' b1 (acc ++ [s]) (by omega) (by omega) (by simp; omega) (by omega) hb1
    rw [hstep]
    refine ⟨fun l r h => ?_, fun h => ?_⟩
    ·simp only [pSpans, hr] at h
     split at h
     ·cases h
     ·rename_i l2 r2 h3
      simp only [Option.some.injEq, Prod.mk.injEq] at h
      obtain ⟨rfl, rfl⟩ := h
      rw [g1 _ _ h3]; simp
    ·simp only [pSpans, hr] at h
     split at h
     ·rename_i h3; exact g2 h3
     ·cases h
theorem xbread_loop (x : Int × Reader) : ∀ (m i N : Nat) (b : List UInt8) (acc : List Span), (i : Int) + m = x.1 → m < N → acc.length + m ≤ 60 → i + m ≤ 60 → b.length ≤ 1099511627776 →
  (∀ l r, pSpans m b = some (l, r) → loopN (fun (s : List UInt8 × Bool × List Span × Int) => gleaningref1_ReadBatch_l1 x s.1 s.2.1 s.2.2.1 s.2.2.2) N (b, false, acc, (i : Int)) = some (r, false, acc ++ l)) ∧
  (pSpans m b = none → ∃ B' acc', loopN (fun (s : List UInt8 × Bool × List Span × Int) => gleaningref1_ReadBatch_l1 x s.1 s.2.1 s.2.2.1 s.2.2.2) N (b, false, acc, (i : Int)) = some (B', true, acc')) := by
 intro m
 induction m with
 | zero =>
  intro i N b acc hi hN _ _ _
  obtain ⟨N', rfl⟩ : ∃ N', N = N' + 1 := ⟨N - 1, by omega⟩
  refine ⟨fun l r h => ?_, fun h => by cases h⟩
  simp only [pSpans, Option.some.injEq, Prod.mk.injEq] at h
  obtain ⟨rfl, rfl⟩ := h
  exact loop_r (by simp only [gleaningref1_ReadBatch_l1, dec_f (by omega : ¬ (i : Int) < x.1), Bool.false_eq_true, if_false, Option.bind_some, Sum.elim_inr, List.append_nil])
 | succ m ih =>
  intro i N b acc hi hN ha hi2 hb
  obtain ⟨N', rfl⟩ : ∃ N', N = N' + 1 := ⟨N - 1, by omega⟩
  have hfit : ∀ a : Span, (acc ++ [a]).length * 112 ≤ 140737488355328 ∧ (acc ++ [a]).length ≤ 140737488355328 := fun a => spans_fit (by simp; omega)
  have stop : ∀ (B : List UInt8) (a : List Span), loopN (fun (s : List UInt8 × Bool × List Span × Int) => gleaningref1_ReadBatch_l1 x s.1 s.2.1 s.2.2.1 s.2.2.2) N' (B, true, a, ((i + 1 : Nat) : Int)) = some (B, true, a) := by
   intro B a
   obtain ⟨N2, rfl⟩ : ∃ N2, N' = N2 + 1 := ⟨N' - 1, by omega⟩
   refine loop_r ?_
   simp only [gleaningref1_ReadBatch_l1]
   by_cases h : ((i + 1 : Nat) : Int) < x.1
   ·simp only [dec_t h, if_true, Bool.not_true, Bool.false_eq_true, if_false, Option.bind_some, Sum.elim_inr]
   ·simp only [dec_f h, Bool.false_eq_true, if_false, Option.bind_some, Sum.elim_inr]
  cases h1 : pSpan b with
  | none =>
   have hr : readS b = none := by rw [readS, h1]
   refine ⟨fun l r h => by simp [pSpans, hr] at h, fun _ => ?_⟩
   obtain ⟨s, q, hs, hq, _⟩ := xget_not hb h1
   obtain ⟨qB, qf⟩ := q
   dsimp only at hq
   subst hq
   refine ⟨qB, acc ++ [s], ?_⟩
   rw [loop_l (s' := (qB, true, acc ++ [s], ((i + 1 : Nat) : Int)))]
   ·exact stop _ _
   ·simp only [gleaningref1_ReadBatch_l1, dec_t (by omega : (i : Int) < x.1), if_true, Bool.not_false, Option.bind_some, Sum.elim_inl, gleaningref1_ReadBatch_k2, hs, gd_pos (hfit _), ksuc (by omega : i < 1099511627776)]
  | some p =>
   obtain ⟨s, b1⟩ := p
   have hb1 := len_of (pSpan_sound h1).2.2 hb
   have hg := xget_yes hb h1
   cases hrs : rightS s with
   | false =>
    have hr : readS b = none := by rw [readS, h1]; simp [hrs]
    rw [hrs] at hg
    refine ⟨fun l r h => by simp [pSpans, hr] at h, fun _ => ⟨b1, acc ++ [s], ?_⟩⟩
    rw [loop_l (s' := (b1, true, acc ++ [s], ((i + 1 : Nat) : Int)))]
    ·exact stop _ _
    ·simp only [gleaningref1_ReadBatch_l1, dec_t (by omega : (i : Int) < x.1), if_true, Bool.not_false, Option.bind_some, Sum.elim_inl, gleaningref1_ReadBatch_k2, hg, gd_pos (hfit _), ksuc (by omega : i < 1099511627776)]
   | true =>
    have hr : readS b = some (s, b1) := by rw [readS, h1]; simp [hrs]
    rw [hrs] at hg
    have hstep : loopN (fun (s : List UInt8 × Bool × List Span × Int) => gleaningref1_ReadBatch_l1 x s.1 s.2.1 s.2.2.1 s.2.2.2) (N' + 1) (b, false, acc, (i : Int)) = loopN (fun (s : List UInt8 × Bool × List Span × Int) => gleaningref1_ReadBatch_l1 x s.1 s.2.1 s.2.2.1 s.2.2.2) N' (b1, false, acc ++ [s], ((i + 1 : Nat) : Int)) :=
     loop_l (by simp only [gleaningref1_ReadBatch_l1, dec_t (by omega : (i : Int) < x.1), if_true, Bool.not_false, Option.bind_some, Sum.elim_inl, gleaningref1_ReadBatch_k2, hg, gd_pos (hfit _), ksuc (by omega : i < 1099511627776), Bool.not_true])
    obtain ⟨g1, g2⟩ := ih (i + 1) N' b1 (acc ++ [s]) (by omega) (by omega) (by simp; omega) (by omega) hb1
    rw [hstep]
    refine ⟨fun l r h => ?_, fun h => ?_⟩
    ·simp only [pSpans, hr] at h
     split at h
     ·cases h
     ·rename_i l2 r2 h3
      simp only [Option.some.injEq, Prod.mk.injEq] at h
      obtain ⟨rfl, rfl⟩ := h
      rw [g1 _ _ h3]; simp
    ·simp only [pSpans, hr] at h
     split at h
     ·rename_i h3; exact g2 h3
     ·cases h
theorem openB_len {b x : List UInt8} (h : openB b = some x) : x.length ≤ b.length := by
 unfold openB at h
 split at h
 ·cases h
 ·split at h
  ·injection h with h; rw [← h, List.length_take]; omega
  ·cases h
theorem bread_spec (b : List UInt8) (hb : b.length ≤ 1000000) : batch_Read b = some (codeB b) ∧ gleaningref1_ReadBatch b = some (codeB b) := by
 have h1 := open_spec b hb
 have h2 := xopen_spec b hb
 rw [batch_Read, gleaningref1_ReadBatch, h2, codeB, readB]
 cases ho : openB b with
 | none =>
  rw [ho] at h1
  obtain ⟨x, h1⟩ := h1
  rw [h1]
  exact ⟨rfl, rfl⟩
 | some x =>
  rw [ho] at h1
  rw [h1]
  have hx : x.length ≤ 1099511627776 := by have := openB_len ho; omega
  simp only [Option.bind_some, Bool.not_true, Bool.false_eq_true, if_false]
  cases hn : pNum 50 x with
  | none =>
   obtain ⟨r, hr, hi⟩ := xint_no (by omega) (by omega) hx hn
   rw [rnum_no (by omega) (by omega) hx hn, hi]
   refine ⟨?_, ?_⟩
   ·rw [Option.bind_some, show loopN (fun (s : List UInt8 × Bool × List Span × Int) => batch_Read_l1 (0, ⟨[], true⟩) s.1 s.2.1 s.2.2.1 s.2.2.2) Fu ([], true, [], 0) = some ([], true, []) from loop_now (by simp only [batch_Read_l1, dec_f (by omega : ¬ (0 : Int) < 0), Bool.false_eq_true, if_false])]
    rfl
   ·rw [Option.bind_some, show loopN (fun (s : List UInt8 × Bool × List Span × Int) => gleaningref1_ReadBatch_l1 (0, ⟨r, true⟩) s.1 s.2.1 s.2.2.1 s.2.2.2) Fu (r, true, [], 0) = some (r, true, []) from loop_now (by simp only [gleaningref1_ReadBatch_l1, dec_f (by omega : ¬ (0 : Int) < 0), Bool.false_eq_true, if_false, Option.bind_some, Sum.elim_inr])]
    rfl
  | some p =>
   obtain ⟨n, r⟩ := p
   have hs := pNum_sound hn
   have hr := len_of hs.2.2 hx
   rw [rnum_ok (by omega) (by omega) hx hn, xint_ok (by omega) (by omega) hx hn]
   obtain ⟨n', rfl⟩ := Int.eq_ofNat_of_zero_le hs.1.1
   have hn50 : n' ≤ 50 := by have := hs.2.1; omega
   obtain ⟨g1, g2⟩ := bread_loop ((n' : Int), ⟨r, false⟩) n' 0 Fu r [] (by simp) (by rw [fuPos]; omega) (by simp; omega) (by omega) hr
   obtain ⟨k1, k2⟩ := xbread_loop ((n' : Int), ⟨r, false⟩) n' 0 Fu r [] (by simp) (by rw [fuPos]; omega) (by simp; omega) (by omega) hr
   simp only [Int.natCast_zero] at g1 g2 k1 k2
   simp only [Option.bind_some, Int.toNat_natCast]
   cases hp : pSpans n' r with
   | none =>
    obtain ⟨B1, a1, e1⟩ := g2 hp
    obtain ⟨B2, a2, e2⟩ := k2 hp
    rw [e1, e2, Option.bind_some, Option.bind_some, batch_Read_k0, gleaningref1_ReadBatch_k0]
    dsimp only
    by_cases hz : (n' : Int) < 1
    ·rw [if_pos hz]; exact ⟨rfl, rfl⟩
    ·rw [if_neg hz]; exact ⟨rfl, rfl⟩
   | some p =>
    obtain ⟨l, q⟩ := p
    have hl := (pSpans_len _ _ _ _ hp).1
    rw [g1 _ _ hp, k1 _ _ hp, Option.bind_some, Option.bind_some, List.nil_append, batch_Read_k0, gleaningref1_ReadBatch_k0]
    dsimp only
    rw [ite_ff, ite_ff]
    by_cases hq : q.length = 0
    ·rw [dec_f (by omega : ¬ (0 : Int) < (q.length : Int)), ite_ff, ite_ff]
     by_cases hz : (n' : Int) < 1
     ·rw [if_pos hz, dec_t hz, ite_tt, show ((l.length : Int) == 0) = true from by rw [beq_iff_eq]; omega]
      exact ⟨rfl, rfl⟩
     ·rw [if_neg hz, dec_f hz, ite_ff, show ((l.length : Int) == 0) = false from by rw [beq_eq_false_iff_ne]; omega]
      rw [if_pos hq]
      exact ⟨rfl, rfl⟩
    ·rw [dec_t (by omega : (0 : Int) < (q.length : Int)), ite_tt, ite_tt]
     by_cases hz : (n' : Int) < 1
     ·rw [if_pos hz]; exact ⟨rfl, rfl⟩
     ·rw [if_neg hz]
      rw [if_neg hq]
      exact ⟨rfl, rfl⟩
end Go.Proofs.Ytdhpmlgalddgfaa.Ab
