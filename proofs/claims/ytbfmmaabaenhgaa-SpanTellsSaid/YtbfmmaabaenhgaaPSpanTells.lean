/- Chapter 3: which spans may be, how any is written, which any bytes begin with, and which two are one. -/
import Derived.Test.YtbfmmaabaenhgaaPSpanD
namespace Go.Proofs.Ytbfmmaabaenhgaa.Ab
open Go Go.RowKit
set_option linter.unusedVariables false
set_option linter.unusedSimpArgs false
theorem equal_spec (a b : List Attr) (ha : a.length ≤ 1000000) : slices_Equal_Attr a b = some (decide (a = b)) := by
  by_cases hl : a.length = b.length
  · have h0 : ((a.length : Int) != (b.length : Int)) = false := by simp [hl]
    rw [slices_Equal_Attr, ite_f h0]
    refine loop_same a b hl (by omega) (fun k hk hk2 => ?_) ?_
    · simp only [slices_Equal_Attr_l0, dec_t (by omega : (k : Int) < (a.length : Int)), if_true, gd_pos (by omega : (0 : Int) ≤ (k : Int)), Int.toNat_natCast, List.getElem?_eq_getElem hk, List.getElem?_eq_getElem hk2, Option.bind_some, attr_eq, ksucc (by omega : k < 1099511627776)]
      by_cases e : a[k] = b[k]
      · simp [e]
      · simp [e]
    · simp only [slices_Equal_Attr_l0, dec_f (by omega : ¬ (a.length : Int) < (a.length : Int)), Bool.false_eq_true, if_false]
  · have h0 : ((a.length : Int) != (b.length : Int)) = true := by simp only [bne_iff_ne, ne_eq]; omega
    rw [slices_Equal_Attr, ite_t h0, dec_f (by rintro rfl; exact hl rfl)]
theorem same_spec (a b : Span) (ha : a.Attrs.length ≤ 1000000) : span_Same a b = some (decide (a = b)) := by
  have no : ∀ (p : Prop), p → (a = b → ¬ p) → some false = some (decide (a = b)) := fun p hp h => by rw [dec_f (fun e => h e hp)]
  by_cases h1 : a.Trace = b.Trace
  case neg => rw [← no _ h1 (fun e h => h (by rw [e]))]; simp only [span_Same, trace_eq, dec_f h1, Bool.false_eq_true, if_false]
  by_cases h2 : a.Id = b.Id
  case neg => rw [← no _ h2 (fun e h => h (by rw [e]))]; simp [span_Same, trace_eq, h1, h2]
  by_cases h3 : a.Parent = b.Parent
  case neg => rw [← no _ h3 (fun e h => h (by rw [e]))]; simp [span_Same, trace_eq, h1, h2, h3]
  by_cases h4 : a.Service = b.Service
  case neg => rw [← no _ h4 (fun e h => h (by rw [e]))]; simp [span_Same, trace_eq, str_beq, h1, h2, h3, h4]
  by_cases h5 : a.Op = b.Op
  case neg => rw [← no _ h5 (fun e h => h (by rw [e]))]; simp [span_Same, trace_eq, str_beq, h1, h2, h3, h4, h5]
  by_cases h6 : a.Start = b.Start
  case neg => rw [← no _ h6 (fun e h => h (by rw [e]))]; simp [span_Same, trace_eq, str_beq, h1, h2, h3, h4, h5, h6]
  by_cases h7 : a.Dur = b.Dur
  case neg => rw [← no _ h7 (fun e h => h (by rw [e]))]; simp [span_Same, trace_eq, str_beq, h1, h2, h3, h4, h5, h6, h7]
  by_cases h8 : a.Err = b.Err
  case neg => rw [← no _ h8 (fun e h => h (by rw [e]))]; simp [span_Same, trace_eq, str_beq, h1, h2, h3, h4, h5, h6, h7, h8]
  have hd : decide (a = b) = decide (a.Attrs = b.Attrs) := by
    by_cases e : a.Attrs = b.Attrs
    · rw [dec_t e, dec_t (span_ext h1 h2 h3 h4 h5 h6 h7 h8 e)]
    · rw [dec_f e, dec_f (fun e2 => e (by rw [e2]))]
  rw [hd]
  simp only [span_Same, trace_eq, str_beq, h1, h2, h3, h4, h5, h6, h7, h8, equal_spec _ _ ha, decide_true, Bool.and_self, if_true, beq_self_eq_true, Option.bind_some]
theorem readR_attrs (b : List UInt8) : (readR b).1.Attrs.length ≤ 4 := by
  unfold readR
  cases h : readS b with
  | none => exact Nat.zero_le _
  | some p => exact (rightS_of (readS_sound h).2.1).2.2.2.2.2.2.2.1
theorem spanTells_true (s t : Span) (b : List UInt8) (hs : Span.wf s) (ht : Span.wf t) (_ : b.length ≤ maxLen) : gleaninglaw3_SpanTells s t b = some true := by
  obtain ⟨f1, hf1, g1⟩ := few_spec s
  obtain ⟨f2, hf2, g2⟩ := few_spec t
  simp only [gleaninglaw3_SpanTells, alive3, Option.bind_some, Bool.not_true, Bool.false_eq_true, if_false, hf1, hf2]
  cases f1 with
  | false => simp
  | true =>
  cases f2 with
  | false => simp
  | true =>
  by_cases hb : (500 : Int) < (b.length : Int)
  · simp [hb]
  have hsm := (g1 rfl).2.2.1
  have ws := wfS_of hs
  have ha := readR_attrs b
  simp only [hb, decide_false, Bool.not_true, Bool.false_eq_true, if_false, Option.bind_some, Sum.elim_inl, gleaninglaw3_SpanTells_k0, gd_pos (by omega : b.length * 1 ≤ 140737488355328 ∧ b.length ≤ 140737488355328), read_spec b (by omega), xread_spec b (by omega), right_spec, xright_spec, bytes_spec _ ws, xbytes_spec _ ws, beq_self_eq_true, if_true, sameSpan_spec _ _ (Nat.le_trans ha (by omega : 4 ≤ 1000000)), decide_true, gleaninglaw3_num, same_spec _ _ (Nat.le_trans hsm (by omega : 20 ≤ 1000000)), sameSpan_spec _ _ (Nat.le_trans hsm (by omega : 20 ≤ 1000000))]
end Go.Proofs.Ytbfmmaabaenhgaa.Ab
