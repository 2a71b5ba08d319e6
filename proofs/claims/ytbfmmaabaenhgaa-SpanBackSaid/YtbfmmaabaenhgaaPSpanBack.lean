/- Chapter 3: a span is read as it was written. -/
import Derived.Test.YtbfmmaabaenhgaaPSpanD
namespace Go.Proofs.Ytbfmmaabaenhgaa.Ab
open Go Go.RowKit
set_option linter.unusedVariables false
set_option linter.unusedSimpArgs false
theorem spanBack_true (s : Span) (more : List UInt8) (cut : Int) (hs : Span.wf s) (_ : more.length ≤ maxLen) (hc : inI .i64 cut) : gleaninglaw3_SpanBack s more cut = some true := by
  simp only [gleaninglaw3_SpanBack, alive3, Option.bind_some, Bool.not_true, Bool.false_eq_true, if_false, xright_spec]
  cases hr : rightS s with
  | false => simp
  | true =>
  by_cases h1 : (100 : Int) < (more.length : Int)
  · simp [h1]
  by_cases h2 : cut < 0
  · simp [h1, h2]
  simp only [Bool.not_true, Bool.false_eq_true, if_false, h1, h2, decide_false, Option.bind_some, Sum.elim_inl, gleaninglaw3_SpanBack_k0]
  have hw := wfS_of hs
  have hl := spanB_le hw hr
  have hp := spanB_pos s
  obtain ⟨c, rfl⟩ := Int.eq_ofNat_of_zero_le (by omega : 0 ≤ cut)
  have hm : Int.tmod (c : Int) ((spanB s).length : Int) = ((c % (spanB s).length : Nat) : Int) := by rw [Int.tmod_eq_emod_of_nonneg (by omega)]; rfl
  have hlt := Nat.mod_lt c hp
  have h0 : (((spanB s).length : Int) == 0) = false := by simp only [beq_eq_false_iff_ne, ne_eq]; omega
  have hcut : readR ((spanB s).take (c % (spanB s).length)) = (zeroS, 0, 2) := by rw [readR, readS_cut hw hr hlt]
  have hl9 := (rightS_of hr).2.2.2.2.2.2.2.1
  rw [bytes_spec _ hw, Option.bind_some, bytesS_t hr, h0, ite_ff, gd_pos (by omega), gd_pos (by rw [List.length_append]; omega), read_spec _ (by rw [List.length_append]; omega), Option.bind_some, gd_pos (by omega), hm, gd_pos (by omega), gd_pos (by omega), Int.toNat_natCast, read_spec _ (by rw [List.length_take]; omega), Option.bind_some, readR_put hw hr, hcut]
  simp only [gleaninglaw3_num, Option.bind_some, beq_self_eq_true, if_true, sameSpan_spec s s (by omega), decide_true]
end Go.Proofs.Ytbfmmaabaenhgaa.Ab
