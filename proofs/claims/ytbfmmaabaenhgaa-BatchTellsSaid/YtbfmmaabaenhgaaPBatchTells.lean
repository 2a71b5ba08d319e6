/- Chapter 4: how any batch is written, and which any bytes are. -/
import Derived.Test.YtbfmmaabaenhgaaPBatchA
namespace Go.Proofs.Ytbfmmaabaenhgaa.Ab
open Go Go.RowKit
set_option linter.unusedVariables false
set_option linter.unusedSimpArgs false
theorem batchTells_true (l : List Span) (b : List UInt8) (hl : l.length ≤ maxLen ∧ ∀ y ∈ l, Span.wf y) (_ : b.length ≤ maxLen) : gleaninglaw4_BatchTells l b = some true := by
  obtain ⟨f, hf, g⟩ := fewAll_spec l
  simp only [gleaninglaw4_BatchTells, alive4, Option.bind_some, Bool.not_true, Bool.false_eq_true, if_false, hf]
  cases f with
  | false => simp
  | true =>
  by_cases hb : (1000 : Int) < (b.length : Int)
  · simp [hb]
  have hs := g rfl
  have hw : ∀ s ∈ l, wfS s := fun s h => wfS_of (hl.2 s h)
  have hle := batchB_le hw
  obtain ⟨c1, c2⟩ := codeB_small b
  simp only [hb, decide_false, Bool.not_true, Bool.false_eq_true, if_false, Option.bind_some, Sum.elim_inl, gleaninglaw4_BatchTells_k0]
  rw [gd_pos (by omega), batch_spec l hw, Option.bind_some, gd_pos (by omega), (bread_spec b (by omega)).1, Option.bind_some, (bread_spec b (by omega)).2, Option.bind_some, (bread_spec (batchB l) (by omega)).1, Option.bind_some, xbatch_spec l hw, Option.bind_some, beq_self_eq_true, ite_tt, sameSpans_spec _ _ (by omega) c2, Option.bind_some, dec_t rfl, ite_tt, gleaninglaw4_num, Option.bind_some, beq_self_eq_true, ite_tt]
  cases hr : rightL l with
  | false =>
    have : batchB l = [] := by rw [batchB, hr]; rfl
    rw [this]; rfl
  | true =>
    have hp := batchB_pos hr
    rw [show (((batchB l).length : Int) == 0) = false from by rw [beq_eq_false_iff_ne]; omega, ite_ff, codeB_put hr hw]
    simp only [gleaninglaw4_num, Option.bind_some, beq_self_eq_true, if_true]
    rw [sameSpans_spec l l (by omega) (fun s h => by have := (hs.2 s h).2.2.1; omega), dec_t rfl]
    rfl
end Go.Proofs.Ytbfmmaabaenhgaa.Ab
