/- Chapter 14: the hash of any trace, and whether any episode is kept by any policy. -/
import Derived.Test.YtbfmmaabaenhgaaPJudgeA
namespace Go.Proofs.Ytbfmmaabaenhgaa.Ab
open Go Go.RowKit
set_option linter.unusedVariables false
set_option linter.unusedSimpArgs false
theorem judgeTells_true (r : Rule) (e : Episode) (k : Int) (t : Trace) (_ : Rule.wf r) (he : Episode.wf e) (_ : inI .i64 k) (ht : Trace.wf t) : gleaninglaw14_JudgeTells r e k t = some true := by
  obtain ⟨b1, f1, g1⟩ := few13_spec r
  obtain ⟨b2, f2, g2⟩ := fewAll_spec e.Spans
  simp only [gleaninglaw14_JudgeTells, alive14, Option.bind_some, Bool.not_true, Bool.false_eq_true, if_false, f1, f2]
  cases b1 with
  | false => simp
  | true =>
  cases b2 with
  | false => simp
  | true =>
  obtain ⟨a1, a2⟩ := hash_spec t ht.1 ht.2
  obtain ⟨a3, a4⟩ := keep_both r e k (smallEp_of (g2 rfl)) he.1.1 he.1.2
  simp only [Bool.not_true, Bool.false_eq_true, if_false, Option.bind_some, Sum.elim_inl, gleaninglaw14_JudgeTells_k0, a1, a2, a3, a4, beq_self_eq_true, if_true]
end Go.Proofs.Ytbfmmaabaenhgaa.Ab
