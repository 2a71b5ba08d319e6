/- Chapter 32: which spans a query asks for, which traces it finds, the first so many, and how many there are. -/
import Derived.Test.YtnhjcpnoadicpaaXSTells
import Derived.Test.YtnhjcpnoadicpaaPSearchA
import Derived.Test.YtnhjcpnoadicpaaPUpto
namespace Go.Proofs.Ytnhjcpnoadicpaa.Ab
open Go Go.RowKit
set_option linter.unusedVariables false
set_option linter.unusedSimpArgs false
theorem searchTells_true (l : List Block) (q : Query) (s : Span) (n : Int) (_ : l.length ≤ maxLen ∧ ∀ y ∈ l, Block.wf y) (_ : Query.wf q) (_ : Span.wf s) (_ : inI .i64 n) (hb : (l.flatMap (·.Episodes)).length ≤ 1048576) : gleaninglaw32_SearchTells l q s n = some true := by
  obtain ⟨f1, hf1, g1⟩ := few19_spec l hb
  obtain ⟨f2, hf2⟩ := few32_spec q
  obtain ⟨f3, hf3, g3⟩ := few_spec s
  simp only [gleaninglaw32_SearchTells, alive32, Option.bind_some, Bool.not_true, Bool.false_eq_true, if_false, hf1, hf2, hf3]
  cases f1 with
  | false => rfl
  | true =>
  cases f2 with
  | false => rfl
  | true =>
  cases f3 with
  | false => rfl
  | true =>
  have hf := g1 rfl
  have hs := (g3 rfl).2.2.1
  have hl := all_len l q
  have h2 : (epsF l).length ≤ 120 := hf.eps
  simp only [Bool.not_true, Bool.false_eq_true, if_false, Option.bind_some, Sum.elim_inl, gleaninglaw32_SearchTells_k0, match_spec q s (by omega), refmatch_spec q s (by omega), beq_self_eq_true, if_true, find_spec l q n hf, reffind_spec l q n hf, sameT_spec _ (show (List.take (cutT n (allF l q).length) (allF l q)).length ≤ 1000000 by rw [List.length_take]; omega), count_spec l q hf, refcount_spec l q hf]
end Go.Proofs.Ytnhjcpnoadicpaa.Ab
