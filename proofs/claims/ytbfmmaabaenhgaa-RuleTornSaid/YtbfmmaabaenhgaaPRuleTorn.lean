/- Chapter 13: no beginning of a policy is one, and none with more behind. -/
import Derived.Test.YtbfmmaabaenhgaaPRuleA
namespace Go.Proofs.Ytbfmmaabaenhgaa.Ab
open Go Go.RowKit
set_option linter.unusedVariables false
set_option linter.unusedSimpArgs false
theorem ruleTorn_true (r : Rule) (cut : Int) (_ : Rule.wf r) (_ : inI .i64 cut) : gleaninglaw13_RuleTorn r cut = some true := by
  obtain ⟨f, hf, _⟩ := few13_spec r
  simp only [gleaninglaw13_RuleTorn, alive13, (rbytes_spec r).2, Option.bind_some, Bool.not_true, Bool.false_eq_true, if_false, hf]
  cases f with
  | false => simp
  | true =>
  cases hr : rightR r with
  | false => simp [bytesR_f hr]
  | true =>
  obtain ⟨l1, l2⟩ := ruleB_len hr
  rw [bytesR_t hr]
  have h0 : (((ruleB 5 r).length : Int) == 0) = false := by rw [beq_eq_false_iff_ne]; omega
  by_cases h1 : cut < 0
  · simp [h0, h1]
  simp only [h0, h1, decide_false, Bool.not_true, Bool.false_eq_true, if_false, Option.bind_some, Sum.elim_inl, gleaninglaw13_RuleTorn_k0]
  obtain ⟨c, rfl⟩ := Int.eq_ofNat_of_zero_le (by omega : 0 ≤ cut)
  have hm : Int.tmod (c : Int) ((ruleB 5 r).length : Int) = ((c % (ruleB 5 r).length : Nat) : Int) := by rw [Int.tmod_eq_emod_of_nonneg (by omega)]; rfl
  have hlt := Nat.mod_lt c (by omega : 0 < (ruleB 5 r).length)
  have r1 : rule_Read ((ruleB 5 r).take (c % (ruleB 5 r).length)) = some (zeroR, 2) := read_none (by rw [List.length_take]; omega) fun s hs e => by
    have h2 : ruleB 5 r = ruleB 5 s ++ (ruleB 5 r).drop (c % (ruleB 5 r).length) := by conv => lhs; rw [← List.take_append_drop (c % (ruleB 5 r).length) (ruleB 5 r), e]
    have h3 := congrArg List.length (rule_prefix hr hs h2).2
    simp at h3; omega
  have r2 : rule_Read (ruleB 5 r ++ [5]) = some (zeroR, 2) := read_none (by rw [List.length_append]; simp; omega) fun s hs e => by
    have := (rule_prefix hs hr e.symm).2
    cases this
  rw [gd_pos (by omega), hm, gd_pos (by omega), gd_pos (by omega), Int.toNat_natCast, r1, Option.bind_some, gd_pos (by omega), gd_pos (by rw [List.length_append]; simp; omega), r2]
  rfl
end Go.Proofs.Ytbfmmaabaenhgaa.Ab
