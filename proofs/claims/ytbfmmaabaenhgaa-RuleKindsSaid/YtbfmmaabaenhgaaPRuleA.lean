/- Chapter 13: what all its laws lean on. -/
import Derived.Test.YtbfmmaabaenhgaaXRule
import Derived.Test.YtbfmmaabaenhgaaPRule2
namespace Go.Proofs.Ytbfmmaabaenhgaa.Ab
open Go Go.RowKit
set_option linter.unusedVariables false
set_option linter.unusedSimpArgs false
theorem ruleB_head (r : Rule) (h : rightR r = true) : ∃ c l, ruleB 5 r = c :: l := ⟨_, _, rfl⟩
theorem ruleB_len {r : Rule} (h : rightR r = true) : 1 ≤ (ruleB 5 r).length ∧ (ruleB 5 r).length ≤ 1200 := by
  obtain ⟨h1, h2⟩ := rightR_of h
  have := ruleB_le 5 r h1 (by omega)
  obtain ⟨c, l, e⟩ := ruleB_head r h
  refine ⟨by rw [e]; simp, by omega⟩
/-- no policy's bytes begin with another one's -/
theorem rule_prefix {r s : Rule} (hr : rightR r = true) (hs : rightR s = true) {q : List UInt8} (h : ruleB 5 r = ruleB 5 s ++ q) : r = s ∧ q = [] := by
  have e1 := pR_put topK topK_ok 5 r [] (rightR_of hr).1 (rightR_of hr).2
  have e2 := pR_put topK topK_ok 5 s q (rightR_of hs).1 (rightR_of hs).2
  rw [List.append_nil, h, e2] at e1
  simp only [Option.some.injEq, Prod.mk.injEq] at e1
  exact ⟨e1.1.symm, e1.2⟩
theorem read_put {r : Rule} (hr : rightR r = true) : rule_Read (ruleB 5 r) = some (r, 0) := by
  have hl := (ruleB_len hr).2
  rcases (read_rule (ruleB 5 r) (by omega)).1 with ⟨s, h1, h2, h3⟩ | ⟨h1, _⟩
  · rw [h3, (rule_prefix hr h1 (q := []) (by rw [List.append_nil]; exact h2)).1]
  · exact absurd rfl (h1 r hr)
theorem read_none {b : List UInt8} (hb : b.length ≤ 1000000) (h : ∀ r, rightR r = true → b ≠ ruleB 5 r) : rule_Read b = some (zeroR, 2) := by
  rcases (read_rule b (by omega)).1 with ⟨s, h1, h2, h3⟩ | ⟨_, h2⟩
  · exact absurd h2 (h s h1)
  · exact h2
theorem read_empty : rule_Read [] = some (zeroR, 2) := read_none (by simp) fun r hr e => by
  obtain ⟨c, l, e2⟩ := ruleB_head r hr
  rw [e2] at e; cases e
theorem bytesR_t {r : Rule} (h : rightR r = true) : bytesR r = ruleB 5 r := by rw [bytesR, if_pos h]
theorem bytesR_f {r : Rule} (h : rightR r = false) : bytesR r = [] := by rw [bytesR, h]; rfl
theorem alive13 : gleaninglaw13_alive = some true := by
  have hr : rightR (Rule.mk 4 9 (strOf []) (strOf []) []) = true := by decide +kernel
  rw [gleaninglaw13_alive, read_empty, Option.bind_some, (rbytes_spec _).1, Option.bind_some, bytesR_t hr, read_put hr, Option.bind_some]
  simp only [gleaninglaw13_num, Option.bind_some, zeroR, beq_self_eq_true, if_true, right_spec', hr]
end Go.Proofs.Ytbfmmaabaenhgaa.Ab
