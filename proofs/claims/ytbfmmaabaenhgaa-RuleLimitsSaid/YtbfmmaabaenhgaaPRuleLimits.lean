/- Chapter 13: how many nodes a policy may have, and how deep it may be. -/
import Derived.Test.YtbfmmaabaenhgaaXRLim
import Derived.Test.YtbfmmaabaenhgaaPRuleA
namespace Go.Proofs.Ytbfmmaabaenhgaa.Ab
open Go Go.RowKit
set_option linter.unusedVariables false
set_option linter.unusedSimpArgs false
def errR : Rule := ⟨5, 0, strOf [], strOf [], []⟩
def wideR (n : Nat) : Rule := ⟨2, 0, strOf [], strOf [], List.replicate n errR⟩
def tallR : Nat → Rule
  | 0 => errR
  | j + 1 => ⟨3, 0, strOf [], strOf [], [tallR j]⟩
theorem wide_right : ∀ n : Fin 41, rightR (wideR n.val) = decide (n.val ≤ 19) := by decide +kernel
theorem tall_right : ∀ n : Fin 10, rightR (tallR n.val) = decide (n.val ≤ 4) := by decide +kernel
theorem tall_eta (j : Nat) : (⟨(tallR j).Kind, 0, strOf [], strOf [], (tallR j).Kids⟩ : Rule) = tallR j := by cases j <;> rfl
theorem wide_loop (n : Nat) (hn : n ≤ 40) : loopN (fun (s : List Rule × Int) => gleaninglaw13_RuleLimits_l2 (n : Int) s.1 s.2) Fu ([], 0) = some (List.replicate n errR) := by
  refine loop_list (l := List.range n) (fun k r q => q = (List.replicate k errR, (k : Int)) ∧ r = List.replicate n errR) (by simp; omega) ?_ ?_ ⟨rfl, rfl⟩
  · rintro k hk r q ⟨rfl, rfl⟩
    have hk' : k < n := by simpa using hk
    refine .inl ⟨(List.replicate (k + 1) errR, ((k + 1 : Nat) : Int)), ?_, rfl, rfl⟩
    simp only [gleaninglaw13_RuleLimits_l2, dec_t (by omega : (k : Int) < (n : Int)), if_true]
    rw [gd_pos (by simp; omega), ksu (by omega), List.replicate_succ']; rfl
  · rintro r q ⟨rfl, rfl⟩
    simp only [List.length_range, gleaninglaw13_RuleLimits_l2, dec_f (by omega : ¬ (n : Int) < (n : Int)), Bool.false_eq_true, if_false]
theorem tall_loop (n : Nat) (hn : n ≤ 10) (h1 : 1 ≤ n) : loopN (fun (s : Int × List Rule × Int) => gleaninglaw13_RuleLimits_l4 (n : Int) s.1 s.2.1 s.2.2) Fu (5, [], 1) = some ((tallR (n - 1)).Kind, (tallR (n - 1)).Kids) := by
  refine loop_list (l := List.range (n - 1)) (fun k r q => q = ((tallR k).Kind, (tallR k).Kids, ((k + 1 : Nat) : Int)) ∧ r = ((tallR (n - 1)).Kind, (tallR (n - 1)).Kids)) (by simp; omega) ?_ ?_ ⟨rfl, rfl⟩
  · rintro k hk r q ⟨rfl, rfl⟩
    have hk' : k < n - 1 := by simpa using hk
    refine .inl ⟨(3, [tallR k], ((k + 1 + 1 : Nat) : Int)), ?_, rfl, rfl⟩
    simp only [gleaninglaw13_RuleLimits_l4, dec_t (by omega : ((k + 1 : Nat) : Int) < (n : Int)), if_true, tall_eta, ksu (by omega : k + 1 < 1099511627776)]
  · rintro r q ⟨rfl, rfl⟩
    simp only [List.length_range, gleaninglaw13_RuleLimits_l4, dec_f (by omega : ¬ ((n - 1 + 1 : Nat) : Int) < (n : Int)), Bool.false_eq_true, if_false]
theorem bytes_some (r : Rule) : decide ((0 : Int) < ((bytesR r).length : Int)) = rightR r := by
  cases h : rightR r with
  | false => rw [bytesR_f h]; rfl
  | true => rw [bytesR_t h, dec_t (by have := (ruleB_len h).1; omega)]
theorem ruleLimits_true (n deep : Int) (_ : inI .i64 n) (_ : inI .i64 deep) : gleaninglaw13_RuleLimits n deep = some true := by
  simp only [gleaninglaw13_RuleLimits, alive13, Option.bind_some, Bool.not_true, Bool.false_eq_true, if_false]
  by_cases h1 : n < 0
  · simp [h1]
  by_cases h2 : 40 < n
  · simp [h1, h2]
  by_cases h3 : deep < 1
  · simp [h1, h2, h3]
  by_cases h4 : 10 < deep
  · simp [h1, h2, h3, h4]
  simp only [h1, h2, h3, h4, decide_false, Bool.false_eq_true, if_false, Option.bind_some, Sum.elim_inl, gleaninglaw13_RuleLimits_k0]
  obtain ⟨a, rfl⟩ := Int.eq_ofNat_of_zero_le (by omega : 0 ≤ n)
  obtain ⟨b, rfl⟩ := Int.eq_ofNat_of_zero_le (by omega : 0 ≤ deep)
  have w := wide_right ⟨a, by omega⟩
  have t := tall_right ⟨b - 1, by omega⟩
  dsimp only at w t
  rw [wide_loop a (by omega), Option.bind_some, gleaninglaw13_RuleLimits_k1, tall_loop b (by omega) (by omega), Option.bind_some, gleaninglaw13_RuleLimits_k3]
  simp only [tall_eta]
  rw [show (⟨2, 0, strOf [], strOf [], List.replicate a errR⟩ : Rule) = wideR a from rfl]
  have e1 : decide ((a : Int) ≤ 19) = decide (a ≤ 19) := by congr 1; exact propext ⟨fun h => by omega, fun h => by omega⟩
  have e2 : decide ((b : Int) ≤ 5) = decide (b - 1 ≤ 4) := by congr 1; exact propext ⟨fun h => by omega, fun h => by omega⟩
  simp only [right_spec', Option.bind_some, w, t, e1, e2, beq_self_eq_true, if_true, (rbytes_spec _).1, bytes_some]
end Go.Proofs.Ytbfmmaabaenhgaa.Ab
