/- Chapter 32: the first so many are the beginning of all, which rise, each once. -/
import Derived.Test.YtnhjcpnoadicpaaXSFirst
import Derived.Test.YtnhjcpnoadicpaaPSearchA
import Derived.Test.YtnhjcpnoadicpaaPUpto
namespace Go.Proofs.Ytnhjcpnoadicpaa.Ab
open Go Go.RowKit
set_option linter.unusedVariables false
set_option linter.unusedSimpArgs false
theorem rise_loop (b : List Trace) (h : Rise b) (hl : b.length ≤ 1000000) : loopN (fun (s : Int) => gleaninglaw32_SearchFirst_l2 b s) Fu 1 = some (.inl ()) := by
  refine loop_fu (fun n s r => ∃ k : Nat, 1 ≤ k ∧ n = b.length - k ∧ s = (k : Int) ∧ r = .inl ()) ?_ ⟨1, by omega, rfl, rfl, rfl⟩ (by omega)
  rintro n s r ⟨k, h1, rfl, rfl, rfl⟩
  by_cases hk : k < b.length
  · refine .inl ⟨((k + 1 : Nat) : Int), b.length - (k + 1), ?_, by omega, k + 1, by omega, rfl, rfl, rfl⟩
    have hk1 : k - 1 < b.length := by omega
    have e1 : IntKind.i64.wrap ((k : Int) - 1) = ((k - 1 : Nat) : Int) := by rw [w64 (by omega) (by omega)]; omega
    have hr := List.pairwise_iff_getElem.1 h (k - 1) k hk1 hk (by omega)
    simp only [gleaninglaw32_SearchFirst_l2, dec_t (by omega : (k : Int) < (b.length : Int)), if_true, e1, gd_pos (by omega : (0 : Int) ≤ ((k - 1 : Nat) : Int)), gd_pos (by omega : (0 : Int) ≤ (k : Int)), Int.toNat_natCast, List.getElem?_eq_getElem hk1, List.getElem?_eq_getElem hk, Option.bind_some, less_spec, dec_t hr, Bool.not_true, Bool.false_eq_true, if_false, ksucc (by omega : k < 1099511627776)]
  · refine .inr ?_
    simp only [gleaninglaw32_SearchFirst_l2, dec_f (by omega : ¬ (k : Int) < (b.length : Int)), Bool.false_eq_true, if_false]
theorem searchFirst_true (l : List Block) (q : Query) (n : Int) (_ : l.length ≤ maxLen ∧ ∀ y ∈ l, Block.wf y) (_ : Query.wf q) (_ : inI .i64 n) (hb : (l.flatMap (·.Episodes)).length ≤ 1048576) : gleaninglaw32_SearchFirst l q n = some true := by
  obtain ⟨f1, hf1, g1⟩ := few19_spec l hb
  obtain ⟨f2, hf2⟩ := few32_spec q
  simp only [gleaninglaw32_SearchFirst, alive32, Option.bind_some, Bool.not_true, Bool.false_eq_true, if_false, hf1, hf2]
  cases f1 with
  | false => rfl
  | true =>
  cases f2 with
  | false => rfl
  | true =>
  by_cases n0 : n < 0
  · simp [n0]
  by_cases n1 : (1000 : Int) < n
  · simp [n0, n1]
  have hf := g1 rfl
  have hl := all_len l q
  have h2 : (epsF l).length ≤ 120 := hf.eps
  simp only [n0, n1, decide_false, Bool.not_true, Bool.false_eq_true, if_false, Option.bind_some, Sum.elim_inl, gleaninglaw32_SearchFirst_k0, find_spec l q n hf, find_all l q hf, rise_loop _ (all_rise l q) (by omega), gleaninglaw32_SearchFirst_k1]
  have hw : (if decide (((allF l q).length : Int) < n) = true then some ((allF l q).length : Int) else some n) = some (cutT n (allF l q).length : Int) := by
    unfold cutT
    rw [if_neg n0]
    by_cases h : ((allF l q).length : Int) < n
    · rw [dec_t h, if_pos rfl, if_pos h]
    · rw [dec_f h, if_neg (by decide), if_neg h]; congr 1; omega
  have hc := cutT_le n (allF l q).length
  have hlen : (List.take (cutT n (allF l q).length) (allF l q)).length = cutT n (allF l q).length := by rw [List.length_take]; omega
  rw [hw, Option.bind_some, gleaninglaw32_SearchFirst_k3, hlen, show ((cutT n (allF l q).length : Int) == (cutT n (allF l q).length : Int)) = true from by simp, ite_tt, gd_pos (by omega), gd_pos (by omega), Int.toNat_natCast, sameT_spec _ (by rw [hlen]; omega)]
  rfl
end Go.Proofs.Ytnhjcpnoadicpaa.Ab
