/- Chapter 14: of traces those are kept by their hash that are below. -/
import Derived.Test.YtbfmmaabaenhgaaPJudgeA
namespace Go.Proofs.Ytbfmmaabaenhgaa.Ab
open Go Go.RowKit
set_option linter.unusedVariables false
set_option linter.unusedSimpArgs false
theorem leaf_keep (n : Int) (e : Episode) (k : Int) (h0 : 0 ≤ n) (h1 : n ≤ 1000) : keepB (Rule.mk 8 n (strOf []) (strOf []) []) e k = decide (hashT e.Trace < n) := by
  have ho : ownB (Rule.mk 8 n (strOf []) (strOf []) []) = true := by
    simp [ownB, topK, h0, h1]
  have hr : rightR (Rule.mk 8 n (strOf []) (strOf []) []) = true := by
    simp [rightR, okF, ho, numF, sumL]
  rw [keepB, hr, keepF]
  simp
theorem judgeHash_true (t : Trace) (n m : Int) (l : List Span) (ht : Trace.wf t) (_ : inI .i64 n) (_ : inI .i64 m) (_ : l.length ≤ maxLen ∧ ∀ y ∈ l, Span.wf y) : gleaninglaw14_JudgeHash t n m l = some true := by
  obtain ⟨b2, f2, g2⟩ := fewAll_spec l
  simp only [gleaninglaw14_JudgeHash, alive14, Option.bind_some, Bool.not_true, Bool.false_eq_true, if_false, f2]
  by_cases h1 : n < 0
  · simp [h1]
  by_cases h2 : m < n
  · simp [h1, h2]
  by_cases h3 : 1000 < m
  · simp [h1, h2, h3]
  cases b2 with
  | false => simp [h1, h2, h3]
  | true =>
  simp only [h1, h2, h3, decide_false, Bool.not_true, Bool.false_eq_true, if_false, Option.bind_some, Sum.elim_inl, gleaninglaw14_JudgeHash_k0]
  obtain ⟨a1, a2⟩ := hash_spec t ht.1 ht.2
  obtain ⟨c1, c2⟩ := hash_lt t
  have s1 : smallEp (Episode.mk t 0 0 false l) := smallEp_of (e := Episode.mk t 0 0 false l) (g2 rfl)
  have s2 : smallEp (Episode.mk t 0 0 false []) := ⟨by simp, by simp⟩
  rw [a1, Option.bind_some, (keep_both _ _ _ s1 ht.1 ht.2).1, Option.bind_some, (keep_both _ _ _ s2 ht.1 ht.2).1, Option.bind_some, leaf_keep n _ _ (by omega) (by omega), leaf_keep m _ _ (by omega) (by omega), dec_t c1, ite_tt, dec_t c2, ite_tt, (keep_both _ _ _ s2 ht.1 ht.2).1, (keep_both _ _ _ s2 ht.1 ht.2).1, leaf_keep 1000 _ _ (by omega) (by omega), leaf_keep 0 _ _ (by omega) (by omega)]
  dsimp only
  rw [dec_t c2, dec_f (by omega : ¬ hashT t < 0)]
  by_cases h : hashT t < n
  · rw [dec_t h, dec_t (by omega : hashT t < m)]; rfl
  · rw [dec_f h]; rfl
end Go.Proofs.Ytbfmmaabaenhgaa.Ab
