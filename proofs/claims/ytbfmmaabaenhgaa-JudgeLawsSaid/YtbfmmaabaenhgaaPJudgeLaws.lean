/- Chapter 14: not keeps what is not kept, all is both, and any one of both. -/
import Derived.Test.YtbfmmaabaenhgaaPJudgeA
namespace Go.Proofs.Ytbfmmaabaenhgaa.Ab
open Go Go.RowKit
set_option linter.unusedVariables false
set_option linter.unusedSimpArgs false
theorem judgeLaws_true (r s : Rule) (e : Episode) (k : Int) (_ : Rule.wf r) (_ : Rule.wf s) (he : Episode.wf e) (_ : inI .i64 k) : gleaninglaw14_JudgeLaws r s e k = some true := by
  obtain ⟨b1, f1, g1⟩ := few13_spec r
  obtain ⟨b3, f3, g3⟩ := few13_spec s
  obtain ⟨b2, f2, g2⟩ := fewAll_spec e.Spans
  simp only [gleaninglaw14_JudgeLaws, alive14, Option.bind_some, Bool.not_true, Bool.false_eq_true, if_false, f1, f2, f3]
  cases b1 with
  | false => simp
  | true =>
  cases b3 with
  | false => simp
  | true =>
  cases b2 with
  | false => simp
  | true =>
  have sm := smallEp_of (g2 rfl)
  simp only [Bool.not_true, Bool.false_eq_true, if_false, Option.bind_some, Sum.elim_inl, gleaninglaw14_JudgeLaws_k0, xright_spec', List.take_succ_cons, List.take_zero]
  rw [gd_pos (by simp)]
  cases hn : rightR (Rule.mk 3 0 (strOf []) (strOf []) [r]) with
  | false => rfl
  | true =>
  cases ha : rightR (Rule.mk 1 0 (strOf []) (strOf []) [r, s]) with
  | false => rfl
  | true =>
  cases ho : rightR (Rule.mk 2 0 (strOf []) (strOf []) [r, s]) with
  | false => rfl
  | true =>
  have ha' := ha
  simp only [rightR, okF, Bool.and_eq_true, List.all_cons, List.all_nil, Bool.and_true, decide_eq_true_eq] at ha'
  have hnum : numF 5 (Rule.mk 1 0 (strOf []) (strOf []) [r, s]) = 1 + (numF 4 r + (numF 4 s + 0)) := rfl
  have or_ : okF 4 r = true := by simp only [okF, Bool.and_eq_true]; exact ha'.1.2.1
  have os : okF 4 s = true := by simp only [okF, Bool.and_eq_true]; exact ha'.1.2.2
  have hle := ha'.2
  rw [hnum] at hle
  have rr : rightR r = true := by
    rw [rightR, ok_more 4 r or_, num_more 4 r (ok_dep 4 r or_), dec_t (by omega)]; rfl
  have rs : rightR s = true := by
    rw [rightR, ok_more 4 s os, num_more 4 s (ok_dep 4 s os), dec_t (by omega)]; rfl
  have K : ∀ x : Rule, judge_Keep x e k = some (keepB x e k) := fun x => (keep_both x e k sm he.1.1 he.1.2).1
  have k1 : keepB r e k = keepF 4 r e k := by rw [keepB, rr, keep_more 4 r e k or_]; rfl
  have k2 : keepB s e k = keepF 4 s e k := by rw [keepB, rs, keep_more 4 s e k os]; rfl
  have k3 : keepB (Rule.mk 3 0 (strOf []) (strOf []) [r]) e k = !keepF 4 r e k := by
    rw [keepB, hn, keepF, if_neg (by simp), if_neg (by simp), if_pos rfl]; simp
  have k4 : keepB (Rule.mk 1 0 (strOf []) (strOf []) [r, s]) e k = (keepF 4 r e k && keepF 4 s e k) := by
    rw [keepB, ha, keepF, if_pos rfl]; simp
  have k5 : keepB (Rule.mk 2 0 (strOf []) (strOf []) [r, s]) e k = (keepF 4 r e k || keepF 4 s e k) := by
    rw [keepB, ho, keepF, if_neg (by simp), if_pos rfl]; simp
  simp only [Bool.not_true, Bool.false_eq_true, if_false, Option.bind_some, Sum.elim_inl, gleaninglaw14_JudgeLaws_k1, List.take_succ_cons, List.take_zero, K, k1, k2, k3, k4, k5]
  cases keepF 4 r e k <;> cases keepF 4 s e k <;> rfl
end Go.Proofs.Ytbfmmaabaenhgaa.Ab
