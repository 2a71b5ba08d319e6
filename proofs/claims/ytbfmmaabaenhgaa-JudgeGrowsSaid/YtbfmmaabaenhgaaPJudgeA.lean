/- Chapter 14: what all its laws lean on. -/
import Derived.Test.YtbfmmaabaenhgaaXJudge
import Derived.Test.YtbfmmaabaenhgaaPJudge0
namespace Go.Proofs.Ytbfmmaabaenhgaa.Ab
open Go Go.RowKit
set_option linter.unusedVariables false
set_option linter.unusedSimpArgs false
theorem inU0 : inI .u64 0 := by simp [inI, IntKind.min, IntKind.max, IntKind.signed, IntKind.bits]
theorem alive14 : gleaninglaw14_alive = some true := by
  have h1 : keepB (Rule.mk 1 0 (strOf []) (strOf []) []) (Episode.mk (Trace.mk 0 0) 0 0 false []) 0 = true := by decide +kernel
  have h2 : keepB (Rule.mk 4 9 (strOf []) (strOf []) []) (Episode.mk (Trace.mk 0 0) 0 0 false [(Span.mk (Trace.mk 0 0) 0 0 (strOf []) (strOf []) 0 9 false [])]) 0 = true := by decide +kernel
  have h3 : keepB (Rule.mk 4 10 (strOf []) (strOf []) []) (Episode.mk (Trace.mk 0 0) 0 0 false [(Span.mk (Trace.mk 0 0) 0 0 (strOf []) (strOf []) 0 9 false [])]) 0 = false := by decide +kernel
  have s1 : smallEp (Episode.mk (Trace.mk 0 0) 0 0 false []) := ⟨by simp, by simp⟩
  have s2 : smallEp (Episode.mk (Trace.mk 0 0) 0 0 false [(Span.mk (Trace.mk 0 0) 0 0 (strOf []) (strOf []) 0 9 false [])]) := ⟨by simp, by simp⟩
  rw [gleaninglaw14_alive, (keep_both _ _ _ s1 inU0 inU0).1, Option.bind_some, h1, ite_tt, (keep_both _ _ _ s2 inU0 inU0).1, Option.bind_some, h2, ite_tt, (keep_both _ _ _ s2 inU0 inU0).1, Option.bind_some, h3]
  rfl
theorem smallEp_of {e : Episode} (h : e.Spans.length ≤ 60 ∧ ∀ s ∈ e.Spans, smallS s) : smallEp e := ⟨by have := h.1; omega, fun s hs => (h.2 s hs).2.2.1⟩
theorem keep_more : ∀ (d : Nat) (r : Rule) (e : Episode) (k : Int), okF d r = true → keepF (d + 1) r e k = keepF d r e k
  | 0, r, e, k, h => by cases h
  | d + 1, r, e, k, h => by
    simp only [okF, Bool.and_eq_true, List.all_eq_true] at h
    have h1 : (r.Kids.all fun x => keepF (d + 1) x e k) = r.Kids.all fun x => keepF d x e k := by
      rw [Bool.eq_iff_iff, List.all_eq_true, List.all_eq_true]
      exact ⟨fun g x hx => by rw [← keep_more d x e k (h.2 x hx)]; exact g x hx, fun g x hx => by rw [keep_more d x e k (h.2 x hx)]; exact g x hx⟩
    have h2 : (r.Kids.any fun x => keepF (d + 1) x e k) = r.Kids.any fun x => keepF d x e k := by
      rw [Bool.eq_iff_iff, List.any_eq_true, List.any_eq_true]
      exact ⟨fun ⟨x, hx, g⟩ => ⟨x, hx, by rw [← keep_more d x e k (h.2 x hx)]; exact g⟩, fun ⟨x, hx, g⟩ => ⟨x, hx, by rw [keep_more d x e k (h.2 x hx)]; exact g⟩⟩
    rw [keepF, keepF, h1, h2]
end Go.Proofs.Ytbfmmaabaenhgaa.Ab
