/- Few episodes: what that says. -/
import Derived.Test.YtlkdpgemdopbfaaPEpisode
namespace Go.Proofs.Ytlkdpgemdopbfaa.Ab
open Go Go.RowKit
set_option linter.unusedVariables false
set_option linter.unusedSimpArgs false

theorem smallS_attrs {s : Span} (h : smallS s) : s.Attrs.length ≤ 20 := h.2.2.1
theorem few_attrs {s : Span} (h : gleaninglaw3_Few s = some true) : smallS s := by
  obtain ⟨b, h1, h2⟩ := few_spec s
  rw [h] at h1; exact h2 (Option.some.inj h1).symm
theorem fewE {l : List Episode} (h : gleaninglaw15_Few l = some true) : l.length ≤ 120 ∧ ∀ e ∈ l, smallE e := by
  obtain ⟨b, h1, h2⟩ := few15_spec l
  rw [h] at h1; exact h2 (Option.some.inj h1).symm
theorem few_tot (s : Span) : gleaninglaw3_Few s = some true ∨ gleaninglaw3_Few s = some false := by
  obtain ⟨b, h1, _⟩ := few_spec s; cases b <;> simp [h1]
theorem fewE_tot (l : List Episode) : gleaninglaw15_Few l = some true ∨ gleaninglaw15_Few l = some false := by
  obtain ⟨b, h1, _⟩ := few15_spec l; cases b <;> simp [h1]
theorem addE_small {e : Episode} (s : Span) (d : Int) (h : smallE e) (hs : s.Attrs.length ≤ 20) : (addE e s d).1.Spans.length ≤ 61 ∧ ∀ x ∈ (addE e s d).1.Spans, x.Attrs.length ≤ 20 := by
  unfold addE
  split
  · split
    · exact ⟨by have := h.1; show e.Spans.length ≤ 61; omega, h.2⟩
    · refine ⟨by have := h.1; simp only [List.length_append, List.length_singleton]; omega, fun x hx => ?_⟩
      rcases List.mem_append.1 hx with hx | hx
      · exact h.2 x hx
      · rw [List.mem_singleton.1 hx]; exact hs
  · exact ⟨by have := h.1; show e.Spans.length ≤ 61; omega, h.2⟩
end Go.Proofs.Ytlkdpgemdopbfaa.Ab
