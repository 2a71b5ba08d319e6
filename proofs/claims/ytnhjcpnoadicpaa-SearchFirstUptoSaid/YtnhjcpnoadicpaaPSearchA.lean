/- Chapter 32: what all its laws lean on. -/
import Derived.Test.YtnhjcpnoadicpaaPSearchD
namespace Go.Proofs.Ytnhjcpnoadicpaa.Ab
open Go Go.RowKit Go.Lib Go.Proofs
set_option linter.unusedVariables false
set_option linter.unusedSimpArgs false
theorem find_one {l : List Block} {q : Query} {t : Trace} (h : ∀ x, (∃ e, e ∈ epsF l ∧ hitF q e = true ∧ e.Trace = x) ↔ x = t) : allF l q = [t] := by
  refine rise_unique (all_rise l q) (List.pairwise_singleton _ _) fun x => ?_
  rw [all_mem, h x, List.mem_singleton]
theorem find_no {l : List Block} {q : Query} (h : ∀ e, e ∈ epsF l → hitF q e = false) : allF l q = [] := by
  refine rise_unique (all_rise l q) List.Pairwise.nil fun x => ?_
  rw [all_mem]
  constructor
  · rintro ⟨e, h1, h2, _⟩
    rw [h e h1] at h2; cases h2
  · intro hx; cases hx
theorem fewB_nil : fewB [] := ⟨by simp, by simp, by simp⟩
theorem alive32 : gleaninglaw32_alive = some true := by
  have hf : fewB [(Block.mk 0 0 0 [(Episode.mk (Trace.mk 0 4) 0 0 false [(Span.mk (Trace.mk 0 0) 0 0 (strOf []) (strOf []) 0 9 false [])])])] := ⟨by simp, by simp, by simp [smallE]⟩
  have a0 : allF [] (Query.mk (strOf []) (strOf []) (strOf []) (strOf []) 0 false) = [] := find_no (by simp [epsF])
  have a1 : allF [(Block.mk 0 0 0 [(Episode.mk (Trace.mk 0 4) 0 0 false [(Span.mk (Trace.mk 0 0) 0 0 (strOf []) (strOf []) 0 9 false [])])])] (Query.mk (strOf []) (strOf []) (strOf []) (strOf []) 9 false) = [Trace.mk 0 4] := find_one fun x => by
    have hh : hitF (Query.mk (strOf []) (strOf []) (strOf []) (strOf []) 9 false) (Episode.mk (Trace.mk 0 4) 0 0 false [(Span.mk (Trace.mk 0 0) 0 0 (strOf []) (strOf []) 0 9 false [])]) = true := by simp [hitF, matchF, restF]
    constructor
    · rintro ⟨e, h1, _, h3⟩
      simp only [epsF, List.flatMap_cons, List.flatMap_nil, List.append_nil, List.mem_singleton] at h1
      rw [← h3, h1]
    · rintro rfl
      exact ⟨_, by simp [epsF], hh, rfl⟩
  have a2 : allF [(Block.mk 0 0 0 [(Episode.mk (Trace.mk 0 4) 0 0 false [(Span.mk (Trace.mk 0 0) 0 0 (strOf []) (strOf []) 0 9 false [])])])] (Query.mk (strOf []) (strOf []) (strOf []) (strOf []) 10 false) = [] := find_no fun e he => by
    simp only [epsF, List.flatMap_cons, List.flatMap_nil, List.append_nil, List.mem_singleton] at he
    rw [he]; simp [hitF, matchF]
  have hm : matchF (Query.mk (strOf []) (strOf []) (strOf []) (strOf []) 0 false) (Span.mk (Trace.mk 0 0) 0 0 (strOf []) (strOf []) 0 0 false []) = true := by simp [matchF, restF]
  rw [gleaninglaw32_alive, find_spec [] _ _ fewB_nil, a0, Option.bind_some]
  rw [show ((([] : List Trace).take (cutT 9 ([] : List Trace).length)).length : Int) == 0 from rfl, ite_tt, find_spec _ _ _ hf, a1, Option.bind_some]
  rw [show ((([Trace.mk 0 4] : List Trace).take (cutT 1 ([Trace.mk 0 4] : List Trace).length)).length : Int) == 1 from rfl, ite_tt, count_spec _ _ hf, a2, Option.bind_some]
  rw [show (((([] : List Trace).length : Int)) == 0) = true from rfl, ite_tt, match_spec _ _ (by simp), Option.bind_some, hm]
end Go.Proofs.Ytnhjcpnoadicpaa.Ab
