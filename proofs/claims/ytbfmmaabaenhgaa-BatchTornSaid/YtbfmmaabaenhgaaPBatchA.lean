/- Chapter 4: what all its laws lean on. -/
import Derived.Test.YtbfmmaabaenhgaaXBatch
import Derived.Test.YtbfmmaabaenhgaaPBatch0
namespace Go.Proofs.Ytbfmmaabaenhgaa.Ab
open Go Go.RowKit
set_option linter.unusedVariables false
set_option linter.unusedSimpArgs false
theorem isU_of {n : Int} (h : inI .u64 n) : isU n := by simp [inI, IntKind.min, IntKind.max, IntKind.signed, IntKind.bits] at h; exact ⟨by omega, by omega⟩
theorem wfS_of {s : Span} (h : Span.wf s) : wfS s := ⟨isU_of h.1.1, isU_of h.1.2, isU_of h.2.1, isU_of h.2.2.1⟩
theorem isU0 : isU 0 := ⟨by decide, by decide⟩
theorem batchB_le {l : List Span} (hw : ∀ s ∈ l, wfS s) : (batchB l).length ≤ 20100 := by
  unfold batchB
  split
  · rename_i h
    obtain ⟨h1, h2, h3⟩ := rightL_of h
    have hle := spansB_le l fun s hs => ⟨hw s hs, h3 s hs⟩
    have hp := putN_len10 (n := l.length) (by omega)
    simp only [sealB, List.length_append, fourN_length]; omega
  · simp
theorem batchB_pos {l : List Span} (h : rightL l = true) : 4 ≤ (batchB l).length := by
  rw [batchB, if_pos h, sealB, List.length_append, fourN_length]; omega
theorem codeB_put {l : List Span} (h : rightL l = true) (hw : ∀ s ∈ l, wfS s) : codeB (batchB l) = (l, 0) := by rw [codeB, readB_put h hw]
theorem alive4 : gleaninglaw4_alive = some true := by
  have hr : rightL [Span.mk (Trace.mk 0 0) 0 0 (strOf [97]) (strOf [98]) 0 0 false []] = true := by decide +kernel
  have hw : ∀ s ∈ [Span.mk (Trace.mk 0 0) 0 0 (strOf [97]) (strOf [98]) 0 0 false []], wfS s := fun s hs => by rw [List.mem_singleton.1 hs]; exact ⟨isU0, isU0, isU0, isU0⟩
  have h0 : codeB [] = ([], 2) := rfl
  have hle := batchB_le hw
  rw [gleaninglaw4_alive, (bread_spec [] (by simp)).1, Option.bind_some, batch_spec _ hw, Option.bind_some, (bread_spec _ (by omega)).1, Option.bind_some, codeB_put hr hw, h0]
  simp [gleaninglaw4_num]
theorem codeB_small (b : List UInt8) : (codeB b).1.length ≤ 50 ∧ ∀ s ∈ (codeB b).1, s.Attrs.length ≤ 1000000 := by
  unfold codeB readB
  cases openB b with
  | none => exact ⟨by simp, by simp⟩
  | some x =>
    dsimp only
    cases hn : pNum 50 x with
    | none => exact ⟨by simp, by simp⟩
    | some p =>
      obtain ⟨n, r⟩ := p
      have hs := pNum_sound hn
      dsimp only
      split
      · exact ⟨by simp, by simp⟩
      · rename_i l hl
        split at hl
        · cases hl
        · split at hl
          · cases hl
          · rename_i l2 q hq
            split at hl
            · injection hl with hl; subst hl
              obtain ⟨g1, g2⟩ := pSpans_len _ _ _ _ hq
              have := hs.1.1
              have := hs.2.1
              exact ⟨by show l2.length ≤ 50; omega, fun s hs => by have := (rightS_of (g2 s hs)).2.2.2.2.2.2.2.1; omega⟩
            · cases hl
end Go.Proofs.Ytbfmmaabaenhgaa.Ab
