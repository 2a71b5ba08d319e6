/- Chapter 3: what all its laws lean on. -/
import Derived.Test.YtbfmmaabaenhgaaXSpan
import Derived.Test.YtbfmmaabaenhgaaPSpanC
namespace Go.Proofs.Ytbfmmaabaenhgaa.Ab
open Go Go.RowKit
set_option linter.unusedVariables false
set_option linter.unusedSimpArgs false

theorem isU_of {n : Int} (h : inI .u64 n) : isU n := by simp [inI, IntKind.min, IntKind.max, IntKind.signed, IntKind.bits] at h; exact ⟨by omega, by omega⟩
theorem wfS_of {s : Span} (h : Span.wf s) : wfS s := ⟨isU_of h.1.1, isU_of h.1.2, isU_of h.2.1, isU_of h.2.2.1⟩
theorem readR_put {s : Span} (hw : wfS s) (h : rightS s = true) (r : List UInt8) : readR (spanB s ++ r) = (s, ((spanB s).length : Int), 0) := by
  rw [readR, readS_put hw h r]
  simp
theorem readS_cut {s : Span} (hw : wfS s) (h : rightS s = true) {c : Nat} (hc : c < (spanB s).length) : readS ((spanB s).take c) = none := by
  cases e : readS ((spanB s).take c) with
  | none => rfl
  | some p =>
    obtain ⟨s', r⟩ := p
    obtain ⟨h1, h2, h3⟩ := readS_sound e
    have h4 : spanB s = spanB s' ++ (r ++ (spanB s).drop c) := by rw [← List.append_assoc, ← h3, List.take_append_drop]
    have h5 := readS_put h1 h2 (r ++ (spanB s).drop c)
    have h6 := readS_put hw h []
    rw [List.append_nil] at h6
    rw [← h4, h6] at h5
    injection h5 with h5; injection h5 with _ h5
    have := congrArg List.length h5
    simp at this
    omega
theorem bytesS_t {s : Span} (h : rightS s = true) : bytesS s = spanB s := by rw [bytesS, if_pos h]
theorem bytesS_f {s : Span} (h : rightS s = false) : bytesS s = [] := by rw [bytesS, h]; rfl
theorem alive3 : gleaninglaw3_alive = some true := by
  have hr : rightS (Span.mk (Trace.mk 0 0) 0 0 (strOf [97]) (strOf [98]) 0 7 false []) = true := by decide +kernel
  have hz : rightS (Span.mk (Trace.mk 0 0) 0 0 (strOf []) (strOf []) 0 0 false []) = false := by decide +kernel
  have hw : wfS (Span.mk (Trace.mk 0 0) 0 0 (strOf [97]) (strOf [98]) 0 7 false []) := ⟨⟨by decide, by decide⟩, ⟨by decide, by decide⟩, ⟨by decide, by decide⟩, ⟨by decide, by decide⟩⟩
  have hw2 : wfS (Span.mk (Trace.mk 0 0) 0 0 (strOf []) (strOf []) 0 0 false []) := ⟨⟨by decide, by decide⟩, ⟨by decide, by decide⟩, ⟨by decide, by decide⟩, ⟨by decide, by decide⟩⟩
  have hl := spanB_le hw hr
  have hp := spanB_pos (Span.mk (Trace.mk 0 0) 0 0 (strOf [97]) (strOf [98]) 0 7 false [])
  have hR := readR_put hw hr []
  rw [List.append_nil] at hR
  rw [gleaninglaw3_alive, bytes_spec _ hw, Option.bind_some, bytesS_t hr, read_spec _ (by omega), Option.bind_some, bytes_spec _ hw2, Option.bind_some, bytesS_f hz, hR, right_spec, hr]
  simp only [List.length_nil, Int.natCast_zero, beq_self_eq_true, if_true, gleaninglaw3_num, Option.bind_some, dec_t (by omega : (0 : Int) < ((spanB (Span.mk (Trace.mk 0 0) 0 0 (strOf [97]) (strOf [98]) 0 7 false [])).length : Int))]
end Go.Proofs.Ytbfmmaabaenhgaa.Ab
