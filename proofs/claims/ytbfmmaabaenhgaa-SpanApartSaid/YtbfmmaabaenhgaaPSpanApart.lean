/- Chapter 3: no two spans are written as one. -/
import Derived.Test.YtbfmmaabaenhgaaPSpanD
namespace Go.Proofs.Ytbfmmaabaenhgaa.Ab
open Go Go.RowKit
set_option linter.unusedVariables false
set_option linter.unusedSimpArgs false
theorem extract_take (l : List UInt8) (n : Nat) : ByteArray.toList (ByteArray.extract (strOf l) 0 n) = l.take n := by
  rw [ByteArray.toList_eq]
  simp [strOf, ByteArray.data_extract]
theorem prefix_one {s t : Span} (hs : wfS s) (ht : wfS t) (h1 : rightS s = true) (h2 : rightS t = true) (h : (spanB s).take (spanB t).length = spanB t) : s = t := by
  have h3 : spanB s = spanB t ++ (spanB s).drop (spanB t).length := by conv => lhs; rw [← List.take_append_drop (spanB t).length (spanB s), h]
  have h4 := readS_put ht h2 ((spanB s).drop (spanB t).length)
  have h5 := readS_put hs h1 []
  rw [List.append_nil] at h5
  rw [← h3, h5] at h4
  injection h4 with h4; injection h4 with h4 _
theorem spanApart_true (s t : Span) (hs : Span.wf s) (ht : Span.wf t) : gleaninglaw3_SpanApart s t = some true := by
  simp only [gleaninglaw3_SpanApart, alive3, Option.bind_some, Bool.not_true, Bool.false_eq_true, if_false, xright_spec]
  cases h1 : rightS s with
  | false => simp
  | true =>
  cases h2 : rightS t with
  | false => simp
  | true =>
  have ws := wfS_of hs
  have wt := wfS_of ht
  have p1 := spanB_pos s
  have p2 := spanB_pos t
  have hl9 := (rightS_of h1).2.2.2.2.2.2.2.1
  simp only [Bool.not_true, Bool.false_eq_true, if_false, Option.bind_some, Sum.elim_inl, gleaninglaw3_SpanApart_k0, bytes_spec _ ws, bytes_spec _ wt, bytesS_t h1, bytesS_t h2, strOf_size]
  have z1 : (((spanB s).length : Int) == 0) = false := by simp only [beq_eq_false_iff_ne, ne_eq]; omega
  have z2 : (((spanB t).length : Int) == 0) = false := by simp only [beq_eq_false_iff_ne, ne_eq]; omega
  simp only [z1, z2, Bool.false_eq_true, if_false, Option.bind_some, Sum.elim_inl, gleaninglaw3_SpanApart_k1, sameSpan_spec s t (by omega), strOf_size, toList_str, extract_take, Int.toNat_natCast]
  by_cases e : s = t
  · subst e; simp
  · simp only [dec_f e, Bool.false_eq_true, if_false]
    have n1 : ((spanB s).take (spanB t).length == spanB t) = false := by simp only [beq_eq_false_iff_ne]; exact fun h => e (prefix_one ws wt h1 h2 h)
    have n2 : ((spanB t).take (spanB s).length == spanB s) = false := by simp only [beq_eq_false_iff_ne]; exact fun h => e (prefix_one wt ws h2 h1 h).symm
    by_cases hl : ((spanB t).length : Int) < ((spanB s).length : Int)
    · simp only [dec_t hl, if_true, gd_pos (by omega : (0 : Int) ≤ ((spanB t).length : Int)), gd_pos (by omega : ((spanB t).length : Int) ≤ ((spanB s).length : Int)), n1, Bool.not_false]
    · simp only [dec_f hl, Bool.false_eq_true, if_false, dec_t (by omega : ((spanB s).length : Int) ≤ ((spanB t).length : Int)), if_true, gd_pos (by omega : (0 : Int) ≤ ((spanB s).length : Int)), gd_pos (by omega : ((spanB s).length : Int) ≤ ((spanB t).length : Int)), n2, Bool.not_false]
end Go.Proofs.Ytbfmmaabaenhgaa.Ab
