/- Chapter 3: how great the numbers and texts of a span may be. -/
import Derived.Test.YtbfmmaabaenhgaaPSpanD
namespace Go.Proofs.Ytbfmmaabaenhgaa.Ab
open Go Go.RowKit
set_option linter.unusedVariables false
set_option linter.unusedSimpArgs false
theorem isU0 : isU 0 := ⟨by decide, by decide⟩
theorem limit_of (over : Bool) (sv op : ByteArray) (st du : Int) (l : List Attr) (h : rightS (Span.mk (Trace.mk 0 0) 0 0 sv op st du false l) = !over) : gleaninglaw3_SpanLimits_k2 over sv op st du l = some true := by
  have hw : wfS (Span.mk (Trace.mk 0 0) 0 0 sv op st du false l) := ⟨isU0, isU0, isU0, isU0⟩
  rw [gleaninglaw3_SpanLimits_k2, right_spec, Option.bind_some, h, bytes_spec _ hw, Option.bind_some]
  cases over with
  | true => rw [bytesS_f h]; rfl
  | false =>
    rw [bytesS_t h]
    have := spanB_pos (Span.mk (Trace.mk 0 0) 0 0 sv op st du false l)
    simp only [Bool.not_false, beq_self_eq_true, if_true, dec_t (by omega : (0 : Int) < ((spanB (Span.mk (Trace.mk 0 0) 0 0 sv op st du false l)).length : Int))]
def long17 : ByteArray := strOf [97, 98, 99, 100, 101, 102, 103, 104, 105, 106, 107, 108, 109, 110, 111, 112, 113]
def keyAt (i : Nat) : Attr := Attr.mk (ByteArray.extract long17 i (i + 1)) (strOf [])
theorem limit_loop (n : Nat) (hn : n ≤ 5) (v : Int) (hv : IntKind.i64.wrap (4 + v) = (n : Int)) : loopN (fun (s : List Attr × Int) => gleaninglaw3_SpanLimits_l3 v s.1 s.2) Fu ([], 0) = some (strOf [97], strOf [98], 0, 0, (List.range n).map keyAt) := by
  refine loop_list (l := List.range n) (fun k r s => s = ((List.range k).map keyAt, (k : Int)) ∧ r = (strOf [97], strOf [98], 0, 0, (List.range n).map keyAt)) (by simp; omega) ?_ ?_ ⟨rfl, rfl⟩
  · rintro k hk r s ⟨rfl, rfl⟩
    have hk' : k < n := by simpa using hk
    refine .inl ⟨((List.range (k + 1)).map keyAt, ((k + 1 : Nat) : Int)), ?_, rfl, rfl⟩
    have hsz : ((strOf [97, 98, 99, 100, 101, 102, 103, 104, 105, 106, 107, 108, 109, 110, 111, 112, 113]).size : Int) = 17 := by rw [strOf_size]; rfl
    have hfit : ∀ a : Attr, ((List.range k).map keyAt ++ [a]).length * 32 ≤ 140737488355328 ∧ ((List.range k).map keyAt ++ [a]).length ≤ 140737488355328 := fun a => by simp; omega
    simp only [gleaninglaw3_SpanLimits_l3, hv, dec_t (by omega : (k : Int) < (n : Int)), if_true, gd_pos (by omega : (0 : Int) ≤ (k : Int)), ksuc (by omega : k < 1099511627776), hsz, gd_pos (by omega : (k : Int) ≤ ((k + 1 : Nat) : Int)), gd_pos (by omega : ((k + 1 : Nat) : Int) ≤ 17), gd_pos (hfit _), Int.toNat_natCast]
    rw [List.range_succ, List.map_append]; rfl
  · rintro r s ⟨rfl, rfl⟩
    simp only [List.length_range, gleaninglaw3_SpanLimits_l3, hv, dec_f (by omega : ¬ (n : Int) < (n : Int)), Bool.false_eq_true, if_false]
theorem limits_k1 (which : Int) (over : Bool) (v : Int) (hv : v = if over = true then 1 else 0) (h0 : 0 ≤ which) (h8 : which ≤ 8) : gleaninglaw3_SpanLimits_k1 which over v = some true := by
  have hsz : ((strOf [97, 98, 99, 100, 101, 102, 103, 104, 105, 106, 107, 108, 109, 110, 111, 112, 113]).size : Int) = 17 := by rw [strOf_size]; rfl
  have hsz2 : ((strOf [108, 107]).size : Int) = 2 := by rw [strOf_size]; rfl
  have hw : which = 0 ∨ which = 1 ∨ which = 2 ∨ which = 3 ∨ which = 4 ∨ which = 5 ∨ which = 6 ∨ which = 7 ∨ which = 8 := by omega
  have g : ∀ {p : Prop} [Decidable p] {α : Type} {x y : Option α}, p → x = y → gd p x = y := fun hp e => by rw [gd_pos hp]; exact e
  rcases hw with rfl | rfl | rfl | rfl | rfl | rfl | rfl | rfl | rfl <;> cases over <;> simp only [if_true, Bool.false_eq_true, if_false] at hv <;> subst hv <;> rw [gleaninglaw3_SpanLimits_k1, hsz]
  · rw [ite_t (by decide), gd_pos (by decide), gd_pos (by decide)]; rw [Option.bind_some]; refine limit_of _ _ _ _ _ _ ?_; decide +kernel
  · rw [ite_t (by decide), gd_pos (by decide), gd_pos (by decide)]; rw [Option.bind_some]; refine limit_of _ _ _ _ _ _ ?_; decide +kernel
  · rw [ite_f (by decide), ite_t (by decide), gd_pos (by decide), gd_pos (by decide)]; rw [Option.bind_some]; refine limit_of _ _ _ _ _ _ ?_; decide +kernel
  · rw [ite_f (by decide), ite_t (by decide), gd_pos (by decide), gd_pos (by decide)]; rw [Option.bind_some]; refine limit_of _ _ _ _ _ _ ?_; decide +kernel
  · rw [ite_f (by decide), ite_f (by decide), ite_t (by decide)]; rw [Option.bind_some]; refine limit_of _ _ _ _ _ _ ?_; decide +kernel
  · rw [ite_f (by decide), ite_f (by decide), ite_t (by decide)]; rw [Option.bind_some]; refine limit_of _ _ _ _ _ _ ?_; decide +kernel
  · rw [ite_f (by decide), ite_f (by decide), ite_f (by decide), ite_t (by decide)]; rw [Option.bind_some]; refine limit_of _ _ _ _ _ _ ?_; decide +kernel
  · rw [ite_f (by decide), ite_f (by decide), ite_f (by decide), ite_t (by decide)]; rw [Option.bind_some]; refine limit_of _ _ _ _ _ _ ?_; decide +kernel
  · rw [ite_f (by decide), ite_f (by decide), ite_f (by decide), ite_f (by decide), ite_t (by decide)]; rw [Option.bind_some]; refine limit_of _ _ _ _ _ _ ?_; decide +kernel
  · rw [ite_f (by decide), ite_f (by decide), ite_f (by decide), ite_f (by decide), ite_t (by decide)]; rw [Option.bind_some]; refine limit_of _ _ _ _ _ _ ?_; decide +kernel
  · rw [ite_f (by decide), ite_f (by decide), ite_f (by decide), ite_f (by decide), ite_f (by decide), ite_t (by decide), limit_loop 4 (by decide) _ (by decide)]; rw [Option.bind_some]; refine limit_of _ _ _ _ _ _ ?_; decide +kernel
  · rw [ite_f (by decide), ite_f (by decide), ite_f (by decide), ite_f (by decide), ite_f (by decide), ite_t (by decide), limit_loop 5 (by decide) _ (by decide)]; rw [Option.bind_some]; refine limit_of _ _ _ _ _ _ ?_; decide +kernel
  · rw [ite_f (by decide), ite_f (by decide), ite_f (by decide), ite_f (by decide), ite_f (by decide), ite_f (by decide), ite_t (by decide), gd_pos (by decide), gd_pos (by decide)]; rw [Option.bind_some]; refine limit_of _ _ _ _ _ _ ?_; decide +kernel
  · rw [ite_f (by decide), ite_f (by decide), ite_f (by decide), ite_f (by decide), ite_f (by decide), ite_f (by decide), ite_t (by decide), gd_pos (by decide), gd_pos (by decide)]; rw [Option.bind_some]; refine limit_of _ _ _ _ _ _ ?_; decide +kernel
  · rw [ite_f (by decide), ite_f (by decide), ite_f (by decide), ite_f (by decide), ite_f (by decide), ite_f (by decide), ite_f (by decide), ite_t (by decide), gd_pos (by decide), gd_pos (by decide)]; rw [Option.bind_some]; refine limit_of _ _ _ _ _ _ ?_; decide +kernel
  · rw [ite_f (by decide), ite_f (by decide), ite_f (by decide), ite_f (by decide), ite_f (by decide), ite_f (by decide), ite_f (by decide), ite_t (by decide), gd_pos (by decide), gd_pos (by decide)]; rw [Option.bind_some]; refine limit_of _ _ _ _ _ _ ?_; decide +kernel
  · rw [ite_f (by decide), ite_f (by decide), ite_f (by decide), ite_f (by decide), ite_f (by decide), ite_f (by decide), ite_f (by decide), ite_f (by decide), hsz2, gd_pos (by decide), gd_pos (by decide), gd_pos (by decide)]; rw [Option.bind_some]; refine limit_of _ _ _ _ _ _ ?_; decide +kernel
  · rw [ite_f (by decide), ite_f (by decide), ite_f (by decide), ite_f (by decide), ite_f (by decide), ite_f (by decide), ite_f (by decide), ite_f (by decide), hsz2, gd_pos (by decide), gd_pos (by decide), gd_pos (by decide)]; rw [Option.bind_some]; refine limit_of _ _ _ _ _ _ ?_; decide +kernel
theorem spanLimits_true (which : Int) (over : Bool) (_ : inI .i64 which) (_ : True) : gleaninglaw3_SpanLimits which over = some true := by
  simp only [gleaninglaw3_SpanLimits, alive3, Option.bind_some, Bool.not_true, Bool.false_eq_true, if_false]
  by_cases h1 : which < 0
  · simp [h1]
  by_cases h2 : 8 < which
  · simp [h1, h2]
  simp only [h1, h2, decide_false, Bool.false_eq_true, if_false, Option.bind_some, Sum.elim_inl, gleaninglaw3_SpanLimits_k0]
  have : (if over = true then some (1 : Int) else some 0) = some (if over = true then 1 else 0) := by cases over <;> rfl
  rw [this, Option.bind_some]
  exact limits_k1 which over _ rfl (by omega) (by omega)
end Go.Proofs.Ytbfmmaabaenhgaa.Ab
