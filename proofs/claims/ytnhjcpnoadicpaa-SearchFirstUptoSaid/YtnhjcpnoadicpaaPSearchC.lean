/- Chapter 32: which of two traces is ahead: a strict order that parts all. -/
import Derived.Test.YtnhjcpnoadicpaaXSC
import Derived.Test.YtnhjcpnoadicpaaPSort
namespace Go.Proofs.Ytnhjcpnoadicpaa.Ab
open Go Go.RowKit Go.Lib Go.Proofs
set_option linter.unusedVariables false
set_option linter.unusedSimpArgs false
theorem cmpU_spec (a b : Int) : cmp_Compare_uint64 a b = some (if a < b then -1 else if b < a then 1 else 0) := by
  simp only [cmp_Compare_uint64, cmp_isNaN_uint64, bne_self_eq_false, Option.bind_some, Bool.false_eq_true, if_false]
  by_cases h : a < b
  · simp [h]
  · by_cases k : b < a <;> simp [h, k]
theorem fuC : Fu = 1208925819614629174706173 + 1 + 1 + 1 := rfl
theorem or2_spec (x y : Int) : cmp_Or_int [x, y] = some (if x ≠ 0 then x else y) := by
  rw [cmp_Or_int, fuC]
  by_cases hx : x = 0
  · subst hx
    rw [loop_l (s' := (1 : Int)) (by rfl)]
    by_cases hy : y = 0
    · subst hy
      rw [loop_l (s' := (2 : Int)) (by rfl), loop_r (r := (0 : Int)) (by rfl)]
      rfl
    · rw [loop_r (r := y) (by simp [cmp_Or_int_l0, gd, hy])]
      simp
  · rw [loop_r (r := x) (by simp [cmp_Or_int_l0, gd, hx])]
    simp [hx]
def tlt (x y : Trace) : Prop := x.Hi < y.Hi ∨ (x.Hi = y.Hi ∧ x.Lo < y.Lo)
instance (x y : Trace) : Decidable (tlt x y) := by unfold tlt; exact inferInstance
theorem tcompare_spec (x y : Trace) : ∃ r, search_compare x y = some r ∧ (r < 0 ↔ tlt x y) := by
  rw [search_compare, cmpU_spec, Option.bind_some, cmpU_spec, Option.bind_some, or2_spec, Option.bind_some]
  refine ⟨_, rfl, ?_⟩
  unfold tlt
  by_cases c1 : x.Hi < y.Hi
  · simp [c1]
  by_cases c2 : y.Hi < x.Hi
  · have : x.Hi ≠ y.Hi := by omega
    simp [c1, c2, this]
  have c3 : x.Hi = y.Hi := by omega
  simp only [c3, Int.lt_irrefl, if_false, ne_eq, not_true_eq_false, false_or, true_and]
  by_cases o1 : x.Lo < y.Lo
  · simp [o1]
  · by_cases o2 : y.Lo < x.Lo <;> simp [o1, o2]
theorem lt_tlt (x y : Trace) : ltOf (fun x y => (search_compare x y).getD 0) x y = decide (tlt x y) := by
  obtain ⟨r, h1, h2⟩ := tcompare_spec x y
  unfold ltOf
  show decide ((search_compare x y).getD 0 < 0) = _
  rw [h1, Option.getD_some, Bool.eq_iff_iff, decide_eq_true_iff, decide_eq_true_iff]
  exact h2
theorem tlt_irr (x : Trace) : ¬ tlt x x := by simp [tlt]
theorem tlt_tr {x y z : Trace} (h : tlt x y) (k : tlt y z) : tlt x z := by
  unfold tlt at *
  omega
theorem tlt_tot {x y : Trace} (h : ¬ tlt x y) (k : ¬ tlt y x) : x = y := by
  unfold tlt at h k
  cases x; cases y
  simp only [Trace.mk.injEq] at *
  omega
theorem ntlt_tr {x y z : Trace} (h : ¬ tlt x y) (k : ¬ tlt y z) : ¬ tlt x z := by
  unfold tlt at *
  omega
theorem sok_search_compare : SortOk search_compare where
  all x y := by
    obtain ⟨r, h, _⟩ := tcompare_spec x y
    exact ⟨r, h⟩
  swo :=
    { irrefl := fun x => by rw [lt_tlt]; exact decide_eq_false (tlt_irr x)
      trans := fun x y z h k => by rw [lt_tlt] at *; exact decide_eq_true (tlt_tr (of_decide_eq_true h) (of_decide_eq_true k))
      ntrans := fun x y z h k => by rw [lt_tlt] at *; exact decide_eq_false (ntlt_tr (of_decide_eq_false h) (of_decide_eq_false k)) }
end Go.Proofs.Ytnhjcpnoadicpaa.Ab
