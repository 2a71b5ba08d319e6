/- Chapter 31: which of two is busier: the comparison is a strict weak order. -/
import Derived.Test.YtoecalgfdphghaaXQC
import Derived.Test.YtoecalgfdphghaaPKit
namespace Go.Proofs.Ytoecalgfdphghaa.Ab
open Go Go.RowKit Go.Lib Go.Proofs
set_option linter.unusedVariables false
set_option linter.unusedSimpArgs false
theorem bless_eq : ∀ (x y : List UInt8), Op.bytesLess x y = decide (x < y)
  | _, [] => by simp [Op.bytesLess]
  | [], b :: y => by simp [Op.bytesLess]
  | a :: x, b :: y => by
    rw [Op.bytesLess, bless_eq x y, Bool.eq_iff_iff]
    simp [List.cons_lt_cons_iff]
theorem bless_irr (x : List UInt8) : ¬ x < x := List.lt_irrefl x
theorem bless_tr {x y z : List UInt8} (h : x < y) (k : y < z) : x < z := List.lt_trans h k
theorem bless_tot {x y : List UInt8} (h : ¬ x < y) (k : ¬ y < x) : x = y := List.le_antisymm (List.not_lt.1 k) (List.not_lt.1 h)
theorem toList_eq_iff {a b : ByteArray} : a.toList = b.toList ↔ a = b := ⟨toList_inj, fun h => by rw [h]⟩
theorem cmpI_spec (a b : Int) : cmp_Compare_int a b = some (if a < b then -1 else if b < a then 1 else 0) := by
  simp only [cmp_Compare_int, cmp_isNaN_int, bne_self_eq_false, Option.bind_some, Bool.false_eq_true, if_false]
  by_cases h : a < b
  · simp [h]
  · by_cases k : b < a <;> simp [h, k]
theorem cmpS_spec (a b : ByteArray) : cmp_Compare_string a b = some (if a.toList < b.toList then -1 else if b.toList < a.toList then 1 else 0) := by
  simp only [cmp_Compare_string, cmp_isNaN_string, beq_self_eq_true, Bool.not_true, Option.bind_some, Bool.false_eq_true, if_false, bless_eq]
  by_cases h : a.toList < b.toList
  · simp [h]
  · by_cases k : b.toList < a.toList
    · have hne : a.toList ≠ b.toList := fun e => bless_irr b.toList (by rw [e] at k; exact k)
      simp [h, k, hne]
    · have he : a.toList = b.toList := bless_tot h k
      simp [he, bless_irr]
theorem fuC : Fu = 1208925819614629174706172 + 1 + 1 + 1 + 1 := rfl
theorem or3_spec (x y z : Int) : cmp_Or_int [x, y, z] = some (if x ≠ 0 then x else if y ≠ 0 then y else z) := by
  rw [cmp_Or_int, fuC]
  by_cases hx : x = 0
  · subst hx
    rw [loop_l (s' := (1 : Int)) (by rfl)]
    by_cases hy : y = 0
    · subst hy
      rw [loop_l (s' := (2 : Int)) (by rfl)]
      by_cases hz : z = 0
      · subst hz
        rw [loop_l (s' := (3 : Int)) (by rfl), loop_r (r := (0 : Int)) (by rfl)]
        rfl
      · rw [loop_r (r := z) (by simp [cmp_Or_int_l0, gd, hz])]
        simp
    · rw [loop_r (r := y) (by simp [cmp_Or_int_l0, gd, hy])]
      simp [hy]
  · rw [loop_r (r := x) (by simp [cmp_Or_int_l0, gd, hx])]
    simp [hx]
/-- one is busier than another -/
def busier (x y : Busy) : Prop := y.Count < x.Count ∨ (x.Count = y.Count ∧ (x.Service.toList < y.Service.toList ∨ (x.Service = y.Service ∧ x.Op.toList < y.Op.toList)))
instance (x y : Busy) : Decidable (busier x y) := by unfold busier; exact inferInstance
theorem compare_spec (x y : Busy) : ∃ r, quant_compare x y = some r ∧ (r < 0 ↔ busier x y) := by
  rw [quant_compare, cmpI_spec, Option.bind_some, cmpS_spec, Option.bind_some, cmpS_spec, Option.bind_some, or3_spec, Option.bind_some]
  refine ⟨_, rfl, ?_⟩
  unfold busier
  by_cases c1 : y.Count < x.Count
  · simp [c1]
  by_cases c2 : x.Count < y.Count
  · have : x.Count ≠ y.Count := by omega
    simp [c1, c2, this]
  have c3 : x.Count = y.Count := by omega
  simp only [c3, Int.lt_irrefl, if_false, ne_eq, not_true_eq_false, false_or, true_and]
  by_cases s1 : x.Service.toList < y.Service.toList
  · simp [s1]
  by_cases s2 : y.Service.toList < x.Service.toList
  · have : x.Service ≠ y.Service := fun e => bless_irr y.Service.toList (by rw [e] at s2; exact s2)
    simp [s1, s2, this]
  have s3 : x.Service = y.Service := toList_inj (bless_tot s1 s2)
  simp only [s3, bless_irr, if_false, not_true_eq_false, false_or, true_and]
  by_cases o1 : x.Op.toList < y.Op.toList
  · simp [o1]
  · by_cases o2 : y.Op.toList < x.Op.toList <;> simp [o1, o2]
theorem lt_busier (x y : Busy) : ltOf (fun x y => (quant_compare x y).getD 0) x y = decide (busier x y) := by
  obtain ⟨r, h1, h2⟩ := compare_spec x y
  unfold ltOf
  show decide ((quant_compare x y).getD 0 < 0) = _
  rw [h1, Option.getD_some, Bool.eq_iff_iff, decide_eq_true_iff, decide_eq_true_iff]
  exact h2
theorem busier_irr (x : Busy) : ¬ busier x x := by simp [busier, bless_irr]
theorem busier_tr {x y z : Busy} (h : busier x y) (k : busier y z) : busier x z := by
  unfold busier at *
  rcases h with h | ⟨h, h2⟩
  · rcases k with k | ⟨k, _⟩
    · left; omega
    · left; omega
  · rcases k with k | ⟨k, k2⟩
    · left; omega
    · right
      refine ⟨by omega, ?_⟩
      rcases h2 with h2 | ⟨h2, h3⟩
      · rcases k2 with k2 | ⟨k2, _⟩
        · exact .inl (bless_tr h2 k2)
        · exact .inl (by rw [← k2]; exact h2)
      · rcases k2 with k2 | ⟨k2, k3⟩
        · exact .inl (by rw [h2]; exact k2)
        · exact .inr ⟨h2.trans k2, bless_tr h3 k3⟩
/-- neither is busier: one service, one operation, as often -/
theorem busier_tot {x y : Busy} (h : ¬ busier x y) (k : ¬ busier y x) : x.Count = y.Count ∧ x.Service = y.Service ∧ x.Op = y.Op := by
  unfold busier at h k
  have hc : x.Count = y.Count := by
    have h1 : ¬ y.Count < x.Count := fun e => h (.inl e)
    have h2 : ¬ x.Count < y.Count := fun e => k (.inl e)
    omega
  have hs : x.Service = y.Service := toList_inj (bless_tot (fun e => h (.inr ⟨hc, .inl e⟩)) (fun e => k (.inr ⟨hc.symm, .inl e⟩)))
  exact ⟨hc, hs, toList_inj (bless_tot (fun e => h (.inr ⟨hc, .inr ⟨hs, e⟩⟩)) (fun e => k (.inr ⟨hc.symm, .inr ⟨hs.symm, e⟩⟩)))⟩
theorem busier_key {x x' y y' : Busy} (h1 : x.Count = x'.Count) (h2 : x.Service = x'.Service) (h3 : x.Op = x'.Op) (k1 : y.Count = y'.Count) (k2 : y.Service = y'.Service) (k3 : y.Op = y'.Op) : busier x y ↔ busier x' y' := by
  unfold busier; rw [h1, h2, h3, k1, k2, k3]
theorem nbusier_tr {x y z : Busy} (h : ¬ busier x y) (k : ¬ busier y z) : ¬ busier x z := by
  intro e
  by_cases h2 : busier y x
  · exact k (busier_tr h2 e)
  · obtain ⟨a, b, c⟩ := busier_tot h h2
    exact k ((busier_key a b c rfl rfl rfl).1 e)
theorem sok_quant_compare : SortOk quant_compare where
  all x y := by
    obtain ⟨r, h, _⟩ := compare_spec x y
    exact ⟨r, h⟩
  swo :=
    { irrefl := fun x => by rw [lt_busier]; exact decide_eq_false (busier_irr x)
      trans := fun x y z h k => by rw [lt_busier] at *; exact decide_eq_true (busier_tr (of_decide_eq_true h) (of_decide_eq_true k))
      ntrans := fun x y z h k => by rw [lt_busier] at *; exact decide_eq_false (nbusier_tr (of_decide_eq_false h) (of_decide_eq_false k)) }
instance : Inhabited Busy := ⟨⟨strOf [], strOf [], 0, 0⟩⟩
end Go.Proofs.Ytoecalgfdphghaa.Ab
