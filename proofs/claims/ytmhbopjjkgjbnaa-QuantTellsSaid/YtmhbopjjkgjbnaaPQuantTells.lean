/- Chapter 31: the total, any quantile, and the rate. -/
import Derived.Test.YtmhbopjjkgjbnaaXQ
import Derived.Test.YtmhbopjjkgjbnaaPDiv
namespace Go.Proofs.Ytmhbopjjkgjbnaa.Ab
open Go Go.RowKit
set_option linter.unusedVariables false
set_option linter.unusedSimpArgs false

/-- a thousand times e, by n -/
def rateN (e n : Nat) : Int × Bool := if n = 0 then (0, false) else if n ≤ e then (1000, true) else (((e * 1000 / n : Nat) : Int), true)
theorem rate_spec (c : Counter) (h1 : I63 c.Count) (h2 : I63 c.Errs) : quant_Rate c = some (rateN (cl c.Errs).toNat (cl c.Count).toNat) := by
  have a1 := cl_n h1; have a2 := cl_n h2
  have b1 := a1.1; have b2 := a1.2; have b3 := a2.1; have b4 := a2.2
  unfold quant_Rate rateN
  rw [show (if c.Count > 0 then c.Count else 0) = cl c.Count from rfl, show (if c.Errs > 0 then c.Errs else 0) = cl c.Errs from rfl]
  revert b1 b2 b3 b4
  generalize cl c.Count = n
  generalize cl c.Errs = e
  intro b1 b2 b3 b4
  obtain ⟨n, rfl⟩ := Int.eq_ofNat_of_zero_le b1
  obtain ⟨e, rfl⟩ := Int.eq_ofNat_of_zero_le b3
  rw [Int.toNat_natCast, Int.toNat_natCast]
  by_cases c1 : n = 0
  · subst c1; rfl
  rw [if_neg (by simp; omega), if_neg c1]
  by_cases c2 : n ≤ e
  · rw [ite_t (dec_t (by omega)), if_pos c2]
  rw [ite_f (dec_f (by omega)), if_neg c2, wu64 (by omega) (by omega), wu64 (by omega) (by omega), show (1000 : Int) = ((1000 : Nat) : Int) from rfl, mul64_spec e 1000 (by omega) (by omega), Option.bind_some]
  dsimp only
  have hq : e * 1000 / n ≤ 1000 := by
    rw [Nat.div_le_iff_le_mul_add_pred (by omega)]; 
    omega
  have key : ∃ r, math_bits_Div64 ((e * 1000 / 18446744073709551616 : Nat) : Int) ((e * 1000 % 18446744073709551616 : Nat) : Int) (n : Int) = some ((((e * 1000) / n : Nat) : Int), r) := by
    by_cases c3 : e * 1000 / 18446744073709551616 = 0
    · rw [c3]
      have e1 : e * 1000 % 18446744073709551616 = e * 1000 := by omega
      rw [e1]
      exact ⟨_, div_small (e * 1000) n (by omega) (by omega) (by omega)⟩
    · obtain ⟨r, hr⟩ := div_big (e * 1000 / 18446744073709551616) (e * 1000 % 18446744073709551616) n (by omega) (by omega) (by omega) (by omega) (by omega)
      have e2 : e * 1000 / 18446744073709551616 * 18446744073709551616 + e * 1000 % 18446744073709551616 = e * 1000 := by omega
      rw [e2] at hr
      exact ⟨r, hr⟩
  obtain ⟨r, hr⟩ := key
  rw [hr, Option.bind_some]
  dsimp only
  rw [w64 (Int.le_trans (by decide) (Int.natCast_nonneg _)) (Int.lt_of_le_of_lt (Int.ofNat_le.2 hq) (by decide))]
theorem round_spec (n r : Nat) (hn : 0 < n) (hn2 : n < 9223372036854775808) (hr : r ≤ n) : loopN (fun (s : Int × Int × Int) => gleaningref28_Rate_l3 (n : Int) (r : Int) s.1 s.2.1 s.2.2) Fu (0, 0, 0) = some (((10 * r / n : Nat) : Int), ((10 * r % n : Nat) : Int)) := by
  refine loop_fu (fun m s x => ∃ k d t : Nat, m = 10 - k ∧ k ≤ 10 ∧ d ≤ k ∧ t < n ∧ d * n + t = k * r ∧ s = ((d : Int), (t : Int), (k : Int)) ∧ x = (((10 * r / n : Nat) : Int), ((10 * r % n : Nat) : Int))) ?_ (n := 10) ⟨0, 0, 0, rfl, by omega, by omega, hn, by simp, rfl, rfl⟩ (by decide)
  rintro m s x ⟨k, d, t, rfl, hk, hd, ht, he, rfl, rfl⟩
  dsimp only [gleaningref28_Rate_l3]
  by_cases e : k = 10
  · subst e
    refine .inr ?_
    rw [ite_f (dec_f (by decide))]
    have e1 : 10 * r / n = d := by
      rw [← he]
      rw [Nat.mul_comm, Nat.mul_add_div hn, Nat.div_eq_of_lt ht, Nat.add_zero]
    have e2 : 10 * r % n = t := by
      rw [← he, Nat.mul_comm, Nat.mul_add_mod, Nat.mod_eq_of_lt ht]
    rw [e1, e2]
  · rw [ite_t (dec_t (by omega)), wu64 (n := (n : Int)) (by omega) (by omega), wu64 (n := (r : Int)) (by omega) (by omega), wu64 (n := (t : Int) + (r : Int)) (by omega) (by omega)]
    have hs : (k + 1) * r = k * r + r := by rw [Nat.add_mul, Nat.one_mul]
    by_cases c : n ≤ t + r
    · rw [ite_t (dec_t (by omega)), w64 (by omega) (by omega), wu64 (by omega) (by omega), w64 (by omega) (by omega)]
      refine .inl ⟨_, 10 - (k + 1), rfl, by omega, k + 1, d + 1, t + r - n, rfl, by omega, by omega, by omega, ?_, ?_, rfl⟩
      · rw [Nat.add_mul, Nat.one_mul, hs]; omega
      · congr 1
        congr 1
        omega
    · rw [ite_f (dec_f (by omega)), w64 (by omega) (by omega)]
      exact .inl ⟨_, 10 - (k + 1), rfl, by omega, k + 1, d, t + r, rfl, by omega, by omega, by omega, by rw [hs]; omega, rfl, rfl⟩
theorem refRate_spec (c : Counter) (h1 : I63 c.Count) (h2 : I63 c.Errs) : gleaningref28_Rate c = some (rateN (cl c.Errs).toNat (cl c.Count).toNat) := by
  have a1 := cl_n h1; have a2 := cl_n h2
  have b1 := a1.1; have b2 := a1.2; have b3 := a2.1; have b4 := a2.2
  have g1 := h1.1; have g2 := h1.2; have g3 := h2.1; have g4 := h2.2
  unfold gleaningref28_Rate rateN
  have e1 : gleaningref1_Cap c.Count 0 9223372036854775807 = some (cl c.Count) := by
    rw [cap_spec]; congr 1; unfold cl
    by_cases h : 0 < c.Count
    · rw [if_neg (by omega), if_neg (by omega), if_pos h]
    · rw [if_neg h]
      by_cases h' : c.Count < 0
      · rw [if_pos h']
      · rw [if_neg h', if_neg (by omega)]; omega
  have e2 : gleaningref1_Cap c.Errs 0 (cl c.Count) = some (if cl c.Count < cl c.Errs then cl c.Count else cl c.Errs) := by
    rw [cap_spec]; congr 1
    by_cases h : c.Errs < 0
    · rw [if_pos h, cl_neg (by omega : c.Errs ≤ 0), if_neg (by omega)]
    · rw [if_neg h, cl_id (by omega : 0 ≤ c.Errs)]
  rw [e1, Option.bind_some, e2, Option.bind_some]
  revert b1 b2 b3 b4
  generalize cl c.Count = n
  generalize cl c.Errs = e
  intro b1 b2 b3 b4
  obtain ⟨n, rfl⟩ := Int.eq_ofNat_of_zero_le b1
  obtain ⟨e, rfl⟩ := Int.eq_ofNat_of_zero_le b3
  rw [Int.toNat_natCast, Int.toNat_natCast]
  by_cases c1 : n = 0
  · subst c1; rfl
  rw [if_neg (by simp; omega), if_neg c1]
  have hn : 0 < n := by omega
  obtain ⟨x, hx, hxn, hxe, hxe2⟩ : ∃ x : Nat, (if (n : Int) < (e : Int) then (n : Int) else (e : Int)) = (x : Int) ∧ x ≤ n ∧ (n ≤ e → x = n) ∧ (¬ n ≤ e → x = e) := by
    by_cases h : n < e
    · exact ⟨n, if_pos (by omega), Nat.le_refl _, fun _ => rfl, fun h' => by omega⟩
    · exact ⟨e, if_neg (by omega), by omega, fun h' => by omega, fun _ => rfl⟩
  rw [hx]
  have hloop : ∃ q r : Nat, loopN (fun (s : Int × Int × Int) => gleaningref28_Rate_l1 (n : Int) s.1 s.2.1 s.2.2) Fu (0, (x : Int), 0) = some (q : Int) ∧ q * n + r = 1000 * x ∧ (r < n ∨ x = n) := by
    have : ∃ a, loopN (fun (s : Int × Int × Int) => gleaningref28_Rate_l1 (n : Int) s.1 s.2.1 s.2.2) Fu (0, (x : Int), 0) = some a ∧ ∃ q r : Nat, a = (q : Int) ∧ q * n + r = 1000 * x ∧ (r < n ∨ x = n) := by
      refine loop_inv (fun m (s : Int × Int × Int) => ∃ k q r : Nat, m = 3 - k ∧ k ≤ 3 ∧ s = ((q : Int), (r : Int), (k : Int)) ∧ q * n + r = 10 ^ k * x ∧ r ≤ n ∧ q ≤ 10 ^ k ∧ (r < n ∨ x = n)) _ ?_ Fu 3 _ ⟨0, 0, x, rfl, by omega, rfl, by simp, hxn, by omega, by omega⟩ (by rw [fu_eq]; decide)
      rintro m s ⟨k, q, r, rfl, hk, rfl, he, hr, hq, hrn⟩
      dsimp only [gleaningref28_Rate_l1]
      by_cases ek : k = 3
      · subst ek
        exact .inr ⟨_, by rw [ite_f (dec_f (by decide))], q, r, rfl, by simpa using he, hrn⟩
      · refine .inl ?_
        have hround := round_spec n r hn (by omega) hr
        have hdm := Nat.div_add_mod' (10 * r) n
        have hml := Nat.mod_lt (10 * r) hn
        have hd : 10 * r / n ≤ 10 := by
          rw [Nat.div_le_iff_le_mul_add_pred hn]; omega
        have hp : 10 ^ k ≤ 100 := by
          have : 10 ^ k ≤ 10 ^ 2 := Nat.pow_le_pow_right (by decide) (by omega)
          simpa using this
        revert hround hdm hml hd
        generalize 10 * r / n = D
        generalize 10 * r % n = M
        intro hround hdm hml hd
        rw [ite_t (dec_t (by omega)), hround, Option.bind_some]
        dsimp only [gleaningref28_Rate_k2]
        rw [show (10 : Int) * (q : Int) = ((10 * q : Nat) : Int) by push_cast; rfl, w64 (n := ((10 * q : Nat) : Int)) (by omega) (by omega), w64 (n := ((10 * q : Nat) : Int) + ((D : Nat) : Int)) (by omega) (by omega), w64 (n := ((M : Nat) : Int)) (by omega) (by omega), w64 (n := (k : Int) + 1) (by omega) (by omega)]
        have hpow : 10 ^ (k + 1) = 10 * 10 ^ k := by rw [Nat.pow_succ, Nat.mul_comm]
        refine ⟨_, 3 - (k + 1), rfl, by omega, k + 1, 10 * q + D, M, rfl, by omega, ?_, ?_, by omega, ?_, .inl hml⟩
        · congr 1
        · rw [hpow, Nat.add_mul, Nat.mul_assoc, Nat.mul_assoc, ← he]
          omega
        · rw [hpow]
          have e3 : (10 * q + D) * n ≤ 10 * 10 ^ k * n := by
            rw [Nat.add_mul]
            have e4 : 10 * q * n = 10 * (q * n) := Nat.mul_assoc _ _ _
            have e5 : 10 * 10 ^ k * x ≤ 10 * 10 ^ k * n := Nat.mul_le_mul_left _ hxn
            have e6 : 10 * 10 ^ k * x = 10 * (10 ^ k * x) := Nat.mul_assoc _ _ _
            omega
          exact Nat.le_of_mul_le_mul_right e3 hn
    obtain ⟨a, h, q, r, rfl, h'⟩ := this
    exact ⟨q, r, h, h'⟩
  obtain ⟨q, r, hq, he, hrn⟩ := hloop
  rw [hq, Option.bind_some]
  unfold gleaningref28_Rate_k0
  by_cases c2 : n ≤ e
  · rw [if_pos c2, hxe c2, if_pos (by simp)]
  · have hxe' := hxe2 c2
    have hlt : r < n := by omega
    rw [if_neg c2, if_neg (by simp; omega)]
    have : e * 1000 / n = q := by
      rw [← hxe', Nat.mul_comm x, ← he, Nat.mul_comm q n, Nat.mul_add_div hn, Nat.div_eq_of_lt hlt, Nat.add_zero]
    rw [this]
theorem quantTells_true (c : Counter) (p : Int) (hw : Counter.wf c) (_ : inI .i64 p) : gleaninglaw31_QuantTells c p = some true := by
  obtain ⟨w1, w2, w3⟩ := hw
  have hv : ∀ x ∈ vL c, I63 x := by
    obtain ⟨v0, v1, v2, v3, v4, v5, v6, v7⟩ := w3
    intro x hx
    simp only [vL, List.mem_cons, List.not_mem_nil, or_false] at hx
    rcases hx with rfl | rfl | rfl | rfl | rfl | rfl | rfl | rfl <;> assumption
  unfold gleaninglaw31_QuantTells
  rw [alive31, Option.bind_some, quantile_spec c p hv, Option.bind_some, refQuantile_spec c p hv, Option.bind_some, rate_spec c w1 w2, Option.bind_some, refRate_spec c w1 w2, Option.bind_some, ite_tt, total_spec c hv, Option.bind_some, refTotal_spec c hv, Option.bind_some]
  simp
end Go.Proofs.Ytmhbopjjkgjbnaa.Ab
