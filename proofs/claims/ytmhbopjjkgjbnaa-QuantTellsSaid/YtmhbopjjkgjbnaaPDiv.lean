/- math/bits.Div64, as far as it is asked here. -/
import Derived.Test.YtmhbopjjkgjbnaaPQuant0
namespace Go.Proofs.Ytmhbopjjkgjbnaa.Ab
open Go Go.RowKit
set_option linter.unusedVariables false
set_option linter.unusedSimpArgs false

def lenTab : ByteArray := strOf [0, 1, 2, 2, 3, 3, 3, 3, 4, 4, 4, 4, 4, 4, 4, 4, 5, 5, 5, 5, 5, 5, 5, 5, 5, 5, 5, 5, 5, 5, 5, 5, 6, 6, 6, 6, 6, 6, 6, 6, 6, 6, 6, 6, 6, 6, 6, 6, 6, 6, 6, 6, 6, 6, 6, 6, 6, 6, 6, 6, 6, 6, 6, 6, 7, 7, 7, 7, 7, 7, 7, 7, 7, 7, 7, 7, 7, 7, 7, 7, 7, 7, 7, 7, 7, 7, 7, 7, 7, 7, 7, 7, 7, 7, 7, 7, 7, 7, 7, 7, 7, 7, 7, 7, 7, 7, 7, 7, 7, 7, 7, 7, 7, 7, 7, 7, 7, 7, 7, 7, 7, 7, 7, 7, 7, 7, 7, 7, 8, 8, 8, 8, 8, 8, 8, 8, 8, 8, 8, 8, 8, 8, 8, 8, 8, 8, 8, 8, 8, 8, 8, 8, 8, 8, 8, 8, 8, 8, 8, 8, 8, 8, 8, 8, 8, 8, 8, 8, 8, 8, 8, 8, 8, 8, 8, 8, 8, 8, 8, 8, 8, 8, 8, 8, 8, 8, 8, 8, 8, 8, 8, 8, 8, 8, 8, 8, 8, 8, 8, 8, 8, 8, 8, 8, 8, 8, 8, 8, 8, 8, 8, 8, 8, 8, 8, 8, 8, 8, 8, 8, 8, 8, 8, 8, 8, 8, 8, 8, 8, 8, 8, 8, 8, 8, 8, 8, 8, 8, 8, 8, 8, 8, 8, 8, 8, 8, 8, 8, 8, 8, 8, 8, 8, 8, 8, 8]
theorem k2_eq (v0 v2 : Int) : math_bits_Len64_k2 v0 v2 = gd (0 ≤ ((u8 (IntKind.u8.wrap v0)).toNat : Int)) (Option.bind (lenTab[(Int.toNat ((u8 (IntKind.u8.wrap v0)).toNat : Int))]?) (fun (x19 : UInt8) => some (IntKind.i64.wrap (v2 + (IntKind.i64.wrap (x19.toNat : Int)))))) := rfl
theorem tab_ok : ∀ k : Fin 256, ∃ c : Fin 9, lenTab[k.val]? = some (UInt8.ofNat c.val) ∧ k.val < 2 ^ c.val ∧ (0 < k.val → 1 ≤ c.val ∧ 2 ^ (c.val - 1) ≤ k.val) := by decide +kernel
theorem len_k2 (k v : Nat) (hk : k < 256) (hv : v ≤ 100) : ∃ t, math_bits_Len64_k2 (k : Int) (v : Int) = some ((v + t : Nat) : Int) ∧ t ≤ 8 ∧ k < 2 ^ t ∧ (0 < k → 1 ≤ t ∧ 2 ^ (t - 1) ≤ k) := by
  obtain ⟨c, h1, h2, h3⟩ := tab_ok ⟨k, hk⟩
  dsimp only at h1 h2 h3
  have hc : c.val ≤ 8 := by omega
  have hu : (u8 (IntKind.u8.wrap (k : Int))).toNat = k := by
    rw [u8_wrap_nat]; simp; omega
  have hcc : (UInt8.ofNat c.val).toNat = c.val := by simp; omega
  refine ⟨c.val, ?_, hc, h2, h3⟩
  rw [k2_eq, hu, gd_pos (by omega), Int.toNat_natCast, h1, Option.bind_some, hcc, w64 (n := (c.val : Int)) (by omega) (by omega), w64 (by omega) (by omega)]
  push_cast; rfl
theorem shrQ (n k : Nat) (hk : k ≤ 64) : Int.fdiv (n : Int) (2 ^ (min (Int.toNat (k : Int)) (IntKind.bits .u64))) = ((n / 2 ^ k : Nat) : Int) := shr_nat n k hk
set_option maxRecDepth 100000 in
theorem lz_spec (n : Nat) (h1 : 18014398509481984 ≤ n) (h2 : n < 9223372036854775808) : ∃ s : Nat, math_bits_LeadingZeros64 (n : Int) = some (s : Int) ∧ 1 ≤ s ∧ s ≤ 9 ∧ 9223372036854775808 ≤ n * 2 ^ s ∧ n * 2 ^ s < 18446744073709551616 := by
  have e1 : Int.fdiv (n : Int) (2 ^ (min (Int.toNat 32) (IntKind.bits .u64))) = ((n / 4294967296 : Nat) : Int) := shrQ32 n
  have e2 : Int.fdiv ((n / 4294967296 : Nat) : Int) (2 ^ (min (Int.toNat 16) (IntKind.bits .u64))) = ((n / 4294967296 / 65536 : Nat) : Int) := shr_nat _ 16 (by decide)
  have e3 : Int.fdiv ((n / 4294967296 / 65536 : Nat) : Int) (2 ^ (min (Int.toNat 8) (IntKind.bits .u64))) = ((n / 4294967296 / 65536 / 256 : Nat) : Int) := shr_nat _ 8 (by decide)
  unfold math_bits_LeadingZeros64 math_bits_Len64
  rw [ite_t (dec_t (by omega : (4294967296 : Int) ≤ (n : Int))), Option.bind_some, e1]
  dsimp only
  unfold math_bits_Len64_k0
  rw [ite_t (dec_t (by omega)), Option.bind_some, e2, w64 (n := 32 + 16) (by decide) (by decide)]
  dsimp only
  unfold math_bits_Len64_k1
  by_cases hb : 256 ≤ n / 4294967296 / 65536
  · rw [ite_t (dec_t (by omega)), Option.bind_some, e3, w64 (n := 32 + 16 + 8) (by decide) (by decide)]
    obtain ⟨t, k1, k2, k3, k4⟩ := len_k2 (n / 4294967296 / 65536 / 256) 56 (by omega) (by decide)
    dsimp only
    rw [show ((32 + 16 + 8 : Int)) = ((56 : Nat) : Int) from rfl, k1, Option.bind_some]
    obtain ⟨k5, k6⟩ := k4 (by omega)
    have ht : t ≤ 7 := by
      by_cases e : t = 8
      · subst e; simp at k6; omega
      · omega
    refine ⟨8 - t, by rw [w64 (by omega) (by omega)]; congr 1; omega, by omega, by omega, ?_, ?_⟩
    · obtain rfl | rfl | rfl | rfl | rfl | rfl | rfl : t = 1 ∨ t = 2 ∨ t = 3 ∨ t = 4 ∨ t = 5 ∨ t = 6 ∨ t = 7 := by omega
      all_goals (simp at k6 ⊢; omega)
    · obtain rfl | rfl | rfl | rfl | rfl | rfl | rfl : t = 1 ∨ t = 2 ∨ t = 3 ∨ t = 4 ∨ t = 5 ∨ t = 6 ∨ t = 7 := by omega
      all_goals (simp at k3 ⊢; omega)
  · rw [ite_f (dec_f (by omega)), Option.bind_some]
    obtain ⟨t, k1, k2, k3, k4⟩ := len_k2 (n / 4294967296 / 65536) 48 (by omega) (by decide)
    dsimp only
    rw [show ((32 + 16 : Int)) = ((48 : Nat) : Int) from rfl, k1, Option.bind_some]
    obtain ⟨k5, k6⟩ := k4 (by omega)
    have ht : 7 ≤ t := by
      obtain h | h | h | h | h | h | h : t = 1 ∨ t = 2 ∨ t = 3 ∨ t = 4 ∨ t = 5 ∨ t = 6 ∨ 7 ≤ t := by omega
      all_goals first | exact h | (subst h; simp at k3; omega)
    refine ⟨16 - t, by rw [w64 (by omega) (by omega)]; congr 1; omega, by omega, by omega, ?_, ?_⟩
    · obtain rfl | rfl : t = 7 ∨ t = 8 := by omega
      all_goals (simp at k6 ⊢; omega)
    · obtain rfl | rfl : t = 7 ∨ t = 8 := by omega
      all_goals (simp at k3 ⊢; omega)
/-- the loop that mends a quotient -/
theorem mend (body : Int × Int → Option ((Int × Int) ⊕ Int)) (U y1 y0 z Q : Nat) (h1 : 0 < y1) (h0 : y0 < 4294967296) (hz : z < 4294967296) (hQ : ∀ m, m ≤ Q ↔ m * (y1 * 4294967296 + y0) ≤ U * 4294967296 + z)
    (step : ∀ r q : Nat, q < 4294967296 → r < 4294967296 → q * y1 + r = U → body ((r : Int), (q : Int)) = if 4294967296 * r + z < q * y0 then (if 4294967296 ≤ r + y1 then some (.inr ((q - 1 : Nat) : Int)) else some (.inl (((r + y1 : Nat) : Int), ((q - 1 : Nat) : Int)))) else some (.inr (q : Int)))
    (q0 : Nat) (hq : q0 < 4294967296) (r0 : Nat) (hr : r0 < 4294967296) (hU : q0 * y1 + r0 = U) (hle : Q ≤ q0) : loopN body Fu ((r0 : Int), (q0 : Int)) = some (Q : Int) := by
  refine loop_fu (fun n s r => ∃ q r' : Nat, n = q ∧ q < 4294967296 ∧ r' < 4294967296 ∧ q * y1 + r' = U ∧ Q ≤ q ∧ s = ((r' : Int), (q : Int)) ∧ r = (Q : Int)) ?_ (n := q0) ⟨q0, r0, rfl, hq, hr, hU, hle, rfl, rfl⟩ (by omega)
  rintro n s r ⟨q, r', rfl, hq, hr', hU, hle, rfl, rfl⟩
  have em : ∀ m, m * (y1 * 4294967296 + y0) = (m * y1) * 4294967296 + m * y0 := fun m => by rw [Nat.mul_add, Nat.mul_assoc]
  rw [step r' n hq hr' hU]
  by_cases hc : 4294967296 * r' + z < n * y0
  · rw [if_pos hc]
    -- too much
    have hlt : Q < n := by
      have h := mt (hQ n).1 (by rw [em]; omega)
      omega
    have hn1 : (n - 1) * y1 + (r' + y1) = U := by
      have e2 : n * y1 = (n - 1) * y1 + y1 := by
        conv => lhs; rw [show n = (n - 1) + 1 by omega, Nat.add_mul, Nat.one_mul]
      omega
    by_cases hb : 4294967296 ≤ r' + y1
    · rw [if_pos hb]
      refine .inr ?_
      have : Q = n - 1 := by
        have hp : (n - 1) * y0 ≤ 4294967296 * 4294967296 := Nat.mul_le_mul (by omega) (by omega)
        have : n - 1 ≤ Q := (hQ (n - 1)).2 (by rw [em]; omega)
        omega
      rw [this]
    · rw [if_neg hb]
      exact .inl ⟨_, n - 1, rfl, by omega, n - 1, r' + y1, rfl, by omega, by omega, hn1, by omega, rfl, rfl⟩
  · rw [if_neg hc]
    refine .inr ?_
    have : n ≤ Q := (hQ n).2 (by rw [em]; omega)
    rw [show Q = n by omega]
set_option maxRecDepth 100000 in
theorem div_big (hi lo n : Nat) (hh : 0 < hi) (hh2 : hi < 512) (hlo : lo < 18446744073709551616) (h1 : 18014398509481984 ≤ n) (h2 : n < 9223372036854775808) : ∃ r, math_bits_Div64 (hi : Int) (lo : Int) (n : Int) = some ((((hi * 18446744073709551616 + lo) / n : Nat) : Int), r) := by
  obtain ⟨s, hlz, hs1, hs9, hY1, hY2⟩ := lz_spec n h1 h2
  have hS : 2 ^ s ≤ 2 ^ 9 := Nat.pow_le_pow_right (by decide) hs9
  have hSp : 0 < 2 ^ s := Nat.pow_pos (by decide)
  have hST : 2 ^ (64 - s) * 2 ^ s = 18446744073709551616 := by rw [← Nat.pow_add, show 64 - s + s = 64 by omega]
  have hTp : 0 < 2 ^ (64 - s) := Nat.pow_pos (by decide)
  have hLlt : lo / 2 ^ (64 - s) < 2 ^ s := by rw [Nat.div_lt_iff_lt_mul hTp, Nat.mul_comm, hST]; exact hlo
  have hdiv : lo * 2 ^ s / 18446744073709551616 = lo / 2 ^ (64 - s) := by rw [← hST]; exact Nat.mul_div_mul_right _ _ hSp
  have hx : (hi * 18446744073709551616 + lo) * 2 ^ s = (hi * 2 ^ s + lo / 2 ^ (64 - s)) * 18446744073709551616 + lo * 2 ^ s % 18446744073709551616 := by
    have e := Nat.div_add_mod (lo * 2 ^ s) 18446744073709551616
    rw [hdiv] at e
    rw [Nat.add_mul, Nat.add_mul, Nat.mul_right_comm hi]
    omega
  have hHs : hi * 2 ^ s ≤ 511 * 2 ^ 9 := Nat.mul_le_mul (by omega) hS
  have shl : ∀ a : Nat, IntKind.u64.wrap ((a : Int) * 2 ^ (min (Int.toNat (s : Int)) (IntKind.bits .u64))) = ((a * 2 ^ s % 18446744073709551616 : Nat) : Int) := fun a => by
    rw [Int.toNat_natCast, show IntKind.bits .u64 = 64 from rfl, Nat.min_eq_left (by omega), show (2 : Int) ^ s = ((2 ^ s : Nat) : Int) from (Int.natCast_pow 2 s).symm, ← Int.natCast_mul, Mul64.wrapM]
  have EX : IntKind.u64.wrap (s : Int) = (s : Int) := Mul64.wrapN s (by omega)
  have EX2 : IntKind.u64.wrap (64 - (s : Int)) = ((64 - s : Nat) : Int) := by rw [show 64 - (s : Int) = ((64 - s : Nat) : Int) by omega, Mul64.wrapN _ (by omega)]
  have EY := shl n
  have EH := shl hi
  have EB := shl lo
  have EL := shrQ lo (64 - s) (by omega)
  rw [Nat.mod_eq_of_lt hY2] at EY
  rw [Nat.mod_eq_of_lt (by omega : hi * 2 ^ s < 18446744073709551616)] at EH
  have EO : bits .or .u64 ((hi * 2 ^ s : Nat) : Int) ((lo / 2 ^ (64 - s) : Nat) : Int) = ((hi * 2 ^ s + lo / 2 ^ (64 - s) : Nat) : Int) := by
    rw [bits_or_u64 _ _ (by omega) (by omega), ← Nat.shiftLeft_eq, ← Nat.shiftLeft_add_eq_or_of_lt hLlt, Nat.shiftLeft_eq]
  have hq : (hi * 18446744073709551616 + lo) / n = ((hi * 2 ^ s + lo / 2 ^ (64 - s)) * 18446744073709551616 + lo * 2 ^ s % 18446744073709551616) / (n * 2 ^ s) := by
    rw [← hx, Nat.mul_div_mul_right _ _ hSp]
  rw [hq]
  have hA : hi * 2 ^ s + lo / 2 ^ (64 - s) < 524288 := by omega
  have hB : lo * 2 ^ s % 18446744073709551616 < 18446744073709551616 := Nat.mod_lt _ (by decide)
  unfold math_bits_Div64
  have h0 : ((n : Int) == 0) = false := by simp; omega
  have h0' : ((hi : Int) == 0) = false := by simp; omega
  rw [ite_f h0, ite_f (dec_f (by omega)), ite_f h0', hlz, Option.bind_some]
  unfold math_bits_Div64_l1 math_bits_Div64_k2 math_bits_Div64_k0 math_bits_Div64_l4 math_bits_Div64_k5 math_bits_Div64_k3
  simp only [EX, EX2, EY, EH, EB, EL, EO, shrQ32]
  revert hA hB hY1 hY2
  generalize hi * 2 ^ s + lo / 2 ^ (64 - s) = A
  generalize lo * 2 ^ s % 18446744073709551616 = B
  generalize n * 2 ^ s = Y
  intro hY1 hY2 hA hB
  simp only [Mul64.maskN Y hY2, Mul64.maskN B hB]
  have hy1 : 2147483648 ≤ Y / 4294967296 := by omega
  have hy2 : Y / 4294967296 < 4294967296 := by omega
  have q1 : IntKind.u64.wrap (Int.tdiv (A : Int) ((Y / 4294967296 : Nat) : Int)) = 0 := by
    rw [show Int.tdiv (A : Int) ((Y / 4294967296 : Nat) : Int) = ((A / (Y / 4294967296) : Nat) : Int) from rfl, Nat.div_eq_of_lt (by omega)]; rfl
  have q2 : IntKind.u64.wrap ((A : Int) - IntKind.u64.wrap (0 * ((Y / 4294967296 : Nat) : Int))) = (A : Int) := by
    rw [Int.zero_mul, show IntKind.u64.wrap 0 = 0 from rfl, Int.sub_zero, Mul64.wrapN _ (by omega)]
  rw [q1, q2]
  rw [gd_pos (by omega), gd_pos (by omega), gd_pos (by omega), gd_pos (by omega), gd_pos (by omega)]
  have hl1 : loopN (fun (s_1 : Int × Int) => Option.bind (if decide (4294967296 ≤ s_1.1) = true then some (Sum.inl ()) else if decide (IntKind.u64.wrap (IntKind.u64.wrap (4294967296 * s_1.2) + ((B / 4294967296 : Nat) : Int)) < IntKind.u64.wrap (s_1.1 * ((Y % 4294967296 : Nat) : Int))) = true then some (Sum.inl ()) else some (Sum.inr (Sum.inr s_1.1))) (Sum.elim (fun (x : Unit) => if decide (4294967296 ≤ IntKind.u64.wrap (s_1.2 + ((Y / 4294967296 : Nat) : Int))) = true then some (Sum.inr (IntKind.u64.wrap (s_1.1 - 1))) else some (Sum.inl (IntKind.u64.wrap (s_1.1 - 1), IntKind.u64.wrap (s_1.2 + ((Y / 4294967296 : Nat) : Int))))) some)) Fu (0, (A : Int)) = some 0 := by
    refine loop_fu (fun n s r => s = (0, (A : Int)) ∧ r = 0) ?_ (n := 0) ⟨rfl, rfl⟩ (by decide)
    rintro n s r ⟨rfl, rfl⟩
    refine .inr ?_
    dsimp only
    rw [ite_f (dec_f (by decide)), Int.zero_mul, show IntKind.u64.wrap 0 = 0 from rfl]
    have : ¬ IntKind.u64.wrap (IntKind.u64.wrap (4294967296 * (A : Int)) + ((B / 4294967296 : Nat) : Int)) < 0 := by
      rw [show (4294967296 : Int) * (A : Int) = ((4294967296 * A : Nat) : Int) from (Int.natCast_mul _ _).symm, Mul64.wrapN _ (by omega), Mul64.addN, Mul64.wrapN _ (by omega)]; omega
    rw [ite_f (dec_f this)]; rfl
  rw [hl1, Option.bind_some]
  simp only [Int.zero_mul, show IntKind.u64.wrap 0 = 0 from rfl, Int.sub_zero]
  obtain ⟨U, hUe⟩ : ∃ U, U = A * 4294967296 + B / 4294967296 := ⟨_, rfl⟩
  have eU : IntKind.u64.wrap (IntKind.u64.wrap (IntKind.u64.wrap ((A : Int) * 4294967296) + ((B / 4294967296 : Nat) : Int))) = (U : Int) := by
    rw [hUe, show (A : Int) * 4294967296 = ((A * 4294967296 : Nat) : Int) from (Int.natCast_mul _ _).symm, Mul64.wrapN _ (by omega), Mul64.addN, Mul64.wrapN _ (by omega), Mul64.wrapN _ (by omega)]
  simp only [eU]
  have hUlt : U < 2251799813685248 * 2 := by omega
  have eQ : A * 18446744073709551616 + B = U * 4294967296 + B % 4294967296 := by omega
  have eY : Y = (Y / 4294967296) * 4294967296 + Y % 4294967296 := by omega
  rw [eQ]
  clear hUe eU eQ
  have hz : B % 4294967296 < 4294967296 := Nat.mod_lt _ (by decide)
  have hy0 : Y % 4294967296 < 4294967296 := Nat.mod_lt _ (by decide)
  have hYp : 0 < Y := by omega
  have hQ : ∀ m, m ≤ (U * 4294967296 + B % 4294967296) / Y ↔ m * ((Y / 4294967296) * 4294967296 + Y % 4294967296) ≤ U * 4294967296 + B % 4294967296 := fun m => by rw [← eY]; exact Nat.le_div_iff_mul_le hYp
  have hq0 : U / (Y / 4294967296) < 4294967296 := by
    rw [Nat.div_lt_iff_lt_mul (by omega)]
    have : 4294967296 * 2147483648 ≤ 4294967296 * (Y / 4294967296) := Nat.mul_le_mul_left _ hy1
    omega
  have hr0 : U % (Y / 4294967296) < 4294967296 := by
    have := Nat.mod_lt U (by omega : 0 < Y / 4294967296)
    omega
  have hU : U / (Y / 4294967296) * (Y / 4294967296) + U % (Y / 4294967296) = U := Nat.div_add_mod' U (Y / 4294967296)
  have hle : (U * 4294967296 + B % 4294967296) / Y ≤ U / (Y / 4294967296) := by
    rw [Nat.le_div_iff_mul_le (by omega)]
    have h := (hQ _).1 (Nat.le_refl _)
    rw [Nat.mul_add, ← Nat.mul_assoc] at h
    omega
  have hdm : U / (Y / 4294967296) * (Y / 4294967296) ≤ U := by omega
  have e1 : IntKind.u64.wrap (Int.tdiv (U : Int) ((Y / 4294967296 : Nat) : Int)) = ((U / (Y / 4294967296) : Nat) : Int) := by
    rw [show Int.tdiv (U : Int) ((Y / 4294967296 : Nat) : Int) = ((U / (Y / 4294967296) : Nat) : Int) from rfl, Mul64.wrapN _ (by omega)]
  have e2 : IntKind.u64.wrap ((U : Int) - IntKind.u64.wrap (((U / (Y / 4294967296) : Nat) : Int) * ((Y / 4294967296 : Nat) : Int))) = ((U % (Y / 4294967296) : Nat) : Int) := by
    rw [Mul64.mulN, Mul64.wrapN _ (by omega), show (U : Int) - ((U / (Y / 4294967296) * (Y / 4294967296) : Nat) : Int) = ((U % (Y / 4294967296) : Nat) : Int) by omega, Mul64.wrapN _ (by omega)]
  rw [e1, e2]
  have hm := fun body => mend body U (Y / 4294967296) (Y % 4294967296) (B % 4294967296) _ (by omega) hy0 hz hQ
  rw [gd_pos (by omega)]
  rw [hm _ ?_ _ hq0 _ hr0 hU hle]
  · rw [Option.bind_some, gd_pos (by omega)]
    have hql : (U * 4294967296 + B % 4294967296) / Y < 18446744073709551616 := by omega
    rw [Int.zero_add, Mul64.wrapN _ hql]
    exact ⟨_, rfl⟩
  · intro r q hq hr hqr
    have hqy : q * (Y % 4294967296) ≤ 4294967295 * 4294967295 := Nat.mul_le_mul (by omega) (by omega)
    dsimp only
    rw [ite_f (dec_f (by omega))]
    rw [show (4294967296 : Int) * (r : Int) = ((4294967296 * r : Nat) : Int) from (Int.natCast_mul _ _).symm, Mul64.wrapN _ (by omega), Mul64.addN, Mul64.wrapN _ (by omega), Mul64.mulN, Mul64.wrapN _ (by omega)]
    by_cases hc : 4294967296 * r + B % 4294967296 < q * (Y % 4294967296)
    · have hq1 : 1 ≤ q := by
        by_cases h : q = 0
        · subst h; simp at hc
        · omega
      rw [ite_t (dec_t (by omega)), if_pos hc]
      simp only [Option.bind_some, Sum.elim_inl]
      rw [Mul64.addN, Mul64.wrapN (r + Y / 4294967296) (by omega), show (q : Int) - 1 = ((q - 1 : Nat) : Int) by omega, Mul64.wrapN (q - 1) (by omega)]
      by_cases hb : 4294967296 ≤ r + Y / 4294967296
      · rw [ite_t (dec_t (by omega)), if_pos hb]
      · rw [ite_f (dec_f (by omega)), if_neg hb]
    · rw [ite_f (dec_f (by omega)), if_neg hc]
      rfl
end Go.Proofs.Ytmhbopjjkgjbnaa.Ab
