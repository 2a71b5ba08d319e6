/- Quantiles, told plainly: the program. -/
import Derived.Test.YtoecalgfdphghaaXQ1
import Derived.Test.YtoecalgfdphghaaPKit
import Derived.Shelf.Bits.Mul64
namespace Go.Proofs.Ytoecalgfdphghaa.Ab
open Go Go.RowKit
set_option linter.unusedVariables false
set_option linter.unusedSimpArgs false
theorem ksuccQ {k : Nat} (h : k < 1099511627776) : IntKind.i64.wrap ((k : Int) + 1) = ((k + 1 : Nat) : Int) := by
 rw [w64 (by omega) (by omega)]; push_cast; rfl
def cl (a : Int) : Int := if a > 0 then a else 0
def satp (a b : Int) : Int := if 9223372036854775807 < cl a + cl b then 9223372036854775807 else cl a + cl b
def I63 (a : Int) : Prop := -9223372036854775808 ≤ a ∧ a ≤ 9223372036854775807
def N63 (a : Int) : Prop := 0 ≤ a ∧ a ≤ 9223372036854775807
theorem cl_n {a : Int} (h : I63 a) : N63 (cl a) := by
 have h1 := h.1; have h2 := h.2
 unfold cl N63; split <;> omega
theorem cl_id {a : Int} (h : 0 ≤ a) : cl a = a := by unfold cl; split <;> omega
theorem cl_neg {a : Int} (h : a ≤ 0) : cl a = 0 := by unfold cl; split <;> omega
theorem satp_n {a b : Int} (ha : I63 a) (hb : I63 b) : N63 (satp a b) := by
 have h1 := (cl_n ha).1; have h2 := (cl_n hb).1
 unfold satp N63; split <;> omega
theorem N63.i {a : Int} (h : N63 a) : I63 a := ⟨by have := h.1; omega, h.2⟩
theorem satp_id {n x : Int} (hn : N63 n) (hx : x ≤ 0) : satp n x = n := by
 have h1 := hn.1; have h2 := hn.2
 unfold satp; rw [cl_id h1, cl_neg hx, if_neg (by omega)]; omega
theorem satp_add {n x : Int} (hn : 0 ≤ n) (hx : 0 ≤ x) (h : n + x ≤ 9223372036854775807) : satp n x = n + x := by
 unfold satp; rw [cl_id hn, cl_id hx, if_neg (by omega)]
theorem plus_spec {a b : Int} (ha : I63 a) (hb : I63 b) : quant_plus a b = some (satp a b) := by
 have e1 : ∀ x : Int, I63 x → (if (if (9223372036854775807 : Int) < x then 9223372036854775807 else x) > 0 then (if (9223372036854775807 : Int) < x then 9223372036854775807 else x) else 0) = cl x := fun x hx => by
  have h := hx.2
  have e : (if (9223372036854775807 : Int) < x then 9223372036854775807 else x) = x := if_neg (by omega)
  rw [e]; rfl
 have h1 := (cl_n ha); have h2 := (cl_n hb)
 unfold quant_plus bucket_Plus
 simp only [show (9223372036854775807 : Int) > 0 from by decide, if_true, e1 a ha, e1 b hb, Option.bind_some]
 have h1a := h1.1; have h1b := h1.2; have h2a := h2.1; have h2b := h2.2
 rw [w64 (n := 9223372036854775807 - cl a) (by omega) (by omega)]
 unfold satp
 split
 ·rw [if_pos (by omega), w64 (by omega) (by omega)]; congr 1; omega
 ·rw [if_neg (by omega), w64 (by omega) (by omega)]
def tot (l : List Int) : Int := l.foldl satp 0
theorem fold_n : ∀ (l : List Int) (n : Int), N63 n → (∀ x ∈ l, I63 x) → N63 (l.foldl satp n)
 | [], n, h, _ => h
 | x :: r, n, h, hl => fold_n r _ (satp_n h.i (hl x (List.mem_cons_self ..))) (fun y hy => hl y (List.mem_cons_of_mem _ hy))
theorem n0 : N63 0 := ⟨Int.le_refl _, by decide⟩
theorem tot_n {l : List Int} (hl : ∀ x ∈ l, I63 x) : N63 (tot l) := fold_n l 0 n0 hl
theorem tot_loop (body : Int × Int → Option ((Int × Int) ⊕ Int)) (l : List Int) (hl : l.length ≤ 1000000) (hi : ∀ x ∈ l, I63 x)
  (step : ∀ b k (hk : k < l.length), N63 b → body (b, (k : Int)) = some (.inl (satp b l[k], ((k + 1 : Nat) : Int)))) (last : ∀ b, body (b, (l.length : Int)) = some (.inr b)) : loopN body Fu (0, 0) = some (tot l) := by
 refine loop_list (l := l) (fun k r s => s = (tot (l.take k), (k : Int)) ∧ r = tot l) (by omega) ?_ ?_ ⟨rfl, rfl⟩
 ·rintro k hk r s ⟨rfl, rfl⟩
  refine .inl ⟨_, step _ k hk (tot_n fun x hx => hi x (List.mem_of_mem_take hx)), ?_, rfl⟩
  rw [tot, tot, List.take_succ_eq_append_getElem hk, List.foldl_append]; rfl
 ·rintro r s ⟨rfl, rfl⟩
  rw [last, List.take_length]
def vL (c : Counter) : List Int := [c.By.c0, c.By.c1, c.By.c2, c.By.c3, c.By.c4, c.By.c5, c.By.c6, c.By.c7]
theorem total_spec (c : Counter) (h : ∀ x ∈ vL c, I63 x) : quant_Total c = some (tot (vL c)) := by
 refine tot_loop _ (vL c) (by simp [vL]) h (fun b k hk hb => ?_) (fun b => ?_)
 ·have hk8 : k < 8 := hk
  have hp : quant_plus b (vL c)[k] = some (satp b (vL c)[k]) := plus_spec hb.i (h _ (List.getElem_mem hk))
  have hx : [c.By.c0, c.By.c1, c.By.c2, c.By.c3, c.By.c4, c.By.c5, c.By.c6, c.By.c7][k]? = some (vL c)[k] := List.getElem?_eq_getElem hk
  simp only [quant_Total_l0, dec_t (by omega : (k : Int) < 8), if_true, gd_pos (by omega : (0 : Int) ≤ (k : Int)), gd_pos (by omega : (k : Int) < 8), Int.toNat_natCast, hx, Option.bind_some, hp, ksuccQ (by omega : k < 1099511627776)]
  rfl
 ·rfl
def qIdx (c : Int → Bool) : List Int → Int → Option Nat
 | [], _ => none
 | x :: r, n => if c (satp n x) = true then some 0 else (qIdx c r (satp n x)).map (· + 1)
def low8 : List Int := [0, 1, 5, 10, 50, 100, 500, 1000]
def resQ (k : Nat) : Option Nat → Int × Bool
 | some j => (low8.getD (k + j) 0, true)
 | none => (0, false)
theorem q_loop (body : Int × Int → Option ((Int × Int) ⊕ (Int × Bool))) (c : Int → Bool) (l : List Int) (hl : l.length = 8) (hi : ∀ x ∈ l, I63 x)
  (step : ∀ b k (hk : k < l.length), N63 b → body (b, (k : Int)) = if c (satp b l[k]) = true then some (.inr (low8.getD k 0, true)) else some (.inl (satp b l[k], ((k + 1 : Nat) : Int)))) (last : ∀ b, body (b, 8) = some (.inr (0, false))) : loopN body Fu (0, 0) = some (resQ 0 (qIdx c l 0)) := by
 refine loop_list (l := l) (fun k r s => s = (tot (l.take k), (k : Int)) ∧ r = resQ k (qIdx c (l.drop k) (tot (l.take k)))) (by omega) ?_ ?_ ⟨rfl, rfl⟩
 ·rintro k hk r s ⟨rfl, rfl⟩
  have hn : N63 (tot (l.take k)) := tot_n fun x hx => hi x (List.mem_of_mem_take hx)
  have ht : tot (l.take (k + 1)) = satp (tot (l.take k)) l[k] := by rw [tot, tot, List.take_succ_eq_append_getElem hk, List.foldl_append]; rfl
  rw [step _ k hk hn, List.drop_eq_getElem_cons hk, qIdx]
  by_cases hc : c (satp (tot (l.take k)) l[k]) = true
  ·rw [if_pos hc, if_pos hc]; exact .inr rfl
  ·rw [if_neg hc, if_neg hc]
   refine .inl ⟨_, rfl, ?_, ?_⟩
   ·rw [ht]
   ·rw [ht]
    cases qIdx c (l.drop (k + 1)) (satp (tot (l.take k)) l[k]) with
    | none => rfl
    | some j => simp only [Option.map_some, resQ]; rw [show k + (j + 1) = k + 1 + j by omega]
 ·rintro r s ⟨rfl, rfl⟩
  have := last (tot (l.take l.length))
  rw [List.drop_of_length_le (by omega), hl] at *
  exact this
theorem qIdx_congr {c d : Int → Bool} (h : ∀ n, N63 n → c n = d n) : ∀ (l : List Int) (n : Int), N63 n → (∀ x ∈ l, I63 x) → qIdx c l n = qIdx d l n
 | [], _, _, _ => rfl
 | x :: r, n, hn, hl => by
  have hs := satp_n hn.i (hl x (List.mem_cons_self ..))
  rw [qIdx, qIdx, h _ hs, qIdx_congr h r _ hs (fun y hy => hl y (List.mem_cons_of_mem _ hy))]
theorem shrQ32 (n : Nat) : Int.fdiv (n : Int) (2 ^ (min (Int.toNat 32) (IntKind.bits .u64))) = ((n / 4294967296 : Nat) : Int) := shr_nat n 32 (by decide)
theorem mul64_spec (x y : Nat) (hx : x < 18446744073709551616) (hy : y < 18446744073709551616) : math_bits_Mul64 (x : Int) (y : Int) = some (((x * y / 18446744073709551616 : Nat) : Int), ((x * y % 18446744073709551616 : Nat) : Int)) := by
 obtain ⟨bd, bt, bw, hhi⟩ := Lib.mul64_hi x y hx hy
 have ba := Lib.half_mul_le (a := x / 4294967296) (b := y / 4294967296) (by omega) (by omega)
 have bb := Lib.half_mul_le (a := x / 4294967296) (b := y % 4294967296) (by omega) (by omega)
 have bc := Lib.half_mul_le (a := x % 4294967296) (b := y / 4294967296) (by omega) (by omega)
 have ba' : x / 4294967296 * (y / 4294967296) < 18446744073709551616 := by omega
 have bb' : x / 4294967296 * (y % 4294967296) < 18446744073709551616 := by omega
 have bc' : x % 4294967296 * (y / 4294967296) < 18446744073709551616 := by omega
 have bh1 : x / 4294967296 * (y / 4294967296) + (x / 4294967296 * (y % 4294967296) + x % 4294967296 * (y % 4294967296) / 4294967296) / 4294967296 < 18446744073709551616 := by omega
 have bh : x / 4294967296 * (y / 4294967296) + (x / 4294967296 * (y % 4294967296) + x % 4294967296 * (y % 4294967296) / 4294967296) / 4294967296 + ((x / 4294967296 * (y % 4294967296) + x % 4294967296 * (y % 4294967296) / 4294967296) % 4294967296 + x % 4294967296 * (y / 4294967296)) / 4294967296 < 18446744073709551616 := by omega
 unfold math_bits_Mul64
 simp only [shrQ32, Mul64.maskN x hx, Mul64.maskN y hy, Mul64.mulN, Mul64.addN, Mul64.wrapN _ bd, Mul64.wrapN _ bb', Mul64.wrapN _ bt, Mul64.maskN _ bt, Mul64.wrapN _ bc', Mul64.wrapN _ bw, Mul64.wrapN _ ba', Mul64.wrapN _ bh1, Mul64.wrapN _ bh, Mul64.wrapM (x * y)]
 rw [hhi]
theorem less_spec {a b c d : Nat} (ha : a < 9223372036854775808) (hb : b < 9223372036854775808) (hc : c < 9223372036854775808) (hd : d < 9223372036854775808) : quant_less (a : Int) (b : Int) (c : Int) (d : Int) = some (decide (a * b < c * d)) := by
 unfold quant_less
 rw [wu64 (by omega) (by omega), wu64 (by omega) (by omega), wu64 (by omega) (by omega), wu64 (by omega) (by omega), mul64_spec a b (by omega) (by omega), mul64_spec c d (by omega) (by omega)]
 simp only [Option.bind_some]
 generalize a * b = m
 generalize c * d = n
 by_cases h1 : m / 18446744073709551616 < n / 18446744073709551616
 ·rw [ite_t (dec_t (by omega)), dec_t (by omega)]
 ·rw [ite_f (dec_f (by omega))]
  by_cases h2 : m / 18446744073709551616 = n / 18446744073709551616
  ·rw [if_pos (by rw [h2]; simp)]
   by_cases h3 : m % 18446744073709551616 < n % 18446744073709551616
   ·rw [dec_t (by omega), dec_t (by omega)]
   ·rw [dec_f (by omega), dec_f (by omega)]
  ·rw [if_neg (by simp; omega), dec_f (by omega)]
def enough (p T n : Int) : Bool := decide (0 < n) && decide (p * T ≤ n * 1000)
theorem lessI {n p T : Int} (hn : N63 n) (hp : 0 ≤ p ∧ p ≤ 1000) (hT : N63 T) : quant_less n 1000 p T = some (decide (n * 1000 < p * T)) := by
 obtain ⟨a, rfl⟩ := Int.eq_ofNat_of_zero_le hn.1
 obtain ⟨b, rfl⟩ := Int.eq_ofNat_of_zero_le hp.1
 obtain ⟨c, rfl⟩ := Int.eq_ofNat_of_zero_le hT.1
 have h1 := hn.2; have h2 := hp.2; have h3 := hT.2
 have h := less_spec (a := a) (b := 1000) (c := b) (d := c) (by omega) (by omega) (by omega) (by omega)
 rw [show ((1000 : Nat) : Int) = 1000 from rfl] at h
 rw [h]
 congr 1
 have e1 : (a : Int) * 1000 = ((a * 1000 : Nat) : Int) := (Int.natCast_mul a 1000).symm
 have e2 : (b : Int) * (c : Int) = ((b * c : Nat) : Int) := (Int.natCast_mul b c).symm
 rw [e1, e2]
 exact decide_eq_decide.2 (by omega)
def qSpec (l : List Int) (p : Int) : Int × Bool := if tot l = 0 ∨ p < 0 ∨ 1000 < p then (0, false) else resQ 0 (qIdx (enough p (tot l)) l 0)
theorem quantile_spec (c : Counter) (p : Int) (h : ∀ x ∈ vL c, I63 x) : quant_Quantile c p = some (qSpec (vL c) p) := by
 unfold quant_Quantile qSpec
 rw [total_spec c h, Option.bind_some]
 have hT := tot_n h
 by_cases h1 : tot (vL c) = 0
 ·simp [h1]
 by_cases h2 : p < 0
 ·simp [h1, h2]
 by_cases h3 : 1000 < p
 ·simp [h1, h2, h3]
 simp only [h1, h2, h3, beq_iff_eq, decide_false, Bool.false_eq_true, if_false, Option.bind_some, Sum.elim_inl, quant_Quantile_k0, or_self]
 refine q_loop _ _ (vL c) (by simp [vL]) h (fun b k hk hb => ?_) (fun b => rfl)
 have hk8 : k < 8 := hk
 have hp : quant_plus b (vL c)[k] = some (satp b (vL c)[k]) := plus_spec hb.i (h _ (List.getElem_mem hk))
 have hl : quant_less (satp b (vL c)[k]) 1000 p (tot (vL c)) = some (decide (satp b (vL c)[k] * 1000 < p * tot (vL c))) := lessI (satp_n hb.i (h _ (List.getElem_mem hk))) ⟨by omega, by omega⟩ hT
 have hs := satp_n hb.i (h _ (List.getElem_mem hk))
 have hx : [c.By.c0, c.By.c1, c.By.c2, c.By.c3, c.By.c4, c.By.c5, c.By.c6, c.By.c7][k]? = some (vL c)[k] := List.getElem?_eq_getElem hk
 have hlow : ([0, 1, 5, 10, 50, 100, 500, 1000] : List Int)[k]? = some (low8.getD k 0) := by
  have : k < low8.length := hk8
  rw [show ([0, 1, 5, 10, 50, 100, 500, 1000] : List Int) = low8 from rfl, List.getD_eq_getElem?_getD, List.getElem?_eq_getElem this]; rfl
 have hlen : (k : Int) < ((List.length ([0, 1, 5, 10, 50, 100, 500, 1000] : List Int) : Nat) : Int) := by
  show (k : Int) < 8
  omega
 simp only [quant_Quantile_l1, dec_t hlen, if_true, gd_pos (by omega : (0 : Int) ≤ (k : Int)), gd_pos (by omega : (k : Int) < 8), Int.toNat_natCast, hx, hlow, Option.bind_some, hp, ksuccQ (by omega : k < 1099511627776), hl, enough]
 have hk9 : (k : Int) < 8 := by omega
 generalize satp b (vL c)[k] = n
 by_cases q1 : 0 < n
 ·by_cases q2 : n * 1000 < p * tot (vL c)
  ·have q3 : ¬ p * tot (vL c) ≤ n * 1000 := by omega
   simp [q1, q2, q3, hk9]
  ·have q3 : p * tot (vL c) ≤ n * 1000 := by omega
   simp [q1, q2, q3, hk9]
 ·simp [q1, hk9]
theorem div_small (a b : Nat) (hb : b < 18446744073709551616) (ha : a < 18446744073709551616) (h : 0 < b) : math_bits_Div64 0 (a : Int) (b : Int) = some (((a / b : Nat) : Int), ((a % b : Nat) : Int)) := by
 unfold math_bits_Div64
 have h1 : ((b : Int) == 0) = false := by simp; omega
 rw [ite_f h1, ite_f (dec_f (by omega)), if_pos (by rfl), gd_pos (by omega), gd_pos (by omega)]
 have e1 : Int.tdiv (a : Int) (b : Int) = ((a / b : Nat) : Int) := rfl
 have e2 : Int.tmod (a : Int) (b : Int) = ((a % b : Nat) : Int) := rfl
 rw [e1, e2, wu64 (Int.natCast_nonneg _) (Int.ofNat_lt.2 (Nat.lt_of_le_of_lt (Nat.div_le_self a b) ha))]
theorem alive31 : gleaninglaw31_alive = some true := by
 have v1 : ∀ x ∈ vL (Counter.mk 0 0 (Arr8_Int.mk 0 0 0 0 0 0 0 0)), I63 x := by intro x hx; simp [vL] at hx; unfold I63; omega
 have v2 : ∀ x ∈ vL (Counter.mk 0 0 (Arr8_Int.mk 0 1 0 0 1 0 0 0)), I63 x := by intro x hx; simp [vL] at hx; unfold I63; omega
 have v3 : ∀ x ∈ vL (Counter.mk 0 0 (Arr8_Int.mk 0 2 0 0 0 0 0 0)), I63 x := by intro x hx; simp [vL] at hx; unfold I63; omega
 have hr : quant_Rate (Counter.mk 4 1 (Arr8_Int.mk 0 0 0 0 0 0 0 0)) = some (250, true) := by
  have hm := mul64_spec 1 1000 (by decide) (by decide)
  have hd := div_small 1000 4 (by decide) (by decide) (by decide)
  unfold quant_Rate
  rw [if_neg (by decide), if_neg (by decide), show IntKind.u64.wrap (if (1 : Int) > 0 then 1 else 0) = ((1 : Nat) : Int) by decide, show (1000 : Int) = ((1000 : Nat) : Int) from rfl, hm, Option.bind_some, show IntKind.u64.wrap (if (4 : Int) > 0 then 4 else 0) = ((4 : Nat) : Int) by decide]
  rw [show (((1 * 1000 / 18446744073709551616 : Nat) : Int)) = 0 from rfl, show (((1 * 1000 % 18446744073709551616 : Nat) : Int)) = ((1000 : Nat) : Int) from rfl, hd]
  rfl
 unfold gleaninglaw31_alive
 rw [quantile_spec _ _ v1, quantile_spec _ _ v2, hr, total_spec _ v3]
 decide
end Go.Proofs.Ytoecalgfdphghaa.Ab
