/- What writes and reads numbers and texts, one behind the other, told plainly. -/
import Derived.Test.YtbaibpjffcahiaaGreatXRW
import Derived.Test.YtbaibpjffcahiaaGreatPKit
namespace Go.Proofs.YtbaibpjffcahiaaGreat.Ab
open Go Go.RowKit
set_option linter.unusedVariables false
set_option linter.unusedSimpArgs false
def putN (n : Nat) : List UInt8 := if n < 128 then [UInt8.ofNat n] else UInt8.ofNat (n % 128 + 128) :: putN (n / 128)
theorem putN_lt {n : Nat} (h : n < 128) : putN n = [UInt8.ofNat n] := by rw [putN, if_pos h]
theorem putN_ge {n : Nat} (h : ¬ n < 128) : putN n = UInt8.ofNat (n % 128 + 128) :: putN (n / 128) := by rw [putN, if_neg h]
theorem putN_pos (n : Nat) : 0 < (putN n).length := by rw [putN]; split <;> simp
theorem putN_len : ∀ (k n : Nat), n < 2 ^ (7 * (k + 1)) → (putN n).length ≤ k + 1
 | 0, n, h => by rw [putN_lt (by simpa using h)]; simp
 | k + 1, n, h => by
  by_cases h1 : n < 128
  ·rw [putN_lt h1]; simp
  ·rw [putN_ge h1]
   have := putN_len k (n / 128) (by rw [Nat.div_lt_iff_lt_mul (by decide), show 7 * (k + 1 + 1) = 7 * (k + 1) + 7 by omega, Nat.pow_add] at *; exact h)
   simp only [List.length_cons]; omega
theorem putN_len10 {n : Nat} (h : n < 18446744073709551616) : (putN n).length ≤ 10 := putN_len 9 n (by omega)
def getA : Nat → List UInt8 → Option (Nat × Nat)
 | _, [] => none
 | i, c :: r => if 10 ≤ i then none else if 128 ≤ c.toNat then (getA (i + 1) r).map fun p => (c.toNat % 128 + 128 * p.1, p.2 + 1)
  else if (i = 9 ∧ 1 < c.toNat) ∨ (c.toNat = 0 ∧ 0 < i) then none else some (c.toNat, 1)
def getR (o : Option (Nat × Nat)) : Int × Int × Bool := match o with | none => (0, 0, false) | some (n, k) => ((n : Int), (k : Int), true)
def getN (l : List UInt8) : Option (Nat × Nat) := getA 0 l
theorem u8_or128 (n : Nat) : u8 (bits .or .u8 ((u8 (IntKind.u8.wrap (n : Int))).toNat : Int) 128) = UInt8.ofNat (n % 128 + 128) := by
 rw [u8_wrap_nat]
 have h : ∀ m : Fin 256, u8 (bits .or .u8 ((UInt8.ofNat m.val).toNat : Int) 128) = UInt8.ofNat (m.val % 128 + 128) := by decide +kernel
 have := h ⟨n % 256, Nat.mod_lt _ (by decide)⟩
 dsimp only at this
 rw [Nat.mod_mod_of_dvd n (by decide : 128 ∣ 256)] at this
 rw [← this]
 congr 4
 apply UInt8.toNat_inj.1
 simp
theorem u8_not128 (c : UInt8) : ((u8 (bits .andNot .u8 (c.toNat : Int) 128)).toNat : Int) = ((c.toNat % 128 : Nat) : Int) :=
 all_u8 (p := fun c => ((u8 (bits .andNot .u8 (c.toNat : Int) 128)).toNat : Int) = ((c.toNat % 128 : Nat) : Int)) (by decide +kernel) c
theorem fitg {l : List UInt8} (h : l.length ≤ 1099511627776) : l.length * 1 ≤ 140737488355328 ∧ l.length ≤ 140737488355328 := by omega
theorem or_group {acc c i : Nat} (ha : acc < 2 ^ (7 * i)) (hi : i ≤ 9) (hc : c < 128) (h9 : i = 9 → c ≤ 1) :
  bits .or .u64 (acc : Int) (IntKind.u64.wrap ((c : Int) * 2 ^ (min (7 * i) (IntKind.bits .u64)))) = ((acc + c * 2 ^ (7 * i) : Nat) : Int) ∧ acc + c * 2 ^ (7 * i) < 2 ^ (7 * (i + 1)) ∧ acc + c * 2 ^ (7 * i) < 18446744073709551616 := by
 have e : min (7 * i) (IntKind.bits .u64) = 7 * i := by simp [IntKind.bits]; omega
 have h1 : c * 2 ^ (7 * i) < 18446744073709551616 := by
  by_cases e9 : i = 9
  ·subst e9; have := h9 rfl; omega
  ·have : 2 ^ (7 * i) ≤ 2 ^ 56 := Nat.pow_le_pow_right (by decide) (by omega)
   have : c * 2 ^ (7 * i) ≤ 127 * 2 ^ 56 := Nat.mul_le_mul (by omega) this
   omega
 have h2 : acc < 18446744073709551616 := Nat.lt_of_lt_of_le ha (Nat.le_trans (Nat.pow_le_pow_right (by decide) (by omega : 7 * i ≤ 63)) (by decide))
 have hor : acc ||| c * 2 ^ (7 * i) = acc + c * 2 ^ (7 * i) := by
  rw [Nat.or_comm, Nat.mul_comm c, ← Nat.two_pow_add_eq_or_of_lt ha, Nat.add_comm]
 have h3 : acc + c * 2 ^ (7 * i) < 2 ^ (7 * (i + 1)) := by
  rw [show 7 * (i + 1) = 7 + 7 * i by omega, Nat.pow_add]
  have : c * 2 ^ (7 * i) + 2 ^ (7 * i) ≤ 2 ^ 7 * 2 ^ (7 * i) := by rw [← Nat.succ_mul]; exact Nat.mul_le_mul_right _ (by omega)
  omega
 refine ⟨?_, h3, ?_⟩
 ·rw [e, show ((c : Int) * 2 ^ (7 * i)) = ((c * 2 ^ (7 * i) : Nat) : Int) by push_cast; rfl, wrap_u64 _ h1, bits_or_u64 _ _ h2 h1, hor]
 ·rw [← hor]; exact Nat.or_lt_two_pow (n := 64) h2 h1
def getI (i acc : Nat) (l : List UInt8) : Int × Int × Bool := match getA i l with | none => (0, 0, false) | some (n, k) => (((acc + n * 2 ^ (7 * i) : Nat) : Int), ((i + k : Nat) : Int), true)
theorem getI_more {i acc : Nat} {c : UInt8} {r : List UInt8} (hi : i < 10) (hc : 128 ≤ c.toNat) : getI i acc (c :: r) = getI (i + 1) (acc + c.toNat % 128 * 2 ^ (7 * i)) r := by
 simp only [getI, getA, if_neg (by omega : ¬ 10 ≤ i), if_pos hc]
 cases getA (i + 1) r with
 | none => rfl
 | some p =>
  obtain ⟨n, k⟩ := p
  simp only [Option.map_some]
  have e1 : acc + (c.toNat % 128 + 128 * n) * 2 ^ (7 * i) = acc + c.toNat % 128 * 2 ^ (7 * i) + n * 2 ^ (7 * (i + 1)) := by
   rw [show 7 * (i + 1) = 7 + 7 * i by omega, Nat.pow_add, Nat.add_mul, show 128 * n * 2 ^ (7 * i) = n * (2 ^ 7 * 2 ^ (7 * i)) by rw [Nat.mul_comm 128 n, Nat.mul_assoc], Nat.add_assoc]
  rw [e1, show i + (k + 1) = i + 1 + k by omega]
theorem get_of {body : Int × Int → Option ((Int × Int) ⊕ (Int × Int × Bool))} (l : List UInt8)
  (hend : ∀ (acc i : Nat), (l.length ≤ i ∨ 10 ≤ i) → body ((acc : Int), (i : Int)) = some (.inr (0, 0, false)))
  (hmore : ∀ (acc i : Nat) (c : UInt8) (r : List UInt8), acc < 2 ^ (7 * i) → i < 9 → i < l.length → l[i]? = some c → l.drop i = c :: r → 128 ≤ c.toNat → body ((acc : Int), (i : Int)) = some (.inl (((acc + c.toNat % 128 * 2 ^ (7 * i) : Nat) : Int), ((i + 1 : Nat) : Int))))
  (hmore9 : ∀ (acc : Nat) (c : UInt8), acc < 2 ^ 63 → l[9]? = some c → 128 ≤ c.toNat → body ((acc : Int), ((9 : Nat) : Int)) = some (.inr (0, 0, false)) ∨ ∃ a' : Nat, a' < 2 ^ 70 ∧ body ((acc : Int), ((9 : Nat) : Int)) = some (.inl ((a' : Int), ((10 : Nat) : Int))))
  (hlast : ∀ (acc i : Nat) (c : UInt8) (r : List UInt8), acc < 2 ^ (7 * i) → i < 10 → i < l.length → l[i]? = some c → l.drop i = c :: r → c.toNat < 128 → body ((acc : Int), (i : Int)) = some (.inr (getI i acc (c :: r)))) : loopN body Fu (0, 0) = some (getR (getN l)) := by
 have hg : getR (getN l) = getI 0 0 (l.drop 0) := by
  simp only [List.drop_zero, getR, getN, getI]
  cases getA 0 l with
  | none => rfl
  | some p => obtain ⟨n, k⟩ := p; simp
 rw [hg]
 refine loop_fu (fun m s r => ∃ (acc i : Nat), s = ((acc : Int), (i : Int)) ∧ m = 11 - i ∧ i ≤ 10 ∧ acc < 2 ^ (7 * i) ∧ r = getI i acc (l.drop i)) ?_ ⟨0, 0, rfl, rfl, by omega, by simp, rfl⟩ (by omega)
 rintro m s r ⟨acc, i, rfl, rfl, hi, ha, rfl⟩
 by_cases h1 : l.length ≤ i ∨ 10 ≤ i
 ·refine .inr ((hend acc i h1).trans ?_)
  have : getA i (l.drop i) = none := by
   cases hd : l.drop i with
   | nil => rfl
   | cons c r =>
    have : i < l.length := by have := congrArg List.length hd; simp at this; omega
    simp [getA, show 10 ≤ i by omega]
  simp [getI, this]
 ·have hlt : i < l.length := by omega
  have hdr : l.drop i = l[i] :: l.drop (i + 1) := List.drop_eq_getElem_cons hlt
  have hget : l[i]? = some l[i] := List.getElem?_eq_getElem hlt
  by_cases hc : 128 ≤ l[i].toNat
  ·by_cases h9 : i = 9
   ·subst h9
    have n9 : getA 9 (l.drop 9) = none := by
     rw [hdr]
     simp only [getA, if_pos hc]
     cases hd : l.drop 10 with
     | nil => rfl
     | cons d r => simp [getA]
    have n10 : getA 10 (l.drop 10) = none := by
     cases hd : l.drop 10 with
     | nil => rfl
     | cons d r => simp [getA]
    rcases hmore9 acc _ ha hget hc with h | ⟨a', h1, h2⟩
    ·exact .inr (h.trans (by simp [getI, n9]))
    ·exact .inl ⟨_, 1, h2, by omega, a', 10, rfl, rfl, by omega, by omega, by simp [getI, n9, n10]⟩
   ·refine .inl ⟨_, 11 - (i + 1), hmore acc i _ _ ha (by omega) hlt hget hdr hc, by omega, acc + l[i].toNat % 128 * 2 ^ (7 * i), i + 1, rfl, rfl, by omega, (or_group ha (by omega) (Nat.mod_lt _ (by decide)) (by omega)).2.1, ?_⟩
    rw [hdr, getI_more (by omega) hc]
  ·refine .inr ((hlast acc i _ _ ha (by omega) hlt hget hdr (by omega)).trans ?_)
   rw [hdr]
theorem shift_nat {i : Nat} (h : i < 10) : IntKind.i64.wrap (7 * (i : Int)) = ((7 * i : Nat) : Int) ∧ IntKind.u64.wrap ((7 * i : Nat) : Int) = ((7 * i : Nat) : Int) ∧ IntKind.i64.wrap ((i : Int) + 1) = ((i + 1 : Nat) : Int) := by
 refine ⟨?_, wrap_u64 _ (by omega), ?_⟩
 ·rw [w64 (by omega) (by omega)]; push_cast; rfl
 ·rw [w64 (by omega) (by omega)]; push_cast; rfl
theorem getI_last {i acc : Nat} {c : UInt8} {r : List UInt8} (hi : i < 10) (hc : c.toNat < 128) : getI i acc (c :: r) = if (i = 9 ∧ 1 < c.toNat) ∨ (c.toNat = 0 ∧ 0 < i) then (0, 0, false) else (((acc + c.toNat * 2 ^ (7 * i) : Nat) : Int), ((i + 1 : Nat) : Int), true) := by
 simp only [getI, getA, if_neg (by omega : ¬ 10 ≤ i), if_neg (by omega : ¬ 128 ≤ c.toNat)]
 by_cases h : (i = 9 ∧ 1 < c.toNat) ∨ (c.toNat = 0 ∧ 0 < i)
 ·simp only [if_pos h]
 ·simp only [if_neg h]
theorem wrap_c {n : Nat} (h : n < 128) : IntKind.u64.wrap (n : Int) = (n : Int) := wrap_u64 _ (by omega)
theorem get_spec (l : List UInt8) (hl : l.length ≤ 9223372036854775807) : ints_Get l = some (getR (getN l)) := by
 refine get_of l ?_ ?_ ?_ ?_
 ·intro acc i h
  rcases h with h | h
  ·simp only [ints_Get_l0, dec_f (by omega : ¬ ((i : Int) < (l.length : Int))), Bool.false_eq_true, if_false, Option.bind_some, Sum.elim_inr]
  ·by_cases h2 : (i : Int) < (l.length : Int)
   ·simp only [ints_Get_l0, dec_t h2, if_true, dec_f (by omega : ¬ ((i : Int) < 10)), Bool.false_eq_true, if_false, Option.bind_some, Sum.elim_inr]
   ·simp only [ints_Get_l0, dec_f h2, Bool.false_eq_true, if_false, Option.bind_some, Sum.elim_inr]
 ·intro acc i c r ha hi hlt hget hdr hc
  obtain ⟨s1, s2, s3⟩ := shift_nat (by omega : i < 10)
  have hm : c.toNat % 128 < 128 := Nat.mod_lt _ (by decide)
  have hw := wrap_c hm
  have ho := (or_group ha (by omega) hm (by omega)).1
  have e : ((i : Int) == 9) = false := by simp only [beq_eq_false_iff_ne]; omega
  have z : (((c.toNat : Nat) : Int) == 0) = false := by simp only [beq_eq_false_iff_ne]; omega
  simp only [ints_Get_l0, dec_t (by omega : (i : Int) < (l.length : Int)), if_true, dec_t (by omega : (i : Int) < 10), Option.bind_some, Sum.elim_inl, ints_Get_k1, gd_pos (by omega : (0 : Int) ≤ (i : Int)), Int.toNat_natCast, hget, u8_not128, hw, e, Bool.false_eq_true, if_false,
   ints_Get_k2, s1, gd_pos (by omega : ¬ ((7 * i : Nat) : Int) < 0), z, ints_Get_k3, dec_f (by omega : ¬ ((c.toNat : Int) < 128)), ho, s3]
 ·intro acc c ha hget hc
  obtain ⟨s1, s2, s3⟩ := shift_nat (by omega : 9 < 10)
  have hm : c.toNat % 128 < 128 := Nat.mod_lt _ (by decide)
  have hw := wrap_c hm
  have hlt : 9 < l.length := (List.getElem?_eq_some_iff.1 hget).1
  have e9 : (((9 : Nat) : Int) == 9) = true := rfl
  by_cases h9 : 1 < c.toNat % 128
  ·refine .inl ?_
   simp only [ints_Get_l0, dec_t (by omega : ((9 : Nat) : Int) < (l.length : Int)), if_true, dec_t (by omega : ((9 : Nat) : Int) < 10), Option.bind_some, Sum.elim_inl, ints_Get_k1, gd_pos (by omega : (0 : Int) ≤ ((9 : Nat) : Int)), Int.toNat_natCast, hget, u8_not128, hw, e9, dec_t (by omega : (1 : Int) < ((c.toNat % 128 : Nat) : Int))]
   rfl
  ·have ho := or_group ha (by omega : 9 ≤ 9) hm (by omega)
   refine .inr ⟨_, ho.2.1, ?_⟩
   have z : (((c.toNat : Nat) : Int) == 0) = false := by simp only [beq_eq_false_iff_ne]; omega
   simp only [ints_Get_l0, dec_t (by omega : ((9 : Nat) : Int) < (l.length : Int)), if_true, dec_t (by omega : ((9 : Nat) : Int) < 10), Option.bind_some, Sum.elim_inl, ints_Get_k1, gd_pos (by omega : (0 : Int) ≤ ((9 : Nat) : Int)), Int.toNat_natCast, hget, u8_not128, hw, e9, dec_f (by omega : ¬ (1 : Int) < ((c.toNat % 128 : Nat) : Int)), Bool.false_eq_true, if_false,
    ints_Get_k2, s1, gd_pos (by omega : ¬ ((7 * 9 : Nat) : Int) < 0), z, ints_Get_k3, dec_f (by omega : ¬ ((c.toNat : Int) < 128)), ho.1, s3]
 ·intro acc i c r ha hi hlt hget hdr hc
  obtain ⟨s1, s2, s3⟩ := shift_nat hi
  have hm : c.toNat % 128 = c.toNat := Nat.mod_eq_of_lt hc
  have hw := wrap_c hc
  rw [getI_last hi hc]
  by_cases h9 : i = 9 ∧ 1 < c.toNat
  ·rw [if_pos (Or.inl h9)]
   obtain ⟨e, h9'⟩ := h9
   subst e
   have e9 : (((9 : Nat) : Int) == 9) = true := rfl
   simp only [ints_Get_l0, dec_t (by omega : ((9 : Nat) : Int) < (l.length : Int)), if_true, dec_t (by omega : ((9 : Nat) : Int) < 10), Option.bind_some, Sum.elim_inl, ints_Get_k1, gd_pos (by omega : (0 : Int) ≤ ((9 : Nat) : Int)), Int.toNat_natCast, hget, u8_not128, hm, hw, e9, dec_t (by omega : (1 : Int) < ((c.toNat : Nat) : Int)), Sum.elim_inr]
  ·have e1 : Option.bind (if ((i : Int) == 9) = true then (if (decide ((1 : Int) < ((c.toNat : Nat) : Int))) = true then (some (Sum.inr (Sum.inr (0, 0, false)))) else (some (Sum.inl ()))) else (some (Sum.inl ()))) (Sum.elim (fun (s : Unit) => ints_Get_k2 l (acc : Int) (i : Int) c) some) = ints_Get_k2 l (acc : Int) (i : Int) c := by
    by_cases e : (i : Int) = 9
    ·simp only [e, beq_self_eq_true, if_true, dec_f (by omega : ¬ ((1 : Int) < ((c.toNat : Nat) : Int))), Bool.false_eq_true, if_false]; rfl
    ·rw [ite_f (by simpa using e)]; rfl
   have ho := (or_group ha (by omega) hc (by omega)).1
   have e2 : ints_Get_k2 l (acc : Int) (i : Int) c = some (.inr (if (i = 9 ∧ 1 < c.toNat) ∨ (c.toNat = 0 ∧ 0 < i) then (0, 0, false) else (((acc + c.toNat * 2 ^ (7 * i) : Nat) : Int), ((i + 1 : Nat) : Int), true))) := by
    by_cases hz : c.toNat = 0 ∧ 0 < i
    ·rw [if_pos (Or.inr hz)]
     simp only [ints_Get_k2, s1, gd_pos (by omega : ¬ ((7 * i : Nat) : Int) < 0), gd_pos (by omega : (0 : Int) ≤ (i : Int)), Int.toNat_natCast, hget, hz.1, dec_t (by omega : (0 : Int) < (i : Int)), Int.ofNat_zero, beq_self_eq_true, if_true, Option.bind_some, ints_Get_k3]
    ·have hz2 : ¬ ((i = 9 ∧ 1 < c.toNat) ∨ (c.toNat = 0 ∧ 0 < i)) := by omega
     rw [if_neg hz2]
     have e3 : (if (((c.toNat : Nat) : Int) == 0) = true then (some (decide ((0 : Int) < (i : Int)))) else (some false)) = some false := by
      by_cases hz0 : c.toNat = 0
      ·have : i = 0 := by omega
       subst this
       simp [hz0]
      ·rw [ite_f (by simp only [beq_eq_false_iff_ne]; omega)]
     simp only [ints_Get_k2, s1, gd_pos (by omega : ¬ ((7 * i : Nat) : Int) < 0), gd_pos (by omega : (0 : Int) ≤ (i : Int)), Int.toNat_natCast, hget, Option.bind_some, e3, ints_Get_k3, Bool.false_eq_true, if_false, u8_not128, hm, hw, dec_t (by omega : ((c.toNat : Int) < 128)), if_true, ho, s3]
   simp only [ints_Get_l0, dec_t (by omega : (i : Int) < (l.length : Int)), if_true, dec_t (by omega : (i : Int) < 10), Option.bind_some, Sum.elim_inl, ints_Get_k1, gd_pos (by omega : (0 : Int) ≤ (i : Int)), Int.toNat_natCast, hget, u8_not128, hm, hw]
   rw [e1]; exact e2
theorem ofNat_toNat {n : Nat} (h : n < 256) : (UInt8.ofNat n).toNat = n := by simp; omega
theorem getA_put (more : List UInt8) : ∀ (m n i : Nat), n < 2 ^ m → n < 2 ^ (64 - 7 * i) → i ≤ 9 → (n ≠ 0 ∨ i = 0) → getA i (putN n ++ more) = some (n, (putN n).length)
 | m, n, i, hm, h, hi, h0 => by
  by_cases hn : n < 128
  ·rw [putN_lt hn]
   have h9 : i = 9 → n ≤ 1 := fun e => by subst e; omega
   simp only [List.singleton_append, getA, ofNat_toNat (by omega : n < 256), if_neg (by omega : ¬ 10 ≤ i), if_neg (by omega : ¬ 128 ≤ n), List.length_singleton]
   rw [if_neg (by omega)]
  ·match m, hm with
   | 0, hm => simp at hm; omega
   | m + 1, hm =>
    have hi8 : i ≤ 8 := by
     by_cases e : i = 9
     ·subst e; omega
     ·omega
    have h2 : n / 128 < 2 ^ (64 - 7 * (i + 1)) := by
     rw [Nat.div_lt_iff_lt_mul (by decide), show (128 : Nat) = 2 ^ 7 from rfl, ← Nat.pow_add, show 64 - 7 * (i + 1) + 7 = 64 - 7 * i by omega]; exact h
    have := getA_put more m (n / 128) (i + 1) (by rw [Nat.pow_succ] at hm; omega) h2 (by omega) (.inl (by omega))
    rw [putN_ge hn, List.cons_append]
    simp only [getA, ofNat_toNat (by omega : n % 128 + 128 < 256), if_neg (by omega : ¬ 10 ≤ i), if_pos (by omega : 128 ≤ n % 128 + 128), this, Option.map_some, List.length_cons]
    congr 2
    omega
theorem getN_put {n : Nat} (h : n < 18446744073709551616) (more : List UInt8) : getN (putN n ++ more) = some (n, (putN n).length) := getA_put more 64 n 0 h h (by omega) (.inr rfl)
theorem getN_put0 {n : Nat} (h : n < 18446744073709551616) : getN (putN n) = some (n, (putN n).length) := by simpa using getN_put h []
end Go.Proofs.YtbaibpjffcahiaaGreat.Ab
namespace Go.Proofs.YtbaibpjffcahiaaGreat.Ab
open Go Go.RowKit
set_option linter.unusedVariables false
set_option linter.unusedSimpArgs false
def getT (l : List UInt8) : Option (ByteArray × Nat) := match getN l with
 | none => none
 | some (n, k) => if l.length - k < n then none else some (strOf ((l.drop k).take n), k + n)
def getTR (o : Option (ByteArray × Nat)) : ByteArray × Int × Bool := match o with | none => (strOf [], 0, false) | some (s, k) => (s, (k : Int), true)
def textB (s : ByteArray) : List UInt8 := putN s.size ++ bytesOf s
end Go.Proofs.YtbaibpjffcahiaaGreat.Ab
namespace Go.Proofs.YtbaibpjffcahiaaGreat.Ab
open Go Go.RowKit
set_option linter.unusedVariables false
set_option linter.unusedSimpArgs false
theorem fuPos : Fu = 1208925819614629174706175 + 1 := rfl
theorem ksuc {k : Nat} (h : k < 1099511627776) : IntKind.i64.wrap ((k : Int) + 1) = ((k + 1 : Nat) : Int) := by rw [w64 (by omega) (by omega)]; push_cast; rfl
def isU (n : Int) : Prop := 0 ≤ n ∧ n < 18446744073709551616
def numsB (l : List Int) : List UInt8 := l.flatMap fun n => putN n.toNat
def textsB (l : List ByteArray) : List UInt8 := l.flatMap textB
theorem numsB_le : ∀ (l : List Int), (∀ n ∈ l, isU n) → (numsB l).length ≤ 10 * l.length
 | [], _ => by simp [numsB]
 | n :: l, h => by
  have h1 := h n List.mem_cons_self
  have h2 := numsB_le l fun m hm => h m (List.mem_cons_of_mem _ hm)
  have h3 := putN_len10 (n := n.toNat) (by have := h1.2; have := h1.1; omega)
  simp only [numsB, List.flatMap_cons, List.length_append, List.length_cons] at h2 ⊢; omega
theorem textB_le (s : ByteArray) (h : s.size < 18446744073709551616) : (textB s).length ≤ s.size + 10 := by
 have := putN_len10 (n := s.size) h
 simp [textB, bytesOf_length]; omega
theorem textsB_le : ∀ (l : List ByteArray) (m : Nat), m < 18446744073709551616 → (∀ s ∈ l, s.size ≤ m) → (textsB l).length ≤ (m + 10) * l.length
 | [], m, _, _ => by simp [textsB]
 | s :: l, m, hm, h => by
  have h2 := textsB_le l m hm fun m hm => h m (List.mem_cons_of_mem _ hm)
  have h4 := h s List.mem_cons_self
  have h3 := textB_le s (by omega)
  simp only [textsB, List.flatMap_cons, List.length_append, List.length_cons, Nat.mul_add] at h2 ⊢; omega
theorem numsB_app (a b : List Int) : numsB (a ++ b) = numsB a ++ numsB b := by simp [numsB]
theorem textsB_app (a b : List ByteArray) : textsB (a ++ b) = textsB a ++ textsB b := by simp [textsB]
theorem wide1_spec (l : List UInt8) (n : Nat) (hn : n < 18446744073709551616) (hl : l.length ≤ 1099511627700) : loopN (fun (s : List UInt8 × Int) => ints_Writer_Wide_l2 s.1 s.2) Fu (l, (n : Int)) = some (l ++ (putN n).dropLast, (((putN n).getLast (List.ne_nil_of_length_pos (putN_pos n))).toNat : Int)) := by
 have hlen := putN_len10 hn
 refine loop_fu (fun m s r => ∃ (a : Nat) (o : List UInt8), s = (o, (a : Int)) ∧ m = (putN a).length ∧ a < 18446744073709551616 ∧ r = (o ++ (putN a).dropLast, (((putN a).getLast (List.ne_nil_of_length_pos (putN_pos a))).toNat : Int)) ∧ o.length + (putN a).length ≤ 1099511627710) ?_ ⟨n, l, rfl, rfl, hn, rfl, by omega⟩ (by omega)
 rintro m s r ⟨a, o, rfl, rfl, ha, rfl, hb⟩
 by_cases h : a < 128
 ·refine .inr ?_
  have hd : ¬ ((128 : Int) ≤ (a : Int)) := by omega
  simp only [ints_Writer_Wide_l2, dec_f hd, ite_ff, putN_lt h, List.getLast_singleton, List.dropLast_singleton, List.append_nil]
  congr 3
  simp; omega
 ·refine .inl ⟨(o ++ [UInt8.ofNat (a % 128 + 128)], ((a / 128 : Nat) : Int)), (putN (a / 128)).length, ?_, by rw [putN_ge h]; simp, a / 128, _, rfl, rfl, by omega, ?_, ?_⟩
  ·have hd : ((128 : Int) ≤ (a : Int)) := by omega
   have hp := putN_pos (a / 128)
   rw [putN_ge h] at hb
   simp only [List.length_cons] at hb
   simp only [ints_Writer_Wide_l2, dec_t hd, ite_tt, u8_or128, shr7]
   exact gd_some' (fitg (by simp; omega)) rfl
  ·have hne : putN (a / 128) ≠ [] := List.ne_nil_of_length_pos (putN_pos _)
   simp only [putN_ge h, List.getLast_cons hne, List.dropLast_cons_of_ne_nil hne, List.append_assoc, List.singleton_append]
  ·rw [putN_ge h] at hb; simp only [List.length_cons, List.length_append, List.length_nil] at hb ⊢; omega
theorem wide_spec (w : Writer) (l : List Int) (hu : ∀ n ∈ l, isU n) (hl : w.B.length + 10 * l.length ≤ 1099511627000) : ints_Writer_Wide w l = some ⟨w.B ++ numsB l⟩ := by
 refine loop_list (l := l) (fun k r s => s = (w.B ++ numsB (l.take k), (k : Int)) ∧ r = ⟨w.B ++ numsB l⟩) (by omega) ?_ ?_ ⟨by simp [numsB], rfl⟩
 ·rintro k hk r s ⟨rfl, rfl⟩
  obtain ⟨h0, h1⟩ := hu l[k] (List.getElem_mem hk)
  obtain ⟨m, hm⟩ := Int.eq_ofNat_of_zero_le h0
  have hm2 : m < 18446744073709551616 := by omega
  have hle := numsB_le (l.take k) fun y hy => hu y (List.mem_of_mem_take hy)
  have hle2 : (l.take k).length ≤ l.length := by simp; omega
  have hp := putN_len10 hm2
  refine .inl ⟨(w.B ++ numsB (l.take (k + 1)), ((k + 1 : Nat) : Int)), ?_, rfl, rfl⟩
  simp only [ints_Writer_Wide_l0, dec_t (by omega : (k : Int) < (l.length : Int)), if_true, gd_pos (by omega : (0 : Int) ≤ (k : Int)), Int.toNat_natCast, List.getElem?_eq_getElem hk, Option.bind_some, hm]
  rw [wide1_spec _ m hm2 (by simp only [List.length_append]; omega), Option.bind_some, ints_Writer_Wide_k1]
  have e : u8 (IntKind.u8.wrap ((((putN m).getLast (List.ne_nil_of_length_pos (putN_pos m))).toNat : Nat) : Int)) = (putN m).getLast (List.ne_nil_of_length_pos (putN_pos m)) := by rw [u8_wrap_nat]; simp
  have hdl : (putN m).dropLast.length ≤ 10 := by rw [List.length_dropLast]; omega
  dsimp only
  rw [e, gd_pos (fitg (by simp only [List.length_append, List.length_cons, List.length_nil]; omega)), ksuc (by omega), List.append_assoc, List.dropLast_concat_getLast, List.append_assoc, List.take_succ_eq_append_getElem hk, numsB_app, hm]
  simp [numsB]
 ·rintro r s ⟨rfl, rfl⟩
  simp only [ints_Writer_Wide_l0, dec_f (by omega : ¬ (l.length : Int) < (l.length : Int)), Bool.false_eq_true, if_false, List.take_length]
theorem num_spec (w : Writer) (l : List Int) (hu : ∀ n ∈ l, 0 ≤ n ∧ n < 9223372036854775808) (hl : w.B.length + 10 * l.length ≤ 1099511627000) : ints_Writer_Num w l = some ⟨w.B ++ numsB l⟩ := by
 refine loop_list (l := l) (fun k r s => s = (w.B ++ numsB (l.take k), (k : Int)) ∧ r = ⟨w.B ++ numsB l⟩) (by omega) ?_ ?_ ⟨by simp [numsB], rfl⟩
 ·rintro k hk r s ⟨rfl, rfl⟩
  obtain ⟨h0, h1⟩ := hu l[k] (List.getElem_mem hk)
  have hle := numsB_le (l.take k) fun y hy => ⟨(hu y (List.mem_of_mem_take hy)).1, by have := (hu y (List.mem_of_mem_take hy)).2; omega⟩
  have hle2 : (l.take k).length ≤ k := by simp; omega
  refine .inl ⟨(w.B ++ numsB (l.take (k + 1)), ((k + 1 : Nat) : Int)), ?_, rfl, rfl⟩
  simp only [ints_Writer_Num_l0, dec_t (by omega : (k : Int) < (l.length : Int)), if_true, gd_pos (by omega : (0 : Int) ≤ (k : Int)), Int.toNat_natCast, List.getElem?_eq_getElem hk, Option.bind_some, wu64 h0 (by omega)]
  rw [wide_spec _ _ (fun n hn => by rw [List.mem_singleton.1 hn]; exact ⟨h0, by omega⟩) (by simp only [List.length_append, List.length_cons, List.length_nil]; omega), Option.bind_some, ksuc (by omega), List.take_succ_eq_append_getElem hk, numsB_app, List.append_assoc]
 ·rintro r s ⟨rfl, rfl⟩
  simp only [ints_Writer_Num_l0, dec_f (by omega : ¬ (l.length : Int) < (l.length : Int)), Bool.false_eq_true, if_false, List.take_length]
theorem wtext_spec (w : Writer) (l : List ByteArray) (m : Nat) (hm : m ≤ 1000000) (hu : ∀ s ∈ l, s.size ≤ m) (hl : w.B.length + (m + 10) * l.length ≤ 1099500000000) : ints_Writer_Text w l = some ⟨w.B ++ textsB l⟩ := by
 have hll : l.length ≤ (m + 10) * l.length := Nat.le_mul_of_pos_left _ (by omega)
 refine loop_list (l := l) (fun k r s => s = (w.B ++ textsB (l.take k), (k : Int)) ∧ r = ⟨w.B ++ textsB l⟩) (by omega) ?_ ?_ ⟨by simp [textsB], rfl⟩
 ·rintro k hk r s ⟨rfl, rfl⟩
  have hs := hu l[k] (List.getElem_mem hk)
  have hle := textsB_le (l.take k) m (by omega) fun y hy => hu y (List.mem_of_mem_take hy)
  have hle2 : (m + 10) * (l.take k).length ≤ (m + 10) * l.length := Nat.mul_le_mul_left _ (by simp; omega)
  refine .inl ⟨(w.B ++ textsB (l.take (k + 1)), ((k + 1 : Nat) : Int)), ?_, rfl, rfl⟩
  have hn : numsB [((l[k].size : Nat) : Int)] = putN l[k].size := by simp [numsB]
  have hp := putN_len10 (n := l[k].size) (by omega)
  simp only [ints_Writer_Text_l0, dec_t (by omega : (k : Int) < (l.length : Int)), if_true, gd_pos (by omega : (0 : Int) ≤ (k : Int)), Int.toNat_natCast, List.getElem?_eq_getElem hk, Option.bind_some]
  rw [num_spec _ _ (fun n hn => by rw [List.mem_singleton.1 hn]; omega) (by simp only [List.length_append, List.length_cons, List.length_nil]; omega), Option.bind_some, hn]
  dsimp only
  rw [gd_pos (by simp only [List.length_append, bytesOf_length]; omega), ksuc (by omega), List.take_succ_eq_append_getElem hk, textsB_app, List.append_assoc, List.append_assoc]
  simp [textsB, textB]
 ·rintro r s ⟨rfl, rfl⟩
  simp only [ints_Writer_Text_l0, dec_f (by omega : ¬ (l.length : Int) < (l.length : Int)), Bool.false_eq_true, if_false, List.take_length]
def bitI (b : Bool) : Int := if b = true then 1 else 0
theorem flag_spec (w : Writer) (b : Bool) (hl : w.B.length ≤ 1099511626000) : ints_Writer_Flag w b = some ⟨w.B ++ numsB [bitI b]⟩ := by
 have h : ints_Writer_Flag w b = ints_Writer_Flag_k0 w (bitI b) := by cases b <;> rfl
 rw [h, ints_Writer_Flag_k0, num_spec _ _ (fun n hn => by rw [List.mem_singleton.1 hn, bitI]; split <;> omega) (by simp; omega)]
 rfl
def pW (b : List UInt8) : Option (Int × List UInt8) := match getN b with | none => none | some (n, k) => some ((n : Int), b.drop k)
def pNum (top : Int) (b : List UInt8) : Option (Int × List UInt8) := match pW b with | none => none | some (n, r) => if top < n then none else some (n, r)
def pT (b : List UInt8) : Option (ByteArray × List UInt8) := match getT b with | none => none | some (s, k) => some (s, b.drop k)
end Go.Proofs.YtbaibpjffcahiaaGreat.Ab
