/- What writes and reads numbers and texts, one behind the other, told plainly. -/
import Derived.Test.YtejimiedoibkcaaXBSum
import Derived.Test.YtejimiedoibkcaaPKit
namespace Go.Proofs.Ytejimiedoibkcaa.Ab
open Go Go.RowKit
set_option linter.unusedVariables false
set_option linter.unusedSimpArgs false
def putN (n : Nat) : List UInt8 := if n < 128 then [UInt8.ofNat n] else UInt8.ofNat (n % 128 + 128) :: putN (n / 128)
theorem putN_lt {n : Nat} (h : n < 128) : putN n = [UInt8.ofNat n] := by rw [putN, if_pos h]
theorem putN_ge {n : Nat} (h : ¬ n < 128) : putN n = UInt8.ofNat (n % 128 + 128) :: putN (n / 128) := by rw [putN, if_neg h]
theorem putN_pos (n : Nat) : 0 < (putN n).length := by rw [putN]; split <;> simp
theorem putN_len : ∀ (k n : Nat), n < 2 ^ (7 * (k + 1)) → (putN n).length ≤ k + 1
  | 0, n, h => by rw [putN_lt (by simpa using h)]; simp
  | k + 1, n, h => by
    by_cases h1 : n < 128
    · rw [putN_lt h1]; simp
    · rw [putN_ge h1]
      have := putN_len k (n / 128) (by rw [Nat.div_lt_iff_lt_mul (by decide), show 7 * (k + 1 + 1) = 7 * (k + 1) + 7 by omega, Nat.pow_add] at *; exact h)
      simp only [List.length_cons]; omega
theorem putN_len10 {n : Nat} (h : n < 18446744073709551616) : (putN n).length ≤ 10 := putN_len 9 n (by omega)
def getA : Nat → List UInt8 → Option (Nat × Nat)
  | _, [] => none
  | i, c :: r => if 10 ≤ i then none else if 128 ≤ c.toNat then (getA (i + 1) r).map fun p => (c.toNat % 128 + 128 * p.1, p.2 + 1)
    else if (i = 9 ∧ 1 < c.toNat) ∨ (c.toNat = 0 ∧ 0 < i) then none else some (c.toNat, 1)
def getR (o : Option (Nat × Nat)) : Int × Int × Bool := match o with | none => (0, 0, false) | some (n, k) => ((n : Int), (k : Int), true)
def getN (l : List UInt8) : Option (Nat × Nat) := getA 0 l
theorem u8_or128 (n : Nat) : u8 (bits .or .u8 ((u8 (IntKind.u8.wrap (n : Int))).toNat : Int) 128) = UInt8.ofNat (n % 128 + 128) := by
  rw [u8_wrap_nat]
  have h : ∀ m : Fin 256, u8 (bits .or .u8 ((UInt8.ofNat m.val).toNat : Int) 128) = UInt8.ofNat (m.val % 128 + 128) := by decide +kernel
  have := h ⟨n % 256, Nat.mod_lt _ (by decide)⟩
  dsimp only at this
  rw [Nat.mod_mod_of_dvd n (by decide : 128 ∣ 256)] at this
  rw [← this]
  congr 4
  apply UInt8.toNat_inj.1
  simp
theorem and127 (n : Nat) (h : n < 18446744073709551616) : bits .and .u64 (n : Int) 127 = ((n % 128 : Nat) : Int) := by
  have := bits_and_u64 n 127 h (by decide)
  rw [Nat.and_two_pow_sub_one_eq_mod n 7] at this
  exact this
theorem fitg {l : List UInt8} (h : l.length ≤ 1099511627776) : l.length * 1 ≤ 140737488355328 ∧ l.length ≤ 140737488355328 := by omega
theorem rput_spec (l : List UInt8) (n : Nat) (hn : n < 18446744073709551616) (hl : l.length ≤ 1099511627700) : gleaningref1_Put l (n : Int) = some (l ++ putN n) := by
  have hlen := putN_len10 hn
  have hloop : loopN (fun (s : List UInt8 × Int) => gleaningref1_Put_l1 s.1 s.2) Fu (l, (n : Int)) = some (l ++ (putN n).dropLast, (((putN n).getLast (List.ne_nil_of_length_pos (putN_pos n))).toNat : Int)) := by
    refine loop_fu (fun m s r => ∃ (a : Nat) (o : List UInt8), s = (o, (a : Int)) ∧ m = (putN a).length ∧ a < 18446744073709551616 ∧ r = (o ++ (putN a).dropLast, (((putN a).getLast (List.ne_nil_of_length_pos (putN_pos a))).toNat : Int)) ∧ o.length + (putN a).length ≤ 1099511627710) ?_ ⟨n, l, rfl, rfl, hn, rfl, by omega⟩ (by omega)
    rintro m s r ⟨a, o, rfl, rfl, ha, rfl, hb⟩
    by_cases h : a < 128
    · refine .inr ?_
      have hd : ¬ ((127 : Int) < (a : Int)) := by omega
      simp only [gleaningref1_Put_l1, dec_f hd, ite_ff, putN_lt h, List.getLast_singleton, List.dropLast_singleton, List.append_nil]
      congr 3
      simp; omega
    · refine .inl ⟨(o ++ [UInt8.ofNat (a % 128 + 128)], ((a / 128 : Nat) : Int)), (putN (a / 128)).length, ?_, by rw [putN_ge h]; simp, a / 128, _, rfl, rfl, by omega, ?_, ?_⟩
      · have hd : ((127 : Int) < (a : Int)) := by omega
        have hp := putN_pos (a / 128)
        rw [putN_ge h] at hb
        simp only [List.length_cons] at hb
        simp only [gleaningref1_Put_l1, dec_t hd, ite_tt, and127 a ha, u8_or128, shr7, Nat.mod_mod]
        exact gd_some' (fitg (by simp; omega)) rfl
      · have hne : putN (a / 128) ≠ [] := List.ne_nil_of_length_pos (putN_pos _)
        simp only [putN_ge h, List.getLast_cons hne, List.dropLast_cons_of_ne_nil hne, List.append_assoc, List.singleton_append]
      · rw [putN_ge h] at hb; simp only [List.length_cons, List.length_append, List.length_nil] at hb ⊢; omega
  rw [gleaningref1_Put, hloop, Option.bind_some, gleaningref1_Put_k0]
  have e : u8 (IntKind.u8.wrap ((((putN n).getLast (List.ne_nil_of_length_pos (putN_pos n))).toNat : Nat) : Int)) = (putN n).getLast (List.ne_nil_of_length_pos (putN_pos n)) := by rw [u8_wrap_nat]; simp
  dsimp only
  rw [e, List.append_assoc, List.dropLast_concat_getLast]
  exact gd_some' (fitg (by simp; omega)) rfl
def getI (i acc : Nat) (l : List UInt8) : Int × Int × Bool := match getA i l with | none => (0, 0, false) | some (n, k) => (((acc + n * 2 ^ (7 * i) : Nat) : Int), ((i + k : Nat) : Int), true)
end Go.Proofs.Ytejimiedoibkcaa.Ab
namespace Go.Proofs.Ytejimiedoibkcaa.Ab
open Go Go.RowKit
set_option linter.unusedVariables false
set_option linter.unusedSimpArgs false
def getT (l : List UInt8) : Option (ByteArray × Nat) := match getN l with
  | none => none
  | some (n, k) => if l.length - k < n then none else some (strOf ((l.drop k).take n), k + n)
def getTR (o : Option (ByteArray × Nat)) : ByteArray × Int × Bool := match o with | none => (strOf [], 0, false) | some (s, k) => (s, (k : Int), true)
def textB (s : ByteArray) : List UInt8 := putN s.size ++ bytesOf s
theorem rtext_spec (l : List UInt8) (s : ByteArray) (hl : l.length ≤ 549755813888) (hs : s.size ≤ 274877906944) : gleaningref1_Text l s = some (l ++ textB s) := by
  have hw : IntKind.u64.wrap (s.size : Int) = (s.size : Int) := wrap_u64 _ (by omega)
  have hp := putN_len10 (n := s.size) (by omega)
  rw [gleaningref1_Text, hw, rput_spec l s.size (by omega) (by omega), Option.bind_some, gd_pos (by simp [bytesOf_length]; omega), List.append_assoc, textB]
end Go.Proofs.Ytejimiedoibkcaa.Ab
namespace Go.Proofs.Ytejimiedoibkcaa.Ab
open Go Go.RowKit
set_option linter.unusedVariables false
set_option linter.unusedSimpArgs false
theorem fuPos : Fu = 1208925819614629174706175 + 1 := rfl
theorem loop_now {σ ρ : Type} {body : σ → Option (σ ⊕ ρ)} {s : σ} {r : ρ} (h : body s = some (.inr r)) : loopN body Fu s = some r := by rw [fuPos]; exact loop_r h
theorem ksuc {k : Nat} (h : k < 1099511627776) : IntKind.i64.wrap ((k : Int) + 1) = ((k + 1 : Nat) : Int) := by rw [w64 (by omega) (by omega)]; push_cast; rfl
def isU (n : Int) : Prop := 0 ≤ n ∧ n < 18446744073709551616
def numsB (l : List Int) : List UInt8 := l.flatMap fun n => putN n.toNat
def textsB (l : List ByteArray) : List UInt8 := l.flatMap textB
theorem numsB_le : ∀ (l : List Int), (∀ n ∈ l, isU n) → (numsB l).length ≤ 10 * l.length
  | [], _ => by simp [numsB]
  | n :: l, h => by
    have h1 := h n List.mem_cons_self
    have h2 := numsB_le l fun m hm => h m (List.mem_cons_of_mem _ hm)
    have h3 := putN_len10 (n := n.toNat) (by have := h1.2; have := h1.1; omega)
    simp only [numsB, List.flatMap_cons, List.length_append, List.length_cons] at h2 ⊢; omega
theorem textB_le (s : ByteArray) (h : s.size < 18446744073709551616) : (textB s).length ≤ s.size + 10 := by
  have := putN_len10 (n := s.size) h
  simp [textB, bytesOf_length]; omega
theorem textsB_le : ∀ (l : List ByteArray) (m : Nat), m < 18446744073709551616 → (∀ s ∈ l, s.size ≤ m) → (textsB l).length ≤ (m + 10) * l.length
  | [], m, _, _ => by simp [textsB]
  | s :: l, m, hm, h => by
    have h2 := textsB_le l m hm fun m hm => h m (List.mem_cons_of_mem _ hm)
    have h4 := h s List.mem_cons_self
    have h3 := textB_le s (by omega)
    simp only [textsB, List.flatMap_cons, List.length_append, List.length_cons, Nat.mul_add] at h2 ⊢; omega
theorem numsB_app (a b : List Int) : numsB (a ++ b) = numsB a ++ numsB b := by simp [numsB]
theorem textsB_app (a b : List ByteArray) : textsB (a ++ b) = textsB a ++ textsB b := by simp [textsB]
theorem wide1_spec (l : List UInt8) (n : Nat) (hn : n < 18446744073709551616) (hl : l.length ≤ 1099511627700) : loopN (fun (s : List UInt8 × Int) => ints_Writer_Wide_l2 s.1 s.2) Fu (l, (n : Int)) = some (l ++ (putN n).dropLast, (((putN n).getLast (List.ne_nil_of_length_pos (putN_pos n))).toNat : Int)) := by
  have hlen := putN_len10 hn
  refine loop_fu (fun m s r => ∃ (a : Nat) (o : List UInt8), s = (o, (a : Int)) ∧ m = (putN a).length ∧ a < 18446744073709551616 ∧ r = (o ++ (putN a).dropLast, (((putN a).getLast (List.ne_nil_of_length_pos (putN_pos a))).toNat : Int)) ∧ o.length + (putN a).length ≤ 1099511627710) ?_ ⟨n, l, rfl, rfl, hn, rfl, by omega⟩ (by omega)
  rintro m s r ⟨a, o, rfl, rfl, ha, rfl, hb⟩
  by_cases h : a < 128
  · refine .inr ?_
    have hd : ¬ ((128 : Int) ≤ (a : Int)) := by omega
    simp only [ints_Writer_Wide_l2, dec_f hd, ite_ff, putN_lt h, List.getLast_singleton, List.dropLast_singleton, List.append_nil]
    congr 3
    simp; omega
  · refine .inl ⟨(o ++ [UInt8.ofNat (a % 128 + 128)], ((a / 128 : Nat) : Int)), (putN (a / 128)).length, ?_, by rw [putN_ge h]; simp, a / 128, _, rfl, rfl, by omega, ?_, ?_⟩
    · have hd : ((128 : Int) ≤ (a : Int)) := by omega
      have hp := putN_pos (a / 128)
      rw [putN_ge h] at hb
      simp only [List.length_cons] at hb
      simp only [ints_Writer_Wide_l2, dec_t hd, ite_tt, u8_or128, shr7]
      exact gd_some' (fitg (by simp; omega)) rfl
    · have hne : putN (a / 128) ≠ [] := List.ne_nil_of_length_pos (putN_pos _)
      simp only [putN_ge h, List.getLast_cons hne, List.dropLast_cons_of_ne_nil hne, List.append_assoc, List.singleton_append]
    · rw [putN_ge h] at hb; simp only [List.length_cons, List.length_append, List.length_nil] at hb ⊢; omega
theorem wide_spec (w : Writer) (l : List Int) (hu : ∀ n ∈ l, isU n) (hl : w.B.length + 10 * l.length ≤ 1099511627000) : ints_Writer_Wide w l = some ⟨w.B ++ numsB l⟩ := by
  refine loop_list (l := l) (fun k r s => s = (w.B ++ numsB (l.take k), (k : Int)) ∧ r = ⟨w.B ++ numsB l⟩) (by omega) ?_ ?_ ⟨by simp [numsB], rfl⟩
  · rintro k hk r s ⟨rfl, rfl⟩
    obtain ⟨h0, h1⟩ := hu l[k] (List.getElem_mem hk)
    obtain ⟨m, hm⟩ := Int.eq_ofNat_of_zero_le h0
    have hm2 : m < 18446744073709551616 := by omega
    have hle := numsB_le (l.take k) fun y hy => hu y (List.mem_of_mem_take hy)
    have hle2 : (l.take k).length ≤ l.length := by simp; omega
    have hp := putN_len10 hm2
    refine .inl ⟨(w.B ++ numsB (l.take (k + 1)), ((k + 1 : Nat) : Int)), ?_, rfl, rfl⟩
    simp only [ints_Writer_Wide_l0, dec_t (by omega : (k : Int) < (l.length : Int)), if_true, gd_pos (by omega : (0 : Int) ≤ (k : Int)), Int.toNat_natCast, List.getElem?_eq_getElem hk, Option.bind_some, hm]
    rw [wide1_spec _ m hm2 (by simp only [List.length_append]; omega), Option.bind_some, ints_Writer_Wide_k1]
    have e : u8 (IntKind.u8.wrap ((((putN m).getLast (List.ne_nil_of_length_pos (putN_pos m))).toNat : Nat) : Int)) = (putN m).getLast (List.ne_nil_of_length_pos (putN_pos m)) := by rw [u8_wrap_nat]; simp
    have hdl : (putN m).dropLast.length ≤ 10 := by rw [List.length_dropLast]; omega
    dsimp only
    rw [e, gd_pos (fitg (by simp only [List.length_append, List.length_cons, List.length_nil]; omega)), ksuc (by omega), List.append_assoc, List.dropLast_concat_getLast, List.append_assoc, List.take_succ_eq_append_getElem hk, numsB_app, hm]
    simp [numsB]
  · rintro r s ⟨rfl, rfl⟩
    simp only [ints_Writer_Wide_l0, dec_f (by omega : ¬ (l.length : Int) < (l.length : Int)), Bool.false_eq_true, if_false, List.take_length]
theorem num_spec (w : Writer) (l : List Int) (hu : ∀ n ∈ l, 0 ≤ n ∧ n < 9223372036854775808) (hl : w.B.length + 10 * l.length ≤ 1099511627000) : ints_Writer_Num w l = some ⟨w.B ++ numsB l⟩ := by
  refine loop_list (l := l) (fun k r s => s = (w.B ++ numsB (l.take k), (k : Int)) ∧ r = ⟨w.B ++ numsB l⟩) (by omega) ?_ ?_ ⟨by simp [numsB], rfl⟩
  · rintro k hk r s ⟨rfl, rfl⟩
    obtain ⟨h0, h1⟩ := hu l[k] (List.getElem_mem hk)
    have hle := numsB_le (l.take k) fun y hy => ⟨(hu y (List.mem_of_mem_take hy)).1, by have := (hu y (List.mem_of_mem_take hy)).2; omega⟩
    have hle2 : (l.take k).length ≤ k := by simp; omega
    refine .inl ⟨(w.B ++ numsB (l.take (k + 1)), ((k + 1 : Nat) : Int)), ?_, rfl, rfl⟩
    simp only [ints_Writer_Num_l0, dec_t (by omega : (k : Int) < (l.length : Int)), if_true, gd_pos (by omega : (0 : Int) ≤ (k : Int)), Int.toNat_natCast, List.getElem?_eq_getElem hk, Option.bind_some, wu64 h0 (by omega)]
    rw [wide_spec _ _ (fun n hn => by rw [List.mem_singleton.1 hn]; exact ⟨h0, by omega⟩) (by simp only [List.length_append, List.length_cons, List.length_nil]; omega), Option.bind_some, ksuc (by omega), List.take_succ_eq_append_getElem hk, numsB_app, List.append_assoc]
  · rintro r s ⟨rfl, rfl⟩
    simp only [ints_Writer_Num_l0, dec_f (by omega : ¬ (l.length : Int) < (l.length : Int)), Bool.false_eq_true, if_false, List.take_length]
theorem wtext_spec (w : Writer) (l : List ByteArray) (m : Nat) (hm : m ≤ 1000000) (hu : ∀ s ∈ l, s.size ≤ m) (hl : w.B.length + (m + 10) * l.length ≤ 1099500000000) : ints_Writer_Text w l = some ⟨w.B ++ textsB l⟩ := by
  have hll : l.length ≤ (m + 10) * l.length := Nat.le_mul_of_pos_left _ (by omega)
  refine loop_list (l := l) (fun k r s => s = (w.B ++ textsB (l.take k), (k : Int)) ∧ r = ⟨w.B ++ textsB l⟩) (by omega) ?_ ?_ ⟨by simp [textsB], rfl⟩
  · rintro k hk r s ⟨rfl, rfl⟩
    have hs := hu l[k] (List.getElem_mem hk)
    have hle := textsB_le (l.take k) m (by omega) fun y hy => hu y (List.mem_of_mem_take hy)
    have hle2 : (m + 10) * (l.take k).length ≤ (m + 10) * l.length := Nat.mul_le_mul_left _ (by simp; omega)
    refine .inl ⟨(w.B ++ textsB (l.take (k + 1)), ((k + 1 : Nat) : Int)), ?_, rfl, rfl⟩
    have hn : numsB [((l[k].size : Nat) : Int)] = putN l[k].size := by simp [numsB]
    have hp := putN_len10 (n := l[k].size) (by omega)
    simp only [ints_Writer_Text_l0, dec_t (by omega : (k : Int) < (l.length : Int)), if_true, gd_pos (by omega : (0 : Int) ≤ (k : Int)), Int.toNat_natCast, List.getElem?_eq_getElem hk, Option.bind_some]
    rw [num_spec _ _ (fun n hn => by rw [List.mem_singleton.1 hn]; omega) (by simp only [List.length_append, List.length_cons, List.length_nil]; omega), Option.bind_some, hn]
    dsimp only
    rw [gd_pos (by simp only [List.length_append, bytesOf_length]; omega), ksuc (by omega), List.take_succ_eq_append_getElem hk, textsB_app, List.append_assoc, List.append_assoc]
    simp [textsB, textB]
  · rintro r s ⟨rfl, rfl⟩
    simp only [ints_Writer_Text_l0, dec_f (by omega : ¬ (l.length : Int) < (l.length : Int)), Bool.false_eq_true, if_false, List.take_length]
def bitI (b : Bool) : Int := if b = true then 1 else 0
theorem flag_spec (w : Writer) (b : Bool) (hl : w.B.length ≤ 1099511626000) : ints_Writer_Flag w b = some ⟨w.B ++ numsB [bitI b]⟩ := by
  have h : ints_Writer_Flag w b = ints_Writer_Flag_k0 w (bitI b) := by cases b <;> rfl
  rw [h, ints_Writer_Flag_k0, num_spec _ _ (fun n hn => by rw [List.mem_singleton.1 hn, bitI]; split <;> omega) (by simp; omega)]
  rfl
def pW (b : List UInt8) : Option (Int × List UInt8) := match getN b with | none => none | some (n, k) => some ((n : Int), b.drop k)
def pNum (top : Int) (b : List UInt8) : Option (Int × List UInt8) := match pW b with | none => none | some (n, r) => if top < n then none else some (n, r)
def pT (b : List UInt8) : Option (ByteArray × List UInt8) := match getT b with | none => none | some (s, k) => some (s, b.drop k)
theorem strOf_size (l : List UInt8) : (strOf l).size = l.length := by rw [← bytesOf_length, bytesOf_strOf]
end Go.Proofs.Ytejimiedoibkcaa.Ab
