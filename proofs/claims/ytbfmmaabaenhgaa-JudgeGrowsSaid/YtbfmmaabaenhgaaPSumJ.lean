/- Sums, told plainly. -/
import Derived.Test.YtbfmmaabaenhgaaXJ2
import Derived.Test.YtbfmmaabaenhgaaPSum
namespace Go.Proofs.Ytbfmmaabaenhgaa.Ab
open Go Go.RowKit
set_option linter.unusedVariables false
set_option linter.unusedSimpArgs false

theorem bit1_prog (n : BitVec 32) : bits .xor .u32 (Int.fdiv (n.toNat : Int) (2 ^ (min (Int.toNat 1) (IntKind.bits .u32)))) (IntKind.u32.wrap (3988292384 * (bits .and .u32 (n.toNat : Int) 1))) = ((bit1 n).toNat : Int) := by
  have h1 : Int.fdiv (n.toNat : Int) (2 ^ (min (Int.toNat 1) (IntKind.bits .u32))) = ((n >>> 1).toNat : Int) := shr32 n 1 (by decide)
  have h2 : bits .and .u32 (n.toNat : Int) 1 = ((n &&& 1#32).toNat : Int) := and32 n 1#32
  have h3 : IntKind.u32.wrap (3988292384 * ((n &&& 1#32).toNat : Int)) = ((poly * (n &&& 1#32)).toNat : Int) := mul32 poly (n &&& 1#32)
  rw [h1, h2, h3, xor32]; rfl
theorem not_prog (x : BitVec 32) : bits .xor .u32 (if IntKind.signed .u32 then -1 else IntKind.max .u32) (x.toNat : Int) = ((~~~x).toNat : Int) := not32 x
theorem byte_in (n : BitVec 32) (c : UInt8) : bits .xor .u32 (n.toNat : Int) (IntKind.u32.wrap (c.toNat : Int)) = ((n ^^^ c.toBitVec.setWidth 32).toNat : Int) := by rw [conv8_32, xor32]
theorem wrap_succ {k : Nat} (h : k < 1099511627776) : IntKind.i64.wrap ((k : Int) + 1) = ((k + 1 : Nat) : Int) := by rw [w64 (by omega) (by omega)]; push_cast; rfl
theorem more_inner (v : Int) (n : BitVec 32) : loopN (fun (s : Int × Int) => check_More_l1 v s.1 s.2) Fu ((n.toNat : Int), 0) = some (Sum.inl (((bitN 8 n).toNat : Int), IntKind.i64.wrap (v + 1))) := by
  refine loop_fu (fun m s r => ∃ j : Nat, j ≤ 8 ∧ m = 8 - j ∧ s = (((bitN j n).toNat : Int), (j : Int)) ∧ r = Sum.inl (((bitN 8 n).toNat : Int), IntKind.i64.wrap (v + 1))) ?_ ⟨0, by omega, rfl, rfl, rfl⟩ (by omega)
  rintro m s r ⟨j, hj, rfl, rfl, rfl⟩
  by_cases h : j = 8
  · subst h; exact .inr rfl
  · refine .inl ⟨_, 8 - (j + 1), ?_, by omega, j + 1, by omega, rfl, rfl, rfl⟩
    simp only [check_More_l1, dec_t (by omega : (j : Int) < 8), if_true, bit1_prog, wrap_succ (by omega : j < 1099511627776)]
    rfl
theorem more_spec (x : BitVec 32) (b : List UInt8) (hb : b.length < 1099511627776) : check_More (x.toNat : Int) b = some ((more x b).toNat : Int) := by
  rw [check_More, not_prog]
  refine loop_list (l := b) (fun k r s => s = ((((b.take k).foldl byte (~~~x)).toNat : Int), (k : Int)) ∧ r = ((more x b).toNat : Int)) (by omega) ?_ ?_ ⟨by simp, rfl⟩
  · rintro k hk r s ⟨rfl, rfl⟩
    refine .inl ⟨((((b.take (k + 1)).foldl byte (~~~x)).toNat : Int), ((k + 1 : Nat) : Int)), ?_, rfl, rfl⟩
    simp only [check_More_l0, dec_t (by omega : (k : Int) < (b.length : Int)), if_true, gd_pos (by omega : (0 : Int) ≤ (k : Int)), Int.toNat_natCast, List.getElem?_eq_getElem hk, Option.bind_some, byte_in]
    rw [more_inner, wrap_succ (by omega), fold_take _ _ _ _ hk]
    rfl
  · rintro r s ⟨rfl, rfl⟩
    simp only [check_More_l0, dec_f (by omega : ¬ (b.length : Int) < (b.length : Int)), Bool.false_eq_true, if_false, List.take_length, not_prog]
    rfl
def sumB (b : List UInt8) : BitVec 32 := more 0#32 b
theorem sum_spec (b : List UInt8) (hb : b.length < 1099511627776) : check_Sum b = some ((sumB b).toNat : Int) := by
  have := more_spec 0#32 b hb
  rw [show ((0#32).toNat : Int) = 0 from rfl] at this
  rw [check_Sum, this]; rfl
theorem bit1_ref (n : BitVec 32) : (if ((bits .and .u32 (n.toNat : Int) 1) == 1) = true then (bits .xor .u32 (Int.fdiv (n.toNat : Int) (2 ^ (min (Int.toNat 1) (IntKind.bits .u32)))) 3988292384) else (Int.fdiv (n.toNat : Int) (2 ^ (min (Int.toNat 1) (IntKind.bits .u32))))) = ((bit1 n).toNat : Int) := by
  have h1 : Int.fdiv (n.toNat : Int) (2 ^ (min (Int.toNat 1) (IntKind.bits .u32))) = ((n >>> 1).toNat : Int) := shr32 n 1 (by decide)
  have h2 : bits .and .u32 (n.toNat : Int) 1 = ((n &&& 1#32).toNat : Int) := and32 n 1#32
  have h3 : bits .xor .u32 ((n >>> 1).toNat : Int) 3988292384 = ((n >>> 1 ^^^ poly).toNat : Int) := xor32 (n >>> 1) poly
  rw [h1, h2, h3]
  by_cases h : ((n &&& 1#32).toNat : Int) = 1
  · rw [if_pos (by rw [h]; rfl), bit1_odd n h]
  · rw [if_neg (by rw [beq_iff_eq]; exact h), bit1_even n h]
theorem rmore_inner (v : Int) (n : BitVec 32) : loopN (fun (s : Int × Int) => gleaningref1_More_l1 v s.1 s.2) Fu ((n.toNat : Int), 0) = some (Sum.inl (((bitN 8 n).toNat : Int), IntKind.i64.wrap (v + 1))) := by
  refine loop_fu (fun m s r => ∃ j : Nat, j ≤ 8 ∧ m = 8 - j ∧ s = (((bitN j n).toNat : Int), (j : Int)) ∧ r = Sum.inl (((bitN 8 n).toNat : Int), IntKind.i64.wrap (v + 1))) ?_ ⟨0, by omega, rfl, rfl, rfl⟩ (by omega)
  rintro m s r ⟨j, hj, rfl, rfl, rfl⟩
  by_cases h : j = 8
  · subst h; exact .inr rfl
  · refine .inl ⟨(((bitN (j + 1) n).toNat : Int), ((j + 1 : Nat) : Int)), 8 - (j + 1), ?_, by omega, j + 1, by omega, rfl, rfl, rfl⟩
    have hr := bit1_ref (bitN j n)
    simp only [gleaningref1_More_l1, dec_t (by omega : (j : Int) < 8), if_true, wrap_succ (by omega : j < 1099511627776)]
    show _ = some (Sum.inl (((bit1 (bitN j n)).toNat : Int), ((j + 1 : Nat) : Int)))
    rw [← hr]
    split <;> rfl
theorem rmore_spec (x : BitVec 32) (b : List UInt8) (hb : b.length < 1099511627776) : gleaningref1_More (x.toNat : Int) b = some ((more x b).toNat : Int) := by
  rw [gleaningref1_More, not_prog]
  refine loop_list (l := b) (fun k r s => s = ((((b.take k).foldl byte (~~~x)).toNat : Int), (k : Int)) ∧ r = ((more x b).toNat : Int)) (by omega) ?_ ?_ ⟨by simp, rfl⟩
  · rintro k hk r s ⟨rfl, rfl⟩
    refine .inl ⟨((((b.take (k + 1)).foldl byte (~~~x)).toNat : Int), ((k + 1 : Nat) : Int)), ?_, rfl, rfl⟩
    simp only [gleaningref1_More_l0, dec_t (by omega : (k : Int) < (b.length : Int)), if_true, gd_pos (by omega : (0 : Int) ≤ (k : Int)), Int.toNat_natCast, List.getElem?_eq_getElem hk, Option.bind_some, byte_in]
    rw [rmore_inner, wrap_succ (by omega), fold_take _ _ _ _ hk]
    rfl
  · rintro r s ⟨rfl, rfl⟩
    simp only [gleaningref1_More_l0, dec_f (by omega : ¬ (b.length : Int) < (b.length : Int)), Bool.false_eq_true, if_false, List.take_length, not_prog]
    rfl
theorem rsum_spec (b : List UInt8) (hb : b.length < 1099511627776) : gleaningref1_Sum b = some ((sumB b).toNat : Int) := by
  have := rmore_spec 0#32 b hb
  rw [show ((0#32).toNat : Int) = 0 from rfl] at this
  rw [gleaningref1_Sum, this]; rfl
end Go.Proofs.Ytbfmmaabaenhgaa.Ab
