/- What 'check' and the reference do with bytes, told plainly: sums, and a sum's four bytes. -/
import Derived.Test.YtbaibpjffcahiaaGreatPKit
import Derived.Test.YtbaibpjffcahiaaGreatXB1
import Derived.Test.YtbaibpjffcahiaaGreatPRW
namespace Go.Proofs.YtbaibpjffcahiaaGreat.Ab
open Go Go.RowKit
set_option linter.unusedVariables false
set_option linter.unusedSimpArgs false
def poly : BitVec 32 := 3988292384#32
def bit1 (n : BitVec 32) : BitVec 32 := (n >>> 1) ^^^ (poly * (n &&& 1#32))
def bitN : Nat → BitVec 32 → BitVec 32
 | 0, n => n
 | k + 1, n => bit1 (bitN k n)
def byte (n : BitVec 32) (c : UInt8) : BitVec 32 := bitN 8 (n ^^^ c.toBitVec.setWidth 32)
def more (x : BitVec 32) (b : List UInt8) : BitVec 32 := ~~~(b.foldl byte (~~~x))
theorem fold_take {α β : Type} (f : β → α → β) (b : List α) (a : β) (i : Nat) (h : i < b.length) : (b.take (i + 1)).foldl f a = f ((b.take i).foldl f a) b[i] := by
 rw [List.take_succ_eq_append_getElem h, List.foldl_append]; rfl
def up (c : UInt8) : BitVec 32 := c.toBitVec.setWidth 32
def by0 (x : BitVec 32) : UInt8 := UInt8.ofBitVec ((x &&& 255#32).setWidth 8)
def by1 (x : BitVec 32) : UInt8 := UInt8.ofBitVec ((x >>> 8 &&& 255#32).setWidth 8)
def by2 (x : BitVec 32) : UInt8 := UInt8.ofBitVec ((x >>> 16 &&& 255#32).setWidth 8)
def by3 (x : BitVec 32) : UInt8 := UInt8.ofBitVec ((x >>> 24).setWidth 8)
def xorL (a b c : List UInt8) : List UInt8 := List.zipWith (· ^^^ ·) (List.zipWith (· ^^^ ·) a b) c
def flip (b : List UInt8) (p : Nat) (v : UInt8) : List UInt8 := b.set p (b.getD p 0 ^^^ v)
def bitB (q : Nat) : UInt8 := UInt8.ofNat (2 ^ q)
def chk : Nat → BitVec 32 → Bool
 | 0, _ => true
 | k + 1, n => (bit1 n != 1#32) && chk k (bit1 n)
def byteOf (x : BitVec 32) (j : Nat) : UInt8 := UInt8.ofBitVec ((x >>> (8 * j) &&& 255#32).setWidth 8)
def burstN (b : List UInt8) (p : Nat) (x : BitVec 32) : Nat → List UInt8
 | 0 => b
 | j + 1 => flip (burstN b p x j) (p + j) (byteOf x j)
end Go.Proofs.YtbaibpjffcahiaaGreat.Ab
namespace Go.Proofs.YtbaibpjffcahiaaGreat.Ab
open Go Go.RowKit
set_option linter.unusedVariables false
set_option linter.unusedSimpArgs false
theorem bit1_prog (n : BitVec 32) : bits .xor .u32 (Int.fdiv (n.toNat : Int) (2 ^ (min (Int.toNat 1) (IntKind.bits .u32)))) (IntKind.u32.wrap (3988292384 * (bits .and .u32 (n.toNat : Int) 1))) = ((bit1 n).toNat : Int) := by
 have h1 : Int.fdiv (n.toNat : Int) (2 ^ (min (Int.toNat 1) (IntKind.bits .u32))) = ((n >>> 1).toNat : Int) := shr32 n 1 (by decide)
 have h2 : bits .and .u32 (n.toNat : Int) 1 = ((n &&& 1#32).toNat : Int) := and32 n 1#32
 have h3 : IntKind.u32.wrap (3988292384 * ((n &&& 1#32).toNat : Int)) = ((poly * (n &&& 1#32)).toNat : Int) := mul32 poly (n &&& 1#32)
 rw [h1, h2, h3, xor32]; rfl
theorem not_prog (x : BitVec 32) : bits .xor .u32 (if IntKind.signed .u32 then -1 else IntKind.max .u32) (x.toNat : Int) = ((~~~x).toNat : Int) := not32 x
theorem byte_in (n : BitVec 32) (c : UInt8) : bits .xor .u32 (n.toNat : Int) (IntKind.u32.wrap (c.toNat : Int)) = ((n ^^^ c.toBitVec.setWidth 32).toNat : Int) := by rw [conv8_32, xor32]
theorem wrap_succ {k : Nat} (h : k < 1099511627776) : IntKind.i64.wrap ((k : Int) + 1) = ((k + 1 : Nat) : Int) := by rw [w64 (by omega) (by omega)]; push_cast; rfl
theorem more_inner (v : Int) (n : BitVec 32) : loopN (fun (s : Int × Int) => check_More_l1 v s.1 s.2) Fu ((n.toNat : Int), 0) = some (Sum.inl (((bitN 8 n).toNat : Int), IntKind.i64.wrap (v + 1))) := by
 refine loop_fu (fun m s r => ∃ j : Nat, j ≤ 8 ∧ m = 8 - j ∧ s = (((bitN j n).toNat : Int), (j : Int)) ∧ r = Sum.inl (((bitN 8 n).toNat : Int), IntKind.i64.wrap (v + 1))) ?_ ⟨0, by omega, rfl, rfl, rfl⟩ (by omega)
 rintro m s r ⟨j, hj, rfl, rfl, rfl⟩
 by_cases h : j = 8
 ·subst h; exact .inr rfl
 ·refine .inl ⟨_, 8 - (j + 1), ?_, by omega, j + 1, by omega, rfl, rfl, rfl⟩
  simp only [check_More_l1, dec_t (by omega : (j : Int) < 8), if_true, bit1_prog, wrap_succ (by omega : j < 1099511627776)]
  rfl
theorem more_spec (x : BitVec 32) (b : List UInt8) (hb : b.length < 1099511627776) : check_More (x.toNat : Int) b = some ((more x b).toNat : Int) := by
 rw [check_More, not_prog]
 refine loop_list (l := b) (fun k r s => s = ((((b.take k).foldl byte (~~~x)).toNat : Int), (k : Int)) ∧ r = ((more x b).toNat : Int)) (by omega) ?_ ?_ ⟨by simp, rfl⟩
 ·rintro k hk r s ⟨rfl, rfl⟩
  refine .inl ⟨((((b.take (k + 1)).foldl byte (~~~x)).toNat : Int), ((k + 1 : Nat) : Int)), ?_, rfl, rfl⟩
  simp only [check_More_l0, dec_t (by omega : (k : Int) < (b.length : Int)), if_true, gd_pos (by omega : (0 : Int) ≤ (k : Int)), Int.toNat_natCast, List.getElem?_eq_getElem hk, Option.bind_some, byte_in]
  rw [more_inner, wrap_succ (by omega), fold_take _ _ _ _ hk]
  rfl
 ·rintro r s ⟨rfl, rfl⟩
  simp only [check_More_l0, dec_f (by omega : ¬ (b.length : Int) < (b.length : Int)), Bool.false_eq_true, if_false, List.take_length, not_prog]
  rfl
def sumB (b : List UInt8) : BitVec 32 := more 0#32 b
theorem sum_spec (b : List UInt8) (hb : b.length < 1099511627776) : check_Sum b = some ((sumB b).toNat : Int) := by
 have := more_spec 0#32 b hb
 rw [show ((0#32).toNat : Int) = 0 from rfl] at this
 rw [check_Sum, this]; rfl
def fourN (x : Nat) : List UInt8 := [UInt8.ofNat x, UInt8.ofNat (x / 256), UInt8.ofNat (x / 65536), UInt8.ofNat (x / 16777216)]
theorem fourN_length (x : Nat) : (fourN x).length = 4 := rfl
def wordN (a b c d : UInt8) : Nat := a.toNat + b.toNat * 256 + c.toNat * 65536 + d.toNat * 16777216
theorem shr32n (n k : Nat) (hk : k ≤ 32) : Int.fdiv (n : Int) (2 ^ (min (Int.toNat (k : Int)) (IntKind.bits .u32))) = ((n / 2 ^ k : Nat) : Int) := by
 rw [show min (Int.toNat (k : Int)) (IntKind.bits .u32) = k by simp [IntKind.bits]; omega, Int.fdiv_eq_ediv_of_nonneg _ (Int.le_of_lt (Int.pow_pos (by decide)))]
 simp
theorem putc_spec (l : List UInt8) (x : Nat) (hl : l.length ≤ 1099511627776) : check_Put l (x : Int) = some (l ++ fourN x) := by
 have hstep : ∀ (j : Nat) (o : List UInt8), j < 4 → o.length ≤ 1099511627786 → check_Put_l0 (x : Int) o (j : Int) = some (Sum.inl (o ++ [UInt8.ofNat (x / 2 ^ (8 * j))], ((j + 1 : Nat) : Int))) := by
  intro j o hj ho
  have hw : IntKind.i64.wrap (8 * (j : Int)) = ((8 * j : Nat) : Int) := by rw [w64 (by omega) (by omega)]; push_cast; rfl
  simp only [check_Put_l0, dec_t (by omega : (j : Int) < 4), if_true, hw, gd_pos (by omega : ¬ ((8 * j : Nat) : Int) < 0), shr32n x (8 * j) (by omega), u8_wrap_nat, wrap_succ (by omega : j < 1099511627776)]
  exact gd_pos (by simp only [List.length_append, List.length_singleton]; omega)
 have h0 := hstep 0 l (by decide) (by omega)
 have h1 := hstep 1 (l ++ [UInt8.ofNat (x / 2 ^ (8 * 0))]) (by decide) (by simp only [List.length_append, List.length_singleton]; omega)
 have h2 := hstep 2 (l ++ [UInt8.ofNat (x / 2 ^ (8 * 0))] ++ [UInt8.ofNat (x / 2 ^ (8 * 1))]) (by decide) (by simp only [List.length_append, List.length_singleton]; omega)
 have h3 := hstep 3 (l ++ [UInt8.ofNat (x / 2 ^ (8 * 0))] ++ [UInt8.ofNat (x / 2 ^ (8 * 1))] ++ [UInt8.ofNat (x / 2 ^ (8 * 2))]) (by decide) (by simp only [List.length_append, List.length_singleton]; omega)
 rw [check_Put, show Fu = 1208925819614629174706171 + 1 + 1 + 1 + 1 + 1 from rfl]
 rw [loop_l (s' := (l ++ [UInt8.ofNat (x / 2 ^ (8 * 0))], ((0 + 1 : Nat) : Int))) h0, loop_l h1, loop_l h2, loop_l h3, loop_r (r := l ++ [UInt8.ofNat (x / 2 ^ (8 * 0))] ++ [UInt8.ofNat (x / 2 ^ (8 * 1))] ++ [UInt8.ofNat (x / 2 ^ (8 * 2))] ++ [UInt8.ofNat (x / 2 ^ (8 * 3))])]
 ·simp [fourN]
 ·rfl
end Go.Proofs.YtbaibpjffcahiaaGreat.Ab
