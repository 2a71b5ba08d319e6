/- What 'check' and the reference do with bytes, told plainly: sums, and a sum's four bytes. -/
import Derived.Test.YtjklegmimpehlaaGreatPKit
import Derived.Test.YtjklegmimpehlaaGreatXBSum
import Derived.Test.YtjklegmimpehlaaGreatPRW
namespace Go.Proofs.YtjklegmimpehlaaGreat.Ab
open Go Go.RowKit
set_option linter.unusedVariables false
set_option linter.unusedSimpArgs false
def poly : BitVec 32 := 3988292384#32
def bit1 (n : BitVec 32) : BitVec 32 := (n >>> 1) ^^^ (poly * (n &&& 1#32))
def bitN : Nat → BitVec 32 → BitVec 32
 | 0, n => n
 | k + 1, n => bit1 (bitN k n)
def byte (n : BitVec 32) (c : UInt8) : BitVec 32 := bitN 8 (n ^^^ c.toBitVec.setWidth 32)
def more (x : BitVec 32) (b : List UInt8) : BitVec 32 := ~~~(b.foldl byte (~~~x))
theorem fold_take {α β : Type} (f : β → α → β) (b : List α) (a : β) (i : Nat) (h : i < b.length) : (b.take (i + 1)).foldl f a = f ((b.take i).foldl f a) b[i] := by
 rw [List.take_succ_eq_append_getElem h, List.foldl_append]; rfl
theorem and_one (n : BitVec 32) : n &&& 1#32 = 0#32 ∨ n &&& 1#32 = 1#32 := by
 have h : (n &&& 1#32).toNat = n.toNat % 2 := by
  rw [BitVec.toNat_and]; exact Nat.and_one_is_mod _
 rcases Nat.mod_two_eq_zero_or_one n.toNat with h2 | h2
 ·exact .inl (BitVec.eq_of_toNat_eq (by rw [h, h2]; rfl))
 ·exact .inr (BitVec.eq_of_toNat_eq (by rw [h, h2]; rfl))
theorem and_one_xor (a b : BitVec 32) : (a ^^^ b) &&& 1#32 = (a &&& 1#32) ^^^ (b &&& 1#32) := by
 apply BitVec.eq_of_getLsbD_eq
 intro i hi
 simp only [BitVec.getLsbD_and, BitVec.getLsbD_xor]
 cases a.getLsbD i <;> cases b.getLsbD i <;> cases (1#32).getLsbD i <;> rfl
theorem bit1_xor (a b : BitVec 32) : bit1 (a ^^^ b) = bit1 a ^^^ bit1 b := by
 unfold bit1
 rw [and_one_xor, BitVec.ushiftRight_xor_distrib]
 rcases and_one a with ha | ha <;> rcases and_one b with hb | hb <;> rw [ha, hb]
 ·simp
 ·rw [show (0#32 ^^^ 1#32) = 1#32 by decide, show poly * 0#32 = 0#32 by decide, BitVec.xor_zero, BitVec.xor_assoc]
 ·rw [show (1#32 ^^^ 0#32) = 1#32 by decide, show poly * 0#32 = 0#32 by decide, BitVec.xor_zero, BitVec.xor_assoc, BitVec.xor_assoc, BitVec.xor_comm (b >>> 1)]
 ·rw [show (1#32 ^^^ 1#32) = 0#32 by decide, show poly * 0#32 = 0#32 by decide, BitVec.xor_zero, show a >>> 1 ^^^ poly * 1#32 ^^^ (b >>> 1 ^^^ poly * 1#32) = a >>> 1 ^^^ b >>> 1 ^^^ (poly * 1#32 ^^^ poly * 1#32) from by
   rw [BitVec.xor_assoc, BitVec.xor_comm (poly * 1#32) (b >>> 1 ^^^ poly * 1#32), BitVec.xor_assoc, BitVec.xor_assoc], BitVec.xor_self, BitVec.xor_zero]
theorem bitN_xor (a b : BitVec 32) : ∀ k, bitN k (a ^^^ b) = bitN k a ^^^ bitN k b
 | 0 => rfl
 | k + 1 => by rw [bitN, bitN_xor a b k, bit1_xor]; rfl
theorem bitN_add (n : BitVec 32) (a : Nat) : ∀ b, bitN (a + b) n = bitN b (bitN a n)
 | 0 => rfl
 | b + 1 => by show bit1 (bitN (a + b) n) = _; rw [bitN_add n a b]; rfl
def up (c : UInt8) : BitVec 32 := c.toBitVec.setWidth 32
def by0 (x : BitVec 32) : UInt8 := UInt8.ofBitVec ((x &&& 255#32).setWidth 8)
def by1 (x : BitVec 32) : UInt8 := UInt8.ofBitVec ((x >>> 8 &&& 255#32).setWidth 8)
def by2 (x : BitVec 32) : UInt8 := UInt8.ofBitVec ((x >>> 16 &&& 255#32).setWidth 8)
def by3 (x : BitVec 32) : UInt8 := UInt8.ofBitVec ((x >>> 24).setWidth 8)
theorem up_xor (a b : UInt8) : up (a ^^^ b) = up a ^^^ up b := by
 show ((a.toBitVec ^^^ b.toBitVec).setWidth 32) = _
 exact BitVec.setWidth_xor
def xorL (a b c : List UInt8) : List UInt8 := List.zipWith (· ^^^ ·) (List.zipWith (· ^^^ ·) a b) c
theorem bit1_inj (n : BitVec 32) (h : bit1 n = 0#32) : n = 0#32 := by
 rcases and_one n with h0 | h0
 ·have h1 : n >>> 1 = 0#32 := by
   rw [bit1, h0] at h
   simpa using h
  apply BitVec.eq_of_toNat_eq
  have h2 : (n >>> 1).toNat = 0 := by rw [h1]; rfl
  rw [BitVec.toNat_ushiftRight, Nat.shiftRight_eq_div_pow] at h2
  have h3 : (n &&& 1#32).toNat = n.toNat % 2 := by rw [BitVec.toNat_and]; exact Nat.and_one_is_mod _
  rw [h0] at h3
  simp at h2 h3 ⊢
  omega
 ·rw [bit1, h0] at h
  have h1 : n >>> 1 = poly * 1#32 := by
   have := congrArg (· ^^^ (poly * 1#32)) h
   simpa [BitVec.xor_assoc] using this
  have h2 : (n >>> 1).toNat = (poly * 1#32).toNat := by rw [h1]
  rw [BitVec.toNat_ushiftRight, Nat.shiftRight_eq_div_pow, show (poly * 1#32).toNat = 3988292384 by decide] at h2
  have := n.isLt
  omega
theorem bitN_inj0 (n : BitVec 32) : ∀ k, bitN k n = 0#32 → n = 0#32
 | 0, h => h
 | k + 1, h => bitN_inj0 n k (bit1_inj _ h)
theorem fold_lin : ∀ (r : List UInt8) (m y : BitVec 32), r.foldl byte (m ^^^ y) = r.foldl byte m ^^^ bitN (8 * r.length) y
 | [], m, y => rfl
 | x :: r, m, y => by
  show r.foldl byte (byte (m ^^^ y) x) = r.foldl byte (byte m x) ^^^ _
  have h : byte (m ^^^ y) x = byte m x ^^^ bitN 8 y := by
   show bitN 8 (m ^^^ y ^^^ up x) = bitN 8 (m ^^^ up x) ^^^ bitN 8 y
   rw [← bitN_xor]
   congr 1
   rw [BitVec.xor_assoc, BitVec.xor_comm y, BitVec.xor_assoc]
  rw [h, fold_lin r, ← bitN_add]
  congr 2
  simp [List.length_cons]; omega
def flip (b : List UInt8) (p : Nat) (v : UInt8) : List UInt8 := b.set p (b.getD p 0 ^^^ v)
theorem flip_length (b : List UInt8) (p : Nat) (v : UInt8) : (flip b p v).length = b.length := by simp [flip]
theorem fold_flip : ∀ (b : List UInt8) (p : Nat) (v : UInt8) (n : BitVec 32), p < b.length → (flip b p v).foldl byte n = b.foldl byte n ^^^ bitN (8 * (b.length - p)) (up v)
 | [], p, v, n, h => by simp at h
 | x :: r, 0, v, n, _ => by
  show r.foldl byte (byte n (x ^^^ v)) = r.foldl byte (byte n x) ^^^ _
  have h : byte n (x ^^^ v) = byte n x ^^^ bitN 8 (up v) := by
   show bitN 8 (n ^^^ up (x ^^^ v)) = bitN 8 (n ^^^ up x) ^^^ bitN 8 (up v)
   rw [up_xor, ← bitN_xor, BitVec.xor_assoc]
  rw [h, fold_lin, ← bitN_add]
  congr 2
  simp [List.length_cons]; omega
 | x :: r, p + 1, v, n, h => by
  show (flip r p v).foldl byte (byte n x) = _
  rw [fold_flip r p v _ (by simpa using h)]
  simp
theorem more_flip (b : List UInt8) (p : Nat) (v : UInt8) (h : p < b.length) : more 0#32 (flip b p v) = more 0#32 b ^^^ bitN (8 * (b.length - p)) (up v) := by
 unfold more
 rw [fold_flip b p v _ h]
 apply BitVec.eq_of_getLsbD_eq
 intro i hi
 simp only [BitVec.getLsbD_xor, BitVec.getLsbD_not, hi, decide_true, Bool.true_and]
 cases (b.foldl byte (~~~0#32)).getLsbD i <;> cases (bitN (8 * (b.length - p)) (up v)).getLsbD i <;> rfl
def bitB (q : Nat) : UInt8 := UInt8.ofNat (2 ^ q)
theorem bitB_one (q : Nat) (h : q < 8) : bitN q (up (bitB q)) = 1#32 := by
 have : ∀ q : Fin 8, bitN q.val (up (bitB q.val)) = 1#32 := by decide +kernel
 exact this ⟨q, h⟩
theorem flip_bit (b : List UInt8) (t : Nat) (h : t < 8 * b.length) : more 0#32 (flip b (t / 8) (bitB (t % 8))) = more 0#32 b ^^^ bitN (8 * b.length - t) 1#32 := by
 rw [more_flip b _ _ (by omega), ← bitB_one (t % 8) (Nat.mod_lt _ (by decide)), ← bitN_add]
 congr 2
 omega
def chk : Nat → BitVec 32 → Bool
 | 0, _ => true
 | k + 1, n => (bit1 n != 1#32) && chk k (bit1 n)
theorem turn_one (b : List UInt8) (t : Nat) (h : t < 8 * b.length) : more 0#32 (flip b (t / 8) (bitB (t % 8))) ≠ more 0#32 b := by
 intro e
 rw [flip_bit b t h] at e
 have h1 : bitN (8 * b.length - t) 1#32 = 0#32 := by
  have := congrArg (more 0#32 b ^^^ ·) e
  simpa [← BitVec.xor_assoc] using this
 exact absurd (bitN_inj0 _ _ h1) (by decide)
def byteOf (x : BitVec 32) (j : Nat) : UInt8 := UInt8.ofBitVec ((x >>> (8 * j) &&& 255#32).setWidth 8)
def burstN (b : List UInt8) (p : Nat) (x : BitVec 32) : Nat → List UInt8
 | 0 => b
 | j + 1 => flip (burstN b p x j) (p + j) (byteOf x j)
end Go.Proofs.YtjklegmimpehlaaGreat.Ab
namespace Go.Proofs.YtjklegmimpehlaaGreat.Ab
open Go Go.RowKit
set_option linter.unusedVariables false
set_option linter.unusedSimpArgs false
theorem bit1_prog (n : BitVec 32) : bits .xor .u32 (Int.fdiv (n.toNat : Int) (2 ^ (min (Int.toNat 1) (IntKind.bits .u32)))) (IntKind.u32.wrap (3988292384 * (bits .and .u32 (n.toNat : Int) 1))) = ((bit1 n).toNat : Int) := by
 have h1 : Int.fdiv (n.toNat : Int) (2 ^ (min (Int.toNat 1) (IntKind.bits .u32))) = ((n >>> 1).toNat : Int) := shr32 n 1 (by decide)
 have h2 : bits .and .u32 (n.toNat : Int) 1 = ((n &&& 1#32).toNat : Int) := and32 n 1#32
 have h3 : IntKind.u32.wrap (3988292384 * ((n &&& 1#32).toNat : Int)) = ((poly * (n &&& 1#32)).toNat : Int) := mul32 poly (n &&& 1#32)
 rw [h1, h2, h3, xor32]; rfl
theorem not_prog (x : BitVec 32) : bits .xor .u32 (if IntKind.signed .u32 then -1 else IntKind.max .u32) (x.toNat : Int) = ((~~~x).toNat : Int) := not32 x
theorem byte_in (n : BitVec 32) (c : UInt8) : bits .xor .u32 (n.toNat : Int) (IntKind.u32.wrap (c.toNat : Int)) = ((n ^^^ c.toBitVec.setWidth 32).toNat : Int) := by rw [conv8_32, xor32]
theorem wrap_succ {k : Nat} (h : k < 1099511627776) : IntKind.i64.wrap ((k : Int) + 1) = ((k + 1 : Nat) : Int) := by rw [w64 (by omega) (by omega)]; push_cast; rfl
theorem more_inner (v : Int) (n : BitVec 32) : loopN (fun (s : Int × Int) => check_More_l1 v s.1 s.2) Fu ((n.toNat : Int), 0) = some (Sum.inl (((bitN 8 n).toNat : Int), IntKind.i64.wrap (v + 1))) := by
 refine loop_fu (fun m s r => ∃ j : Nat, j ≤ 8 ∧ m = 8 - j ∧ s = (((bitN j n).toNat : Int), (j : Int)) ∧ r = Sum.inl (((bitN 8 n).toNat : Int), IntKind.i64.wrap (v + 1))) ?_ ⟨0, by omega, rfl, rfl, rfl⟩ (by omega)
 rintro m s r ⟨j, hj, rfl, rfl, rfl⟩
 by_cases h : j = 8
 ·subst h; exact .inr rfl
 ·refine .inl ⟨_, 8 - (j + 1), ?_, by omega, j + 1, by omega, rfl, rfl, rfl⟩
  simp only [check_More_l1, dec_t (by omega : (j : Int) < 8), if_true, bit1_prog, wrap_succ (by omega : j < 1099511627776)]
  rfl
theorem more_spec (x : BitVec 32) (b : List UInt8) (hb : b.length < 1099511627776) : check_More (x.toNat : Int) b = some ((more x b).toNat : Int) := by
 rw [check_More, not_prog]
 refine loop_list (l := b) (fun k r s => s = ((((b.take k).foldl byte (~~~x)).toNat : Int), (k : Int)) ∧ r = ((more x b).toNat : Int)) (by omega) ?_ ?_ ⟨by simp, rfl⟩
 ·rintro k hk r s ⟨rfl, rfl⟩
  refine .inl ⟨((((b.take (k + 1)).foldl byte (~~~x)).toNat : Int), ((k + 1 : Nat) : Int)), ?_, rfl, rfl⟩
  simp only [check_More_l0, dec_t (by omega : (k : Int) < (b.length : Int)), if_true, gd_pos (by omega : (0 : Int) ≤ (k : Int)), Int.toNat_natCast, List.getElem?_eq_getElem hk, Option.bind_some, byte_in]
  rw [more_inner, wrap_succ (by omega), fold_take _ _ _ _ hk]
  rfl
 ·rintro r s ⟨rfl, rfl⟩
  simp only [check_More_l0, dec_f (by omega : ¬ (b.length : Int) < (b.length : Int)), Bool.false_eq_true, if_false, List.take_length, not_prog]
  rfl
def sumB (b : List UInt8) : BitVec 32 := more 0#32 b
theorem sum_spec (b : List UInt8) (hb : b.length < 1099511627776) : check_Sum b = some ((sumB b).toNat : Int) := by
 have := more_spec 0#32 b hb
 rw [show ((0#32).toNat : Int) = 0 from rfl] at this
 rw [check_Sum, this]; rfl
def fourN (x : Nat) : List UInt8 := [UInt8.ofNat x, UInt8.ofNat (x / 256), UInt8.ofNat (x / 65536), UInt8.ofNat (x / 16777216)]
theorem fourN_length (x : Nat) : (fourN x).length = 4 := rfl
def wordN (a b c d : UInt8) : Nat := a.toNat + b.toNat * 256 + c.toNat * 65536 + d.toNat * 16777216
theorem word_four {x : Nat} (h : x < 4294967296) : wordN (UInt8.ofNat x) (UInt8.ofNat (x / 256)) (UInt8.ofNat (x / 65536)) (UInt8.ofNat (x / 16777216)) = x := by simp [wordN]; omega
theorem four_word (a b c d : UInt8) : fourN (wordN a b c d) = [a, b, c, d] := by
 have ha := a.toNat_lt; have hb := b.toNat_lt; have hc := c.toNat_lt; have hd := d.toNat_lt
 simp only [fourN, wordN, List.cons.injEq, and_true]
 refine ⟨?_, ?_, ?_, ?_⟩ <;> apply UInt8.toNat_inj.1 <;> simp <;> omega
theorem fourN_inj {x y : Nat} (hx : x < 4294967296) (hy : y < 4294967296) (h : fourN x = fourN y) : x = y := by
 rw [← word_four hx, ← word_four hy]
 simp only [fourN, List.cons.injEq, and_true] at h
 rw [h.1, h.2.1, h.2.2.1, h.2.2.2]
theorem shr32n (n k : Nat) (hk : k ≤ 32) : Int.fdiv (n : Int) (2 ^ (min (Int.toNat (k : Int)) (IntKind.bits .u32))) = ((n / 2 ^ k : Nat) : Int) := by
 rw [show min (Int.toNat (k : Int)) (IntKind.bits .u32) = k by simp [IntKind.bits]; omega, Int.fdiv_eq_ediv_of_nonneg _ (Int.le_of_lt (Int.pow_pos (by decide)))]
 simp
theorem putc_spec (l : List UInt8) (x : Nat) (hl : l.length ≤ 1099511627776) : check_Put l (x : Int) = some (l ++ fourN x) := by
 have hstep : ∀ (j : Nat) (o : List UInt8), j < 4 → o.length ≤ 1099511627786 → check_Put_l0 (x : Int) o (j : Int) = some (Sum.inl (o ++ [UInt8.ofNat (x / 2 ^ (8 * j))], ((j + 1 : Nat) : Int))) := by
  intro j o hj ho
  have hw : IntKind.i64.wrap (8 * (j : Int)) = ((8 * j : Nat) : Int) := by rw [w64 (by omega) (by omega)]; push_cast; rfl
  simp only [check_Put_l0, dec_t (by omega : (j : Int) < 4), if_true, hw, gd_pos (by omega : ¬ ((8 * j : Nat) : Int) < 0), shr32n x (8 * j) (by omega), u8_wrap_nat, wrap_succ (by omega : j < 1099511627776)]
  exact gd_pos (by simp only [List.length_append, List.length_singleton]; omega)
 have h0 := hstep 0 l (by decide) (by omega)
 have h1 := hstep 1 (l ++ [UInt8.ofNat (x / 2 ^ (8 * 0))]) (by decide) (by simp only [List.length_append, List.length_singleton]; omega)
 have h2 := hstep 2 (l ++ [UInt8.ofNat (x / 2 ^ (8 * 0))] ++ [UInt8.ofNat (x / 2 ^ (8 * 1))]) (by decide) (by simp only [List.length_append, List.length_singleton]; omega)
 have h3 := hstep 3 (l ++ [UInt8.ofNat (x / 2 ^ (8 * 0))] ++ [UInt8.ofNat (x / 2 ^ (8 * 1))] ++ [UInt8.ofNat (x / 2 ^ (8 * 2))]) (by decide) (by simp only [List.length_append, List.length_singleton]; omega)
 rw [check_Put, show Fu = 1208925819614629174706171 + 1 + 1 + 1 + 1 + 1 from rfl]
 rw [loop_l (s' := (l ++ [UInt8.ofNat (x / 2 ^ (8 * 0))], ((0 + 1 : Nat) : Int))) h0, loop_l h1, loop_l h2, loop_l h3, loop_r (r := l ++ [UInt8.ofNat (x / 2 ^ (8 * 0))] ++ [UInt8.ofNat (x / 2 ^ (8 * 1))] ++ [UInt8.ofNat (x / 2 ^ (8 * 2))] ++ [UInt8.ofNat (x / 2 ^ (8 * 3))])]
 ·simp [fourN]
 ·rfl
theorem or_byte {acc i : Nat} (c : UInt8) (ha : acc < 2 ^ (8 * i)) (hi : i < 4) :
  bits .or .u32 (acc : Int) (IntKind.u32.wrap ((IntKind.u32.wrap (c.toNat : Int)) * 2 ^ (min (8 * i) (IntKind.bits .u32)))) = ((acc + c.toNat * 2 ^ (8 * i) : Nat) : Int) ∧ acc + c.toNat * 2 ^ (8 * i) < 2 ^ (8 * (i + 1)) := by
 have hc := c.toNat_lt
 have e : min (8 * i) (IntKind.bits .u32) = 8 * i := by simp [IntKind.bits]; omega
 have h3 : acc + c.toNat * 2 ^ (8 * i) < 2 ^ (8 * (i + 1)) := by
  rw [show 8 * (i + 1) = 8 + 8 * i by omega, Nat.pow_add]
  have : c.toNat * 2 ^ (8 * i) + 2 ^ (8 * i) ≤ 2 ^ 8 * 2 ^ (8 * i) := by rw [← Nat.succ_mul]; exact Nat.mul_le_mul_right _ (by omega)
  omega
 have hp : 2 ^ (8 * (i + 1)) ≤ 2 ^ 32 := Nat.pow_le_pow_right (by decide) (by omega)
 have h1 : c.toNat * 2 ^ (8 * i) < 4294967296 := by omega
 have h2 : acc < 4294967296 := by omega
 have hor : acc ||| c.toNat * 2 ^ (8 * i) = acc + c.toNat * 2 ^ (8 * i) := by
  rw [Nat.or_comm, Nat.mul_comm c.toNat, ← Nat.two_pow_add_eq_or_of_lt ha, Nat.add_comm]
 have hb := or32 (BitVec.ofNat 32 acc) (BitVec.ofNat 32 (c.toNat * 2 ^ (8 * i)))
 rw [BitVec.toNat_or, BitVec.toNat_ofNat, BitVec.toNat_ofNat, Nat.mod_eq_of_lt h2, Nat.mod_eq_of_lt h1, hor] at hb
 refine ⟨?_, h3⟩
 rw [e, wrap_u32 c.toNat (by omega), show ((c.toNat : Int) * 2 ^ (8 * i)) = ((c.toNat * 2 ^ (8 * i) : Nat) : Int) by push_cast; rfl, wrap_u32 _ h1]
 exact hb
theorem getc_spec (a b c d : UInt8) (r : List UInt8) (hr : r.length ≤ 1099511627776) : check_Get (a :: b :: c :: d :: r) = some (((wordN a b c d : Nat) : Int), true) := by
 have hstep : ∀ (j acc : Nat) (q : UInt8), j < 4 → acc < 2 ^ (8 * j) → (a :: b :: c :: d :: r)[j]? = some q → check_Get_l0 (a :: b :: c :: d :: r) (acc : Int) (j : Int) = some (Sum.inl (((acc + q.toNat * 2 ^ (8 * j) : Nat) : Int), ((j + 1 : Nat) : Int))) := by
  intro j acc q hj ha hq
  have hw : IntKind.i64.wrap (8 * (j : Int)) = ((8 * j : Nat) : Int) := by rw [w64 (by omega) (by omega)]; push_cast; rfl
  have ho := (or_byte q ha hj).1
  simp only [check_Get_l0, dec_t (by omega : (j : Int) < 4), if_true, gd_pos (by omega : (0 : Int) ≤ (j : Int)), Int.toNat_natCast, hq, Option.bind_some, hw, gd_pos (by omega : ¬ ((8 * j : Nat) : Int) < 0), wrap_succ (by omega : j < 1099511627776), ho]
 have ha := a.toNat_lt; have hb := b.toNat_lt; have hc := c.toNat_lt; have hd := d.toNat_lt
 have h0 := hstep 0 0 a (by decide) (by decide) rfl
 have h1 := hstep 1 (0 + a.toNat * 2 ^ (8 * 0)) b (by decide) (by omega) rfl
 have h2 := hstep 2 (0 + a.toNat * 2 ^ (8 * 0) + b.toNat * 2 ^ (8 * 1)) c (by decide) (by omega) rfl
 have h3 := hstep 3 (0 + a.toNat * 2 ^ (8 * 0) + b.toNat * 2 ^ (8 * 1) + c.toNat * 2 ^ (8 * 2)) d (by decide) (by omega) rfl
 have hlen : ¬ ((List.length (a :: b :: c :: d :: r) : Int) < 4) := by simp only [List.length_cons]; omega
 rw [check_Get, ite_f (dec_f hlen), show Fu = 1208925819614629174706171 + 1 + 1 + 1 + 1 + 1 from rfl]
 rw [loop_l (s' := (((0 + a.toNat * 2 ^ (8 * 0) : Nat) : Int), ((0 + 1 : Nat) : Int))) h0, loop_l h1, loop_l h2, loop_l h3, loop_r (r := (((0 + a.toNat * 2 ^ (8 * 0) + b.toNat * 2 ^ (8 * 1) + c.toNat * 2 ^ (8 * 2) + d.toNat * 2 ^ (8 * 3) : Nat) : Int), true))]
 ·simp [wordN]
 ·rfl
end Go.Proofs.YtjklegmimpehlaaGreat.Ab
