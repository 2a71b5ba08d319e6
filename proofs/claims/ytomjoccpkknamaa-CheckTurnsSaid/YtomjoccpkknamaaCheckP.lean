/- The sum's algebra: it is linear, and a step is one to one. -/
import Derived.Test.YtomjoccpkknamaaCheckW
namespace Go.Proofs.Ytomjoccpkknamaa.Ab
set_option linter.unusedVariables false
set_option linter.unusedSimpArgs false

theorem and_one_xor (a b : BitVec 32) : (a ^^^ b) &&& 1#32 = (a &&& 1#32) ^^^ (b &&& 1#32) := by
  apply BitVec.eq_of_getLsbD_eq
  intro i hi
  simp only [BitVec.getLsbD_and, BitVec.getLsbD_xor]
  cases a.getLsbD i <;> cases b.getLsbD i <;> cases (1#32).getLsbD i <;> rfl
theorem bit1_xor (a b : BitVec 32) : bit1 (a ^^^ b) = bit1 a ^^^ bit1 b := by
  unfold bit1
  rw [and_one_xor, BitVec.ushiftRight_xor_distrib]
  rcases and_one a with ha | ha <;> rcases and_one b with hb | hb <;> rw [ha, hb]
  · simp
  · rw [show (0#32 ^^^ 1#32) = 1#32 by decide, show poly * 0#32 = 0#32 by decide, BitVec.xor_zero, BitVec.xor_assoc]
  · rw [show (1#32 ^^^ 0#32) = 1#32 by decide, show poly * 0#32 = 0#32 by decide, BitVec.xor_zero, BitVec.xor_assoc, BitVec.xor_assoc, BitVec.xor_comm (b >>> 1)]
  · rw [show (1#32 ^^^ 1#32) = 0#32 by decide, show poly * 0#32 = 0#32 by decide, BitVec.xor_zero, show a >>> 1 ^^^ poly * 1#32 ^^^ (b >>> 1 ^^^ poly * 1#32) = a >>> 1 ^^^ b >>> 1 ^^^ (poly * 1#32 ^^^ poly * 1#32) from by
      rw [BitVec.xor_assoc, BitVec.xor_comm (poly * 1#32) (b >>> 1 ^^^ poly * 1#32), BitVec.xor_assoc, BitVec.xor_assoc], BitVec.xor_self, BitVec.xor_zero]
theorem bitN_xor (a b : BitVec 32) : ∀ k, bitN k (a ^^^ b) = bitN k a ^^^ bitN k b
  | 0 => rfl
  | k + 1 => by rw [bitN, bitN_xor a b k, bit1_xor]; rfl
theorem bitN_add (n : BitVec 32) (a : Nat) : ∀ b, bitN (a + b) n = bitN b (bitN a n)
  | 0 => rfl
  | b + 1 => by show bit1 (bitN (a + b) n) = _; rw [bitN_add n a b]; rfl
def up (c : UInt8) : BitVec 32 := c.toBitVec.setWidth 32
theorem shift8 : ∀ c : BitVec 8, bitN 8 (c.setWidth 32 <<< 8) = c.setWidth 32 ∧ bitN 16 (c.setWidth 32 <<< 16) = c.setWidth 32 ∧ bitN 24 (c.setWidth 32 <<< 24) = c.setWidth 32 := by decide +kernel
theorem xor4 (n a b c d : BitVec 32) : bitN 8 (bitN 8 (bitN 8 (bitN 8 (n ^^^ a) ^^^ b) ^^^ c) ^^^ d) = bitN 32 (n ^^^ a) ^^^ bitN 24 b ^^^ bitN 16 c ^^^ bitN 8 d := by
  simp only [bitN_xor, ← bitN_add]
/-- Four bytes are a word. -/
theorem word4 (n : BitVec 32) (c0 c1 c2 c3 : UInt8) : byte (byte (byte (byte n c0) c1) c2) c3 = bitN 32 (n ^^^ (up c0 ^^^ up c1 <<< 8 ^^^ up c2 <<< 16 ^^^ up c3 <<< 24)) := by
  show bitN 8 (bitN 8 (bitN 8 (bitN 8 (n ^^^ up c0) ^^^ up c1) ^^^ up c2) ^^^ up c3) = _
  rw [xor4]
  have h1 := (shift8 c1.toBitVec).1
  have h2 := (shift8 c2.toBitVec).2.1
  have h3 := (shift8 c3.toBitVec).2.2
  change bitN 8 (up c1 <<< 8) = up c1 at h1
  change bitN 16 (up c2 <<< 16) = up c2 at h2
  change bitN 24 (up c3 <<< 24) = up c3 at h3
  rw [← h1, ← h2, ← h3]
  simp only [← bitN_add]
  rw [h1, h2, h3]
  rw [← BitVec.xor_assoc, ← BitVec.xor_assoc, ← BitVec.xor_assoc, bitN_xor _ (up c3 <<< 24) 32, bitN_xor _ (up c2 <<< 16) 32, bitN_xor _ (up c1 <<< 8) 32]
/-- a word's bytes, the lowest first -/
def by0 (x : BitVec 32) : UInt8 := UInt8.ofBitVec ((x &&& 255#32).setWidth 8)
def by1 (x : BitVec 32) : UInt8 := UInt8.ofBitVec ((x >>> 8 &&& 255#32).setWidth 8)
def by2 (x : BitVec 32) : UInt8 := UInt8.ofBitVec ((x >>> 16 &&& 255#32).setWidth 8)
def by3 (x : BitVec 32) : UInt8 := UInt8.ofBitVec ((x >>> 24).setWidth 8)
theorem mask_bit (i : Nat) : (255#32).getLsbD i = decide (i < 8) := by
  rw [BitVec.getLsbD_ofNat, show 255 = 2 ^ 8 - 1 by decide, Nat.testBit_two_pow_sub_one]
  by_cases h : i < 8
  · simp [h]; omega
  · simp [h]
theorem up_bit (y : BitVec 8) (i : Nat) : (up (UInt8.ofBitVec y)).getLsbD i = y.getLsbD i := by
  show (y.setWidth 32).getLsbD i = _
  rw [BitVec.getLsbD_setWidth]
  by_cases h : i < 32
  · simp [h]
  · simp [h, BitVec.getLsbD_of_ge y i (by omega)]
theorem bytes_of (x : BitVec 32) : up (by0 x) ^^^ up (by1 x) <<< 8 ^^^ up (by2 x) <<< 16 ^^^ up (by3 x) <<< 24 = x := by
  apply BitVec.eq_of_getLsbD_eq
  intro i hi
  simp only [BitVec.getLsbD_xor, BitVec.getLsbD_shiftLeft, by0, by1, by2, by3, up_bit, BitVec.getLsbD_setWidth, BitVec.getLsbD_and, BitVec.getLsbD_ushiftRight, mask_bit, hi, decide_true, Bool.true_and]
  by_cases h1 : i < 8
  · simp [h1, show i < 16 by omega, show i < 24 by omega]
  · by_cases h2 : i < 16
    · simp [h1, h2, show i < 24 by omega, show i - 8 < 8 by omega, show 8 + (i - 8) = i by omega]
    · by_cases h3 : i < 24
      · simp [h1, h2, h3, show ¬ i - 8 < 8 by omega, show i - 16 < 8 by omega, show 16 + (i - 16) = i by omega]
      · simp [h1, h2, h3, show ¬ i - 8 < 8 by omega, show ¬ i - 16 < 8 by omega, show i - 24 < 8 by omega, show 24 + (i - 24) = i by omega]
theorem rest_law (x : BitVec 32) : more x [by0 x, by1 x, by2 x, by3 x] = 558161692#32 := by
  show ~~~(byte (byte (byte (byte (~~~x) (by0 x)) (by1 x)) (by2 x)) (by3 x)) = _
  rw [word4, bytes_of, show ~~~x ^^^ x = BitVec.allOnes 32 from by
    apply BitVec.eq_of_getLsbD_eq
    intro i hi
    simp only [BitVec.getLsbD_xor, BitVec.getLsbD_not, BitVec.getLsbD_allOnes, hi, decide_true, Bool.true_and]
    cases x.getLsbD i <;> rfl]
  decide +kernel
theorem up_xor (a b : UInt8) : up (a ^^^ b) = up a ^^^ up b := by
  show ((a.toBitVec ^^^ b.toBitVec).setWidth 32) = _
  exact BitVec.setWidth_xor
theorem byte_xor (m n : BitVec 32) (a b : UInt8) : byte (m ^^^ n) (a ^^^ b) = byte m a ^^^ byte n b := by
  show bitN 8 ((m ^^^ n) ^^^ up (a ^^^ b)) = bitN 8 (m ^^^ up a) ^^^ bitN 8 (n ^^^ up b)
  rw [up_xor, ← bitN_xor]
  congr 1
  rw [BitVec.xor_assoc, BitVec.xor_assoc, ← BitVec.xor_assoc n, BitVec.xor_comm n, BitVec.xor_assoc]
def xorL (a b c : List UInt8) : List UInt8 := List.zipWith (· ^^^ ·) (List.zipWith (· ^^^ ·) a b) c
theorem fold_xor : ∀ (a b c : List UInt8) (l m n : BitVec 32), b.length = a.length → c.length = a.length → (xorL a b c).foldl byte (l ^^^ m ^^^ n) = a.foldl byte l ^^^ b.foldl byte m ^^^ c.foldl byte n
  | [], [], [], l, m, n, _, _ => rfl
  | x :: a, y :: b, z :: c, l, m, n, h1, h2 => by
    show (xorL a b c).foldl byte (byte (l ^^^ m ^^^ n) (x ^^^ y ^^^ z)) = _
    rw [byte_xor, byte_xor, fold_xor a b c _ _ _ (by simpa using h1) (by simpa using h2)]
    rfl
  | [], _ :: _, _, _, _, _, h, _ => by simp at h
  | [], [], _ :: _, _, _, _, _, h => by simp at h
  | _ :: _, [], _, _, _, _, h, _ => by simp at h
  | _ :: _, _ :: _, [], _, _, _, _, h => by simp at h
theorem not_xor3 (x y z : BitVec 32) : ~~~x ^^^ ~~~y ^^^ ~~~z = ~~~(x ^^^ y ^^^ z) := by
  apply BitVec.eq_of_getLsbD_eq
  intro i hi
  simp only [BitVec.getLsbD_xor, BitVec.getLsbD_not, hi, decide_true, Bool.true_and]
  cases x.getLsbD i <;> cases y.getLsbD i <;> cases z.getLsbD i <;> rfl
theorem adds_law (a b c : List UInt8) (h1 : b.length = a.length) (h2 : c.length = a.length) : more 0#32 a ^^^ more 0#32 b ^^^ more 0#32 c = more 0#32 (xorL a b c) := by
  unfold more
  rw [not_xor3, ← fold_xor a b c _ _ _ h1 h2, show ~~~0#32 ^^^ ~~~0#32 ^^^ ~~~0#32 = ~~~0#32 by decide]
theorem xorL_length (a b c : List UInt8) (h1 : b.length = a.length) (h2 : c.length = a.length) : (xorL a b c).length = a.length := by
  simp [xorL, h1, h2]
theorem xorL_take (a b c : List UInt8) (h1 : b.length = a.length) (h2 : c.length = a.length) (i : Nat) (h : i < a.length) : (xorL a b c).take (i + 1) = (xorL a b c).take i ++ [a[i] ^^^ b[i] ^^^ c[i]] := by
  rw [List.take_succ_eq_append_getElem (by rw [xorL_length a b c h1 h2]; exact h)]
  simp [xorL]
end Go.Proofs.Ytomjoccpkknamaa.Ab
