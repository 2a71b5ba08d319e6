/- The sum of bytes, told plainly; and that bytes of which one bit was turned have another one. -/
import Derived.Test.YtbfmmaabaenhgaaPKit
namespace Go.Proofs.Ytbfmmaabaenhgaa.Ab
open Go Go.RowKit
set_option linter.unusedVariables false
set_option linter.unusedSimpArgs false

def poly : BitVec 32 := 3988292384#32
def bit1 (n : BitVec 32) : BitVec 32 := (n >>> 1) ^^^ (poly * (n &&& 1#32))
def bitN : Nat → BitVec 32 → BitVec 32
  | 0, n => n
  | k + 1, n => bit1 (bitN k n)
def byte (n : BitVec 32) (c : UInt8) : BitVec 32 := bitN 8 (n ^^^ c.toBitVec.setWidth 32)
def more (x : BitVec 32) (b : List UInt8) : BitVec 32 := ~~~(b.foldl byte (~~~x))
theorem fold_take {α β : Type} (f : β → α → β) (b : List α) (a : β) (i : Nat) (h : i < b.length) : (b.take (i + 1)).foldl f a = f ((b.take i).foldl f a) b[i] := by
  rw [List.take_succ_eq_append_getElem h, List.foldl_append]; rfl
theorem more_append (x : BitVec 32) (a b : List UInt8) : more (more x a) b = more x (a ++ b) := by
  simp [more, List.foldl_append, BitVec.not_not]
theorem and_one (n : BitVec 32) : n &&& 1#32 = 0#32 ∨ n &&& 1#32 = 1#32 := by
  have h : (n &&& 1#32).toNat = n.toNat % 2 := by
    rw [BitVec.toNat_and]; exact Nat.and_one_is_mod _
  rcases Nat.mod_two_eq_zero_or_one n.toNat with h2 | h2
  · exact .inl (BitVec.eq_of_toNat_eq (by rw [h, h2]; rfl))
  · exact .inr (BitVec.eq_of_toNat_eq (by rw [h, h2]; rfl))
theorem bit1_odd (n : BitVec 32) (h : ((n &&& 1#32).toNat : Int) = 1) : (n >>> 1) ^^^ poly = bit1 n := by
  have : n &&& 1#32 = 1#32 := BitVec.eq_of_toNat_eq (by
    have : (n &&& 1#32).toNat = 1 := by omega
    rw [this]; rfl)
  rw [bit1, this]; rfl
theorem bit1_even (n : BitVec 32) (h : ¬ ((n &&& 1#32).toNat : Int) = 1) : n >>> 1 = bit1 n := by
  rcases and_one n with h0 | h1
  · rw [bit1, h0]; simp
  · rw [h1] at h; exact absurd rfl h


theorem and_one_xor (a b : BitVec 32) : (a ^^^ b) &&& 1#32 = (a &&& 1#32) ^^^ (b &&& 1#32) := by
  apply BitVec.eq_of_getLsbD_eq
  intro i hi
  simp only [BitVec.getLsbD_and, BitVec.getLsbD_xor]
  cases a.getLsbD i <;> cases b.getLsbD i <;> cases (1#32).getLsbD i <;> rfl
theorem bit1_xor (a b : BitVec 32) : bit1 (a ^^^ b) = bit1 a ^^^ bit1 b := by
  unfold bit1
  rw [and_one_xor, BitVec.ushiftRight_xor_distrib]
  rcases and_one a with ha | ha <;> rcases and_one b with hb | hb <;> rw [ha, hb]
  · simp
  · rw [show (0#32 ^^^ 1#32) = 1#32 by decide, show poly * 0#32 = 0#32 by decide, BitVec.xor_zero, BitVec.xor_assoc]
  · rw [show (1#32 ^^^ 0#32) = 1#32 by decide, show poly * 0#32 = 0#32 by decide, BitVec.xor_zero, BitVec.xor_assoc, BitVec.xor_assoc, BitVec.xor_comm (b >>> 1)]
  · rw [show (1#32 ^^^ 1#32) = 0#32 by decide, show poly * 0#32 = 0#32 by decide, BitVec.xor_zero, show a >>> 1 ^^^ poly * 1#32 ^^^ (b >>> 1 ^^^ poly * 1#32) = a >>> 1 ^^^ b >>> 1 ^^^ (poly * 1#32 ^^^ poly * 1#32) from by
      rw [BitVec.xor_assoc, BitVec.xor_comm (poly * 1#32) (b >>> 1 ^^^ poly * 1#32), BitVec.xor_assoc, BitVec.xor_assoc], BitVec.xor_self, BitVec.xor_zero]
theorem bitN_xor (a b : BitVec 32) : ∀ k, bitN k (a ^^^ b) = bitN k a ^^^ bitN k b
  | 0 => rfl
  | k + 1 => by rw [bitN, bitN_xor a b k, bit1_xor]; rfl
theorem bitN_add (n : BitVec 32) (a : Nat) : ∀ b, bitN (a + b) n = bitN b (bitN a n)
  | 0 => rfl
  | b + 1 => by show bit1 (bitN (a + b) n) = _; rw [bitN_add n a b]; rfl
def up (c : UInt8) : BitVec 32 := c.toBitVec.setWidth 32
theorem shift8 : ∀ c : BitVec 8, bitN 8 (c.setWidth 32 <<< 8) = c.setWidth 32 ∧ bitN 16 (c.setWidth 32 <<< 16) = c.setWidth 32 ∧ bitN 24 (c.setWidth 32 <<< 24) = c.setWidth 32 := by decide +kernel
theorem xor4 (n a b c d : BitVec 32) : bitN 8 (bitN 8 (bitN 8 (bitN 8 (n ^^^ a) ^^^ b) ^^^ c) ^^^ d) = bitN 32 (n ^^^ a) ^^^ bitN 24 b ^^^ bitN 16 c ^^^ bitN 8 d := by
  simp only [bitN_xor, ← bitN_add]
/-- Four bytes are a word. -/
theorem word4 (n : BitVec 32) (c0 c1 c2 c3 : UInt8) : byte (byte (byte (byte n c0) c1) c2) c3 = bitN 32 (n ^^^ (up c0 ^^^ up c1 <<< 8 ^^^ up c2 <<< 16 ^^^ up c3 <<< 24)) := by
  show bitN 8 (bitN 8 (bitN 8 (bitN 8 (n ^^^ up c0) ^^^ up c1) ^^^ up c2) ^^^ up c3) = _
  rw [xor4]
  have h1 := (shift8 c1.toBitVec).1
  have h2 := (shift8 c2.toBitVec).2.1
  have h3 := (shift8 c3.toBitVec).2.2
  change bitN 8 (up c1 <<< 8) = up c1 at h1
  change bitN 16 (up c2 <<< 16) = up c2 at h2
  change bitN 24 (up c3 <<< 24) = up c3 at h3
  rw [← h1, ← h2, ← h3]
  simp only [← bitN_add]
  rw [h1, h2, h3]
  rw [← BitVec.xor_assoc, ← BitVec.xor_assoc, ← BitVec.xor_assoc, bitN_xor _ (up c3 <<< 24) 32, bitN_xor _ (up c2 <<< 16) 32, bitN_xor _ (up c1 <<< 8) 32]
/-- a word's bytes, the lowest first -/
def by0 (x : BitVec 32) : UInt8 := UInt8.ofBitVec ((x &&& 255#32).setWidth 8)
def by1 (x : BitVec 32) : UInt8 := UInt8.ofBitVec ((x >>> 8 &&& 255#32).setWidth 8)
def by2 (x : BitVec 32) : UInt8 := UInt8.ofBitVec ((x >>> 16 &&& 255#32).setWidth 8)
def by3 (x : BitVec 32) : UInt8 := UInt8.ofBitVec ((x >>> 24).setWidth 8)
theorem mask_bit (i : Nat) : (255#32).getLsbD i = decide (i < 8) := by
  rw [BitVec.getLsbD_ofNat, show 255 = 2 ^ 8 - 1 by decide, Nat.testBit_two_pow_sub_one]
  by_cases h : i < 8
  · simp [h]; omega
  · simp [h]
theorem up_bit (y : BitVec 8) (i : Nat) : (up (UInt8.ofBitVec y)).getLsbD i = y.getLsbD i := by
  show (y.setWidth 32).getLsbD i = _
  rw [BitVec.getLsbD_setWidth]
  by_cases h : i < 32
  · simp [h]
  · simp [h, BitVec.getLsbD_of_ge y i (by omega)]
theorem bytes_of (x : BitVec 32) : up (by0 x) ^^^ up (by1 x) <<< 8 ^^^ up (by2 x) <<< 16 ^^^ up (by3 x) <<< 24 = x := by
  apply BitVec.eq_of_getLsbD_eq
  intro i hi
  simp only [BitVec.getLsbD_xor, BitVec.getLsbD_shiftLeft, by0, by1, by2, by3, up_bit, BitVec.getLsbD_setWidth, BitVec.getLsbD_and, BitVec.getLsbD_ushiftRight, mask_bit, hi, decide_true, Bool.true_and]
  by_cases h1 : i < 8
  · simp [h1, show i < 16 by omega, show i < 24 by omega]
  · by_cases h2 : i < 16
    · simp [h1, h2, show i < 24 by omega, show i - 8 < 8 by omega, show 8 + (i - 8) = i by omega]
    · by_cases h3 : i < 24
      · simp [h1, h2, h3, show ¬ i - 8 < 8 by omega, show i - 16 < 8 by omega, show 16 + (i - 16) = i by omega]
      · simp [h1, h2, h3, show ¬ i - 8 < 8 by omega, show ¬ i - 16 < 8 by omega, show i - 24 < 8 by omega, show 24 + (i - 24) = i by omega]
theorem rest_law (x : BitVec 32) : more x [by0 x, by1 x, by2 x, by3 x] = 558161692#32 := by
  show ~~~(byte (byte (byte (byte (~~~x) (by0 x)) (by1 x)) (by2 x)) (by3 x)) = _
  rw [word4, bytes_of, show ~~~x ^^^ x = BitVec.allOnes 32 from by
    apply BitVec.eq_of_getLsbD_eq
    intro i hi
    simp only [BitVec.getLsbD_xor, BitVec.getLsbD_not, BitVec.getLsbD_allOnes, hi, decide_true, Bool.true_and]
    cases x.getLsbD i <;> rfl]
  decide +kernel
theorem up_xor (a b : UInt8) : up (a ^^^ b) = up a ^^^ up b := by
  show ((a.toBitVec ^^^ b.toBitVec).setWidth 32) = _
  exact BitVec.setWidth_xor
theorem byte_xor (m n : BitVec 32) (a b : UInt8) : byte (m ^^^ n) (a ^^^ b) = byte m a ^^^ byte n b := by
  show bitN 8 ((m ^^^ n) ^^^ up (a ^^^ b)) = bitN 8 (m ^^^ up a) ^^^ bitN 8 (n ^^^ up b)
  rw [up_xor, ← bitN_xor]
  congr 1
  rw [BitVec.xor_assoc, BitVec.xor_assoc, ← BitVec.xor_assoc n, BitVec.xor_comm n, BitVec.xor_assoc]
def xorL (a b c : List UInt8) : List UInt8 := List.zipWith (· ^^^ ·) (List.zipWith (· ^^^ ·) a b) c
theorem fold_xor : ∀ (a b c : List UInt8) (l m n : BitVec 32), b.length = a.length → c.length = a.length → (xorL a b c).foldl byte (l ^^^ m ^^^ n) = a.foldl byte l ^^^ b.foldl byte m ^^^ c.foldl byte n
  | [], [], [], l, m, n, _, _ => rfl
  | x :: a, y :: b, z :: c, l, m, n, h1, h2 => by
    show (xorL a b c).foldl byte (byte (l ^^^ m ^^^ n) (x ^^^ y ^^^ z)) = _
    rw [byte_xor, byte_xor, fold_xor a b c _ _ _ (by simpa using h1) (by simpa using h2)]
    rfl
  | [], _ :: _, _, _, _, _, h, _ => by simp at h
  | [], [], _ :: _, _, _, _, _, h => by simp at h
  | _ :: _, [], _, _, _, _, h, _ => by simp at h
  | _ :: _, _ :: _, [], _, _, _, _, h => by simp at h
theorem not_xor3 (x y z : BitVec 32) : ~~~x ^^^ ~~~y ^^^ ~~~z = ~~~(x ^^^ y ^^^ z) := by
  apply BitVec.eq_of_getLsbD_eq
  intro i hi
  simp only [BitVec.getLsbD_xor, BitVec.getLsbD_not, hi, decide_true, Bool.true_and]
  cases x.getLsbD i <;> cases y.getLsbD i <;> cases z.getLsbD i <;> rfl
theorem adds_law (a b c : List UInt8) (h1 : b.length = a.length) (h2 : c.length = a.length) : more 0#32 a ^^^ more 0#32 b ^^^ more 0#32 c = more 0#32 (xorL a b c) := by
  unfold more
  rw [not_xor3, ← fold_xor a b c _ _ _ h1 h2, show ~~~0#32 ^^^ ~~~0#32 ^^^ ~~~0#32 = ~~~0#32 by decide]
theorem xorL_length (a b c : List UInt8) (h1 : b.length = a.length) (h2 : c.length = a.length) : (xorL a b c).length = a.length := by
  simp [xorL, h1, h2]
theorem xorL_take (a b c : List UInt8) (h1 : b.length = a.length) (h2 : c.length = a.length) (i : Nat) (h : i < a.length) : (xorL a b c).take (i + 1) = (xorL a b c).take i ++ [a[i] ^^^ b[i] ^^^ c[i]] := by
  rw [List.take_succ_eq_append_getElem (by rw [xorL_length a b c h1 h2]; exact h)]
  simp [xorL]


theorem bit1_inj (n : BitVec 32) (h : bit1 n = 0#32) : n = 0#32 := by
  rcases and_one n with h0 | h0
  · have h1 : n >>> 1 = 0#32 := by
      rw [bit1, h0] at h
      simpa using h
    apply BitVec.eq_of_toNat_eq
    have h2 : (n >>> 1).toNat = 0 := by rw [h1]; rfl
    rw [BitVec.toNat_ushiftRight, Nat.shiftRight_eq_div_pow] at h2
    have h3 : (n &&& 1#32).toNat = n.toNat % 2 := by rw [BitVec.toNat_and]; exact Nat.and_one_is_mod _
    rw [h0] at h3
    simp at h2 h3 ⊢
    omega
  · rw [bit1, h0] at h
    have h1 : n >>> 1 = poly * 1#32 := by
      have := congrArg (· ^^^ (poly * 1#32)) h
      simpa [BitVec.xor_assoc] using this
    have h2 : (n >>> 1).toNat = (poly * 1#32).toNat := by rw [h1]
    rw [BitVec.toNat_ushiftRight, Nat.shiftRight_eq_div_pow, show (poly * 1#32).toNat = 3988292384 by decide] at h2
    have := n.isLt
    omega
theorem bitN_zero : ∀ k, bitN k 0#32 = 0#32
  | 0 => rfl
  | k + 1 => by rw [bitN, bitN_zero k]; decide
theorem bitN_inj0 (n : BitVec 32) : ∀ k, bitN k n = 0#32 → n = 0#32
  | 0, h => h
  | k + 1, h => bitN_inj0 n k (bit1_inj _ h)
theorem xor_eq_zero {a b : BitVec 32} (h : a ^^^ b = 0#32) : a = b := by
  have := congrArg (· ^^^ b) h
  simpa [BitVec.xor_assoc] using this
theorem bitN_inj (a b : BitVec 32) (k : Nat) (h : bitN k a = bitN k b) : a = b := by
  apply xor_eq_zero
  apply bitN_inj0 _ k
  rw [bitN_xor, h, BitVec.xor_self]
theorem fold_lin : ∀ (r : List UInt8) (m y : BitVec 32), r.foldl byte (m ^^^ y) = r.foldl byte m ^^^ bitN (8 * r.length) y
  | [], m, y => rfl
  | x :: r, m, y => by
    show r.foldl byte (byte (m ^^^ y) x) = r.foldl byte (byte m x) ^^^ _
    have h : byte (m ^^^ y) x = byte m x ^^^ bitN 8 y := by
      show bitN 8 (m ^^^ y ^^^ up x) = bitN 8 (m ^^^ up x) ^^^ bitN 8 y
      rw [← bitN_xor]
      congr 1
      rw [BitVec.xor_assoc, BitVec.xor_comm y, BitVec.xor_assoc]
    rw [h, fold_lin r, ← bitN_add]
    congr 2
    simp [List.length_cons]; omega
/-- a byte xored -/
def flip (b : List UInt8) (p : Nat) (v : UInt8) : List UInt8 := b.set p (b.getD p 0 ^^^ v)
theorem flip_length (b : List UInt8) (p : Nat) (v : UInt8) : (flip b p v).length = b.length := by simp [flip]
theorem fold_flip : ∀ (b : List UInt8) (p : Nat) (v : UInt8) (n : BitVec 32), p < b.length → (flip b p v).foldl byte n = b.foldl byte n ^^^ bitN (8 * (b.length - p)) (up v)
  | [], p, v, n, h => by simp at h
  | x :: r, 0, v, n, _ => by
    show r.foldl byte (byte n (x ^^^ v)) = r.foldl byte (byte n x) ^^^ _
    have h : byte n (x ^^^ v) = byte n x ^^^ bitN 8 (up v) := by
      show bitN 8 (n ^^^ up (x ^^^ v)) = bitN 8 (n ^^^ up x) ^^^ bitN 8 (up v)
      rw [up_xor, ← bitN_xor, BitVec.xor_assoc]
    rw [h, fold_lin, ← bitN_add]
    congr 2
    simp [List.length_cons]; omega
  | x :: r, p + 1, v, n, h => by
    show (flip r p v).foldl byte (byte n x) = _
    rw [fold_flip r p v _ (by simpa using h)]
    simp
theorem more_flip (b : List UInt8) (p : Nat) (v : UInt8) (h : p < b.length) : more 0#32 (flip b p v) = more 0#32 b ^^^ bitN (8 * (b.length - p)) (up v) := by
  unfold more
  rw [fold_flip b p v _ h]
  apply BitVec.eq_of_getLsbD_eq
  intro i hi
  simp only [BitVec.getLsbD_xor, BitVec.getLsbD_not, hi, decide_true, Bool.true_and]
  cases (b.foldl byte (~~~0#32)).getLsbD i <;> cases (bitN (8 * (b.length - p)) (up v)).getLsbD i <;> rfl
def bitB (q : Nat) : UInt8 := UInt8.ofNat (2 ^ q)
theorem bitB_one (q : Nat) (h : q < 8) : bitN q (up (bitB q)) = 1#32 := by
  have : ∀ q : Fin 8, bitN q.val (up (bitB q.val)) = 1#32 := by decide +kernel
  exact this ⟨q, h⟩
/-- one bit turned -/
theorem flip_bit (b : List UInt8) (t : Nat) (h : t < 8 * b.length) : more 0#32 (flip b (t / 8) (bitB (t % 8))) = more 0#32 b ^^^ bitN (8 * b.length - t) 1#32 := by
  rw [more_flip b _ _ (by omega), ← bitB_one (t % 8) (Nat.mod_lt _ (by decide)), ← bitN_add]
  congr 2
  omega
def chk : Nat → BitVec 32 → Bool
  | 0, _ => true
  | k + 1, n => (bit1 n != 1#32) && chk k (bit1 n)
theorem chk_spec : ∀ (k : Nat) (n : BitVec 32), chk k n = true → ∀ j, j < k → bitN (j + 1) n ≠ 1#32
  | 0, n, _, j, hj => by omega
  | k + 1, n, h, j, hj => by
    simp only [chk, Bool.and_eq_true, bne_iff_ne] at h
    cases j with
    | zero => exact h.1
    | succ j =>
      have := chk_spec k (bit1 n) h.2 j (by omega)
      rw [Nat.add_comm (j + 1) 1, bitN_add]
      exact this
theorem chk_2400 : chk 2400 1#32 = true := by decide +kernel
theorem one_order (m : Nat) (h0 : 0 < m) (h : m ≤ 2400) : bitN m 1#32 ≠ 1#32 := by
  have := chk_spec 2400 1#32 chk_2400 (m - 1) (by omega)
  rwa [show m - 1 + 1 = m by omega] at this
theorem turn_one (b : List UInt8) (t : Nat) (h : t < 8 * b.length) : more 0#32 (flip b (t / 8) (bitB (t % 8))) ≠ more 0#32 b := by
  intro e
  rw [flip_bit b t h] at e
  have h1 : bitN (8 * b.length - t) 1#32 = 0#32 := by
    have := congrArg (more 0#32 b ^^^ ·) e
    simpa [← BitVec.xor_assoc] using this
  exact absurd (bitN_inj0 _ _ h1) (by decide)
theorem turn_two (b : List UInt8) (t u : Nat) (ht : t < 8 * b.length) (hu : u < 8 * b.length) (hne : t ≠ u) (hl : b.length ≤ 300) :
    more 0#32 (flip (flip b (t / 8) (bitB (t % 8))) (u / 8) (bitB (u % 8))) ≠ more 0#32 b := by
  intro e
  rw [flip_bit _ u (by rw [flip_length]; exact hu), flip_bit b t ht, flip_length] at e
  have h1 : bitN (8 * b.length - t) 1#32 ^^^ bitN (8 * b.length - u) 1#32 = 0#32 := by
    have := congrArg (more 0#32 b ^^^ ·) e
    simpa [← BitVec.xor_assoc] using this
  have h2 := xor_eq_zero h1
  rcases Nat.lt_or_gt_of_ne hne with hlt | hlt
  · have : bitN (8 * b.length - u) (bitN (u - t) 1#32) = bitN (8 * b.length - u) 1#32 := by
      rw [← bitN_add, ← h2]; congr 1; omega
    exact one_order (u - t) (by omega) (by omega) (bitN_inj _ _ _ this)
  · have : bitN (8 * b.length - t) (bitN (t - u) 1#32) = bitN (8 * b.length - t) 1#32 := by
      rw [← bitN_add, h2]; congr 1; omega
    exact one_order (t - u) (by omega) (by omega) (bitN_inj _ _ _ this)
/-- up to 32 in a row -/
def byteOf (x : BitVec 32) (j : Nat) : UInt8 := UInt8.ofBitVec ((x >>> (8 * j) &&& 255#32).setWidth 8)
def burstN (b : List UInt8) (p : Nat) (x : BitVec 32) : Nat → List UInt8
  | 0 => b
  | j + 1 => flip (burstN b p x j) (p + j) (byteOf x j)
theorem burstN_length (b : List UInt8) (p : Nat) (x : BitVec 32) : ∀ j, (burstN b p x j).length = b.length
  | 0 => rfl
  | j + 1 => by rw [burstN, flip_length, burstN_length b p x j]
theorem byteOf3 (x : BitVec 32) : byteOf x 3 = by3 x := by
  unfold byteOf by3
  congr 1
  apply BitVec.eq_of_getLsbD_eq
  intro i hi
  simp only [BitVec.getLsbD_setWidth, BitVec.getLsbD_and, BitVec.getLsbD_ushiftRight, mask_bit, hi, decide_true, Bool.and_true]
theorem more_burst (b : List UInt8) (p : Nat) (x : BitVec 32) (h : p + 4 ≤ b.length) : more 0#32 (burstN b p x 4) = more 0#32 b ^^^ bitN (8 * (b.length - p)) x := by
  have h0 : byteOf x 0 = by0 x := by unfold byteOf by0; simp
  show more 0#32 (flip (flip (flip (flip b (p + 0) (byteOf x 0)) (p + 1) (byteOf x 1)) (p + 2) (byteOf x 2)) (p + 3) (byteOf x 3)) = _
  rw [more_flip _ _ _ (by simp only [flip_length]; omega), more_flip _ _ _ (by simp only [flip_length]; omega), more_flip _ _ _ (by simp only [flip_length]; omega), more_flip _ _ _ (by omega)]
  simp only [flip_length]
  rw [h0, show byteOf x 1 = by1 x from rfl, show byteOf x 2 = by2 x from rfl, byteOf3]
  have hs1 := (shift8 (by1 x).toBitVec).1
  have hs2 := (shift8 (by2 x).toBitVec).2.1
  have hs3 := (shift8 (by3 x).toBitVec).2.2
  change bitN 8 (up (by1 x) <<< 8) = up (by1 x) at hs1
  change bitN 16 (up (by2 x) <<< 16) = up (by2 x) at hs2
  change bitN 24 (up (by3 x) <<< 24) = up (by3 x) at hs3
  conv => rhs; rw [← bytes_of x]
  rw [bitN_xor, bitN_xor, bitN_xor]
  have e1 : bitN (8 * (b.length - (p + 1))) (up (by1 x)) = bitN (8 * (b.length - p)) (up (by1 x) <<< 8) := by
    rw [← hs1, ← bitN_add, hs1]; congr 1; omega
  have e2 : bitN (8 * (b.length - (p + 2))) (up (by2 x)) = bitN (8 * (b.length - p)) (up (by2 x) <<< 16) := by
    rw [← hs2, ← bitN_add, hs2]; congr 1; omega
  have e3 : bitN (8 * (b.length - (p + 3))) (up (by3 x)) = bitN (8 * (b.length - p)) (up (by3 x) <<< 24) := by
    rw [← hs3, ← bitN_add, hs3]; congr 1; omega
  rw [e1, e2, e3, Nat.add_zero]
  simp only [BitVec.xor_assoc]
theorem turn_burst (b : List UInt8) (p : Nat) (x : BitVec 32) (h : p + 4 ≤ b.length) : (more 0#32 (burstN b p x 4) == more 0#32 b) = (x == 0#32) := by
  rw [more_burst b p x h, Bool.eq_iff_iff, beq_iff_eq, beq_iff_eq]
  constructor
  · intro e
    have h1 : bitN (8 * (b.length - p)) x = 0#32 := by
      have := congrArg (more 0#32 b ^^^ ·) e
      simpa [← BitVec.xor_assoc] using this
    exact bitN_inj0 _ _ h1
  · rintro rfl
    rw [bitN_zero, BitVec.xor_zero]
end Go.Proofs.Ytbfmmaabaenhgaa.Ab
