/- The sum's algebra, further: what a turned bit does. -/
import Derived.Test.YtomjoccpkknamaaCheckP
namespace Go.Proofs.Ytomjoccpkknamaa.Ab
open Go
set_option linter.unusedVariables false
set_option linter.unusedSimpArgs false

theorem bit1_inj (n : BitVec 32) (h : bit1 n = 0#32) : n = 0#32 := by
  rcases and_one n with h0 | h0
  · have h1 : n >>> 1 = 0#32 := by
      rw [bit1, h0] at h
      simpa using h
    apply BitVec.eq_of_toNat_eq
    have h2 : (n >>> 1).toNat = 0 := by rw [h1]; rfl
    rw [BitVec.toNat_ushiftRight, Nat.shiftRight_eq_div_pow] at h2
    have h3 : (n &&& 1#32).toNat = n.toNat % 2 := by rw [BitVec.toNat_and]; exact Nat.and_one_is_mod _
    rw [h0] at h3
    simp at h2 h3 ⊢
    omega
  · rw [bit1, h0] at h
    have h1 : n >>> 1 = poly * 1#32 := by
      have := congrArg (· ^^^ (poly * 1#32)) h
      simpa [BitVec.xor_assoc] using this
    have h2 : (n >>> 1).toNat = (poly * 1#32).toNat := by rw [h1]
    rw [BitVec.toNat_ushiftRight, Nat.shiftRight_eq_div_pow, show (poly * 1#32).toNat = 3988292384 by decide] at h2
    have := n.isLt
    omega
theorem bitN_zero : ∀ k, bitN k 0#32 = 0#32
  | 0 => rfl
  | k + 1 => by rw [bitN, bitN_zero k]; decide
theorem bitN_inj0 (n : BitVec 32) : ∀ k, bitN k n = 0#32 → n = 0#32
  | 0, h => h
  | k + 1, h => bitN_inj0 n k (bit1_inj _ h)
theorem xor_eq_zero {a b : BitVec 32} (h : a ^^^ b = 0#32) : a = b := by
  have := congrArg (· ^^^ b) h
  simpa [BitVec.xor_assoc] using this
theorem bitN_inj (a b : BitVec 32) (k : Nat) (h : bitN k a = bitN k b) : a = b := by
  apply xor_eq_zero
  apply bitN_inj0 _ k
  rw [bitN_xor, h, BitVec.xor_self]
theorem fold_lin : ∀ (r : List UInt8) (m y : BitVec 32), r.foldl byte (m ^^^ y) = r.foldl byte m ^^^ bitN (8 * r.length) y
  | [], m, y => rfl
  | x :: r, m, y => by
    show r.foldl byte (byte (m ^^^ y) x) = r.foldl byte (byte m x) ^^^ _
    have h : byte (m ^^^ y) x = byte m x ^^^ bitN 8 y := by
      show bitN 8 (m ^^^ y ^^^ up x) = bitN 8 (m ^^^ up x) ^^^ bitN 8 y
      rw [← bitN_xor]
      congr 1
      rw [BitVec.xor_assoc, BitVec.xor_comm y, BitVec.xor_assoc]
    rw [h, fold_lin r, ← bitN_add]
    congr 2
    simp [List.length_cons]; omega
/-- a byte xored -/
def flip (b : List UInt8) (p : Nat) (v : UInt8) : List UInt8 := b.set p (b.getD p 0 ^^^ v)
theorem flip_length (b : List UInt8) (p : Nat) (v : UInt8) : (flip b p v).length = b.length := by simp [flip]
theorem fold_flip : ∀ (b : List UInt8) (p : Nat) (v : UInt8) (n : BitVec 32), p < b.length → (flip b p v).foldl byte n = b.foldl byte n ^^^ bitN (8 * (b.length - p)) (up v)
  | [], p, v, n, h => by simp at h
  | x :: r, 0, v, n, _ => by
    show r.foldl byte (byte n (x ^^^ v)) = r.foldl byte (byte n x) ^^^ _
    have h : byte n (x ^^^ v) = byte n x ^^^ bitN 8 (up v) := by
      show bitN 8 (n ^^^ up (x ^^^ v)) = bitN 8 (n ^^^ up x) ^^^ bitN 8 (up v)
      rw [up_xor, ← bitN_xor, BitVec.xor_assoc]
    rw [h, fold_lin, ← bitN_add]
    congr 2
    simp [List.length_cons]; omega
  | x :: r, p + 1, v, n, h => by
    show (flip r p v).foldl byte (byte n x) = _
    rw [fold_flip r p v _ (by simpa using h)]
    simp
theorem more_flip (b : List UInt8) (p : Nat) (v : UInt8) (h : p < b.length) : more 0#32 (flip b p v) = more 0#32 b ^^^ bitN (8 * (b.length - p)) (up v) := by
  unfold more
  rw [fold_flip b p v _ h]
  apply BitVec.eq_of_getLsbD_eq
  intro i hi
  simp only [BitVec.getLsbD_xor, BitVec.getLsbD_not, hi, decide_true, Bool.true_and]
  cases (b.foldl byte (~~~0#32)).getLsbD i <;> cases (bitN (8 * (b.length - p)) (up v)).getLsbD i <;> rfl
def bitB (q : Nat) : UInt8 := UInt8.ofNat (2 ^ q)
theorem bitB_one (q : Nat) (h : q < 8) : bitN q (up (bitB q)) = 1#32 := by
  have : ∀ q : Fin 8, bitN q.val (up (bitB q.val)) = 1#32 := by decide +kernel
  exact this ⟨q, h⟩
/-- one bit turned -/
theorem flip_bit (b : List UInt8) (t : Nat) (h : t < 8 * b.length) : more 0#32 (flip b (t / 8) (bitB (t % 8))) = more 0#32 b ^^^ bitN (8 * b.length - t) 1#32 := by
  rw [more_flip b _ _ (by omega), ← bitB_one (t % 8) (Nat.mod_lt _ (by decide)), ← bitN_add]
  congr 2
  omega
def chk : Nat → BitVec 32 → Bool
  | 0, _ => true
  | k + 1, n => (bit1 n != 1#32) && chk k (bit1 n)
theorem chk_spec : ∀ (k : Nat) (n : BitVec 32), chk k n = true → ∀ j, j < k → bitN (j + 1) n ≠ 1#32
  | 0, n, _, j, hj => by omega
  | k + 1, n, h, j, hj => by
    simp only [chk, Bool.and_eq_true, bne_iff_ne] at h
    cases j with
    | zero => exact h.1
    | succ j =>
      have := chk_spec k (bit1 n) h.2 j (by omega)
      rw [Nat.add_comm (j + 1) 1, bitN_add]
      exact this
theorem chk_2400 : chk 2400 1#32 = true := by decide +kernel
theorem one_order (m : Nat) (h0 : 0 < m) (h : m ≤ 2400) : bitN m 1#32 ≠ 1#32 := by
  have := chk_spec 2400 1#32 chk_2400 (m - 1) (by omega)
  rwa [show m - 1 + 1 = m by omega] at this
theorem turn_one (b : List UInt8) (t : Nat) (h : t < 8 * b.length) : more 0#32 (flip b (t / 8) (bitB (t % 8))) ≠ more 0#32 b := by
  intro e
  rw [flip_bit b t h] at e
  have h1 : bitN (8 * b.length - t) 1#32 = 0#32 := by
    have := congrArg (more 0#32 b ^^^ ·) e
    simpa [← BitVec.xor_assoc] using this
  exact absurd (bitN_inj0 _ _ h1) (by decide)
theorem turn_two (b : List UInt8) (t u : Nat) (ht : t < 8 * b.length) (hu : u < 8 * b.length) (hne : t ≠ u) (hl : b.length ≤ 300) :
    more 0#32 (flip (flip b (t / 8) (bitB (t % 8))) (u / 8) (bitB (u % 8))) ≠ more 0#32 b := by
  intro e
  rw [flip_bit _ u (by rw [flip_length]; exact hu), flip_bit b t ht, flip_length] at e
  have h1 : bitN (8 * b.length - t) 1#32 ^^^ bitN (8 * b.length - u) 1#32 = 0#32 := by
    have := congrArg (more 0#32 b ^^^ ·) e
    simpa [← BitVec.xor_assoc] using this
  have h2 := xor_eq_zero h1
  rcases Nat.lt_or_gt_of_ne hne with hlt | hlt
  · have : bitN (8 * b.length - u) (bitN (u - t) 1#32) = bitN (8 * b.length - u) 1#32 := by
      rw [← bitN_add, ← h2]; congr 1; omega
    exact one_order (u - t) (by omega) (by omega) (bitN_inj _ _ _ this)
  · have : bitN (8 * b.length - t) (bitN (t - u) 1#32) = bitN (8 * b.length - t) 1#32 := by
      rw [← bitN_add, h2]; congr 1; omega
    exact one_order (t - u) (by omega) (by omega) (bitN_inj _ _ _ this)
/-- up to 32 in a row -/
def byteOf (x : BitVec 32) (j : Nat) : UInt8 := UInt8.ofBitVec ((x >>> (8 * j) &&& 255#32).setWidth 8)
def burstN (b : List UInt8) (p : Nat) (x : BitVec 32) : Nat → List UInt8
  | 0 => b
  | j + 1 => flip (burstN b p x j) (p + j) (byteOf x j)
theorem burstN_length (b : List UInt8) (p : Nat) (x : BitVec 32) : ∀ j, (burstN b p x j).length = b.length
  | 0 => rfl
  | j + 1 => by rw [burstN, flip_length, burstN_length b p x j]
theorem byteOf3 (x : BitVec 32) : byteOf x 3 = by3 x := by
  unfold byteOf by3
  congr 1
  apply BitVec.eq_of_getLsbD_eq
  intro i hi
  simp only [BitVec.getLsbD_setWidth, BitVec.getLsbD_and, BitVec.getLsbD_ushiftRight, mask_bit, hi, decide_true, Bool.and_true]
theorem more_burst (b : List UInt8) (p : Nat) (x : BitVec 32) (h : p + 4 ≤ b.length) : more 0#32 (burstN b p x 4) = more 0#32 b ^^^ bitN (8 * (b.length - p)) x := by
  have h0 : byteOf x 0 = by0 x := by unfold byteOf by0; simp
  show more 0#32 (flip (flip (flip (flip b (p + 0) (byteOf x 0)) (p + 1) (byteOf x 1)) (p + 2) (byteOf x 2)) (p + 3) (byteOf x 3)) = _
  rw [more_flip _ _ _ (by simp only [flip_length]; omega), more_flip _ _ _ (by simp only [flip_length]; omega), more_flip _ _ _ (by simp only [flip_length]; omega), more_flip _ _ _ (by omega)]
  simp only [flip_length]
  rw [h0, show byteOf x 1 = by1 x from rfl, show byteOf x 2 = by2 x from rfl, byteOf3]
  have hs1 := (shift8 (by1 x).toBitVec).1
  have hs2 := (shift8 (by2 x).toBitVec).2.1
  have hs3 := (shift8 (by3 x).toBitVec).2.2
  change bitN 8 (up (by1 x) <<< 8) = up (by1 x) at hs1
  change bitN 16 (up (by2 x) <<< 16) = up (by2 x) at hs2
  change bitN 24 (up (by3 x) <<< 24) = up (by3 x) at hs3
  conv => rhs; rw [← bytes_of x]
  rw [bitN_xor, bitN_xor, bitN_xor]
  have e1 : bitN (8 * (b.length - (p + 1))) (up (by1 x)) = bitN (8 * (b.length - p)) (up (by1 x) <<< 8) := by
    rw [← hs1, ← bitN_add, hs1]; congr 1; omega
  have e2 : bitN (8 * (b.length - (p + 2))) (up (by2 x)) = bitN (8 * (b.length - p)) (up (by2 x) <<< 16) := by
    rw [← hs2, ← bitN_add, hs2]; congr 1; omega
  have e3 : bitN (8 * (b.length - (p + 3))) (up (by3 x)) = bitN (8 * (b.length - p)) (up (by3 x) <<< 24) := by
    rw [← hs3, ← bitN_add, hs3]; congr 1; omega
  rw [e1, e2, e3, Nat.add_zero]
  simp only [BitVec.xor_assoc]
theorem turn_burst (b : List UInt8) (p : Nat) (x : BitVec 32) (h : p + 4 ≤ b.length) : (more 0#32 (burstN b p x 4) == more 0#32 b) = (x == 0#32) := by
  rw [more_burst b p x h, Bool.eq_iff_iff, beq_iff_eq, beq_iff_eq]
  constructor
  · intro e
    have h1 : bitN (8 * (b.length - p)) x = 0#32 := by
      have := congrArg (more 0#32 b ^^^ ·) e
      simpa [← BitVec.xor_assoc] using this
    exact bitN_inj0 _ _ h1
  · rintro rfl
    rw [bitN_zero, BitVec.xor_zero]
theorem bytesPV_getD {b : List UInt8} {i : Nat} (h : i < b.length) : (bytesPV b)[i]? = some (.int .u8 (((b.getD i 0).toNat : Nat) : Int)) := by
  rw [bytesPV_get h]; simp [List.getD, h]
theorem cellsAt_eptr {s : St} {d n e sz i off : Nat} {fz : Bool} {xs : List PV} {x : PV} (h : s.heap d n = some (.arr e sz fz xs)) (hx : xs[i]? = some x) : s.cellsAt (.eptr d n sz i off) = some (x.cells.drop off, [(d, n)]) := by
  simp [St.cellsAt, h, hx]
theorem quo8 (t : Int) (h : 0 ≤ t) (h1 : t < 9223372036854775808) : IntKind.i64.wrap (t.tdiv 8) = ((t.toNat / 8 : Nat) : Int) := by
  rw [Int.tdiv_eq_ediv_of_nonneg h, wrap_i64 _ (by omega) (by omega)]; omega
theorem rem8 (t : Int) (h : 0 ≤ t) : t.tmod 8 = ((t.toNat % 8 : Nat) : Int) := by
  rw [Int.tmod_eq_emod_of_nonneg h]; omega
theorem shl8 (q : Nat) (h : q < 8) : IntKind.u8.wrap (1 * 2 ^ min (q : Int).toNat IntKind.u8.bits) = ((bitB q).toNat : Int) := by
  have : ∀ q : Fin 8, IntKind.u8.wrap (1 * 2 ^ min (q.val : Int).toNat IntKind.u8.bits) = ((bitB q.val).toNat : Int) := by decide +kernel
  exact this ⟨q, h⟩
theorem word_of {z : Int} (h : (Lit.int .u32 z).wf = true) : ∃ x : BitVec 32, z = (x.toNat : Int) := by
  have hz : 0 ≤ z ∧ z ≤ 4294967295 := by
    simpa [Lit.wf, IntKind.min, IntKind.max, IntKind.signed, IntKind.bits] using h
  refine ⟨BitVec.ofNat 32 z.toNat, ?_⟩
  rw [BitVec.toNat_ofNat, Nat.mod_eq_of_lt (by omega)]; omega
end Go.Proofs.Ytomjoccpkknamaa.Ab
