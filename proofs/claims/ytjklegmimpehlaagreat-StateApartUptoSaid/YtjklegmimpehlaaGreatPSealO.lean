/- Sealed bytes, opened again, or not. -/
import Derived.Test.YtjklegmimpehlaaGreatPSpanC
import Derived.Test.YtjklegmimpehlaaGreatPSumB
namespace Go.Proofs.YtjklegmimpehlaaGreat.Ab
open Go Go.RowKit
set_option linter.unusedVariables false
set_option linter.unusedSimpArgs false
def sealB (b : List UInt8) : List UInt8 := b ++ fourN (sumB b).toNat
def openB (b : List UInt8) : Option (List UInt8) := if b.length < 4 then none else if fourN (sumB (b.take (b.length - 4))).toNat = b.drop (b.length - 4) then some (b.take (b.length - 4)) else none
theorem sum_nat (b : List UInt8) : (sumB b).toNat < 4294967296 := (sumB b).isLt
theorem seal_spec (b : List UInt8) (hb : b.length ≤ 100000000) : check_Seal b = some (sealB b) := by
 rw [check_Seal, gd_pos (by omega), sum_spec b (by omega), Option.bind_some, putc_spec b _ (by omega)]
 rfl
theorem four_list {l : List UInt8} (h : l.length = 4) : ∃ a b c d, l = [a, b, c, d] := by
 match l, h with
 | [a, b, c, d], _ => exact ⟨a, b, c, d, rfl⟩
theorem open_spec (b : List UInt8) (hb : b.length ≤ 100000000) : match openB b with
  | none => ∃ x, check_Open b = some (x, false)
  | some p => check_Open b = some (p, true) := by
 unfold openB
 by_cases h : b.length < 4
 ·rw [if_pos h]
  refine ⟨[], ?_⟩
  rw [check_Open, w64 (by omega) (by omega), dec_t (by omega), ite_tt]
 ·rw [if_neg h]
  have hw : IntKind.i64.wrap ((b.length : Int) - 4) = ((b.length - 4 : Nat) : Int) := by rw [w64 (by omega) (by omega)]; omega
  obtain ⟨c0, c1, c2, c3, hd⟩ := four_list (l := b.drop (b.length - 4)) (by rw [List.length_drop]; omega)
  have hsum := sum_nat (b.take (b.length - 4))
  have hcode : check_Open b = some (b.take (b.length - 4), (((wordN c0 c1 c2 c3 : Nat) : Int) == ((sumB (b.take (b.length - 4))).toNat : Int))) := by
   simp only [check_Open, hw, dec_f (by omega : ¬ ((b.length - 4 : Nat) : Int) < 0), Bool.false_eq_true, if_false, gd_pos (by omega : (0 : Int) ≤ ((b.length - 4 : Nat) : Int)), gd_pos (by omega : ((b.length - 4 : Nat) : Int) ≤ (b.length : Int)), Int.toNat_natCast, hd]
   rw [getc_spec c0 c1 c2 c3 [] (by simp), Option.bind_some]
   simp only [if_true]
   rw [sum_spec _ (by rw [List.length_take]; omega), Option.bind_some]
  rw [hcode, hd]
  by_cases e : fourN (sumB (b.take (b.length - 4))).toNat = [c0, c1, c2, c3]
  ·rw [if_pos e]
   rw [← four_word] at e
   have := fourN_inj hsum (by simp only [wordN]; have := c0.toNat_lt; have := c1.toNat_lt; have := c2.toNat_lt; have := c3.toNat_lt; omega) e
   rw [← this]
   simp
  ·rw [if_neg e]
   refine ⟨b.take (b.length - 4), ?_⟩
   rw [show (((wordN c0 c1 c2 c3 : Nat) : Int) == ((sumB (b.take (b.length - 4))).toNat : Int)) = false from ?_]
   rw [beq_eq_false_iff_ne]
   intro h2
   have h3 : wordN c0 c1 c2 c3 = (sumB (b.take (b.length - 4))).toNat := by omega
   exact e (by rw [← h3, four_word])
theorem open_seal (x : List UInt8) : openB (sealB x) = some x := by
 have h1 : (sealB x).length - 4 = x.length := by simp [sealB, fourN_length]
 rw [openB, if_neg (by simp [sealB, fourN_length]), h1, sealB, List.take_left, List.drop_left, if_pos rfl]
def spansB (l : List Span) : List UInt8 := l.flatMap spanB
theorem spansB_app (a b : List Span) : spansB (a ++ b) = spansB a ++ spansB b := by simp [spansB]
theorem spansB_le : ∀ (l : List Span), (∀ s ∈ l, wfS s ∧ rightS s = true) → (spansB l).length ≤ 400 * l.length
 | [], _ => by simp [spansB]
 | s :: l, h => by
  have h1 := h s List.mem_cons_self
  have h2 := spansB_le l fun m hm => h m (List.mem_cons_of_mem _ hm)
  have h3 := spanB_le h1.1 h1.2
  simp only [spansB, List.flatMap_cons, List.length_append, List.length_cons] at h2 ⊢; omega
theorem bit_turn (q : Fin 8) (c : UInt8) : u8 (bits .xor .u8 (c.toNat : Int) ((u8 (IntKind.u8.wrap (1 * 2 ^ (min (Int.toNat (((q.val : Nat) : Int))) (IntKind.bits .u8))))).toNat : Int)) = c ^^^ bitB q.val := by
 have h : ∀ (q : Fin 8) (n : Fin 256), u8 (bits .xor .u8 ((UInt8.ofNat n.val).toNat : Int) ((u8 (IntKind.u8.wrap (1 * 2 ^ (min (Int.toNat (((q.val : Nat) : Int))) (IntKind.bits .u8))))).toNat : Int)) = UInt8.ofNat n.val ^^^ bitB q.val := by decide +kernel
 have := h q ⟨c.toNat, c.toNat_lt⟩
 simpa using this
theorem bitB_ne (q : Fin 8) (c : UInt8) : c ^^^ bitB q.val ≠ c := by
 have h : ∀ (q : Fin 8) (n : Fin 256), UInt8.ofNat n.val ^^^ bitB q.val ≠ UInt8.ofNat n.val := by decide +kernel
 have := h q ⟨c.toNat, c.toNat_lt⟩
 simpa using this
theorem open_turned (x : List UInt8) (p : Nat) (q : Nat) (hq : q < 8) (hp : p < (sealB x).length) : openB (flip (sealB x) p (bitB q)) = none := by
 have hlen : (sealB x).length = x.length + 4 := by simp [sealB, fourN_length]
 have hf := flip_length (sealB x) p (bitB q)
 rw [openB, if_neg (by omega)]
 have h4 : (flip (sealB x) p (bitB q)).length - 4 = x.length := by omega
 rw [h4, if_neg]
 intro h
 by_cases hpx : p < x.length
 ·have e1 : flip (sealB x) p (bitB q) = flip x p (bitB q) ++ fourN (sumB x).toNat := by
   rw [flip, flip, sealB, List.set_append_left _ _ hpx]
   congr 2
   rw [List.getD_eq_getElem?_getD, List.getD_eq_getElem?_getD, List.getElem?_append_left hpx]
  have fl := flip_length x p (bitB q)
  rw [e1, ← fl, List.take_left, List.drop_left] at h
  have h2 := fourN_inj (sum_nat _) (sum_nat _) h
  have h3 : sumB (flip x p (bitB q)) = sumB x := BitVec.eq_of_toNat_eq h2
  have h5 := turn_one x (8 * p + q) (by omega)
  rw [show (8 * p + q) / 8 = p by omega, show (8 * p + q) % 8 = q by omega] at h5
  exact h5 h3
 ·have hsl : p - x.length < (fourN (sumB x).toNat).length := by rw [fourN_length]; omega
  have e1 : flip (sealB x) p (bitB q) = x ++ (fourN (sumB x).toNat).set (p - x.length) ((sealB x).getD p 0 ^^^ bitB q) := by
   rw [flip, sealB, List.set_append_right _ _ (by omega)]
  have hg : (sealB x).getD p 0 = (fourN (sumB x).toNat)[p - x.length] := by
   rw [List.getD_eq_getElem?_getD, sealB, List.getElem?_append_right (by omega), List.getElem?_eq_getElem hsl]; rfl
  rw [e1, List.take_left, List.drop_left, hg] at h
  have h6 : (fourN (sumB x).toNat)[p - x.length]? = ((fourN (sumB x).toNat).set (p - x.length) ((fourN (sumB x).toNat)[p - x.length] ^^^ bitB q))[p - x.length]? := congrArg (fun l : List UInt8 => l[p - x.length]?) h
  rw [List.getElem?_eq_getElem hsl, List.getElem?_set_self hsl] at h6
  injection h6 with h6
  exact bitB_ne ⟨q, hq⟩ _ h6.symm
end Go.Proofs.YtjklegmimpehlaaGreat.Ab
