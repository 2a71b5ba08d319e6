/- Chapter 4: no beginning of a batch is one, none with more behind, and none of which a bit was turned. -/
import Derived.Test.YtbfmmaabaenhgaaXBTorn
import Derived.Test.YtbfmmaabaenhgaaPBatchA
namespace Go.Proofs.Ytbfmmaabaenhgaa.Ab
open Go Go.RowKit
set_option linter.unusedVariables false
set_option linter.unusedSimpArgs false
theorem codeB_two (b : List UInt8) : (codeB b).2 = 2 ∨ (codeB b).2 = 0 := by
  unfold codeB
  cases readB b <;> simp
theorem wholly_spec (b : List UInt8) (hb : b.length ≤ 1000000) : gleaninglaw4_wholly b = some ((codeB b).2 == 0) := by
  rw [gleaninglaw4_wholly, (bread_spec b hb).2]; rfl
theorem bit_turn (q : Fin 8) (c : UInt8) : u8 (bits .xor .u8 (c.toNat : Int) ((u8 (IntKind.u8.wrap (1 * 2 ^ (min (Int.toNat (((q.val : Nat) : Int))) (IntKind.bits .u8))))).toNat : Int)) = c ^^^ bitB q.val := by
  have h : ∀ (q : Fin 8) (n : Fin 256), u8 (bits .xor .u8 ((UInt8.ofNat n.val).toNat : Int) ((u8 (IntKind.u8.wrap (1 * 2 ^ (min (Int.toNat (((q.val : Nat) : Int))) (IntKind.bits .u8))))).toNat : Int)) = UInt8.ofNat n.val ^^^ bitB q.val := by decide +kernel
  have := h q ⟨c.toNat, c.toNat_lt⟩
  simpa using this
theorem bitB_ne (q : Fin 8) (c : UInt8) : c ^^^ bitB q.val ≠ c := by
  have h : ∀ (q : Fin 8) (n : Fin 256), UInt8.ofNat n.val ^^^ bitB q.val ≠ UInt8.ofNat n.val := by decide +kernel
  have := h q ⟨c.toNat, c.toNat_lt⟩
  simpa using this
/-- of sealed bytes of which a bit was turned nothing is opened -/
theorem open_turned (x : List UInt8) (p : Nat) (q : Nat) (hq : q < 8) (hp : p < (sealB x).length) : openB (flip (sealB x) p (bitB q)) = none := by
  have hlen : (sealB x).length = x.length + 4 := by simp [sealB, fourN_length]
  have hf := flip_length (sealB x) p (bitB q)
  rw [openB, if_neg (by omega)]
  have h4 : (flip (sealB x) p (bitB q)).length - 4 = x.length := by omega
  rw [h4, if_neg]
  intro h
  by_cases hpx : p < x.length
  · have e1 : flip (sealB x) p (bitB q) = flip x p (bitB q) ++ fourN (sumB x).toNat := by
      rw [flip, flip, sealB, List.set_append_left _ _ hpx]
      congr 2
      rw [List.getD_eq_getElem?_getD, List.getD_eq_getElem?_getD, List.getElem?_append_left hpx]
    have fl := flip_length x p (bitB q)
    rw [e1, ← fl, List.take_left, List.drop_left] at h
    have h2 := fourN_inj (sum_nat _) (sum_nat _) h
    have h3 : sumB (flip x p (bitB q)) = sumB x := BitVec.eq_of_toNat_eq h2
    have h5 := turn_one x (8 * p + q) (by omega)
    rw [show (8 * p + q) / 8 = p by omega, show (8 * p + q) % 8 = q by omega] at h5
    exact h5 h3
  · have hsl : p - x.length < (fourN (sumB x).toNat).length := by rw [fourN_length]; omega
    have e1 : flip (sealB x) p (bitB q) = x ++ (fourN (sumB x).toNat).set (p - x.length) ((sealB x).getD p 0 ^^^ bitB q) := by
      rw [flip, sealB, List.set_append_right _ _ (by omega)]
    have hg : (sealB x).getD p 0 = (fourN (sumB x).toNat)[p - x.length] := by
      rw [List.getD_eq_getElem?_getD, sealB, List.getElem?_append_right (by omega), List.getElem?_eq_getElem hsl]; rfl
    rw [e1, List.take_left, List.drop_left, hg] at h
    have h6 : (fourN (sumB x).toNat)[p - x.length]? = ((fourN (sumB x).toNat).set (p - x.length) ((fourN (sumB x).toNat)[p - x.length] ^^^ bitB q))[p - x.length]? := congrArg (fun l : List UInt8 => l[p - x.length]?) h
    rw [List.getElem?_eq_getElem hsl, List.getElem?_set_self hsl] at h6
    injection h6 with h6
    exact bitB_ne ⟨q, hq⟩ _ h6.symm
theorem batchTorn_true (l : List Span) (cut bit : Int) (hl : l.length ≤ maxLen ∧ ∀ y ∈ l, Span.wf y) (_ : inI .i64 cut) (_ : inI .i64 bit) : gleaninglaw4_BatchTorn l cut bit = some true := by
  obtain ⟨f, hf, g⟩ := fewAll_spec l
  have hw : ∀ s ∈ l, wfS s := fun s h => wfS_of (hl.2 s h)
  have hle := batchB_le hw
  simp only [gleaninglaw4_BatchTorn, alive4, Option.bind_some, Bool.not_true, Bool.false_eq_true, if_false, hf, xbatch_spec l hw]
  cases f with
  | false => simp
  | true =>
  cases hr : rightL l with
  | false =>
    have : batchB l = [] := by rw [batchB, hr]; rfl
    simp [this]
  | true =>
  have hp := batchB_pos hr
  have h0 : (((batchB l).length : Int) == 0) = false := by rw [beq_eq_false_iff_ne]; omega
  by_cases h1 : cut < 0
  · simp [h0, h1]
  by_cases h2 : bit < 0
  · simp [h0, h1, h2]
  simp only [h0, h1, h2, decide_false, Bool.not_true, Bool.false_eq_true, if_false, Option.bind_some, Sum.elim_inl]
  obtain ⟨c, rfl⟩ := Int.eq_ofNat_of_zero_le (by omega : 0 ≤ cut)
  obtain ⟨t, rfl⟩ := Int.eq_ofNat_of_zero_le (by omega : 0 ≤ bit)
  generalize hB : batchB l = B at *
  have hm1 : Int.tmod (c : Int) (B.length : Int) = ((c % B.length : Nat) : Int) := by rw [Int.tmod_eq_emod_of_nonneg (by omega)]; rfl
  have hlt1 := Nat.mod_lt c (by omega : 0 < B.length)
  have hw8 : IntKind.i64.wrap (8 * (B.length : Int)) = ((8 * B.length : Nat) : Int) := by rw [w64 (by omega) (by omega)]; push_cast; rfl
  have hm2 : Int.tmod (t : Int) ((8 * B.length : Nat) : Int) = ((t % (8 * B.length) : Nat) : Int) := by rw [Int.tmod_eq_emod_of_nonneg (by omega)]; rfl
  have hlt2 := Nat.mod_lt t (by omega : 0 < 8 * B.length)
  generalize hu : t % (8 * B.length) = u at *
  have hdiv : IntKind.i64.wrap (Int.tdiv (u : Int) 8) = ((u / 8 : Nat) : Int) := by rw [Int.tdiv_eq_ediv_of_nonneg (by omega), w64 (by omega) (by omega)]; rfl
  have hrem : IntKind.u64.wrap (Int.tmod (u : Int) 8) = ((u % 8 : Nat) : Int) := by rw [Int.tmod_eq_emod_of_nonneg (by omega), wu64 (by omega) (by omega)]; rfl
  have hup : u / 8 < B.length := by omega
  have hbt := bit_turn ⟨u % 8, by omega⟩ B[u / 8]
  have hflip : B.set (u / 8) (B[u / 8] ^^^ bitB (u % 8)) = flip B (u / 8) (bitB (u % 8)) := by
    rw [flip, List.getD_eq_getElem?_getD, List.getElem?_eq_getElem hup]; rfl
  have hturn : codeB (flip B (u / 8) (bitB (u % 8))) = ([], 2) := by
    have e : B = sealB (putN l.length ++ spansB l) := by rw [← hB, batchB, if_pos hr]
    rw [codeB, readB, e, open_turned _ _ _ (by omega) (by rw [← e]; exact hup)]
  have r1 := (bread_spec (B.take (c % B.length)) (by rw [List.length_take]; omega)).1
  have r2 := (bread_spec (B ++ [0]) (by rw [List.length_append]; simp; omega)).1
  have r3 := (bread_spec (flip B (u / 8) (bitB (u % 8))) (by rw [flip_length]; omega)).1
  have w1 := wholly_spec (B.take (c % B.length)) (by rw [List.length_take]; omega)
  have w2 := wholly_spec (B ++ [0]) (by rw [List.length_append]; simp; omega)
  have g1 : B.length * 1 ≤ 140737488355328 ∧ B.length ≤ 140737488355328 := by omega
  have g2 : (B ++ [(0 : UInt8)]).length * 1 ≤ 140737488355328 ∧ (B ++ [(0 : UInt8)]).length ≤ 140737488355328 := by rw [List.length_append, List.length_singleton]; omega
  have g3 : ¬ (B.length : Int) = 0 := by omega
  have g4 : ¬ ((8 * B.length : Nat) : Int) = 0 := by omega
  have g5 : ¬ ((u % 8 : Nat) : Int) < 0 := by omega
  dsimp only at hbt
  rw [hturn] at r3
  simp only [gleaninglaw4_BatchTorn_k0, hm1, hw8, hm2, hu, hdiv, hrem, gd_pos g1, gd_pos g2, gd_pos g3, gd_pos g4, gd_pos g5, gd_pos (by omega : (0 : Int) ≤ ((c % B.length : Nat) : Int)), gd_pos (by omega : ((c % B.length : Nat) : Int) ≤ (B.length : Int)), gd_pos (by omega : (0 : Int) ≤ ((u / 8 : Nat) : Int)), Int.toNat_natCast, List.getElem?_eq_getElem hup, Option.bind_some]
  simp only [Int.toNat_natCast] at hbt
  rw [hbt, hflip, r1, r2, r3]
  simp only [Option.bind_some, gleaninglaw4_num, w1, w2]
  rcases codeB_two (B.take (c % B.length)) with e1 | e1 <;> rcases codeB_two (B ++ [0]) with e2 | e2 <;> simp [e1, e2]
end Go.Proofs.Ytbfmmaabaenhgaa.Ab
