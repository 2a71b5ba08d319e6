/- The walks of chapter 2: what the sums are, for every row of bytes. -/
import Derived.Test.YtomjoccpkknamaaAbArg
import Derived.Test.YtomjoccpkknamaaProg
namespace Go.Proofs.Ytomjoccpkknamaa.Ab
open Go Go.RowKit
set_option linter.unusedVariables false
set_option linter.unusedSimpArgs false
theorem ty5 : tyOf Try.prog 5 = some ⟨.int .u8, 1, 1, [.int .u8 0]⟩ := by kernel_rfl
theorem ty22 : tyOf Try.prog 22 = some ⟨.slice 5, 1, 24, [.nil]⟩ := by kernel_rfl
theorem ty24 : tyOf Try.prog 24 = some ⟨.int .u32, 1, 4, [.int .u32 0]⟩ := by kernel_rfl
theorem ent16 : Ent Try.prog 16 := ⟨_, Try.func16, by kernel_rfl, rfl⟩
theorem ent17 : Ent Try.prog 17 := ⟨_, Try.func17, by kernel_rfl, rfl⟩
theorem ent18 : Ent Try.prog 18 := ⟨_, Try.func18, by kernel_rfl, rfl⟩
theorem ent19 : Ent Try.prog 19 := ⟨_, Try.func19, by kernel_rfl, rfl⟩
theorem ent42 : Ent Try.prog 42 := ⟨_, Try.func42, by kernel_rfl, rfl⟩

def poly : BitVec 32 := 3988292384#32
def bit1 (n : BitVec 32) : BitVec 32 := (n >>> 1) ^^^ (poly * (n &&& 1#32))
def bitN : Nat → BitVec 32 → BitVec 32
  | 0, n => n
  | k + 1, n => bit1 (bitN k n)
def byte (n : BitVec 32) (c : UInt8) : BitVec 32 := bitN 8 (n ^^^ c.toBitVec.setWidth 32)
def more (x : BitVec 32) (b : List UInt8) : BitVec 32 := ~~~(b.foldl byte (~~~x))
theorem fold_take {α β : Type} (f : β → α → β) (b : List α) (a : β) (i : Nat) (h : i < b.length) : (b.take (i + 1)).foldl f a = f ((b.take i).foldl f a) b[i] := by
  rw [List.take_succ_eq_append_getElem h, List.foldl_append]; rfl
theorem more_append (x : BitVec 32) (a b : List UInt8) : more (more x a) b = more x (a ++ b) := by
  simp [more, List.foldl_append, BitVec.not_not]
theorem and_one (n : BitVec 32) : n &&& 1#32 = 0#32 ∨ n &&& 1#32 = 1#32 := by
  have h : (n &&& 1#32).toNat = n.toNat % 2 := by
    rw [BitVec.toNat_and]; exact Nat.and_one_is_mod _
  rcases Nat.mod_two_eq_zero_or_one n.toNat with h2 | h2
  · exact .inl (BitVec.eq_of_toNat_eq (by rw [h, h2]; rfl))
  · exact .inr (BitVec.eq_of_toNat_eq (by rw [h, h2]; rfl))
theorem bit1_odd (n : BitVec 32) (h : ((n &&& 1#32).toNat : Int) = 1) : (n >>> 1) ^^^ poly = bit1 n := by
  have : n &&& 1#32 = 1#32 := BitVec.eq_of_toNat_eq (by
    have : (n &&& 1#32).toNat = 1 := by omega
    rw [this]; rfl)
  rw [bit1, this]; rfl
theorem bit1_even (n : BitVec 32) (h : ¬ ((n &&& 1#32).toNat : Int) = 1) : n >>> 1 = bit1 n := by
  rcases and_one n with h0 | h1
  · rw [bit1, h0]; simp
  · rw [h1] at h; exact absurd rfl h

set_option maxRecDepth 100000 in
set_option maxHeartbeats 8000000 in
theorem more_ok (x : BitVec 32) (b : List UInt8) (hb : b.length < 4611686018427387904) : Ok Try.prog 19 [.int .u32 ((x).toNat : Int), .sl 1 (bytesPV b)] [] [] (.int .u32 ((more x b).toNat : Int)) [] [] := by
  refine ok_of_code Try.func19 rfl (by show (2 : Nat) ≤ _; decide) (Nat.le_refl _) fun X => ?_
  refine aw_seq_k (fun K1 hK1 => ?_)
  refine aw_reg ?_
  refine ao_cons (acts_of rfl (does_assign (by conv => lhs; whnf))) (by decide) ?_
  refine ao_nil_n ?_
  refine hK1 _ ?_
  refine aw_seq_k (fun K2 hK2 => ?_)
  refine aw_reg ?_
  refine ao_cons (acts_of rfl (does_move (by conv => lhs; whnf))) (by decide) ?_
  refine ao_cons (acts_of rfl ((does_un (by conv => lhs; whnf) (by conv => lhs; whnf)).castp (v' := .int .u32 ((~~~x).toNat : Int)) (by exact congrArg _ (not32 x)))) (by decide) ?_
  refine ao_cons (acts_of rfl (does_assign (by conv => lhs; whnf))) (by decide) ?_
  refine ao_nil_n ?_
  refine hK2 _ ?_
  refine aw_seq_k (fun K3 hK3 => ?_)
  refine aw_seq_k (fun K4 hK4 => ?_)
  refine aw_reg ?_
  refine ao_cons (acts_of rfl (does_move (by conv => lhs; whnf))) (by decide) ?_
  refine ao_cons (acts_of rfl (does_len_sl (by conv => lhs; whnf) ty22)) (by decide) ?_
  refine ao_cons (acts_of rfl (does_move (by conv => lhs; whnf))) (by decide) ?_
  refine ao_nil_n ?_
  refine hK4 _ ?_
  refine aw_block ?_
  refine aw_loop' (fun m s => ∃ (i : Nat), i ≤ b.length ∧ m = b.length - i ∧ s = lit [(5, .int .u32 (((b.take i).foldl byte (~~~x)).toNat : Int)), (10, .sl 1 (bytesPV b)), (11, .int .i64 ((bytesPV b).length : Int)), (12, .int .i64 (i : Int))] [] [] X) (b.length - 0)
    ⟨_, reb_lit [(5, .int .u32 (((b.take 0).foldl byte (~~~x)).toNat : Int)), (10, .sl 1 (bytesPV b)), (11, .int .i64 ((bytesPV b).length : Int)), (12, .int .i64 (0 : Int))] [] [] [] (envOk_cons (by conv => lhs; whnf) (by exact rfl) (envOk_cons (by conv => lhs; whnf) (by exact rfl) (envOk_cons (by conv => lhs; whnf) (by exact rfl) (envOk_cons (by conv => lhs; whnf) (by exact rfl) envOk_nil)))) objOk_nil (nodup_b rfl) (nodup_b rfl) rfl rfl, (0), (by omega), rfl, rfl⟩ ?_
  rintro m s ⟨i, hle, rfl, rfl⟩
  refine aw_seq_k (fun K5 hK5 => ?_)
  refine aw_reg ?_
  refine ao_cons (acts_of rfl (does_bin (by conv => lhs; whnf) (by conv => lhs; whnf) (by conv => lhs; whnf))) (by decide) ?_
  refine ao_nil_n ?_
  refine hK5 _ ?_
  refine aw_seq_k (fun K6 hK6 => ?_)
  refine aw_bool 13 rfl (fun c13 => ?_) (fun c13 => ?_)
  · try simp only [bytesPV_length, decide_eq_true_eq, decide_eq_false_iff_not, beq_iff_eq, Bool.not_eq_true', beq_eq_false_iff_ne, bne_iff_ne, Bool.not_eq_false', bne_eq_false_iff_eq, ne_eq, Decidable.not_not] at c13
    have hi : i < b.length := by omega
    refine aw_cond_t (by decide) rfl ?_
    refine aw_skip ?_
    refine hK6 _ ?_
    refine aw_seq_k (fun K7 hK7 => ?_)
    refine aw_block ?_
    refine aw_seq_k (fun K8 hK8 => ?_)
    refine aw_reg ?_
    refine ao_cons (acts_of rfl (does_indexAddr_sl (el := .int .u8 ((b[i].toNat : Nat) : Int)) (by conv => lhs; whnf) (by conv => lhs; whnf) ty22 ty5 (by omega) (by exact bytesPV_get hi))) (by decide) ?_
    refine ao_cons (acts_of rfl (does_load (by conv => lhs; whnf) (by conv => lhs; whnf) ty5 (by conv => lhs; whnf))) (by decide) ?_
    refine ao_cons (acts_of rfl (does_assign (by conv => lhs; whnf))) (by decide) ?_
    refine ao_nil_n ?_
    refine hK8 _ ?_
    refine aw_seq_k (fun K9 hK9 => ?_)
    refine aw_reg ?_
    refine ao_cons (acts_of rfl (does_move (by conv => lhs; whnf))) (by decide) ?_
    refine ao_cons (acts_of rfl (does_move (by conv => lhs; whnf))) (by decide) ?_
    refine ao_cons (acts_of rfl ((does_conv_int (by conv => lhs; whnf) (ty_some ty5) (ty_int ty24) rfl).castp (v' := .int .u32 ((b[i].toBitVec.setWidth 32).toNat : Int)) (by exact congrArg _ (conv8_32 _)))) (by decide) ?_
    refine ao_cons (acts_of rfl ((does_bin (by conv => lhs; whnf) (by conv => lhs; whnf) (by conv => lhs; whnf)).castp (v' := .int .u32 ((((b.take i).foldl byte (~~~x)) ^^^ b[i].toBitVec.setWidth 32).toNat : Int)) (by exact congrArg _ (xor32 _ _)))) (by decide) ?_
    refine ao_cons (acts_of rfl (does_assign (by conv => lhs; whnf))) (by decide) ?_
    refine ao_nil_n ?_
    refine hK9 _ ?_
    refine aw_seq_k (fun K10 hK10 => ?_)
    refine aw_reg ?_
    refine ao_cons (acts_of rfl (does_move (by conv => lhs; whnf))) (by decide) ?_
    refine ao_nil_n ?_
    refine hK10 _ ?_
    refine aw_block ?_
    refine aw_loop' (fun m s => ∃ (k : Nat), k ≤ 8 ∧ m = 8 - k ∧ s = lit [(5, .int .u32 ((bitN k (((b.take i).foldl byte (~~~x)) ^^^ b[i].toBitVec.setWidth 32)).toNat : Int)), (10, .sl 1 (bytesPV b)), (11, .int .i64 ((bytesPV b).length : Int)), (12, .int .i64 (i : Int)), (20, .int .i64 (k : Int))] [] [] X) (8 - 0)
      ⟨_, reb_lit [(5, .int .u32 ((bitN 0 (((b.take i).foldl byte (~~~x)) ^^^ b[i].toBitVec.setWidth 32)).toNat : Int)), (10, .sl 1 (bytesPV b)), (11, .int .i64 ((bytesPV b).length : Int)), (12, .int .i64 (i : Int)), (20, .int .i64 (0 : Int))] [] [] [] (envOk_cons (by conv => lhs; whnf) (by exact rfl) (envOk_cons (by conv => lhs; whnf) (by exact rfl) (envOk_cons (by conv => lhs; whnf) (by exact rfl) (envOk_cons (by conv => lhs; whnf) (by exact rfl) (envOk_cons (by conv => lhs; whnf) (by exact rfl) envOk_nil))))) objOk_nil (nodup_b rfl) (nodup_b rfl) rfl rfl, (0), (by omega), rfl, rfl⟩ ?_
    rintro m s ⟨k, hk, rfl, rfl⟩
    refine aw_seq_k (fun K11 hK11 => ?_)
    refine aw_reg ?_
    refine ao_cons (acts_of rfl (does_bin (by conv => lhs; whnf) (by conv => lhs; whnf) (by conv => lhs; whnf))) (by decide) ?_
    refine ao_nil_n ?_
    refine hK11 _ ?_
    refine aw_seq_k (fun K12 hK12 => ?_)
    refine aw_bool 21 rfl (fun c21 => ?_) (fun c21 => ?_)
    · try simp only [bytesPV_length, decide_eq_true_eq, decide_eq_false_iff_not, beq_iff_eq, Bool.not_eq_true', beq_eq_false_iff_ne, bne_iff_ne, Bool.not_eq_false', bne_eq_false_iff_eq, ne_eq, Decidable.not_not] at c21
      refine aw_cond_t (by decide) rfl ?_
      refine aw_skip ?_
      refine hK12 _ ?_
      refine aw_seq_k (fun K13 hK13 => ?_)
      refine aw_block ?_
      refine aw_reg ?_
      refine ao_cons (acts_of rfl (does_move (by conv => lhs; whnf))) (by decide) ?_
      refine ao_cons (acts_of rfl ((does_bin (by conv => lhs; whnf) (by conv => lhs; whnf) (by conv => lhs; whnf)).castp (v' := .int .u32 ((bitN k (((b.take i).foldl byte (~~~x)) ^^^ b[i].toBitVec.setWidth 32) >>> 1).toNat : Int)) (by exact congrArg _ (shr32 _ 1 (by decide))))) (by decide) ?_
      refine ao_cons (acts_of rfl (does_move (by conv => lhs; whnf))) (by decide) ?_
      refine ao_cons (acts_of rfl ((does_bin (by conv => lhs; whnf) (by conv => lhs; whnf) (by conv => lhs; whnf)).castp (v' := .int .u32 ((bitN k (((b.take i).foldl byte (~~~x)) ^^^ b[i].toBitVec.setWidth 32) &&& 1#32).toNat : Int)) (by exact congrArg _ (and32 _ 1#32)))) (by decide) ?_
      refine ao_cons (acts_of rfl ((does_bin (by conv => lhs; whnf) (by conv => lhs; whnf) (by conv => lhs; whnf)).castp (v' := .int .u32 ((poly * (bitN k (((b.take i).foldl byte (~~~x)) ^^^ b[i].toBitVec.setWidth 32) &&& 1#32)).toNat : Int)) (by exact congrArg _ (mul32 poly _)))) (by decide) ?_
      refine ao_cons (acts_of rfl ((does_bin (by conv => lhs; whnf) (by conv => lhs; whnf) (by conv => lhs; whnf)).castp (v' := .int .u32 ((bit1 (bitN k (((b.take i).foldl byte (~~~x)) ^^^ b[i].toBitVec.setWidth 32))).toNat : Int)) (by exact congrArg _ (xor32 _ _)))) (by decide) ?_
      refine ao_cons (acts_of rfl (does_assign (by conv => lhs; whnf))) (by decide) ?_
      refine ao_nil_n ?_
      refine hK13 _ ?_
      refine aw_reg ?_
      refine ao_cons (acts_of rfl ((does_bin (by conv => lhs; whnf) (by conv => lhs; whnf) (by conv => lhs; whnf)).castp (v' := .int .i64 ((k + 1 : Nat) : Int)) (by exact congrArg _ (by rw [wrap_i64 _ (by omega) (by omega)]; rfl)))) (by decide) ?_
      refine ao_cons (acts_of rfl (does_move (by conv => lhs; whnf))) (by decide) ?_
      refine ao_nil_n ?_
      exact ⟨8 - (k + 1), (by omega), _, reb_lit [(5, .int .u32 ((bitN (k + 1) (((b.take i).foldl byte (~~~x)) ^^^ b[i].toBitVec.setWidth 32)).toNat : Int)), (10, .sl 1 (bytesPV b)), (11, .int .i64 ((bytesPV b).length : Int)), (12, .int .i64 (i : Int)), (20, .int .i64 ((k + 1) : Int))] [] [] [] (envOk_cons (by conv => lhs; whnf) (by exact rfl) (envOk_cons (by conv => lhs; whnf) (by exact rfl) (envOk_cons (by conv => lhs; whnf) (by exact rfl) (envOk_cons (by conv => lhs; whnf) (by exact rfl) (envOk_cons (by conv => lhs; whnf) (by exact rfl) envOk_nil))))) objOk_nil (nodup_b rfl) (nodup_b rfl) rfl rfl, (k + 1), (by omega), rfl, rfl⟩
    · try simp only [bytesPV_length, decide_eq_true_eq, decide_eq_false_iff_not, beq_iff_eq, Bool.not_eq_true', beq_eq_false_iff_ne, bne_iff_ne, Bool.not_eq_false', bne_eq_false_iff_eq, ne_eq, Decidable.not_not] at c21
      refine aw_cond_f (by decide) rfl ?_
      refine aw_exit ?_
      refine hK7 _ ?_
      refine aw_reg ?_
      refine ao_cons (acts_of rfl ((does_bin (by conv => lhs; whnf) (by conv => lhs; whnf) (by conv => lhs; whnf)).castp (v' := .int .i64 ((i + 1 : Nat) : Int)) (by exact congrArg _ (by rw [wrap_i64 _ (by omega) (by omega)]; rfl)))) (by decide) ?_
      refine ao_cons (acts_of rfl (does_move (by conv => lhs; whnf))) (by decide) ?_
      refine ao_nil_n ?_
      exact ⟨b.length - (i + 1), (by omega), _, reb_lit [(5, .int .u32 (((b.take (i + 1)).foldl byte (~~~x)).toNat : Int)), (10, .sl 1 (bytesPV b)), (11, .int .i64 ((bytesPV b).length : Int)), (12, .int .i64 ((i + 1) : Int))] [] [] [] (envOk_cons (by conv => lhs; whnf) (by exact congrArg (fun y : BitVec 32 => PV.int .u32 (y.toNat : Int)) (by rw [show k = 8 from by omega]; exact (fold_take byte b (~~~x) i hi).symm)) (envOk_cons (by conv => lhs; whnf) (by exact rfl) (envOk_cons (by conv => lhs; whnf) (by exact rfl) (envOk_cons (by conv => lhs; whnf) (by exact rfl) envOk_nil)))) objOk_nil (nodup_b rfl) (nodup_b rfl) rfl rfl, (i + 1), (by omega), rfl, rfl⟩
  · try simp only [bytesPV_length, decide_eq_true_eq, decide_eq_false_iff_not, beq_iff_eq, Bool.not_eq_true', beq_eq_false_iff_ne, bne_iff_ne, Bool.not_eq_false', bne_eq_false_iff_eq, ne_eq, Decidable.not_not] at c13
    refine aw_cond_f (by decide) rfl ?_
    refine aw_exit ?_
    refine hK3 _ ?_
    refine aw_seq_k (fun K14 hK14 => ?_)
    refine aw_reg ?_
    refine ao_cons (acts_of rfl (does_move (by conv => lhs; whnf))) (by decide) ?_
    refine ao_cons (acts_of rfl ((does_un (by conv => lhs; whnf) (by conv => lhs; whnf)).castp (v' := .int .u32 ((~~~((b.take i).foldl byte (~~~x))).toNat : Int)) (by exact congrArg _ (not32 _)))) (by decide) ?_
    refine ao_cons (acts_of rfl (does_assign (by conv => lhs; whnf))) (by decide) ?_
    refine ao_nil_n ?_
    refine hK14 _ ?_
    refine aw_ret ?_
    exact ret_ok1 (by conv => lhs; whnf) (by conv => lhs; whnf) (by exact by rw [show i = b.length from by omega, List.take_length]; rfl) (.inr rfl) rfl
set_option maxRecDepth 100000 in
set_option maxHeartbeats 8000000 in
theorem rmore_ok (x : BitVec 32) (b : List UInt8) (hb : b.length < 4611686018427387904) : Ok Try.prog 42 [.int .u32 ((x).toNat : Int), .sl 1 (bytesPV b)] [] [] (.int .u32 ((more x b).toNat : Int)) [] [] := by
  refine ok_of_code Try.func42 rfl (by show (2 : Nat) ≤ _; decide) (Nat.le_refl _) fun X => ?_
  refine aw_seq_k (fun K1 hK1 => ?_)
  refine aw_reg ?_
  refine ao_cons (acts_of rfl (does_assign (by conv => lhs; whnf))) (by decide) ?_
  refine ao_nil_n ?_
  refine hK1 _ ?_
  refine aw_seq_k (fun K2 hK2 => ?_)
  refine aw_reg ?_
  refine ao_cons (acts_of rfl (does_move (by conv => lhs; whnf))) (by decide) ?_
  refine ao_cons (acts_of rfl ((does_un (by conv => lhs; whnf) (by conv => lhs; whnf)).castp (v' := .int .u32 ((~~~x).toNat : Int)) (by exact congrArg _ (not32 x)))) (by decide) ?_
  refine ao_cons (acts_of rfl (does_assign (by conv => lhs; whnf))) (by decide) ?_
  refine ao_nil_n ?_
  refine hK2 _ ?_
  refine aw_seq_k (fun K3 hK3 => ?_)
  refine aw_seq_k (fun K4 hK4 => ?_)
  refine aw_reg ?_
  refine ao_cons (acts_of rfl (does_assign (by conv => lhs; whnf))) (by decide) ?_
  refine ao_nil_n ?_
  refine hK4 _ ?_
  refine aw_block ?_
  refine aw_loop' (fun m s => ∃ (i : Nat), i ≤ b.length ∧ m = b.length - i ∧ s = lit [(1, .sl 1 (bytesPV b)), (5, .int .u32 (((b.take i).foldl byte (~~~x)).toNat : Int)), (6, .int .i64 (i : Int))] [] [] X) (b.length - 0)
    ⟨_, reb_lit [(1, .sl 1 (bytesPV b)), (5, .int .u32 (((b.take 0).foldl byte (~~~x)).toNat : Int)), (6, .int .i64 (0 : Int))] [] [] [] (envOk_cons (by conv => lhs; whnf) (by exact rfl) (envOk_cons (by conv => lhs; whnf) (by exact rfl) (envOk_cons (by conv => lhs; whnf) (by exact rfl) envOk_nil))) objOk_nil (nodup_b rfl) (nodup_b rfl) rfl rfl, (0), (by omega), rfl, rfl⟩ ?_
  rintro m s ⟨i, hle, rfl, rfl⟩
  refine aw_seq_k (fun K5 hK5 => ?_)
  refine aw_seq_k (fun K6 hK6 => ?_)
  refine aw_reg ?_
  refine ao_cons (acts_of rfl (does_move (by conv => lhs; whnf))) (by decide) ?_
  refine ao_cons (acts_of rfl (does_move (by conv => lhs; whnf))) (by decide) ?_
  refine ao_cons (acts_of rfl (does_len_sl (by conv => lhs; whnf) ty22)) (by decide) ?_
  refine ao_cons (acts_of rfl (does_bin (by conv => lhs; whnf) (by conv => lhs; whnf) (by conv => lhs; whnf))) (by decide) ?_
  refine ao_nil_n ?_
  refine hK6 _ ?_
  refine aw_bool 13 rfl (fun c13 => ?_) (fun c13 => ?_)
  · try simp only [bytesPV_length, decide_eq_true_eq, decide_eq_false_iff_not, beq_iff_eq, Bool.not_eq_true', beq_eq_false_iff_ne, bne_iff_ne, Bool.not_eq_false', bne_eq_false_iff_eq, ne_eq, Decidable.not_not] at c13
    have hi : i < b.length := by omega
    refine aw_cond_t (by decide) rfl ?_
    refine aw_skip ?_
    refine hK5 _ ?_
    refine aw_seq_k (fun K7 hK7 => ?_)
    refine aw_block ?_
    refine aw_seq_k (fun K8 hK8 => ?_)
    refine aw_reg ?_
    refine ao_cons (acts_of rfl (does_move (by conv => lhs; whnf))) (by decide) ?_
    refine ao_cons (acts_of rfl (does_move (by conv => lhs; whnf))) (by decide) ?_
    refine ao_cons (acts_of rfl (does_move (by conv => lhs; whnf))) (by decide) ?_
    refine ao_cons (acts_of rfl (does_indexAddr_sl (el := .int .u8 ((b[i].toNat : Nat) : Int)) (by conv => lhs; whnf) (by conv => lhs; whnf) ty22 ty5 (by omega) (by exact bytesPV_get hi))) (by decide) ?_
    refine ao_cons (acts_of rfl (does_load (by conv => lhs; whnf) (by conv => lhs; whnf) ty5 (by conv => lhs; whnf))) (by decide) ?_
    refine ao_cons (acts_of rfl ((does_conv_int (by conv => lhs; whnf) (ty_some ty5) (ty_int ty24) rfl).castp (v' := .int .u32 ((b[i].toBitVec.setWidth 32).toNat : Int)) (by exact congrArg _ (conv8_32 _)))) (by decide) ?_
    refine ao_cons (acts_of rfl ((does_bin (by conv => lhs; whnf) (by conv => lhs; whnf) (by conv => lhs; whnf)).castp (v' := .int .u32 ((((b.take i).foldl byte (~~~x)) ^^^ b[i].toBitVec.setWidth 32).toNat : Int)) (by exact congrArg _ (xor32 _ _)))) (by decide) ?_
    refine ao_cons (acts_of rfl (does_assign (by conv => lhs; whnf))) (by decide) ?_
    refine ao_nil_n ?_
    refine hK8 _ ?_
    refine aw_seq_k (fun K9 hK9 => ?_)
    refine aw_reg ?_
    refine ao_cons (acts_of rfl (does_assign (by conv => lhs; whnf))) (by decide) ?_
    refine ao_nil_n ?_
    refine hK9 _ ?_
    refine aw_block ?_
    refine aw_loop' (fun m s => ∃ (k : Nat), k ≤ 8 ∧ m = 8 - k ∧ s = lit [(1, .sl 1 (bytesPV b)), (5, .int .u32 ((bitN k (((b.take i).foldl byte (~~~x)) ^^^ b[i].toBitVec.setWidth 32)).toNat : Int)), (6, .int .i64 (i : Int)), (7, .int .i64 (k : Int))] [] [] X) (8 - 0)
      ⟨_, reb_lit [(1, .sl 1 (bytesPV b)), (5, .int .u32 ((bitN 0 (((b.take i).foldl byte (~~~x)) ^^^ b[i].toBitVec.setWidth 32)).toNat : Int)), (6, .int .i64 (i : Int)), (7, .int .i64 (0 : Int))] [] [] [] (envOk_cons (by conv => lhs; whnf) (by exact rfl) (envOk_cons (by conv => lhs; whnf) (by exact rfl) (envOk_cons (by conv => lhs; whnf) (by exact rfl) (envOk_cons (by conv => lhs; whnf) (by exact rfl) envOk_nil)))) objOk_nil (nodup_b rfl) (nodup_b rfl) rfl rfl, (0), (by omega), rfl, rfl⟩ ?_
    rintro m s ⟨k, hk, rfl, rfl⟩
    refine aw_seq_k (fun K10 hK10 => ?_)
    refine aw_seq_k (fun K11 hK11 => ?_)
    refine aw_reg ?_
    refine ao_cons (acts_of rfl (does_move (by conv => lhs; whnf))) (by decide) ?_
    refine ao_cons (acts_of rfl (does_bin (by conv => lhs; whnf) (by conv => lhs; whnf) (by conv => lhs; whnf))) (by decide) ?_
    refine ao_nil_n ?_
    refine hK11 _ ?_
    refine aw_bool 24 rfl (fun c24 => ?_) (fun c24 => ?_)
    · try simp only [bytesPV_length, decide_eq_true_eq, decide_eq_false_iff_not, beq_iff_eq, Bool.not_eq_true', beq_eq_false_iff_ne, bne_iff_ne, Bool.not_eq_false', bne_eq_false_iff_eq, ne_eq, Decidable.not_not] at c24
      refine aw_cond_t (by decide) rfl ?_
      refine aw_skip ?_
      refine hK10 _ ?_
      refine aw_seq_k (fun K12 hK12 => ?_)
      refine aw_block ?_
      refine aw_seq_k (fun K13 hK13 => ?_)
      refine aw_reg ?_
      refine ao_cons (acts_of rfl (does_move (by conv => lhs; whnf))) (by decide) ?_
      refine ao_cons (acts_of rfl ((does_bin (by conv => lhs; whnf) (by conv => lhs; whnf) (by conv => lhs; whnf)).castp (v' := .int .u32 ((bitN k (((b.take i).foldl byte (~~~x)) ^^^ b[i].toBitVec.setWidth 32) &&& 1#32).toNat : Int)) (by exact congrArg _ (and32 _ 1#32)))) (by decide) ?_
      refine ao_cons (acts_of rfl (does_bin (by conv => lhs; whnf) (by conv => lhs; whnf) (by conv => lhs; whnf))) (by decide) ?_
      refine ao_nil_n ?_
      refine hK13 _ ?_
      refine aw_bool 29 rfl (fun c29 => ?_) (fun c29 => ?_)
      · try simp only [bytesPV_length, decide_eq_true_eq, decide_eq_false_iff_not, beq_iff_eq, Bool.not_eq_true', beq_eq_false_iff_ne, bne_iff_ne, Bool.not_eq_false', bne_eq_false_iff_eq, ne_eq, Decidable.not_not] at c29
        refine aw_cond_t (by decide) rfl ?_
        refine aw_reg ?_
        refine ao_cons (acts_of rfl (does_move (by conv => lhs; whnf))) (by decide) ?_
        refine ao_cons (acts_of rfl ((does_bin (by conv => lhs; whnf) (by conv => lhs; whnf) (by conv => lhs; whnf)).castp (v' := .int .u32 ((bitN k (((b.take i).foldl byte (~~~x)) ^^^ b[i].toBitVec.setWidth 32) >>> 1).toNat : Int)) (by exact congrArg _ (shr32 _ 1 (by decide))))) (by decide) ?_
        refine ao_cons (acts_of rfl ((does_bin (by conv => lhs; whnf) (by conv => lhs; whnf) (by conv => lhs; whnf)).castp (v' := .int .u32 ((bit1 (bitN k (((b.take i).foldl byte (~~~x)) ^^^ b[i].toBitVec.setWidth 32))).toNat : Int)) (by exact congrArg _ ((xor32 _ poly).trans (congrArg (fun y : BitVec 32 => (y.toNat : Int)) (bit1_odd _ c29)))))) (by decide) ?_
        refine ao_cons (acts_of rfl (does_assign (by conv => lhs; whnf))) (by decide) ?_
        refine ao_nil_n ?_
        refine hK12 _ ?_
        refine aw_reg ?_
        refine ao_cons (acts_of rfl (does_move (by conv => lhs; whnf))) (by decide) ?_
        refine ao_cons (acts_of rfl ((does_bin (by conv => lhs; whnf) (by conv => lhs; whnf) (by conv => lhs; whnf)).castp (v' := .int .i64 ((k + 1 : Nat) : Int)) (by exact congrArg _ (by rw [wrap_i64 _ (by omega) (by omega)]; rfl)))) (by decide) ?_
        refine ao_cons (acts_of rfl (does_assign (by conv => lhs; whnf))) (by decide) ?_
        refine ao_nil_n ?_
        exact ⟨8 - (k + 1), (by omega), _, reb_lit [(1, .sl 1 (bytesPV b)), (5, .int .u32 ((bitN (k + 1) (((b.take i).foldl byte (~~~x)) ^^^ b[i].toBitVec.setWidth 32)).toNat : Int)), (6, .int .i64 (i : Int)), (7, .int .i64 ((k + 1) : Int))] [] [] [] (envOk_cons (by conv => lhs; whnf) (by exact rfl) (envOk_cons (by conv => lhs; whnf) (by exact rfl) (envOk_cons (by conv => lhs; whnf) (by exact rfl) (envOk_cons (by conv => lhs; whnf) (by exact rfl) envOk_nil)))) objOk_nil (nodup_b rfl) (nodup_b rfl) rfl rfl, (k + 1), (by omega), rfl, rfl⟩
      · try simp only [bytesPV_length, decide_eq_true_eq, decide_eq_false_iff_not, beq_iff_eq, Bool.not_eq_true', beq_eq_false_iff_ne, bne_iff_ne, Bool.not_eq_false', bne_eq_false_iff_eq, ne_eq, Decidable.not_not] at c29
        refine aw_cond_f (by decide) rfl ?_
        refine aw_reg ?_
        refine ao_cons (acts_of rfl (does_move (by conv => lhs; whnf))) (by decide) ?_
        refine ao_cons (acts_of rfl ((does_bin (by conv => lhs; whnf) (by conv => lhs; whnf) (by conv => lhs; whnf)).castp (v' := .int .u32 ((bit1 (bitN k (((b.take i).foldl byte (~~~x)) ^^^ b[i].toBitVec.setWidth 32))).toNat : Int)) (by exact congrArg _ ((shr32 _ 1 (by decide)).trans (congrArg (fun y : BitVec 32 => (y.toNat : Int)) (bit1_even _ c29)))))) (by decide) ?_
        refine ao_cons (acts_of rfl (does_assign (by conv => lhs; whnf))) (by decide) ?_
        refine ao_nil_n ?_
        refine hK12 _ ?_
        refine aw_reg ?_
        refine ao_cons (acts_of rfl (does_move (by conv => lhs; whnf))) (by decide) ?_
        refine ao_cons (acts_of rfl ((does_bin (by conv => lhs; whnf) (by conv => lhs; whnf) (by conv => lhs; whnf)).castp (v' := .int .i64 ((k + 1 : Nat) : Int)) (by exact congrArg _ (by rw [wrap_i64 _ (by omega) (by omega)]; rfl)))) (by decide) ?_
        refine ao_cons (acts_of rfl (does_assign (by conv => lhs; whnf))) (by decide) ?_
        refine ao_nil_n ?_
        exact ⟨8 - (k + 1), (by omega), _, reb_lit [(1, .sl 1 (bytesPV b)), (5, .int .u32 ((bitN (k + 1) (((b.take i).foldl byte (~~~x)) ^^^ b[i].toBitVec.setWidth 32)).toNat : Int)), (6, .int .i64 (i : Int)), (7, .int .i64 ((k + 1) : Int))] [] [] [] (envOk_cons (by conv => lhs; whnf) (by exact rfl) (envOk_cons (by conv => lhs; whnf) (by exact rfl) (envOk_cons (by conv => lhs; whnf) (by exact rfl) (envOk_cons (by conv => lhs; whnf) (by exact rfl) envOk_nil)))) objOk_nil (nodup_b rfl) (nodup_b rfl) rfl rfl, (k + 1), (by omega), rfl, rfl⟩
    · try simp only [bytesPV_length, decide_eq_true_eq, decide_eq_false_iff_not, beq_iff_eq, Bool.not_eq_true', beq_eq_false_iff_ne, bne_iff_ne, Bool.not_eq_false', bne_eq_false_iff_eq, ne_eq, Decidable.not_not] at c24
      refine aw_cond_f (by decide) rfl ?_
      refine aw_exit ?_
      refine hK7 _ ?_
      refine aw_reg ?_
      refine ao_cons (acts_of rfl (does_move (by conv => lhs; whnf))) (by decide) ?_
      refine ao_cons (acts_of rfl ((does_bin (by conv => lhs; whnf) (by conv => lhs; whnf) (by conv => lhs; whnf)).castp (v' := .int .i64 ((i + 1 : Nat) : Int)) (by exact congrArg _ (by rw [wrap_i64 _ (by omega) (by omega)]; rfl)))) (by decide) ?_
      refine ao_cons (acts_of rfl (does_assign (by conv => lhs; whnf))) (by decide) ?_
      refine ao_nil_n ?_
      exact ⟨b.length - (i + 1), (by omega), _, reb_lit [(1, .sl 1 (bytesPV b)), (5, .int .u32 (((b.take (i + 1)).foldl byte (~~~x)).toNat : Int)), (6, .int .i64 ((i + 1) : Int))] [] [] [] (envOk_cons (by conv => lhs; whnf) (by exact rfl) (envOk_cons (by conv => lhs; whnf) (by exact congrArg (fun y : BitVec 32 => PV.int .u32 (y.toNat : Int)) (by rw [show k = 8 from by omega]; exact (fold_take byte b (~~~x) i hi).symm)) (envOk_cons (by conv => lhs; whnf) (by exact rfl) envOk_nil))) objOk_nil (nodup_b rfl) (nodup_b rfl) rfl rfl, (i + 1), (by omega), rfl, rfl⟩
  · try simp only [bytesPV_length, decide_eq_true_eq, decide_eq_false_iff_not, beq_iff_eq, Bool.not_eq_true', beq_eq_false_iff_ne, bne_iff_ne, Bool.not_eq_false', bne_eq_false_iff_eq, ne_eq, Decidable.not_not] at c13
    refine aw_cond_f (by decide) rfl ?_
    refine aw_exit ?_
    refine hK3 _ ?_
    refine aw_seq_k (fun K14 hK14 => ?_)
    refine aw_reg ?_
    refine ao_cons (acts_of rfl (does_move (by conv => lhs; whnf))) (by decide) ?_
    refine ao_cons (acts_of rfl ((does_un (by conv => lhs; whnf) (by conv => lhs; whnf)).castp (v' := .int .u32 ((~~~((b.take i).foldl byte (~~~x))).toNat : Int)) (by exact congrArg _ (not32 _)))) (by decide) ?_
    refine ao_cons (acts_of rfl (does_assign (by conv => lhs; whnf))) (by decide) ?_
    refine ao_nil_n ?_
    refine hK14 _ ?_
    refine aw_ret ?_
    exact ret_ok1 (by conv => lhs; whnf) (by conv => lhs; whnf) (by exact by rw [show i = b.length from by omega, List.take_length]; rfl) (.inr rfl) rfl
set_option maxRecDepth 100000 in
set_option maxHeartbeats 8000000 in
theorem sum_ok (b : List UInt8) (hb : b.length < 4611686018427387904) : Ok Try.prog 17 [.sl 1 (bytesPV b)] [] [] (.int .u32 ((more 0#32 b).toNat : Int)) [] [] := by
  refine ok_of_code Try.func17 rfl (by show (1 : Nat) ≤ _; decide) (Nat.le_refl _) fun X => ?_
  refine aw_seq_k (fun K1 hK1 => ?_)
  refine aw_reg ?_
  refine ao_cons (acts_of rfl (does_assign (by conv => lhs; whnf))) (by decide) ?_
  refine ao_nil_n ?_
  refine hK1 _ ?_
  refine aw_seq_k (fun K2 hK2 => ?_)
  refine aw_reg ?_
  refine ao_cons (acts_of rfl (does_move (by conv => lhs; whnf))) (by decide) ?_
  refine ao_cons (acts_of rfl (do_call0 4 false (more_ok 0#32 b hb) rfl ent19 rfl rfl)) (by decide) ?_
  refine ao_cons (acts_of rfl (does_assign (by conv => lhs; whnf))) (by decide) ?_
  refine ao_nil_n ?_
  refine hK2 _ ?_
  refine aw_ret ?_
  exact ret_ok1 (by conv => lhs; whnf) (by conv => lhs; whnf) (by exact rfl) (.inr rfl) rfl
set_option maxRecDepth 100000 in
set_option maxHeartbeats 8000000 in
theorem rsum_ok (b : List UInt8) (hb : b.length < 4611686018427387904) : Ok Try.prog 18 [.sl 1 (bytesPV b)] [] [] (.int .u32 ((more 0#32 b).toNat : Int)) [] [] := by
  refine ok_of_code Try.func18 rfl (by show (1 : Nat) ≤ _; decide) (Nat.le_refl _) fun X => ?_
  refine aw_seq_k (fun K1 hK1 => ?_)
  refine aw_reg ?_
  refine ao_cons (acts_of rfl (does_assign (by conv => lhs; whnf))) (by decide) ?_
  refine ao_nil_n ?_
  refine hK1 _ ?_
  refine aw_seq_k (fun K2 hK2 => ?_)
  refine aw_reg ?_
  refine ao_cons (acts_of rfl (does_move (by conv => lhs; whnf))) (by decide) ?_
  refine ao_cons (acts_of rfl (do_call0 4 false (rmore_ok 0#32 b hb) rfl ent42 rfl rfl)) (by decide) ?_
  refine ao_cons (acts_of rfl (does_assign (by conv => lhs; whnf))) (by decide) ?_
  refine ao_nil_n ?_
  refine hK2 _ ?_
  refine aw_ret ?_
  exact ret_ok1 (by conv => lhs; whnf) (by conv => lhs; whnf) (by exact rfl) (.inr rfl) rfl

theorem sum_nil : Ok Try.prog 17 [.nil] [] [] (.int .u32 ((more 0#32 []).toNat : Int)) [] [] := (sum_ok [] (by decide)).of_le rfl fun i p q h1 h2 => by
  cases i with
  | zero => simp at h1 h2; subst h1 h2; exact nil_le 1
  | succ i => simp at h1

set_option maxRecDepth 100000 in
set_option maxHeartbeats 8000000 in
theorem alive2_ok  : Ok Try.prog 16 [] [] [] (.bool true) [] [] := by
  refine ok_of_code Try.func16 rfl (by show (0 : Nat) ≤ _; decide) (Nat.le_refl _) fun X => ?_
  refine aw_seq_k (fun K1 hK1 => ?_)
  refine aw_reg ?_
  refine ao_cons (acts_of rfl (does_assign (by conv => lhs; whnf))) (by decide) ?_
  refine ao_nil_n ?_
  refine hK1 _ ?_
  refine aw_seq_k (fun K2 hK2 => ?_)
  refine aw_reg ?_
  refine ao_cons (acts_of rfl (do_call0 1 false (sum_nil) rfl ent17 rfl rfl)) (by decide) ?_
  refine ao_cons (acts_of rfl ((does_bin (by conv => lhs; whnf) (by conv => lhs; whnf) (by conv => lhs; whnf)).castp (v' := .bool true) (by exact congrArg PV.bool (by decide +kernel)))) (by decide) ?_
  refine ao_cons (acts_of rfl (does_move (by conv => lhs; whnf))) (by decide) ?_
  refine ao_cons (acts_of rfl (do_buildSlice (xs := [.int .u8 49, .int .u8 50, .int .u8 51, .int .u8 52, .int .u8 53, .int .u8 54, .int .u8 55, .int .u8 56, .int .u8 57]) ty22 ty5 rfl rfl rfl rfl rfl rfl rfl rfl)) (by decide) ?_
  refine ao_cons (acts_of rfl (does_conv_bytes (fz := false) (by conv => lhs; whnf) (by conv => lhs; whnf) (ty_slice ty22) (ty_int ty5) (by simp))) (by decide) ?_
  refine ao_cons (acts_of rfl (do_call0 6 false (sum_ok [49, 50, 51, 52, 53, 54, 55, 56, 57] (by decide)) rfl ent17 rfl rfl)) (by decide) ?_
  refine ao_cons (acts_of rfl ((does_bin (by conv => lhs; whnf) (by conv => lhs; whnf) (by conv => lhs; whnf)).castp (v' := .bool true) (by exact congrArg PV.bool (by decide +kernel)))) (by decide) ?_
  refine ao_cons (acts_of rfl (does_pick (by conv => lhs; whnf) (by conv => lhs; whnf))) (by decide) ?_
  refine ao_cons (acts_of rfl (does_assign (by conv => lhs; whnf))) (by decide) ?_
  refine ao_nil_n ?_
  refine hK2 _ ?_
  refine aw_ret ?_
  exact ret_ok1 (by conv => lhs; whnf) (by conv => lhs; whnf) (by exact rfl) (.inr rfl) rfl
set_option maxRecDepth 100000 in
set_option maxHeartbeats 8000000 in
theorem checkTells_ok (b : List UInt8) (a : Int) : Ok Try.prog 3 [.sl 1 (bytesPV b), .int .i64 a] [] [] (.bool true) [] [] := by
  refine ok_of_code Try.func3 rfl (by show (2 : Nat) ≤ _; decide) (Nat.le_refl _) fun X => ?_
  refine aw_seq_k (fun K1 hK1 => ?_)
  refine aw_reg ?_
  refine ao_cons (acts_of rfl (does_assign (by conv => lhs; whnf))) (by decide) ?_
  refine ao_nil_n ?_
  refine hK1 _ ?_
  refine aw_seq_k (fun K2 hK2 => ?_)
  refine aw_reg ?_
  refine ao_cons (acts_of rfl (do_call0 7 false (alive2_ok) rfl ent16 rfl rfl)) (by decide) ?_
  refine ao_cons (acts_of rfl (does_assign (by conv => lhs; whnf))) (by decide) ?_
  refine ao_nil_n ?_
  refine hK2 _ ?_
  refine aw_seq_k (fun K3 hK3 => ?_)
  refine aw_seq_k (fun K4 hK4 => ?_)
  refine aw_reg ?_
  refine ao_cons (acts_of rfl (does_move (by conv => lhs; whnf))) (by decide) ?_
  refine ao_cons (acts_of rfl (does_un (by conv => lhs; whnf) (by conv => lhs; whnf))) (by decide) ?_
  refine ao_cons (acts_of rfl (does_move (by conv => lhs; whnf))) (by decide) ?_
  refine ao_cons (acts_of rfl (does_move (by conv => lhs; whnf))) (by decide) ?_
  refine ao_cons (acts_of rfl (does_len_sl (by conv => lhs; whnf) ty22)) (by decide) ?_
  refine ao_cons (acts_of rfl (does_bin (by conv => lhs; whnf) (by conv => lhs; whnf) (by conv => lhs; whnf))) (by decide) ?_
  refine ao_cons (acts_of rfl (does_pick (by conv => lhs; whnf) (by conv => lhs; whnf))) (by decide) ?_
  refine ao_cons (acts_of rfl (does_move (by conv => lhs; whnf))) (by decide) ?_
  refine ao_bool 15 rfl (fun g15 => ?_) (fun g15 => ?_)
  · try simp only [bytesPV_length, decide_eq_true_eq, decide_eq_false_iff_not, beq_iff_eq, Bool.not_eq_true', beq_eq_false_iff_ne, bne_iff_ne, Bool.not_eq_false', bne_eq_false_iff_eq, ne_eq, Decidable.not_not] at g15
    refine ao_cons (acts_skip rfl) (by decide) ?_
    refine ao_cons (acts_skip rfl) (by decide) ?_
    refine ao_cons (acts_of rfl (does_pick (by conv => lhs; whnf) (by conv => lhs; whnf))) (by decide) ?_
    refine ao_cons (acts_of rfl (does_move (by conv => lhs; whnf))) (by decide) ?_
    refine ao_cons (acts_skip rfl) (by decide) ?_
    refine ao_cons (acts_skip rfl) (by decide) ?_
    refine ao_cons (acts_skip rfl) (by decide) ?_
    refine ao_cons (acts_skip rfl) (by decide) ?_
    refine ao_cons (acts_of rfl (does_pick (by conv => lhs; whnf) (by conv => lhs; whnf))) (by decide) ?_
    refine ao_nil_n ?_
    refine hK4 _ ?_
    refine aw_cond_t (by decide) rfl ?_
    refine aw_seq_k (fun K5 hK5 => ?_)
    refine aw_reg ?_
    refine ao_cons (acts_of rfl (does_move (by conv => lhs; whnf))) (by decide) ?_
    refine ao_cons (acts_of rfl (does_assign (by conv => lhs; whnf))) (by decide) ?_
    refine ao_nil_n ?_
    refine hK5 _ ?_
    refine aw_ret ?_
    exact ret_ok1 (by conv => lhs; whnf) (by conv => lhs; whnf) (by exact rfl) (.inr rfl) rfl
  · try simp only [bytesPV_length, decide_eq_true_eq, decide_eq_false_iff_not, beq_iff_eq, Bool.not_eq_true', beq_eq_false_iff_ne, bne_iff_ne, Bool.not_eq_false', bne_eq_false_iff_eq, ne_eq, Decidable.not_not] at g15
    refine ao_cons (acts_of rfl (does_move (by conv => lhs; whnf))) (by decide) ?_
    refine ao_cons (acts_of rfl (does_bin (by conv => lhs; whnf) (by conv => lhs; whnf) (by conv => lhs; whnf))) (by decide) ?_
    refine ao_cons (acts_of rfl (does_pick (by conv => lhs; whnf) (by conv => lhs; whnf))) (by decide) ?_
    refine ao_cons (acts_of rfl (does_move (by conv => lhs; whnf))) (by decide) ?_
    refine ao_bool 19 rfl (fun g19 => ?_) (fun g19 => ?_)
    · try simp only [bytesPV_length, decide_eq_true_eq, decide_eq_false_iff_not, beq_iff_eq, Bool.not_eq_true', beq_eq_false_iff_ne, bne_iff_ne, Bool.not_eq_false', bne_eq_false_iff_eq, ne_eq, Decidable.not_not] at g19
      refine ao_cons (acts_skip rfl) (by decide) ?_
      refine ao_cons (acts_skip rfl) (by decide) ?_
      refine ao_cons (acts_skip rfl) (by decide) ?_
      refine ao_cons (acts_skip rfl) (by decide) ?_
      refine ao_cons (acts_of rfl (does_pick (by conv => lhs; whnf) (by conv => lhs; whnf))) (by decide) ?_
      refine ao_nil_n ?_
      refine hK4 _ ?_
      refine aw_cond_t (by decide) rfl ?_
      refine aw_seq_k (fun K6 hK6 => ?_)
      refine aw_reg ?_
      refine ao_cons (acts_of rfl (does_move (by conv => lhs; whnf))) (by decide) ?_
      refine ao_cons (acts_of rfl (does_assign (by conv => lhs; whnf))) (by decide) ?_
      refine ao_nil_n ?_
      refine hK6 _ ?_
      refine aw_ret ?_
      exact ret_ok1 (by conv => lhs; whnf) (by conv => lhs; whnf) (by exact rfl) (.inr rfl) rfl
    · try simp only [bytesPV_length, decide_eq_true_eq, decide_eq_false_iff_not, beq_iff_eq, Bool.not_eq_true', beq_eq_false_iff_ne, bne_iff_ne, Bool.not_eq_false', bne_eq_false_iff_eq, ne_eq, Decidable.not_not] at g19
      refine ao_cons (acts_of rfl (does_move (by conv => lhs; whnf))) (by decide) ?_
      refine ao_cons (acts_of rfl (does_move (by conv => lhs; whnf))) (by decide) ?_
      refine ao_cons (acts_of rfl (does_len_sl (by conv => lhs; whnf) ty22)) (by decide) ?_
      refine ao_cons (acts_of rfl (does_bin (by conv => lhs; whnf) (by conv => lhs; whnf) (by conv => lhs; whnf))) (by decide) ?_
      refine ao_cons (acts_of rfl (does_pick (by conv => lhs; whnf) (by conv => lhs; whnf))) (by decide) ?_
      refine ao_nil_n ?_
      refine hK4 _ ?_
      refine aw_bool 24 rfl (fun c24 => ?_) (fun c24 => ?_)
      · try simp only [bytesPV_length, decide_eq_true_eq, decide_eq_false_iff_not, beq_iff_eq, Bool.not_eq_true', beq_eq_false_iff_ne, bne_iff_ne, Bool.not_eq_false', bne_eq_false_iff_eq, ne_eq, Decidable.not_not] at c24
        refine aw_cond_t (by decide) rfl ?_
        refine aw_seq_k (fun K7 hK7 => ?_)
        refine aw_reg ?_
        refine ao_cons (acts_of rfl (does_move (by conv => lhs; whnf))) (by decide) ?_
        refine ao_cons (acts_of rfl (does_assign (by conv => lhs; whnf))) (by decide) ?_
        refine ao_nil_n ?_
        refine hK7 _ ?_
        refine aw_ret ?_
        exact ret_ok1 (by conv => lhs; whnf) (by conv => lhs; whnf) (by exact rfl) (.inr rfl) rfl
      · try simp only [bytesPV_length, decide_eq_true_eq, decide_eq_false_iff_not, beq_iff_eq, Bool.not_eq_true', beq_eq_false_iff_ne, bne_iff_ne, Bool.not_eq_false', bne_eq_false_iff_eq, ne_eq, Decidable.not_not] at c24
        refine aw_cond_f (by decide) rfl ?_
        refine aw_skip ?_
        refine hK3 _ ?_
        refine aw_seq_k (fun K8 hK8 => ?_)
        refine aw_reg ?_
        refine ao_cons (acts_of rfl (does_move (by conv => lhs; whnf))) (by decide) ?_
        refine ao_cons (acts_of rfl (do_append (v := (bytesPV b)) (by conv => lhs; whnf) (by conv => lhs; whnf) ty22 ty5 rfl rfl (by conv => lhs; whnf) (by first | exact .inl rfl | exact .inr ⟨rfl, rfl⟩) (by conv => lhs; whnf) (by first | exact .inr rfl | exact .inl rfl) (List.nil_append _) (by simp only [bytesPV_length]; omega))) (by decide) ?_
        refine ao_cons (acts_of rfl (do_callL [(27, 0)] 28 false (sum_ok b (by omega)) rfl ent17 rfl rfl rfl rfl)) (by decide) ?_
        refine ao_cons (acts_of rfl (does_assign (by conv => lhs; whnf))) (by decide) ?_
        refine ao_nil_n ?_
        refine hK8 _ ?_
        refine aw_seq_k (fun K9 hK9 => ?_)
        refine aw_regd (by kernel_rfl) (by decide +kernel) ?_
        refine ao_cons (acts_of rfl (does_move (by conv => lhs; whnf))) (by decide) ?_
        refine ao_cons (acts_of rfl (does_move (by conv => lhs; whnf))) (by decide) ?_
        refine ao_cons (acts_of rfl (do_call0 31 false (rsum_ok b (by omega)) rfl ent18 rfl rfl)) (by decide) ?_
        refine ao_cons (acts_of rfl ((does_bin (by conv => lhs; whnf) (by conv => lhs; whnf) (by conv => lhs; whnf)).castp (v' := .bool true) (by exact congrArg PV.bool (by simp)))) (by decide) ?_
        refine ao_cons (acts_of rfl (does_move (by conv => lhs; whnf))) (by decide) ?_
        refine ao_cons (acts_of rfl (does_move (by conv => lhs; whnf))) (by decide) ?_
        refine ao_cons (acts_of rfl (does_move (by conv => lhs; whnf))) (by decide) ?_
        refine ao_cons (acts_of rfl (does_slice_sl (by conv => lhs; whnf) ty22 ty5 bd_none (bd_some (by conv => lhs; whnf) ((Int.toNat_of_nonneg (by omega)).symm)) (Nat.zero_le _) (by rw [bytesPV_length]; omega) ((by rw [List.drop_zero, bytesPV_take])))) (by decide) ?_
        refine ao_cons (acts_of rfl (do_call0 37 false (sum_ok (b.take a.toNat) (by rw [List.length_take]; omega)) rfl ent17 rfl rfl)) (by decide) ?_
        refine ao_cons (acts_of rfl (does_move (by conv => lhs; whnf))) (by decide) ?_
        refine ao_cons (acts_of rfl (does_move (by conv => lhs; whnf))) (by decide) ?_
        refine ao_cons (acts_of rfl (does_slice_sl (by conv => lhs; whnf) ty22 ty5 (bd_some (by conv => lhs; whnf) ((Int.toNat_of_nonneg (by omega)).symm)) bd_none (by rw [bytesPV_length]; omega) (Nat.le_refl _) ((by rw [List.take_length, bytesPV_drop])))) (by decide) ?_
        refine ao_cons (acts_of rfl (do_call0 41 false ((more_ok (more 0#32 (b.take a.toNat)) (b.drop a.toNat) (by rw [List.length_drop]; omega)).ret_eq (r' := .int .u32 ((more 0#32 b).toNat : Int)) (by rw [more_append, List.take_append_drop])) rfl ent19 rfl rfl)) (by decide) ?_
        refine ao_cons (acts_of rfl (does_move (by conv => lhs; whnf))) (by decide) ?_
        refine ao_cons (acts_of rfl ((does_bin (by conv => lhs; whnf) (by conv => lhs; whnf) (by conv => lhs; whnf)).castp (v' := .bool true) (by exact congrArg PV.bool (by simp)))) (by decide) ?_
        refine ao_cons (acts_of rfl (does_pick (by conv => lhs; whnf) (by conv => lhs; whnf))) (by decide) ?_
        refine ao_cons (acts_of rfl (does_move (by conv => lhs; whnf))) (by decide) ?_
        refine ao_cons (acts_of rfl (does_move (by conv => lhs; whnf))) (by decide) ?_
        refine ao_cons (acts_of rfl (do_call0 47 false (more_ok 0#32 b (by omega)) rfl ent19 rfl rfl)) (by decide) ?_
        refine ao_cons (acts_of rfl (does_move (by conv => lhs; whnf))) (by decide) ?_
        refine ao_cons (acts_of rfl ((does_bin (by conv => lhs; whnf) (by conv => lhs; whnf) (by conv => lhs; whnf)).castp (v' := .bool true) (by exact congrArg PV.bool (by simp)))) (by decide) ?_
        refine ao_cons (acts_of rfl (does_pick (by conv => lhs; whnf) (by conv => lhs; whnf))) (by decide) ?_
        refine ao_cons (acts_of rfl (does_assign (by conv => lhs; whnf))) (by decide) ?_
        refine ao_nil_d (by kernel_rfl) ?_
        refine hK9 _ ?_
        refine aw_ret ?_
        exact ret_ok1 (by conv => lhs; whnf) (by conv => lhs; whnf) (by exact rfl) (.inr rfl) rfl
end Go.Proofs.Ytomjoccpkknamaa.Ab
