/- The walks of chapter 2: a sum behind its bytes, and the sums of three texts. -/
import Derived.Test.YtomjoccpkknamaaCheckP
import Derived.Test.YtomjoccpkknamaaProg
namespace Go.Proofs.Ytomjoccpkknamaa.Ab
open Go Go.RowKit
set_option linter.unusedVariables false
set_option linter.unusedSimpArgs false

set_option maxRecDepth 100000 in
set_option maxHeartbeats 8000000 in
theorem checkRest_ok (b : List UInt8) : Ok Try.prog 6 [.sl 1 (bytesPV b)] [] [] (.bool true) [] [] := by
  refine ok_of_code Try.func6 rfl (by show (1 : Nat) ≤ _; decide) (Nat.le_refl _) fun X => ?_
  refine aw_seq_k (fun K1 hK1 => ?_)
  refine aw_reg ?_
  refine ao_cons (acts_of rfl (does_assign (by conv => lhs; whnf))) (by decide) ?_
  refine ao_nil_n ?_
  refine hK1 _ ?_
  refine aw_seq_k (fun K2 hK2 => ?_)
  refine aw_reg ?_
  refine ao_cons (acts_of rfl (do_call0 5 false (alive2_ok) rfl ent16 rfl rfl)) (by decide) ?_
  refine ao_cons (acts_of rfl (does_assign (by conv => lhs; whnf))) (by decide) ?_
  refine ao_nil_n ?_
  refine hK2 _ ?_
  refine aw_seq_k (fun K3 hK3 => ?_)
  refine aw_seq_k (fun K4 hK4 => ?_)
  refine aw_reg ?_
  refine ao_cons (acts_of rfl (does_move (by conv => lhs; whnf))) (by decide) ?_
  refine ao_cons (acts_of rfl (does_un (by conv => lhs; whnf) (by conv => lhs; whnf))) (by decide) ?_
  refine ao_cons (acts_of rfl (does_move (by conv => lhs; whnf))) (by decide) ?_
  refine ao_cons (acts_of rfl (does_move (by conv => lhs; whnf))) (by decide) ?_
  refine ao_cons (acts_of rfl (does_len_sl (by conv => lhs; whnf) ty22)) (by decide) ?_
  refine ao_cons (acts_of rfl (does_bin (by conv => lhs; whnf) (by conv => lhs; whnf) (by conv => lhs; whnf))) (by decide) ?_
  refine ao_cons (acts_of rfl (does_pick (by conv => lhs; whnf) (by conv => lhs; whnf))) (by decide) ?_
  refine ao_nil_n ?_
  refine hK4 _ ?_
  refine aw_bool 12 rfl (fun c12 => ?_) (fun c12 => ?_)
  · try simp only [bytesPV_length, decide_eq_true_eq, decide_eq_false_iff_not, beq_iff_eq, Bool.not_eq_true', beq_eq_false_iff_ne, bne_iff_ne, Bool.not_eq_false', bne_eq_false_iff_eq, ne_eq, Decidable.not_not] at c12
    refine aw_cond_t (by decide) rfl ?_
    refine aw_seq_k (fun K5 hK5 => ?_)
    refine aw_reg ?_
    refine ao_cons (acts_of rfl (does_move (by conv => lhs; whnf))) (by decide) ?_
    refine ao_cons (acts_of rfl (does_assign (by conv => lhs; whnf))) (by decide) ?_
    refine ao_nil_n ?_
    refine hK5 _ ?_
    refine aw_ret ?_
    exact ret_ok1 (by conv => lhs; whnf) (by conv => lhs; whnf) (by exact rfl) (.inr rfl) rfl
  · try simp only [bytesPV_length, decide_eq_true_eq, decide_eq_false_iff_not, beq_iff_eq, Bool.not_eq_true', beq_eq_false_iff_ne, bne_iff_ne, Bool.not_eq_false', bne_eq_false_iff_eq, ne_eq, Decidable.not_not] at c12
    refine aw_cond_f (by decide) rfl ?_
    refine aw_skip ?_
    refine hK3 _ ?_
    refine aw_seq_k (fun K6 hK6 => ?_)
    refine aw_reg ?_
    refine ao_cons (acts_of rfl (does_move (by conv => lhs; whnf))) (by decide) ?_
    refine ao_cons (acts_of rfl (do_call0 15 false (sum_ok b (by omega)) rfl ent17 rfl rfl)) (by decide) ?_
    refine ao_cons (acts_of rfl (does_assign (by conv => lhs; whnf))) (by decide) ?_
    refine ao_nil_n ?_
    refine hK6 _ ?_
    refine aw_seq_k (fun K7 hK7 => ?_)
    refine aw_reg ?_
    refine ao_cons (acts_of rfl (does_move (by conv => lhs; whnf))) (by decide) ?_
    refine ao_cons (acts_of rfl (does_move (by conv => lhs; whnf))) (by decide) ?_
    refine ao_cons (acts_of rfl ((does_bin (by conv => lhs; whnf) (by conv => lhs; whnf) (by conv => lhs; whnf)).castp (v' := .int .u32 ((more 0#32 b &&& 255#32).toNat : Int)) (by exact congrArg _ (and32 _ 255#32)))) (by decide) ?_
    refine ao_cons (acts_of rfl ((does_conv_int (by conv => lhs; whnf) (ty_some ty24) (ty_int ty5) rfl).castp (v' := .int .u8 ((by0 (more 0#32 b)).toNat : Int)) (by exact congrArg _ (conv32_8 _)))) (by decide) ?_
    refine ao_cons (acts_of rfl (does_move (by conv => lhs; whnf))) (by decide) ?_
    refine ao_cons (acts_of rfl ((does_bin (by conv => lhs; whnf) (by conv => lhs; whnf) (by conv => lhs; whnf)).castp (v' := .int .u32 ((more 0#32 b >>> 8).toNat : Int)) (by exact congrArg _ (shr32 _ 8 (by decide))))) (by decide) ?_
    refine ao_cons (acts_of rfl ((does_bin (by conv => lhs; whnf) (by conv => lhs; whnf) (by conv => lhs; whnf)).castp (v' := .int .u32 ((more 0#32 b >>> 8 &&& 255#32).toNat : Int)) (by exact congrArg _ (and32 _ 255#32)))) (by decide) ?_
    refine ao_cons (acts_of rfl ((does_conv_int (by conv => lhs; whnf) (ty_some ty24) (ty_int ty5) rfl).castp (v' := .int .u8 ((by1 (more 0#32 b)).toNat : Int)) (by exact congrArg _ (conv32_8 _)))) (by decide) ?_
    refine ao_cons (acts_of rfl (does_move (by conv => lhs; whnf))) (by decide) ?_
    refine ao_cons (acts_of rfl ((does_bin (by conv => lhs; whnf) (by conv => lhs; whnf) (by conv => lhs; whnf)).castp (v' := .int .u32 ((more 0#32 b >>> 16).toNat : Int)) (by exact congrArg _ (shr32 _ 16 (by decide))))) (by decide) ?_
    refine ao_cons (acts_of rfl ((does_bin (by conv => lhs; whnf) (by conv => lhs; whnf) (by conv => lhs; whnf)).castp (v' := .int .u32 ((more 0#32 b >>> 16 &&& 255#32).toNat : Int)) (by exact congrArg _ (and32 _ 255#32)))) (by decide) ?_
    refine ao_cons (acts_of rfl ((does_conv_int (by conv => lhs; whnf) (ty_some ty24) (ty_int ty5) rfl).castp (v' := .int .u8 ((by2 (more 0#32 b)).toNat : Int)) (by exact congrArg _ (conv32_8 _)))) (by decide) ?_
    refine ao_cons (acts_of rfl (does_move (by conv => lhs; whnf))) (by decide) ?_
    refine ao_cons (acts_of rfl ((does_bin (by conv => lhs; whnf) (by conv => lhs; whnf) (by conv => lhs; whnf)).castp (v' := .int .u32 ((more 0#32 b >>> 24).toNat : Int)) (by exact congrArg _ (shr32 _ 24 (by decide))))) (by decide) ?_
    refine ao_cons (acts_of rfl ((does_conv_int (by conv => lhs; whnf) (ty_some ty24) (ty_int ty5) rfl).castp (v' := .int .u8 ((by3 (more 0#32 b)).toNat : Int)) (by exact congrArg _ (conv32_8 _)))) (by decide) ?_
    refine ao_cons (acts_of rfl (do_buildSlice (xs := [.int .u8 ((by0 (more 0#32 b)).toNat : Int), .int .u8 ((by1 (more 0#32 b)).toNat : Int), .int .u8 ((by2 (more 0#32 b)).toNat : Int), .int .u8 ((by3 (more 0#32 b)).toNat : Int)]) ty22 ty5 rfl rfl rfl rfl rfl rfl rfl rfl)) (by decide) ?_
    refine ao_cons (acts_of rfl (do_callL [(31, 0)] 32 false ((more_ok (more 0#32 b) [by0 (more 0#32 b), by1 (more 0#32 b), by2 (more 0#32 b), by3 (more 0#32 b)] (by simp)).ret_eq (r' := .int .u32 ((558161692#32).toNat : Int)) (by rw [rest_law])) rfl ent19 rfl rfl rfl rfl)) (by decide) ?_
    refine ao_cons (acts_of rfl ((does_bin (by conv => lhs; whnf) (by conv => lhs; whnf) (by conv => lhs; whnf)).castp (v' := .bool true) (by exact congrArg PV.bool (by decide)))) (by decide) ?_
    refine ao_cons (acts_of rfl (does_assign (by conv => lhs; whnf))) (by decide) ?_
    refine ao_nil_n ?_
    refine hK7 _ ?_
    refine aw_ret ?_
    exact ret_ok1 (by conv => lhs; whnf) (by conv => lhs; whnf) (by exact rfl) (.inr rfl) rfl
set_option maxRecDepth 100000 in
set_option maxHeartbeats 8000000 in
theorem checkAdds_ok (a b c : List UInt8) : Ok Try.prog 5 [.sl 1 (bytesPV a), .sl 1 (bytesPV b), .sl 1 (bytesPV c)] [] [] (.bool true) [] [] := by
  refine ok_of_code Try.func5 rfl (by show (3 : Nat) ≤ _; decide) (Nat.le_refl _) fun X => ?_
  refine aw_seq_k (fun K1 hK1 => ?_)
  refine aw_reg ?_
  refine ao_cons (acts_of rfl (does_assign (by conv => lhs; whnf))) (by decide) ?_
  refine ao_nil_n ?_
  refine hK1 _ ?_
  refine aw_seq_k (fun K2 hK2 => ?_)
  refine aw_reg ?_
  refine ao_cons (acts_of rfl (do_call0 10 false (alive2_ok) rfl ent16 rfl rfl)) (by decide) ?_
  refine ao_cons (acts_of rfl (does_assign (by conv => lhs; whnf))) (by decide) ?_
  refine ao_nil_n ?_
  refine hK2 _ ?_
  refine aw_seq_k (fun K3 hK3 => ?_)
  refine aw_seq_k (fun K4 hK4 => ?_)
  refine aw_reg ?_
  refine ao_cons (acts_of rfl (does_move (by conv => lhs; whnf))) (by decide) ?_
  refine ao_cons (acts_of rfl (does_un (by conv => lhs; whnf) (by conv => lhs; whnf))) (by decide) ?_
  refine ao_cons (acts_of rfl (does_move (by conv => lhs; whnf))) (by decide) ?_
  refine ao_cons (acts_of rfl (does_move (by conv => lhs; whnf))) (by decide) ?_
  refine ao_cons (acts_of rfl (does_len_sl (by conv => lhs; whnf) ty22)) (by decide) ?_
  refine ao_cons (acts_of rfl (does_bin (by conv => lhs; whnf) (by conv => lhs; whnf) (by conv => lhs; whnf))) (by decide) ?_
  refine ao_cons (acts_of rfl (does_pick (by conv => lhs; whnf) (by conv => lhs; whnf))) (by decide) ?_
  refine ao_cons (acts_of rfl (does_move (by conv => lhs; whnf))) (by decide) ?_
  refine ao_bool 18 rfl (fun g18 => ?_) (fun g18 => ?_)
  · try simp only [bytesPV_length, decide_eq_true_eq, decide_eq_false_iff_not, beq_iff_eq, Bool.not_eq_true', beq_eq_false_iff_ne, bne_iff_ne, Bool.not_eq_false', bne_eq_false_iff_eq, ne_eq, Decidable.not_not] at g18
    refine ao_cons (acts_skip rfl) (by decide) ?_
    refine ao_cons (acts_skip rfl) (by decide) ?_
    refine ao_cons (acts_skip rfl) (by decide) ?_
    refine ao_cons (acts_skip rfl) (by decide) ?_
    refine ao_cons (acts_skip rfl) (by decide) ?_
    refine ao_cons (acts_of rfl (does_pick (by conv => lhs; whnf) (by conv => lhs; whnf))) (by decide) ?_
    refine ao_cons (acts_of rfl (does_move (by conv => lhs; whnf))) (by decide) ?_
    refine ao_cons (acts_skip rfl) (by decide) ?_
    refine ao_cons (acts_skip rfl) (by decide) ?_
    refine ao_cons (acts_skip rfl) (by decide) ?_
    refine ao_cons (acts_skip rfl) (by decide) ?_
    refine ao_cons (acts_skip rfl) (by decide) ?_
    refine ao_cons (acts_of rfl (does_pick (by conv => lhs; whnf) (by conv => lhs; whnf))) (by decide) ?_
    refine ao_nil_n ?_
    refine hK4 _ ?_
    refine aw_cond_t (by decide) rfl ?_
    refine aw_seq_k (fun K5 hK5 => ?_)
    refine aw_reg ?_
    refine ao_cons (acts_of rfl (does_move (by conv => lhs; whnf))) (by decide) ?_
    refine ao_cons (acts_of rfl (does_assign (by conv => lhs; whnf))) (by decide) ?_
    refine ao_nil_n ?_
    refine hK5 _ ?_
    refine aw_ret ?_
    exact ret_ok1 (by conv => lhs; whnf) (by conv => lhs; whnf) (by exact rfl) (.inr rfl) rfl
  · try simp only [bytesPV_length, decide_eq_true_eq, decide_eq_false_iff_not, beq_iff_eq, Bool.not_eq_true', beq_eq_false_iff_ne, bne_iff_ne, Bool.not_eq_false', bne_eq_false_iff_eq, ne_eq, Decidable.not_not] at g18
    refine ao_cons (acts_of rfl (does_move (by conv => lhs; whnf))) (by decide) ?_
    refine ao_cons (acts_of rfl (does_len_sl (by conv => lhs; whnf) ty22)) (by decide) ?_
    refine ao_cons (acts_of rfl (does_move (by conv => lhs; whnf))) (by decide) ?_
    refine ao_cons (acts_of rfl (does_len_sl (by conv => lhs; whnf) ty22)) (by decide) ?_
    refine ao_cons (acts_of rfl (does_bin (by conv => lhs; whnf) (by conv => lhs; whnf) (by conv => lhs; whnf))) (by decide) ?_
    refine ao_cons (acts_of rfl (does_pick (by conv => lhs; whnf) (by conv => lhs; whnf))) (by decide) ?_
    refine ao_cons (acts_of rfl (does_move (by conv => lhs; whnf))) (by decide) ?_
    refine ao_bool 25 rfl (fun g25 => ?_) (fun g25 => ?_)
    · try simp only [bytesPV_length, decide_eq_true_eq, decide_eq_false_iff_not, beq_iff_eq, Bool.not_eq_true', beq_eq_false_iff_ne, bne_iff_ne, Bool.not_eq_false', bne_eq_false_iff_eq, ne_eq, Decidable.not_not] at g25
      refine ao_cons (acts_skip rfl) (by decide) ?_
      refine ao_cons (acts_skip rfl) (by decide) ?_
      refine ao_cons (acts_skip rfl) (by decide) ?_
      refine ao_cons (acts_skip rfl) (by decide) ?_
      refine ao_cons (acts_skip rfl) (by decide) ?_
      refine ao_cons (acts_of rfl (does_pick (by conv => lhs; whnf) (by conv => lhs; whnf))) (by decide) ?_
      refine ao_nil_n ?_
      refine hK4 _ ?_
      refine aw_cond_t (by decide) rfl ?_
      refine aw_seq_k (fun K6 hK6 => ?_)
      refine aw_reg ?_
      refine ao_cons (acts_of rfl (does_move (by conv => lhs; whnf))) (by decide) ?_
      refine ao_cons (acts_of rfl (does_assign (by conv => lhs; whnf))) (by decide) ?_
      refine ao_nil_n ?_
      refine hK6 _ ?_
      refine aw_ret ?_
      exact ret_ok1 (by conv => lhs; whnf) (by conv => lhs; whnf) (by exact rfl) (.inr rfl) rfl
    · try simp only [bytesPV_length, decide_eq_true_eq, decide_eq_false_iff_not, beq_iff_eq, Bool.not_eq_true', beq_eq_false_iff_ne, bne_iff_ne, Bool.not_eq_false', bne_eq_false_iff_eq, ne_eq, Decidable.not_not] at g25
      refine ao_cons (acts_of rfl (does_move (by conv => lhs; whnf))) (by decide) ?_
      refine ao_cons (acts_of rfl (does_len_sl (by conv => lhs; whnf) ty22)) (by decide) ?_
      refine ao_cons (acts_of rfl (does_move (by conv => lhs; whnf))) (by decide) ?_
      refine ao_cons (acts_of rfl (does_len_sl (by conv => lhs; whnf) ty22)) (by decide) ?_
      refine ao_cons (acts_of rfl (does_bin (by conv => lhs; whnf) (by conv => lhs; whnf) (by conv => lhs; whnf))) (by decide) ?_
      refine ao_cons (acts_of rfl (does_pick (by conv => lhs; whnf) (by conv => lhs; whnf))) (by decide) ?_
      refine ao_nil_n ?_
      refine hK4 _ ?_
      refine aw_bool 31 rfl (fun c31 => ?_) (fun c31 => ?_)
      · try simp only [bytesPV_length, decide_eq_true_eq, decide_eq_false_iff_not, beq_iff_eq, Bool.not_eq_true', beq_eq_false_iff_ne, bne_iff_ne, Bool.not_eq_false', bne_eq_false_iff_eq, ne_eq, Decidable.not_not] at c31
        refine aw_cond_t (by decide) rfl ?_
        refine aw_seq_k (fun K7 hK7 => ?_)
        refine aw_reg ?_
        refine ao_cons (acts_of rfl (does_move (by conv => lhs; whnf))) (by decide) ?_
        refine ao_cons (acts_of rfl (does_assign (by conv => lhs; whnf))) (by decide) ?_
        refine ao_nil_n ?_
        refine hK7 _ ?_
        refine aw_ret ?_
        exact ret_ok1 (by conv => lhs; whnf) (by conv => lhs; whnf) (by exact rfl) (.inr rfl) rfl
      · try simp only [bytesPV_length, decide_eq_true_eq, decide_eq_false_iff_not, beq_iff_eq, Bool.not_eq_true', beq_eq_false_iff_ne, bne_iff_ne, Bool.not_eq_false', bne_eq_false_iff_eq, ne_eq, Decidable.not_not] at c31
        have h1 : b.length = a.length := by omega
        have h2 : c.length = a.length := by omega
        refine aw_cond_f (by decide) rfl ?_
        refine aw_skip ?_
        refine hK3 _ ?_
        refine aw_seq_k (fun K8 hK8 => ?_)
        refine aw_reg ?_
        refine ao_cons (acts_of rfl (does_assign (by conv => lhs; whnf))) (by decide) ?_
        refine ao_nil_n ?_
        refine hK8 _ ?_
        refine aw_seq_k (fun K9 hK9 => ?_)
        refine aw_seq_k (fun K10 hK10 => ?_)
        refine aw_reg ?_
        refine ao_cons (acts_of rfl (does_assign (by conv => lhs; whnf))) (by decide) ?_
        refine ao_nil_n ?_
        refine hK10 _ ?_
        refine aw_block ?_
        refine aw_nilOwn 8 5 1 (by conv => lhs; whnf) (by decide) (by decide) ?_
        refine aw_loop' (fun m s => ∃ (i : Nat), i ≤ a.length ∧ m = a.length - i ∧ s = lit [(0, .sl 1 (bytesPV a)), (1, .sl 1 (bytesPV b)), (2, .sl 1 (bytesPV c)), (8, .own 8 0), (9, .int .i64 (i : Int))] [((8, 0), .arr 5 1 false (bytesPV ((xorL a b c).take i)))] [(8, 1)] X) (a.length - 0)
          ⟨_, reb_lit [(0, .sl 1 (bytesPV a)), (1, .sl 1 (bytesPV b)), (2, .sl 1 (bytesPV c)), (8, .own 8 0), (9, .int .i64 (0 : Int))] [(8, 0)] [((8, 0), .arr 5 1 false (bytesPV ((xorL a b c).take 0)))] [(8, 1)] (envOk_cons (by conv => lhs; whnf) (by exact rfl) (envOk_cons (by conv => lhs; whnf) (by exact rfl) (envOk_cons (by conv => lhs; whnf) (by exact rfl) (envOk_cons (by conv => lhs; whnf) (by exact rfl) (envOk_cons (by conv => lhs; whnf) (by exact rfl) envOk_nil))))) (objOk_cons (by conv => lhs; whnf) (by conv => lhs; whnf) (by exact rfl) (by simp) objOk_nil) (nodup_b rfl) (nodup_b rfl) rfl rfl, (0), (by omega), rfl, rfl⟩ ?_
        rintro m s ⟨i, hle, rfl, rfl⟩
        refine aw_seq_k (fun K11 hK11 => ?_)
        refine aw_seq_k (fun K12 hK12 => ?_)
        refine aw_reg ?_
        refine ao_cons (acts_of rfl (does_move (by conv => lhs; whnf))) (by decide) ?_
        refine ao_cons (acts_of rfl (does_move (by conv => lhs; whnf))) (by decide) ?_
        refine ao_cons (acts_of rfl (does_len_sl (by conv => lhs; whnf) ty22)) (by decide) ?_
        refine ao_cons (acts_of rfl (does_bin (by conv => lhs; whnf) (by conv => lhs; whnf) (by conv => lhs; whnf))) (by decide) ?_
        refine ao_nil_n ?_
        refine hK12 _ ?_
        refine aw_bool 36 rfl (fun c36 => ?_) (fun c36 => ?_)
        · try simp only [bytesPV_length, decide_eq_true_eq, decide_eq_false_iff_not, beq_iff_eq, Bool.not_eq_true', beq_eq_false_iff_ne, bne_iff_ne, Bool.not_eq_false', bne_eq_false_iff_eq, ne_eq, Decidable.not_not] at c36
          have hi : i < a.length := by omega
          refine aw_cond_t (by decide) rfl ?_
          refine aw_skip ?_
          refine hK11 _ ?_
          refine aw_seq_k (fun K13 hK13 => ?_)
          refine aw_block ?_
          refine aw_regd (by kernel_rfl) (by decide +kernel) ?_
          refine ao_cons (acts_of rfl (does_move (by conv => lhs; whnf))) (by decide) ?_
          refine ao_cons (acts_of rfl (does_move (by conv => lhs; whnf))) (by decide) ?_
          refine ao_cons (acts_of rfl (does_move (by conv => lhs; whnf))) (by decide) ?_
          refine ao_cons (acts_of rfl (does_indexAddr_sl (el := .int .u8 ((a[i].toNat : Nat) : Int)) (by conv => lhs; whnf) (by conv => lhs; whnf) ty22 ty5 (by omega) (by exact bytesPV_get (by omega)))) (by decide) ?_
          refine ao_cons (acts_of rfl (does_load (by conv => lhs; whnf) (by conv => lhs; whnf) ty5 (by conv => lhs; whnf))) (by decide) ?_
          refine ao_cons (acts_of rfl (does_move (by conv => lhs; whnf))) (by decide) ?_
          refine ao_cons (acts_of rfl (does_move (by conv => lhs; whnf))) (by decide) ?_
          refine ao_cons (acts_of rfl (does_indexAddr_sl (el := .int .u8 ((b[i].toNat : Nat) : Int)) (by conv => lhs; whnf) (by conv => lhs; whnf) ty22 ty5 (by omega) (by exact bytesPV_get (by omega)))) (by decide) ?_
          refine ao_cons (acts_of rfl (does_load (by conv => lhs; whnf) (by conv => lhs; whnf) ty5 (by conv => lhs; whnf))) (by decide) ?_
          refine ao_cons (acts_of rfl ((does_bin (by conv => lhs; whnf) (by conv => lhs; whnf) (by conv => lhs; whnf)).castp (v' := .int .u8 ((a[i] ^^^ b[i]).toNat : Int)) (by exact congrArg _ (xor8 _ _)))) (by decide) ?_
          refine ao_cons (acts_of rfl (does_move (by conv => lhs; whnf))) (by decide) ?_
          refine ao_cons (acts_of rfl (does_move (by conv => lhs; whnf))) (by decide) ?_
          refine ao_cons (acts_of rfl (does_indexAddr_sl (el := .int .u8 ((c[i].toNat : Nat) : Int)) (by conv => lhs; whnf) (by conv => lhs; whnf) ty22 ty5 (by omega) (by exact bytesPV_get (by omega)))) (by decide) ?_
          refine ao_cons (acts_of rfl (does_load (by conv => lhs; whnf) (by conv => lhs; whnf) ty5 (by conv => lhs; whnf))) (by decide) ?_
          refine ao_cons (acts_of rfl ((does_bin (by conv => lhs; whnf) (by conv => lhs; whnf) (by conv => lhs; whnf)).castp (v' := .int .u8 ((a[i] ^^^ b[i] ^^^ c[i]).toNat : Int)) (by exact congrArg _ (xor8 _ _)))) (by decide) ?_
          refine ao_cons (acts_of rfl (do_buildSlice (xs := [.int .u8 ((a[i] ^^^ b[i] ^^^ c[i]).toNat : Int)]) ty22 ty5 rfl rfl rfl rfl rfl rfl rfl rfl)) (by decide) ?_
          refine ao_cons (acts_of rfl (do_append (v := bytesPV ((xorL a b c).take (i + 1))) (by conv => lhs; whnf) (by conv => lhs; whnf) ty22 ty5 rfl rfl (by conv => lhs; whnf) (by first | exact .inl rfl | exact .inr ⟨rfl, rfl⟩) (by conv => lhs; whnf) (by first | exact .inr rfl | exact .inl rfl) (by rw [xorL_take a b c h1 h2 i hi, ← bytesPV_append]; rfl) (by simp only [bytesPV_length, List.length_take]; omega))) (by decide) ?_
          refine ao_cons (acts_of rfl (does_assign (by conv => lhs; whnf))) (by decide) ?_
          refine ao_nil_d (by kernel_rfl) ?_
          refine hK13 _ ?_
          refine aw_reg ?_
          refine ao_cons (acts_of rfl (does_move (by conv => lhs; whnf))) (by decide) ?_
          refine ao_cons (acts_of rfl ((does_bin (by conv => lhs; whnf) (by conv => lhs; whnf) (by conv => lhs; whnf)).castp (v' := .int .i64 ((i + 1 : Nat) : Int)) (by exact congrArg _ (by rw [wrap_i64 _ (by omega) (by omega)]; rfl)))) (by decide) ?_
          refine ao_cons (acts_of rfl (does_assign (by conv => lhs; whnf))) (by decide) ?_
          refine ao_nil_n ?_
          exact ⟨a.length - (i + 1), (by omega), _, reb_lit [(0, .sl 1 (bytesPV a)), (1, .sl 1 (bytesPV b)), (2, .sl 1 (bytesPV c)), (8, .own 8 0), (9, .int .i64 ((i + 1) : Int))] [(55, 0)] [((8, 0), .arr 5 1 false (bytesPV ((xorL a b c).take (i + 1))))] [(8, 1)] (envOk_cons (by conv => lhs; whnf) (by exact rfl) (envOk_cons (by conv => lhs; whnf) (by exact rfl) (envOk_cons (by conv => lhs; whnf) (by exact rfl) (envOk_cons (by conv => lhs; whnf) (by exact rfl) (envOk_cons (by conv => lhs; whnf) (by exact rfl) envOk_nil))))) (objOk_cons (by conv => lhs; whnf) (by conv => lhs; whnf) (by exact rfl) (by simp) objOk_nil) (nodup_b rfl) (nodup_b rfl) rfl rfl, (i + 1), (by omega), rfl, rfl⟩
        · try simp only [bytesPV_length, decide_eq_true_eq, decide_eq_false_iff_not, beq_iff_eq, Bool.not_eq_true', beq_eq_false_iff_ne, bne_iff_ne, Bool.not_eq_false', bne_eq_false_iff_eq, ne_eq, Decidable.not_not] at c36
          refine aw_cond_f (by decide) rfl ?_
          refine aw_exit ?_
          refine hK9 _ ?_
          refine aw_seq_k (fun K14 hK14 => ?_)
          refine aw_reg ?_
          refine ao_cons (acts_of rfl (does_move (by conv => lhs; whnf))) (by decide) ?_
          refine ao_cons (acts_of rfl (do_call0 57 false (sum_ok a (by omega)) rfl ent17 rfl rfl)) (by decide) ?_
          refine ao_cons (acts_of rfl (does_move (by conv => lhs; whnf))) (by decide) ?_
          refine ao_cons (acts_of rfl (do_call0 59 false (sum_ok b (by omega)) rfl ent17 rfl rfl)) (by decide) ?_
          refine ao_cons (acts_of rfl ((does_bin (by conv => lhs; whnf) (by conv => lhs; whnf) (by conv => lhs; whnf)).castp (v' := .int .u32 ((more 0#32 a ^^^ more 0#32 b).toNat : Int)) (by exact congrArg _ (xor32 _ _)))) (by decide) ?_
          refine ao_cons (acts_of rfl (does_move (by conv => lhs; whnf))) (by decide) ?_
          refine ao_cons (acts_of rfl (do_call0 62 false (sum_ok c (by omega)) rfl ent17 rfl rfl)) (by decide) ?_
          refine ao_cons (acts_of rfl ((does_bin (by conv => lhs; whnf) (by conv => lhs; whnf) (by conv => lhs; whnf)).castp (v' := .int .u32 ((more 0#32 (xorL a b c)).toNat : Int)) (by exact congrArg _ ((xor32 _ _).trans (by rw [adds_law a b c h1 h2]))))) (by decide) ?_
          refine ao_cons (acts_of rfl (does_move (by conv => lhs; whnf))) (by decide) ?_
          refine ao_cons (acts_of rfl (do_callL [(8, 0)] 65 false ((sum_ok ((xorL a b c).take i) (by rw [List.length_take]; omega)).ret_eq (r' := .int .u32 ((more 0#32 (xorL a b c)).toNat : Int)) (by rw [List.take_of_length_le (by rw [xorL_length a b c h1 h2]; omega)])) rfl ent17 rfl rfl rfl rfl)) (by decide) ?_
          refine ao_cons (acts_of rfl ((does_bin (by conv => lhs; whnf) (by conv => lhs; whnf) (by conv => lhs; whnf)).castp (v' := .bool true) (by exact congrArg PV.bool (by simp)))) (by decide) ?_
          refine ao_cons (acts_of rfl (does_assign (by conv => lhs; whnf))) (by decide) ?_
          refine ao_nil_n ?_
          refine hK14 _ ?_
          refine aw_ret ?_
          exact ret_ok1 (by conv => lhs; whnf) (by conv => lhs; whnf) (by exact rfl) (.inr rfl) rfl
end Go.Proofs.Ytomjoccpkknamaa.Ab
