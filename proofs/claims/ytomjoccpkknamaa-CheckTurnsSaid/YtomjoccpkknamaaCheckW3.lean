/- The walks of chapter 2: turned bits. -/
import Derived.Test.YtomjoccpkknamaaCheckP2
import Derived.Test.YtomjoccpkknamaaProg
namespace Go.Proofs.Ytomjoccpkknamaa.Ab
open Go Go.RowKit
set_option linter.unusedVariables false
set_option linter.unusedSimpArgs false
theorem ty3 : tyOf Try.prog 3 = some ⟨.int .i64, 1, 8, [.int .i64 0]⟩ := by kernel_rfl
theorem ty4 : tyOf Try.prog 4 = some ⟨.bool, 1, 1, [.bool false]⟩ := by kernel_rfl
theorem ty28 : tyOf Try.prog 28 = some ⟨.int .u64, 1, 8, [.int .u64 0]⟩ := by kernel_rfl
set_option maxRecDepth 100000 in
set_option maxHeartbeats 8000000 in
theorem checkTurns_ok (b : List UInt8) (i k : Int) (x : BitVec 32) : Ok Try.prog 4 [.sl 1 (bytesPV b), .int .i64 i, .int .i64 k, .int .u32 ((x).toNat : Int)] [] [] (.bool true) [] [] := by
  refine ok_of_code Try.func4 rfl (by show (4 : Nat) ≤ _; decide) (Nat.le_refl _) fun X => ?_
  refine aw_seq_k (fun K1 hK1 => ?_)
  refine aw_reg ?_
  refine ao_cons (acts_of rfl (does_assign (by conv => lhs; whnf))) (by decide) ?_
  refine ao_nil_n ?_
  refine hK1 _ ?_
  refine aw_seq_k (fun K2 hK2 => ?_)
  refine aw_reg ?_
  refine ao_cons (acts_of rfl (do_call0 17 false (alive2_ok) rfl ent16 rfl rfl)) (by decide) ?_
  refine ao_cons (acts_of rfl (does_assign (by conv => lhs; whnf))) (by decide) ?_
  refine ao_nil_n ?_
  refine hK2 _ ?_
  refine aw_seq_k (fun K3 hK3 => ?_)
  refine aw_seq_k (fun K4 hK4 => ?_)
  refine aw_reg ?_
  refine ao_cons (acts_of rfl (does_move (by conv => lhs; whnf))) (by decide) ?_
  refine ao_cons (acts_of rfl (does_un (by conv => lhs; whnf) (by conv => lhs; whnf))) (by decide) ?_
  refine ao_cons (acts_of rfl (does_move (by conv => lhs; whnf))) (by decide) ?_
  refine ao_cons (acts_of rfl (does_move (by conv => lhs; whnf))) (by decide) ?_
  refine ao_cons (acts_of rfl (does_len_sl (by conv => lhs; whnf) ty22)) (by decide) ?_
  refine ao_cons (acts_of rfl (does_bin (by conv => lhs; whnf) (by conv => lhs; whnf) (by conv => lhs; whnf))) (by decide) ?_
  refine ao_cons (acts_of rfl (does_pick (by conv => lhs; whnf) (by conv => lhs; whnf))) (by decide) ?_
  refine ao_cons (acts_of rfl (does_move (by conv => lhs; whnf))) (by decide) ?_
  refine ao_bool 25 rfl (fun g25 => ?_) (fun g25 => ?_)
  · try simp only [bytesPV_length, decide_eq_true_eq, decide_eq_false_iff_not, beq_iff_eq, Bool.not_eq_true', beq_eq_false_iff_ne, bne_iff_ne, Bool.not_eq_false', bne_eq_false_iff_eq, ne_eq, Decidable.not_not] at g25
    refine ao_cons (acts_skip rfl) (by decide) ?_
    refine ao_cons (acts_skip rfl) (by decide) ?_
    refine ao_cons (acts_skip rfl) (by decide) ?_
    refine ao_cons (acts_of rfl (does_pick (by conv => lhs; whnf) (by conv => lhs; whnf))) (by decide) ?_
    refine ao_cons (acts_of rfl (does_move (by conv => lhs; whnf))) (by decide) ?_
    refine ao_cons (acts_skip rfl) (by decide) ?_
    refine ao_cons (acts_skip rfl) (by decide) ?_
    refine ao_cons (acts_of rfl (does_pick (by conv => lhs; whnf) (by conv => lhs; whnf))) (by decide) ?_
    refine ao_cons (acts_of rfl (does_move (by conv => lhs; whnf))) (by decide) ?_
    refine ao_cons (acts_skip rfl) (by decide) ?_
    refine ao_cons (acts_skip rfl) (by decide) ?_
    refine ao_cons (acts_skip rfl) (by decide) ?_
    refine ao_cons (acts_skip rfl) (by decide) ?_
    refine ao_cons (acts_skip rfl) (by decide) ?_
    refine ao_cons (acts_of rfl (does_pick (by conv => lhs; whnf) (by conv => lhs; whnf))) (by decide) ?_
    refine ao_cons (acts_of rfl (does_move (by conv => lhs; whnf))) (by decide) ?_
    refine ao_cons (acts_skip rfl) (by decide) ?_
    refine ao_cons (acts_skip rfl) (by decide) ?_
    refine ao_cons (acts_of rfl (does_pick (by conv => lhs; whnf) (by conv => lhs; whnf))) (by decide) ?_
    refine ao_cons (acts_of rfl (does_move (by conv => lhs; whnf))) (by decide) ?_
    refine ao_cons (acts_skip rfl) (by decide) ?_
    refine ao_cons (acts_skip rfl) (by decide) ?_
    refine ao_cons (acts_skip rfl) (by decide) ?_
    refine ao_cons (acts_skip rfl) (by decide) ?_
    refine ao_cons (acts_skip rfl) (by decide) ?_
    refine ao_cons (acts_of rfl (does_pick (by conv => lhs; whnf) (by conv => lhs; whnf))) (by decide) ?_
    refine ao_cons (acts_of rfl (does_move (by conv => lhs; whnf))) (by decide) ?_
    refine ao_cons (acts_skip rfl) (by decide) ?_
    refine ao_cons (acts_skip rfl) (by decide) ?_
    refine ao_cons (acts_skip rfl) (by decide) ?_
    refine ao_cons (acts_of rfl (does_pick (by conv => lhs; whnf) (by conv => lhs; whnf))) (by decide) ?_
    refine ao_nil_n ?_
    refine hK4 _ ?_
    refine aw_cond_t (by decide) rfl ?_
    refine aw_seq_k (fun K5 hK5 => ?_)
    refine aw_reg ?_
    refine ao_cons (acts_of rfl (does_move (by conv => lhs; whnf))) (by decide) ?_
    refine ao_cons (acts_of rfl (does_assign (by conv => lhs; whnf))) (by decide) ?_
    refine ao_nil_n ?_
    refine hK5 _ ?_
    refine aw_ret ?_
    exact ret_ok1 (by conv => lhs; whnf) (by conv => lhs; whnf) (by exact rfl) (.inr rfl) rfl
  · try simp only [bytesPV_length, decide_eq_true_eq, decide_eq_false_iff_not, beq_iff_eq, Bool.not_eq_true', beq_eq_false_iff_ne, bne_iff_ne, Bool.not_eq_false', bne_eq_false_iff_eq, ne_eq, Decidable.not_not] at g25
    refine ao_cons (acts_of rfl (does_move (by conv => lhs; whnf))) (by decide) ?_
    refine ao_cons (acts_of rfl (does_len_sl (by conv => lhs; whnf) ty22)) (by decide) ?_
    refine ao_cons (acts_of rfl (does_bin (by conv => lhs; whnf) (by conv => lhs; whnf) (by conv => lhs; whnf))) (by decide) ?_
    refine ao_cons (acts_of rfl (does_pick (by conv => lhs; whnf) (by conv => lhs; whnf))) (by decide) ?_
    refine ao_cons (acts_of rfl (does_move (by conv => lhs; whnf))) (by decide) ?_
    refine ao_bool 30 rfl (fun g30 => ?_) (fun g30 => ?_)
    · try simp only [bytesPV_length, decide_eq_true_eq, decide_eq_false_iff_not, beq_iff_eq, Bool.not_eq_true', beq_eq_false_iff_ne, bne_iff_ne, Bool.not_eq_false', bne_eq_false_iff_eq, ne_eq, Decidable.not_not] at g30
      refine ao_cons (acts_skip rfl) (by decide) ?_
      refine ao_cons (acts_skip rfl) (by decide) ?_
      refine ao_cons (acts_of rfl (does_pick (by conv => lhs; whnf) (by conv => lhs; whnf))) (by decide) ?_
      refine ao_cons (acts_of rfl (does_move (by conv => lhs; whnf))) (by decide) ?_
      refine ao_cons (acts_skip rfl) (by decide) ?_
      refine ao_cons (acts_skip rfl) (by decide) ?_
      refine ao_cons (acts_skip rfl) (by decide) ?_
      refine ao_cons (acts_skip rfl) (by decide) ?_
      refine ao_cons (acts_skip rfl) (by decide) ?_
      refine ao_cons (acts_of rfl (does_pick (by conv => lhs; whnf) (by conv => lhs; whnf))) (by decide) ?_
      refine ao_cons (acts_of rfl (does_move (by conv => lhs; whnf))) (by decide) ?_
      refine ao_cons (acts_skip rfl) (by decide) ?_
      refine ao_cons (acts_skip rfl) (by decide) ?_
      refine ao_cons (acts_of rfl (does_pick (by conv => lhs; whnf) (by conv => lhs; whnf))) (by decide) ?_
      refine ao_cons (acts_of rfl (does_move (by conv => lhs; whnf))) (by decide) ?_
      refine ao_cons (acts_skip rfl) (by decide) ?_
      refine ao_cons (acts_skip rfl) (by decide) ?_
      refine ao_cons (acts_skip rfl) (by decide) ?_
      refine ao_cons (acts_skip rfl) (by decide) ?_
      refine ao_cons (acts_skip rfl) (by decide) ?_
      refine ao_cons (acts_of rfl (does_pick (by conv => lhs; whnf) (by conv => lhs; whnf))) (by decide) ?_
      refine ao_cons (acts_of rfl (does_move (by conv => lhs; whnf))) (by decide) ?_
      refine ao_cons (acts_skip rfl) (by decide) ?_
      refine ao_cons (acts_skip rfl) (by decide) ?_
      refine ao_cons (acts_skip rfl) (by decide) ?_
      refine ao_cons (acts_of rfl (does_pick (by conv => lhs; whnf) (by conv => lhs; whnf))) (by decide) ?_
      refine ao_nil_n ?_
      refine hK4 _ ?_
      refine aw_cond_t (by decide) rfl ?_
      refine aw_seq_k (fun K6 hK6 => ?_)
      refine aw_reg ?_
      refine ao_cons (acts_of rfl (does_move (by conv => lhs; whnf))) (by decide) ?_
      refine ao_cons (acts_of rfl (does_assign (by conv => lhs; whnf))) (by decide) ?_
      refine ao_nil_n ?_
      refine hK6 _ ?_
      refine aw_ret ?_
      exact ret_ok1 (by conv => lhs; whnf) (by conv => lhs; whnf) (by exact rfl) (.inr rfl) rfl
    · try simp only [bytesPV_length, decide_eq_true_eq, decide_eq_false_iff_not, beq_iff_eq, Bool.not_eq_true', beq_eq_false_iff_ne, bne_iff_ne, Bool.not_eq_false', bne_eq_false_iff_eq, ne_eq, Decidable.not_not] at g30
      refine ao_cons (acts_of rfl (does_move (by conv => lhs; whnf))) (by decide) ?_
      refine ao_cons (acts_of rfl (does_bin (by conv => lhs; whnf) (by conv => lhs; whnf) (by conv => lhs; whnf))) (by decide) ?_
      refine ao_cons (acts_of rfl (does_pick (by conv => lhs; whnf) (by conv => lhs; whnf))) (by decide) ?_
      refine ao_cons (acts_of rfl (does_move (by conv => lhs; whnf))) (by decide) ?_
      refine ao_bool 34 rfl (fun g34 => ?_) (fun g34 => ?_)
      · try simp only [bytesPV_length, decide_eq_true_eq, decide_eq_false_iff_not, beq_iff_eq, Bool.not_eq_true', beq_eq_false_iff_ne, bne_iff_ne, Bool.not_eq_false', bne_eq_false_iff_eq, ne_eq, Decidable.not_not] at g34
        refine ao_cons (acts_skip rfl) (by decide) ?_
        refine ao_cons (acts_skip rfl) (by decide) ?_
        refine ao_cons (acts_skip rfl) (by decide) ?_
        refine ao_cons (acts_skip rfl) (by decide) ?_
        refine ao_cons (acts_skip rfl) (by decide) ?_
        refine ao_cons (acts_of rfl (does_pick (by conv => lhs; whnf) (by conv => lhs; whnf))) (by decide) ?_
        refine ao_cons (acts_of rfl (does_move (by conv => lhs; whnf))) (by decide) ?_
        refine ao_cons (acts_skip rfl) (by decide) ?_
        refine ao_cons (acts_skip rfl) (by decide) ?_
        refine ao_cons (acts_of rfl (does_pick (by conv => lhs; whnf) (by conv => lhs; whnf))) (by decide) ?_
        refine ao_cons (acts_of rfl (does_move (by conv => lhs; whnf))) (by decide) ?_
        refine ao_cons (acts_skip rfl) (by decide) ?_
        refine ao_cons (acts_skip rfl) (by decide) ?_
        refine ao_cons (acts_skip rfl) (by decide) ?_
        refine ao_cons (acts_skip rfl) (by decide) ?_
        refine ao_cons (acts_skip rfl) (by decide) ?_
        refine ao_cons (acts_of rfl (does_pick (by conv => lhs; whnf) (by conv => lhs; whnf))) (by decide) ?_
        refine ao_cons (acts_of rfl (does_move (by conv => lhs; whnf))) (by decide) ?_
        refine ao_cons (acts_skip rfl) (by decide) ?_
        refine ao_cons (acts_skip rfl) (by decide) ?_
        refine ao_cons (acts_skip rfl) (by decide) ?_
        refine ao_cons (acts_of rfl (does_pick (by conv => lhs; whnf) (by conv => lhs; whnf))) (by decide) ?_
        refine ao_nil_n ?_
        refine hK4 _ ?_
        refine aw_cond_t (by decide) rfl ?_
        refine aw_seq_k (fun K7 hK7 => ?_)
        refine aw_reg ?_
        refine ao_cons (acts_of rfl (does_move (by conv => lhs; whnf))) (by decide) ?_
        refine ao_cons (acts_of rfl (does_assign (by conv => lhs; whnf))) (by decide) ?_
        refine ao_nil_n ?_
        refine hK7 _ ?_
        refine aw_ret ?_
        exact ret_ok1 (by conv => lhs; whnf) (by conv => lhs; whnf) (by exact rfl) (.inr rfl) rfl
      · try simp only [bytesPV_length, decide_eq_true_eq, decide_eq_false_iff_not, beq_iff_eq, Bool.not_eq_true', beq_eq_false_iff_ne, bne_iff_ne, Bool.not_eq_false', bne_eq_false_iff_eq, ne_eq, Decidable.not_not] at g34
        refine ao_cons (acts_of rfl (does_move (by conv => lhs; whnf))) (by decide) ?_
        refine ao_cons (acts_of rfl (does_move (by conv => lhs; whnf))) (by decide) ?_
        refine ao_cons (acts_of rfl (does_len_sl (by conv => lhs; whnf) ty22)) (by decide) ?_
        refine ao_cons (acts_of rfl ((does_bin (by conv => lhs; whnf) (by conv => lhs; whnf) (by conv => lhs; whnf)).castp (v' := .int .i64 ((8 * b.length : Nat) : Int)) (by exact congrArg _ (by rw [bytesPV_length, wrap_i64 _ (by omega) (by omega)]; omega)))) (by decide) ?_
        refine ao_cons (acts_of rfl (does_bin (by conv => lhs; whnf) (by conv => lhs; whnf) (by conv => lhs; whnf))) (by decide) ?_
        refine ao_cons (acts_of rfl (does_pick (by conv => lhs; whnf) (by conv => lhs; whnf))) (by decide) ?_
        refine ao_cons (acts_of rfl (does_move (by conv => lhs; whnf))) (by decide) ?_
        refine ao_bool 41 rfl (fun g41 => ?_) (fun g41 => ?_)
        · try simp only [bytesPV_length, decide_eq_true_eq, decide_eq_false_iff_not, beq_iff_eq, Bool.not_eq_true', beq_eq_false_iff_ne, bne_iff_ne, Bool.not_eq_false', bne_eq_false_iff_eq, ne_eq, Decidable.not_not] at g41
          refine ao_cons (acts_skip rfl) (by decide) ?_
          refine ao_cons (acts_skip rfl) (by decide) ?_
          refine ao_cons (acts_of rfl (does_pick (by conv => lhs; whnf) (by conv => lhs; whnf))) (by decide) ?_
          refine ao_cons (acts_of rfl (does_move (by conv => lhs; whnf))) (by decide) ?_
          refine ao_cons (acts_skip rfl) (by decide) ?_
          refine ao_cons (acts_skip rfl) (by decide) ?_
          refine ao_cons (acts_skip rfl) (by decide) ?_
          refine ao_cons (acts_skip rfl) (by decide) ?_
          refine ao_cons (acts_skip rfl) (by decide) ?_
          refine ao_cons (acts_of rfl (does_pick (by conv => lhs; whnf) (by conv => lhs; whnf))) (by decide) ?_
          refine ao_cons (acts_of rfl (does_move (by conv => lhs; whnf))) (by decide) ?_
          refine ao_cons (acts_skip rfl) (by decide) ?_
          refine ao_cons (acts_skip rfl) (by decide) ?_
          refine ao_cons (acts_skip rfl) (by decide) ?_
          refine ao_cons (acts_of rfl (does_pick (by conv => lhs; whnf) (by conv => lhs; whnf))) (by decide) ?_
          refine ao_nil_n ?_
          refine hK4 _ ?_
          refine aw_cond_t (by decide) rfl ?_
          refine aw_seq_k (fun K8 hK8 => ?_)
          refine aw_reg ?_
          refine ao_cons (acts_of rfl (does_move (by conv => lhs; whnf))) (by decide) ?_
          refine ao_cons (acts_of rfl (does_assign (by conv => lhs; whnf))) (by decide) ?_
          refine ao_nil_n ?_
          refine hK8 _ ?_
          refine aw_ret ?_
          exact ret_ok1 (by conv => lhs; whnf) (by conv => lhs; whnf) (by exact rfl) (.inr rfl) rfl
        · try simp only [bytesPV_length, decide_eq_true_eq, decide_eq_false_iff_not, beq_iff_eq, Bool.not_eq_true', beq_eq_false_iff_ne, bne_iff_ne, Bool.not_eq_false', bne_eq_false_iff_eq, ne_eq, Decidable.not_not] at g41
          refine ao_cons (acts_of rfl (does_move (by conv => lhs; whnf))) (by decide) ?_
          refine ao_cons (acts_of rfl (does_bin (by conv => lhs; whnf) (by conv => lhs; whnf) (by conv => lhs; whnf))) (by decide) ?_
          refine ao_cons (acts_of rfl (does_pick (by conv => lhs; whnf) (by conv => lhs; whnf))) (by decide) ?_
          refine ao_cons (acts_of rfl (does_move (by conv => lhs; whnf))) (by decide) ?_
          refine ao_bool 45 rfl (fun g45 => ?_) (fun g45 => ?_)
          · try simp only [bytesPV_length, decide_eq_true_eq, decide_eq_false_iff_not, beq_iff_eq, Bool.not_eq_true', beq_eq_false_iff_ne, bne_iff_ne, Bool.not_eq_false', bne_eq_false_iff_eq, ne_eq, Decidable.not_not] at g45
            refine ao_cons (acts_skip rfl) (by decide) ?_
            refine ao_cons (acts_skip rfl) (by decide) ?_
            refine ao_cons (acts_skip rfl) (by decide) ?_
            refine ao_cons (acts_skip rfl) (by decide) ?_
            refine ao_cons (acts_skip rfl) (by decide) ?_
            refine ao_cons (acts_of rfl (does_pick (by conv => lhs; whnf) (by conv => lhs; whnf))) (by decide) ?_
            refine ao_cons (acts_of rfl (does_move (by conv => lhs; whnf))) (by decide) ?_
            refine ao_cons (acts_skip rfl) (by decide) ?_
            refine ao_cons (acts_skip rfl) (by decide) ?_
            refine ao_cons (acts_skip rfl) (by decide) ?_
            refine ao_cons (acts_of rfl (does_pick (by conv => lhs; whnf) (by conv => lhs; whnf))) (by decide) ?_
            refine ao_nil_n ?_
            refine hK4 _ ?_
            refine aw_cond_t (by decide) rfl ?_
            refine aw_seq_k (fun K9 hK9 => ?_)
            refine aw_reg ?_
            refine ao_cons (acts_of rfl (does_move (by conv => lhs; whnf))) (by decide) ?_
            refine ao_cons (acts_of rfl (does_assign (by conv => lhs; whnf))) (by decide) ?_
            refine ao_nil_n ?_
            refine hK9 _ ?_
            refine aw_ret ?_
            exact ret_ok1 (by conv => lhs; whnf) (by conv => lhs; whnf) (by exact rfl) (.inr rfl) rfl
          · try simp only [bytesPV_length, decide_eq_true_eq, decide_eq_false_iff_not, beq_iff_eq, Bool.not_eq_true', beq_eq_false_iff_ne, bne_iff_ne, Bool.not_eq_false', bne_eq_false_iff_eq, ne_eq, Decidable.not_not] at g45
            refine ao_cons (acts_of rfl (does_move (by conv => lhs; whnf))) (by decide) ?_
            refine ao_cons (acts_of rfl (does_move (by conv => lhs; whnf))) (by decide) ?_
            refine ao_cons (acts_of rfl (does_len_sl (by conv => lhs; whnf) ty22)) (by decide) ?_
            refine ao_cons (acts_of rfl ((does_bin (by conv => lhs; whnf) (by conv => lhs; whnf) (by conv => lhs; whnf)).castp (v' := .int .i64 ((8 * b.length : Nat) : Int)) (by exact congrArg _ (by rw [bytesPV_length, wrap_i64 _ (by omega) (by omega)]; omega)))) (by decide) ?_
            refine ao_cons (acts_of rfl (does_bin (by conv => lhs; whnf) (by conv => lhs; whnf) (by conv => lhs; whnf))) (by decide) ?_
            refine ao_cons (acts_of rfl (does_pick (by conv => lhs; whnf) (by conv => lhs; whnf))) (by decide) ?_
            refine ao_cons (acts_of rfl (does_move (by conv => lhs; whnf))) (by decide) ?_
            refine ao_bool 52 rfl (fun g52 => ?_) (fun g52 => ?_)
            · try simp only [bytesPV_length, decide_eq_true_eq, decide_eq_false_iff_not, beq_iff_eq, Bool.not_eq_true', beq_eq_false_iff_ne, bne_iff_ne, Bool.not_eq_false', bne_eq_false_iff_eq, ne_eq, Decidable.not_not] at g52
              refine ao_cons (acts_skip rfl) (by decide) ?_
              refine ao_cons (acts_skip rfl) (by decide) ?_
              refine ao_cons (acts_skip rfl) (by decide) ?_
              refine ao_cons (acts_of rfl (does_pick (by conv => lhs; whnf) (by conv => lhs; whnf))) (by decide) ?_
              refine ao_nil_n ?_
              refine hK4 _ ?_
              refine aw_cond_t (by decide) rfl ?_
              refine aw_seq_k (fun K10 hK10 => ?_)
              refine aw_reg ?_
              refine ao_cons (acts_of rfl (does_move (by conv => lhs; whnf))) (by decide) ?_
              refine ao_cons (acts_of rfl (does_assign (by conv => lhs; whnf))) (by decide) ?_
              refine ao_nil_n ?_
              refine hK10 _ ?_
              refine aw_ret ?_
              exact ret_ok1 (by conv => lhs; whnf) (by conv => lhs; whnf) (by exact rfl) (.inr rfl) rfl
            · try simp only [bytesPV_length, decide_eq_true_eq, decide_eq_false_iff_not, beq_iff_eq, Bool.not_eq_true', beq_eq_false_iff_ne, bne_iff_ne, Bool.not_eq_false', bne_eq_false_iff_eq, ne_eq, Decidable.not_not] at g52
              refine ao_cons (acts_of rfl (does_move (by conv => lhs; whnf))) (by decide) ?_
              refine ao_cons (acts_of rfl (does_move (by conv => lhs; whnf))) (by decide) ?_
              refine ao_cons (acts_of rfl (does_bin (by conv => lhs; whnf) (by conv => lhs; whnf) (by conv => lhs; whnf))) (by decide) ?_
              refine ao_cons (acts_of rfl (does_pick (by conv => lhs; whnf) (by conv => lhs; whnf))) (by decide) ?_
              refine ao_nil_n ?_
              refine hK4 _ ?_
              refine aw_bool 56 rfl (fun c56 => ?_) (fun c56 => ?_)
              · try simp only [bytesPV_length, decide_eq_true_eq, decide_eq_false_iff_not, beq_iff_eq, Bool.not_eq_true', beq_eq_false_iff_ne, bne_iff_ne, Bool.not_eq_false', bne_eq_false_iff_eq, ne_eq, Decidable.not_not] at c56
                refine aw_cond_t (by decide) rfl ?_
                refine aw_seq_k (fun K11 hK11 => ?_)
                refine aw_reg ?_
                refine ao_cons (acts_of rfl (does_move (by conv => lhs; whnf))) (by decide) ?_
                refine ao_cons (acts_of rfl (does_assign (by conv => lhs; whnf))) (by decide) ?_
                refine ao_nil_n ?_
                refine hK11 _ ?_
                refine aw_ret ?_
                exact ret_ok1 (by conv => lhs; whnf) (by conv => lhs; whnf) (by exact rfl) (.inr rfl) rfl
              · try simp only [bytesPV_length, decide_eq_true_eq, decide_eq_false_iff_not, beq_iff_eq, Bool.not_eq_true', beq_eq_false_iff_ne, bne_iff_ne, Bool.not_eq_false', bne_eq_false_iff_eq, ne_eq, Decidable.not_not] at c56
                have hi : i.toNat < 8 * b.length := by omega
                have hk : k.toNat < 8 * b.length := by omega
                have hne : i.toNat ≠ k.toNat := by omega
                have hl : b.length ≤ 300 := by omega
                have hl4 : 4 ≤ b.length := by omega
                have hi0 : 0 ≤ i := by omega
                have hk0 : 0 ≤ k := by omega
                have hil : i < 9223372036854775808 := by omega
                have hkl : k < 9223372036854775808 := by omega
                refine aw_cond_f (by decide) rfl ?_
                refine aw_skip ?_
                refine hK3 _ ?_
                refine aw_seq_k (fun K12 hK12 => ?_)
                refine aw_reg ?_
                refine ao_cons (acts_of rfl (does_move (by conv => lhs; whnf))) (by decide) ?_
                refine ao_cons (acts_of rfl (do_call0 59 false (sum_ok b (by omega)) rfl ent17 rfl rfl)) (by decide) ?_
                refine ao_cons (acts_of rfl (does_assign (by conv => lhs; whnf))) (by decide) ?_
                refine ao_nil_n ?_
                refine hK12 _ ?_
                refine aw_seq_k (fun K13 hK13 => ?_)
                refine aw_reg ?_
                refine ao_cons (acts_of rfl (does_move (by conv => lhs; whnf))) (by decide) ?_
                refine ao_cons (acts_of rfl (do_append (v := (bytesPV b)) (by conv => lhs; whnf) (by conv => lhs; whnf) ty22 ty5 rfl rfl (by conv => lhs; whnf) (by first | exact .inl rfl | exact .inr ⟨rfl, rfl⟩) (by conv => lhs; whnf) (by first | exact .inr rfl | exact .inl rfl) (List.nil_append _) (by simp only [bytesPV_length]; omega))) (by decide) ?_
                refine ao_cons (acts_of rfl (does_assign (by conv => lhs; whnf))) (by decide) ?_
                refine ao_nil_n ?_
                refine hK13 _ ?_
                refine aw_seq_k (fun K14 hK14 => ?_)
                refine aw_reg ?_
                refine ao_cons (acts_of rfl (does_move (by conv => lhs; whnf))) (by decide) ?_
                refine ao_cons (acts_of rfl (does_move (by conv => lhs; whnf))) (by decide) ?_
                refine ao_cons (acts_of rfl ((does_bin (by conv => lhs; whnf) (by conv => lhs; whnf) (by conv => lhs; whnf)).castp (v' := .int .i64 ((i.toNat / 8 : Nat) : Int)) (by exact congrArg _ (quo8 i hi0 hil)))) (by decide) ?_
                refine ao_cons (acts_of rfl (does_move (by conv => lhs; whnf))) (by decide) ?_
                refine ao_cons (acts_of rfl (does_move (by conv => lhs; whnf))) (by decide) ?_
                refine ao_cons (acts_of rfl ((does_bin (by conv => lhs; whnf) (by conv => lhs; whnf) (by conv => lhs; whnf)).castp (v' := .int .i64 ((i.toNat / 8 : Nat) : Int)) (by exact congrArg _ (quo8 i hi0 hil)))) (by decide) ?_
                refine ao_cons (acts_of rfl (does_indexAddr_own (by conv => lhs; whnf) (by conv => lhs; whnf) (by conv => lhs; whnf) ty22 ty5 (by omega) (by simp only [bytesPV_length, flip_length]; omega))) (by decide) ?_
                refine ao_cons (acts_of rfl (does_load (by conv => lhs; whnf) (cellsAt_eptr (by conv => lhs; whnf) (by exact bytesPV_getD (by (try simp only [flip_length]); omega))) ty5 (by conv => lhs; whnf))) (by decide) ?_
                refine ao_cons (acts_of rfl (does_move (by conv => lhs; whnf))) (by decide) ?_
                refine ao_cons (acts_of rfl ((does_bin (by conv => lhs; whnf) (by conv => lhs; whnf) (by conv => lhs; whnf)).castp (v' := .int .i64 ((i.toNat % 8 : Nat) : Int)) (by exact congrArg _ (rem8 i hi0)))) (by decide) ?_
                refine ao_cons (acts_of rfl ((does_conv_int (by conv => lhs; whnf) (ty_some ty3) (ty_int ty28) rfl).castp (v' := .int .u64 ((i.toNat % 8 : Nat) : Int)) (by exact congrArg _ (wrap_u64 _ (by omega))))) (by decide) ?_
                refine ao_cons (acts_of rfl ((does_bin (by conv => lhs; whnf) (by conv => lhs; whnf) (by conv => lhs; whnf)).castp (v' := .int .u8 ((bitB (i.toNat % 8)).toNat : Int)) (by exact congrArg _ (shl8 _ (by omega))))) (by decide) ?_
                refine ao_cons (acts_of rfl ((does_bin (by conv => lhs; whnf) (by conv => lhs; whnf) (by conv => lhs; whnf)).castp (v' := .int .u8 (((b).getD (i.toNat / 8) 0 ^^^ bitB (i.toNat % 8)).toNat : Int)) (by exact congrArg _ (xor8 _ _)))) (by decide) ?_
                refine ao_cons (acts_of rfl (does_indexAddr_own (by conv => lhs; whnf) (by conv => lhs; whnf) (by conv => lhs; whnf) ty22 ty5 (by omega) (by simp only [bytesPV_length, flip_length]; omega))) (by decide) ?_
                refine ao_cons (acts_of rfl (does_storeE (old := .int .u8 (((b).getD (i.toNat / 8) 0).toNat : Int)) (el := .int .u8 (((b).getD (i.toNat / 8) 0 ^^^ bitB (i.toNat % 8)).toNat : Int)) (xs' := bytesPV (flip (b) (i.toNat / 8) (bitB (i.toNat % 8)))) (by conv => lhs; whnf) (by conv => lhs; whnf) (by conv => lhs; whnf) ty5 (by rfl) (by rfl) (by exact by exact bytesPV_getD (by (try simp only [flip_length]); omega)) (by rfl) (by exact rfl) (by exact bytesPV_set _ _ _) (by rfl))) (by decide) ?_
                refine ao_nil_n ?_
                refine hK14 _ ?_
                refine aw_seq_k (fun K15 hK15 => ?_)
                refine aw_reg ?_
                refine ao_cons (acts_of rfl (does_move (by conv => lhs; whnf))) (by decide) ?_
                refine ao_cons (acts_of rfl (do_callL [(61, 0)] 77 false (sum_ok (flip b (i.toNat / 8) (bitB (i.toNat % 8))) (by rw [flip_length]; omega)) rfl ent17 rfl rfl rfl rfl)) (by decide) ?_
                refine ao_cons (acts_of rfl (does_assign (by conv => lhs; whnf))) (by decide) ?_
                refine ao_nil_n ?_
                refine hK15 _ ?_
                refine aw_seq_k (fun K16 hK16 => ?_)
                refine aw_reg ?_
                refine ao_cons (acts_of rfl (does_move (by conv => lhs; whnf))) (by decide) ?_
                refine ao_cons (acts_of rfl (does_move (by conv => lhs; whnf))) (by decide) ?_
                refine ao_cons (acts_of rfl ((does_bin (by conv => lhs; whnf) (by conv => lhs; whnf) (by conv => lhs; whnf)).castp (v' := .int .i64 ((k.toNat / 8 : Nat) : Int)) (by exact congrArg _ (quo8 k hk0 hkl)))) (by decide) ?_
                refine ao_cons (acts_of rfl (does_move (by conv => lhs; whnf))) (by decide) ?_
                refine ao_cons (acts_of rfl (does_move (by conv => lhs; whnf))) (by decide) ?_
                refine ao_cons (acts_of rfl ((does_bin (by conv => lhs; whnf) (by conv => lhs; whnf) (by conv => lhs; whnf)).castp (v' := .int .i64 ((k.toNat / 8 : Nat) : Int)) (by exact congrArg _ (quo8 k hk0 hkl)))) (by decide) ?_
                refine ao_cons (acts_of rfl (does_indexAddr_own (by conv => lhs; whnf) (by conv => lhs; whnf) (by conv => lhs; whnf) ty22 ty5 (by omega) (by simp only [bytesPV_length, flip_length]; omega))) (by decide) ?_
                refine ao_cons (acts_of rfl (does_load (by conv => lhs; whnf) (cellsAt_eptr (by conv => lhs; whnf) (by exact bytesPV_getD (by (try simp only [flip_length]); omega))) ty5 (by conv => lhs; whnf))) (by decide) ?_
                refine ao_cons (acts_of rfl (does_move (by conv => lhs; whnf))) (by decide) ?_
                refine ao_cons (acts_of rfl ((does_bin (by conv => lhs; whnf) (by conv => lhs; whnf) (by conv => lhs; whnf)).castp (v' := .int .i64 ((k.toNat % 8 : Nat) : Int)) (by exact congrArg _ (rem8 k hk0)))) (by decide) ?_
                refine ao_cons (acts_of rfl ((does_conv_int (by conv => lhs; whnf) (ty_some ty3) (ty_int ty28) rfl).castp (v' := .int .u64 ((k.toNat % 8 : Nat) : Int)) (by exact congrArg _ (wrap_u64 _ (by omega))))) (by decide) ?_
                refine ao_cons (acts_of rfl ((does_bin (by conv => lhs; whnf) (by conv => lhs; whnf) (by conv => lhs; whnf)).castp (v' := .int .u8 ((bitB (k.toNat % 8)).toNat : Int)) (by exact congrArg _ (shl8 _ (by omega))))) (by decide) ?_
                refine ao_cons (acts_of rfl ((does_bin (by conv => lhs; whnf) (by conv => lhs; whnf) (by conv => lhs; whnf)).castp (v' := .int .u8 (((flip b (i.toNat / 8) (bitB (i.toNat % 8))).getD (k.toNat / 8) 0 ^^^ bitB (k.toNat % 8)).toNat : Int)) (by exact congrArg _ (xor8 _ _)))) (by decide) ?_
                refine ao_cons (acts_of rfl (does_indexAddr_own (by conv => lhs; whnf) (by conv => lhs; whnf) (by conv => lhs; whnf) ty22 ty5 (by omega) (by simp only [bytesPV_length, flip_length]; omega))) (by decide) ?_
                refine ao_cons (acts_of rfl (does_storeE (old := .int .u8 (((flip b (i.toNat / 8) (bitB (i.toNat % 8))).getD (k.toNat / 8) 0).toNat : Int)) (el := .int .u8 (((flip b (i.toNat / 8) (bitB (i.toNat % 8))).getD (k.toNat / 8) 0 ^^^ bitB (k.toNat % 8)).toNat : Int)) (xs' := bytesPV (flip (flip b (i.toNat / 8) (bitB (i.toNat % 8))) (k.toNat / 8) (bitB (k.toNat % 8)))) (by conv => lhs; whnf) (by conv => lhs; whnf) (by conv => lhs; whnf) ty5 (by rfl) (by rfl) (by exact by exact bytesPV_getD (by (try simp only [flip_length]); omega)) (by rfl) (by exact rfl) (by exact bytesPV_set _ _ _) (by rfl))) (by decide) ?_
                refine ao_nil_n ?_
                refine hK16 _ ?_
                refine aw_seq_k (fun K17 hK17 => ?_)
                refine aw_reg ?_
                refine ao_cons (acts_of rfl (does_move (by conv => lhs; whnf))) (by decide) ?_
                refine ao_cons (acts_of rfl (do_callL [(61, 0)] 93 false (sum_ok (flip (flip b (i.toNat / 8) (bitB (i.toNat % 8))) (k.toNat / 8) (bitB (k.toNat % 8))) (by rw [flip_length, flip_length]; omega)) rfl ent17 rfl rfl rfl rfl)) (by decide) ?_
                refine ao_cons (acts_of rfl (does_assign (by conv => lhs; whnf))) (by decide) ?_
                refine ao_nil_n ?_
                refine hK17 _ ?_
                refine aw_seq_k (fun K18 hK18 => ?_)
                refine aw_reg ?_
                refine ao_cons (acts_of rfl (does_move (by conv => lhs; whnf))) (by decide) ?_
                refine ao_cons (acts_of rfl (do_append (v := (bytesPV b)) (by conv => lhs; whnf) (by conv => lhs; whnf) ty22 ty5 rfl rfl (by conv => lhs; whnf) (by first | exact .inl rfl | exact .inr ⟨rfl, rfl⟩) (by conv => lhs; whnf) (by first | exact .inr rfl | exact .inl rfl) (List.nil_append _) (by simp only [bytesPV_length]; omega))) (by decide) ?_
                refine ao_cons (acts_of rfl (does_assign (by conv => lhs; whnf))) (by decide) ?_
                refine ao_nil_n ?_
                refine hK18 _ ?_
                refine aw_seq_k (fun K19 hK19 => ?_)
                refine aw_reg ?_
                refine ao_cons (acts_of rfl (does_move (by conv => lhs; whnf))) (by decide) ?_
                refine ao_cons (acts_of rfl ((does_bin (by conv => lhs; whnf) (by conv => lhs; whnf) (by conv => lhs; whnf)).castp (v' := .int .i64 ((i.toNat / 8 : Nat) : Int)) (by exact congrArg _ (quo8 i hi0 hil)))) (by decide) ?_
                refine ao_cons (acts_of rfl (does_assign (by conv => lhs; whnf))) (by decide) ?_
                refine ao_nil_n ?_
                refine hK19 _ ?_
                refine aw_cut (fun s => ∃ (p : Nat), p + 4 ≤ b.length ∧ s = lit [(3, .int .u32 ((x).toNat : Int)), (10, .int .u32 ((more 0#32 b).toNat : Int)), (12, .int .u32 ((more 0#32 (flip b (i.toNat / 8) (bitB (i.toNat % 8)))).toNat : Int)), (13, .int .u32 ((more 0#32 (flip (flip b (i.toNat / 8) (bitB (i.toNat % 8))) (k.toNat / 8) (bitB (k.toNat % 8)))).toNat : Int)), (14, .own 95 0), (15, .int .i64 ((p : Nat) : Int))] [((95, 0), .arr 5 1 false (bytesPV b))] [(95, 1)] X) ?_ ?_
                · skip
                  refine aw_seq_k (fun K20 hK20 => ?_)
                  refine aw_reg ?_
                  refine ao_cons (acts_of rfl (does_move (by conv => lhs; whnf))) (by decide) ?_
                  refine ao_cons (acts_of rfl (does_move (by conv => lhs; whnf))) (by decide) ?_
                  refine ao_cons (acts_of rfl (does_len_own (by conv => lhs; whnf) (by conv => lhs; whnf) ty22)) (by decide) ?_
                  refine ao_cons (acts_of rfl ((does_bin (by conv => lhs; whnf) (by conv => lhs; whnf) (by conv => lhs; whnf)).castp (v' := .int .i64 ((b.length - 4 : Nat) : Int)) (by exact congrArg _ (by rw [bytesPV_length, wrap_i64 _ (by omega) (by omega)]; omega)))) (by decide) ?_
                  refine ao_cons (acts_of rfl (does_bin (by conv => lhs; whnf) (by conv => lhs; whnf) (by conv => lhs; whnf))) (by decide) ?_
                  refine ao_nil_n ?_
                  refine hK20 _ ?_
                  refine aw_bool 102 rfl (fun c102 => ?_) (fun c102 => ?_)
                  · try simp only [bytesPV_length, decide_eq_true_eq, decide_eq_false_iff_not, beq_iff_eq, Bool.not_eq_true', beq_eq_false_iff_ne, bne_iff_ne, Bool.not_eq_false', bne_eq_false_iff_eq, ne_eq, Decidable.not_not] at c102
                    refine aw_cond_t (by decide) rfl ?_
                    refine aw_reg ?_
                    refine ao_cons (acts_of rfl (does_move (by conv => lhs; whnf))) (by decide) ?_
                    refine ao_cons (acts_of rfl (does_len_own (by conv => lhs; whnf) (by conv => lhs; whnf) ty22)) (by decide) ?_
                    refine ao_cons (acts_of rfl ((does_bin (by conv => lhs; whnf) (by conv => lhs; whnf) (by conv => lhs; whnf)).castp (v' := .int .i64 ((b.length - 4 : Nat) : Int)) (by exact congrArg _ (by rw [bytesPV_length, wrap_i64 _ (by omega) (by omega)]; omega)))) (by decide) ?_
                    refine ao_cons (acts_of rfl (does_assign (by conv => lhs; whnf))) (by decide) ?_
                    refine ao_nil_n ?_
                    exact ⟨_, reb_lit [(3, .int .u32 ((x).toNat : Int)), (10, .int .u32 ((more 0#32 b).toNat : Int)), (12, .int .u32 ((more 0#32 (flip b (i.toNat / 8) (bitB (i.toNat % 8)))).toNat : Int)), (13, .int .u32 ((more 0#32 (flip (flip b (i.toNat / 8) (bitB (i.toNat % 8))) (k.toNat / 8) (bitB (k.toNat % 8)))).toNat : Int)), (14, .own 95 0), (15, .int .i64 (((b.length - 4) : Nat) : Int))] [(95, 0)] [((95, 0), .arr 5 1 false (bytesPV b))] [(95, 1)] (envOk_cons (by conv => lhs; whnf) (by exact rfl) (envOk_cons (by conv => lhs; whnf) (by exact rfl) (envOk_cons (by conv => lhs; whnf) (by exact rfl) (envOk_cons (by conv => lhs; whnf) (by exact rfl) (envOk_cons (by conv => lhs; whnf) (by exact rfl) (envOk_cons (by conv => lhs; whnf) (by exact rfl) envOk_nil)))))) (objOk_cons (by conv => lhs; whnf) (by conv => lhs; whnf) (by exact rfl) (by simp) objOk_nil) (nodup_b rfl) (nodup_b rfl) rfl rfl, (b.length - 4), (by omega), rfl⟩
                  · try simp only [bytesPV_length, decide_eq_true_eq, decide_eq_false_iff_not, beq_iff_eq, Bool.not_eq_true', beq_eq_false_iff_ne, bne_iff_ne, Bool.not_eq_false', bne_eq_false_iff_eq, ne_eq, Decidable.not_not] at c102
                    refine aw_cond_f (by decide) rfl ?_
                    refine aw_skip ?_
                    exact ⟨_, reb_lit [(3, .int .u32 ((x).toNat : Int)), (10, .int .u32 ((more 0#32 b).toNat : Int)), (12, .int .u32 ((more 0#32 (flip b (i.toNat / 8) (bitB (i.toNat % 8)))).toNat : Int)), (13, .int .u32 ((more 0#32 (flip (flip b (i.toNat / 8) (bitB (i.toNat % 8))) (k.toNat / 8) (bitB (k.toNat % 8)))).toNat : Int)), (14, .own 95 0), (15, .int .i64 (((i.toNat / 8) : Nat) : Int))] [(95, 0)] [((95, 0), .arr 5 1 false (bytesPV b))] [(95, 1)] (envOk_cons (by conv => lhs; whnf) (by exact rfl) (envOk_cons (by conv => lhs; whnf) (by exact rfl) (envOk_cons (by conv => lhs; whnf) (by exact rfl) (envOk_cons (by conv => lhs; whnf) (by exact rfl) (envOk_cons (by conv => lhs; whnf) (by exact rfl) (envOk_cons (by conv => lhs; whnf) (by exact rfl) envOk_nil)))))) (objOk_cons (by conv => lhs; whnf) (by conv => lhs; whnf) (by exact rfl) (by simp) objOk_nil) (nodup_b rfl) (nodup_b rfl) rfl rfl, (i.toNat / 8), (by omega), rfl⟩
                · rintro s ⟨p, hp, rfl⟩
                  refine aw_seq_k (fun K21 hK21 => ?_)
                  refine aw_seq_k (fun K22 hK22 => ?_)
                  refine aw_reg ?_
                  refine ao_cons (acts_of rfl (does_assign (by conv => lhs; whnf))) (by decide) ?_
                  refine ao_nil_n ?_
                  refine hK22 _ ?_
                  refine aw_block ?_
                  refine aw_loop' (fun m s => ∃ (j : Nat), j ≤ 4 ∧ m = 4 - j ∧ s = lit [(3, .int .u32 ((x).toNat : Int)), (10, .int .u32 ((more 0#32 b).toNat : Int)), (12, .int .u32 ((more 0#32 (flip b (i.toNat / 8) (bitB (i.toNat % 8)))).toNat : Int)), (13, .int .u32 ((more 0#32 (flip (flip b (i.toNat / 8) (bitB (i.toNat % 8))) (k.toNat / 8) (bitB (k.toNat % 8)))).toNat : Int)), (14, .own 95 0), (15, .int .i64 ((p : Nat) : Int)), (16, .int .i64 ((j : Nat) : Int))] [((95, 0), .arr 5 1 false (bytesPV (burstN b p x j)))] [(95, 1)] X) (4 - 0)
                    ⟨_, reb_lit [(3, .int .u32 ((x).toNat : Int)), (10, .int .u32 ((more 0#32 b).toNat : Int)), (12, .int .u32 ((more 0#32 (flip b (i.toNat / 8) (bitB (i.toNat % 8)))).toNat : Int)), (13, .int .u32 ((more 0#32 (flip (flip b (i.toNat / 8) (bitB (i.toNat % 8))) (k.toNat / 8) (bitB (k.toNat % 8)))).toNat : Int)), (14, .own 95 0), (15, .int .i64 ((p : Nat) : Int)), (16, .int .i64 ((0 : Nat) : Int))] [(95, 0)] [((95, 0), .arr 5 1 false (bytesPV (burstN b p x 0)))] [(95, 1)] (envOk_cons (by conv => lhs; whnf) (by exact rfl) (envOk_cons (by conv => lhs; whnf) (by exact rfl) (envOk_cons (by conv => lhs; whnf) (by exact rfl) (envOk_cons (by conv => lhs; whnf) (by exact rfl) (envOk_cons (by conv => lhs; whnf) (by exact rfl) (envOk_cons (by conv => lhs; whnf) (by exact rfl) (envOk_cons (by conv => lhs; whnf) (by exact rfl) envOk_nil))))))) (objOk_cons (by conv => lhs; whnf) (by conv => lhs; whnf) (by exact rfl) (by simp) objOk_nil) (nodup_b rfl) (nodup_b rfl) rfl rfl, (0), (by omega), rfl, rfl⟩ ?_
                  rintro m s ⟨j, hj, rfl, rfl⟩
                  refine aw_seq_k (fun K23 hK23 => ?_)
                  refine aw_seq_k (fun K24 hK24 => ?_)
                  refine aw_reg ?_
                  refine ao_cons (acts_of rfl (does_move (by conv => lhs; whnf))) (by decide) ?_
                  refine ao_cons (acts_of rfl (does_bin (by conv => lhs; whnf) (by conv => lhs; whnf) (by conv => lhs; whnf))) (by decide) ?_
                  refine ao_nil_n ?_
                  refine hK24 _ ?_
                  refine aw_bool 107 rfl (fun c107 => ?_) (fun c107 => ?_)
                  · try simp only [bytesPV_length, decide_eq_true_eq, decide_eq_false_iff_not, beq_iff_eq, Bool.not_eq_true', beq_eq_false_iff_ne, bne_iff_ne, Bool.not_eq_false', bne_eq_false_iff_eq, ne_eq, Decidable.not_not] at c107
                    refine aw_cond_t (by decide) rfl ?_
                    refine aw_skip ?_
                    refine hK23 _ ?_
                    refine aw_seq_k (fun K25 hK25 => ?_)
                    refine aw_block ?_
                    refine aw_reg ?_
                    refine ao_cons (acts_of rfl (does_move (by conv => lhs; whnf))) (by decide) ?_
                    refine ao_cons (acts_of rfl (does_move (by conv => lhs; whnf))) (by decide) ?_
                    refine ao_cons (acts_of rfl (does_move (by conv => lhs; whnf))) (by decide) ?_
                    refine ao_cons (acts_of rfl ((does_bin (by conv => lhs; whnf) (by conv => lhs; whnf) (by conv => lhs; whnf)).castp (v' := .int .i64 ((p + j : Nat) : Int)) (by exact congrArg _ (by rw [wrap_i64 _ (by omega) (by omega)]; omega)))) (by decide) ?_
                    refine ao_cons (acts_of rfl (does_move (by conv => lhs; whnf))) (by decide) ?_
                    refine ao_cons (acts_of rfl (does_move (by conv => lhs; whnf))) (by decide) ?_
                    refine ao_cons (acts_of rfl (does_move (by conv => lhs; whnf))) (by decide) ?_
                    refine ao_cons (acts_of rfl ((does_bin (by conv => lhs; whnf) (by conv => lhs; whnf) (by conv => lhs; whnf)).castp (v' := .int .i64 ((p + j : Nat) : Int)) (by exact congrArg _ (by rw [wrap_i64 _ (by omega) (by omega)]; omega)))) (by decide) ?_
                    refine ao_cons (acts_of rfl (does_indexAddr_own (by conv => lhs; whnf) (by conv => lhs; whnf) (by conv => lhs; whnf) ty22 ty5 (by omega) (by simp only [bytesPV_length, burstN_length]; omega))) (by decide) ?_
                    refine ao_cons (acts_of rfl (does_load (by conv => lhs; whnf) (cellsAt_eptr (by conv => lhs; whnf) (by exact bytesPV_getD (by rw [burstN_length]; omega))) ty5 (by conv => lhs; whnf))) (by decide) ?_
                    refine ao_cons (acts_of rfl (does_move (by conv => lhs; whnf))) (by decide) ?_
                    refine ao_cons (acts_of rfl (does_move (by conv => lhs; whnf))) (by decide) ?_
                    refine ao_cons (acts_of rfl ((does_bin (by conv => lhs; whnf) (by conv => lhs; whnf) (by conv => lhs; whnf)).castp (v' := .int .i64 ((8 * j : Nat) : Int)) (by exact congrArg _ (by rw [wrap_i64 _ (by omega) (by omega)]; omega)))) (by decide) ?_
                    refine ao_cons (acts_of rfl ((does_conv_int (by conv => lhs; whnf) (ty_some ty3) (ty_int ty28) rfl).castp (v' := .int .u64 ((8 * j : Nat) : Int)) (by exact congrArg _ (wrap_u64 _ (by omega))))) (by decide) ?_
                    refine ao_cons (acts_of rfl ((does_bin (by conv => lhs; whnf) (by conv => lhs; whnf) (by conv => lhs; whnf)).castp (v' := .int .u32 ((x >>> (8 * j)).toNat : Int)) (by exact congrArg _ (shr32 _ _ (by omega))))) (by decide) ?_
                    refine ao_cons (acts_of rfl ((does_bin (by conv => lhs; whnf) (by conv => lhs; whnf) (by conv => lhs; whnf)).castp (v' := .int .u32 ((x >>> (8 * j) &&& 255#32).toNat : Int)) (by exact congrArg _ (and32 _ 255#32)))) (by decide) ?_
                    refine ao_cons (acts_of rfl ((does_conv_int (by conv => lhs; whnf) (ty_some ty24) (ty_int ty5) rfl).castp (v' := .int .u8 ((byteOf x j).toNat : Int)) (by exact congrArg _ (conv32_8 _)))) (by decide) ?_
                    refine ao_cons (acts_of rfl ((does_bin (by conv => lhs; whnf) (by conv => lhs; whnf) (by conv => lhs; whnf)).castp (v' := .int .u8 (((burstN b p x j).getD (p + j) 0 ^^^ byteOf x j).toNat : Int)) (by exact congrArg _ (xor8 _ _)))) (by decide) ?_
                    refine ao_cons (acts_of rfl (does_indexAddr_own (by conv => lhs; whnf) (by conv => lhs; whnf) (by conv => lhs; whnf) ty22 ty5 (by omega) (by simp only [bytesPV_length, burstN_length]; omega))) (by decide) ?_
                    refine ao_cons (acts_of rfl (does_storeE (old := .int .u8 (((burstN b p x j).getD (p + j) 0).toNat : Int)) (el := .int .u8 (((burstN b p x j).getD (p + j) 0 ^^^ byteOf x j).toNat : Int)) (xs' := bytesPV (burstN b p x (j + 1))) (by conv => lhs; whnf) (by conv => lhs; whnf) (by conv => lhs; whnf) ty5 (by rfl) (by rfl) (by exact by exact bytesPV_getD (by rw [burstN_length]; omega)) (by rfl) (by exact rfl) (by exact bytesPV_set _ _ _) (by rfl))) (by decide) ?_
                    refine ao_nil_n ?_
                    refine hK25 _ ?_
                    refine aw_reg ?_
                    refine ao_cons (acts_of rfl (does_move (by conv => lhs; whnf))) (by decide) ?_
                    refine ao_cons (acts_of rfl ((does_bin (by conv => lhs; whnf) (by conv => lhs; whnf) (by conv => lhs; whnf)).castp (v' := .int .i64 ((j + 1 : Nat) : Int)) (by exact congrArg _ (by rw [wrap_i64 _ (by omega) (by omega)]; rfl)))) (by decide) ?_
                    refine ao_cons (acts_of rfl (does_assign (by conv => lhs; whnf))) (by decide) ?_
                    refine ao_nil_n ?_
                    exact ⟨4 - (j + 1), (by omega), _, reb_lit [(3, .int .u32 ((x).toNat : Int)), (10, .int .u32 ((more 0#32 b).toNat : Int)), (12, .int .u32 ((more 0#32 (flip b (i.toNat / 8) (bitB (i.toNat % 8)))).toNat : Int)), (13, .int .u32 ((more 0#32 (flip (flip b (i.toNat / 8) (bitB (i.toNat % 8))) (k.toNat / 8) (bitB (k.toNat % 8)))).toNat : Int)), (14, .own 95 0), (15, .int .i64 ((p : Nat) : Int)), (16, .int .i64 (((j + 1) : Nat) : Int))] [(95, 0)] [((95, 0), .arr 5 1 false (bytesPV (burstN b p x (j + 1))))] [(95, 1)] (envOk_cons (by conv => lhs; whnf) (by exact rfl) (envOk_cons (by conv => lhs; whnf) (by exact rfl) (envOk_cons (by conv => lhs; whnf) (by exact rfl) (envOk_cons (by conv => lhs; whnf) (by exact rfl) (envOk_cons (by conv => lhs; whnf) (by exact rfl) (envOk_cons (by conv => lhs; whnf) (by exact rfl) (envOk_cons (by conv => lhs; whnf) (by exact rfl) envOk_nil))))))) (objOk_cons (by conv => lhs; whnf) (by conv => lhs; whnf) (by exact rfl) (by simp) objOk_nil) (nodup_b rfl) (nodup_b rfl) rfl rfl, (j + 1), (by omega), rfl, rfl⟩
                  · try simp only [bytesPV_length, decide_eq_true_eq, decide_eq_false_iff_not, beq_iff_eq, Bool.not_eq_true', beq_eq_false_iff_ne, bne_iff_ne, Bool.not_eq_false', bne_eq_false_iff_eq, ne_eq, Decidable.not_not] at c107
                    obtain rfl : j = 4 := by omega
                    refine aw_cond_f (by decide) rfl ?_
                    refine aw_exit ?_
                    refine hK21 _ ?_
                    refine aw_seq_k (fun K26 hK26 => ?_)
                    refine aw_reg ?_
                    refine ao_cons (acts_of rfl (does_move (by conv => lhs; whnf))) (by decide) ?_
                    refine ao_cons (acts_of rfl (does_move (by conv => lhs; whnf))) (by decide) ?_
                    refine ao_cons (acts_of rfl ((does_bin (by conv => lhs; whnf) (by conv => lhs; whnf) (by conv => lhs; whnf)).castp (v' := .bool true) (by exact congrArg PV.bool (by rw [ne32]; exact bne_iff_ne.2 (turn_one b i.toNat hi))))) (by decide) ?_
                    refine ao_cons (acts_of rfl (does_move (by conv => lhs; whnf))) (by decide) ?_
                    refine ao_cons (acts_of rfl (does_move (by conv => lhs; whnf))) (by decide) ?_
                    refine ao_cons (acts_of rfl (does_move (by conv => lhs; whnf))) (by decide) ?_
                    refine ao_cons (acts_of rfl ((does_bin (by conv => lhs; whnf) (by conv => lhs; whnf) (by conv => lhs; whnf)).castp (v' := .bool true) (by exact congrArg PV.bool (by rw [ne32]; exact bne_iff_ne.2 (turn_two b i.toNat k.toNat hi hk hne hl))))) (by decide) ?_
                    refine ao_cons (acts_of rfl (does_pick (by conv => lhs; whnf) (by conv => lhs; whnf))) (by decide) ?_
                    refine ao_cons (acts_of rfl (does_move (by conv => lhs; whnf))) (by decide) ?_
                    refine ao_cons (acts_of rfl (does_move (by conv => lhs; whnf))) (by decide) ?_
                    refine ao_cons (acts_of rfl (do_callL [(95, 0)] 139 false (sum_ok (burstN b p x 4) (by rw [burstN_length]; omega)) rfl ent17 rfl rfl rfl rfl)) (by decide) ?_
                    refine ao_cons (acts_of rfl (does_move (by conv => lhs; whnf))) (by decide) ?_
                    refine ao_cons (acts_of rfl ((does_bin (by conv => lhs; whnf) (by conv => lhs; whnf) (by conv => lhs; whnf)).castp (v' := .bool (more 0#32 (burstN b p x 4) == more 0#32 b)) (by exact congrArg PV.bool (eq32 _ _)))) (by decide) ?_
                    refine ao_cons (acts_of rfl (does_move (by conv => lhs; whnf))) (by decide) ?_
                    refine ao_cons (acts_of rfl ((does_bin (by conv => lhs; whnf) (by conv => lhs; whnf) (by conv => lhs; whnf)).castp (v' := .bool (x == 0#32)) (by exact congrArg PV.bool (eq32 x 0#32)))) (by decide) ?_
                    refine ao_cons (acts_of rfl ((does_eq_bool (by conv => lhs; whnf) (by conv => lhs; whnf) (ty_bool ty4) (by conv => lhs; whnf)).castp (v' := .bool true) (by exact congrArg PV.bool (by rw [turn_burst b p x hp]; simp)))) (by decide) ?_
                    refine ao_cons (acts_of rfl (does_pick (by conv => lhs; whnf) (by conv => lhs; whnf))) (by decide) ?_
                    refine ao_cons (acts_of rfl (does_assign (by conv => lhs; whnf))) (by decide) ?_
                    refine ao_nil_n ?_
                    refine hK26 _ ?_
                    refine aw_ret ?_
                    exact ret_ok1 (by conv => lhs; whnf) (by conv => lhs; whnf) (by exact rfl) (.inr rfl) rfl
end Go.Proofs.Ytomjoccpkknamaa.Ab
