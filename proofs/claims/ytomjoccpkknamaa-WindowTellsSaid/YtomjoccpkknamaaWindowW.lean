/- The walks of chapter 9: windows. -/
import Derived.Test.YtomjoccpkknamaaAbArg2
import Derived.Test.YtomjoccpkknamaaProg
namespace Go.Proofs.Ytomjoccpkknamaa.Ab
open Go Go.RowKit
set_option linter.unusedVariables false
set_option linter.unusedSimpArgs false
theorem ty3 : tyOf Try.prog 3 = some ⟨.int .i64, 1, 8, [.int .i64 0]⟩ := by kernel_rfl
theorem ty4 : tyOf Try.prog 4 = some ⟨.bool, 1, 1, [.bool false]⟩ := by kernel_rfl
theorem ty43 : tyOf Try.prog 43 = some ⟨.slice 3, 1, 24, [.nil]⟩ := by kernel_rfl
theorem ent29 : Ent Try.prog 29 := ⟨_, Try.func29, by kernel_rfl, rfl⟩
theorem ent30 : Ent Try.prog 30 := ⟨_, Try.func30, by kernel_rfl, rfl⟩
theorem ent31 : Ent Try.prog 31 := ⟨_, Try.func31, by kernel_rfl, rfl⟩
theorem ent32 : Ent Try.prog 32 := ⟨_, Try.func32, by kernel_rfl, rfl⟩
theorem ent33 : Ent Try.prog 33 := ⟨_, Try.func33, by kernel_rfl, rfl⟩
theorem ent34 : Ent Try.prog 34 := ⟨_, Try.func34, by kernel_rfl, rfl⟩
theorem ent35 : Ent Try.prog 35 := ⟨_, Try.func35, by kernel_rfl, rfl⟩
theorem ent46 : Ent Try.prog 46 := ⟨_, Try.func46, by kernel_rfl, rfl⟩
theorem ent47 : Ent Try.prog 47 := ⟨_, Try.func47, by kernel_rfl, rfl⟩
theorem ent48 : Ent Try.prog 48 := ⟨_, Try.func48, by kernel_rfl, rfl⟩

def lenW (level : Int) : Int := if level = 0 then 60 else if level = 1 then 3600 else if level = 2 then 86400 else 0
theorem lenW_cases (level : Int) : (level = 0 ∧ lenW level = 60) ∨ (level = 1 ∧ lenW level = 3600) ∨ (level = 2 ∧ lenW level = 86400) ∨ (lenW level = 0 ∧ (level < 0 ∨ 3 ≤ level)) := by
  unfold lenW; split <;> (try split) <;> (try split) <;> omega
def inW (n low high : Int) : Bool := decide (low ≤ n) && decide (n ≤ high)
def ofW (level sec : Int) : Int := if lenW level = 0 ∨ sec < 0 ∨ 1099511627776 < sec then -1 else sec / lenW level
def okW (level n : Int) : Bool := !(decide (lenW level = 0) || decide (n < 0) || decide (1099511627776 / lenW level < n))
def fromW (level n : Int) : Int := if okW level n then n * lenW level else 0
def tillW (level n : Int) : Int := if okW level n then (n + 1) * lenW level else 0
def upOk (level n : Int) : Bool := okW level n && !decide (level = 2)
def upL (level n : Int) : Int := if upOk level n then level + 1 else 0
def upN (level n : Int) : Int := if upOk level n then ofW (level + 1) (fromW level n) else 0
theorem okW_bounds {level n : Int} (h : okW level n = true) : lenW level ≠ 0 ∧ 0 ≤ n ∧ n ≤ 1099511627776 / lenW level := by
  simp only [okW, Bool.not_eq_true', Bool.or_eq_false_iff, decide_eq_false_iff_not] at h
  omega
theorem okW_false {level n : Int} (h : lenW level = 0 ∨ n < 0 ∨ 1099511627776 / lenW level < n) : okW level n = false := by
  simp only [okW, Bool.not_eq_false', Bool.or_eq_true, decide_eq_true_eq]
  omega
theorem okW_true {level n : Int} (h0 : ¬ lenW level = 0) (h1 : ¬ n < 0) (h2 : ¬ 1099511627776 / lenW level < n) : okW level n = true := by
  simp only [okW, Bool.not_eq_true', Bool.or_eq_false_iff, decide_eq_false_iff_not]
  exact ⟨⟨h0, h1⟩, h2⟩
theorem row3 (level : Int) (h0 : ¬ level < 0) (h1 : ¬ 3 ≤ level) : [PV.int .i64 60, PV.int .i64 3600, PV.int .i64 86400][level.toNat]? = some (.int .i64 (lenW level)) := by
  rcases lenW_cases level with ⟨rfl, h⟩ | ⟨rfl, h⟩ | ⟨rfl, h⟩ | ⟨h, h2⟩
  · rw [h]; rfl
  · rw [h]; rfl
  · rw [h]; rfl
  · omega
theorem quoW (level : Int) (h : ¬ lenW level = 0) (x : Int) (h0 : 0 ≤ x) (h1 : x ≤ 1099511627776) : IntKind.i64.wrap (x.tdiv (lenW level)) = x / lenW level := by
  rw [Int.tdiv_eq_ediv_of_nonneg h0]
  rcases lenW_cases level with ⟨rfl, h⟩ | ⟨rfl, h⟩ | ⟨rfl, h⟩ | ⟨h, h2⟩
  · rw [h]; exact wrap_i64 _ (by omega) (by omega)
  · rw [h]; exact wrap_i64 _ (by omega) (by omega)
  · rw [h]; exact wrap_i64 _ (by omega) (by omega)
  · contradiction
theorem mulW {level n : Int} (h : okW level n = true) : IntKind.i64.wrap (n * lenW level) = n * lenW level ∧ IntKind.i64.wrap (n + 1) = n + 1 ∧ IntKind.i64.wrap ((n + 1) * lenW level) = (n + 1) * lenW level ∧ IntKind.i64.wrap (n * lenW level + lenW level) = (n + 1) * lenW level ∧ 0 ≤ n * lenW level ∧ n * lenW level ≤ 1099511627776 := by
  obtain ⟨h0, h1, h2⟩ := okW_bounds h
  rcases lenW_cases level with ⟨_, h⟩ | ⟨_, h⟩ | ⟨_, h⟩ | ⟨h, _⟩
  · rw [h] at h2 ⊢; exact ⟨wrap_i64 _ (by omega) (by omega), wrap_i64 _ (by omega) (by omega), wrap_i64 _ (by omega) (by omega), by rw [wrap_i64 _ (by omega) (by omega)]; omega, by omega, by omega⟩
  · rw [h] at h2 ⊢; exact ⟨wrap_i64 _ (by omega) (by omega), wrap_i64 _ (by omega) (by omega), wrap_i64 _ (by omega) (by omega), by rw [wrap_i64 _ (by omega) (by omega)]; omega, by omega, by omega⟩
  · rw [h] at h2 ⊢; exact ⟨wrap_i64 _ (by omega) (by omega), wrap_i64 _ (by omega) (by omega), wrap_i64 _ (by omega) (by omega), by rw [wrap_i64 _ (by omega) (by omega)]; omega, by omega, by omega⟩
  · exact absurd h h0
theorem quo_hv {k : IntKind} {a b : Int} (h : ¬ b = 0) : binPV .quo (.int k a) (.int k b) = some (.int k (k.wrap (a.tdiv b))) := by simp [binPV, h]
theorem lenW_up {level n : Int} (h : okW level n = true) (h2 : ¬ level = 2) : 0 ≤ level ∧ level < 2 := by
  have hb := okW_bounds h
  rcases lenW_cases level with h | h | h | h <;> omega
theorem lenW_next {level n : Int} (h : okW level n = true) (h2 : ¬ level = 2) : ¬ lenW (level + 1) = 0 := by
  have hb := lenW_up h h2
  rcases lenW_cases (level + 1) with h | h | h | h <;> omega
theorem up_no {level n : Int} (h : okW level n = false) : upOk level n = false := by simp [upOk, h]
theorem of_from {level n : Int} (h : okW level n = true) (h2 : ¬ level = 2) : IntKind.i64.wrap ((fromW level n).tdiv (lenW (level + 1))) = ofW (level + 1) (fromW level n) := by
  have hn := lenW_next h h2
  have hf : fromW level n = n * lenW level := by rw [fromW, if_pos h]
  obtain ⟨_, _, _, _, h5, h6⟩ := mulW h
  rw [hf, quoW (level + 1) hn _ h5 h6, ofW, if_neg (by omega)]

set_option maxRecDepth 100000 in
set_option maxHeartbeats 8000000 in
theorem length_ok (level : Int) : Ok Try.prog 46 [.int .i64 (level)] [] [] (.int .i64 (lenW level)) [] [] := by
  refine ok_of_code Try.func46 rfl (by show (1 : Nat) ≤ _; decide) (Nat.le_refl _) fun X => ?_
  refine aw_seq_k (fun K1 hK1 => ?_)
  refine aw_reg ?_
  refine ao_cons (acts_of rfl (does_assign (by conv => lhs; whnf))) (by decide) ?_
  refine ao_nil_n ?_
  refine hK1 _ ?_
  refine aw_seq_k (fun K2 hK2 => ?_)
  refine aw_seq_k (fun K3 hK3 => ?_)
  refine aw_reg ?_
  refine ao_cons (acts_of rfl (does_move (by conv => lhs; whnf))) (by decide) ?_
  refine ao_cons (acts_of rfl (does_bin (by conv => lhs; whnf) (by conv => lhs; whnf) (by conv => lhs; whnf))) (by decide) ?_
  refine ao_cons (acts_of rfl (does_move (by conv => lhs; whnf))) (by decide) ?_
  refine ao_bool 5 rfl (fun g5 => ?_) (fun g5 => ?_)
  · try simp only [decide_eq_true_eq, decide_eq_false_iff_not, beq_iff_eq, Bool.not_eq_true', beq_eq_false_iff_ne, bne_iff_ne, Bool.not_eq_false', bne_eq_false_iff_eq, ne_eq, Decidable.not_not] at g5
    refine ao_cons (acts_skip rfl) (by decide) ?_
    refine ao_cons (acts_skip rfl) (by decide) ?_
    refine ao_cons (acts_of rfl (does_pick (by conv => lhs; whnf) (by conv => lhs; whnf))) (by decide) ?_
    refine ao_nil_n ?_
    refine hK3 _ ?_
    refine aw_cond_t (by decide) rfl ?_
    refine aw_seq_k (fun K4 hK4 => ?_)
    refine aw_reg ?_
    refine ao_cons (acts_of rfl (does_assign (by conv => lhs; whnf))) (by decide) ?_
    refine ao_nil_n ?_
    refine hK4 _ ?_
    refine aw_ret ?_
    exact ret_ok1 (by conv => lhs; whnf) (by conv => lhs; whnf) (by exact congrArg _ (by rcases lenW_cases level with h | h | h | h <;> omega)) (.inr rfl) rfl
  · try simp only [decide_eq_true_eq, decide_eq_false_iff_not, beq_iff_eq, Bool.not_eq_true', beq_eq_false_iff_ne, bne_iff_ne, Bool.not_eq_false', bne_eq_false_iff_eq, ne_eq, Decidable.not_not] at g5
    refine ao_cons (acts_of rfl (does_move (by conv => lhs; whnf))) (by decide) ?_
    refine ao_cons (acts_of rfl (does_bin (by conv => lhs; whnf) (by conv => lhs; whnf) (by conv => lhs; whnf))) (by decide) ?_
    refine ao_cons (acts_of rfl (does_pick (by conv => lhs; whnf) (by conv => lhs; whnf))) (by decide) ?_
    refine ao_nil_n ?_
    refine hK3 _ ?_
    refine aw_bool 8 rfl (fun c8 => ?_) (fun c8 => ?_)
    · try simp only [decide_eq_true_eq, decide_eq_false_iff_not, beq_iff_eq, Bool.not_eq_true', beq_eq_false_iff_ne, bne_iff_ne, Bool.not_eq_false', bne_eq_false_iff_eq, ne_eq, Decidable.not_not] at c8
      refine aw_cond_t (by decide) rfl ?_
      refine aw_seq_k (fun K5 hK5 => ?_)
      refine aw_reg ?_
      refine ao_cons (acts_of rfl (does_assign (by conv => lhs; whnf))) (by decide) ?_
      refine ao_nil_n ?_
      refine hK5 _ ?_
      refine aw_ret ?_
      exact ret_ok1 (by conv => lhs; whnf) (by conv => lhs; whnf) (by exact congrArg _ (by rcases lenW_cases level with h | h | h | h <;> omega)) (.inr rfl) rfl
    · try simp only [decide_eq_true_eq, decide_eq_false_iff_not, beq_iff_eq, Bool.not_eq_true', beq_eq_false_iff_ne, bne_iff_ne, Bool.not_eq_false', bne_eq_false_iff_eq, ne_eq, Decidable.not_not] at c8
      refine aw_cond_f (by decide) rfl ?_
      refine aw_skip ?_
      refine hK2 _ ?_
      refine aw_seq_k (fun K6 hK6 => ?_)
      refine aw_reg ?_
      refine ao_cons (acts_of rfl (do_buildSlice (xs := [.int .i64 60, .int .i64 3600, .int .i64 86400]) ty43 ty3 rfl rfl rfl rfl rfl rfl rfl rfl)) (by decide) ?_
      refine ao_cons (acts_of rfl (does_move (by conv => lhs; whnf))) (by decide) ?_
      refine ao_cons (acts_of rfl (does_indexAddr_own (by conv => lhs; whnf) (by conv => lhs; whnf) (by conv => lhs; whnf) ty43 ty3 (by omega) (by show level < 3; omega))) (by decide) ?_
      refine ao_cons (acts_of rfl (does_load (by conv => lhs; whnf) (cellsAt_eptr (by conv => lhs; whnf) (by exact row3 level g5 c8)) ty3 (by conv => lhs; whnf))) (by decide) ?_
      refine ao_cons (acts_of rfl (does_assign (by conv => lhs; whnf))) (by decide) ?_
      refine ao_nil_n ?_
      refine hK6 _ ?_
      refine aw_ret ?_
      exact ret_ok1 (by conv => lhs; whnf) (by conv => lhs; whnf) (by exact rfl) (.inr rfl) rfl
set_option maxRecDepth 100000 in
set_option maxHeartbeats 8000000 in
theorem long_ok (level : Int) : Ok Try.prog 47 [.int .i64 (level)] [] [] (.int .i64 (lenW level)) [] [] := by
  refine ok_of_code Try.func47 rfl (by show (1 : Nat) ≤ _; decide) (Nat.le_refl _) fun X => ?_
  refine aw_seq_k (fun K1 hK1 => ?_)
  refine aw_reg ?_
  refine ao_cons (acts_of rfl (does_assign (by conv => lhs; whnf))) (by decide) ?_
  refine ao_nil_n ?_
  refine hK1 _ ?_
  refine aw_seq_k (fun K2 hK2 => ?_)
  refine aw_seq_k (fun K3 hK3 => ?_)
  refine aw_reg ?_
  refine ao_cons (acts_of rfl (does_move (by conv => lhs; whnf))) (by decide) ?_
  refine ao_nil_n ?_
  refine hK3 _ ?_
  refine aw_block ?_
  refine aw_seq_k (fun K4 hK4 => ?_)
  refine aw_reg ?_
  refine ao_cons (acts_of rfl (does_bin (by conv => lhs; whnf) (by conv => lhs; whnf) (by conv => lhs; whnf))) (by decide) ?_
  refine ao_cons (acts_of rfl (does_assign (by conv => lhs; whnf))) (by decide) ?_
  refine ao_nil_n ?_
  refine hK4 _ ?_
  refine aw_bool 4 rfl (fun c4 => ?_) (fun c4 => ?_)
  · try simp only [decide_eq_true_eq, decide_eq_false_iff_not, beq_iff_eq, Bool.not_eq_true', beq_eq_false_iff_ne, bne_iff_ne, Bool.not_eq_false', bne_eq_false_iff_eq, ne_eq, Decidable.not_not] at c4
    refine aw_cond_t (by decide) rfl ?_
    refine aw_seq_k (fun K5 hK5 => ?_)
    refine aw_reg ?_
    refine ao_cons (acts_of rfl (does_assign (by conv => lhs; whnf))) (by decide) ?_
    refine ao_nil_n ?_
    refine hK5 _ ?_
    refine aw_ret ?_
    exact ret_ok1 (by conv => lhs; whnf) (by conv => lhs; whnf) (by exact congrArg _ (by rcases lenW_cases level with h | h | h | h <;> omega)) (.inr rfl) rfl
  · try simp only [decide_eq_true_eq, decide_eq_false_iff_not, beq_iff_eq, Bool.not_eq_true', beq_eq_false_iff_ne, bne_iff_ne, Bool.not_eq_false', bne_eq_false_iff_eq, ne_eq, Decidable.not_not] at c4
    refine aw_cond_f (by decide) rfl ?_
    refine aw_seq_k (fun K6 hK6 => ?_)
    refine aw_reg ?_
    refine ao_cons (acts_of rfl (does_bin (by conv => lhs; whnf) (by conv => lhs; whnf) (by conv => lhs; whnf))) (by decide) ?_
    refine ao_cons (acts_of rfl (does_assign (by conv => lhs; whnf))) (by decide) ?_
    refine ao_nil_n ?_
    refine hK6 _ ?_
    refine aw_bool 6 rfl (fun c6 => ?_) (fun c6 => ?_)
    · try simp only [decide_eq_true_eq, decide_eq_false_iff_not, beq_iff_eq, Bool.not_eq_true', beq_eq_false_iff_ne, bne_iff_ne, Bool.not_eq_false', bne_eq_false_iff_eq, ne_eq, Decidable.not_not] at c6
      refine aw_cond_t (by decide) rfl ?_
      refine aw_seq_k (fun K7 hK7 => ?_)
      refine aw_reg ?_
      refine ao_cons (acts_of rfl (does_assign (by conv => lhs; whnf))) (by decide) ?_
      refine ao_nil_n ?_
      refine hK7 _ ?_
      refine aw_ret ?_
      exact ret_ok1 (by conv => lhs; whnf) (by conv => lhs; whnf) (by exact congrArg _ (by rcases lenW_cases level with h | h | h | h <;> omega)) (.inr rfl) rfl
    · try simp only [decide_eq_true_eq, decide_eq_false_iff_not, beq_iff_eq, Bool.not_eq_true', beq_eq_false_iff_ne, bne_iff_ne, Bool.not_eq_false', bne_eq_false_iff_eq, ne_eq, Decidable.not_not] at c6
      refine aw_cond_f (by decide) rfl ?_
      refine aw_seq_k (fun K8 hK8 => ?_)
      refine aw_reg ?_
      refine ao_cons (acts_of rfl (does_bin (by conv => lhs; whnf) (by conv => lhs; whnf) (by conv => lhs; whnf))) (by decide) ?_
      refine ao_cons (acts_of rfl (does_assign (by conv => lhs; whnf))) (by decide) ?_
      refine ao_nil_n ?_
      refine hK8 _ ?_
      refine aw_bool 8 rfl (fun c8 => ?_) (fun c8 => ?_)
      · try simp only [decide_eq_true_eq, decide_eq_false_iff_not, beq_iff_eq, Bool.not_eq_true', beq_eq_false_iff_ne, bne_iff_ne, Bool.not_eq_false', bne_eq_false_iff_eq, ne_eq, Decidable.not_not] at c8
        refine aw_cond_t (by decide) rfl ?_
        refine aw_seq_k (fun K9 hK9 => ?_)
        refine aw_reg ?_
        refine ao_cons (acts_of rfl (does_assign (by conv => lhs; whnf))) (by decide) ?_
        refine ao_nil_n ?_
        refine hK9 _ ?_
        refine aw_ret ?_
        exact ret_ok1 (by conv => lhs; whnf) (by conv => lhs; whnf) (by exact congrArg _ (by rcases lenW_cases level with h | h | h | h <;> omega)) (.inr rfl) rfl
      · try simp only [decide_eq_true_eq, decide_eq_false_iff_not, beq_iff_eq, Bool.not_eq_true', beq_eq_false_iff_ne, bne_iff_ne, Bool.not_eq_false', bne_eq_false_iff_eq, ne_eq, Decidable.not_not] at c8
        refine aw_cond_f (by decide) rfl ?_
        refine aw_skip ?_
        refine hK2 _ ?_
        refine aw_seq_k (fun K10 hK10 => ?_)
        refine aw_reg ?_
        refine ao_cons (acts_of rfl (does_assign (by conv => lhs; whnf))) (by decide) ?_
        refine ao_nil_n ?_
        refine hK10 _ ?_
        refine aw_ret ?_
        exact ret_ok1 (by conv => lhs; whnf) (by conv => lhs; whnf) (by exact congrArg _ (by rcases lenW_cases level with h | h | h | h <;> omega)) (.inr rfl) rfl
set_option maxRecDepth 100000 in
set_option maxHeartbeats 8000000 in
theorem within_ok (n low high : Int) : Ok Try.prog 48 [.int .i64 (n), .int .i64 (low), .int .i64 (high)] [] [] (.bool (inW n low high)) [] [] := by
  refine ok_of_code Try.func48 rfl (by show (3 : Nat) ≤ _; decide) (Nat.le_refl _) fun X => ?_
  refine aw_seq_k (fun K1 hK1 => ?_)
  refine aw_reg ?_
  refine ao_cons (acts_of rfl (does_assign (by conv => lhs; whnf))) (by decide) ?_
  refine ao_nil_n ?_
  refine hK1 _ ?_
  refine aw_seq_k (fun K2 hK2 => ?_)
  refine aw_reg ?_
  refine ao_cons (acts_of rfl (does_move (by conv => lhs; whnf))) (by decide) ?_
  refine ao_cons (acts_of rfl (does_move (by conv => lhs; whnf))) (by decide) ?_
  refine ao_cons (acts_of rfl (does_bin (by conv => lhs; whnf) (by conv => lhs; whnf) (by conv => lhs; whnf))) (by decide) ?_
  refine ao_cons (acts_of rfl (does_move (by conv => lhs; whnf))) (by decide) ?_
  refine ao_bool 10 rfl (fun g10 => ?_) (fun g10 => ?_)
  · try simp only [decide_eq_true_eq, decide_eq_false_iff_not, beq_iff_eq, Bool.not_eq_true', beq_eq_false_iff_ne, bne_iff_ne, Bool.not_eq_false', bne_eq_false_iff_eq, ne_eq, Decidable.not_not] at g10
    refine ao_cons (acts_of rfl (does_move (by conv => lhs; whnf))) (by decide) ?_
    refine ao_cons (acts_of rfl (does_move (by conv => lhs; whnf))) (by decide) ?_
    refine ao_cons (acts_of rfl (does_bin (by conv => lhs; whnf) (by conv => lhs; whnf) (by conv => lhs; whnf))) (by decide) ?_
    refine ao_cons (acts_of rfl (does_pick (by conv => lhs; whnf) (by conv => lhs; whnf))) (by decide) ?_
    refine ao_cons (acts_of rfl (does_assign (by conv => lhs; whnf))) (by decide) ?_
    refine ao_nil_n ?_
    refine hK2 _ ?_
    refine aw_ret ?_
    exact ret_ok1 (by conv => lhs; whnf) (by conv => lhs; whnf) (by exact congrArg PV.bool (by simp [inW]; omega)) (.inr rfl) rfl
  · try simp only [decide_eq_true_eq, decide_eq_false_iff_not, beq_iff_eq, Bool.not_eq_true', beq_eq_false_iff_ne, bne_iff_ne, Bool.not_eq_false', bne_eq_false_iff_eq, ne_eq, Decidable.not_not] at g10
    refine ao_cons (acts_skip rfl) (by decide) ?_
    refine ao_cons (acts_skip rfl) (by decide) ?_
    refine ao_cons (acts_skip rfl) (by decide) ?_
    refine ao_cons (acts_of rfl (does_pick (by conv => lhs; whnf) (by conv => lhs; whnf))) (by decide) ?_
    refine ao_cons (acts_of rfl (does_assign (by conv => lhs; whnf))) (by decide) ?_
    refine ao_nil_n ?_
    refine hK2 _ ?_
    refine aw_ret ?_
    exact ret_ok1 (by conv => lhs; whnf) (by conv => lhs; whnf) (by exact congrArg PV.bool (by simp [inW]; omega)) (.inr rfl) rfl
set_option maxRecDepth 100000 in
set_option maxHeartbeats 8000000 in
theorem of_ok (level sec : Int) : Ok Try.prog 34 [.int .i64 (level), .int .i64 (sec)] [] [] (.int .i64 (ofW level sec)) [] [] := by
  refine ok_of_code Try.func34 rfl (by show (2 : Nat) ≤ _; decide) (Nat.le_refl _) fun X => ?_
  refine aw_seq_k (fun K1 hK1 => ?_)
  refine aw_reg ?_
  refine ao_cons (acts_of rfl (does_assign (by conv => lhs; whnf))) (by decide) ?_
  refine ao_nil_n ?_
  refine hK1 _ ?_
  refine aw_seq_k (fun K2 hK2 => ?_)
  refine aw_reg ?_
  refine ao_cons (acts_of rfl (does_move (by conv => lhs; whnf))) (by decide) ?_
  refine ao_cons (acts_of rfl (do_call0 7 false (length_ok level) rfl ent46 rfl rfl)) (by decide) ?_
  refine ao_cons (acts_of rfl (does_assign (by conv => lhs; whnf))) (by decide) ?_
  refine ao_nil_n ?_
  refine hK2 _ ?_
  refine aw_seq_k (fun K3 hK3 => ?_)
  refine aw_seq_k (fun K4 hK4 => ?_)
  refine aw_reg ?_
  refine ao_cons (acts_of rfl (does_move (by conv => lhs; whnf))) (by decide) ?_
  refine ao_cons (acts_of rfl (does_bin (by conv => lhs; whnf) (by conv => lhs; whnf) (by conv => lhs; whnf))) (by decide) ?_
  refine ao_cons (acts_of rfl (does_move (by conv => lhs; whnf))) (by decide) ?_
  refine ao_bool 10 rfl (fun g10 => ?_) (fun g10 => ?_)
  · try simp only [inW, Bool.and_eq_false_iff, Bool.and_eq_true, decide_eq_true_eq, decide_eq_false_iff_not, beq_iff_eq, Bool.not_eq_true', beq_eq_false_iff_ne, bne_iff_ne, Bool.not_eq_false', bne_eq_false_iff_eq, ne_eq, Decidable.not_not] at g10
    refine ao_cons (acts_skip rfl) (by decide) ?_
    refine ao_cons (acts_skip rfl) (by decide) ?_
    refine ao_cons (acts_of rfl (does_pick (by conv => lhs; whnf) (by conv => lhs; whnf))) (by decide) ?_
    refine ao_cons (acts_of rfl (does_move (by conv => lhs; whnf))) (by decide) ?_
    refine ao_cons (acts_skip rfl) (by decide) ?_
    refine ao_cons (acts_skip rfl) (by decide) ?_
    refine ao_cons (acts_of rfl (does_pick (by conv => lhs; whnf) (by conv => lhs; whnf))) (by decide) ?_
    refine ao_nil_n ?_
    refine hK4 _ ?_
    refine aw_cond_t (by decide) rfl ?_
    refine aw_seq_k (fun K5 hK5 => ?_)
    refine aw_reg ?_
    refine ao_cons (acts_of rfl (does_assign (by conv => lhs; whnf))) (by decide) ?_
    refine ao_nil_n ?_
    refine hK5 _ ?_
    refine aw_ret ?_
    exact ret_ok1 (by conv => lhs; whnf) (by conv => lhs; whnf) (by exact congrArg _ (by rw [ofW, if_pos (by omega)])) (.inr rfl) rfl
  · try simp only [inW, Bool.and_eq_false_iff, Bool.and_eq_true, decide_eq_true_eq, decide_eq_false_iff_not, beq_iff_eq, Bool.not_eq_true', beq_eq_false_iff_ne, bne_iff_ne, Bool.not_eq_false', bne_eq_false_iff_eq, ne_eq, Decidable.not_not] at g10
    refine ao_cons (acts_of rfl (does_move (by conv => lhs; whnf))) (by decide) ?_
    refine ao_cons (acts_of rfl (does_bin (by conv => lhs; whnf) (by conv => lhs; whnf) (by conv => lhs; whnf))) (by decide) ?_
    refine ao_cons (acts_of rfl (does_pick (by conv => lhs; whnf) (by conv => lhs; whnf))) (by decide) ?_
    refine ao_cons (acts_of rfl (does_move (by conv => lhs; whnf))) (by decide) ?_
    refine ao_bool 14 rfl (fun g14 => ?_) (fun g14 => ?_)
    · try simp only [inW, Bool.and_eq_false_iff, Bool.and_eq_true, decide_eq_true_eq, decide_eq_false_iff_not, beq_iff_eq, Bool.not_eq_true', beq_eq_false_iff_ne, bne_iff_ne, Bool.not_eq_false', bne_eq_false_iff_eq, ne_eq, Decidable.not_not] at g14
      refine ao_cons (acts_skip rfl) (by decide) ?_
      refine ao_cons (acts_skip rfl) (by decide) ?_
      refine ao_cons (acts_of rfl (does_pick (by conv => lhs; whnf) (by conv => lhs; whnf))) (by decide) ?_
      refine ao_nil_n ?_
      refine hK4 _ ?_
      refine aw_cond_t (by decide) rfl ?_
      refine aw_seq_k (fun K6 hK6 => ?_)
      refine aw_reg ?_
      refine ao_cons (acts_of rfl (does_assign (by conv => lhs; whnf))) (by decide) ?_
      refine ao_nil_n ?_
      refine hK6 _ ?_
      refine aw_ret ?_
      exact ret_ok1 (by conv => lhs; whnf) (by conv => lhs; whnf) (by exact congrArg _ (by rw [ofW, if_pos (by omega)])) (.inr rfl) rfl
    · try simp only [inW, Bool.and_eq_false_iff, Bool.and_eq_true, decide_eq_true_eq, decide_eq_false_iff_not, beq_iff_eq, Bool.not_eq_true', beq_eq_false_iff_ne, bne_iff_ne, Bool.not_eq_false', bne_eq_false_iff_eq, ne_eq, Decidable.not_not] at g14
      refine ao_cons (acts_of rfl (does_move (by conv => lhs; whnf))) (by decide) ?_
      refine ao_cons (acts_of rfl (does_bin (by conv => lhs; whnf) (by conv => lhs; whnf) (by conv => lhs; whnf))) (by decide) ?_
      refine ao_cons (acts_of rfl (does_pick (by conv => lhs; whnf) (by conv => lhs; whnf))) (by decide) ?_
      refine ao_nil_n ?_
      refine hK4 _ ?_
      refine aw_bool 17 rfl (fun c17 => ?_) (fun c17 => ?_)
      · try simp only [inW, Bool.and_eq_false_iff, Bool.and_eq_true, decide_eq_true_eq, decide_eq_false_iff_not, beq_iff_eq, Bool.not_eq_true', beq_eq_false_iff_ne, bne_iff_ne, Bool.not_eq_false', bne_eq_false_iff_eq, ne_eq, Decidable.not_not] at c17
        refine aw_cond_t (by decide) rfl ?_
        refine aw_seq_k (fun K7 hK7 => ?_)
        refine aw_reg ?_
        refine ao_cons (acts_of rfl (does_assign (by conv => lhs; whnf))) (by decide) ?_
        refine ao_nil_n ?_
        refine hK7 _ ?_
        refine aw_ret ?_
        exact ret_ok1 (by conv => lhs; whnf) (by conv => lhs; whnf) (by exact congrArg _ (by rw [ofW, if_pos (by omega)])) (.inr rfl) rfl
      · try simp only [inW, Bool.and_eq_false_iff, Bool.and_eq_true, decide_eq_true_eq, decide_eq_false_iff_not, beq_iff_eq, Bool.not_eq_true', beq_eq_false_iff_ne, bne_iff_ne, Bool.not_eq_false', bne_eq_false_iff_eq, ne_eq, Decidable.not_not] at c17
        refine aw_cond_f (by decide) rfl ?_
        refine aw_skip ?_
        refine hK3 _ ?_
        refine aw_seq_k (fun K8 hK8 => ?_)
        refine aw_reg ?_
        refine ao_cons (acts_of rfl (does_move (by conv => lhs; whnf))) (by decide) ?_
        refine ao_cons (acts_of rfl (does_move (by conv => lhs; whnf))) (by decide) ?_
        refine ao_cons (acts_of rfl ((does_bin (by conv => lhs; whnf) (by conv => lhs; whnf) (quo_hv g10)).castp (v' := .int .i64 (sec / lenW level)) (by exact congrArg _ (quoW level g10 sec (by omega) (by omega))))) (by decide) ?_
        refine ao_cons (acts_of rfl (does_assign (by conv => lhs; whnf))) (by decide) ?_
        refine ao_nil_n ?_
        refine hK8 _ ?_
        refine aw_ret ?_
        exact ret_ok1 (by conv => lhs; whnf) (by conv => lhs; whnf) (by exact congrArg _ (by rw [ofW, if_neg (by omega)])) (.inr rfl) rfl
set_option maxRecDepth 100000 in
set_option maxHeartbeats 8000000 in
theorem window_ok (level sec : Int) : Ok Try.prog 35 [.int .i64 (level), .int .i64 (sec)] [] [] (.int .i64 (ofW level sec)) [] [] := by
  refine ok_of_code Try.func35 rfl (by show (2 : Nat) ≤ _; decide) (Nat.le_refl _) fun X => ?_
  refine aw_seq_k (fun K1 hK1 => ?_)
  refine aw_reg ?_
  refine ao_cons (acts_of rfl (does_assign (by conv => lhs; whnf))) (by decide) ?_
  refine ao_nil_n ?_
  refine hK1 _ ?_
  refine aw_seq_k (fun K2 hK2 => ?_)
  refine aw_reg ?_
  refine ao_cons (acts_of rfl (does_move (by conv => lhs; whnf))) (by decide) ?_
  refine ao_cons (acts_of rfl (do_call0 7 false (long_ok level) rfl ent47 rfl rfl)) (by decide) ?_
  refine ao_cons (acts_of rfl (does_assign (by conv => lhs; whnf))) (by decide) ?_
  refine ao_nil_n ?_
  refine hK2 _ ?_
  refine aw_seq_k (fun K3 hK3 => ?_)
  refine aw_seq_k (fun K4 hK4 => ?_)
  refine aw_reg ?_
  refine ao_cons (acts_of rfl (does_move (by conv => lhs; whnf))) (by decide) ?_
  refine ao_cons (acts_of rfl (does_bin (by conv => lhs; whnf) (by conv => lhs; whnf) (by conv => lhs; whnf))) (by decide) ?_
  refine ao_cons (acts_of rfl (does_move (by conv => lhs; whnf))) (by decide) ?_
  refine ao_bool 10 rfl (fun g10 => ?_) (fun g10 => ?_)
  · try simp only [inW, Bool.and_eq_false_iff, Bool.and_eq_true, decide_eq_true_eq, decide_eq_false_iff_not, beq_iff_eq, Bool.not_eq_true', beq_eq_false_iff_ne, bne_iff_ne, Bool.not_eq_false', bne_eq_false_iff_eq, ne_eq, Decidable.not_not] at g10
    refine ao_cons (acts_skip rfl) (by decide) ?_
    refine ao_cons (acts_skip rfl) (by decide) ?_
    refine ao_cons (acts_skip rfl) (by decide) ?_
    refine ao_cons (acts_of rfl (does_pick (by conv => lhs; whnf) (by conv => lhs; whnf))) (by decide) ?_
    refine ao_nil_n ?_
    refine hK4 _ ?_
    refine aw_cond_t (by decide) rfl ?_
    refine aw_seq_k (fun K5 hK5 => ?_)
    refine aw_reg ?_
    refine ao_cons (acts_of rfl (does_assign (by conv => lhs; whnf))) (by decide) ?_
    refine ao_nil_n ?_
    refine hK5 _ ?_
    refine aw_ret ?_
    exact ret_ok1 (by conv => lhs; whnf) (by conv => lhs; whnf) (by exact congrArg _ (by rw [ofW, if_pos (by omega)])) (.inr rfl) rfl
  · try simp only [inW, Bool.and_eq_false_iff, Bool.and_eq_true, decide_eq_true_eq, decide_eq_false_iff_not, beq_iff_eq, Bool.not_eq_true', beq_eq_false_iff_ne, bne_iff_ne, Bool.not_eq_false', bne_eq_false_iff_eq, ne_eq, Decidable.not_not] at g10
    refine ao_cons (acts_of rfl (does_move (by conv => lhs; whnf))) (by decide) ?_
    refine ao_cons (acts_of rfl (do_call0 12 false (within_ok sec 0 1099511627776) rfl ent48 rfl rfl)) (by decide) ?_
    refine ao_cons (acts_of rfl (does_un (by conv => lhs; whnf) (by conv => lhs; whnf))) (by decide) ?_
    refine ao_cons (acts_of rfl (does_pick (by conv => lhs; whnf) (by conv => lhs; whnf))) (by decide) ?_
    refine ao_nil_n ?_
    refine hK4 _ ?_
    refine aw_bool 14 rfl (fun c14 => ?_) (fun c14 => ?_)
    · try simp only [inW, Bool.and_eq_false_iff, Bool.and_eq_true, decide_eq_true_eq, decide_eq_false_iff_not, beq_iff_eq, Bool.not_eq_true', beq_eq_false_iff_ne, bne_iff_ne, Bool.not_eq_false', bne_eq_false_iff_eq, ne_eq, Decidable.not_not] at c14
      refine aw_cond_t (by decide) rfl ?_
      refine aw_seq_k (fun K6 hK6 => ?_)
      refine aw_reg ?_
      refine ao_cons (acts_of rfl (does_assign (by conv => lhs; whnf))) (by decide) ?_
      refine ao_nil_n ?_
      refine hK6 _ ?_
      refine aw_ret ?_
      exact ret_ok1 (by conv => lhs; whnf) (by conv => lhs; whnf) (by exact congrArg _ (by rw [ofW, if_pos (by omega)])) (.inr rfl) rfl
    · try simp only [inW, Bool.and_eq_false_iff, Bool.and_eq_true, decide_eq_true_eq, decide_eq_false_iff_not, beq_iff_eq, Bool.not_eq_true', beq_eq_false_iff_ne, bne_iff_ne, Bool.not_eq_false', bne_eq_false_iff_eq, ne_eq, Decidable.not_not] at c14
      refine aw_cond_f (by decide) rfl ?_
      refine aw_skip ?_
      refine hK3 _ ?_
      refine aw_seq_k (fun K7 hK7 => ?_)
      refine aw_reg ?_
      refine ao_cons (acts_of rfl (does_move (by conv => lhs; whnf))) (by decide) ?_
      refine ao_cons (acts_of rfl (does_move (by conv => lhs; whnf))) (by decide) ?_
      refine ao_cons (acts_of rfl ((does_bin (by conv => lhs; whnf) (by conv => lhs; whnf) (quo_hv g10)).castp (v' := .int .i64 (sec / lenW level)) (by exact congrArg _ (quoW level g10 sec (by omega) (by omega))))) (by decide) ?_
      refine ao_cons (acts_of rfl (does_assign (by conv => lhs; whnf))) (by decide) ?_
      refine ao_nil_n ?_
      refine hK7 _ ?_
      refine aw_ret ?_
      exact ret_ok1 (by conv => lhs; whnf) (by conv => lhs; whnf) (by exact congrArg _ (by rw [ofW, if_neg (by omega)])) (.inr rfl) rfl
set_option maxRecDepth 100000 in
set_option maxHeartbeats 8000000 in
theorem span_ok (level n : Int) : Ok Try.prog 30 [.int .i64 (level), .int .i64 (n)] [] [] (.tup [.int .i64 (fromW level n), .int .i64 (tillW level n), .bool (okW level n)]) [] [] := by
  refine ok_of_code Try.func30 rfl (by show (2 : Nat) ≤ _; decide) (Nat.le_refl _) fun X => ?_
  refine aw_seq_k (fun K1 hK1 => ?_)
  refine aw_reg ?_
  refine ao_cons (acts_of rfl (does_assign (by conv => lhs; whnf))) (by decide) ?_
  refine ao_cons (acts_of rfl (does_assign (by conv => lhs; whnf))) (by decide) ?_
  refine ao_cons (acts_of rfl (does_assign (by conv => lhs; whnf))) (by decide) ?_
  refine ao_nil_n ?_
  refine hK1 _ ?_
  refine aw_seq_k (fun K2 hK2 => ?_)
  refine aw_reg ?_
  refine ao_cons (acts_of rfl (does_move (by conv => lhs; whnf))) (by decide) ?_
  refine ao_cons (acts_of rfl (do_call0 9 false (length_ok level) rfl ent46 rfl rfl)) (by decide) ?_
  refine ao_cons (acts_of rfl (does_assign (by conv => lhs; whnf))) (by decide) ?_
  refine ao_nil_n ?_
  refine hK2 _ ?_
  refine aw_seq_k (fun K3 hK3 => ?_)
  refine aw_seq_k (fun K4 hK4 => ?_)
  refine aw_reg ?_
  refine ao_cons (acts_of rfl (does_move (by conv => lhs; whnf))) (by decide) ?_
  refine ao_cons (acts_of rfl (does_bin (by conv => lhs; whnf) (by conv => lhs; whnf) (by conv => lhs; whnf))) (by decide) ?_
  refine ao_cons (acts_of rfl (does_move (by conv => lhs; whnf))) (by decide) ?_
  refine ao_bool 12 rfl (fun g12 => ?_) (fun g12 => ?_)
  · try simp only [inW, Bool.and_eq_false_iff, Bool.and_eq_true, decide_eq_true_eq, decide_eq_false_iff_not, beq_iff_eq, Bool.not_eq_true', beq_eq_false_iff_ne, bne_iff_ne, Bool.not_eq_false', bne_eq_false_iff_eq, ne_eq, Decidable.not_not] at g12
    refine ao_cons (acts_skip rfl) (by decide) ?_
    refine ao_cons (acts_skip rfl) (by decide) ?_
    refine ao_cons (acts_of rfl (does_pick (by conv => lhs; whnf) (by conv => lhs; whnf))) (by decide) ?_
    refine ao_cons (acts_of rfl (does_move (by conv => lhs; whnf))) (by decide) ?_
    refine ao_cons (acts_skip rfl) (by decide) ?_
    refine ao_cons (acts_skip rfl) (by decide) ?_
    refine ao_cons (acts_skip rfl) (by decide) ?_
    refine ao_cons (acts_skip rfl) (by decide) ?_
    refine ao_cons (acts_of rfl (does_pick (by conv => lhs; whnf) (by conv => lhs; whnf))) (by decide) ?_
    refine ao_nil_n ?_
    refine hK4 _ ?_
    refine aw_cond_t (by decide) rfl ?_
    refine aw_seq_k (fun K5 hK5 => ?_)
    refine aw_reg ?_
    refine ao_cons (acts_of rfl (does_assign (by conv => lhs; whnf))) (by decide) ?_
    refine ao_cons (acts_of rfl (does_assign (by conv => lhs; whnf))) (by decide) ?_
    refine ao_cons (acts_of rfl (does_assign (by conv => lhs; whnf))) (by decide) ?_
    refine ao_nil_n ?_
    refine hK5 _ ?_
    refine aw_ret ?_
    exact ret_ok1 (by conv => lhs; whnf) (by conv => lhs; whnf) (by exact by rw [fromW, tillW, okW_false (by omega)]; rfl) (.inr rfl) rfl
  · try simp only [inW, Bool.and_eq_false_iff, Bool.and_eq_true, decide_eq_true_eq, decide_eq_false_iff_not, beq_iff_eq, Bool.not_eq_true', beq_eq_false_iff_ne, bne_iff_ne, Bool.not_eq_false', bne_eq_false_iff_eq, ne_eq, Decidable.not_not] at g12
    refine ao_cons (acts_of rfl (does_move (by conv => lhs; whnf))) (by decide) ?_
    refine ao_cons (acts_of rfl (does_bin (by conv => lhs; whnf) (by conv => lhs; whnf) (by conv => lhs; whnf))) (by decide) ?_
    refine ao_cons (acts_of rfl (does_pick (by conv => lhs; whnf) (by conv => lhs; whnf))) (by decide) ?_
    refine ao_cons (acts_of rfl (does_move (by conv => lhs; whnf))) (by decide) ?_
    refine ao_bool 16 rfl (fun g16 => ?_) (fun g16 => ?_)
    · try simp only [inW, Bool.and_eq_false_iff, Bool.and_eq_true, decide_eq_true_eq, decide_eq_false_iff_not, beq_iff_eq, Bool.not_eq_true', beq_eq_false_iff_ne, bne_iff_ne, Bool.not_eq_false', bne_eq_false_iff_eq, ne_eq, Decidable.not_not] at g16
      refine ao_cons (acts_skip rfl) (by decide) ?_
      refine ao_cons (acts_skip rfl) (by decide) ?_
      refine ao_cons (acts_skip rfl) (by decide) ?_
      refine ao_cons (acts_skip rfl) (by decide) ?_
      refine ao_cons (acts_of rfl (does_pick (by conv => lhs; whnf) (by conv => lhs; whnf))) (by decide) ?_
      refine ao_nil_n ?_
      refine hK4 _ ?_
      refine aw_cond_t (by decide) rfl ?_
      refine aw_seq_k (fun K6 hK6 => ?_)
      refine aw_reg ?_
      refine ao_cons (acts_of rfl (does_assign (by conv => lhs; whnf))) (by decide) ?_
      refine ao_cons (acts_of rfl (does_assign (by conv => lhs; whnf))) (by decide) ?_
      refine ao_cons (acts_of rfl (does_assign (by conv => lhs; whnf))) (by decide) ?_
      refine ao_nil_n ?_
      refine hK6 _ ?_
      refine aw_ret ?_
      exact ret_ok1 (by conv => lhs; whnf) (by conv => lhs; whnf) (by exact by rw [fromW, tillW, okW_false (by omega)]; rfl) (.inr rfl) rfl
    · try simp only [inW, Bool.and_eq_false_iff, Bool.and_eq_true, decide_eq_true_eq, decide_eq_false_iff_not, beq_iff_eq, Bool.not_eq_true', beq_eq_false_iff_ne, bne_iff_ne, Bool.not_eq_false', bne_eq_false_iff_eq, ne_eq, Decidable.not_not] at g16
      refine ao_cons (acts_of rfl (does_move (by conv => lhs; whnf))) (by decide) ?_
      refine ao_cons (acts_of rfl (does_move (by conv => lhs; whnf))) (by decide) ?_
      refine ao_cons (acts_of rfl ((does_bin (by conv => lhs; whnf) (by conv => lhs; whnf) (quo_hv g12)).castp (v' := .int .i64 (1099511627776 / lenW level)) (by exact congrArg _ (quoW level g12 _ (by decide) (by decide))))) (by decide) ?_
      refine ao_cons (acts_of rfl (does_bin (by conv => lhs; whnf) (by conv => lhs; whnf) (by conv => lhs; whnf))) (by decide) ?_
      refine ao_cons (acts_of rfl (does_pick (by conv => lhs; whnf) (by conv => lhs; whnf))) (by decide) ?_
      refine ao_nil_n ?_
      refine hK4 _ ?_
      refine aw_bool 21 rfl (fun c21 => ?_) (fun c21 => ?_)
      · try simp only [inW, Bool.and_eq_false_iff, Bool.and_eq_true, decide_eq_true_eq, decide_eq_false_iff_not, beq_iff_eq, Bool.not_eq_true', beq_eq_false_iff_ne, bne_iff_ne, Bool.not_eq_false', bne_eq_false_iff_eq, ne_eq, Decidable.not_not] at c21
        refine aw_cond_t (by decide) rfl ?_
        refine aw_seq_k (fun K7 hK7 => ?_)
        refine aw_reg ?_
        refine ao_cons (acts_of rfl (does_assign (by conv => lhs; whnf))) (by decide) ?_
        refine ao_cons (acts_of rfl (does_assign (by conv => lhs; whnf))) (by decide) ?_
        refine ao_cons (acts_of rfl (does_assign (by conv => lhs; whnf))) (by decide) ?_
        refine ao_nil_n ?_
        refine hK7 _ ?_
        refine aw_ret ?_
        exact ret_ok1 (by conv => lhs; whnf) (by conv => lhs; whnf) (by exact by rw [fromW, tillW, okW_false (by omega)]; rfl) (.inr rfl) rfl
      · try simp only [inW, Bool.and_eq_false_iff, Bool.and_eq_true, decide_eq_true_eq, decide_eq_false_iff_not, beq_iff_eq, Bool.not_eq_true', beq_eq_false_iff_ne, bne_iff_ne, Bool.not_eq_false', bne_eq_false_iff_eq, ne_eq, Decidable.not_not] at c21
        have hok := okW_true g12 g16 c21
        refine aw_cond_f (by decide) rfl ?_
        refine aw_skip ?_
        refine hK3 _ ?_
        refine aw_seq_k (fun K8 hK8 => ?_)
        refine aw_reg ?_
        refine ao_cons (acts_of rfl (does_move (by conv => lhs; whnf))) (by decide) ?_
        refine ao_cons (acts_of rfl (does_move (by conv => lhs; whnf))) (by decide) ?_
        refine ao_cons (acts_of rfl ((does_bin (by conv => lhs; whnf) (by conv => lhs; whnf) (by conv => lhs; whnf)).castp (v' := .int .i64 (n * lenW level)) (by exact congrArg _ (mulW hok).1))) (by decide) ?_
        refine ao_cons (acts_of rfl (does_move (by conv => lhs; whnf))) (by decide) ?_
        refine ao_cons (acts_of rfl ((does_bin (by conv => lhs; whnf) (by conv => lhs; whnf) (by conv => lhs; whnf)).castp (v' := .int .i64 (n + 1)) (by exact congrArg _ (mulW hok).2.1))) (by decide) ?_
        refine ao_cons (acts_of rfl (does_move (by conv => lhs; whnf))) (by decide) ?_
        refine ao_cons (acts_of rfl ((does_bin (by conv => lhs; whnf) (by conv => lhs; whnf) (by conv => lhs; whnf)).castp (v' := .int .i64 ((n + 1) * lenW level)) (by exact congrArg _ (mulW hok).2.2.1))) (by decide) ?_
        refine ao_cons (acts_of rfl (does_assign (by conv => lhs; whnf))) (by decide) ?_
        refine ao_cons (acts_of rfl (does_assign (by conv => lhs; whnf))) (by decide) ?_
        refine ao_cons (acts_of rfl (does_assign (by conv => lhs; whnf))) (by decide) ?_
        refine ao_nil_n ?_
        refine hK8 _ ?_
        refine aw_ret ?_
        exact ret_ok1 (by conv => lhs; whnf) (by conv => lhs; whnf) (by exact by rw [fromW, tillW, hok]; rfl) (.inr rfl) rfl
set_option maxRecDepth 100000 in
set_option maxHeartbeats 8000000 in
theorem lasts_ok (level n : Int) : Ok Try.prog 31 [.int .i64 (level), .int .i64 (n)] [] [] (.tup [.int .i64 (fromW level n), .int .i64 (tillW level n), .bool (okW level n)]) [] [] := by
  refine ok_of_code Try.func31 rfl (by show (2 : Nat) ≤ _; decide) (Nat.le_refl _) fun X => ?_
  refine aw_seq_k (fun K1 hK1 => ?_)
  refine aw_reg ?_
  refine ao_cons (acts_of rfl (does_assign (by conv => lhs; whnf))) (by decide) ?_
  refine ao_cons (acts_of rfl (does_assign (by conv => lhs; whnf))) (by decide) ?_
  refine ao_cons (acts_of rfl (does_assign (by conv => lhs; whnf))) (by decide) ?_
  refine ao_nil_n ?_
  refine hK1 _ ?_
  refine aw_seq_k (fun K2 hK2 => ?_)
  refine aw_reg ?_
  refine ao_cons (acts_of rfl (does_move (by conv => lhs; whnf))) (by decide) ?_
  refine ao_cons (acts_of rfl (do_call0 9 false (long_ok level) rfl ent47 rfl rfl)) (by decide) ?_
  refine ao_cons (acts_of rfl (does_assign (by conv => lhs; whnf))) (by decide) ?_
  refine ao_nil_n ?_
  refine hK2 _ ?_
  refine aw_seq_k (fun K3 hK3 => ?_)
  refine aw_seq_k (fun K4 hK4 => ?_)
  refine aw_reg ?_
  refine ao_cons (acts_of rfl (does_move (by conv => lhs; whnf))) (by decide) ?_
  refine ao_cons (acts_of rfl (does_bin (by conv => lhs; whnf) (by conv => lhs; whnf) (by conv => lhs; whnf))) (by decide) ?_
  refine ao_cons (acts_of rfl (does_move (by conv => lhs; whnf))) (by decide) ?_
  refine ao_bool 12 rfl (fun g12 => ?_) (fun g12 => ?_)
  · try simp only [inW, Bool.and_eq_false_iff, Bool.and_eq_true, decide_eq_true_eq, decide_eq_false_iff_not, beq_iff_eq, Bool.not_eq_true', beq_eq_false_iff_ne, bne_iff_ne, Bool.not_eq_false', bne_eq_false_iff_eq, ne_eq, Decidable.not_not] at g12
    refine ao_cons (acts_skip rfl) (by decide) ?_
    refine ao_cons (acts_skip rfl) (by decide) ?_
    refine ao_cons (acts_skip rfl) (by decide) ?_
    refine ao_cons (acts_skip rfl) (by decide) ?_
    refine ao_cons (acts_skip rfl) (by decide) ?_
    refine ao_cons (acts_of rfl (does_pick (by conv => lhs; whnf) (by conv => lhs; whnf))) (by decide) ?_
    refine ao_nil_n ?_
    refine hK4 _ ?_
    refine aw_cond_t (by decide) rfl ?_
    refine aw_seq_k (fun K5 hK5 => ?_)
    refine aw_reg ?_
    refine ao_cons (acts_of rfl (does_assign (by conv => lhs; whnf))) (by decide) ?_
    refine ao_cons (acts_of rfl (does_assign (by conv => lhs; whnf))) (by decide) ?_
    refine ao_cons (acts_of rfl (does_assign (by conv => lhs; whnf))) (by decide) ?_
    refine ao_nil_n ?_
    refine hK5 _ ?_
    refine aw_ret ?_
    exact ret_ok1 (by conv => lhs; whnf) (by conv => lhs; whnf) (by exact by rw [fromW, tillW, okW_false (by omega)]; rfl) (.inr rfl) rfl
  · try simp only [inW, Bool.and_eq_false_iff, Bool.and_eq_true, decide_eq_true_eq, decide_eq_false_iff_not, beq_iff_eq, Bool.not_eq_true', beq_eq_false_iff_ne, bne_iff_ne, Bool.not_eq_false', bne_eq_false_iff_eq, ne_eq, Decidable.not_not] at g12
    refine ao_cons (acts_of rfl (does_move (by conv => lhs; whnf))) (by decide) ?_
    refine ao_cons (acts_of rfl (does_move (by conv => lhs; whnf))) (by decide) ?_
    refine ao_cons (acts_of rfl ((does_bin (by conv => lhs; whnf) (by conv => lhs; whnf) (quo_hv g12)).castp (v' := .int .i64 (1099511627776 / lenW level)) (by exact congrArg _ (quoW level g12 _ (by decide) (by decide))))) (by decide) ?_
    refine ao_cons (acts_of rfl (do_call0 16 false (within_ok n 0 (1099511627776 / lenW level)) rfl ent48 rfl rfl)) (by decide) ?_
    refine ao_cons (acts_of rfl (does_un (by conv => lhs; whnf) (by conv => lhs; whnf))) (by decide) ?_
    refine ao_cons (acts_of rfl (does_pick (by conv => lhs; whnf) (by conv => lhs; whnf))) (by decide) ?_
    refine ao_nil_n ?_
    refine hK4 _ ?_
    refine aw_bool 18 rfl (fun c18 => ?_) (fun c18 => ?_)
    · try simp only [inW, Bool.and_eq_false_iff, Bool.and_eq_true, decide_eq_true_eq, decide_eq_false_iff_not, beq_iff_eq, Bool.not_eq_true', beq_eq_false_iff_ne, bne_iff_ne, Bool.not_eq_false', bne_eq_false_iff_eq, ne_eq, Decidable.not_not] at c18
      refine aw_cond_t (by decide) rfl ?_
      refine aw_seq_k (fun K6 hK6 => ?_)
      refine aw_reg ?_
      refine ao_cons (acts_of rfl (does_assign (by conv => lhs; whnf))) (by decide) ?_
      refine ao_cons (acts_of rfl (does_assign (by conv => lhs; whnf))) (by decide) ?_
      refine ao_cons (acts_of rfl (does_assign (by conv => lhs; whnf))) (by decide) ?_
      refine ao_nil_n ?_
      refine hK6 _ ?_
      refine aw_ret ?_
      exact ret_ok1 (by conv => lhs; whnf) (by conv => lhs; whnf) (by exact by rw [fromW, tillW, okW_false (by omega)]; rfl) (.inr rfl) rfl
    · try simp only [inW, Bool.and_eq_false_iff, Bool.and_eq_true, decide_eq_true_eq, decide_eq_false_iff_not, beq_iff_eq, Bool.not_eq_true', beq_eq_false_iff_ne, bne_iff_ne, Bool.not_eq_false', bne_eq_false_iff_eq, ne_eq, Decidable.not_not] at c18
      have hok : okW level n = true := okW_true g12 (by omega) (by omega)
      refine aw_cond_f (by decide) rfl ?_
      refine aw_skip ?_
      refine hK3 _ ?_
      refine aw_seq_k (fun K7 hK7 => ?_)
      refine aw_reg ?_
      refine ao_cons (acts_of rfl (does_move (by conv => lhs; whnf))) (by decide) ?_
      refine ao_cons (acts_of rfl (does_move (by conv => lhs; whnf))) (by decide) ?_
      refine ao_cons (acts_of rfl ((does_bin (by conv => lhs; whnf) (by conv => lhs; whnf) (by conv => lhs; whnf)).castp (v' := .int .i64 (n * lenW level)) (by exact congrArg _ (mulW hok).1))) (by decide) ?_
      refine ao_cons (acts_of rfl (does_move (by conv => lhs; whnf))) (by decide) ?_
      refine ao_cons (acts_of rfl (does_move (by conv => lhs; whnf))) (by decide) ?_
      refine ao_cons (acts_of rfl ((does_bin (by conv => lhs; whnf) (by conv => lhs; whnf) (by conv => lhs; whnf)).castp (v' := .int .i64 (n * lenW level)) (by exact congrArg _ (mulW hok).1))) (by decide) ?_
      refine ao_cons (acts_of rfl (does_move (by conv => lhs; whnf))) (by decide) ?_
      refine ao_cons (acts_of rfl ((does_bin (by conv => lhs; whnf) (by conv => lhs; whnf) (by conv => lhs; whnf)).castp (v' := .int .i64 ((n + 1) * lenW level)) (by exact congrArg _ (mulW hok).2.2.2.1))) (by decide) ?_
      refine ao_cons (acts_of rfl (does_assign (by conv => lhs; whnf))) (by decide) ?_
      refine ao_cons (acts_of rfl (does_assign (by conv => lhs; whnf))) (by decide) ?_
      refine ao_cons (acts_of rfl (does_assign (by conv => lhs; whnf))) (by decide) ?_
      refine ao_nil_n ?_
      refine hK7 _ ?_
      refine aw_ret ?_
      exact ret_ok1 (by conv => lhs; whnf) (by conv => lhs; whnf) (by exact by rw [fromW, tillW, hok]; rfl) (.inr rfl) rfl
set_option maxRecDepth 100000 in
set_option maxHeartbeats 8000000 in
theorem up_ok (level n : Int) : Ok Try.prog 32 [.int .i64 (level), .int .i64 (n)] [] [] (.tup [.int .i64 (upL level n), .int .i64 (upN level n), .bool (upOk level n)]) [] [] := by
  refine ok_of_code Try.func32 rfl (by show (2 : Nat) ≤ _; decide) (Nat.le_refl _) fun X => ?_
  refine aw_seq_k (fun K1 hK1 => ?_)
  refine aw_reg ?_
  refine ao_cons (acts_of rfl (does_assign (by conv => lhs; whnf))) (by decide) ?_
  refine ao_cons (acts_of rfl (does_assign (by conv => lhs; whnf))) (by decide) ?_
  refine ao_cons (acts_of rfl (does_assign (by conv => lhs; whnf))) (by decide) ?_
  refine ao_nil_n ?_
  refine hK1 _ ?_
  refine aw_seq_k (fun K2 hK2 => ?_)
  refine aw_reg ?_
  refine ao_cons (acts_of rfl (does_move (by conv => lhs; whnf))) (by decide) ?_
  refine ao_cons (acts_of rfl (does_move (by conv => lhs; whnf))) (by decide) ?_
  refine ao_cons (acts_of rfl (do_call0 13 false (span_ok level n) rfl ent30 rfl rfl)) (by decide) ?_
  refine ao_cons (acts_of rfl (does_move (by conv => lhs; whnf))) (by decide) ?_
  refine ao_cons (acts_of rfl (does_extract (by conv => lhs; whnf) (by conv => lhs; whnf))) (by decide) ?_
  refine ao_cons (acts_of rfl (does_extract (by conv => lhs; whnf) (by conv => lhs; whnf))) (by decide) ?_
  refine ao_cons (acts_of rfl (does_extract (by conv => lhs; whnf) (by conv => lhs; whnf))) (by decide) ?_
  refine ao_cons (acts_of rfl (does_assign (by conv => lhs; whnf))) (by decide) ?_
  refine ao_cons (acts_of rfl (does_assign (by conv => lhs; whnf))) (by decide) ?_
  refine ao_cons (acts_of rfl (does_assign (by conv => lhs; whnf))) (by decide) ?_
  refine ao_nil_n ?_
  refine hK2 _ ?_
  refine aw_seq_k (fun K3 hK3 => ?_)
  refine aw_seq_k (fun K4 hK4 => ?_)
  refine aw_reg ?_
  refine ao_cons (acts_of rfl (does_move (by conv => lhs; whnf))) (by decide) ?_
  refine ao_cons (acts_of rfl (does_un (by conv => lhs; whnf) (by conv => lhs; whnf))) (by decide) ?_
  refine ao_cons (acts_of rfl (does_move (by conv => lhs; whnf))) (by decide) ?_
  refine ao_bool 19 rfl (fun g19 => ?_) (fun g19 => ?_)
  · try simp only [decide_eq_true_eq, decide_eq_false_iff_not, beq_iff_eq, Bool.not_eq_true', beq_eq_false_iff_ne, bne_iff_ne, Bool.not_eq_false', bne_eq_false_iff_eq, ne_eq, Decidable.not_not] at g19
    refine ao_cons (acts_skip rfl) (by decide) ?_
    refine ao_cons (acts_skip rfl) (by decide) ?_
    refine ao_cons (acts_of rfl (does_pick (by conv => lhs; whnf) (by conv => lhs; whnf))) (by decide) ?_
    refine ao_nil_n ?_
    refine hK4 _ ?_
    refine aw_cond_t (by decide) rfl ?_
    refine aw_seq_k (fun K5 hK5 => ?_)
    refine aw_reg ?_
    refine ao_cons (acts_of rfl (does_assign (by conv => lhs; whnf))) (by decide) ?_
    refine ao_cons (acts_of rfl (does_assign (by conv => lhs; whnf))) (by decide) ?_
    refine ao_cons (acts_of rfl (does_assign (by conv => lhs; whnf))) (by decide) ?_
    refine ao_nil_n ?_
    refine hK5 _ ?_
    refine aw_ret ?_
    exact ret_ok1 (by conv => lhs; whnf) (by conv => lhs; whnf) (by exact by rw [upL, upN, up_no g19]; rfl) (.inr rfl) rfl
  · try simp only [decide_eq_true_eq, decide_eq_false_iff_not, beq_iff_eq, Bool.not_eq_true', beq_eq_false_iff_ne, bne_iff_ne, Bool.not_eq_false', bne_eq_false_iff_eq, ne_eq, Decidable.not_not] at g19
    refine ao_cons (acts_of rfl (does_move (by conv => lhs; whnf))) (by decide) ?_
    refine ao_cons (acts_of rfl (does_bin (by conv => lhs; whnf) (by conv => lhs; whnf) (by conv => lhs; whnf))) (by decide) ?_
    refine ao_cons (acts_of rfl (does_pick (by conv => lhs; whnf) (by conv => lhs; whnf))) (by decide) ?_
    refine ao_nil_n ?_
    refine hK4 _ ?_
    refine aw_bool 22 rfl (fun c22 => ?_) (fun c22 => ?_)
    · try simp only [decide_eq_true_eq, decide_eq_false_iff_not, beq_iff_eq, Bool.not_eq_true', beq_eq_false_iff_ne, bne_iff_ne, Bool.not_eq_false', bne_eq_false_iff_eq, ne_eq, Decidable.not_not] at c22
      have hu : upOk level n = false := by simp [upOk, c22]
      refine aw_cond_t (by decide) rfl ?_
      refine aw_seq_k (fun K6 hK6 => ?_)
      refine aw_reg ?_
      refine ao_cons (acts_of rfl (does_assign (by conv => lhs; whnf))) (by decide) ?_
      refine ao_cons (acts_of rfl (does_assign (by conv => lhs; whnf))) (by decide) ?_
      refine ao_cons (acts_of rfl (does_assign (by conv => lhs; whnf))) (by decide) ?_
      refine ao_nil_n ?_
      refine hK6 _ ?_
      refine aw_ret ?_
      exact ret_ok1 (by conv => lhs; whnf) (by conv => lhs; whnf) (by exact by rw [upL, upN, hu]; rfl) (.inr rfl) rfl
    · try simp only [decide_eq_true_eq, decide_eq_false_iff_not, beq_iff_eq, Bool.not_eq_true', beq_eq_false_iff_ne, bne_iff_ne, Bool.not_eq_false', bne_eq_false_iff_eq, ne_eq, Decidable.not_not] at c22
      have hl := lenW_up g19 c22
      have hu : upOk level n = true := by simp [upOk, g19, c22]
      refine aw_cond_f (by decide) rfl ?_
      refine aw_skip ?_
      refine hK3 _ ?_
      refine aw_seq_k (fun K7 hK7 => ?_)
      refine aw_reg ?_
      refine ao_cons (acts_of rfl (does_move (by conv => lhs; whnf))) (by decide) ?_
      refine ao_cons (acts_of rfl ((does_bin (by conv => lhs; whnf) (by conv => lhs; whnf) (by conv => lhs; whnf)).castp (v' := .int .i64 (level + 1)) (by exact congrArg _ (wrap_i64 _ (by omega) (by omega))))) (by decide) ?_
      refine ao_cons (acts_of rfl (does_move (by conv => lhs; whnf))) (by decide) ?_
      refine ao_cons (acts_of rfl ((does_bin (by conv => lhs; whnf) (by conv => lhs; whnf) (by conv => lhs; whnf)).castp (v' := .int .i64 (level + 1)) (by exact congrArg _ (wrap_i64 _ (by omega) (by omega))))) (by decide) ?_
      refine ao_cons (acts_of rfl (does_move (by conv => lhs; whnf))) (by decide) ?_
      refine ao_cons (acts_of rfl (do_call0 28 false (of_ok (level + 1) (fromW level n)) rfl ent34 rfl rfl)) (by decide) ?_
      refine ao_cons (acts_of rfl (does_assign (by conv => lhs; whnf))) (by decide) ?_
      refine ao_cons (acts_of rfl (does_assign (by conv => lhs; whnf))) (by decide) ?_
      refine ao_cons (acts_of rfl (does_assign (by conv => lhs; whnf))) (by decide) ?_
      refine ao_nil_n ?_
      refine hK7 _ ?_
      refine aw_ret ?_
      exact ret_ok1 (by conv => lhs; whnf) (by conv => lhs; whnf) (by exact by rw [upL, upN, hu]; rfl) (.inr rfl) rfl
set_option maxRecDepth 100000 in
set_option maxHeartbeats 8000000 in
theorem rup_ok (level n : Int) : Ok Try.prog 33 [.int .i64 (level), .int .i64 (n)] [] [] (.tup [.int .i64 (upL level n), .int .i64 (upN level n), .bool (upOk level n)]) [] [] := by
  refine ok_of_code Try.func33 rfl (by show (2 : Nat) ≤ _; decide) (Nat.le_refl _) fun X => ?_
  refine aw_seq_k (fun K1 hK1 => ?_)
  refine aw_reg ?_
  refine ao_cons (acts_of rfl (does_assign (by conv => lhs; whnf))) (by decide) ?_
  refine ao_cons (acts_of rfl (does_assign (by conv => lhs; whnf))) (by decide) ?_
  refine ao_cons (acts_of rfl (does_assign (by conv => lhs; whnf))) (by decide) ?_
  refine ao_nil_n ?_
  refine hK1 _ ?_
  refine aw_seq_k (fun K2 hK2 => ?_)
  refine aw_reg ?_
  refine ao_cons (acts_of rfl (does_move (by conv => lhs; whnf))) (by decide) ?_
  refine ao_cons (acts_of rfl (does_move (by conv => lhs; whnf))) (by decide) ?_
  refine ao_cons (acts_of rfl (do_call0 13 false (lasts_ok level n) rfl ent31 rfl rfl)) (by decide) ?_
  refine ao_cons (acts_of rfl (does_move (by conv => lhs; whnf))) (by decide) ?_
  refine ao_cons (acts_of rfl (does_extract (by conv => lhs; whnf) (by conv => lhs; whnf))) (by decide) ?_
  refine ao_cons (acts_of rfl (does_extract (by conv => lhs; whnf) (by conv => lhs; whnf))) (by decide) ?_
  refine ao_cons (acts_of rfl (does_extract (by conv => lhs; whnf) (by conv => lhs; whnf))) (by decide) ?_
  refine ao_cons (acts_of rfl (does_assign (by conv => lhs; whnf))) (by decide) ?_
  refine ao_cons (acts_of rfl (does_assign (by conv => lhs; whnf))) (by decide) ?_
  refine ao_cons (acts_of rfl (does_assign (by conv => lhs; whnf))) (by decide) ?_
  refine ao_nil_n ?_
  refine hK2 _ ?_
  refine aw_seq_k (fun K3 hK3 => ?_)
  refine aw_seq_k (fun K4 hK4 => ?_)
  refine aw_reg ?_
  refine ao_cons (acts_of rfl (does_move (by conv => lhs; whnf))) (by decide) ?_
  refine ao_cons (acts_of rfl (does_un (by conv => lhs; whnf) (by conv => lhs; whnf))) (by decide) ?_
  refine ao_cons (acts_of rfl (does_move (by conv => lhs; whnf))) (by decide) ?_
  refine ao_bool 19 rfl (fun g19 => ?_) (fun g19 => ?_)
  · try simp only [decide_eq_true_eq, decide_eq_false_iff_not, beq_iff_eq, Bool.not_eq_true', beq_eq_false_iff_ne, bne_iff_ne, Bool.not_eq_false', bne_eq_false_iff_eq, ne_eq, Decidable.not_not] at g19
    refine ao_cons (acts_skip rfl) (by decide) ?_
    refine ao_cons (acts_skip rfl) (by decide) ?_
    refine ao_cons (acts_of rfl (does_pick (by conv => lhs; whnf) (by conv => lhs; whnf))) (by decide) ?_
    refine ao_nil_n ?_
    refine hK4 _ ?_
    refine aw_cond_t (by decide) rfl ?_
    refine aw_seq_k (fun K5 hK5 => ?_)
    refine aw_reg ?_
    refine ao_cons (acts_of rfl (does_assign (by conv => lhs; whnf))) (by decide) ?_
    refine ao_cons (acts_of rfl (does_assign (by conv => lhs; whnf))) (by decide) ?_
    refine ao_cons (acts_of rfl (does_assign (by conv => lhs; whnf))) (by decide) ?_
    refine ao_nil_n ?_
    refine hK5 _ ?_
    refine aw_ret ?_
    exact ret_ok1 (by conv => lhs; whnf) (by conv => lhs; whnf) (by exact by rw [upL, upN, up_no g19]; rfl) (.inr rfl) rfl
  · try simp only [decide_eq_true_eq, decide_eq_false_iff_not, beq_iff_eq, Bool.not_eq_true', beq_eq_false_iff_ne, bne_iff_ne, Bool.not_eq_false', bne_eq_false_iff_eq, ne_eq, Decidable.not_not] at g19
    refine ao_cons (acts_of rfl (does_move (by conv => lhs; whnf))) (by decide) ?_
    refine ao_cons (acts_of rfl (does_bin (by conv => lhs; whnf) (by conv => lhs; whnf) (by conv => lhs; whnf))) (by decide) ?_
    refine ao_cons (acts_of rfl (does_pick (by conv => lhs; whnf) (by conv => lhs; whnf))) (by decide) ?_
    refine ao_nil_n ?_
    refine hK4 _ ?_
    refine aw_bool 22 rfl (fun c22 => ?_) (fun c22 => ?_)
    · try simp only [decide_eq_true_eq, decide_eq_false_iff_not, beq_iff_eq, Bool.not_eq_true', beq_eq_false_iff_ne, bne_iff_ne, Bool.not_eq_false', bne_eq_false_iff_eq, ne_eq, Decidable.not_not] at c22
      have hu : upOk level n = false := by simp [upOk, c22]
      refine aw_cond_t (by decide) rfl ?_
      refine aw_seq_k (fun K6 hK6 => ?_)
      refine aw_reg ?_
      refine ao_cons (acts_of rfl (does_assign (by conv => lhs; whnf))) (by decide) ?_
      refine ao_cons (acts_of rfl (does_assign (by conv => lhs; whnf))) (by decide) ?_
      refine ao_cons (acts_of rfl (does_assign (by conv => lhs; whnf))) (by decide) ?_
      refine ao_nil_n ?_
      refine hK6 _ ?_
      refine aw_ret ?_
      exact ret_ok1 (by conv => lhs; whnf) (by conv => lhs; whnf) (by exact by rw [upL, upN, hu]; rfl) (.inr rfl) rfl
    · try simp only [decide_eq_true_eq, decide_eq_false_iff_not, beq_iff_eq, Bool.not_eq_true', beq_eq_false_iff_ne, bne_iff_ne, Bool.not_eq_false', bne_eq_false_iff_eq, ne_eq, Decidable.not_not] at c22
      have hl := lenW_up g19 c22
      have hu : upOk level n = true := by simp [upOk, g19, c22]
      refine aw_cond_f (by decide) rfl ?_
      refine aw_skip ?_
      refine hK3 _ ?_
      refine aw_seq_k (fun K7 hK7 => ?_)
      refine aw_regd (by kernel_rfl) (by decide +kernel) ?_
      refine ao_cons (acts_of rfl (does_move (by conv => lhs; whnf))) (by decide) ?_
      refine ao_cons (acts_of rfl ((does_bin (by conv => lhs; whnf) (by conv => lhs; whnf) (by conv => lhs; whnf)).castp (v' := .int .i64 (level + 1)) (by exact congrArg _ (wrap_i64 _ (by omega) (by omega))))) (by decide) ?_
      refine ao_cons (acts_of rfl (does_move (by conv => lhs; whnf))) (by decide) ?_
      refine ao_cons (acts_of rfl (does_move (by conv => lhs; whnf))) (by decide) ?_
      refine ao_cons (acts_of rfl ((does_bin (by conv => lhs; whnf) (by conv => lhs; whnf) (by conv => lhs; whnf)).castp (v' := .int .i64 (level + 1)) (by exact congrArg _ (wrap_i64 _ (by omega) (by omega))))) (by decide) ?_
      refine ao_cons (acts_of rfl (do_call0 28 false (long_ok (level + 1)) rfl ent47 rfl rfl)) (by decide) ?_
      refine ao_cons (acts_of rfl ((does_bin (by conv => lhs; whnf) (by conv => lhs; whnf) (quo_hv (lenW_next g19 c22))).castp (v' := .int .i64 (ofW (level + 1) (fromW level n))) (by exact congrArg _ (of_from g19 c22)))) (by decide) ?_
      refine ao_cons (acts_of rfl (does_assign (by conv => lhs; whnf))) (by decide) ?_
      refine ao_cons (acts_of rfl (does_assign (by conv => lhs; whnf))) (by decide) ?_
      refine ao_cons (acts_of rfl (does_assign (by conv => lhs; whnf))) (by decide) ?_
      refine ao_nil_d (by kernel_rfl) ?_
      refine hK7 _ ?_
      refine aw_ret ?_
      exact ret_ok1 (by conv => lhs; whnf) (by conv => lhs; whnf) (by exact by rw [upL, upN, hu]; rfl) (.inr rfl) rfl
set_option maxRecDepth 100000 in
set_option maxHeartbeats 8000000 in
theorem alive9_ok  : Ok Try.prog 29 [] [] [] (.bool true) [] [] := by
  refine ok_of_code Try.func29 rfl (by show (0 : Nat) ≤ _; decide) (Nat.le_refl _) fun X => ?_
  refine aw_seq_k (fun K1 hK1 => ?_)
  refine aw_reg ?_
  refine ao_cons (acts_of rfl (does_assign (by conv => lhs; whnf))) (by decide) ?_
  refine ao_nil_n ?_
  refine hK1 _ ?_
  refine aw_seq_k (fun K2 hK2 => ?_)
  refine aw_reg ?_
  refine ao_cons (acts_of rfl (do_call0 5 false (span_ok 1 2) rfl ent30 rfl rfl)) (by decide) ?_
  refine ao_cons (acts_of rfl (does_move (by conv => lhs; whnf))) (by decide) ?_
  refine ao_cons (acts_of rfl (does_extract (by conv => lhs; whnf) (by conv => lhs; whnf))) (by decide) ?_
  refine ao_cons (acts_of rfl (does_extract (by conv => lhs; whnf) (by conv => lhs; whnf))) (by decide) ?_
  refine ao_cons (acts_of rfl (does_extract (by conv => lhs; whnf) (by conv => lhs; whnf))) (by decide) ?_
  refine ao_cons (acts_of rfl (does_assign (by conv => lhs; whnf))) (by decide) ?_
  refine ao_cons (acts_of rfl (does_assign (by conv => lhs; whnf))) (by decide) ?_
  refine ao_cons (acts_of rfl (does_assign (by conv => lhs; whnf))) (by decide) ?_
  refine ao_nil_n ?_
  refine hK2 _ ?_
  refine aw_seq_k (fun K3 hK3 => ?_)
  refine aw_reg ?_
  refine ao_cons (acts_of rfl (do_call0 9 false (of_ok 0 60) rfl ent34 rfl rfl)) (by decide) ?_
  refine ao_cons (acts_of rfl ((does_bin (by conv => lhs; whnf) (by conv => lhs; whnf) (by conv => lhs; whnf)).castp (v' := .bool true) (by exact congrArg PV.bool (by decide +kernel)))) (by decide) ?_
  refine ao_cons (acts_of rfl (does_move (by conv => lhs; whnf))) (by decide) ?_
  refine ao_cons (acts_of rfl (does_move (by conv => lhs; whnf))) (by decide) ?_
  refine ao_cons (acts_of rfl ((does_bin (by conv => lhs; whnf) (by conv => lhs; whnf) (by conv => lhs; whnf)).castp (v' := .bool true) (by exact congrArg PV.bool (by decide +kernel)))) (by decide) ?_
  refine ao_cons (acts_of rfl (does_pick (by conv => lhs; whnf) (by conv => lhs; whnf))) (by decide) ?_
  refine ao_cons (acts_of rfl (does_move (by conv => lhs; whnf))) (by decide) ?_
  refine ao_cons (acts_of rfl (does_move (by conv => lhs; whnf))) (by decide) ?_
  refine ao_cons (acts_of rfl ((does_bin (by conv => lhs; whnf) (by conv => lhs; whnf) (by conv => lhs; whnf)).castp (v' := .bool true) (by exact congrArg PV.bool (by decide +kernel)))) (by decide) ?_
  refine ao_cons (acts_of rfl (does_pick (by conv => lhs; whnf) (by conv => lhs; whnf))) (by decide) ?_
  refine ao_cons (acts_of rfl (does_move (by conv => lhs; whnf))) (by decide) ?_
  refine ao_cons (acts_of rfl (does_move (by conv => lhs; whnf))) (by decide) ?_
  refine ao_cons (acts_of rfl (does_pick (by conv => lhs; whnf) (by conv => lhs; whnf))) (by decide) ?_
  refine ao_cons (acts_of rfl (does_assign (by conv => lhs; whnf))) (by decide) ?_
  refine ao_nil_n ?_
  refine hK3 _ ?_
  refine aw_ret ?_
  exact ret_ok1 (by conv => lhs; whnf) (by conv => lhs; whnf) (by exact congrArg PV.bool (by decide +kernel)) (.inr rfl) rfl
set_option maxRecDepth 100000 in
set_option maxHeartbeats 8000000 in
theorem windowTells_ok (level sec n : Int) : Ok Try.prog 10 [.int .i64 (level), .int .i64 (sec), .int .i64 (n)] [] [] (.bool true) [] [] := by
  refine ok_of_code Try.func10 rfl (by show (3 : Nat) ≤ _; decide) (Nat.le_refl _) fun X => ?_
  refine aw_seq_k (fun K1 hK1 => ?_)
  refine aw_reg ?_
  refine ao_cons (acts_of rfl (does_assign (by conv => lhs; whnf))) (by decide) ?_
  refine ao_nil_n ?_
  refine hK1 _ ?_
  refine aw_seq_k (fun K2 hK2 => ?_)
  refine aw_reg ?_
  refine ao_cons (acts_of rfl (do_call0 20 false (alive9_ok) rfl ent29 rfl rfl)) (by decide) ?_
  refine ao_cons (acts_of rfl (does_assign (by conv => lhs; whnf))) (by decide) ?_
  refine ao_nil_n ?_
  refine hK2 _ ?_
  refine aw_seq_k (fun K3 hK3 => ?_)
  refine aw_reg ?_
  refine ao_cons (acts_of rfl (does_move (by conv => lhs; whnf))) (by decide) ?_
  refine ao_cons (acts_of rfl (does_move (by conv => lhs; whnf))) (by decide) ?_
  refine ao_cons (acts_of rfl (do_call0 24 false (span_ok level n) rfl ent30 rfl rfl)) (by decide) ?_
  refine ao_cons (acts_of rfl (does_move (by conv => lhs; whnf))) (by decide) ?_
  refine ao_cons (acts_of rfl (does_extract (by conv => lhs; whnf) (by conv => lhs; whnf))) (by decide) ?_
  refine ao_cons (acts_of rfl (does_extract (by conv => lhs; whnf) (by conv => lhs; whnf))) (by decide) ?_
  refine ao_cons (acts_of rfl (does_extract (by conv => lhs; whnf) (by conv => lhs; whnf))) (by decide) ?_
  refine ao_cons (acts_of rfl (does_assign (by conv => lhs; whnf))) (by decide) ?_
  refine ao_cons (acts_of rfl (does_assign (by conv => lhs; whnf))) (by decide) ?_
  refine ao_cons (acts_of rfl (does_assign (by conv => lhs; whnf))) (by decide) ?_
  refine ao_nil_n ?_
  refine hK3 _ ?_
  refine aw_seq_k (fun K4 hK4 => ?_)
  refine aw_reg ?_
  refine ao_cons (acts_of rfl (does_move (by conv => lhs; whnf))) (by decide) ?_
  refine ao_cons (acts_of rfl (does_move (by conv => lhs; whnf))) (by decide) ?_
  refine ao_cons (acts_of rfl (do_call0 31 false (lasts_ok level n) rfl ent31 rfl rfl)) (by decide) ?_
  refine ao_cons (acts_of rfl (does_move (by conv => lhs; whnf))) (by decide) ?_
  refine ao_cons (acts_of rfl (does_extract (by conv => lhs; whnf) (by conv => lhs; whnf))) (by decide) ?_
  refine ao_cons (acts_of rfl (does_extract (by conv => lhs; whnf) (by conv => lhs; whnf))) (by decide) ?_
  refine ao_cons (acts_of rfl (does_extract (by conv => lhs; whnf) (by conv => lhs; whnf))) (by decide) ?_
  refine ao_cons (acts_of rfl (does_assign (by conv => lhs; whnf))) (by decide) ?_
  refine ao_cons (acts_of rfl (does_assign (by conv => lhs; whnf))) (by decide) ?_
  refine ao_cons (acts_of rfl (does_assign (by conv => lhs; whnf))) (by decide) ?_
  refine ao_nil_n ?_
  refine hK4 _ ?_
  refine aw_seq_k (fun K5 hK5 => ?_)
  refine aw_reg ?_
  refine ao_cons (acts_of rfl (does_move (by conv => lhs; whnf))) (by decide) ?_
  refine ao_cons (acts_of rfl (does_move (by conv => lhs; whnf))) (by decide) ?_
  refine ao_cons (acts_of rfl (do_call0 38 false (up_ok level n) rfl ent32 rfl rfl)) (by decide) ?_
  refine ao_cons (acts_of rfl (does_move (by conv => lhs; whnf))) (by decide) ?_
  refine ao_cons (acts_of rfl (does_extract (by conv => lhs; whnf) (by conv => lhs; whnf))) (by decide) ?_
  refine ao_cons (acts_of rfl (does_extract (by conv => lhs; whnf) (by conv => lhs; whnf))) (by decide) ?_
  refine ao_cons (acts_of rfl (does_extract (by conv => lhs; whnf) (by conv => lhs; whnf))) (by decide) ?_
  refine ao_cons (acts_of rfl (does_assign (by conv => lhs; whnf))) (by decide) ?_
  refine ao_cons (acts_of rfl (does_assign (by conv => lhs; whnf))) (by decide) ?_
  refine ao_cons (acts_of rfl (does_assign (by conv => lhs; whnf))) (by decide) ?_
  refine ao_nil_n ?_
  refine hK5 _ ?_
  refine aw_seq_k (fun K6 hK6 => ?_)
  refine aw_reg ?_
  refine ao_cons (acts_of rfl (does_move (by conv => lhs; whnf))) (by decide) ?_
  refine ao_cons (acts_of rfl (does_move (by conv => lhs; whnf))) (by decide) ?_
  refine ao_cons (acts_of rfl (do_call0 45 false (rup_ok level n) rfl ent33 rfl rfl)) (by decide) ?_
  refine ao_cons (acts_of rfl (does_move (by conv => lhs; whnf))) (by decide) ?_
  refine ao_cons (acts_of rfl (does_extract (by conv => lhs; whnf) (by conv => lhs; whnf))) (by decide) ?_
  refine ao_cons (acts_of rfl (does_extract (by conv => lhs; whnf) (by conv => lhs; whnf))) (by decide) ?_
  refine ao_cons (acts_of rfl (does_extract (by conv => lhs; whnf) (by conv => lhs; whnf))) (by decide) ?_
  refine ao_cons (acts_of rfl (does_assign (by conv => lhs; whnf))) (by decide) ?_
  refine ao_cons (acts_of rfl (does_assign (by conv => lhs; whnf))) (by decide) ?_
  refine ao_cons (acts_of rfl (does_assign (by conv => lhs; whnf))) (by decide) ?_
  refine ao_nil_n ?_
  refine hK6 _ ?_
  refine aw_seq_k (fun K7 hK7 => ?_)
  refine aw_reg ?_
  refine ao_cons (acts_of rfl (does_move (by conv => lhs; whnf))) (by decide) ?_
  refine ao_cons (acts_of rfl (does_move (by conv => lhs; whnf))) (by decide) ?_
  refine ao_cons (acts_of rfl (does_move (by conv => lhs; whnf))) (by decide) ?_
  refine ao_cons (acts_of rfl (does_move (by conv => lhs; whnf))) (by decide) ?_
  refine ao_cons (acts_of rfl (do_call0 53 false (of_ok level sec) rfl ent34 rfl rfl)) (by decide) ?_
  refine ao_cons (acts_of rfl (does_move (by conv => lhs; whnf))) (by decide) ?_
  refine ao_cons (acts_of rfl (does_move (by conv => lhs; whnf))) (by decide) ?_
  refine ao_cons (acts_of rfl (do_call0 56 false (window_ok level sec) rfl ent35 rfl rfl)) (by decide) ?_
  refine ao_cons (acts_of rfl ((does_bin (by conv => lhs; whnf) (by conv => lhs; whnf) (by conv => lhs; whnf)).castp (v' := .bool true) (by exact congrArg PV.bool (by simp)))) (by decide) ?_
  refine ao_cons (acts_of rfl (does_pick (by conv => lhs; whnf) (by conv => lhs; whnf))) (by decide) ?_
  refine ao_cons (acts_of rfl (does_move (by conv => lhs; whnf))) (by decide) ?_
  refine ao_cons (acts_of rfl (does_move (by conv => lhs; whnf))) (by decide) ?_
  refine ao_cons (acts_of rfl (does_move (by conv => lhs; whnf))) (by decide) ?_
  refine ao_cons (acts_of rfl ((does_bin (by conv => lhs; whnf) (by conv => lhs; whnf) (by conv => lhs; whnf)).castp (v' := .bool true) (by exact congrArg PV.bool (by simp)))) (by decide) ?_
  refine ao_cons (acts_of rfl (does_pick (by conv => lhs; whnf) (by conv => lhs; whnf))) (by decide) ?_
  refine ao_cons (acts_of rfl (does_move (by conv => lhs; whnf))) (by decide) ?_
  refine ao_cons (acts_of rfl (does_move (by conv => lhs; whnf))) (by decide) ?_
  refine ao_cons (acts_of rfl (does_move (by conv => lhs; whnf))) (by decide) ?_
  refine ao_cons (acts_of rfl ((does_bin (by conv => lhs; whnf) (by conv => lhs; whnf) (by conv => lhs; whnf)).castp (v' := .bool true) (by exact congrArg PV.bool (by simp)))) (by decide) ?_
  refine ao_cons (acts_of rfl (does_pick (by conv => lhs; whnf) (by conv => lhs; whnf))) (by decide) ?_
  refine ao_cons (acts_of rfl (does_move (by conv => lhs; whnf))) (by decide) ?_
  refine ao_cons (acts_of rfl (does_move (by conv => lhs; whnf))) (by decide) ?_
  refine ao_cons (acts_of rfl (does_move (by conv => lhs; whnf))) (by decide) ?_
  refine ao_cons (acts_of rfl ((does_eq_bool (by conv => lhs; whnf) (by conv => lhs; whnf) (ty_bool ty4) (by conv => lhs; whnf)).castp (v' := .bool true) (by exact congrArg PV.bool (by simp)))) (by decide) ?_
  refine ao_cons (acts_of rfl (does_pick (by conv => lhs; whnf) (by conv => lhs; whnf))) (by decide) ?_
  refine ao_cons (acts_of rfl (does_move (by conv => lhs; whnf))) (by decide) ?_
  refine ao_cons (acts_of rfl (does_move (by conv => lhs; whnf))) (by decide) ?_
  refine ao_cons (acts_of rfl (does_move (by conv => lhs; whnf))) (by decide) ?_
  refine ao_cons (acts_of rfl ((does_bin (by conv => lhs; whnf) (by conv => lhs; whnf) (by conv => lhs; whnf)).castp (v' := .bool true) (by exact congrArg PV.bool (by simp)))) (by decide) ?_
  refine ao_cons (acts_of rfl (does_pick (by conv => lhs; whnf) (by conv => lhs; whnf))) (by decide) ?_
  refine ao_cons (acts_of rfl (does_move (by conv => lhs; whnf))) (by decide) ?_
  refine ao_cons (acts_of rfl (does_move (by conv => lhs; whnf))) (by decide) ?_
  refine ao_cons (acts_of rfl (does_move (by conv => lhs; whnf))) (by decide) ?_
  refine ao_cons (acts_of rfl ((does_bin (by conv => lhs; whnf) (by conv => lhs; whnf) (by conv => lhs; whnf)).castp (v' := .bool true) (by exact congrArg PV.bool (by simp)))) (by decide) ?_
  refine ao_cons (acts_of rfl (does_pick (by conv => lhs; whnf) (by conv => lhs; whnf))) (by decide) ?_
  refine ao_cons (acts_of rfl (does_move (by conv => lhs; whnf))) (by decide) ?_
  refine ao_cons (acts_of rfl (does_move (by conv => lhs; whnf))) (by decide) ?_
  refine ao_cons (acts_of rfl (does_move (by conv => lhs; whnf))) (by decide) ?_
  refine ao_cons (acts_of rfl ((does_eq_bool (by conv => lhs; whnf) (by conv => lhs; whnf) (ty_bool ty4) (by conv => lhs; whnf)).castp (v' := .bool true) (by exact congrArg PV.bool (by simp)))) (by decide) ?_
  refine ao_cons (acts_of rfl (does_pick (by conv => lhs; whnf) (by conv => lhs; whnf))) (by decide) ?_
  refine ao_cons (acts_of rfl (does_assign (by conv => lhs; whnf))) (by decide) ?_
  refine ao_nil_n ?_
  refine hK7 _ ?_
  refine aw_ret ?_
  exact ret_ok1 (by conv => lhs; whnf) (by conv => lhs; whnf) (by exact rfl) (.inr rfl) rfl
end Go.Proofs.Ytomjoccpkknamaa.Ab
