/- Which is ahead. -/
import Derived.Test.YtoecalgfdphghaaXQ1
import Derived.Test.YtoecalgfdphghaaProg
namespace Go.Proofs.Ytoecalgfdphghaa.Ab
open Go Go.RowKit
set_option linter.unusedVariables false
set_option linter.unusedSimpArgs false
structure Busy where
  Service : ByteArray
  Op : ByteArray
  Count : Int
  Errs : Int
  deriving DecidableEq
theorem ty34 : tyOf Try.prog 34 = some ⟨.struct [(0, 9), (1, 9), (2, 3), (3, 3)], 4, 48, [.str ByteArray.empty, .str ByteArray.empty, .int .i64 0, .int .i64 0]⟩ := by kernel_rfl
theorem ent26 : Ent Try.prog 26 := ⟨_, Try.func26, by kernel_rfl, rfl⟩
theorem ent27 : Ent Try.prog 27 := ⟨_, Try.func27, by kernel_rfl, rfl⟩
theorem ent28 : Ent Try.prog 28 := ⟨_, Try.func28, by kernel_rfl, rfl⟩
theorem ent40 : Ent Try.prog 40 := ⟨_, Try.func40, by kernel_rfl, rfl⟩
theorem ent41 : Ent Try.prog 41 := ⟨_, Try.func41, by kernel_rfl, rfl⟩
def cmp_isNaN_int (a0 : Int) : Option Bool :=
  some (a0 != a0)
set_option maxRecDepth 100000 in
set_option maxHeartbeats 8000000 in
/-- cmp.isNaN[int] -/
theorem cmp_isNaN_int_ok (a0 : Int) {r : Bool} (h : cmp_isNaN_int a0 = some r) : Ok Try.prog 40 [.int .i64 a0] [] [] (.bool r) [] [] := by
  unfold cmp_isNaN_int at h
  refine ok_of_code Try.func40 rfl (by show (1 : Nat) ≤ _; decide) (Nat.le_refl _) fun X => ?_
  refine aw_seq_k (fun K1 hK1 => ?_)
  refine aw_regL ?_
  refine alP (some 2) rfl rfl (does_assign (v := .bool false) (by exact rfl)) (by decide) ?_
  refine al_nil ?_
  refine hK1 _ ?_
  refine aw_seq_k (fun K2 hK2 => ?_)
  refine aw_regL ?_
  refine alP (some 3) rfl rfl (does_move (v := .int .i64 a0) (by exact rfl)) (by decide) ?_
  refine alP (some 4) rfl rfl (does_move (v := .int .i64 a0) (by exact rfl)) (by decide) ?_
  refine alP (some 5) rfl rfl (does_bin (v := .bool (a0 != a0)) (by conv => lhs; whnf) (by conv => lhs; whnf) rfl) (by decide) ?_
  refine alP (some 2) rfl rfl (does_assign (v := .bool (a0 != a0)) (by exact rfl)) (by decide) ?_
  refine al_nil ?_
  refine hK2 _ ?_
  refine aw_ret ?_
  obtain rfl := Option.some.inj h
  exact ret_ok1 (by conv => lhs; whnf) (by conv => lhs; whnf) (by exact rfl) (.inr rfl) rfl
def cmp_Compare_int (a0 : Int) (a1 : Int) : Option Int :=
  Option.bind (cmp_isNaN_int a0) (fun (x3 : Bool) => Option.bind (cmp_isNaN_int a1) (fun (x5 : Bool) => if x3 = true then (if x5 = true then (some 0) else (some (-1))) else (if x5 = true then (some 1) else (if (decide (a0 < a1)) = true then (some (-1)) else (if (decide (a1 < a0)) = true then (some 1) else (some 0))))))
set_option maxRecDepth 100000 in
set_option maxHeartbeats 8000000 in
/-- cmp.Compare[int] -/
theorem cmp_Compare_int_ok (a0 : Int) (a1 : Int) {r : Int} (h : cmp_Compare_int a0 a1 = some r) : Ok Try.prog 27 [.int .i64 a0, .int .i64 a1] [] [] (.int .i64 r) [] [] := by
  unfold cmp_Compare_int at h
  refine ok_of_code Try.func27 rfl (by show (2 : Nat) ≤ _; decide) (Nat.le_refl _) fun X => ?_
  refine aw_seq_k (fun K1 hK1 => ?_)
  refine aw_regL ?_
  refine alP (some 4) rfl rfl (does_assign (v := .int .i64 0) (by exact rfl)) (by decide) ?_
  refine al_nil ?_
  refine hK1 _ ?_
  refine aw_seq_k (fun K2 hK2 => ?_)
  refine aw_regL ?_
  refine alP (some 7) rfl rfl (does_move (v := .int .i64 a0) (by exact rfl)) (by decide) ?_
  obtain ⟨x3, hx3, h⟩ := bnd_some h
  refine alD (some 8) rfl rfl (do_call0 8 false (cmp_isNaN_int_ok a0 hx3) rfl ent40 rfl rfl) (by decide) ?_
  refine alP (some 5) rfl rfl (does_assign (v := .bool x3) (by exact rfl)) (by decide) ?_
  refine al_nil ?_
  refine hK2 _ ?_
  refine aw_seq_k (fun K4 hK4 => ?_)
  refine aw_regL ?_
  refine alP (some 9) rfl rfl (does_move (v := .int .i64 a1) (by exact rfl)) (by decide) ?_
  obtain ⟨x5, hx5, h⟩ := bnd_some h
  refine alD (some 10) rfl rfl (do_call0 10 false (cmp_isNaN_int_ok a1 hx5) rfl ent40 rfl rfl) (by decide) ?_
  refine alP (some 6) rfl rfl (does_assign (v := .bool x5) (by exact rfl)) (by decide) ?_
  refine al_nil ?_
  refine hK4 _ ?_
  refine aw_seq_k (fun K6 hK6 => ?_)
  refine aw_seq_k (fun K7 hK7 => ?_)
  refine aw_regL ?_
  refine alP (some 11) rfl rfl (does_move (v := .bool x3) (by exact rfl)) (by decide) ?_
  refine al_nil ?_
  refine hK7 _ ?_
  refine aw_bool (b := x3) 11 rfl (fun c8 => ?_) (fun c8 => ?_)
  · have h := ifT c8 h
    refine aw_cond_t (by decide) rfl ?_
    refine aw_seq_k (fun K9 hK9 => ?_)
    refine aw_seq_k (fun K10 hK10 => ?_)
    refine aw_regL ?_
    refine alP (some 12) rfl rfl (does_move (v := .bool x5) (by exact rfl)) (by decide) ?_
    refine al_nil ?_
    refine hK10 _ ?_
    refine aw_bool (b := x5) 12 rfl (fun c11 => ?_) (fun c11 => ?_)
    · have h := ifT c11 h
      refine aw_cond_t (by decide) rfl ?_
      refine aw_seq_k (fun K12 hK12 => ?_)
      refine aw_regL ?_
      refine alP (some 4) rfl rfl (does_assign (v := .int .i64 0) (by exact rfl)) (by decide) ?_
      refine al_nil ?_
      refine hK12 _ ?_
      refine aw_ret ?_
      obtain rfl := Option.some.inj h
      exact ret_ok1 (by conv => lhs; whnf) (by conv => lhs; whnf) (by exact rfl) (.inr rfl) rfl
    · have h := ifF c11 h
      refine aw_cond_f (by decide) rfl ?_
      refine aw_skip ?_
      refine hK9 _ ?_
      refine aw_seq_k (fun K13 hK13 => ?_)
      refine aw_regL ?_
      refine alP (some 4) rfl rfl (does_assign (v := .int .i64 (-1)) (by exact rfl)) (by decide) ?_
      refine al_nil ?_
      refine hK13 _ ?_
      refine aw_ret ?_
      obtain rfl := Option.some.inj h
      exact ret_ok1 (by conv => lhs; whnf) (by conv => lhs; whnf) (by exact rfl) (.inr rfl) rfl
  · have h := ifF c8 h
    refine aw_cond_f (by decide) rfl ?_
    refine aw_skip ?_
    refine hK6 _ ?_
    refine aw_seq_k (fun K14 hK14 => ?_)
    refine aw_seq_k (fun K15 hK15 => ?_)
    refine aw_regL ?_
    refine alP (some 13) rfl rfl (does_move (v := .bool x5) (by exact rfl)) (by decide) ?_
    refine al_nil ?_
    refine hK15 _ ?_
    refine aw_bool (b := x5) 13 rfl (fun c16 => ?_) (fun c16 => ?_)
    · have h := ifT c16 h
      refine aw_cond_t (by decide) rfl ?_
      refine aw_seq_k (fun K17 hK17 => ?_)
      refine aw_regL ?_
      refine alP (some 4) rfl rfl (does_assign (v := .int .i64 1) (by exact rfl)) (by decide) ?_
      refine al_nil ?_
      refine hK17 _ ?_
      refine aw_ret ?_
      obtain rfl := Option.some.inj h
      exact ret_ok1 (by conv => lhs; whnf) (by conv => lhs; whnf) (by exact rfl) (.inr rfl) rfl
    · have h := ifF c16 h
      refine aw_cond_f (by decide) rfl ?_
      refine aw_skip ?_
      refine hK14 _ ?_
      refine aw_seq_k (fun K18 hK18 => ?_)
      refine aw_seq_k (fun K19 hK19 => ?_)
      refine aw_regL ?_
      refine alP (some 14) rfl rfl (does_move (v := .int .i64 a0) (by exact rfl)) (by decide) ?_
      refine alP (some 15) rfl rfl (does_move (v := .int .i64 a1) (by exact rfl)) (by decide) ?_
      refine alP (some 16) rfl rfl (does_bin (v := .bool (decide (a0 < a1))) (by conv => lhs; whnf) (by conv => lhs; whnf) rfl) (by decide) ?_
      refine al_nil ?_
      refine hK19 _ ?_
      refine aw_bool (b := (decide (a0 < a1))) 16 rfl (fun c20 => ?_) (fun c20 => ?_)
      · have h := ifT c20 h
        refine aw_cond_t (by decide) rfl ?_
        refine aw_seq_k (fun K21 hK21 => ?_)
        refine aw_regL ?_
        refine alP (some 4) rfl rfl (does_assign (v := .int .i64 (-1)) (by exact rfl)) (by decide) ?_
        refine al_nil ?_
        refine hK21 _ ?_
        refine aw_ret ?_
        obtain rfl := Option.some.inj h
        exact ret_ok1 (by conv => lhs; whnf) (by conv => lhs; whnf) (by exact rfl) (.inr rfl) rfl
      · have h := ifF c20 h
        refine aw_cond_f (by decide) rfl ?_
        refine aw_skip ?_
        refine hK18 _ ?_
        refine aw_seq_k (fun K22 hK22 => ?_)
        refine aw_seq_k (fun K23 hK23 => ?_)
        refine aw_regL ?_
        refine alP (some 17) rfl rfl (does_move (v := .int .i64 a0) (by exact rfl)) (by decide) ?_
        refine alP (some 18) rfl rfl (does_move (v := .int .i64 a1) (by exact rfl)) (by decide) ?_
        refine alP (some 19) rfl rfl (does_bin (v := .bool (decide (a1 < a0))) (by conv => lhs; whnf) (by conv => lhs; whnf) rfl) (by decide) ?_
        refine al_nil ?_
        refine hK23 _ ?_
        refine aw_bool (b := (decide (a1 < a0))) 19 rfl (fun c24 => ?_) (fun c24 => ?_)
        · have h := ifT c24 h
          refine aw_cond_t (by decide) rfl ?_
          refine aw_seq_k (fun K25 hK25 => ?_)
          refine aw_regL ?_
          refine alP (some 4) rfl rfl (does_assign (v := .int .i64 1) (by exact rfl)) (by decide) ?_
          refine al_nil ?_
          refine hK25 _ ?_
          refine aw_ret ?_
          obtain rfl := Option.some.inj h
          exact ret_ok1 (by conv => lhs; whnf) (by conv => lhs; whnf) (by exact rfl) (.inr rfl) rfl
        · have h := ifF c24 h
          refine aw_cond_f (by decide) rfl ?_
          refine aw_skip ?_
          refine hK22 _ ?_
          refine aw_seq_k (fun K26 hK26 => ?_)
          refine aw_regL ?_
          refine alP (some 4) rfl rfl (does_assign (v := .int .i64 0) (by exact rfl)) (by decide) ?_
          refine al_nil ?_
          refine hK26 _ ?_
          refine aw_ret ?_
          obtain rfl := Option.some.inj h
          exact ret_ok1 (by conv => lhs; whnf) (by conv => lhs; whnf) (by exact rfl) (.inr rfl) rfl
def cmp_isNaN_string (a0 : ByteArray) : Option Bool :=
  some (!(ByteArray.toList a0 == ByteArray.toList a0))
set_option maxRecDepth 100000 in
set_option maxHeartbeats 8000000 in
/-- cmp.isNaN[string] -/
theorem cmp_isNaN_string_ok (a0 : ByteArray) {r : Bool} (h : cmp_isNaN_string a0 = some r) : Ok Try.prog 41 [.str a0] [] [] (.bool r) [] [] := by
  unfold cmp_isNaN_string at h
  refine ok_of_code Try.func41 rfl (by show (1 : Nat) ≤ _; decide) (Nat.le_refl _) fun X => ?_
  refine aw_seq_k (fun K1 hK1 => ?_)
  refine aw_regL ?_
  refine alP (some 2) rfl rfl (does_assign (v := .bool false) (by exact rfl)) (by decide) ?_
  refine al_nil ?_
  refine hK1 _ ?_
  refine aw_seq_k (fun K2 hK2 => ?_)
  refine aw_regL ?_
  refine alP (some 3) rfl rfl (does_move (v := .str a0) (by exact rfl)) (by decide) ?_
  refine alP (some 4) rfl rfl (does_move (v := .str a0) (by exact rfl)) (by decide) ?_
  refine alP (some 5) rfl rfl (does_bin (v := .bool (!(ByteArray.toList a0 == ByteArray.toList a0))) (by conv => lhs; whnf) (by conv => lhs; whnf) rfl) (by decide) ?_
  refine alP (some 2) rfl rfl (does_assign (v := .bool (!(ByteArray.toList a0 == ByteArray.toList a0))) (by exact rfl)) (by decide) ?_
  refine al_nil ?_
  refine hK2 _ ?_
  refine aw_ret ?_
  obtain rfl := Option.some.inj h
  exact ret_ok1 (by conv => lhs; whnf) (by conv => lhs; whnf) (by exact rfl) (.inr rfl) rfl
def cmp_Compare_string (a0 : ByteArray) (a1 : ByteArray) : Option Int :=
  Option.bind (cmp_isNaN_string a0) (fun (x3 : Bool) => Option.bind (cmp_isNaN_string a1) (fun (x5 : Bool) => if x3 = true then (if x5 = true then (some 0) else (some (-1))) else (if x5 = true then (some 1) else (if (Op.bytesLess (ByteArray.toList a0) (ByteArray.toList a1)) = true then (some (-1)) else (if (!((Op.bytesLess (ByteArray.toList a0) (ByteArray.toList a1)) || (ByteArray.toList a0 == ByteArray.toList a1))) = true then (some 1) else (some 0))))))
set_option maxRecDepth 100000 in
set_option maxHeartbeats 8000000 in
/-- cmp.Compare[string] -/
theorem cmp_Compare_string_ok (a0 : ByteArray) (a1 : ByteArray) {r : Int} (h : cmp_Compare_string a0 a1 = some r) : Ok Try.prog 28 [.str a0, .str a1] [] [] (.int .i64 r) [] [] := by
  unfold cmp_Compare_string at h
  refine ok_of_code Try.func28 rfl (by show (2 : Nat) ≤ _; decide) (Nat.le_refl _) fun X => ?_
  refine aw_seq_k (fun K1 hK1 => ?_)
  refine aw_regL ?_
  refine alP (some 4) rfl rfl (does_assign (v := .int .i64 0) (by exact rfl)) (by decide) ?_
  refine al_nil ?_
  refine hK1 _ ?_
  refine aw_seq_k (fun K2 hK2 => ?_)
  refine aw_regL ?_
  refine alP (some 7) rfl rfl (does_move (v := .str a0) (by exact rfl)) (by decide) ?_
  obtain ⟨x3, hx3, h⟩ := bnd_some h
  refine alD (some 8) rfl rfl (do_call0 8 false (cmp_isNaN_string_ok a0 hx3) rfl ent41 rfl rfl) (by decide) ?_
  refine alP (some 5) rfl rfl (does_assign (v := .bool x3) (by exact rfl)) (by decide) ?_
  refine al_nil ?_
  refine hK2 _ ?_
  refine aw_seq_k (fun K4 hK4 => ?_)
  refine aw_regL ?_
  refine alP (some 9) rfl rfl (does_move (v := .str a1) (by exact rfl)) (by decide) ?_
  obtain ⟨x5, hx5, h⟩ := bnd_some h
  refine alD (some 10) rfl rfl (do_call0 10 false (cmp_isNaN_string_ok a1 hx5) rfl ent41 rfl rfl) (by decide) ?_
  refine alP (some 6) rfl rfl (does_assign (v := .bool x5) (by exact rfl)) (by decide) ?_
  refine al_nil ?_
  refine hK4 _ ?_
  refine aw_seq_k (fun K6 hK6 => ?_)
  refine aw_seq_k (fun K7 hK7 => ?_)
  refine aw_regL ?_
  refine alP (some 11) rfl rfl (does_move (v := .bool x3) (by exact rfl)) (by decide) ?_
  refine al_nil ?_
  refine hK7 _ ?_
  refine aw_bool (b := x3) 11 rfl (fun c8 => ?_) (fun c8 => ?_)
  · have h := ifT c8 h
    refine aw_cond_t (by decide) rfl ?_
    refine aw_seq_k (fun K9 hK9 => ?_)
    refine aw_seq_k (fun K10 hK10 => ?_)
    refine aw_regL ?_
    refine alP (some 12) rfl rfl (does_move (v := .bool x5) (by exact rfl)) (by decide) ?_
    refine al_nil ?_
    refine hK10 _ ?_
    refine aw_bool (b := x5) 12 rfl (fun c11 => ?_) (fun c11 => ?_)
    · have h := ifT c11 h
      refine aw_cond_t (by decide) rfl ?_
      refine aw_seq_k (fun K12 hK12 => ?_)
      refine aw_regL ?_
      refine alP (some 4) rfl rfl (does_assign (v := .int .i64 0) (by exact rfl)) (by decide) ?_
      refine al_nil ?_
      refine hK12 _ ?_
      refine aw_ret ?_
      obtain rfl := Option.some.inj h
      exact ret_ok1 (by conv => lhs; whnf) (by conv => lhs; whnf) (by exact rfl) (.inr rfl) rfl
    · have h := ifF c11 h
      refine aw_cond_f (by decide) rfl ?_
      refine aw_skip ?_
      refine hK9 _ ?_
      refine aw_seq_k (fun K13 hK13 => ?_)
      refine aw_regL ?_
      refine alP (some 4) rfl rfl (does_assign (v := .int .i64 (-1)) (by exact rfl)) (by decide) ?_
      refine al_nil ?_
      refine hK13 _ ?_
      refine aw_ret ?_
      obtain rfl := Option.some.inj h
      exact ret_ok1 (by conv => lhs; whnf) (by conv => lhs; whnf) (by exact rfl) (.inr rfl) rfl
  · have h := ifF c8 h
    refine aw_cond_f (by decide) rfl ?_
    refine aw_skip ?_
    refine hK6 _ ?_
    refine aw_seq_k (fun K14 hK14 => ?_)
    refine aw_seq_k (fun K15 hK15 => ?_)
    refine aw_regL ?_
    refine alP (some 13) rfl rfl (does_move (v := .bool x5) (by exact rfl)) (by decide) ?_
    refine al_nil ?_
    refine hK15 _ ?_
    refine aw_bool (b := x5) 13 rfl (fun c16 => ?_) (fun c16 => ?_)
    · have h := ifT c16 h
      refine aw_cond_t (by decide) rfl ?_
      refine aw_seq_k (fun K17 hK17 => ?_)
      refine aw_regL ?_
      refine alP (some 4) rfl rfl (does_assign (v := .int .i64 1) (by exact rfl)) (by decide) ?_
      refine al_nil ?_
      refine hK17 _ ?_
      refine aw_ret ?_
      obtain rfl := Option.some.inj h
      exact ret_ok1 (by conv => lhs; whnf) (by conv => lhs; whnf) (by exact rfl) (.inr rfl) rfl
    · have h := ifF c16 h
      refine aw_cond_f (by decide) rfl ?_
      refine aw_skip ?_
      refine hK14 _ ?_
      refine aw_seq_k (fun K18 hK18 => ?_)
      refine aw_seq_k (fun K19 hK19 => ?_)
      refine aw_regL ?_
      refine alP (some 14) rfl rfl (does_move (v := .str a0) (by exact rfl)) (by decide) ?_
      refine alP (some 15) rfl rfl (does_move (v := .str a1) (by exact rfl)) (by decide) ?_
      refine alP (some 16) rfl rfl (does_bin (v := .bool (Op.bytesLess (ByteArray.toList a0) (ByteArray.toList a1))) (by conv => lhs; whnf) (by conv => lhs; whnf) rfl) (by decide) ?_
      refine al_nil ?_
      refine hK19 _ ?_
      refine aw_bool (b := (Op.bytesLess (ByteArray.toList a0) (ByteArray.toList a1))) 16 rfl (fun c20 => ?_) (fun c20 => ?_)
      · have h := ifT c20 h
        refine aw_cond_t (by decide) rfl ?_
        refine aw_seq_k (fun K21 hK21 => ?_)
        refine aw_regL ?_
        refine alP (some 4) rfl rfl (does_assign (v := .int .i64 (-1)) (by exact rfl)) (by decide) ?_
        refine al_nil ?_
        refine hK21 _ ?_
        refine aw_ret ?_
        obtain rfl := Option.some.inj h
        exact ret_ok1 (by conv => lhs; whnf) (by conv => lhs; whnf) (by exact rfl) (.inr rfl) rfl
      · have h := ifF c20 h
        refine aw_cond_f (by decide) rfl ?_
        refine aw_skip ?_
        refine hK18 _ ?_
        refine aw_seq_k (fun K22 hK22 => ?_)
        refine aw_seq_k (fun K23 hK23 => ?_)
        refine aw_regL ?_
        refine alP (some 17) rfl rfl (does_move (v := .str a0) (by exact rfl)) (by decide) ?_
        refine alP (some 18) rfl rfl (does_move (v := .str a1) (by exact rfl)) (by decide) ?_
        refine alP (some 19) rfl rfl (does_bin (v := .bool (!((Op.bytesLess (ByteArray.toList a0) (ByteArray.toList a1)) || (ByteArray.toList a0 == ByteArray.toList a1)))) (by conv => lhs; whnf) (by conv => lhs; whnf) rfl) (by decide) ?_
        refine al_nil ?_
        refine hK23 _ ?_
        refine aw_bool (b := (!((Op.bytesLess (ByteArray.toList a0) (ByteArray.toList a1)) || (ByteArray.toList a0 == ByteArray.toList a1)))) 19 rfl (fun c24 => ?_) (fun c24 => ?_)
        · have h := ifT c24 h
          refine aw_cond_t (by decide) rfl ?_
          refine aw_seq_k (fun K25 hK25 => ?_)
          refine aw_regL ?_
          refine alP (some 4) rfl rfl (does_assign (v := .int .i64 1) (by exact rfl)) (by decide) ?_
          refine al_nil ?_
          refine hK25 _ ?_
          refine aw_ret ?_
          obtain rfl := Option.some.inj h
          exact ret_ok1 (by conv => lhs; whnf) (by conv => lhs; whnf) (by exact rfl) (.inr rfl) rfl
        · have h := ifF c24 h
          refine aw_cond_f (by decide) rfl ?_
          refine aw_skip ?_
          refine hK22 _ ?_
          refine aw_seq_k (fun K26 hK26 => ?_)
          refine aw_regL ?_
          refine alP (some 4) rfl rfl (does_assign (v := .int .i64 0) (by exact rfl)) (by decide) ?_
          refine al_nil ?_
          refine hK26 _ ?_
          refine aw_ret ?_
          obtain rfl := Option.some.inj h
          exact ret_ok1 (by conv => lhs; whnf) (by conv => lhs; whnf) (by exact rfl) (.inr rfl) rfl
def cmp_Or_int_l0 (a0 : List Int) (v8_0 : Int) : Option (Int ⊕ Int) :=
  if (decide (v8_0 < (List.length a0 : Int))) = true then (gd (0 ≤ v8_0) (Option.bind (a0[(Int.toNat v8_0)]?) (fun (x13 : Int) => if (x13 != 0) = true then (some (Sum.inr x13)) else (some (Sum.inl (IntKind.i64.wrap (v8_0 + 1))))))) else (some (Sum.inr 0))
def cmp_Or_int (a0 : List Int) : Option Int :=
  loopN (fun (s : Int) => cmp_Or_int_l0 a0 s) Fu 0
set_option maxRecDepth 100000 in
set_option maxHeartbeats 8000000 in
/-- cmp.Or[int] -/
theorem cmp_Or_int_ok (a0 : List Int) {r : Int} (h : cmp_Or_int a0 = some r) : Ok Try.prog 26 [.sl 1 (List.map enc2 a0)] [] [] (.int .i64 r) [] [] := by
  unfold cmp_Or_int at h
  refine ok_of_code Try.func26 rfl (by show (1 : Nat) ≤ _; decide) (Nat.le_refl _) fun X => ?_
  refine aw_seq_k (fun K1 hK1 => ?_)
  refine aw_regL ?_
  refine alP (some 2) rfl rfl (does_assign (v := .int .i64 0) (by exact rfl)) (by decide) ?_
  refine al_nil ?_
  refine hK1 _ ?_
  refine aw_seq_k (fun K2 hK2 => ?_)
  refine aw_regL ?_
  refine alP (some 3) rfl rfl (does_assign (v := .int .i64 0) (by exact rfl)) (by decide) ?_
  refine al_nil ?_
  refine hK2 _ ?_
  refine aw_seq_k (fun K3 hK3 => ?_)
  refine aw_seq_k (fun K4 hK4 => ?_)
  refine aw_regL ?_
  refine alP (some 6) rfl rfl (does_move (v := .sl 1 (List.map enc2 a0)) (by exact rfl)) (by decide) ?_
  refine alP (some 7) rfl rfl ((does_len_sl (by conv => lhs; whnf) ty47).castp (v' := .int .i64 (List.length a0 : Int)) (by exact len_map _)) (by decide) ?_
  refine alP (some 8) rfl rfl (does_move (v := .int .i64 0) (by exact rfl)) (by decide) ?_
  refine al_nil ?_
  refine hK4 _ ?_
  refine aw_block ?_
  refine aw_loop' (fun m s => ∃ (v8_0 : Int), loopN (fun (s : Int) => cmp_Or_int_l0 a0 s) m v8_0 = some r ∧ s = lit [(3, .int .i64 0), (6, .sl 1 (List.map enc2 a0)), (7, .int .i64 (List.length a0 : Int)), (8, .int .i64 v8_0)] [] [] X) Fu
    ⟨_, reb_lit [(3, .int .i64 0), (6, .sl 1 (List.map enc2 a0)), (7, .int .i64 (List.length a0 : Int)), (8, .int .i64 (0))] [] [] [] (envOk_cons (by conv => lhs; whnf) (by exact rfl) (envOk_cons (by conv => lhs; whnf) (by exact rfl) (envOk_cons (by conv => lhs; whnf) (by exact rfl) (envOk_cons (by conv => lhs; whnf) (by exact rfl) envOk_nil)))) objOk_nil (nodup_b rfl) (nodup_b rfl) rfl rfl, 0, h, rfl⟩ ?_
  rintro m s ⟨v8_0, h, rfl⟩
  obtain ⟨m0, q5, rfl, h, hq6⟩ := loop_some h
  replace h : cmp_Or_int_l0 a0 v8_0 = some q5 := h
  unfold cmp_Or_int_l0 at h
  refine aw_seq_k (fun K7 hK7 => ?_)
  refine aw_regL ?_
  refine alP (some 9) rfl rfl (does_bin (v := .bool (decide (v8_0 < (List.length a0 : Int)))) (by conv => lhs; whnf) (by conv => lhs; whnf) rfl) (by decide) ?_
  refine al_nil ?_
  refine hK7 _ ?_
  refine aw_seq_k (fun K8 hK8 => ?_)
  refine aw_bool (b := (decide (v8_0 < (List.length a0 : Int)))) 9 rfl (fun c9 => ?_) (fun c9 => ?_)
  · have h := ifT c9 h
    refine aw_cond_t (by decide) rfl ?_
    refine aw_skip ?_
    refine hK8 _ ?_
    refine aw_seq_k (fun K10 hK10 => ?_)
    refine aw_block ?_
    refine aw_seq_k (fun K11 hK11 => ?_)
    refine aw_regL ?_
    obtain ⟨g12, h⟩ := gd_some h
    obtain ⟨x13, hx13, h⟩ := bnd_some h
    refine alP (some 10) rfl rfl (does_indexAddr_sl (el := .int .i64 x13) (by conv => lhs; whnf) (by conv => lhs; whnf) ty47 ty3 g12 (by exact map_get hx13)) (by decide) ?_
    refine alR (some 11) rfl rfl (does_load (v := .int .i64 x13) (by conv => lhs; whnf) (by conv => lhs; whnf) ty3 (by exact rfl)) (by decide) ?_
    refine alP (some 5) rfl rfl (does_assign (v := .int .i64 x13) (by exact rfl)) (by decide) ?_
    refine al_nil ?_
    refine hK11 _ ?_
    refine aw_seq_k (fun K14 hK14 => ?_)
    refine aw_regL ?_
    refine alP (some 12) rfl rfl (does_move (v := .int .i64 x13) (by exact rfl)) (by decide) ?_
    refine alP (some 13) rfl rfl (does_move (v := .int .i64 0) (by exact rfl)) (by decide) ?_
    refine alP (some 14) rfl rfl (does_bin (v := .bool (x13 != 0)) (by conv => lhs; whnf) (by conv => lhs; whnf) rfl) (by decide) ?_
    refine al_nil ?_
    refine hK14 _ ?_
    refine aw_bool (b := (x13 != 0)) 14 rfl (fun c15 => ?_) (fun c15 => ?_)
    · have h := ifT c15 h
      refine aw_cond_t (by decide) rfl ?_
      refine aw_seq_k (fun K16 hK16 => ?_)
      refine aw_regL ?_
      refine alP (some 15) rfl rfl (does_move (v := .int .i64 x13) (by exact rfl)) (by decide) ?_
      refine alP (some 2) rfl rfl (does_assign (v := .int .i64 x13) (by exact rfl)) (by decide) ?_
      refine al_nil ?_
      refine hK16 _ ?_
      refine aw_ret ?_
      have h := leafR h hq6
      obtain rfl := Option.some.inj h
      exact ret_ok1 (by conv => lhs; whnf) (by conv => lhs; whnf) (by exact rfl) (.inr rfl) rfl
    · have h := ifF c15 h
      refine aw_cond_f (by decide) rfl ?_
      refine aw_skip ?_
      refine hK10 _ ?_
      refine aw_regL ?_
      refine alP (some 16) rfl rfl (does_bin (v := .int .i64 (IntKind.i64.wrap (v8_0 + 1))) (by conv => lhs; whnf) (by conv => lhs; whnf) rfl) (by decide) ?_
      refine alP (some 8) rfl rfl (does_move (v := .int .i64 (IntKind.i64.wrap (v8_0 + 1))) (by exact rfl)) (by decide) ?_
      refine al_nil ?_
      have h := leafL h hq6
      exact ⟨m0, Nat.lt_succ_self _, _, reb_lit [(3, .int .i64 0), (6, .sl 1 (List.map enc2 a0)), (7, .int .i64 (List.length a0 : Int)), (8, .int .i64 (IntKind.i64.wrap (v8_0 + 1)))] [] [] [] (envOk_cons (by conv => lhs; whnf) (by exact rfl) (envOk_cons (by conv => lhs; whnf) (by exact rfl) (envOk_cons (by conv => lhs; whnf) (by exact rfl) (envOk_cons (by conv => lhs; whnf) (by exact rfl) envOk_nil)))) objOk_nil (nodup_b rfl) (nodup_b rfl) rfl rfl, (IntKind.i64.wrap (v8_0 + 1)), h, rfl⟩
  · have h := ifF c9 h
    refine aw_cond_f (by decide) rfl ?_
    refine aw_exit ?_
    have h := leafR h hq6
    refine hK3 _ ?_
    refine aw_seq_k (fun K17 hK17 => ?_)
    refine aw_regL ?_
    refine alP (some 17) rfl rfl (does_move (v := .int .i64 0) (by exact rfl)) (by decide) ?_
    refine alP (some 2) rfl rfl (does_assign (v := .int .i64 0) (by exact rfl)) (by decide) ?_
    refine al_nil ?_
    refine hK17 _ ?_
    refine aw_ret ?_
    obtain rfl := Option.some.inj h
    exact ret_ok1 (by conv => lhs; whnf) (by conv => lhs; whnf) (by exact rfl) (.inr rfl) rfl
def quant_compare (a0 : Busy) (a1 : Busy) : Option Int :=
  Option.bind (cmp_Compare_int a1.Count a0.Count) (fun (x3 : Int) => Option.bind (cmp_Compare_string a0.Service a1.Service) (fun (x4 : Int) => Option.bind (cmp_Compare_string a0.Op a1.Op) (fun (x5 : Int) => Option.bind (cmp_Or_int [x3, x4, x5]) (fun (x6 : Int) => some x6))))
set_option maxRecDepth 100000 in
set_option maxHeartbeats 8000000 in
/-- gleaning/quant.compare -/
theorem quant_compare_ok (a0 : Busy) (a1 : Busy) {r : Int} (h : quant_compare a0 a1 = some r) : Ok Try.prog 16 [.agg [.str a0.Service, .str a0.Op, .int .i64 a0.Count, .int .i64 a0.Errs], .agg [.str a1.Service, .str a1.Op, .int .i64 a1.Count, .int .i64 a1.Errs]] [] [] (.int .i64 r) [] [] := by
  unfold quant_compare at h
  refine ok_of_code Try.func16 rfl (by show (2 : Nat) ≤ _; decide) (Nat.le_refl _) fun X => ?_
  refine aw_seq_k (fun K1 hK1 => ?_)
  refine aw_regL ?_
  refine alD (some 2) rfl rfl (do_box (by conv => lhs; whnf) rfl rfl) (by decide) ?_
  refine alD (some 3) rfl rfl (do_box (by conv => lhs; whnf) rfl rfl) (by decide) ?_
  refine alP (some 4) rfl rfl (does_assign (v := .int .i64 0) (by exact rfl)) (by decide) ?_
  refine al_nil ?_
  refine hK1 _ ?_
  refine aw_seq_k (fun K2 hK2 => ?_)
  refine aw_regd (by kernel_rfl) (by decide +kernel) ?_
  refine aoP (some 5) rfl rfl (does_fieldAddr (q := .ptr 3 0 2) (by conv => lhs; whnf) ty34 rfl ty3 (by decide) (by exact rfl)) (by decide) ?_
  refine aoR (some 6) rfl rfl (does_load (v := .int .i64 a1.Count) (by conv => lhs; whnf) (by conv => lhs; whnf) ty3 (by exact rfl)) (by decide) ?_
  refine aoP (some 7) rfl rfl (does_fieldAddr (q := .ptr 2 0 2) (by conv => lhs; whnf) ty34 rfl ty3 (by decide) (by exact rfl)) (by decide) ?_
  refine aoR (some 8) rfl rfl (does_load (v := .int .i64 a0.Count) (by conv => lhs; whnf) (by conv => lhs; whnf) ty3 (by exact rfl)) (by decide) ?_
  obtain ⟨x3, hx3, h⟩ := bnd_some h
  refine aoD (some 9) rfl rfl (do_call0 9 false (cmp_Compare_int_ok a1.Count a0.Count hx3) rfl ent27 rfl rfl) (by decide) ?_
  refine aoP (some 10) rfl rfl (does_fieldAddr (q := .ptr 2 0 0) (by conv => lhs; whnf) ty34 rfl ty9 (by decide) (by exact rfl)) (by decide) ?_
  refine aoR (some 11) rfl rfl (does_load (v := .str a0.Service) (by conv => lhs; whnf) (by conv => lhs; whnf) ty9 (by exact rfl)) (by decide) ?_
  refine aoP (some 12) rfl rfl (does_fieldAddr (q := .ptr 3 0 0) (by conv => lhs; whnf) ty34 rfl ty9 (by decide) (by exact rfl)) (by decide) ?_
  refine aoR (some 13) rfl rfl (does_load (v := .str a1.Service) (by conv => lhs; whnf) (by conv => lhs; whnf) ty9 (by exact rfl)) (by decide) ?_
  obtain ⟨x4, hx4, h⟩ := bnd_some h
  refine aoD (some 14) rfl rfl (do_call0 14 false (cmp_Compare_string_ok a0.Service a1.Service hx4) rfl ent28 rfl rfl) (by decide) ?_
  refine aoP (some 15) rfl rfl (does_fieldAddr (q := .ptr 2 0 1) (by conv => lhs; whnf) ty34 rfl ty9 (by decide) (by exact rfl)) (by decide) ?_
  refine aoR (some 16) rfl rfl (does_load (v := .str a0.Op) (by conv => lhs; whnf) (by conv => lhs; whnf) ty9 (by exact rfl)) (by decide) ?_
  refine aoP (some 17) rfl rfl (does_fieldAddr (q := .ptr 3 0 1) (by conv => lhs; whnf) ty34 rfl ty9 (by decide) (by exact rfl)) (by decide) ?_
  refine aoR (some 18) rfl rfl (does_load (v := .str a1.Op) (by conv => lhs; whnf) (by conv => lhs; whnf) ty9 (by exact rfl)) (by decide) ?_
  obtain ⟨x5, hx5, h⟩ := bnd_some h
  refine aoD (some 19) rfl rfl (do_call0 19 false (cmp_Compare_string_ok a0.Op a1.Op hx5) rfl ent28 rfl rfl) (by decide) ?_
  refine aoD (some 20) rfl rfl (do_buildSlice (xs := List.map enc2 [x3, x4, x5]) ty47 ty3 rfl rfl rfl rfl rfl rfl rfl rfl) (by decide) ?_
  obtain ⟨x6, hx6, h⟩ := bnd_some h
  refine aoD (some 21) rfl rfl (do_callG (bcs := []) [] [] [(20, 0)] 21 false (cmp_Or_int_ok [x3, x4, x5] hx6) rfl ent26 trivial trivial rfl rfl rfl rfl rfl rfl rfl rfl (.inr ⟨rfl, rfl, trivial⟩)) (by decide) ?_
  refine aoP (some 4) rfl rfl (does_assign (v := .int .i64 x6) (by exact rfl)) (by decide) ?_
  refine ao_nil_d (by kernel_rfl) ?_
  refine hK2 _ ?_
  refine aw_ret ?_
  obtain rfl := Option.some.inj h
  exact ret_ok1 (by conv => lhs; whnf) (by conv => lhs; whnf) (by exact rfl) (.inr rfl) rfl
end Go.Proofs.Ytoecalgfdphghaa.Ab
