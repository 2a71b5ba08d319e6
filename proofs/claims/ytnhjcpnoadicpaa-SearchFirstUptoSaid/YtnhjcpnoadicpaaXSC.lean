/- Which trace is ahead. -/
import Derived.Test.YtnhjcpnoadicpaaAbCompact
import Derived.Test.YtnhjcpnoadicpaaProg
namespace Go.Proofs.Ytnhjcpnoadicpaa.Ab
open Go Go.RowKit
set_option linter.unusedVariables false
set_option linter.unusedSimpArgs false
structure Trace where
  Hi : Int
  Lo : Int
  deriving DecidableEq
def enc2 (x : Int) : PV := .int .i64 x
theorem ty3 : tyOf Try.prog 3 = some ⟨.int .i64, 1, 8, [.int .i64 0]⟩ := by kernel_rfl
theorem ty25 : tyOf Try.prog 25 = some ⟨.int .u64, 1, 8, [.int .u64 0]⟩ := by kernel_rfl
theorem ty27 : tyOf Try.prog 27 = some ⟨.struct [(0, 25), (1, 25)], 2, 16, [.int .u64 0, .int .u64 0]⟩ := by kernel_rfl
theorem ty82 : tyOf Try.prog 82 = some ⟨.slice 3, 1, 24, [.nil]⟩ := by kernel_rfl
theorem ent38 : Ent Try.prog 38 := ⟨_, Try.func38, by kernel_rfl, rfl⟩
theorem ent39 : Ent Try.prog 39 := ⟨_, Try.func39, by kernel_rfl, rfl⟩
theorem ent50 : Ent Try.prog 50 := ⟨_, Try.func50, by kernel_rfl, rfl⟩
def cmp_isNaN_uint64 (a0 : Int) : Option Bool :=
  some (a0 != a0)
set_option maxRecDepth 100000 in
set_option maxHeartbeats 8000000 in
/-- cmp.isNaN[uint64] -/
theorem cmp_isNaN_uint64_ok (a0 : Int) {r : Bool} (h : cmp_isNaN_uint64 a0 = some r) : Ok Try.prog 50 [.int .u64 a0] [] [] (.bool r) [] [] := by
  unfold cmp_isNaN_uint64 at h
  refine ok_of_code Try.func50 rfl (by show (1 : Nat) ≤ _; decide) (Nat.le_refl _) fun X => ?_
  refine aw_seq_k (fun K1 hK1 => ?_)
  refine aw_regL ?_
  refine alP (some 2) rfl rfl (does_assign (v := .bool false) (by exact rfl)) (by decide) ?_
  refine al_nil ?_
  refine hK1 _ ?_
  refine aw_seq_k (fun K2 hK2 => ?_)
  refine aw_regL ?_
  refine alP (some 3) rfl rfl (does_move (v := .int .u64 a0) (by exact rfl)) (by decide) ?_
  refine alP (some 4) rfl rfl (does_move (v := .int .u64 a0) (by exact rfl)) (by decide) ?_
  refine alP (some 5) rfl rfl (does_bin (v := .bool (a0 != a0)) (by conv => lhs; whnf) (by conv => lhs; whnf) rfl) (by decide) ?_
  refine alP (some 2) rfl rfl (does_assign (v := .bool (a0 != a0)) (by exact rfl)) (by decide) ?_
  refine al_nil ?_
  refine hK2 _ ?_
  refine aw_ret ?_
  obtain rfl := Option.some.inj h
  exact ret_ok1 (by conv => lhs; whnf) (by conv => lhs; whnf) (by exact rfl) (.inr rfl) rfl
def cmp_Compare_uint64 (a0 : Int) (a1 : Int) : Option Int :=
  Option.bind (cmp_isNaN_uint64 a0) (fun (x3 : Bool) => Option.bind (cmp_isNaN_uint64 a1) (fun (x5 : Bool) => if x3 = true then (if x5 = true then (some 0) else (some (-1))) else (if x5 = true then (some 1) else (if (decide (a0 < a1)) = true then (some (-1)) else (if (decide (a1 < a0)) = true then (some 1) else (some 0))))))
set_option maxRecDepth 100000 in
set_option maxHeartbeats 8000000 in
/-- cmp.Compare[uint64] -/
theorem cmp_Compare_uint64_ok (a0 : Int) (a1 : Int) {r : Int} (h : cmp_Compare_uint64 a0 a1 = some r) : Ok Try.prog 39 [.int .u64 a0, .int .u64 a1] [] [] (.int .i64 r) [] [] := by
  unfold cmp_Compare_uint64 at h
  refine ok_of_code Try.func39 rfl (by show (2 : Nat) ≤ _; decide) (Nat.le_refl _) fun X => ?_
  refine aw_seq_k (fun K1 hK1 => ?_)
  refine aw_regL ?_
  refine alP (some 4) rfl rfl (does_assign (v := .int .i64 0) (by exact rfl)) (by decide) ?_
  refine al_nil ?_
  refine hK1 _ ?_
  refine aw_seq_k (fun K2 hK2 => ?_)
  refine aw_regL ?_
  refine alP (some 7) rfl rfl (does_move (v := .int .u64 a0) (by exact rfl)) (by decide) ?_
  obtain ⟨x3, hx3, h⟩ := bnd_some h
  refine alD (some 8) rfl rfl (do_call0 8 false (cmp_isNaN_uint64_ok a0 hx3) rfl ent50 rfl rfl) (by decide) ?_
  refine alP (some 5) rfl rfl (does_assign (v := .bool x3) (by exact rfl)) (by decide) ?_
  refine al_nil ?_
  refine hK2 _ ?_
  refine aw_seq_k (fun K4 hK4 => ?_)
  refine aw_regL ?_
  refine alP (some 9) rfl rfl (does_move (v := .int .u64 a1) (by exact rfl)) (by decide) ?_
  obtain ⟨x5, hx5, h⟩ := bnd_some h
  refine alD (some 10) rfl rfl (do_call0 10 false (cmp_isNaN_uint64_ok a1 hx5) rfl ent50 rfl rfl) (by decide) ?_
  refine alP (some 6) rfl rfl (does_assign (v := .bool x5) (by exact rfl)) (by decide) ?_
  refine al_nil ?_
  refine hK4 _ ?_
  refine aw_seq_k (fun K6 hK6 => ?_)
  refine aw_seq_k (fun K7 hK7 => ?_)
  refine aw_regL ?_
  refine alP (some 11) rfl rfl (does_move (v := .bool x3) (by exact rfl)) (by decide) ?_
  refine al_nil ?_
  refine hK7 _ ?_
  refine aw_bool (b := x3) 11 rfl (fun c8 => ?_) (fun c8 => ?_)
  · have h := ifT c8 h
    refine aw_cond_t (by decide) rfl ?_
    refine aw_seq_k (fun K9 hK9 => ?_)
    refine aw_seq_k (fun K10 hK10 => ?_)
    refine aw_regL ?_
    refine alP (some 12) rfl rfl (does_move (v := .bool x5) (by exact rfl)) (by decide) ?_
    refine al_nil ?_
    refine hK10 _ ?_
    refine aw_bool (b := x5) 12 rfl (fun c11 => ?_) (fun c11 => ?_)
    · have h := ifT c11 h
      refine aw_cond_t (by decide) rfl ?_
      refine aw_seq_k (fun K12 hK12 => ?_)
      refine aw_regL ?_
      refine alP (some 4) rfl rfl (does_assign (v := .int .i64 0) (by exact rfl)) (by decide) ?_
      refine al_nil ?_
      refine hK12 _ ?_
      refine aw_ret ?_
      obtain rfl := Option.some.inj h
      exact ret_ok1 (by conv => lhs; whnf) (by conv => lhs; whnf) (by exact rfl) (.inr rfl) rfl
    · have h := ifF c11 h
      refine aw_cond_f (by decide) rfl ?_
      refine aw_skip ?_
      refine hK9 _ ?_
      refine aw_seq_k (fun K13 hK13 => ?_)
      refine aw_regL ?_
      refine alP (some 4) rfl rfl (does_assign (v := .int .i64 (-1)) (by exact rfl)) (by decide) ?_
      refine al_nil ?_
      refine hK13 _ ?_
      refine aw_ret ?_
      obtain rfl := Option.some.inj h
      exact ret_ok1 (by conv => lhs; whnf) (by conv => lhs; whnf) (by exact rfl) (.inr rfl) rfl
  · have h := ifF c8 h
    refine aw_cond_f (by decide) rfl ?_
    refine aw_skip ?_
    refine hK6 _ ?_
    refine aw_seq_k (fun K14 hK14 => ?_)
    refine aw_seq_k (fun K15 hK15 => ?_)
    refine aw_regL ?_
    refine alP (some 13) rfl rfl (does_move (v := .bool x5) (by exact rfl)) (by decide) ?_
    refine al_nil ?_
    refine hK15 _ ?_
    refine aw_bool (b := x5) 13 rfl (fun c16 => ?_) (fun c16 => ?_)
    · have h := ifT c16 h
      refine aw_cond_t (by decide) rfl ?_
      refine aw_seq_k (fun K17 hK17 => ?_)
      refine aw_regL ?_
      refine alP (some 4) rfl rfl (does_assign (v := .int .i64 1) (by exact rfl)) (by decide) ?_
      refine al_nil ?_
      refine hK17 _ ?_
      refine aw_ret ?_
      obtain rfl := Option.some.inj h
      exact ret_ok1 (by conv => lhs; whnf) (by conv => lhs; whnf) (by exact rfl) (.inr rfl) rfl
    · have h := ifF c16 h
      refine aw_cond_f (by decide) rfl ?_
      refine aw_skip ?_
      refine hK14 _ ?_
      refine aw_seq_k (fun K18 hK18 => ?_)
      refine aw_seq_k (fun K19 hK19 => ?_)
      refine aw_regL ?_
      refine alP (some 14) rfl rfl (does_move (v := .int .u64 a0) (by exact rfl)) (by decide) ?_
      refine alP (some 15) rfl rfl (does_move (v := .int .u64 a1) (by exact rfl)) (by decide) ?_
      refine alP (some 16) rfl rfl (does_bin (v := .bool (decide (a0 < a1))) (by conv => lhs; whnf) (by conv => lhs; whnf) rfl) (by decide) ?_
      refine al_nil ?_
      refine hK19 _ ?_
      refine aw_bool (b := (decide (a0 < a1))) 16 rfl (fun c20 => ?_) (fun c20 => ?_)
      · have h := ifT c20 h
        refine aw_cond_t (by decide) rfl ?_
        refine aw_seq_k (fun K21 hK21 => ?_)
        refine aw_regL ?_
        refine alP (some 4) rfl rfl (does_assign (v := .int .i64 (-1)) (by exact rfl)) (by decide) ?_
        refine al_nil ?_
        refine hK21 _ ?_
        refine aw_ret ?_
        obtain rfl := Option.some.inj h
        exact ret_ok1 (by conv => lhs; whnf) (by conv => lhs; whnf) (by exact rfl) (.inr rfl) rfl
      · have h := ifF c20 h
        refine aw_cond_f (by decide) rfl ?_
        refine aw_skip ?_
        refine hK18 _ ?_
        refine aw_seq_k (fun K22 hK22 => ?_)
        refine aw_seq_k (fun K23 hK23 => ?_)
        refine aw_regL ?_
        refine alP (some 17) rfl rfl (does_move (v := .int .u64 a0) (by exact rfl)) (by decide) ?_
        refine alP (some 18) rfl rfl (does_move (v := .int .u64 a1) (by exact rfl)) (by decide) ?_
        refine alP (some 19) rfl rfl (does_bin (v := .bool (decide (a1 < a0))) (by conv => lhs; whnf) (by conv => lhs; whnf) rfl) (by decide) ?_
        refine al_nil ?_
        refine hK23 _ ?_
        refine aw_bool (b := (decide (a1 < a0))) 19 rfl (fun c24 => ?_) (fun c24 => ?_)
        · have h := ifT c24 h
          refine aw_cond_t (by decide) rfl ?_
          refine aw_seq_k (fun K25 hK25 => ?_)
          refine aw_regL ?_
          refine alP (some 4) rfl rfl (does_assign (v := .int .i64 1) (by exact rfl)) (by decide) ?_
          refine al_nil ?_
          refine hK25 _ ?_
          refine aw_ret ?_
          obtain rfl := Option.some.inj h
          exact ret_ok1 (by conv => lhs; whnf) (by conv => lhs; whnf) (by exact rfl) (.inr rfl) rfl
        · have h := ifF c24 h
          refine aw_cond_f (by decide) rfl ?_
          refine aw_skip ?_
          refine hK22 _ ?_
          refine aw_seq_k (fun K26 hK26 => ?_)
          refine aw_regL ?_
          refine alP (some 4) rfl rfl (does_assign (v := .int .i64 0) (by exact rfl)) (by decide) ?_
          refine al_nil ?_
          refine hK26 _ ?_
          refine aw_ret ?_
          obtain rfl := Option.some.inj h
          exact ret_ok1 (by conv => lhs; whnf) (by conv => lhs; whnf) (by exact rfl) (.inr rfl) rfl
def cmp_Or_int_l0 (a0 : List Int) (v8_0 : Int) : Option (Int ⊕ Int) :=
  if (decide (v8_0 < (List.length a0 : Int))) = true then (gd (0 ≤ v8_0) (Option.bind (a0[(Int.toNat v8_0)]?) (fun (x13 : Int) => if (x13 != 0) = true then (some (Sum.inr x13)) else (some (Sum.inl (IntKind.i64.wrap (v8_0 + 1))))))) else (some (Sum.inr 0))
def cmp_Or_int (a0 : List Int) : Option Int :=
  loopN (fun (s : Int) => cmp_Or_int_l0 a0 s) Fu 0
set_option maxRecDepth 100000 in
set_option maxHeartbeats 8000000 in
/-- cmp.Or[int] -/
theorem cmp_Or_int_ok (a0 : List Int) {r : Int} (h : cmp_Or_int a0 = some r) : Ok Try.prog 38 [.sl 1 (List.map enc2 a0)] [] [] (.int .i64 r) [] [] := by
  unfold cmp_Or_int at h
  refine ok_of_code Try.func38 rfl (by show (1 : Nat) ≤ _; decide) (Nat.le_refl _) fun X => ?_
  refine aw_seq_k (fun K1 hK1 => ?_)
  refine aw_regL ?_
  refine alP (some 2) rfl rfl (does_assign (v := .int .i64 0) (by exact rfl)) (by decide) ?_
  refine al_nil ?_
  refine hK1 _ ?_
  refine aw_seq_k (fun K2 hK2 => ?_)
  refine aw_regL ?_
  refine alP (some 3) rfl rfl (does_assign (v := .int .i64 0) (by exact rfl)) (by decide) ?_
  refine al_nil ?_
  refine hK2 _ ?_
  refine aw_seq_k (fun K3 hK3 => ?_)
  refine aw_seq_k (fun K4 hK4 => ?_)
  refine aw_regL ?_
  refine alP (some 6) rfl rfl (does_move (v := .sl 1 (List.map enc2 a0)) (by exact rfl)) (by decide) ?_
  refine alP (some 7) rfl rfl ((does_len_sl (by conv => lhs; whnf) ty82).castp (v' := .int .i64 (List.length a0 : Int)) (by exact len_map _)) (by decide) ?_
  refine alP (some 8) rfl rfl (does_move (v := .int .i64 0) (by exact rfl)) (by decide) ?_
  refine al_nil ?_
  refine hK4 _ ?_
  refine aw_block ?_
  refine aw_loop' (fun m s => ∃ (v8_0 : Int), loopN (fun (s : Int) => cmp_Or_int_l0 a0 s) m v8_0 = some r ∧ s = lit [(3, .int .i64 0), (6, .sl 1 (List.map enc2 a0)), (7, .int .i64 (List.length a0 : Int)), (8, .int .i64 v8_0)] [] [] X) Fu
    ⟨_, reb_lit [(3, .int .i64 0), (6, .sl 1 (List.map enc2 a0)), (7, .int .i64 (List.length a0 : Int)), (8, .int .i64 (0))] [] [] [] (envOk_cons (by conv => lhs; whnf) (by exact rfl) (envOk_cons (by conv => lhs; whnf) (by exact rfl) (envOk_cons (by conv => lhs; whnf) (by exact rfl) (envOk_cons (by conv => lhs; whnf) (by exact rfl) envOk_nil)))) objOk_nil (nodup_b rfl) (nodup_b rfl) rfl rfl, 0, h, rfl⟩ ?_
  rintro m s ⟨v8_0, h, rfl⟩
  obtain ⟨m0, q5, rfl, h, hq6⟩ := loop_some h
  replace h : cmp_Or_int_l0 a0 v8_0 = some q5 := h
  unfold cmp_Or_int_l0 at h
  refine aw_seq_k (fun K7 hK7 => ?_)
  refine aw_regL ?_
  refine alP (some 9) rfl rfl (does_bin (v := .bool (decide (v8_0 < (List.length a0 : Int)))) (by conv => lhs; whnf) (by conv => lhs; whnf) rfl) (by decide) ?_
  refine al_nil ?_
  refine hK7 _ ?_
  refine aw_seq_k (fun K8 hK8 => ?_)
  refine aw_bool (b := (decide (v8_0 < (List.length a0 : Int)))) 9 rfl (fun c9 => ?_) (fun c9 => ?_)
  · have h := ifT c9 h
    refine aw_cond_t (by decide) rfl ?_
    refine aw_skip ?_
    refine hK8 _ ?_
    refine aw_seq_k (fun K10 hK10 => ?_)
    refine aw_block ?_
    refine aw_seq_k (fun K11 hK11 => ?_)
    refine aw_regL ?_
    obtain ⟨g12, h⟩ := gd_some h
    obtain ⟨x13, hx13, h⟩ := bnd_some h
    refine alP (some 10) rfl rfl (does_indexAddr_sl (el := .int .i64 x13) (by conv => lhs; whnf) (by conv => lhs; whnf) ty82 ty3 g12 (by exact map_get hx13)) (by decide) ?_
    refine alR (some 11) rfl rfl (does_load (v := .int .i64 x13) (by conv => lhs; whnf) (by conv => lhs; whnf) ty3 (by exact rfl)) (by decide) ?_
    refine alP (some 5) rfl rfl (does_assign (v := .int .i64 x13) (by exact rfl)) (by decide) ?_
    refine al_nil ?_
    refine hK11 _ ?_
    refine aw_seq_k (fun K14 hK14 => ?_)
    refine aw_regL ?_
    refine alP (some 12) rfl rfl (does_move (v := .int .i64 x13) (by exact rfl)) (by decide) ?_
    refine alP (some 13) rfl rfl (does_move (v := .int .i64 0) (by exact rfl)) (by decide) ?_
    refine alP (some 14) rfl rfl (does_bin (v := .bool (x13 != 0)) (by conv => lhs; whnf) (by conv => lhs; whnf) rfl) (by decide) ?_
    refine al_nil ?_
    refine hK14 _ ?_
    refine aw_bool (b := (x13 != 0)) 14 rfl (fun c15 => ?_) (fun c15 => ?_)
    · have h := ifT c15 h
      refine aw_cond_t (by decide) rfl ?_
      refine aw_seq_k (fun K16 hK16 => ?_)
      refine aw_regL ?_
      refine alP (some 15) rfl rfl (does_move (v := .int .i64 x13) (by exact rfl)) (by decide) ?_
      refine alP (some 2) rfl rfl (does_assign (v := .int .i64 x13) (by exact rfl)) (by decide) ?_
      refine al_nil ?_
      refine hK16 _ ?_
      refine aw_ret ?_
      have h := leafR h hq6
      obtain rfl := Option.some.inj h
      exact ret_ok1 (by conv => lhs; whnf) (by conv => lhs; whnf) (by exact rfl) (.inr rfl) rfl
    · have h := ifF c15 h
      refine aw_cond_f (by decide) rfl ?_
      refine aw_skip ?_
      refine hK10 _ ?_
      refine aw_regL ?_
      refine alP (some 16) rfl rfl (does_bin (v := .int .i64 (IntKind.i64.wrap (v8_0 + 1))) (by conv => lhs; whnf) (by conv => lhs; whnf) rfl) (by decide) ?_
      refine alP (some 8) rfl rfl (does_move (v := .int .i64 (IntKind.i64.wrap (v8_0 + 1))) (by exact rfl)) (by decide) ?_
      refine al_nil ?_
      have h := leafL h hq6
      exact ⟨m0, Nat.lt_succ_self _, _, reb_lit [(3, .int .i64 0), (6, .sl 1 (List.map enc2 a0)), (7, .int .i64 (List.length a0 : Int)), (8, .int .i64 (IntKind.i64.wrap (v8_0 + 1)))] [] [] [] (envOk_cons (by conv => lhs; whnf) (by exact rfl) (envOk_cons (by conv => lhs; whnf) (by exact rfl) (envOk_cons (by conv => lhs; whnf) (by exact rfl) (envOk_cons (by conv => lhs; whnf) (by exact rfl) envOk_nil)))) objOk_nil (nodup_b rfl) (nodup_b rfl) rfl rfl, (IntKind.i64.wrap (v8_0 + 1)), h, rfl⟩
  · have h := ifF c9 h
    refine aw_cond_f (by decide) rfl ?_
    refine aw_exit ?_
    have h := leafR h hq6
    refine hK3 _ ?_
    refine aw_seq_k (fun K17 hK17 => ?_)
    refine aw_regL ?_
    refine alP (some 17) rfl rfl (does_move (v := .int .i64 0) (by exact rfl)) (by decide) ?_
    refine alP (some 2) rfl rfl (does_assign (v := .int .i64 0) (by exact rfl)) (by decide) ?_
    refine al_nil ?_
    refine hK17 _ ?_
    refine aw_ret ?_
    obtain rfl := Option.some.inj h
    exact ret_ok1 (by conv => lhs; whnf) (by conv => lhs; whnf) (by exact rfl) (.inr rfl) rfl
def search_compare (a0 : Trace) (a1 : Trace) : Option Int :=
  Option.bind (cmp_Compare_uint64 a0.Hi a1.Hi) (fun (x3 : Int) => Option.bind (cmp_Compare_uint64 a0.Lo a1.Lo) (fun (x4 : Int) => Option.bind (cmp_Or_int [x3, x4]) (fun (x5 : Int) => some x5)))
set_option maxRecDepth 100000 in
set_option maxHeartbeats 8000000 in
/-- gleaning/search.compare -/
theorem search_compare_ok (a0 : Trace) (a1 : Trace) {r : Int} (h : search_compare a0 a1 = some r) : Ok Try.prog 33 [.agg [.int .u64 a0.Hi, .int .u64 a0.Lo], .agg [.int .u64 a1.Hi, .int .u64 a1.Lo]] [] [] (.int .i64 r) [] [] := by
  unfold search_compare at h
  refine ok_of_code Try.func33 rfl (by show (2 : Nat) ≤ _; decide) (Nat.le_refl _) fun X => ?_
  refine aw_seq_k (fun K1 hK1 => ?_)
  refine aw_regL ?_
  refine alD (some 2) rfl rfl (do_box (by conv => lhs; whnf) rfl rfl) (by decide) ?_
  refine alD (some 3) rfl rfl (do_box (by conv => lhs; whnf) rfl rfl) (by decide) ?_
  refine alP (some 4) rfl rfl (does_assign (v := .int .i64 0) (by exact rfl)) (by decide) ?_
  refine al_nil ?_
  refine hK1 _ ?_
  refine aw_seq_k (fun K2 hK2 => ?_)
  refine aw_regd (by kernel_rfl) (by decide +kernel) ?_
  refine aoP (some 5) rfl rfl (does_fieldAddr (q := .ptr 2 0 0) (by conv => lhs; whnf) ty27 rfl ty25 (by decide) (by exact rfl)) (by decide) ?_
  refine aoR (some 6) rfl rfl (does_load (v := .int .u64 a0.Hi) (by conv => lhs; whnf) (by conv => lhs; whnf) ty25 (by exact rfl)) (by decide) ?_
  refine aoP (some 7) rfl rfl (does_fieldAddr (q := .ptr 3 0 0) (by conv => lhs; whnf) ty27 rfl ty25 (by decide) (by exact rfl)) (by decide) ?_
  refine aoR (some 8) rfl rfl (does_load (v := .int .u64 a1.Hi) (by conv => lhs; whnf) (by conv => lhs; whnf) ty25 (by exact rfl)) (by decide) ?_
  obtain ⟨x3, hx3, h⟩ := bnd_some h
  refine aoD (some 9) rfl rfl (do_call0 9 false (cmp_Compare_uint64_ok a0.Hi a1.Hi hx3) rfl ent39 rfl rfl) (by decide) ?_
  refine aoP (some 10) rfl rfl (does_fieldAddr (q := .ptr 2 0 1) (by conv => lhs; whnf) ty27 rfl ty25 (by decide) (by exact rfl)) (by decide) ?_
  refine aoR (some 11) rfl rfl (does_load (v := .int .u64 a0.Lo) (by conv => lhs; whnf) (by conv => lhs; whnf) ty25 (by exact rfl)) (by decide) ?_
  refine aoP (some 12) rfl rfl (does_fieldAddr (q := .ptr 3 0 1) (by conv => lhs; whnf) ty27 rfl ty25 (by decide) (by exact rfl)) (by decide) ?_
  refine aoR (some 13) rfl rfl (does_load (v := .int .u64 a1.Lo) (by conv => lhs; whnf) (by conv => lhs; whnf) ty25 (by exact rfl)) (by decide) ?_
  obtain ⟨x4, hx4, h⟩ := bnd_some h
  refine aoD (some 14) rfl rfl (do_call0 14 false (cmp_Compare_uint64_ok a0.Lo a1.Lo hx4) rfl ent39 rfl rfl) (by decide) ?_
  refine aoD (some 15) rfl rfl (do_buildSlice (xs := List.map enc2 [x3, x4]) ty82 ty3 rfl rfl rfl rfl rfl rfl rfl rfl) (by decide) ?_
  obtain ⟨x5, hx5, h⟩ := bnd_some h
  refine aoD (some 16) rfl rfl (do_callG (bcs := []) [] [] [(15, 0)] 16 false (cmp_Or_int_ok [x3, x4] hx5) rfl ent38 trivial trivial rfl rfl rfl rfl rfl rfl rfl rfl (.inr ⟨rfl, rfl, trivial⟩)) (by decide) ?_
  refine aoP (some 4) rfl rfl (does_assign (v := .int .i64 x5) (by exact rfl)) (by decide) ?_
  refine ao_nil_d (by kernel_rfl) ?_
  refine hK2 _ ?_
  refine aw_ret ?_
  obtain rfl := Option.some.inj h
  exact ret_ok1 (by conv => lhs; whnf) (by conv => lhs; whnf) (by exact rfl) (.inr rfl) rfl
end Go.Proofs.Ytnhjcpnoadicpaa.Ab
