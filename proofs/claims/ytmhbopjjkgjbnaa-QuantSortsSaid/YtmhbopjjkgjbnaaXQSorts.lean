/- Chapter 31: a quantile of sorted ones. -/
import Derived.Test.YtmhbopjjkgjbnaaXQ
import Derived.Test.YtmhbopjjkgjbnaaProg
namespace Go.Proofs.Ytmhbopjjkgjbnaa.Ab
open Go Go.RowKit
set_option linter.unusedVariables false
set_option linter.unusedSimpArgs false
structure Attr where
  Key : ByteArray
  Value : ByteArray
  deriving DecidableEq
def enc69 (x : Attr) : PV := .agg [.str x.Key, .str x.Value]
structure Trace where
  Hi : Int
  Lo : Int
  deriving DecidableEq
structure Span where
  Trace : Trace
  Id : Int
  Parent : Int
  Service : ByteArray
  Op : ByteArray
  Start : Int
  Dur : Int
  Err : Bool
  Attrs : List Attr
  deriving DecidableEq
theorem ty35 : tyOf Try.prog 35 = some ⟨.struct [(0, 33), (1, 33)], 2, 16, [.int .u64 0, .int .u64 0]⟩ := by kernel_rfl
theorem ty36 : tyOf Try.prog 36 = some ⟨.slice 70, 1, 24, [.nil]⟩ := by kernel_rfl
theorem ty38 : tyOf Try.prog 38 = some ⟨.struct [(0, 35), (2, 33), (3, 33), (4, 9), (5, 9), (6, 3), (7, 3), (8, 4), (9, 36)], 10, 112, [.int .u64 0, .int .u64 0, .int .u64 0, .int .u64 0, .str ByteArray.empty, .str ByteArray.empty, .int .i64 0, .int .i64 0, .bool false, .nil]⟩ := by kernel_rfl
theorem ent13 : Ent Try.prog 13 := ⟨_, Try.func13, by kernel_rfl, rfl⟩
theorem ent14 : Ent Try.prog 14 := ⟨_, Try.func14, by kernel_rfl, rfl⟩
theorem ent22 : Ent Try.prog 22 := ⟨_, Try.func22, by kernel_rfl, rfl⟩
theorem ent25 : Ent Try.prog 25 := ⟨_, Try.func25, by kernel_rfl, rfl⟩
def gleaningref1_Of_l0 (a0 : Int) (v4_0 : Int) (v5_0 : Int) : Option ((Int × Int) ⊕ Int) :=
  if (decide (v5_0 < (List.length [1, 5, 10, 50, 100, 500, 1000] : Int))) = true then (gd (0 ≤ v5_0) (Option.bind ([1, 5, 10, 50, 100, 500, 1000][(Int.toNat v5_0)]?) (fun (x14 : Int) => if (decide (x14 ≤ a0)) = true then (some (Sum.inl ((IntKind.i64.wrap (v4_0 + 1)), (IntKind.i64.wrap (v5_0 + 1))))) else (some (Sum.inl (v4_0, (IntKind.i64.wrap (v5_0 + 1)))))))) else (some (Sum.inr v4_0))
def gleaningref1_Of (a0 : Int) : Option Int :=
  loopN (fun (s : Int × Int) => gleaningref1_Of_l0 a0 s.1 s.2) Fu (0, 0)
set_option maxRecDepth 100000 in
set_option maxHeartbeats 8000000 in
/-- gleaning/gleaningref1.Of -/
theorem gleaningref1_Of_ok (a0 : Int) {r : Int} (h : gleaningref1_Of a0 = some r) : Ok Try.prog 14 [.int .i64 a0] [] [] (.int .i64 r) [] [] := by
  unfold gleaningref1_Of at h
  refine ok_of_code Try.func14 rfl (by show (1 : Nat) ≤ _; decide) (Nat.le_refl _) fun X => ?_
  refine aw_seq_k (fun K1 hK1 => ?_)
  refine aw_regL ?_
  refine alP (some 2) rfl rfl (does_assign (v := .int .i64 0) (by exact rfl)) (by decide) ?_
  refine al_nil ?_
  refine hK1 _ ?_
  refine aw_seq_k (fun K2 hK2 => ?_)
  refine aw_regL ?_
  refine alD (some 6) rfl rfl (do_buildSlice (xs := List.map enc2 [1, 5, 10, 50, 100, 500, 1000]) ty31 ty3 rfl rfl rfl rfl rfl rfl rfl rfl) (by decide) ?_
  refine alP (some 3) rfl rfl (does_assign (v := .own 6 0) (by exact rfl)) (by decide) ?_
  refine al_nil ?_
  refine hK2 _ ?_
  refine aw_seq_k (fun K3 hK3 => ?_)
  refine aw_regL ?_
  refine alP (some 4) rfl rfl (does_assign (v := .int .i64 0) (by exact rfl)) (by decide) ?_
  refine al_nil ?_
  refine hK3 _ ?_
  refine aw_seq_k (fun K4 hK4 => ?_)
  refine aw_seq_k (fun K5 hK5 => ?_)
  refine aw_regL ?_
  refine alP (some 5) rfl rfl (does_assign (v := .int .i64 0) (by exact rfl)) (by decide) ?_
  refine al_nil ?_
  refine hK5 _ ?_
  refine aw_block ?_
  refine aw_loop' (fun m s => ∃ (v4_0 : Int), ∃ (v5_0 : Int), loopN (fun (s : Int × Int) => gleaningref1_Of_l0 a0 s.1 s.2) m (v4_0, v5_0) = some r ∧ s = lit [(0, .int .i64 a0), (3, .own 6 0), (4, .int .i64 v4_0), (5, .int .i64 v5_0)] [((6, 0), .arr 3 1 false (List.map enc2 [1, 5, 10, 50, 100, 500, 1000]))] [(6, 1)] X) Fu
    ⟨_, reb_lit [(0, .int .i64 a0), (3, .own 6 0), (4, .int .i64 (0)), (5, .int .i64 (0))] [(6, 0)] [((6, 0), .arr 3 1 false (List.map enc2 [1, 5, 10, 50, 100, 500, 1000]))] [(6, 1)] (envOk_cons (by conv => lhs; whnf) (by exact rfl) (envOk_cons (by conv => lhs; whnf) (by exact rfl) (envOk_cons (by conv => lhs; whnf) (by exact rfl) (envOk_cons (by conv => lhs; whnf) (by exact rfl) envOk_nil)))) (objOk_cons (by conv => lhs; whnf) (by conv => lhs; whnf) (by exact rfl) (by simp) objOk_nil) (nodup_b rfl) (nodup_b rfl) rfl rfl, 0, 0, h, rfl⟩ ?_
  rintro m s ⟨v4_0, v5_0, h, rfl⟩
  obtain ⟨m0, q6, rfl, h, hq7⟩ := loop_some h
  replace h : gleaningref1_Of_l0 a0 v4_0 v5_0 = some q6 := h
  unfold gleaningref1_Of_l0 at h
  refine aw_seq_k (fun K8 hK8 => ?_)
  refine aw_seq_k (fun K9 hK9 => ?_)
  refine aw_regL ?_
  refine alP (some 7) rfl rfl (does_move (v := .int .i64 v5_0) (by exact rfl)) (by decide) ?_
  refine alP (some 8) rfl rfl (does_move (v := .own 6 0) (by exact rfl)) (by decide) ?_
  refine alR (some 9) rfl rfl ((does_len_own (by conv => lhs; whnf) (by conv => lhs; whnf) ty31).cast (v' := .int .i64 (List.length [1, 5, 10, 50, 100, 500, 1000] : Int)) (by exact len_map _)) (by decide) ?_
  refine alP (some 10) rfl rfl (does_bin (v := .bool (decide (v5_0 < (List.length [1, 5, 10, 50, 100, 500, 1000] : Int)))) (by conv => lhs; whnf) (by conv => lhs; whnf) rfl) (by decide) ?_
  refine al_nil ?_
  refine hK9 _ ?_
  refine aw_bool (b := (decide (v5_0 < (List.length [1, 5, 10, 50, 100, 500, 1000] : Int)))) 10 rfl (fun c10 => ?_) (fun c10 => ?_)
  · have h := ifT c10 h
    refine aw_cond_t (by decide) rfl ?_
    refine aw_skip ?_
    refine hK8 _ ?_
    refine aw_seq_k (fun K11 hK11 => ?_)
    refine aw_block ?_
    refine aw_seq_k (fun K12 hK12 => ?_)
    refine aw_regL ?_
    refine alP (some 13) rfl rfl (does_move (v := .own 6 0) (by exact rfl)) (by decide) ?_
    refine alP (some 14) rfl rfl (does_move (v := .int .i64 v5_0) (by exact rfl)) (by decide) ?_
    obtain ⟨g13, h⟩ := gd_some h
    obtain ⟨x14, hx14, h⟩ := bnd_some h
    refine alR (some 15) rfl rfl (does_indexAddr_own (by conv => lhs; whnf) (by conv => lhs; whnf) (by conv => lhs; whnf) ty31 ty3 g13 (by exact own_lt hx14)) (by decide) ?_
    refine alR (some 16) rfl rfl (does_load (v := .int .i64 x14) (by conv => lhs; whnf) (cellsAt_eptr (by conv => lhs; whnf) (by exact map_get hx14)) ty3 (by exact rfl)) (by decide) ?_
    refine alP (some 17) rfl rfl (does_move (v := .int .i64 a0) (by exact rfl)) (by decide) ?_
    refine alP (some 18) rfl rfl (does_bin (v := .bool (decide (x14 ≤ a0))) (by conv => lhs; whnf) (by conv => lhs; whnf) rfl) (by decide) ?_
    refine al_nil ?_
    refine hK12 _ ?_
    refine aw_bool (b := (decide (x14 ≤ a0))) 18 rfl (fun c15 => ?_) (fun c15 => ?_)
    · have h := ifT c15 h
      refine aw_cond_t (by decide) rfl ?_
      refine aw_regL ?_
      refine alP (some 19) rfl rfl (does_move (v := .int .i64 v4_0) (by exact rfl)) (by decide) ?_
      refine alP (some 20) rfl rfl (does_bin (v := .int .i64 (IntKind.i64.wrap (v4_0 + 1))) (by conv => lhs; whnf) (by conv => lhs; whnf) rfl) (by decide) ?_
      refine alP (some 4) rfl rfl (does_assign (v := .int .i64 (IntKind.i64.wrap (v4_0 + 1))) (by exact rfl)) (by decide) ?_
      refine al_nil ?_
      refine hK11 _ ?_
      refine aw_regL ?_
      refine alP (some 11) rfl rfl (does_move (v := .int .i64 v5_0) (by exact rfl)) (by decide) ?_
      refine alP (some 12) rfl rfl (does_bin (v := .int .i64 (IntKind.i64.wrap (v5_0 + 1))) (by conv => lhs; whnf) (by conv => lhs; whnf) rfl) (by decide) ?_
      refine alP (some 5) rfl rfl (does_assign (v := .int .i64 (IntKind.i64.wrap (v5_0 + 1))) (by exact rfl)) (by decide) ?_
      refine al_nil ?_
      have h := leafL h hq7
      exact ⟨m0, Nat.lt_succ_self _, _, reb_lit [(0, .int .i64 a0), (3, .own 6 0), (4, .int .i64 (IntKind.i64.wrap (v4_0 + 1))), (5, .int .i64 (IntKind.i64.wrap (v5_0 + 1)))] [(6, 0)] [((6, 0), .arr 3 1 false (List.map enc2 [1, 5, 10, 50, 100, 500, 1000]))] [(6, 1)] (envOk_cons (by conv => lhs; whnf) (by exact rfl) (envOk_cons (by conv => lhs; whnf) (by exact rfl) (envOk_cons (by conv => lhs; whnf) (by exact rfl) (envOk_cons (by conv => lhs; whnf) (by exact rfl) envOk_nil)))) (objOk_cons (by conv => lhs; whnf) (by conv => lhs; whnf) (by exact rfl) (by simp) objOk_nil) (nodup_b rfl) (nodup_b rfl) rfl rfl, (IntKind.i64.wrap (v4_0 + 1)), (IntKind.i64.wrap (v5_0 + 1)), h, rfl⟩
    · have h := ifF c15 h
      refine aw_cond_f (by decide) rfl ?_
      refine aw_skip ?_
      refine hK11 _ ?_
      refine aw_regL ?_
      refine alP (some 11) rfl rfl (does_move (v := .int .i64 v5_0) (by exact rfl)) (by decide) ?_
      refine alP (some 12) rfl rfl (does_bin (v := .int .i64 (IntKind.i64.wrap (v5_0 + 1))) (by conv => lhs; whnf) (by conv => lhs; whnf) rfl) (by decide) ?_
      refine alP (some 5) rfl rfl (does_assign (v := .int .i64 (IntKind.i64.wrap (v5_0 + 1))) (by exact rfl)) (by decide) ?_
      refine al_nil ?_
      have h := leafL h hq7
      exact ⟨m0, Nat.lt_succ_self _, _, reb_lit [(0, .int .i64 a0), (3, .own 6 0), (4, .int .i64 v4_0), (5, .int .i64 (IntKind.i64.wrap (v5_0 + 1)))] [(6, 0)] [((6, 0), .arr 3 1 false (List.map enc2 [1, 5, 10, 50, 100, 500, 1000]))] [(6, 1)] (envOk_cons (by conv => lhs; whnf) (by exact rfl) (envOk_cons (by conv => lhs; whnf) (by exact rfl) (envOk_cons (by conv => lhs; whnf) (by exact rfl) (envOk_cons (by conv => lhs; whnf) (by exact rfl) envOk_nil)))) (objOk_cons (by conv => lhs; whnf) (by conv => lhs; whnf) (by exact rfl) (by simp) objOk_nil) (nodup_b rfl) (nodup_b rfl) rfl rfl, v4_0, (IntKind.i64.wrap (v5_0 + 1)), h, rfl⟩
  · have h := ifF c10 h
    refine aw_cond_f (by decide) rfl ?_
    refine aw_exit ?_
    have h := leafR h hq7
    refine hK4 _ ?_
    refine aw_seq_k (fun K16 hK16 => ?_)
    refine aw_regL ?_
    refine alP (some 21) rfl rfl (does_move (v := .int .i64 v4_0) (by exact rfl)) (by decide) ?_
    refine alP (some 2) rfl rfl (does_assign (v := .int .i64 v4_0) (by exact rfl)) (by decide) ?_
    refine al_nil ?_
    refine hK16 _ ?_
    refine aw_ret ?_
    obtain rfl := Option.some.inj h
    exact ret_ok1 (by conv => lhs; whnf) (by conv => lhs; whnf) (by exact rfl) (.inr rfl) rfl
def gleaningref1_sum (a0 : Int) (a1 : Int) (a2 : Int) : Option Int :=
  Option.bind (gleaningref1_Cap a2 0 9223372036854775807) (fun (x3 : Int) => Option.bind (gleaningref1_Cap a0 0 x3) (fun (x5 : Int) => Option.bind (gleaningref1_Cap a1 0 x3) (fun (x7 : Int) => if (decide ((IntKind.i64.wrap (x3 - x5)) < x7)) = true then (some x3) else (some (IntKind.i64.wrap (x5 + x7))))))
set_option maxRecDepth 100000 in
set_option maxHeartbeats 8000000 in
/-- gleaning/gleaningref1.sum -/
theorem gleaningref1_sum_ok (a0 : Int) (a1 : Int) (a2 : Int) {r : Int} (h : gleaningref1_sum a0 a1 a2 = some r) : Ok Try.prog 25 [.int .i64 a0, .int .i64 a1, .int .i64 a2] [] [] (.int .i64 r) [] [] := by
  unfold gleaningref1_sum at h
  refine ok_of_code Try.func25 rfl (by show (3 : Nat) ≤ _; decide) (Nat.le_refl _) fun X => ?_
  refine aw_seq_k (fun K1 hK1 => ?_)
  refine aw_regL ?_
  refine alP (some 6) rfl rfl (does_assign (v := .int .i64 0) (by exact rfl)) (by decide) ?_
  refine al_nil ?_
  refine hK1 _ ?_
  refine aw_seq_k (fun K2 hK2 => ?_)
  refine aw_regL ?_
  refine alP (some 8) rfl rfl (does_move (v := .int .i64 a2) (by exact rfl)) (by decide) ?_
  obtain ⟨x3, hx3, h⟩ := bnd_some h
  refine alD (some 9) rfl rfl (do_call0 9 false (gleaningref1_Cap_ok a2 0 9223372036854775807 hx3) rfl ent21 rfl rfl) (by decide) ?_
  refine alP (some 7) rfl rfl (does_assign (v := .int .i64 x3) (by exact rfl)) (by decide) ?_
  refine al_nil ?_
  refine hK2 _ ?_
  refine aw_seq_k (fun K4 hK4 => ?_)
  refine aw_regL ?_
  refine alP (some 10) rfl rfl (does_move (v := .int .i64 a0) (by exact rfl)) (by decide) ?_
  refine alP (some 11) rfl rfl (does_move (v := .int .i64 x3) (by exact rfl)) (by decide) ?_
  obtain ⟨x5, hx5, h⟩ := bnd_some h
  refine alD (some 12) rfl rfl (do_call0 12 false (gleaningref1_Cap_ok a0 0 x3 hx5) rfl ent21 rfl rfl) (by decide) ?_
  refine alP (some 0) rfl rfl (does_assign (v := .int .i64 x5) (by exact rfl)) (by decide) ?_
  refine al_nil ?_
  refine hK4 _ ?_
  refine aw_seq_k (fun K6 hK6 => ?_)
  refine aw_regL ?_
  refine alP (some 13) rfl rfl (does_move (v := .int .i64 a1) (by exact rfl)) (by decide) ?_
  refine alP (some 14) rfl rfl (does_move (v := .int .i64 x3) (by exact rfl)) (by decide) ?_
  obtain ⟨x7, hx7, h⟩ := bnd_some h
  refine alD (some 15) rfl rfl (do_call0 15 false (gleaningref1_Cap_ok a1 0 x3 hx7) rfl ent21 rfl rfl) (by decide) ?_
  refine alP (some 1) rfl rfl (does_assign (v := .int .i64 x7) (by exact rfl)) (by decide) ?_
  refine al_nil ?_
  refine hK6 _ ?_
  refine aw_seq_k (fun K8 hK8 => ?_)
  refine aw_seq_k (fun K9 hK9 => ?_)
  refine aw_regL ?_
  refine alP (some 16) rfl rfl (does_move (v := .int .i64 x7) (by exact rfl)) (by decide) ?_
  refine alP (some 17) rfl rfl (does_move (v := .int .i64 x3) (by exact rfl)) (by decide) ?_
  refine alP (some 18) rfl rfl (does_move (v := .int .i64 x5) (by exact rfl)) (by decide) ?_
  refine alP (some 19) rfl rfl (does_bin (v := .int .i64 (IntKind.i64.wrap (x3 - x5))) (by conv => lhs; whnf) (by conv => lhs; whnf) rfl) (by decide) ?_
  refine alP (some 20) rfl rfl (does_bin (v := .bool (decide ((IntKind.i64.wrap (x3 - x5)) < x7))) (by conv => lhs; whnf) (by conv => lhs; whnf) rfl) (by decide) ?_
  refine al_nil ?_
  refine hK9 _ ?_
  refine aw_bool (b := (decide ((IntKind.i64.wrap (x3 - x5)) < x7))) 20 rfl (fun c10 => ?_) (fun c10 => ?_)
  · have h := ifT c10 h
    refine aw_cond_t (by decide) rfl ?_
    refine aw_seq_k (fun K11 hK11 => ?_)
    refine aw_regL ?_
    refine alP (some 21) rfl rfl (does_move (v := .int .i64 x3) (by exact rfl)) (by decide) ?_
    refine alP (some 6) rfl rfl (does_assign (v := .int .i64 x3) (by exact rfl)) (by decide) ?_
    refine al_nil ?_
    refine hK11 _ ?_
    refine aw_ret ?_
    obtain rfl := Option.some.inj h
    exact ret_ok1 (by conv => lhs; whnf) (by conv => lhs; whnf) (by exact rfl) (.inr rfl) rfl
  · have h := ifF c10 h
    refine aw_cond_f (by decide) rfl ?_
    refine aw_skip ?_
    refine hK8 _ ?_
    refine aw_seq_k (fun K12 hK12 => ?_)
    refine aw_regL ?_
    refine alP (some 22) rfl rfl (does_move (v := .int .i64 x5) (by exact rfl)) (by decide) ?_
    refine alP (some 23) rfl rfl (does_move (v := .int .i64 x7) (by exact rfl)) (by decide) ?_
    refine alP (some 24) rfl rfl (does_bin (v := .int .i64 (IntKind.i64.wrap (x5 + x7))) (by conv => lhs; whnf) (by conv => lhs; whnf) rfl) (by decide) ?_
    refine alP (some 6) rfl rfl (does_assign (v := .int .i64 (IntKind.i64.wrap (x5 + x7))) (by exact rfl)) (by decide) ?_
    refine al_nil ?_
    refine hK12 _ ?_
    refine aw_ret ?_
    obtain rfl := Option.some.inj h
    exact ret_ok1 (by conv => lhs; whnf) (by conv => lhs; whnf) (by exact rfl) (.inr rfl) rfl
def gleaningref1_JoinCounter_l0 (a0 : Counter) (a1 : Counter) (a2 : Int) (x3 : Int) (x4 : Int) (v7_s_2_0 : Int) (v7_s_3_0 : Int) (v7_s_4_0 : Int) (v7_s_5_0 : Int) (v7_s_6_0 : Int) (v7_s_7_0 : Int) (v7_s_8_0 : Int) (v7_s_9_0 : Int) (v8_0 : Int) : Option ((Int × Int × Int × Int × Int × Int × Int × Int × Int) ⊕ Counter) :=
  if (decide (v8_0 < 8)) = true then (gd (0 ≤ v8_0) (gd (v8_0 < 8) (Option.bind (([a0.By.c0, a0.By.c1, a0.By.c2, a0.By.c3, a0.By.c4, a0.By.c5, a0.By.c6, a0.By.c7] : List Int)[(Int.toNat v8_0)]?) (fun (x15 : Int) => gd (0 ≤ v8_0) (gd (v8_0 < 8) (Option.bind (([a1.By.c0, a1.By.c1, a1.By.c2, a1.By.c3, a1.By.c4, a1.By.c5, a1.By.c6, a1.By.c7] : List Int)[(Int.toNat v8_0)]?) (fun (x18 : Int) => Option.bind (gleaningref1_sum x15 x18 a2) (fun (x19 : Int) => gd (0 ≤ v8_0) (gd (v8_0 < 8) (Option.bind (([v7_s_2_0, v7_s_3_0, v7_s_4_0, v7_s_5_0, v7_s_6_0, v7_s_7_0, v7_s_8_0, v7_s_9_0] : List Int)[(Int.toNat v8_0)]?) (fun (x22 : Int) => Option.bind (some (List.set ([v7_s_2_0, v7_s_3_0, v7_s_4_0, v7_s_5_0, v7_s_6_0, v7_s_7_0, v7_s_8_0, v7_s_9_0] : List Int) (Int.toNat v8_0) x19)) (fun (x23 : List Int) => some (Sum.inl ((x23.getD 0 0), (x23.getD 1 0), (x23.getD 2 0), (x23.getD 3 0), (x23.getD 4 0), (x23.getD 5 0), (x23.getD 6 0), (x23.getD 7 0), (IntKind.i64.wrap (v8_0 + 1)))))))))))))))) else (some (Sum.inr (Counter.mk x3 x4 (Arr8_Int.mk v7_s_2_0 v7_s_3_0 v7_s_4_0 v7_s_5_0 v7_s_6_0 v7_s_7_0 v7_s_8_0 v7_s_9_0))))
def gleaningref1_JoinCounter (a0 : Counter) (a1 : Counter) (a2 : Int) : Option Counter :=
  Option.bind (gleaningref1_sum a0.Count a1.Count a2) (fun (x3 : Int) => Option.bind (gleaningref1_sum a0.Errs a1.Errs a2) (fun (x4 : Int) => loopN (fun (s : Int × Int × Int × Int × Int × Int × Int × Int × Int) => gleaningref1_JoinCounter_l0 a0 a1 a2 x3 x4 s.1 s.2.1 s.2.2.1 s.2.2.2.1 s.2.2.2.2.1 s.2.2.2.2.2.1 s.2.2.2.2.2.2.1 s.2.2.2.2.2.2.2.1 s.2.2.2.2.2.2.2.2) Fu (0, 0, 0, 0, 0, 0, 0, 0, 0)))
set_option maxRecDepth 100000 in
set_option maxHeartbeats 8000000 in
/-- gleaning/gleaningref1.JoinCounter -/
theorem gleaningref1_JoinCounter_ok (a0 : Counter) (a1 : Counter) (a2 : Int) {r : Counter} (h : gleaningref1_JoinCounter a0 a1 a2 = some r) : Ok Try.prog 22 [.agg [.int .i64 a0.Count, .int .i64 a0.Errs, .int .i64 a0.By.c0, .int .i64 a0.By.c1, .int .i64 a0.By.c2, .int .i64 a0.By.c3, .int .i64 a0.By.c4, .int .i64 a0.By.c5, .int .i64 a0.By.c6, .int .i64 a0.By.c7], .agg [.int .i64 a1.Count, .int .i64 a1.Errs, .int .i64 a1.By.c0, .int .i64 a1.By.c1, .int .i64 a1.By.c2, .int .i64 a1.By.c3, .int .i64 a1.By.c4, .int .i64 a1.By.c5, .int .i64 a1.By.c6, .int .i64 a1.By.c7], .int .i64 a2] [] [] (.agg [.int .i64 r.Count, .int .i64 r.Errs, .int .i64 r.By.c0, .int .i64 r.By.c1, .int .i64 r.By.c2, .int .i64 r.By.c3, .int .i64 r.By.c4, .int .i64 r.By.c5, .int .i64 r.By.c6, .int .i64 r.By.c7]) [] [] := by
  unfold gleaningref1_JoinCounter at h
  refine ok_of_code Try.func22 rfl (by show (3 : Nat) ≤ _; decide) (Nat.le_refl _) fun X => ?_
  refine aw_seq_k (fun K1 hK1 => ?_)
  refine aw_regL ?_
  refine alD (some 3) rfl rfl (do_box (by conv => lhs; whnf) rfl rfl) (by decide) ?_
  refine alD (some 4) rfl rfl (do_box (by conv => lhs; whnf) rfl rfl) (by decide) ?_
  refine alD (some 6) rfl rfl (do_new ty24 rfl rfl) (by decide) ?_
  refine al_nil ?_
  refine hK1 _ ?_
  refine aw_seq_k (fun K2 hK2 => ?_)
  refine aw_regd (by kernel_rfl) (by decide +kernel) ?_
  refine aoP (some 9) rfl rfl (does_fieldAddr (q := .ptr 3 0 0) (by conv => lhs; whnf) ty24 rfl ty3 (by decide) (by exact rfl)) (by decide) ?_
  refine aoR (some 10) rfl rfl (does_load (v := .int .i64 a0.Count) (by conv => lhs; whnf) (by conv => lhs; whnf) ty3 (by exact rfl)) (by decide) ?_
  refine aoP (some 11) rfl rfl (does_fieldAddr (q := .ptr 4 0 0) (by conv => lhs; whnf) ty24 rfl ty3 (by decide) (by exact rfl)) (by decide) ?_
  refine aoR (some 12) rfl rfl (does_load (v := .int .i64 a1.Count) (by conv => lhs; whnf) (by conv => lhs; whnf) ty3 (by exact rfl)) (by decide) ?_
  refine aoP (some 13) rfl rfl (does_move (v := .int .i64 a2) (by exact rfl)) (by decide) ?_
  obtain ⟨x3, hx3, h⟩ := bnd_some h
  refine aoD (some 14) rfl rfl (do_call0 14 false (gleaningref1_sum_ok a0.Count a1.Count a2 hx3) rfl ent25 rfl rfl) (by decide) ?_
  refine aoP (some 15) rfl rfl (does_fieldAddr (q := .ptr 3 0 1) (by conv => lhs; whnf) ty24 rfl ty3 (by decide) (by exact rfl)) (by decide) ?_
  refine aoR (some 16) rfl rfl (does_load (v := .int .i64 a0.Errs) (by conv => lhs; whnf) (by conv => lhs; whnf) ty3 (by exact rfl)) (by decide) ?_
  refine aoP (some 17) rfl rfl (does_fieldAddr (q := .ptr 4 0 1) (by conv => lhs; whnf) ty24 rfl ty3 (by decide) (by exact rfl)) (by decide) ?_
  refine aoR (some 18) rfl rfl (does_load (v := .int .i64 a1.Errs) (by conv => lhs; whnf) (by conv => lhs; whnf) ty3 (by exact rfl)) (by decide) ?_
  refine aoP (some 19) rfl rfl (does_move (v := .int .i64 a2) (by exact rfl)) (by decide) ?_
  obtain ⟨x4, hx4, h⟩ := bnd_some h
  refine aoD (some 20) rfl rfl (do_call0 20 false (gleaningref1_sum_ok a0.Errs a1.Errs a2 hx4) rfl ent25 rfl rfl) (by decide) ?_
  refine aoP (some 21) rfl rfl (do_build_struct (cs := [.int .i64 x3, .int .i64 x4, .int .i64 0, .int .i64 0, .int .i64 0, .int .i64 0, .int .i64 0, .int .i64 0, .int .i64 0, .int .i64 0]) ty24 rfl [⟨.int .i64, 1, 8, [.int .i64 0]⟩, ⟨.int .i64, 1, 8, [.int .i64 0]⟩, ⟨.arr 8 3, 8, 64, [.int .i64 0, .int .i64 0, .int .i64 0, .int .i64 0, .int .i64 0, .int .i64 0, .int .i64 0, .int .i64 0]⟩] (by simp only [List.map, ty22, ty3]) (by rfl) (by exact rfl)) (by decide) ?_
  refine aoD (some 7) rfl rfl (do_new ty24 rfl rfl) (by decide) ?_
  refine aoD none rfl rfl (do_store (cs' := [.int .i64 x3, .int .i64 x4, .int .i64 0, .int .i64 0, .int .i64 0, .int .i64 0, .int .i64 0, .int .i64 0, .int .i64 0, .int .i64 0]) (by conv => lhs; whnf) (by conv => lhs; whnf) (by conv => lhs; whnf) ty24 rfl rfl rfl (by exact rfl)) (by decide) ?_
  refine ao_nil_d (by kernel_rfl) ?_
  refine hK2 _ ?_
  refine aw_seq_k (fun K5 hK5 => ?_)
  refine aw_seq_k (fun K6 hK6 => ?_)
  refine aw_regL ?_
  refine alP (some 8) rfl rfl (does_assign (v := .int .i64 0) (by exact rfl)) (by decide) ?_
  refine al_nil ?_
  refine hK6 _ ?_
  refine aw_block ?_
  refine aw_loop' (fun m s => ∃ (v7_s_2_0 : Int), ∃ (v7_s_3_0 : Int), ∃ (v7_s_4_0 : Int), ∃ (v7_s_5_0 : Int), ∃ (v7_s_6_0 : Int), ∃ (v7_s_7_0 : Int), ∃ (v7_s_8_0 : Int), ∃ (v7_s_9_0 : Int), ∃ (v8_0 : Int), loopN (fun (s : Int × Int × Int × Int × Int × Int × Int × Int × Int) => gleaningref1_JoinCounter_l0 a0 a1 a2 x3 x4 s.1 s.2.1 s.2.2.1 s.2.2.2.1 s.2.2.2.2.1 s.2.2.2.2.2.1 s.2.2.2.2.2.2.1 s.2.2.2.2.2.2.2.1 s.2.2.2.2.2.2.2.2) m (v7_s_2_0, v7_s_3_0, v7_s_4_0, v7_s_5_0, v7_s_6_0, v7_s_7_0, v7_s_8_0, v7_s_9_0, v8_0) = some r ∧ s = lit [(2, .int .i64 a2), (3, .ptr 3 0 0), (4, .ptr 4 0 0), (6, .ptr 6 0 0), (7, .ptr 7 0 0), (8, .int .i64 v8_0)] [((3, 0), .box [.int .i64 a0.Count, .int .i64 a0.Errs, .int .i64 a0.By.c0, .int .i64 a0.By.c1, .int .i64 a0.By.c2, .int .i64 a0.By.c3, .int .i64 a0.By.c4, .int .i64 a0.By.c5, .int .i64 a0.By.c6, .int .i64 a0.By.c7]), ((4, 0), .box [.int .i64 a1.Count, .int .i64 a1.Errs, .int .i64 a1.By.c0, .int .i64 a1.By.c1, .int .i64 a1.By.c2, .int .i64 a1.By.c3, .int .i64 a1.By.c4, .int .i64 a1.By.c5, .int .i64 a1.By.c6, .int .i64 a1.By.c7]), ((6, 0), .box [.int .i64 0, .int .i64 0, .int .i64 0, .int .i64 0, .int .i64 0, .int .i64 0, .int .i64 0, .int .i64 0, .int .i64 0, .int .i64 0]), ((7, 0), .box [.int .i64 x3, .int .i64 x4, .int .i64 v7_s_2_0, .int .i64 v7_s_3_0, .int .i64 v7_s_4_0, .int .i64 v7_s_5_0, .int .i64 v7_s_6_0, .int .i64 v7_s_7_0, .int .i64 v7_s_8_0, .int .i64 v7_s_9_0])] [(3, 1), (4, 1), (6, 1), (7, 1)] X) Fu
    ⟨_, reb_lit [(2, .int .i64 a2), (3, .ptr 3 0 0), (4, .ptr 4 0 0), (6, .ptr 6 0 0), (7, .ptr 7 0 0), (8, .int .i64 (0))] [(3, 0), (4, 0), (6, 0), (7, 0)] [((3, 0), .box [.int .i64 a0.Count, .int .i64 a0.Errs, .int .i64 a0.By.c0, .int .i64 a0.By.c1, .int .i64 a0.By.c2, .int .i64 a0.By.c3, .int .i64 a0.By.c4, .int .i64 a0.By.c5, .int .i64 a0.By.c6, .int .i64 a0.By.c7]), ((4, 0), .box [.int .i64 a1.Count, .int .i64 a1.Errs, .int .i64 a1.By.c0, .int .i64 a1.By.c1, .int .i64 a1.By.c2, .int .i64 a1.By.c3, .int .i64 a1.By.c4, .int .i64 a1.By.c5, .int .i64 a1.By.c6, .int .i64 a1.By.c7]), ((6, 0), .box [.int .i64 0, .int .i64 0, .int .i64 0, .int .i64 0, .int .i64 0, .int .i64 0, .int .i64 0, .int .i64 0, .int .i64 0, .int .i64 0]), ((7, 0), .box [.int .i64 x3, .int .i64 x4, .int .i64 (0), .int .i64 (0), .int .i64 (0), .int .i64 (0), .int .i64 (0), .int .i64 (0), .int .i64 (0), .int .i64 (0)])] [(3, 1), (4, 1), (6, 1), (7, 1)] (envOk_cons (by conv => lhs; whnf) (by exact rfl) (envOk_cons (by conv => lhs; whnf) (by exact rfl) (envOk_cons (by conv => lhs; whnf) (by exact rfl) (envOk_cons (by conv => lhs; whnf) (by exact rfl) (envOk_cons (by conv => lhs; whnf) (by exact rfl) (envOk_cons (by conv => lhs; whnf) (by exact rfl) envOk_nil)))))) (objOk_cons (by conv => lhs; whnf) (by conv => lhs; whnf) (by exact rfl) (by simp) (objOk_cons (by conv => lhs; whnf) (by conv => lhs; whnf) (by exact rfl) (by simp) (objOk_cons (by conv => lhs; whnf) (by conv => lhs; whnf) (by exact rfl) (by simp) (objOk_cons (by conv => lhs; whnf) (by conv => lhs; whnf) (by exact rfl) (by simp) objOk_nil)))) (nodup_b rfl) (nodup_b rfl) rfl rfl, 0, 0, 0, 0, 0, 0, 0, 0, 0, h, rfl⟩ ?_
  rintro m s ⟨v7_s_2_0, v7_s_3_0, v7_s_4_0, v7_s_5_0, v7_s_6_0, v7_s_7_0, v7_s_8_0, v7_s_9_0, v8_0, h, rfl⟩
  obtain ⟨m0, q7, rfl, h, hq8⟩ := loop_some h
  replace h : gleaningref1_JoinCounter_l0 a0 a1 a2 x3 x4 v7_s_2_0 v7_s_3_0 v7_s_4_0 v7_s_5_0 v7_s_6_0 v7_s_7_0 v7_s_8_0 v7_s_9_0 v8_0 = some q7 := h
  unfold gleaningref1_JoinCounter_l0 at h
  refine aw_seq_k (fun K9 hK9 => ?_)
  refine aw_seq_k (fun K10 hK10 => ?_)
  refine aw_regL ?_
  refine alP (some 22) rfl rfl (does_move (v := .int .i64 v8_0) (by exact rfl)) (by decide) ?_
  refine alP (some 23) rfl rfl (does_bin (v := .bool (decide (v8_0 < 8))) (by conv => lhs; whnf) (by conv => lhs; whnf) rfl) (by decide) ?_
  refine al_nil ?_
  refine hK10 _ ?_
  refine aw_bool (b := (decide (v8_0 < 8))) 23 rfl (fun c11 => ?_) (fun c11 => ?_)
  · have h := ifT c11 h
    refine aw_cond_t (by decide) rfl ?_
    refine aw_skip ?_
    refine hK9 _ ?_
    refine aw_seq_k (fun K12 hK12 => ?_)
    refine aw_block ?_
    refine aw_regd (by kernel_rfl) (by decide +kernel) ?_
    refine aoP (some 26) rfl rfl (does_move (v := .int .i64 v8_0) (by exact rfl)) (by decide) ?_
    refine aoP (some 27) rfl rfl (does_move (v := .int .i64 v8_0) (by exact rfl)) (by decide) ?_
    refine aoP (some 28) rfl rfl (does_fieldAddr (q := .ptr 3 0 2) (by conv => lhs; whnf) ty24 rfl ty22 (by decide) (by exact rfl)) (by decide) ?_
    obtain ⟨g13, h⟩ := gd_some h
    obtain ⟨g14, h⟩ := gd_some h
    obtain ⟨x15, hx15, h⟩ := bnd_some h
    refine aoP (some 29) rfl rfl (does_indexAddr_arr (q := .ptr 3 0 (2 + (Int.toNat v8_0) * 1)) (by conv => lhs; whnf) (by conv => lhs; whnf) ty22 ty3 g13 g14 rfl) (by decide) ?_
    refine aoR (some 30) rfl rfl (does_load (v := .int .i64 x15) (by conv => lhs; whnf) (cellsAt_box (by exact rfl)) ty3 (loadPV_arr (off := 2) (f := enc2) (l := [a0.By.c0, a0.By.c1, a0.By.c2, a0.By.c3, a0.By.c4, a0.By.c5, a0.By.c6, a0.By.c7]) (pre := [.int .i64 a0.Count, .int .i64 a0.Errs]) (post := []) (i := (Int.toNat v8_0)) rfl rfl hx15)) (by decide) ?_
    refine aoP (some 31) rfl rfl (does_move (v := .int .i64 v8_0) (by exact rfl)) (by decide) ?_
    refine aoP (some 32) rfl rfl (does_fieldAddr (q := .ptr 4 0 2) (by conv => lhs; whnf) ty24 rfl ty22 (by decide) (by exact rfl)) (by decide) ?_
    obtain ⟨g16, h⟩ := gd_some h
    obtain ⟨g17, h⟩ := gd_some h
    obtain ⟨x18, hx18, h⟩ := bnd_some h
    refine aoP (some 33) rfl rfl (does_indexAddr_arr (q := .ptr 4 0 (2 + (Int.toNat v8_0) * 1)) (by conv => lhs; whnf) (by conv => lhs; whnf) ty22 ty3 g16 g17 rfl) (by decide) ?_
    refine aoR (some 34) rfl rfl (does_load (v := .int .i64 x18) (by conv => lhs; whnf) (cellsAt_box (by exact rfl)) ty3 (loadPV_arr (off := 2) (f := enc2) (l := [a1.By.c0, a1.By.c1, a1.By.c2, a1.By.c3, a1.By.c4, a1.By.c5, a1.By.c6, a1.By.c7]) (pre := [.int .i64 a1.Count, .int .i64 a1.Errs]) (post := []) (i := (Int.toNat v8_0)) rfl rfl hx18)) (by decide) ?_
    refine aoP (some 35) rfl rfl (does_move (v := .int .i64 a2) (by exact rfl)) (by decide) ?_
    obtain ⟨x19, hx19, h⟩ := bnd_some h
    refine aoD (some 36) rfl rfl (do_call0 36 false (gleaningref1_sum_ok x15 x18 a2 hx19) rfl ent25 rfl rfl) (by decide) ?_
    refine aoP (some 37) rfl rfl (does_fieldAddr (q := .ptr 7 0 2) (by conv => lhs; whnf) ty24 rfl ty22 (by decide) (by exact rfl)) (by decide) ?_
    obtain ⟨g20, h⟩ := gd_some h
    obtain ⟨g21, h⟩ := gd_some h
    obtain ⟨x22, hx22, h⟩ := bnd_some h
    refine aoP (some 38) rfl rfl (does_indexAddr_arr (q := .ptr 7 0 (2 + (Int.toNat v8_0) * 1)) (by conv => lhs; whnf) (by conv => lhs; whnf) ty22 ty3 g20 g21 rfl) (by decide) ?_
    obtain ⟨x23, hx23, h⟩ := bnd_some h
    refine aoD none rfl rfl (do_storeY (cs := [.int .i64 x3, .int .i64 x4, .int .i64 v7_s_2_0, .int .i64 v7_s_3_0, .int .i64 v7_s_4_0, .int .i64 v7_s_5_0, .int .i64 v7_s_6_0, .int .i64 v7_s_7_0, .int .i64 v7_s_8_0, .int .i64 v7_s_9_0]) (off := 2) (ln := 8) (f := enc2) (l := [v7_s_2_0, v7_s_3_0, v7_s_4_0, v7_s_5_0, v7_s_6_0, v7_s_7_0, v7_s_8_0, v7_s_9_0]) (i := (Int.toNat v8_0)) (a := x19) (z := 0) (pre := [.int .i64 x3, .int .i64 x4]) (post := []) (cs' := [.int .i64 x3, .int .i64 x4, .int .i64 (x23.getD 0 0), .int .i64 (x23.getD 1 0), .int .i64 (x23.getD 2 0), .int .i64 (x23.getD 3 0), .int .i64 (x23.getD 4 0), .int .i64 (x23.getD 5 0), .int .i64 (x23.getD 6 0), .int .i64 (x23.getD 7 0)]) (by conv => lhs; whnf) (by exact rfl) (by conv => lhs; whnf) ty3 rfl rfl rfl rfl hx22 hx23 ⟨rfl, rfl, rfl⟩) (by decide) ?_
    refine ao_nil_d (by kernel_rfl) ?_
    refine hK12 _ ?_
    refine aw_regL ?_
    refine alP (some 24) rfl rfl (does_move (v := .int .i64 v8_0) (by exact rfl)) (by decide) ?_
    refine alP (some 25) rfl rfl (does_bin (v := .int .i64 (IntKind.i64.wrap (v8_0 + 1))) (by conv => lhs; whnf) (by conv => lhs; whnf) rfl) (by decide) ?_
    refine alP (some 8) rfl rfl (does_assign (v := .int .i64 (IntKind.i64.wrap (v8_0 + 1))) (by exact rfl)) (by decide) ?_
    refine al_nil ?_
    have h := leafL h hq8
    exact ⟨m0, Nat.lt_succ_self _, _, reb_lit [(2, .int .i64 a2), (3, .ptr 3 0 0), (4, .ptr 4 0 0), (6, .ptr 6 0 0), (7, .ptr 7 0 0), (8, .int .i64 (IntKind.i64.wrap (v8_0 + 1)))] [(3, 0), (4, 0), (6, 0), (7, 0)] [((3, 0), .box [.int .i64 a0.Count, .int .i64 a0.Errs, .int .i64 a0.By.c0, .int .i64 a0.By.c1, .int .i64 a0.By.c2, .int .i64 a0.By.c3, .int .i64 a0.By.c4, .int .i64 a0.By.c5, .int .i64 a0.By.c6, .int .i64 a0.By.c7]), ((4, 0), .box [.int .i64 a1.Count, .int .i64 a1.Errs, .int .i64 a1.By.c0, .int .i64 a1.By.c1, .int .i64 a1.By.c2, .int .i64 a1.By.c3, .int .i64 a1.By.c4, .int .i64 a1.By.c5, .int .i64 a1.By.c6, .int .i64 a1.By.c7]), ((6, 0), .box [.int .i64 0, .int .i64 0, .int .i64 0, .int .i64 0, .int .i64 0, .int .i64 0, .int .i64 0, .int .i64 0, .int .i64 0, .int .i64 0]), ((7, 0), .box [.int .i64 x3, .int .i64 x4, .int .i64 (x23.getD 0 0), .int .i64 (x23.getD 1 0), .int .i64 (x23.getD 2 0), .int .i64 (x23.getD 3 0), .int .i64 (x23.getD 4 0), .int .i64 (x23.getD 5 0), .int .i64 (x23.getD 6 0), .int .i64 (x23.getD 7 0)])] [(3, 1), (4, 1), (6, 1), (7, 1)] (envOk_cons (by conv => lhs; whnf) (by exact rfl) (envOk_cons (by conv => lhs; whnf) (by exact rfl) (envOk_cons (by conv => lhs; whnf) (by exact rfl) (envOk_cons (by conv => lhs; whnf) (by exact rfl) (envOk_cons (by conv => lhs; whnf) (by exact rfl) (envOk_cons (by conv => lhs; whnf) (by exact rfl) envOk_nil)))))) (objOk_cons (by conv => lhs; whnf) (by conv => lhs; whnf) (by exact rfl) (by simp) (objOk_cons (by conv => lhs; whnf) (by conv => lhs; whnf) (by exact rfl) (by simp) (objOk_cons (by conv => lhs; whnf) (by conv => lhs; whnf) (by exact rfl) (by simp) (objOk_cons (by conv => lhs; whnf) (by conv => lhs; whnf) (by exact rfl) (by simp) objOk_nil)))) (nodup_b rfl) (nodup_b rfl) rfl rfl, (x23.getD 0 0), (x23.getD 1 0), (x23.getD 2 0), (x23.getD 3 0), (x23.getD 4 0), (x23.getD 5 0), (x23.getD 6 0), (x23.getD 7 0), (IntKind.i64.wrap (v8_0 + 1)), h, rfl⟩
  · have h := ifF c11 h
    refine aw_cond_f (by decide) rfl ?_
    refine aw_exit ?_
    have h := leafR h hq8
    refine hK5 _ ?_
    refine aw_seq_k (fun K24 hK24 => ?_)
    refine aw_regL ?_
    refine alR (some 39) rfl rfl (does_load (v := .agg [.int .i64 x3, .int .i64 x4, .int .i64 v7_s_2_0, .int .i64 v7_s_3_0, .int .i64 v7_s_4_0, .int .i64 v7_s_5_0, .int .i64 v7_s_6_0, .int .i64 v7_s_7_0, .int .i64 v7_s_8_0, .int .i64 v7_s_9_0]) (by conv => lhs; whnf) (by conv => lhs; whnf) ty24 (by exact rfl)) (by decide) ?_
    refine alD none rfl rfl (do_store (cs' := [.int .i64 x3, .int .i64 x4, .int .i64 v7_s_2_0, .int .i64 v7_s_3_0, .int .i64 v7_s_4_0, .int .i64 v7_s_5_0, .int .i64 v7_s_6_0, .int .i64 v7_s_7_0, .int .i64 v7_s_8_0, .int .i64 v7_s_9_0]) (by conv => lhs; whnf) (by conv => lhs; whnf) (by conv => lhs; whnf) ty24 rfl rfl rfl (by exact rfl)) (by decide) ?_
    refine al_nil ?_
    refine hK24 _ ?_
    refine aw_ret ?_
    obtain rfl := Option.some.inj h
    exact ret_ok1 (by conv => lhs; whnf) (by conv => lhs; whnf) (by exact rfl) (.inr rfl) rfl
def gleaningref1_AddCounter_k0 (a0 : Counter) (a2 : Int) (x8 : List Int) (v7_s_1_0 : Int) : Option Counter :=
  Option.bind (gleaningref1_JoinCounter a0 (Counter.mk 1 v7_s_1_0 (Arr8_Int.mk (x8.getD 0 0) (x8.getD 1 0) (x8.getD 2 0) (x8.getD 3 0) (x8.getD 4 0) (x8.getD 5 0) (x8.getD 6 0) (x8.getD 7 0))) a2) (fun (x14 : Counter) => some x14)
def gleaningref1_AddCounter (a0 : Counter) (a1 : Span) (a2 : Int) : Option Counter :=
  Option.bind (gleaningref1_Of a1.Dur) (fun (x4 : Int) => gd (0 ≤ x4) (gd (x4 < 8) (Option.bind (([0, 0, 0, 0, 0, 0, 0, 0] : List Int)[(Int.toNat x4)]?) (fun (x7 : Int) => Option.bind (some (List.set ([0, 0, 0, 0, 0, 0, 0, 0] : List Int) (Int.toNat x4) 1)) (fun (x8 : List Int) => Option.bind (if a1.Err = true then (some 1) else (some 0)) (fun (s : Int) => gleaningref1_AddCounter_k0 a0 a2 x8 s))))))
set_option maxRecDepth 100000 in
set_option maxHeartbeats 8000000 in
/-- gleaning/gleaningref1.AddCounter -/
theorem gleaningref1_AddCounter_ok (a0 : Counter) (a1 : Span) (a2 : Int) {r : Counter} (h : gleaningref1_AddCounter a0 a1 a2 = some r) : Ok Try.prog 13 [.agg [.int .i64 a0.Count, .int .i64 a0.Errs, .int .i64 a0.By.c0, .int .i64 a0.By.c1, .int .i64 a0.By.c2, .int .i64 a0.By.c3, .int .i64 a0.By.c4, .int .i64 a0.By.c5, .int .i64 a0.By.c6, .int .i64 a0.By.c7], .agg [.int .u64 a1.Trace.Hi, .int .u64 a1.Trace.Lo, .int .u64 a1.Id, .int .u64 a1.Parent, .str a1.Service, .str a1.Op, .int .i64 a1.Start, .int .i64 a1.Dur, .bool a1.Err, .sl 2 (List.map enc69 a1.Attrs)], .int .i64 a2] [] [] (.agg [.int .i64 r.Count, .int .i64 r.Errs, .int .i64 r.By.c0, .int .i64 r.By.c1, .int .i64 r.By.c2, .int .i64 r.By.c3, .int .i64 r.By.c4, .int .i64 r.By.c5, .int .i64 r.By.c6, .int .i64 r.By.c7]) [] [] := by
  unfold gleaningref1_AddCounter at h
  refine ok_of_code Try.func13 rfl (by show (3 : Nat) ≤ _; decide) (Nat.le_refl _) fun X => ?_
  refine aw_seq_k (fun K1 hK1 => ?_)
  refine aw_regL ?_
  refine alD (some 3) rfl rfl (do_box (by conv => lhs; whnf) rfl rfl) (by decide) ?_
  refine alD (some 4) rfl rfl (do_box (by conv => lhs; whnf) rfl rfl) (by decide) ?_
  refine alD (some 6) rfl rfl (do_new ty24 rfl rfl) (by decide) ?_
  refine al_nil ?_
  refine hK1 _ ?_
  refine aw_seq_k (fun K2 hK2 => ?_)
  refine aw_regL ?_
  refine alP (some 8) rfl rfl (do_build_struct (cs := [.int .i64 1, .int .i64 0, .int .i64 0, .int .i64 0, .int .i64 0, .int .i64 0, .int .i64 0, .int .i64 0, .int .i64 0, .int .i64 0]) ty24 rfl [⟨.int .i64, 1, 8, [.int .i64 0]⟩, ⟨.int .i64, 1, 8, [.int .i64 0]⟩, ⟨.arr 8 3, 8, 64, [.int .i64 0, .int .i64 0, .int .i64 0, .int .i64 0, .int .i64 0, .int .i64 0, .int .i64 0, .int .i64 0]⟩] (by simp only [List.map, ty22, ty3]) (by rfl) (by exact rfl)) (by decide) ?_
  refine alD (some 7) rfl rfl (do_new ty24 rfl rfl) (by decide) ?_
  refine alD none rfl rfl (do_store (cs' := [.int .i64 1, .int .i64 0, .int .i64 0, .int .i64 0, .int .i64 0, .int .i64 0, .int .i64 0, .int .i64 0, .int .i64 0, .int .i64 0]) (by conv => lhs; whnf) (by conv => lhs; whnf) (by conv => lhs; whnf) ty24 rfl rfl rfl (by exact rfl)) (by decide) ?_
  refine al_nil ?_
  refine hK2 _ ?_
  refine aw_seq_k (fun K3 hK3 => ?_)
  refine aw_regL ?_
  refine alP (some 9) rfl rfl (does_fieldAddr (q := .ptr 4 0 7) (by conv => lhs; whnf) ty38 rfl ty3 (by decide) (by exact rfl)) (by decide) ?_
  refine alR (some 10) rfl rfl (does_load (v := .int .i64 a1.Dur) (by conv => lhs; whnf) (by conv => lhs; whnf) ty3 (by exact rfl)) (by decide) ?_
  obtain ⟨x4, hx4, h⟩ := bnd_some h
  refine alD (some 11) rfl rfl (do_call0 11 false (gleaningref1_Of_ok a1.Dur hx4) rfl ent14 rfl rfl) (by decide) ?_
  refine alP (some 12) rfl rfl (does_fieldAddr (q := .ptr 7 0 2) (by conv => lhs; whnf) ty24 rfl ty22 (by decide) (by exact rfl)) (by decide) ?_
  obtain ⟨g5, h⟩ := gd_some h
  obtain ⟨g6, h⟩ := gd_some h
  obtain ⟨x7, hx7, h⟩ := bnd_some h
  refine alP (some 13) rfl rfl (does_indexAddr_arr (q := .ptr 7 0 (2 + (Int.toNat x4) * 1)) (by conv => lhs; whnf) (by conv => lhs; whnf) ty22 ty3 g5 g6 rfl) (by decide) ?_
  obtain ⟨x8, hx8, h⟩ := bnd_some h
  refine alD none rfl rfl (do_storeY (cs := [.int .i64 1, .int .i64 0, .int .i64 0, .int .i64 0, .int .i64 0, .int .i64 0, .int .i64 0, .int .i64 0, .int .i64 0, .int .i64 0]) (off := 2) (ln := 8) (f := enc2) (l := [0, 0, 0, 0, 0, 0, 0, 0]) (i := (Int.toNat x4)) (a := 1) (z := 0) (pre := [.int .i64 1, .int .i64 0]) (post := []) (cs' := [.int .i64 1, .int .i64 0, .int .i64 (x8.getD 0 0), .int .i64 (x8.getD 1 0), .int .i64 (x8.getD 2 0), .int .i64 (x8.getD 3 0), .int .i64 (x8.getD 4 0), .int .i64 (x8.getD 5 0), .int .i64 (x8.getD 6 0), .int .i64 (x8.getD 7 0)]) (by conv => lhs; whnf) (by exact rfl) (by conv => lhs; whnf) ty3 rfl rfl rfl rfl hx7 hx8 ⟨rfl, rfl, rfl⟩) (by decide) ?_
  refine al_nil ?_
  refine hK3 _ ?_
  obtain ⟨q9, h, hk10⟩ := bnd_some h
  refine aw_cut (fun s => ∃ (v7_s_1_0 : Int), gleaningref1_AddCounter_k0 a0 a2 x8 v7_s_1_0 = some r ∧ s = lit [(2, .int .i64 a2), (3, .ptr 3 0 0), (6, .ptr 6 0 0), (7, .ptr 7 0 0)] [((3, 0), .box [.int .i64 a0.Count, .int .i64 a0.Errs, .int .i64 a0.By.c0, .int .i64 a0.By.c1, .int .i64 a0.By.c2, .int .i64 a0.By.c3, .int .i64 a0.By.c4, .int .i64 a0.By.c5, .int .i64 a0.By.c6, .int .i64 a0.By.c7]), ((6, 0), .box [.int .i64 0, .int .i64 0, .int .i64 0, .int .i64 0, .int .i64 0, .int .i64 0, .int .i64 0, .int .i64 0, .int .i64 0, .int .i64 0]), ((7, 0), .box [.int .i64 1, .int .i64 v7_s_1_0, .int .i64 (x8.getD 0 0), .int .i64 (x8.getD 1 0), .int .i64 (x8.getD 2 0), .int .i64 (x8.getD 3 0), .int .i64 (x8.getD 4 0), .int .i64 (x8.getD 5 0), .int .i64 (x8.getD 6 0), .int .i64 (x8.getD 7 0)])] [(3, 1), (6, 1), (7, 1)] X) ?_ ?_
  · skip
    refine aw_seq_k (fun K11 hK11 => ?_)
    refine aw_regL ?_
    refine alP (some 14) rfl rfl (does_fieldAddr (q := .ptr 4 0 8) (by conv => lhs; whnf) ty38 rfl ty4 (by decide) (by exact rfl)) (by decide) ?_
    refine alR (some 15) rfl rfl (does_load (v := .bool a1.Err) (by conv => lhs; whnf) (by conv => lhs; whnf) ty4 (by exact rfl)) (by decide) ?_
    refine al_nil ?_
    refine hK11 _ ?_
    refine aw_bool (b := a1.Err) 15 rfl (fun c12 => ?_) (fun c12 => ?_)
    · have h := ifT c12 h
      refine aw_cond_t (by decide) rfl ?_
      refine aw_regL ?_
      refine alP (some 16) rfl rfl (does_fieldAddr (q := .ptr 7 0 1) (by conv => lhs; whnf) ty24 rfl ty3 (by decide) (by exact rfl)) (by decide) ?_
      refine alD none rfl rfl (do_store (cs' := [.int .i64 1, .int .i64 1, .int .i64 (x8.getD 0 0), .int .i64 (x8.getD 1 0), .int .i64 (x8.getD 2 0), .int .i64 (x8.getD 3 0), .int .i64 (x8.getD 4 0), .int .i64 (x8.getD 5 0), .int .i64 (x8.getD 6 0), .int .i64 (x8.getD 7 0)]) (by conv => lhs; whnf) (by conv => lhs; whnf) (by conv => lhs; whnf) ty3 rfl rfl rfl (by exact rfl)) (by decide) ?_
      refine al_nil ?_
      obtain rfl := Option.some.inj h
      have h := hk10
      exact ⟨_, reb_lit [(2, .int .i64 a2), (3, .ptr 3 0 0), (6, .ptr 6 0 0), (7, .ptr 7 0 0)] [(3, 0), (6, 0), (7, 0)] [((3, 0), .box [.int .i64 a0.Count, .int .i64 a0.Errs, .int .i64 a0.By.c0, .int .i64 a0.By.c1, .int .i64 a0.By.c2, .int .i64 a0.By.c3, .int .i64 a0.By.c4, .int .i64 a0.By.c5, .int .i64 a0.By.c6, .int .i64 a0.By.c7]), ((6, 0), .box [.int .i64 0, .int .i64 0, .int .i64 0, .int .i64 0, .int .i64 0, .int .i64 0, .int .i64 0, .int .i64 0, .int .i64 0, .int .i64 0]), ((7, 0), .box [.int .i64 1, .int .i64 (1), .int .i64 (x8.getD 0 0), .int .i64 (x8.getD 1 0), .int .i64 (x8.getD 2 0), .int .i64 (x8.getD 3 0), .int .i64 (x8.getD 4 0), .int .i64 (x8.getD 5 0), .int .i64 (x8.getD 6 0), .int .i64 (x8.getD 7 0)])] [(3, 1), (6, 1), (7, 1)] (envOk_cons (by conv => lhs; whnf) (by exact rfl) (envOk_cons (by conv => lhs; whnf) (by exact rfl) (envOk_cons (by conv => lhs; whnf) (by exact rfl) (envOk_cons (by conv => lhs; whnf) (by exact rfl) envOk_nil)))) (objOk_cons (by conv => lhs; whnf) (by conv => lhs; whnf) (by exact rfl) (by simp) (objOk_cons (by conv => lhs; whnf) (by conv => lhs; whnf) (by exact rfl) (by simp) (objOk_cons (by conv => lhs; whnf) (by conv => lhs; whnf) (by exact rfl) (by simp) objOk_nil))) (nodup_b rfl) (nodup_b rfl) rfl rfl, 1, h, rfl⟩
    · have h := ifF c12 h
      refine aw_cond_f (by decide) rfl ?_
      refine aw_skip ?_
      obtain rfl := Option.some.inj h
      have h := hk10
      exact ⟨_, reb_lit [(2, .int .i64 a2), (3, .ptr 3 0 0), (6, .ptr 6 0 0), (7, .ptr 7 0 0)] [(3, 0), (6, 0), (7, 0)] [((3, 0), .box [.int .i64 a0.Count, .int .i64 a0.Errs, .int .i64 a0.By.c0, .int .i64 a0.By.c1, .int .i64 a0.By.c2, .int .i64 a0.By.c3, .int .i64 a0.By.c4, .int .i64 a0.By.c5, .int .i64 a0.By.c6, .int .i64 a0.By.c7]), ((6, 0), .box [.int .i64 0, .int .i64 0, .int .i64 0, .int .i64 0, .int .i64 0, .int .i64 0, .int .i64 0, .int .i64 0, .int .i64 0, .int .i64 0]), ((7, 0), .box [.int .i64 1, .int .i64 (0), .int .i64 (x8.getD 0 0), .int .i64 (x8.getD 1 0), .int .i64 (x8.getD 2 0), .int .i64 (x8.getD 3 0), .int .i64 (x8.getD 4 0), .int .i64 (x8.getD 5 0), .int .i64 (x8.getD 6 0), .int .i64 (x8.getD 7 0)])] [(3, 1), (6, 1), (7, 1)] (envOk_cons (by conv => lhs; whnf) (by exact rfl) (envOk_cons (by conv => lhs; whnf) (by exact rfl) (envOk_cons (by conv => lhs; whnf) (by exact rfl) (envOk_cons (by conv => lhs; whnf) (by exact rfl) envOk_nil)))) (objOk_cons (by conv => lhs; whnf) (by conv => lhs; whnf) (by exact rfl) (by simp) (objOk_cons (by conv => lhs; whnf) (by conv => lhs; whnf) (by exact rfl) (by simp) (objOk_cons (by conv => lhs; whnf) (by conv => lhs; whnf) (by exact rfl) (by simp) objOk_nil))) (nodup_b rfl) (nodup_b rfl) rfl rfl, 0, h, rfl⟩
  · rintro s ⟨v7_s_1_0, h, rfl⟩
    unfold gleaningref1_AddCounter_k0 at h
    refine aw_seq_k (fun K13 hK13 => ?_)
    refine aw_regL ?_
    refine alR (some 17) rfl rfl (does_load (v := .agg [.int .i64 a0.Count, .int .i64 a0.Errs, .int .i64 a0.By.c0, .int .i64 a0.By.c1, .int .i64 a0.By.c2, .int .i64 a0.By.c3, .int .i64 a0.By.c4, .int .i64 a0.By.c5, .int .i64 a0.By.c6, .int .i64 a0.By.c7]) (by conv => lhs; whnf) (by conv => lhs; whnf) ty24 (by exact rfl)) (by decide) ?_
    refine alR (some 18) rfl rfl (does_load (v := .agg [.int .i64 1, .int .i64 v7_s_1_0, .int .i64 (x8.getD 0 0), .int .i64 (x8.getD 1 0), .int .i64 (x8.getD 2 0), .int .i64 (x8.getD 3 0), .int .i64 (x8.getD 4 0), .int .i64 (x8.getD 5 0), .int .i64 (x8.getD 6 0), .int .i64 (x8.getD 7 0)]) (by conv => lhs; whnf) (by conv => lhs; whnf) ty24 (by exact rfl)) (by decide) ?_
    refine alP (some 19) rfl rfl (does_move (v := .int .i64 a2) (by exact rfl)) (by decide) ?_
    obtain ⟨x14, hx14, h⟩ := bnd_some h
    refine alD (some 20) rfl rfl (do_call0 20 false (gleaningref1_JoinCounter_ok a0 (Counter.mk 1 v7_s_1_0 (Arr8_Int.mk (x8.getD 0 0) (x8.getD 1 0) (x8.getD 2 0) (x8.getD 3 0) (x8.getD 4 0) (x8.getD 5 0) (x8.getD 6 0) (x8.getD 7 0))) a2 hx14) rfl ent22 rfl rfl) (by decide) ?_
    refine alD none rfl rfl (do_store (cs' := [.int .i64 x14.Count, .int .i64 x14.Errs, .int .i64 x14.By.c0, .int .i64 x14.By.c1, .int .i64 x14.By.c2, .int .i64 x14.By.c3, .int .i64 x14.By.c4, .int .i64 x14.By.c5, .int .i64 x14.By.c6, .int .i64 x14.By.c7]) (by conv => lhs; whnf) (by conv => lhs; whnf) (by conv => lhs; whnf) ty24 rfl rfl rfl (by exact rfl)) (by decide) ?_
    refine al_nil ?_
    refine hK13 _ ?_
    refine aw_ret ?_
    obtain rfl := Option.some.inj h
    exact ret_ok1 (by conv => lhs; whnf) (by conv => lhs; whnf) (by exact rfl) (.inr rfl) rfl
def gleaninglaw31_QuantSorts_l4 (a0 : List Int) (v7_s_2 : List Int) (v8_2 : Int) (v9_4 : Int) : Option (Int ⊕ Int) :=
  if (decide ((0 : Int) < v9_4)) = true then (gd (0 ≤ (IntKind.i64.wrap (v9_4 - 1))) (Option.bind (v7_s_2[(Int.toNat (IntKind.i64.wrap (v9_4 - 1)))]?) (fun (x41 : Int) => gd (0 ≤ v8_2) (Option.bind (a0[(Int.toNat v8_2)]?) (fun (x43 : Int) => if (decide (x43 < x41)) = true then (some (Sum.inl (IntKind.i64.wrap (v9_4 - 1)))) else (some (Sum.inr v9_4))))))) else (some (Sum.inr v9_4))
def gleaninglaw31_QuantSorts_k3 (a0 : List Int) (v7_s_2 : List Int) (v8_2 : Int) (x31 : Counter) (v9_3 : Int) : Option ((Int × Int × Int × Int × Int × Int × Int × Int × Int × Int × List Int × Int) ⊕ (Int × Int × Int × Int × Int × Int × Int × Int × Int × Int × List Int)) :=
  gd (0 ≤ v9_3) (gd (v9_3 ≤ (List.length v7_s_2 : Int)) (gd ((List.length (List.take (Int.toNat v9_3) v7_s_2)) * 8 ≤ 140737488355328 ∧ (List.length (List.take (Int.toNat v9_3) v7_s_2)) ≤ 140737488355328) (gd (0 ≤ v8_2) (Option.bind (a0[(Int.toNat v8_2)]?) (fun (x49 : Int) => gd ((List.length ((List.take (Int.toNat v9_3) v7_s_2) ++ [x49])) * 8 ≤ 140737488355328 ∧ (List.length ((List.take (Int.toNat v9_3) v7_s_2) ++ [x49])) ≤ 140737488355328) (gd (0 ≤ v9_3) (gd (v9_3 ≤ (List.length v7_s_2 : Int)) (gd ((List.length (((List.take (Int.toNat v9_3) v7_s_2) ++ [x49]) ++ (List.drop (Int.toNat v9_3) v7_s_2))) * 8 ≤ 140737488355328 ∧ (List.length (((List.take (Int.toNat v9_3) v7_s_2) ++ [x49]) ++ (List.drop (Int.toNat v9_3) v7_s_2))) ≤ 140737488355328) (some (Sum.inl (x31.Count, x31.Errs, x31.By.c0, x31.By.c1, x31.By.c2, x31.By.c3, x31.By.c4, x31.By.c5, x31.By.c6, x31.By.c7, (((List.take (Int.toNat v9_3) v7_s_2) ++ [x49]) ++ (List.drop (Int.toNat v9_3) v7_s_2)), (IntKind.i64.wrap (v8_2 + 1)))))))))))))
def gleaninglaw31_QuantSorts_l2 (a0 : List Int) (v6_s_0_2 : Int) (v6_s_1_2 : Int) (v6_s_2_2 : Int) (v6_s_3_2 : Int) (v6_s_4_2 : Int) (v6_s_5_2 : Int) (v6_s_6_2 : Int) (v6_s_7_2 : Int) (v6_s_8_2 : Int) (v6_s_9_2 : Int) (v7_s_2 : List Int) (v8_2 : Int) : Option ((Int × Int × Int × Int × Int × Int × Int × Int × Int × Int × List Int × Int) ⊕ (Int × Int × Int × Int × Int × Int × Int × Int × Int × Int × List Int)) :=
  if (decide (v8_2 < (List.length a0 : Int))) = true then (gd (0 ≤ v8_2) (Option.bind (a0[(Int.toNat v8_2)]?) (fun (x30 : Int) => Option.bind (gleaningref1_AddCounter (Counter.mk v6_s_0_2 v6_s_1_2 (Arr8_Int.mk v6_s_2_2 v6_s_3_2 v6_s_4_2 v6_s_5_2 v6_s_6_2 v6_s_7_2 v6_s_8_2 v6_s_9_2)) (Span.mk (Trace.mk 0 0) 0 0 (strOf []) (strOf []) 0 x30 false []) 1000) (fun (x31 : Counter) => Option.bind (loopN (fun (s : Int) => gleaninglaw31_QuantSorts_l4 a0 v7_s_2 v8_2 s) Fu (List.length v7_s_2 : Int)) (fun (s : Int) => gleaninglaw31_QuantSorts_k3 a0 v7_s_2 v8_2 x31 s))))) else (some (Sum.inr (v6_s_0_2, v6_s_1_2, v6_s_2_2, v6_s_3_2, v6_s_4_2, v6_s_5_2, v6_s_6_2, v6_s_7_2, v6_s_8_2, v6_s_9_2, v7_s_2)))
def gleaninglaw31_QuantSorts_k5 (a1 : Int) (v6_s_0_1 : Int) (v6_s_1_1 : Int) (v6_s_2_1 : Int) (v6_s_3_1 : Int) (v6_s_4_1 : Int) (v6_s_5_1 : Int) (v6_s_6_1 : Int) (v6_s_7_1 : Int) (v6_s_8_1 : Int) (v6_s_9_1 : Int) (v7_s_1 : List Int) (v10_5 : Int) : Option Bool :=
  Option.bind (quant_Quantile (Counter.mk v6_s_0_1 v6_s_1_1 (Arr8_Int.mk v6_s_2_1 v6_s_3_1 v6_s_4_1 v6_s_5_1 v6_s_6_1 v6_s_7_1 v6_s_8_1 v6_s_9_1)) a1) (fun (x61 : Int × Bool) => if x61.2 = true then (gd (0 ≤ v10_5) (Option.bind (v7_s_1[(Int.toNat v10_5)]?) (fun (x65 : Int) => Option.bind (gleaningref1_Of x65) (fun (x66 : Int) => gd (0 ≤ x66) (Option.bind ([0, 1, 5, 10, 50, 100, 500, 1000][(Int.toNat x66)]?) (fun (x68 : Int) => some (x61.1 == x68))))))) else (some false))
def gleaninglaw31_QuantSorts_k1 (a1 : Int) (v6_s_0_1 : Int) (v6_s_1_1 : Int) (v6_s_2_1 : Int) (v6_s_3_1 : Int) (v6_s_4_1 : Int) (v6_s_5_1 : Int) (v6_s_6_1 : Int) (v6_s_7_1 : Int) (v6_s_8_1 : Int) (v6_s_9_1 : Int) (v7_s_1 : List Int) : Option Bool :=
  Option.bind (if (decide ((IntKind.i64.wrap ((IntKind.i64.wrap (Int.tdiv (IntKind.i64.wrap ((IntKind.i64.wrap (a1 * (List.length v7_s_1 : Int))) + 999)) 1000)) - 1)) < 0)) = true then (some 0) else (some (IntKind.i64.wrap ((IntKind.i64.wrap (Int.tdiv (IntKind.i64.wrap ((IntKind.i64.wrap (a1 * (List.length v7_s_1 : Int))) + 999)) 1000)) - 1)))) (fun (s : Int) => gleaninglaw31_QuantSorts_k5 a1 v6_s_0_1 v6_s_1_1 v6_s_2_1 v6_s_3_1 v6_s_4_1 v6_s_5_1 v6_s_6_1 v6_s_7_1 v6_s_8_1 v6_s_9_1 v7_s_1 s)
def gleaninglaw31_QuantSorts_k0 (a0 : List Int) (a1 : Int) : Option Bool :=
  Option.bind (loopN (fun (s : Int × Int × Int × Int × Int × Int × Int × Int × Int × Int × List Int × Int) => gleaninglaw31_QuantSorts_l2 a0 s.1 s.2.1 s.2.2.1 s.2.2.2.1 s.2.2.2.2.1 s.2.2.2.2.2.1 s.2.2.2.2.2.2.1 s.2.2.2.2.2.2.2.1 s.2.2.2.2.2.2.2.2.1 s.2.2.2.2.2.2.2.2.2.1 s.2.2.2.2.2.2.2.2.2.2.1 s.2.2.2.2.2.2.2.2.2.2.2) Fu (0, 0, 0, 0, 0, 0, 0, 0, 0, 0, [], 0)) (fun (s : Int × Int × Int × Int × Int × Int × Int × Int × Int × Int × List Int) => gleaninglaw31_QuantSorts_k1 a1 s.1 s.2.1 s.2.2.1 s.2.2.2.1 s.2.2.2.2.1 s.2.2.2.2.2.1 s.2.2.2.2.2.2.1 s.2.2.2.2.2.2.2.1 s.2.2.2.2.2.2.2.2.1 s.2.2.2.2.2.2.2.2.2.1 s.2.2.2.2.2.2.2.2.2.2)
def gleaninglaw31_QuantSorts (a0 : List Int) (a1 : Int) : Option Bool :=
  Option.bind (gleaninglaw31_alive) (fun (x3 : Bool) => Option.bind (if (!x3) = true then (some (Sum.inr x3)) else (if (decide ((List.length a0 : Int) < 1)) = true then (some (Sum.inr x3)) else (if (decide ((80 : Int) < (List.length a0 : Int))) = true then (some (Sum.inr x3)) else (if (decide (a1 < 0)) = true then (some (Sum.inr x3)) else (if (decide ((1000 : Int) < a1)) = true then (some (Sum.inr x3)) else (some (Sum.inl ()))))))) (Sum.elim (fun (s : Unit) => gleaninglaw31_QuantSorts_k0 a0 a1) some))
set_option maxRecDepth 100000 in
set_option maxHeartbeats 8000000 in
/-- gleaning/gleaninglaw31.QuantSorts -/
theorem gleaninglaw31_QuantSorts_ok (a0 : List Int) (a1 : Int) {r : Bool} (h : gleaninglaw31_QuantSorts a0 a1 = some r) : Ok Try.prog 4 [.sl 1 (List.map enc2 a0), .int .i64 a1] [] [] (.bool r) [] [] := by
  unfold gleaninglaw31_QuantSorts at h
  refine ok_of_code Try.func4 rfl (by show (2 : Nat) ≤ _; decide) (Nat.le_refl _) fun X => ?_
  refine aw_seq_k (fun K1 hK1 => ?_)
  refine aw_regL ?_
  refine alP (some 4) rfl rfl (does_assign (v := .bool false) (by exact rfl)) (by decide) ?_
  refine al_nil ?_
  refine hK1 _ ?_
  refine aw_seq_k (fun K2 hK2 => ?_)
  refine aw_regL ?_
  obtain ⟨x3, hx3, h⟩ := bnd_some h
  refine alD (some 14) rfl rfl (do_call0 14 false (gleaninglaw31_alive_ok hx3) rfl ent6 rfl rfl) (by decide) ?_
  refine alP (some 5) rfl rfl (does_assign (v := .bool x3) (by exact rfl)) (by decide) ?_
  refine al_nil ?_
  refine hK2 _ ?_
  obtain ⟨q4, h, hk5⟩ := bnd_some h
  refine aw_cut (fun s => gleaninglaw31_QuantSorts_k0 a0 a1 = some r ∧ s = lit [(0, .sl 1 (List.map enc2 a0)), (1, .int .i64 a1)] [] [] X) ?_ ?_
  · skip
    refine aw_seq_k (fun K6 hK6 => ?_)
    refine aw_regL ?_
    refine alP (some 15) rfl rfl (does_move (v := .bool x3) (by exact rfl)) (by decide) ?_
    refine alP (some 16) rfl rfl (does_un (v := .bool (!x3)) (by conv => lhs; whnf) rfl) (by decide) ?_
    refine alP (some 17) rfl rfl (does_move (v := .bool (!x3)) (by exact rfl)) (by decide) ?_
    refine al_bool (c := (!x3)) 17 rfl (fun c7 => ?_) (fun c7 => ?_)
    · have h := ifT c7 h
      refine alS (some 18) rfl rfl (by decide) ?_
      refine alS (some 19) rfl rfl (by decide) ?_
      refine alS (some 20) rfl rfl (by decide) ?_
      refine alP (some 21) rfl rfl (does_pick (v := .bool true) (by conv => lhs; whnf) (by exact rfl)) (by decide) ?_
      refine alP (some 22) rfl rfl (does_move (v := .bool true) (by exact rfl)) (by decide) ?_
      refine alS (some 23) rfl rfl (by decide) ?_
      refine alS (some 24) rfl rfl (by decide) ?_
      refine alS (some 25) rfl rfl (by decide) ?_
      refine alP (some 26) rfl rfl (does_pick (v := .bool true) (by conv => lhs; whnf) (by exact rfl)) (by decide) ?_
      refine alP (some 27) rfl rfl (does_move (v := .bool true) (by exact rfl)) (by decide) ?_
      refine alS (some 28) rfl rfl (by decide) ?_
      refine alS (some 29) rfl rfl (by decide) ?_
      refine alP (some 30) rfl rfl (does_pick (v := .bool true) (by conv => lhs; whnf) (by exact rfl)) (by decide) ?_
      refine alP (some 31) rfl rfl (does_move (v := .bool true) (by exact rfl)) (by decide) ?_
      refine alS (some 32) rfl rfl (by decide) ?_
      refine alS (some 33) rfl rfl (by decide) ?_
      refine alP (some 34) rfl rfl (does_pick (v := .bool true) (by conv => lhs; whnf) (by exact rfl)) (by decide) ?_
      refine al_nil ?_
      refine hK6 _ ?_
      refine aw_cond_t (by decide) rfl ?_
      refine aw_seq_k (fun K8 hK8 => ?_)
      refine aw_regL ?_
      refine alP (some 35) rfl rfl (does_move (v := .bool x3) (by exact rfl)) (by decide) ?_
      refine alP (some 4) rfl rfl (does_assign (v := .bool x3) (by exact rfl)) (by decide) ?_
      refine al_nil ?_
      refine hK8 _ ?_
      refine aw_ret ?_
      have h := leafR h hk5
      obtain rfl := Option.some.inj h
      exact ret_ok1 (by conv => lhs; whnf) (by conv => lhs; whnf) (by exact rfl) (.inr rfl) rfl
    · have h := ifF c7 h
      refine alP (some 18) rfl rfl (does_move (v := .sl 1 (List.map enc2 a0)) (by exact rfl)) (by decide) ?_
      refine alP (some 19) rfl rfl ((does_len_sl (by conv => lhs; whnf) ty31).castp (v' := .int .i64 (List.length a0 : Int)) (by exact len_map _)) (by decide) ?_
      refine alP (some 20) rfl rfl (does_bin (v := .bool (decide ((List.length a0 : Int) < 1))) (by conv => lhs; whnf) (by conv => lhs; whnf) rfl) (by decide) ?_
      refine alP (some 21) rfl rfl (does_pick (v := .bool (decide ((List.length a0 : Int) < 1))) (by conv => lhs; whnf) (by exact rfl)) (by decide) ?_
      refine alP (some 22) rfl rfl (does_move (v := .bool (decide ((List.length a0 : Int) < 1))) (by exact rfl)) (by decide) ?_
      refine al_bool (c := (decide ((List.length a0 : Int) < 1))) 22 rfl (fun c9 => ?_) (fun c9 => ?_)
      · have h := ifT c9 h
        refine alS (some 23) rfl rfl (by decide) ?_
        refine alS (some 24) rfl rfl (by decide) ?_
        refine alS (some 25) rfl rfl (by decide) ?_
        refine alP (some 26) rfl rfl (does_pick (v := .bool true) (by conv => lhs; whnf) (by exact rfl)) (by decide) ?_
        refine alP (some 27) rfl rfl (does_move (v := .bool true) (by exact rfl)) (by decide) ?_
        refine alS (some 28) rfl rfl (by decide) ?_
        refine alS (some 29) rfl rfl (by decide) ?_
        refine alP (some 30) rfl rfl (does_pick (v := .bool true) (by conv => lhs; whnf) (by exact rfl)) (by decide) ?_
        refine alP (some 31) rfl rfl (does_move (v := .bool true) (by exact rfl)) (by decide) ?_
        refine alS (some 32) rfl rfl (by decide) ?_
        refine alS (some 33) rfl rfl (by decide) ?_
        refine alP (some 34) rfl rfl (does_pick (v := .bool true) (by conv => lhs; whnf) (by exact rfl)) (by decide) ?_
        refine al_nil ?_
        refine hK6 _ ?_
        refine aw_cond_t (by decide) rfl ?_
        refine aw_seq_k (fun K10 hK10 => ?_)
        refine aw_regL ?_
        refine alP (some 35) rfl rfl (does_move (v := .bool x3) (by exact rfl)) (by decide) ?_
        refine alP (some 4) rfl rfl (does_assign (v := .bool x3) (by exact rfl)) (by decide) ?_
        refine al_nil ?_
        refine hK10 _ ?_
        refine aw_ret ?_
        have h := leafR h hk5
        obtain rfl := Option.some.inj h
        exact ret_ok1 (by conv => lhs; whnf) (by conv => lhs; whnf) (by exact rfl) (.inr rfl) rfl
      · have h := ifF c9 h
        refine alP (some 23) rfl rfl (does_move (v := .sl 1 (List.map enc2 a0)) (by exact rfl)) (by decide) ?_
        refine alP (some 24) rfl rfl ((does_len_sl (by conv => lhs; whnf) ty31).castp (v' := .int .i64 (List.length a0 : Int)) (by exact len_map _)) (by decide) ?_
        refine alP (some 25) rfl rfl (does_bin (v := .bool (decide ((80 : Int) < (List.length a0 : Int)))) (by conv => lhs; whnf) (by conv => lhs; whnf) rfl) (by decide) ?_
        refine alP (some 26) rfl rfl (does_pick (v := .bool (decide ((80 : Int) < (List.length a0 : Int)))) (by conv => lhs; whnf) (by exact rfl)) (by decide) ?_
        refine alP (some 27) rfl rfl (does_move (v := .bool (decide ((80 : Int) < (List.length a0 : Int)))) (by exact rfl)) (by decide) ?_
        refine al_bool (c := (decide ((80 : Int) < (List.length a0 : Int)))) 27 rfl (fun c11 => ?_) (fun c11 => ?_)
        · have h := ifT c11 h
          refine alS (some 28) rfl rfl (by decide) ?_
          refine alS (some 29) rfl rfl (by decide) ?_
          refine alP (some 30) rfl rfl (does_pick (v := .bool true) (by conv => lhs; whnf) (by exact rfl)) (by decide) ?_
          refine alP (some 31) rfl rfl (does_move (v := .bool true) (by exact rfl)) (by decide) ?_
          refine alS (some 32) rfl rfl (by decide) ?_
          refine alS (some 33) rfl rfl (by decide) ?_
          refine alP (some 34) rfl rfl (does_pick (v := .bool true) (by conv => lhs; whnf) (by exact rfl)) (by decide) ?_
          refine al_nil ?_
          refine hK6 _ ?_
          refine aw_cond_t (by decide) rfl ?_
          refine aw_seq_k (fun K12 hK12 => ?_)
          refine aw_regL ?_
          refine alP (some 35) rfl rfl (does_move (v := .bool x3) (by exact rfl)) (by decide) ?_
          refine alP (some 4) rfl rfl (does_assign (v := .bool x3) (by exact rfl)) (by decide) ?_
          refine al_nil ?_
          refine hK12 _ ?_
          refine aw_ret ?_
          have h := leafR h hk5
          obtain rfl := Option.some.inj h
          exact ret_ok1 (by conv => lhs; whnf) (by conv => lhs; whnf) (by exact rfl) (.inr rfl) rfl
        · have h := ifF c11 h
          refine alP (some 28) rfl rfl (does_move (v := .int .i64 a1) (by exact rfl)) (by decide) ?_
          refine alP (some 29) rfl rfl (does_bin (v := .bool (decide (a1 < 0))) (by conv => lhs; whnf) (by conv => lhs; whnf) rfl) (by decide) ?_
          refine alP (some 30) rfl rfl (does_pick (v := .bool (decide (a1 < 0))) (by conv => lhs; whnf) (by exact rfl)) (by decide) ?_
          refine alP (some 31) rfl rfl (does_move (v := .bool (decide (a1 < 0))) (by exact rfl)) (by decide) ?_
          refine al_bool (c := (decide (a1 < 0))) 31 rfl (fun c13 => ?_) (fun c13 => ?_)
          · have h := ifT c13 h
            refine alS (some 32) rfl rfl (by decide) ?_
            refine alS (some 33) rfl rfl (by decide) ?_
            refine alP (some 34) rfl rfl (does_pick (v := .bool true) (by conv => lhs; whnf) (by exact rfl)) (by decide) ?_
            refine al_nil ?_
            refine hK6 _ ?_
            refine aw_cond_t (by decide) rfl ?_
            refine aw_seq_k (fun K14 hK14 => ?_)
            refine aw_regL ?_
            refine alP (some 35) rfl rfl (does_move (v := .bool x3) (by exact rfl)) (by decide) ?_
            refine alP (some 4) rfl rfl (does_assign (v := .bool x3) (by exact rfl)) (by decide) ?_
            refine al_nil ?_
            refine hK14 _ ?_
            refine aw_ret ?_
            have h := leafR h hk5
            obtain rfl := Option.some.inj h
            exact ret_ok1 (by conv => lhs; whnf) (by conv => lhs; whnf) (by exact rfl) (.inr rfl) rfl
          · have h := ifF c13 h
            refine alP (some 32) rfl rfl (does_move (v := .int .i64 a1) (by exact rfl)) (by decide) ?_
            refine alP (some 33) rfl rfl (does_bin (v := .bool (decide ((1000 : Int) < a1))) (by conv => lhs; whnf) (by conv => lhs; whnf) rfl) (by decide) ?_
            refine alP (some 34) rfl rfl (does_pick (v := .bool (decide ((1000 : Int) < a1))) (by conv => lhs; whnf) (by exact rfl)) (by decide) ?_
            refine al_nil ?_
            refine hK6 _ ?_
            refine aw_bool (b := (decide ((1000 : Int) < a1))) 34 rfl (fun c15 => ?_) (fun c15 => ?_)
            · have h := ifT c15 h
              refine aw_cond_t (by decide) rfl ?_
              refine aw_seq_k (fun K16 hK16 => ?_)
              refine aw_regL ?_
              refine alP (some 35) rfl rfl (does_move (v := .bool x3) (by exact rfl)) (by decide) ?_
              refine alP (some 4) rfl rfl (does_assign (v := .bool x3) (by exact rfl)) (by decide) ?_
              refine al_nil ?_
              refine hK16 _ ?_
              refine aw_ret ?_
              have h := leafR h hk5
              obtain rfl := Option.some.inj h
              exact ret_ok1 (by conv => lhs; whnf) (by conv => lhs; whnf) (by exact rfl) (.inr rfl) rfl
            · have h := ifF c15 h
              refine aw_cond_f (by decide) rfl ?_
              refine aw_skip ?_
              have h := leafL h hk5
              exact ⟨_, reb_lit [(0, .sl 1 (List.map enc2 a0)), (1, .int .i64 a1)] [] [] [] (envOk_cons (by conv => lhs; whnf) (by exact rfl) (envOk_cons (by conv => lhs; whnf) (by exact rfl) envOk_nil)) objOk_nil (nodup_b rfl) (nodup_b rfl) rfl rfl, h, rfl⟩
  · rintro s ⟨h, rfl⟩
    unfold gleaninglaw31_QuantSorts_k0 at h
    refine aw_seq_k (fun K17 hK17 => ?_)
    refine aw_regL ?_
    refine alD (some 6) rfl rfl (do_new ty24 rfl rfl) (by decide) ?_
    refine al_nil ?_
    refine hK17 _ ?_
    refine aw_seq_k (fun K18 hK18 => ?_)
    refine aw_regL ?_
    refine alP (some 7) rfl rfl (does_assign (v := .nil) (by exact rfl)) (by decide) ?_
    refine al_nil ?_
    refine hK18 _ ?_
    obtain ⟨q19, h, hk20⟩ := bnd_some h
    refine aw_cut (fun s => ∃ (v6_s_0_1 : Int), ∃ (v6_s_1_1 : Int), ∃ (v6_s_2_1 : Int), ∃ (v6_s_3_1 : Int), ∃ (v6_s_4_1 : Int), ∃ (v6_s_5_1 : Int), ∃ (v6_s_6_1 : Int), ∃ (v6_s_7_1 : Int), ∃ (v6_s_8_1 : Int), ∃ (v6_s_9_1 : Int), ∃ (v7_s_1 : List Int), gleaninglaw31_QuantSorts_k1 a1 v6_s_0_1 v6_s_1_1 v6_s_2_1 v6_s_3_1 v6_s_4_1 v6_s_5_1 v6_s_6_1 v6_s_7_1 v6_s_8_1 v6_s_9_1 v7_s_1 = some r ∧ s = lit [(1, .int .i64 a1), (6, .ptr 6 0 0), (7, .own 7 0)] [((6, 0), .box [.int .i64 v6_s_0_1, .int .i64 v6_s_1_1, .int .i64 v6_s_2_1, .int .i64 v6_s_3_1, .int .i64 v6_s_4_1, .int .i64 v6_s_5_1, .int .i64 v6_s_6_1, .int .i64 v6_s_7_1, .int .i64 v6_s_8_1, .int .i64 v6_s_9_1]), ((7, 0), .arr 3 1 false (List.map enc2 v7_s_1))] [(6, 1), (7, 1)] X) ?_ ?_
    · skip
      refine aw_seq_k (fun K21 hK21 => ?_)
      refine aw_regL ?_
      refine alP (some 8) rfl rfl (does_assign (v := .int .i64 0) (by exact rfl)) (by decide) ?_
      refine al_nil ?_
      refine hK21 _ ?_
      refine aw_block ?_
      refine aw_nilOwn 7 3 1 (by conv => lhs; whnf) (by decide) (by decide) ?_
      refine aw_loop' (fun m s => ∃ (v6_s_0_2 : Int), ∃ (v6_s_1_2 : Int), ∃ (v6_s_2_2 : Int), ∃ (v6_s_3_2 : Int), ∃ (v6_s_4_2 : Int), ∃ (v6_s_5_2 : Int), ∃ (v6_s_6_2 : Int), ∃ (v6_s_7_2 : Int), ∃ (v6_s_8_2 : Int), ∃ (v6_s_9_2 : Int), ∃ (v7_s_2 : List Int), ∃ (v8_2 : Int), loopN (fun (s : Int × Int × Int × Int × Int × Int × Int × Int × Int × Int × List Int × Int) => gleaninglaw31_QuantSorts_l2 a0 s.1 s.2.1 s.2.2.1 s.2.2.2.1 s.2.2.2.2.1 s.2.2.2.2.2.1 s.2.2.2.2.2.2.1 s.2.2.2.2.2.2.2.1 s.2.2.2.2.2.2.2.2.1 s.2.2.2.2.2.2.2.2.2.1 s.2.2.2.2.2.2.2.2.2.2.1 s.2.2.2.2.2.2.2.2.2.2.2) m (v6_s_0_2, v6_s_1_2, v6_s_2_2, v6_s_3_2, v6_s_4_2, v6_s_5_2, v6_s_6_2, v6_s_7_2, v6_s_8_2, v6_s_9_2, v7_s_2, v8_2) = some q19 ∧ s = lit [(0, .sl 1 (List.map enc2 a0)), (1, .int .i64 a1), (6, .ptr 6 0 0), (7, .own 7 0), (8, .int .i64 v8_2)] [((6, 0), .box [.int .i64 v6_s_0_2, .int .i64 v6_s_1_2, .int .i64 v6_s_2_2, .int .i64 v6_s_3_2, .int .i64 v6_s_4_2, .int .i64 v6_s_5_2, .int .i64 v6_s_6_2, .int .i64 v6_s_7_2, .int .i64 v6_s_8_2, .int .i64 v6_s_9_2]), ((7, 0), .arr 3 1 false (List.map enc2 v7_s_2))] [(6, 1), (7, 1)] X) Fu
        ⟨_, reb_lit [(0, .sl 1 (List.map enc2 a0)), (1, .int .i64 a1), (6, .ptr 6 0 0), (7, .own 7 0), (8, .int .i64 (0))] [(6, 0), (7, 0)] [((6, 0), .box [.int .i64 (0), .int .i64 (0), .int .i64 (0), .int .i64 (0), .int .i64 (0), .int .i64 (0), .int .i64 (0), .int .i64 (0), .int .i64 (0), .int .i64 (0)]), ((7, 0), .arr 3 1 false (List.map enc2 []))] [(6, 1), (7, 1)] (envOk_cons (by conv => lhs; whnf) (by exact rfl) (envOk_cons (by conv => lhs; whnf) (by exact rfl) (envOk_cons (by conv => lhs; whnf) (by exact rfl) (envOk_cons (by conv => lhs; whnf) (by exact rfl) (envOk_cons (by conv => lhs; whnf) (by exact rfl) envOk_nil))))) (objOk_cons (by conv => lhs; whnf) (by conv => lhs; whnf) (by exact rfl) (by simp) (objOk_cons (by conv => lhs; whnf) (by conv => lhs; whnf) (by exact rfl) (by simp) objOk_nil)) (nodup_b rfl) (nodup_b rfl) rfl rfl, 0, 0, 0, 0, 0, 0, 0, 0, 0, 0, [], 0, h, rfl⟩ ?_
      rintro m s ⟨v6_s_0_2, v6_s_1_2, v6_s_2_2, v6_s_3_2, v6_s_4_2, v6_s_5_2, v6_s_6_2, v6_s_7_2, v6_s_8_2, v6_s_9_2, v7_s_2, v8_2, h, rfl⟩
      obtain ⟨m2, q22, rfl, h, hq23⟩ := loop_some h
      replace h : gleaninglaw31_QuantSorts_l2 a0 v6_s_0_2 v6_s_1_2 v6_s_2_2 v6_s_3_2 v6_s_4_2 v6_s_5_2 v6_s_6_2 v6_s_7_2 v6_s_8_2 v6_s_9_2 v7_s_2 v8_2 = some q22 := h
      unfold gleaninglaw31_QuantSorts_l2 at h
      refine aw_seq_k (fun K24 hK24 => ?_)
      refine aw_seq_k (fun K25 hK25 => ?_)
      refine aw_regL ?_
      refine alP (some 36) rfl rfl (does_move (v := .int .i64 v8_2) (by exact rfl)) (by decide) ?_
      refine alP (some 37) rfl rfl (does_move (v := .sl 1 (List.map enc2 a0)) (by exact rfl)) (by decide) ?_
      refine alP (some 38) rfl rfl ((does_len_sl (by conv => lhs; whnf) ty31).castp (v' := .int .i64 (List.length a0 : Int)) (by exact len_map _)) (by decide) ?_
      refine alP (some 39) rfl rfl (does_bin (v := .bool (decide (v8_2 < (List.length a0 : Int)))) (by conv => lhs; whnf) (by conv => lhs; whnf) rfl) (by decide) ?_
      refine al_nil ?_
      refine hK25 _ ?_
      refine aw_bool (b := (decide (v8_2 < (List.length a0 : Int)))) 39 rfl (fun c26 => ?_) (fun c26 => ?_)
      · have h := ifT c26 h
        refine aw_cond_t (by decide) rfl ?_
        refine aw_skip ?_
        refine hK24 _ ?_
        refine aw_seq_k (fun K27 hK27 => ?_)
        refine aw_block ?_
        refine aw_seq_k (fun K28 hK28 => ?_)
        refine aw_regd (by kernel_rfl) (by decide +kernel) ?_
        refine aoR (some 42) rfl rfl (does_load (v := .agg [.int .i64 v6_s_0_2, .int .i64 v6_s_1_2, .int .i64 v6_s_2_2, .int .i64 v6_s_3_2, .int .i64 v6_s_4_2, .int .i64 v6_s_5_2, .int .i64 v6_s_6_2, .int .i64 v6_s_7_2, .int .i64 v6_s_8_2, .int .i64 v6_s_9_2]) (by conv => lhs; whnf) (by conv => lhs; whnf) ty24 (by exact rfl)) (by decide) ?_
        refine aoP (some 43) rfl rfl (does_move (v := .sl 1 (List.map enc2 a0)) (by exact rfl)) (by decide) ?_
        refine aoP (some 44) rfl rfl (does_move (v := .int .i64 v8_2) (by exact rfl)) (by decide) ?_
        obtain ⟨g29, h⟩ := gd_some h
        obtain ⟨x30, hx30, h⟩ := bnd_some h
        refine aoP (some 45) rfl rfl (does_indexAddr_sl (el := .int .i64 x30) (by conv => lhs; whnf) (by conv => lhs; whnf) ty31 ty3 g29 (by exact map_get hx30)) (by decide) ?_
        refine aoR (some 46) rfl rfl (does_load (v := .int .i64 x30) (by conv => lhs; whnf) (by conv => lhs; whnf) ty3 (by exact rfl)) (by decide) ?_
        refine aoP (some 47) rfl rfl ((do_build_struct (cs := [.int .u64 0, .int .u64 0, .int .u64 0, .int .u64 0, .str (strOf []), .str (strOf []), .int .i64 0, .int .i64 x30, .bool false, .nil]) ty38 rfl [⟨.struct [(0, 33), (1, 33)], 2, 16, [.int .u64 0, .int .u64 0]⟩, ⟨.int .u64, 1, 8, [.int .u64 0]⟩, ⟨.int .u64, 1, 8, [.int .u64 0]⟩, ⟨.str, 1, 16, [.str ByteArray.empty]⟩, ⟨.str, 1, 16, [.str ByteArray.empty]⟩, ⟨.int .i64, 1, 8, [.int .i64 0]⟩, ⟨.int .i64, 1, 8, [.int .i64 0]⟩, ⟨.bool, 1, 1, [.bool false]⟩, ⟨.slice 70, 1, 24, [.nil]⟩] (by simp only [List.map, ty3, ty33, ty35, ty36, ty4, ty9]) (by rfl) (by exact rfl)).weak (v' := .agg [.int .u64 0, .int .u64 0, .int .u64 0, .int .u64 0, .str (strOf []), .str (strOf []), .int .i64 0, .int .i64 x30, .bool false, .sl 2 (List.map enc69 [])]) (le_agg ⟨le_refl _, le_refl _, le_refl _, le_refl _, le_refl _, le_refl _, le_refl _, le_refl _, le_refl _, le_nil _, trivial⟩)) (by decide) ?_
        obtain ⟨x31, hx31, h⟩ := bnd_some h
        refine aoD (some 48) rfl rfl (do_call0 48 false (gleaningref1_AddCounter_ok (Counter.mk v6_s_0_2 v6_s_1_2 (Arr8_Int.mk v6_s_2_2 v6_s_3_2 v6_s_4_2 v6_s_5_2 v6_s_6_2 v6_s_7_2 v6_s_8_2 v6_s_9_2)) (Span.mk (Trace.mk 0 0) 0 0 (strOf []) (strOf []) 0 x30 false []) 1000 hx31) rfl ent13 rfl rfl) (by decide) ?_
        refine aoD none rfl rfl (do_store (cs' := [.int .i64 x31.Count, .int .i64 x31.Errs, .int .i64 x31.By.c0, .int .i64 x31.By.c1, .int .i64 x31.By.c2, .int .i64 x31.By.c3, .int .i64 x31.By.c4, .int .i64 x31.By.c5, .int .i64 x31.By.c6, .int .i64 x31.By.c7]) (by conv => lhs; whnf) (by conv => lhs; whnf) (by conv => lhs; whnf) ty24 rfl rfl rfl (by exact rfl)) (by decide) ?_
        refine ao_nil_d (by kernel_rfl) ?_
        refine hK28 _ ?_
        refine aw_seq_k (fun K32 hK32 => ?_)
        refine aw_regL ?_
        refine alP (some 49) rfl rfl (does_move (v := .own 7 0) (by exact rfl)) (by decide) ?_
        refine alR (some 50) rfl rfl ((does_len_own (by conv => lhs; whnf) (by conv => lhs; whnf) ty31).cast (v' := .int .i64 (List.length v7_s_2 : Int)) (by exact len_map _)) (by decide) ?_
        refine alP (some 9) rfl rfl (does_assign (v := .int .i64 (List.length v7_s_2 : Int)) (by exact rfl)) (by decide) ?_
        refine al_nil ?_
        refine hK32 _ ?_
        obtain ⟨q33, h, hk34⟩ := bnd_some h
        refine aw_cut (fun s => ∃ (v9_3 : Int), gleaninglaw31_QuantSorts_k3 a0 v7_s_2 v8_2 x31 v9_3 = some q22 ∧ s = lit [(0, .sl 1 (List.map enc2 a0)), (1, .int .i64 a1), (6, .ptr 6 0 0), (7, .own 7 0), (8, .int .i64 v8_2), (9, .int .i64 v9_3)] [((6, 0), .box [.int .i64 x31.Count, .int .i64 x31.Errs, .int .i64 x31.By.c0, .int .i64 x31.By.c1, .int .i64 x31.By.c2, .int .i64 x31.By.c3, .int .i64 x31.By.c4, .int .i64 x31.By.c5, .int .i64 x31.By.c6, .int .i64 x31.By.c7]), ((7, 0), .arr 3 1 false (List.map enc2 v7_s_2))] [(6, 1), (7, 1)] X) ?_ ?_
        · skip
          refine aw_block ?_
          refine aw_loop' (fun m s => ∃ (v9_4 : Int), loopN (fun (s : Int) => gleaninglaw31_QuantSorts_l4 a0 v7_s_2 v8_2 s) m v9_4 = some q33 ∧ s = lit [(0, .sl 1 (List.map enc2 a0)), (1, .int .i64 a1), (6, .ptr 6 0 0), (7, .own 7 0), (8, .int .i64 v8_2), (9, .int .i64 v9_4)] [((6, 0), .box [.int .i64 x31.Count, .int .i64 x31.Errs, .int .i64 x31.By.c0, .int .i64 x31.By.c1, .int .i64 x31.By.c2, .int .i64 x31.By.c3, .int .i64 x31.By.c4, .int .i64 x31.By.c5, .int .i64 x31.By.c6, .int .i64 x31.By.c7]), ((7, 0), .arr 3 1 false (List.map enc2 v7_s_2))] [(6, 1), (7, 1)] X) Fu
            ⟨_, reb_lit [(0, .sl 1 (List.map enc2 a0)), (1, .int .i64 a1), (6, .ptr 6 0 0), (7, .own 7 0), (8, .int .i64 v8_2), (9, .int .i64 (List.length v7_s_2 : Int))] [(6, 0), (7, 0)] [((6, 0), .box [.int .i64 x31.Count, .int .i64 x31.Errs, .int .i64 x31.By.c0, .int .i64 x31.By.c1, .int .i64 x31.By.c2, .int .i64 x31.By.c3, .int .i64 x31.By.c4, .int .i64 x31.By.c5, .int .i64 x31.By.c6, .int .i64 x31.By.c7]), ((7, 0), .arr 3 1 false (List.map enc2 v7_s_2))] [(6, 1), (7, 1)] (envOk_cons (by conv => lhs; whnf) (by exact rfl) (envOk_cons (by conv => lhs; whnf) (by exact rfl) (envOk_cons (by conv => lhs; whnf) (by exact rfl) (envOk_cons (by conv => lhs; whnf) (by exact rfl) (envOk_cons (by conv => lhs; whnf) (by exact rfl) (envOk_cons (by conv => lhs; whnf) (by exact rfl) envOk_nil)))))) (objOk_cons (by conv => lhs; whnf) (by conv => lhs; whnf) (by exact rfl) (by simp) (objOk_cons (by conv => lhs; whnf) (by conv => lhs; whnf) (by exact rfl) (by simp) objOk_nil)) (nodup_b rfl) (nodup_b rfl) rfl rfl, (List.length v7_s_2 : Int), h, rfl⟩ ?_
          rintro m s ⟨v9_4, h, rfl⟩
          obtain ⟨m4, q35, rfl, h, hq36⟩ := loop_some h
          replace h : gleaninglaw31_QuantSorts_l4 a0 v7_s_2 v8_2 v9_4 = some q35 := h
          unfold gleaninglaw31_QuantSorts_l4 at h
          refine aw_seq_k (fun K37 hK37 => ?_)
          refine aw_seq_k (fun K38 hK38 => ?_)
          refine aw_regd (by kernel_rfl) (by decide +kernel) ?_
          refine aoP (some 51) rfl rfl (does_move (v := .int .i64 v9_4) (by exact rfl)) (by decide) ?_
          refine aoP (some 52) rfl rfl (does_bin (v := .bool (decide ((0 : Int) < v9_4))) (by conv => lhs; whnf) (by conv => lhs; whnf) rfl) (by decide) ?_
          refine aoP (some 53) rfl rfl (does_move (v := .bool (decide ((0 : Int) < v9_4))) (by exact rfl)) (by decide) ?_
          refine ao_bool (c := (decide ((0 : Int) < v9_4))) 53 rfl (fun c39 => ?_) (fun c39 => ?_)
          · have h := ifT c39 h
            refine aoP (some 54) rfl rfl (does_move (v := .own 7 0) (by exact rfl)) (by decide) ?_
            refine aoP (some 55) rfl rfl (does_move (v := .int .i64 v9_4) (by exact rfl)) (by decide) ?_
            refine aoP (some 56) rfl rfl (does_bin (v := .int .i64 (IntKind.i64.wrap (v9_4 - 1))) (by conv => lhs; whnf) (by conv => lhs; whnf) rfl) (by decide) ?_
            obtain ⟨g40, h⟩ := gd_some h
            obtain ⟨x41, hx41, h⟩ := bnd_some h
            refine aoR (some 57) rfl rfl (does_indexAddr_own (by conv => lhs; whnf) (by conv => lhs; whnf) (by conv => lhs; whnf) ty31 ty3 g40 (by exact own_lt hx41)) (by decide) ?_
            refine aoR (some 58) rfl rfl (does_load (v := .int .i64 x41) (by conv => lhs; whnf) (cellsAt_eptr (by conv => lhs; whnf) (by exact map_get hx41)) ty3 (by exact rfl)) (by decide) ?_
            refine aoP (some 59) rfl rfl (does_move (v := .sl 1 (List.map enc2 a0)) (by exact rfl)) (by decide) ?_
            refine aoP (some 60) rfl rfl (does_move (v := .int .i64 v8_2) (by exact rfl)) (by decide) ?_
            obtain ⟨g42, h⟩ := gd_some h
            obtain ⟨x43, hx43, h⟩ := bnd_some h
            refine aoP (some 61) rfl rfl (does_indexAddr_sl (el := .int .i64 x43) (by conv => lhs; whnf) (by conv => lhs; whnf) ty31 ty3 g42 (by exact map_get hx43)) (by decide) ?_
            refine aoR (some 62) rfl rfl (does_load (v := .int .i64 x43) (by conv => lhs; whnf) (by conv => lhs; whnf) ty3 (by exact rfl)) (by decide) ?_
            refine aoP (some 63) rfl rfl (does_bin (v := .bool (decide (x43 < x41))) (by conv => lhs; whnf) (by conv => lhs; whnf) rfl) (by decide) ?_
            refine aoP (some 64) rfl rfl (does_pick (v := .bool (decide (x43 < x41))) (by conv => lhs; whnf) (by exact rfl)) (by decide) ?_
            refine ao_nil_d (by kernel_rfl) ?_
            refine hK38 _ ?_
            refine aw_bool (b := (decide (x43 < x41))) 64 rfl (fun c44 => ?_) (fun c44 => ?_)
            · have h := ifT c44 h
              refine aw_cond_t (by decide) rfl ?_
              refine aw_skip ?_
              refine hK37 _ ?_
              refine aw_block ?_
              refine aw_regL ?_
              refine alP (some 65) rfl rfl (does_move (v := .int .i64 v9_4) (by exact rfl)) (by decide) ?_
              refine alP (some 66) rfl rfl (does_bin (v := .int .i64 (IntKind.i64.wrap (v9_4 - 1))) (by conv => lhs; whnf) (by conv => lhs; whnf) rfl) (by decide) ?_
              refine alP (some 9) rfl rfl (does_assign (v := .int .i64 (IntKind.i64.wrap (v9_4 - 1))) (by exact rfl)) (by decide) ?_
              refine al_nil ?_
              have h := leafL h hq36
              exact ⟨m4, Nat.lt_succ_self _, _, reb_lit [(0, .sl 1 (List.map enc2 a0)), (1, .int .i64 a1), (6, .ptr 6 0 0), (7, .own 7 0), (8, .int .i64 v8_2), (9, .int .i64 (IntKind.i64.wrap (v9_4 - 1)))] [(6, 0), (7, 0)] [((6, 0), .box [.int .i64 x31.Count, .int .i64 x31.Errs, .int .i64 x31.By.c0, .int .i64 x31.By.c1, .int .i64 x31.By.c2, .int .i64 x31.By.c3, .int .i64 x31.By.c4, .int .i64 x31.By.c5, .int .i64 x31.By.c6, .int .i64 x31.By.c7]), ((7, 0), .arr 3 1 false (List.map enc2 v7_s_2))] [(6, 1), (7, 1)] (envOk_cons (by conv => lhs; whnf) (by exact rfl) (envOk_cons (by conv => lhs; whnf) (by exact rfl) (envOk_cons (by conv => lhs; whnf) (by exact rfl) (envOk_cons (by conv => lhs; whnf) (by exact rfl) (envOk_cons (by conv => lhs; whnf) (by exact rfl) (envOk_cons (by conv => lhs; whnf) (by exact rfl) envOk_nil)))))) (objOk_cons (by conv => lhs; whnf) (by conv => lhs; whnf) (by exact rfl) (by simp) (objOk_cons (by conv => lhs; whnf) (by conv => lhs; whnf) (by exact rfl) (by simp) objOk_nil)) (nodup_b rfl) (nodup_b rfl) rfl rfl, (IntKind.i64.wrap (v9_4 - 1)), h, rfl⟩
            · have h := ifF c44 h
              refine aw_cond_f (by decide) rfl ?_
              refine aw_exit ?_
              have h := leafR h hq36
              obtain rfl := Option.some.inj h
              have h := hk34
              exact ⟨_, reb_lit [(0, .sl 1 (List.map enc2 a0)), (1, .int .i64 a1), (6, .ptr 6 0 0), (7, .own 7 0), (8, .int .i64 v8_2), (9, .int .i64 v9_4)] [(6, 0), (7, 0)] [((6, 0), .box [.int .i64 x31.Count, .int .i64 x31.Errs, .int .i64 x31.By.c0, .int .i64 x31.By.c1, .int .i64 x31.By.c2, .int .i64 x31.By.c3, .int .i64 x31.By.c4, .int .i64 x31.By.c5, .int .i64 x31.By.c6, .int .i64 x31.By.c7]), ((7, 0), .arr 3 1 false (List.map enc2 v7_s_2))] [(6, 1), (7, 1)] (envOk_cons (by conv => lhs; whnf) (by exact rfl) (envOk_cons (by conv => lhs; whnf) (by exact rfl) (envOk_cons (by conv => lhs; whnf) (by exact rfl) (envOk_cons (by conv => lhs; whnf) (by exact rfl) (envOk_cons (by conv => lhs; whnf) (by exact rfl) (envOk_cons (by conv => lhs; whnf) (by exact rfl) envOk_nil)))))) (objOk_cons (by conv => lhs; whnf) (by conv => lhs; whnf) (by exact rfl) (by simp) (objOk_cons (by conv => lhs; whnf) (by conv => lhs; whnf) (by exact rfl) (by simp) objOk_nil)) (nodup_b rfl) (nodup_b rfl) rfl rfl, v9_4, h, rfl⟩
          · have h := ifF c39 h
            refine aoS (some 54) rfl rfl (by decide) ?_
            refine aoS (some 55) rfl rfl (by decide) ?_
            refine aoS (some 56) rfl rfl (by decide) ?_
            refine aoS (some 57) rfl rfl (by decide) ?_
            refine aoS (some 58) rfl rfl (by decide) ?_
            refine aoS (some 59) rfl rfl (by decide) ?_
            refine aoS (some 60) rfl rfl (by decide) ?_
            refine aoS (some 61) rfl rfl (by decide) ?_
            refine aoS (some 62) rfl rfl (by decide) ?_
            refine aoS (some 63) rfl rfl (by decide) ?_
            refine aoP (some 64) rfl rfl (does_pick (v := .bool false) (by conv => lhs; whnf) (by exact rfl)) (by decide) ?_
            refine ao_nil_d (by kernel_rfl) ?_
            refine hK38 _ ?_
            refine aw_cond_f (by decide) rfl ?_
            refine aw_exit ?_
            have h := leafR h hq36
            obtain rfl := Option.some.inj h
            have h := hk34
            exact ⟨_, reb_lit [(0, .sl 1 (List.map enc2 a0)), (1, .int .i64 a1), (6, .ptr 6 0 0), (7, .own 7 0), (8, .int .i64 v8_2), (9, .int .i64 v9_4)] [(6, 0), (7, 0)] [((6, 0), .box [.int .i64 x31.Count, .int .i64 x31.Errs, .int .i64 x31.By.c0, .int .i64 x31.By.c1, .int .i64 x31.By.c2, .int .i64 x31.By.c3, .int .i64 x31.By.c4, .int .i64 x31.By.c5, .int .i64 x31.By.c6, .int .i64 x31.By.c7]), ((7, 0), .arr 3 1 false (List.map enc2 v7_s_2))] [(6, 1), (7, 1)] (envOk_cons (by conv => lhs; whnf) (by exact rfl) (envOk_cons (by conv => lhs; whnf) (by exact rfl) (envOk_cons (by conv => lhs; whnf) (by exact rfl) (envOk_cons (by conv => lhs; whnf) (by exact rfl) (envOk_cons (by conv => lhs; whnf) (by exact rfl) (envOk_cons (by conv => lhs; whnf) (by exact rfl) envOk_nil)))))) (objOk_cons (by conv => lhs; whnf) (by conv => lhs; whnf) (by exact rfl) (by simp) (objOk_cons (by conv => lhs; whnf) (by conv => lhs; whnf) (by exact rfl) (by simp) objOk_nil)) (nodup_b rfl) (nodup_b rfl) rfl rfl, v9_4, h, rfl⟩
        · rintro s ⟨v9_3, h, rfl⟩
          unfold gleaninglaw31_QuantSorts_k3 at h
          refine aw_freeze (d := 7) (n := 0) (by conv => lhs; whnf) ?_
          refine aw_regd (by kernel_rfl) (by decide +kernel) ?_
          refine aoP (some 67) rfl rfl (does_move (v := .own 7 0) (by exact rfl)) (by decide) ?_
          refine aoP (some 68) rfl rfl (does_move (v := .int .i64 v9_3) (by exact rfl)) (by decide) ?_
          obtain ⟨g45, h⟩ := gd_some h
          obtain ⟨g46, h⟩ := gd_some h
          refine aoD (some 69) rfl rfl (does_slice_own (l := 0) (k := (Int.toNat v9_3)) (by conv => lhs; whnf) (by conv => lhs; whnf) ty31 ty3 bd_none (bd_some (by conv => lhs; whnf) (by exact (nat_of (by omega)))) (by (try simp only [List.length_map]); omega) (by (try simp only [List.length_map]); omega) (by exact part_h _ _)) (by decide) ?_
          obtain ⟨g47, h⟩ := gd_some h
          refine aoD (some 70) rfl rfl (do_append (v := List.map enc2 (List.take (Int.toNat v9_3) v7_s_2)) (by conv => lhs; whnf) (by conv => lhs; whnf) ty31 ty3 rfl rfl (by conv => lhs; whnf) (by first | exact .inl rfl | exact .inr ⟨rfl, rfl⟩) (by conv => lhs; whnf) (by first | exact .inr rfl | exact .inl rfl) (List.nil_append _) (fit_map g47)) (by decide) ?_
          refine aoP (some 71) rfl rfl (does_move (v := .sl 1 (List.map enc2 a0)) (by exact rfl)) (by decide) ?_
          refine aoP (some 72) rfl rfl (does_move (v := .int .i64 v8_2) (by exact rfl)) (by decide) ?_
          obtain ⟨g48, h⟩ := gd_some h
          obtain ⟨x49, hx49, h⟩ := bnd_some h
          refine aoP (some 73) rfl rfl (does_indexAddr_sl (el := .int .i64 x49) (by conv => lhs; whnf) (by conv => lhs; whnf) ty31 ty3 g48 (by exact map_get hx49)) (by decide) ?_
          refine aoR (some 74) rfl rfl (does_load (v := .int .i64 x49) (by conv => lhs; whnf) (by conv => lhs; whnf) ty3 (by exact rfl)) (by decide) ?_
          refine aoD (some 75) rfl rfl (do_buildSlice (xs := List.map enc2 [x49]) ty31 ty3 rfl rfl rfl rfl rfl rfl rfl rfl) (by decide) ?_
          obtain ⟨g50, h⟩ := gd_some h
          refine aoD (some 76) rfl rfl (do_append (v := List.map enc2 ((List.take (Int.toNat v9_3) v7_s_2) ++ [x49])) (by conv => lhs; whnf) (by conv => lhs; whnf) ty31 ty3 rfl rfl (by conv => lhs; whnf) (by first | exact .inl rfl | exact .inr ⟨rfl, rfl⟩) (by conv => lhs; whnf) (by first | exact .inr rfl | exact .inl rfl) (map_app _ _) (fit_map g50)) (by decide) ?_
          refine aoP (some 77) rfl rfl (does_move (v := .own 7 0) (by exact rfl)) (by decide) ?_
          refine aoP (some 78) rfl rfl (does_move (v := .int .i64 v9_3) (by exact rfl)) (by decide) ?_
          obtain ⟨g51, h⟩ := gd_some h
          obtain ⟨g52, h⟩ := gd_some h
          refine aoD (some 79) rfl rfl (does_slice_own (l := (Int.toNat v9_3)) (by conv => lhs; whnf) (by conv => lhs; whnf) ty31 ty3 (bd_some (by conv => lhs; whnf) (by exact (nat_of g51))) bd_none (by (try simp only [List.length_map]); omega) (by (try simp only [List.length_map]); omega) (by exact part_l _ _)) (by decide) ?_
          obtain ⟨g53, h⟩ := gd_some h
          refine aoD (some 80) rfl rfl (do_append (v := List.map enc2 (((List.take (Int.toNat v9_3) v7_s_2) ++ [x49]) ++ (List.drop (Int.toNat v9_3) v7_s_2))) (by conv => lhs; whnf) (by conv => lhs; whnf) ty31 ty3 rfl rfl (by conv => lhs; whnf) (by first | exact .inl rfl | exact .inr ⟨rfl, rfl⟩) (by conv => lhs; whnf) (by first | exact .inr rfl | exact .inl rfl) (map_app _ _) (fit_map g53)) (by decide) ?_
          refine aoP (some 7) rfl rfl (does_assign (v := .own 80 0) (by exact rfl)) (by decide) ?_
          refine ao_nil_d (by kernel_rfl) ?_
          refine hK27 _ ?_
          refine aw_regL ?_
          refine alP (some 40) rfl rfl (does_move (v := .int .i64 v8_2) (by exact rfl)) (by decide) ?_
          refine alP (some 41) rfl rfl (does_bin (v := .int .i64 (IntKind.i64.wrap (v8_2 + 1))) (by conv => lhs; whnf) (by conv => lhs; whnf) rfl) (by decide) ?_
          refine alP (some 8) rfl rfl (does_assign (v := .int .i64 (IntKind.i64.wrap (v8_2 + 1))) (by exact rfl)) (by decide) ?_
          refine al_nil ?_
          have h := leafL h hq23
          exact ⟨m2, Nat.lt_succ_self _, _, reb_lit [(0, .sl 1 (List.map enc2 a0)), (1, .int .i64 a1), (6, .ptr 6 0 0), (7, .own 7 0), (8, .int .i64 (IntKind.i64.wrap (v8_2 + 1)))] [(6, 0), (80, 0)] [((6, 0), .box [.int .i64 x31.Count, .int .i64 x31.Errs, .int .i64 x31.By.c0, .int .i64 x31.By.c1, .int .i64 x31.By.c2, .int .i64 x31.By.c3, .int .i64 x31.By.c4, .int .i64 x31.By.c5, .int .i64 x31.By.c6, .int .i64 x31.By.c7]), ((7, 0), .arr 3 1 false (List.map enc2 (((List.take (Int.toNat v9_3) v7_s_2) ++ [x49]) ++ (List.drop (Int.toNat v9_3) v7_s_2))))] [(6, 1), (7, 1)] (envOk_cons (by conv => lhs; whnf) (by exact rfl) (envOk_cons (by conv => lhs; whnf) (by exact rfl) (envOk_cons (by conv => lhs; whnf) (by exact rfl) (envOk_cons (by conv => lhs; whnf) (by exact rfl) (envOk_cons (by conv => lhs; whnf) (by exact rfl) envOk_nil))))) (objOk_cons (by conv => lhs; whnf) (by conv => lhs; whnf) (by exact rfl) (by simp) (objOk_cons (by conv => lhs; whnf) (by conv => lhs; whnf) (by exact rfl) (by simp) objOk_nil)) (nodup_b rfl) (nodup_b rfl) rfl rfl, x31.Count, x31.Errs, x31.By.c0, x31.By.c1, x31.By.c2, x31.By.c3, x31.By.c4, x31.By.c5, x31.By.c6, x31.By.c7, (((List.take (Int.toNat v9_3) v7_s_2) ++ [x49]) ++ (List.drop (Int.toNat v9_3) v7_s_2)), (IntKind.i64.wrap (v8_2 + 1)), h, rfl⟩
      · have h := ifF c26 h
        refine aw_cond_f (by decide) rfl ?_
        refine aw_exit ?_
        have h := leafR h hq23
        obtain rfl := Option.some.inj h
        have h := hk20
        exact ⟨_, reb_lit [(1, .int .i64 a1), (6, .ptr 6 0 0), (7, .own 7 0)] [(6, 0), (7, 0)] [((6, 0), .box [.int .i64 v6_s_0_2, .int .i64 v6_s_1_2, .int .i64 v6_s_2_2, .int .i64 v6_s_3_2, .int .i64 v6_s_4_2, .int .i64 v6_s_5_2, .int .i64 v6_s_6_2, .int .i64 v6_s_7_2, .int .i64 v6_s_8_2, .int .i64 v6_s_9_2]), ((7, 0), .arr 3 1 false (List.map enc2 v7_s_2))] [(6, 1), (7, 1)] (envOk_cons (by conv => lhs; whnf) (by exact rfl) (envOk_cons (by conv => lhs; whnf) (by exact rfl) (envOk_cons (by conv => lhs; whnf) (by exact rfl) envOk_nil))) (objOk_cons (by conv => lhs; whnf) (by conv => lhs; whnf) (by exact rfl) (by simp) (objOk_cons (by conv => lhs; whnf) (by conv => lhs; whnf) (by exact rfl) (by simp) objOk_nil)) (nodup_b rfl) (nodup_b rfl) rfl rfl, v6_s_0_2, v6_s_1_2, v6_s_2_2, v6_s_3_2, v6_s_4_2, v6_s_5_2, v6_s_6_2, v6_s_7_2, v6_s_8_2, v6_s_9_2, v7_s_2, h, rfl⟩
    · rintro s ⟨v6_s_0_1, v6_s_1_1, v6_s_2_1, v6_s_3_1, v6_s_4_1, v6_s_5_1, v6_s_6_1, v6_s_7_1, v6_s_8_1, v6_s_9_1, v7_s_1, h, rfl⟩
      unfold gleaninglaw31_QuantSorts_k1 at h
      refine aw_seq_k (fun K54 hK54 => ?_)
      refine aw_regL ?_
      refine alP (some 81) rfl rfl (does_move (v := .int .i64 a1) (by exact rfl)) (by decide) ?_
      refine alP (some 82) rfl rfl (does_move (v := .own 7 0) (by exact rfl)) (by decide) ?_
      refine alR (some 83) rfl rfl ((does_len_own (by conv => lhs; whnf) (by conv => lhs; whnf) ty31).cast (v' := .int .i64 (List.length v7_s_1 : Int)) (by exact len_map _)) (by decide) ?_
      refine alP (some 84) rfl rfl (does_bin (v := .int .i64 (IntKind.i64.wrap (a1 * (List.length v7_s_1 : Int)))) (by conv => lhs; whnf) (by conv => lhs; whnf) rfl) (by decide) ?_
      refine alP (some 85) rfl rfl (does_bin (v := .int .i64 (IntKind.i64.wrap ((IntKind.i64.wrap (a1 * (List.length v7_s_1 : Int))) + 999))) (by conv => lhs; whnf) (by conv => lhs; whnf) rfl) (by decide) ?_
      refine alP (some 86) rfl rfl (does_bin (v := .int .i64 (IntKind.i64.wrap (Int.tdiv (IntKind.i64.wrap ((IntKind.i64.wrap (a1 * (List.length v7_s_1 : Int))) + 999)) 1000))) (by conv => lhs; whnf) (by conv => lhs; whnf) rfl) (by decide) ?_
      refine alP (some 87) rfl rfl (does_bin (v := .int .i64 (IntKind.i64.wrap ((IntKind.i64.wrap (Int.tdiv (IntKind.i64.wrap ((IntKind.i64.wrap (a1 * (List.length v7_s_1 : Int))) + 999)) 1000)) - 1))) (by conv => lhs; whnf) (by conv => lhs; whnf) rfl) (by decide) ?_
      refine alP (some 10) rfl rfl (does_assign (v := .int .i64 (IntKind.i64.wrap ((IntKind.i64.wrap (Int.tdiv (IntKind.i64.wrap ((IntKind.i64.wrap (a1 * (List.length v7_s_1 : Int))) + 999)) 1000)) - 1))) (by exact rfl)) (by decide) ?_
      refine al_nil ?_
      refine hK54 _ ?_
      obtain ⟨q55, h, hk56⟩ := bnd_some h
      refine aw_cut (fun s => ∃ (v10_5 : Int), gleaninglaw31_QuantSorts_k5 a1 v6_s_0_1 v6_s_1_1 v6_s_2_1 v6_s_3_1 v6_s_4_1 v6_s_5_1 v6_s_6_1 v6_s_7_1 v6_s_8_1 v6_s_9_1 v7_s_1 v10_5 = some r ∧ s = lit [(1, .int .i64 a1), (6, .ptr 6 0 0), (7, .own 7 0), (10, .int .i64 v10_5)] [((6, 0), .box [.int .i64 v6_s_0_1, .int .i64 v6_s_1_1, .int .i64 v6_s_2_1, .int .i64 v6_s_3_1, .int .i64 v6_s_4_1, .int .i64 v6_s_5_1, .int .i64 v6_s_6_1, .int .i64 v6_s_7_1, .int .i64 v6_s_8_1, .int .i64 v6_s_9_1]), ((7, 0), .arr 3 1 false (List.map enc2 v7_s_1))] [(6, 1), (7, 1)] X) ?_ ?_
      · skip
        refine aw_seq_k (fun K57 hK57 => ?_)
        refine aw_regL ?_
        refine alP (some 88) rfl rfl (does_move (v := .int .i64 (IntKind.i64.wrap ((IntKind.i64.wrap (Int.tdiv (IntKind.i64.wrap ((IntKind.i64.wrap (a1 * (List.length v7_s_1 : Int))) + 999)) 1000)) - 1))) (by exact rfl)) (by decide) ?_
        refine alP (some 89) rfl rfl (does_bin (v := .bool (decide ((IntKind.i64.wrap ((IntKind.i64.wrap (Int.tdiv (IntKind.i64.wrap ((IntKind.i64.wrap (a1 * (List.length v7_s_1 : Int))) + 999)) 1000)) - 1)) < 0))) (by conv => lhs; whnf) (by conv => lhs; whnf) rfl) (by decide) ?_
        refine al_nil ?_
        refine hK57 _ ?_
        refine aw_bool (b := (decide ((IntKind.i64.wrap ((IntKind.i64.wrap (Int.tdiv (IntKind.i64.wrap ((IntKind.i64.wrap (a1 * (List.length v7_s_1 : Int))) + 999)) 1000)) - 1)) < 0))) 89 rfl (fun c58 => ?_) (fun c58 => ?_)
        · have h := ifT c58 h
          refine aw_cond_t (by decide) rfl ?_
          refine aw_regL ?_
          refine alP (some 10) rfl rfl (does_assign (v := .int .i64 0) (by exact rfl)) (by decide) ?_
          refine al_nil ?_
          obtain rfl := Option.some.inj h
          have h := hk56
          exact ⟨_, reb_lit [(1, .int .i64 a1), (6, .ptr 6 0 0), (7, .own 7 0), (10, .int .i64 (0))] [(6, 0), (7, 0)] [((6, 0), .box [.int .i64 v6_s_0_1, .int .i64 v6_s_1_1, .int .i64 v6_s_2_1, .int .i64 v6_s_3_1, .int .i64 v6_s_4_1, .int .i64 v6_s_5_1, .int .i64 v6_s_6_1, .int .i64 v6_s_7_1, .int .i64 v6_s_8_1, .int .i64 v6_s_9_1]), ((7, 0), .arr 3 1 false (List.map enc2 v7_s_1))] [(6, 1), (7, 1)] (envOk_cons (by conv => lhs; whnf) (by exact rfl) (envOk_cons (by conv => lhs; whnf) (by exact rfl) (envOk_cons (by conv => lhs; whnf) (by exact rfl) (envOk_cons (by conv => lhs; whnf) (by exact rfl) envOk_nil)))) (objOk_cons (by conv => lhs; whnf) (by conv => lhs; whnf) (by exact rfl) (by simp) (objOk_cons (by conv => lhs; whnf) (by conv => lhs; whnf) (by exact rfl) (by simp) objOk_nil)) (nodup_b rfl) (nodup_b rfl) rfl rfl, 0, h, rfl⟩
        · have h := ifF c58 h
          refine aw_cond_f (by decide) rfl ?_
          refine aw_skip ?_
          obtain rfl := Option.some.inj h
          have h := hk56
          exact ⟨_, reb_lit [(1, .int .i64 a1), (6, .ptr 6 0 0), (7, .own 7 0), (10, .int .i64 (IntKind.i64.wrap ((IntKind.i64.wrap (Int.tdiv (IntKind.i64.wrap ((IntKind.i64.wrap (a1 * (List.length v7_s_1 : Int))) + 999)) 1000)) - 1)))] [(6, 0), (7, 0)] [((6, 0), .box [.int .i64 v6_s_0_1, .int .i64 v6_s_1_1, .int .i64 v6_s_2_1, .int .i64 v6_s_3_1, .int .i64 v6_s_4_1, .int .i64 v6_s_5_1, .int .i64 v6_s_6_1, .int .i64 v6_s_7_1, .int .i64 v6_s_8_1, .int .i64 v6_s_9_1]), ((7, 0), .arr 3 1 false (List.map enc2 v7_s_1))] [(6, 1), (7, 1)] (envOk_cons (by conv => lhs; whnf) (by exact rfl) (envOk_cons (by conv => lhs; whnf) (by exact rfl) (envOk_cons (by conv => lhs; whnf) (by exact rfl) (envOk_cons (by conv => lhs; whnf) (by exact rfl) envOk_nil)))) (objOk_cons (by conv => lhs; whnf) (by conv => lhs; whnf) (by exact rfl) (by simp) (objOk_cons (by conv => lhs; whnf) (by conv => lhs; whnf) (by exact rfl) (by simp) objOk_nil)) (nodup_b rfl) (nodup_b rfl) rfl rfl, (IntKind.i64.wrap ((IntKind.i64.wrap (Int.tdiv (IntKind.i64.wrap ((IntKind.i64.wrap (a1 * (List.length v7_s_1 : Int))) + 999)) 1000)) - 1)), h, rfl⟩
      · rintro s ⟨v10_5, h, rfl⟩
        unfold gleaninglaw31_QuantSorts_k5 at h
        refine aw_seq_k (fun K59 hK59 => ?_)
        refine aw_regL ?_
        refine alD (some 90) rfl rfl (do_buildSlice (xs := List.map enc2 [0, 1, 5, 10, 50, 100, 500, 1000]) ty31 ty3 rfl rfl rfl rfl rfl rfl rfl rfl) (by decide) ?_
        refine alP (some 11) rfl rfl (does_assign (v := .own 90 0) (by exact rfl)) (by decide) ?_
        refine al_nil ?_
        refine hK59 _ ?_
        refine aw_seq_k (fun K60 hK60 => ?_)
        refine aw_regL ?_
        refine alR (some 92) rfl rfl (does_load (v := .agg [.int .i64 v6_s_0_1, .int .i64 v6_s_1_1, .int .i64 v6_s_2_1, .int .i64 v6_s_3_1, .int .i64 v6_s_4_1, .int .i64 v6_s_5_1, .int .i64 v6_s_6_1, .int .i64 v6_s_7_1, .int .i64 v6_s_8_1, .int .i64 v6_s_9_1]) (by conv => lhs; whnf) (by conv => lhs; whnf) ty24 (by exact rfl)) (by decide) ?_
        refine alP (some 93) rfl rfl (does_move (v := .int .i64 a1) (by exact rfl)) (by decide) ?_
        obtain ⟨x61, hx61, h⟩ := bnd_some h
        refine alD (some 94) rfl rfl (do_call0 94 false (quant_Quantile_ok (Counter.mk v6_s_0_1 v6_s_1_1 (Arr8_Int.mk v6_s_2_1 v6_s_3_1 v6_s_4_1 v6_s_5_1 v6_s_6_1 v6_s_7_1 v6_s_8_1 v6_s_9_1)) a1 hx61) rfl ent7 rfl rfl) (by decide) ?_
        refine alP (some 91) rfl rfl (does_move (v := .tup [.int .i64 x61.1, .bool x61.2]) (by exact rfl)) (by decide) ?_
        refine alP (some 95) rfl rfl (does_extract (v := .int .i64 x61.1) (by conv => lhs; whnf) (by exact rfl)) (by decide) ?_
        refine alP (some 96) rfl rfl (does_extract (v := .bool x61.2) (by conv => lhs; whnf) (by exact rfl)) (by decide) ?_
        refine alP (some 12) rfl rfl (does_assign (v := .int .i64 x61.1) (by exact rfl)) (by decide) ?_
        refine alP (some 13) rfl rfl (does_assign (v := .bool x61.2) (by exact rfl)) (by decide) ?_
        refine al_nil ?_
        refine hK60 _ ?_
        refine aw_seq_k (fun K62 hK62 => ?_)
        refine aw_regL ?_
        refine alP (some 97) rfl rfl (does_move (v := .bool x61.2) (by exact rfl)) (by decide) ?_
        refine alP (some 98) rfl rfl (does_move (v := .bool x61.2) (by exact rfl)) (by decide) ?_
        refine al_bool (c := x61.2) 98 rfl (fun c63 => ?_) (fun c63 => ?_)
        · have h := ifT c63 h
          refine alP (some 99) rfl rfl (does_move (v := .int .i64 x61.1) (by exact rfl)) (by decide) ?_
          refine alP (some 100) rfl rfl (does_move (v := .own 90 0) (by exact rfl)) (by decide) ?_
          refine alP (some 101) rfl rfl (does_move (v := .own 7 0) (by exact rfl)) (by decide) ?_
          refine alP (some 102) rfl rfl (does_move (v := .int .i64 v10_5) (by exact rfl)) (by decide) ?_
          obtain ⟨g64, h⟩ := gd_some h
          obtain ⟨x65, hx65, h⟩ := bnd_some h
          refine alR (some 103) rfl rfl (does_indexAddr_own (by conv => lhs; whnf) (by conv => lhs; whnf) (by conv => lhs; whnf) ty31 ty3 g64 (by exact own_lt hx65)) (by decide) ?_
          refine alR (some 104) rfl rfl (does_load (v := .int .i64 x65) (by conv => lhs; whnf) (cellsAt_eptr (by conv => lhs; whnf) (by exact map_get hx65)) ty3 (by exact rfl)) (by decide) ?_
          obtain ⟨x66, hx66, h⟩ := bnd_some h
          refine alD (some 105) rfl rfl (do_call0 105 false (gleaningref1_Of_ok x65 hx66) rfl ent14 rfl rfl) (by decide) ?_
          obtain ⟨g67, h⟩ := gd_some h
          obtain ⟨x68, hx68, h⟩ := bnd_some h
          refine alR (some 106) rfl rfl (does_indexAddr_own (by conv => lhs; whnf) (by conv => lhs; whnf) (by conv => lhs; whnf) ty31 ty3 g67 (by exact own_lt hx68)) (by decide) ?_
          refine alR (some 107) rfl rfl (does_load (v := .int .i64 x68) (by conv => lhs; whnf) (cellsAt_eptr (by conv => lhs; whnf) (by exact map_get hx68)) ty3 (by exact rfl)) (by decide) ?_
          refine alP (some 108) rfl rfl (does_bin (v := .bool (x61.1 == x68)) (by conv => lhs; whnf) (by conv => lhs; whnf) rfl) (by decide) ?_
          refine alP (some 109) rfl rfl (does_pick (v := .bool (x61.1 == x68)) (by conv => lhs; whnf) (by exact rfl)) (by decide) ?_
          refine alP (some 4) rfl rfl (does_assign (v := .bool (x61.1 == x68)) (by exact rfl)) (by decide) ?_
          refine al_nil ?_
          refine hK62 _ ?_
          refine aw_ret ?_
          obtain rfl := Option.some.inj h
          exact ret_ok1 (by conv => lhs; whnf) (by conv => lhs; whnf) (by exact rfl) (.inr rfl) rfl
        · have h := ifF c63 h
          refine alS (some 99) rfl rfl (by decide) ?_
          refine alS (some 100) rfl rfl (by decide) ?_
          refine alS (some 101) rfl rfl (by decide) ?_
          refine alS (some 102) rfl rfl (by decide) ?_
          refine alS (some 103) rfl rfl (by decide) ?_
          refine alS (some 104) rfl rfl (by decide) ?_
          refine alS (some 105) rfl rfl (by decide) ?_
          refine alS (some 106) rfl rfl (by decide) ?_
          refine alS (some 107) rfl rfl (by decide) ?_
          refine alS (some 108) rfl rfl (by decide) ?_
          refine alP (some 109) rfl rfl (does_pick (v := .bool false) (by conv => lhs; whnf) (by exact rfl)) (by decide) ?_
          refine alP (some 4) rfl rfl (does_assign (v := .bool false) (by exact rfl)) (by decide) ?_
          refine al_nil ?_
          refine hK62 _ ?_
          refine aw_ret ?_
          obtain rfl := Option.some.inj h
          exact ret_ok1 (by conv => lhs; whnf) (by conv => lhs; whnf) (by exact rfl) (.inr rfl) rfl
theorem sh31 : ∀ (m : Nat) (cs : List PV), Shape Try.prog m 31 cs → ∃ a : List Int, cs = [.sl 1 (List.map enc2 a)] ∧ ((List.length a) ≤ maxLen ∧ ∀ y ∈ a, inI .i64 y) := fun m cs h => by
  obtain ⟨l, h1, h2, h3⟩ := shape_rows (f := enc2) (Q := fun y => inI .i64 y) h Try.underlying31 (fun m ps hs => by
    obtain ⟨a, rfl, hw⟩ := sh3 m ps hs
    exact ⟨a, by rw [show aggT Try.prog 3 = false by kernel_rfl]; rfl, hw⟩)
  exact ⟨l, h1.trans (by rw [show Try.prog.cellsOf 3 = 1 by kernel_rfl]), h2, h3⟩
end Go.Proofs.Ytmhbopjjkgjbnaa.Ab
