/- Any quantile, and the rate. -/
import Derived.Test.YtoecalgfdphghaaXQ0
import Derived.Test.YtoecalgfdphghaaProg
namespace Go.Proofs.Ytoecalgfdphghaa.Ab
open Go Go.RowKit
set_option linter.unusedVariables false
set_option linter.unusedSimpArgs false
theorem ty5 : tyOf Try.prog 5 = some ⟨.int .u8, 1, 1, [.int .u8 0]⟩ := by kernel_rfl
theorem ty9 : tyOf Try.prog 9 = some ⟨.str, 1, 16, [.str ByteArray.empty]⟩ := by kernel_rfl
theorem ty47 : tyOf Try.prog 47 = some ⟨.slice 3, 1, 24, [.nil]⟩ := by kernel_rfl
theorem ty55 : tyOf Try.prog 55 = some ⟨.int .u64, 1, 8, [.int .u64 0]⟩ := by kernel_rfl
theorem ent9 : Ent Try.prog 9 := ⟨_, Try.func9, by kernel_rfl, rfl⟩
theorem ent10 : Ent Try.prog 10 := ⟨_, Try.func10, by kernel_rfl, rfl⟩
theorem ent11 : Ent Try.prog 11 := ⟨_, Try.func11, by kernel_rfl, rfl⟩
theorem ent20 : Ent Try.prog 20 := ⟨_, Try.func20, by kernel_rfl, rfl⟩
theorem ent22 : Ent Try.prog 22 := ⟨_, Try.func22, by kernel_rfl, rfl⟩
theorem ent29 : Ent Try.prog 29 := ⟨_, Try.func29, by kernel_rfl, rfl⟩
theorem ent39 : Ent Try.prog 39 := ⟨_, Try.func39, by kernel_rfl, rfl⟩
def quant_Quantile_l1 (a0 : Counter) (a1 : Int) (x3 : Int) (v7_1 : Int) (v24_1 : Int) : Option ((Int × Int) ⊕ (Int × Bool)) :=
  if (decide (v24_1 < (List.length [0, 1, 5, 10, 50, 100, 500, 1000] : Int))) = true then (gd (0 ≤ v24_1) (Option.bind ([0, 1, 5, 10, 50, 100, 500, 1000][(Int.toNat v24_1)]?) (fun (x24 : Int) => gd (0 ≤ v24_1) (gd (v24_1 < 8) (Option.bind (([a0.By.c0, a0.By.c1, a0.By.c2, a0.By.c3, a0.By.c4, a0.By.c5, a0.By.c6, a0.By.c7] : List Int)[(Int.toNat v24_1)]?) (fun (x28 : Int) => Option.bind (quant_plus v7_1 x28) (fun (x29 : Int) => if (decide ((0 : Int) < x29)) = true then (Option.bind (quant_less x29 1000 a1 x3) (fun (x32 : Bool) => if (!x32) = true then (some (Sum.inr (x24, true))) else (some (Sum.inl (x29, (IntKind.i64.wrap (v24_1 + 1))))))) else (some (Sum.inl (x29, (IntKind.i64.wrap (v24_1 + 1)))))))))))) else (some (Sum.inr (0, false)))
def quant_Quantile_k0 (a0 : Counter) (a1 : Int) (x3 : Int) : Option (Int × Bool) :=
  loopN (fun (s : Int × Int) => quant_Quantile_l1 a0 a1 x3 s.1 s.2) Fu (0, 0)
def quant_Quantile (a0 : Counter) (a1 : Int) : Option (Int × Bool) :=
  Option.bind (quant_Total a0) (fun (x3 : Int) => Option.bind (if (x3 == 0) = true then (some (Sum.inr (0, false))) else (if (decide (a1 < 0)) = true then (some (Sum.inr (0, false))) else (if (decide ((1000 : Int) < a1)) = true then (some (Sum.inr (0, false))) else (some (Sum.inl ()))))) (Sum.elim (fun (s : Unit) => quant_Quantile_k0 a0 a1 x3) some))
set_option maxRecDepth 100000 in
set_option maxHeartbeats 8000000 in
/-- gleaning/quant.Quantile -/
theorem quant_Quantile_ok (a0 : Counter) (a1 : Int) {r : Int × Bool} (h : quant_Quantile a0 a1 = some r) : Ok Try.prog 9 [.agg [.int .i64 a0.Count, .int .i64 a0.Errs, .int .i64 a0.By.c0, .int .i64 a0.By.c1, .int .i64 a0.By.c2, .int .i64 a0.By.c3, .int .i64 a0.By.c4, .int .i64 a0.By.c5, .int .i64 a0.By.c6, .int .i64 a0.By.c7], .int .i64 a1] [] [] (.tup [.int .i64 r.1, .bool r.2]) [] [] := by
  unfold quant_Quantile at h
  refine ok_of_code Try.func9 rfl (by show (2 : Nat) ≤ _; decide) (Nat.le_refl _) fun X => ?_
  refine aw_seq_k (fun K1 hK1 => ?_)
  refine aw_regL ?_
  refine alD (some 2) rfl rfl (do_box (by conv => lhs; whnf) rfl rfl) (by decide) ?_
  refine alP (some 4) rfl rfl (does_assign (v := .int .i64 0) (by exact rfl)) (by decide) ?_
  refine alP (some 5) rfl rfl (does_assign (v := .bool false) (by exact rfl)) (by decide) ?_
  refine al_nil ?_
  refine hK1 _ ?_
  refine aw_seq_k (fun K2 hK2 => ?_)
  refine aw_regL ?_
  refine alR (some 10) rfl rfl (does_load (v := .agg [.int .i64 a0.Count, .int .i64 a0.Errs, .int .i64 a0.By.c0, .int .i64 a0.By.c1, .int .i64 a0.By.c2, .int .i64 a0.By.c3, .int .i64 a0.By.c4, .int .i64 a0.By.c5, .int .i64 a0.By.c6, .int .i64 a0.By.c7]) (by conv => lhs; whnf) (by conv => lhs; whnf) ty26 (by exact rfl)) (by decide) ?_
  obtain ⟨x3, hx3, h⟩ := bnd_some h
  refine alD (some 11) rfl rfl (do_call0 11 false (quant_Total_ok a0 hx3) rfl ent11 rfl rfl) (by decide) ?_
  refine alP (some 6) rfl rfl (does_assign (v := .int .i64 x3) (by exact rfl)) (by decide) ?_
  refine al_nil ?_
  refine hK2 _ ?_
  obtain ⟨q4, h, hk5⟩ := bnd_some h
  refine aw_cut (fun s => quant_Quantile_k0 a0 a1 x3 = some r ∧ s = lit [(1, .int .i64 a1), (2, .ptr 2 0 0), (6, .int .i64 x3)] [((2, 0), .box [.int .i64 a0.Count, .int .i64 a0.Errs, .int .i64 a0.By.c0, .int .i64 a0.By.c1, .int .i64 a0.By.c2, .int .i64 a0.By.c3, .int .i64 a0.By.c4, .int .i64 a0.By.c5, .int .i64 a0.By.c6, .int .i64 a0.By.c7])] [(2, 1)] X) ?_ ?_
  · skip
    refine aw_seq_k (fun K6 hK6 => ?_)
    refine aw_regL ?_
    refine alP (some 12) rfl rfl (does_move (v := .int .i64 x3) (by exact rfl)) (by decide) ?_
    refine alP (some 13) rfl rfl (does_bin (v := .bool (x3 == 0)) (by conv => lhs; whnf) (by conv => lhs; whnf) rfl) (by decide) ?_
    refine alP (some 14) rfl rfl (does_move (v := .bool (x3 == 0)) (by exact rfl)) (by decide) ?_
    refine al_bool (c := (x3 == 0)) 14 rfl (fun c7 => ?_) (fun c7 => ?_)
    · have h := ifT c7 h
      refine alS (some 15) rfl rfl (by decide) ?_
      refine alS (some 16) rfl rfl (by decide) ?_
      refine alP (some 17) rfl rfl (does_pick (v := .bool true) (by conv => lhs; whnf) (by exact rfl)) (by decide) ?_
      refine alP (some 18) rfl rfl (does_move (v := .bool true) (by exact rfl)) (by decide) ?_
      refine alS (some 19) rfl rfl (by decide) ?_
      refine alS (some 20) rfl rfl (by decide) ?_
      refine alP (some 21) rfl rfl (does_pick (v := .bool true) (by conv => lhs; whnf) (by exact rfl)) (by decide) ?_
      refine al_nil ?_
      refine hK6 _ ?_
      refine aw_cond_t (by decide) rfl ?_
      refine aw_seq_k (fun K8 hK8 => ?_)
      refine aw_regL ?_
      refine alP (some 4) rfl rfl (does_assign (v := .int .i64 0) (by exact rfl)) (by decide) ?_
      refine alP (some 5) rfl rfl (does_assign (v := .bool false) (by exact rfl)) (by decide) ?_
      refine al_nil ?_
      refine hK8 _ ?_
      refine aw_ret ?_
      have h := leafR h hk5
      obtain rfl := Option.some.inj h
      exact ret_ok1 (by conv => lhs; whnf) (by conv => lhs; whnf) (by exact rfl) (.inr rfl) rfl
    · have h := ifF c7 h
      refine alP (some 15) rfl rfl (does_move (v := .int .i64 a1) (by exact rfl)) (by decide) ?_
      refine alP (some 16) rfl rfl (does_bin (v := .bool (decide (a1 < 0))) (by conv => lhs; whnf) (by conv => lhs; whnf) rfl) (by decide) ?_
      refine alP (some 17) rfl rfl (does_pick (v := .bool (decide (a1 < 0))) (by conv => lhs; whnf) (by exact rfl)) (by decide) ?_
      refine alP (some 18) rfl rfl (does_move (v := .bool (decide (a1 < 0))) (by exact rfl)) (by decide) ?_
      refine al_bool (c := (decide (a1 < 0))) 18 rfl (fun c9 => ?_) (fun c9 => ?_)
      · have h := ifT c9 h
        refine alS (some 19) rfl rfl (by decide) ?_
        refine alS (some 20) rfl rfl (by decide) ?_
        refine alP (some 21) rfl rfl (does_pick (v := .bool true) (by conv => lhs; whnf) (by exact rfl)) (by decide) ?_
        refine al_nil ?_
        refine hK6 _ ?_
        refine aw_cond_t (by decide) rfl ?_
        refine aw_seq_k (fun K10 hK10 => ?_)
        refine aw_regL ?_
        refine alP (some 4) rfl rfl (does_assign (v := .int .i64 0) (by exact rfl)) (by decide) ?_
        refine alP (some 5) rfl rfl (does_assign (v := .bool false) (by exact rfl)) (by decide) ?_
        refine al_nil ?_
        refine hK10 _ ?_
        refine aw_ret ?_
        have h := leafR h hk5
        obtain rfl := Option.some.inj h
        exact ret_ok1 (by conv => lhs; whnf) (by conv => lhs; whnf) (by exact rfl) (.inr rfl) rfl
      · have h := ifF c9 h
        refine alP (some 19) rfl rfl (does_move (v := .int .i64 a1) (by exact rfl)) (by decide) ?_
        refine alP (some 20) rfl rfl (does_bin (v := .bool (decide ((1000 : Int) < a1))) (by conv => lhs; whnf) (by conv => lhs; whnf) rfl) (by decide) ?_
        refine alP (some 21) rfl rfl (does_pick (v := .bool (decide ((1000 : Int) < a1))) (by conv => lhs; whnf) (by exact rfl)) (by decide) ?_
        refine al_nil ?_
        refine hK6 _ ?_
        refine aw_bool (b := (decide ((1000 : Int) < a1))) 21 rfl (fun c11 => ?_) (fun c11 => ?_)
        · have h := ifT c11 h
          refine aw_cond_t (by decide) rfl ?_
          refine aw_seq_k (fun K12 hK12 => ?_)
          refine aw_regL ?_
          refine alP (some 4) rfl rfl (does_assign (v := .int .i64 0) (by exact rfl)) (by decide) ?_
          refine alP (some 5) rfl rfl (does_assign (v := .bool false) (by exact rfl)) (by decide) ?_
          refine al_nil ?_
          refine hK12 _ ?_
          refine aw_ret ?_
          have h := leafR h hk5
          obtain rfl := Option.some.inj h
          exact ret_ok1 (by conv => lhs; whnf) (by conv => lhs; whnf) (by exact rfl) (.inr rfl) rfl
        · have h := ifF c11 h
          refine aw_cond_f (by decide) rfl ?_
          refine aw_skip ?_
          have h := leafL h hk5
          exact ⟨_, reb_lit [(1, .int .i64 a1), (2, .ptr 2 0 0), (6, .int .i64 x3)] [(2, 0)] [((2, 0), .box [.int .i64 a0.Count, .int .i64 a0.Errs, .int .i64 a0.By.c0, .int .i64 a0.By.c1, .int .i64 a0.By.c2, .int .i64 a0.By.c3, .int .i64 a0.By.c4, .int .i64 a0.By.c5, .int .i64 a0.By.c6, .int .i64 a0.By.c7])] [(2, 1)] (envOk_cons (by conv => lhs; whnf) (by exact rfl) (envOk_cons (by conv => lhs; whnf) (by exact rfl) (envOk_cons (by conv => lhs; whnf) (by exact rfl) envOk_nil))) (objOk_cons (by conv => lhs; whnf) (by conv => lhs; whnf) (by exact rfl) (by simp) objOk_nil) (nodup_b rfl) (nodup_b rfl) rfl rfl, h, rfl⟩
  · rintro s ⟨h, rfl⟩
    unfold quant_Quantile_k0 at h
    refine aw_seq_k (fun K13 hK13 => ?_)
    refine aw_regL ?_
    refine alP (some 7) rfl rfl (does_assign (v := .int .i64 0) (by exact rfl)) (by decide) ?_
    refine al_nil ?_
    refine hK13 _ ?_
    refine aw_seq_k (fun K14 hK14 => ?_)
    refine aw_seq_k (fun K15 hK15 => ?_)
    refine aw_regL ?_
    refine alD (some 22) rfl rfl (do_buildSlice (xs := List.map enc2 [0, 1, 5, 10, 50, 100, 500, 1000]) ty47 ty3 rfl rfl rfl rfl rfl rfl rfl rfl) (by decide) ?_
    refine alR (some 23) rfl rfl ((does_len_own (by conv => lhs; whnf) (by conv => lhs; whnf) ty47).cast (v' := .int .i64 (List.length [0, 1, 5, 10, 50, 100, 500, 1000] : Int)) (by exact len_map _)) (by decide) ?_
    refine alP (some 24) rfl rfl (does_move (v := .int .i64 0) (by exact rfl)) (by decide) ?_
    refine al_nil ?_
    refine hK15 _ ?_
    refine aw_block ?_
    refine aw_loop' (fun m s => ∃ (v7_1 : Int), ∃ (v24_1 : Int), loopN (fun (s : Int × Int) => quant_Quantile_l1 a0 a1 x3 s.1 s.2) m (v7_1, v24_1) = some r ∧ s = lit [(1, .int .i64 a1), (2, .ptr 2 0 0), (6, .int .i64 x3), (7, .int .i64 v7_1), (22, .own 22 0), (23, .int .i64 (List.length [0, 1, 5, 10, 50, 100, 500, 1000] : Int)), (24, .int .i64 v24_1)] [((2, 0), .box [.int .i64 a0.Count, .int .i64 a0.Errs, .int .i64 a0.By.c0, .int .i64 a0.By.c1, .int .i64 a0.By.c2, .int .i64 a0.By.c3, .int .i64 a0.By.c4, .int .i64 a0.By.c5, .int .i64 a0.By.c6, .int .i64 a0.By.c7]), ((22, 0), .arr 3 1 false (List.map enc2 [0, 1, 5, 10, 50, 100, 500, 1000]))] [(2, 1), (22, 1)] X) Fu
      ⟨_, reb_lit [(1, .int .i64 a1), (2, .ptr 2 0 0), (6, .int .i64 x3), (7, .int .i64 (0)), (22, .own 22 0), (23, .int .i64 (List.length [0, 1, 5, 10, 50, 100, 500, 1000] : Int)), (24, .int .i64 (0))] [(2, 0), (22, 0)] [((2, 0), .box [.int .i64 a0.Count, .int .i64 a0.Errs, .int .i64 a0.By.c0, .int .i64 a0.By.c1, .int .i64 a0.By.c2, .int .i64 a0.By.c3, .int .i64 a0.By.c4, .int .i64 a0.By.c5, .int .i64 a0.By.c6, .int .i64 a0.By.c7]), ((22, 0), .arr 3 1 false (List.map enc2 [0, 1, 5, 10, 50, 100, 500, 1000]))] [(2, 1), (22, 1)] (envOk_cons (by conv => lhs; whnf) (by exact rfl) (envOk_cons (by conv => lhs; whnf) (by exact rfl) (envOk_cons (by conv => lhs; whnf) (by exact rfl) (envOk_cons (by conv => lhs; whnf) (by exact rfl) (envOk_cons (by conv => lhs; whnf) (by exact rfl) (envOk_cons (by conv => lhs; whnf) (by exact rfl) (envOk_cons (by conv => lhs; whnf) (by exact rfl) envOk_nil))))))) (objOk_cons (by conv => lhs; whnf) (by conv => lhs; whnf) (by exact rfl) (by simp) (objOk_cons (by conv => lhs; whnf) (by conv => lhs; whnf) (by exact rfl) (by simp) objOk_nil)) (nodup_b rfl) (nodup_b rfl) rfl rfl, 0, 0, h, rfl⟩ ?_
    rintro m s ⟨v7_1, v24_1, h, rfl⟩
    obtain ⟨m1, q16, rfl, h, hq17⟩ := loop_some h
    replace h : quant_Quantile_l1 a0 a1 x3 v7_1 v24_1 = some q16 := h
    unfold quant_Quantile_l1 at h
    refine aw_seq_k (fun K18 hK18 => ?_)
    refine aw_regL ?_
    refine alP (some 25) rfl rfl (does_bin (v := .bool (decide (v24_1 < (List.length [0, 1, 5, 10, 50, 100, 500, 1000] : Int)))) (by conv => lhs; whnf) (by conv => lhs; whnf) rfl) (by decide) ?_
    refine al_nil ?_
    refine hK18 _ ?_
    refine aw_seq_k (fun K19 hK19 => ?_)
    refine aw_bool (b := (decide (v24_1 < (List.length [0, 1, 5, 10, 50, 100, 500, 1000] : Int)))) 25 rfl (fun c20 => ?_) (fun c20 => ?_)
    · have h := ifT c20 h
      refine aw_cond_t (by decide) rfl ?_
      refine aw_skip ?_
      refine hK19 _ ?_
      refine aw_seq_k (fun K21 hK21 => ?_)
      refine aw_block ?_
      refine aw_seq_k (fun K22 hK22 => ?_)
      refine aw_regL ?_
      refine alP (some 26) rfl rfl (does_move (v := .int .i64 v24_1) (by exact rfl)) (by decide) ?_
      obtain ⟨g23, h⟩ := gd_some h
      obtain ⟨x24, hx24, h⟩ := bnd_some h
      refine alR (some 27) rfl rfl (does_indexAddr_own (by conv => lhs; whnf) (by conv => lhs; whnf) (by conv => lhs; whnf) ty47 ty3 g23 (by exact own_lt hx24)) (by decide) ?_
      refine alR (some 28) rfl rfl (does_load (v := .int .i64 x24) (by conv => lhs; whnf) (cellsAt_eptr (by conv => lhs; whnf) (by exact map_get hx24)) ty3 (by exact rfl)) (by decide) ?_
      refine alP (some 8) rfl rfl (does_assign (v := .int .i64 v24_1) (by exact rfl)) (by decide) ?_
      refine alP (some 9) rfl rfl (does_assign (v := .int .i64 x24) (by exact rfl)) (by decide) ?_
      refine al_nil ?_
      refine hK22 _ ?_
      refine aw_seq_k (fun K25 hK25 => ?_)
      refine aw_regL ?_
      refine alP (some 29) rfl rfl (does_move (v := .int .i64 v7_1) (by exact rfl)) (by decide) ?_
      refine alP (some 30) rfl rfl (does_move (v := .int .i64 v24_1) (by exact rfl)) (by decide) ?_
      refine alP (some 31) rfl rfl (does_fieldAddr (q := .ptr 2 0 2) (by conv => lhs; whnf) ty26 rfl ty24 (by decide) (by exact rfl)) (by decide) ?_
      obtain ⟨g26, h⟩ := gd_some h
      obtain ⟨g27, h⟩ := gd_some h
      obtain ⟨x28, hx28, h⟩ := bnd_some h
      refine alP (some 32) rfl rfl (does_indexAddr_arr (q := .ptr 2 0 (2 + (Int.toNat v24_1) * 1)) (by conv => lhs; whnf) (by conv => lhs; whnf) ty24 ty3 g26 g27 rfl) (by decide) ?_
      refine alR (some 33) rfl rfl (does_load (v := .int .i64 x28) (by conv => lhs; whnf) (cellsAt_box (by exact rfl)) ty3 (loadPV_arr (off := 2) (f := enc2) (l := [a0.By.c0, a0.By.c1, a0.By.c2, a0.By.c3, a0.By.c4, a0.By.c5, a0.By.c6, a0.By.c7]) (pre := [.int .i64 a0.Count, .int .i64 a0.Errs]) (post := []) (i := (Int.toNat v24_1)) rfl rfl hx28)) (by decide) ?_
      obtain ⟨x29, hx29, h⟩ := bnd_some h
      refine alD (some 34) rfl rfl (do_call0 34 false (quant_plus_ok v7_1 x28 hx29) rfl ent14 rfl rfl) (by decide) ?_
      refine alP (some 7) rfl rfl (does_assign (v := .int .i64 x29) (by exact rfl)) (by decide) ?_
      refine al_nil ?_
      refine hK25 _ ?_
      refine aw_seq_k (fun K30 hK30 => ?_)
      refine aw_regL ?_
      refine alP (some 35) rfl rfl (does_move (v := .int .i64 x29) (by exact rfl)) (by decide) ?_
      refine alP (some 36) rfl rfl (does_bin (v := .bool (decide ((0 : Int) < x29))) (by conv => lhs; whnf) (by conv => lhs; whnf) rfl) (by decide) ?_
      refine alP (some 37) rfl rfl (does_move (v := .bool (decide ((0 : Int) < x29))) (by exact rfl)) (by decide) ?_
      refine al_bool (c := (decide ((0 : Int) < x29))) 37 rfl (fun c31 => ?_) (fun c31 => ?_)
      · have h := ifT c31 h
        refine alP (some 38) rfl rfl (does_move (v := .int .i64 x29) (by exact rfl)) (by decide) ?_
        refine alP (some 39) rfl rfl (does_move (v := .int .i64 a1) (by exact rfl)) (by decide) ?_
        refine alP (some 40) rfl rfl (does_move (v := .int .i64 x3) (by exact rfl)) (by decide) ?_
        obtain ⟨x32, hx32, h⟩ := bnd_some h
        refine alD (some 41) rfl rfl (do_call0 41 false (quant_less_ok x29 1000 a1 x3 hx32) rfl ent20 rfl rfl) (by decide) ?_
        refine alP (some 42) rfl rfl (does_un (v := .bool (!x32)) (by conv => lhs; whnf) rfl) (by decide) ?_
        refine alP (some 43) rfl rfl (does_pick (v := .bool (!x32)) (by conv => lhs; whnf) (by exact rfl)) (by decide) ?_
        refine al_nil ?_
        refine hK30 _ ?_
        refine aw_bool (b := (!x32)) 43 rfl (fun c33 => ?_) (fun c33 => ?_)
        · have h := ifT c33 h
          refine aw_cond_t (by decide) rfl ?_
          refine aw_seq_k (fun K34 hK34 => ?_)
          refine aw_regL ?_
          refine alP (some 44) rfl rfl (does_move (v := .int .i64 x24) (by exact rfl)) (by decide) ?_
          refine alP (some 4) rfl rfl (does_assign (v := .int .i64 x24) (by exact rfl)) (by decide) ?_
          refine alP (some 5) rfl rfl (does_assign (v := .bool true) (by exact rfl)) (by decide) ?_
          refine al_nil ?_
          refine hK34 _ ?_
          refine aw_ret ?_
          have h := leafR h hq17
          obtain rfl := Option.some.inj h
          exact ret_ok1 (by conv => lhs; whnf) (by conv => lhs; whnf) (by exact rfl) (.inr rfl) rfl
        · have h := ifF c33 h
          refine aw_cond_f (by decide) rfl ?_
          refine aw_skip ?_
          refine hK21 _ ?_
          refine aw_regL ?_
          refine alP (some 45) rfl rfl (does_bin (v := .int .i64 (IntKind.i64.wrap (v24_1 + 1))) (by conv => lhs; whnf) (by conv => lhs; whnf) rfl) (by decide) ?_
          refine alP (some 24) rfl rfl (does_move (v := .int .i64 (IntKind.i64.wrap (v24_1 + 1))) (by exact rfl)) (by decide) ?_
          refine al_nil ?_
          have h := leafL h hq17
          exact ⟨m1, Nat.lt_succ_self _, _, reb_lit [(1, .int .i64 a1), (2, .ptr 2 0 0), (6, .int .i64 x3), (7, .int .i64 x29), (22, .own 22 0), (23, .int .i64 (List.length [0, 1, 5, 10, 50, 100, 500, 1000] : Int)), (24, .int .i64 (IntKind.i64.wrap (v24_1 + 1)))] [(2, 0), (22, 0)] [((2, 0), .box [.int .i64 a0.Count, .int .i64 a0.Errs, .int .i64 a0.By.c0, .int .i64 a0.By.c1, .int .i64 a0.By.c2, .int .i64 a0.By.c3, .int .i64 a0.By.c4, .int .i64 a0.By.c5, .int .i64 a0.By.c6, .int .i64 a0.By.c7]), ((22, 0), .arr 3 1 false (List.map enc2 [0, 1, 5, 10, 50, 100, 500, 1000]))] [(2, 1), (22, 1)] (envOk_cons (by conv => lhs; whnf) (by exact rfl) (envOk_cons (by conv => lhs; whnf) (by exact rfl) (envOk_cons (by conv => lhs; whnf) (by exact rfl) (envOk_cons (by conv => lhs; whnf) (by exact rfl) (envOk_cons (by conv => lhs; whnf) (by exact rfl) (envOk_cons (by conv => lhs; whnf) (by exact rfl) (envOk_cons (by conv => lhs; whnf) (by exact rfl) envOk_nil))))))) (objOk_cons (by conv => lhs; whnf) (by conv => lhs; whnf) (by exact rfl) (by simp) (objOk_cons (by conv => lhs; whnf) (by conv => lhs; whnf) (by exact rfl) (by simp) objOk_nil)) (nodup_b rfl) (nodup_b rfl) rfl rfl, x29, (IntKind.i64.wrap (v24_1 + 1)), h, rfl⟩
      · have h := ifF c31 h
        refine alS (some 38) rfl rfl (by decide) ?_
        refine alS (some 39) rfl rfl (by decide) ?_
        refine alS (some 40) rfl rfl (by decide) ?_
        refine alS (some 41) rfl rfl (by decide) ?_
        refine alS (some 42) rfl rfl (by decide) ?_
        refine alP (some 43) rfl rfl (does_pick (v := .bool false) (by conv => lhs; whnf) (by exact rfl)) (by decide) ?_
        refine al_nil ?_
        refine hK30 _ ?_
        refine aw_cond_f (by decide) rfl ?_
        refine aw_skip ?_
        refine hK21 _ ?_
        refine aw_regL ?_
        refine alP (some 45) rfl rfl (does_bin (v := .int .i64 (IntKind.i64.wrap (v24_1 + 1))) (by conv => lhs; whnf) (by conv => lhs; whnf) rfl) (by decide) ?_
        refine alP (some 24) rfl rfl (does_move (v := .int .i64 (IntKind.i64.wrap (v24_1 + 1))) (by exact rfl)) (by decide) ?_
        refine al_nil ?_
        have h := leafL h hq17
        exact ⟨m1, Nat.lt_succ_self _, _, reb_lit [(1, .int .i64 a1), (2, .ptr 2 0 0), (6, .int .i64 x3), (7, .int .i64 x29), (22, .own 22 0), (23, .int .i64 (List.length [0, 1, 5, 10, 50, 100, 500, 1000] : Int)), (24, .int .i64 (IntKind.i64.wrap (v24_1 + 1)))] [(2, 0), (22, 0)] [((2, 0), .box [.int .i64 a0.Count, .int .i64 a0.Errs, .int .i64 a0.By.c0, .int .i64 a0.By.c1, .int .i64 a0.By.c2, .int .i64 a0.By.c3, .int .i64 a0.By.c4, .int .i64 a0.By.c5, .int .i64 a0.By.c6, .int .i64 a0.By.c7]), ((22, 0), .arr 3 1 false (List.map enc2 [0, 1, 5, 10, 50, 100, 500, 1000]))] [(2, 1), (22, 1)] (envOk_cons (by conv => lhs; whnf) (by exact rfl) (envOk_cons (by conv => lhs; whnf) (by exact rfl) (envOk_cons (by conv => lhs; whnf) (by exact rfl) (envOk_cons (by conv => lhs; whnf) (by exact rfl) (envOk_cons (by conv => lhs; whnf) (by exact rfl) (envOk_cons (by conv => lhs; whnf) (by exact rfl) (envOk_cons (by conv => lhs; whnf) (by exact rfl) envOk_nil))))))) (objOk_cons (by conv => lhs; whnf) (by conv => lhs; whnf) (by exact rfl) (by simp) (objOk_cons (by conv => lhs; whnf) (by conv => lhs; whnf) (by exact rfl) (by simp) objOk_nil)) (nodup_b rfl) (nodup_b rfl) rfl rfl, x29, (IntKind.i64.wrap (v24_1 + 1)), h, rfl⟩
    · have h := ifF c20 h
      refine aw_cond_f (by decide) rfl ?_
      refine aw_exit ?_
      have h := leafR h hq17
      refine hK14 _ ?_
      refine aw_seq_k (fun K35 hK35 => ?_)
      refine aw_regL ?_
      refine alP (some 4) rfl rfl (does_assign (v := .int .i64 0) (by exact rfl)) (by decide) ?_
      refine alP (some 5) rfl rfl (does_assign (v := .bool false) (by exact rfl)) (by decide) ?_
      refine al_nil ?_
      refine hK35 _ ?_
      refine aw_ret ?_
      obtain rfl := Option.some.inj h
      exact ret_ok1 (by conv => lhs; whnf) (by conv => lhs; whnf) (by exact rfl) (.inr rfl) rfl
def math_bits_Len64_k2 (v0_2 : Int) (v2_2 : Int) : Option Int :=
  gd (0 ≤ ((u8 (IntKind.u8.wrap v0_2)).toNat : Int)) (Option.bind ((strOf [0, 1, 2, 2, 3, 3, 3, 3, 4, 4, 4, 4, 4, 4, 4, 4, 5, 5, 5, 5, 5, 5, 5, 5, 5, 5, 5, 5, 5, 5, 5, 5, 6, 6, 6, 6, 6, 6, 6, 6, 6, 6, 6, 6, 6, 6, 6, 6, 6, 6, 6, 6, 6, 6, 6, 6, 6, 6, 6, 6, 6, 6, 6, 6, 7, 7, 7, 7, 7, 7, 7, 7, 7, 7, 7, 7, 7, 7, 7, 7, 7, 7, 7, 7, 7, 7, 7, 7, 7, 7, 7, 7, 7, 7, 7, 7, 7, 7, 7, 7, 7, 7, 7, 7, 7, 7, 7, 7, 7, 7, 7, 7, 7, 7, 7, 7, 7, 7, 7, 7, 7, 7, 7, 7, 7, 7, 7, 7, 8, 8, 8, 8, 8, 8, 8, 8, 8, 8, 8, 8, 8, 8, 8, 8, 8, 8, 8, 8, 8, 8, 8, 8, 8, 8, 8, 8, 8, 8, 8, 8, 8, 8, 8, 8, 8, 8, 8, 8, 8, 8, 8, 8, 8, 8, 8, 8, 8, 8, 8, 8, 8, 8, 8, 8, 8, 8, 8, 8, 8, 8, 8, 8, 8, 8, 8, 8, 8, 8, 8, 8, 8, 8, 8, 8, 8, 8, 8, 8, 8, 8, 8, 8, 8, 8, 8, 8, 8, 8, 8, 8, 8, 8, 8, 8, 8, 8, 8, 8, 8, 8, 8, 8, 8, 8, 8, 8, 8, 8, 8, 8, 8, 8, 8, 8, 8, 8, 8, 8, 8, 8, 8, 8, 8, 8, 8, 8])[(Int.toNat ((u8 (IntKind.u8.wrap v0_2)).toNat : Int))]?) (fun (x19 : UInt8) => some (IntKind.i64.wrap (v2_2 + (IntKind.i64.wrap (x19.toNat : Int))))))
def math_bits_Len64_k1 (v0_1 : Int) (v2_1 : Int) : Option Int :=
  Option.bind (if (decide ((256 : Int) ≤ v0_1)) = true then (some ((Int.fdiv v0_1 (2 ^ (min (Int.toNat 8) (IntKind.bits .u64)))), (IntKind.i64.wrap (v2_1 + 8)))) else (some (v0_1, v2_1))) (fun (s : Int × Int) => math_bits_Len64_k2 s.1 s.2)
def math_bits_Len64_k0 (v0_0 : Int) (v2_0 : Int) : Option Int :=
  Option.bind (if (decide ((65536 : Int) ≤ v0_0)) = true then (some ((Int.fdiv v0_0 (2 ^ (min (Int.toNat 16) (IntKind.bits .u64)))), (IntKind.i64.wrap (v2_0 + 16)))) else (some (v0_0, v2_0))) (fun (s : Int × Int) => math_bits_Len64_k1 s.1 s.2)
def math_bits_Len64 (a0 : Int) : Option Int :=
  Option.bind (if (decide ((4294967296 : Int) ≤ a0)) = true then (some ((Int.fdiv a0 (2 ^ (min (Int.toNat 32) (IntKind.bits .u64)))), 32)) else (some (a0, 0))) (fun (s : Int × Int) => math_bits_Len64_k0 s.1 s.2)
set_option maxRecDepth 100000 in
set_option maxHeartbeats 8000000 in
/-- math/bits.Len64 -/
theorem math_bits_Len64_ok (a0 : Int) {r : Int} (h : math_bits_Len64 a0 = some r) : Ok Try.prog 39 [.int .u64 a0] [] [] (.int .i64 r) [] [] := by
  unfold math_bits_Len64 at h
  refine ok_of_code Try.func39 rfl (by show (1 : Nat) ≤ _; decide) (Nat.le_refl _) fun X => ?_
  refine aw_seq_k (fun K1 hK1 => ?_)
  refine aw_regL ?_
  refine alP (some 2) rfl rfl (does_assign (v := .int .i64 0) (by exact rfl)) (by decide) ?_
  refine al_nil ?_
  refine hK1 _ ?_
  obtain ⟨q2, h, hk3⟩ := bnd_some h
  refine aw_cut (fun s => ∃ (v0_0 : Int), ∃ (v2_0 : Int), math_bits_Len64_k0 v0_0 v2_0 = some r ∧ s = lit [(0, .int .u64 v0_0), (2, .int .i64 v2_0)] [] [] X) ?_ ?_
  · skip
    refine aw_seq_k (fun K4 hK4 => ?_)
    refine aw_regL ?_
    refine alP (some 3) rfl rfl (does_move (v := .int .u64 a0) (by exact rfl)) (by decide) ?_
    refine alP (some 4) rfl rfl (does_bin (v := .bool (decide ((4294967296 : Int) ≤ a0))) (by conv => lhs; whnf) (by conv => lhs; whnf) rfl) (by decide) ?_
    refine al_nil ?_
    refine hK4 _ ?_
    refine aw_bool (b := (decide ((4294967296 : Int) ≤ a0))) 4 rfl (fun c5 => ?_) (fun c5 => ?_)
    · have h := ifT c5 h
      refine aw_cond_t (by decide) rfl ?_
      refine aw_seq_k (fun K6 hK6 => ?_)
      refine aw_regL ?_
      refine alP (some 5) rfl rfl (does_move (v := .int .u64 a0) (by exact rfl)) (by decide) ?_
      refine alP (some 6) rfl rfl (does_bin (v := .int .u64 (Int.fdiv a0 (2 ^ (min (Int.toNat 32) (IntKind.bits .u64))))) (by conv => lhs; whnf) (by conv => lhs; whnf) rfl) (by decide) ?_
      refine alP (some 0) rfl rfl (does_assign (v := .int .u64 (Int.fdiv a0 (2 ^ (min (Int.toNat 32) (IntKind.bits .u64))))) (by exact rfl)) (by decide) ?_
      refine al_nil ?_
      refine hK6 _ ?_
      refine aw_regL ?_
      refine alP (some 2) rfl rfl (does_assign (v := .int .i64 32) (by exact rfl)) (by decide) ?_
      refine al_nil ?_
      obtain rfl := Option.some.inj h
      have h := hk3
      exact ⟨_, reb_lit [(0, .int .u64 (Int.fdiv a0 (2 ^ (min (Int.toNat 32) (IntKind.bits .u64))))), (2, .int .i64 (32))] [] [] [] (envOk_cons (by conv => lhs; whnf) (by exact rfl) (envOk_cons (by conv => lhs; whnf) (by exact rfl) envOk_nil)) objOk_nil (nodup_b rfl) (nodup_b rfl) rfl rfl, (Int.fdiv a0 (2 ^ (min (Int.toNat 32) (IntKind.bits .u64)))), 32, h, rfl⟩
    · have h := ifF c5 h
      refine aw_cond_f (by decide) rfl ?_
      refine aw_skip ?_
      obtain rfl := Option.some.inj h
      have h := hk3
      exact ⟨_, reb_lit [(0, .int .u64 a0), (2, .int .i64 (0))] [] [] [] (envOk_cons (by conv => lhs; whnf) (by exact rfl) (envOk_cons (by conv => lhs; whnf) (by exact rfl) envOk_nil)) objOk_nil (nodup_b rfl) (nodup_b rfl) rfl rfl, a0, 0, h, rfl⟩
  · rintro s ⟨v0_0, v2_0, h, rfl⟩
    unfold math_bits_Len64_k0 at h
    obtain ⟨q7, h, hk8⟩ := bnd_some h
    refine aw_cut (fun s => ∃ (v0_1 : Int), ∃ (v2_1 : Int), math_bits_Len64_k1 v0_1 v2_1 = some r ∧ s = lit [(0, .int .u64 v0_1), (2, .int .i64 v2_1)] [] [] X) ?_ ?_
    · skip
      refine aw_seq_k (fun K9 hK9 => ?_)
      refine aw_regL ?_
      refine alP (some 7) rfl rfl (does_move (v := .int .u64 v0_0) (by exact rfl)) (by decide) ?_
      refine alP (some 8) rfl rfl (does_bin (v := .bool (decide ((65536 : Int) ≤ v0_0))) (by conv => lhs; whnf) (by conv => lhs; whnf) rfl) (by decide) ?_
      refine al_nil ?_
      refine hK9 _ ?_
      refine aw_bool (b := (decide ((65536 : Int) ≤ v0_0))) 8 rfl (fun c10 => ?_) (fun c10 => ?_)
      · have h := ifT c10 h
        refine aw_cond_t (by decide) rfl ?_
        refine aw_seq_k (fun K11 hK11 => ?_)
        refine aw_regL ?_
        refine alP (some 9) rfl rfl (does_move (v := .int .u64 v0_0) (by exact rfl)) (by decide) ?_
        refine alP (some 10) rfl rfl (does_bin (v := .int .u64 (Int.fdiv v0_0 (2 ^ (min (Int.toNat 16) (IntKind.bits .u64))))) (by conv => lhs; whnf) (by conv => lhs; whnf) rfl) (by decide) ?_
        refine alP (some 0) rfl rfl (does_assign (v := .int .u64 (Int.fdiv v0_0 (2 ^ (min (Int.toNat 16) (IntKind.bits .u64))))) (by exact rfl)) (by decide) ?_
        refine al_nil ?_
        refine hK11 _ ?_
        refine aw_regL ?_
        refine alP (some 11) rfl rfl (does_move (v := .int .i64 v2_0) (by exact rfl)) (by decide) ?_
        refine alP (some 12) rfl rfl (does_bin (v := .int .i64 (IntKind.i64.wrap (v2_0 + 16))) (by conv => lhs; whnf) (by conv => lhs; whnf) rfl) (by decide) ?_
        refine alP (some 2) rfl rfl (does_assign (v := .int .i64 (IntKind.i64.wrap (v2_0 + 16))) (by exact rfl)) (by decide) ?_
        refine al_nil ?_
        obtain rfl := Option.some.inj h
        have h := hk8
        exact ⟨_, reb_lit [(0, .int .u64 (Int.fdiv v0_0 (2 ^ (min (Int.toNat 16) (IntKind.bits .u64))))), (2, .int .i64 (IntKind.i64.wrap (v2_0 + 16)))] [] [] [] (envOk_cons (by conv => lhs; whnf) (by exact rfl) (envOk_cons (by conv => lhs; whnf) (by exact rfl) envOk_nil)) objOk_nil (nodup_b rfl) (nodup_b rfl) rfl rfl, (Int.fdiv v0_0 (2 ^ (min (Int.toNat 16) (IntKind.bits .u64)))), (IntKind.i64.wrap (v2_0 + 16)), h, rfl⟩
      · have h := ifF c10 h
        refine aw_cond_f (by decide) rfl ?_
        refine aw_skip ?_
        obtain rfl := Option.some.inj h
        have h := hk8
        exact ⟨_, reb_lit [(0, .int .u64 v0_0), (2, .int .i64 v2_0)] [] [] [] (envOk_cons (by conv => lhs; whnf) (by exact rfl) (envOk_cons (by conv => lhs; whnf) (by exact rfl) envOk_nil)) objOk_nil (nodup_b rfl) (nodup_b rfl) rfl rfl, v0_0, v2_0, h, rfl⟩
    · rintro s ⟨v0_1, v2_1, h, rfl⟩
      unfold math_bits_Len64_k1 at h
      obtain ⟨q12, h, hk13⟩ := bnd_some h
      refine aw_cut (fun s => ∃ (v0_2 : Int), ∃ (v2_2 : Int), math_bits_Len64_k2 v0_2 v2_2 = some r ∧ s = lit [(0, .int .u64 v0_2), (2, .int .i64 v2_2)] [] [] X) ?_ ?_
      · skip
        refine aw_seq_k (fun K14 hK14 => ?_)
        refine aw_regL ?_
        refine alP (some 13) rfl rfl (does_move (v := .int .u64 v0_1) (by exact rfl)) (by decide) ?_
        refine alP (some 14) rfl rfl (does_bin (v := .bool (decide ((256 : Int) ≤ v0_1))) (by conv => lhs; whnf) (by conv => lhs; whnf) rfl) (by decide) ?_
        refine al_nil ?_
        refine hK14 _ ?_
        refine aw_bool (b := (decide ((256 : Int) ≤ v0_1))) 14 rfl (fun c15 => ?_) (fun c15 => ?_)
        · have h := ifT c15 h
          refine aw_cond_t (by decide) rfl ?_
          refine aw_seq_k (fun K16 hK16 => ?_)
          refine aw_regL ?_
          refine alP (some 15) rfl rfl (does_move (v := .int .u64 v0_1) (by exact rfl)) (by decide) ?_
          refine alP (some 16) rfl rfl (does_bin (v := .int .u64 (Int.fdiv v0_1 (2 ^ (min (Int.toNat 8) (IntKind.bits .u64))))) (by conv => lhs; whnf) (by conv => lhs; whnf) rfl) (by decide) ?_
          refine alP (some 0) rfl rfl (does_assign (v := .int .u64 (Int.fdiv v0_1 (2 ^ (min (Int.toNat 8) (IntKind.bits .u64))))) (by exact rfl)) (by decide) ?_
          refine al_nil ?_
          refine hK16 _ ?_
          refine aw_regL ?_
          refine alP (some 17) rfl rfl (does_move (v := .int .i64 v2_1) (by exact rfl)) (by decide) ?_
          refine alP (some 18) rfl rfl (does_bin (v := .int .i64 (IntKind.i64.wrap (v2_1 + 8))) (by conv => lhs; whnf) (by conv => lhs; whnf) rfl) (by decide) ?_
          refine alP (some 2) rfl rfl (does_assign (v := .int .i64 (IntKind.i64.wrap (v2_1 + 8))) (by exact rfl)) (by decide) ?_
          refine al_nil ?_
          obtain rfl := Option.some.inj h
          have h := hk13
          exact ⟨_, reb_lit [(0, .int .u64 (Int.fdiv v0_1 (2 ^ (min (Int.toNat 8) (IntKind.bits .u64))))), (2, .int .i64 (IntKind.i64.wrap (v2_1 + 8)))] [] [] [] (envOk_cons (by conv => lhs; whnf) (by exact rfl) (envOk_cons (by conv => lhs; whnf) (by exact rfl) envOk_nil)) objOk_nil (nodup_b rfl) (nodup_b rfl) rfl rfl, (Int.fdiv v0_1 (2 ^ (min (Int.toNat 8) (IntKind.bits .u64)))), (IntKind.i64.wrap (v2_1 + 8)), h, rfl⟩
        · have h := ifF c15 h
          refine aw_cond_f (by decide) rfl ?_
          refine aw_skip ?_
          obtain rfl := Option.some.inj h
          have h := hk13
          exact ⟨_, reb_lit [(0, .int .u64 v0_1), (2, .int .i64 v2_1)] [] [] [] (envOk_cons (by conv => lhs; whnf) (by exact rfl) (envOk_cons (by conv => lhs; whnf) (by exact rfl) envOk_nil)) objOk_nil (nodup_b rfl) (nodup_b rfl) rfl rfl, v0_1, v2_1, h, rfl⟩
      · rintro s ⟨v0_2, v2_2, h, rfl⟩
        unfold math_bits_Len64_k2 at h
        refine aw_seq_k (fun K17 hK17 => ?_)
        refine aw_regL ?_
        refine alP (some 19) rfl rfl (does_move (v := .int .i64 v2_2) (by exact rfl)) (by decide) ?_
        refine alP (some 20) rfl rfl (does_move (v := .int .u64 v0_2) (by exact rfl)) (by decide) ?_
        refine alP (some 21) rfl rfl ((does_conv_int (v := .int .u8 (IntKind.u8.wrap v0_2)) (by conv => lhs; whnf) (ty_some ty49) (ty_int ty5) rfl).castp (v' := .int .u8 ((u8 (IntKind.u8.wrap v0_2)).toNat : Int)) (by exact congrArg _ (u8_eq (u8_wrap _)))) (by decide) ?_
        obtain ⟨g18, h⟩ := gd_some h
        obtain ⟨x19, hx19, h⟩ := bnd_some h
        refine alP (some 22) rfl rfl (does_index_str (c := x19) (by conv => lhs; whnf) (by conv => lhs; whnf) ty9 g18 (by exact hx19)) (by decide) ?_
        refine alP (some 23) rfl rfl (does_conv_int (v := .int .i64 (IntKind.i64.wrap (x19.toNat : Int))) (by conv => lhs; whnf) (ty_some ty5) (ty_int ty3) rfl) (by decide) ?_
        refine alP (some 24) rfl rfl (does_bin (v := .int .i64 (IntKind.i64.wrap (v2_2 + (IntKind.i64.wrap (x19.toNat : Int))))) (by conv => lhs; whnf) (by conv => lhs; whnf) rfl) (by decide) ?_
        refine alP (some 2) rfl rfl (does_assign (v := .int .i64 (IntKind.i64.wrap (v2_2 + (IntKind.i64.wrap (x19.toNat : Int))))) (by exact rfl)) (by decide) ?_
        refine al_nil ?_
        refine hK17 _ ?_
        refine aw_ret ?_
        obtain rfl := Option.some.inj h
        exact ret_ok1 (by conv => lhs; whnf) (by conv => lhs; whnf) (by exact rfl) (.inr rfl) rfl
def math_bits_LeadingZeros64 (a0 : Int) : Option Int :=
  Option.bind (math_bits_Len64 a0) (fun (x3 : Int) => some (IntKind.i64.wrap (64 - x3)))
set_option maxRecDepth 100000 in
set_option maxHeartbeats 8000000 in
/-- math/bits.LeadingZeros64 -/
theorem math_bits_LeadingZeros64_ok (a0 : Int) {r : Int} (h : math_bits_LeadingZeros64 a0 = some r) : Ok Try.prog 29 [.int .u64 a0] [] [] (.int .i64 r) [] [] := by
  unfold math_bits_LeadingZeros64 at h
  refine ok_of_code Try.func29 rfl (by show (1 : Nat) ≤ _; decide) (Nat.le_refl _) fun X => ?_
  refine aw_seq_k (fun K1 hK1 => ?_)
  refine aw_regL ?_
  refine alP (some 2) rfl rfl (does_assign (v := .int .i64 0) (by exact rfl)) (by decide) ?_
  refine al_nil ?_
  refine hK1 _ ?_
  refine aw_seq_k (fun K2 hK2 => ?_)
  refine aw_regL ?_
  refine alP (some 3) rfl rfl (does_move (v := .int .u64 a0) (by exact rfl)) (by decide) ?_
  obtain ⟨x3, hx3, h⟩ := bnd_some h
  refine alD (some 4) rfl rfl (do_call0 4 false (math_bits_Len64_ok a0 hx3) rfl ent39 rfl rfl) (by decide) ?_
  refine alP (some 5) rfl rfl (does_bin (v := .int .i64 (IntKind.i64.wrap (64 - x3))) (by conv => lhs; whnf) (by conv => lhs; whnf) rfl) (by decide) ?_
  refine alP (some 2) rfl rfl (does_assign (v := .int .i64 (IntKind.i64.wrap (64 - x3))) (by exact rfl)) (by decide) ?_
  refine al_nil ?_
  refine hK2 _ ?_
  refine aw_ret ?_
  obtain rfl := Option.some.inj h
  exact ret_ok1 (by conv => lhs; whnf) (by conv => lhs; whnf) (by exact rfl) (.inr rfl) rfl
def math_bits_Div64_k2 (a2 : Int) (x15 : Int) (v15_1 : Int) (v16_1 : Int) : Option ((Int × Int) ⊕ Int) :=
  if (decide ((4294967296 : Int) ≤ (IntKind.u64.wrap (v16_1 + (Int.fdiv (IntKind.u64.wrap (a2 * 2 ^ (min (Int.toNat (IntKind.u64.wrap x15)) (IntKind.bits .u64)))) (2 ^ (min (Int.toNat 32) (IntKind.bits .u64)))))))) = true then (some (Sum.inr (IntKind.u64.wrap (v15_1 - 1)))) else (some (Sum.inl ((IntKind.u64.wrap (v15_1 - 1)), (IntKind.u64.wrap (v16_1 + (Int.fdiv (IntKind.u64.wrap (a2 * 2 ^ (min (Int.toNat (IntKind.u64.wrap x15)) (IntKind.bits .u64)))) (2 ^ (min (Int.toNat 32) (IntKind.bits .u64)))))))))
def math_bits_Div64_l1 (a1 : Int) (a2 : Int) (x15 : Int) (v15_1 : Int) (v16_1 : Int) : Option ((Int × Int) ⊕ Int) :=
  Option.bind (if (decide ((4294967296 : Int) ≤ v15_1)) = true then (some (Sum.inl ())) else (if (decide ((IntKind.u64.wrap ((IntKind.u64.wrap (4294967296 * v16_1)) + (Int.fdiv (IntKind.u64.wrap (a1 * 2 ^ (min (Int.toNat (IntKind.u64.wrap x15)) (IntKind.bits .u64)))) (2 ^ (min (Int.toNat 32) (IntKind.bits .u64)))))) < (IntKind.u64.wrap (v15_1 * (bits .and .u64 (IntKind.u64.wrap (a2 * 2 ^ (min (Int.toNat (IntKind.u64.wrap x15)) (IntKind.bits .u64)))) 4294967295))))) = true then (some (Sum.inl ())) else (some (Sum.inr (Sum.inr v15_1))))) (Sum.elim (fun (s : Unit) => math_bits_Div64_k2 a2 x15 v15_1 v16_1) some)
def math_bits_Div64_k5 (a2 : Int) (x15 : Int) (v16_4 : Int) (v18_4 : Int) : Option ((Int × Int) ⊕ Int) :=
  if (decide ((4294967296 : Int) ≤ (IntKind.u64.wrap (v16_4 + (Int.fdiv (IntKind.u64.wrap (a2 * 2 ^ (min (Int.toNat (IntKind.u64.wrap x15)) (IntKind.bits .u64)))) (2 ^ (min (Int.toNat 32) (IntKind.bits .u64)))))))) = true then (some (Sum.inr (IntKind.u64.wrap (v18_4 - 1)))) else (some (Sum.inl ((IntKind.u64.wrap (v16_4 + (Int.fdiv (IntKind.u64.wrap (a2 * 2 ^ (min (Int.toNat (IntKind.u64.wrap x15)) (IntKind.bits .u64)))) (2 ^ (min (Int.toNat 32) (IntKind.bits .u64)))))), (IntKind.u64.wrap (v18_4 - 1)))))
def math_bits_Div64_l4 (a1 : Int) (a2 : Int) (x15 : Int) (v16_4 : Int) (v18_4 : Int) : Option ((Int × Int) ⊕ Int) :=
  Option.bind (if (decide ((4294967296 : Int) ≤ v18_4)) = true then (some (Sum.inl ())) else (if (decide ((IntKind.u64.wrap ((IntKind.u64.wrap (4294967296 * v16_4)) + (bits .and .u64 (IntKind.u64.wrap (a1 * 2 ^ (min (Int.toNat (IntKind.u64.wrap x15)) (IntKind.bits .u64)))) 4294967295))) < (IntKind.u64.wrap (v18_4 * (bits .and .u64 (IntKind.u64.wrap (a2 * 2 ^ (min (Int.toNat (IntKind.u64.wrap x15)) (IntKind.bits .u64)))) 4294967295))))) = true then (some (Sum.inl ())) else (some (Sum.inr (Sum.inr v18_4))))) (Sum.elim (fun (s : Unit) => math_bits_Div64_k5 a2 x15 v16_4 v18_4) some)
def math_bits_Div64_k3 (a0 : Int) (a1 : Int) (a2 : Int) (x15 : Int) (v15_0 : Int) (v18_3 : Int) : Option (Int × Int) :=
  gd (¬ (IntKind.u64.wrap x15) < 0) (some ((IntKind.u64.wrap ((IntKind.u64.wrap (v15_0 * 4294967296)) + v18_3)), (Int.fdiv (IntKind.u64.wrap ((IntKind.u64.wrap ((IntKind.u64.wrap ((IntKind.u64.wrap ((IntKind.u64.wrap ((IntKind.u64.wrap ((bits .or .u64 (IntKind.u64.wrap (a0 * 2 ^ (min (Int.toNat (IntKind.u64.wrap x15)) (IntKind.bits .u64)))) (Int.fdiv a1 (2 ^ (min (Int.toNat (IntKind.u64.wrap (64 - (IntKind.u64.wrap x15)))) (IntKind.bits .u64))))) * 4294967296)) + (Int.fdiv (IntKind.u64.wrap (a1 * 2 ^ (min (Int.toNat (IntKind.u64.wrap x15)) (IntKind.bits .u64)))) (2 ^ (min (Int.toNat 32) (IntKind.bits .u64)))))) - (IntKind.u64.wrap (v15_0 * (IntKind.u64.wrap (a2 * 2 ^ (min (Int.toNat (IntKind.u64.wrap x15)) (IntKind.bits .u64)))))))) * 4294967296)) + (bits .and .u64 (IntKind.u64.wrap (a1 * 2 ^ (min (Int.toNat (IntKind.u64.wrap x15)) (IntKind.bits .u64)))) 4294967295))) - (IntKind.u64.wrap (v18_3 * (IntKind.u64.wrap (a2 * 2 ^ (min (Int.toNat (IntKind.u64.wrap x15)) (IntKind.bits .u64)))))))) (2 ^ (min (Int.toNat (IntKind.u64.wrap x15)) (IntKind.bits .u64))))))
def math_bits_Div64_k0 (a0 : Int) (a1 : Int) (a2 : Int) (x15 : Int) (v15_0 : Int) : Option (Int × Int) :=
  gd (¬ (Int.fdiv (IntKind.u64.wrap (a2 * 2 ^ (min (Int.toNat (IntKind.u64.wrap x15)) (IntKind.bits .u64)))) (2 ^ (min (Int.toNat 32) (IntKind.bits .u64)))) = 0) (Option.bind (loopN (fun (s : Int × Int) => math_bits_Div64_l4 a1 a2 x15 s.1 s.2) Fu ((IntKind.u64.wrap ((IntKind.u64.wrap ((IntKind.u64.wrap ((IntKind.u64.wrap ((bits .or .u64 (IntKind.u64.wrap (a0 * 2 ^ (min (Int.toNat (IntKind.u64.wrap x15)) (IntKind.bits .u64)))) (Int.fdiv a1 (2 ^ (min (Int.toNat (IntKind.u64.wrap (64 - (IntKind.u64.wrap x15)))) (IntKind.bits .u64))))) * 4294967296)) + (Int.fdiv (IntKind.u64.wrap (a1 * 2 ^ (min (Int.toNat (IntKind.u64.wrap x15)) (IntKind.bits .u64)))) (2 ^ (min (Int.toNat 32) (IntKind.bits .u64)))))) - (IntKind.u64.wrap (v15_0 * (IntKind.u64.wrap (a2 * 2 ^ (min (Int.toNat (IntKind.u64.wrap x15)) (IntKind.bits .u64)))))))) - (IntKind.u64.wrap ((IntKind.u64.wrap (Int.tdiv (IntKind.u64.wrap ((IntKind.u64.wrap ((IntKind.u64.wrap ((bits .or .u64 (IntKind.u64.wrap (a0 * 2 ^ (min (Int.toNat (IntKind.u64.wrap x15)) (IntKind.bits .u64)))) (Int.fdiv a1 (2 ^ (min (Int.toNat (IntKind.u64.wrap (64 - (IntKind.u64.wrap x15)))) (IntKind.bits .u64))))) * 4294967296)) + (Int.fdiv (IntKind.u64.wrap (a1 * 2 ^ (min (Int.toNat (IntKind.u64.wrap x15)) (IntKind.bits .u64)))) (2 ^ (min (Int.toNat 32) (IntKind.bits .u64)))))) - (IntKind.u64.wrap (v15_0 * (IntKind.u64.wrap (a2 * 2 ^ (min (Int.toNat (IntKind.u64.wrap x15)) (IntKind.bits .u64)))))))) (Int.fdiv (IntKind.u64.wrap (a2 * 2 ^ (min (Int.toNat (IntKind.u64.wrap x15)) (IntKind.bits .u64)))) (2 ^ (min (Int.toNat 32) (IntKind.bits .u64)))))) * (Int.fdiv (IntKind.u64.wrap (a2 * 2 ^ (min (Int.toNat (IntKind.u64.wrap x15)) (IntKind.bits .u64)))) (2 ^ (min (Int.toNat 32) (IntKind.bits .u64)))))))), (IntKind.u64.wrap (Int.tdiv (IntKind.u64.wrap ((IntKind.u64.wrap ((IntKind.u64.wrap ((bits .or .u64 (IntKind.u64.wrap (a0 * 2 ^ (min (Int.toNat (IntKind.u64.wrap x15)) (IntKind.bits .u64)))) (Int.fdiv a1 (2 ^ (min (Int.toNat (IntKind.u64.wrap (64 - (IntKind.u64.wrap x15)))) (IntKind.bits .u64))))) * 4294967296)) + (Int.fdiv (IntKind.u64.wrap (a1 * 2 ^ (min (Int.toNat (IntKind.u64.wrap x15)) (IntKind.bits .u64)))) (2 ^ (min (Int.toNat 32) (IntKind.bits .u64)))))) - (IntKind.u64.wrap (v15_0 * (IntKind.u64.wrap (a2 * 2 ^ (min (Int.toNat (IntKind.u64.wrap x15)) (IntKind.bits .u64)))))))) (Int.fdiv (IntKind.u64.wrap (a2 * 2 ^ (min (Int.toNat (IntKind.u64.wrap x15)) (IntKind.bits .u64)))) (2 ^ (min (Int.toNat 32) (IntKind.bits .u64)))))))) (fun (s : Int) => math_bits_Div64_k3 a0 a1 a2 x15 v15_0 s))
def math_bits_Div64 (a0 : Int) (a1 : Int) (a2 : Int) : Option (Int × Int) :=
  if (a2 == 0) = true then none else (if (decide (a2 ≤ a0)) = true then none else (if (a0 == 0) = true then (gd (¬ a2 = 0) (gd (¬ a2 = 0) (some ((IntKind.u64.wrap (Int.tdiv a1 a2)), (Int.tmod a1 a2))))) else (Option.bind (math_bits_LeadingZeros64 a2) (fun (x15 : Int) => gd (¬ (IntKind.u64.wrap x15) < 0) (gd (¬ (IntKind.u64.wrap x15) < 0) (gd (¬ (IntKind.u64.wrap (64 - (IntKind.u64.wrap x15))) < 0) (gd (¬ (IntKind.u64.wrap x15) < 0) (gd (¬ (Int.fdiv (IntKind.u64.wrap (a2 * 2 ^ (min (Int.toNat (IntKind.u64.wrap x15)) (IntKind.bits .u64)))) (2 ^ (min (Int.toNat 32) (IntKind.bits .u64)))) = 0) (Option.bind (loopN (fun (s : Int × Int) => math_bits_Div64_l1 a1 a2 x15 s.1 s.2) Fu ((IntKind.u64.wrap (Int.tdiv (bits .or .u64 (IntKind.u64.wrap (a0 * 2 ^ (min (Int.toNat (IntKind.u64.wrap x15)) (IntKind.bits .u64)))) (Int.fdiv a1 (2 ^ (min (Int.toNat (IntKind.u64.wrap (64 - (IntKind.u64.wrap x15)))) (IntKind.bits .u64))))) (Int.fdiv (IntKind.u64.wrap (a2 * 2 ^ (min (Int.toNat (IntKind.u64.wrap x15)) (IntKind.bits .u64)))) (2 ^ (min (Int.toNat 32) (IntKind.bits .u64)))))), (IntKind.u64.wrap ((bits .or .u64 (IntKind.u64.wrap (a0 * 2 ^ (min (Int.toNat (IntKind.u64.wrap x15)) (IntKind.bits .u64)))) (Int.fdiv a1 (2 ^ (min (Int.toNat (IntKind.u64.wrap (64 - (IntKind.u64.wrap x15)))) (IntKind.bits .u64))))) - (IntKind.u64.wrap ((IntKind.u64.wrap (Int.tdiv (bits .or .u64 (IntKind.u64.wrap (a0 * 2 ^ (min (Int.toNat (IntKind.u64.wrap x15)) (IntKind.bits .u64)))) (Int.fdiv a1 (2 ^ (min (Int.toNat (IntKind.u64.wrap (64 - (IntKind.u64.wrap x15)))) (IntKind.bits .u64))))) (Int.fdiv (IntKind.u64.wrap (a2 * 2 ^ (min (Int.toNat (IntKind.u64.wrap x15)) (IntKind.bits .u64)))) (2 ^ (min (Int.toNat 32) (IntKind.bits .u64)))))) * (Int.fdiv (IntKind.u64.wrap (a2 * 2 ^ (min (Int.toNat (IntKind.u64.wrap x15)) (IntKind.bits .u64)))) (2 ^ (min (Int.toNat 32) (IntKind.bits .u64)))))))))) (fun (s : Int) => math_bits_Div64_k0 a0 a1 a2 x15 s))))))))))
set_option maxRecDepth 100000 in
set_option maxHeartbeats 8000000 in
/-- math/bits.Div64 -/
theorem math_bits_Div64_ok (a0 : Int) (a1 : Int) (a2 : Int) {r : Int × Int} (h : math_bits_Div64 a0 a1 a2 = some r) : Ok Try.prog 22 [.int .u64 a0, .int .u64 a1, .int .u64 a2] [] [] (.tup [.int .u64 r.1, .int .u64 r.2]) [] [] := by
  unfold math_bits_Div64 at h
  refine ok_of_code Try.func22 rfl (by show (3 : Nat) ≤ _; decide) (Nat.le_refl _) fun X => ?_
  refine aw_seq_k (fun K1 hK1 => ?_)
  refine aw_regL ?_
  refine alP (some 6) rfl rfl (does_assign (v := .int .u64 0) (by exact rfl)) (by decide) ?_
  refine alP (some 7) rfl rfl (does_assign (v := .int .u64 0) (by exact rfl)) (by decide) ?_
  refine al_nil ?_
  refine hK1 _ ?_
  refine aw_seq_k (fun K2 hK2 => ?_)
  refine aw_seq_k (fun K3 hK3 => ?_)
  refine aw_regL ?_
  refine alP (some 19) rfl rfl (does_move (v := .int .u64 a2) (by exact rfl)) (by decide) ?_
  refine alP (some 20) rfl rfl (does_bin (v := .bool (a2 == 0)) (by conv => lhs; whnf) (by conv => lhs; whnf) rfl) (by decide) ?_
  refine al_nil ?_
  refine hK3 _ ?_
  refine aw_bool (b := (a2 == 0)) 20 rfl (fun c4 => ?_) (fun c4 => ?_)
  · have h := ifT c4 h
    refine aw_cond_t (by decide) rfl ?_
    cases h
  · have h := ifF c4 h
    refine aw_cond_f (by decide) rfl ?_
    refine aw_skip ?_
    refine hK2 _ ?_
    refine aw_seq_k (fun K5 hK5 => ?_)
    refine aw_seq_k (fun K6 hK6 => ?_)
    refine aw_regL ?_
    refine alP (some 22) rfl rfl (does_move (v := .int .u64 a2) (by exact rfl)) (by decide) ?_
    refine alP (some 23) rfl rfl (does_move (v := .int .u64 a0) (by exact rfl)) (by decide) ?_
    refine alP (some 24) rfl rfl (does_bin (v := .bool (decide (a2 ≤ a0))) (by conv => lhs; whnf) (by conv => lhs; whnf) rfl) (by decide) ?_
    refine al_nil ?_
    refine hK6 _ ?_
    refine aw_bool (b := (decide (a2 ≤ a0))) 24 rfl (fun c7 => ?_) (fun c7 => ?_)
    · have h := ifT c7 h
      refine aw_cond_t (by decide) rfl ?_
      cases h
    · have h := ifF c7 h
      refine aw_cond_f (by decide) rfl ?_
      refine aw_skip ?_
      refine hK5 _ ?_
      refine aw_seq_k (fun K8 hK8 => ?_)
      refine aw_seq_k (fun K9 hK9 => ?_)
      refine aw_regL ?_
      refine alP (some 26) rfl rfl (does_move (v := .int .u64 a0) (by exact rfl)) (by decide) ?_
      refine alP (some 27) rfl rfl (does_bin (v := .bool (a0 == 0)) (by conv => lhs; whnf) (by conv => lhs; whnf) rfl) (by decide) ?_
      refine al_nil ?_
      refine hK9 _ ?_
      refine aw_bool (b := (a0 == 0)) 27 rfl (fun c10 => ?_) (fun c10 => ?_)
      · have h := ifT c10 h
        refine aw_cond_t (by decide) rfl ?_
        refine aw_seq_k (fun K11 hK11 => ?_)
        refine aw_regd (by kernel_rfl) (by decide +kernel) ?_
        refine aoP (some 28) rfl rfl (does_move (v := .int .u64 a1) (by exact rfl)) (by decide) ?_
        refine aoP (some 29) rfl rfl (does_move (v := .int .u64 a2) (by exact rfl)) (by decide) ?_
        obtain ⟨g12, h⟩ := gd_some h
        refine aoP (some 30) rfl rfl (does_bin (v := .int .u64 (IntKind.u64.wrap (Int.tdiv a1 a2))) (by conv => lhs; whnf) (by conv => lhs; whnf) (quo_hv g12)) (by decide) ?_
        refine aoP (some 31) rfl rfl (does_move (v := .int .u64 a1) (by exact rfl)) (by decide) ?_
        refine aoP (some 32) rfl rfl (does_move (v := .int .u64 a2) (by exact rfl)) (by decide) ?_
        obtain ⟨g13, h⟩ := gd_some h
        refine aoP (some 33) rfl rfl (does_bin (v := .int .u64 (Int.tmod a1 a2)) (by conv => lhs; whnf) (by conv => lhs; whnf) (rem_hv g13)) (by decide) ?_
        refine aoP (some 6) rfl rfl (does_assign (v := .int .u64 (IntKind.u64.wrap (Int.tdiv a1 a2))) (by exact rfl)) (by decide) ?_
        refine aoP (some 7) rfl rfl (does_assign (v := .int .u64 (Int.tmod a1 a2)) (by exact rfl)) (by decide) ?_
        refine ao_nil_d (by kernel_rfl) ?_
        refine hK11 _ ?_
        refine aw_ret ?_
        obtain rfl := Option.some.inj h
        exact ret_ok1 (by conv => lhs; whnf) (by conv => lhs; whnf) (by exact rfl) (.inr rfl) rfl
      · have h := ifF c10 h
        refine aw_cond_f (by decide) rfl ?_
        refine aw_skip ?_
        refine hK8 _ ?_
        refine aw_seq_k (fun K14 hK14 => ?_)
        refine aw_regL ?_
        refine alP (some 34) rfl rfl (does_move (v := .int .u64 a2) (by exact rfl)) (by decide) ?_
        obtain ⟨x15, hx15, h⟩ := bnd_some h
        refine alD (some 35) rfl rfl (do_call0 35 false (math_bits_LeadingZeros64_ok a2 hx15) rfl ent29 rfl rfl) (by decide) ?_
        refine alP (some 36) rfl rfl (does_conv_int (v := .int .u64 (IntKind.u64.wrap x15)) (by conv => lhs; whnf) (ty_some ty3) (ty_int ty55) rfl) (by decide) ?_
        refine alP (some 8) rfl rfl (does_assign (v := .int .u64 (IntKind.u64.wrap x15)) (by exact rfl)) (by decide) ?_
        refine al_nil ?_
        refine hK14 _ ?_
        refine aw_seq_k (fun K16 hK16 => ?_)
        refine aw_regL ?_
        refine alP (some 37) rfl rfl (does_move (v := .int .u64 a2) (by exact rfl)) (by decide) ?_
        refine alP (some 38) rfl rfl (does_move (v := .int .u64 (IntKind.u64.wrap x15)) (by exact rfl)) (by decide) ?_
        obtain ⟨g17, h⟩ := gd_some h
        refine alP (some 39) rfl rfl (does_bin (v := .int .u64 (IntKind.u64.wrap (a2 * 2 ^ (min (Int.toNat (IntKind.u64.wrap x15)) (IntKind.bits .u64))))) (by conv => lhs; whnf) (by conv => lhs; whnf) (shl_hv g17)) (by decide) ?_
        refine alP (some 2) rfl rfl (does_assign (v := .int .u64 (IntKind.u64.wrap (a2 * 2 ^ (min (Int.toNat (IntKind.u64.wrap x15)) (IntKind.bits .u64))))) (by exact rfl)) (by decide) ?_
        refine al_nil ?_
        refine hK16 _ ?_
        refine aw_seq_k (fun K18 hK18 => ?_)
        refine aw_regL ?_
        refine alP (some 40) rfl rfl (does_move (v := .int .u64 (IntKind.u64.wrap (a2 * 2 ^ (min (Int.toNat (IntKind.u64.wrap x15)) (IntKind.bits .u64))))) (by exact rfl)) (by decide) ?_
        refine alP (some 41) rfl rfl (does_bin (v := .int .u64 (Int.fdiv (IntKind.u64.wrap (a2 * 2 ^ (min (Int.toNat (IntKind.u64.wrap x15)) (IntKind.bits .u64)))) (2 ^ (min (Int.toNat 32) (IntKind.bits .u64))))) (by conv => lhs; whnf) (by conv => lhs; whnf) rfl) (by decide) ?_
        refine alP (some 9) rfl rfl (does_assign (v := .int .u64 (Int.fdiv (IntKind.u64.wrap (a2 * 2 ^ (min (Int.toNat (IntKind.u64.wrap x15)) (IntKind.bits .u64)))) (2 ^ (min (Int.toNat 32) (IntKind.bits .u64))))) (by exact rfl)) (by decide) ?_
        refine al_nil ?_
        refine hK18 _ ?_
        refine aw_seq_k (fun K19 hK19 => ?_)
        refine aw_regL ?_
        refine alP (some 42) rfl rfl (does_move (v := .int .u64 (IntKind.u64.wrap (a2 * 2 ^ (min (Int.toNat (IntKind.u64.wrap x15)) (IntKind.bits .u64))))) (by exact rfl)) (by decide) ?_
        refine alP (some 43) rfl rfl (does_bin (v := .int .u64 (bits .and .u64 (IntKind.u64.wrap (a2 * 2 ^ (min (Int.toNat (IntKind.u64.wrap x15)) (IntKind.bits .u64)))) 4294967295)) (by conv => lhs; whnf) (by conv => lhs; whnf) rfl) (by decide) ?_
        refine alP (some 10) rfl rfl (does_assign (v := .int .u64 (bits .and .u64 (IntKind.u64.wrap (a2 * 2 ^ (min (Int.toNat (IntKind.u64.wrap x15)) (IntKind.bits .u64)))) 4294967295)) (by exact rfl)) (by decide) ?_
        refine al_nil ?_
        refine hK19 _ ?_
        refine aw_seq_k (fun K20 hK20 => ?_)
        refine aw_regL ?_
        refine alP (some 44) rfl rfl (does_move (v := .int .u64 a0) (by exact rfl)) (by decide) ?_
        refine alP (some 45) rfl rfl (does_move (v := .int .u64 (IntKind.u64.wrap x15)) (by exact rfl)) (by decide) ?_
        obtain ⟨g21, h⟩ := gd_some h
        refine alP (some 46) rfl rfl (does_bin (v := .int .u64 (IntKind.u64.wrap (a0 * 2 ^ (min (Int.toNat (IntKind.u64.wrap x15)) (IntKind.bits .u64))))) (by conv => lhs; whnf) (by conv => lhs; whnf) (shl_hv g21)) (by decide) ?_
        refine alP (some 47) rfl rfl (does_move (v := .int .u64 a1) (by exact rfl)) (by decide) ?_
        refine alP (some 48) rfl rfl (does_move (v := .int .u64 (IntKind.u64.wrap x15)) (by exact rfl)) (by decide) ?_
        refine alP (some 49) rfl rfl (does_bin (v := .int .u64 (IntKind.u64.wrap (64 - (IntKind.u64.wrap x15)))) (by conv => lhs; whnf) (by conv => lhs; whnf) rfl) (by decide) ?_
        obtain ⟨g22, h⟩ := gd_some h
        refine alP (some 50) rfl rfl (does_bin (v := .int .u64 (Int.fdiv a1 (2 ^ (min (Int.toNat (IntKind.u64.wrap (64 - (IntKind.u64.wrap x15)))) (IntKind.bits .u64))))) (by conv => lhs; whnf) (by conv => lhs; whnf) (shr_hv g22)) (by decide) ?_
        refine alP (some 51) rfl rfl (does_bin (v := .int .u64 (bits .or .u64 (IntKind.u64.wrap (a0 * 2 ^ (min (Int.toNat (IntKind.u64.wrap x15)) (IntKind.bits .u64)))) (Int.fdiv a1 (2 ^ (min (Int.toNat (IntKind.u64.wrap (64 - (IntKind.u64.wrap x15)))) (IntKind.bits .u64)))))) (by conv => lhs; whnf) (by conv => lhs; whnf) rfl) (by decide) ?_
        refine alP (some 11) rfl rfl (does_assign (v := .int .u64 (bits .or .u64 (IntKind.u64.wrap (a0 * 2 ^ (min (Int.toNat (IntKind.u64.wrap x15)) (IntKind.bits .u64)))) (Int.fdiv a1 (2 ^ (min (Int.toNat (IntKind.u64.wrap (64 - (IntKind.u64.wrap x15)))) (IntKind.bits .u64)))))) (by exact rfl)) (by decide) ?_
        refine al_nil ?_
        refine hK20 _ ?_
        refine aw_seq_k (fun K23 hK23 => ?_)
        refine aw_regL ?_
        refine alP (some 52) rfl rfl (does_move (v := .int .u64 a1) (by exact rfl)) (by decide) ?_
        refine alP (some 53) rfl rfl (does_move (v := .int .u64 (IntKind.u64.wrap x15)) (by exact rfl)) (by decide) ?_
        obtain ⟨g24, h⟩ := gd_some h
        refine alP (some 54) rfl rfl (does_bin (v := .int .u64 (IntKind.u64.wrap (a1 * 2 ^ (min (Int.toNat (IntKind.u64.wrap x15)) (IntKind.bits .u64))))) (by conv => lhs; whnf) (by conv => lhs; whnf) (shl_hv g24)) (by decide) ?_
        refine alP (some 12) rfl rfl (does_assign (v := .int .u64 (IntKind.u64.wrap (a1 * 2 ^ (min (Int.toNat (IntKind.u64.wrap x15)) (IntKind.bits .u64))))) (by exact rfl)) (by decide) ?_
        refine al_nil ?_
        refine hK23 _ ?_
        refine aw_seq_k (fun K25 hK25 => ?_)
        refine aw_regL ?_
        refine alP (some 55) rfl rfl (does_move (v := .int .u64 (IntKind.u64.wrap (a1 * 2 ^ (min (Int.toNat (IntKind.u64.wrap x15)) (IntKind.bits .u64))))) (by exact rfl)) (by decide) ?_
        refine alP (some 56) rfl rfl (does_bin (v := .int .u64 (Int.fdiv (IntKind.u64.wrap (a1 * 2 ^ (min (Int.toNat (IntKind.u64.wrap x15)) (IntKind.bits .u64)))) (2 ^ (min (Int.toNat 32) (IntKind.bits .u64))))) (by conv => lhs; whnf) (by conv => lhs; whnf) rfl) (by decide) ?_
        refine alP (some 13) rfl rfl (does_assign (v := .int .u64 (Int.fdiv (IntKind.u64.wrap (a1 * 2 ^ (min (Int.toNat (IntKind.u64.wrap x15)) (IntKind.bits .u64)))) (2 ^ (min (Int.toNat 32) (IntKind.bits .u64))))) (by exact rfl)) (by decide) ?_
        refine al_nil ?_
        refine hK25 _ ?_
        refine aw_seq_k (fun K26 hK26 => ?_)
        refine aw_regL ?_
        refine alP (some 57) rfl rfl (does_move (v := .int .u64 (IntKind.u64.wrap (a1 * 2 ^ (min (Int.toNat (IntKind.u64.wrap x15)) (IntKind.bits .u64))))) (by exact rfl)) (by decide) ?_
        refine alP (some 58) rfl rfl (does_bin (v := .int .u64 (bits .and .u64 (IntKind.u64.wrap (a1 * 2 ^ (min (Int.toNat (IntKind.u64.wrap x15)) (IntKind.bits .u64)))) 4294967295)) (by conv => lhs; whnf) (by conv => lhs; whnf) rfl) (by decide) ?_
        refine alP (some 14) rfl rfl (does_assign (v := .int .u64 (bits .and .u64 (IntKind.u64.wrap (a1 * 2 ^ (min (Int.toNat (IntKind.u64.wrap x15)) (IntKind.bits .u64)))) 4294967295)) (by exact rfl)) (by decide) ?_
        refine al_nil ?_
        refine hK26 _ ?_
        refine aw_seq_k (fun K27 hK27 => ?_)
        refine aw_regL ?_
        refine alP (some 59) rfl rfl (does_move (v := .int .u64 (bits .or .u64 (IntKind.u64.wrap (a0 * 2 ^ (min (Int.toNat (IntKind.u64.wrap x15)) (IntKind.bits .u64)))) (Int.fdiv a1 (2 ^ (min (Int.toNat (IntKind.u64.wrap (64 - (IntKind.u64.wrap x15)))) (IntKind.bits .u64)))))) (by exact rfl)) (by decide) ?_
        refine alP (some 60) rfl rfl (does_move (v := .int .u64 (Int.fdiv (IntKind.u64.wrap (a2 * 2 ^ (min (Int.toNat (IntKind.u64.wrap x15)) (IntKind.bits .u64)))) (2 ^ (min (Int.toNat 32) (IntKind.bits .u64))))) (by exact rfl)) (by decide) ?_
        obtain ⟨g28, h⟩ := gd_some h
        refine alP (some 61) rfl rfl (does_bin (v := .int .u64 (IntKind.u64.wrap (Int.tdiv (bits .or .u64 (IntKind.u64.wrap (a0 * 2 ^ (min (Int.toNat (IntKind.u64.wrap x15)) (IntKind.bits .u64)))) (Int.fdiv a1 (2 ^ (min (Int.toNat (IntKind.u64.wrap (64 - (IntKind.u64.wrap x15)))) (IntKind.bits .u64))))) (Int.fdiv (IntKind.u64.wrap (a2 * 2 ^ (min (Int.toNat (IntKind.u64.wrap x15)) (IntKind.bits .u64)))) (2 ^ (min (Int.toNat 32) (IntKind.bits .u64))))))) (by conv => lhs; whnf) (by conv => lhs; whnf) (quo_hv g28)) (by decide) ?_
        refine alP (some 15) rfl rfl (does_assign (v := .int .u64 (IntKind.u64.wrap (Int.tdiv (bits .or .u64 (IntKind.u64.wrap (a0 * 2 ^ (min (Int.toNat (IntKind.u64.wrap x15)) (IntKind.bits .u64)))) (Int.fdiv a1 (2 ^ (min (Int.toNat (IntKind.u64.wrap (64 - (IntKind.u64.wrap x15)))) (IntKind.bits .u64))))) (Int.fdiv (IntKind.u64.wrap (a2 * 2 ^ (min (Int.toNat (IntKind.u64.wrap x15)) (IntKind.bits .u64)))) (2 ^ (min (Int.toNat 32) (IntKind.bits .u64))))))) (by exact rfl)) (by decide) ?_
        refine al_nil ?_
        refine hK27 _ ?_
        refine aw_seq_k (fun K29 hK29 => ?_)
        refine aw_regL ?_
        refine alP (some 62) rfl rfl (does_move (v := .int .u64 (bits .or .u64 (IntKind.u64.wrap (a0 * 2 ^ (min (Int.toNat (IntKind.u64.wrap x15)) (IntKind.bits .u64)))) (Int.fdiv a1 (2 ^ (min (Int.toNat (IntKind.u64.wrap (64 - (IntKind.u64.wrap x15)))) (IntKind.bits .u64)))))) (by exact rfl)) (by decide) ?_
        refine alP (some 63) rfl rfl (does_move (v := .int .u64 (IntKind.u64.wrap (Int.tdiv (bits .or .u64 (IntKind.u64.wrap (a0 * 2 ^ (min (Int.toNat (IntKind.u64.wrap x15)) (IntKind.bits .u64)))) (Int.fdiv a1 (2 ^ (min (Int.toNat (IntKind.u64.wrap (64 - (IntKind.u64.wrap x15)))) (IntKind.bits .u64))))) (Int.fdiv (IntKind.u64.wrap (a2 * 2 ^ (min (Int.toNat (IntKind.u64.wrap x15)) (IntKind.bits .u64)))) (2 ^ (min (Int.toNat 32) (IntKind.bits .u64))))))) (by exact rfl)) (by decide) ?_
        refine alP (some 64) rfl rfl (does_move (v := .int .u64 (Int.fdiv (IntKind.u64.wrap (a2 * 2 ^ (min (Int.toNat (IntKind.u64.wrap x15)) (IntKind.bits .u64)))) (2 ^ (min (Int.toNat 32) (IntKind.bits .u64))))) (by exact rfl)) (by decide) ?_
        refine alP (some 65) rfl rfl (does_bin (v := .int .u64 (IntKind.u64.wrap ((IntKind.u64.wrap (Int.tdiv (bits .or .u64 (IntKind.u64.wrap (a0 * 2 ^ (min (Int.toNat (IntKind.u64.wrap x15)) (IntKind.bits .u64)))) (Int.fdiv a1 (2 ^ (min (Int.toNat (IntKind.u64.wrap (64 - (IntKind.u64.wrap x15)))) (IntKind.bits .u64))))) (Int.fdiv (IntKind.u64.wrap (a2 * 2 ^ (min (Int.toNat (IntKind.u64.wrap x15)) (IntKind.bits .u64)))) (2 ^ (min (Int.toNat 32) (IntKind.bits .u64)))))) * (Int.fdiv (IntKind.u64.wrap (a2 * 2 ^ (min (Int.toNat (IntKind.u64.wrap x15)) (IntKind.bits .u64)))) (2 ^ (min (Int.toNat 32) (IntKind.bits .u64))))))) (by conv => lhs; whnf) (by conv => lhs; whnf) rfl) (by decide) ?_
        refine alP (some 66) rfl rfl (does_bin (v := .int .u64 (IntKind.u64.wrap ((bits .or .u64 (IntKind.u64.wrap (a0 * 2 ^ (min (Int.toNat (IntKind.u64.wrap x15)) (IntKind.bits .u64)))) (Int.fdiv a1 (2 ^ (min (Int.toNat (IntKind.u64.wrap (64 - (IntKind.u64.wrap x15)))) (IntKind.bits .u64))))) - (IntKind.u64.wrap ((IntKind.u64.wrap (Int.tdiv (bits .or .u64 (IntKind.u64.wrap (a0 * 2 ^ (min (Int.toNat (IntKind.u64.wrap x15)) (IntKind.bits .u64)))) (Int.fdiv a1 (2 ^ (min (Int.toNat (IntKind.u64.wrap (64 - (IntKind.u64.wrap x15)))) (IntKind.bits .u64))))) (Int.fdiv (IntKind.u64.wrap (a2 * 2 ^ (min (Int.toNat (IntKind.u64.wrap x15)) (IntKind.bits .u64)))) (2 ^ (min (Int.toNat 32) (IntKind.bits .u64)))))) * (Int.fdiv (IntKind.u64.wrap (a2 * 2 ^ (min (Int.toNat (IntKind.u64.wrap x15)) (IntKind.bits .u64)))) (2 ^ (min (Int.toNat 32) (IntKind.bits .u64))))))))) (by conv => lhs; whnf) (by conv => lhs; whnf) rfl) (by decide) ?_
        refine alP (some 16) rfl rfl (does_assign (v := .int .u64 (IntKind.u64.wrap ((bits .or .u64 (IntKind.u64.wrap (a0 * 2 ^ (min (Int.toNat (IntKind.u64.wrap x15)) (IntKind.bits .u64)))) (Int.fdiv a1 (2 ^ (min (Int.toNat (IntKind.u64.wrap (64 - (IntKind.u64.wrap x15)))) (IntKind.bits .u64))))) - (IntKind.u64.wrap ((IntKind.u64.wrap (Int.tdiv (bits .or .u64 (IntKind.u64.wrap (a0 * 2 ^ (min (Int.toNat (IntKind.u64.wrap x15)) (IntKind.bits .u64)))) (Int.fdiv a1 (2 ^ (min (Int.toNat (IntKind.u64.wrap (64 - (IntKind.u64.wrap x15)))) (IntKind.bits .u64))))) (Int.fdiv (IntKind.u64.wrap (a2 * 2 ^ (min (Int.toNat (IntKind.u64.wrap x15)) (IntKind.bits .u64)))) (2 ^ (min (Int.toNat 32) (IntKind.bits .u64)))))) * (Int.fdiv (IntKind.u64.wrap (a2 * 2 ^ (min (Int.toNat (IntKind.u64.wrap x15)) (IntKind.bits .u64)))) (2 ^ (min (Int.toNat 32) (IntKind.bits .u64))))))))) (by exact rfl)) (by decide) ?_
        refine al_nil ?_
        refine hK29 _ ?_
        obtain ⟨q30, h, hk31⟩ := bnd_some h
        refine aw_cut (fun s => ∃ (v15_0 : Int), math_bits_Div64_k0 a0 a1 a2 x15 v15_0 = some r ∧ s = lit [(2, .int .u64 (IntKind.u64.wrap (a2 * 2 ^ (min (Int.toNat (IntKind.u64.wrap x15)) (IntKind.bits .u64))))), (8, .int .u64 (IntKind.u64.wrap x15)), (9, .int .u64 (Int.fdiv (IntKind.u64.wrap (a2 * 2 ^ (min (Int.toNat (IntKind.u64.wrap x15)) (IntKind.bits .u64)))) (2 ^ (min (Int.toNat 32) (IntKind.bits .u64))))), (10, .int .u64 (bits .and .u64 (IntKind.u64.wrap (a2 * 2 ^ (min (Int.toNat (IntKind.u64.wrap x15)) (IntKind.bits .u64)))) 4294967295)), (11, .int .u64 (bits .or .u64 (IntKind.u64.wrap (a0 * 2 ^ (min (Int.toNat (IntKind.u64.wrap x15)) (IntKind.bits .u64)))) (Int.fdiv a1 (2 ^ (min (Int.toNat (IntKind.u64.wrap (64 - (IntKind.u64.wrap x15)))) (IntKind.bits .u64)))))), (13, .int .u64 (Int.fdiv (IntKind.u64.wrap (a1 * 2 ^ (min (Int.toNat (IntKind.u64.wrap x15)) (IntKind.bits .u64)))) (2 ^ (min (Int.toNat 32) (IntKind.bits .u64))))), (14, .int .u64 (bits .and .u64 (IntKind.u64.wrap (a1 * 2 ^ (min (Int.toNat (IntKind.u64.wrap x15)) (IntKind.bits .u64)))) 4294967295)), (15, .int .u64 v15_0)] [] [] X) ?_ ?_
        · skip
          refine aw_block ?_
          refine aw_loop' (fun m s => ∃ (v15_1 : Int), ∃ (v16_1 : Int), loopN (fun (s : Int × Int) => math_bits_Div64_l1 a1 a2 x15 s.1 s.2) m (v15_1, v16_1) = some q30 ∧ s = lit [(2, .int .u64 (IntKind.u64.wrap (a2 * 2 ^ (min (Int.toNat (IntKind.u64.wrap x15)) (IntKind.bits .u64))))), (8, .int .u64 (IntKind.u64.wrap x15)), (9, .int .u64 (Int.fdiv (IntKind.u64.wrap (a2 * 2 ^ (min (Int.toNat (IntKind.u64.wrap x15)) (IntKind.bits .u64)))) (2 ^ (min (Int.toNat 32) (IntKind.bits .u64))))), (10, .int .u64 (bits .and .u64 (IntKind.u64.wrap (a2 * 2 ^ (min (Int.toNat (IntKind.u64.wrap x15)) (IntKind.bits .u64)))) 4294967295)), (11, .int .u64 (bits .or .u64 (IntKind.u64.wrap (a0 * 2 ^ (min (Int.toNat (IntKind.u64.wrap x15)) (IntKind.bits .u64)))) (Int.fdiv a1 (2 ^ (min (Int.toNat (IntKind.u64.wrap (64 - (IntKind.u64.wrap x15)))) (IntKind.bits .u64)))))), (13, .int .u64 (Int.fdiv (IntKind.u64.wrap (a1 * 2 ^ (min (Int.toNat (IntKind.u64.wrap x15)) (IntKind.bits .u64)))) (2 ^ (min (Int.toNat 32) (IntKind.bits .u64))))), (14, .int .u64 (bits .and .u64 (IntKind.u64.wrap (a1 * 2 ^ (min (Int.toNat (IntKind.u64.wrap x15)) (IntKind.bits .u64)))) 4294967295)), (15, .int .u64 v15_1), (16, .int .u64 v16_1)] [] [] X) Fu
            ⟨_, reb_lit [(2, .int .u64 (IntKind.u64.wrap (a2 * 2 ^ (min (Int.toNat (IntKind.u64.wrap x15)) (IntKind.bits .u64))))), (8, .int .u64 (IntKind.u64.wrap x15)), (9, .int .u64 (Int.fdiv (IntKind.u64.wrap (a2 * 2 ^ (min (Int.toNat (IntKind.u64.wrap x15)) (IntKind.bits .u64)))) (2 ^ (min (Int.toNat 32) (IntKind.bits .u64))))), (10, .int .u64 (bits .and .u64 (IntKind.u64.wrap (a2 * 2 ^ (min (Int.toNat (IntKind.u64.wrap x15)) (IntKind.bits .u64)))) 4294967295)), (11, .int .u64 (bits .or .u64 (IntKind.u64.wrap (a0 * 2 ^ (min (Int.toNat (IntKind.u64.wrap x15)) (IntKind.bits .u64)))) (Int.fdiv a1 (2 ^ (min (Int.toNat (IntKind.u64.wrap (64 - (IntKind.u64.wrap x15)))) (IntKind.bits .u64)))))), (13, .int .u64 (Int.fdiv (IntKind.u64.wrap (a1 * 2 ^ (min (Int.toNat (IntKind.u64.wrap x15)) (IntKind.bits .u64)))) (2 ^ (min (Int.toNat 32) (IntKind.bits .u64))))), (14, .int .u64 (bits .and .u64 (IntKind.u64.wrap (a1 * 2 ^ (min (Int.toNat (IntKind.u64.wrap x15)) (IntKind.bits .u64)))) 4294967295)), (15, .int .u64 (IntKind.u64.wrap (Int.tdiv (bits .or .u64 (IntKind.u64.wrap (a0 * 2 ^ (min (Int.toNat (IntKind.u64.wrap x15)) (IntKind.bits .u64)))) (Int.fdiv a1 (2 ^ (min (Int.toNat (IntKind.u64.wrap (64 - (IntKind.u64.wrap x15)))) (IntKind.bits .u64))))) (Int.fdiv (IntKind.u64.wrap (a2 * 2 ^ (min (Int.toNat (IntKind.u64.wrap x15)) (IntKind.bits .u64)))) (2 ^ (min (Int.toNat 32) (IntKind.bits .u64))))))), (16, .int .u64 (IntKind.u64.wrap ((bits .or .u64 (IntKind.u64.wrap (a0 * 2 ^ (min (Int.toNat (IntKind.u64.wrap x15)) (IntKind.bits .u64)))) (Int.fdiv a1 (2 ^ (min (Int.toNat (IntKind.u64.wrap (64 - (IntKind.u64.wrap x15)))) (IntKind.bits .u64))))) - (IntKind.u64.wrap ((IntKind.u64.wrap (Int.tdiv (bits .or .u64 (IntKind.u64.wrap (a0 * 2 ^ (min (Int.toNat (IntKind.u64.wrap x15)) (IntKind.bits .u64)))) (Int.fdiv a1 (2 ^ (min (Int.toNat (IntKind.u64.wrap (64 - (IntKind.u64.wrap x15)))) (IntKind.bits .u64))))) (Int.fdiv (IntKind.u64.wrap (a2 * 2 ^ (min (Int.toNat (IntKind.u64.wrap x15)) (IntKind.bits .u64)))) (2 ^ (min (Int.toNat 32) (IntKind.bits .u64)))))) * (Int.fdiv (IntKind.u64.wrap (a2 * 2 ^ (min (Int.toNat (IntKind.u64.wrap x15)) (IntKind.bits .u64)))) (2 ^ (min (Int.toNat 32) (IntKind.bits .u64)))))))))] [] [] [] (envOk_cons (by conv => lhs; whnf) (by exact rfl) (envOk_cons (by conv => lhs; whnf) (by exact rfl) (envOk_cons (by conv => lhs; whnf) (by exact rfl) (envOk_cons (by conv => lhs; whnf) (by exact rfl) (envOk_cons (by conv => lhs; whnf) (by exact rfl) (envOk_cons (by conv => lhs; whnf) (by exact rfl) (envOk_cons (by conv => lhs; whnf) (by exact rfl) (envOk_cons (by conv => lhs; whnf) (by exact rfl) (envOk_cons (by conv => lhs; whnf) (by exact rfl) envOk_nil))))))))) objOk_nil (nodup_b rfl) (nodup_b rfl) rfl rfl, (IntKind.u64.wrap (Int.tdiv (bits .or .u64 (IntKind.u64.wrap (a0 * 2 ^ (min (Int.toNat (IntKind.u64.wrap x15)) (IntKind.bits .u64)))) (Int.fdiv a1 (2 ^ (min (Int.toNat (IntKind.u64.wrap (64 - (IntKind.u64.wrap x15)))) (IntKind.bits .u64))))) (Int.fdiv (IntKind.u64.wrap (a2 * 2 ^ (min (Int.toNat (IntKind.u64.wrap x15)) (IntKind.bits .u64)))) (2 ^ (min (Int.toNat 32) (IntKind.bits .u64)))))), (IntKind.u64.wrap ((bits .or .u64 (IntKind.u64.wrap (a0 * 2 ^ (min (Int.toNat (IntKind.u64.wrap x15)) (IntKind.bits .u64)))) (Int.fdiv a1 (2 ^ (min (Int.toNat (IntKind.u64.wrap (64 - (IntKind.u64.wrap x15)))) (IntKind.bits .u64))))) - (IntKind.u64.wrap ((IntKind.u64.wrap (Int.tdiv (bits .or .u64 (IntKind.u64.wrap (a0 * 2 ^ (min (Int.toNat (IntKind.u64.wrap x15)) (IntKind.bits .u64)))) (Int.fdiv a1 (2 ^ (min (Int.toNat (IntKind.u64.wrap (64 - (IntKind.u64.wrap x15)))) (IntKind.bits .u64))))) (Int.fdiv (IntKind.u64.wrap (a2 * 2 ^ (min (Int.toNat (IntKind.u64.wrap x15)) (IntKind.bits .u64)))) (2 ^ (min (Int.toNat 32) (IntKind.bits .u64)))))) * (Int.fdiv (IntKind.u64.wrap (a2 * 2 ^ (min (Int.toNat (IntKind.u64.wrap x15)) (IntKind.bits .u64)))) (2 ^ (min (Int.toNat 32) (IntKind.bits .u64)))))))), h, rfl⟩ ?_
          rintro m s ⟨v15_1, v16_1, h, rfl⟩
          obtain ⟨m1, q32, rfl, h, hq33⟩ := loop_some h
          replace h : math_bits_Div64_l1 a1 a2 x15 v15_1 v16_1 = some q32 := h
          unfold math_bits_Div64_l1 at h
          obtain ⟨q34, h, hk35⟩ := bnd_some h
          refine aw_cut (fun s => math_bits_Div64_k2 a2 x15 v15_1 v16_1 = some q32 ∧ s = lit [(2, .int .u64 (IntKind.u64.wrap (a2 * 2 ^ (min (Int.toNat (IntKind.u64.wrap x15)) (IntKind.bits .u64))))), (8, .int .u64 (IntKind.u64.wrap x15)), (9, .int .u64 (Int.fdiv (IntKind.u64.wrap (a2 * 2 ^ (min (Int.toNat (IntKind.u64.wrap x15)) (IntKind.bits .u64)))) (2 ^ (min (Int.toNat 32) (IntKind.bits .u64))))), (10, .int .u64 (bits .and .u64 (IntKind.u64.wrap (a2 * 2 ^ (min (Int.toNat (IntKind.u64.wrap x15)) (IntKind.bits .u64)))) 4294967295)), (11, .int .u64 (bits .or .u64 (IntKind.u64.wrap (a0 * 2 ^ (min (Int.toNat (IntKind.u64.wrap x15)) (IntKind.bits .u64)))) (Int.fdiv a1 (2 ^ (min (Int.toNat (IntKind.u64.wrap (64 - (IntKind.u64.wrap x15)))) (IntKind.bits .u64)))))), (13, .int .u64 (Int.fdiv (IntKind.u64.wrap (a1 * 2 ^ (min (Int.toNat (IntKind.u64.wrap x15)) (IntKind.bits .u64)))) (2 ^ (min (Int.toNat 32) (IntKind.bits .u64))))), (14, .int .u64 (bits .and .u64 (IntKind.u64.wrap (a1 * 2 ^ (min (Int.toNat (IntKind.u64.wrap x15)) (IntKind.bits .u64)))) 4294967295)), (15, .int .u64 v15_1), (16, .int .u64 v16_1)] [] [] X) ?_ ?_
          · skip
            refine aw_seq_k (fun K36 hK36 => ?_)
            refine aw_regL ?_
            refine alP (some 67) rfl rfl (does_move (v := .int .u64 v15_1) (by exact rfl)) (by decide) ?_
            refine alP (some 68) rfl rfl (does_bin (v := .bool (decide ((4294967296 : Int) ≤ v15_1))) (by conv => lhs; whnf) (by conv => lhs; whnf) rfl) (by decide) ?_
            refine alP (some 69) rfl rfl (does_move (v := .bool (decide ((4294967296 : Int) ≤ v15_1))) (by exact rfl)) (by decide) ?_
            refine al_bool (c := (decide ((4294967296 : Int) ≤ v15_1))) 69 rfl (fun c37 => ?_) (fun c37 => ?_)
            · have h := ifT c37 h
              refine alS (some 70) rfl rfl (by decide) ?_
              refine alS (some 71) rfl rfl (by decide) ?_
              refine alS (some 72) rfl rfl (by decide) ?_
              refine alS (some 73) rfl rfl (by decide) ?_
              refine alS (some 74) rfl rfl (by decide) ?_
              refine alS (some 75) rfl rfl (by decide) ?_
              refine alS (some 76) rfl rfl (by decide) ?_
              refine alS (some 77) rfl rfl (by decide) ?_
              refine alP (some 78) rfl rfl (does_pick (v := .bool true) (by conv => lhs; whnf) (by exact rfl)) (by decide) ?_
              refine al_nil ?_
              refine hK36 _ ?_
              refine aw_cond_t (by decide) rfl ?_
              refine aw_skip ?_
              have h := leafL h hk35
              exact ⟨_, reb_lit [(2, .int .u64 (IntKind.u64.wrap (a2 * 2 ^ (min (Int.toNat (IntKind.u64.wrap x15)) (IntKind.bits .u64))))), (8, .int .u64 (IntKind.u64.wrap x15)), (9, .int .u64 (Int.fdiv (IntKind.u64.wrap (a2 * 2 ^ (min (Int.toNat (IntKind.u64.wrap x15)) (IntKind.bits .u64)))) (2 ^ (min (Int.toNat 32) (IntKind.bits .u64))))), (10, .int .u64 (bits .and .u64 (IntKind.u64.wrap (a2 * 2 ^ (min (Int.toNat (IntKind.u64.wrap x15)) (IntKind.bits .u64)))) 4294967295)), (11, .int .u64 (bits .or .u64 (IntKind.u64.wrap (a0 * 2 ^ (min (Int.toNat (IntKind.u64.wrap x15)) (IntKind.bits .u64)))) (Int.fdiv a1 (2 ^ (min (Int.toNat (IntKind.u64.wrap (64 - (IntKind.u64.wrap x15)))) (IntKind.bits .u64)))))), (13, .int .u64 (Int.fdiv (IntKind.u64.wrap (a1 * 2 ^ (min (Int.toNat (IntKind.u64.wrap x15)) (IntKind.bits .u64)))) (2 ^ (min (Int.toNat 32) (IntKind.bits .u64))))), (14, .int .u64 (bits .and .u64 (IntKind.u64.wrap (a1 * 2 ^ (min (Int.toNat (IntKind.u64.wrap x15)) (IntKind.bits .u64)))) 4294967295)), (15, .int .u64 v15_1), (16, .int .u64 v16_1)] [] [] [] (envOk_cons (by conv => lhs; whnf) (by exact rfl) (envOk_cons (by conv => lhs; whnf) (by exact rfl) (envOk_cons (by conv => lhs; whnf) (by exact rfl) (envOk_cons (by conv => lhs; whnf) (by exact rfl) (envOk_cons (by conv => lhs; whnf) (by exact rfl) (envOk_cons (by conv => lhs; whnf) (by exact rfl) (envOk_cons (by conv => lhs; whnf) (by exact rfl) (envOk_cons (by conv => lhs; whnf) (by exact rfl) (envOk_cons (by conv => lhs; whnf) (by exact rfl) envOk_nil))))))))) objOk_nil (nodup_b rfl) (nodup_b rfl) rfl rfl, h, rfl⟩
            · have h := ifF c37 h
              refine alP (some 70) rfl rfl (does_move (v := .int .u64 v15_1) (by exact rfl)) (by decide) ?_
              refine alP (some 71) rfl rfl (does_move (v := .int .u64 (bits .and .u64 (IntKind.u64.wrap (a2 * 2 ^ (min (Int.toNat (IntKind.u64.wrap x15)) (IntKind.bits .u64)))) 4294967295)) (by exact rfl)) (by decide) ?_
              refine alP (some 72) rfl rfl (does_bin (v := .int .u64 (IntKind.u64.wrap (v15_1 * (bits .and .u64 (IntKind.u64.wrap (a2 * 2 ^ (min (Int.toNat (IntKind.u64.wrap x15)) (IntKind.bits .u64)))) 4294967295)))) (by conv => lhs; whnf) (by conv => lhs; whnf) rfl) (by decide) ?_
              refine alP (some 73) rfl rfl (does_move (v := .int .u64 v16_1) (by exact rfl)) (by decide) ?_
              refine alP (some 74) rfl rfl (does_bin (v := .int .u64 (IntKind.u64.wrap (4294967296 * v16_1))) (by conv => lhs; whnf) (by conv => lhs; whnf) rfl) (by decide) ?_
              refine alP (some 75) rfl rfl (does_move (v := .int .u64 (Int.fdiv (IntKind.u64.wrap (a1 * 2 ^ (min (Int.toNat (IntKind.u64.wrap x15)) (IntKind.bits .u64)))) (2 ^ (min (Int.toNat 32) (IntKind.bits .u64))))) (by exact rfl)) (by decide) ?_
              refine alP (some 76) rfl rfl (does_bin (v := .int .u64 (IntKind.u64.wrap ((IntKind.u64.wrap (4294967296 * v16_1)) + (Int.fdiv (IntKind.u64.wrap (a1 * 2 ^ (min (Int.toNat (IntKind.u64.wrap x15)) (IntKind.bits .u64)))) (2 ^ (min (Int.toNat 32) (IntKind.bits .u64))))))) (by conv => lhs; whnf) (by conv => lhs; whnf) rfl) (by decide) ?_
              refine alP (some 77) rfl rfl (does_bin (v := .bool (decide ((IntKind.u64.wrap ((IntKind.u64.wrap (4294967296 * v16_1)) + (Int.fdiv (IntKind.u64.wrap (a1 * 2 ^ (min (Int.toNat (IntKind.u64.wrap x15)) (IntKind.bits .u64)))) (2 ^ (min (Int.toNat 32) (IntKind.bits .u64)))))) < (IntKind.u64.wrap (v15_1 * (bits .and .u64 (IntKind.u64.wrap (a2 * 2 ^ (min (Int.toNat (IntKind.u64.wrap x15)) (IntKind.bits .u64)))) 4294967295)))))) (by conv => lhs; whnf) (by conv => lhs; whnf) rfl) (by decide) ?_
              refine alP (some 78) rfl rfl (does_pick (v := .bool (decide ((IntKind.u64.wrap ((IntKind.u64.wrap (4294967296 * v16_1)) + (Int.fdiv (IntKind.u64.wrap (a1 * 2 ^ (min (Int.toNat (IntKind.u64.wrap x15)) (IntKind.bits .u64)))) (2 ^ (min (Int.toNat 32) (IntKind.bits .u64)))))) < (IntKind.u64.wrap (v15_1 * (bits .and .u64 (IntKind.u64.wrap (a2 * 2 ^ (min (Int.toNat (IntKind.u64.wrap x15)) (IntKind.bits .u64)))) 4294967295)))))) (by conv => lhs; whnf) (by exact rfl)) (by decide) ?_
              refine al_nil ?_
              refine hK36 _ ?_
              refine aw_bool (b := (decide ((IntKind.u64.wrap ((IntKind.u64.wrap (4294967296 * v16_1)) + (Int.fdiv (IntKind.u64.wrap (a1 * 2 ^ (min (Int.toNat (IntKind.u64.wrap x15)) (IntKind.bits .u64)))) (2 ^ (min (Int.toNat 32) (IntKind.bits .u64)))))) < (IntKind.u64.wrap (v15_1 * (bits .and .u64 (IntKind.u64.wrap (a2 * 2 ^ (min (Int.toNat (IntKind.u64.wrap x15)) (IntKind.bits .u64)))) 4294967295)))))) 78 rfl (fun c38 => ?_) (fun c38 => ?_)
              · have h := ifT c38 h
                refine aw_cond_t (by decide) rfl ?_
                refine aw_skip ?_
                have h := leafL h hk35
                exact ⟨_, reb_lit [(2, .int .u64 (IntKind.u64.wrap (a2 * 2 ^ (min (Int.toNat (IntKind.u64.wrap x15)) (IntKind.bits .u64))))), (8, .int .u64 (IntKind.u64.wrap x15)), (9, .int .u64 (Int.fdiv (IntKind.u64.wrap (a2 * 2 ^ (min (Int.toNat (IntKind.u64.wrap x15)) (IntKind.bits .u64)))) (2 ^ (min (Int.toNat 32) (IntKind.bits .u64))))), (10, .int .u64 (bits .and .u64 (IntKind.u64.wrap (a2 * 2 ^ (min (Int.toNat (IntKind.u64.wrap x15)) (IntKind.bits .u64)))) 4294967295)), (11, .int .u64 (bits .or .u64 (IntKind.u64.wrap (a0 * 2 ^ (min (Int.toNat (IntKind.u64.wrap x15)) (IntKind.bits .u64)))) (Int.fdiv a1 (2 ^ (min (Int.toNat (IntKind.u64.wrap (64 - (IntKind.u64.wrap x15)))) (IntKind.bits .u64)))))), (13, .int .u64 (Int.fdiv (IntKind.u64.wrap (a1 * 2 ^ (min (Int.toNat (IntKind.u64.wrap x15)) (IntKind.bits .u64)))) (2 ^ (min (Int.toNat 32) (IntKind.bits .u64))))), (14, .int .u64 (bits .and .u64 (IntKind.u64.wrap (a1 * 2 ^ (min (Int.toNat (IntKind.u64.wrap x15)) (IntKind.bits .u64)))) 4294967295)), (15, .int .u64 v15_1), (16, .int .u64 v16_1)] [] [] [] (envOk_cons (by conv => lhs; whnf) (by exact rfl) (envOk_cons (by conv => lhs; whnf) (by exact rfl) (envOk_cons (by conv => lhs; whnf) (by exact rfl) (envOk_cons (by conv => lhs; whnf) (by exact rfl) (envOk_cons (by conv => lhs; whnf) (by exact rfl) (envOk_cons (by conv => lhs; whnf) (by exact rfl) (envOk_cons (by conv => lhs; whnf) (by exact rfl) (envOk_cons (by conv => lhs; whnf) (by exact rfl) (envOk_cons (by conv => lhs; whnf) (by exact rfl) envOk_nil))))))))) objOk_nil (nodup_b rfl) (nodup_b rfl) rfl rfl, h, rfl⟩
              · have h := ifF c38 h
                refine aw_cond_f (by decide) rfl ?_
                refine aw_exit ?_
                have h := leafR h hk35
                have h := leafR h hq33
                obtain rfl := Option.some.inj h
                have h := hk31
                exact ⟨_, reb_lit [(2, .int .u64 (IntKind.u64.wrap (a2 * 2 ^ (min (Int.toNat (IntKind.u64.wrap x15)) (IntKind.bits .u64))))), (8, .int .u64 (IntKind.u64.wrap x15)), (9, .int .u64 (Int.fdiv (IntKind.u64.wrap (a2 * 2 ^ (min (Int.toNat (IntKind.u64.wrap x15)) (IntKind.bits .u64)))) (2 ^ (min (Int.toNat 32) (IntKind.bits .u64))))), (10, .int .u64 (bits .and .u64 (IntKind.u64.wrap (a2 * 2 ^ (min (Int.toNat (IntKind.u64.wrap x15)) (IntKind.bits .u64)))) 4294967295)), (11, .int .u64 (bits .or .u64 (IntKind.u64.wrap (a0 * 2 ^ (min (Int.toNat (IntKind.u64.wrap x15)) (IntKind.bits .u64)))) (Int.fdiv a1 (2 ^ (min (Int.toNat (IntKind.u64.wrap (64 - (IntKind.u64.wrap x15)))) (IntKind.bits .u64)))))), (13, .int .u64 (Int.fdiv (IntKind.u64.wrap (a1 * 2 ^ (min (Int.toNat (IntKind.u64.wrap x15)) (IntKind.bits .u64)))) (2 ^ (min (Int.toNat 32) (IntKind.bits .u64))))), (14, .int .u64 (bits .and .u64 (IntKind.u64.wrap (a1 * 2 ^ (min (Int.toNat (IntKind.u64.wrap x15)) (IntKind.bits .u64)))) 4294967295)), (15, .int .u64 v15_1)] [] [] [] (envOk_cons (by conv => lhs; whnf) (by exact rfl) (envOk_cons (by conv => lhs; whnf) (by exact rfl) (envOk_cons (by conv => lhs; whnf) (by exact rfl) (envOk_cons (by conv => lhs; whnf) (by exact rfl) (envOk_cons (by conv => lhs; whnf) (by exact rfl) (envOk_cons (by conv => lhs; whnf) (by exact rfl) (envOk_cons (by conv => lhs; whnf) (by exact rfl) (envOk_cons (by conv => lhs; whnf) (by exact rfl) envOk_nil)))))))) objOk_nil (nodup_b rfl) (nodup_b rfl) rfl rfl, v15_1, h, rfl⟩
          · rintro s ⟨h, rfl⟩
            unfold math_bits_Div64_k2 at h
            refine aw_block ?_
            refine aw_seq_k (fun K39 hK39 => ?_)
            refine aw_regL ?_
            refine alP (some 79) rfl rfl (does_move (v := .int .u64 v15_1) (by exact rfl)) (by decide) ?_
            refine alP (some 80) rfl rfl (does_bin (v := .int .u64 (IntKind.u64.wrap (v15_1 - 1))) (by conv => lhs; whnf) (by conv => lhs; whnf) rfl) (by decide) ?_
            refine alP (some 15) rfl rfl (does_assign (v := .int .u64 (IntKind.u64.wrap (v15_1 - 1))) (by exact rfl)) (by decide) ?_
            refine al_nil ?_
            refine hK39 _ ?_
            refine aw_seq_k (fun K40 hK40 => ?_)
            refine aw_regL ?_
            refine alP (some 81) rfl rfl (does_move (v := .int .u64 v16_1) (by exact rfl)) (by decide) ?_
            refine alP (some 82) rfl rfl (does_move (v := .int .u64 (Int.fdiv (IntKind.u64.wrap (a2 * 2 ^ (min (Int.toNat (IntKind.u64.wrap x15)) (IntKind.bits .u64)))) (2 ^ (min (Int.toNat 32) (IntKind.bits .u64))))) (by exact rfl)) (by decide) ?_
            refine alP (some 83) rfl rfl (does_bin (v := .int .u64 (IntKind.u64.wrap (v16_1 + (Int.fdiv (IntKind.u64.wrap (a2 * 2 ^ (min (Int.toNat (IntKind.u64.wrap x15)) (IntKind.bits .u64)))) (2 ^ (min (Int.toNat 32) (IntKind.bits .u64))))))) (by conv => lhs; whnf) (by conv => lhs; whnf) rfl) (by decide) ?_
            refine alP (some 16) rfl rfl (does_assign (v := .int .u64 (IntKind.u64.wrap (v16_1 + (Int.fdiv (IntKind.u64.wrap (a2 * 2 ^ (min (Int.toNat (IntKind.u64.wrap x15)) (IntKind.bits .u64)))) (2 ^ (min (Int.toNat 32) (IntKind.bits .u64))))))) (by exact rfl)) (by decide) ?_
            refine al_nil ?_
            refine hK40 _ ?_
            refine aw_seq_k (fun K41 hK41 => ?_)
            refine aw_regL ?_
            refine alP (some 84) rfl rfl (does_move (v := .int .u64 (IntKind.u64.wrap (v16_1 + (Int.fdiv (IntKind.u64.wrap (a2 * 2 ^ (min (Int.toNat (IntKind.u64.wrap x15)) (IntKind.bits .u64)))) (2 ^ (min (Int.toNat 32) (IntKind.bits .u64))))))) (by exact rfl)) (by decide) ?_
            refine alP (some 85) rfl rfl (does_bin (v := .bool (decide ((4294967296 : Int) ≤ (IntKind.u64.wrap (v16_1 + (Int.fdiv (IntKind.u64.wrap (a2 * 2 ^ (min (Int.toNat (IntKind.u64.wrap x15)) (IntKind.bits .u64)))) (2 ^ (min (Int.toNat 32) (IntKind.bits .u64))))))))) (by conv => lhs; whnf) (by conv => lhs; whnf) rfl) (by decide) ?_
            refine al_nil ?_
            refine hK41 _ ?_
            refine aw_bool (b := (decide ((4294967296 : Int) ≤ (IntKind.u64.wrap (v16_1 + (Int.fdiv (IntKind.u64.wrap (a2 * 2 ^ (min (Int.toNat (IntKind.u64.wrap x15)) (IntKind.bits .u64)))) (2 ^ (min (Int.toNat 32) (IntKind.bits .u64))))))))) 85 rfl (fun c42 => ?_) (fun c42 => ?_)
            · have h := ifT c42 h
              refine aw_cond_t (by decide) rfl ?_
              refine aw_exit ?_
              have h := leafR h hq33
              obtain rfl := Option.some.inj h
              have h := hk31
              exact ⟨_, reb_lit [(2, .int .u64 (IntKind.u64.wrap (a2 * 2 ^ (min (Int.toNat (IntKind.u64.wrap x15)) (IntKind.bits .u64))))), (8, .int .u64 (IntKind.u64.wrap x15)), (9, .int .u64 (Int.fdiv (IntKind.u64.wrap (a2 * 2 ^ (min (Int.toNat (IntKind.u64.wrap x15)) (IntKind.bits .u64)))) (2 ^ (min (Int.toNat 32) (IntKind.bits .u64))))), (10, .int .u64 (bits .and .u64 (IntKind.u64.wrap (a2 * 2 ^ (min (Int.toNat (IntKind.u64.wrap x15)) (IntKind.bits .u64)))) 4294967295)), (11, .int .u64 (bits .or .u64 (IntKind.u64.wrap (a0 * 2 ^ (min (Int.toNat (IntKind.u64.wrap x15)) (IntKind.bits .u64)))) (Int.fdiv a1 (2 ^ (min (Int.toNat (IntKind.u64.wrap (64 - (IntKind.u64.wrap x15)))) (IntKind.bits .u64)))))), (13, .int .u64 (Int.fdiv (IntKind.u64.wrap (a1 * 2 ^ (min (Int.toNat (IntKind.u64.wrap x15)) (IntKind.bits .u64)))) (2 ^ (min (Int.toNat 32) (IntKind.bits .u64))))), (14, .int .u64 (bits .and .u64 (IntKind.u64.wrap (a1 * 2 ^ (min (Int.toNat (IntKind.u64.wrap x15)) (IntKind.bits .u64)))) 4294967295)), (15, .int .u64 (IntKind.u64.wrap (v15_1 - 1)))] [] [] [] (envOk_cons (by conv => lhs; whnf) (by exact rfl) (envOk_cons (by conv => lhs; whnf) (by exact rfl) (envOk_cons (by conv => lhs; whnf) (by exact rfl) (envOk_cons (by conv => lhs; whnf) (by exact rfl) (envOk_cons (by conv => lhs; whnf) (by exact rfl) (envOk_cons (by conv => lhs; whnf) (by exact rfl) (envOk_cons (by conv => lhs; whnf) (by exact rfl) (envOk_cons (by conv => lhs; whnf) (by exact rfl) envOk_nil)))))))) objOk_nil (nodup_b rfl) (nodup_b rfl) rfl rfl, (IntKind.u64.wrap (v15_1 - 1)), h, rfl⟩
            · have h := ifF c42 h
              refine aw_cond_f (by decide) rfl ?_
              refine aw_skip ?_
              have h := leafL h hq33
              exact ⟨m1, Nat.lt_succ_self _, _, reb_lit [(2, .int .u64 (IntKind.u64.wrap (a2 * 2 ^ (min (Int.toNat (IntKind.u64.wrap x15)) (IntKind.bits .u64))))), (8, .int .u64 (IntKind.u64.wrap x15)), (9, .int .u64 (Int.fdiv (IntKind.u64.wrap (a2 * 2 ^ (min (Int.toNat (IntKind.u64.wrap x15)) (IntKind.bits .u64)))) (2 ^ (min (Int.toNat 32) (IntKind.bits .u64))))), (10, .int .u64 (bits .and .u64 (IntKind.u64.wrap (a2 * 2 ^ (min (Int.toNat (IntKind.u64.wrap x15)) (IntKind.bits .u64)))) 4294967295)), (11, .int .u64 (bits .or .u64 (IntKind.u64.wrap (a0 * 2 ^ (min (Int.toNat (IntKind.u64.wrap x15)) (IntKind.bits .u64)))) (Int.fdiv a1 (2 ^ (min (Int.toNat (IntKind.u64.wrap (64 - (IntKind.u64.wrap x15)))) (IntKind.bits .u64)))))), (13, .int .u64 (Int.fdiv (IntKind.u64.wrap (a1 * 2 ^ (min (Int.toNat (IntKind.u64.wrap x15)) (IntKind.bits .u64)))) (2 ^ (min (Int.toNat 32) (IntKind.bits .u64))))), (14, .int .u64 (bits .and .u64 (IntKind.u64.wrap (a1 * 2 ^ (min (Int.toNat (IntKind.u64.wrap x15)) (IntKind.bits .u64)))) 4294967295)), (15, .int .u64 (IntKind.u64.wrap (v15_1 - 1))), (16, .int .u64 (IntKind.u64.wrap (v16_1 + (Int.fdiv (IntKind.u64.wrap (a2 * 2 ^ (min (Int.toNat (IntKind.u64.wrap x15)) (IntKind.bits .u64)))) (2 ^ (min (Int.toNat 32) (IntKind.bits .u64)))))))] [] [] [] (envOk_cons (by conv => lhs; whnf) (by exact rfl) (envOk_cons (by conv => lhs; whnf) (by exact rfl) (envOk_cons (by conv => lhs; whnf) (by exact rfl) (envOk_cons (by conv => lhs; whnf) (by exact rfl) (envOk_cons (by conv => lhs; whnf) (by exact rfl) (envOk_cons (by conv => lhs; whnf) (by exact rfl) (envOk_cons (by conv => lhs; whnf) (by exact rfl) (envOk_cons (by conv => lhs; whnf) (by exact rfl) (envOk_cons (by conv => lhs; whnf) (by exact rfl) envOk_nil))))))))) objOk_nil (nodup_b rfl) (nodup_b rfl) rfl rfl, (IntKind.u64.wrap (v15_1 - 1)), (IntKind.u64.wrap (v16_1 + (Int.fdiv (IntKind.u64.wrap (a2 * 2 ^ (min (Int.toNat (IntKind.u64.wrap x15)) (IntKind.bits .u64)))) (2 ^ (min (Int.toNat 32) (IntKind.bits .u64)))))), h, rfl⟩
        · rintro s ⟨v15_0, h, rfl⟩
          unfold math_bits_Div64_k0 at h
          refine aw_seq_k (fun K43 hK43 => ?_)
          refine aw_regL ?_
          refine alP (some 86) rfl rfl (does_move (v := .int .u64 (bits .or .u64 (IntKind.u64.wrap (a0 * 2 ^ (min (Int.toNat (IntKind.u64.wrap x15)) (IntKind.bits .u64)))) (Int.fdiv a1 (2 ^ (min (Int.toNat (IntKind.u64.wrap (64 - (IntKind.u64.wrap x15)))) (IntKind.bits .u64)))))) (by exact rfl)) (by decide) ?_
          refine alP (some 87) rfl rfl (does_bin (v := .int .u64 (IntKind.u64.wrap ((bits .or .u64 (IntKind.u64.wrap (a0 * 2 ^ (min (Int.toNat (IntKind.u64.wrap x15)) (IntKind.bits .u64)))) (Int.fdiv a1 (2 ^ (min (Int.toNat (IntKind.u64.wrap (64 - (IntKind.u64.wrap x15)))) (IntKind.bits .u64))))) * 4294967296))) (by conv => lhs; whnf) (by conv => lhs; whnf) rfl) (by decide) ?_
          refine alP (some 88) rfl rfl (does_move (v := .int .u64 (Int.fdiv (IntKind.u64.wrap (a1 * 2 ^ (min (Int.toNat (IntKind.u64.wrap x15)) (IntKind.bits .u64)))) (2 ^ (min (Int.toNat 32) (IntKind.bits .u64))))) (by exact rfl)) (by decide) ?_
          refine alP (some 89) rfl rfl (does_bin (v := .int .u64 (IntKind.u64.wrap ((IntKind.u64.wrap ((bits .or .u64 (IntKind.u64.wrap (a0 * 2 ^ (min (Int.toNat (IntKind.u64.wrap x15)) (IntKind.bits .u64)))) (Int.fdiv a1 (2 ^ (min (Int.toNat (IntKind.u64.wrap (64 - (IntKind.u64.wrap x15)))) (IntKind.bits .u64))))) * 4294967296)) + (Int.fdiv (IntKind.u64.wrap (a1 * 2 ^ (min (Int.toNat (IntKind.u64.wrap x15)) (IntKind.bits .u64)))) (2 ^ (min (Int.toNat 32) (IntKind.bits .u64))))))) (by conv => lhs; whnf) (by conv => lhs; whnf) rfl) (by decide) ?_
          refine alP (some 90) rfl rfl (does_move (v := .int .u64 v15_0) (by exact rfl)) (by decide) ?_
          refine alP (some 91) rfl rfl (does_move (v := .int .u64 (IntKind.u64.wrap (a2 * 2 ^ (min (Int.toNat (IntKind.u64.wrap x15)) (IntKind.bits .u64))))) (by exact rfl)) (by decide) ?_
          refine alP (some 92) rfl rfl (does_bin (v := .int .u64 (IntKind.u64.wrap (v15_0 * (IntKind.u64.wrap (a2 * 2 ^ (min (Int.toNat (IntKind.u64.wrap x15)) (IntKind.bits .u64))))))) (by conv => lhs; whnf) (by conv => lhs; whnf) rfl) (by decide) ?_
          refine alP (some 93) rfl rfl (does_bin (v := .int .u64 (IntKind.u64.wrap ((IntKind.u64.wrap ((IntKind.u64.wrap ((bits .or .u64 (IntKind.u64.wrap (a0 * 2 ^ (min (Int.toNat (IntKind.u64.wrap x15)) (IntKind.bits .u64)))) (Int.fdiv a1 (2 ^ (min (Int.toNat (IntKind.u64.wrap (64 - (IntKind.u64.wrap x15)))) (IntKind.bits .u64))))) * 4294967296)) + (Int.fdiv (IntKind.u64.wrap (a1 * 2 ^ (min (Int.toNat (IntKind.u64.wrap x15)) (IntKind.bits .u64)))) (2 ^ (min (Int.toNat 32) (IntKind.bits .u64)))))) - (IntKind.u64.wrap (v15_0 * (IntKind.u64.wrap (a2 * 2 ^ (min (Int.toNat (IntKind.u64.wrap x15)) (IntKind.bits .u64))))))))) (by conv => lhs; whnf) (by conv => lhs; whnf) rfl) (by decide) ?_
          refine alP (some 17) rfl rfl (does_assign (v := .int .u64 (IntKind.u64.wrap ((IntKind.u64.wrap ((IntKind.u64.wrap ((bits .or .u64 (IntKind.u64.wrap (a0 * 2 ^ (min (Int.toNat (IntKind.u64.wrap x15)) (IntKind.bits .u64)))) (Int.fdiv a1 (2 ^ (min (Int.toNat (IntKind.u64.wrap (64 - (IntKind.u64.wrap x15)))) (IntKind.bits .u64))))) * 4294967296)) + (Int.fdiv (IntKind.u64.wrap (a1 * 2 ^ (min (Int.toNat (IntKind.u64.wrap x15)) (IntKind.bits .u64)))) (2 ^ (min (Int.toNat 32) (IntKind.bits .u64)))))) - (IntKind.u64.wrap (v15_0 * (IntKind.u64.wrap (a2 * 2 ^ (min (Int.toNat (IntKind.u64.wrap x15)) (IntKind.bits .u64))))))))) (by exact rfl)) (by decide) ?_
          refine al_nil ?_
          refine hK43 _ ?_
          refine aw_seq_k (fun K44 hK44 => ?_)
          refine aw_regL ?_
          refine alP (some 94) rfl rfl (does_move (v := .int .u64 (IntKind.u64.wrap ((IntKind.u64.wrap ((IntKind.u64.wrap ((bits .or .u64 (IntKind.u64.wrap (a0 * 2 ^ (min (Int.toNat (IntKind.u64.wrap x15)) (IntKind.bits .u64)))) (Int.fdiv a1 (2 ^ (min (Int.toNat (IntKind.u64.wrap (64 - (IntKind.u64.wrap x15)))) (IntKind.bits .u64))))) * 4294967296)) + (Int.fdiv (IntKind.u64.wrap (a1 * 2 ^ (min (Int.toNat (IntKind.u64.wrap x15)) (IntKind.bits .u64)))) (2 ^ (min (Int.toNat 32) (IntKind.bits .u64)))))) - (IntKind.u64.wrap (v15_0 * (IntKind.u64.wrap (a2 * 2 ^ (min (Int.toNat (IntKind.u64.wrap x15)) (IntKind.bits .u64))))))))) (by exact rfl)) (by decide) ?_
          refine alP (some 95) rfl rfl (does_move (v := .int .u64 (Int.fdiv (IntKind.u64.wrap (a2 * 2 ^ (min (Int.toNat (IntKind.u64.wrap x15)) (IntKind.bits .u64)))) (2 ^ (min (Int.toNat 32) (IntKind.bits .u64))))) (by exact rfl)) (by decide) ?_
          obtain ⟨g45, h⟩ := gd_some h
          refine alP (some 96) rfl rfl (does_bin (v := .int .u64 (IntKind.u64.wrap (Int.tdiv (IntKind.u64.wrap ((IntKind.u64.wrap ((IntKind.u64.wrap ((bits .or .u64 (IntKind.u64.wrap (a0 * 2 ^ (min (Int.toNat (IntKind.u64.wrap x15)) (IntKind.bits .u64)))) (Int.fdiv a1 (2 ^ (min (Int.toNat (IntKind.u64.wrap (64 - (IntKind.u64.wrap x15)))) (IntKind.bits .u64))))) * 4294967296)) + (Int.fdiv (IntKind.u64.wrap (a1 * 2 ^ (min (Int.toNat (IntKind.u64.wrap x15)) (IntKind.bits .u64)))) (2 ^ (min (Int.toNat 32) (IntKind.bits .u64)))))) - (IntKind.u64.wrap (v15_0 * (IntKind.u64.wrap (a2 * 2 ^ (min (Int.toNat (IntKind.u64.wrap x15)) (IntKind.bits .u64)))))))) (Int.fdiv (IntKind.u64.wrap (a2 * 2 ^ (min (Int.toNat (IntKind.u64.wrap x15)) (IntKind.bits .u64)))) (2 ^ (min (Int.toNat 32) (IntKind.bits .u64))))))) (by conv => lhs; whnf) (by conv => lhs; whnf) (quo_hv g45)) (by decide) ?_
          refine alP (some 18) rfl rfl (does_assign (v := .int .u64 (IntKind.u64.wrap (Int.tdiv (IntKind.u64.wrap ((IntKind.u64.wrap ((IntKind.u64.wrap ((bits .or .u64 (IntKind.u64.wrap (a0 * 2 ^ (min (Int.toNat (IntKind.u64.wrap x15)) (IntKind.bits .u64)))) (Int.fdiv a1 (2 ^ (min (Int.toNat (IntKind.u64.wrap (64 - (IntKind.u64.wrap x15)))) (IntKind.bits .u64))))) * 4294967296)) + (Int.fdiv (IntKind.u64.wrap (a1 * 2 ^ (min (Int.toNat (IntKind.u64.wrap x15)) (IntKind.bits .u64)))) (2 ^ (min (Int.toNat 32) (IntKind.bits .u64)))))) - (IntKind.u64.wrap (v15_0 * (IntKind.u64.wrap (a2 * 2 ^ (min (Int.toNat (IntKind.u64.wrap x15)) (IntKind.bits .u64)))))))) (Int.fdiv (IntKind.u64.wrap (a2 * 2 ^ (min (Int.toNat (IntKind.u64.wrap x15)) (IntKind.bits .u64)))) (2 ^ (min (Int.toNat 32) (IntKind.bits .u64))))))) (by exact rfl)) (by decide) ?_
          refine al_nil ?_
          refine hK44 _ ?_
          refine aw_seq_k (fun K46 hK46 => ?_)
          refine aw_regL ?_
          refine alP (some 97) rfl rfl (does_move (v := .int .u64 (IntKind.u64.wrap ((IntKind.u64.wrap ((IntKind.u64.wrap ((bits .or .u64 (IntKind.u64.wrap (a0 * 2 ^ (min (Int.toNat (IntKind.u64.wrap x15)) (IntKind.bits .u64)))) (Int.fdiv a1 (2 ^ (min (Int.toNat (IntKind.u64.wrap (64 - (IntKind.u64.wrap x15)))) (IntKind.bits .u64))))) * 4294967296)) + (Int.fdiv (IntKind.u64.wrap (a1 * 2 ^ (min (Int.toNat (IntKind.u64.wrap x15)) (IntKind.bits .u64)))) (2 ^ (min (Int.toNat 32) (IntKind.bits .u64)))))) - (IntKind.u64.wrap (v15_0 * (IntKind.u64.wrap (a2 * 2 ^ (min (Int.toNat (IntKind.u64.wrap x15)) (IntKind.bits .u64))))))))) (by exact rfl)) (by decide) ?_
          refine alP (some 98) rfl rfl (does_move (v := .int .u64 (IntKind.u64.wrap (Int.tdiv (IntKind.u64.wrap ((IntKind.u64.wrap ((IntKind.u64.wrap ((bits .or .u64 (IntKind.u64.wrap (a0 * 2 ^ (min (Int.toNat (IntKind.u64.wrap x15)) (IntKind.bits .u64)))) (Int.fdiv a1 (2 ^ (min (Int.toNat (IntKind.u64.wrap (64 - (IntKind.u64.wrap x15)))) (IntKind.bits .u64))))) * 4294967296)) + (Int.fdiv (IntKind.u64.wrap (a1 * 2 ^ (min (Int.toNat (IntKind.u64.wrap x15)) (IntKind.bits .u64)))) (2 ^ (min (Int.toNat 32) (IntKind.bits .u64)))))) - (IntKind.u64.wrap (v15_0 * (IntKind.u64.wrap (a2 * 2 ^ (min (Int.toNat (IntKind.u64.wrap x15)) (IntKind.bits .u64)))))))) (Int.fdiv (IntKind.u64.wrap (a2 * 2 ^ (min (Int.toNat (IntKind.u64.wrap x15)) (IntKind.bits .u64)))) (2 ^ (min (Int.toNat 32) (IntKind.bits .u64))))))) (by exact rfl)) (by decide) ?_
          refine alP (some 99) rfl rfl (does_move (v := .int .u64 (Int.fdiv (IntKind.u64.wrap (a2 * 2 ^ (min (Int.toNat (IntKind.u64.wrap x15)) (IntKind.bits .u64)))) (2 ^ (min (Int.toNat 32) (IntKind.bits .u64))))) (by exact rfl)) (by decide) ?_
          refine alP (some 100) rfl rfl (does_bin (v := .int .u64 (IntKind.u64.wrap ((IntKind.u64.wrap (Int.tdiv (IntKind.u64.wrap ((IntKind.u64.wrap ((IntKind.u64.wrap ((bits .or .u64 (IntKind.u64.wrap (a0 * 2 ^ (min (Int.toNat (IntKind.u64.wrap x15)) (IntKind.bits .u64)))) (Int.fdiv a1 (2 ^ (min (Int.toNat (IntKind.u64.wrap (64 - (IntKind.u64.wrap x15)))) (IntKind.bits .u64))))) * 4294967296)) + (Int.fdiv (IntKind.u64.wrap (a1 * 2 ^ (min (Int.toNat (IntKind.u64.wrap x15)) (IntKind.bits .u64)))) (2 ^ (min (Int.toNat 32) (IntKind.bits .u64)))))) - (IntKind.u64.wrap (v15_0 * (IntKind.u64.wrap (a2 * 2 ^ (min (Int.toNat (IntKind.u64.wrap x15)) (IntKind.bits .u64)))))))) (Int.fdiv (IntKind.u64.wrap (a2 * 2 ^ (min (Int.toNat (IntKind.u64.wrap x15)) (IntKind.bits .u64)))) (2 ^ (min (Int.toNat 32) (IntKind.bits .u64)))))) * (Int.fdiv (IntKind.u64.wrap (a2 * 2 ^ (min (Int.toNat (IntKind.u64.wrap x15)) (IntKind.bits .u64)))) (2 ^ (min (Int.toNat 32) (IntKind.bits .u64))))))) (by conv => lhs; whnf) (by conv => lhs; whnf) rfl) (by decide) ?_
          refine alP (some 101) rfl rfl (does_bin (v := .int .u64 (IntKind.u64.wrap ((IntKind.u64.wrap ((IntKind.u64.wrap ((IntKind.u64.wrap ((bits .or .u64 (IntKind.u64.wrap (a0 * 2 ^ (min (Int.toNat (IntKind.u64.wrap x15)) (IntKind.bits .u64)))) (Int.fdiv a1 (2 ^ (min (Int.toNat (IntKind.u64.wrap (64 - (IntKind.u64.wrap x15)))) (IntKind.bits .u64))))) * 4294967296)) + (Int.fdiv (IntKind.u64.wrap (a1 * 2 ^ (min (Int.toNat (IntKind.u64.wrap x15)) (IntKind.bits .u64)))) (2 ^ (min (Int.toNat 32) (IntKind.bits .u64)))))) - (IntKind.u64.wrap (v15_0 * (IntKind.u64.wrap (a2 * 2 ^ (min (Int.toNat (IntKind.u64.wrap x15)) (IntKind.bits .u64)))))))) - (IntKind.u64.wrap ((IntKind.u64.wrap (Int.tdiv (IntKind.u64.wrap ((IntKind.u64.wrap ((IntKind.u64.wrap ((bits .or .u64 (IntKind.u64.wrap (a0 * 2 ^ (min (Int.toNat (IntKind.u64.wrap x15)) (IntKind.bits .u64)))) (Int.fdiv a1 (2 ^ (min (Int.toNat (IntKind.u64.wrap (64 - (IntKind.u64.wrap x15)))) (IntKind.bits .u64))))) * 4294967296)) + (Int.fdiv (IntKind.u64.wrap (a1 * 2 ^ (min (Int.toNat (IntKind.u64.wrap x15)) (IntKind.bits .u64)))) (2 ^ (min (Int.toNat 32) (IntKind.bits .u64)))))) - (IntKind.u64.wrap (v15_0 * (IntKind.u64.wrap (a2 * 2 ^ (min (Int.toNat (IntKind.u64.wrap x15)) (IntKind.bits .u64)))))))) (Int.fdiv (IntKind.u64.wrap (a2 * 2 ^ (min (Int.toNat (IntKind.u64.wrap x15)) (IntKind.bits .u64)))) (2 ^ (min (Int.toNat 32) (IntKind.bits .u64)))))) * (Int.fdiv (IntKind.u64.wrap (a2 * 2 ^ (min (Int.toNat (IntKind.u64.wrap x15)) (IntKind.bits .u64)))) (2 ^ (min (Int.toNat 32) (IntKind.bits .u64))))))))) (by conv => lhs; whnf) (by conv => lhs; whnf) rfl) (by decide) ?_
          refine alP (some 16) rfl rfl (does_assign (v := .int .u64 (IntKind.u64.wrap ((IntKind.u64.wrap ((IntKind.u64.wrap ((IntKind.u64.wrap ((bits .or .u64 (IntKind.u64.wrap (a0 * 2 ^ (min (Int.toNat (IntKind.u64.wrap x15)) (IntKind.bits .u64)))) (Int.fdiv a1 (2 ^ (min (Int.toNat (IntKind.u64.wrap (64 - (IntKind.u64.wrap x15)))) (IntKind.bits .u64))))) * 4294967296)) + (Int.fdiv (IntKind.u64.wrap (a1 * 2 ^ (min (Int.toNat (IntKind.u64.wrap x15)) (IntKind.bits .u64)))) (2 ^ (min (Int.toNat 32) (IntKind.bits .u64)))))) - (IntKind.u64.wrap (v15_0 * (IntKind.u64.wrap (a2 * 2 ^ (min (Int.toNat (IntKind.u64.wrap x15)) (IntKind.bits .u64)))))))) - (IntKind.u64.wrap ((IntKind.u64.wrap (Int.tdiv (IntKind.u64.wrap ((IntKind.u64.wrap ((IntKind.u64.wrap ((bits .or .u64 (IntKind.u64.wrap (a0 * 2 ^ (min (Int.toNat (IntKind.u64.wrap x15)) (IntKind.bits .u64)))) (Int.fdiv a1 (2 ^ (min (Int.toNat (IntKind.u64.wrap (64 - (IntKind.u64.wrap x15)))) (IntKind.bits .u64))))) * 4294967296)) + (Int.fdiv (IntKind.u64.wrap (a1 * 2 ^ (min (Int.toNat (IntKind.u64.wrap x15)) (IntKind.bits .u64)))) (2 ^ (min (Int.toNat 32) (IntKind.bits .u64)))))) - (IntKind.u64.wrap (v15_0 * (IntKind.u64.wrap (a2 * 2 ^ (min (Int.toNat (IntKind.u64.wrap x15)) (IntKind.bits .u64)))))))) (Int.fdiv (IntKind.u64.wrap (a2 * 2 ^ (min (Int.toNat (IntKind.u64.wrap x15)) (IntKind.bits .u64)))) (2 ^ (min (Int.toNat 32) (IntKind.bits .u64)))))) * (Int.fdiv (IntKind.u64.wrap (a2 * 2 ^ (min (Int.toNat (IntKind.u64.wrap x15)) (IntKind.bits .u64)))) (2 ^ (min (Int.toNat 32) (IntKind.bits .u64))))))))) (by exact rfl)) (by decide) ?_
          refine al_nil ?_
          refine hK46 _ ?_
          obtain ⟨q47, h, hk48⟩ := bnd_some h
          refine aw_cut (fun s => ∃ (v18_3 : Int), math_bits_Div64_k3 a0 a1 a2 x15 v15_0 v18_3 = some r ∧ s = lit [(2, .int .u64 (IntKind.u64.wrap (a2 * 2 ^ (min (Int.toNat (IntKind.u64.wrap x15)) (IntKind.bits .u64))))), (8, .int .u64 (IntKind.u64.wrap x15)), (14, .int .u64 (bits .and .u64 (IntKind.u64.wrap (a1 * 2 ^ (min (Int.toNat (IntKind.u64.wrap x15)) (IntKind.bits .u64)))) 4294967295)), (15, .int .u64 v15_0), (17, .int .u64 (IntKind.u64.wrap ((IntKind.u64.wrap ((IntKind.u64.wrap ((bits .or .u64 (IntKind.u64.wrap (a0 * 2 ^ (min (Int.toNat (IntKind.u64.wrap x15)) (IntKind.bits .u64)))) (Int.fdiv a1 (2 ^ (min (Int.toNat (IntKind.u64.wrap (64 - (IntKind.u64.wrap x15)))) (IntKind.bits .u64))))) * 4294967296)) + (Int.fdiv (IntKind.u64.wrap (a1 * 2 ^ (min (Int.toNat (IntKind.u64.wrap x15)) (IntKind.bits .u64)))) (2 ^ (min (Int.toNat 32) (IntKind.bits .u64)))))) - (IntKind.u64.wrap (v15_0 * (IntKind.u64.wrap (a2 * 2 ^ (min (Int.toNat (IntKind.u64.wrap x15)) (IntKind.bits .u64))))))))), (18, .int .u64 v18_3)] [] [] X) ?_ ?_
          · skip
            refine aw_block ?_
            refine aw_loop' (fun m s => ∃ (v16_4 : Int), ∃ (v18_4 : Int), loopN (fun (s : Int × Int) => math_bits_Div64_l4 a1 a2 x15 s.1 s.2) m (v16_4, v18_4) = some q47 ∧ s = lit [(2, .int .u64 (IntKind.u64.wrap (a2 * 2 ^ (min (Int.toNat (IntKind.u64.wrap x15)) (IntKind.bits .u64))))), (8, .int .u64 (IntKind.u64.wrap x15)), (9, .int .u64 (Int.fdiv (IntKind.u64.wrap (a2 * 2 ^ (min (Int.toNat (IntKind.u64.wrap x15)) (IntKind.bits .u64)))) (2 ^ (min (Int.toNat 32) (IntKind.bits .u64))))), (10, .int .u64 (bits .and .u64 (IntKind.u64.wrap (a2 * 2 ^ (min (Int.toNat (IntKind.u64.wrap x15)) (IntKind.bits .u64)))) 4294967295)), (14, .int .u64 (bits .and .u64 (IntKind.u64.wrap (a1 * 2 ^ (min (Int.toNat (IntKind.u64.wrap x15)) (IntKind.bits .u64)))) 4294967295)), (15, .int .u64 v15_0), (16, .int .u64 v16_4), (17, .int .u64 (IntKind.u64.wrap ((IntKind.u64.wrap ((IntKind.u64.wrap ((bits .or .u64 (IntKind.u64.wrap (a0 * 2 ^ (min (Int.toNat (IntKind.u64.wrap x15)) (IntKind.bits .u64)))) (Int.fdiv a1 (2 ^ (min (Int.toNat (IntKind.u64.wrap (64 - (IntKind.u64.wrap x15)))) (IntKind.bits .u64))))) * 4294967296)) + (Int.fdiv (IntKind.u64.wrap (a1 * 2 ^ (min (Int.toNat (IntKind.u64.wrap x15)) (IntKind.bits .u64)))) (2 ^ (min (Int.toNat 32) (IntKind.bits .u64)))))) - (IntKind.u64.wrap (v15_0 * (IntKind.u64.wrap (a2 * 2 ^ (min (Int.toNat (IntKind.u64.wrap x15)) (IntKind.bits .u64))))))))), (18, .int .u64 v18_4)] [] [] X) Fu
              ⟨_, reb_lit [(2, .int .u64 (IntKind.u64.wrap (a2 * 2 ^ (min (Int.toNat (IntKind.u64.wrap x15)) (IntKind.bits .u64))))), (8, .int .u64 (IntKind.u64.wrap x15)), (9, .int .u64 (Int.fdiv (IntKind.u64.wrap (a2 * 2 ^ (min (Int.toNat (IntKind.u64.wrap x15)) (IntKind.bits .u64)))) (2 ^ (min (Int.toNat 32) (IntKind.bits .u64))))), (10, .int .u64 (bits .and .u64 (IntKind.u64.wrap (a2 * 2 ^ (min (Int.toNat (IntKind.u64.wrap x15)) (IntKind.bits .u64)))) 4294967295)), (14, .int .u64 (bits .and .u64 (IntKind.u64.wrap (a1 * 2 ^ (min (Int.toNat (IntKind.u64.wrap x15)) (IntKind.bits .u64)))) 4294967295)), (15, .int .u64 v15_0), (16, .int .u64 (IntKind.u64.wrap ((IntKind.u64.wrap ((IntKind.u64.wrap ((IntKind.u64.wrap ((bits .or .u64 (IntKind.u64.wrap (a0 * 2 ^ (min (Int.toNat (IntKind.u64.wrap x15)) (IntKind.bits .u64)))) (Int.fdiv a1 (2 ^ (min (Int.toNat (IntKind.u64.wrap (64 - (IntKind.u64.wrap x15)))) (IntKind.bits .u64))))) * 4294967296)) + (Int.fdiv (IntKind.u64.wrap (a1 * 2 ^ (min (Int.toNat (IntKind.u64.wrap x15)) (IntKind.bits .u64)))) (2 ^ (min (Int.toNat 32) (IntKind.bits .u64)))))) - (IntKind.u64.wrap (v15_0 * (IntKind.u64.wrap (a2 * 2 ^ (min (Int.toNat (IntKind.u64.wrap x15)) (IntKind.bits .u64)))))))) - (IntKind.u64.wrap ((IntKind.u64.wrap (Int.tdiv (IntKind.u64.wrap ((IntKind.u64.wrap ((IntKind.u64.wrap ((bits .or .u64 (IntKind.u64.wrap (a0 * 2 ^ (min (Int.toNat (IntKind.u64.wrap x15)) (IntKind.bits .u64)))) (Int.fdiv a1 (2 ^ (min (Int.toNat (IntKind.u64.wrap (64 - (IntKind.u64.wrap x15)))) (IntKind.bits .u64))))) * 4294967296)) + (Int.fdiv (IntKind.u64.wrap (a1 * 2 ^ (min (Int.toNat (IntKind.u64.wrap x15)) (IntKind.bits .u64)))) (2 ^ (min (Int.toNat 32) (IntKind.bits .u64)))))) - (IntKind.u64.wrap (v15_0 * (IntKind.u64.wrap (a2 * 2 ^ (min (Int.toNat (IntKind.u64.wrap x15)) (IntKind.bits .u64)))))))) (Int.fdiv (IntKind.u64.wrap (a2 * 2 ^ (min (Int.toNat (IntKind.u64.wrap x15)) (IntKind.bits .u64)))) (2 ^ (min (Int.toNat 32) (IntKind.bits .u64)))))) * (Int.fdiv (IntKind.u64.wrap (a2 * 2 ^ (min (Int.toNat (IntKind.u64.wrap x15)) (IntKind.bits .u64)))) (2 ^ (min (Int.toNat 32) (IntKind.bits .u64))))))))), (17, .int .u64 (IntKind.u64.wrap ((IntKind.u64.wrap ((IntKind.u64.wrap ((bits .or .u64 (IntKind.u64.wrap (a0 * 2 ^ (min (Int.toNat (IntKind.u64.wrap x15)) (IntKind.bits .u64)))) (Int.fdiv a1 (2 ^ (min (Int.toNat (IntKind.u64.wrap (64 - (IntKind.u64.wrap x15)))) (IntKind.bits .u64))))) * 4294967296)) + (Int.fdiv (IntKind.u64.wrap (a1 * 2 ^ (min (Int.toNat (IntKind.u64.wrap x15)) (IntKind.bits .u64)))) (2 ^ (min (Int.toNat 32) (IntKind.bits .u64)))))) - (IntKind.u64.wrap (v15_0 * (IntKind.u64.wrap (a2 * 2 ^ (min (Int.toNat (IntKind.u64.wrap x15)) (IntKind.bits .u64))))))))), (18, .int .u64 (IntKind.u64.wrap (Int.tdiv (IntKind.u64.wrap ((IntKind.u64.wrap ((IntKind.u64.wrap ((bits .or .u64 (IntKind.u64.wrap (a0 * 2 ^ (min (Int.toNat (IntKind.u64.wrap x15)) (IntKind.bits .u64)))) (Int.fdiv a1 (2 ^ (min (Int.toNat (IntKind.u64.wrap (64 - (IntKind.u64.wrap x15)))) (IntKind.bits .u64))))) * 4294967296)) + (Int.fdiv (IntKind.u64.wrap (a1 * 2 ^ (min (Int.toNat (IntKind.u64.wrap x15)) (IntKind.bits .u64)))) (2 ^ (min (Int.toNat 32) (IntKind.bits .u64)))))) - (IntKind.u64.wrap (v15_0 * (IntKind.u64.wrap (a2 * 2 ^ (min (Int.toNat (IntKind.u64.wrap x15)) (IntKind.bits .u64)))))))) (Int.fdiv (IntKind.u64.wrap (a2 * 2 ^ (min (Int.toNat (IntKind.u64.wrap x15)) (IntKind.bits .u64)))) (2 ^ (min (Int.toNat 32) (IntKind.bits .u64)))))))] [] [] [] (envOk_cons (by conv => lhs; whnf) (by exact rfl) (envOk_cons (by conv => lhs; whnf) (by exact rfl) (envOk_cons (by conv => lhs; whnf) (by exact rfl) (envOk_cons (by conv => lhs; whnf) (by exact rfl) (envOk_cons (by conv => lhs; whnf) (by exact rfl) (envOk_cons (by conv => lhs; whnf) (by exact rfl) (envOk_cons (by conv => lhs; whnf) (by exact rfl) (envOk_cons (by conv => lhs; whnf) (by exact rfl) (envOk_cons (by conv => lhs; whnf) (by exact rfl) envOk_nil))))))))) objOk_nil (nodup_b rfl) (nodup_b rfl) rfl rfl, (IntKind.u64.wrap ((IntKind.u64.wrap ((IntKind.u64.wrap ((IntKind.u64.wrap ((bits .or .u64 (IntKind.u64.wrap (a0 * 2 ^ (min (Int.toNat (IntKind.u64.wrap x15)) (IntKind.bits .u64)))) (Int.fdiv a1 (2 ^ (min (Int.toNat (IntKind.u64.wrap (64 - (IntKind.u64.wrap x15)))) (IntKind.bits .u64))))) * 4294967296)) + (Int.fdiv (IntKind.u64.wrap (a1 * 2 ^ (min (Int.toNat (IntKind.u64.wrap x15)) (IntKind.bits .u64)))) (2 ^ (min (Int.toNat 32) (IntKind.bits .u64)))))) - (IntKind.u64.wrap (v15_0 * (IntKind.u64.wrap (a2 * 2 ^ (min (Int.toNat (IntKind.u64.wrap x15)) (IntKind.bits .u64)))))))) - (IntKind.u64.wrap ((IntKind.u64.wrap (Int.tdiv (IntKind.u64.wrap ((IntKind.u64.wrap ((IntKind.u64.wrap ((bits .or .u64 (IntKind.u64.wrap (a0 * 2 ^ (min (Int.toNat (IntKind.u64.wrap x15)) (IntKind.bits .u64)))) (Int.fdiv a1 (2 ^ (min (Int.toNat (IntKind.u64.wrap (64 - (IntKind.u64.wrap x15)))) (IntKind.bits .u64))))) * 4294967296)) + (Int.fdiv (IntKind.u64.wrap (a1 * 2 ^ (min (Int.toNat (IntKind.u64.wrap x15)) (IntKind.bits .u64)))) (2 ^ (min (Int.toNat 32) (IntKind.bits .u64)))))) - (IntKind.u64.wrap (v15_0 * (IntKind.u64.wrap (a2 * 2 ^ (min (Int.toNat (IntKind.u64.wrap x15)) (IntKind.bits .u64)))))))) (Int.fdiv (IntKind.u64.wrap (a2 * 2 ^ (min (Int.toNat (IntKind.u64.wrap x15)) (IntKind.bits .u64)))) (2 ^ (min (Int.toNat 32) (IntKind.bits .u64)))))) * (Int.fdiv (IntKind.u64.wrap (a2 * 2 ^ (min (Int.toNat (IntKind.u64.wrap x15)) (IntKind.bits .u64)))) (2 ^ (min (Int.toNat 32) (IntKind.bits .u64)))))))), (IntKind.u64.wrap (Int.tdiv (IntKind.u64.wrap ((IntKind.u64.wrap ((IntKind.u64.wrap ((bits .or .u64 (IntKind.u64.wrap (a0 * 2 ^ (min (Int.toNat (IntKind.u64.wrap x15)) (IntKind.bits .u64)))) (Int.fdiv a1 (2 ^ (min (Int.toNat (IntKind.u64.wrap (64 - (IntKind.u64.wrap x15)))) (IntKind.bits .u64))))) * 4294967296)) + (Int.fdiv (IntKind.u64.wrap (a1 * 2 ^ (min (Int.toNat (IntKind.u64.wrap x15)) (IntKind.bits .u64)))) (2 ^ (min (Int.toNat 32) (IntKind.bits .u64)))))) - (IntKind.u64.wrap (v15_0 * (IntKind.u64.wrap (a2 * 2 ^ (min (Int.toNat (IntKind.u64.wrap x15)) (IntKind.bits .u64)))))))) (Int.fdiv (IntKind.u64.wrap (a2 * 2 ^ (min (Int.toNat (IntKind.u64.wrap x15)) (IntKind.bits .u64)))) (2 ^ (min (Int.toNat 32) (IntKind.bits .u64)))))), h, rfl⟩ ?_
            rintro m s ⟨v16_4, v18_4, h, rfl⟩
            obtain ⟨m4, q49, rfl, h, hq50⟩ := loop_some h
            replace h : math_bits_Div64_l4 a1 a2 x15 v16_4 v18_4 = some q49 := h
            unfold math_bits_Div64_l4 at h
            obtain ⟨q51, h, hk52⟩ := bnd_some h
            refine aw_cut (fun s => math_bits_Div64_k5 a2 x15 v16_4 v18_4 = some q49 ∧ s = lit [(2, .int .u64 (IntKind.u64.wrap (a2 * 2 ^ (min (Int.toNat (IntKind.u64.wrap x15)) (IntKind.bits .u64))))), (8, .int .u64 (IntKind.u64.wrap x15)), (9, .int .u64 (Int.fdiv (IntKind.u64.wrap (a2 * 2 ^ (min (Int.toNat (IntKind.u64.wrap x15)) (IntKind.bits .u64)))) (2 ^ (min (Int.toNat 32) (IntKind.bits .u64))))), (10, .int .u64 (bits .and .u64 (IntKind.u64.wrap (a2 * 2 ^ (min (Int.toNat (IntKind.u64.wrap x15)) (IntKind.bits .u64)))) 4294967295)), (14, .int .u64 (bits .and .u64 (IntKind.u64.wrap (a1 * 2 ^ (min (Int.toNat (IntKind.u64.wrap x15)) (IntKind.bits .u64)))) 4294967295)), (15, .int .u64 v15_0), (16, .int .u64 v16_4), (17, .int .u64 (IntKind.u64.wrap ((IntKind.u64.wrap ((IntKind.u64.wrap ((bits .or .u64 (IntKind.u64.wrap (a0 * 2 ^ (min (Int.toNat (IntKind.u64.wrap x15)) (IntKind.bits .u64)))) (Int.fdiv a1 (2 ^ (min (Int.toNat (IntKind.u64.wrap (64 - (IntKind.u64.wrap x15)))) (IntKind.bits .u64))))) * 4294967296)) + (Int.fdiv (IntKind.u64.wrap (a1 * 2 ^ (min (Int.toNat (IntKind.u64.wrap x15)) (IntKind.bits .u64)))) (2 ^ (min (Int.toNat 32) (IntKind.bits .u64)))))) - (IntKind.u64.wrap (v15_0 * (IntKind.u64.wrap (a2 * 2 ^ (min (Int.toNat (IntKind.u64.wrap x15)) (IntKind.bits .u64))))))))), (18, .int .u64 v18_4)] [] [] X) ?_ ?_
            · skip
              refine aw_seq_k (fun K53 hK53 => ?_)
              refine aw_regL ?_
              refine alP (some 102) rfl rfl (does_move (v := .int .u64 v18_4) (by exact rfl)) (by decide) ?_
              refine alP (some 103) rfl rfl (does_bin (v := .bool (decide ((4294967296 : Int) ≤ v18_4))) (by conv => lhs; whnf) (by conv => lhs; whnf) rfl) (by decide) ?_
              refine alP (some 104) rfl rfl (does_move (v := .bool (decide ((4294967296 : Int) ≤ v18_4))) (by exact rfl)) (by decide) ?_
              refine al_bool (c := (decide ((4294967296 : Int) ≤ v18_4))) 104 rfl (fun c54 => ?_) (fun c54 => ?_)
              · have h := ifT c54 h
                refine alS (some 105) rfl rfl (by decide) ?_
                refine alS (some 106) rfl rfl (by decide) ?_
                refine alS (some 107) rfl rfl (by decide) ?_
                refine alS (some 108) rfl rfl (by decide) ?_
                refine alS (some 109) rfl rfl (by decide) ?_
                refine alS (some 110) rfl rfl (by decide) ?_
                refine alS (some 111) rfl rfl (by decide) ?_
                refine alS (some 112) rfl rfl (by decide) ?_
                refine alP (some 113) rfl rfl (does_pick (v := .bool true) (by conv => lhs; whnf) (by exact rfl)) (by decide) ?_
                refine al_nil ?_
                refine hK53 _ ?_
                refine aw_cond_t (by decide) rfl ?_
                refine aw_skip ?_
                have h := leafL h hk52
                exact ⟨_, reb_lit [(2, .int .u64 (IntKind.u64.wrap (a2 * 2 ^ (min (Int.toNat (IntKind.u64.wrap x15)) (IntKind.bits .u64))))), (8, .int .u64 (IntKind.u64.wrap x15)), (9, .int .u64 (Int.fdiv (IntKind.u64.wrap (a2 * 2 ^ (min (Int.toNat (IntKind.u64.wrap x15)) (IntKind.bits .u64)))) (2 ^ (min (Int.toNat 32) (IntKind.bits .u64))))), (10, .int .u64 (bits .and .u64 (IntKind.u64.wrap (a2 * 2 ^ (min (Int.toNat (IntKind.u64.wrap x15)) (IntKind.bits .u64)))) 4294967295)), (14, .int .u64 (bits .and .u64 (IntKind.u64.wrap (a1 * 2 ^ (min (Int.toNat (IntKind.u64.wrap x15)) (IntKind.bits .u64)))) 4294967295)), (15, .int .u64 v15_0), (16, .int .u64 v16_4), (17, .int .u64 (IntKind.u64.wrap ((IntKind.u64.wrap ((IntKind.u64.wrap ((bits .or .u64 (IntKind.u64.wrap (a0 * 2 ^ (min (Int.toNat (IntKind.u64.wrap x15)) (IntKind.bits .u64)))) (Int.fdiv a1 (2 ^ (min (Int.toNat (IntKind.u64.wrap (64 - (IntKind.u64.wrap x15)))) (IntKind.bits .u64))))) * 4294967296)) + (Int.fdiv (IntKind.u64.wrap (a1 * 2 ^ (min (Int.toNat (IntKind.u64.wrap x15)) (IntKind.bits .u64)))) (2 ^ (min (Int.toNat 32) (IntKind.bits .u64)))))) - (IntKind.u64.wrap (v15_0 * (IntKind.u64.wrap (a2 * 2 ^ (min (Int.toNat (IntKind.u64.wrap x15)) (IntKind.bits .u64))))))))), (18, .int .u64 v18_4)] [] [] [] (envOk_cons (by conv => lhs; whnf) (by exact rfl) (envOk_cons (by conv => lhs; whnf) (by exact rfl) (envOk_cons (by conv => lhs; whnf) (by exact rfl) (envOk_cons (by conv => lhs; whnf) (by exact rfl) (envOk_cons (by conv => lhs; whnf) (by exact rfl) (envOk_cons (by conv => lhs; whnf) (by exact rfl) (envOk_cons (by conv => lhs; whnf) (by exact rfl) (envOk_cons (by conv => lhs; whnf) (by exact rfl) (envOk_cons (by conv => lhs; whnf) (by exact rfl) envOk_nil))))))))) objOk_nil (nodup_b rfl) (nodup_b rfl) rfl rfl, h, rfl⟩
              · have h := ifF c54 h
                refine alP (some 105) rfl rfl (does_move (v := .int .u64 v18_4) (by exact rfl)) (by decide) ?_
                refine alP (some 106) rfl rfl (does_move (v := .int .u64 (bits .and .u64 (IntKind.u64.wrap (a2 * 2 ^ (min (Int.toNat (IntKind.u64.wrap x15)) (IntKind.bits .u64)))) 4294967295)) (by exact rfl)) (by decide) ?_
                refine alP (some 107) rfl rfl (does_bin (v := .int .u64 (IntKind.u64.wrap (v18_4 * (bits .and .u64 (IntKind.u64.wrap (a2 * 2 ^ (min (Int.toNat (IntKind.u64.wrap x15)) (IntKind.bits .u64)))) 4294967295)))) (by conv => lhs; whnf) (by conv => lhs; whnf) rfl) (by decide) ?_
                refine alP (some 108) rfl rfl (does_move (v := .int .u64 v16_4) (by exact rfl)) (by decide) ?_
                refine alP (some 109) rfl rfl (does_bin (v := .int .u64 (IntKind.u64.wrap (4294967296 * v16_4))) (by conv => lhs; whnf) (by conv => lhs; whnf) rfl) (by decide) ?_
                refine alP (some 110) rfl rfl (does_move (v := .int .u64 (bits .and .u64 (IntKind.u64.wrap (a1 * 2 ^ (min (Int.toNat (IntKind.u64.wrap x15)) (IntKind.bits .u64)))) 4294967295)) (by exact rfl)) (by decide) ?_
                refine alP (some 111) rfl rfl (does_bin (v := .int .u64 (IntKind.u64.wrap ((IntKind.u64.wrap (4294967296 * v16_4)) + (bits .and .u64 (IntKind.u64.wrap (a1 * 2 ^ (min (Int.toNat (IntKind.u64.wrap x15)) (IntKind.bits .u64)))) 4294967295)))) (by conv => lhs; whnf) (by conv => lhs; whnf) rfl) (by decide) ?_
                refine alP (some 112) rfl rfl (does_bin (v := .bool (decide ((IntKind.u64.wrap ((IntKind.u64.wrap (4294967296 * v16_4)) + (bits .and .u64 (IntKind.u64.wrap (a1 * 2 ^ (min (Int.toNat (IntKind.u64.wrap x15)) (IntKind.bits .u64)))) 4294967295))) < (IntKind.u64.wrap (v18_4 * (bits .and .u64 (IntKind.u64.wrap (a2 * 2 ^ (min (Int.toNat (IntKind.u64.wrap x15)) (IntKind.bits .u64)))) 4294967295)))))) (by conv => lhs; whnf) (by conv => lhs; whnf) rfl) (by decide) ?_
                refine alP (some 113) rfl rfl (does_pick (v := .bool (decide ((IntKind.u64.wrap ((IntKind.u64.wrap (4294967296 * v16_4)) + (bits .and .u64 (IntKind.u64.wrap (a1 * 2 ^ (min (Int.toNat (IntKind.u64.wrap x15)) (IntKind.bits .u64)))) 4294967295))) < (IntKind.u64.wrap (v18_4 * (bits .and .u64 (IntKind.u64.wrap (a2 * 2 ^ (min (Int.toNat (IntKind.u64.wrap x15)) (IntKind.bits .u64)))) 4294967295)))))) (by conv => lhs; whnf) (by exact rfl)) (by decide) ?_
                refine al_nil ?_
                refine hK53 _ ?_
                refine aw_bool (b := (decide ((IntKind.u64.wrap ((IntKind.u64.wrap (4294967296 * v16_4)) + (bits .and .u64 (IntKind.u64.wrap (a1 * 2 ^ (min (Int.toNat (IntKind.u64.wrap x15)) (IntKind.bits .u64)))) 4294967295))) < (IntKind.u64.wrap (v18_4 * (bits .and .u64 (IntKind.u64.wrap (a2 * 2 ^ (min (Int.toNat (IntKind.u64.wrap x15)) (IntKind.bits .u64)))) 4294967295)))))) 113 rfl (fun c55 => ?_) (fun c55 => ?_)
                · have h := ifT c55 h
                  refine aw_cond_t (by decide) rfl ?_
                  refine aw_skip ?_
                  have h := leafL h hk52
                  exact ⟨_, reb_lit [(2, .int .u64 (IntKind.u64.wrap (a2 * 2 ^ (min (Int.toNat (IntKind.u64.wrap x15)) (IntKind.bits .u64))))), (8, .int .u64 (IntKind.u64.wrap x15)), (9, .int .u64 (Int.fdiv (IntKind.u64.wrap (a2 * 2 ^ (min (Int.toNat (IntKind.u64.wrap x15)) (IntKind.bits .u64)))) (2 ^ (min (Int.toNat 32) (IntKind.bits .u64))))), (10, .int .u64 (bits .and .u64 (IntKind.u64.wrap (a2 * 2 ^ (min (Int.toNat (IntKind.u64.wrap x15)) (IntKind.bits .u64)))) 4294967295)), (14, .int .u64 (bits .and .u64 (IntKind.u64.wrap (a1 * 2 ^ (min (Int.toNat (IntKind.u64.wrap x15)) (IntKind.bits .u64)))) 4294967295)), (15, .int .u64 v15_0), (16, .int .u64 v16_4), (17, .int .u64 (IntKind.u64.wrap ((IntKind.u64.wrap ((IntKind.u64.wrap ((bits .or .u64 (IntKind.u64.wrap (a0 * 2 ^ (min (Int.toNat (IntKind.u64.wrap x15)) (IntKind.bits .u64)))) (Int.fdiv a1 (2 ^ (min (Int.toNat (IntKind.u64.wrap (64 - (IntKind.u64.wrap x15)))) (IntKind.bits .u64))))) * 4294967296)) + (Int.fdiv (IntKind.u64.wrap (a1 * 2 ^ (min (Int.toNat (IntKind.u64.wrap x15)) (IntKind.bits .u64)))) (2 ^ (min (Int.toNat 32) (IntKind.bits .u64)))))) - (IntKind.u64.wrap (v15_0 * (IntKind.u64.wrap (a2 * 2 ^ (min (Int.toNat (IntKind.u64.wrap x15)) (IntKind.bits .u64))))))))), (18, .int .u64 v18_4)] [] [] [] (envOk_cons (by conv => lhs; whnf) (by exact rfl) (envOk_cons (by conv => lhs; whnf) (by exact rfl) (envOk_cons (by conv => lhs; whnf) (by exact rfl) (envOk_cons (by conv => lhs; whnf) (by exact rfl) (envOk_cons (by conv => lhs; whnf) (by exact rfl) (envOk_cons (by conv => lhs; whnf) (by exact rfl) (envOk_cons (by conv => lhs; whnf) (by exact rfl) (envOk_cons (by conv => lhs; whnf) (by exact rfl) (envOk_cons (by conv => lhs; whnf) (by exact rfl) envOk_nil))))))))) objOk_nil (nodup_b rfl) (nodup_b rfl) rfl rfl, h, rfl⟩
                · have h := ifF c55 h
                  refine aw_cond_f (by decide) rfl ?_
                  refine aw_exit ?_
                  have h := leafR h hk52
                  have h := leafR h hq50
                  obtain rfl := Option.some.inj h
                  have h := hk48
                  exact ⟨_, reb_lit [(2, .int .u64 (IntKind.u64.wrap (a2 * 2 ^ (min (Int.toNat (IntKind.u64.wrap x15)) (IntKind.bits .u64))))), (8, .int .u64 (IntKind.u64.wrap x15)), (14, .int .u64 (bits .and .u64 (IntKind.u64.wrap (a1 * 2 ^ (min (Int.toNat (IntKind.u64.wrap x15)) (IntKind.bits .u64)))) 4294967295)), (15, .int .u64 v15_0), (17, .int .u64 (IntKind.u64.wrap ((IntKind.u64.wrap ((IntKind.u64.wrap ((bits .or .u64 (IntKind.u64.wrap (a0 * 2 ^ (min (Int.toNat (IntKind.u64.wrap x15)) (IntKind.bits .u64)))) (Int.fdiv a1 (2 ^ (min (Int.toNat (IntKind.u64.wrap (64 - (IntKind.u64.wrap x15)))) (IntKind.bits .u64))))) * 4294967296)) + (Int.fdiv (IntKind.u64.wrap (a1 * 2 ^ (min (Int.toNat (IntKind.u64.wrap x15)) (IntKind.bits .u64)))) (2 ^ (min (Int.toNat 32) (IntKind.bits .u64)))))) - (IntKind.u64.wrap (v15_0 * (IntKind.u64.wrap (a2 * 2 ^ (min (Int.toNat (IntKind.u64.wrap x15)) (IntKind.bits .u64))))))))), (18, .int .u64 v18_4)] [] [] [] (envOk_cons (by conv => lhs; whnf) (by exact rfl) (envOk_cons (by conv => lhs; whnf) (by exact rfl) (envOk_cons (by conv => lhs; whnf) (by exact rfl) (envOk_cons (by conv => lhs; whnf) (by exact rfl) (envOk_cons (by conv => lhs; whnf) (by exact rfl) (envOk_cons (by conv => lhs; whnf) (by exact rfl) envOk_nil)))))) objOk_nil (nodup_b rfl) (nodup_b rfl) rfl rfl, v18_4, h, rfl⟩
            · rintro s ⟨h, rfl⟩
              unfold math_bits_Div64_k5 at h
              refine aw_block ?_
              refine aw_seq_k (fun K56 hK56 => ?_)
              refine aw_regL ?_
              refine alP (some 114) rfl rfl (does_move (v := .int .u64 v18_4) (by exact rfl)) (by decide) ?_
              refine alP (some 115) rfl rfl (does_bin (v := .int .u64 (IntKind.u64.wrap (v18_4 - 1))) (by conv => lhs; whnf) (by conv => lhs; whnf) rfl) (by decide) ?_
              refine alP (some 18) rfl rfl (does_assign (v := .int .u64 (IntKind.u64.wrap (v18_4 - 1))) (by exact rfl)) (by decide) ?_
              refine al_nil ?_
              refine hK56 _ ?_
              refine aw_seq_k (fun K57 hK57 => ?_)
              refine aw_regL ?_
              refine alP (some 116) rfl rfl (does_move (v := .int .u64 v16_4) (by exact rfl)) (by decide) ?_
              refine alP (some 117) rfl rfl (does_move (v := .int .u64 (Int.fdiv (IntKind.u64.wrap (a2 * 2 ^ (min (Int.toNat (IntKind.u64.wrap x15)) (IntKind.bits .u64)))) (2 ^ (min (Int.toNat 32) (IntKind.bits .u64))))) (by exact rfl)) (by decide) ?_
              refine alP (some 118) rfl rfl (does_bin (v := .int .u64 (IntKind.u64.wrap (v16_4 + (Int.fdiv (IntKind.u64.wrap (a2 * 2 ^ (min (Int.toNat (IntKind.u64.wrap x15)) (IntKind.bits .u64)))) (2 ^ (min (Int.toNat 32) (IntKind.bits .u64))))))) (by conv => lhs; whnf) (by conv => lhs; whnf) rfl) (by decide) ?_
              refine alP (some 16) rfl rfl (does_assign (v := .int .u64 (IntKind.u64.wrap (v16_4 + (Int.fdiv (IntKind.u64.wrap (a2 * 2 ^ (min (Int.toNat (IntKind.u64.wrap x15)) (IntKind.bits .u64)))) (2 ^ (min (Int.toNat 32) (IntKind.bits .u64))))))) (by exact rfl)) (by decide) ?_
              refine al_nil ?_
              refine hK57 _ ?_
              refine aw_seq_k (fun K58 hK58 => ?_)
              refine aw_regL ?_
              refine alP (some 119) rfl rfl (does_move (v := .int .u64 (IntKind.u64.wrap (v16_4 + (Int.fdiv (IntKind.u64.wrap (a2 * 2 ^ (min (Int.toNat (IntKind.u64.wrap x15)) (IntKind.bits .u64)))) (2 ^ (min (Int.toNat 32) (IntKind.bits .u64))))))) (by exact rfl)) (by decide) ?_
              refine alP (some 120) rfl rfl (does_bin (v := .bool (decide ((4294967296 : Int) ≤ (IntKind.u64.wrap (v16_4 + (Int.fdiv (IntKind.u64.wrap (a2 * 2 ^ (min (Int.toNat (IntKind.u64.wrap x15)) (IntKind.bits .u64)))) (2 ^ (min (Int.toNat 32) (IntKind.bits .u64))))))))) (by conv => lhs; whnf) (by conv => lhs; whnf) rfl) (by decide) ?_
              refine al_nil ?_
              refine hK58 _ ?_
              refine aw_bool (b := (decide ((4294967296 : Int) ≤ (IntKind.u64.wrap (v16_4 + (Int.fdiv (IntKind.u64.wrap (a2 * 2 ^ (min (Int.toNat (IntKind.u64.wrap x15)) (IntKind.bits .u64)))) (2 ^ (min (Int.toNat 32) (IntKind.bits .u64))))))))) 120 rfl (fun c59 => ?_) (fun c59 => ?_)
              · have h := ifT c59 h
                refine aw_cond_t (by decide) rfl ?_
                refine aw_exit ?_
                have h := leafR h hq50
                obtain rfl := Option.some.inj h
                have h := hk48
                exact ⟨_, reb_lit [(2, .int .u64 (IntKind.u64.wrap (a2 * 2 ^ (min (Int.toNat (IntKind.u64.wrap x15)) (IntKind.bits .u64))))), (8, .int .u64 (IntKind.u64.wrap x15)), (14, .int .u64 (bits .and .u64 (IntKind.u64.wrap (a1 * 2 ^ (min (Int.toNat (IntKind.u64.wrap x15)) (IntKind.bits .u64)))) 4294967295)), (15, .int .u64 v15_0), (17, .int .u64 (IntKind.u64.wrap ((IntKind.u64.wrap ((IntKind.u64.wrap ((bits .or .u64 (IntKind.u64.wrap (a0 * 2 ^ (min (Int.toNat (IntKind.u64.wrap x15)) (IntKind.bits .u64)))) (Int.fdiv a1 (2 ^ (min (Int.toNat (IntKind.u64.wrap (64 - (IntKind.u64.wrap x15)))) (IntKind.bits .u64))))) * 4294967296)) + (Int.fdiv (IntKind.u64.wrap (a1 * 2 ^ (min (Int.toNat (IntKind.u64.wrap x15)) (IntKind.bits .u64)))) (2 ^ (min (Int.toNat 32) (IntKind.bits .u64)))))) - (IntKind.u64.wrap (v15_0 * (IntKind.u64.wrap (a2 * 2 ^ (min (Int.toNat (IntKind.u64.wrap x15)) (IntKind.bits .u64))))))))), (18, .int .u64 (IntKind.u64.wrap (v18_4 - 1)))] [] [] [] (envOk_cons (by conv => lhs; whnf) (by exact rfl) (envOk_cons (by conv => lhs; whnf) (by exact rfl) (envOk_cons (by conv => lhs; whnf) (by exact rfl) (envOk_cons (by conv => lhs; whnf) (by exact rfl) (envOk_cons (by conv => lhs; whnf) (by exact rfl) (envOk_cons (by conv => lhs; whnf) (by exact rfl) envOk_nil)))))) objOk_nil (nodup_b rfl) (nodup_b rfl) rfl rfl, (IntKind.u64.wrap (v18_4 - 1)), h, rfl⟩
              · have h := ifF c59 h
                refine aw_cond_f (by decide) rfl ?_
                refine aw_skip ?_
                have h := leafL h hq50
                exact ⟨m4, Nat.lt_succ_self _, _, reb_lit [(2, .int .u64 (IntKind.u64.wrap (a2 * 2 ^ (min (Int.toNat (IntKind.u64.wrap x15)) (IntKind.bits .u64))))), (8, .int .u64 (IntKind.u64.wrap x15)), (9, .int .u64 (Int.fdiv (IntKind.u64.wrap (a2 * 2 ^ (min (Int.toNat (IntKind.u64.wrap x15)) (IntKind.bits .u64)))) (2 ^ (min (Int.toNat 32) (IntKind.bits .u64))))), (10, .int .u64 (bits .and .u64 (IntKind.u64.wrap (a2 * 2 ^ (min (Int.toNat (IntKind.u64.wrap x15)) (IntKind.bits .u64)))) 4294967295)), (14, .int .u64 (bits .and .u64 (IntKind.u64.wrap (a1 * 2 ^ (min (Int.toNat (IntKind.u64.wrap x15)) (IntKind.bits .u64)))) 4294967295)), (15, .int .u64 v15_0), (16, .int .u64 (IntKind.u64.wrap (v16_4 + (Int.fdiv (IntKind.u64.wrap (a2 * 2 ^ (min (Int.toNat (IntKind.u64.wrap x15)) (IntKind.bits .u64)))) (2 ^ (min (Int.toNat 32) (IntKind.bits .u64))))))), (17, .int .u64 (IntKind.u64.wrap ((IntKind.u64.wrap ((IntKind.u64.wrap ((bits .or .u64 (IntKind.u64.wrap (a0 * 2 ^ (min (Int.toNat (IntKind.u64.wrap x15)) (IntKind.bits .u64)))) (Int.fdiv a1 (2 ^ (min (Int.toNat (IntKind.u64.wrap (64 - (IntKind.u64.wrap x15)))) (IntKind.bits .u64))))) * 4294967296)) + (Int.fdiv (IntKind.u64.wrap (a1 * 2 ^ (min (Int.toNat (IntKind.u64.wrap x15)) (IntKind.bits .u64)))) (2 ^ (min (Int.toNat 32) (IntKind.bits .u64)))))) - (IntKind.u64.wrap (v15_0 * (IntKind.u64.wrap (a2 * 2 ^ (min (Int.toNat (IntKind.u64.wrap x15)) (IntKind.bits .u64))))))))), (18, .int .u64 (IntKind.u64.wrap (v18_4 - 1)))] [] [] [] (envOk_cons (by conv => lhs; whnf) (by exact rfl) (envOk_cons (by conv => lhs; whnf) (by exact rfl) (envOk_cons (by conv => lhs; whnf) (by exact rfl) (envOk_cons (by conv => lhs; whnf) (by exact rfl) (envOk_cons (by conv => lhs; whnf) (by exact rfl) (envOk_cons (by conv => lhs; whnf) (by exact rfl) (envOk_cons (by conv => lhs; whnf) (by exact rfl) (envOk_cons (by conv => lhs; whnf) (by exact rfl) (envOk_cons (by conv => lhs; whnf) (by exact rfl) envOk_nil))))))))) objOk_nil (nodup_b rfl) (nodup_b rfl) rfl rfl, (IntKind.u64.wrap (v16_4 + (Int.fdiv (IntKind.u64.wrap (a2 * 2 ^ (min (Int.toNat (IntKind.u64.wrap x15)) (IntKind.bits .u64)))) (2 ^ (min (Int.toNat 32) (IntKind.bits .u64)))))), (IntKind.u64.wrap (v18_4 - 1)), h, rfl⟩
          · rintro s ⟨v18_3, h, rfl⟩
            unfold math_bits_Div64_k3 at h
            refine aw_seq_k (fun K60 hK60 => ?_)
            refine aw_regL ?_
            refine alP (some 121) rfl rfl (does_move (v := .int .u64 v15_0) (by exact rfl)) (by decide) ?_
            refine alP (some 122) rfl rfl (does_bin (v := .int .u64 (IntKind.u64.wrap (v15_0 * 4294967296))) (by conv => lhs; whnf) (by conv => lhs; whnf) rfl) (by decide) ?_
            refine alP (some 123) rfl rfl (does_move (v := .int .u64 v18_3) (by exact rfl)) (by decide) ?_
            refine alP (some 124) rfl rfl (does_bin (v := .int .u64 (IntKind.u64.wrap ((IntKind.u64.wrap (v15_0 * 4294967296)) + v18_3))) (by conv => lhs; whnf) (by conv => lhs; whnf) rfl) (by decide) ?_
            refine alP (some 125) rfl rfl (does_move (v := .int .u64 (IntKind.u64.wrap ((IntKind.u64.wrap ((IntKind.u64.wrap ((bits .or .u64 (IntKind.u64.wrap (a0 * 2 ^ (min (Int.toNat (IntKind.u64.wrap x15)) (IntKind.bits .u64)))) (Int.fdiv a1 (2 ^ (min (Int.toNat (IntKind.u64.wrap (64 - (IntKind.u64.wrap x15)))) (IntKind.bits .u64))))) * 4294967296)) + (Int.fdiv (IntKind.u64.wrap (a1 * 2 ^ (min (Int.toNat (IntKind.u64.wrap x15)) (IntKind.bits .u64)))) (2 ^ (min (Int.toNat 32) (IntKind.bits .u64)))))) - (IntKind.u64.wrap (v15_0 * (IntKind.u64.wrap (a2 * 2 ^ (min (Int.toNat (IntKind.u64.wrap x15)) (IntKind.bits .u64))))))))) (by exact rfl)) (by decide) ?_
            refine alP (some 126) rfl rfl (does_bin (v := .int .u64 (IntKind.u64.wrap ((IntKind.u64.wrap ((IntKind.u64.wrap ((IntKind.u64.wrap ((bits .or .u64 (IntKind.u64.wrap (a0 * 2 ^ (min (Int.toNat (IntKind.u64.wrap x15)) (IntKind.bits .u64)))) (Int.fdiv a1 (2 ^ (min (Int.toNat (IntKind.u64.wrap (64 - (IntKind.u64.wrap x15)))) (IntKind.bits .u64))))) * 4294967296)) + (Int.fdiv (IntKind.u64.wrap (a1 * 2 ^ (min (Int.toNat (IntKind.u64.wrap x15)) (IntKind.bits .u64)))) (2 ^ (min (Int.toNat 32) (IntKind.bits .u64)))))) - (IntKind.u64.wrap (v15_0 * (IntKind.u64.wrap (a2 * 2 ^ (min (Int.toNat (IntKind.u64.wrap x15)) (IntKind.bits .u64)))))))) * 4294967296))) (by conv => lhs; whnf) (by conv => lhs; whnf) rfl) (by decide) ?_
            refine alP (some 127) rfl rfl (does_move (v := .int .u64 (bits .and .u64 (IntKind.u64.wrap (a1 * 2 ^ (min (Int.toNat (IntKind.u64.wrap x15)) (IntKind.bits .u64)))) 4294967295)) (by exact rfl)) (by decide) ?_
            refine alP (some 128) rfl rfl (does_bin (v := .int .u64 (IntKind.u64.wrap ((IntKind.u64.wrap ((IntKind.u64.wrap ((IntKind.u64.wrap ((IntKind.u64.wrap ((bits .or .u64 (IntKind.u64.wrap (a0 * 2 ^ (min (Int.toNat (IntKind.u64.wrap x15)) (IntKind.bits .u64)))) (Int.fdiv a1 (2 ^ (min (Int.toNat (IntKind.u64.wrap (64 - (IntKind.u64.wrap x15)))) (IntKind.bits .u64))))) * 4294967296)) + (Int.fdiv (IntKind.u64.wrap (a1 * 2 ^ (min (Int.toNat (IntKind.u64.wrap x15)) (IntKind.bits .u64)))) (2 ^ (min (Int.toNat 32) (IntKind.bits .u64)))))) - (IntKind.u64.wrap (v15_0 * (IntKind.u64.wrap (a2 * 2 ^ (min (Int.toNat (IntKind.u64.wrap x15)) (IntKind.bits .u64)))))))) * 4294967296)) + (bits .and .u64 (IntKind.u64.wrap (a1 * 2 ^ (min (Int.toNat (IntKind.u64.wrap x15)) (IntKind.bits .u64)))) 4294967295)))) (by conv => lhs; whnf) (by conv => lhs; whnf) rfl) (by decide) ?_
            refine alP (some 129) rfl rfl (does_move (v := .int .u64 v18_3) (by exact rfl)) (by decide) ?_
            refine alP (some 130) rfl rfl (does_move (v := .int .u64 (IntKind.u64.wrap (a2 * 2 ^ (min (Int.toNat (IntKind.u64.wrap x15)) (IntKind.bits .u64))))) (by exact rfl)) (by decide) ?_
            refine alP (some 131) rfl rfl (does_bin (v := .int .u64 (IntKind.u64.wrap (v18_3 * (IntKind.u64.wrap (a2 * 2 ^ (min (Int.toNat (IntKind.u64.wrap x15)) (IntKind.bits .u64))))))) (by conv => lhs; whnf) (by conv => lhs; whnf) rfl) (by decide) ?_
            refine alP (some 132) rfl rfl (does_bin (v := .int .u64 (IntKind.u64.wrap ((IntKind.u64.wrap ((IntKind.u64.wrap ((IntKind.u64.wrap ((IntKind.u64.wrap ((IntKind.u64.wrap ((bits .or .u64 (IntKind.u64.wrap (a0 * 2 ^ (min (Int.toNat (IntKind.u64.wrap x15)) (IntKind.bits .u64)))) (Int.fdiv a1 (2 ^ (min (Int.toNat (IntKind.u64.wrap (64 - (IntKind.u64.wrap x15)))) (IntKind.bits .u64))))) * 4294967296)) + (Int.fdiv (IntKind.u64.wrap (a1 * 2 ^ (min (Int.toNat (IntKind.u64.wrap x15)) (IntKind.bits .u64)))) (2 ^ (min (Int.toNat 32) (IntKind.bits .u64)))))) - (IntKind.u64.wrap (v15_0 * (IntKind.u64.wrap (a2 * 2 ^ (min (Int.toNat (IntKind.u64.wrap x15)) (IntKind.bits .u64)))))))) * 4294967296)) + (bits .and .u64 (IntKind.u64.wrap (a1 * 2 ^ (min (Int.toNat (IntKind.u64.wrap x15)) (IntKind.bits .u64)))) 4294967295))) - (IntKind.u64.wrap (v18_3 * (IntKind.u64.wrap (a2 * 2 ^ (min (Int.toNat (IntKind.u64.wrap x15)) (IntKind.bits .u64))))))))) (by conv => lhs; whnf) (by conv => lhs; whnf) rfl) (by decide) ?_
            refine alP (some 133) rfl rfl (does_move (v := .int .u64 (IntKind.u64.wrap x15)) (by exact rfl)) (by decide) ?_
            obtain ⟨g61, h⟩ := gd_some h
            refine alP (some 134) rfl rfl (does_bin (v := .int .u64 (Int.fdiv (IntKind.u64.wrap ((IntKind.u64.wrap ((IntKind.u64.wrap ((IntKind.u64.wrap ((IntKind.u64.wrap ((IntKind.u64.wrap ((bits .or .u64 (IntKind.u64.wrap (a0 * 2 ^ (min (Int.toNat (IntKind.u64.wrap x15)) (IntKind.bits .u64)))) (Int.fdiv a1 (2 ^ (min (Int.toNat (IntKind.u64.wrap (64 - (IntKind.u64.wrap x15)))) (IntKind.bits .u64))))) * 4294967296)) + (Int.fdiv (IntKind.u64.wrap (a1 * 2 ^ (min (Int.toNat (IntKind.u64.wrap x15)) (IntKind.bits .u64)))) (2 ^ (min (Int.toNat 32) (IntKind.bits .u64)))))) - (IntKind.u64.wrap (v15_0 * (IntKind.u64.wrap (a2 * 2 ^ (min (Int.toNat (IntKind.u64.wrap x15)) (IntKind.bits .u64)))))))) * 4294967296)) + (bits .and .u64 (IntKind.u64.wrap (a1 * 2 ^ (min (Int.toNat (IntKind.u64.wrap x15)) (IntKind.bits .u64)))) 4294967295))) - (IntKind.u64.wrap (v18_3 * (IntKind.u64.wrap (a2 * 2 ^ (min (Int.toNat (IntKind.u64.wrap x15)) (IntKind.bits .u64)))))))) (2 ^ (min (Int.toNat (IntKind.u64.wrap x15)) (IntKind.bits .u64))))) (by conv => lhs; whnf) (by conv => lhs; whnf) (shr_hv g61)) (by decide) ?_
            refine alP (some 6) rfl rfl (does_assign (v := .int .u64 (IntKind.u64.wrap ((IntKind.u64.wrap (v15_0 * 4294967296)) + v18_3))) (by exact rfl)) (by decide) ?_
            refine alP (some 7) rfl rfl (does_assign (v := .int .u64 (Int.fdiv (IntKind.u64.wrap ((IntKind.u64.wrap ((IntKind.u64.wrap ((IntKind.u64.wrap ((IntKind.u64.wrap ((IntKind.u64.wrap ((bits .or .u64 (IntKind.u64.wrap (a0 * 2 ^ (min (Int.toNat (IntKind.u64.wrap x15)) (IntKind.bits .u64)))) (Int.fdiv a1 (2 ^ (min (Int.toNat (IntKind.u64.wrap (64 - (IntKind.u64.wrap x15)))) (IntKind.bits .u64))))) * 4294967296)) + (Int.fdiv (IntKind.u64.wrap (a1 * 2 ^ (min (Int.toNat (IntKind.u64.wrap x15)) (IntKind.bits .u64)))) (2 ^ (min (Int.toNat 32) (IntKind.bits .u64)))))) - (IntKind.u64.wrap (v15_0 * (IntKind.u64.wrap (a2 * 2 ^ (min (Int.toNat (IntKind.u64.wrap x15)) (IntKind.bits .u64)))))))) * 4294967296)) + (bits .and .u64 (IntKind.u64.wrap (a1 * 2 ^ (min (Int.toNat (IntKind.u64.wrap x15)) (IntKind.bits .u64)))) 4294967295))) - (IntKind.u64.wrap (v18_3 * (IntKind.u64.wrap (a2 * 2 ^ (min (Int.toNat (IntKind.u64.wrap x15)) (IntKind.bits .u64)))))))) (2 ^ (min (Int.toNat (IntKind.u64.wrap x15)) (IntKind.bits .u64))))) (by exact rfl)) (by decide) ?_
            refine al_nil ?_
            refine hK60 _ ?_
            refine aw_ret ?_
            obtain rfl := Option.some.inj h
            exact ret_ok1 (by conv => lhs; whnf) (by conv => lhs; whnf) (by exact rfl) (.inr rfl) rfl
def quant_Rate (a0 : Counter) : Option (Int × Bool) :=
  if ((if a0.Count > 0 then a0.Count else 0) == 0) = true then (some (0, false)) else (if (decide ((if a0.Count > 0 then a0.Count else 0) ≤ (if a0.Errs > 0 then a0.Errs else 0))) = true then (some (1000, true)) else (Option.bind (math_bits_Mul64 (IntKind.u64.wrap (if a0.Errs > 0 then a0.Errs else 0)) 1000) (fun (x11 : Int × Int) => Option.bind (math_bits_Div64 x11.1 x11.2 (IntKind.u64.wrap (if a0.Count > 0 then a0.Count else 0))) (fun (x13 : Int × Int) => some ((IntKind.i64.wrap x13.1), true)))))
set_option maxRecDepth 100000 in
set_option maxHeartbeats 8000000 in
/-- gleaning/quant.Rate -/
theorem quant_Rate_ok (a0 : Counter) {r : Int × Bool} (h : quant_Rate a0 = some r) : Ok Try.prog 10 [.agg [.int .i64 a0.Count, .int .i64 a0.Errs, .int .i64 a0.By.c0, .int .i64 a0.By.c1, .int .i64 a0.By.c2, .int .i64 a0.By.c3, .int .i64 a0.By.c4, .int .i64 a0.By.c5, .int .i64 a0.By.c6, .int .i64 a0.By.c7]] [] [] (.tup [.int .i64 r.1, .bool r.2]) [] [] := by
  unfold quant_Rate at h
  refine ok_of_code Try.func10 rfl (by show (1 : Nat) ≤ _; decide) (Nat.le_refl _) fun X => ?_
  refine aw_seq_k (fun K1 hK1 => ?_)
  refine aw_regL ?_
  refine alD (some 1) rfl rfl (do_box (by conv => lhs; whnf) rfl rfl) (by decide) ?_
  refine alP (some 2) rfl rfl (does_assign (v := .int .i64 0) (by exact rfl)) (by decide) ?_
  refine alP (some 3) rfl rfl (does_assign (v := .bool false) (by exact rfl)) (by decide) ?_
  refine al_nil ?_
  refine hK1 _ ?_
  refine aw_seq_k (fun K2 hK2 => ?_)
  refine aw_regd (by kernel_rfl) (by decide +kernel) ?_
  refine aoP (some 10) rfl rfl (does_fieldAddr (q := .ptr 1 0 1) (by conv => lhs; whnf) ty26 rfl ty3 (by decide) (by exact rfl)) (by decide) ?_
  refine aoR (some 11) rfl rfl (does_load (v := .int .i64 a0.Errs) (by conv => lhs; whnf) (by conv => lhs; whnf) ty3 (by exact rfl)) (by decide) ?_
  refine aoP (some 12) rfl rfl ((does_max (by conv => lhs; whnf) (by conv => lhs; whnf)).castp (v' := .int .i64 (if a0.Errs > 0 then a0.Errs else 0)) rfl) (by decide) ?_
  refine aoP (some 13) rfl rfl (does_fieldAddr (q := .ptr 1 0 0) (by conv => lhs; whnf) ty26 rfl ty3 (by decide) (by exact rfl)) (by decide) ?_
  refine aoR (some 14) rfl rfl (does_load (v := .int .i64 a0.Count) (by conv => lhs; whnf) (by conv => lhs; whnf) ty3 (by exact rfl)) (by decide) ?_
  refine aoP (some 15) rfl rfl ((does_max (by conv => lhs; whnf) (by conv => lhs; whnf)).castp (v' := .int .i64 (if a0.Count > 0 then a0.Count else 0)) rfl) (by decide) ?_
  refine aoP (some 4) rfl rfl (does_assign (v := .int .i64 (if a0.Errs > 0 then a0.Errs else 0)) (by exact rfl)) (by decide) ?_
  refine aoP (some 5) rfl rfl (does_assign (v := .int .i64 (if a0.Count > 0 then a0.Count else 0)) (by exact rfl)) (by decide) ?_
  refine ao_nil_d (by kernel_rfl) ?_
  refine hK2 _ ?_
  refine aw_seq_k (fun K3 hK3 => ?_)
  refine aw_block ?_
  refine aw_seq_k (fun K4 hK4 => ?_)
  refine aw_regL ?_
  refine alP (some 17) rfl rfl (does_move (v := .int .i64 (if a0.Count > 0 then a0.Count else 0)) (by exact rfl)) (by decide) ?_
  refine alP (some 18) rfl rfl (does_bin (v := .bool ((if a0.Count > 0 then a0.Count else 0) == 0)) (by conv => lhs; whnf) (by conv => lhs; whnf) rfl) (by decide) ?_
  refine alP (some 16) rfl rfl (does_assign (v := .bool ((if a0.Count > 0 then a0.Count else 0) == 0)) (by exact rfl)) (by decide) ?_
  refine al_nil ?_
  refine hK4 _ ?_
  refine aw_bool (b := ((if a0.Count > 0 then a0.Count else 0) == 0)) 16 rfl (fun c5 => ?_) (fun c5 => ?_)
  · have h := ifT c5 h
    refine aw_cond_t (by decide) rfl ?_
    refine aw_seq_k (fun K6 hK6 => ?_)
    refine aw_regL ?_
    refine alP (some 2) rfl rfl (does_assign (v := .int .i64 0) (by exact rfl)) (by decide) ?_
    refine alP (some 3) rfl rfl (does_assign (v := .bool false) (by exact rfl)) (by decide) ?_
    refine al_nil ?_
    refine hK6 _ ?_
    refine aw_ret ?_
    obtain rfl := Option.some.inj h
    exact ret_ok1 (by conv => lhs; whnf) (by conv => lhs; whnf) (by exact rfl) (.inr rfl) rfl
  · have h := ifF c5 h
    refine aw_cond_f (by decide) rfl ?_
    refine aw_seq_k (fun K7 hK7 => ?_)
    refine aw_regL ?_
    refine alP (some 20) rfl rfl (does_move (v := .int .i64 (if a0.Errs > 0 then a0.Errs else 0)) (by exact rfl)) (by decide) ?_
    refine alP (some 21) rfl rfl (does_move (v := .int .i64 (if a0.Count > 0 then a0.Count else 0)) (by exact rfl)) (by decide) ?_
    refine alP (some 22) rfl rfl (does_bin (v := .bool (decide ((if a0.Count > 0 then a0.Count else 0) ≤ (if a0.Errs > 0 then a0.Errs else 0)))) (by conv => lhs; whnf) (by conv => lhs; whnf) rfl) (by decide) ?_
    refine alP (some 19) rfl rfl (does_assign (v := .bool (decide ((if a0.Count > 0 then a0.Count else 0) ≤ (if a0.Errs > 0 then a0.Errs else 0)))) (by exact rfl)) (by decide) ?_
    refine al_nil ?_
    refine hK7 _ ?_
    refine aw_bool (b := (decide ((if a0.Count > 0 then a0.Count else 0) ≤ (if a0.Errs > 0 then a0.Errs else 0)))) 19 rfl (fun c8 => ?_) (fun c8 => ?_)
    · have h := ifT c8 h
      refine aw_cond_t (by decide) rfl ?_
      refine aw_seq_k (fun K9 hK9 => ?_)
      refine aw_regL ?_
      refine alP (some 2) rfl rfl (does_assign (v := .int .i64 1000) (by exact rfl)) (by decide) ?_
      refine alP (some 3) rfl rfl (does_assign (v := .bool true) (by exact rfl)) (by decide) ?_
      refine al_nil ?_
      refine hK9 _ ?_
      refine aw_ret ?_
      obtain rfl := Option.some.inj h
      exact ret_ok1 (by conv => lhs; whnf) (by conv => lhs; whnf) (by exact rfl) (.inr rfl) rfl
    · have h := ifF c8 h
      refine aw_cond_f (by decide) rfl ?_
      refine aw_skip ?_
      refine hK3 _ ?_
      refine aw_seq_k (fun K10 hK10 => ?_)
      refine aw_regL ?_
      refine alP (some 24) rfl rfl (does_move (v := .int .i64 (if a0.Errs > 0 then a0.Errs else 0)) (by exact rfl)) (by decide) ?_
      refine alP (some 25) rfl rfl (does_conv_int (v := .int .u64 (IntKind.u64.wrap (if a0.Errs > 0 then a0.Errs else 0))) (by conv => lhs; whnf) (ty_some ty3) (ty_int ty49) rfl) (by decide) ?_
      obtain ⟨x11, hx11, h⟩ := bnd_some h
      refine alD (some 26) rfl rfl (do_call0 26 false (math_bits_Mul64_ok (IntKind.u64.wrap (if a0.Errs > 0 then a0.Errs else 0)) 1000 hx11) rfl ent21 rfl rfl) (by decide) ?_
      refine alP (some 23) rfl rfl (does_move (v := .tup [.int .u64 x11.1, .int .u64 x11.2]) (by exact rfl)) (by decide) ?_
      refine alP (some 27) rfl rfl (does_extract (v := .int .u64 x11.1) (by conv => lhs; whnf) (by exact rfl)) (by decide) ?_
      refine alP (some 28) rfl rfl (does_extract (v := .int .u64 x11.2) (by conv => lhs; whnf) (by exact rfl)) (by decide) ?_
      refine alP (some 6) rfl rfl (does_assign (v := .int .u64 x11.1) (by exact rfl)) (by decide) ?_
      refine alP (some 7) rfl rfl (does_assign (v := .int .u64 x11.2) (by exact rfl)) (by decide) ?_
      refine al_nil ?_
      refine hK10 _ ?_
      refine aw_seq_k (fun K12 hK12 => ?_)
      refine aw_regL ?_
      refine alP (some 30) rfl rfl (does_move (v := .int .u64 x11.1) (by exact rfl)) (by decide) ?_
      refine alP (some 31) rfl rfl (does_move (v := .int .u64 x11.2) (by exact rfl)) (by decide) ?_
      refine alP (some 32) rfl rfl (does_move (v := .int .i64 (if a0.Count > 0 then a0.Count else 0)) (by exact rfl)) (by decide) ?_
      refine alP (some 33) rfl rfl (does_conv_int (v := .int .u64 (IntKind.u64.wrap (if a0.Count > 0 then a0.Count else 0))) (by conv => lhs; whnf) (ty_some ty3) (ty_int ty49) rfl) (by decide) ?_
      obtain ⟨x13, hx13, h⟩ := bnd_some h
      refine alD (some 34) rfl rfl (do_call0 34 false (math_bits_Div64_ok x11.1 x11.2 (IntKind.u64.wrap (if a0.Count > 0 then a0.Count else 0)) hx13) rfl ent22 rfl rfl) (by decide) ?_
      refine alP (some 29) rfl rfl (does_move (v := .tup [.int .u64 x13.1, .int .u64 x13.2]) (by exact rfl)) (by decide) ?_
      refine alP (some 35) rfl rfl (does_extract (v := .int .u64 x13.1) (by conv => lhs; whnf) (by exact rfl)) (by decide) ?_
      refine alP (some 36) rfl rfl (does_extract (v := .int .u64 x13.2) (by conv => lhs; whnf) (by exact rfl)) (by decide) ?_
      refine alP (some 8) rfl rfl (does_assign (v := .int .u64 x13.1) (by exact rfl)) (by decide) ?_
      refine alP (some 9) rfl rfl (does_assign (v := .int .u64 x13.2) (by exact rfl)) (by decide) ?_
      refine al_nil ?_
      refine hK12 _ ?_
      refine aw_seq_k (fun K14 hK14 => ?_)
      refine aw_regL ?_
      refine alP (some 37) rfl rfl (does_move (v := .int .u64 x13.1) (by exact rfl)) (by decide) ?_
      refine alP (some 38) rfl rfl (does_conv_int (v := .int .i64 (IntKind.i64.wrap x13.1)) (by conv => lhs; whnf) (ty_some ty49) (ty_int ty3) rfl) (by decide) ?_
      refine alP (some 2) rfl rfl (does_assign (v := .int .i64 (IntKind.i64.wrap x13.1)) (by exact rfl)) (by decide) ?_
      refine alP (some 3) rfl rfl (does_assign (v := .bool true) (by exact rfl)) (by decide) ?_
      refine al_nil ?_
      refine hK14 _ ?_
      refine aw_ret ?_
      obtain rfl := Option.some.inj h
      exact ret_ok1 (by conv => lhs; whnf) (by conv => lhs; whnf) (by exact rfl) (.inr rfl) rfl
def gleaninglaw31_alive : Option Bool :=
  Option.bind (quant_Quantile (Counter.mk 0 0 (Arr8_Int.mk 0 0 0 0 0 0 0 0)) 500) (fun (x3 : Int × Bool) => Option.bind (quant_Quantile (Counter.mk 0 0 (Arr8_Int.mk 0 1 0 0 1 0 0 0)) 500) (fun (x5 : Int × Bool) => Option.bind (quant_Rate (Counter.mk 4 1 (Arr8_Int.mk 0 0 0 0 0 0 0 0))) (fun (x7 : Int × Bool) => if (!x3.2) = true then (if x5.2 = true then (if (x5.1 == 1) = true then (if x7.2 = true then (if (x7.1 == 250) = true then (Option.bind (quant_Total (Counter.mk 0 0 (Arr8_Int.mk 0 2 0 0 0 0 0 0))) (fun (x14 : Int) => some (x14 == 2))) else (some false)) else (some false)) else (some false)) else (some false)) else (some false))))
set_option maxRecDepth 100000 in
set_option maxHeartbeats 8000000 in
/-- gleaning/gleaninglaw31.alive -/
theorem gleaninglaw31_alive_ok {r : Bool} (h : gleaninglaw31_alive = some r) : Ok Try.prog 5 [] [] [] (.bool r) [] [] := by
  unfold gleaninglaw31_alive at h
  refine ok_of_code Try.func5 rfl (by show (0 : Nat) ≤ _; decide) (Nat.le_refl _) fun X => ?_
  refine aw_seq_k (fun K1 hK1 => ?_)
  refine aw_regL ?_
  refine alP (some 0) rfl rfl (does_assign (v := .bool false) (by exact rfl)) (by decide) ?_
  refine al_nil ?_
  refine hK1 _ ?_
  refine aw_seq_k (fun K2 hK2 => ?_)
  refine aw_regL ?_
  refine alP (some 8) rfl rfl (do_build_struct (cs := [.int .i64 0, .int .i64 0, .int .i64 0, .int .i64 0, .int .i64 0, .int .i64 0, .int .i64 0, .int .i64 0, .int .i64 0, .int .i64 0]) ty26 rfl [⟨.int .i64, 1, 8, [.int .i64 0]⟩, ⟨.int .i64, 1, 8, [.int .i64 0]⟩, ⟨.arr 8 3, 8, 64, [.int .i64 0, .int .i64 0, .int .i64 0, .int .i64 0, .int .i64 0, .int .i64 0, .int .i64 0, .int .i64 0]⟩] (by simp only [List.map, ty24, ty3]) (by rfl) (by exact rfl)) (by decide) ?_
  obtain ⟨x3, hx3, h⟩ := bnd_some h
  refine alD (some 9) rfl rfl (do_call0 9 false (quant_Quantile_ok (Counter.mk 0 0 (Arr8_Int.mk 0 0 0 0 0 0 0 0)) 500 hx3) rfl ent9 rfl rfl) (by decide) ?_
  refine alP (some 7) rfl rfl (does_move (v := .tup [.int .i64 x3.1, .bool x3.2]) (by exact rfl)) (by decide) ?_
  refine alP (some 10) rfl rfl (does_extract (v := .int .i64 x3.1) (by conv => lhs; whnf) (by exact rfl)) (by decide) ?_
  refine alP (some 11) rfl rfl (does_extract (v := .bool x3.2) (by conv => lhs; whnf) (by exact rfl)) (by decide) ?_
  refine alP (some 1) rfl rfl (does_assign (v := .int .i64 x3.1) (by exact rfl)) (by decide) ?_
  refine alP (some 2) rfl rfl (does_assign (v := .bool x3.2) (by exact rfl)) (by decide) ?_
  refine al_nil ?_
  refine hK2 _ ?_
  refine aw_seq_k (fun K4 hK4 => ?_)
  refine aw_regL ?_
  refine alD (some 13) rfl rfl (do_build_arr (cs := [.int .i64 0, .int .i64 1, .int .i64 0, .int .i64 0, .int .i64 1, .int .i64 0, .int .i64 0, .int .i64 0]) ty24 rfl ty3 (by rfl) (by exact rfl)) (by decide) ?_
  refine alP (some 14) rfl rfl (do_build_struct (cs := [.int .i64 0, .int .i64 0, .int .i64 0, .int .i64 1, .int .i64 0, .int .i64 0, .int .i64 1, .int .i64 0, .int .i64 0, .int .i64 0]) ty26 rfl [⟨.int .i64, 1, 8, [.int .i64 0]⟩, ⟨.int .i64, 1, 8, [.int .i64 0]⟩, ⟨.arr 8 3, 8, 64, [.int .i64 0, .int .i64 0, .int .i64 0, .int .i64 0, .int .i64 0, .int .i64 0, .int .i64 0, .int .i64 0]⟩] (by simp only [List.map, ty24, ty3]) (by rfl) (by exact rfl)) (by decide) ?_
  obtain ⟨x5, hx5, h⟩ := bnd_some h
  refine alD (some 15) rfl rfl (do_call0 15 false (quant_Quantile_ok (Counter.mk 0 0 (Arr8_Int.mk 0 1 0 0 1 0 0 0)) 500 hx5) rfl ent9 rfl rfl) (by decide) ?_
  refine alP (some 12) rfl rfl (does_move (v := .tup [.int .i64 x5.1, .bool x5.2]) (by exact rfl)) (by decide) ?_
  refine alP (some 16) rfl rfl (does_extract (v := .int .i64 x5.1) (by conv => lhs; whnf) (by exact rfl)) (by decide) ?_
  refine alP (some 17) rfl rfl (does_extract (v := .bool x5.2) (by conv => lhs; whnf) (by exact rfl)) (by decide) ?_
  refine alP (some 3) rfl rfl (does_assign (v := .int .i64 x5.1) (by exact rfl)) (by decide) ?_
  refine alP (some 4) rfl rfl (does_assign (v := .bool x5.2) (by exact rfl)) (by decide) ?_
  refine al_nil ?_
  refine hK4 _ ?_
  refine aw_seq_k (fun K6 hK6 => ?_)
  refine aw_regL ?_
  refine alP (some 19) rfl rfl (do_build_struct (cs := [.int .i64 4, .int .i64 1, .int .i64 0, .int .i64 0, .int .i64 0, .int .i64 0, .int .i64 0, .int .i64 0, .int .i64 0, .int .i64 0]) ty26 rfl [⟨.int .i64, 1, 8, [.int .i64 0]⟩, ⟨.int .i64, 1, 8, [.int .i64 0]⟩, ⟨.arr 8 3, 8, 64, [.int .i64 0, .int .i64 0, .int .i64 0, .int .i64 0, .int .i64 0, .int .i64 0, .int .i64 0, .int .i64 0]⟩] (by simp only [List.map, ty24, ty3]) (by rfl) (by exact rfl)) (by decide) ?_
  obtain ⟨x7, hx7, h⟩ := bnd_some h
  refine alD (some 20) rfl rfl (do_call0 20 false (quant_Rate_ok (Counter.mk 4 1 (Arr8_Int.mk 0 0 0 0 0 0 0 0)) hx7) rfl ent10 rfl rfl) (by decide) ?_
  refine alP (some 18) rfl rfl (does_move (v := .tup [.int .i64 x7.1, .bool x7.2]) (by exact rfl)) (by decide) ?_
  refine alP (some 21) rfl rfl (does_extract (v := .int .i64 x7.1) (by conv => lhs; whnf) (by exact rfl)) (by decide) ?_
  refine alP (some 22) rfl rfl (does_extract (v := .bool x7.2) (by conv => lhs; whnf) (by exact rfl)) (by decide) ?_
  refine alP (some 5) rfl rfl (does_assign (v := .int .i64 x7.1) (by exact rfl)) (by decide) ?_
  refine alP (some 6) rfl rfl (does_assign (v := .bool x7.2) (by exact rfl)) (by decide) ?_
  refine al_nil ?_
  refine hK6 _ ?_
  refine aw_seq_k (fun K8 hK8 => ?_)
  refine aw_regL ?_
  refine alP (some 23) rfl rfl (does_move (v := .bool x3.2) (by exact rfl)) (by decide) ?_
  refine alP (some 24) rfl rfl (does_un (v := .bool (!x3.2)) (by conv => lhs; whnf) rfl) (by decide) ?_
  refine alP (some 25) rfl rfl (does_move (v := .bool (!x3.2)) (by exact rfl)) (by decide) ?_
  refine al_bool (c := (!x3.2)) 25 rfl (fun c9 => ?_) (fun c9 => ?_)
  · have h := ifT c9 h
    refine alP (some 26) rfl rfl (does_move (v := .bool x5.2) (by exact rfl)) (by decide) ?_
    refine alP (some 27) rfl rfl (does_pick (v := .bool x5.2) (by conv => lhs; whnf) (by exact rfl)) (by decide) ?_
    refine alP (some 28) rfl rfl (does_move (v := .bool x5.2) (by exact rfl)) (by decide) ?_
    refine al_bool (c := x5.2) 28 rfl (fun c10 => ?_) (fun c10 => ?_)
    · have h := ifT c10 h
      refine alP (some 29) rfl rfl (does_move (v := .int .i64 x5.1) (by exact rfl)) (by decide) ?_
      refine alP (some 30) rfl rfl (does_bin (v := .bool (x5.1 == 1)) (by conv => lhs; whnf) (by conv => lhs; whnf) rfl) (by decide) ?_
      refine alP (some 31) rfl rfl (does_pick (v := .bool (x5.1 == 1)) (by conv => lhs; whnf) (by exact rfl)) (by decide) ?_
      refine alP (some 32) rfl rfl (does_move (v := .bool (x5.1 == 1)) (by exact rfl)) (by decide) ?_
      refine al_bool (c := (x5.1 == 1)) 32 rfl (fun c11 => ?_) (fun c11 => ?_)
      · have h := ifT c11 h
        refine alP (some 33) rfl rfl (does_move (v := .bool x7.2) (by exact rfl)) (by decide) ?_
        refine alP (some 34) rfl rfl (does_pick (v := .bool x7.2) (by conv => lhs; whnf) (by exact rfl)) (by decide) ?_
        refine alP (some 35) rfl rfl (does_move (v := .bool x7.2) (by exact rfl)) (by decide) ?_
        refine al_bool (c := x7.2) 35 rfl (fun c12 => ?_) (fun c12 => ?_)
        · have h := ifT c12 h
          refine alP (some 36) rfl rfl (does_move (v := .int .i64 x7.1) (by exact rfl)) (by decide) ?_
          refine alP (some 37) rfl rfl (does_bin (v := .bool (x7.1 == 250)) (by conv => lhs; whnf) (by conv => lhs; whnf) rfl) (by decide) ?_
          refine alP (some 38) rfl rfl (does_pick (v := .bool (x7.1 == 250)) (by conv => lhs; whnf) (by exact rfl)) (by decide) ?_
          refine alP (some 39) rfl rfl (does_move (v := .bool (x7.1 == 250)) (by exact rfl)) (by decide) ?_
          refine al_bool (c := (x7.1 == 250)) 39 rfl (fun c13 => ?_) (fun c13 => ?_)
          · have h := ifT c13 h
            refine alD (some 40) rfl rfl (do_build_arr (cs := [.int .i64 0, .int .i64 2, .int .i64 0, .int .i64 0, .int .i64 0, .int .i64 0, .int .i64 0, .int .i64 0]) ty24 rfl ty3 (by rfl) (by exact rfl)) (by decide) ?_
            refine alP (some 41) rfl rfl (do_build_struct (cs := [.int .i64 0, .int .i64 0, .int .i64 0, .int .i64 2, .int .i64 0, .int .i64 0, .int .i64 0, .int .i64 0, .int .i64 0, .int .i64 0]) ty26 rfl [⟨.int .i64, 1, 8, [.int .i64 0]⟩, ⟨.int .i64, 1, 8, [.int .i64 0]⟩, ⟨.arr 8 3, 8, 64, [.int .i64 0, .int .i64 0, .int .i64 0, .int .i64 0, .int .i64 0, .int .i64 0, .int .i64 0, .int .i64 0]⟩] (by simp only [List.map, ty24, ty3]) (by rfl) (by exact rfl)) (by decide) ?_
            obtain ⟨x14, hx14, h⟩ := bnd_some h
            refine alD (some 42) rfl rfl ((do_call0 42 false (quant_Total_ok (Counter.mk 0 0 (Arr8_Int.mk 0 2 0 0 0 0 0 0)) hx14) rfl ent11 rfl rfl).fx (y := ⟨[], .int .i64 x14, [], [42]⟩) rfl) (by decide) ?_
            refine alP (some 43) rfl rfl (does_bin (v := .bool (x14 == 2)) (by conv => lhs; whnf) (by conv => lhs; whnf) rfl) (by decide) ?_
            refine alP (some 44) rfl rfl (does_pick (v := .bool (x14 == 2)) (by conv => lhs; whnf) (by exact rfl)) (by decide) ?_
            refine alP (some 0) rfl rfl (does_assign (v := .bool (x14 == 2)) (by exact rfl)) (by decide) ?_
            refine al_nil ?_
            refine hK8 _ ?_
            refine aw_ret ?_
            obtain rfl := Option.some.inj h
            exact ret_ok1 (by conv => lhs; whnf) (by conv => lhs; whnf) (by exact rfl) (.inr rfl) rfl
          · have h := ifF c13 h
            refine alS (some 40) rfl rfl (by decide) ?_
            refine alS (some 41) rfl rfl (by decide) ?_
            refine alS (some 42) rfl rfl (by decide) ?_
            refine alS (some 43) rfl rfl (by decide) ?_
            refine alP (some 44) rfl rfl (does_pick (v := .bool false) (by conv => lhs; whnf) (by exact rfl)) (by decide) ?_
            refine alP (some 0) rfl rfl (does_assign (v := .bool false) (by exact rfl)) (by decide) ?_
            refine al_nil ?_
            refine hK8 _ ?_
            refine aw_ret ?_
            obtain rfl := Option.some.inj h
            exact ret_ok1 (by conv => lhs; whnf) (by conv => lhs; whnf) (by exact rfl) (.inr rfl) rfl
        · have h := ifF c12 h
          refine alS (some 36) rfl rfl (by decide) ?_
          refine alS (some 37) rfl rfl (by decide) ?_
          refine alP (some 38) rfl rfl (does_pick (v := .bool false) (by conv => lhs; whnf) (by exact rfl)) (by decide) ?_
          refine alP (some 39) rfl rfl (does_move (v := .bool false) (by exact rfl)) (by decide) ?_
          refine alS (some 40) rfl rfl (by decide) ?_
          refine alS (some 41) rfl rfl (by decide) ?_
          refine alS (some 42) rfl rfl (by decide) ?_
          refine alS (some 43) rfl rfl (by decide) ?_
          refine alP (some 44) rfl rfl (does_pick (v := .bool false) (by conv => lhs; whnf) (by exact rfl)) (by decide) ?_
          refine alP (some 0) rfl rfl (does_assign (v := .bool false) (by exact rfl)) (by decide) ?_
          refine al_nil ?_
          refine hK8 _ ?_
          refine aw_ret ?_
          obtain rfl := Option.some.inj h
          exact ret_ok1 (by conv => lhs; whnf) (by conv => lhs; whnf) (by exact rfl) (.inr rfl) rfl
      · have h := ifF c11 h
        refine alS (some 33) rfl rfl (by decide) ?_
        refine alP (some 34) rfl rfl (does_pick (v := .bool false) (by conv => lhs; whnf) (by exact rfl)) (by decide) ?_
        refine alP (some 35) rfl rfl (does_move (v := .bool false) (by exact rfl)) (by decide) ?_
        refine alS (some 36) rfl rfl (by decide) ?_
        refine alS (some 37) rfl rfl (by decide) ?_
        refine alP (some 38) rfl rfl (does_pick (v := .bool false) (by conv => lhs; whnf) (by exact rfl)) (by decide) ?_
        refine alP (some 39) rfl rfl (does_move (v := .bool false) (by exact rfl)) (by decide) ?_
        refine alS (some 40) rfl rfl (by decide) ?_
        refine alS (some 41) rfl rfl (by decide) ?_
        refine alS (some 42) rfl rfl (by decide) ?_
        refine alS (some 43) rfl rfl (by decide) ?_
        refine alP (some 44) rfl rfl (does_pick (v := .bool false) (by conv => lhs; whnf) (by exact rfl)) (by decide) ?_
        refine alP (some 0) rfl rfl (does_assign (v := .bool false) (by exact rfl)) (by decide) ?_
        refine al_nil ?_
        refine hK8 _ ?_
        refine aw_ret ?_
        obtain rfl := Option.some.inj h
        exact ret_ok1 (by conv => lhs; whnf) (by conv => lhs; whnf) (by exact rfl) (.inr rfl) rfl
    · have h := ifF c10 h
      refine alS (some 29) rfl rfl (by decide) ?_
      refine alS (some 30) rfl rfl (by decide) ?_
      refine alP (some 31) rfl rfl (does_pick (v := .bool false) (by conv => lhs; whnf) (by exact rfl)) (by decide) ?_
      refine alP (some 32) rfl rfl (does_move (v := .bool false) (by exact rfl)) (by decide) ?_
      refine alS (some 33) rfl rfl (by decide) ?_
      refine alP (some 34) rfl rfl (does_pick (v := .bool false) (by conv => lhs; whnf) (by exact rfl)) (by decide) ?_
      refine alP (some 35) rfl rfl (does_move (v := .bool false) (by exact rfl)) (by decide) ?_
      refine alS (some 36) rfl rfl (by decide) ?_
      refine alS (some 37) rfl rfl (by decide) ?_
      refine alP (some 38) rfl rfl (does_pick (v := .bool false) (by conv => lhs; whnf) (by exact rfl)) (by decide) ?_
      refine alP (some 39) rfl rfl (does_move (v := .bool false) (by exact rfl)) (by decide) ?_
      refine alS (some 40) rfl rfl (by decide) ?_
      refine alS (some 41) rfl rfl (by decide) ?_
      refine alS (some 42) rfl rfl (by decide) ?_
      refine alS (some 43) rfl rfl (by decide) ?_
      refine alP (some 44) rfl rfl (does_pick (v := .bool false) (by conv => lhs; whnf) (by exact rfl)) (by decide) ?_
      refine alP (some 0) rfl rfl (does_assign (v := .bool false) (by exact rfl)) (by decide) ?_
      refine al_nil ?_
      refine hK8 _ ?_
      refine aw_ret ?_
      obtain rfl := Option.some.inj h
      exact ret_ok1 (by conv => lhs; whnf) (by conv => lhs; whnf) (by exact rfl) (.inr rfl) rfl
  · have h := ifF c9 h
    refine alS (some 26) rfl rfl (by decide) ?_
    refine alP (some 27) rfl rfl (does_pick (v := .bool false) (by conv => lhs; whnf) (by exact rfl)) (by decide) ?_
    refine alP (some 28) rfl rfl (does_move (v := .bool false) (by exact rfl)) (by decide) ?_
    refine alS (some 29) rfl rfl (by decide) ?_
    refine alS (some 30) rfl rfl (by decide) ?_
    refine alP (some 31) rfl rfl (does_pick (v := .bool false) (by conv => lhs; whnf) (by exact rfl)) (by decide) ?_
    refine alP (some 32) rfl rfl (does_move (v := .bool false) (by exact rfl)) (by decide) ?_
    refine alS (some 33) rfl rfl (by decide) ?_
    refine alP (some 34) rfl rfl (does_pick (v := .bool false) (by conv => lhs; whnf) (by exact rfl)) (by decide) ?_
    refine alP (some 35) rfl rfl (does_move (v := .bool false) (by exact rfl)) (by decide) ?_
    refine alS (some 36) rfl rfl (by decide) ?_
    refine alS (some 37) rfl rfl (by decide) ?_
    refine alP (some 38) rfl rfl (does_pick (v := .bool false) (by conv => lhs; whnf) (by exact rfl)) (by decide) ?_
    refine alP (some 39) rfl rfl (does_move (v := .bool false) (by exact rfl)) (by decide) ?_
    refine alS (some 40) rfl rfl (by decide) ?_
    refine alS (some 41) rfl rfl (by decide) ?_
    refine alS (some 42) rfl rfl (by decide) ?_
    refine alS (some 43) rfl rfl (by decide) ?_
    refine alP (some 44) rfl rfl (does_pick (v := .bool false) (by conv => lhs; whnf) (by exact rfl)) (by decide) ?_
    refine alP (some 0) rfl rfl (does_assign (v := .bool false) (by exact rfl)) (by decide) ?_
    refine al_nil ?_
    refine hK8 _ ?_
    refine aw_ret ?_
    obtain rfl := Option.some.inj h
    exact ret_ok1 (by conv => lhs; whnf) (by conv => lhs; whnf) (by exact rfl) (.inr rfl) rfl
end Go.Proofs.Ytoecalgfdphghaa.Ab
