/- Stable sorting. -/
import Derived.Test.YtmompdklolomfaaXSym
import Derived.Test.YtmompdklolomfaaProg
namespace Go.Proofs.Ytmompdklolomfaa.Ab
open Go Go.RowKit
set_option linter.unusedVariables false
set_option linter.unusedSimpArgs false
theorem ent43 : Ent Try.prog 43 := ⟨_, Try.func43, by kernel_rfl, rfl⟩
theorem ent44 : Ent Try.prog 44 := ⟨_, Try.func44, by kernel_rfl, rfl⟩
def slices_stableCmpFunc_int_tree_Kids_c1_l1 (a1 : Int) (a2_0 : List Span) (vs0_s_1 : List Int) (v7_1 : Int) (v8_1 : Int) : Option ((List Int × Int × Int) ⊕ (List Int × Int)) :=
 if (decide (v8_1 ≤ a1)) = true then (Option.bind (slices_insertionSortCmpFunc_int_tree_Kids_c1 vs0_s_1 v7_1 v8_1 a2_0) (fun (x11 : List Int) => some (Sum.inl (x11, v8_1, (IntKind.i64.wrap (v8_1 + 20)))))) else (some (Sum.inr (vs0_s_1, v7_1)))
def slices_stableCmpFunc_int_tree_Kids_c1_l4 (a1 : Int) (a2_0 : List Span) (v6_2 : Int) (vs0_s_4 : List Int) (v7_4 : Int) (v8_4 : Int) : Option ((List Int × Int × Int) ⊕ (List Int × Int)) :=
 if (decide (v8_4 ≤ a1)) = true then (Option.bind (slices_symMergeCmpFunc_int_tree_Kids_c1 vs0_s_4 v7_4 (IntKind.i64.wrap (v7_4 + v6_2)) v8_4 a2_0) (fun (x29 : List Int) => some (Sum.inl (x29, v8_4, (IntKind.i64.wrap (v8_4 + (IntKind.i64.wrap (2 * v6_2)))))))) else (some (Sum.inr (vs0_s_4, v7_4)))
def slices_stableCmpFunc_int_tree_Kids_c1_k3 (a1 : Int) (a2_0 : List Span) (v6_2 : Int) (vs0_s_3 : List Int) (v7_3 : Int) : Option ((List Int × Int) ⊕ (List Int)) :=
 if (decide ((IntKind.i64.wrap (v7_3 + v6_2)) < a1)) = true then (Option.bind (slices_symMergeCmpFunc_int_tree_Kids_c1 vs0_s_3 v7_3 (IntKind.i64.wrap (v7_3 + v6_2)) a1 a2_0) (fun (x35 : List Int) => some (Sum.inl (x35, (IntKind.i64.wrap (v6_2 * 2)))))) else (some (Sum.inl (vs0_s_3, (IntKind.i64.wrap (v6_2 * 2)))))
def slices_stableCmpFunc_int_tree_Kids_c1_l2 (a1 : Int) (a2_0 : List Span) (vs0_s_2 : List Int) (v6_2 : Int) : Option ((List Int × Int) ⊕ (List Int)) :=
 if (decide (v6_2 < a1)) = true then (Option.bind (loopN (fun (s : List Int × Int × Int) => slices_stableCmpFunc_int_tree_Kids_c1_l4 a1 a2_0 v6_2 s.1 s.2.1 s.2.2) Fu (vs0_s_2, 0, (IntKind.i64.wrap (2 * v6_2)))) (fun (s : List Int × Int) => slices_stableCmpFunc_int_tree_Kids_c1_k3 a1 a2_0 v6_2 s.1 s.2)) else (some (Sum.inr vs0_s_2))
def slices_stableCmpFunc_int_tree_Kids_c1_k0 (a1 : Int) (a2_0 : List Span) (vs0_s_0 : List Int) (v7_0 : Int) : Option (List Int) :=
 Option.bind (slices_insertionSortCmpFunc_int_tree_Kids_c1 vs0_s_0 v7_0 a1 a2_0) (fun (x14 : List Int) => loopN (fun (s : List Int × Int) => slices_stableCmpFunc_int_tree_Kids_c1_l2 a1 a2_0 s.1 s.2) Fu (x14, 20))
def slices_stableCmpFunc_int_tree_Kids_c1 (a0 : List Int) (a1 : Int) (a2_0 : List Span) : Option (List Int) :=
 Option.bind (loopN (fun (s : List Int × Int × Int) => slices_stableCmpFunc_int_tree_Kids_c1_l1 a1 a2_0 s.1 s.2.1 s.2.2) Fu (a0, 0, 20)) (fun (s : List Int × Int) => slices_stableCmpFunc_int_tree_Kids_c1_k0 a1 a2_0 s.1 s.2)
set_option maxRecDepth 100000 in
set_option maxHeartbeats 8000000 in
theorem slices_stableCmpFunc_int_tree_Kids_c1_ok (a0 : List Int) (a1 : Int) (a2_0 : List Span) {r : List Int} (h : slices_stableCmpFunc_int_tree_Kids_c1 a0 a1 a2_0 = some r) : OkS Try.prog 43 [.own 1 0, .int .i64 a1, .fn 34 [.rptr [.sl 10 (List.map enc27 a2_0)]]] (3, 1, List.map enc2 a0) (3, 1, List.map enc2 r) := by
 unfold slices_stableCmpFunc_int_tree_Kids_c1 at h
 refine okS_of_code Try.func43 rfl (by show (3 : Nat) ≤ _; decide) rfl rfl rfl fun X => ?_
 refine aw_seq_k (fun K1 hK1 => ?_)
 refine aw_regL ?_
 refine alP (some 6) rfl rfl (does_assign (v := .int .i64 20) (by exact rfl)) (by decide) ?_
 refine al_nil ?_
 refine hK1 _ ?_
 refine aw_seq_k (fun K2 hK2 => ?_)
 refine aw_regL ?_
 refine alP (some 10) rfl rfl (does_move (v := .int .i64 20) (by exact rfl)) (by decide) ?_
 refine alP (some 7) rfl rfl (does_assign (v := .int .i64 0) (by exact rfl)) (by decide) ?_
 refine alP (some 8) rfl rfl (does_assign (v := .int .i64 20) (by exact rfl)) (by decide) ?_
 refine al_nil ?_
 refine hK2 _ ?_
 obtain ⟨q3, h, hk4⟩ := bnd_some h
 refine aw_cut (fun s => ∃ (vs0_s_0 : List Int), ∃ (v7_0 : Int), slices_stableCmpFunc_int_tree_Kids_c1_k0 a1 a2_0 vs0_s_0 v7_0 = some r ∧ s = lit [(0, .own 0 0), (1, .int .i64 a1), (2, .fn 34 [.rptr [.sl 10 (List.map enc27 a2_0)]]), (6, .int .i64 20), (7, .int .i64 v7_0)] [((0, 0), .arr 3 1 false (List.map enc2 vs0_s_0))] [(0, 1)] X) ?_ ?_
 ·skip
  refine aw_block ?_
  refine aw_loop' (fun m s => ∃ (vs0_s_1 : List Int), ∃ (v7_1 : Int), ∃ (v8_1 : Int), loopN (fun (s : List Int × Int × Int) => slices_stableCmpFunc_int_tree_Kids_c1_l1 a1 a2_0 s.1 s.2.1 s.2.2) m (vs0_s_1, v7_1, v8_1) = some q3 ∧ s = lit [(0, .own 0 0), (1, .int .i64 a1), (2, .fn 34 [.rptr [.sl 10 (List.map enc27 a2_0)]]), (6, .int .i64 20), (7, .int .i64 v7_1), (8, .int .i64 v8_1)] [((0, 0), .arr 3 1 false (List.map enc2 vs0_s_1))] [(0, 1)] X) Fu
   ⟨_, reb_lit [(0, .own 0 0), (1, .int .i64 a1), (2, .fn 34 [.rptr [.sl 10 (List.map enc27 a2_0)]]), (6, .int .i64 20), (7, .int .i64 (0)), (8, .int .i64 (20))] [(0, 0)] [((0, 0), .arr 3 1 false (List.map enc2 a0))] [(0, 1)] (envOk_cons (by conv => lhs; whnf) (by exact rfl) (envOk_cons (by conv => lhs; whnf) (by exact rfl) (envOk_cons (by conv => lhs; whnf) (by exact rfl) (envOk_cons (by conv => lhs; whnf) (by exact rfl) (envOk_cons (by conv => lhs; whnf) (by exact rfl) (envOk_cons (by conv => lhs; whnf) (by exact rfl) envOk_nil)))))) (objOk_cons (by conv => lhs; whnf) (by conv => lhs; whnf) (by exact rfl) (by simp) objOk_nil) (nodup_b rfl) (nodup_b rfl) rfl rfl, a0, 0, 20, h, rfl⟩ ?_
  rintro m s ⟨vs0_s_1, v7_1, v8_1, h, rfl⟩
  obtain ⟨m1, q5, rfl, h, hq6⟩ := loop_some h
  replace h : slices_stableCmpFunc_int_tree_Kids_c1_l1 a1 a2_0 vs0_s_1 v7_1 v8_1 = some q5 := h
  unfold slices_stableCmpFunc_int_tree_Kids_c1_l1 at h
  refine aw_seq_k (fun K7 hK7 => ?_)
  refine aw_seq_k (fun K8 hK8 => ?_)
  refine aw_regL ?_
  refine alP (some 11) rfl rfl (does_move (v := .int .i64 v8_1) (by exact rfl)) (by decide) ?_
  refine alP (some 12) rfl rfl (does_move (v := .int .i64 a1) (by exact rfl)) (by decide) ?_
  refine alP (some 13) rfl rfl (does_bin (v := .bool (decide (v8_1 ≤ a1))) (by conv => lhs; whnf) (by conv => lhs; whnf) rfl) (by decide) ?_
  refine al_nil ?_
  refine hK8 _ ?_
  refine aw_bool (b := (decide (v8_1 ≤ a1))) 13 rfl (fun c9 => ?_) (fun c9 => ?_)
  ·have h := ifT c9 h
   refine aw_cond_t (by decide) rfl ?_
   refine aw_skip ?_
   refine hK7 _ ?_
   refine aw_block ?_
   refine aw_seq_k (fun K10 hK10 => ?_)
   refine aw_regL ?_
   refine alP (some 14) rfl rfl (does_move (v := .own 0 0) (by exact rfl)) (by decide) ?_
   refine alP (some 15) rfl rfl (does_move (v := .int .i64 v7_1) (by exact rfl)) (by decide) ?_
   refine alP (some 16) rfl rfl (does_move (v := .int .i64 v8_1) (by exact rfl)) (by decide) ?_
   refine alP (some 17) rfl rfl (does_move (v := .fn 34 [.rptr [.sl 10 (List.map enc27 a2_0)]]) (by exact rfl)) (by decide) ?_
   obtain ⟨x11, hx11, h⟩ := bnd_some h
   refine alD (some 18) rfl rfl (do_callS 0 0 [] (slices_insertionSortCmpFunc_int_tree_Kids_c1_ok vs0_s_1 v7_1 v8_1 a2_0 hx11) rfl ent44 (by conv => lhs; whnf) rfl rfl (plain_map (fun _ => rfl))) (by decide) ?_
   refine al_nil ?_
   refine hK10 _ ?_
   refine aw_seq_k (fun K12 hK12 => ?_)
   refine aw_regL ?_
   refine alP (some 19) rfl rfl (does_move (v := .int .i64 v8_1) (by exact rfl)) (by decide) ?_
   refine alP (some 7) rfl rfl (does_assign (v := .int .i64 v8_1) (by exact rfl)) (by decide) ?_
   refine al_nil ?_
   refine hK12 _ ?_
   refine aw_regL ?_
   refine alP (some 20) rfl rfl (does_move (v := .int .i64 v8_1) (by exact rfl)) (by decide) ?_
   refine alP (some 21) rfl rfl (does_move (v := .int .i64 20) (by exact rfl)) (by decide) ?_
   refine alP (some 22) rfl rfl (does_bin (v := .int .i64 (IntKind.i64.wrap (v8_1 + 20))) (by conv => lhs; whnf) (by conv => lhs; whnf) rfl) (by decide) ?_
   refine alP (some 8) rfl rfl (does_assign (v := .int .i64 (IntKind.i64.wrap (v8_1 + 20))) (by exact rfl)) (by decide) ?_
   refine al_nil ?_
   have h := leafL h hq6
   exact ⟨m1, Nat.lt_succ_self _, _, reb_lit [(0, .own 0 0), (1, .int .i64 a1), (2, .fn 34 [.rptr [.sl 10 (List.map enc27 a2_0)]]), (6, .int .i64 20), (7, .int .i64 v8_1), (8, .int .i64 (IntKind.i64.wrap (v8_1 + 20)))] [(0, 0)] [((0, 0), .arr 3 1 false (List.map enc2 x11))] [(0, 1)] (envOk_cons (by conv => lhs; whnf) (by exact rfl) (envOk_cons (by conv => lhs; whnf) (by exact rfl) (envOk_cons (by conv => lhs; whnf) (by exact rfl) (envOk_cons (by conv => lhs; whnf) (by exact rfl) (envOk_cons (by conv => lhs; whnf) (by exact rfl) (envOk_cons (by conv => lhs; whnf) (by exact rfl) envOk_nil)))))) (objOk_cons (by conv => lhs; whnf) (by conv => lhs; whnf) (by exact rfl) (by simp) objOk_nil) (nodup_b rfl) (nodup_b rfl) rfl rfl, x11, v8_1, (IntKind.i64.wrap (v8_1 + 20)), h, rfl⟩
  ·have h := ifF c9 h
   refine aw_cond_f (by decide) rfl ?_
   refine aw_exit ?_
   have h := leafR h hq6
   obtain rfl := Option.some.inj h
   have h := hk4
   exact ⟨_, reb_lit [(0, .own 0 0), (1, .int .i64 a1), (2, .fn 34 [.rptr [.sl 10 (List.map enc27 a2_0)]]), (6, .int .i64 20), (7, .int .i64 v7_1)] [(0, 0)] [((0, 0), .arr 3 1 false (List.map enc2 vs0_s_1))] [(0, 1)] (envOk_cons (by conv => lhs; whnf) (by exact rfl) (envOk_cons (by conv => lhs; whnf) (by exact rfl) (envOk_cons (by conv => lhs; whnf) (by exact rfl) (envOk_cons (by conv => lhs; whnf) (by exact rfl) (envOk_cons (by conv => lhs; whnf) (by exact rfl) envOk_nil))))) (objOk_cons (by conv => lhs; whnf) (by conv => lhs; whnf) (by exact rfl) (by simp) objOk_nil) (nodup_b rfl) (nodup_b rfl) rfl rfl, vs0_s_1, v7_1, h, rfl⟩
 ·rintro s ⟨vs0_s_0, v7_0, h, rfl⟩
  unfold slices_stableCmpFunc_int_tree_Kids_c1_k0 at h
  refine aw_seq_k (fun K13 hK13 => ?_)
  refine aw_regL ?_
  refine alP (some 23) rfl rfl (does_move (v := .own 0 0) (by exact rfl)) (by decide) ?_
  refine alP (some 24) rfl rfl (does_move (v := .int .i64 v7_0) (by exact rfl)) (by decide) ?_
  refine alP (some 25) rfl rfl (does_move (v := .int .i64 a1) (by exact rfl)) (by decide) ?_
  refine alP (some 26) rfl rfl (does_move (v := .fn 34 [.rptr [.sl 10 (List.map enc27 a2_0)]]) (by exact rfl)) (by decide) ?_
  obtain ⟨x14, hx14, h⟩ := bnd_some h
  refine alD (some 27) rfl rfl (do_callS 0 0 [] (slices_insertionSortCmpFunc_int_tree_Kids_c1_ok vs0_s_0 v7_0 a1 a2_0 hx14) rfl ent44 (by conv => lhs; whnf) rfl rfl (plain_map (fun _ => rfl))) (by decide) ?_
  refine al_nil ?_
  refine hK13 _ ?_
  refine aw_block ?_
  refine aw_loop' (fun m s => ∃ (vs0_s_2 : List Int), ∃ (v6_2 : Int), loopN (fun (s : List Int × Int) => slices_stableCmpFunc_int_tree_Kids_c1_l2 a1 a2_0 s.1 s.2) m (vs0_s_2, v6_2) = some r ∧ s = lit [(0, .own 0 0), (1, .int .i64 a1), (2, .fn 34 [.rptr [.sl 10 (List.map enc27 a2_0)]]), (6, .int .i64 v6_2)] [((0, 0), .arr 3 1 false (List.map enc2 vs0_s_2))] [(0, 1)] X) Fu
   ⟨_, reb_lit [(0, .own 0 0), (1, .int .i64 a1), (2, .fn 34 [.rptr [.sl 10 (List.map enc27 a2_0)]]), (6, .int .i64 (20))] [(0, 0)] [((0, 0), .arr 3 1 false (List.map enc2 x14))] [(0, 1)] (envOk_cons (by conv => lhs; whnf) (by exact rfl) (envOk_cons (by conv => lhs; whnf) (by exact rfl) (envOk_cons (by conv => lhs; whnf) (by exact rfl) (envOk_cons (by conv => lhs; whnf) (by exact rfl) envOk_nil)))) (objOk_cons (by conv => lhs; whnf) (by conv => lhs; whnf) (by exact rfl) (by simp) objOk_nil) (nodup_b rfl) (nodup_b rfl) rfl rfl, x14, 20, h, rfl⟩ ?_
  rintro m s ⟨vs0_s_2, v6_2, h, rfl⟩
  obtain ⟨m2, q15, rfl, h, hq16⟩ := loop_some h
  replace h : slices_stableCmpFunc_int_tree_Kids_c1_l2 a1 a2_0 vs0_s_2 v6_2 = some q15 := h
  unfold slices_stableCmpFunc_int_tree_Kids_c1_l2 at h
  refine aw_seq_k (fun K17 hK17 => ?_)
  refine aw_seq_k (fun K18 hK18 => ?_)
  refine aw_regL ?_
  refine alP (some 28) rfl rfl (does_move (v := .int .i64 v6_2) (by exact rfl)) (by decide) ?_
  refine alP (some 29) rfl rfl (does_move (v := .int .i64 a1) (by exact rfl)) (by decide) ?_
  refine alP (some 30) rfl rfl (does_bin (v := .bool (decide (v6_2 < a1))) (by conv => lhs; whnf) (by conv => lhs; whnf) rfl) (by decide) ?_
  refine al_nil ?_
  refine hK18 _ ?_
  refine aw_bool (b := (decide (v6_2 < a1))) 30 rfl (fun c19 => ?_) (fun c19 => ?_)
  ·have h := ifT c19 h
   refine aw_cond_t (by decide) rfl ?_
   refine aw_skip ?_
   refine hK17 _ ?_
   refine aw_block ?_
   refine aw_seq_k (fun K20 hK20 => ?_)
   refine aw_regL ?_
   refine alP (some 31) rfl rfl (does_move (v := .int .i64 v6_2) (by exact rfl)) (by decide) ?_
   refine alP (some 32) rfl rfl (does_bin (v := .int .i64 (IntKind.i64.wrap (2 * v6_2))) (by conv => lhs; whnf) (by conv => lhs; whnf) rfl) (by decide) ?_
   refine alP (some 7) rfl rfl (does_assign (v := .int .i64 0) (by exact rfl)) (by decide) ?_
   refine alP (some 8) rfl rfl (does_assign (v := .int .i64 (IntKind.i64.wrap (2 * v6_2))) (by exact rfl)) (by decide) ?_
   refine al_nil ?_
   refine hK20 _ ?_
   obtain ⟨q21, h, hk22⟩ := bnd_some h
   refine aw_cut (fun s => ∃ (vs0_s_3 : List Int), ∃ (v7_3 : Int), slices_stableCmpFunc_int_tree_Kids_c1_k3 a1 a2_0 v6_2 vs0_s_3 v7_3 = some q15 ∧ s = lit [(0, .own 0 0), (1, .int .i64 a1), (2, .fn 34 [.rptr [.sl 10 (List.map enc27 a2_0)]]), (6, .int .i64 v6_2), (7, .int .i64 v7_3)] [((0, 0), .arr 3 1 false (List.map enc2 vs0_s_3))] [(0, 1)] X) ?_ ?_
   ·skip
    refine aw_block ?_
    refine aw_loop' (fun m s => ∃ (vs0_s_4 : List Int), ∃ (v7_4 : Int), ∃ (v8_4 : Int), loopN (fun (s : List Int × Int × Int) => slices_stableCmpFunc_int_tree_Kids_c1_l4 a1 a2_0 v6_2 s.1 s.2.1 s.2.2) m (vs0_s_4, v7_4, v8_4) = some q21 ∧ s = lit [(0, .own 0 0), (1, .int .i64 a1), (2, .fn 34 [.rptr [.sl 10 (List.map enc27 a2_0)]]), (6, .int .i64 v6_2), (7, .int .i64 v7_4), (8, .int .i64 v8_4)] [((0, 0), .arr 3 1 false (List.map enc2 vs0_s_4))] [(0, 1)] X) Fu
     ⟨_, reb_lit [(0, .own 0 0), (1, .int .i64 a1), (2, .fn 34 [.rptr [.sl 10 (List.map enc27 a2_0)]]), (6, .int .i64 v6_2), (7, .int .i64 (0)), (8, .int .i64 (IntKind.i64.wrap (2 * v6_2)))] [(0, 0)] [((0, 0), .arr 3 1 false (List.map enc2 vs0_s_2))] [(0, 1)] (envOk_cons (by conv => lhs; whnf) (by exact rfl) (envOk_cons (by conv => lhs; whnf) (by exact rfl) (envOk_cons (by conv => lhs; whnf) (by exact rfl) (envOk_cons (by conv => lhs; whnf) (by exact rfl) (envOk_cons (by conv => lhs; whnf) (by exact rfl) (envOk_cons (by conv => lhs; whnf) (by exact rfl) envOk_nil)))))) (objOk_cons (by conv => lhs; whnf) (by conv => lhs; whnf) (by exact rfl) (by simp) objOk_nil) (nodup_b rfl) (nodup_b rfl) rfl rfl, vs0_s_2, 0, (IntKind.i64.wrap (2 * v6_2)), h, rfl⟩ ?_
    rintro m s ⟨vs0_s_4, v7_4, v8_4, h, rfl⟩
    obtain ⟨m4, q23, rfl, h, hq24⟩ := loop_some h
    replace h : slices_stableCmpFunc_int_tree_Kids_c1_l4 a1 a2_0 v6_2 vs0_s_4 v7_4 v8_4 = some q23 := h
    unfold slices_stableCmpFunc_int_tree_Kids_c1_l4 at h
    refine aw_seq_k (fun K25 hK25 => ?_)
    refine aw_seq_k (fun K26 hK26 => ?_)
    refine aw_regL ?_
    refine alP (some 33) rfl rfl (does_move (v := .int .i64 v8_4) (by exact rfl)) (by decide) ?_
    refine alP (some 34) rfl rfl (does_move (v := .int .i64 a1) (by exact rfl)) (by decide) ?_
    refine alP (some 35) rfl rfl (does_bin (v := .bool (decide (v8_4 ≤ a1))) (by conv => lhs; whnf) (by conv => lhs; whnf) rfl) (by decide) ?_
    refine al_nil ?_
    refine hK26 _ ?_
    refine aw_bool (b := (decide (v8_4 ≤ a1))) 35 rfl (fun c27 => ?_) (fun c27 => ?_)
    ·have h := ifT c27 h
     refine aw_cond_t (by decide) rfl ?_
     refine aw_skip ?_
     refine hK25 _ ?_
     refine aw_block ?_
     refine aw_seq_k (fun K28 hK28 => ?_)
     refine aw_regL ?_
     refine alP (some 36) rfl rfl (does_move (v := .own 0 0) (by exact rfl)) (by decide) ?_
     refine alP (some 37) rfl rfl (does_move (v := .int .i64 v7_4) (by exact rfl)) (by decide) ?_
     refine alP (some 38) rfl rfl (does_move (v := .int .i64 v7_4) (by exact rfl)) (by decide) ?_
     refine alP (some 39) rfl rfl (does_move (v := .int .i64 v6_2) (by exact rfl)) (by decide) ?_
     refine alP (some 40) rfl rfl (does_bin (v := .int .i64 (IntKind.i64.wrap (v7_4 + v6_2))) (by conv => lhs; whnf) (by conv => lhs; whnf) rfl) (by decide) ?_
     refine alP (some 41) rfl rfl (does_move (v := .int .i64 v8_4) (by exact rfl)) (by decide) ?_
     refine alP (some 42) rfl rfl (does_move (v := .fn 34 [.rptr [.sl 10 (List.map enc27 a2_0)]]) (by exact rfl)) (by decide) ?_
     obtain ⟨x29, hx29, h⟩ := bnd_some h
     refine alD (some 43) rfl rfl (do_callS 0 0 [] (slices_symMergeCmpFunc_int_tree_Kids_c1_ok vs0_s_4 v7_4 (IntKind.i64.wrap (v7_4 + v6_2)) v8_4 a2_0 hx29) rfl ent55 (by conv => lhs; whnf) rfl rfl (plain_map (fun _ => rfl))) (by decide) ?_
     refine al_nil ?_
     refine hK28 _ ?_
     refine aw_seq_k (fun K30 hK30 => ?_)
     refine aw_regL ?_
     refine alP (some 44) rfl rfl (does_move (v := .int .i64 v8_4) (by exact rfl)) (by decide) ?_
     refine alP (some 7) rfl rfl (does_assign (v := .int .i64 v8_4) (by exact rfl)) (by decide) ?_
     refine al_nil ?_
     refine hK30 _ ?_
     refine aw_regL ?_
     refine alP (some 45) rfl rfl (does_move (v := .int .i64 v8_4) (by exact rfl)) (by decide) ?_
     refine alP (some 46) rfl rfl (does_move (v := .int .i64 v6_2) (by exact rfl)) (by decide) ?_
     refine alP (some 47) rfl rfl (does_bin (v := .int .i64 (IntKind.i64.wrap (2 * v6_2))) (by conv => lhs; whnf) (by conv => lhs; whnf) rfl) (by decide) ?_
     refine alP (some 48) rfl rfl (does_bin (v := .int .i64 (IntKind.i64.wrap (v8_4 + (IntKind.i64.wrap (2 * v6_2))))) (by conv => lhs; whnf) (by conv => lhs; whnf) rfl) (by decide) ?_
     refine alP (some 8) rfl rfl (does_assign (v := .int .i64 (IntKind.i64.wrap (v8_4 + (IntKind.i64.wrap (2 * v6_2))))) (by exact rfl)) (by decide) ?_
     refine al_nil ?_
     have h := leafL h hq24
     exact ⟨m4, Nat.lt_succ_self _, _, reb_lit [(0, .own 0 0), (1, .int .i64 a1), (2, .fn 34 [.rptr [.sl 10 (List.map enc27 a2_0)]]), (6, .int .i64 v6_2), (7, .int .i64 v8_4), (8, .int .i64 (IntKind.i64.wrap (v8_4 + (IntKind.i64.wrap (2 * v6_2)))))] [(0, 0)] [((0, 0), .arr 3 1 false (List.map enc2 x29))] [(0, 1)] (envOk_cons (by conv => lhs; whnf) (by exact rfl) (envOk_cons (by conv => lhs; whnf) (by exact rfl) (envOk_cons (by conv => lhs; whnf) (by exact rfl) (envOk_cons (by conv => lhs; whnf) (by exact rfl) (envOk_cons (by conv => lhs; whnf) (by exact rfl) (envOk_cons (by conv => lhs; whnf) (by exact rfl) envOk_nil)))))) (objOk_cons (by conv => lhs; whnf) (by conv => lhs; whnf) (by exact rfl) (by simp) objOk_nil) (nodup_b rfl) (nodup_b rfl) rfl rfl, x29, v8_4, (IntKind.i64.wrap (v8_4 + (IntKind.i64.wrap (2 * v6_2)))), h, rfl⟩
    ·have h := ifF c27 h
     refine aw_cond_f (by decide) rfl ?_
     refine aw_exit ?_
     have h := leafR h hq24
     obtain rfl := Option.some.inj h
     have h := hk22
     exact ⟨_, reb_lit [(0, .own 0 0), (1, .int .i64 a1), (2, .fn 34 [.rptr [.sl 10 (List.map enc27 a2_0)]]), (6, .int .i64 v6_2), (7, .int .i64 v7_4)] [(0, 0)] [((0, 0), .arr 3 1 false (List.map enc2 vs0_s_4))] [(0, 1)] (envOk_cons (by conv => lhs; whnf) (by exact rfl) (envOk_cons (by conv => lhs; whnf) (by exact rfl) (envOk_cons (by conv => lhs; whnf) (by exact rfl) (envOk_cons (by conv => lhs; whnf) (by exact rfl) (envOk_cons (by conv => lhs; whnf) (by exact rfl) envOk_nil))))) (objOk_cons (by conv => lhs; whnf) (by conv => lhs; whnf) (by exact rfl) (by simp) objOk_nil) (nodup_b rfl) (nodup_b rfl) rfl rfl, vs0_s_4, v7_4, h, rfl⟩
   ·rintro s ⟨vs0_s_3, v7_3, h, rfl⟩
    unfold slices_stableCmpFunc_int_tree_Kids_c1_k3 at h
    refine aw_seq_k (fun K31 hK31 => ?_)
    refine aw_seq_k (fun K32 hK32 => ?_)
    refine aw_regL ?_
    refine alP (some 49) rfl rfl (does_move (v := .int .i64 v7_3) (by exact rfl)) (by decide) ?_
    refine alP (some 50) rfl rfl (does_move (v := .int .i64 v6_2) (by exact rfl)) (by decide) ?_
    refine alP (some 51) rfl rfl (does_bin (v := .int .i64 (IntKind.i64.wrap (v7_3 + v6_2))) (by conv => lhs; whnf) (by conv => lhs; whnf) rfl) (by decide) ?_
    refine alP (some 9) rfl rfl (does_assign (v := .int .i64 (IntKind.i64.wrap (v7_3 + v6_2))) (by exact rfl)) (by decide) ?_
    refine al_nil ?_
    refine hK32 _ ?_
    refine aw_seq_k (fun K33 hK33 => ?_)
    refine aw_regL ?_
    refine alP (some 52) rfl rfl (does_move (v := .int .i64 (IntKind.i64.wrap (v7_3 + v6_2))) (by exact rfl)) (by decide) ?_
    refine alP (some 53) rfl rfl (does_move (v := .int .i64 a1) (by exact rfl)) (by decide) ?_
    refine alP (some 54) rfl rfl (does_bin (v := .bool (decide ((IntKind.i64.wrap (v7_3 + v6_2)) < a1))) (by conv => lhs; whnf) (by conv => lhs; whnf) rfl) (by decide) ?_
    refine al_nil ?_
    refine hK33 _ ?_
    refine aw_bool (b := (decide ((IntKind.i64.wrap (v7_3 + v6_2)) < a1))) 54 rfl (fun c34 => ?_) (fun c34 => ?_)
    ·have h := ifT c34 h
     refine aw_cond_t (by decide) rfl ?_
     refine aw_regL ?_
     refine alP (some 55) rfl rfl (does_move (v := .own 0 0) (by exact rfl)) (by decide) ?_
     refine alP (some 56) rfl rfl (does_move (v := .int .i64 v7_3) (by exact rfl)) (by decide) ?_
     refine alP (some 57) rfl rfl (does_move (v := .int .i64 (IntKind.i64.wrap (v7_3 + v6_2))) (by exact rfl)) (by decide) ?_
     refine alP (some 58) rfl rfl (does_move (v := .int .i64 a1) (by exact rfl)) (by decide) ?_
     refine alP (some 59) rfl rfl (does_move (v := .fn 34 [.rptr [.sl 10 (List.map enc27 a2_0)]]) (by exact rfl)) (by decide) ?_
     obtain ⟨x35, hx35, h⟩ := bnd_some h
     refine alD (some 60) rfl rfl (do_callS 0 0 [] (slices_symMergeCmpFunc_int_tree_Kids_c1_ok vs0_s_3 v7_3 (IntKind.i64.wrap (v7_3 + v6_2)) a1 a2_0 hx35) rfl ent55 (by conv => lhs; whnf) rfl rfl (plain_map (fun _ => rfl))) (by decide) ?_
     refine al_nil ?_
     refine hK31 _ ?_
     refine aw_regL ?_
     refine alP (some 61) rfl rfl (does_move (v := .int .i64 v6_2) (by exact rfl)) (by decide) ?_
     refine alP (some 62) rfl rfl (does_bin (v := .int .i64 (IntKind.i64.wrap (v6_2 * 2))) (by conv => lhs; whnf) (by conv => lhs; whnf) rfl) (by decide) ?_
     refine alP (some 6) rfl rfl (does_assign (v := .int .i64 (IntKind.i64.wrap (v6_2 * 2))) (by exact rfl)) (by decide) ?_
     refine al_nil ?_
     have h := leafL h hq16
     exact ⟨m2, Nat.lt_succ_self _, _, reb_lit [(0, .own 0 0), (1, .int .i64 a1), (2, .fn 34 [.rptr [.sl 10 (List.map enc27 a2_0)]]), (6, .int .i64 (IntKind.i64.wrap (v6_2 * 2)))] [(0, 0)] [((0, 0), .arr 3 1 false (List.map enc2 x35))] [(0, 1)] (envOk_cons (by conv => lhs; whnf) (by exact rfl) (envOk_cons (by conv => lhs; whnf) (by exact rfl) (envOk_cons (by conv => lhs; whnf) (by exact rfl) (envOk_cons (by conv => lhs; whnf) (by exact rfl) envOk_nil)))) (objOk_cons (by conv => lhs; whnf) (by conv => lhs; whnf) (by exact rfl) (by simp) objOk_nil) (nodup_b rfl) (nodup_b rfl) rfl rfl, x35, (IntKind.i64.wrap (v6_2 * 2)), h, rfl⟩
    ·have h := ifF c34 h
     refine aw_cond_f (by decide) rfl ?_
     refine aw_skip ?_
     refine hK31 _ ?_
     refine aw_regL ?_
     refine alP (some 61) rfl rfl (does_move (v := .int .i64 v6_2) (by exact rfl)) (by decide) ?_
     refine alP (some 62) rfl rfl (does_bin (v := .int .i64 (IntKind.i64.wrap (v6_2 * 2))) (by conv => lhs; whnf) (by conv => lhs; whnf) rfl) (by decide) ?_
     refine alP (some 6) rfl rfl (does_assign (v := .int .i64 (IntKind.i64.wrap (v6_2 * 2))) (by exact rfl)) (by decide) ?_
     refine al_nil ?_
     have h := leafL h hq16
     exact ⟨m2, Nat.lt_succ_self _, _, reb_lit [(0, .own 0 0), (1, .int .i64 a1), (2, .fn 34 [.rptr [.sl 10 (List.map enc27 a2_0)]]), (6, .int .i64 (IntKind.i64.wrap (v6_2 * 2)))] [(0, 0)] [((0, 0), .arr 3 1 false (List.map enc2 vs0_s_3))] [(0, 1)] (envOk_cons (by conv => lhs; whnf) (by exact rfl) (envOk_cons (by conv => lhs; whnf) (by exact rfl) (envOk_cons (by conv => lhs; whnf) (by exact rfl) (envOk_cons (by conv => lhs; whnf) (by exact rfl) envOk_nil)))) (objOk_cons (by conv => lhs; whnf) (by conv => lhs; whnf) (by exact rfl) (by simp) objOk_nil) (nodup_b rfl) (nodup_b rfl) rfl rfl, vs0_s_3, (IntKind.i64.wrap (v6_2 * 2)), h, rfl⟩
  ·have h := ifF c19 h
   refine aw_cond_f (by decide) rfl ?_
   refine aw_exit ?_
   have h := leafR h hq16
   obtain rfl := Option.some.inj h
   exact end_s (by conv => lhs; whnf) (by exact rfl) (.inl rfl)
def slices_SortStableFunc_int_tree_Kids_c1 (a0 : List Int) (a1_0 : List Span) : Option (List Int) :=
 Option.bind (slices_stableCmpFunc_int_tree_Kids_c1 a0 (List.length a0 : Int) a1_0) (fun (x1 : List Int) => some x1)
set_option maxRecDepth 100000 in
set_option maxHeartbeats 8000000 in
theorem slices_SortStableFunc_int_tree_Kids_c1_ok (a0 : List Int) (a1_0 : List Span) {r : List Int} (h : slices_SortStableFunc_int_tree_Kids_c1 a0 a1_0 = some r) : OkS Try.prog 33 [.own 1 0, .fn 34 [.rptr [.sl 10 (List.map enc27 a1_0)]]] (3, 1, List.map enc2 a0) (3, 1, List.map enc2 r) := by
 unfold slices_SortStableFunc_int_tree_Kids_c1 at h
 refine okS_of_code Try.func33 rfl (by show (2 : Nat) ≤ _; decide) rfl rfl rfl fun X => ?_
 refine aw_regL ?_
 refine alP (some 4) rfl rfl (does_move (v := .own 0 0) (by exact rfl)) (by decide) ?_
 refine alP (some 5) rfl rfl (does_move (v := .own 0 0) (by exact rfl)) (by decide) ?_
 refine alR (some 6) rfl rfl ((does_len_own (by conv => lhs; whnf) (by conv => lhs; whnf) ty34).cast (v' := .int .i64 (List.length a0 : Int)) (by exact len_map _)) (by decide) ?_
 refine alP (some 7) rfl rfl (does_move (v := .fn 34 [.rptr [.sl 10 (List.map enc27 a1_0)]]) (by exact rfl)) (by decide) ?_
 obtain ⟨x1, hx1, h⟩ := bnd_some h
 refine alD (some 8) rfl rfl (do_callS 0 0 [] (slices_stableCmpFunc_int_tree_Kids_c1_ok a0 (List.length a0 : Int) a1_0 hx1) rfl ent43 (by conv => lhs; whnf) rfl rfl (plain_map (fun _ => rfl))) (by decide) ?_
 refine al_nil ?_
 obtain rfl := Option.some.inj h
 exact end_s (by conv => lhs; whnf) (by exact rfl) (.inl rfl)
end Go.Proofs.Ytmompdklolomfaa.Ab
