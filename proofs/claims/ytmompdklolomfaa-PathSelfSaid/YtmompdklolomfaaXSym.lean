/- Merging, in place. -/
import Derived.Test.YtmompdklolomfaaXSpan1
import Derived.Test.YtmompdklolomfaaProg
namespace Go.Proofs.Ytmompdklolomfaa.Ab
open Go Go.RowKit
set_option linter.unusedVariables false
set_option linter.unusedSimpArgs false
def enc2 (x : Int) : PV := .int .i64 x
theorem ty34 : tyOf Try.prog 34 = some ⟨.slice 3, 1, 24, [.nil]⟩ := by kernel_rfl
theorem ent26 : Ent Try.prog 26 := ⟨_, Try.func26, by kernel_rfl, rfl⟩
theorem ent34 : Ent Try.prog 34 := ⟨_, Try.func34, by kernel_rfl, rfl⟩
theorem ent37 : Ent Try.prog 37 := ⟨_, Try.func37, by kernel_rfl, rfl⟩
theorem ent63 : Ent Try.prog 63 := ⟨_, Try.func63, by kernel_rfl, rfl⟩
def slices_swapRangeCmpFunc_int_tree_Kids_c1_l0 (a1 : Int) (a2 : Int) (a3 : Int) (vs0_s_0 : List Int) (v10_0 : Int) : Option ((List Int × Int) ⊕ (List Int)) :=
 if (decide (v10_0 < a3)) = true then (gd (0 ≤ (IntKind.i64.wrap (a2 + v10_0))) (Option.bind (vs0_s_0[(Int.toNat (IntKind.i64.wrap (a2 + v10_0)))]?) (fun (x9 : Int) => gd (0 ≤ (IntKind.i64.wrap (a1 + v10_0))) (Option.bind (vs0_s_0[(Int.toNat (IntKind.i64.wrap (a1 + v10_0)))]?) (fun (x11 : Int) => gd (0 ≤ (IntKind.i64.wrap (a1 + v10_0))) (Option.bind (vs0_s_0[(Int.toNat (IntKind.i64.wrap (a1 + v10_0)))]?) (fun (x13 : Int) => gd (0 ≤ (IntKind.i64.wrap (a2 + v10_0))) (Option.bind ((List.set vs0_s_0 (Int.toNat (IntKind.i64.wrap (a1 + v10_0))) x9)[(Int.toNat (IntKind.i64.wrap (a2 + v10_0)))]?) (fun (x15 : Int) => some (Sum.inl ((List.set (List.set vs0_s_0 (Int.toNat (IntKind.i64.wrap (a1 + v10_0))) x9) (Int.toNat (IntKind.i64.wrap (a2 + v10_0))) x11), (IntKind.i64.wrap (v10_0 + 1))))))))))))) else (some (Sum.inr vs0_s_0))
def slices_swapRangeCmpFunc_int_tree_Kids_c1 (a0 : List Int) (a1 : Int) (a2 : Int) (a3 : Int) (a4_0 : List Span) : Option (List Int) :=
 loopN (fun (s : List Int × Int) => slices_swapRangeCmpFunc_int_tree_Kids_c1_l0 a1 a2 a3 s.1 s.2) Fu (a0, 0)
set_option maxRecDepth 100000 in
set_option maxHeartbeats 8000000 in
theorem slices_swapRangeCmpFunc_int_tree_Kids_c1_ok (a0 : List Int) (a1 : Int) (a2 : Int) (a3 : Int) (a4_0 : List Span) {r : List Int} (h : slices_swapRangeCmpFunc_int_tree_Kids_c1 a0 a1 a2 a3 a4_0 = some r) : OkS Try.prog 63 [.own 1 0, .int .i64 a1, .int .i64 a2, .int .i64 a3, .fn 34 [.rptr [.sl 10 (List.map enc27 a4_0)]]] (3, 1, List.map enc2 a0) (3, 1, List.map enc2 r) := by
 unfold slices_swapRangeCmpFunc_int_tree_Kids_c1 at h
 refine okS_of_code Try.func63 rfl (by show (5 : Nat) ≤ _; decide) rfl rfl rfl fun X => ?_
 refine aw_seq_k (fun K1 hK1 => ?_)
 refine aw_regL ?_
 refine alP (some 10) rfl rfl (does_assign (v := .int .i64 0) (by exact rfl)) (by decide) ?_
 refine al_nil ?_
 refine hK1 _ ?_
 refine aw_block ?_
 refine aw_loop' (fun m s => ∃ (vs0_s_0 : List Int), ∃ (v10_0 : Int), loopN (fun (s : List Int × Int) => slices_swapRangeCmpFunc_int_tree_Kids_c1_l0 a1 a2 a3 s.1 s.2) m (vs0_s_0, v10_0) = some r ∧ s = lit [(0, .own 0 0), (1, .int .i64 a1), (2, .int .i64 a2), (3, .int .i64 a3), (10, .int .i64 v10_0)] [((0, 0), .arr 3 1 false (List.map enc2 vs0_s_0))] [(0, 1)] X) Fu
  ⟨_, reb_lit [(0, .own 0 0), (1, .int .i64 a1), (2, .int .i64 a2), (3, .int .i64 a3), (10, .int .i64 (0))] [(0, 0)] [((0, 0), .arr 3 1 false (List.map enc2 a0))] [(0, 1)] (envOk_cons (by conv => lhs; whnf) (by exact rfl) (envOk_cons (by conv => lhs; whnf) (by exact rfl) (envOk_cons (by conv => lhs; whnf) (by exact rfl) (envOk_cons (by conv => lhs; whnf) (by exact rfl) (envOk_cons (by conv => lhs; whnf) (by exact rfl) envOk_nil))))) (objOk_cons (by conv => lhs; whnf) (by conv => lhs; whnf) (by exact rfl) (by simp) objOk_nil) (nodup_b rfl) (nodup_b rfl) rfl rfl, a0, 0, h, rfl⟩ ?_
 rintro m s ⟨vs0_s_0, v10_0, h, rfl⟩
 obtain ⟨m0, q2, rfl, h, hq3⟩ := loop_some h
 replace h : slices_swapRangeCmpFunc_int_tree_Kids_c1_l0 a1 a2 a3 vs0_s_0 v10_0 = some q2 := h
 unfold slices_swapRangeCmpFunc_int_tree_Kids_c1_l0 at h
 refine aw_seq_k (fun K4 hK4 => ?_)
 refine aw_seq_k (fun K5 hK5 => ?_)
 refine aw_regL ?_
 refine alP (some 11) rfl rfl (does_move (v := .int .i64 v10_0) (by exact rfl)) (by decide) ?_
 refine alP (some 12) rfl rfl (does_move (v := .int .i64 a3) (by exact rfl)) (by decide) ?_
 refine alP (some 13) rfl rfl (does_bin (v := .bool (decide (v10_0 < a3))) (by conv => lhs; whnf) (by conv => lhs; whnf) rfl) (by decide) ?_
 refine al_nil ?_
 refine hK5 _ ?_
 refine aw_bool (b := (decide (v10_0 < a3))) 13 rfl (fun c6 => ?_) (fun c6 => ?_)
 ·have h := ifT c6 h
  refine aw_cond_t (by decide) rfl ?_
  refine aw_skip ?_
  refine hK4 _ ?_
  refine aw_seq_k (fun K7 hK7 => ?_)
  refine aw_block ?_
  refine aw_regd (by kernel_rfl) (by decide +kernel) ?_
  refine aoP (some 16) rfl rfl (does_move (v := .own 0 0) (by exact rfl)) (by decide) ?_
  refine aoP (some 17) rfl rfl (does_move (v := .int .i64 a1) (by exact rfl)) (by decide) ?_
  refine aoP (some 18) rfl rfl (does_move (v := .int .i64 v10_0) (by exact rfl)) (by decide) ?_
  refine aoP (some 19) rfl rfl (does_bin (v := .int .i64 (IntKind.i64.wrap (a1 + v10_0))) (by conv => lhs; whnf) (by conv => lhs; whnf) rfl) (by decide) ?_
  refine aoP (some 20) rfl rfl (does_move (v := .own 0 0) (by exact rfl)) (by decide) ?_
  refine aoP (some 21) rfl rfl (does_move (v := .int .i64 a2) (by exact rfl)) (by decide) ?_
  refine aoP (some 22) rfl rfl (does_move (v := .int .i64 v10_0) (by exact rfl)) (by decide) ?_
  refine aoP (some 23) rfl rfl (does_bin (v := .int .i64 (IntKind.i64.wrap (a2 + v10_0))) (by conv => lhs; whnf) (by conv => lhs; whnf) rfl) (by decide) ?_
  refine aoP (some 24) rfl rfl (does_move (v := .own 0 0) (by exact rfl)) (by decide) ?_
  refine aoP (some 25) rfl rfl (does_move (v := .int .i64 a2) (by exact rfl)) (by decide) ?_
  refine aoP (some 26) rfl rfl (does_move (v := .int .i64 v10_0) (by exact rfl)) (by decide) ?_
  refine aoP (some 27) rfl rfl (does_bin (v := .int .i64 (IntKind.i64.wrap (a2 + v10_0))) (by conv => lhs; whnf) (by conv => lhs; whnf) rfl) (by decide) ?_
  obtain ⟨g8, h⟩ := gd_some h
  obtain ⟨x9, hx9, h⟩ := bnd_some h
  refine aoR (some 28) rfl rfl (does_indexAddr_own (by conv => lhs; whnf) (by conv => lhs; whnf) (by conv => lhs; whnf) ty34 ty3 g8 (by exact own_lt hx9)) (by decide) ?_
  refine aoR (some 29) rfl rfl (does_load (v := .int .i64 x9) (by conv => lhs; whnf) (cellsAt_eptr (by conv => lhs; whnf) (by exact map_get hx9)) ty3 (by exact rfl)) (by decide) ?_
  refine aoP (some 30) rfl rfl (does_move (v := .own 0 0) (by exact rfl)) (by decide) ?_
  refine aoP (some 31) rfl rfl (does_move (v := .int .i64 a1) (by exact rfl)) (by decide) ?_
  refine aoP (some 32) rfl rfl (does_move (v := .int .i64 v10_0) (by exact rfl)) (by decide) ?_
  refine aoP (some 33) rfl rfl (does_bin (v := .int .i64 (IntKind.i64.wrap (a1 + v10_0))) (by conv => lhs; whnf) (by conv => lhs; whnf) rfl) (by decide) ?_
  obtain ⟨g10, h⟩ := gd_some h
  obtain ⟨x11, hx11, h⟩ := bnd_some h
  refine aoR (some 34) rfl rfl (does_indexAddr_own (by conv => lhs; whnf) (by conv => lhs; whnf) (by conv => lhs; whnf) ty34 ty3 g10 (by exact own_lt hx11)) (by decide) ?_
  refine aoR (some 35) rfl rfl (does_load (v := .int .i64 x11) (by conv => lhs; whnf) (cellsAt_eptr (by conv => lhs; whnf) (by exact map_get hx11)) ty3 (by exact rfl)) (by decide) ?_
  obtain ⟨g12, h⟩ := gd_some h
  obtain ⟨x13, hx13, h⟩ := bnd_some h
  refine aoR (some 36) rfl rfl (does_indexAddr_own (by conv => lhs; whnf) (by conv => lhs; whnf) (by conv => lhs; whnf) ty34 ty3 g12 (by exact own_lt hx13)) (by decide) ?_
  refine aoD none rfl rfl (does_storeE (old := .int .i64 x13) (el := .int .i64 x9) (xs' := List.map enc2 (List.set vs0_s_0 (Int.toNat (IntKind.i64.wrap (a1 + v10_0))) x9)) (by conv => lhs; whnf) (by conv => lhs; whnf) (by conv => lhs; whnf) ty3 (by rfl) (by rfl) (by exact map_get hx13) (by rfl) (by exact rfl) (by exact map_set' _ _ x9) (by rfl)) (by decide) ?_
  obtain ⟨g14, h⟩ := gd_some h
  obtain ⟨x15, hx15, h⟩ := bnd_some h
  refine aoR (some 37) rfl rfl (does_indexAddr_own (by conv => lhs; whnf) (by conv => lhs; whnf) (by conv => lhs; whnf) ty34 ty3 g14 (by exact own_lt hx15)) (by decide) ?_
  refine aoD none rfl rfl (does_storeE (old := .int .i64 x15) (el := .int .i64 x11) (xs' := List.map enc2 (List.set (List.set vs0_s_0 (Int.toNat (IntKind.i64.wrap (a1 + v10_0))) x9) (Int.toNat (IntKind.i64.wrap (a2 + v10_0))) x11)) (by conv => lhs; whnf) (by conv => lhs; whnf) (by conv => lhs; whnf) ty3 (by rfl) (by rfl) (by exact map_get hx15) (by rfl) (by exact rfl) (by exact map_set' _ _ x11) (by rfl)) (by decide) ?_
  refine ao_nil_d (by kernel_rfl) ?_
  refine hK7 _ ?_
  refine aw_regL ?_
  refine alP (some 14) rfl rfl (does_move (v := .int .i64 v10_0) (by exact rfl)) (by decide) ?_
  refine alP (some 15) rfl rfl (does_bin (v := .int .i64 (IntKind.i64.wrap (v10_0 + 1))) (by conv => lhs; whnf) (by conv => lhs; whnf) rfl) (by decide) ?_
  refine alP (some 10) rfl rfl (does_assign (v := .int .i64 (IntKind.i64.wrap (v10_0 + 1))) (by exact rfl)) (by decide) ?_
  refine al_nil ?_
  have h := leafL h hq3
  exact ⟨m0, Nat.lt_succ_self _, _, reb_lit [(0, .own 0 0), (1, .int .i64 a1), (2, .int .i64 a2), (3, .int .i64 a3), (10, .int .i64 (IntKind.i64.wrap (v10_0 + 1)))] [(0, 0)] [((0, 0), .arr 3 1 false (List.map enc2 (List.set (List.set vs0_s_0 (Int.toNat (IntKind.i64.wrap (a1 + v10_0))) x9) (Int.toNat (IntKind.i64.wrap (a2 + v10_0))) x11)))] [(0, 1)] (envOk_cons (by conv => lhs; whnf) (by exact rfl) (envOk_cons (by conv => lhs; whnf) (by exact rfl) (envOk_cons (by conv => lhs; whnf) (by exact rfl) (envOk_cons (by conv => lhs; whnf) (by exact rfl) (envOk_cons (by conv => lhs; whnf) (by exact rfl) envOk_nil))))) (objOk_cons (by conv => lhs; whnf) (by conv => lhs; whnf) (by exact rfl) (by simp) objOk_nil) (nodup_b rfl) (nodup_b rfl) rfl rfl, (List.set (List.set vs0_s_0 (Int.toNat (IntKind.i64.wrap (a1 + v10_0))) x9) (Int.toNat (IntKind.i64.wrap (a2 + v10_0))) x11), (IntKind.i64.wrap (v10_0 + 1)), h, rfl⟩
 ·have h := ifF c6 h
  refine aw_cond_f (by decide) rfl ?_
  refine aw_exit ?_
  have h := leafR h hq3
  obtain rfl := Option.some.inj h
  exact end_s (by conv => lhs; whnf) (by exact rfl) (.inl rfl)
def slices_rotateCmpFunc_int_tree_Kids_c1_l1 (a2 : Int) (a4_0 : List Span) (vs0_s_1 : List Int) (v10_1 : Int) (v11_1 : Int) : Option ((List Int × Int × Int) ⊕ (List Int × Int)) :=
 if (v10_1 != v11_1) = true then (if (decide (v11_1 < v10_1)) = true then (Option.bind (slices_swapRangeCmpFunc_int_tree_Kids_c1 vs0_s_1 (IntKind.i64.wrap (a2 - v10_1)) a2 v11_1 a4_0) (fun (x13 : List Int) => some (Sum.inl (x13, (IntKind.i64.wrap (v10_1 - v11_1)), v11_1)))) else (Option.bind (slices_swapRangeCmpFunc_int_tree_Kids_c1 vs0_s_1 (IntKind.i64.wrap (a2 - v10_1)) (IntKind.i64.wrap ((IntKind.i64.wrap (a2 + v11_1)) - v10_1)) v10_1 a4_0) (fun (x15 : List Int) => some (Sum.inl (x15, v10_1, (IntKind.i64.wrap (v11_1 - v10_1))))))) else (some (Sum.inr (vs0_s_1, v10_1)))
def slices_rotateCmpFunc_int_tree_Kids_c1_k0 (a2 : Int) (a4_0 : List Span) (vs0_s_0 : List Int) (v10_0 : Int) : Option (List Int) :=
 Option.bind (slices_swapRangeCmpFunc_int_tree_Kids_c1 vs0_s_0 (IntKind.i64.wrap (a2 - v10_0)) a2 v10_0 a4_0) (fun (x16 : List Int) => some x16)
def slices_rotateCmpFunc_int_tree_Kids_c1 (a0 : List Int) (a1 : Int) (a2 : Int) (a3 : Int) (a4_0 : List Span) : Option (List Int) :=
 Option.bind (loopN (fun (s : List Int × Int × Int) => slices_rotateCmpFunc_int_tree_Kids_c1_l1 a2 a4_0 s.1 s.2.1 s.2.2) Fu (a0, (IntKind.i64.wrap (a2 - a1)), (IntKind.i64.wrap (a3 - a2)))) (fun (s : List Int × Int) => slices_rotateCmpFunc_int_tree_Kids_c1_k0 a2 a4_0 s.1 s.2)
set_option maxRecDepth 100000 in
set_option maxHeartbeats 8000000 in
theorem slices_rotateCmpFunc_int_tree_Kids_c1_ok (a0 : List Int) (a1 : Int) (a2 : Int) (a3 : Int) (a4_0 : List Span) {r : List Int} (h : slices_rotateCmpFunc_int_tree_Kids_c1 a0 a1 a2 a3 a4_0 = some r) : OkS Try.prog 61 [.own 1 0, .int .i64 a1, .int .i64 a2, .int .i64 a3, .fn 34 [.rptr [.sl 10 (List.map enc27 a4_0)]]] (3, 1, List.map enc2 a0) (3, 1, List.map enc2 r) := by
 unfold slices_rotateCmpFunc_int_tree_Kids_c1 at h
 refine okS_of_code Try.func61 rfl (by show (5 : Nat) ≤ _; decide) rfl rfl rfl fun X => ?_
 refine aw_seq_k (fun K1 hK1 => ?_)
 refine aw_regL ?_
 refine alP (some 12) rfl rfl (does_move (v := .int .i64 a2) (by exact rfl)) (by decide) ?_
 refine alP (some 13) rfl rfl (does_move (v := .int .i64 a1) (by exact rfl)) (by decide) ?_
 refine alP (some 14) rfl rfl (does_bin (v := .int .i64 (IntKind.i64.wrap (a2 - a1))) (by conv => lhs; whnf) (by conv => lhs; whnf) rfl) (by decide) ?_
 refine alP (some 10) rfl rfl (does_assign (v := .int .i64 (IntKind.i64.wrap (a2 - a1))) (by exact rfl)) (by decide) ?_
 refine al_nil ?_
 refine hK1 _ ?_
 refine aw_seq_k (fun K2 hK2 => ?_)
 refine aw_regL ?_
 refine alP (some 15) rfl rfl (does_move (v := .int .i64 a3) (by exact rfl)) (by decide) ?_
 refine alP (some 16) rfl rfl (does_move (v := .int .i64 a2) (by exact rfl)) (by decide) ?_
 refine alP (some 17) rfl rfl (does_bin (v := .int .i64 (IntKind.i64.wrap (a3 - a2))) (by conv => lhs; whnf) (by conv => lhs; whnf) rfl) (by decide) ?_
 refine alP (some 11) rfl rfl (does_assign (v := .int .i64 (IntKind.i64.wrap (a3 - a2))) (by exact rfl)) (by decide) ?_
 refine al_nil ?_
 refine hK2 _ ?_
 obtain ⟨q3, h, hk4⟩ := bnd_some h
 refine aw_cut (fun s => ∃ (vs0_s_0 : List Int), ∃ (v10_0 : Int), slices_rotateCmpFunc_int_tree_Kids_c1_k0 a2 a4_0 vs0_s_0 v10_0 = some r ∧ s = lit [(0, .own 0 0), (2, .int .i64 a2), (4, .fn 34 [.rptr [.sl 10 (List.map enc27 a4_0)]]), (10, .int .i64 v10_0)] [((0, 0), .arr 3 1 false (List.map enc2 vs0_s_0))] [(0, 1)] X) ?_ ?_
 ·skip
  refine aw_block ?_
  refine aw_loop' (fun m s => ∃ (vs0_s_1 : List Int), ∃ (v10_1 : Int), ∃ (v11_1 : Int), loopN (fun (s : List Int × Int × Int) => slices_rotateCmpFunc_int_tree_Kids_c1_l1 a2 a4_0 s.1 s.2.1 s.2.2) m (vs0_s_1, v10_1, v11_1) = some q3 ∧ s = lit [(0, .own 0 0), (2, .int .i64 a2), (4, .fn 34 [.rptr [.sl 10 (List.map enc27 a4_0)]]), (10, .int .i64 v10_1), (11, .int .i64 v11_1)] [((0, 0), .arr 3 1 false (List.map enc2 vs0_s_1))] [(0, 1)] X) Fu
   ⟨_, reb_lit [(0, .own 0 0), (2, .int .i64 a2), (4, .fn 34 [.rptr [.sl 10 (List.map enc27 a4_0)]]), (10, .int .i64 (IntKind.i64.wrap (a2 - a1))), (11, .int .i64 (IntKind.i64.wrap (a3 - a2)))] [(0, 0)] [((0, 0), .arr 3 1 false (List.map enc2 a0))] [(0, 1)] (envOk_cons (by conv => lhs; whnf) (by exact rfl) (envOk_cons (by conv => lhs; whnf) (by exact rfl) (envOk_cons (by conv => lhs; whnf) (by exact rfl) (envOk_cons (by conv => lhs; whnf) (by exact rfl) (envOk_cons (by conv => lhs; whnf) (by exact rfl) envOk_nil))))) (objOk_cons (by conv => lhs; whnf) (by conv => lhs; whnf) (by exact rfl) (by simp) objOk_nil) (nodup_b rfl) (nodup_b rfl) rfl rfl, a0, (IntKind.i64.wrap (a2 - a1)), (IntKind.i64.wrap (a3 - a2)), h, rfl⟩ ?_
  rintro m s ⟨vs0_s_1, v10_1, v11_1, h, rfl⟩
  obtain ⟨m1, q5, rfl, h, hq6⟩ := loop_some h
  replace h : slices_rotateCmpFunc_int_tree_Kids_c1_l1 a2 a4_0 vs0_s_1 v10_1 v11_1 = some q5 := h
  unfold slices_rotateCmpFunc_int_tree_Kids_c1_l1 at h
  refine aw_seq_k (fun K7 hK7 => ?_)
  refine aw_seq_k (fun K8 hK8 => ?_)
  refine aw_regL ?_
  refine alP (some 18) rfl rfl (does_move (v := .int .i64 v10_1) (by exact rfl)) (by decide) ?_
  refine alP (some 19) rfl rfl (does_move (v := .int .i64 v11_1) (by exact rfl)) (by decide) ?_
  refine alP (some 20) rfl rfl (does_bin (v := .bool (v10_1 != v11_1)) (by conv => lhs; whnf) (by conv => lhs; whnf) rfl) (by decide) ?_
  refine al_nil ?_
  refine hK8 _ ?_
  refine aw_bool (b := (v10_1 != v11_1)) 20 rfl (fun c9 => ?_) (fun c9 => ?_)
  ·have h := ifT c9 h
   refine aw_cond_t (by decide) rfl ?_
   refine aw_skip ?_
   refine hK7 _ ?_
   refine aw_block ?_
   refine aw_seq_k (fun K10 hK10 => ?_)
   refine aw_regL ?_
   refine alP (some 21) rfl rfl (does_move (v := .int .i64 v10_1) (by exact rfl)) (by decide) ?_
   refine alP (some 22) rfl rfl (does_move (v := .int .i64 v11_1) (by exact rfl)) (by decide) ?_
   refine alP (some 23) rfl rfl (does_bin (v := .bool (decide (v11_1 < v10_1))) (by conv => lhs; whnf) (by conv => lhs; whnf) rfl) (by decide) ?_
   refine al_nil ?_
   refine hK10 _ ?_
   refine aw_bool (b := (decide (v11_1 < v10_1))) 23 rfl (fun c11 => ?_) (fun c11 => ?_)
   ·have h := ifT c11 h
    refine aw_cond_t (by decide) rfl ?_
    refine aw_seq_k (fun K12 hK12 => ?_)
    refine aw_regL ?_
    refine alP (some 24) rfl rfl (does_move (v := .own 0 0) (by exact rfl)) (by decide) ?_
    refine alP (some 25) rfl rfl (does_move (v := .int .i64 a2) (by exact rfl)) (by decide) ?_
    refine alP (some 26) rfl rfl (does_move (v := .int .i64 v10_1) (by exact rfl)) (by decide) ?_
    refine alP (some 27) rfl rfl (does_bin (v := .int .i64 (IntKind.i64.wrap (a2 - v10_1))) (by conv => lhs; whnf) (by conv => lhs; whnf) rfl) (by decide) ?_
    refine alP (some 28) rfl rfl (does_move (v := .int .i64 a2) (by exact rfl)) (by decide) ?_
    refine alP (some 29) rfl rfl (does_move (v := .int .i64 v11_1) (by exact rfl)) (by decide) ?_
    refine alP (some 30) rfl rfl (does_move (v := .fn 34 [.rptr [.sl 10 (List.map enc27 a4_0)]]) (by exact rfl)) (by decide) ?_
    obtain ⟨x13, hx13, h⟩ := bnd_some h
    refine alD (some 31) rfl rfl (do_callS 0 0 [] (slices_swapRangeCmpFunc_int_tree_Kids_c1_ok vs0_s_1 (IntKind.i64.wrap (a2 - v10_1)) a2 v11_1 a4_0 hx13) rfl ent63 (by conv => lhs; whnf) rfl rfl (plain_map (fun _ => rfl))) (by decide) ?_
    refine al_nil ?_
    refine hK12 _ ?_
    refine aw_regL ?_
    refine alP (some 32) rfl rfl (does_move (v := .int .i64 v10_1) (by exact rfl)) (by decide) ?_
    refine alP (some 33) rfl rfl (does_move (v := .int .i64 v11_1) (by exact rfl)) (by decide) ?_
    refine alP (some 34) rfl rfl (does_bin (v := .int .i64 (IntKind.i64.wrap (v10_1 - v11_1))) (by conv => lhs; whnf) (by conv => lhs; whnf) rfl) (by decide) ?_
    refine alP (some 10) rfl rfl (does_assign (v := .int .i64 (IntKind.i64.wrap (v10_1 - v11_1))) (by exact rfl)) (by decide) ?_
    refine al_nil ?_
    have h := leafL h hq6
    exact ⟨m1, Nat.lt_succ_self _, _, reb_lit [(0, .own 0 0), (2, .int .i64 a2), (4, .fn 34 [.rptr [.sl 10 (List.map enc27 a4_0)]]), (10, .int .i64 (IntKind.i64.wrap (v10_1 - v11_1))), (11, .int .i64 v11_1)] [(0, 0)] [((0, 0), .arr 3 1 false (List.map enc2 x13))] [(0, 1)] (envOk_cons (by conv => lhs; whnf) (by exact rfl) (envOk_cons (by conv => lhs; whnf) (by exact rfl) (envOk_cons (by conv => lhs; whnf) (by exact rfl) (envOk_cons (by conv => lhs; whnf) (by exact rfl) (envOk_cons (by conv => lhs; whnf) (by exact rfl) envOk_nil))))) (objOk_cons (by conv => lhs; whnf) (by conv => lhs; whnf) (by exact rfl) (by simp) objOk_nil) (nodup_b rfl) (nodup_b rfl) rfl rfl, x13, (IntKind.i64.wrap (v10_1 - v11_1)), v11_1, h, rfl⟩
   ·have h := ifF c11 h
    refine aw_cond_f (by decide) rfl ?_
    refine aw_seq_k (fun K14 hK14 => ?_)
    refine aw_regL ?_
    refine alP (some 35) rfl rfl (does_move (v := .own 0 0) (by exact rfl)) (by decide) ?_
    refine alP (some 36) rfl rfl (does_move (v := .int .i64 a2) (by exact rfl)) (by decide) ?_
    refine alP (some 37) rfl rfl (does_move (v := .int .i64 v10_1) (by exact rfl)) (by decide) ?_
    refine alP (some 38) rfl rfl (does_bin (v := .int .i64 (IntKind.i64.wrap (a2 - v10_1))) (by conv => lhs; whnf) (by conv => lhs; whnf) rfl) (by decide) ?_
    refine alP (some 39) rfl rfl (does_move (v := .int .i64 a2) (by exact rfl)) (by decide) ?_
    refine alP (some 40) rfl rfl (does_move (v := .int .i64 v11_1) (by exact rfl)) (by decide) ?_
    refine alP (some 41) rfl rfl (does_bin (v := .int .i64 (IntKind.i64.wrap (a2 + v11_1))) (by conv => lhs; whnf) (by conv => lhs; whnf) rfl) (by decide) ?_
    refine alP (some 42) rfl rfl (does_move (v := .int .i64 v10_1) (by exact rfl)) (by decide) ?_
    refine alP (some 43) rfl rfl (does_bin (v := .int .i64 (IntKind.i64.wrap ((IntKind.i64.wrap (a2 + v11_1)) - v10_1))) (by conv => lhs; whnf) (by conv => lhs; whnf) rfl) (by decide) ?_
    refine alP (some 44) rfl rfl (does_move (v := .int .i64 v10_1) (by exact rfl)) (by decide) ?_
    refine alP (some 45) rfl rfl (does_move (v := .fn 34 [.rptr [.sl 10 (List.map enc27 a4_0)]]) (by exact rfl)) (by decide) ?_
    obtain ⟨x15, hx15, h⟩ := bnd_some h
    refine alD (some 46) rfl rfl (do_callS 0 0 [] (slices_swapRangeCmpFunc_int_tree_Kids_c1_ok vs0_s_1 (IntKind.i64.wrap (a2 - v10_1)) (IntKind.i64.wrap ((IntKind.i64.wrap (a2 + v11_1)) - v10_1)) v10_1 a4_0 hx15) rfl ent63 (by conv => lhs; whnf) rfl rfl (plain_map (fun _ => rfl))) (by decide) ?_
    refine al_nil ?_
    refine hK14 _ ?_
    refine aw_regL ?_
    refine alP (some 47) rfl rfl (does_move (v := .int .i64 v11_1) (by exact rfl)) (by decide) ?_
    refine alP (some 48) rfl rfl (does_move (v := .int .i64 v10_1) (by exact rfl)) (by decide) ?_
    refine alP (some 49) rfl rfl (does_bin (v := .int .i64 (IntKind.i64.wrap (v11_1 - v10_1))) (by conv => lhs; whnf) (by conv => lhs; whnf) rfl) (by decide) ?_
    refine alP (some 11) rfl rfl (does_assign (v := .int .i64 (IntKind.i64.wrap (v11_1 - v10_1))) (by exact rfl)) (by decide) ?_
    refine al_nil ?_
    have h := leafL h hq6
    exact ⟨m1, Nat.lt_succ_self _, _, reb_lit [(0, .own 0 0), (2, .int .i64 a2), (4, .fn 34 [.rptr [.sl 10 (List.map enc27 a4_0)]]), (10, .int .i64 v10_1), (11, .int .i64 (IntKind.i64.wrap (v11_1 - v10_1)))] [(0, 0)] [((0, 0), .arr 3 1 false (List.map enc2 x15))] [(0, 1)] (envOk_cons (by conv => lhs; whnf) (by exact rfl) (envOk_cons (by conv => lhs; whnf) (by exact rfl) (envOk_cons (by conv => lhs; whnf) (by exact rfl) (envOk_cons (by conv => lhs; whnf) (by exact rfl) (envOk_cons (by conv => lhs; whnf) (by exact rfl) envOk_nil))))) (objOk_cons (by conv => lhs; whnf) (by conv => lhs; whnf) (by exact rfl) (by simp) objOk_nil) (nodup_b rfl) (nodup_b rfl) rfl rfl, x15, v10_1, (IntKind.i64.wrap (v11_1 - v10_1)), h, rfl⟩
  ·have h := ifF c9 h
   refine aw_cond_f (by decide) rfl ?_
   refine aw_exit ?_
   have h := leafR h hq6
   obtain rfl := Option.some.inj h
   have h := hk4
   exact ⟨_, reb_lit [(0, .own 0 0), (2, .int .i64 a2), (4, .fn 34 [.rptr [.sl 10 (List.map enc27 a4_0)]]), (10, .int .i64 v10_1)] [(0, 0)] [((0, 0), .arr 3 1 false (List.map enc2 vs0_s_1))] [(0, 1)] (envOk_cons (by conv => lhs; whnf) (by exact rfl) (envOk_cons (by conv => lhs; whnf) (by exact rfl) (envOk_cons (by conv => lhs; whnf) (by exact rfl) (envOk_cons (by conv => lhs; whnf) (by exact rfl) envOk_nil)))) (objOk_cons (by conv => lhs; whnf) (by conv => lhs; whnf) (by exact rfl) (by simp) objOk_nil) (nodup_b rfl) (nodup_b rfl) rfl rfl, vs0_s_1, v10_1, h, rfl⟩
 ·rintro s ⟨vs0_s_0, v10_0, h, rfl⟩
  unfold slices_rotateCmpFunc_int_tree_Kids_c1_k0 at h
  refine aw_regL ?_
  refine alP (some 50) rfl rfl (does_move (v := .own 0 0) (by exact rfl)) (by decide) ?_
  refine alP (some 51) rfl rfl (does_move (v := .int .i64 a2) (by exact rfl)) (by decide) ?_
  refine alP (some 52) rfl rfl (does_move (v := .int .i64 v10_0) (by exact rfl)) (by decide) ?_
  refine alP (some 53) rfl rfl (does_bin (v := .int .i64 (IntKind.i64.wrap (a2 - v10_0))) (by conv => lhs; whnf) (by conv => lhs; whnf) rfl) (by decide) ?_
  refine alP (some 54) rfl rfl (does_move (v := .int .i64 a2) (by exact rfl)) (by decide) ?_
  refine alP (some 55) rfl rfl (does_move (v := .int .i64 v10_0) (by exact rfl)) (by decide) ?_
  refine alP (some 56) rfl rfl (does_move (v := .fn 34 [.rptr [.sl 10 (List.map enc27 a4_0)]]) (by exact rfl)) (by decide) ?_
  obtain ⟨x16, hx16, h⟩ := bnd_some h
  refine alD (some 57) rfl rfl (do_callS 0 0 [] (slices_swapRangeCmpFunc_int_tree_Kids_c1_ok vs0_s_0 (IntKind.i64.wrap (a2 - v10_0)) a2 v10_0 a4_0 hx16) rfl ent63 (by conv => lhs; whnf) rfl rfl (plain_map (fun _ => rfl))) (by decide) ?_
  refine al_nil ?_
  obtain rfl := Option.some.inj h
  exact end_s (by conv => lhs; whnf) (by exact rfl) (.inl rfl)
def cmp_isNaN_int (a0 : Int) : Option Bool :=
 some (a0 != a0)
set_option maxRecDepth 100000 in
set_option maxHeartbeats 8000000 in
theorem cmp_isNaN_int_ok (a0 : Int) {r : Bool} (h : cmp_isNaN_int a0 = some r) : Ok Try.prog 37 [.int .i64 a0] [] [] (.bool r) [] [] := by
 unfold cmp_isNaN_int at h
 refine ok_of_code Try.func37 rfl (by show (1 : Nat) ≤ _; decide) (Nat.le_refl _) fun X => ?_
 refine aw_seq_k (fun K1 hK1 => ?_)
 refine aw_regL ?_
 refine alP (some 2) rfl rfl (does_assign (v := .bool false) (by exact rfl)) (by decide) ?_
 refine al_nil ?_
 refine hK1 _ ?_
 refine aw_seq_k (fun K2 hK2 => ?_)
 refine aw_regL ?_
 refine alP (some 3) rfl rfl (does_move (v := .int .i64 a0) (by exact rfl)) (by decide) ?_
 refine alP (some 4) rfl rfl (does_move (v := .int .i64 a0) (by exact rfl)) (by decide) ?_
 refine alP (some 5) rfl rfl (does_bin (v := .bool (a0 != a0)) (by conv => lhs; whnf) (by conv => lhs; whnf) rfl) (by decide) ?_
 refine alP (some 2) rfl rfl (does_assign (v := .bool (a0 != a0)) (by exact rfl)) (by decide) ?_
 refine al_nil ?_
 refine hK2 _ ?_
 refine aw_ret ?_
 obtain rfl := Option.some.inj h
 exact ret_ok1 (by conv => lhs; whnf) (by conv => lhs; whnf) (by exact rfl) (.inr rfl) rfl
def cmp_Compare_int (a0 : Int) (a1 : Int) : Option Int :=
 Option.bind (cmp_isNaN_int a0) (fun (x3 : Bool) => Option.bind (cmp_isNaN_int a1) (fun (x5 : Bool) => if x3 = true then (if x5 = true then (some 0) else (some (-1))) else (if x5 = true then (some 1) else (if (decide (a0 < a1)) = true then (some (-1)) else (if (decide (a1 < a0)) = true then (some 1) else (some 0))))))
set_option maxRecDepth 100000 in
set_option maxHeartbeats 8000000 in
theorem cmp_Compare_int_ok (a0 : Int) (a1 : Int) {r : Int} (h : cmp_Compare_int a0 a1 = some r) : Ok Try.prog 26 [.int .i64 a0, .int .i64 a1] [] [] (.int .i64 r) [] [] := by
 unfold cmp_Compare_int at h
 refine ok_of_code Try.func26 rfl (by show (2 : Nat) ≤ _; decide) (Nat.le_refl _) fun X => ?_
 refine aw_seq_k (fun K1 hK1 => ?_)
 refine aw_regL ?_
 refine alP (some 4) rfl rfl (does_assign (v := .int .i64 0) (by exact rfl)) (by decide) ?_
 refine al_nil ?_
 refine hK1 _ ?_
 refine aw_seq_k (fun K2 hK2 => ?_)
 refine aw_regL ?_
 refine alP (some 7) rfl rfl (does_move (v := .int .i64 a0) (by exact rfl)) (by decide) ?_
 obtain ⟨x3, hx3, h⟩ := bnd_some h
 refine alD (some 8) rfl rfl (do_call0 8 false (cmp_isNaN_int_ok a0 hx3) rfl ent37 rfl rfl) (by decide) ?_
 refine alP (some 5) rfl rfl (does_assign (v := .bool x3) (by exact rfl)) (by decide) ?_
 refine al_nil ?_
 refine hK2 _ ?_
 refine aw_seq_k (fun K4 hK4 => ?_)
 refine aw_regL ?_
 refine alP (some 9) rfl rfl (does_move (v := .int .i64 a1) (by exact rfl)) (by decide) ?_
 obtain ⟨x5, hx5, h⟩ := bnd_some h
 refine alD (some 10) rfl rfl (do_call0 10 false (cmp_isNaN_int_ok a1 hx5) rfl ent37 rfl rfl) (by decide) ?_
 refine alP (some 6) rfl rfl (does_assign (v := .bool x5) (by exact rfl)) (by decide) ?_
 refine al_nil ?_
 refine hK4 _ ?_
 refine aw_seq_k (fun K6 hK6 => ?_)
 refine aw_seq_k (fun K7 hK7 => ?_)
 refine aw_regL ?_
 refine alP (some 11) rfl rfl (does_move (v := .bool x3) (by exact rfl)) (by decide) ?_
 refine al_nil ?_
 refine hK7 _ ?_
 refine aw_bool (b := x3) 11 rfl (fun c8 => ?_) (fun c8 => ?_)
 ·have h := ifT c8 h
  refine aw_cond_t (by decide) rfl ?_
  refine aw_seq_k (fun K9 hK9 => ?_)
  refine aw_seq_k (fun K10 hK10 => ?_)
  refine aw_regL ?_
  refine alP (some 12) rfl rfl (does_move (v := .bool x5) (by exact rfl)) (by decide) ?_
  refine al_nil ?_
  refine hK10 _ ?_
  refine aw_bool (b := x5) 12 rfl (fun c11 => ?_) (fun c11 => ?_)
  ·have h := ifT c11 h
   refine aw_cond_t (by decide) rfl ?_
   refine aw_seq_k (fun K12 hK12 => ?_)
   refine aw_regL ?_
   refine alP (some 4) rfl rfl (does_assign (v := .int .i64 0) (by exact rfl)) (by decide) ?_
   refine al_nil ?_
   refine hK12 _ ?_
   refine aw_ret ?_
   obtain rfl := Option.some.inj h
   exact ret_ok1 (by conv => lhs; whnf) (by conv => lhs; whnf) (by exact rfl) (.inr rfl) rfl
  ·have h := ifF c11 h
   refine aw_cond_f (by decide) rfl ?_
   refine aw_skip ?_
   refine hK9 _ ?_
   refine aw_seq_k (fun K13 hK13 => ?_)
   refine aw_regL ?_
   refine alP (some 4) rfl rfl (does_assign (v := .int .i64 (-1)) (by exact rfl)) (by decide) ?_
   refine al_nil ?_
   refine hK13 _ ?_
   refine aw_ret ?_
   obtain rfl := Option.some.inj h
   exact ret_ok1 (by conv => lhs; whnf) (by conv => lhs; whnf) (by exact rfl) (.inr rfl) rfl
 ·have h := ifF c8 h
  refine aw_cond_f (by decide) rfl ?_
  refine aw_skip ?_
  refine hK6 _ ?_
  refine aw_seq_k (fun K14 hK14 => ?_)
  refine aw_seq_k (fun K15 hK15 => ?_)
  refine aw_regL ?_
  refine alP (some 13) rfl rfl (does_move (v := .bool x5) (by exact rfl)) (by decide) ?_
  refine al_nil ?_
  refine hK15 _ ?_
  refine aw_bool (b := x5) 13 rfl (fun c16 => ?_) (fun c16 => ?_)
  ·have h := ifT c16 h
   refine aw_cond_t (by decide) rfl ?_
   refine aw_seq_k (fun K17 hK17 => ?_)
   refine aw_regL ?_
   refine alP (some 4) rfl rfl (does_assign (v := .int .i64 1) (by exact rfl)) (by decide) ?_
   refine al_nil ?_
   refine hK17 _ ?_
   refine aw_ret ?_
   obtain rfl := Option.some.inj h
   exact ret_ok1 (by conv => lhs; whnf) (by conv => lhs; whnf) (by exact rfl) (.inr rfl) rfl
  ·have h := ifF c16 h
   refine aw_cond_f (by decide) rfl ?_
   refine aw_skip ?_
   refine hK14 _ ?_
   refine aw_seq_k (fun K18 hK18 => ?_)
   refine aw_seq_k (fun K19 hK19 => ?_)
   refine aw_regL ?_
   refine alP (some 14) rfl rfl (does_move (v := .int .i64 a0) (by exact rfl)) (by decide) ?_
   refine alP (some 15) rfl rfl (does_move (v := .int .i64 a1) (by exact rfl)) (by decide) ?_
   refine alP (some 16) rfl rfl (does_bin (v := .bool (decide (a0 < a1))) (by conv => lhs; whnf) (by conv => lhs; whnf) rfl) (by decide) ?_
   refine al_nil ?_
   refine hK19 _ ?_
   refine aw_bool (b := (decide (a0 < a1))) 16 rfl (fun c20 => ?_) (fun c20 => ?_)
   ·have h := ifT c20 h
    refine aw_cond_t (by decide) rfl ?_
    refine aw_seq_k (fun K21 hK21 => ?_)
    refine aw_regL ?_
    refine alP (some 4) rfl rfl (does_assign (v := .int .i64 (-1)) (by exact rfl)) (by decide) ?_
    refine al_nil ?_
    refine hK21 _ ?_
    refine aw_ret ?_
    obtain rfl := Option.some.inj h
    exact ret_ok1 (by conv => lhs; whnf) (by conv => lhs; whnf) (by exact rfl) (.inr rfl) rfl
   ·have h := ifF c20 h
    refine aw_cond_f (by decide) rfl ?_
    refine aw_skip ?_
    refine hK18 _ ?_
    refine aw_seq_k (fun K22 hK22 => ?_)
    refine aw_seq_k (fun K23 hK23 => ?_)
    refine aw_regL ?_
    refine alP (some 17) rfl rfl (does_move (v := .int .i64 a0) (by exact rfl)) (by decide) ?_
    refine alP (some 18) rfl rfl (does_move (v := .int .i64 a1) (by exact rfl)) (by decide) ?_
    refine alP (some 19) rfl rfl (does_bin (v := .bool (decide (a1 < a0))) (by conv => lhs; whnf) (by conv => lhs; whnf) rfl) (by decide) ?_
    refine al_nil ?_
    refine hK23 _ ?_
    refine aw_bool (b := (decide (a1 < a0))) 19 rfl (fun c24 => ?_) (fun c24 => ?_)
    ·have h := ifT c24 h
     refine aw_cond_t (by decide) rfl ?_
     refine aw_seq_k (fun K25 hK25 => ?_)
     refine aw_regL ?_
     refine alP (some 4) rfl rfl (does_assign (v := .int .i64 1) (by exact rfl)) (by decide) ?_
     refine al_nil ?_
     refine hK25 _ ?_
     refine aw_ret ?_
     obtain rfl := Option.some.inj h
     exact ret_ok1 (by conv => lhs; whnf) (by conv => lhs; whnf) (by exact rfl) (.inr rfl) rfl
    ·have h := ifF c24 h
     refine aw_cond_f (by decide) rfl ?_
     refine aw_skip ?_
     refine hK22 _ ?_
     refine aw_seq_k (fun K26 hK26 => ?_)
     refine aw_regL ?_
     refine alP (some 4) rfl rfl (does_assign (v := .int .i64 0) (by exact rfl)) (by decide) ?_
     refine al_nil ?_
     refine hK26 _ ?_
     refine aw_ret ?_
     obtain rfl := Option.some.inj h
     exact ret_ok1 (by conv => lhs; whnf) (by conv => lhs; whnf) (by exact rfl) (.inr rfl) rfl
def tree_Kids_c1 (a0 : Int) (a1 : Int) (a2 : List Span) : Option Int :=
 gd (0 ≤ a0) (Option.bind (a2[(Int.toNat a0)]?) (fun (x4 : Span) => gd (0 ≤ a1) (Option.bind (a2[(Int.toNat a1)]?) (fun (x6 : Span) => Option.bind (cmp_Compare_int x4.Start x6.Start) (fun (x7 : Int) => some x7)))))
set_option maxRecDepth 100000 in
set_option maxHeartbeats 8000000 in
theorem tree_Kids_c1_ok (a0 : Int) (a1 : Int) (a2 : List Span) {r : Int} (h : tree_Kids_c1 a0 a1 a2 = some r) : Ok Try.prog 34 [.int .i64 a0, .int .i64 a1, .rptr [.sl 10 (List.map enc27 a2)]] [] [] (.int .i64 r) [] [] := by
 unfold tree_Kids_c1 at h
 refine ok_of_code Try.func34 rfl (by show (3 : Nat) ≤ _; decide) (Nat.le_refl _) fun X => ?_
 refine aw_seq_k (fun K1 hK1 => ?_)
 refine aw_regL ?_
 refine alP (some 5) rfl rfl (does_assign (v := .int .i64 0) (by exact rfl)) (by decide) ?_
 refine al_nil ?_
 refine hK1 _ ?_
 refine aw_seq_k (fun K2 hK2 => ?_)
 refine aw_regd (by kernel_rfl) (by decide +kernel) ?_
 refine aoR (some 6) rfl rfl (does_load (v := .sl 10 (List.map enc27 a2)) (by conv => lhs; whnf) (by conv => lhs; whnf) ty22 (by exact rfl)) (by decide) ?_
 refine aoP (some 7) rfl rfl (does_move (v := .int .i64 a0) (by exact rfl)) (by decide) ?_
 obtain ⟨g3, h⟩ := gd_some h
 obtain ⟨x4, hx4, h⟩ := bnd_some h
 refine aoP (some 8) rfl rfl (does_indexAddr_sl (el := .agg [.int .u64 x4.Trace.Hi, .int .u64 x4.Trace.Lo, .int .u64 x4.Id, .int .u64 x4.Parent, .str x4.Service, .str x4.Op, .int .i64 x4.Start, .int .i64 x4.Dur, .bool x4.Err, .sl 2 (List.map enc39 x4.Attrs)]) (by conv => lhs; whnf) (by conv => lhs; whnf) ty22 ty28 g3 (by exact map_get hx4)) (by decide) ?_
 refine aoP (some 9) rfl rfl (does_fieldAddr (q := .rptr [.int .i64 x4.Start, .int .i64 x4.Dur, .bool x4.Err, .sl 2 (List.map enc39 x4.Attrs)]) (by conv => lhs; whnf) ty28 rfl ty3 (by decide) (by exact rfl)) (by decide) ?_
 refine aoR (some 10) rfl rfl (does_load (v := .int .i64 x4.Start) (by conv => lhs; whnf) (by conv => lhs; whnf) ty3 (by exact rfl)) (by decide) ?_
 refine aoR (some 11) rfl rfl (does_load (v := .sl 10 (List.map enc27 a2)) (by conv => lhs; whnf) (by conv => lhs; whnf) ty22 (by exact rfl)) (by decide) ?_
 refine aoP (some 12) rfl rfl (does_move (v := .int .i64 a1) (by exact rfl)) (by decide) ?_
 obtain ⟨g5, h⟩ := gd_some h
 obtain ⟨x6, hx6, h⟩ := bnd_some h
 refine aoP (some 13) rfl rfl (does_indexAddr_sl (el := .agg [.int .u64 x6.Trace.Hi, .int .u64 x6.Trace.Lo, .int .u64 x6.Id, .int .u64 x6.Parent, .str x6.Service, .str x6.Op, .int .i64 x6.Start, .int .i64 x6.Dur, .bool x6.Err, .sl 2 (List.map enc39 x6.Attrs)]) (by conv => lhs; whnf) (by conv => lhs; whnf) ty22 ty28 g5 (by exact map_get hx6)) (by decide) ?_
 refine aoP (some 14) rfl rfl (does_fieldAddr (q := .rptr [.int .i64 x6.Start, .int .i64 x6.Dur, .bool x6.Err, .sl 2 (List.map enc39 x6.Attrs)]) (by conv => lhs; whnf) ty28 rfl ty3 (by decide) (by exact rfl)) (by decide) ?_
 refine aoR (some 15) rfl rfl (does_load (v := .int .i64 x6.Start) (by conv => lhs; whnf) (by conv => lhs; whnf) ty3 (by exact rfl)) (by decide) ?_
 obtain ⟨x7, hx7, h⟩ := bnd_some h
 refine aoD (some 16) rfl rfl (do_call0 16 false (cmp_Compare_int_ok x4.Start x6.Start hx7) rfl ent26 rfl rfl) (by decide) ?_
 refine aoP (some 5) rfl rfl (does_assign (v := .int .i64 x7) (by exact rfl)) (by decide) ?_
 refine ao_nil_d (by kernel_rfl) ?_
 refine hK2 _ ?_
 refine aw_ret ?_
 obtain rfl := Option.some.inj h
 exact ret_ok1 (by conv => lhs; whnf) (by conv => lhs; whnf) (by exact rfl) (.inr rfl) rfl
def slices_insertionSortCmpFunc_int_tree_Kids_c1_k2 (vs0_s_1 : List Int) (v9_1 : Int) : Option ((List Int × Int) ⊕ ((List Int × Int) ⊕ (List Int))) :=
 gd (0 ≤ (IntKind.i64.wrap (v9_1 - 1))) (Option.bind (vs0_s_1[(Int.toNat (IntKind.i64.wrap (v9_1 - 1)))]?) (fun (x23 : Int) => gd (0 ≤ v9_1) (Option.bind (vs0_s_1[(Int.toNat v9_1)]?) (fun (x25 : Int) => gd (0 ≤ v9_1) (Option.bind (vs0_s_1[(Int.toNat v9_1)]?) (fun (x27 : Int) => gd (0 ≤ (IntKind.i64.wrap (v9_1 - 1))) (Option.bind ((List.set vs0_s_1 (Int.toNat v9_1) x23)[(Int.toNat (IntKind.i64.wrap (v9_1 - 1)))]?) (fun (x29 : Int) => some (Sum.inl ((List.set (List.set vs0_s_1 (Int.toNat v9_1) x23) (Int.toNat (IntKind.i64.wrap (v9_1 - 1))) x25), (IntKind.i64.wrap (v9_1 - 1))))))))))))
def slices_insertionSortCmpFunc_int_tree_Kids_c1_l1 (a1 : Int) (a3_0 : List Span) (v8_0 : Int) (vs0_s_1 : List Int) (v9_1 : Int) : Option ((List Int × Int) ⊕ ((List Int × Int) ⊕ (List Int))) :=
 Option.bind (if (decide (a1 < v9_1)) = true then (gd (0 ≤ v9_1) (Option.bind (vs0_s_1[(Int.toNat v9_1)]?) (fun (x16 : Int) => gd (0 ≤ (IntKind.i64.wrap (v9_1 - 1))) (Option.bind (vs0_s_1[(Int.toNat (IntKind.i64.wrap (v9_1 - 1)))]?) (fun (x18 : Int) => Option.bind (tree_Kids_c1 x16 x18 a3_0) (fun (x19 : Int) => if (decide (x19 < 0)) = true then (some (Sum.inl ())) else (some (Sum.inr (Sum.inr (Sum.inl (vs0_s_1, (IntKind.i64.wrap (v8_0 + 1))))))))))))) else (some (Sum.inr (Sum.inr (Sum.inl (vs0_s_1, (IntKind.i64.wrap (v8_0 + 1)))))))) (Sum.elim (fun (s : Unit) => slices_insertionSortCmpFunc_int_tree_Kids_c1_k2 vs0_s_1 v9_1) some)
def slices_insertionSortCmpFunc_int_tree_Kids_c1_l0 (a1 : Int) (a2 : Int) (a3_0 : List Span) (vs0_s_0 : List Int) (v8_0 : Int) : Option ((List Int × Int) ⊕ (List Int)) :=
 if (decide (v8_0 < a2)) = true then (loopN (fun (s : List Int × Int) => slices_insertionSortCmpFunc_int_tree_Kids_c1_l1 a1 a3_0 v8_0 s.1 s.2) Fu (vs0_s_0, v8_0)) else (some (Sum.inr vs0_s_0))
def slices_insertionSortCmpFunc_int_tree_Kids_c1 (a0 : List Int) (a1 : Int) (a2 : Int) (a3_0 : List Span) : Option (List Int) :=
 loopN (fun (s : List Int × Int) => slices_insertionSortCmpFunc_int_tree_Kids_c1_l0 a1 a2 a3_0 s.1 s.2) Fu (a0, (IntKind.i64.wrap (a1 + 1)))
set_option maxRecDepth 100000 in
set_option maxHeartbeats 8000000 in
theorem slices_insertionSortCmpFunc_int_tree_Kids_c1_ok (a0 : List Int) (a1 : Int) (a2 : Int) (a3_0 : List Span) {r : List Int} (h : slices_insertionSortCmpFunc_int_tree_Kids_c1 a0 a1 a2 a3_0 = some r) : OkS Try.prog 44 [.own 1 0, .int .i64 a1, .int .i64 a2, .fn 34 [.rptr [.sl 10 (List.map enc27 a3_0)]]] (3, 1, List.map enc2 a0) (3, 1, List.map enc2 r) := by
 unfold slices_insertionSortCmpFunc_int_tree_Kids_c1 at h
 refine okS_of_code Try.func44 rfl (by show (4 : Nat) ≤ _; decide) rfl rfl rfl fun X => ?_
 refine aw_seq_k (fun K1 hK1 => ?_)
 refine aw_regL ?_
 refine alP (some 10) rfl rfl (does_move (v := .int .i64 a1) (by exact rfl)) (by decide) ?_
 refine alP (some 11) rfl rfl (does_bin (v := .int .i64 (IntKind.i64.wrap (a1 + 1))) (by conv => lhs; whnf) (by conv => lhs; whnf) rfl) (by decide) ?_
 refine alP (some 8) rfl rfl (does_assign (v := .int .i64 (IntKind.i64.wrap (a1 + 1))) (by exact rfl)) (by decide) ?_
 refine al_nil ?_
 refine hK1 _ ?_
 refine aw_block ?_
 refine aw_loop' (fun m s => ∃ (vs0_s_0 : List Int), ∃ (v8_0 : Int), loopN (fun (s : List Int × Int) => slices_insertionSortCmpFunc_int_tree_Kids_c1_l0 a1 a2 a3_0 s.1 s.2) m (vs0_s_0, v8_0) = some r ∧ s = lit [(0, .own 0 0), (1, .int .i64 a1), (2, .int .i64 a2), (3, .fn 34 [.rptr [.sl 10 (List.map enc27 a3_0)]]), (8, .int .i64 v8_0)] [((0, 0), .arr 3 1 false (List.map enc2 vs0_s_0))] [(0, 1)] X) Fu
  ⟨_, reb_lit [(0, .own 0 0), (1, .int .i64 a1), (2, .int .i64 a2), (3, .fn 34 [.rptr [.sl 10 (List.map enc27 a3_0)]]), (8, .int .i64 (IntKind.i64.wrap (a1 + 1)))] [(0, 0)] [((0, 0), .arr 3 1 false (List.map enc2 a0))] [(0, 1)] (envOk_cons (by conv => lhs; whnf) (by exact rfl) (envOk_cons (by conv => lhs; whnf) (by exact rfl) (envOk_cons (by conv => lhs; whnf) (by exact rfl) (envOk_cons (by conv => lhs; whnf) (by exact rfl) (envOk_cons (by conv => lhs; whnf) (by exact rfl) envOk_nil))))) (objOk_cons (by conv => lhs; whnf) (by conv => lhs; whnf) (by exact rfl) (by simp) objOk_nil) (nodup_b rfl) (nodup_b rfl) rfl rfl, a0, (IntKind.i64.wrap (a1 + 1)), h, rfl⟩ ?_
 rintro m s ⟨vs0_s_0, v8_0, h, rfl⟩
 obtain ⟨m0, q2, rfl, h, hq3⟩ := loop_some h
 replace h : slices_insertionSortCmpFunc_int_tree_Kids_c1_l0 a1 a2 a3_0 vs0_s_0 v8_0 = some q2 := h
 unfold slices_insertionSortCmpFunc_int_tree_Kids_c1_l0 at h
 refine aw_seq_k (fun K4 hK4 => ?_)
 refine aw_seq_k (fun K5 hK5 => ?_)
 refine aw_regL ?_
 refine alP (some 12) rfl rfl (does_move (v := .int .i64 v8_0) (by exact rfl)) (by decide) ?_
 refine alP (some 13) rfl rfl (does_move (v := .int .i64 a2) (by exact rfl)) (by decide) ?_
 refine alP (some 14) rfl rfl (does_bin (v := .bool (decide (v8_0 < a2))) (by conv => lhs; whnf) (by conv => lhs; whnf) rfl) (by decide) ?_
 refine al_nil ?_
 refine hK5 _ ?_
 refine aw_bool (b := (decide (v8_0 < a2))) 14 rfl (fun c6 => ?_) (fun c6 => ?_)
 ·have h := ifT c6 h
  refine aw_cond_t (by decide) rfl ?_
  refine aw_skip ?_
  refine hK4 _ ?_
  refine aw_seq_k (fun K7 hK7 => ?_)
  refine aw_block ?_
  refine aw_seq_k (fun K8 hK8 => ?_)
  refine aw_regL ?_
  refine alP (some 17) rfl rfl (does_move (v := .int .i64 v8_0) (by exact rfl)) (by decide) ?_
  refine alP (some 9) rfl rfl (does_assign (v := .int .i64 v8_0) (by exact rfl)) (by decide) ?_
  refine al_nil ?_
  refine hK8 _ ?_
  refine aw_block ?_
  refine aw_loop' (fun m s => ∃ (vs0_s_1 : List Int), ∃ (v9_1 : Int), loopN (fun (s : List Int × Int) => slices_insertionSortCmpFunc_int_tree_Kids_c1_l1 a1 a3_0 v8_0 s.1 s.2) m (vs0_s_1, v9_1) = some q2 ∧ s = lit [(0, .own 0 0), (1, .int .i64 a1), (2, .int .i64 a2), (3, .fn 34 [.rptr [.sl 10 (List.map enc27 a3_0)]]), (8, .int .i64 v8_0), (9, .int .i64 v9_1)] [((0, 0), .arr 3 1 false (List.map enc2 vs0_s_1))] [(0, 1)] X) Fu
   ⟨_, reb_lit [(0, .own 0 0), (1, .int .i64 a1), (2, .int .i64 a2), (3, .fn 34 [.rptr [.sl 10 (List.map enc27 a3_0)]]), (8, .int .i64 v8_0), (9, .int .i64 v8_0)] [(0, 0)] [((0, 0), .arr 3 1 false (List.map enc2 vs0_s_0))] [(0, 1)] (envOk_cons (by conv => lhs; whnf) (by exact rfl) (envOk_cons (by conv => lhs; whnf) (by exact rfl) (envOk_cons (by conv => lhs; whnf) (by exact rfl) (envOk_cons (by conv => lhs; whnf) (by exact rfl) (envOk_cons (by conv => lhs; whnf) (by exact rfl) (envOk_cons (by conv => lhs; whnf) (by exact rfl) envOk_nil)))))) (objOk_cons (by conv => lhs; whnf) (by conv => lhs; whnf) (by exact rfl) (by simp) objOk_nil) (nodup_b rfl) (nodup_b rfl) rfl rfl, vs0_s_0, v8_0, h, rfl⟩ ?_
  rintro m s ⟨vs0_s_1, v9_1, h, rfl⟩
  obtain ⟨m1, q9, rfl, h, hq10⟩ := loop_some h
  replace h : slices_insertionSortCmpFunc_int_tree_Kids_c1_l1 a1 a3_0 v8_0 vs0_s_1 v9_1 = some q9 := h
  unfold slices_insertionSortCmpFunc_int_tree_Kids_c1_l1 at h
  obtain ⟨q11, h, hk12⟩ := bnd_some h
  refine aw_cut (fun s => slices_insertionSortCmpFunc_int_tree_Kids_c1_k2 vs0_s_1 v9_1 = some q9 ∧ s = lit [(0, .own 0 0), (1, .int .i64 a1), (2, .int .i64 a2), (3, .fn 34 [.rptr [.sl 10 (List.map enc27 a3_0)]]), (8, .int .i64 v8_0), (9, .int .i64 v9_1)] [((0, 0), .arr 3 1 false (List.map enc2 vs0_s_1))] [(0, 1)] X) ?_ ?_
  ·skip
   refine aw_seq_k (fun K13 hK13 => ?_)
   refine aw_regd (by kernel_rfl) (by decide +kernel) ?_
   refine aoP (some 18) rfl rfl (does_move (v := .int .i64 v9_1) (by exact rfl)) (by decide) ?_
   refine aoP (some 19) rfl rfl (does_move (v := .int .i64 a1) (by exact rfl)) (by decide) ?_
   refine aoP (some 20) rfl rfl (does_bin (v := .bool (decide (a1 < v9_1))) (by conv => lhs; whnf) (by conv => lhs; whnf) rfl) (by decide) ?_
   refine aoP (some 21) rfl rfl (does_move (v := .bool (decide (a1 < v9_1))) (by exact rfl)) (by decide) ?_
   refine ao_bool (c := (decide (a1 < v9_1))) 21 rfl (fun c14 => ?_) (fun c14 => ?_)
   ·have h := ifT c14 h
    refine aoP (some 22) rfl rfl (does_move (v := .fn 34 [.rptr [.sl 10 (List.map enc27 a3_0)]]) (by exact rfl)) (by decide) ?_
    refine aoP (some 23) rfl rfl (does_move (v := .own 0 0) (by exact rfl)) (by decide) ?_
    refine aoP (some 24) rfl rfl (does_move (v := .int .i64 v9_1) (by exact rfl)) (by decide) ?_
    obtain ⟨g15, h⟩ := gd_some h
    obtain ⟨x16, hx16, h⟩ := bnd_some h
    refine aoR (some 25) rfl rfl (does_indexAddr_own (by conv => lhs; whnf) (by conv => lhs; whnf) (by conv => lhs; whnf) ty34 ty3 g15 (by exact own_lt hx16)) (by decide) ?_
    refine aoR (some 26) rfl rfl (does_load (v := .int .i64 x16) (by conv => lhs; whnf) (cellsAt_eptr (by conv => lhs; whnf) (by exact map_get hx16)) ty3 (by exact rfl)) (by decide) ?_
    refine aoP (some 27) rfl rfl (does_move (v := .own 0 0) (by exact rfl)) (by decide) ?_
    refine aoP (some 28) rfl rfl (does_move (v := .int .i64 v9_1) (by exact rfl)) (by decide) ?_
    refine aoP (some 29) rfl rfl (does_bin (v := .int .i64 (IntKind.i64.wrap (v9_1 - 1))) (by conv => lhs; whnf) (by conv => lhs; whnf) rfl) (by decide) ?_
    obtain ⟨g17, h⟩ := gd_some h
    obtain ⟨x18, hx18, h⟩ := bnd_some h
    refine aoR (some 30) rfl rfl (does_indexAddr_own (by conv => lhs; whnf) (by conv => lhs; whnf) (by conv => lhs; whnf) ty34 ty3 g17 (by exact own_lt hx18)) (by decide) ?_
    refine aoR (some 31) rfl rfl (does_load (v := .int .i64 x18) (by conv => lhs; whnf) (cellsAt_eptr (by conv => lhs; whnf) (by exact map_get hx18)) ty3 (by exact rfl)) (by decide) ?_
    obtain ⟨x19, hx19, h⟩ := bnd_some h
    refine aoD (some 32) rfl rfl (do_call0 32 false (tree_Kids_c1_ok x16 x18 a3_0 hx19) rfl ent34 rfl rfl) (by decide) ?_
    refine aoP (some 33) rfl rfl (does_bin (v := .bool (decide (x19 < 0))) (by conv => lhs; whnf) (by conv => lhs; whnf) rfl) (by decide) ?_
    refine aoP (some 34) rfl rfl (does_pick (v := .bool (decide (x19 < 0))) (by conv => lhs; whnf) (by exact rfl)) (by decide) ?_
    refine ao_nil_d (by kernel_rfl) ?_
    refine hK13 _ ?_
    refine aw_bool (b := (decide (x19 < 0))) 34 rfl (fun c20 => ?_) (fun c20 => ?_)
    ·have h := ifT c20 h
     refine aw_cond_t (by decide) rfl ?_
     refine aw_skip ?_
     have h := leafL h hk12
     exact ⟨_, reb_lit [(0, .own 0 0), (1, .int .i64 a1), (2, .int .i64 a2), (3, .fn 34 [.rptr [.sl 10 (List.map enc27 a3_0)]]), (8, .int .i64 v8_0), (9, .int .i64 v9_1)] [(0, 0)] [((0, 0), .arr 3 1 false (List.map enc2 vs0_s_1))] [(0, 1)] (envOk_cons (by conv => lhs; whnf) (by exact rfl) (envOk_cons (by conv => lhs; whnf) (by exact rfl) (envOk_cons (by conv => lhs; whnf) (by exact rfl) (envOk_cons (by conv => lhs; whnf) (by exact rfl) (envOk_cons (by conv => lhs; whnf) (by exact rfl) (envOk_cons (by conv => lhs; whnf) (by exact rfl) envOk_nil)))))) (objOk_cons (by conv => lhs; whnf) (by conv => lhs; whnf) (by exact rfl) (by simp) objOk_nil) (nodup_b rfl) (nodup_b rfl) rfl rfl, h, rfl⟩
    ·have h := ifF c20 h
     refine aw_cond_f (by decide) rfl ?_
     refine aw_exit ?_
     have h := leafR h hk12
     have h := leafR h hq10
     refine hK7 _ ?_
     refine aw_regL ?_
     refine alP (some 15) rfl rfl (does_move (v := .int .i64 v8_0) (by exact rfl)) (by decide) ?_
     refine alP (some 16) rfl rfl (does_bin (v := .int .i64 (IntKind.i64.wrap (v8_0 + 1))) (by conv => lhs; whnf) (by conv => lhs; whnf) rfl) (by decide) ?_
     refine alP (some 8) rfl rfl (does_assign (v := .int .i64 (IntKind.i64.wrap (v8_0 + 1))) (by exact rfl)) (by decide) ?_
     refine al_nil ?_
     have h := leafL h hq3
     exact ⟨m0, Nat.lt_succ_self _, _, reb_lit [(0, .own 0 0), (1, .int .i64 a1), (2, .int .i64 a2), (3, .fn 34 [.rptr [.sl 10 (List.map enc27 a3_0)]]), (8, .int .i64 (IntKind.i64.wrap (v8_0 + 1)))] [(0, 0)] [((0, 0), .arr 3 1 false (List.map enc2 vs0_s_1))] [(0, 1)] (envOk_cons (by conv => lhs; whnf) (by exact rfl) (envOk_cons (by conv => lhs; whnf) (by exact rfl) (envOk_cons (by conv => lhs; whnf) (by exact rfl) (envOk_cons (by conv => lhs; whnf) (by exact rfl) (envOk_cons (by conv => lhs; whnf) (by exact rfl) envOk_nil))))) (objOk_cons (by conv => lhs; whnf) (by conv => lhs; whnf) (by exact rfl) (by simp) objOk_nil) (nodup_b rfl) (nodup_b rfl) rfl rfl, vs0_s_1, (IntKind.i64.wrap (v8_0 + 1)), h, rfl⟩
   ·have h := ifF c14 h
    refine aoS (some 22) rfl rfl (by decide) ?_
    refine aoS (some 23) rfl rfl (by decide) ?_
    refine aoS (some 24) rfl rfl (by decide) ?_
    refine aoS (some 25) rfl rfl (by decide) ?_
    refine aoS (some 26) rfl rfl (by decide) ?_
    refine aoS (some 27) rfl rfl (by decide) ?_
    refine aoS (some 28) rfl rfl (by decide) ?_
    refine aoS (some 29) rfl rfl (by decide) ?_
    refine aoS (some 30) rfl rfl (by decide) ?_
    refine aoS (some 31) rfl rfl (by decide) ?_
    refine aoS (some 32) rfl rfl (by decide) ?_
    refine aoS (some 33) rfl rfl (by decide) ?_
    refine aoP (some 34) rfl rfl (does_pick (v := .bool false) (by conv => lhs; whnf) (by exact rfl)) (by decide) ?_
    refine ao_nil_d (by kernel_rfl) ?_
    refine hK13 _ ?_
    refine aw_cond_f (by decide) rfl ?_
    refine aw_exit ?_
    have h := leafR h hk12
    have h := leafR h hq10
    refine hK7 _ ?_
    refine aw_regL ?_
    refine alP (some 15) rfl rfl (does_move (v := .int .i64 v8_0) (by exact rfl)) (by decide) ?_
    refine alP (some 16) rfl rfl (does_bin (v := .int .i64 (IntKind.i64.wrap (v8_0 + 1))) (by conv => lhs; whnf) (by conv => lhs; whnf) rfl) (by decide) ?_
    refine alP (some 8) rfl rfl (does_assign (v := .int .i64 (IntKind.i64.wrap (v8_0 + 1))) (by exact rfl)) (by decide) ?_
    refine al_nil ?_
    have h := leafL h hq3
    exact ⟨m0, Nat.lt_succ_self _, _, reb_lit [(0, .own 0 0), (1, .int .i64 a1), (2, .int .i64 a2), (3, .fn 34 [.rptr [.sl 10 (List.map enc27 a3_0)]]), (8, .int .i64 (IntKind.i64.wrap (v8_0 + 1)))] [(0, 0)] [((0, 0), .arr 3 1 false (List.map enc2 vs0_s_1))] [(0, 1)] (envOk_cons (by conv => lhs; whnf) (by exact rfl) (envOk_cons (by conv => lhs; whnf) (by exact rfl) (envOk_cons (by conv => lhs; whnf) (by exact rfl) (envOk_cons (by conv => lhs; whnf) (by exact rfl) (envOk_cons (by conv => lhs; whnf) (by exact rfl) envOk_nil))))) (objOk_cons (by conv => lhs; whnf) (by conv => lhs; whnf) (by exact rfl) (by simp) objOk_nil) (nodup_b rfl) (nodup_b rfl) rfl rfl, vs0_s_1, (IntKind.i64.wrap (v8_0 + 1)), h, rfl⟩
  ·rintro s ⟨h, rfl⟩
   unfold slices_insertionSortCmpFunc_int_tree_Kids_c1_k2 at h
   refine aw_seq_k (fun K21 hK21 => ?_)
   refine aw_block ?_
   refine aw_regd (by kernel_rfl) (by decide +kernel) ?_
   refine aoP (some 37) rfl rfl (does_move (v := .own 0 0) (by exact rfl)) (by decide) ?_
   refine aoP (some 38) rfl rfl (does_move (v := .int .i64 v9_1) (by exact rfl)) (by decide) ?_
   refine aoP (some 39) rfl rfl (does_move (v := .own 0 0) (by exact rfl)) (by decide) ?_
   refine aoP (some 40) rfl rfl (does_move (v := .int .i64 v9_1) (by exact rfl)) (by decide) ?_
   refine aoP (some 41) rfl rfl (does_bin (v := .int .i64 (IntKind.i64.wrap (v9_1 - 1))) (by conv => lhs; whnf) (by conv => lhs; whnf) rfl) (by decide) ?_
   refine aoP (some 42) rfl rfl (does_move (v := .own 0 0) (by exact rfl)) (by decide) ?_
   refine aoP (some 43) rfl rfl (does_move (v := .int .i64 v9_1) (by exact rfl)) (by decide) ?_
   refine aoP (some 44) rfl rfl (does_bin (v := .int .i64 (IntKind.i64.wrap (v9_1 - 1))) (by conv => lhs; whnf) (by conv => lhs; whnf) rfl) (by decide) ?_
   obtain ⟨g22, h⟩ := gd_some h
   obtain ⟨x23, hx23, h⟩ := bnd_some h
   refine aoR (some 45) rfl rfl (does_indexAddr_own (by conv => lhs; whnf) (by conv => lhs; whnf) (by conv => lhs; whnf) ty34 ty3 g22 (by exact own_lt hx23)) (by decide) ?_
   refine aoR (some 46) rfl rfl (does_load (v := .int .i64 x23) (by conv => lhs; whnf) (cellsAt_eptr (by conv => lhs; whnf) (by exact map_get hx23)) ty3 (by exact rfl)) (by decide) ?_
   refine aoP (some 47) rfl rfl (does_move (v := .own 0 0) (by exact rfl)) (by decide) ?_
   refine aoP (some 48) rfl rfl (does_move (v := .int .i64 v9_1) (by exact rfl)) (by decide) ?_
   obtain ⟨g24, h⟩ := gd_some h
   obtain ⟨x25, hx25, h⟩ := bnd_some h
   refine aoR (some 49) rfl rfl (does_indexAddr_own (by conv => lhs; whnf) (by conv => lhs; whnf) (by conv => lhs; whnf) ty34 ty3 g24 (by exact own_lt hx25)) (by decide) ?_
   refine aoR (some 50) rfl rfl (does_load (v := .int .i64 x25) (by conv => lhs; whnf) (cellsAt_eptr (by conv => lhs; whnf) (by exact map_get hx25)) ty3 (by exact rfl)) (by decide) ?_
   obtain ⟨g26, h⟩ := gd_some h
   obtain ⟨x27, hx27, h⟩ := bnd_some h
   refine aoR (some 51) rfl rfl (does_indexAddr_own (by conv => lhs; whnf) (by conv => lhs; whnf) (by conv => lhs; whnf) ty34 ty3 g26 (by exact own_lt hx27)) (by decide) ?_
   refine aoD none rfl rfl (does_storeE (old := .int .i64 x27) (el := .int .i64 x23) (xs' := List.map enc2 (List.set vs0_s_1 (Int.toNat v9_1) x23)) (by conv => lhs; whnf) (by conv => lhs; whnf) (by conv => lhs; whnf) ty3 (by rfl) (by rfl) (by exact map_get hx27) (by rfl) (by exact rfl) (by exact map_set' _ _ x23) (by rfl)) (by decide) ?_
   obtain ⟨g28, h⟩ := gd_some h
   obtain ⟨x29, hx29, h⟩ := bnd_some h
   refine aoR (some 52) rfl rfl (does_indexAddr_own (by conv => lhs; whnf) (by conv => lhs; whnf) (by conv => lhs; whnf) ty34 ty3 g28 (by exact own_lt hx29)) (by decide) ?_
   refine aoD none rfl rfl (does_storeE (old := .int .i64 x29) (el := .int .i64 x25) (xs' := List.map enc2 (List.set (List.set vs0_s_1 (Int.toNat v9_1) x23) (Int.toNat (IntKind.i64.wrap (v9_1 - 1))) x25)) (by conv => lhs; whnf) (by conv => lhs; whnf) (by conv => lhs; whnf) ty3 (by rfl) (by rfl) (by exact map_get hx29) (by rfl) (by exact rfl) (by exact map_set' _ _ x25) (by rfl)) (by decide) ?_
   refine ao_nil_d (by kernel_rfl) ?_
   refine hK21 _ ?_
   refine aw_regL ?_
   refine alP (some 35) rfl rfl (does_move (v := .int .i64 v9_1) (by exact rfl)) (by decide) ?_
   refine alP (some 36) rfl rfl (does_bin (v := .int .i64 (IntKind.i64.wrap (v9_1 - 1))) (by conv => lhs; whnf) (by conv => lhs; whnf) rfl) (by decide) ?_
   refine alP (some 9) rfl rfl (does_assign (v := .int .i64 (IntKind.i64.wrap (v9_1 - 1))) (by exact rfl)) (by decide) ?_
   refine al_nil ?_
   have h := leafL h hq10
   exact ⟨m1, Nat.lt_succ_self _, _, reb_lit [(0, .own 0 0), (1, .int .i64 a1), (2, .int .i64 a2), (3, .fn 34 [.rptr [.sl 10 (List.map enc27 a3_0)]]), (8, .int .i64 v8_0), (9, .int .i64 (IntKind.i64.wrap (v9_1 - 1)))] [(0, 0)] [((0, 0), .arr 3 1 false (List.map enc2 (List.set (List.set vs0_s_1 (Int.toNat v9_1) x23) (Int.toNat (IntKind.i64.wrap (v9_1 - 1))) x25)))] [(0, 1)] (envOk_cons (by conv => lhs; whnf) (by exact rfl) (envOk_cons (by conv => lhs; whnf) (by exact rfl) (envOk_cons (by conv => lhs; whnf) (by exact rfl) (envOk_cons (by conv => lhs; whnf) (by exact rfl) (envOk_cons (by conv => lhs; whnf) (by exact rfl) (envOk_cons (by conv => lhs; whnf) (by exact rfl) envOk_nil)))))) (objOk_cons (by conv => lhs; whnf) (by conv => lhs; whnf) (by exact rfl) (by simp) objOk_nil) (nodup_b rfl) (nodup_b rfl) rfl rfl, (List.set (List.set vs0_s_1 (Int.toNat v9_1) x23) (Int.toNat (IntKind.i64.wrap (v9_1 - 1))) x25), (IntKind.i64.wrap (v9_1 - 1)), h, rfl⟩
 ·have h := ifF c6 h
  refine aw_cond_f (by decide) rfl ?_
  refine aw_exit ?_
  have h := leafR h hq3
  obtain rfl := Option.some.inj h
  exact end_s (by conv => lhs; whnf) (by exact rfl) (.inl rfl)
end Go.Proofs.Ytmompdklolomfaa.Ab
namespace Go.Proofs.Ytmompdklolomfaa.Ab
open Go Go.RowKit
set_option linter.unusedVariables false
set_option linter.unusedSimpArgs false
theorem ty57 : tyOf Try.prog 57 = some ⟨.int .u64, 1, 8, [.int .u64 0]⟩ := by kernel_rfl
theorem ent55 : Ent Try.prog 55 := ⟨_, Try.func55, by kernel_rfl, rfl⟩
theorem ent61 : Ent Try.prog 61 := ⟨_, Try.func61, by kernel_rfl, rfl⟩
def slices_symMergeCmpFunc_int_tree_Kids_c1_b_l1 (a0 : List Int) (a1 : Int) (a4_0 : List Span) (v10_1 : Int) (v11_1 : Int) : Option ((Int × Int) ⊕ Int) :=
 if (decide (v10_1 < v11_1)) = true then (gd (0 ≤ (IntKind.i64.wrap (Int.fdiv (IntKind.u64.wrap (IntKind.i64.wrap (v10_1 + v11_1))) (2 ^ (min (Int.toNat 1) (IntKind.bits .u64)))))) (Option.bind (a0[(Int.toNat (IntKind.i64.wrap (Int.fdiv (IntKind.u64.wrap (IntKind.i64.wrap (v10_1 + v11_1))) (2 ^ (min (Int.toNat 1) (IntKind.bits .u64))))))]?) (fun (x16 : Int) => gd (0 ≤ a1) (Option.bind (a0[(Int.toNat a1)]?) (fun (x18 : Int) => Option.bind (tree_Kids_c1 x16 x18 a4_0) (fun (x19 : Int) => if (decide (x19 < 0)) = true then (some (Sum.inl ((IntKind.i64.wrap ((IntKind.i64.wrap (Int.fdiv (IntKind.u64.wrap (IntKind.i64.wrap (v10_1 + v11_1))) (2 ^ (min (Int.toNat 1) (IntKind.bits .u64))))) + 1)), v11_1))) else (some (Sum.inl (v10_1, (IntKind.i64.wrap (Int.fdiv (IntKind.u64.wrap (IntKind.i64.wrap (v10_1 + v11_1))) (2 ^ (min (Int.toNat 1) (IntKind.bits .u64)))))))))))))) else (some (Sum.inr v10_1))
def slices_symMergeCmpFunc_int_tree_Kids_c1_b_l2 (v10_0 : Int) (vs0_s_2 : List Int) (v13_2 : Int) : Option ((List Int × Int) ⊕ (List Int)) :=
 if (decide (v13_2 < (IntKind.i64.wrap (v10_0 - 1)))) = true then (gd (0 ≤ (IntKind.i64.wrap (v13_2 + 1))) (Option.bind (vs0_s_2[(Int.toNat (IntKind.i64.wrap (v13_2 + 1)))]?) (fun (x30 : Int) => gd (0 ≤ v13_2) (Option.bind (vs0_s_2[(Int.toNat v13_2)]?) (fun (x32 : Int) => gd (0 ≤ v13_2) (Option.bind (vs0_s_2[(Int.toNat v13_2)]?) (fun (x34 : Int) => gd (0 ≤ (IntKind.i64.wrap (v13_2 + 1))) (Option.bind ((List.set vs0_s_2 (Int.toNat v13_2) x30)[(Int.toNat (IntKind.i64.wrap (v13_2 + 1)))]?) (fun (x36 : Int) => some (Sum.inl ((List.set (List.set vs0_s_2 (Int.toNat v13_2) x30) (Int.toNat (IntKind.i64.wrap (v13_2 + 1))) x32), (IntKind.i64.wrap (v13_2 + 1))))))))))))) else (some (Sum.inr vs0_s_2))
def slices_symMergeCmpFunc_int_tree_Kids_c1_b_k0 (a0 : List Int) (a1 : Int) (v10_0 : Int) : Option (List Int) :=
 loopN (fun (s : List Int × Int) => slices_symMergeCmpFunc_int_tree_Kids_c1_b_l2 v10_0 s.1 s.2) Fu (a0, a1)
def slices_symMergeCmpFunc_int_tree_Kids_c1_b_l4 (a0 : List Int) (a2 : Int) (a4_0 : List Span) (v14_4 : Int) (v15_4 : Int) : Option ((Int × Int) ⊕ Int) :=
 if (decide (v14_4 < v15_4)) = true then (gd (0 ≤ a2) (Option.bind (a0[(Int.toNat a2)]?) (fun (x52 : Int) => gd (0 ≤ (IntKind.i64.wrap (Int.fdiv (IntKind.u64.wrap (IntKind.i64.wrap (v14_4 + v15_4))) (2 ^ (min (Int.toNat 1) (IntKind.bits .u64)))))) (Option.bind (a0[(Int.toNat (IntKind.i64.wrap (Int.fdiv (IntKind.u64.wrap (IntKind.i64.wrap (v14_4 + v15_4))) (2 ^ (min (Int.toNat 1) (IntKind.bits .u64))))))]?) (fun (x54 : Int) => Option.bind (tree_Kids_c1 x52 x54 a4_0) (fun (x55 : Int) => if (!(decide (x55 < 0))) = true then (some (Sum.inl ((IntKind.i64.wrap ((IntKind.i64.wrap (Int.fdiv (IntKind.u64.wrap (IntKind.i64.wrap (v14_4 + v15_4))) (2 ^ (min (Int.toNat 1) (IntKind.bits .u64))))) + 1)), v15_4))) else (some (Sum.inl (v14_4, (IntKind.i64.wrap (Int.fdiv (IntKind.u64.wrap (IntKind.i64.wrap (v14_4 + v15_4))) (2 ^ (min (Int.toNat 1) (IntKind.bits .u64)))))))))))))) else (some (Sum.inr v14_4))
def slices_symMergeCmpFunc_int_tree_Kids_c1_b_l5 (v14_3 : Int) (vs0_s_5 : List Int) (v17_5 : Int) : Option ((List Int × Int) ⊕ (List Int)) :=
 if (decide (v14_3 < v17_5)) = true then (gd (0 ≤ (IntKind.i64.wrap (v17_5 - 1))) (Option.bind (vs0_s_5[(Int.toNat (IntKind.i64.wrap (v17_5 - 1)))]?) (fun (x66 : Int) => gd (0 ≤ v17_5) (Option.bind (vs0_s_5[(Int.toNat v17_5)]?) (fun (x68 : Int) => gd (0 ≤ v17_5) (Option.bind (vs0_s_5[(Int.toNat v17_5)]?) (fun (x70 : Int) => gd (0 ≤ (IntKind.i64.wrap (v17_5 - 1))) (Option.bind ((List.set vs0_s_5 (Int.toNat v17_5) x66)[(Int.toNat (IntKind.i64.wrap (v17_5 - 1)))]?) (fun (x72 : Int) => some (Sum.inl ((List.set (List.set vs0_s_5 (Int.toNat v17_5) x66) (Int.toNat (IntKind.i64.wrap (v17_5 - 1))) x68), (IntKind.i64.wrap (v17_5 - 1))))))))))))) else (some (Sum.inr vs0_s_5))
def slices_symMergeCmpFunc_int_tree_Kids_c1_b_k3 (a0 : List Int) (a2 : Int) (v14_3 : Int) : Option (List Int) :=
 loopN (fun (s : List Int × Int) => slices_symMergeCmpFunc_int_tree_Kids_c1_b_l5 v14_3 s.1 s.2) Fu (a0, a2)
def slices_symMergeCmpFunc_int_tree_Kids_c1_b_l8 (a0 : List Int) (a1 : Int) (a2 : Int) (a3 : Int) (a4_0 : List Span) (v20_8 : Int) (v21_8 : Int) : Option ((Int × Int) ⊕ Int) :=
 if (decide (v20_8 < v21_8)) = true then (gd (0 ≤ (IntKind.i64.wrap ((IntKind.i64.wrap ((IntKind.i64.wrap ((IntKind.i64.wrap (Int.fdiv (IntKind.u64.wrap (IntKind.i64.wrap (a1 + a3))) (2 ^ (min (Int.toNat 1) (IntKind.bits .u64))))) + a2)) - 1)) - (IntKind.i64.wrap (Int.fdiv (IntKind.u64.wrap (IntKind.i64.wrap (v20_8 + v21_8))) (2 ^ (min (Int.toNat 1) (IntKind.bits .u64)))))))) (Option.bind (a0[(Int.toNat (IntKind.i64.wrap ((IntKind.i64.wrap ((IntKind.i64.wrap ((IntKind.i64.wrap (Int.fdiv (IntKind.u64.wrap (IntKind.i64.wrap (a1 + a3))) (2 ^ (min (Int.toNat 1) (IntKind.bits .u64))))) + a2)) - 1)) - (IntKind.i64.wrap (Int.fdiv (IntKind.u64.wrap (IntKind.i64.wrap (v20_8 + v21_8))) (2 ^ (min (Int.toNat 1) (IntKind.bits .u64))))))))]?) (fun (x93 : Int) => gd (0 ≤ (IntKind.i64.wrap (Int.fdiv (IntKind.u64.wrap (IntKind.i64.wrap (v20_8 + v21_8))) (2 ^ (min (Int.toNat 1) (IntKind.bits .u64)))))) (Option.bind (a0[(Int.toNat (IntKind.i64.wrap (Int.fdiv (IntKind.u64.wrap (IntKind.i64.wrap (v20_8 + v21_8))) (2 ^ (min (Int.toNat 1) (IntKind.bits .u64))))))]?) (fun (x95 : Int) => Option.bind (tree_Kids_c1 x93 x95 a4_0) (fun (x96 : Int) => if (!(decide (x96 < 0))) = true then (some (Sum.inl ((IntKind.i64.wrap ((IntKind.i64.wrap (Int.fdiv (IntKind.u64.wrap (IntKind.i64.wrap (v20_8 + v21_8))) (2 ^ (min (Int.toNat 1) (IntKind.bits .u64))))) + 1)), v21_8))) else (some (Sum.inl (v20_8, (IntKind.i64.wrap (Int.fdiv (IntKind.u64.wrap (IntKind.i64.wrap (v20_8 + v21_8))) (2 ^ (min (Int.toNat 1) (IntKind.bits .u64)))))))))))))) else (some (Sum.inr v20_8))
def slices_symMergeCmpFunc_int_tree_Kids_c1_b_k10 (a0 : List Int) (a1 : Int) (a2 : Int) (a3 : Int) (a4_0 : List Span) (v20_7 : Int) (v185_10 : Bool) : Option (List Int) :=
 if v185_10 = true then (Option.bind (slices_rotateCmpFunc_int_tree_Kids_c1 a0 v20_7 a2 (IntKind.i64.wrap ((IntKind.i64.wrap ((IntKind.i64.wrap (Int.fdiv (IntKind.u64.wrap (IntKind.i64.wrap (a1 + a3))) (2 ^ (min (Int.toNat 1) (IntKind.bits .u64))))) + a2)) - v20_7)) a4_0) (fun (x105 : List Int) => some x105)) else (some a0)
def slices_symMergeCmpFunc_int_tree_Kids_c1_b_k12 (K : List Int → Int → Int → Int → List Span → Option (List Int)) (a1 : Int) (a3 : Int) (a4_0 : List Span) (v20_7 : Int) (vs0_s_9 : List Int) (v199_12 : Bool) : Option (List Int) :=
 if v199_12 = true then (Option.bind (K vs0_s_9 a1 v20_7 (IntKind.i64.wrap (Int.fdiv (IntKind.u64.wrap (IntKind.i64.wrap (a1 + a3))) (2 ^ (min (Int.toNat 1) (IntKind.bits .u64))))) a4_0) (fun (x112 : List Int) => some x112)) else (some vs0_s_9)
def slices_symMergeCmpFunc_int_tree_Kids_c1_b_k13 (K : List Int → Int → Int → Int → List Span → Option (List Int)) (a1 : Int) (a2 : Int) (a3 : Int) (a4_0 : List Span) (v20_7 : Int) (vs0_s_11 : List Int) (v213_13 : Bool) : Option (List Int) :=
 if v213_13 = true then (Option.bind (K vs0_s_11 (IntKind.i64.wrap (Int.fdiv (IntKind.u64.wrap (IntKind.i64.wrap (a1 + a3))) (2 ^ (min (Int.toNat 1) (IntKind.bits .u64))))) (IntKind.i64.wrap ((IntKind.i64.wrap ((IntKind.i64.wrap (Int.fdiv (IntKind.u64.wrap (IntKind.i64.wrap (a1 + a3))) (2 ^ (min (Int.toNat 1) (IntKind.bits .u64))))) + a2)) - v20_7)) a3 a4_0) (fun (x117 : List Int) => some x117)) else (some vs0_s_11)
def slices_symMergeCmpFunc_int_tree_Kids_c1_b_k11 (K : List Int → Int → Int → Int → List Span → Option (List Int)) (a1 : Int) (a2 : Int) (a3 : Int) (a4_0 : List Span) (v20_7 : Int) (vs0_s_11 : List Int) : Option (List Int) :=
 Option.bind (if (decide ((IntKind.i64.wrap (Int.fdiv (IntKind.u64.wrap (IntKind.i64.wrap (a1 + a3))) (2 ^ (min (Int.toNat 1) (IntKind.bits .u64))))) < (IntKind.i64.wrap ((IntKind.i64.wrap ((IntKind.i64.wrap (Int.fdiv (IntKind.u64.wrap (IntKind.i64.wrap (a1 + a3))) (2 ^ (min (Int.toNat 1) (IntKind.bits .u64))))) + a2)) - v20_7)))) = true then (some (decide ((IntKind.i64.wrap ((IntKind.i64.wrap ((IntKind.i64.wrap (Int.fdiv (IntKind.u64.wrap (IntKind.i64.wrap (a1 + a3))) (2 ^ (min (Int.toNat 1) (IntKind.bits .u64))))) + a2)) - v20_7)) < a3))) else (some false)) (fun (s : Bool) => slices_symMergeCmpFunc_int_tree_Kids_c1_b_k13 K a1 a2 a3 a4_0 v20_7 vs0_s_11 s)
def slices_symMergeCmpFunc_int_tree_Kids_c1_b_k9 (K : List Int → Int → Int → Int → List Span → Option (List Int)) (a1 : Int) (a2 : Int) (a3 : Int) (a4_0 : List Span) (v20_7 : Int) (vs0_s_9 : List Int) : Option (List Int) :=
 Option.bind (Option.bind (if (decide (a1 < v20_7)) = true then (some (decide (v20_7 < (IntKind.i64.wrap (Int.fdiv (IntKind.u64.wrap (IntKind.i64.wrap (a1 + a3))) (2 ^ (min (Int.toNat 1) (IntKind.bits .u64)))))))) else (some false)) (fun (s : Bool) => slices_symMergeCmpFunc_int_tree_Kids_c1_b_k12 K a1 a3 a4_0 v20_7 vs0_s_9 s)) (fun (s : List Int) => slices_symMergeCmpFunc_int_tree_Kids_c1_b_k11 K a1 a2 a3 a4_0 v20_7 s)
def slices_symMergeCmpFunc_int_tree_Kids_c1_b_k7 (K : List Int → Int → Int → Int → List Span → Option (List Int)) (a0 : List Int) (a1 : Int) (a2 : Int) (a3 : Int) (a4_0 : List Span) (v20_7 : Int) : Option (List Int) :=
 Option.bind (Option.bind (if (decide (v20_7 < a2)) = true then (some (decide (a2 < (IntKind.i64.wrap ((IntKind.i64.wrap ((IntKind.i64.wrap (Int.fdiv (IntKind.u64.wrap (IntKind.i64.wrap (a1 + a3))) (2 ^ (min (Int.toNat 1) (IntKind.bits .u64))))) + a2)) - v20_7))))) else (some false)) (fun (s : Bool) => slices_symMergeCmpFunc_int_tree_Kids_c1_b_k10 a0 a1 a2 a3 a4_0 v20_7 s)) (fun (s : List Int) => slices_symMergeCmpFunc_int_tree_Kids_c1_b_k9 K a1 a2 a3 a4_0 v20_7 s)
def slices_symMergeCmpFunc_int_tree_Kids_c1_b_k6 (K : List Int → Int → Int → Int → List Span → Option (List Int)) (a0 : List Int) (a1 : Int) (a2 : Int) (a3 : Int) (a4_0 : List Span) (v20_6 : Int) (v21_6 : Int) : Option (List Int) :=
 Option.bind (loopN (fun (s : Int × Int) => slices_symMergeCmpFunc_int_tree_Kids_c1_b_l8 a0 a1 a2 a3 a4_0 s.1 s.2) Fu (v20_6, v21_6)) (fun (s : Int) => slices_symMergeCmpFunc_int_tree_Kids_c1_b_k7 K a0 a1 a2 a3 a4_0 s)
def slices_symMergeCmpFunc_int_tree_Kids_c1_b (K : List Int → Int → Int → Int → List Span → Option (List Int)) (a0 : List Int) (a1 : Int) (a2 : Int) (a3 : Int) (a4_0 : List Span) : Option (List Int) :=
 if ((IntKind.i64.wrap (a2 - a1)) == 1) = true then (Option.bind (loopN (fun (s : Int × Int) => slices_symMergeCmpFunc_int_tree_Kids_c1_b_l1 a0 a1 a4_0 s.1 s.2) Fu (a2, a3)) (fun (s : Int) => slices_symMergeCmpFunc_int_tree_Kids_c1_b_k0 a0 a1 s)) else (if ((IntKind.i64.wrap (a3 - a2)) == 1) = true then (Option.bind (loopN (fun (s : Int × Int) => slices_symMergeCmpFunc_int_tree_Kids_c1_b_l4 a0 a2 a4_0 s.1 s.2) Fu (a1, a2)) (fun (s : Int) => slices_symMergeCmpFunc_int_tree_Kids_c1_b_k3 a0 a2 s)) else (Option.bind (if (decide ((IntKind.i64.wrap (Int.fdiv (IntKind.u64.wrap (IntKind.i64.wrap (a1 + a3))) (2 ^ (min (Int.toNat 1) (IntKind.bits .u64))))) < a2)) = true then (some ((IntKind.i64.wrap ((IntKind.i64.wrap ((IntKind.i64.wrap (Int.fdiv (IntKind.u64.wrap (IntKind.i64.wrap (a1 + a3))) (2 ^ (min (Int.toNat 1) (IntKind.bits .u64))))) + a2)) - a3)), (IntKind.i64.wrap (Int.fdiv (IntKind.u64.wrap (IntKind.i64.wrap (a1 + a3))) (2 ^ (min (Int.toNat 1) (IntKind.bits .u64))))))) else (some (a1, a2))) (fun (s : Int × Int) => slices_symMergeCmpFunc_int_tree_Kids_c1_b_k6 K a0 a1 a2 a3 a4_0 s.1 s.2)))
set_option maxRecDepth 100000 in
set_option maxHeartbeats 8000000 in
theorem slices_symMergeCmpFunc_int_tree_Kids_c1_b_ok (K : List Int → Int → Int → Int → List Span → Option (List Int)) (hK : ∀ (a0 : List Int) (a1 : Int) (a2 : Int) (a3 : Int) (a4_0 : List Span) {r : List Int}, K a0 a1 a2 a3 a4_0 = some r → OkS Try.prog 55 [.own 1 0, .int .i64 a1, .int .i64 a2, .int .i64 a3, .fn 34 [.rptr [.sl 10 (List.map enc27 a4_0)]]] (3, 1, List.map enc2 a0) (3, 1, List.map enc2 r)) (a0 : List Int) (a1 : Int) (a2 : Int) (a3 : Int) (a4_0 : List Span) {r : List Int} (h : slices_symMergeCmpFunc_int_tree_Kids_c1_b K a0 a1 a2 a3 a4_0 = some r) : OkS Try.prog 55 [.own 1 0, .int .i64 a1, .int .i64 a2, .int .i64 a3, .fn 34 [.rptr [.sl 10 (List.map enc27 a4_0)]]] (3, 1, List.map enc2 a0) (3, 1, List.map enc2 r) := by
 unfold slices_symMergeCmpFunc_int_tree_Kids_c1_b at h
 refine okS_of_code Try.func55 rfl (by show (5 : Nat) ≤ _; decide) rfl rfl rfl fun X => ?_
 refine aw_seq_k (fun K1 hK1 => ?_)
 refine aw_seq_k (fun K2 hK2 => ?_)
 refine aw_regL ?_
 refine alP (some 25) rfl rfl (does_move (v := .int .i64 a2) (by exact rfl)) (by decide) ?_
 refine alP (some 26) rfl rfl (does_move (v := .int .i64 a1) (by exact rfl)) (by decide) ?_
 refine alP (some 27) rfl rfl (does_bin (v := .int .i64 (IntKind.i64.wrap (a2 - a1))) (by conv => lhs; whnf) (by conv => lhs; whnf) rfl) (by decide) ?_
 refine alP (some 28) rfl rfl (does_bin (v := .bool ((IntKind.i64.wrap (a2 - a1)) == 1)) (by conv => lhs; whnf) (by conv => lhs; whnf) rfl) (by decide) ?_
 refine al_nil ?_
 refine hK2 _ ?_
 refine aw_bool (b := ((IntKind.i64.wrap (a2 - a1)) == 1)) 28 rfl (fun c3 => ?_) (fun c3 => ?_)
 ·have h := ifT c3 h
  refine aw_cond_t (by decide) rfl ?_
  refine aw_seq_k (fun K4 hK4 => ?_)
  refine aw_regL ?_
  refine alP (some 29) rfl rfl (does_move (v := .int .i64 a2) (by exact rfl)) (by decide) ?_
  refine alP (some 10) rfl rfl (does_assign (v := .int .i64 a2) (by exact rfl)) (by decide) ?_
  refine al_nil ?_
  refine hK4 _ ?_
  refine aw_seq_k (fun K5 hK5 => ?_)
  refine aw_regL ?_
  refine alP (some 30) rfl rfl (does_move (v := .int .i64 a3) (by exact rfl)) (by decide) ?_
  refine alP (some 11) rfl rfl (does_assign (v := .int .i64 a3) (by exact rfl)) (by decide) ?_
  refine al_nil ?_
  refine hK5 _ ?_
  obtain ⟨q6, h, hk7⟩ := bnd_some h
  refine aw_cut (fun s => ∃ (v10_0 : Int), slices_symMergeCmpFunc_int_tree_Kids_c1_b_k0 a0 a1 v10_0 = some r ∧ s = lit [(0, .own 0 0), (1, .int .i64 a1), (10, .int .i64 v10_0)] [((0, 0), .arr 3 1 false (List.map enc2 a0))] [(0, 1)] X) ?_ ?_
  ·skip
   refine aw_block ?_
   refine aw_loop' (fun m s => ∃ (v10_1 : Int), ∃ (v11_1 : Int), loopN (fun (s : Int × Int) => slices_symMergeCmpFunc_int_tree_Kids_c1_b_l1 a0 a1 a4_0 s.1 s.2) m (v10_1, v11_1) = some q6 ∧ s = lit [(0, .own 0 0), (1, .int .i64 a1), (4, .fn 34 [.rptr [.sl 10 (List.map enc27 a4_0)]]), (10, .int .i64 v10_1), (11, .int .i64 v11_1)] [((0, 0), .arr 3 1 false (List.map enc2 a0))] [(0, 1)] X) Fu
    ⟨_, reb_lit [(0, .own 0 0), (1, .int .i64 a1), (4, .fn 34 [.rptr [.sl 10 (List.map enc27 a4_0)]]), (10, .int .i64 a2), (11, .int .i64 a3)] [(0, 0)] [((0, 0), .arr 3 1 false (List.map enc2 a0))] [(0, 1)] (envOk_cons (by conv => lhs; whnf) (by exact rfl) (envOk_cons (by conv => lhs; whnf) (by exact rfl) (envOk_cons (by conv => lhs; whnf) (by exact rfl) (envOk_cons (by conv => lhs; whnf) (by exact rfl) (envOk_cons (by conv => lhs; whnf) (by exact rfl) envOk_nil))))) (objOk_cons (by conv => lhs; whnf) (by conv => lhs; whnf) (by exact rfl) (by simp) objOk_nil) (nodup_b rfl) (nodup_b rfl) rfl rfl, a2, a3, h, rfl⟩ ?_
   rintro m s ⟨v10_1, v11_1, h, rfl⟩
   obtain ⟨m1, q8, rfl, h, hq9⟩ := loop_some h
   replace h : slices_symMergeCmpFunc_int_tree_Kids_c1_b_l1 a0 a1 a4_0 v10_1 v11_1 = some q8 := h
   unfold slices_symMergeCmpFunc_int_tree_Kids_c1_b_l1 at h
   refine aw_seq_k (fun K10 hK10 => ?_)
   refine aw_seq_k (fun K11 hK11 => ?_)
   refine aw_regL ?_
   refine alP (some 31) rfl rfl (does_move (v := .int .i64 v10_1) (by exact rfl)) (by decide) ?_
   refine alP (some 32) rfl rfl (does_move (v := .int .i64 v11_1) (by exact rfl)) (by decide) ?_
   refine alP (some 33) rfl rfl (does_bin (v := .bool (decide (v10_1 < v11_1))) (by conv => lhs; whnf) (by conv => lhs; whnf) rfl) (by decide) ?_
   refine al_nil ?_
   refine hK11 _ ?_
   refine aw_bool (b := (decide (v10_1 < v11_1))) 33 rfl (fun c12 => ?_) (fun c12 => ?_)
   ·have h := ifT c12 h
    refine aw_cond_t (by decide) rfl ?_
    refine aw_skip ?_
    refine hK10 _ ?_
    refine aw_block ?_
    refine aw_seq_k (fun K13 hK13 => ?_)
    refine aw_regL ?_
    refine alP (some 34) rfl rfl (does_move (v := .int .i64 v10_1) (by exact rfl)) (by decide) ?_
    refine alP (some 35) rfl rfl (does_move (v := .int .i64 v11_1) (by exact rfl)) (by decide) ?_
    refine alP (some 36) rfl rfl (does_bin (v := .int .i64 (IntKind.i64.wrap (v10_1 + v11_1))) (by conv => lhs; whnf) (by conv => lhs; whnf) rfl) (by decide) ?_
    refine alP (some 37) rfl rfl (does_conv_int (v := .int .u64 (IntKind.u64.wrap (IntKind.i64.wrap (v10_1 + v11_1)))) (by conv => lhs; whnf) (ty_some ty3) (ty_int ty57) rfl) (by decide) ?_
    refine alP (some 38) rfl rfl (does_bin (v := .int .u64 (Int.fdiv (IntKind.u64.wrap (IntKind.i64.wrap (v10_1 + v11_1))) (2 ^ (min (Int.toNat 1) (IntKind.bits .u64))))) (by conv => lhs; whnf) (by conv => lhs; whnf) rfl) (by decide) ?_
    refine alP (some 39) rfl rfl (does_conv_int (v := .int .i64 (IntKind.i64.wrap (Int.fdiv (IntKind.u64.wrap (IntKind.i64.wrap (v10_1 + v11_1))) (2 ^ (min (Int.toNat 1) (IntKind.bits .u64)))))) (by conv => lhs; whnf) (ty_some ty57) (ty_int ty3) rfl) (by decide) ?_
    refine alP (some 12) rfl rfl (does_assign (v := .int .i64 (IntKind.i64.wrap (Int.fdiv (IntKind.u64.wrap (IntKind.i64.wrap (v10_1 + v11_1))) (2 ^ (min (Int.toNat 1) (IntKind.bits .u64)))))) (by exact rfl)) (by decide) ?_
    refine al_nil ?_
    refine hK13 _ ?_
    refine aw_seq_k (fun K14 hK14 => ?_)
    refine aw_regd (by kernel_rfl) (by decide +kernel) ?_
    refine aoP (some 40) rfl rfl (does_move (v := .fn 34 [.rptr [.sl 10 (List.map enc27 a4_0)]]) (by exact rfl)) (by decide) ?_
    refine aoP (some 41) rfl rfl (does_move (v := .own 0 0) (by exact rfl)) (by decide) ?_
    refine aoP (some 42) rfl rfl (does_move (v := .int .i64 (IntKind.i64.wrap (Int.fdiv (IntKind.u64.wrap (IntKind.i64.wrap (v10_1 + v11_1))) (2 ^ (min (Int.toNat 1) (IntKind.bits .u64)))))) (by exact rfl)) (by decide) ?_
    obtain ⟨g15, h⟩ := gd_some h
    obtain ⟨x16, hx16, h⟩ := bnd_some h
    refine aoR (some 43) rfl rfl (does_indexAddr_own (by conv => lhs; whnf) (by conv => lhs; whnf) (by conv => lhs; whnf) ty34 ty3 g15 (by exact own_lt hx16)) (by decide) ?_
    refine aoR (some 44) rfl rfl (does_load (v := .int .i64 x16) (by conv => lhs; whnf) (cellsAt_eptr (by conv => lhs; whnf) (by exact map_get hx16)) ty3 (by exact rfl)) (by decide) ?_
    refine aoP (some 45) rfl rfl (does_move (v := .own 0 0) (by exact rfl)) (by decide) ?_
    refine aoP (some 46) rfl rfl (does_move (v := .int .i64 a1) (by exact rfl)) (by decide) ?_
    obtain ⟨g17, h⟩ := gd_some h
    obtain ⟨x18, hx18, h⟩ := bnd_some h
    refine aoR (some 47) rfl rfl (does_indexAddr_own (by conv => lhs; whnf) (by conv => lhs; whnf) (by conv => lhs; whnf) ty34 ty3 g17 (by exact own_lt hx18)) (by decide) ?_
    refine aoR (some 48) rfl rfl (does_load (v := .int .i64 x18) (by conv => lhs; whnf) (cellsAt_eptr (by conv => lhs; whnf) (by exact map_get hx18)) ty3 (by exact rfl)) (by decide) ?_
    obtain ⟨x19, hx19, h⟩ := bnd_some h
    refine aoD (some 49) rfl rfl (do_call0 49 false (tree_Kids_c1_ok x16 x18 a4_0 hx19) rfl ent34 rfl rfl) (by decide) ?_
    refine aoP (some 50) rfl rfl (does_bin (v := .bool (decide (x19 < 0))) (by conv => lhs; whnf) (by conv => lhs; whnf) rfl) (by decide) ?_
    refine ao_nil_d (by kernel_rfl) ?_
    refine hK14 _ ?_
    refine aw_bool (b := (decide (x19 < 0))) 50 rfl (fun c20 => ?_) (fun c20 => ?_)
    ·have h := ifT c20 h
     refine aw_cond_t (by decide) rfl ?_
     refine aw_regL ?_
     refine alP (some 51) rfl rfl (does_move (v := .int .i64 (IntKind.i64.wrap (Int.fdiv (IntKind.u64.wrap (IntKind.i64.wrap (v10_1 + v11_1))) (2 ^ (min (Int.toNat 1) (IntKind.bits .u64)))))) (by exact rfl)) (by decide) ?_
     refine alP (some 52) rfl rfl (does_bin (v := .int .i64 (IntKind.i64.wrap ((IntKind.i64.wrap (Int.fdiv (IntKind.u64.wrap (IntKind.i64.wrap (v10_1 + v11_1))) (2 ^ (min (Int.toNat 1) (IntKind.bits .u64))))) + 1))) (by conv => lhs; whnf) (by conv => lhs; whnf) rfl) (by decide) ?_
     refine alP (some 10) rfl rfl (does_assign (v := .int .i64 (IntKind.i64.wrap ((IntKind.i64.wrap (Int.fdiv (IntKind.u64.wrap (IntKind.i64.wrap (v10_1 + v11_1))) (2 ^ (min (Int.toNat 1) (IntKind.bits .u64))))) + 1))) (by exact rfl)) (by decide) ?_
     refine al_nil ?_
     have h := leafL h hq9
     exact ⟨m1, Nat.lt_succ_self _, _, reb_lit [(0, .own 0 0), (1, .int .i64 a1), (4, .fn 34 [.rptr [.sl 10 (List.map enc27 a4_0)]]), (10, .int .i64 (IntKind.i64.wrap ((IntKind.i64.wrap (Int.fdiv (IntKind.u64.wrap (IntKind.i64.wrap (v10_1 + v11_1))) (2 ^ (min (Int.toNat 1) (IntKind.bits .u64))))) + 1))), (11, .int .i64 v11_1)] [(0, 0)] [((0, 0), .arr 3 1 false (List.map enc2 a0))] [(0, 1)] (envOk_cons (by conv => lhs; whnf) (by exact rfl) (envOk_cons (by conv => lhs; whnf) (by exact rfl) (envOk_cons (by conv => lhs; whnf) (by exact rfl) (envOk_cons (by conv => lhs; whnf) (by exact rfl) (envOk_cons (by conv => lhs; whnf) (by exact rfl) envOk_nil))))) (objOk_cons (by conv => lhs; whnf) (by conv => lhs; whnf) (by exact rfl) (by simp) objOk_nil) (nodup_b rfl) (nodup_b rfl) rfl rfl, (IntKind.i64.wrap ((IntKind.i64.wrap (Int.fdiv (IntKind.u64.wrap (IntKind.i64.wrap (v10_1 + v11_1))) (2 ^ (min (Int.toNat 1) (IntKind.bits .u64))))) + 1)), v11_1, h, rfl⟩
    ·have h := ifF c20 h
     refine aw_cond_f (by decide) rfl ?_
     refine aw_regL ?_
     refine alP (some 53) rfl rfl (does_move (v := .int .i64 (IntKind.i64.wrap (Int.fdiv (IntKind.u64.wrap (IntKind.i64.wrap (v10_1 + v11_1))) (2 ^ (min (Int.toNat 1) (IntKind.bits .u64)))))) (by exact rfl)) (by decide) ?_
     refine alP (some 11) rfl rfl (does_assign (v := .int .i64 (IntKind.i64.wrap (Int.fdiv (IntKind.u64.wrap (IntKind.i64.wrap (v10_1 + v11_1))) (2 ^ (min (Int.toNat 1) (IntKind.bits .u64)))))) (by exact rfl)) (by decide) ?_
     refine al_nil ?_
     have h := leafL h hq9
     exact ⟨m1, Nat.lt_succ_self _, _, reb_lit [(0, .own 0 0), (1, .int .i64 a1), (4, .fn 34 [.rptr [.sl 10 (List.map enc27 a4_0)]]), (10, .int .i64 v10_1), (11, .int .i64 (IntKind.i64.wrap (Int.fdiv (IntKind.u64.wrap (IntKind.i64.wrap (v10_1 + v11_1))) (2 ^ (min (Int.toNat 1) (IntKind.bits .u64))))))] [(0, 0)] [((0, 0), .arr 3 1 false (List.map enc2 a0))] [(0, 1)] (envOk_cons (by conv => lhs; whnf) (by exact rfl) (envOk_cons (by conv => lhs; whnf) (by exact rfl) (envOk_cons (by conv => lhs; whnf) (by exact rfl) (envOk_cons (by conv => lhs; whnf) (by exact rfl) (envOk_cons (by conv => lhs; whnf) (by exact rfl) envOk_nil))))) (objOk_cons (by conv => lhs; whnf) (by conv => lhs; whnf) (by exact rfl) (by simp) objOk_nil) (nodup_b rfl) (nodup_b rfl) rfl rfl, v10_1, (IntKind.i64.wrap (Int.fdiv (IntKind.u64.wrap (IntKind.i64.wrap (v10_1 + v11_1))) (2 ^ (min (Int.toNat 1) (IntKind.bits .u64))))), h, rfl⟩
   ·have h := ifF c12 h
    refine aw_cond_f (by decide) rfl ?_
    refine aw_exit ?_
    have h := leafR h hq9
    obtain rfl := Option.some.inj h
    have h := hk7
    exact ⟨_, reb_lit [(0, .own 0 0), (1, .int .i64 a1), (10, .int .i64 v10_1)] [(0, 0)] [((0, 0), .arr 3 1 false (List.map enc2 a0))] [(0, 1)] (envOk_cons (by conv => lhs; whnf) (by exact rfl) (envOk_cons (by conv => lhs; whnf) (by exact rfl) (envOk_cons (by conv => lhs; whnf) (by exact rfl) envOk_nil))) (objOk_cons (by conv => lhs; whnf) (by conv => lhs; whnf) (by exact rfl) (by simp) objOk_nil) (nodup_b rfl) (nodup_b rfl) rfl rfl, v10_1, h, rfl⟩
  ·rintro s ⟨v10_0, h, rfl⟩
   unfold slices_symMergeCmpFunc_int_tree_Kids_c1_b_k0 at h
   refine aw_seq_k (fun K21 hK21 => ?_)
   refine aw_seq_k (fun K22 hK22 => ?_)
   refine aw_regL ?_
   refine alP (some 54) rfl rfl (does_move (v := .int .i64 a1) (by exact rfl)) (by decide) ?_
   refine alP (some 13) rfl rfl (does_assign (v := .int .i64 a1) (by exact rfl)) (by decide) ?_
   refine al_nil ?_
   refine hK22 _ ?_
   refine aw_block ?_
   refine aw_loop' (fun m s => ∃ (vs0_s_2 : List Int), ∃ (v13_2 : Int), loopN (fun (s : List Int × Int) => slices_symMergeCmpFunc_int_tree_Kids_c1_b_l2 v10_0 s.1 s.2) m (vs0_s_2, v13_2) = some r ∧ s = lit [(0, .own 0 0), (10, .int .i64 v10_0), (13, .int .i64 v13_2)] [((0, 0), .arr 3 1 false (List.map enc2 vs0_s_2))] [(0, 1)] X) Fu
    ⟨_, reb_lit [(0, .own 0 0), (10, .int .i64 v10_0), (13, .int .i64 a1)] [(0, 0)] [((0, 0), .arr 3 1 false (List.map enc2 a0))] [(0, 1)] (envOk_cons (by conv => lhs; whnf) (by exact rfl) (envOk_cons (by conv => lhs; whnf) (by exact rfl) (envOk_cons (by conv => lhs; whnf) (by exact rfl) envOk_nil))) (objOk_cons (by conv => lhs; whnf) (by conv => lhs; whnf) (by exact rfl) (by simp) objOk_nil) (nodup_b rfl) (nodup_b rfl) rfl rfl, a0, a1, h, rfl⟩ ?_
   rintro m s ⟨vs0_s_2, v13_2, h, rfl⟩
   obtain ⟨m2, q23, rfl, h, hq24⟩ := loop_some h
   replace h : slices_symMergeCmpFunc_int_tree_Kids_c1_b_l2 v10_0 vs0_s_2 v13_2 = some q23 := h
   unfold slices_symMergeCmpFunc_int_tree_Kids_c1_b_l2 at h
   refine aw_seq_k (fun K25 hK25 => ?_)
   refine aw_seq_k (fun K26 hK26 => ?_)
   refine aw_regL ?_
   refine alP (some 55) rfl rfl (does_move (v := .int .i64 v13_2) (by exact rfl)) (by decide) ?_
   refine alP (some 56) rfl rfl (does_move (v := .int .i64 v10_0) (by exact rfl)) (by decide) ?_
   refine alP (some 57) rfl rfl (does_bin (v := .int .i64 (IntKind.i64.wrap (v10_0 - 1))) (by conv => lhs; whnf) (by conv => lhs; whnf) rfl) (by decide) ?_
   refine alP (some 58) rfl rfl (does_bin (v := .bool (decide (v13_2 < (IntKind.i64.wrap (v10_0 - 1))))) (by conv => lhs; whnf) (by conv => lhs; whnf) rfl) (by decide) ?_
   refine al_nil ?_
   refine hK26 _ ?_
   refine aw_bool (b := (decide (v13_2 < (IntKind.i64.wrap (v10_0 - 1))))) 58 rfl (fun c27 => ?_) (fun c27 => ?_)
   ·have h := ifT c27 h
    refine aw_cond_t (by decide) rfl ?_
    refine aw_skip ?_
    refine hK25 _ ?_
    refine aw_seq_k (fun K28 hK28 => ?_)
    refine aw_block ?_
    refine aw_regd (by kernel_rfl) (by decide +kernel) ?_
    refine aoP (some 61) rfl rfl (does_move (v := .own 0 0) (by exact rfl)) (by decide) ?_
    refine aoP (some 62) rfl rfl (does_move (v := .int .i64 v13_2) (by exact rfl)) (by decide) ?_
    refine aoP (some 63) rfl rfl (does_move (v := .own 0 0) (by exact rfl)) (by decide) ?_
    refine aoP (some 64) rfl rfl (does_move (v := .int .i64 v13_2) (by exact rfl)) (by decide) ?_
    refine aoP (some 65) rfl rfl (does_bin (v := .int .i64 (IntKind.i64.wrap (v13_2 + 1))) (by conv => lhs; whnf) (by conv => lhs; whnf) rfl) (by decide) ?_
    refine aoP (some 66) rfl rfl (does_move (v := .own 0 0) (by exact rfl)) (by decide) ?_
    refine aoP (some 67) rfl rfl (does_move (v := .int .i64 v13_2) (by exact rfl)) (by decide) ?_
    refine aoP (some 68) rfl rfl (does_bin (v := .int .i64 (IntKind.i64.wrap (v13_2 + 1))) (by conv => lhs; whnf) (by conv => lhs; whnf) rfl) (by decide) ?_
    obtain ⟨g29, h⟩ := gd_some h
    obtain ⟨x30, hx30, h⟩ := bnd_some h
    refine aoR (some 69) rfl rfl (does_indexAddr_own (by conv => lhs; whnf) (by conv => lhs; whnf) (by conv => lhs; whnf) ty34 ty3 g29 (by exact own_lt hx30)) (by decide) ?_
    refine aoR (some 70) rfl rfl (does_load (v := .int .i64 x30) (by conv => lhs; whnf) (cellsAt_eptr (by conv => lhs; whnf) (by exact map_get hx30)) ty3 (by exact rfl)) (by decide) ?_
    refine aoP (some 71) rfl rfl (does_move (v := .own 0 0) (by exact rfl)) (by decide) ?_
    refine aoP (some 72) rfl rfl (does_move (v := .int .i64 v13_2) (by exact rfl)) (by decide) ?_
    obtain ⟨g31, h⟩ := gd_some h
    obtain ⟨x32, hx32, h⟩ := bnd_some h
    refine aoR (some 73) rfl rfl (does_indexAddr_own (by conv => lhs; whnf) (by conv => lhs; whnf) (by conv => lhs; whnf) ty34 ty3 g31 (by exact own_lt hx32)) (by decide) ?_
    refine aoR (some 74) rfl rfl (does_load (v := .int .i64 x32) (by conv => lhs; whnf) (cellsAt_eptr (by conv => lhs; whnf) (by exact map_get hx32)) ty3 (by exact rfl)) (by decide) ?_
    obtain ⟨g33, h⟩ := gd_some h
    obtain ⟨x34, hx34, h⟩ := bnd_some h
    refine aoR (some 75) rfl rfl (does_indexAddr_own (by conv => lhs; whnf) (by conv => lhs; whnf) (by conv => lhs; whnf) ty34 ty3 g33 (by exact own_lt hx34)) (by decide) ?_
    refine aoD none rfl rfl (does_storeE (old := .int .i64 x34) (el := .int .i64 x30) (xs' := List.map enc2 (List.set vs0_s_2 (Int.toNat v13_2) x30)) (by conv => lhs; whnf) (by conv => lhs; whnf) (by conv => lhs; whnf) ty3 (by rfl) (by rfl) (by exact map_get hx34) (by rfl) (by exact rfl) (by exact map_set' _ _ x30) (by rfl)) (by decide) ?_
    obtain ⟨g35, h⟩ := gd_some h
    obtain ⟨x36, hx36, h⟩ := bnd_some h
    refine aoR (some 76) rfl rfl (does_indexAddr_own (by conv => lhs; whnf) (by conv => lhs; whnf) (by conv => lhs; whnf) ty34 ty3 g35 (by exact own_lt hx36)) (by decide) ?_
    refine aoD none rfl rfl (does_storeE (old := .int .i64 x36) (el := .int .i64 x32) (xs' := List.map enc2 (List.set (List.set vs0_s_2 (Int.toNat v13_2) x30) (Int.toNat (IntKind.i64.wrap (v13_2 + 1))) x32)) (by conv => lhs; whnf) (by conv => lhs; whnf) (by conv => lhs; whnf) ty3 (by rfl) (by rfl) (by exact map_get hx36) (by rfl) (by exact rfl) (by exact map_set' _ _ x32) (by rfl)) (by decide) ?_
    refine ao_nil_d (by kernel_rfl) ?_
    refine hK28 _ ?_
    refine aw_regL ?_
    refine alP (some 59) rfl rfl (does_move (v := .int .i64 v13_2) (by exact rfl)) (by decide) ?_
    refine alP (some 60) rfl rfl (does_bin (v := .int .i64 (IntKind.i64.wrap (v13_2 + 1))) (by conv => lhs; whnf) (by conv => lhs; whnf) rfl) (by decide) ?_
    refine alP (some 13) rfl rfl (does_assign (v := .int .i64 (IntKind.i64.wrap (v13_2 + 1))) (by exact rfl)) (by decide) ?_
    refine al_nil ?_
    have h := leafL h hq24
    exact ⟨m2, Nat.lt_succ_self _, _, reb_lit [(0, .own 0 0), (10, .int .i64 v10_0), (13, .int .i64 (IntKind.i64.wrap (v13_2 + 1)))] [(0, 0)] [((0, 0), .arr 3 1 false (List.map enc2 (List.set (List.set vs0_s_2 (Int.toNat v13_2) x30) (Int.toNat (IntKind.i64.wrap (v13_2 + 1))) x32)))] [(0, 1)] (envOk_cons (by conv => lhs; whnf) (by exact rfl) (envOk_cons (by conv => lhs; whnf) (by exact rfl) (envOk_cons (by conv => lhs; whnf) (by exact rfl) envOk_nil))) (objOk_cons (by conv => lhs; whnf) (by conv => lhs; whnf) (by exact rfl) (by simp) objOk_nil) (nodup_b rfl) (nodup_b rfl) rfl rfl, (List.set (List.set vs0_s_2 (Int.toNat v13_2) x30) (Int.toNat (IntKind.i64.wrap (v13_2 + 1))) x32), (IntKind.i64.wrap (v13_2 + 1)), h, rfl⟩
   ·have h := ifF c27 h
    refine aw_cond_f (by decide) rfl ?_
    refine aw_exit ?_
    have h := leafR h hq24
    refine hK21 _ ?_
    refine aw_ret ?_
    obtain rfl := Option.some.inj h
    exact end_s (by conv => lhs; whnf) (by exact rfl) (.inr rfl)
 ·have h := ifF c3 h
  refine aw_cond_f (by decide) rfl ?_
  refine aw_skip ?_
  refine hK1 _ ?_
  refine aw_seq_k (fun K37 hK37 => ?_)
  refine aw_seq_k (fun K38 hK38 => ?_)
  refine aw_regL ?_
  refine alP (some 77) rfl rfl (does_move (v := .int .i64 a3) (by exact rfl)) (by decide) ?_
  refine alP (some 78) rfl rfl (does_move (v := .int .i64 a2) (by exact rfl)) (by decide) ?_
  refine alP (some 79) rfl rfl (does_bin (v := .int .i64 (IntKind.i64.wrap (a3 - a2))) (by conv => lhs; whnf) (by conv => lhs; whnf) rfl) (by decide) ?_
  refine alP (some 80) rfl rfl (does_bin (v := .bool ((IntKind.i64.wrap (a3 - a2)) == 1)) (by conv => lhs; whnf) (by conv => lhs; whnf) rfl) (by decide) ?_
  refine al_nil ?_
  refine hK38 _ ?_
  refine aw_bool (b := ((IntKind.i64.wrap (a3 - a2)) == 1)) 80 rfl (fun c39 => ?_) (fun c39 => ?_)
  ·have h := ifT c39 h
   refine aw_cond_t (by decide) rfl ?_
   refine aw_seq_k (fun K40 hK40 => ?_)
   refine aw_regL ?_
   refine alP (some 81) rfl rfl (does_move (v := .int .i64 a1) (by exact rfl)) (by decide) ?_
   refine alP (some 14) rfl rfl (does_assign (v := .int .i64 a1) (by exact rfl)) (by decide) ?_
   refine al_nil ?_
   refine hK40 _ ?_
   refine aw_seq_k (fun K41 hK41 => ?_)
   refine aw_regL ?_
   refine alP (some 82) rfl rfl (does_move (v := .int .i64 a2) (by exact rfl)) (by decide) ?_
   refine alP (some 15) rfl rfl (does_assign (v := .int .i64 a2) (by exact rfl)) (by decide) ?_
   refine al_nil ?_
   refine hK41 _ ?_
   obtain ⟨q42, h, hk43⟩ := bnd_some h
   refine aw_cut (fun s => ∃ (v14_3 : Int), slices_symMergeCmpFunc_int_tree_Kids_c1_b_k3 a0 a2 v14_3 = some r ∧ s = lit [(0, .own 0 0), (2, .int .i64 a2), (14, .int .i64 v14_3)] [((0, 0), .arr 3 1 false (List.map enc2 a0))] [(0, 1)] X) ?_ ?_
   ·skip
    refine aw_block ?_
    refine aw_loop' (fun m s => ∃ (v14_4 : Int), ∃ (v15_4 : Int), loopN (fun (s : Int × Int) => slices_symMergeCmpFunc_int_tree_Kids_c1_b_l4 a0 a2 a4_0 s.1 s.2) m (v14_4, v15_4) = some q42 ∧ s = lit [(0, .own 0 0), (2, .int .i64 a2), (4, .fn 34 [.rptr [.sl 10 (List.map enc27 a4_0)]]), (14, .int .i64 v14_4), (15, .int .i64 v15_4)] [((0, 0), .arr 3 1 false (List.map enc2 a0))] [(0, 1)] X) Fu
     ⟨_, reb_lit [(0, .own 0 0), (2, .int .i64 a2), (4, .fn 34 [.rptr [.sl 10 (List.map enc27 a4_0)]]), (14, .int .i64 a1), (15, .int .i64 a2)] [(0, 0)] [((0, 0), .arr 3 1 false (List.map enc2 a0))] [(0, 1)] (envOk_cons (by conv => lhs; whnf) (by exact rfl) (envOk_cons (by conv => lhs; whnf) (by exact rfl) (envOk_cons (by conv => lhs; whnf) (by exact rfl) (envOk_cons (by conv => lhs; whnf) (by exact rfl) (envOk_cons (by conv => lhs; whnf) (by exact rfl) envOk_nil))))) (objOk_cons (by conv => lhs; whnf) (by conv => lhs; whnf) (by exact rfl) (by simp) objOk_nil) (nodup_b rfl) (nodup_b rfl) rfl rfl, a1, a2, h, rfl⟩ ?_
    rintro m s ⟨v14_4, v15_4, h, rfl⟩
    obtain ⟨m4, q44, rfl, h, hq45⟩ := loop_some h
    replace h : slices_symMergeCmpFunc_int_tree_Kids_c1_b_l4 a0 a2 a4_0 v14_4 v15_4 = some q44 := h
    unfold slices_symMergeCmpFunc_int_tree_Kids_c1_b_l4 at h
    refine aw_seq_k (fun K46 hK46 => ?_)
    refine aw_seq_k (fun K47 hK47 => ?_)
    refine aw_regL ?_
    refine alP (some 83) rfl rfl (does_move (v := .int .i64 v14_4) (by exact rfl)) (by decide) ?_
    refine alP (some 84) rfl rfl (does_move (v := .int .i64 v15_4) (by exact rfl)) (by decide) ?_
    refine alP (some 85) rfl rfl (does_bin (v := .bool (decide (v14_4 < v15_4))) (by conv => lhs; whnf) (by conv => lhs; whnf) rfl) (by decide) ?_
    refine al_nil ?_
    refine hK47 _ ?_
    refine aw_bool (b := (decide (v14_4 < v15_4))) 85 rfl (fun c48 => ?_) (fun c48 => ?_)
    ·have h := ifT c48 h
     refine aw_cond_t (by decide) rfl ?_
     refine aw_skip ?_
     refine hK46 _ ?_
     refine aw_block ?_
     refine aw_seq_k (fun K49 hK49 => ?_)
     refine aw_regL ?_
     refine alP (some 86) rfl rfl (does_move (v := .int .i64 v14_4) (by exact rfl)) (by decide) ?_
     refine alP (some 87) rfl rfl (does_move (v := .int .i64 v15_4) (by exact rfl)) (by decide) ?_
     refine alP (some 88) rfl rfl (does_bin (v := .int .i64 (IntKind.i64.wrap (v14_4 + v15_4))) (by conv => lhs; whnf) (by conv => lhs; whnf) rfl) (by decide) ?_
     refine alP (some 89) rfl rfl (does_conv_int (v := .int .u64 (IntKind.u64.wrap (IntKind.i64.wrap (v14_4 + v15_4)))) (by conv => lhs; whnf) (ty_some ty3) (ty_int ty57) rfl) (by decide) ?_
     refine alP (some 90) rfl rfl (does_bin (v := .int .u64 (Int.fdiv (IntKind.u64.wrap (IntKind.i64.wrap (v14_4 + v15_4))) (2 ^ (min (Int.toNat 1) (IntKind.bits .u64))))) (by conv => lhs; whnf) (by conv => lhs; whnf) rfl) (by decide) ?_
     refine alP (some 91) rfl rfl (does_conv_int (v := .int .i64 (IntKind.i64.wrap (Int.fdiv (IntKind.u64.wrap (IntKind.i64.wrap (v14_4 + v15_4))) (2 ^ (min (Int.toNat 1) (IntKind.bits .u64)))))) (by conv => lhs; whnf) (ty_some ty57) (ty_int ty3) rfl) (by decide) ?_
     refine alP (some 16) rfl rfl (does_assign (v := .int .i64 (IntKind.i64.wrap (Int.fdiv (IntKind.u64.wrap (IntKind.i64.wrap (v14_4 + v15_4))) (2 ^ (min (Int.toNat 1) (IntKind.bits .u64)))))) (by exact rfl)) (by decide) ?_
     refine al_nil ?_
     refine hK49 _ ?_
     refine aw_seq_k (fun K50 hK50 => ?_)
     refine aw_regd (by kernel_rfl) (by decide +kernel) ?_
     refine aoP (some 92) rfl rfl (does_move (v := .fn 34 [.rptr [.sl 10 (List.map enc27 a4_0)]]) (by exact rfl)) (by decide) ?_
     refine aoP (some 93) rfl rfl (does_move (v := .own 0 0) (by exact rfl)) (by decide) ?_
     refine aoP (some 94) rfl rfl (does_move (v := .int .i64 a2) (by exact rfl)) (by decide) ?_
     obtain ⟨g51, h⟩ := gd_some h
     obtain ⟨x52, hx52, h⟩ := bnd_some h
     refine aoR (some 95) rfl rfl (does_indexAddr_own (by conv => lhs; whnf) (by conv => lhs; whnf) (by conv => lhs; whnf) ty34 ty3 g51 (by exact own_lt hx52)) (by decide) ?_
     refine aoR (some 96) rfl rfl (does_load (v := .int .i64 x52) (by conv => lhs; whnf) (cellsAt_eptr (by conv => lhs; whnf) (by exact map_get hx52)) ty3 (by exact rfl)) (by decide) ?_
     refine aoP (some 97) rfl rfl (does_move (v := .own 0 0) (by exact rfl)) (by decide) ?_
     refine aoP (some 98) rfl rfl (does_move (v := .int .i64 (IntKind.i64.wrap (Int.fdiv (IntKind.u64.wrap (IntKind.i64.wrap (v14_4 + v15_4))) (2 ^ (min (Int.toNat 1) (IntKind.bits .u64)))))) (by exact rfl)) (by decide) ?_
     obtain ⟨g53, h⟩ := gd_some h
     obtain ⟨x54, hx54, h⟩ := bnd_some h
     refine aoR (some 99) rfl rfl (does_indexAddr_own (by conv => lhs; whnf) (by conv => lhs; whnf) (by conv => lhs; whnf) ty34 ty3 g53 (by exact own_lt hx54)) (by decide) ?_
     refine aoR (some 100) rfl rfl (does_load (v := .int .i64 x54) (by conv => lhs; whnf) (cellsAt_eptr (by conv => lhs; whnf) (by exact map_get hx54)) ty3 (by exact rfl)) (by decide) ?_
     obtain ⟨x55, hx55, h⟩ := bnd_some h
     refine aoD (some 101) rfl rfl (do_call0 101 false (tree_Kids_c1_ok x52 x54 a4_0 hx55) rfl ent34 rfl rfl) (by decide) ?_
     refine aoP (some 102) rfl rfl (does_bin (v := .bool (decide (x55 < 0))) (by conv => lhs; whnf) (by conv => lhs; whnf) rfl) (by decide) ?_
     refine aoP (some 103) rfl rfl (does_un (v := .bool (!(decide (x55 < 0)))) (by conv => lhs; whnf) rfl) (by decide) ?_
     refine ao_nil_d (by kernel_rfl) ?_
     refine hK50 _ ?_
     refine aw_bool (b := (!(decide (x55 < 0)))) 103 rfl (fun c56 => ?_) (fun c56 => ?_)
     ·have h := ifT c56 h
      refine aw_cond_t (by decide) rfl ?_
      refine aw_regL ?_
      refine alP (some 104) rfl rfl (does_move (v := .int .i64 (IntKind.i64.wrap (Int.fdiv (IntKind.u64.wrap (IntKind.i64.wrap (v14_4 + v15_4))) (2 ^ (min (Int.toNat 1) (IntKind.bits .u64)))))) (by exact rfl)) (by decide) ?_
      refine alP (some 105) rfl rfl (does_bin (v := .int .i64 (IntKind.i64.wrap ((IntKind.i64.wrap (Int.fdiv (IntKind.u64.wrap (IntKind.i64.wrap (v14_4 + v15_4))) (2 ^ (min (Int.toNat 1) (IntKind.bits .u64))))) + 1))) (by conv => lhs; whnf) (by conv => lhs; whnf) rfl) (by decide) ?_
      refine alP (some 14) rfl rfl (does_assign (v := .int .i64 (IntKind.i64.wrap ((IntKind.i64.wrap (Int.fdiv (IntKind.u64.wrap (IntKind.i64.wrap (v14_4 + v15_4))) (2 ^ (min (Int.toNat 1) (IntKind.bits .u64))))) + 1))) (by exact rfl)) (by decide) ?_
      refine al_nil ?_
      have h := leafL h hq45
      exact ⟨m4, Nat.lt_succ_self _, _, reb_lit [(0, .own 0 0), (2, .int .i64 a2), (4, .fn 34 [.rptr [.sl 10 (List.map enc27 a4_0)]]), (14, .int .i64 (IntKind.i64.wrap ((IntKind.i64.wrap (Int.fdiv (IntKind.u64.wrap (IntKind.i64.wrap (v14_4 + v15_4))) (2 ^ (min (Int.toNat 1) (IntKind.bits .u64))))) + 1))), (15, .int .i64 v15_4)] [(0, 0)] [((0, 0), .arr 3 1 false (List.map enc2 a0))] [(0, 1)] (envOk_cons (by conv => lhs; whnf) (by exact rfl) (envOk_cons (by conv => lhs; whnf) (by exact rfl) (envOk_cons (by conv => lhs; whnf) (by exact rfl) (envOk_cons (by conv => lhs; whnf) (by exact rfl) (envOk_cons (by conv => lhs; whnf) (by exact rfl) envOk_nil))))) (objOk_cons (by conv => lhs; whnf) (by conv => lhs; whnf) (by exact rfl) (by simp) objOk_nil) (nodup_b rfl) (nodup_b rfl) rfl rfl, (IntKind.i64.wrap ((IntKind.i64.wrap (Int.fdiv (IntKind.u64.wrap (IntKind.i64.wrap (v14_4 + v15_4))) (2 ^ (min (Int.toNat 1) (IntKind.bits .u64))))) + 1)), v15_4, h, rfl⟩
     ·have h := ifF c56 h
      refine aw_cond_f (by decide) rfl ?_
      refine aw_regL ?_
      refine alP (some 106) rfl rfl (does_move (v := .int .i64 (IntKind.i64.wrap (Int.fdiv (IntKind.u64.wrap (IntKind.i64.wrap (v14_4 + v15_4))) (2 ^ (min (Int.toNat 1) (IntKind.bits .u64)))))) (by exact rfl)) (by decide) ?_
      refine alP (some 15) rfl rfl (does_assign (v := .int .i64 (IntKind.i64.wrap (Int.fdiv (IntKind.u64.wrap (IntKind.i64.wrap (v14_4 + v15_4))) (2 ^ (min (Int.toNat 1) (IntKind.bits .u64)))))) (by exact rfl)) (by decide) ?_
      refine al_nil ?_
      have h := leafL h hq45
      exact ⟨m4, Nat.lt_succ_self _, _, reb_lit [(0, .own 0 0), (2, .int .i64 a2), (4, .fn 34 [.rptr [.sl 10 (List.map enc27 a4_0)]]), (14, .int .i64 v14_4), (15, .int .i64 (IntKind.i64.wrap (Int.fdiv (IntKind.u64.wrap (IntKind.i64.wrap (v14_4 + v15_4))) (2 ^ (min (Int.toNat 1) (IntKind.bits .u64))))))] [(0, 0)] [((0, 0), .arr 3 1 false (List.map enc2 a0))] [(0, 1)] (envOk_cons (by conv => lhs; whnf) (by exact rfl) (envOk_cons (by conv => lhs; whnf) (by exact rfl) (envOk_cons (by conv => lhs; whnf) (by exact rfl) (envOk_cons (by conv => lhs; whnf) (by exact rfl) (envOk_cons (by conv => lhs; whnf) (by exact rfl) envOk_nil))))) (objOk_cons (by conv => lhs; whnf) (by conv => lhs; whnf) (by exact rfl) (by simp) objOk_nil) (nodup_b rfl) (nodup_b rfl) rfl rfl, v14_4, (IntKind.i64.wrap (Int.fdiv (IntKind.u64.wrap (IntKind.i64.wrap (v14_4 + v15_4))) (2 ^ (min (Int.toNat 1) (IntKind.bits .u64))))), h, rfl⟩
    ·have h := ifF c48 h
     refine aw_cond_f (by decide) rfl ?_
     refine aw_exit ?_
     have h := leafR h hq45
     obtain rfl := Option.some.inj h
     have h := hk43
     exact ⟨_, reb_lit [(0, .own 0 0), (2, .int .i64 a2), (14, .int .i64 v14_4)] [(0, 0)] [((0, 0), .arr 3 1 false (List.map enc2 a0))] [(0, 1)] (envOk_cons (by conv => lhs; whnf) (by exact rfl) (envOk_cons (by conv => lhs; whnf) (by exact rfl) (envOk_cons (by conv => lhs; whnf) (by exact rfl) envOk_nil))) (objOk_cons (by conv => lhs; whnf) (by conv => lhs; whnf) (by exact rfl) (by simp) objOk_nil) (nodup_b rfl) (nodup_b rfl) rfl rfl, v14_4, h, rfl⟩
   ·rintro s ⟨v14_3, h, rfl⟩
    unfold slices_symMergeCmpFunc_int_tree_Kids_c1_b_k3 at h
    refine aw_seq_k (fun K57 hK57 => ?_)
    refine aw_seq_k (fun K58 hK58 => ?_)
    refine aw_regL ?_
    refine alP (some 107) rfl rfl (does_move (v := .int .i64 a2) (by exact rfl)) (by decide) ?_
    refine alP (some 17) rfl rfl (does_assign (v := .int .i64 a2) (by exact rfl)) (by decide) ?_
    refine al_nil ?_
    refine hK58 _ ?_
    refine aw_block ?_
    refine aw_loop' (fun m s => ∃ (vs0_s_5 : List Int), ∃ (v17_5 : Int), loopN (fun (s : List Int × Int) => slices_symMergeCmpFunc_int_tree_Kids_c1_b_l5 v14_3 s.1 s.2) m (vs0_s_5, v17_5) = some r ∧ s = lit [(0, .own 0 0), (14, .int .i64 v14_3), (17, .int .i64 v17_5)] [((0, 0), .arr 3 1 false (List.map enc2 vs0_s_5))] [(0, 1)] X) Fu
     ⟨_, reb_lit [(0, .own 0 0), (14, .int .i64 v14_3), (17, .int .i64 a2)] [(0, 0)] [((0, 0), .arr 3 1 false (List.map enc2 a0))] [(0, 1)] (envOk_cons (by conv => lhs; whnf) (by exact rfl) (envOk_cons (by conv => lhs; whnf) (by exact rfl) (envOk_cons (by conv => lhs; whnf) (by exact rfl) envOk_nil))) (objOk_cons (by conv => lhs; whnf) (by conv => lhs; whnf) (by exact rfl) (by simp) objOk_nil) (nodup_b rfl) (nodup_b rfl) rfl rfl, a0, a2, h, rfl⟩ ?_
    rintro m s ⟨vs0_s_5, v17_5, h, rfl⟩
    obtain ⟨m5, q59, rfl, h, hq60⟩ := loop_some h
    replace h : slices_symMergeCmpFunc_int_tree_Kids_c1_b_l5 v14_3 vs0_s_5 v17_5 = some q59 := h
    unfold slices_symMergeCmpFunc_int_tree_Kids_c1_b_l5 at h
    refine aw_seq_k (fun K61 hK61 => ?_)
    refine aw_seq_k (fun K62 hK62 => ?_)
    refine aw_regL ?_
    refine alP (some 108) rfl rfl (does_move (v := .int .i64 v17_5) (by exact rfl)) (by decide) ?_
    refine alP (some 109) rfl rfl (does_move (v := .int .i64 v14_3) (by exact rfl)) (by decide) ?_
    refine alP (some 110) rfl rfl (does_bin (v := .bool (decide (v14_3 < v17_5))) (by conv => lhs; whnf) (by conv => lhs; whnf) rfl) (by decide) ?_
    refine al_nil ?_
    refine hK62 _ ?_
    refine aw_bool (b := (decide (v14_3 < v17_5))) 110 rfl (fun c63 => ?_) (fun c63 => ?_)
    ·have h := ifT c63 h
     refine aw_cond_t (by decide) rfl ?_
     refine aw_skip ?_
     refine hK61 _ ?_
     refine aw_seq_k (fun K64 hK64 => ?_)
     refine aw_block ?_
     refine aw_regd (by kernel_rfl) (by decide +kernel) ?_
     refine aoP (some 113) rfl rfl (does_move (v := .own 0 0) (by exact rfl)) (by decide) ?_
     refine aoP (some 114) rfl rfl (does_move (v := .int .i64 v17_5) (by exact rfl)) (by decide) ?_
     refine aoP (some 115) rfl rfl (does_move (v := .own 0 0) (by exact rfl)) (by decide) ?_
     refine aoP (some 116) rfl rfl (does_move (v := .int .i64 v17_5) (by exact rfl)) (by decide) ?_
     refine aoP (some 117) rfl rfl (does_bin (v := .int .i64 (IntKind.i64.wrap (v17_5 - 1))) (by conv => lhs; whnf) (by conv => lhs; whnf) rfl) (by decide) ?_
     refine aoP (some 118) rfl rfl (does_move (v := .own 0 0) (by exact rfl)) (by decide) ?_
     refine aoP (some 119) rfl rfl (does_move (v := .int .i64 v17_5) (by exact rfl)) (by decide) ?_
     refine aoP (some 120) rfl rfl (does_bin (v := .int .i64 (IntKind.i64.wrap (v17_5 - 1))) (by conv => lhs; whnf) (by conv => lhs; whnf) rfl) (by decide) ?_
     obtain ⟨g65, h⟩ := gd_some h
     obtain ⟨x66, hx66, h⟩ := bnd_some h
     refine aoR (some 121) rfl rfl (does_indexAddr_own (by conv => lhs; whnf) (by conv => lhs; whnf) (by conv => lhs; whnf) ty34 ty3 g65 (by exact own_lt hx66)) (by decide) ?_
     refine aoR (some 122) rfl rfl (does_load (v := .int .i64 x66) (by conv => lhs; whnf) (cellsAt_eptr (by conv => lhs; whnf) (by exact map_get hx66)) ty3 (by exact rfl)) (by decide) ?_
     refine aoP (some 123) rfl rfl (does_move (v := .own 0 0) (by exact rfl)) (by decide) ?_
     refine aoP (some 124) rfl rfl (does_move (v := .int .i64 v17_5) (by exact rfl)) (by decide) ?_
     obtain ⟨g67, h⟩ := gd_some h
     obtain ⟨x68, hx68, h⟩ := bnd_some h
     refine aoR (some 125) rfl rfl (does_indexAddr_own (by conv => lhs; whnf) (by conv => lhs; whnf) (by conv => lhs; whnf) ty34 ty3 g67 (by exact own_lt hx68)) (by decide) ?_
     refine aoR (some 126) rfl rfl (does_load (v := .int .i64 x68) (by conv => lhs; whnf) (cellsAt_eptr (by conv => lhs; whnf) (by exact map_get hx68)) ty3 (by exact rfl)) (by decide) ?_
     obtain ⟨g69, h⟩ := gd_some h
     obtain ⟨x70, hx70, h⟩ := bnd_some h
     refine aoR (some 127) rfl rfl (does_indexAddr_own (by conv => lhs; whnf) (by conv => lhs; whnf) (by conv => lhs; whnf) ty34 ty3 g69 (by exact own_lt hx70)) (by decide) ?_
     refine aoD none rfl rfl (does_storeE (old := .int .i64 x70) (el := .int .i64 x66) (xs' := List.map enc2 (List.set vs0_s_5 (Int.toNat v17_5) x66)) (by conv => lhs; whnf) (by conv => lhs; whnf) (by conv => lhs; whnf) ty3 (by rfl) (by rfl) (by exact map_get hx70) (by rfl) (by exact rfl) (by exact map_set' _ _ x66) (by rfl)) (by decide) ?_
     obtain ⟨g71, h⟩ := gd_some h
     obtain ⟨x72, hx72, h⟩ := bnd_some h
     refine aoR (some 128) rfl rfl (does_indexAddr_own (by conv => lhs; whnf) (by conv => lhs; whnf) (by conv => lhs; whnf) ty34 ty3 g71 (by exact own_lt hx72)) (by decide) ?_
     refine aoD none rfl rfl (does_storeE (old := .int .i64 x72) (el := .int .i64 x68) (xs' := List.map enc2 (List.set (List.set vs0_s_5 (Int.toNat v17_5) x66) (Int.toNat (IntKind.i64.wrap (v17_5 - 1))) x68)) (by conv => lhs; whnf) (by conv => lhs; whnf) (by conv => lhs; whnf) ty3 (by rfl) (by rfl) (by exact map_get hx72) (by rfl) (by exact rfl) (by exact map_set' _ _ x68) (by rfl)) (by decide) ?_
     refine ao_nil_d (by kernel_rfl) ?_
     refine hK64 _ ?_
     refine aw_regL ?_
     refine alP (some 111) rfl rfl (does_move (v := .int .i64 v17_5) (by exact rfl)) (by decide) ?_
     refine alP (some 112) rfl rfl (does_bin (v := .int .i64 (IntKind.i64.wrap (v17_5 - 1))) (by conv => lhs; whnf) (by conv => lhs; whnf) rfl) (by decide) ?_
     refine alP (some 17) rfl rfl (does_assign (v := .int .i64 (IntKind.i64.wrap (v17_5 - 1))) (by exact rfl)) (by decide) ?_
     refine al_nil ?_
     have h := leafL h hq60
     exact ⟨m5, Nat.lt_succ_self _, _, reb_lit [(0, .own 0 0), (14, .int .i64 v14_3), (17, .int .i64 (IntKind.i64.wrap (v17_5 - 1)))] [(0, 0)] [((0, 0), .arr 3 1 false (List.map enc2 (List.set (List.set vs0_s_5 (Int.toNat v17_5) x66) (Int.toNat (IntKind.i64.wrap (v17_5 - 1))) x68)))] [(0, 1)] (envOk_cons (by conv => lhs; whnf) (by exact rfl) (envOk_cons (by conv => lhs; whnf) (by exact rfl) (envOk_cons (by conv => lhs; whnf) (by exact rfl) envOk_nil))) (objOk_cons (by conv => lhs; whnf) (by conv => lhs; whnf) (by exact rfl) (by simp) objOk_nil) (nodup_b rfl) (nodup_b rfl) rfl rfl, (List.set (List.set vs0_s_5 (Int.toNat v17_5) x66) (Int.toNat (IntKind.i64.wrap (v17_5 - 1))) x68), (IntKind.i64.wrap (v17_5 - 1)), h, rfl⟩
    ·have h := ifF c63 h
     refine aw_cond_f (by decide) rfl ?_
     refine aw_exit ?_
     have h := leafR h hq60
     refine hK57 _ ?_
     refine aw_ret ?_
     obtain rfl := Option.some.inj h
     exact end_s (by conv => lhs; whnf) (by exact rfl) (.inr rfl)
  ·have h := ifF c39 h
   refine aw_cond_f (by decide) rfl ?_
   refine aw_skip ?_
   refine hK37 _ ?_
   refine aw_seq_k (fun K73 hK73 => ?_)
   refine aw_regL ?_
   refine alP (some 129) rfl rfl (does_move (v := .int .i64 a1) (by exact rfl)) (by decide) ?_
   refine alP (some 130) rfl rfl (does_move (v := .int .i64 a3) (by exact rfl)) (by decide) ?_
   refine alP (some 131) rfl rfl (does_bin (v := .int .i64 (IntKind.i64.wrap (a1 + a3))) (by conv => lhs; whnf) (by conv => lhs; whnf) rfl) (by decide) ?_
   refine alP (some 132) rfl rfl (does_conv_int (v := .int .u64 (IntKind.u64.wrap (IntKind.i64.wrap (a1 + a3)))) (by conv => lhs; whnf) (ty_some ty3) (ty_int ty57) rfl) (by decide) ?_
   refine alP (some 133) rfl rfl (does_bin (v := .int .u64 (Int.fdiv (IntKind.u64.wrap (IntKind.i64.wrap (a1 + a3))) (2 ^ (min (Int.toNat 1) (IntKind.bits .u64))))) (by conv => lhs; whnf) (by conv => lhs; whnf) rfl) (by decide) ?_
   refine alP (some 134) rfl rfl (does_conv_int (v := .int .i64 (IntKind.i64.wrap (Int.fdiv (IntKind.u64.wrap (IntKind.i64.wrap (a1 + a3))) (2 ^ (min (Int.toNat 1) (IntKind.bits .u64)))))) (by conv => lhs; whnf) (ty_some ty57) (ty_int ty3) rfl) (by decide) ?_
   refine alP (some 18) rfl rfl (does_assign (v := .int .i64 (IntKind.i64.wrap (Int.fdiv (IntKind.u64.wrap (IntKind.i64.wrap (a1 + a3))) (2 ^ (min (Int.toNat 1) (IntKind.bits .u64)))))) (by exact rfl)) (by decide) ?_
   refine al_nil ?_
   refine hK73 _ ?_
   refine aw_seq_k (fun K74 hK74 => ?_)
   refine aw_regL ?_
   refine alP (some 135) rfl rfl (does_move (v := .int .i64 (IntKind.i64.wrap (Int.fdiv (IntKind.u64.wrap (IntKind.i64.wrap (a1 + a3))) (2 ^ (min (Int.toNat 1) (IntKind.bits .u64)))))) (by exact rfl)) (by decide) ?_
   refine alP (some 136) rfl rfl (does_move (v := .int .i64 a2) (by exact rfl)) (by decide) ?_
   refine alP (some 137) rfl rfl (does_bin (v := .int .i64 (IntKind.i64.wrap ((IntKind.i64.wrap (Int.fdiv (IntKind.u64.wrap (IntKind.i64.wrap (a1 + a3))) (2 ^ (min (Int.toNat 1) (IntKind.bits .u64))))) + a2))) (by conv => lhs; whnf) (by conv => lhs; whnf) rfl) (by decide) ?_
   refine alP (some 19) rfl rfl (does_assign (v := .int .i64 (IntKind.i64.wrap ((IntKind.i64.wrap (Int.fdiv (IntKind.u64.wrap (IntKind.i64.wrap (a1 + a3))) (2 ^ (min (Int.toNat 1) (IntKind.bits .u64))))) + a2))) (by exact rfl)) (by decide) ?_
   refine al_nil ?_
   refine hK74 _ ?_
   refine aw_seq_k (fun K75 hK75 => ?_)
   refine aw_regL ?_
   refine alP (some 20) rfl rfl (does_assign (v := .int .i64 0) (by exact rfl)) (by decide) ?_
   refine alP (some 21) rfl rfl (does_assign (v := .int .i64 0) (by exact rfl)) (by decide) ?_
   refine al_nil ?_
   refine hK75 _ ?_
   obtain ⟨q76, h, hk77⟩ := bnd_some h
   refine aw_cut (fun s => ∃ (v20_6 : Int), ∃ (v21_6 : Int), slices_symMergeCmpFunc_int_tree_Kids_c1_b_k6 K a0 a1 a2 a3 a4_0 v20_6 v21_6 = some r ∧ s = lit [(0, .own 0 0), (1, .int .i64 a1), (2, .int .i64 a2), (3, .int .i64 a3), (4, .fn 34 [.rptr [.sl 10 (List.map enc27 a4_0)]]), (18, .int .i64 (IntKind.i64.wrap (Int.fdiv (IntKind.u64.wrap (IntKind.i64.wrap (a1 + a3))) (2 ^ (min (Int.toNat 1) (IntKind.bits .u64)))))), (19, .int .i64 (IntKind.i64.wrap ((IntKind.i64.wrap (Int.fdiv (IntKind.u64.wrap (IntKind.i64.wrap (a1 + a3))) (2 ^ (min (Int.toNat 1) (IntKind.bits .u64))))) + a2))), (20, .int .i64 v20_6), (21, .int .i64 v21_6)] [((0, 0), .arr 3 1 false (List.map enc2 a0))] [(0, 1)] X) ?_ ?_
   ·skip
    refine aw_seq_k (fun K78 hK78 => ?_)
    refine aw_regL ?_
    refine alP (some 138) rfl rfl (does_move (v := .int .i64 a2) (by exact rfl)) (by decide) ?_
    refine alP (some 139) rfl rfl (does_move (v := .int .i64 (IntKind.i64.wrap (Int.fdiv (IntKind.u64.wrap (IntKind.i64.wrap (a1 + a3))) (2 ^ (min (Int.toNat 1) (IntKind.bits .u64)))))) (by exact rfl)) (by decide) ?_
    refine alP (some 140) rfl rfl (does_bin (v := .bool (decide ((IntKind.i64.wrap (Int.fdiv (IntKind.u64.wrap (IntKind.i64.wrap (a1 + a3))) (2 ^ (min (Int.toNat 1) (IntKind.bits .u64))))) < a2))) (by conv => lhs; whnf) (by conv => lhs; whnf) rfl) (by decide) ?_
    refine al_nil ?_
    refine hK78 _ ?_
    refine aw_bool (b := (decide ((IntKind.i64.wrap (Int.fdiv (IntKind.u64.wrap (IntKind.i64.wrap (a1 + a3))) (2 ^ (min (Int.toNat 1) (IntKind.bits .u64))))) < a2))) 140 rfl (fun c79 => ?_) (fun c79 => ?_)
    ·have h := ifT c79 h
     refine aw_cond_t (by decide) rfl ?_
     refine aw_seq_k (fun K80 hK80 => ?_)
     refine aw_regL ?_
     refine alP (some 141) rfl rfl (does_move (v := .int .i64 (IntKind.i64.wrap ((IntKind.i64.wrap (Int.fdiv (IntKind.u64.wrap (IntKind.i64.wrap (a1 + a3))) (2 ^ (min (Int.toNat 1) (IntKind.bits .u64))))) + a2))) (by exact rfl)) (by decide) ?_
     refine alP (some 142) rfl rfl (does_move (v := .int .i64 a3) (by exact rfl)) (by decide) ?_
     refine alP (some 143) rfl rfl (does_bin (v := .int .i64 (IntKind.i64.wrap ((IntKind.i64.wrap ((IntKind.i64.wrap (Int.fdiv (IntKind.u64.wrap (IntKind.i64.wrap (a1 + a3))) (2 ^ (min (Int.toNat 1) (IntKind.bits .u64))))) + a2)) - a3))) (by conv => lhs; whnf) (by conv => lhs; whnf) rfl) (by decide) ?_
     refine alP (some 20) rfl rfl (does_assign (v := .int .i64 (IntKind.i64.wrap ((IntKind.i64.wrap ((IntKind.i64.wrap (Int.fdiv (IntKind.u64.wrap (IntKind.i64.wrap (a1 + a3))) (2 ^ (min (Int.toNat 1) (IntKind.bits .u64))))) + a2)) - a3))) (by exact rfl)) (by decide) ?_
     refine al_nil ?_
     refine hK80 _ ?_
     refine aw_regL ?_
     refine alP (some 144) rfl rfl (does_move (v := .int .i64 (IntKind.i64.wrap (Int.fdiv (IntKind.u64.wrap (IntKind.i64.wrap (a1 + a3))) (2 ^ (min (Int.toNat 1) (IntKind.bits .u64)))))) (by exact rfl)) (by decide) ?_
     refine alP (some 21) rfl rfl (does_assign (v := .int .i64 (IntKind.i64.wrap (Int.fdiv (IntKind.u64.wrap (IntKind.i64.wrap (a1 + a3))) (2 ^ (min (Int.toNat 1) (IntKind.bits .u64)))))) (by exact rfl)) (by decide) ?_
     refine al_nil ?_
     obtain rfl := Option.some.inj h
     have h := hk77
     exact ⟨_, reb_lit [(0, .own 0 0), (1, .int .i64 a1), (2, .int .i64 a2), (3, .int .i64 a3), (4, .fn 34 [.rptr [.sl 10 (List.map enc27 a4_0)]]), (18, .int .i64 (IntKind.i64.wrap (Int.fdiv (IntKind.u64.wrap (IntKind.i64.wrap (a1 + a3))) (2 ^ (min (Int.toNat 1) (IntKind.bits .u64)))))), (19, .int .i64 (IntKind.i64.wrap ((IntKind.i64.wrap (Int.fdiv (IntKind.u64.wrap (IntKind.i64.wrap (a1 + a3))) (2 ^ (min (Int.toNat 1) (IntKind.bits .u64))))) + a2))), (20, .int .i64 (IntKind.i64.wrap ((IntKind.i64.wrap ((IntKind.i64.wrap (Int.fdiv (IntKind.u64.wrap (IntKind.i64.wrap (a1 + a3))) (2 ^ (min (Int.toNat 1) (IntKind.bits .u64))))) + a2)) - a3))), (21, .int .i64 (IntKind.i64.wrap (Int.fdiv (IntKind.u64.wrap (IntKind.i64.wrap (a1 + a3))) (2 ^ (min (Int.toNat 1) (IntKind.bits .u64))))))] [(0, 0)] [((0, 0), .arr 3 1 false (List.map enc2 a0))] [(0, 1)] (envOk_cons (by conv => lhs; whnf) (by exact rfl) (envOk_cons (by conv => lhs; whnf) (by exact rfl) (envOk_cons (by conv => lhs; whnf) (by exact rfl) (envOk_cons (by conv => lhs; whnf) (by exact rfl) (envOk_cons (by conv => lhs; whnf) (by exact rfl) (envOk_cons (by conv => lhs; whnf) (by exact rfl) (envOk_cons (by conv => lhs; whnf) (by exact rfl) (envOk_cons (by conv => lhs; whnf) (by exact rfl) (envOk_cons (by conv => lhs; whnf) (by exact rfl) envOk_nil))))))))) (objOk_cons (by conv => lhs; whnf) (by conv => lhs; whnf) (by exact rfl) (by simp) objOk_nil) (nodup_b rfl) (nodup_b rfl) rfl rfl, (IntKind.i64.wrap ((IntKind.i64.wrap ((IntKind.i64.wrap (Int.fdiv (IntKind.u64.wrap (IntKind.i64.wrap (a1 + a3))) (2 ^ (min (Int.toNat 1) (IntKind.bits .u64))))) + a2)) - a3)), (IntKind.i64.wrap (Int.fdiv (IntKind.u64.wrap (IntKind.i64.wrap (a1 + a3))) (2 ^ (min (Int.toNat 1) (IntKind.bits .u64))))), h, rfl⟩
    ·have h := ifF c79 h
     refine aw_cond_f (by decide) rfl ?_
     refine aw_seq_k (fun K81 hK81 => ?_)
     refine aw_regL ?_
     refine alP (some 145) rfl rfl (does_move (v := .int .i64 a1) (by exact rfl)) (by decide) ?_
     refine alP (some 20) rfl rfl (does_assign (v := .int .i64 a1) (by exact rfl)) (by decide) ?_
     refine al_nil ?_
     refine hK81 _ ?_
     refine aw_regL ?_
     refine alP (some 146) rfl rfl (does_move (v := .int .i64 a2) (by exact rfl)) (by decide) ?_
     refine alP (some 21) rfl rfl (does_assign (v := .int .i64 a2) (by exact rfl)) (by decide) ?_
     refine al_nil ?_
     obtain rfl := Option.some.inj h
     have h := hk77
     exact ⟨_, reb_lit [(0, .own 0 0), (1, .int .i64 a1), (2, .int .i64 a2), (3, .int .i64 a3), (4, .fn 34 [.rptr [.sl 10 (List.map enc27 a4_0)]]), (18, .int .i64 (IntKind.i64.wrap (Int.fdiv (IntKind.u64.wrap (IntKind.i64.wrap (a1 + a3))) (2 ^ (min (Int.toNat 1) (IntKind.bits .u64)))))), (19, .int .i64 (IntKind.i64.wrap ((IntKind.i64.wrap (Int.fdiv (IntKind.u64.wrap (IntKind.i64.wrap (a1 + a3))) (2 ^ (min (Int.toNat 1) (IntKind.bits .u64))))) + a2))), (20, .int .i64 a1), (21, .int .i64 a2)] [(0, 0)] [((0, 0), .arr 3 1 false (List.map enc2 a0))] [(0, 1)] (envOk_cons (by conv => lhs; whnf) (by exact rfl) (envOk_cons (by conv => lhs; whnf) (by exact rfl) (envOk_cons (by conv => lhs; whnf) (by exact rfl) (envOk_cons (by conv => lhs; whnf) (by exact rfl) (envOk_cons (by conv => lhs; whnf) (by exact rfl) (envOk_cons (by conv => lhs; whnf) (by exact rfl) (envOk_cons (by conv => lhs; whnf) (by exact rfl) (envOk_cons (by conv => lhs; whnf) (by exact rfl) (envOk_cons (by conv => lhs; whnf) (by exact rfl) envOk_nil))))))))) (objOk_cons (by conv => lhs; whnf) (by conv => lhs; whnf) (by exact rfl) (by simp) objOk_nil) (nodup_b rfl) (nodup_b rfl) rfl rfl, a1, a2, h, rfl⟩
   ·rintro s ⟨v20_6, v21_6, h, rfl⟩
    unfold slices_symMergeCmpFunc_int_tree_Kids_c1_b_k6 at h
    refine aw_seq_k (fun K82 hK82 => ?_)
    refine aw_regL ?_
    refine alP (some 147) rfl rfl (does_move (v := .int .i64 (IntKind.i64.wrap ((IntKind.i64.wrap (Int.fdiv (IntKind.u64.wrap (IntKind.i64.wrap (a1 + a3))) (2 ^ (min (Int.toNat 1) (IntKind.bits .u64))))) + a2))) (by exact rfl)) (by decide) ?_
    refine alP (some 148) rfl rfl (does_bin (v := .int .i64 (IntKind.i64.wrap ((IntKind.i64.wrap ((IntKind.i64.wrap (Int.fdiv (IntKind.u64.wrap (IntKind.i64.wrap (a1 + a3))) (2 ^ (min (Int.toNat 1) (IntKind.bits .u64))))) + a2)) - 1))) (by conv => lhs; whnf) (by conv => lhs; whnf) rfl) (by decide) ?_
    refine alP (some 22) rfl rfl (does_assign (v := .int .i64 (IntKind.i64.wrap ((IntKind.i64.wrap ((IntKind.i64.wrap (Int.fdiv (IntKind.u64.wrap (IntKind.i64.wrap (a1 + a3))) (2 ^ (min (Int.toNat 1) (IntKind.bits .u64))))) + a2)) - 1))) (by exact rfl)) (by decide) ?_
    refine al_nil ?_
    refine hK82 _ ?_
    obtain ⟨q83, h, hk84⟩ := bnd_some h
    refine aw_cut (fun s => ∃ (v20_7 : Int), slices_symMergeCmpFunc_int_tree_Kids_c1_b_k7 K a0 a1 a2 a3 a4_0 v20_7 = some r ∧ s = lit [(0, .own 0 0), (1, .int .i64 a1), (2, .int .i64 a2), (3, .int .i64 a3), (4, .fn 34 [.rptr [.sl 10 (List.map enc27 a4_0)]]), (18, .int .i64 (IntKind.i64.wrap (Int.fdiv (IntKind.u64.wrap (IntKind.i64.wrap (a1 + a3))) (2 ^ (min (Int.toNat 1) (IntKind.bits .u64)))))), (19, .int .i64 (IntKind.i64.wrap ((IntKind.i64.wrap (Int.fdiv (IntKind.u64.wrap (IntKind.i64.wrap (a1 + a3))) (2 ^ (min (Int.toNat 1) (IntKind.bits .u64))))) + a2))), (20, .int .i64 v20_7)] [((0, 0), .arr 3 1 false (List.map enc2 a0))] [(0, 1)] X) ?_ ?_
    ·skip
     refine aw_block ?_
     refine aw_loop' (fun m s => ∃ (v20_8 : Int), ∃ (v21_8 : Int), loopN (fun (s : Int × Int) => slices_symMergeCmpFunc_int_tree_Kids_c1_b_l8 a0 a1 a2 a3 a4_0 s.1 s.2) m (v20_8, v21_8) = some q83 ∧ s = lit [(0, .own 0 0), (1, .int .i64 a1), (2, .int .i64 a2), (3, .int .i64 a3), (4, .fn 34 [.rptr [.sl 10 (List.map enc27 a4_0)]]), (18, .int .i64 (IntKind.i64.wrap (Int.fdiv (IntKind.u64.wrap (IntKind.i64.wrap (a1 + a3))) (2 ^ (min (Int.toNat 1) (IntKind.bits .u64)))))), (19, .int .i64 (IntKind.i64.wrap ((IntKind.i64.wrap (Int.fdiv (IntKind.u64.wrap (IntKind.i64.wrap (a1 + a3))) (2 ^ (min (Int.toNat 1) (IntKind.bits .u64))))) + a2))), (20, .int .i64 v20_8), (21, .int .i64 v21_8), (22, .int .i64 (IntKind.i64.wrap ((IntKind.i64.wrap ((IntKind.i64.wrap (Int.fdiv (IntKind.u64.wrap (IntKind.i64.wrap (a1 + a3))) (2 ^ (min (Int.toNat 1) (IntKind.bits .u64))))) + a2)) - 1)))] [((0, 0), .arr 3 1 false (List.map enc2 a0))] [(0, 1)] X) Fu
      ⟨_, reb_lit [(0, .own 0 0), (1, .int .i64 a1), (2, .int .i64 a2), (3, .int .i64 a3), (4, .fn 34 [.rptr [.sl 10 (List.map enc27 a4_0)]]), (18, .int .i64 (IntKind.i64.wrap (Int.fdiv (IntKind.u64.wrap (IntKind.i64.wrap (a1 + a3))) (2 ^ (min (Int.toNat 1) (IntKind.bits .u64)))))), (19, .int .i64 (IntKind.i64.wrap ((IntKind.i64.wrap (Int.fdiv (IntKind.u64.wrap (IntKind.i64.wrap (a1 + a3))) (2 ^ (min (Int.toNat 1) (IntKind.bits .u64))))) + a2))), (20, .int .i64 v20_6), (21, .int .i64 v21_6), (22, .int .i64 (IntKind.i64.wrap ((IntKind.i64.wrap ((IntKind.i64.wrap (Int.fdiv (IntKind.u64.wrap (IntKind.i64.wrap (a1 + a3))) (2 ^ (min (Int.toNat 1) (IntKind.bits .u64))))) + a2)) - 1)))] [(0, 0)] [((0, 0), .arr 3 1 false (List.map enc2 a0))] [(0, 1)] (envOk_cons (by conv => lhs; whnf) (by exact rfl) (envOk_cons (by conv => lhs; whnf) (by exact rfl) (envOk_cons (by conv => lhs; whnf) (by exact rfl) (envOk_cons (by conv => lhs; whnf) (by exact rfl) (envOk_cons (by conv => lhs; whnf) (by exact rfl) (envOk_cons (by conv => lhs; whnf) (by exact rfl) (envOk_cons (by conv => lhs; whnf) (by exact rfl) (envOk_cons (by conv => lhs; whnf) (by exact rfl) (envOk_cons (by conv => lhs; whnf) (by exact rfl) (envOk_cons (by conv => lhs; whnf) (by exact rfl) envOk_nil)))))))))) (objOk_cons (by conv => lhs; whnf) (by conv => lhs; whnf) (by exact rfl) (by simp) objOk_nil) (nodup_b rfl) (nodup_b rfl) rfl rfl, v20_6, v21_6, h, rfl⟩ ?_
     rintro m s ⟨v20_8, v21_8, h, rfl⟩
     obtain ⟨m8, q85, rfl, h, hq86⟩ := loop_some h
     replace h : slices_symMergeCmpFunc_int_tree_Kids_c1_b_l8 a0 a1 a2 a3 a4_0 v20_8 v21_8 = some q85 := h
     unfold slices_symMergeCmpFunc_int_tree_Kids_c1_b_l8 at h
     refine aw_seq_k (fun K87 hK87 => ?_)
     refine aw_seq_k (fun K88 hK88 => ?_)
     refine aw_regL ?_
     refine alP (some 149) rfl rfl (does_move (v := .int .i64 v20_8) (by exact rfl)) (by decide) ?_
     refine alP (some 150) rfl rfl (does_move (v := .int .i64 v21_8) (by exact rfl)) (by decide) ?_
     refine alP (some 151) rfl rfl (does_bin (v := .bool (decide (v20_8 < v21_8))) (by conv => lhs; whnf) (by conv => lhs; whnf) rfl) (by decide) ?_
     refine al_nil ?_
     refine hK88 _ ?_
     refine aw_bool (b := (decide (v20_8 < v21_8))) 151 rfl (fun c89 => ?_) (fun c89 => ?_)
     ·have h := ifT c89 h
      refine aw_cond_t (by decide) rfl ?_
      refine aw_skip ?_
      refine hK87 _ ?_
      refine aw_block ?_
      refine aw_seq_k (fun K90 hK90 => ?_)
      refine aw_regL ?_
      refine alP (some 152) rfl rfl (does_move (v := .int .i64 v20_8) (by exact rfl)) (by decide) ?_
      refine alP (some 153) rfl rfl (does_move (v := .int .i64 v21_8) (by exact rfl)) (by decide) ?_
      refine alP (some 154) rfl rfl (does_bin (v := .int .i64 (IntKind.i64.wrap (v20_8 + v21_8))) (by conv => lhs; whnf) (by conv => lhs; whnf) rfl) (by decide) ?_
      refine alP (some 155) rfl rfl (does_conv_int (v := .int .u64 (IntKind.u64.wrap (IntKind.i64.wrap (v20_8 + v21_8)))) (by conv => lhs; whnf) (ty_some ty3) (ty_int ty57) rfl) (by decide) ?_
      refine alP (some 156) rfl rfl (does_bin (v := .int .u64 (Int.fdiv (IntKind.u64.wrap (IntKind.i64.wrap (v20_8 + v21_8))) (2 ^ (min (Int.toNat 1) (IntKind.bits .u64))))) (by conv => lhs; whnf) (by conv => lhs; whnf) rfl) (by decide) ?_
      refine alP (some 157) rfl rfl (does_conv_int (v := .int .i64 (IntKind.i64.wrap (Int.fdiv (IntKind.u64.wrap (IntKind.i64.wrap (v20_8 + v21_8))) (2 ^ (min (Int.toNat 1) (IntKind.bits .u64)))))) (by conv => lhs; whnf) (ty_some ty57) (ty_int ty3) rfl) (by decide) ?_
      refine alP (some 23) rfl rfl (does_assign (v := .int .i64 (IntKind.i64.wrap (Int.fdiv (IntKind.u64.wrap (IntKind.i64.wrap (v20_8 + v21_8))) (2 ^ (min (Int.toNat 1) (IntKind.bits .u64)))))) (by exact rfl)) (by decide) ?_
      refine al_nil ?_
      refine hK90 _ ?_
      refine aw_seq_k (fun K91 hK91 => ?_)
      refine aw_regd (by kernel_rfl) (by decide +kernel) ?_
      refine aoP (some 158) rfl rfl (does_move (v := .fn 34 [.rptr [.sl 10 (List.map enc27 a4_0)]]) (by exact rfl)) (by decide) ?_
      refine aoP (some 159) rfl rfl (does_move (v := .own 0 0) (by exact rfl)) (by decide) ?_
      refine aoP (some 160) rfl rfl (does_move (v := .int .i64 (IntKind.i64.wrap ((IntKind.i64.wrap ((IntKind.i64.wrap (Int.fdiv (IntKind.u64.wrap (IntKind.i64.wrap (a1 + a3))) (2 ^ (min (Int.toNat 1) (IntKind.bits .u64))))) + a2)) - 1))) (by exact rfl)) (by decide) ?_
      refine aoP (some 161) rfl rfl (does_move (v := .int .i64 (IntKind.i64.wrap (Int.fdiv (IntKind.u64.wrap (IntKind.i64.wrap (v20_8 + v21_8))) (2 ^ (min (Int.toNat 1) (IntKind.bits .u64)))))) (by exact rfl)) (by decide) ?_
      refine aoP (some 162) rfl rfl (does_bin (v := .int .i64 (IntKind.i64.wrap ((IntKind.i64.wrap ((IntKind.i64.wrap ((IntKind.i64.wrap (Int.fdiv (IntKind.u64.wrap (IntKind.i64.wrap (a1 + a3))) (2 ^ (min (Int.toNat 1) (IntKind.bits .u64))))) + a2)) - 1)) - (IntKind.i64.wrap (Int.fdiv (IntKind.u64.wrap (IntKind.i64.wrap (v20_8 + v21_8))) (2 ^ (min (Int.toNat 1) (IntKind.bits .u64)))))))) (by conv => lhs; whnf) (by conv => lhs; whnf) rfl) (by decide) ?_
      obtain ⟨g92, h⟩ := gd_some h
      obtain ⟨x93, hx93, h⟩ := bnd_some h
      refine aoR (some 163) rfl rfl (does_indexAddr_own (by conv => lhs; whnf) (by conv => lhs; whnf) (by conv => lhs; whnf) ty34 ty3 g92 (by exact own_lt hx93)) (by decide) ?_
      refine aoR (some 164) rfl rfl (does_load (v := .int .i64 x93) (by conv => lhs; whnf) (cellsAt_eptr (by conv => lhs; whnf) (by exact map_get hx93)) ty3 (by exact rfl)) (by decide) ?_
      refine aoP (some 165) rfl rfl (does_move (v := .own 0 0) (by exact rfl)) (by decide) ?_
      refine aoP (some 166) rfl rfl (does_move (v := .int .i64 (IntKind.i64.wrap (Int.fdiv (IntKind.u64.wrap (IntKind.i64.wrap (v20_8 + v21_8))) (2 ^ (min (Int.toNat 1) (IntKind.bits .u64)))))) (by exact rfl)) (by decide) ?_
      obtain ⟨g94, h⟩ := gd_some h
      obtain ⟨x95, hx95, h⟩ := bnd_some h
      refine aoR (some 167) rfl rfl (does_indexAddr_own (by conv => lhs; whnf) (by conv => lhs; whnf) (by conv => lhs; whnf) ty34 ty3 g94 (by exact own_lt hx95)) (by decide) ?_
      refine aoR (some 168) rfl rfl (does_load (v := .int .i64 x95) (by conv => lhs; whnf) (cellsAt_eptr (by conv => lhs; whnf) (by exact map_get hx95)) ty3 (by exact rfl)) (by decide) ?_
      obtain ⟨x96, hx96, h⟩ := bnd_some h
      refine aoD (some 169) rfl rfl (do_call0 169 false (tree_Kids_c1_ok x93 x95 a4_0 hx96) rfl ent34 rfl rfl) (by decide) ?_
      refine aoP (some 170) rfl rfl (does_bin (v := .bool (decide (x96 < 0))) (by conv => lhs; whnf) (by conv => lhs; whnf) rfl) (by decide) ?_
      refine aoP (some 171) rfl rfl (does_un (v := .bool (!(decide (x96 < 0)))) (by conv => lhs; whnf) rfl) (by decide) ?_
      refine ao_nil_d (by kernel_rfl) ?_
      refine hK91 _ ?_
      refine aw_bool (b := (!(decide (x96 < 0)))) 171 rfl (fun c97 => ?_) (fun c97 => ?_)
      ·have h := ifT c97 h
       refine aw_cond_t (by decide) rfl ?_
       refine aw_regL ?_
       refine alP (some 172) rfl rfl (does_move (v := .int .i64 (IntKind.i64.wrap (Int.fdiv (IntKind.u64.wrap (IntKind.i64.wrap (v20_8 + v21_8))) (2 ^ (min (Int.toNat 1) (IntKind.bits .u64)))))) (by exact rfl)) (by decide) ?_
       refine alP (some 173) rfl rfl (does_bin (v := .int .i64 (IntKind.i64.wrap ((IntKind.i64.wrap (Int.fdiv (IntKind.u64.wrap (IntKind.i64.wrap (v20_8 + v21_8))) (2 ^ (min (Int.toNat 1) (IntKind.bits .u64))))) + 1))) (by conv => lhs; whnf) (by conv => lhs; whnf) rfl) (by decide) ?_
       refine alP (some 20) rfl rfl (does_assign (v := .int .i64 (IntKind.i64.wrap ((IntKind.i64.wrap (Int.fdiv (IntKind.u64.wrap (IntKind.i64.wrap (v20_8 + v21_8))) (2 ^ (min (Int.toNat 1) (IntKind.bits .u64))))) + 1))) (by exact rfl)) (by decide) ?_
       refine al_nil ?_
       have h := leafL h hq86
       exact ⟨m8, Nat.lt_succ_self _, _, reb_lit [(0, .own 0 0), (1, .int .i64 a1), (2, .int .i64 a2), (3, .int .i64 a3), (4, .fn 34 [.rptr [.sl 10 (List.map enc27 a4_0)]]), (18, .int .i64 (IntKind.i64.wrap (Int.fdiv (IntKind.u64.wrap (IntKind.i64.wrap (a1 + a3))) (2 ^ (min (Int.toNat 1) (IntKind.bits .u64)))))), (19, .int .i64 (IntKind.i64.wrap ((IntKind.i64.wrap (Int.fdiv (IntKind.u64.wrap (IntKind.i64.wrap (a1 + a3))) (2 ^ (min (Int.toNat 1) (IntKind.bits .u64))))) + a2))), (20, .int .i64 (IntKind.i64.wrap ((IntKind.i64.wrap (Int.fdiv (IntKind.u64.wrap (IntKind.i64.wrap (v20_8 + v21_8))) (2 ^ (min (Int.toNat 1) (IntKind.bits .u64))))) + 1))), (21, .int .i64 v21_8), (22, .int .i64 (IntKind.i64.wrap ((IntKind.i64.wrap ((IntKind.i64.wrap (Int.fdiv (IntKind.u64.wrap (IntKind.i64.wrap (a1 + a3))) (2 ^ (min (Int.toNat 1) (IntKind.bits .u64))))) + a2)) - 1)))] [(0, 0)] [((0, 0), .arr 3 1 false (List.map enc2 a0))] [(0, 1)] (envOk_cons (by conv => lhs; whnf) (by exact rfl) (envOk_cons (by conv => lhs; whnf) (by exact rfl) (envOk_cons (by conv => lhs; whnf) (by exact rfl) (envOk_cons (by conv => lhs; whnf) (by exact rfl) (envOk_cons (by conv => lhs; whnf) (by exact rfl) (envOk_cons (by conv => lhs; whnf) (by exact rfl) (envOk_cons (by conv => lhs; whnf) (by exact rfl) (envOk_cons (by conv => lhs; whnf) (by exact rfl) (envOk_cons (by conv => lhs; whnf) (by exact rfl) (envOk_cons (by conv => lhs; whnf) (by exact rfl) envOk_nil)))))))))) (objOk_cons (by conv => lhs; whnf) (by conv => lhs; whnf) (by exact rfl) (by simp) objOk_nil) (nodup_b rfl) (nodup_b rfl) rfl rfl, (IntKind.i64.wrap ((IntKind.i64.wrap (Int.fdiv (IntKind.u64.wrap (IntKind.i64.wrap (v20_8 + v21_8))) (2 ^ (min (Int.toNat 1) (IntKind.bits .u64))))) + 1)), v21_8, h, rfl⟩
      ·have h := ifF c97 h
       refine aw_cond_f (by decide) rfl ?_
       refine aw_regL ?_
       refine alP (some 174) rfl rfl (does_move (v := .int .i64 (IntKind.i64.wrap (Int.fdiv (IntKind.u64.wrap (IntKind.i64.wrap (v20_8 + v21_8))) (2 ^ (min (Int.toNat 1) (IntKind.bits .u64)))))) (by exact rfl)) (by decide) ?_
       refine alP (some 21) rfl rfl (does_assign (v := .int .i64 (IntKind.i64.wrap (Int.fdiv (IntKind.u64.wrap (IntKind.i64.wrap (v20_8 + v21_8))) (2 ^ (min (Int.toNat 1) (IntKind.bits .u64)))))) (by exact rfl)) (by decide) ?_
       refine al_nil ?_
       have h := leafL h hq86
       exact ⟨m8, Nat.lt_succ_self _, _, reb_lit [(0, .own 0 0), (1, .int .i64 a1), (2, .int .i64 a2), (3, .int .i64 a3), (4, .fn 34 [.rptr [.sl 10 (List.map enc27 a4_0)]]), (18, .int .i64 (IntKind.i64.wrap (Int.fdiv (IntKind.u64.wrap (IntKind.i64.wrap (a1 + a3))) (2 ^ (min (Int.toNat 1) (IntKind.bits .u64)))))), (19, .int .i64 (IntKind.i64.wrap ((IntKind.i64.wrap (Int.fdiv (IntKind.u64.wrap (IntKind.i64.wrap (a1 + a3))) (2 ^ (min (Int.toNat 1) (IntKind.bits .u64))))) + a2))), (20, .int .i64 v20_8), (21, .int .i64 (IntKind.i64.wrap (Int.fdiv (IntKind.u64.wrap (IntKind.i64.wrap (v20_8 + v21_8))) (2 ^ (min (Int.toNat 1) (IntKind.bits .u64)))))), (22, .int .i64 (IntKind.i64.wrap ((IntKind.i64.wrap ((IntKind.i64.wrap (Int.fdiv (IntKind.u64.wrap (IntKind.i64.wrap (a1 + a3))) (2 ^ (min (Int.toNat 1) (IntKind.bits .u64))))) + a2)) - 1)))] [(0, 0)] [((0, 0), .arr 3 1 false (List.map enc2 a0))] [(0, 1)] (envOk_cons (by conv => lhs; whnf) (by exact rfl) (envOk_cons (by conv => lhs; whnf) (by exact rfl) (envOk_cons (by conv => lhs; whnf) (by exact rfl) (envOk_cons (by conv => lhs; whnf) (by exact rfl) (envOk_cons (by conv => lhs; whnf) (by exact rfl) (envOk_cons (by conv => lhs; whnf) (by exact rfl) (envOk_cons (by conv => lhs; whnf) (by exact rfl) (envOk_cons (by conv => lhs; whnf) (by exact rfl) (envOk_cons (by conv => lhs; whnf) (by exact rfl) (envOk_cons (by conv => lhs; whnf) (by exact rfl) envOk_nil)))))))))) (objOk_cons (by conv => lhs; whnf) (by conv => lhs; whnf) (by exact rfl) (by simp) objOk_nil) (nodup_b rfl) (nodup_b rfl) rfl rfl, v20_8, (IntKind.i64.wrap (Int.fdiv (IntKind.u64.wrap (IntKind.i64.wrap (v20_8 + v21_8))) (2 ^ (min (Int.toNat 1) (IntKind.bits .u64))))), h, rfl⟩
     ·have h := ifF c89 h
      refine aw_cond_f (by decide) rfl ?_
      refine aw_exit ?_
      have h := leafR h hq86
      obtain rfl := Option.some.inj h
      have h := hk84
      exact ⟨_, reb_lit [(0, .own 0 0), (1, .int .i64 a1), (2, .int .i64 a2), (3, .int .i64 a3), (4, .fn 34 [.rptr [.sl 10 (List.map enc27 a4_0)]]), (18, .int .i64 (IntKind.i64.wrap (Int.fdiv (IntKind.u64.wrap (IntKind.i64.wrap (a1 + a3))) (2 ^ (min (Int.toNat 1) (IntKind.bits .u64)))))), (19, .int .i64 (IntKind.i64.wrap ((IntKind.i64.wrap (Int.fdiv (IntKind.u64.wrap (IntKind.i64.wrap (a1 + a3))) (2 ^ (min (Int.toNat 1) (IntKind.bits .u64))))) + a2))), (20, .int .i64 v20_8)] [(0, 0)] [((0, 0), .arr 3 1 false (List.map enc2 a0))] [(0, 1)] (envOk_cons (by conv => lhs; whnf) (by exact rfl) (envOk_cons (by conv => lhs; whnf) (by exact rfl) (envOk_cons (by conv => lhs; whnf) (by exact rfl) (envOk_cons (by conv => lhs; whnf) (by exact rfl) (envOk_cons (by conv => lhs; whnf) (by exact rfl) (envOk_cons (by conv => lhs; whnf) (by exact rfl) (envOk_cons (by conv => lhs; whnf) (by exact rfl) (envOk_cons (by conv => lhs; whnf) (by exact rfl) envOk_nil)))))))) (objOk_cons (by conv => lhs; whnf) (by conv => lhs; whnf) (by exact rfl) (by simp) objOk_nil) (nodup_b rfl) (nodup_b rfl) rfl rfl, v20_8, h, rfl⟩
    ·rintro s ⟨v20_7, h, rfl⟩
     unfold slices_symMergeCmpFunc_int_tree_Kids_c1_b_k7 at h
     refine aw_seq_k (fun K98 hK98 => ?_)
     refine aw_regL ?_
     refine alP (some 175) rfl rfl (does_move (v := .int .i64 (IntKind.i64.wrap ((IntKind.i64.wrap (Int.fdiv (IntKind.u64.wrap (IntKind.i64.wrap (a1 + a3))) (2 ^ (min (Int.toNat 1) (IntKind.bits .u64))))) + a2))) (by exact rfl)) (by decide) ?_
     refine alP (some 176) rfl rfl (does_move (v := .int .i64 v20_7) (by exact rfl)) (by decide) ?_
     refine alP (some 177) rfl rfl (does_bin (v := .int .i64 (IntKind.i64.wrap ((IntKind.i64.wrap ((IntKind.i64.wrap (Int.fdiv (IntKind.u64.wrap (IntKind.i64.wrap (a1 + a3))) (2 ^ (min (Int.toNat 1) (IntKind.bits .u64))))) + a2)) - v20_7))) (by conv => lhs; whnf) (by conv => lhs; whnf) rfl) (by decide) ?_
     refine alP (some 24) rfl rfl (does_assign (v := .int .i64 (IntKind.i64.wrap ((IntKind.i64.wrap ((IntKind.i64.wrap (Int.fdiv (IntKind.u64.wrap (IntKind.i64.wrap (a1 + a3))) (2 ^ (min (Int.toNat 1) (IntKind.bits .u64))))) + a2)) - v20_7))) (by exact rfl)) (by decide) ?_
     refine al_nil ?_
     refine hK98 _ ?_
     obtain ⟨q99, h, hk100⟩ := bnd_some h
     refine aw_cut (fun s => ∃ (vs0_s_9 : List Int), slices_symMergeCmpFunc_int_tree_Kids_c1_b_k9 K a1 a2 a3 a4_0 v20_7 vs0_s_9 = some r ∧ s = lit [(0, .own 0 0), (1, .int .i64 a1), (3, .int .i64 a3), (4, .fn 34 [.rptr [.sl 10 (List.map enc27 a4_0)]]), (18, .int .i64 (IntKind.i64.wrap (Int.fdiv (IntKind.u64.wrap (IntKind.i64.wrap (a1 + a3))) (2 ^ (min (Int.toNat 1) (IntKind.bits .u64)))))), (20, .int .i64 v20_7), (24, .int .i64 (IntKind.i64.wrap ((IntKind.i64.wrap ((IntKind.i64.wrap (Int.fdiv (IntKind.u64.wrap (IntKind.i64.wrap (a1 + a3))) (2 ^ (min (Int.toNat 1) (IntKind.bits .u64))))) + a2)) - v20_7)))] [((0, 0), .arr 3 1 false (List.map enc2 vs0_s_9))] [(0, 1)] X) ?_ ?_
     ·skip
      obtain ⟨q101, h, hk102⟩ := bnd_some h
      refine aw_cut (fun s => ∃ (v185_10 : Bool), slices_symMergeCmpFunc_int_tree_Kids_c1_b_k10 a0 a1 a2 a3 a4_0 v20_7 v185_10 = some q99 ∧ s = lit [(0, .own 0 0), (1, .int .i64 a1), (2, .int .i64 a2), (3, .int .i64 a3), (4, .fn 34 [.rptr [.sl 10 (List.map enc27 a4_0)]]), (18, .int .i64 (IntKind.i64.wrap (Int.fdiv (IntKind.u64.wrap (IntKind.i64.wrap (a1 + a3))) (2 ^ (min (Int.toNat 1) (IntKind.bits .u64)))))), (20, .int .i64 v20_7), (24, .int .i64 (IntKind.i64.wrap ((IntKind.i64.wrap ((IntKind.i64.wrap (Int.fdiv (IntKind.u64.wrap (IntKind.i64.wrap (a1 + a3))) (2 ^ (min (Int.toNat 1) (IntKind.bits .u64))))) + a2)) - v20_7))), (185, .bool v185_10)] [((0, 0), .arr 3 1 false (List.map enc2 a0))] [(0, 1)] X) ?_ ?_
      ·skip
       refine aw_regL ?_
       refine alP (some 178) rfl rfl (does_move (v := .int .i64 v20_7) (by exact rfl)) (by decide) ?_
       refine alP (some 179) rfl rfl (does_move (v := .int .i64 a2) (by exact rfl)) (by decide) ?_
       refine alP (some 180) rfl rfl (does_bin (v := .bool (decide (v20_7 < a2))) (by conv => lhs; whnf) (by conv => lhs; whnf) rfl) (by decide) ?_
       refine alP (some 181) rfl rfl (does_move (v := .bool (decide (v20_7 < a2))) (by exact rfl)) (by decide) ?_
       refine al_bool (c := (decide (v20_7 < a2))) 181 rfl (fun c103 => ?_) (fun c103 => ?_)
       ·have h := ifT c103 h
        refine alP (some 182) rfl rfl (does_move (v := .int .i64 a2) (by exact rfl)) (by decide) ?_
        refine alP (some 183) rfl rfl (does_move (v := .int .i64 (IntKind.i64.wrap ((IntKind.i64.wrap ((IntKind.i64.wrap (Int.fdiv (IntKind.u64.wrap (IntKind.i64.wrap (a1 + a3))) (2 ^ (min (Int.toNat 1) (IntKind.bits .u64))))) + a2)) - v20_7))) (by exact rfl)) (by decide) ?_
        refine alP (some 184) rfl rfl (does_bin (v := .bool (decide (a2 < (IntKind.i64.wrap ((IntKind.i64.wrap ((IntKind.i64.wrap (Int.fdiv (IntKind.u64.wrap (IntKind.i64.wrap (a1 + a3))) (2 ^ (min (Int.toNat 1) (IntKind.bits .u64))))) + a2)) - v20_7))))) (by conv => lhs; whnf) (by conv => lhs; whnf) rfl) (by decide) ?_
        refine alP (some 185) rfl rfl (does_pick (v := .bool (decide (a2 < (IntKind.i64.wrap ((IntKind.i64.wrap ((IntKind.i64.wrap (Int.fdiv (IntKind.u64.wrap (IntKind.i64.wrap (a1 + a3))) (2 ^ (min (Int.toNat 1) (IntKind.bits .u64))))) + a2)) - v20_7))))) (by conv => lhs; whnf) (by exact rfl)) (by decide) ?_
        refine al_nil ?_
        obtain rfl := Option.some.inj h
        have h := hk102
        exact ⟨_, reb_lit [(0, .own 0 0), (1, .int .i64 a1), (2, .int .i64 a2), (3, .int .i64 a3), (4, .fn 34 [.rptr [.sl 10 (List.map enc27 a4_0)]]), (18, .int .i64 (IntKind.i64.wrap (Int.fdiv (IntKind.u64.wrap (IntKind.i64.wrap (a1 + a3))) (2 ^ (min (Int.toNat 1) (IntKind.bits .u64)))))), (20, .int .i64 v20_7), (24, .int .i64 (IntKind.i64.wrap ((IntKind.i64.wrap ((IntKind.i64.wrap (Int.fdiv (IntKind.u64.wrap (IntKind.i64.wrap (a1 + a3))) (2 ^ (min (Int.toNat 1) (IntKind.bits .u64))))) + a2)) - v20_7))), (185, .bool (decide (a2 < (IntKind.i64.wrap ((IntKind.i64.wrap ((IntKind.i64.wrap (Int.fdiv (IntKind.u64.wrap (IntKind.i64.wrap (a1 + a3))) (2 ^ (min (Int.toNat 1) (IntKind.bits .u64))))) + a2)) - v20_7)))))] [(0, 0)] [((0, 0), .arr 3 1 false (List.map enc2 a0))] [(0, 1)] (envOk_cons (by conv => lhs; whnf) (by exact rfl) (envOk_cons (by conv => lhs; whnf) (by exact rfl) (envOk_cons (by conv => lhs; whnf) (by exact rfl) (envOk_cons (by conv => lhs; whnf) (by exact rfl) (envOk_cons (by conv => lhs; whnf) (by exact rfl) (envOk_cons (by conv => lhs; whnf) (by exact rfl) (envOk_cons (by conv => lhs; whnf) (by exact rfl) (envOk_cons (by conv => lhs; whnf) (by exact rfl) (envOk_cons (by conv => lhs; whnf) (by exact rfl) envOk_nil))))))))) (objOk_cons (by conv => lhs; whnf) (by conv => lhs; whnf) (by exact rfl) (by simp) objOk_nil) (nodup_b rfl) (nodup_b rfl) rfl rfl, (decide (a2 < (IntKind.i64.wrap ((IntKind.i64.wrap ((IntKind.i64.wrap (Int.fdiv (IntKind.u64.wrap (IntKind.i64.wrap (a1 + a3))) (2 ^ (min (Int.toNat 1) (IntKind.bits .u64))))) + a2)) - v20_7)))), h, rfl⟩
       ·have h := ifF c103 h
        refine alS (some 182) rfl rfl (by decide) ?_
        refine alS (some 183) rfl rfl (by decide) ?_
        refine alS (some 184) rfl rfl (by decide) ?_
        refine alP (some 185) rfl rfl (does_pick (v := .bool false) (by conv => lhs; whnf) (by exact rfl)) (by decide) ?_
        refine al_nil ?_
        obtain rfl := Option.some.inj h
        have h := hk102
        exact ⟨_, reb_lit [(0, .own 0 0), (1, .int .i64 a1), (2, .int .i64 a2), (3, .int .i64 a3), (4, .fn 34 [.rptr [.sl 10 (List.map enc27 a4_0)]]), (18, .int .i64 (IntKind.i64.wrap (Int.fdiv (IntKind.u64.wrap (IntKind.i64.wrap (a1 + a3))) (2 ^ (min (Int.toNat 1) (IntKind.bits .u64)))))), (20, .int .i64 v20_7), (24, .int .i64 (IntKind.i64.wrap ((IntKind.i64.wrap ((IntKind.i64.wrap (Int.fdiv (IntKind.u64.wrap (IntKind.i64.wrap (a1 + a3))) (2 ^ (min (Int.toNat 1) (IntKind.bits .u64))))) + a2)) - v20_7))), (185, .bool false)] [(0, 0)] [((0, 0), .arr 3 1 false (List.map enc2 a0))] [(0, 1)] (envOk_cons (by conv => lhs; whnf) (by exact rfl) (envOk_cons (by conv => lhs; whnf) (by exact rfl) (envOk_cons (by conv => lhs; whnf) (by exact rfl) (envOk_cons (by conv => lhs; whnf) (by exact rfl) (envOk_cons (by conv => lhs; whnf) (by exact rfl) (envOk_cons (by conv => lhs; whnf) (by exact rfl) (envOk_cons (by conv => lhs; whnf) (by exact rfl) (envOk_cons (by conv => lhs; whnf) (by exact rfl) (envOk_cons (by conv => lhs; whnf) (by exact rfl) envOk_nil))))))))) (objOk_cons (by conv => lhs; whnf) (by conv => lhs; whnf) (by exact rfl) (by simp) objOk_nil) (nodup_b rfl) (nodup_b rfl) rfl rfl, false, h, rfl⟩
      ·rintro s ⟨v185_10, h, rfl⟩
       unfold slices_symMergeCmpFunc_int_tree_Kids_c1_b_k10 at h
       refine aw_bool (b := v185_10) 185 rfl (fun c104 => ?_) (fun c104 => ?_)
       ·have h := ifT c104 h
        refine aw_cond_t (by decide) rfl ?_
        refine aw_regL ?_
        refine alP (some 186) rfl rfl (does_move (v := .own 0 0) (by exact rfl)) (by decide) ?_
        refine alP (some 187) rfl rfl (does_move (v := .int .i64 v20_7) (by exact rfl)) (by decide) ?_
        refine alP (some 188) rfl rfl (does_move (v := .int .i64 a2) (by exact rfl)) (by decide) ?_
        refine alP (some 189) rfl rfl (does_move (v := .int .i64 (IntKind.i64.wrap ((IntKind.i64.wrap ((IntKind.i64.wrap (Int.fdiv (IntKind.u64.wrap (IntKind.i64.wrap (a1 + a3))) (2 ^ (min (Int.toNat 1) (IntKind.bits .u64))))) + a2)) - v20_7))) (by exact rfl)) (by decide) ?_
        refine alP (some 190) rfl rfl (does_move (v := .fn 34 [.rptr [.sl 10 (List.map enc27 a4_0)]]) (by exact rfl)) (by decide) ?_
        obtain ⟨x105, hx105, h⟩ := bnd_some h
        refine alD (some 191) rfl rfl (do_callS 0 0 [] (slices_rotateCmpFunc_int_tree_Kids_c1_ok a0 v20_7 a2 (IntKind.i64.wrap ((IntKind.i64.wrap ((IntKind.i64.wrap (Int.fdiv (IntKind.u64.wrap (IntKind.i64.wrap (a1 + a3))) (2 ^ (min (Int.toNat 1) (IntKind.bits .u64))))) + a2)) - v20_7)) a4_0 hx105) rfl ent61 (by conv => lhs; whnf) rfl rfl (plain_map (fun _ => rfl))) (by decide) ?_
        refine al_nil ?_
        obtain rfl := Option.some.inj h
        have h := hk100
        exact ⟨_, reb_lit [(0, .own 0 0), (1, .int .i64 a1), (3, .int .i64 a3), (4, .fn 34 [.rptr [.sl 10 (List.map enc27 a4_0)]]), (18, .int .i64 (IntKind.i64.wrap (Int.fdiv (IntKind.u64.wrap (IntKind.i64.wrap (a1 + a3))) (2 ^ (min (Int.toNat 1) (IntKind.bits .u64)))))), (20, .int .i64 v20_7), (24, .int .i64 (IntKind.i64.wrap ((IntKind.i64.wrap ((IntKind.i64.wrap (Int.fdiv (IntKind.u64.wrap (IntKind.i64.wrap (a1 + a3))) (2 ^ (min (Int.toNat 1) (IntKind.bits .u64))))) + a2)) - v20_7)))] [(0, 0)] [((0, 0), .arr 3 1 false (List.map enc2 x105))] [(0, 1)] (envOk_cons (by conv => lhs; whnf) (by exact rfl) (envOk_cons (by conv => lhs; whnf) (by exact rfl) (envOk_cons (by conv => lhs; whnf) (by exact rfl) (envOk_cons (by conv => lhs; whnf) (by exact rfl) (envOk_cons (by conv => lhs; whnf) (by exact rfl) (envOk_cons (by conv => lhs; whnf) (by exact rfl) (envOk_cons (by conv => lhs; whnf) (by exact rfl) envOk_nil))))))) (objOk_cons (by conv => lhs; whnf) (by conv => lhs; whnf) (by exact rfl) (by simp) objOk_nil) (nodup_b rfl) (nodup_b rfl) rfl rfl, x105, h, rfl⟩
       ·have h := ifF c104 h
        refine aw_cond_f (by decide) rfl ?_
        refine aw_skip ?_
        obtain rfl := Option.some.inj h
        have h := hk100
        exact ⟨_, reb_lit [(0, .own 0 0), (1, .int .i64 a1), (3, .int .i64 a3), (4, .fn 34 [.rptr [.sl 10 (List.map enc27 a4_0)]]), (18, .int .i64 (IntKind.i64.wrap (Int.fdiv (IntKind.u64.wrap (IntKind.i64.wrap (a1 + a3))) (2 ^ (min (Int.toNat 1) (IntKind.bits .u64)))))), (20, .int .i64 v20_7), (24, .int .i64 (IntKind.i64.wrap ((IntKind.i64.wrap ((IntKind.i64.wrap (Int.fdiv (IntKind.u64.wrap (IntKind.i64.wrap (a1 + a3))) (2 ^ (min (Int.toNat 1) (IntKind.bits .u64))))) + a2)) - v20_7)))] [(0, 0)] [((0, 0), .arr 3 1 false (List.map enc2 a0))] [(0, 1)] (envOk_cons (by conv => lhs; whnf) (by exact rfl) (envOk_cons (by conv => lhs; whnf) (by exact rfl) (envOk_cons (by conv => lhs; whnf) (by exact rfl) (envOk_cons (by conv => lhs; whnf) (by exact rfl) (envOk_cons (by conv => lhs; whnf) (by exact rfl) (envOk_cons (by conv => lhs; whnf) (by exact rfl) (envOk_cons (by conv => lhs; whnf) (by exact rfl) envOk_nil))))))) (objOk_cons (by conv => lhs; whnf) (by conv => lhs; whnf) (by exact rfl) (by simp) objOk_nil) (nodup_b rfl) (nodup_b rfl) rfl rfl, a0, h, rfl⟩
     ·rintro s ⟨vs0_s_9, h, rfl⟩
      unfold slices_symMergeCmpFunc_int_tree_Kids_c1_b_k9 at h
      obtain ⟨q106, h, hk107⟩ := bnd_some h
      refine aw_cut (fun s => ∃ (vs0_s_11 : List Int), slices_symMergeCmpFunc_int_tree_Kids_c1_b_k11 K a1 a2 a3 a4_0 v20_7 vs0_s_11 = some r ∧ s = lit [(0, .own 0 0), (3, .int .i64 a3), (4, .fn 34 [.rptr [.sl 10 (List.map enc27 a4_0)]]), (18, .int .i64 (IntKind.i64.wrap (Int.fdiv (IntKind.u64.wrap (IntKind.i64.wrap (a1 + a3))) (2 ^ (min (Int.toNat 1) (IntKind.bits .u64)))))), (24, .int .i64 (IntKind.i64.wrap ((IntKind.i64.wrap ((IntKind.i64.wrap (Int.fdiv (IntKind.u64.wrap (IntKind.i64.wrap (a1 + a3))) (2 ^ (min (Int.toNat 1) (IntKind.bits .u64))))) + a2)) - v20_7)))] [((0, 0), .arr 3 1 false (List.map enc2 vs0_s_11))] [(0, 1)] X) ?_ ?_
      ·skip
       obtain ⟨q108, h, hk109⟩ := bnd_some h
       refine aw_cut (fun s => ∃ (v199_12 : Bool), slices_symMergeCmpFunc_int_tree_Kids_c1_b_k12 K a1 a3 a4_0 v20_7 vs0_s_9 v199_12 = some q106 ∧ s = lit [(0, .own 0 0), (1, .int .i64 a1), (3, .int .i64 a3), (4, .fn 34 [.rptr [.sl 10 (List.map enc27 a4_0)]]), (18, .int .i64 (IntKind.i64.wrap (Int.fdiv (IntKind.u64.wrap (IntKind.i64.wrap (a1 + a3))) (2 ^ (min (Int.toNat 1) (IntKind.bits .u64)))))), (20, .int .i64 v20_7), (24, .int .i64 (IntKind.i64.wrap ((IntKind.i64.wrap ((IntKind.i64.wrap (Int.fdiv (IntKind.u64.wrap (IntKind.i64.wrap (a1 + a3))) (2 ^ (min (Int.toNat 1) (IntKind.bits .u64))))) + a2)) - v20_7))), (199, .bool v199_12)] [((0, 0), .arr 3 1 false (List.map enc2 vs0_s_9))] [(0, 1)] X) ?_ ?_
       ·skip
        refine aw_regL ?_
        refine alP (some 192) rfl rfl (does_move (v := .int .i64 a1) (by exact rfl)) (by decide) ?_
        refine alP (some 193) rfl rfl (does_move (v := .int .i64 v20_7) (by exact rfl)) (by decide) ?_
        refine alP (some 194) rfl rfl (does_bin (v := .bool (decide (a1 < v20_7))) (by conv => lhs; whnf) (by conv => lhs; whnf) rfl) (by decide) ?_
        refine alP (some 195) rfl rfl (does_move (v := .bool (decide (a1 < v20_7))) (by exact rfl)) (by decide) ?_
        refine al_bool (c := (decide (a1 < v20_7))) 195 rfl (fun c110 => ?_) (fun c110 => ?_)
        ·have h := ifT c110 h
         refine alP (some 196) rfl rfl (does_move (v := .int .i64 v20_7) (by exact rfl)) (by decide) ?_
         refine alP (some 197) rfl rfl (does_move (v := .int .i64 (IntKind.i64.wrap (Int.fdiv (IntKind.u64.wrap (IntKind.i64.wrap (a1 + a3))) (2 ^ (min (Int.toNat 1) (IntKind.bits .u64)))))) (by exact rfl)) (by decide) ?_
         refine alP (some 198) rfl rfl (does_bin (v := .bool (decide (v20_7 < (IntKind.i64.wrap (Int.fdiv (IntKind.u64.wrap (IntKind.i64.wrap (a1 + a3))) (2 ^ (min (Int.toNat 1) (IntKind.bits .u64)))))))) (by conv => lhs; whnf) (by conv => lhs; whnf) rfl) (by decide) ?_
         refine alP (some 199) rfl rfl (does_pick (v := .bool (decide (v20_7 < (IntKind.i64.wrap (Int.fdiv (IntKind.u64.wrap (IntKind.i64.wrap (a1 + a3))) (2 ^ (min (Int.toNat 1) (IntKind.bits .u64)))))))) (by conv => lhs; whnf) (by exact rfl)) (by decide) ?_
         refine al_nil ?_
         obtain rfl := Option.some.inj h
         have h := hk109
         exact ⟨_, reb_lit [(0, .own 0 0), (1, .int .i64 a1), (3, .int .i64 a3), (4, .fn 34 [.rptr [.sl 10 (List.map enc27 a4_0)]]), (18, .int .i64 (IntKind.i64.wrap (Int.fdiv (IntKind.u64.wrap (IntKind.i64.wrap (a1 + a3))) (2 ^ (min (Int.toNat 1) (IntKind.bits .u64)))))), (20, .int .i64 v20_7), (24, .int .i64 (IntKind.i64.wrap ((IntKind.i64.wrap ((IntKind.i64.wrap (Int.fdiv (IntKind.u64.wrap (IntKind.i64.wrap (a1 + a3))) (2 ^ (min (Int.toNat 1) (IntKind.bits .u64))))) + a2)) - v20_7))), (199, .bool (decide (v20_7 < (IntKind.i64.wrap (Int.fdiv (IntKind.u64.wrap (IntKind.i64.wrap (a1 + a3))) (2 ^ (min (Int.toNat 1) (IntKind.bits .u64))))))))] [(0, 0)] [((0, 0), .arr 3 1 false (List.map enc2 vs0_s_9))] [(0, 1)] (envOk_cons (by conv => lhs; whnf) (by exact rfl) (envOk_cons (by conv => lhs; whnf) (by exact rfl) (envOk_cons (by conv => lhs; whnf) (by exact rfl) (envOk_cons (by conv => lhs; whnf) (by exact rfl) (envOk_cons (by conv => lhs; whnf) (by exact rfl) (envOk_cons (by conv => lhs; whnf) (by exact rfl) (envOk_cons (by conv => lhs; whnf) (by exact rfl) (envOk_cons (by conv => lhs; whnf) (by exact rfl) envOk_nil)))))))) (objOk_cons (by conv => lhs; whnf) (by conv => lhs; whnf) (by exact rfl) (by simp) objOk_nil) (nodup_b rfl) (nodup_b rfl) rfl rfl, (decide (v20_7 < (IntKind.i64.wrap (Int.fdiv (IntKind.u64.wrap (IntKind.i64.wrap (a1 + a3))) (2 ^ (min (Int.toNat 1) (IntKind.bits .u64))))))), h, rfl⟩
        ·have h := ifF c110 h
         refine alS (some 196) rfl rfl (by decide) ?_
         refine alS (some 197) rfl rfl (by decide) ?_
         refine alS (some 198) rfl rfl (by decide) ?_
         refine alP (some 199) rfl rfl (does_pick (v := .bool false) (by conv => lhs; whnf) (by exact rfl)) (by decide) ?_
         refine al_nil ?_
         obtain rfl := Option.some.inj h
         have h := hk109
         exact ⟨_, reb_lit [(0, .own 0 0), (1, .int .i64 a1), (3, .int .i64 a3), (4, .fn 34 [.rptr [.sl 10 (List.map enc27 a4_0)]]), (18, .int .i64 (IntKind.i64.wrap (Int.fdiv (IntKind.u64.wrap (IntKind.i64.wrap (a1 + a3))) (2 ^ (min (Int.toNat 1) (IntKind.bits .u64)))))), (20, .int .i64 v20_7), (24, .int .i64 (IntKind.i64.wrap ((IntKind.i64.wrap ((IntKind.i64.wrap (Int.fdiv (IntKind.u64.wrap (IntKind.i64.wrap (a1 + a3))) (2 ^ (min (Int.toNat 1) (IntKind.bits .u64))))) + a2)) - v20_7))), (199, .bool false)] [(0, 0)] [((0, 0), .arr 3 1 false (List.map enc2 vs0_s_9))] [(0, 1)] (envOk_cons (by conv => lhs; whnf) (by exact rfl) (envOk_cons (by conv => lhs; whnf) (by exact rfl) (envOk_cons (by conv => lhs; whnf) (by exact rfl) (envOk_cons (by conv => lhs; whnf) (by exact rfl) (envOk_cons (by conv => lhs; whnf) (by exact rfl) (envOk_cons (by conv => lhs; whnf) (by exact rfl) (envOk_cons (by conv => lhs; whnf) (by exact rfl) (envOk_cons (by conv => lhs; whnf) (by exact rfl) envOk_nil)))))))) (objOk_cons (by conv => lhs; whnf) (by conv => lhs; whnf) (by exact rfl) (by simp) objOk_nil) (nodup_b rfl) (nodup_b rfl) rfl rfl, false, h, rfl⟩
       ·rintro s ⟨v199_12, h, rfl⟩
        unfold slices_symMergeCmpFunc_int_tree_Kids_c1_b_k12 at h
        refine aw_bool (b := v199_12) 199 rfl (fun c111 => ?_) (fun c111 => ?_)
        ·have h := ifT c111 h
         refine aw_cond_t (by decide) rfl ?_
         refine aw_regL ?_
         refine alP (some 200) rfl rfl (does_move (v := .own 0 0) (by exact rfl)) (by decide) ?_
         refine alP (some 201) rfl rfl (does_move (v := .int .i64 a1) (by exact rfl)) (by decide) ?_
         refine alP (some 202) rfl rfl (does_move (v := .int .i64 v20_7) (by exact rfl)) (by decide) ?_
         refine alP (some 203) rfl rfl (does_move (v := .int .i64 (IntKind.i64.wrap (Int.fdiv (IntKind.u64.wrap (IntKind.i64.wrap (a1 + a3))) (2 ^ (min (Int.toNat 1) (IntKind.bits .u64)))))) (by exact rfl)) (by decide) ?_
         refine alP (some 204) rfl rfl (does_move (v := .fn 34 [.rptr [.sl 10 (List.map enc27 a4_0)]]) (by exact rfl)) (by decide) ?_
         obtain ⟨x112, hx112, h⟩ := bnd_some h
         refine alD (some 205) rfl rfl (do_callS 0 0 [] (hK vs0_s_9 a1 v20_7 (IntKind.i64.wrap (Int.fdiv (IntKind.u64.wrap (IntKind.i64.wrap (a1 + a3))) (2 ^ (min (Int.toNat 1) (IntKind.bits .u64))))) a4_0 hx112) rfl ent55 (by conv => lhs; whnf) rfl rfl (plain_map (fun _ => rfl))) (by decide) ?_
         refine al_nil ?_
         obtain rfl := Option.some.inj h
         have h := hk107
         exact ⟨_, reb_lit [(0, .own 0 0), (3, .int .i64 a3), (4, .fn 34 [.rptr [.sl 10 (List.map enc27 a4_0)]]), (18, .int .i64 (IntKind.i64.wrap (Int.fdiv (IntKind.u64.wrap (IntKind.i64.wrap (a1 + a3))) (2 ^ (min (Int.toNat 1) (IntKind.bits .u64)))))), (24, .int .i64 (IntKind.i64.wrap ((IntKind.i64.wrap ((IntKind.i64.wrap (Int.fdiv (IntKind.u64.wrap (IntKind.i64.wrap (a1 + a3))) (2 ^ (min (Int.toNat 1) (IntKind.bits .u64))))) + a2)) - v20_7)))] [(0, 0)] [((0, 0), .arr 3 1 false (List.map enc2 x112))] [(0, 1)] (envOk_cons (by conv => lhs; whnf) (by exact rfl) (envOk_cons (by conv => lhs; whnf) (by exact rfl) (envOk_cons (by conv => lhs; whnf) (by exact rfl) (envOk_cons (by conv => lhs; whnf) (by exact rfl) (envOk_cons (by conv => lhs; whnf) (by exact rfl) envOk_nil))))) (objOk_cons (by conv => lhs; whnf) (by conv => lhs; whnf) (by exact rfl) (by simp) objOk_nil) (nodup_b rfl) (nodup_b rfl) rfl rfl, x112, h, rfl⟩
        ·have h := ifF c111 h
         refine aw_cond_f (by decide) rfl ?_
         refine aw_skip ?_
         obtain rfl := Option.some.inj h
         have h := hk107
         exact ⟨_, reb_lit [(0, .own 0 0), (3, .int .i64 a3), (4, .fn 34 [.rptr [.sl 10 (List.map enc27 a4_0)]]), (18, .int .i64 (IntKind.i64.wrap (Int.fdiv (IntKind.u64.wrap (IntKind.i64.wrap (a1 + a3))) (2 ^ (min (Int.toNat 1) (IntKind.bits .u64)))))), (24, .int .i64 (IntKind.i64.wrap ((IntKind.i64.wrap ((IntKind.i64.wrap (Int.fdiv (IntKind.u64.wrap (IntKind.i64.wrap (a1 + a3))) (2 ^ (min (Int.toNat 1) (IntKind.bits .u64))))) + a2)) - v20_7)))] [(0, 0)] [((0, 0), .arr 3 1 false (List.map enc2 vs0_s_9))] [(0, 1)] (envOk_cons (by conv => lhs; whnf) (by exact rfl) (envOk_cons (by conv => lhs; whnf) (by exact rfl) (envOk_cons (by conv => lhs; whnf) (by exact rfl) (envOk_cons (by conv => lhs; whnf) (by exact rfl) (envOk_cons (by conv => lhs; whnf) (by exact rfl) envOk_nil))))) (objOk_cons (by conv => lhs; whnf) (by conv => lhs; whnf) (by exact rfl) (by simp) objOk_nil) (nodup_b rfl) (nodup_b rfl) rfl rfl, vs0_s_9, h, rfl⟩
      ·rintro s ⟨vs0_s_11, h, rfl⟩
       unfold slices_symMergeCmpFunc_int_tree_Kids_c1_b_k11 at h
       obtain ⟨q113, h, hk114⟩ := bnd_some h
       refine aw_cut (fun s => ∃ (v213_13 : Bool), slices_symMergeCmpFunc_int_tree_Kids_c1_b_k13 K a1 a2 a3 a4_0 v20_7 vs0_s_11 v213_13 = some r ∧ s = lit [(0, .own 0 0), (3, .int .i64 a3), (4, .fn 34 [.rptr [.sl 10 (List.map enc27 a4_0)]]), (18, .int .i64 (IntKind.i64.wrap (Int.fdiv (IntKind.u64.wrap (IntKind.i64.wrap (a1 + a3))) (2 ^ (min (Int.toNat 1) (IntKind.bits .u64)))))), (24, .int .i64 (IntKind.i64.wrap ((IntKind.i64.wrap ((IntKind.i64.wrap (Int.fdiv (IntKind.u64.wrap (IntKind.i64.wrap (a1 + a3))) (2 ^ (min (Int.toNat 1) (IntKind.bits .u64))))) + a2)) - v20_7))), (213, .bool v213_13)] [((0, 0), .arr 3 1 false (List.map enc2 vs0_s_11))] [(0, 1)] X) ?_ ?_
       ·skip
        refine aw_regL ?_
        refine alP (some 206) rfl rfl (does_move (v := .int .i64 (IntKind.i64.wrap (Int.fdiv (IntKind.u64.wrap (IntKind.i64.wrap (a1 + a3))) (2 ^ (min (Int.toNat 1) (IntKind.bits .u64)))))) (by exact rfl)) (by decide) ?_
        refine alP (some 207) rfl rfl (does_move (v := .int .i64 (IntKind.i64.wrap ((IntKind.i64.wrap ((IntKind.i64.wrap (Int.fdiv (IntKind.u64.wrap (IntKind.i64.wrap (a1 + a3))) (2 ^ (min (Int.toNat 1) (IntKind.bits .u64))))) + a2)) - v20_7))) (by exact rfl)) (by decide) ?_
        refine alP (some 208) rfl rfl (does_bin (v := .bool (decide ((IntKind.i64.wrap (Int.fdiv (IntKind.u64.wrap (IntKind.i64.wrap (a1 + a3))) (2 ^ (min (Int.toNat 1) (IntKind.bits .u64))))) < (IntKind.i64.wrap ((IntKind.i64.wrap ((IntKind.i64.wrap (Int.fdiv (IntKind.u64.wrap (IntKind.i64.wrap (a1 + a3))) (2 ^ (min (Int.toNat 1) (IntKind.bits .u64))))) + a2)) - v20_7))))) (by conv => lhs; whnf) (by conv => lhs; whnf) rfl) (by decide) ?_
        refine alP (some 209) rfl rfl (does_move (v := .bool (decide ((IntKind.i64.wrap (Int.fdiv (IntKind.u64.wrap (IntKind.i64.wrap (a1 + a3))) (2 ^ (min (Int.toNat 1) (IntKind.bits .u64))))) < (IntKind.i64.wrap ((IntKind.i64.wrap ((IntKind.i64.wrap (Int.fdiv (IntKind.u64.wrap (IntKind.i64.wrap (a1 + a3))) (2 ^ (min (Int.toNat 1) (IntKind.bits .u64))))) + a2)) - v20_7))))) (by exact rfl)) (by decide) ?_
        refine al_bool (c := (decide ((IntKind.i64.wrap (Int.fdiv (IntKind.u64.wrap (IntKind.i64.wrap (a1 + a3))) (2 ^ (min (Int.toNat 1) (IntKind.bits .u64))))) < (IntKind.i64.wrap ((IntKind.i64.wrap ((IntKind.i64.wrap (Int.fdiv (IntKind.u64.wrap (IntKind.i64.wrap (a1 + a3))) (2 ^ (min (Int.toNat 1) (IntKind.bits .u64))))) + a2)) - v20_7))))) 209 rfl (fun c115 => ?_) (fun c115 => ?_)
        ·have h := ifT c115 h
         refine alP (some 210) rfl rfl (does_move (v := .int .i64 (IntKind.i64.wrap ((IntKind.i64.wrap ((IntKind.i64.wrap (Int.fdiv (IntKind.u64.wrap (IntKind.i64.wrap (a1 + a3))) (2 ^ (min (Int.toNat 1) (IntKind.bits .u64))))) + a2)) - v20_7))) (by exact rfl)) (by decide) ?_
         refine alP (some 211) rfl rfl (does_move (v := .int .i64 a3) (by exact rfl)) (by decide) ?_
         refine alP (some 212) rfl rfl (does_bin (v := .bool (decide ((IntKind.i64.wrap ((IntKind.i64.wrap ((IntKind.i64.wrap (Int.fdiv (IntKind.u64.wrap (IntKind.i64.wrap (a1 + a3))) (2 ^ (min (Int.toNat 1) (IntKind.bits .u64))))) + a2)) - v20_7)) < a3))) (by conv => lhs; whnf) (by conv => lhs; whnf) rfl) (by decide) ?_
         refine alP (some 213) rfl rfl (does_pick (v := .bool (decide ((IntKind.i64.wrap ((IntKind.i64.wrap ((IntKind.i64.wrap (Int.fdiv (IntKind.u64.wrap (IntKind.i64.wrap (a1 + a3))) (2 ^ (min (Int.toNat 1) (IntKind.bits .u64))))) + a2)) - v20_7)) < a3))) (by conv => lhs; whnf) (by exact rfl)) (by decide) ?_
         refine al_nil ?_
         obtain rfl := Option.some.inj h
         have h := hk114
         exact ⟨_, reb_lit [(0, .own 0 0), (3, .int .i64 a3), (4, .fn 34 [.rptr [.sl 10 (List.map enc27 a4_0)]]), (18, .int .i64 (IntKind.i64.wrap (Int.fdiv (IntKind.u64.wrap (IntKind.i64.wrap (a1 + a3))) (2 ^ (min (Int.toNat 1) (IntKind.bits .u64)))))), (24, .int .i64 (IntKind.i64.wrap ((IntKind.i64.wrap ((IntKind.i64.wrap (Int.fdiv (IntKind.u64.wrap (IntKind.i64.wrap (a1 + a3))) (2 ^ (min (Int.toNat 1) (IntKind.bits .u64))))) + a2)) - v20_7))), (213, .bool (decide ((IntKind.i64.wrap ((IntKind.i64.wrap ((IntKind.i64.wrap (Int.fdiv (IntKind.u64.wrap (IntKind.i64.wrap (a1 + a3))) (2 ^ (min (Int.toNat 1) (IntKind.bits .u64))))) + a2)) - v20_7)) < a3)))] [(0, 0)] [((0, 0), .arr 3 1 false (List.map enc2 vs0_s_11))] [(0, 1)] (envOk_cons (by conv => lhs; whnf) (by exact rfl) (envOk_cons (by conv => lhs; whnf) (by exact rfl) (envOk_cons (by conv => lhs; whnf) (by exact rfl) (envOk_cons (by conv => lhs; whnf) (by exact rfl) (envOk_cons (by conv => lhs; whnf) (by exact rfl) (envOk_cons (by conv => lhs; whnf) (by exact rfl) envOk_nil)))))) (objOk_cons (by conv => lhs; whnf) (by conv => lhs; whnf) (by exact rfl) (by simp) objOk_nil) (nodup_b rfl) (nodup_b rfl) rfl rfl, (decide ((IntKind.i64.wrap ((IntKind.i64.wrap ((IntKind.i64.wrap (Int.fdiv (IntKind.u64.wrap (IntKind.i64.wrap (a1 + a3))) (2 ^ (min (Int.toNat 1) (IntKind.bits .u64))))) + a2)) - v20_7)) < a3)), h, rfl⟩
        ·have h := ifF c115 h
         refine alS (some 210) rfl rfl (by decide) ?_
         refine alS (some 211) rfl rfl (by decide) ?_
         refine alS (some 212) rfl rfl (by decide) ?_
         refine alP (some 213) rfl rfl (does_pick (v := .bool false) (by conv => lhs; whnf) (by exact rfl)) (by decide) ?_
         refine al_nil ?_
         obtain rfl := Option.some.inj h
         have h := hk114
         exact ⟨_, reb_lit [(0, .own 0 0), (3, .int .i64 a3), (4, .fn 34 [.rptr [.sl 10 (List.map enc27 a4_0)]]), (18, .int .i64 (IntKind.i64.wrap (Int.fdiv (IntKind.u64.wrap (IntKind.i64.wrap (a1 + a3))) (2 ^ (min (Int.toNat 1) (IntKind.bits .u64)))))), (24, .int .i64 (IntKind.i64.wrap ((IntKind.i64.wrap ((IntKind.i64.wrap (Int.fdiv (IntKind.u64.wrap (IntKind.i64.wrap (a1 + a3))) (2 ^ (min (Int.toNat 1) (IntKind.bits .u64))))) + a2)) - v20_7))), (213, .bool false)] [(0, 0)] [((0, 0), .arr 3 1 false (List.map enc2 vs0_s_11))] [(0, 1)] (envOk_cons (by conv => lhs; whnf) (by exact rfl) (envOk_cons (by conv => lhs; whnf) (by exact rfl) (envOk_cons (by conv => lhs; whnf) (by exact rfl) (envOk_cons (by conv => lhs; whnf) (by exact rfl) (envOk_cons (by conv => lhs; whnf) (by exact rfl) (envOk_cons (by conv => lhs; whnf) (by exact rfl) envOk_nil)))))) (objOk_cons (by conv => lhs; whnf) (by conv => lhs; whnf) (by exact rfl) (by simp) objOk_nil) (nodup_b rfl) (nodup_b rfl) rfl rfl, false, h, rfl⟩
       ·rintro s ⟨v213_13, h, rfl⟩
        unfold slices_symMergeCmpFunc_int_tree_Kids_c1_b_k13 at h
        refine aw_bool (b := v213_13) 213 rfl (fun c116 => ?_) (fun c116 => ?_)
        ·have h := ifT c116 h
         refine aw_cond_t (by decide) rfl ?_
         refine aw_regL ?_
         refine alP (some 214) rfl rfl (does_move (v := .own 0 0) (by exact rfl)) (by decide) ?_
         refine alP (some 215) rfl rfl (does_move (v := .int .i64 (IntKind.i64.wrap (Int.fdiv (IntKind.u64.wrap (IntKind.i64.wrap (a1 + a3))) (2 ^ (min (Int.toNat 1) (IntKind.bits .u64)))))) (by exact rfl)) (by decide) ?_
         refine alP (some 216) rfl rfl (does_move (v := .int .i64 (IntKind.i64.wrap ((IntKind.i64.wrap ((IntKind.i64.wrap (Int.fdiv (IntKind.u64.wrap (IntKind.i64.wrap (a1 + a3))) (2 ^ (min (Int.toNat 1) (IntKind.bits .u64))))) + a2)) - v20_7))) (by exact rfl)) (by decide) ?_
         refine alP (some 217) rfl rfl (does_move (v := .int .i64 a3) (by exact rfl)) (by decide) ?_
         refine alP (some 218) rfl rfl (does_move (v := .fn 34 [.rptr [.sl 10 (List.map enc27 a4_0)]]) (by exact rfl)) (by decide) ?_
         obtain ⟨x117, hx117, h⟩ := bnd_some h
         refine alD (some 219) rfl rfl (do_callS 0 0 [] (hK vs0_s_11 (IntKind.i64.wrap (Int.fdiv (IntKind.u64.wrap (IntKind.i64.wrap (a1 + a3))) (2 ^ (min (Int.toNat 1) (IntKind.bits .u64))))) (IntKind.i64.wrap ((IntKind.i64.wrap ((IntKind.i64.wrap (Int.fdiv (IntKind.u64.wrap (IntKind.i64.wrap (a1 + a3))) (2 ^ (min (Int.toNat 1) (IntKind.bits .u64))))) + a2)) - v20_7)) a3 a4_0 hx117) rfl ent55 (by conv => lhs; whnf) rfl rfl (plain_map (fun _ => rfl))) (by decide) ?_
         refine al_nil ?_
         obtain rfl := Option.some.inj h
         exact end_s (by conv => lhs; whnf) (by exact rfl) (.inl rfl)
        ·have h := ifF c116 h
         refine aw_cond_f (by decide) rfl ?_
         refine aw_skip ?_
         obtain rfl := Option.some.inj h
         exact end_s (by conv => lhs; whnf) (by exact rfl) (.inl rfl)
def slices_symMergeCmpFunc_int_tree_Kids_c1N : Nat → List Int → Int → Int → Int → List Span → Option (List Int)
 | 0, _, _, _, _, _ => none
 | n + 1, a0, a1, a2, a3, a4_0 => slices_symMergeCmpFunc_int_tree_Kids_c1_b (slices_symMergeCmpFunc_int_tree_Kids_c1N n) a0 a1 a2 a3 a4_0
theorem slices_symMergeCmpFunc_int_tree_Kids_c1N_ok : ∀ (n : Nat) (a0 : List Int) (a1 : Int) (a2 : Int) (a3 : Int) (a4_0 : List Span) {r : List Int}, slices_symMergeCmpFunc_int_tree_Kids_c1N n a0 a1 a2 a3 a4_0 = some r → OkS Try.prog 55 [.own 1 0, .int .i64 a1, .int .i64 a2, .int .i64 a3, .fn 34 [.rptr [.sl 10 (List.map enc27 a4_0)]]] (3, 1, List.map enc2 a0) (3, 1, List.map enc2 r)
 | 0, _, _, _, _, _, _, h => by simp [slices_symMergeCmpFunc_int_tree_Kids_c1N] at h
 | n + 1, a0, a1, a2, a3, a4_0, _, h => slices_symMergeCmpFunc_int_tree_Kids_c1_b_ok (slices_symMergeCmpFunc_int_tree_Kids_c1N n) (slices_symMergeCmpFunc_int_tree_Kids_c1N_ok n) a0 a1 a2 a3 a4_0 h
def slices_symMergeCmpFunc_int_tree_Kids_c1 (a0 : List Int) (a1 : Int) (a2 : Int) (a3 : Int) (a4_0 : List Span) : Option (List Int) := slices_symMergeCmpFunc_int_tree_Kids_c1N Fu a0 a1 a2 a3 a4_0
theorem slices_symMergeCmpFunc_int_tree_Kids_c1_ok (a0 : List Int) (a1 : Int) (a2 : Int) (a3 : Int) (a4_0 : List Span) {r : List Int} (h : slices_symMergeCmpFunc_int_tree_Kids_c1 a0 a1 a2 a3 a4_0 = some r) : OkS Try.prog 55 [.own 1 0, .int .i64 a1, .int .i64 a2, .int .i64 a3, .fn 34 [.rptr [.sl 10 (List.map enc27 a4_0)]]] (3, 1, List.map enc2 a0) (3, 1, List.map enc2 r) := slices_symMergeCmpFunc_int_tree_Kids_c1N_ok Fu a0 a1 a2 a3 a4_0 h
end Go.Proofs.Ytmompdklolomfaa.Ab
