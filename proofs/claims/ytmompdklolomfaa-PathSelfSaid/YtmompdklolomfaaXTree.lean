/- Parents. -/
import Derived.Test.YtmompdklolomfaaXStb
import Derived.Test.YtmompdklolomfaaProg
namespace Go.Proofs.Ytmompdklolomfaa.Ab
open Go Go.RowKit
set_option linter.unusedVariables false
set_option linter.unusedSimpArgs false
def enc34 (x : List Int) : PV := .sl 1 (List.map enc2 x)
theorem ty23 : tyOf Try.prog 23 = some ⟨.int .u64, 1, 8, [.int .u64 0]⟩ := by kernel_rfl
theorem ty41 : tyOf Try.prog 41 = some ⟨.slice 34, 1, 24, [.nil]⟩ := by kernel_rfl
theorem ent20 : Ent Try.prog 20 := ⟨_, Try.func20, by kernel_rfl, rfl⟩
theorem ent23 : Ent Try.prog 23 := ⟨_, Try.func23, by kernel_rfl, rfl⟩
theorem ent32 : Ent Try.prog 32 := ⟨_, Try.func32, by kernel_rfl, rfl⟩
theorem ent33 : Ent Try.prog 33 := ⟨_, Try.func33, by kernel_rfl, rfl⟩
theorem ent41 : Ent Try.prog 41 := ⟨_, Try.func41, by kernel_rfl, rfl⟩
theorem ent42 : Ent Try.prog 42 := ⟨_, Try.func42, by kernel_rfl, rfl⟩
def tree_named_l0 (a0 : List Span) (a1 : Int) (v9_0 : Int) : Option (Int ⊕ Int) :=
 if (decide (v9_0 < (List.length a0 : Int))) = true then (gd (0 ≤ v9_0) (Option.bind (a0[(Int.toNat v9_0)]?) (fun (x12 : Span) => if (v9_0 != a1) = true then (gd (0 ≤ a1) (Option.bind (a0[(Int.toNat a1)]?) (fun (x16 : Span) => if (x12.Id == x16.Parent) = true then (some (Sum.inr v9_0)) else (some (Sum.inl (IntKind.i64.wrap (v9_0 + 1))))))) else (some (Sum.inl (IntKind.i64.wrap (v9_0 + 1))))))) else (some (Sum.inr (-1)))
def tree_named (a0 : List Span) (a1 : Int) : Option Int :=
 loopN (fun (s : Int) => tree_named_l0 a0 a1 s) Fu 0
set_option maxRecDepth 100000 in
set_option maxHeartbeats 8000000 in
theorem tree_named_ok (a0 : List Span) (a1 : Int) {r : Int} (h : tree_named a0 a1 = some r) : Ok Try.prog 41 [.sl 10 (List.map enc27 a0), .int .i64 a1] [] [] (.int .i64 r) [] [] := by
 unfold tree_named at h
 refine ok_of_code Try.func41 rfl (by show (2 : Nat) ≤ _; decide) (Nat.le_refl _) fun X => ?_
 refine aw_seq_k (fun K1 hK1 => ?_)
 refine aw_regL ?_
 refine alP (some 4) rfl rfl (does_assign (v := .int .i64 0) (by exact rfl)) (by decide) ?_
 refine al_nil ?_
 refine hK1 _ ?_
 refine aw_seq_k (fun K2 hK2 => ?_)
 refine aw_seq_k (fun K3 hK3 => ?_)
 refine aw_regL ?_
 refine alP (some 7) rfl rfl (does_move (v := .sl 10 (List.map enc27 a0)) (by exact rfl)) (by decide) ?_
 refine alP (some 8) rfl rfl ((does_len_sl (by conv => lhs; whnf) ty22).castp (v' := .int .i64 (List.length a0 : Int)) (by exact len_map _)) (by decide) ?_
 refine alP (some 9) rfl rfl (does_move (v := .int .i64 0) (by exact rfl)) (by decide) ?_
 refine al_nil ?_
 refine hK3 _ ?_
 refine aw_block ?_
 refine aw_loop' (fun m s => ∃ (v9_0 : Int), loopN (fun (s : Int) => tree_named_l0 a0 a1 s) m v9_0 = some r ∧ s = lit [(0, .sl 10 (List.map enc27 a0)), (1, .int .i64 a1), (7, .sl 10 (List.map enc27 a0)), (8, .int .i64 (List.length a0 : Int)), (9, .int .i64 v9_0)] [] [] X) Fu
  ⟨_, reb_lit [(0, .sl 10 (List.map enc27 a0)), (1, .int .i64 a1), (7, .sl 10 (List.map enc27 a0)), (8, .int .i64 (List.length a0 : Int)), (9, .int .i64 (0))] [] [] [] (envOk_cons (by conv => lhs; whnf) (by exact rfl) (envOk_cons (by conv => lhs; whnf) (by exact rfl) (envOk_cons (by conv => lhs; whnf) (by exact rfl) (envOk_cons (by conv => lhs; whnf) (by exact rfl) (envOk_cons (by conv => lhs; whnf) (by exact rfl) envOk_nil))))) objOk_nil (nodup_b rfl) (nodup_b rfl) rfl rfl, 0, h, rfl⟩ ?_
 rintro m s ⟨v9_0, h, rfl⟩
 obtain ⟨m0, q4, rfl, h, hq5⟩ := loop_some h
 replace h : tree_named_l0 a0 a1 v9_0 = some q4 := h
 unfold tree_named_l0 at h
 refine aw_seq_k (fun K6 hK6 => ?_)
 refine aw_regL ?_
 refine alP (some 10) rfl rfl (does_bin (v := .bool (decide (v9_0 < (List.length a0 : Int)))) (by conv => lhs; whnf) (by conv => lhs; whnf) rfl) (by decide) ?_
 refine al_nil ?_
 refine hK6 _ ?_
 refine aw_seq_k (fun K7 hK7 => ?_)
 refine aw_bool (b := (decide (v9_0 < (List.length a0 : Int)))) 10 rfl (fun c8 => ?_) (fun c8 => ?_)
 ·have h := ifT c8 h
  refine aw_cond_t (by decide) rfl ?_
  refine aw_skip ?_
  refine hK7 _ ?_
  refine aw_seq_k (fun K9 hK9 => ?_)
  refine aw_block ?_
  refine aw_seq_k (fun K10 hK10 => ?_)
  refine aw_regL ?_
  refine alP (some 11) rfl rfl (does_move (v := .int .i64 v9_0) (by exact rfl)) (by decide) ?_
  obtain ⟨g11, h⟩ := gd_some h
  obtain ⟨x12, hx12, h⟩ := bnd_some h
  refine alP (some 12) rfl rfl (does_indexAddr_sl (el := .agg [.int .u64 x12.Trace.Hi, .int .u64 x12.Trace.Lo, .int .u64 x12.Id, .int .u64 x12.Parent, .str x12.Service, .str x12.Op, .int .i64 x12.Start, .int .i64 x12.Dur, .bool x12.Err, .sl 2 (List.map enc39 x12.Attrs)]) (by conv => lhs; whnf) (by conv => lhs; whnf) ty22 ty28 g11 (by exact map_get hx12)) (by decide) ?_
  refine alR (some 13) rfl rfl (does_load (v := .agg [.int .u64 x12.Trace.Hi, .int .u64 x12.Trace.Lo, .int .u64 x12.Id, .int .u64 x12.Parent, .str x12.Service, .str x12.Op, .int .i64 x12.Start, .int .i64 x12.Dur, .bool x12.Err, .sl 2 (List.map enc39 x12.Attrs)]) (by conv => lhs; whnf) (by conv => lhs; whnf) ty28 (by exact rfl)) (by decide) ?_
  refine alD (some 6) rfl rfl (do_new ty28 rfl rfl) (by decide) ?_
  refine alP (some 5) rfl rfl (does_assign (v := .int .i64 v9_0) (by exact rfl)) (by decide) ?_
  refine alD none rfl rfl (do_store (cs' := [.int .u64 x12.Trace.Hi, .int .u64 x12.Trace.Lo, .int .u64 x12.Id, .int .u64 x12.Parent, .str x12.Service, .str x12.Op, .int .i64 x12.Start, .int .i64 x12.Dur, .bool x12.Err, .sl 2 (List.map enc39 x12.Attrs)]) (by conv => lhs; whnf) (by conv => lhs; whnf) (by conv => lhs; whnf) ty28 rfl rfl rfl (by exact rfl)) (by decide) ?_
  refine al_nil ?_
  refine hK10 _ ?_
  refine aw_seq_k (fun K13 hK13 => ?_)
  refine aw_regd (by kernel_rfl) (by decide +kernel) ?_
  refine aoP (some 14) rfl rfl (does_move (v := .int .i64 v9_0) (by exact rfl)) (by decide) ?_
  refine aoP (some 15) rfl rfl (does_move (v := .int .i64 a1) (by exact rfl)) (by decide) ?_
  refine aoP (some 16) rfl rfl (does_bin (v := .bool (v9_0 != a1)) (by conv => lhs; whnf) (by conv => lhs; whnf) rfl) (by decide) ?_
  refine aoP (some 17) rfl rfl (does_move (v := .bool (v9_0 != a1)) (by exact rfl)) (by decide) ?_
  refine ao_bool (c := (v9_0 != a1)) 17 rfl (fun c14 => ?_) (fun c14 => ?_)
  ·have h := ifT c14 h
   refine aoP (some 18) rfl rfl (does_fieldAddr (q := .ptr 6 0 2) (by conv => lhs; whnf) ty28 rfl ty23 (by decide) (by exact rfl)) (by decide) ?_
   refine aoR (some 19) rfl rfl (does_load (v := .int .u64 x12.Id) (by conv => lhs; whnf) (by conv => lhs; whnf) ty23 (by exact rfl)) (by decide) ?_
   refine aoP (some 20) rfl rfl (does_move (v := .sl 10 (List.map enc27 a0)) (by exact rfl)) (by decide) ?_
   refine aoP (some 21) rfl rfl (does_move (v := .int .i64 a1) (by exact rfl)) (by decide) ?_
   obtain ⟨g15, h⟩ := gd_some h
   obtain ⟨x16, hx16, h⟩ := bnd_some h
   refine aoP (some 22) rfl rfl (does_indexAddr_sl (el := .agg [.int .u64 x16.Trace.Hi, .int .u64 x16.Trace.Lo, .int .u64 x16.Id, .int .u64 x16.Parent, .str x16.Service, .str x16.Op, .int .i64 x16.Start, .int .i64 x16.Dur, .bool x16.Err, .sl 2 (List.map enc39 x16.Attrs)]) (by conv => lhs; whnf) (by conv => lhs; whnf) ty22 ty28 g15 (by exact map_get hx16)) (by decide) ?_
   refine aoP (some 23) rfl rfl (does_fieldAddr (q := .rptr [.int .u64 x16.Parent, .str x16.Service, .str x16.Op, .int .i64 x16.Start, .int .i64 x16.Dur, .bool x16.Err, .sl 2 (List.map enc39 x16.Attrs)]) (by conv => lhs; whnf) ty28 rfl ty23 (by decide) (by exact rfl)) (by decide) ?_
   refine aoR (some 24) rfl rfl (does_load (v := .int .u64 x16.Parent) (by conv => lhs; whnf) (by conv => lhs; whnf) ty23 (by exact rfl)) (by decide) ?_
   refine aoP (some 25) rfl rfl (does_bin (v := .bool (x12.Id == x16.Parent)) (by conv => lhs; whnf) (by conv => lhs; whnf) rfl) (by decide) ?_
   refine aoP (some 26) rfl rfl (does_pick (v := .bool (x12.Id == x16.Parent)) (by conv => lhs; whnf) (by exact rfl)) (by decide) ?_
   refine ao_nil_d (by kernel_rfl) ?_
   refine hK13 _ ?_
   refine aw_bool (b := (x12.Id == x16.Parent)) 26 rfl (fun c17 => ?_) (fun c17 => ?_)
   ·have h := ifT c17 h
    refine aw_cond_t (by decide) rfl ?_
    refine aw_seq_k (fun K18 hK18 => ?_)
    refine aw_regL ?_
    refine alP (some 27) rfl rfl (does_move (v := .int .i64 v9_0) (by exact rfl)) (by decide) ?_
    refine alP (some 4) rfl rfl (does_assign (v := .int .i64 v9_0) (by exact rfl)) (by decide) ?_
    refine al_nil ?_
    refine hK18 _ ?_
    refine aw_ret ?_
    have h := leafR h hq5
    obtain rfl := Option.some.inj h
    exact ret_ok1 (by conv => lhs; whnf) (by conv => lhs; whnf) (by exact rfl) (.inr rfl) rfl
   ·have h := ifF c17 h
    refine aw_cond_f (by decide) rfl ?_
    refine aw_skip ?_
    refine hK9 _ ?_
    refine aw_regL ?_
    refine alP (some 28) rfl rfl (does_bin (v := .int .i64 (IntKind.i64.wrap (v9_0 + 1))) (by conv => lhs; whnf) (by conv => lhs; whnf) rfl) (by decide) ?_
    refine alP (some 9) rfl rfl (does_move (v := .int .i64 (IntKind.i64.wrap (v9_0 + 1))) (by exact rfl)) (by decide) ?_
    refine al_nil ?_
    have h := leafL h hq5
    exact ⟨m0, Nat.lt_succ_self _, _, reb_lit [(0, .sl 10 (List.map enc27 a0)), (1, .int .i64 a1), (7, .sl 10 (List.map enc27 a0)), (8, .int .i64 (List.length a0 : Int)), (9, .int .i64 (IntKind.i64.wrap (v9_0 + 1)))] [] [] [] (envOk_cons (by conv => lhs; whnf) (by exact rfl) (envOk_cons (by conv => lhs; whnf) (by exact rfl) (envOk_cons (by conv => lhs; whnf) (by exact rfl) (envOk_cons (by conv => lhs; whnf) (by exact rfl) (envOk_cons (by conv => lhs; whnf) (by exact rfl) envOk_nil))))) objOk_nil (nodup_b rfl) (nodup_b rfl) rfl rfl, (IntKind.i64.wrap (v9_0 + 1)), h, rfl⟩
  ·have h := ifF c14 h
   refine aoS (some 18) rfl rfl (by decide) ?_
   refine aoS (some 19) rfl rfl (by decide) ?_
   refine aoS (some 20) rfl rfl (by decide) ?_
   refine aoS (some 21) rfl rfl (by decide) ?_
   refine aoS (some 22) rfl rfl (by decide) ?_
   refine aoS (some 23) rfl rfl (by decide) ?_
   refine aoS (some 24) rfl rfl (by decide) ?_
   refine aoS (some 25) rfl rfl (by decide) ?_
   refine aoP (some 26) rfl rfl (does_pick (v := .bool false) (by conv => lhs; whnf) (by exact rfl)) (by decide) ?_
   refine ao_nil_d (by kernel_rfl) ?_
   refine hK13 _ ?_
   refine aw_cond_f (by decide) rfl ?_
   refine aw_skip ?_
   refine hK9 _ ?_
   refine aw_regL ?_
   refine alP (some 28) rfl rfl (does_bin (v := .int .i64 (IntKind.i64.wrap (v9_0 + 1))) (by conv => lhs; whnf) (by conv => lhs; whnf) rfl) (by decide) ?_
   refine alP (some 9) rfl rfl (does_move (v := .int .i64 (IntKind.i64.wrap (v9_0 + 1))) (by exact rfl)) (by decide) ?_
   refine al_nil ?_
   have h := leafL h hq5
   exact ⟨m0, Nat.lt_succ_self _, _, reb_lit [(0, .sl 10 (List.map enc27 a0)), (1, .int .i64 a1), (7, .sl 10 (List.map enc27 a0)), (8, .int .i64 (List.length a0 : Int)), (9, .int .i64 (IntKind.i64.wrap (v9_0 + 1)))] [] [] [] (envOk_cons (by conv => lhs; whnf) (by exact rfl) (envOk_cons (by conv => lhs; whnf) (by exact rfl) (envOk_cons (by conv => lhs; whnf) (by exact rfl) (envOk_cons (by conv => lhs; whnf) (by exact rfl) (envOk_cons (by conv => lhs; whnf) (by exact rfl) envOk_nil))))) objOk_nil (nodup_b rfl) (nodup_b rfl) rfl rfl, (IntKind.i64.wrap (v9_0 + 1)), h, rfl⟩
 ·have h := ifF c8 h
  refine aw_cond_f (by decide) rfl ?_
  refine aw_exit ?_
  have h := leafR h hq5
  refine hK2 _ ?_
  refine aw_seq_k (fun K19 hK19 => ?_)
  refine aw_regL ?_
  refine alP (some 4) rfl rfl (does_assign (v := .int .i64 (-1)) (by exact rfl)) (by decide) ?_
  refine al_nil ?_
  refine hK19 _ ?_
  refine aw_ret ?_
  obtain rfl := Option.some.inj h
  exact ret_ok1 (by conv => lhs; whnf) (by conv => lhs; whnf) (by exact rfl) (.inr rfl) rfl
def slices_Clone_int (a0 : List Int) : Option (List Int) :=
 if List.isEmpty a0 = true then gd (((some []) : Option (List Int)) = (gd ((List.length ([] ++ a0)) * 8 ≤ 140737488355328 ∧ (List.length ([] ++ a0)) ≤ 140737488355328) (some ([] ++ a0)))) (some []) else (gd ((List.length ([] ++ a0)) * 8 ≤ 140737488355328 ∧ (List.length ([] ++ a0)) ≤ 140737488355328) (some ([] ++ a0)))
set_option maxRecDepth 100000 in
set_option maxHeartbeats 8000000 in
theorem slices_Clone_int_ok (a0 : List Int) {r : List Int} (h : slices_Clone_int a0 = some r) : Ok Try.prog 23 [.sl 1 (List.map enc2 a0)] [] [] (.own 2 0) [] [(3, 1, List.map enc2 r)] := by
 unfold slices_Clone_int at h
 refine ok_of_code Try.func23 rfl (by show (1 : Nat) ≤ _; decide) (Nat.le_refl _) fun X => ?_
 refine aw_seq_k (fun K1 hK1 => ?_)
 refine aw_regL ?_
 refine alP (some 2) rfl rfl (does_assign (v := .nil) (by exact rfl)) (by decide) ?_
 refine al_nil ?_
 refine hK1 _ ?_
 refine aw_seq_k (fun K2 hK2 => ?_)
 refine aw_seq_k (fun K3 hK3 => ?_)
 refine aw_region_nil (l1 := [_]) (.cons (acts_of rfl (does_move (v := .sl 1 (List.map enc2 a0)) (by exact rfl))) (by decide) (.nil _)) (ty_slice ty34) (by conv => lhs; whnf) (by conv => lhs; whnf) (fun t e => by cases e; decide) (by kernel_rfl) (fun b hb => ?_)
 cases b
 ·have h := nilF h
  refine hK3 _ ?_
  refine aw_cond_f (by decide) rfl ?_
  refine aw_skip ?_
  refine hK2 _ ?_
  refine aw_seq_k (fun K4 hK4 => ?_)
  refine aw_regL ?_
  refine alD (some 5) rfl rfl (do_buildSlice (xs := List.map enc2 []) ty34 ty3 rfl rfl rfl rfl rfl rfl rfl rfl) (by decide) ?_
  refine alP (some 6) rfl rfl (does_move (v := .sl 1 (List.map enc2 a0)) (by exact rfl)) (by decide) ?_
  obtain ⟨g5, h⟩ := gd_some h
  refine alD (some 7) rfl rfl (do_append (v := List.map enc2 ([] ++ a0)) (by conv => lhs; whnf) (by conv => lhs; whnf) ty34 ty3 rfl rfl (by conv => lhs; whnf) (by first | exact .inl rfl | exact .inr ⟨rfl, rfl⟩) (by conv => lhs; whnf) (by first | exact .inr rfl | exact .inl rfl) (map_app _ _) (fit_map g5)) (by decide) ?_
  refine alP (some 2) rfl rfl (does_assign (v := .own 7 0) (by exact rfl)) (by decide) ?_
  refine al_nil ?_
  refine hK4 _ ?_
  refine aw_ret ?_
  obtain rfl := Option.some.inj h
  exact ret_okR [(7, 0)] (by conv => lhs; whnf) (by conv => lhs; whnf) (by exact rfl) (rowsOk_cons (by conv => lhs; whnf) (by exact rfl) trivial) (nodup_b rfl) (.inr rfl) rfl
 ·have h := nilT hb h
  refine hK3 _ ?_
  refine aw_cond_t (by decide) rfl ?_
  refine aw_seq_k (fun K6 hK6 => ?_)
  refine aw_regL ?_
  refine alP (some 2) rfl rfl (does_assign (v := .nil) (by exact rfl)) (by decide) ?_
  refine al_nil ?_
  refine hK6 _ ?_
  refine aw_nilOwn 2 3 1 (by conv => lhs; whnf) (by decide) (by decide) ?_
  refine aw_ret ?_
  obtain rfl := Option.some.inj h
  exact ret_okR [(2, 0)] (by conv => lhs; whnf) (by conv => lhs; whnf) (by exact rfl) (rowsOk_cons (by conv => lhs; whnf) (by exact rfl) trivial) (nodup_b rfl) (.inr rfl) rfl
def tree_ring_k1 (a0 : List Int) (a1 : Int) (v5_0 : Int) (v6_0 : Int) (v7_0 : Int) : Option ((Int × Int × Int) ⊕ Int) :=
 if (v6_0 == a1) = true then (some (Sum.inr v5_0)) else (gd (0 ≤ v6_0) (Option.bind (a0[(Int.toNat v6_0)]?) (fun (x23 : Int) => some (Sum.inl ((if v6_0 < v5_0 then v6_0 else v5_0), x23, (IntKind.i64.wrap (v7_0 + 1)))))))
def tree_ring_l0 (a0 : List Int) (a1 : Int) (v5_0 : Int) (v6_0 : Int) (v7_0 : Int) : Option ((Int × Int × Int) ⊕ Int) :=
 Option.bind (if (v6_0 != (-1)) = true then (if (decide (v7_0 < (List.length a0 : Int))) = true then (some (Sum.inl ())) else (some (Sum.inr (Sum.inr (-1))))) else (some (Sum.inr (Sum.inr (-1))))) (Sum.elim (fun (s : Unit) => tree_ring_k1 a0 a1 v5_0 v6_0 v7_0) some)
def tree_ring (a0 : List Int) (a1 : Int) : Option Int :=
 gd (0 ≤ a1) (Option.bind (a0[(Int.toNat a1)]?) (fun (x6 : Int) => loopN (fun (s : Int × Int × Int) => tree_ring_l0 a0 a1 s.1 s.2.1 s.2.2) Fu (a1, x6, 0)))
set_option maxRecDepth 100000 in
set_option maxHeartbeats 8000000 in
theorem tree_ring_ok (a0 : List Int) (a1 : Int) {r : Int} (h : tree_ring a0 a1 = some r) : Ok Try.prog 42 [.sl 1 (List.map enc2 a0), .int .i64 a1] [] [] (.int .i64 r) [] [] := by
 unfold tree_ring at h
 refine ok_of_code Try.func42 rfl (by show (2 : Nat) ≤ _; decide) (Nat.le_refl _) fun X => ?_
 refine aw_seq_k (fun K1 hK1 => ?_)
 refine aw_regL ?_
 refine alP (some 4) rfl rfl (does_assign (v := .int .i64 0) (by exact rfl)) (by decide) ?_
 refine al_nil ?_
 refine hK1 _ ?_
 refine aw_seq_k (fun K2 hK2 => ?_)
 refine aw_regL ?_
 refine alP (some 8) rfl rfl (does_move (v := .int .i64 a1) (by exact rfl)) (by decide) ?_
 refine alP (some 5) rfl rfl (does_assign (v := .int .i64 a1) (by exact rfl)) (by decide) ?_
 refine al_nil ?_
 refine hK2 _ ?_
 refine aw_seq_k (fun K3 hK3 => ?_)
 refine aw_seq_k (fun K4 hK4 => ?_)
 refine aw_regL ?_
 refine alP (some 9) rfl rfl (does_move (v := .sl 1 (List.map enc2 a0)) (by exact rfl)) (by decide) ?_
 refine alP (some 10) rfl rfl (does_move (v := .int .i64 a1) (by exact rfl)) (by decide) ?_
 obtain ⟨g5, h⟩ := gd_some h
 obtain ⟨x6, hx6, h⟩ := bnd_some h
 refine alP (some 11) rfl rfl (does_indexAddr_sl (el := .int .i64 x6) (by conv => lhs; whnf) (by conv => lhs; whnf) ty34 ty3 g5 (by exact map_get hx6)) (by decide) ?_
 refine alR (some 12) rfl rfl (does_load (v := .int .i64 x6) (by conv => lhs; whnf) (by conv => lhs; whnf) ty3 (by exact rfl)) (by decide) ?_
 refine alP (some 6) rfl rfl (does_assign (v := .int .i64 x6) (by exact rfl)) (by decide) ?_
 refine alP (some 7) rfl rfl (does_assign (v := .int .i64 0) (by exact rfl)) (by decide) ?_
 refine al_nil ?_
 refine hK4 _ ?_
 refine aw_block ?_
 refine aw_loop' (fun m s => ∃ (v5_0 : Int), ∃ (v6_0 : Int), ∃ (v7_0 : Int), loopN (fun (s : Int × Int × Int) => tree_ring_l0 a0 a1 s.1 s.2.1 s.2.2) m (v5_0, v6_0, v7_0) = some r ∧ s = lit [(0, .sl 1 (List.map enc2 a0)), (1, .int .i64 a1), (5, .int .i64 v5_0), (6, .int .i64 v6_0), (7, .int .i64 v7_0)] [] [] X) Fu
  ⟨_, reb_lit [(0, .sl 1 (List.map enc2 a0)), (1, .int .i64 a1), (5, .int .i64 a1), (6, .int .i64 x6), (7, .int .i64 (0))] [] [] [] (envOk_cons (by conv => lhs; whnf) (by exact rfl) (envOk_cons (by conv => lhs; whnf) (by exact rfl) (envOk_cons (by conv => lhs; whnf) (by exact rfl) (envOk_cons (by conv => lhs; whnf) (by exact rfl) (envOk_cons (by conv => lhs; whnf) (by exact rfl) envOk_nil))))) objOk_nil (nodup_b rfl) (nodup_b rfl) rfl rfl, a1, x6, 0, h, rfl⟩ ?_
 rintro m s ⟨v5_0, v6_0, v7_0, h, rfl⟩
 obtain ⟨m0, q7, rfl, h, hq8⟩ := loop_some h
 replace h : tree_ring_l0 a0 a1 v5_0 v6_0 v7_0 = some q7 := h
 unfold tree_ring_l0 at h
 obtain ⟨q9, h, hk10⟩ := bnd_some h
 refine aw_cut (fun s => tree_ring_k1 a0 a1 v5_0 v6_0 v7_0 = some q7 ∧ s = lit [(0, .sl 1 (List.map enc2 a0)), (1, .int .i64 a1), (5, .int .i64 v5_0), (6, .int .i64 v6_0), (7, .int .i64 v7_0)] [] [] X) ?_ ?_
 ·skip
  refine aw_seq_k (fun K11 hK11 => ?_)
  refine aw_regL ?_
  refine alP (some 13) rfl rfl (does_move (v := .int .i64 v6_0) (by exact rfl)) (by decide) ?_
  refine alP (some 14) rfl rfl (does_bin (v := .bool (v6_0 != (-1))) (by conv => lhs; whnf) (by conv => lhs; whnf) rfl) (by decide) ?_
  refine alP (some 15) rfl rfl (does_move (v := .bool (v6_0 != (-1))) (by exact rfl)) (by decide) ?_
  refine al_bool (c := (v6_0 != (-1))) 15 rfl (fun c12 => ?_) (fun c12 => ?_)
  ·have h := ifT c12 h
   refine alP (some 16) rfl rfl (does_move (v := .int .i64 v7_0) (by exact rfl)) (by decide) ?_
   refine alP (some 17) rfl rfl (does_move (v := .sl 1 (List.map enc2 a0)) (by exact rfl)) (by decide) ?_
   refine alP (some 18) rfl rfl ((does_len_sl (by conv => lhs; whnf) ty34).castp (v' := .int .i64 (List.length a0 : Int)) (by exact len_map _)) (by decide) ?_
   refine alP (some 19) rfl rfl (does_bin (v := .bool (decide (v7_0 < (List.length a0 : Int)))) (by conv => lhs; whnf) (by conv => lhs; whnf) rfl) (by decide) ?_
   refine alP (some 20) rfl rfl (does_pick (v := .bool (decide (v7_0 < (List.length a0 : Int)))) (by conv => lhs; whnf) (by exact rfl)) (by decide) ?_
   refine al_nil ?_
   refine hK11 _ ?_
   refine aw_bool (b := (decide (v7_0 < (List.length a0 : Int)))) 20 rfl (fun c13 => ?_) (fun c13 => ?_)
   ·have h := ifT c13 h
    refine aw_cond_t (by decide) rfl ?_
    refine aw_skip ?_
    have h := leafL h hk10
    exact ⟨_, reb_lit [(0, .sl 1 (List.map enc2 a0)), (1, .int .i64 a1), (5, .int .i64 v5_0), (6, .int .i64 v6_0), (7, .int .i64 v7_0)] [] [] [] (envOk_cons (by conv => lhs; whnf) (by exact rfl) (envOk_cons (by conv => lhs; whnf) (by exact rfl) (envOk_cons (by conv => lhs; whnf) (by exact rfl) (envOk_cons (by conv => lhs; whnf) (by exact rfl) (envOk_cons (by conv => lhs; whnf) (by exact rfl) envOk_nil))))) objOk_nil (nodup_b rfl) (nodup_b rfl) rfl rfl, h, rfl⟩
   ·have h := ifF c13 h
    refine aw_cond_f (by decide) rfl ?_
    refine aw_exit ?_
    have h := leafR h hk10
    have h := leafR h hq8
    refine hK3 _ ?_
    refine aw_seq_k (fun K14 hK14 => ?_)
    refine aw_regL ?_
    refine alP (some 4) rfl rfl (does_assign (v := .int .i64 (-1)) (by exact rfl)) (by decide) ?_
    refine al_nil ?_
    refine hK14 _ ?_
    refine aw_ret ?_
    obtain rfl := Option.some.inj h
    exact ret_ok1 (by conv => lhs; whnf) (by conv => lhs; whnf) (by exact rfl) (.inr rfl) rfl
  ·have h := ifF c12 h
   refine alS (some 16) rfl rfl (by decide) ?_
   refine alS (some 17) rfl rfl (by decide) ?_
   refine alS (some 18) rfl rfl (by decide) ?_
   refine alS (some 19) rfl rfl (by decide) ?_
   refine alP (some 20) rfl rfl (does_pick (v := .bool false) (by conv => lhs; whnf) (by exact rfl)) (by decide) ?_
   refine al_nil ?_
   refine hK11 _ ?_
   refine aw_cond_f (by decide) rfl ?_
   refine aw_exit ?_
   have h := leafR h hk10
   have h := leafR h hq8
   refine hK3 _ ?_
   refine aw_seq_k (fun K15 hK15 => ?_)
   refine aw_regL ?_
   refine alP (some 4) rfl rfl (does_assign (v := .int .i64 (-1)) (by exact rfl)) (by decide) ?_
   refine al_nil ?_
   refine hK15 _ ?_
   refine aw_ret ?_
   obtain rfl := Option.some.inj h
   exact ret_ok1 (by conv => lhs; whnf) (by conv => lhs; whnf) (by exact rfl) (.inr rfl) rfl
 ·rintro s ⟨h, rfl⟩
  unfold tree_ring_k1 at h
  refine aw_seq_k (fun K16 hK16 => ?_)
  refine aw_block ?_
  refine aw_seq_k (fun K17 hK17 => ?_)
  refine aw_seq_k (fun K18 hK18 => ?_)
  refine aw_regL ?_
  refine alP (some 23) rfl rfl (does_move (v := .int .i64 v6_0) (by exact rfl)) (by decide) ?_
  refine alP (some 24) rfl rfl (does_move (v := .int .i64 a1) (by exact rfl)) (by decide) ?_
  refine alP (some 25) rfl rfl (does_bin (v := .bool (v6_0 == a1)) (by conv => lhs; whnf) (by conv => lhs; whnf) rfl) (by decide) ?_
  refine al_nil ?_
  refine hK18 _ ?_
  refine aw_bool (b := (v6_0 == a1)) 25 rfl (fun c19 => ?_) (fun c19 => ?_)
  ·have h := ifT c19 h
   refine aw_cond_t (by decide) rfl ?_
   refine aw_seq_k (fun K20 hK20 => ?_)
   refine aw_regL ?_
   refine alP (some 26) rfl rfl (does_move (v := .int .i64 v5_0) (by exact rfl)) (by decide) ?_
   refine alP (some 4) rfl rfl (does_assign (v := .int .i64 v5_0) (by exact rfl)) (by decide) ?_
   refine al_nil ?_
   refine hK20 _ ?_
   refine aw_ret ?_
   have h := leafR h hq8
   obtain rfl := Option.some.inj h
   exact ret_ok1 (by conv => lhs; whnf) (by conv => lhs; whnf) (by exact rfl) (.inr rfl) rfl
  ·have h := ifF c19 h
   refine aw_cond_f (by decide) rfl ?_
   refine aw_skip ?_
   refine hK17 _ ?_
   refine aw_seq_k (fun K21 hK21 => ?_)
   refine aw_regL ?_
   refine alP (some 27) rfl rfl (does_move (v := .int .i64 v5_0) (by exact rfl)) (by decide) ?_
   refine alP (some 28) rfl rfl (does_move (v := .int .i64 v6_0) (by exact rfl)) (by decide) ?_
   refine alP (some 29) rfl rfl ((does_min (by conv => lhs; whnf) (by conv => lhs; whnf)).castp (v' := .int .i64 (if v6_0 < v5_0 then v6_0 else v5_0)) rfl) (by decide) ?_
   refine alP (some 5) rfl rfl (does_assign (v := .int .i64 (if v6_0 < v5_0 then v6_0 else v5_0)) (by exact rfl)) (by decide) ?_
   refine al_nil ?_
   refine hK21 _ ?_
   refine aw_regL ?_
   refine alP (some 30) rfl rfl (does_move (v := .sl 1 (List.map enc2 a0)) (by exact rfl)) (by decide) ?_
   refine alP (some 31) rfl rfl (does_move (v := .int .i64 v6_0) (by exact rfl)) (by decide) ?_
   obtain ⟨g22, h⟩ := gd_some h
   obtain ⟨x23, hx23, h⟩ := bnd_some h
   refine alP (some 32) rfl rfl (does_indexAddr_sl (el := .int .i64 x23) (by conv => lhs; whnf) (by conv => lhs; whnf) ty34 ty3 g22 (by exact map_get hx23)) (by decide) ?_
   refine alR (some 33) rfl rfl (does_load (v := .int .i64 x23) (by conv => lhs; whnf) (by conv => lhs; whnf) ty3 (by exact rfl)) (by decide) ?_
   refine alP (some 6) rfl rfl (does_assign (v := .int .i64 x23) (by exact rfl)) (by decide) ?_
   refine al_nil ?_
   refine hK16 _ ?_
   refine aw_regL ?_
   refine alP (some 21) rfl rfl (does_move (v := .int .i64 v7_0) (by exact rfl)) (by decide) ?_
   refine alP (some 22) rfl rfl (does_bin (v := .int .i64 (IntKind.i64.wrap (v7_0 + 1))) (by conv => lhs; whnf) (by conv => lhs; whnf) rfl) (by decide) ?_
   refine alP (some 7) rfl rfl (does_assign (v := .int .i64 (IntKind.i64.wrap (v7_0 + 1))) (by exact rfl)) (by decide) ?_
   refine al_nil ?_
   have h := leafL h hq8
   exact ⟨m0, Nat.lt_succ_self _, _, reb_lit [(0, .sl 1 (List.map enc2 a0)), (1, .int .i64 a1), (5, .int .i64 (if v6_0 < v5_0 then v6_0 else v5_0)), (6, .int .i64 x23), (7, .int .i64 (IntKind.i64.wrap (v7_0 + 1)))] [] [] [] (envOk_cons (by conv => lhs; whnf) (by exact rfl) (envOk_cons (by conv => lhs; whnf) (by exact rfl) (envOk_cons (by conv => lhs; whnf) (by exact rfl) (envOk_cons (by conv => lhs; whnf) (by exact rfl) (envOk_cons (by conv => lhs; whnf) (by exact rfl) envOk_nil))))) objOk_nil (nodup_b rfl) (nodup_b rfl) rfl rfl, (if v6_0 < v5_0 then v6_0 else v5_0), x23, (IntKind.i64.wrap (v7_0 + 1)), h, rfl⟩
def tree_Parents_l1 (a0 : List Span) (v3_s_1 : List Int) (v9_1 : Int) : Option ((List Int × Int) ⊕ (List Int)) :=
 if (decide (v9_1 < (List.length a0 : Int))) = true then (Option.bind (tree_named a0 v9_1) (fun (x13 : Int) => gd ((List.length (v3_s_1 ++ [x13])) * 8 ≤ 140737488355328 ∧ (List.length (v3_s_1 ++ [x13])) ≤ 140737488355328) (some (Sum.inl ((v3_s_1 ++ [x13]), (IntKind.i64.wrap (v9_1 + 1))))))) else (some (Sum.inr v3_s_1))
def tree_Parents_l2 (a0 : List Span) (v3_s_0 : List Int) (v5_s_2 : List Int) (v23_2 : Int) : Option ((List Int × Int) ⊕ (List Int)) :=
 if (decide (v23_2 < (List.length a0 : Int))) = true then (Option.bind (tree_ring v3_s_0 v23_2) (fun (x27 : Int) => if (x27 == v23_2) = true then (gd (0 ≤ v23_2) (Option.bind (v5_s_2[(Int.toNat v23_2)]?) (fun (x30 : Int) => some (Sum.inl ((List.set v5_s_2 (Int.toNat v23_2) (-1)), (IntKind.i64.wrap (v23_2 + 1))))))) else (some (Sum.inl (v5_s_2, (IntKind.i64.wrap (v23_2 + 1))))))) else (some (Sum.inr v5_s_2))
def tree_Parents_k0 (a0 : List Span) (v3_s_0 : List Int) : Option (List Int) :=
 Option.bind (slices_Clone_int v3_s_0) (fun (x16 : List Int) => loopN (fun (s : List Int × Int) => tree_Parents_l2 a0 v3_s_0 s.1 s.2) Fu (x16, 0))
def tree_Parents (a0 : List Span) : Option (List Int) :=
 Option.bind (loopN (fun (s : List Int × Int) => tree_Parents_l1 a0 s.1 s.2) Fu ([], 0)) (fun (s : List Int) => tree_Parents_k0 a0 s)
set_option maxRecDepth 100000 in
set_option maxHeartbeats 8000000 in
theorem tree_Parents_ok (a0 : List Span) {r : List Int} (h : tree_Parents a0 = some r) : Ok Try.prog 32 [.sl 10 (List.map enc27 a0)] [] [] (.own 2 0) [] [(3, 1, List.map enc2 r)] := by
 unfold tree_Parents at h
 refine ok_of_code Try.func32 rfl (by show (1 : Nat) ≤ _; decide) (Nat.le_refl _) fun X => ?_
 refine aw_seq_k (fun K1 hK1 => ?_)
 refine aw_regL ?_
 refine alP (some 2) rfl rfl (does_assign (v := .nil) (by exact rfl)) (by decide) ?_
 refine al_nil ?_
 refine hK1 _ ?_
 refine aw_seq_k (fun K2 hK2 => ?_)
 refine aw_regL ?_
 refine alP (some 3) rfl rfl (does_assign (v := .nil) (by exact rfl)) (by decide) ?_
 refine al_nil ?_
 refine hK2 _ ?_
 obtain ⟨q3, h, hk4⟩ := bnd_some h
 refine aw_cut (fun s => ∃ (v3_s_0 : List Int), tree_Parents_k0 a0 v3_s_0 = some r ∧ s = lit [(0, .sl 10 (List.map enc27 a0)), (3, .own 3 0)] [((3, 0), .arr 3 1 false (List.map enc2 v3_s_0))] [(3, 1)] X) ?_ ?_
 ·skip
  refine aw_seq_k (fun K5 hK5 => ?_)
  refine aw_regL ?_
  refine alP (some 7) rfl rfl (does_move (v := .sl 10 (List.map enc27 a0)) (by exact rfl)) (by decide) ?_
  refine alP (some 8) rfl rfl ((does_len_sl (by conv => lhs; whnf) ty22).castp (v' := .int .i64 (List.length a0 : Int)) (by exact len_map _)) (by decide) ?_
  refine alP (some 9) rfl rfl (does_move (v := .int .i64 0) (by exact rfl)) (by decide) ?_
  refine al_nil ?_
  refine hK5 _ ?_
  refine aw_block ?_
  refine aw_nilOwn 3 3 1 (by conv => lhs; whnf) (by decide) (by decide) ?_
  refine aw_loop' (fun m s => ∃ (v3_s_1 : List Int), ∃ (v9_1 : Int), loopN (fun (s : List Int × Int) => tree_Parents_l1 a0 s.1 s.2) m (v3_s_1, v9_1) = some q3 ∧ s = lit [(0, .sl 10 (List.map enc27 a0)), (3, .own 3 0), (8, .int .i64 (List.length a0 : Int)), (9, .int .i64 v9_1)] [((3, 0), .arr 3 1 false (List.map enc2 v3_s_1))] [(3, 1)] X) Fu
   ⟨_, reb_lit [(0, .sl 10 (List.map enc27 a0)), (3, .own 3 0), (8, .int .i64 (List.length a0 : Int)), (9, .int .i64 (0))] [(3, 0)] [((3, 0), .arr 3 1 false (List.map enc2 []))] [(3, 1)] (envOk_cons (by conv => lhs; whnf) (by exact rfl) (envOk_cons (by conv => lhs; whnf) (by exact rfl) (envOk_cons (by conv => lhs; whnf) (by exact rfl) (envOk_cons (by conv => lhs; whnf) (by exact rfl) envOk_nil)))) (objOk_cons (by conv => lhs; whnf) (by conv => lhs; whnf) (by exact rfl) (by simp) objOk_nil) (nodup_b rfl) (nodup_b rfl) rfl rfl, [], 0, h, rfl⟩ ?_
  rintro m s ⟨v3_s_1, v9_1, h, rfl⟩
  obtain ⟨m1, q6, rfl, h, hq7⟩ := loop_some h
  replace h : tree_Parents_l1 a0 v3_s_1 v9_1 = some q6 := h
  unfold tree_Parents_l1 at h
  refine aw_seq_k (fun K8 hK8 => ?_)
  refine aw_regL ?_
  refine alP (some 10) rfl rfl (does_bin (v := .bool (decide (v9_1 < (List.length a0 : Int)))) (by conv => lhs; whnf) (by conv => lhs; whnf) rfl) (by decide) ?_
  refine al_nil ?_
  refine hK8 _ ?_
  refine aw_seq_k (fun K9 hK9 => ?_)
  refine aw_bool (b := (decide (v9_1 < (List.length a0 : Int)))) 10 rfl (fun c10 => ?_) (fun c10 => ?_)
  ·have h := ifT c10 h
   refine aw_cond_t (by decide) rfl ?_
   refine aw_skip ?_
   refine hK9 _ ?_
   refine aw_seq_k (fun K11 hK11 => ?_)
   refine aw_block ?_
   refine aw_seq_k (fun K12 hK12 => ?_)
   refine aw_regL ?_
   refine alP (some 11) rfl rfl (does_move (v := .int .i64 v9_1) (by exact rfl)) (by decide) ?_
   refine alP (some 4) rfl rfl (does_assign (v := .int .i64 v9_1) (by exact rfl)) (by decide) ?_
   refine al_nil ?_
   refine hK12 _ ?_
   refine aw_regL ?_
   refine alP (some 12) rfl rfl (does_move (v := .own 3 0) (by exact rfl)) (by decide) ?_
   refine alP (some 13) rfl rfl (does_move (v := .sl 10 (List.map enc27 a0)) (by exact rfl)) (by decide) ?_
   refine alP (some 14) rfl rfl (does_move (v := .int .i64 v9_1) (by exact rfl)) (by decide) ?_
   obtain ⟨x13, hx13, h⟩ := bnd_some h
   refine alD (some 15) rfl rfl (do_call0 15 false (tree_named_ok a0 v9_1 hx13) rfl ent41 rfl rfl) (by decide) ?_
   refine alD (some 16) rfl rfl (do_buildSlice (xs := List.map enc2 [x13]) ty34 ty3 rfl rfl rfl rfl rfl rfl rfl rfl) (by decide) ?_
   obtain ⟨g14, h⟩ := gd_some h
   refine alD (some 17) rfl rfl (do_append (v := List.map enc2 (v3_s_1 ++ [x13])) (by conv => lhs; whnf) (by conv => lhs; whnf) ty34 ty3 rfl rfl (by conv => lhs; whnf) (by first | exact .inl rfl | exact .inr ⟨rfl, rfl⟩) (by conv => lhs; whnf) (by first | exact .inr rfl | exact .inl rfl) (map_app _ _) (fit_map g14)) (by decide) ?_
   refine alP (some 3) rfl rfl (does_assign (v := .own 17 0) (by exact rfl)) (by decide) ?_
   refine al_nil ?_
   refine hK11 _ ?_
   refine aw_regL ?_
   refine alP (some 18) rfl rfl (does_bin (v := .int .i64 (IntKind.i64.wrap (v9_1 + 1))) (by conv => lhs; whnf) (by conv => lhs; whnf) rfl) (by decide) ?_
   refine alP (some 9) rfl rfl (does_move (v := .int .i64 (IntKind.i64.wrap (v9_1 + 1))) (by exact rfl)) (by decide) ?_
   refine al_nil ?_
   have h := leafL h hq7
   exact ⟨m1, Nat.lt_succ_self _, _, reb_lit [(0, .sl 10 (List.map enc27 a0)), (3, .own 3 0), (8, .int .i64 (List.length a0 : Int)), (9, .int .i64 (IntKind.i64.wrap (v9_1 + 1)))] [(17, 0)] [((3, 0), .arr 3 1 false (List.map enc2 (v3_s_1 ++ [x13])))] [(3, 1)] (envOk_cons (by conv => lhs; whnf) (by exact rfl) (envOk_cons (by conv => lhs; whnf) (by exact rfl) (envOk_cons (by conv => lhs; whnf) (by exact rfl) (envOk_cons (by conv => lhs; whnf) (by exact rfl) envOk_nil)))) (objOk_cons (by conv => lhs; whnf) (by conv => lhs; whnf) (by exact rfl) (by simp) objOk_nil) (nodup_b rfl) (nodup_b rfl) rfl rfl, (v3_s_1 ++ [x13]), (IntKind.i64.wrap (v9_1 + 1)), h, rfl⟩
  ·have h := ifF c10 h
   refine aw_cond_f (by decide) rfl ?_
   refine aw_exit ?_
   have h := leafR h hq7
   obtain rfl := Option.some.inj h
   have h := hk4
   exact ⟨_, reb_lit [(0, .sl 10 (List.map enc27 a0)), (3, .own 3 0)] [(3, 0)] [((3, 0), .arr 3 1 false (List.map enc2 v3_s_1))] [(3, 1)] (envOk_cons (by conv => lhs; whnf) (by exact rfl) (envOk_cons (by conv => lhs; whnf) (by exact rfl) envOk_nil)) (objOk_cons (by conv => lhs; whnf) (by conv => lhs; whnf) (by exact rfl) (by simp) objOk_nil) (nodup_b rfl) (nodup_b rfl) rfl rfl, v3_s_1, h, rfl⟩
 ·rintro s ⟨v3_s_0, h, rfl⟩
  unfold tree_Parents_k0 at h
  refine aw_seq_k (fun K15 hK15 => ?_)
  refine aw_regL ?_
  refine alP (some 19) rfl rfl (does_move (v := .own 3 0) (by exact rfl)) (by decide) ?_
  obtain ⟨x16, hx16, h⟩ := bnd_some h
  refine alD (some 20) rfl rfl (do_callG (bcs := []) [] [] [(3, 0)] 20 false (slices_Clone_int_ok v3_s_0 hx16) rfl ent23 trivial trivial rfl rfl rfl rfl rfl rfl rfl rfl (.inr ⟨rfl, rfl, ⟨plain_map (fun _ => rfl), trivial⟩⟩)) (by decide) ?_
  refine alP (some 5) rfl rfl (does_assign (v := .own 20 0) (by exact rfl)) (by decide) ?_
  refine al_nil ?_
  refine hK15 _ ?_
  refine aw_seq_k (fun K17 hK17 => ?_)
  refine aw_seq_k (fun K18 hK18 => ?_)
  refine aw_regL ?_
  refine alP (some 21) rfl rfl (does_move (v := .sl 10 (List.map enc27 a0)) (by exact rfl)) (by decide) ?_
  refine alP (some 22) rfl rfl ((does_len_sl (by conv => lhs; whnf) ty22).castp (v' := .int .i64 (List.length a0 : Int)) (by exact len_map _)) (by decide) ?_
  refine alP (some 23) rfl rfl (does_move (v := .int .i64 0) (by exact rfl)) (by decide) ?_
  refine al_nil ?_
  refine hK18 _ ?_
  refine aw_block ?_
  refine aw_loop' (fun m s => ∃ (v5_s_2 : List Int), ∃ (v23_2 : Int), loopN (fun (s : List Int × Int) => tree_Parents_l2 a0 v3_s_0 s.1 s.2) m (v5_s_2, v23_2) = some r ∧ s = lit [(3, .own 3 0), (5, .own 20 0), (22, .int .i64 (List.length a0 : Int)), (23, .int .i64 v23_2)] [((3, 0), .arr 3 1 false (List.map enc2 v3_s_0)), ((20, 0), .arr 3 1 false (List.map enc2 v5_s_2))] [(3, 1), (20, 1)] X) Fu
   ⟨_, reb_lit [(3, .own 3 0), (5, .own 20 0), (22, .int .i64 (List.length a0 : Int)), (23, .int .i64 (0))] [(3, 0), (20, 0)] [((3, 0), .arr 3 1 false (List.map enc2 v3_s_0)), ((20, 0), .arr 3 1 false (List.map enc2 x16))] [(3, 1), (20, 1)] (envOk_cons (by conv => lhs; whnf) (by exact rfl) (envOk_cons (by conv => lhs; whnf) (by exact rfl) (envOk_cons (by conv => lhs; whnf) (by exact rfl) (envOk_cons (by conv => lhs; whnf) (by exact rfl) envOk_nil)))) (objOk_cons (by conv => lhs; whnf) (by conv => lhs; whnf) (by exact rfl) (by simp) (objOk_cons (by conv => lhs; whnf) (by conv => lhs; whnf) (by exact rfl) (by simp) objOk_nil)) (nodup_b rfl) (nodup_b rfl) rfl rfl, x16, 0, h, rfl⟩ ?_
  rintro m s ⟨v5_s_2, v23_2, h, rfl⟩
  obtain ⟨m2, q19, rfl, h, hq20⟩ := loop_some h
  replace h : tree_Parents_l2 a0 v3_s_0 v5_s_2 v23_2 = some q19 := h
  unfold tree_Parents_l2 at h
  refine aw_seq_k (fun K21 hK21 => ?_)
  refine aw_regL ?_
  refine alP (some 24) rfl rfl (does_bin (v := .bool (decide (v23_2 < (List.length a0 : Int)))) (by conv => lhs; whnf) (by conv => lhs; whnf) rfl) (by decide) ?_
  refine al_nil ?_
  refine hK21 _ ?_
  refine aw_seq_k (fun K22 hK22 => ?_)
  refine aw_bool (b := (decide (v23_2 < (List.length a0 : Int)))) 24 rfl (fun c23 => ?_) (fun c23 => ?_)
  ·have h := ifT c23 h
   refine aw_cond_t (by decide) rfl ?_
   refine aw_skip ?_
   refine hK22 _ ?_
   refine aw_seq_k (fun K24 hK24 => ?_)
   refine aw_block ?_
   refine aw_seq_k (fun K25 hK25 => ?_)
   refine aw_regL ?_
   refine alP (some 25) rfl rfl (does_move (v := .int .i64 v23_2) (by exact rfl)) (by decide) ?_
   refine alP (some 6) rfl rfl (does_assign (v := .int .i64 v23_2) (by exact rfl)) (by decide) ?_
   refine al_nil ?_
   refine hK25 _ ?_
   refine aw_seq_k (fun K26 hK26 => ?_)
   refine aw_regL ?_
   refine alP (some 26) rfl rfl (does_move (v := .own 3 0) (by exact rfl)) (by decide) ?_
   refine alP (some 27) rfl rfl (does_move (v := .int .i64 v23_2) (by exact rfl)) (by decide) ?_
   obtain ⟨x27, hx27, h⟩ := bnd_some h
   refine alD (some 28) rfl rfl (do_callG (bcs := []) [] [] [(3, 0)] 28 false (tree_ring_ok v3_s_0 v23_2 hx27) rfl ent42 trivial trivial rfl rfl rfl rfl rfl rfl rfl rfl (.inr ⟨rfl, rfl, trivial⟩)) (by decide) ?_
   refine alP (some 29) rfl rfl (does_move (v := .int .i64 v23_2) (by exact rfl)) (by decide) ?_
   refine alP (some 30) rfl rfl (does_bin (v := .bool (x27 == v23_2)) (by conv => lhs; whnf) (by conv => lhs; whnf) rfl) (by decide) ?_
   refine al_nil ?_
   refine hK26 _ ?_
   refine aw_bool (b := (x27 == v23_2)) 30 rfl (fun c28 => ?_) (fun c28 => ?_)
   ·have h := ifT c28 h
    refine aw_cond_t (by decide) rfl ?_
    refine aw_regL ?_
    refine alP (some 31) rfl rfl (does_move (v := .own 20 0) (by exact rfl)) (by decide) ?_
    refine alP (some 32) rfl rfl (does_move (v := .int .i64 v23_2) (by exact rfl)) (by decide) ?_
    obtain ⟨g29, h⟩ := gd_some h
    obtain ⟨x30, hx30, h⟩ := bnd_some h
    refine alR (some 33) rfl rfl (does_indexAddr_own (by conv => lhs; whnf) (by conv => lhs; whnf) (by conv => lhs; whnf) ty34 ty3 g29 (by exact own_lt hx30)) (by decide) ?_
    refine alD none rfl rfl (does_storeE (old := .int .i64 x30) (el := .int .i64 (-1)) (xs' := List.map enc2 (List.set v5_s_2 (Int.toNat v23_2) (-1))) (by conv => lhs; whnf) (by conv => lhs; whnf) (by conv => lhs; whnf) ty3 (by rfl) (by rfl) (by exact map_get hx30) (by rfl) (by exact rfl) (by exact map_set' _ _ (-1)) (by rfl)) (by decide) ?_
    refine al_nil ?_
    refine hK24 _ ?_
    refine aw_regL ?_
    refine alP (some 34) rfl rfl (does_bin (v := .int .i64 (IntKind.i64.wrap (v23_2 + 1))) (by conv => lhs; whnf) (by conv => lhs; whnf) rfl) (by decide) ?_
    refine alP (some 23) rfl rfl (does_move (v := .int .i64 (IntKind.i64.wrap (v23_2 + 1))) (by exact rfl)) (by decide) ?_
    refine al_nil ?_
    have h := leafL h hq20
    exact ⟨m2, Nat.lt_succ_self _, _, reb_lit [(3, .own 3 0), (5, .own 20 0), (22, .int .i64 (List.length a0 : Int)), (23, .int .i64 (IntKind.i64.wrap (v23_2 + 1)))] [(3, 0), (20, 0)] [((3, 0), .arr 3 1 false (List.map enc2 v3_s_0)), ((20, 0), .arr 3 1 false (List.map enc2 (List.set v5_s_2 (Int.toNat v23_2) (-1))))] [(3, 1), (20, 1)] (envOk_cons (by conv => lhs; whnf) (by exact rfl) (envOk_cons (by conv => lhs; whnf) (by exact rfl) (envOk_cons (by conv => lhs; whnf) (by exact rfl) (envOk_cons (by conv => lhs; whnf) (by exact rfl) envOk_nil)))) (objOk_cons (by conv => lhs; whnf) (by conv => lhs; whnf) (by exact rfl) (by simp) (objOk_cons (by conv => lhs; whnf) (by conv => lhs; whnf) (by exact rfl) (by simp) objOk_nil)) (nodup_b rfl) (nodup_b rfl) rfl rfl, (List.set v5_s_2 (Int.toNat v23_2) (-1)), (IntKind.i64.wrap (v23_2 + 1)), h, rfl⟩
   ·have h := ifF c28 h
    refine aw_cond_f (by decide) rfl ?_
    refine aw_skip ?_
    refine hK24 _ ?_
    refine aw_regL ?_
    refine alP (some 34) rfl rfl (does_bin (v := .int .i64 (IntKind.i64.wrap (v23_2 + 1))) (by conv => lhs; whnf) (by conv => lhs; whnf) rfl) (by decide) ?_
    refine alP (some 23) rfl rfl (does_move (v := .int .i64 (IntKind.i64.wrap (v23_2 + 1))) (by exact rfl)) (by decide) ?_
    refine al_nil ?_
    have h := leafL h hq20
    exact ⟨m2, Nat.lt_succ_self _, _, reb_lit [(3, .own 3 0), (5, .own 20 0), (22, .int .i64 (List.length a0 : Int)), (23, .int .i64 (IntKind.i64.wrap (v23_2 + 1)))] [(3, 0), (20, 0)] [((3, 0), .arr 3 1 false (List.map enc2 v3_s_0)), ((20, 0), .arr 3 1 false (List.map enc2 v5_s_2))] [(3, 1), (20, 1)] (envOk_cons (by conv => lhs; whnf) (by exact rfl) (envOk_cons (by conv => lhs; whnf) (by exact rfl) (envOk_cons (by conv => lhs; whnf) (by exact rfl) (envOk_cons (by conv => lhs; whnf) (by exact rfl) envOk_nil)))) (objOk_cons (by conv => lhs; whnf) (by conv => lhs; whnf) (by exact rfl) (by simp) (objOk_cons (by conv => lhs; whnf) (by conv => lhs; whnf) (by exact rfl) (by simp) objOk_nil)) (nodup_b rfl) (nodup_b rfl) rfl rfl, v5_s_2, (IntKind.i64.wrap (v23_2 + 1)), h, rfl⟩
  ·have h := ifF c23 h
   refine aw_cond_f (by decide) rfl ?_
   refine aw_exit ?_
   have h := leafR h hq20
   refine hK17 _ ?_
   refine aw_seq_k (fun K31 hK31 => ?_)
   refine aw_regL ?_
   refine alP (some 35) rfl rfl (does_move (v := .own 20 0) (by exact rfl)) (by decide) ?_
   refine alP (some 2) rfl rfl (does_assign (v := .own 20 0) (by exact rfl)) (by decide) ?_
   refine al_nil ?_
   refine hK31 _ ?_
   refine aw_ret ?_
   obtain rfl := Option.some.inj h
   exact ret_okR [(20, 0)] (by conv => lhs; whnf) (by conv => lhs; whnf) (by exact rfl) (rowsOk_cons (by conv => lhs; whnf) (by exact rfl) trivial) (nodup_b rfl) (.inr rfl) rfl
end Go.Proofs.Ytmompdklolomfaa.Ab
