/- What took time. -/
import Derived.Test.YtmompdklolomfaaXKids
import Derived.Test.YtmompdklolomfaaProg
namespace Go.Proofs.Ytmompdklolomfaa.Ab
open Go Go.RowKit
set_option linter.unusedVariables false
set_option linter.unusedSimpArgs false
theorem ent9 : Ent Try.prog 9 := ⟨_, Try.func9, by kernel_rfl, rfl⟩
theorem ent19 : Ent Try.prog 19 := ⟨_, Try.func19, by kernel_rfl, rfl⟩
theorem ent21 : Ent Try.prog 21 := ⟨_, Try.func21, by kernel_rfl, rfl⟩
theorem ent24 : Ent Try.prog 24 := ⟨_, Try.func24, by kernel_rfl, rfl⟩
theorem ent25 : Ent Try.prog 25 := ⟨_, Try.func25, by kernel_rfl, rfl⟩
def path_Ends (a0 : Span) : Option (Int × Int) :=
  Option.bind (span_Right a0) (fun (x4 : Bool) => if (!x4) = true then (some (0, 0)) else (some ((IntKind.i64.wrap (a0.Start * 1000)), (IntKind.i64.wrap ((IntKind.i64.wrap (a0.Start * 1000)) + a0.Dur)))))
set_option maxRecDepth 100000 in
set_option maxHeartbeats 8000000 in
/-- gleaning/path.Ends -/
theorem path_Ends_ok (a0 : Span) {r : Int × Int} (h : path_Ends a0 = some r) : Ok Try.prog 9 [.agg [.int .u64 a0.Trace.Hi, .int .u64 a0.Trace.Lo, .int .u64 a0.Id, .int .u64 a0.Parent, .str a0.Service, .str a0.Op, .int .i64 a0.Start, .int .i64 a0.Dur, .bool a0.Err, .sl 2 (List.map enc39 a0.Attrs)]] [] [] (.tup [.int .i64 r.1, .int .i64 r.2]) [] [] := by
  unfold path_Ends at h
  refine ok_of_code Try.func9 rfl (by show (1 : Nat) ≤ _; decide) (Nat.le_refl _) fun X => ?_
  refine aw_seq_k (fun K1 hK1 => ?_)
  refine aw_regL ?_
  refine alD (some 1) rfl rfl (do_box (by conv => lhs; whnf) rfl rfl) (by decide) ?_
  refine alP (some 2) rfl rfl (does_assign (v := .int .i64 0) (by exact rfl)) (by decide) ?_
  refine alP (some 3) rfl rfl (does_assign (v := .int .i64 0) (by exact rfl)) (by decide) ?_
  refine al_nil ?_
  refine hK1 _ ?_
  refine aw_seq_k (fun K2 hK2 => ?_)
  refine aw_seq_k (fun K3 hK3 => ?_)
  refine aw_regL ?_
  refine alR (some 5) rfl rfl (does_load (v := .agg [.int .u64 a0.Trace.Hi, .int .u64 a0.Trace.Lo, .int .u64 a0.Id, .int .u64 a0.Parent, .str a0.Service, .str a0.Op, .int .i64 a0.Start, .int .i64 a0.Dur, .bool a0.Err, .sl 2 (List.map enc39 a0.Attrs)]) (by conv => lhs; whnf) (by conv => lhs; whnf) ty28 (by exact rfl)) (by decide) ?_
  obtain ⟨x4, hx4, h⟩ := bnd_some h
  refine alD (some 6) rfl rfl (do_call0 6 false (span_Right_ok a0 hx4) rfl ent17 rfl rfl) (by decide) ?_
  refine alP (some 7) rfl rfl (does_un (v := .bool (!x4)) (by conv => lhs; whnf) rfl) (by decide) ?_
  refine al_nil ?_
  refine hK3 _ ?_
  refine aw_bool (b := (!x4)) 7 rfl (fun c5 => ?_) (fun c5 => ?_)
  · have h := ifT c5 h
    refine aw_cond_t (by decide) rfl ?_
    refine aw_seq_k (fun K6 hK6 => ?_)
    refine aw_regL ?_
    refine alP (some 2) rfl rfl (does_assign (v := .int .i64 0) (by exact rfl)) (by decide) ?_
    refine alP (some 3) rfl rfl (does_assign (v := .int .i64 0) (by exact rfl)) (by decide) ?_
    refine al_nil ?_
    refine hK6 _ ?_
    refine aw_ret ?_
    obtain rfl := Option.some.inj h
    exact ret_ok1 (by conv => lhs; whnf) (by conv => lhs; whnf) (by exact rfl) (.inr rfl) rfl
  · have h := ifF c5 h
    refine aw_cond_f (by decide) rfl ?_
    refine aw_skip ?_
    refine hK2 _ ?_
    refine aw_seq_k (fun K7 hK7 => ?_)
    refine aw_regL ?_
    refine alP (some 8) rfl rfl (does_fieldAddr (q := .ptr 1 0 6) (by conv => lhs; whnf) ty28 rfl ty3 (by decide) (by exact rfl)) (by decide) ?_
    refine alR (some 9) rfl rfl (does_load (v := .int .i64 a0.Start) (by conv => lhs; whnf) (by conv => lhs; whnf) ty3 (by exact rfl)) (by decide) ?_
    refine alP (some 10) rfl rfl (does_bin (v := .int .i64 (IntKind.i64.wrap (a0.Start * 1000))) (by conv => lhs; whnf) (by conv => lhs; whnf) rfl) (by decide) ?_
    refine alP (some 4) rfl rfl (does_assign (v := .int .i64 (IntKind.i64.wrap (a0.Start * 1000))) (by exact rfl)) (by decide) ?_
    refine al_nil ?_
    refine hK7 _ ?_
    refine aw_seq_k (fun K8 hK8 => ?_)
    refine aw_regd (by kernel_rfl) (by decide +kernel) ?_
    refine aoP (some 11) rfl rfl (does_move (v := .int .i64 (IntKind.i64.wrap (a0.Start * 1000))) (by exact rfl)) (by decide) ?_
    refine aoP (some 12) rfl rfl (does_move (v := .int .i64 (IntKind.i64.wrap (a0.Start * 1000))) (by exact rfl)) (by decide) ?_
    refine aoP (some 13) rfl rfl (does_fieldAddr (q := .ptr 1 0 7) (by conv => lhs; whnf) ty28 rfl ty3 (by decide) (by exact rfl)) (by decide) ?_
    refine aoR (some 14) rfl rfl (does_load (v := .int .i64 a0.Dur) (by conv => lhs; whnf) (by conv => lhs; whnf) ty3 (by exact rfl)) (by decide) ?_
    refine aoP (some 15) rfl rfl (does_bin (v := .int .i64 (IntKind.i64.wrap ((IntKind.i64.wrap (a0.Start * 1000)) + a0.Dur))) (by conv => lhs; whnf) (by conv => lhs; whnf) rfl) (by decide) ?_
    refine aoP (some 2) rfl rfl (does_assign (v := .int .i64 (IntKind.i64.wrap (a0.Start * 1000))) (by exact rfl)) (by decide) ?_
    refine aoP (some 3) rfl rfl (does_assign (v := .int .i64 (IntKind.i64.wrap ((IntKind.i64.wrap (a0.Start * 1000)) + a0.Dur))) (by exact rfl)) (by decide) ?_
    refine ao_nil_d (by kernel_rfl) ?_
    refine hK8 _ ?_
    refine aw_ret ?_
    obtain rfl := Option.some.inj h
    exact ret_ok1 (by conv => lhs; whnf) (by conv => lhs; whnf) (by exact rfl) (.inr rfl) rfl
def path_latest_l1 (a0 : List Span) (a1 : List Int) (v6_1 : Int) (v7_1 : Int) (v14_1 : Int) : Option ((Int × Int × Int) ⊕ Int) :=
  if (decide (v14_1 < (List.length a1 : Int))) = true then (gd (0 ≤ v14_1) (Option.bind (a1[(Int.toNat v14_1)]?) (fun (x14 : Int) => gd (0 ≤ x14) (Option.bind (a0[(Int.toNat x14)]?) (fun (x17 : Span) => Option.bind (path_Ends x17) (fun (x18 : Int × Int) => if (decide (v7_1 < x18.2)) = true then (some (Sum.inl (x14, x18.2, (IntKind.i64.wrap (v14_1 + 1))))) else (some (Sum.inl (v6_1, v7_1, (IntKind.i64.wrap (v14_1 + 1))))))))))) else (some (Sum.inr v6_1))
def path_latest_k0 (a1 : List Int) (v6_0 : Int) : Option (Int × Bool) :=
  some (v6_0, (decide ((0 : Int) < (List.length a1 : Int))))
def path_latest (a0 : List Span) (a1 : List Int) : Option (Int × Bool) :=
  Option.bind (loopN (fun (s : Int × Int × Int) => path_latest_l1 a0 a1 s.1 s.2.1 s.2.2) Fu (0, -1, 0)) (fun (s : Int) => path_latest_k0 a1 s)
set_option maxRecDepth 100000 in
set_option maxHeartbeats 8000000 in
/-- gleaning/path.latest -/
theorem path_latest_ok (a0 : List Span) (a1 : List Int) {r : Int × Bool} (h : path_latest a0 a1 = some r) : Ok Try.prog 21 [.sl 10 (List.map enc27 a0), .sl 1 (List.map enc2 a1)] [] [] (.tup [.int .i64 r.1, .bool r.2]) [] [] := by
  unfold path_latest at h
  refine ok_of_code Try.func21 rfl (by show (2 : Nat) ≤ _; decide) (Nat.le_refl _) fun X => ?_
  refine aw_seq_k (fun K1 hK1 => ?_)
  refine aw_regL ?_
  refine alP (some 4) rfl rfl (does_assign (v := .int .i64 0) (by exact rfl)) (by decide) ?_
  refine alP (some 5) rfl rfl (does_assign (v := .bool false) (by exact rfl)) (by decide) ?_
  refine al_nil ?_
  refine hK1 _ ?_
  refine aw_seq_k (fun K2 hK2 => ?_)
  refine aw_regL ?_
  refine alP (some 6) rfl rfl (does_assign (v := .int .i64 0) (by exact rfl)) (by decide) ?_
  refine alP (some 7) rfl rfl (does_assign (v := .int .i64 (-1)) (by exact rfl)) (by decide) ?_
  refine al_nil ?_
  refine hK2 _ ?_
  obtain ⟨q3, h, hk4⟩ := bnd_some h
  refine aw_cut (fun s => ∃ (v6_0 : Int), path_latest_k0 a1 v6_0 = some r ∧ s = lit [(1, .sl 1 (List.map enc2 a1)), (6, .int .i64 v6_0)] [] [] X) ?_ ?_
  · skip
    refine aw_seq_k (fun K5 hK5 => ?_)
    refine aw_regL ?_
    refine alP (some 12) rfl rfl (does_move (v := .sl 1 (List.map enc2 a1)) (by exact rfl)) (by decide) ?_
    refine alP (some 13) rfl rfl ((does_len_sl (by conv => lhs; whnf) ty34).castp (v' := .int .i64 (List.length a1 : Int)) (by exact len_map _)) (by decide) ?_
    refine alP (some 14) rfl rfl (does_move (v := .int .i64 0) (by exact rfl)) (by decide) ?_
    refine al_nil ?_
    refine hK5 _ ?_
    refine aw_block ?_
    refine aw_loop' (fun m s => ∃ (v6_1 : Int), ∃ (v7_1 : Int), ∃ (v14_1 : Int), loopN (fun (s : Int × Int × Int) => path_latest_l1 a0 a1 s.1 s.2.1 s.2.2) m (v6_1, v7_1, v14_1) = some q3 ∧ s = lit [(0, .sl 10 (List.map enc27 a0)), (1, .sl 1 (List.map enc2 a1)), (6, .int .i64 v6_1), (7, .int .i64 v7_1), (12, .sl 1 (List.map enc2 a1)), (13, .int .i64 (List.length a1 : Int)), (14, .int .i64 v14_1)] [] [] X) Fu
      ⟨_, reb_lit [(0, .sl 10 (List.map enc27 a0)), (1, .sl 1 (List.map enc2 a1)), (6, .int .i64 (0)), (7, .int .i64 (-1)), (12, .sl 1 (List.map enc2 a1)), (13, .int .i64 (List.length a1 : Int)), (14, .int .i64 (0))] [] [] [] (envOk_cons (by conv => lhs; whnf) (by exact rfl) (envOk_cons (by conv => lhs; whnf) (by exact rfl) (envOk_cons (by conv => lhs; whnf) (by exact rfl) (envOk_cons (by conv => lhs; whnf) (by exact rfl) (envOk_cons (by conv => lhs; whnf) (by exact rfl) (envOk_cons (by conv => lhs; whnf) (by exact rfl) (envOk_cons (by conv => lhs; whnf) (by exact rfl) envOk_nil))))))) objOk_nil (nodup_b rfl) (nodup_b rfl) rfl rfl, 0, -1, 0, h, rfl⟩ ?_
    rintro m s ⟨v6_1, v7_1, v14_1, h, rfl⟩
    obtain ⟨m1, q6, rfl, h, hq7⟩ := loop_some h
    replace h : path_latest_l1 a0 a1 v6_1 v7_1 v14_1 = some q6 := h
    unfold path_latest_l1 at h
    refine aw_seq_k (fun K8 hK8 => ?_)
    refine aw_regL ?_
    refine alP (some 15) rfl rfl (does_bin (v := .bool (decide (v14_1 < (List.length a1 : Int)))) (by conv => lhs; whnf) (by conv => lhs; whnf) rfl) (by decide) ?_
    refine al_nil ?_
    refine hK8 _ ?_
    refine aw_seq_k (fun K9 hK9 => ?_)
    refine aw_bool (b := (decide (v14_1 < (List.length a1 : Int)))) 15 rfl (fun c10 => ?_) (fun c10 => ?_)
    · have h := ifT c10 h
      refine aw_cond_t (by decide) rfl ?_
      refine aw_skip ?_
      refine hK9 _ ?_
      refine aw_seq_k (fun K11 hK11 => ?_)
      refine aw_block ?_
      refine aw_seq_k (fun K12 hK12 => ?_)
      refine aw_regL ?_
      obtain ⟨g13, h⟩ := gd_some h
      obtain ⟨x14, hx14, h⟩ := bnd_some h
      refine alP (some 16) rfl rfl (does_indexAddr_sl (el := .int .i64 x14) (by conv => lhs; whnf) (by conv => lhs; whnf) ty34 ty3 g13 (by exact map_get hx14)) (by decide) ?_
      refine alR (some 17) rfl rfl (does_load (v := .int .i64 x14) (by conv => lhs; whnf) (by conv => lhs; whnf) ty3 (by exact rfl)) (by decide) ?_
      refine alP (some 9) rfl rfl (does_assign (v := .int .i64 x14) (by exact rfl)) (by decide) ?_
      refine al_nil ?_
      refine hK12 _ ?_
      refine aw_seq_k (fun K15 hK15 => ?_)
      refine aw_regL ?_
      refine alP (some 19) rfl rfl (does_move (v := .sl 10 (List.map enc27 a0)) (by exact rfl)) (by decide) ?_
      refine alP (some 20) rfl rfl (does_move (v := .int .i64 x14) (by exact rfl)) (by decide) ?_
      obtain ⟨g16, h⟩ := gd_some h
      obtain ⟨x17, hx17, h⟩ := bnd_some h
      refine alP (some 21) rfl rfl (does_indexAddr_sl (el := .agg [.int .u64 x17.Trace.Hi, .int .u64 x17.Trace.Lo, .int .u64 x17.Id, .int .u64 x17.Parent, .str x17.Service, .str x17.Op, .int .i64 x17.Start, .int .i64 x17.Dur, .bool x17.Err, .sl 2 (List.map enc39 x17.Attrs)]) (by conv => lhs; whnf) (by conv => lhs; whnf) ty22 ty28 g16 (by exact map_get hx17)) (by decide) ?_
      refine alR (some 22) rfl rfl (does_load (v := .agg [.int .u64 x17.Trace.Hi, .int .u64 x17.Trace.Lo, .int .u64 x17.Id, .int .u64 x17.Parent, .str x17.Service, .str x17.Op, .int .i64 x17.Start, .int .i64 x17.Dur, .bool x17.Err, .sl 2 (List.map enc39 x17.Attrs)]) (by conv => lhs; whnf) (by conv => lhs; whnf) ty28 (by exact rfl)) (by decide) ?_
      obtain ⟨x18, hx18, h⟩ := bnd_some h
      refine alD (some 23) rfl rfl (do_call0 23 false (path_Ends_ok x17 hx18) rfl ent9 rfl rfl) (by decide) ?_
      refine alP (some 18) rfl rfl (does_move (v := .tup [.int .i64 x18.1, .int .i64 x18.2]) (by exact rfl)) (by decide) ?_
      refine alP (some 24) rfl rfl (does_extract (v := .int .i64 x18.1) (by conv => lhs; whnf) (by exact rfl)) (by decide) ?_
      refine alP (some 25) rfl rfl (does_extract (v := .int .i64 x18.2) (by conv => lhs; whnf) (by exact rfl)) (by decide) ?_
      refine alP (some 10) rfl rfl (does_assign (v := .int .i64 x18.1) (by exact rfl)) (by decide) ?_
      refine alP (some 11) rfl rfl (does_assign (v := .int .i64 x18.2) (by exact rfl)) (by decide) ?_
      refine al_nil ?_
      refine hK15 _ ?_
      refine aw_seq_k (fun K19 hK19 => ?_)
      refine aw_regL ?_
      refine alP (some 26) rfl rfl (does_move (v := .int .i64 x18.2) (by exact rfl)) (by decide) ?_
      refine alP (some 27) rfl rfl (does_move (v := .int .i64 v7_1) (by exact rfl)) (by decide) ?_
      refine alP (some 28) rfl rfl (does_bin (v := .bool (decide (v7_1 < x18.2))) (by conv => lhs; whnf) (by conv => lhs; whnf) rfl) (by decide) ?_
      refine al_nil ?_
      refine hK19 _ ?_
      refine aw_bool (b := (decide (v7_1 < x18.2))) 28 rfl (fun c20 => ?_) (fun c20 => ?_)
      · have h := ifT c20 h
        refine aw_cond_t (by decide) rfl ?_
        refine aw_regL ?_
        refine alP (some 29) rfl rfl (does_move (v := .int .i64 x14) (by exact rfl)) (by decide) ?_
        refine alP (some 30) rfl rfl (does_move (v := .int .i64 x18.2) (by exact rfl)) (by decide) ?_
        refine alP (some 6) rfl rfl (does_assign (v := .int .i64 x14) (by exact rfl)) (by decide) ?_
        refine alP (some 7) rfl rfl (does_assign (v := .int .i64 x18.2) (by exact rfl)) (by decide) ?_
        refine al_nil ?_
        refine hK11 _ ?_
        refine aw_regL ?_
        refine alP (some 31) rfl rfl (does_bin (v := .int .i64 (IntKind.i64.wrap (v14_1 + 1))) (by conv => lhs; whnf) (by conv => lhs; whnf) rfl) (by decide) ?_
        refine alP (some 14) rfl rfl (does_move (v := .int .i64 (IntKind.i64.wrap (v14_1 + 1))) (by exact rfl)) (by decide) ?_
        refine al_nil ?_
        have h := leafL h hq7
        exact ⟨m1, Nat.lt_succ_self _, _, reb_lit [(0, .sl 10 (List.map enc27 a0)), (1, .sl 1 (List.map enc2 a1)), (6, .int .i64 x14), (7, .int .i64 x18.2), (12, .sl 1 (List.map enc2 a1)), (13, .int .i64 (List.length a1 : Int)), (14, .int .i64 (IntKind.i64.wrap (v14_1 + 1)))] [] [] [] (envOk_cons (by conv => lhs; whnf) (by exact rfl) (envOk_cons (by conv => lhs; whnf) (by exact rfl) (envOk_cons (by conv => lhs; whnf) (by exact rfl) (envOk_cons (by conv => lhs; whnf) (by exact rfl) (envOk_cons (by conv => lhs; whnf) (by exact rfl) (envOk_cons (by conv => lhs; whnf) (by exact rfl) (envOk_cons (by conv => lhs; whnf) (by exact rfl) envOk_nil))))))) objOk_nil (nodup_b rfl) (nodup_b rfl) rfl rfl, x14, x18.2, (IntKind.i64.wrap (v14_1 + 1)), h, rfl⟩
      · have h := ifF c20 h
        refine aw_cond_f (by decide) rfl ?_
        refine aw_skip ?_
        refine hK11 _ ?_
        refine aw_regL ?_
        refine alP (some 31) rfl rfl (does_bin (v := .int .i64 (IntKind.i64.wrap (v14_1 + 1))) (by conv => lhs; whnf) (by conv => lhs; whnf) rfl) (by decide) ?_
        refine alP (some 14) rfl rfl (does_move (v := .int .i64 (IntKind.i64.wrap (v14_1 + 1))) (by exact rfl)) (by decide) ?_
        refine al_nil ?_
        have h := leafL h hq7
        exact ⟨m1, Nat.lt_succ_self _, _, reb_lit [(0, .sl 10 (List.map enc27 a0)), (1, .sl 1 (List.map enc2 a1)), (6, .int .i64 v6_1), (7, .int .i64 v7_1), (12, .sl 1 (List.map enc2 a1)), (13, .int .i64 (List.length a1 : Int)), (14, .int .i64 (IntKind.i64.wrap (v14_1 + 1)))] [] [] [] (envOk_cons (by conv => lhs; whnf) (by exact rfl) (envOk_cons (by conv => lhs; whnf) (by exact rfl) (envOk_cons (by conv => lhs; whnf) (by exact rfl) (envOk_cons (by conv => lhs; whnf) (by exact rfl) (envOk_cons (by conv => lhs; whnf) (by exact rfl) (envOk_cons (by conv => lhs; whnf) (by exact rfl) (envOk_cons (by conv => lhs; whnf) (by exact rfl) envOk_nil))))))) objOk_nil (nodup_b rfl) (nodup_b rfl) rfl rfl, v6_1, v7_1, (IntKind.i64.wrap (v14_1 + 1)), h, rfl⟩
    · have h := ifF c10 h
      refine aw_cond_f (by decide) rfl ?_
      refine aw_exit ?_
      have h := leafR h hq7
      obtain rfl := Option.some.inj h
      have h := hk4
      exact ⟨_, reb_lit [(1, .sl 1 (List.map enc2 a1)), (6, .int .i64 v6_1)] [] [] [] (envOk_cons (by conv => lhs; whnf) (by exact rfl) (envOk_cons (by conv => lhs; whnf) (by exact rfl) envOk_nil)) objOk_nil (nodup_b rfl) (nodup_b rfl) rfl rfl, v6_1, h, rfl⟩
  · rintro s ⟨v6_0, h, rfl⟩
    unfold path_latest_k0 at h
    refine aw_seq_k (fun K21 hK21 => ?_)
    refine aw_regL ?_
    refine alP (some 32) rfl rfl (does_move (v := .int .i64 v6_0) (by exact rfl)) (by decide) ?_
    refine alP (some 33) rfl rfl (does_move (v := .sl 1 (List.map enc2 a1)) (by exact rfl)) (by decide) ?_
    refine alP (some 34) rfl rfl ((does_len_sl (by conv => lhs; whnf) ty34).castp (v' := .int .i64 (List.length a1 : Int)) (by exact len_map _)) (by decide) ?_
    refine alP (some 35) rfl rfl (does_bin (v := .bool (decide ((0 : Int) < (List.length a1 : Int)))) (by conv => lhs; whnf) (by conv => lhs; whnf) rfl) (by decide) ?_
    refine alP (some 4) rfl rfl (does_assign (v := .int .i64 v6_0) (by exact rfl)) (by decide) ?_
    refine alP (some 5) rfl rfl (does_assign (v := .bool (decide ((0 : Int) < (List.length a1 : Int)))) (by exact rfl)) (by decide) ?_
    refine al_nil ?_
    refine hK21 _ ?_
    refine aw_ret ?_
    obtain rfl := Option.some.inj h
    exact ret_ok1 (by conv => lhs; whnf) (by conv => lhs; whnf) (by exact rfl) (.inr rfl) rfl
def path_Critical_l0 (a0 : List Span) (x8 : List (List Int)) (v4_s_0 : List Int) (v5_0 : List Int) : Option ((List Int × List Int) ⊕ (List Int)) :=
  Option.bind (path_latest a0 v5_0) (fun (x16 : Int × Bool) => if (!x16.2) = true then (some (Sum.inr v4_s_0)) else (gd ((List.length (v4_s_0 ++ [x16.1])) * 8 ≤ 140737488355328 ∧ (List.length (v4_s_0 ++ [x16.1])) ≤ 140737488355328) (gd (0 ≤ x16.1) (Option.bind (x8[(Int.toNat x16.1)]?) (fun (x24 : List Int) => some (Sum.inl ((v4_s_0 ++ [x16.1]), x24)))))))
def path_Critical (a0 : List Span) : Option (List Int) :=
  Option.bind (span_All a0) (fun (x4 : Bool) => if (!x4) = true then (some []) else (Option.bind (tree_Kids a0) (fun (x8 : List (List Int)) => gd (0 ≤ (List.length a0 : Int)) (Option.bind (x8[(Int.toNat (List.length a0 : Int))]?) (fun (x12 : List Int) => loopN (fun (s : List Int × List Int) => path_Critical_l0 a0 x8 s.1 s.2) Fu ([], x12))))))
set_option maxRecDepth 100000 in
set_option maxHeartbeats 8000000 in
/-- gleaning/path.Critical -/
theorem path_Critical_ok (a0 : List Span) {r : List Int} (h : path_Critical a0 = some r) : Ok Try.prog 11 [.sl 10 (List.map enc27 a0)] [] [] (.own 2 0) [] [(3, 1, List.map enc2 r)] := by
  unfold path_Critical at h
  refine ok_of_code Try.func11 rfl (by show (1 : Nat) ≤ _; decide) (Nat.le_refl _) fun X => ?_
  refine aw_seq_k (fun K1 hK1 => ?_)
  refine aw_regL ?_
  refine alP (some 2) rfl rfl (does_assign (v := .nil) (by exact rfl)) (by decide) ?_
  refine al_nil ?_
  refine hK1 _ ?_
  refine aw_seq_k (fun K2 hK2 => ?_)
  refine aw_seq_k (fun K3 hK3 => ?_)
  refine aw_regL ?_
  refine alP (some 8) rfl rfl (does_move (v := .sl 10 (List.map enc27 a0)) (by exact rfl)) (by decide) ?_
  obtain ⟨x4, hx4, h⟩ := bnd_some h
  refine alD (some 9) rfl rfl (do_call0 9 false (span_All_ok a0 hx4) rfl ent19 rfl rfl) (by decide) ?_
  refine alP (some 10) rfl rfl (does_un (v := .bool (!x4)) (by conv => lhs; whnf) rfl) (by decide) ?_
  refine al_nil ?_
  refine hK3 _ ?_
  refine aw_bool (b := (!x4)) 10 rfl (fun c5 => ?_) (fun c5 => ?_)
  · have h := ifT c5 h
    refine aw_cond_t (by decide) rfl ?_
    refine aw_seq_k (fun K6 hK6 => ?_)
    refine aw_regL ?_
    refine alP (some 2) rfl rfl (does_assign (v := .nil) (by exact rfl)) (by decide) ?_
    refine al_nil ?_
    refine hK6 _ ?_
    refine aw_nilOwn 2 3 1 (by conv => lhs; whnf) (by decide) (by decide) ?_
    refine aw_ret ?_
    obtain rfl := Option.some.inj h
    exact ret_okR [(2, 0)] (by conv => lhs; whnf) (by conv => lhs; whnf) (by exact rfl) (rowsOk_cons (by conv => lhs; whnf) (by exact rfl) trivial) (nodup_b rfl) (.inr rfl) rfl
  · have h := ifF c5 h
    refine aw_cond_f (by decide) rfl ?_
    refine aw_skip ?_
    refine hK2 _ ?_
    refine aw_seq_k (fun K7 hK7 => ?_)
    refine aw_regL ?_
    refine alP (some 11) rfl rfl (does_move (v := .sl 10 (List.map enc27 a0)) (by exact rfl)) (by decide) ?_
    obtain ⟨x8, hx8, h⟩ := bnd_some h
    refine alD (some 12) rfl rfl (do_call0 12 false (tree_Kids_ok a0 hx8) rfl ent20 rfl rfl) (by decide) ?_
    refine alP (some 3) rfl rfl (does_assign (v := .sl 1 (List.map enc34 x8)) (by exact rfl)) (by decide) ?_
    refine al_nil ?_
    refine hK7 _ ?_
    refine aw_seq_k (fun K9 hK9 => ?_)
    refine aw_regL ?_
    refine alP (some 4) rfl rfl (does_assign (v := .nil) (by exact rfl)) (by decide) ?_
    refine al_nil ?_
    refine hK9 _ ?_
    refine aw_seq_k (fun K10 hK10 => ?_)
    refine aw_regL ?_
    refine alP (some 13) rfl rfl (does_move (v := .sl 1 (List.map enc34 x8)) (by exact rfl)) (by decide) ?_
    refine alP (some 14) rfl rfl (does_move (v := .sl 10 (List.map enc27 a0)) (by exact rfl)) (by decide) ?_
    refine alP (some 15) rfl rfl ((does_len_sl (by conv => lhs; whnf) ty22).castp (v' := .int .i64 (List.length a0 : Int)) (by exact len_map _)) (by decide) ?_
    obtain ⟨g11, h⟩ := gd_some h
    obtain ⟨x12, hx12, h⟩ := bnd_some h
    refine alP (some 16) rfl rfl (does_indexAddr_sl (el := .sl 1 (List.map enc2 x12)) (by conv => lhs; whnf) (by conv => lhs; whnf) ty41 ty34 g11 (by exact map_get hx12)) (by decide) ?_
    refine alR (some 17) rfl rfl (does_load (v := .sl 1 (List.map enc2 x12)) (by conv => lhs; whnf) (by conv => lhs; whnf) ty34 (by exact rfl)) (by decide) ?_
    refine alP (some 5) rfl rfl (does_assign (v := .sl 1 (List.map enc2 x12)) (by exact rfl)) (by decide) ?_
    refine al_nil ?_
    refine hK10 _ ?_
    refine aw_block ?_
    refine aw_nilOwn 4 3 1 (by conv => lhs; whnf) (by decide) (by decide) ?_
    refine aw_loop' (fun m s => ∃ (v4_s_0 : List Int), ∃ (v5_0 : List Int), loopN (fun (s : List Int × List Int) => path_Critical_l0 a0 x8 s.1 s.2) m (v4_s_0, v5_0) = some r ∧ s = lit [(0, .sl 10 (List.map enc27 a0)), (3, .sl 1 (List.map enc34 x8)), (4, .own 4 0), (5, .sl 1 (List.map enc2 v5_0))] [((4, 0), .arr 3 1 false (List.map enc2 v4_s_0))] [(4, 1)] X) Fu
      ⟨_, reb_lit [(0, .sl 10 (List.map enc27 a0)), (3, .sl 1 (List.map enc34 x8)), (4, .own 4 0), (5, .sl 1 (List.map enc2 x12))] [(4, 0)] [((4, 0), .arr 3 1 false (List.map enc2 []))] [(4, 1)] (envOk_cons (by conv => lhs; whnf) (by exact rfl) (envOk_cons (by conv => lhs; whnf) (by exact rfl) (envOk_cons (by conv => lhs; whnf) (by exact rfl) (envOk_cons (by conv => lhs; whnf) (by exact rfl) envOk_nil)))) (objOk_cons (by conv => lhs; whnf) (by conv => lhs; whnf) (by exact rfl) (by simp) objOk_nil) (nodup_b rfl) (nodup_b rfl) rfl rfl, [], x12, h, rfl⟩ ?_
    rintro m s ⟨v4_s_0, v5_0, h, rfl⟩
    obtain ⟨m0, q13, rfl, h, hq14⟩ := loop_some h
    replace h : path_Critical_l0 a0 x8 v4_s_0 v5_0 = some q13 := h
    unfold path_Critical_l0 at h
    refine aw_block ?_
    refine aw_seq_k (fun K15 hK15 => ?_)
    refine aw_regL ?_
    refine alP (some 19) rfl rfl (does_move (v := .sl 10 (List.map enc27 a0)) (by exact rfl)) (by decide) ?_
    refine alP (some 20) rfl rfl (does_move (v := .sl 1 (List.map enc2 v5_0)) (by exact rfl)) (by decide) ?_
    obtain ⟨x16, hx16, h⟩ := bnd_some h
    refine alD (some 21) rfl rfl (do_call0 21 false (path_latest_ok a0 v5_0 hx16) rfl ent21 rfl rfl) (by decide) ?_
    refine alP (some 18) rfl rfl (does_move (v := .tup [.int .i64 x16.1, .bool x16.2]) (by exact rfl)) (by decide) ?_
    refine alP (some 22) rfl rfl (does_extract (v := .int .i64 x16.1) (by conv => lhs; whnf) (by exact rfl)) (by decide) ?_
    refine alP (some 23) rfl rfl (does_extract (v := .bool x16.2) (by conv => lhs; whnf) (by exact rfl)) (by decide) ?_
    refine alP (some 6) rfl rfl (does_assign (v := .int .i64 x16.1) (by exact rfl)) (by decide) ?_
    refine alP (some 7) rfl rfl (does_assign (v := .bool x16.2) (by exact rfl)) (by decide) ?_
    refine al_nil ?_
    refine hK15 _ ?_
    refine aw_seq_k (fun K17 hK17 => ?_)
    refine aw_seq_k (fun K18 hK18 => ?_)
    refine aw_regL ?_
    refine alP (some 24) rfl rfl (does_move (v := .bool x16.2) (by exact rfl)) (by decide) ?_
    refine alP (some 25) rfl rfl (does_un (v := .bool (!x16.2)) (by conv => lhs; whnf) rfl) (by decide) ?_
    refine al_nil ?_
    refine hK18 _ ?_
    refine aw_bool (b := (!x16.2)) 25 rfl (fun c19 => ?_) (fun c19 => ?_)
    · have h := ifT c19 h
      refine aw_cond_t (by decide) rfl ?_
      refine aw_seq_k (fun K20 hK20 => ?_)
      refine aw_regL ?_
      refine alP (some 26) rfl rfl (does_move (v := .own 4 0) (by exact rfl)) (by decide) ?_
      refine alP (some 2) rfl rfl (does_assign (v := .own 4 0) (by exact rfl)) (by decide) ?_
      refine al_nil ?_
      refine hK20 _ ?_
      refine aw_ret ?_
      have h := leafR h hq14
      obtain rfl := Option.some.inj h
      exact ret_okR [(4, 0)] (by conv => lhs; whnf) (by conv => lhs; whnf) (by exact rfl) (rowsOk_cons (by conv => lhs; whnf) (by exact rfl) trivial) (nodup_b rfl) (.inr rfl) rfl
    · have h := ifF c19 h
      refine aw_cond_f (by decide) rfl ?_
      refine aw_skip ?_
      refine hK17 _ ?_
      refine aw_seq_k (fun K21 hK21 => ?_)
      refine aw_regL ?_
      refine alP (some 27) rfl rfl (does_move (v := .own 4 0) (by exact rfl)) (by decide) ?_
      refine alP (some 28) rfl rfl (does_move (v := .int .i64 x16.1) (by exact rfl)) (by decide) ?_
      refine alD (some 29) rfl rfl (do_buildSlice (xs := List.map enc2 [x16.1]) ty34 ty3 rfl rfl rfl rfl rfl rfl rfl rfl) (by decide) ?_
      obtain ⟨g22, h⟩ := gd_some h
      refine alD (some 30) rfl rfl (do_append (v := List.map enc2 (v4_s_0 ++ [x16.1])) (by conv => lhs; whnf) (by conv => lhs; whnf) ty34 ty3 rfl rfl (by conv => lhs; whnf) (by first | exact .inl rfl | exact .inr ⟨rfl, rfl⟩) (by conv => lhs; whnf) (by first | exact .inr rfl | exact .inl rfl) (map_app _ _) (fit_map g22)) (by decide) ?_
      refine alP (some 4) rfl rfl (does_assign (v := .own 30 0) (by exact rfl)) (by decide) ?_
      refine al_nil ?_
      refine hK21 _ ?_
      refine aw_regL ?_
      refine alP (some 31) rfl rfl (does_move (v := .sl 1 (List.map enc34 x8)) (by exact rfl)) (by decide) ?_
      refine alP (some 32) rfl rfl (does_move (v := .int .i64 x16.1) (by exact rfl)) (by decide) ?_
      obtain ⟨g23, h⟩ := gd_some h
      obtain ⟨x24, hx24, h⟩ := bnd_some h
      refine alP (some 33) rfl rfl (does_indexAddr_sl (el := .sl 1 (List.map enc2 x24)) (by conv => lhs; whnf) (by conv => lhs; whnf) ty41 ty34 g23 (by exact map_get hx24)) (by decide) ?_
      refine alR (some 34) rfl rfl (does_load (v := .sl 1 (List.map enc2 x24)) (by conv => lhs; whnf) (by conv => lhs; whnf) ty34 (by exact rfl)) (by decide) ?_
      refine alP (some 5) rfl rfl (does_assign (v := .sl 1 (List.map enc2 x24)) (by exact rfl)) (by decide) ?_
      refine al_nil ?_
      have h := leafL h hq14
      exact ⟨m0, Nat.lt_succ_self _, _, reb_lit [(0, .sl 10 (List.map enc27 a0)), (3, .sl 1 (List.map enc34 x8)), (4, .own 4 0), (5, .sl 1 (List.map enc2 x24))] [(30, 0)] [((4, 0), .arr 3 1 false (List.map enc2 (v4_s_0 ++ [x16.1])))] [(4, 1)] (envOk_cons (by conv => lhs; whnf) (by exact rfl) (envOk_cons (by conv => lhs; whnf) (by exact rfl) (envOk_cons (by conv => lhs; whnf) (by exact rfl) (envOk_cons (by conv => lhs; whnf) (by exact rfl) envOk_nil)))) (objOk_cons (by conv => lhs; whnf) (by conv => lhs; whnf) (by exact rfl) (by simp) objOk_nil) (nodup_b rfl) (nodup_b rfl) rfl rfl, (v4_s_0 ++ [x16.1]), x24, h, rfl⟩
def path_Self_c1 (a0 : Int) (a1 : Int) (a2 : List Span) : Option Int :=
  gd (0 ≤ a0) (Option.bind (a2[(Int.toNat a0)]?) (fun (x4 : Span) => Option.bind (path_Ends x4) (fun (x5 : Int × Int) => gd (0 ≤ a1) (Option.bind (a2[(Int.toNat a1)]?) (fun (x8 : Span) => Option.bind (path_Ends x8) (fun (x9 : Int × Int) => Option.bind (cmp_Compare_int x5.1 x9.1) (fun (x11 : Int) => some x11)))))))
set_option maxRecDepth 100000 in
set_option maxHeartbeats 8000000 in
/-- gleaning/path.Self$1 -/
theorem path_Self_c1_ok (a0 : Int) (a1 : Int) (a2 : List Span) {r : Int} (h : path_Self_c1 a0 a1 a2 = some r) : Ok Try.prog 25 [.int .i64 a0, .int .i64 a1, .rptr [.sl 10 (List.map enc27 a2)]] [] [] (.int .i64 r) [] [] := by
  unfold path_Self_c1 at h
  refine ok_of_code Try.func25 rfl (by show (3 : Nat) ≤ _; decide) (Nat.le_refl _) fun X => ?_
  refine aw_seq_k (fun K1 hK1 => ?_)
  refine aw_regL ?_
  refine alP (some 5) rfl rfl (does_assign (v := .int .i64 0) (by exact rfl)) (by decide) ?_
  refine al_nil ?_
  refine hK1 _ ?_
  refine aw_seq_k (fun K2 hK2 => ?_)
  refine aw_regL ?_
  refine alR (some 11) rfl rfl (does_load (v := .sl 10 (List.map enc27 a2)) (by conv => lhs; whnf) (by conv => lhs; whnf) ty22 (by exact rfl)) (by decide) ?_
  refine alP (some 12) rfl rfl (does_move (v := .int .i64 a0) (by exact rfl)) (by decide) ?_
  obtain ⟨g3, h⟩ := gd_some h
  obtain ⟨x4, hx4, h⟩ := bnd_some h
  refine alP (some 13) rfl rfl (does_indexAddr_sl (el := .agg [.int .u64 x4.Trace.Hi, .int .u64 x4.Trace.Lo, .int .u64 x4.Id, .int .u64 x4.Parent, .str x4.Service, .str x4.Op, .int .i64 x4.Start, .int .i64 x4.Dur, .bool x4.Err, .sl 2 (List.map enc39 x4.Attrs)]) (by conv => lhs; whnf) (by conv => lhs; whnf) ty22 ty28 g3 (by exact map_get hx4)) (by decide) ?_
  refine alR (some 14) rfl rfl (does_load (v := .agg [.int .u64 x4.Trace.Hi, .int .u64 x4.Trace.Lo, .int .u64 x4.Id, .int .u64 x4.Parent, .str x4.Service, .str x4.Op, .int .i64 x4.Start, .int .i64 x4.Dur, .bool x4.Err, .sl 2 (List.map enc39 x4.Attrs)]) (by conv => lhs; whnf) (by conv => lhs; whnf) ty28 (by exact rfl)) (by decide) ?_
  obtain ⟨x5, hx5, h⟩ := bnd_some h
  refine alD (some 15) rfl rfl (do_call0 15 false (path_Ends_ok x4 hx5) rfl ent9 rfl rfl) (by decide) ?_
  refine alP (some 10) rfl rfl (does_move (v := .tup [.int .i64 x5.1, .int .i64 x5.2]) (by exact rfl)) (by decide) ?_
  refine alP (some 16) rfl rfl (does_extract (v := .int .i64 x5.1) (by conv => lhs; whnf) (by exact rfl)) (by decide) ?_
  refine alP (some 17) rfl rfl (does_extract (v := .int .i64 x5.2) (by conv => lhs; whnf) (by exact rfl)) (by decide) ?_
  refine alP (some 6) rfl rfl (does_assign (v := .int .i64 x5.1) (by exact rfl)) (by decide) ?_
  refine alP (some 7) rfl rfl (does_assign (v := .int .i64 x5.2) (by exact rfl)) (by decide) ?_
  refine al_nil ?_
  refine hK2 _ ?_
  refine aw_seq_k (fun K6 hK6 => ?_)
  refine aw_regL ?_
  refine alR (some 19) rfl rfl (does_load (v := .sl 10 (List.map enc27 a2)) (by conv => lhs; whnf) (by conv => lhs; whnf) ty22 (by exact rfl)) (by decide) ?_
  refine alP (some 20) rfl rfl (does_move (v := .int .i64 a1) (by exact rfl)) (by decide) ?_
  obtain ⟨g7, h⟩ := gd_some h
  obtain ⟨x8, hx8, h⟩ := bnd_some h
  refine alP (some 21) rfl rfl (does_indexAddr_sl (el := .agg [.int .u64 x8.Trace.Hi, .int .u64 x8.Trace.Lo, .int .u64 x8.Id, .int .u64 x8.Parent, .str x8.Service, .str x8.Op, .int .i64 x8.Start, .int .i64 x8.Dur, .bool x8.Err, .sl 2 (List.map enc39 x8.Attrs)]) (by conv => lhs; whnf) (by conv => lhs; whnf) ty22 ty28 g7 (by exact map_get hx8)) (by decide) ?_
  refine alR (some 22) rfl rfl (does_load (v := .agg [.int .u64 x8.Trace.Hi, .int .u64 x8.Trace.Lo, .int .u64 x8.Id, .int .u64 x8.Parent, .str x8.Service, .str x8.Op, .int .i64 x8.Start, .int .i64 x8.Dur, .bool x8.Err, .sl 2 (List.map enc39 x8.Attrs)]) (by conv => lhs; whnf) (by conv => lhs; whnf) ty28 (by exact rfl)) (by decide) ?_
  obtain ⟨x9, hx9, h⟩ := bnd_some h
  refine alD (some 23) rfl rfl (do_call0 23 false (path_Ends_ok x8 hx9) rfl ent9 rfl rfl) (by decide) ?_
  refine alP (some 18) rfl rfl (does_move (v := .tup [.int .i64 x9.1, .int .i64 x9.2]) (by exact rfl)) (by decide) ?_
  refine alP (some 24) rfl rfl (does_extract (v := .int .i64 x9.1) (by conv => lhs; whnf) (by exact rfl)) (by decide) ?_
  refine alP (some 25) rfl rfl (does_extract (v := .int .i64 x9.2) (by conv => lhs; whnf) (by exact rfl)) (by decide) ?_
  refine alP (some 8) rfl rfl (does_assign (v := .int .i64 x9.1) (by exact rfl)) (by decide) ?_
  refine alP (some 9) rfl rfl (does_assign (v := .int .i64 x9.2) (by exact rfl)) (by decide) ?_
  refine al_nil ?_
  refine hK6 _ ?_
  refine aw_seq_k (fun K10 hK10 => ?_)
  refine aw_regL ?_
  refine alP (some 26) rfl rfl (does_move (v := .int .i64 x5.1) (by exact rfl)) (by decide) ?_
  refine alP (some 27) rfl rfl (does_move (v := .int .i64 x9.1) (by exact rfl)) (by decide) ?_
  obtain ⟨x11, hx11, h⟩ := bnd_some h
  refine alD (some 28) rfl rfl (do_call0 28 false (cmp_Compare_int_ok x5.1 x9.1 hx11) rfl ent26 rfl rfl) (by decide) ?_
  refine alP (some 5) rfl rfl (does_assign (v := .int .i64 x11) (by exact rfl)) (by decide) ?_
  refine al_nil ?_
  refine hK10 _ ?_
  refine aw_ret ?_
  obtain rfl := Option.some.inj h
  exact ret_ok1 (by conv => lhs; whnf) (by conv => lhs; whnf) (by exact rfl) (.inr rfl) rfl
def sortL24_ren : Go.Shelf.Ren := ⟨fun | 6 => 24 | 15 => 36 | 14 => 35 | 28 => 52 | 29 => 53 | 20 => 44 | 21 => 45 | 22 => 46 | 23 => 47 | 24 => 48 | 25 => 49 | 26 => 50 | 27 => 51 | 46 => 56 | 47 => 57 | 48 => 58 | 49 => 59 | 50 => 60 | 57 => 62 | n => n, fun | 22 => 34 | 24 => 3 | 25 => 48 | 3 => 3 | 39 => 57 | 0 => 0 | 53 => 72 | 55 => 23 | 4 => 4 | 46 => 66 | 45 => 65 | 50 => 43 | 5 => 5 | 9 => 9 | 66 => 75 | 70 => 79 | 76 => 81 | 77 => 32 | n => n, fun | n => n⟩
theorem sortL24 : SlLaysF.n6 Try.prog sortL24_ren :=
  { mixed := by kernel_rfl
    f6 := ⟨Try.f24.name, by decide, Try.func24.trans (congrArg some (by kernel_rfl))⟩
    f14 := ⟨Try.f35.name, by decide, Try.func35.trans (congrArg some (by kernel_rfl))⟩
    f15 := Try.func36.trans (congrArg some (by kernel_rfl))
    f20 := ⟨Try.f44.name, by decide, Try.func44.trans (congrArg some (by kernel_rfl))⟩
    f21 := ⟨Try.f45.name, by decide, Try.func45.trans (congrArg some (by kernel_rfl))⟩
    f22 := ⟨Try.f46.name, by decide, Try.func46.trans (congrArg some (by kernel_rfl))⟩
    f23 := ⟨Try.f47.name, by decide, Try.func47.trans (congrArg some (by kernel_rfl))⟩
    f24 := ⟨Try.f48.name, by decide, Try.func48.trans (congrArg some (by kernel_rfl))⟩
    f25 := ⟨Try.f49.name, by decide, Try.func49.trans (congrArg some (by kernel_rfl))⟩
    f26 := ⟨Try.f50.name, by decide, Try.func50.trans (congrArg some (by kernel_rfl))⟩
    f27 := ⟨Try.f51.name, by decide, Try.func51.trans (congrArg some (by kernel_rfl))⟩
    f28 := Try.func52.trans (congrArg some (by kernel_rfl))
    f29 := Try.func53.trans (congrArg some (by kernel_rfl))
    f46 := ⟨Try.f56.name, by decide, Try.func56.trans (congrArg some (by kernel_rfl))⟩
    f47 := Try.func57.trans (congrArg some (by kernel_rfl))
    f48 := Try.func58.trans (congrArg some (by kernel_rfl))
    f49 := ⟨Try.f59.name, by decide, Try.func59.trans (congrArg some (by kernel_rfl))⟩
    f50 := ⟨Try.f60.name, by decide, Try.func60.trans (congrArg some (by kernel_rfl))⟩
    f57 := ⟨Try.f62.name, by decide, Try.func62.trans (congrArg some (by kernel_rfl))⟩
    t0 := Try.underlying0
    a0 := Try.isAgg0
    z0 := Try.sizeOf0
    v0 := Try.zeroValue0
    t3 := Try.underlying3
    a3 := Try.isAgg3
    z3 := Try.sizeOf3
    v3 := Try.zeroValue3
    t4 := Try.underlying4
    a4 := Try.isAgg4
    z4 := Try.sizeOf4
    v4 := Try.zeroValue4
    t5 := Try.underlying5
    a5 := Try.isAgg5
    z5 := Try.sizeOf5
    v5 := Try.zeroValue5
    t9 := Try.underlying9
    a9 := Try.isAgg9
    z9 := Try.sizeOf9
    v9 := Try.zeroValue9
    t22 := Try.underlying34
    a22 := Try.isAgg34
    z22 := Try.sizeOf34
    v22 := Try.zeroValue34
    a24 := Try.isAgg3
    z24 := Try.sizeOf3
    t25 := Try.underlying48
    a25 := Try.isAgg48
    z25 := Try.sizeOf48
    v25 := Try.zeroValue48
    t39 := Try.underlying57
    a39 := Try.isAgg57
    z39 := Try.sizeOf57
    v39 := Try.zeroValue57
    t45 := Try.underlying65
    a45 := Try.isAgg65
    z45 := Try.sizeOf65
    v45 := Try.zeroValue65
    t46 := Try.underlying66
    a46 := Try.isAgg66
    z46 := Try.sizeOf66
    v46 := Try.zeroValue66
    t50 := Try.underlying43
    a50 := Try.isAgg43
    z50 := Try.sizeOf43
    v50 := Try.zeroValue43
    t53 := Try.underlying72
    a53 := Try.isAgg72
    z53 := Try.sizeOf72
    v53 := Try.zeroValue72
    t55 := Try.underlying23
    a55 := Try.isAgg23
    z55 := Try.sizeOf23
    v55 := Try.zeroValue23
    t66 := Try.underlying75
    a66 := Try.isAgg75
    z66 := Try.sizeOf75
    v66 := Try.zeroValue75
    t70 := Try.underlying79
    a70 := Try.isAgg79
    z70 := Try.sizeOf79
    v70 := Try.zeroValue79
    t76 := Try.underlying81
    a76 := Try.isAgg81
    z76 := Try.sizeOf81
    v76 := Try.zeroValue81
    t77 := Try.underlying32
    a77 := Try.isAgg32
    z77 := Try.sizeOf32
    v77 := Try.zeroValue32 }
def path_Self_l2 (a0 : List Span) (x18 : List Int) (x22 : Int × Int) (v6_2 : Int) (v8_2 : Int) (v45_2 : Int) : Option ((Int × Int × Int) ⊕ (Int × Int)) :=
  if (decide (v45_2 < (List.length x18 : Int))) = true then (gd (0 ≤ v45_2) (Option.bind (x18[(Int.toNat v45_2)]?) (fun (x35 : Int) => gd (0 ≤ x35) (Option.bind (a0[(Int.toNat x35)]?) (fun (x38 : Span) => Option.bind (path_Ends x38) (fun (x39 : Int × Int) => some (Sum.inl ((if x39.2 > v6_2 then x39.2 else v6_2), (IntKind.i64.wrap (v8_2 + (if (IntKind.i64.wrap ((if x22.2 < x39.1 then x22.2 else x39.1) - v6_2)) > 0 then (IntKind.i64.wrap ((if x22.2 < x39.1 then x22.2 else x39.1) - v6_2)) else 0))), (IntKind.i64.wrap (v45_2 + 1)))))))))) else (some (Sum.inr (v6_2, v8_2)))
def path_Self_k1 (x22 : Int × Int) (v6_1 : Int) (v8_1 : Int) : Option Int :=
  some (IntKind.i64.wrap (v8_1 + (if (IntKind.i64.wrap (x22.2 - v6_1)) > 0 then (IntKind.i64.wrap (x22.2 - v6_1)) else 0)))
def path_Self_k0 (a0 : List Span) (a1 : Int) : Option Int :=
  Option.bind (tree_Kids a0) (fun (x13 : List (List Int)) => gd (0 ≤ a1) (Option.bind (x13[(Int.toNat a1)]?) (fun (x15 : List Int) => Option.bind (slices_Clone_int x15) (fun (x16 : List Int) => Option.bind (sort1 (fun (p : Int) (q : Int) => path_Self_c1 p q a0) x16) (fun (x18 : List Int) => gd (0 ≤ a1) (Option.bind (a0[(Int.toNat a1)]?) (fun (x21 : Span) => Option.bind (path_Ends x21) (fun (x22 : Int × Int) => Option.bind (loopN (fun (s : Int × Int × Int) => path_Self_l2 a0 x18 x22 s.1 s.2.1 s.2.2) Fu (x22.1, 0, 0)) (fun (s : Int × Int) => path_Self_k1 x22 s.1 s.2)))))))))
def path_Self (a0 : List Span) (a1 : Int) : Option Int :=
  Option.bind (if (decide (a1 < 0)) = true then (some (Sum.inr 0)) else (if (decide ((List.length a0 : Int) ≤ a1)) = true then (some (Sum.inr 0)) else (Option.bind (span_All a0) (fun (x9 : Bool) => if (!x9) = true then (some (Sum.inr 0)) else (some (Sum.inl ())))))) (Sum.elim (fun (s : Unit) => path_Self_k0 a0 a1) some)
set_option maxRecDepth 100000 in
set_option maxHeartbeats 8000000 in
/-- gleaning/path.Self -/
theorem path_Self_ok (a0 : List Span) (a1 : Int) {r : Int} (h : path_Self a0 a1 = some r) : Ok Try.prog 13 [.sl 10 (List.map enc27 a0), .int .i64 a1] [] [] (.int .i64 r) [] [] := by
  unfold path_Self at h
  refine ok_of_code Try.func13 rfl (by show (2 : Nat) ≤ _; decide) (Nat.le_refl _) fun X => ?_
  refine aw_seq_k (fun K1 hK1 => ?_)
  refine aw_regL ?_
  refine alD (some 2) rfl rfl (do_box (by conv => lhs; whnf) rfl rfl) (by decide) ?_
  refine alP (some 4) rfl rfl (does_assign (v := .int .i64 0) (by exact rfl)) (by decide) ?_
  refine al_nil ?_
  refine hK1 _ ?_
  obtain ⟨q2, h, hk3⟩ := bnd_some h
  refine aw_cut (fun s => path_Self_k0 a0 a1 = some r ∧ s = lit [(1, .int .i64 a1), (2, .ptr 2 0 0)] [((2, 0), .box [.sl 10 (List.map enc27 a0)])] [(2, 1)] X) ?_ ?_
  · skip
    refine aw_seq_k (fun K4 hK4 => ?_)
    refine aw_regL ?_
    refine alP (some 13) rfl rfl (does_move (v := .int .i64 a1) (by exact rfl)) (by decide) ?_
    refine alP (some 14) rfl rfl (does_bin (v := .bool (decide (a1 < 0))) (by conv => lhs; whnf) (by conv => lhs; whnf) rfl) (by decide) ?_
    refine alP (some 15) rfl rfl (does_move (v := .bool (decide (a1 < 0))) (by exact rfl)) (by decide) ?_
    refine al_bool (c := (decide (a1 < 0))) 15 rfl (fun c5 => ?_) (fun c5 => ?_)
    · have h := ifT c5 h
      refine alS (some 16) rfl rfl (by decide) ?_
      refine alS (some 17) rfl rfl (by decide) ?_
      refine alS (some 18) rfl rfl (by decide) ?_
      refine alS (some 19) rfl rfl (by decide) ?_
      refine alP (some 20) rfl rfl (does_pick (v := .bool true) (by conv => lhs; whnf) (by exact rfl)) (by decide) ?_
      refine alP (some 21) rfl rfl (does_move (v := .bool true) (by exact rfl)) (by decide) ?_
      refine alS (some 22) rfl rfl (by decide) ?_
      refine alS (some 23) rfl rfl (by decide) ?_
      refine alS (some 24) rfl rfl (by decide) ?_
      refine alP (some 25) rfl rfl (does_pick (v := .bool true) (by conv => lhs; whnf) (by exact rfl)) (by decide) ?_
      refine al_nil ?_
      refine hK4 _ ?_
      refine aw_cond_t (by decide) rfl ?_
      refine aw_seq_k (fun K6 hK6 => ?_)
      refine aw_regL ?_
      refine alP (some 4) rfl rfl (does_assign (v := .int .i64 0) (by exact rfl)) (by decide) ?_
      refine al_nil ?_
      refine hK6 _ ?_
      refine aw_ret ?_
      have h := leafR h hk3
      obtain rfl := Option.some.inj h
      exact ret_ok1 (by conv => lhs; whnf) (by conv => lhs; whnf) (by exact rfl) (.inr rfl) rfl
    · have h := ifF c5 h
      refine alP (some 16) rfl rfl (does_move (v := .int .i64 a1) (by exact rfl)) (by decide) ?_
      refine alR (some 17) rfl rfl (does_load (v := .sl 10 (List.map enc27 a0)) (by conv => lhs; whnf) (by conv => lhs; whnf) ty22 (by exact rfl)) (by decide) ?_
      refine alP (some 18) rfl rfl ((does_len_sl (by conv => lhs; whnf) ty22).castp (v' := .int .i64 (List.length a0 : Int)) (by exact len_map _)) (by decide) ?_
      refine alP (some 19) rfl rfl (does_bin (v := .bool (decide ((List.length a0 : Int) ≤ a1))) (by conv => lhs; whnf) (by conv => lhs; whnf) rfl) (by decide) ?_
      refine alP (some 20) rfl rfl (does_pick (v := .bool (decide ((List.length a0 : Int) ≤ a1))) (by conv => lhs; whnf) (by exact rfl)) (by decide) ?_
      refine alP (some 21) rfl rfl (does_move (v := .bool (decide ((List.length a0 : Int) ≤ a1))) (by exact rfl)) (by decide) ?_
      refine al_bool (c := (decide ((List.length a0 : Int) ≤ a1))) 21 rfl (fun c7 => ?_) (fun c7 => ?_)
      · have h := ifT c7 h
        refine alS (some 22) rfl rfl (by decide) ?_
        refine alS (some 23) rfl rfl (by decide) ?_
        refine alS (some 24) rfl rfl (by decide) ?_
        refine alP (some 25) rfl rfl (does_pick (v := .bool true) (by conv => lhs; whnf) (by exact rfl)) (by decide) ?_
        refine al_nil ?_
        refine hK4 _ ?_
        refine aw_cond_t (by decide) rfl ?_
        refine aw_seq_k (fun K8 hK8 => ?_)
        refine aw_regL ?_
        refine alP (some 4) rfl rfl (does_assign (v := .int .i64 0) (by exact rfl)) (by decide) ?_
        refine al_nil ?_
        refine hK8 _ ?_
        refine aw_ret ?_
        have h := leafR h hk3
        obtain rfl := Option.some.inj h
        exact ret_ok1 (by conv => lhs; whnf) (by conv => lhs; whnf) (by exact rfl) (.inr rfl) rfl
      · have h := ifF c7 h
        refine alR (some 22) rfl rfl (does_load (v := .sl 10 (List.map enc27 a0)) (by conv => lhs; whnf) (by conv => lhs; whnf) ty22 (by exact rfl)) (by decide) ?_
        obtain ⟨x9, hx9, h⟩ := bnd_some h
        refine alD (some 23) rfl rfl (do_call0 23 false (span_All_ok a0 hx9) rfl ent19 rfl rfl) (by decide) ?_
        refine alP (some 24) rfl rfl (does_un (v := .bool (!x9)) (by conv => lhs; whnf) rfl) (by decide) ?_
        refine alP (some 25) rfl rfl (does_pick (v := .bool (!x9)) (by conv => lhs; whnf) (by exact rfl)) (by decide) ?_
        refine al_nil ?_
        refine hK4 _ ?_
        refine aw_bool (b := (!x9)) 25 rfl (fun c10 => ?_) (fun c10 => ?_)
        · have h := ifT c10 h
          refine aw_cond_t (by decide) rfl ?_
          refine aw_seq_k (fun K11 hK11 => ?_)
          refine aw_regL ?_
          refine alP (some 4) rfl rfl (does_assign (v := .int .i64 0) (by exact rfl)) (by decide) ?_
          refine al_nil ?_
          refine hK11 _ ?_
          refine aw_ret ?_
          have h := leafR h hk3
          obtain rfl := Option.some.inj h
          exact ret_ok1 (by conv => lhs; whnf) (by conv => lhs; whnf) (by exact rfl) (.inr rfl) rfl
        · have h := ifF c10 h
          refine aw_cond_f (by decide) rfl ?_
          refine aw_skip ?_
          have h := leafL h hk3
          exact ⟨_, reb_lit [(1, .int .i64 a1), (2, .ptr 2 0 0)] [(2, 0)] [((2, 0), .box [.sl 10 (List.map enc27 a0)])] [(2, 1)] (envOk_cons (by conv => lhs; whnf) (by exact rfl) (envOk_cons (by conv => lhs; whnf) (by exact rfl) envOk_nil)) (objOk_cons (by conv => lhs; whnf) (by conv => lhs; whnf) (by exact rfl) (by simp) objOk_nil) (nodup_b rfl) (nodup_b rfl) rfl rfl, h, rfl⟩
  · rintro s ⟨h, rfl⟩
    unfold path_Self_k0 at h
    refine aw_seq_k (fun K12 hK12 => ?_)
    refine aw_regL ?_
    refine alR (some 26) rfl rfl (does_load (v := .sl 10 (List.map enc27 a0)) (by conv => lhs; whnf) (by conv => lhs; whnf) ty22 (by exact rfl)) (by decide) ?_
    obtain ⟨x13, hx13, h⟩ := bnd_some h
    refine alD (some 27) rfl rfl (do_call0 27 false (tree_Kids_ok a0 hx13) rfl ent20 rfl rfl) (by decide) ?_
    refine alP (some 28) rfl rfl (does_move (v := .int .i64 a1) (by exact rfl)) (by decide) ?_
    obtain ⟨g14, h⟩ := gd_some h
    obtain ⟨x15, hx15, h⟩ := bnd_some h
    refine alP (some 29) rfl rfl (does_indexAddr_sl (el := .sl 1 (List.map enc2 x15)) (by conv => lhs; whnf) (by conv => lhs; whnf) ty41 ty34 g14 (by exact map_get hx15)) (by decide) ?_
    refine alR (some 30) rfl rfl (does_load (v := .sl 1 (List.map enc2 x15)) (by conv => lhs; whnf) (by conv => lhs; whnf) ty34 (by exact rfl)) (by decide) ?_
    obtain ⟨x16, hx16, h⟩ := bnd_some h
    refine alD (some 31) rfl rfl (do_call0 31 false (slices_Clone_int_ok x15 hx16) rfl ent23 rfl rfl) (by decide) ?_
    refine alP (some 5) rfl rfl (does_assign (v := .own 31 0) (by exact rfl)) (by decide) ?_
    refine al_nil ?_
    refine hK12 _ ?_
    refine aw_seq_k (fun K17 hK17 => ?_)
    refine aw_regL ?_
    refine alP (some 32) rfl rfl (does_move (v := .own 31 0) (by exact rfl)) (by decide) ?_
    refine alP (some 33) rfl rfl (does_makeFunc (vs := [.ptr 2 0 0]) rfl) (by decide) ?_
    obtain ⟨x18, hx18, h⟩ := bnd_some h
    refine alD (some 34) rfl rfl (do_sort1E (d := 31) (n := 0) (e := 3) (cmp := (fun (p : Int) (q : Int) => path_Self_c1 p q a0)) (enc := enc2) (fun _ => rfl) [(2, 0)] sortL24 hx18 (fun x y q hq => by exact path_Self_c1_ok x y a0 hq) (by conv => lhs; whnf) (by conv => lhs; whnf) (by exact rfl) (by exact rfl) rfl rfl ent24 ent25) (by decide) ?_
    refine al_nil ?_
    refine hK17 _ ?_
    refine aw_seq_k (fun K19 hK19 => ?_)
    refine aw_regL ?_
    refine alR (some 36) rfl rfl (does_load (v := .sl 10 (List.map enc27 a0)) (by conv => lhs; whnf) (by conv => lhs; whnf) ty22 (by exact rfl)) (by decide) ?_
    refine alP (some 37) rfl rfl (does_move (v := .int .i64 a1) (by exact rfl)) (by decide) ?_
    obtain ⟨g20, h⟩ := gd_some h
    obtain ⟨x21, hx21, h⟩ := bnd_some h
    refine alP (some 38) rfl rfl (does_indexAddr_sl (el := .agg [.int .u64 x21.Trace.Hi, .int .u64 x21.Trace.Lo, .int .u64 x21.Id, .int .u64 x21.Parent, .str x21.Service, .str x21.Op, .int .i64 x21.Start, .int .i64 x21.Dur, .bool x21.Err, .sl 2 (List.map enc39 x21.Attrs)]) (by conv => lhs; whnf) (by conv => lhs; whnf) ty22 ty28 g20 (by exact map_get hx21)) (by decide) ?_
    refine alR (some 39) rfl rfl (does_load (v := .agg [.int .u64 x21.Trace.Hi, .int .u64 x21.Trace.Lo, .int .u64 x21.Id, .int .u64 x21.Parent, .str x21.Service, .str x21.Op, .int .i64 x21.Start, .int .i64 x21.Dur, .bool x21.Err, .sl 2 (List.map enc39 x21.Attrs)]) (by conv => lhs; whnf) (by conv => lhs; whnf) ty28 (by exact rfl)) (by decide) ?_
    obtain ⟨x22, hx22, h⟩ := bnd_some h
    refine alD (some 40) rfl rfl (do_call0 40 false (path_Ends_ok x21 hx22) rfl ent9 rfl rfl) (by decide) ?_
    refine alP (some 35) rfl rfl (does_move (v := .tup [.int .i64 x22.1, .int .i64 x22.2]) (by exact rfl)) (by decide) ?_
    refine alP (some 41) rfl rfl (does_extract (v := .int .i64 x22.1) (by conv => lhs; whnf) (by exact rfl)) (by decide) ?_
    refine alP (some 42) rfl rfl (does_extract (v := .int .i64 x22.2) (by conv => lhs; whnf) (by exact rfl)) (by decide) ?_
    refine alP (some 6) rfl rfl (does_assign (v := .int .i64 x22.1) (by exact rfl)) (by decide) ?_
    refine alP (some 7) rfl rfl (does_assign (v := .int .i64 x22.2) (by exact rfl)) (by decide) ?_
    refine al_nil ?_
    refine hK19 _ ?_
    refine aw_seq_k (fun K23 hK23 => ?_)
    refine aw_regL ?_
    refine alP (some 8) rfl rfl (does_assign (v := .int .i64 0) (by exact rfl)) (by decide) ?_
    refine al_nil ?_
    refine hK23 _ ?_
    obtain ⟨q24, h, hk25⟩ := bnd_some h
    refine aw_cut (fun s => ∃ (v6_1 : Int), ∃ (v8_1 : Int), path_Self_k1 x22 v6_1 v8_1 = some r ∧ s = lit [(6, .int .i64 v6_1), (7, .int .i64 x22.2), (8, .int .i64 v8_1)] [] [] X) ?_ ?_
    · skip
      refine aw_seq_k (fun K26 hK26 => ?_)
      refine aw_regL ?_
      refine alP (some 43) rfl rfl (does_move (v := .own 31 0) (by exact rfl)) (by decide) ?_
      refine alR (some 44) rfl rfl ((does_len_own (by conv => lhs; whnf) (by conv => lhs; whnf) ty34).cast (v' := .int .i64 (List.length x18 : Int)) (by exact len_map _)) (by decide) ?_
      refine alP (some 45) rfl rfl (does_move (v := .int .i64 0) (by exact rfl)) (by decide) ?_
      refine al_nil ?_
      refine hK26 _ ?_
      refine aw_block ?_
      refine aw_loop' (fun m s => ∃ (v6_2 : Int), ∃ (v8_2 : Int), ∃ (v45_2 : Int), loopN (fun (s : Int × Int × Int) => path_Self_l2 a0 x18 x22 s.1 s.2.1 s.2.2) m (v6_2, v8_2, v45_2) = some q24 ∧ s = lit [(2, .ptr 2 0 0), (6, .int .i64 v6_2), (7, .int .i64 x22.2), (8, .int .i64 v8_2), (43, .own 31 0), (44, .int .i64 (List.length x18 : Int)), (45, .int .i64 v45_2)] [((2, 0), .box [.sl 10 (List.map enc27 a0)]), ((31, 0), .arr 3 1 false (List.map enc2 x18))] [(2, 1), (31, 1)] X) Fu
        ⟨_, reb_lit [(2, .ptr 2 0 0), (6, .int .i64 x22.1), (7, .int .i64 x22.2), (8, .int .i64 (0)), (43, .own 31 0), (44, .int .i64 (List.length x18 : Int)), (45, .int .i64 (0))] [(2, 0), (31, 0)] [((2, 0), .box [.sl 10 (List.map enc27 a0)]), ((31, 0), .arr 3 1 false (List.map enc2 x18))] [(2, 1), (31, 1)] (envOk_cons (by conv => lhs; whnf) (by exact rfl) (envOk_cons (by conv => lhs; whnf) (by exact rfl) (envOk_cons (by conv => lhs; whnf) (by exact rfl) (envOk_cons (by conv => lhs; whnf) (by exact rfl) (envOk_cons (by conv => lhs; whnf) (by exact rfl) (envOk_cons (by conv => lhs; whnf) (by exact rfl) (envOk_cons (by conv => lhs; whnf) (by exact rfl) envOk_nil))))))) (objOk_cons (by conv => lhs; whnf) (by conv => lhs; whnf) (by exact rfl) (by simp) (objOk_cons (by conv => lhs; whnf) (by conv => lhs; whnf) (by exact rfl) (by simp) objOk_nil)) (nodup_b rfl) (nodup_b rfl) rfl rfl, x22.1, 0, 0, h, rfl⟩ ?_
      rintro m s ⟨v6_2, v8_2, v45_2, h, rfl⟩
      obtain ⟨m2, q27, rfl, h, hq28⟩ := loop_some h
      replace h : path_Self_l2 a0 x18 x22 v6_2 v8_2 v45_2 = some q27 := h
      unfold path_Self_l2 at h
      refine aw_seq_k (fun K29 hK29 => ?_)
      refine aw_regL ?_
      refine alP (some 46) rfl rfl (does_bin (v := .bool (decide (v45_2 < (List.length x18 : Int)))) (by conv => lhs; whnf) (by conv => lhs; whnf) rfl) (by decide) ?_
      refine al_nil ?_
      refine hK29 _ ?_
      refine aw_seq_k (fun K30 hK30 => ?_)
      refine aw_bool (b := (decide (v45_2 < (List.length x18 : Int)))) 46 rfl (fun c31 => ?_) (fun c31 => ?_)
      · have h := ifT c31 h
        refine aw_cond_t (by decide) rfl ?_
        refine aw_skip ?_
        refine hK30 _ ?_
        refine aw_seq_k (fun K32 hK32 => ?_)
        refine aw_block ?_
        refine aw_seq_k (fun K33 hK33 => ?_)
        refine aw_regL ?_
        obtain ⟨g34, h⟩ := gd_some h
        obtain ⟨x35, hx35, h⟩ := bnd_some h
        refine alR (some 47) rfl rfl (does_indexAddr_own (by conv => lhs; whnf) (by conv => lhs; whnf) (by conv => lhs; whnf) ty34 ty3 g34 (by exact own_lt hx35)) (by decide) ?_
        refine alR (some 48) rfl rfl (does_load (v := .int .i64 x35) (by conv => lhs; whnf) (cellsAt_eptr (by conv => lhs; whnf) (by exact map_get hx35)) ty3 (by exact rfl)) (by decide) ?_
        refine alP (some 10) rfl rfl (does_assign (v := .int .i64 x35) (by exact rfl)) (by decide) ?_
        refine al_nil ?_
        refine hK33 _ ?_
        refine aw_seq_k (fun K36 hK36 => ?_)
        refine aw_regL ?_
        refine alR (some 50) rfl rfl (does_load (v := .sl 10 (List.map enc27 a0)) (by conv => lhs; whnf) (by conv => lhs; whnf) ty22 (by exact rfl)) (by decide) ?_
        refine alP (some 51) rfl rfl (does_move (v := .int .i64 x35) (by exact rfl)) (by decide) ?_
        obtain ⟨g37, h⟩ := gd_some h
        obtain ⟨x38, hx38, h⟩ := bnd_some h
        refine alP (some 52) rfl rfl (does_indexAddr_sl (el := .agg [.int .u64 x38.Trace.Hi, .int .u64 x38.Trace.Lo, .int .u64 x38.Id, .int .u64 x38.Parent, .str x38.Service, .str x38.Op, .int .i64 x38.Start, .int .i64 x38.Dur, .bool x38.Err, .sl 2 (List.map enc39 x38.Attrs)]) (by conv => lhs; whnf) (by conv => lhs; whnf) ty22 ty28 g37 (by exact map_get hx38)) (by decide) ?_
        refine alR (some 53) rfl rfl (does_load (v := .agg [.int .u64 x38.Trace.Hi, .int .u64 x38.Trace.Lo, .int .u64 x38.Id, .int .u64 x38.Parent, .str x38.Service, .str x38.Op, .int .i64 x38.Start, .int .i64 x38.Dur, .bool x38.Err, .sl 2 (List.map enc39 x38.Attrs)]) (by conv => lhs; whnf) (by conv => lhs; whnf) ty28 (by exact rfl)) (by decide) ?_
        obtain ⟨x39, hx39, h⟩ := bnd_some h
        refine alD (some 54) rfl rfl (do_call0 54 false (path_Ends_ok x38 hx39) rfl ent9 rfl rfl) (by decide) ?_
        refine alP (some 49) rfl rfl (does_move (v := .tup [.int .i64 x39.1, .int .i64 x39.2]) (by exact rfl)) (by decide) ?_
        refine alP (some 55) rfl rfl (does_extract (v := .int .i64 x39.1) (by conv => lhs; whnf) (by exact rfl)) (by decide) ?_
        refine alP (some 56) rfl rfl (does_extract (v := .int .i64 x39.2) (by conv => lhs; whnf) (by exact rfl)) (by decide) ?_
        refine alP (some 11) rfl rfl (does_assign (v := .int .i64 x39.1) (by exact rfl)) (by decide) ?_
        refine alP (some 12) rfl rfl (does_assign (v := .int .i64 x39.2) (by exact rfl)) (by decide) ?_
        refine al_nil ?_
        refine hK36 _ ?_
        refine aw_seq_k (fun K40 hK40 => ?_)
        refine aw_regL ?_
        refine alP (some 57) rfl rfl (does_move (v := .int .i64 v8_2) (by exact rfl)) (by decide) ?_
        refine alP (some 58) rfl rfl (does_move (v := .int .i64 x39.1) (by exact rfl)) (by decide) ?_
        refine alP (some 59) rfl rfl (does_move (v := .int .i64 x22.2) (by exact rfl)) (by decide) ?_
        refine alP (some 60) rfl rfl ((does_min (by conv => lhs; whnf) (by conv => lhs; whnf)).castp (v' := .int .i64 (if x22.2 < x39.1 then x22.2 else x39.1)) rfl) (by decide) ?_
        refine alP (some 61) rfl rfl (does_move (v := .int .i64 v6_2) (by exact rfl)) (by decide) ?_
        refine alP (some 62) rfl rfl (does_bin (v := .int .i64 (IntKind.i64.wrap ((if x22.2 < x39.1 then x22.2 else x39.1) - v6_2))) (by conv => lhs; whnf) (by conv => lhs; whnf) rfl) (by decide) ?_
        refine alP (some 63) rfl rfl ((does_max (by conv => lhs; whnf) (by conv => lhs; whnf)).castp (v' := .int .i64 (if (IntKind.i64.wrap ((if x22.2 < x39.1 then x22.2 else x39.1) - v6_2)) > 0 then (IntKind.i64.wrap ((if x22.2 < x39.1 then x22.2 else x39.1) - v6_2)) else 0)) rfl) (by decide) ?_
        refine alP (some 64) rfl rfl (does_bin (v := .int .i64 (IntKind.i64.wrap (v8_2 + (if (IntKind.i64.wrap ((if x22.2 < x39.1 then x22.2 else x39.1) - v6_2)) > 0 then (IntKind.i64.wrap ((if x22.2 < x39.1 then x22.2 else x39.1) - v6_2)) else 0)))) (by conv => lhs; whnf) (by conv => lhs; whnf) rfl) (by decide) ?_
        refine alP (some 8) rfl rfl (does_assign (v := .int .i64 (IntKind.i64.wrap (v8_2 + (if (IntKind.i64.wrap ((if x22.2 < x39.1 then x22.2 else x39.1) - v6_2)) > 0 then (IntKind.i64.wrap ((if x22.2 < x39.1 then x22.2 else x39.1) - v6_2)) else 0)))) (by exact rfl)) (by decide) ?_
        refine al_nil ?_
        refine hK40 _ ?_
        refine aw_regL ?_
        refine alP (some 65) rfl rfl (does_move (v := .int .i64 v6_2) (by exact rfl)) (by decide) ?_
        refine alP (some 66) rfl rfl (does_move (v := .int .i64 x39.2) (by exact rfl)) (by decide) ?_
        refine alP (some 67) rfl rfl ((does_max (by conv => lhs; whnf) (by conv => lhs; whnf)).castp (v' := .int .i64 (if x39.2 > v6_2 then x39.2 else v6_2)) rfl) (by decide) ?_
        refine alP (some 6) rfl rfl (does_assign (v := .int .i64 (if x39.2 > v6_2 then x39.2 else v6_2)) (by exact rfl)) (by decide) ?_
        refine al_nil ?_
        refine hK32 _ ?_
        refine aw_regL ?_
        refine alP (some 68) rfl rfl (does_bin (v := .int .i64 (IntKind.i64.wrap (v45_2 + 1))) (by conv => lhs; whnf) (by conv => lhs; whnf) rfl) (by decide) ?_
        refine alP (some 45) rfl rfl (does_move (v := .int .i64 (IntKind.i64.wrap (v45_2 + 1))) (by exact rfl)) (by decide) ?_
        refine al_nil ?_
        have h := leafL h hq28
        exact ⟨m2, Nat.lt_succ_self _, _, reb_lit [(2, .ptr 2 0 0), (6, .int .i64 (if x39.2 > v6_2 then x39.2 else v6_2)), (7, .int .i64 x22.2), (8, .int .i64 (IntKind.i64.wrap (v8_2 + (if (IntKind.i64.wrap ((if x22.2 < x39.1 then x22.2 else x39.1) - v6_2)) > 0 then (IntKind.i64.wrap ((if x22.2 < x39.1 then x22.2 else x39.1) - v6_2)) else 0)))), (43, .own 31 0), (44, .int .i64 (List.length x18 : Int)), (45, .int .i64 (IntKind.i64.wrap (v45_2 + 1)))] [(2, 0), (31, 0)] [((2, 0), .box [.sl 10 (List.map enc27 a0)]), ((31, 0), .arr 3 1 false (List.map enc2 x18))] [(2, 1), (31, 1)] (envOk_cons (by conv => lhs; whnf) (by exact rfl) (envOk_cons (by conv => lhs; whnf) (by exact rfl) (envOk_cons (by conv => lhs; whnf) (by exact rfl) (envOk_cons (by conv => lhs; whnf) (by exact rfl) (envOk_cons (by conv => lhs; whnf) (by exact rfl) (envOk_cons (by conv => lhs; whnf) (by exact rfl) (envOk_cons (by conv => lhs; whnf) (by exact rfl) envOk_nil))))))) (objOk_cons (by conv => lhs; whnf) (by conv => lhs; whnf) (by exact rfl) (by simp) (objOk_cons (by conv => lhs; whnf) (by conv => lhs; whnf) (by exact rfl) (by simp) objOk_nil)) (nodup_b rfl) (nodup_b rfl) rfl rfl, (if x39.2 > v6_2 then x39.2 else v6_2), (IntKind.i64.wrap (v8_2 + (if (IntKind.i64.wrap ((if x22.2 < x39.1 then x22.2 else x39.1) - v6_2)) > 0 then (IntKind.i64.wrap ((if x22.2 < x39.1 then x22.2 else x39.1) - v6_2)) else 0))), (IntKind.i64.wrap (v45_2 + 1)), h, rfl⟩
      · have h := ifF c31 h
        refine aw_cond_f (by decide) rfl ?_
        refine aw_exit ?_
        have h := leafR h hq28
        obtain rfl := Option.some.inj h
        have h := hk25
        exact ⟨_, reb_lit [(6, .int .i64 v6_2), (7, .int .i64 x22.2), (8, .int .i64 v8_2)] [] [] [] (envOk_cons (by conv => lhs; whnf) (by exact rfl) (envOk_cons (by conv => lhs; whnf) (by exact rfl) (envOk_cons (by conv => lhs; whnf) (by exact rfl) envOk_nil))) objOk_nil (nodup_b rfl) (nodup_b rfl) rfl rfl, v6_2, v8_2, h, rfl⟩
    · rintro s ⟨v6_1, v8_1, h, rfl⟩
      unfold path_Self_k1 at h
      refine aw_seq_k (fun K41 hK41 => ?_)
      refine aw_regL ?_
      refine alP (some 69) rfl rfl (does_move (v := .int .i64 v8_1) (by exact rfl)) (by decide) ?_
      refine alP (some 70) rfl rfl (does_move (v := .int .i64 x22.2) (by exact rfl)) (by decide) ?_
      refine alP (some 71) rfl rfl (does_move (v := .int .i64 v6_1) (by exact rfl)) (by decide) ?_
      refine alP (some 72) rfl rfl (does_bin (v := .int .i64 (IntKind.i64.wrap (x22.2 - v6_1))) (by conv => lhs; whnf) (by conv => lhs; whnf) rfl) (by decide) ?_
      refine alP (some 73) rfl rfl ((does_max (by conv => lhs; whnf) (by conv => lhs; whnf)).castp (v' := .int .i64 (if (IntKind.i64.wrap (x22.2 - v6_1)) > 0 then (IntKind.i64.wrap (x22.2 - v6_1)) else 0)) rfl) (by decide) ?_
      refine alP (some 74) rfl rfl (does_bin (v := .int .i64 (IntKind.i64.wrap (v8_1 + (if (IntKind.i64.wrap (x22.2 - v6_1)) > 0 then (IntKind.i64.wrap (x22.2 - v6_1)) else 0)))) (by conv => lhs; whnf) (by conv => lhs; whnf) rfl) (by decide) ?_
      refine alP (some 4) rfl rfl (does_assign (v := .int .i64 (IntKind.i64.wrap (v8_1 + (if (IntKind.i64.wrap (x22.2 - v6_1)) > 0 then (IntKind.i64.wrap (x22.2 - v6_1)) else 0)))) (by exact rfl)) (by decide) ?_
      refine al_nil ?_
      refine hK41 _ ?_
      refine aw_ret ?_
      obtain rfl := Option.some.inj h
      exact ret_ok1 (by conv => lhs; whnf) (by conv => lhs; whnf) (by exact rfl) (.inr rfl) rfl
end Go.Proofs.Ytmompdklolomfaa.Ab
