/- Chapter 32: merged blocks. -/
import Derived.Test.YtnhjcpnoadicpaaXSNarrows
import Derived.Test.YtnhjcpnoadicpaaProg
namespace Go.Proofs.Ytnhjcpnoadicpaa.Ab
open Go Go.RowKit
set_option linter.unusedVariables false
set_option linter.unusedSimpArgs false
theorem ent20 : Ent Try.prog 20 := ⟨_, Try.func20, by kernel_rfl, rfl⟩
def gleaninglaw32_SearchMerged_l2 (a0 : List Block) (v7_s_2 : List Block) (v8_2 : Int) : Option ((List Block × Int) ⊕ (List Block)) :=
  if (decide ((0 : Int) ≤ v8_2)) = true then (gd (0 ≤ v8_2) (Option.bind (a0[(Int.toNat v8_2)]?) (fun (x28 : Block) => gd ((List.length (v7_s_2 ++ [x28])) * 48 ≤ 140737488355328 ∧ (List.length (v7_s_2 ++ [x28])) ≤ 140737488355328) (some (Sum.inl ((v7_s_2 ++ [x28]), (IntKind.i64.wrap (v8_2 - 1)))))))) else (some (Sum.inr v7_s_2))
def gleaninglaw32_SearchMerged_l4 (a0 : List Block) (v10_s_0_4 : Int) (v10_s_1_4 : Int) (v10_s_2_4 : Int) (v10_s_3_4 : List Episode) (v11_4 : Int) : Option ((Int × Int × Int × List Episode × Int) ⊕ (Int × Int × Int × List Episode)) :=
  if (decide (v11_4 < (List.length a0 : Int))) = true then (gd (0 ≤ v11_4) (Option.bind (a0[(Int.toNat v11_4)]?) (fun (x43 : Block) => Option.bind (gleaningref15_Join (Block.mk v10_s_0_4 v10_s_1_4 v10_s_2_4 v10_s_3_4) x43 v11_4) (fun (x44 : Block) => some (Sum.inl (x44.Number, x44.Born, x44.Tier, x44.Episodes, (IntKind.i64.wrap (v11_4 + 1)))))))) else (some (Sum.inr (v10_s_0_4, v10_s_1_4, v10_s_2_4, v10_s_3_4)))
def gleaninglaw32_SearchMerged_k3 (a0 : List Block) (a1 : Query) (x16 : List Trace) (x31 : List Trace) (v10_s_0_3 : Int) (v10_s_1_3 : Int) (v10_s_2_3 : Int) (v10_s_3_3 : List Episode) : Option Bool :=
  Option.bind (search_Find [(Block.mk v10_s_0_3 v10_s_1_3 v10_s_2_3 v10_s_3_3)] a1 1000) (fun (x46 : List Trace) => Option.bind (gleaningref28_SameTraces x16 x31) (fun (x48 : Bool) => if x48 = true then (Option.bind (gleaningref28_SameTraces x16 x46) (fun (x50 : Bool) => if x50 = true then (Option.bind (search_Count a0 a1) (fun (x52 : Int) => some ((List.length x16 : Int) == x52))) else (some false))) else (some false)))
def gleaninglaw32_SearchMerged_k1 (a0 : List Block) (a1 : Query) (x16 : List Trace) (v7_s_1 : List Block) : Option Bool :=
  Option.bind (search_Find v7_s_1 a1 1000) (fun (x31 : List Trace) => Option.bind (loopN (fun (s : Int × Int × Int × List Episode × Int) => gleaninglaw32_SearchMerged_l4 a0 s.1 s.2.1 s.2.2.1 s.2.2.2.1 s.2.2.2.2) Fu (0, 0, 0, [], 0)) (fun (s : Int × Int × Int × List Episode) => gleaninglaw32_SearchMerged_k3 a0 a1 x16 x31 s.1 s.2.1 s.2.2.1 s.2.2.2))
def gleaninglaw32_SearchMerged_k0 (a0 : List Block) (a1 : Query) : Option Bool :=
  Option.bind (search_Find a0 a1 1000) (fun (x16 : List Trace) => Option.bind (loopN (fun (s : List Block × Int) => gleaninglaw32_SearchMerged_l2 a0 s.1 s.2) Fu ([], (IntKind.i64.wrap ((List.length a0 : Int) - 1)))) (fun (s : List Block) => gleaninglaw32_SearchMerged_k1 a0 a1 x16 s))
def gleaninglaw32_SearchMerged (a0 : List Block) (a1 : Query) : Option Bool :=
  Option.bind (gleaninglaw32_alive) (fun (x3 : Bool) => Option.bind (if (!x3) = true then (some (Sum.inr x3)) else (Option.bind (gleaninglaw19_Few a0) (fun (x9 : Bool) => if (!x9) = true then (some (Sum.inr x3)) else (Option.bind (gleaninglaw32_Few a1) (fun (x12 : Bool) => if (!x12) = true then (some (Sum.inr x3)) else (some (Sum.inl ()))))))) (Sum.elim (fun (s : Unit) => gleaninglaw32_SearchMerged_k0 a0 a1) some))
set_option maxRecDepth 100000 in
set_option maxHeartbeats 8000000 in
/-- gleaning/gleaninglaw32.SearchMerged -/
theorem gleaninglaw32_SearchMerged_ok (a0 : List Block) (a1 : Query) {r : Bool} (h : gleaninglaw32_SearchMerged a0 a1 = some r) : Ok Try.prog 5 [.sl 4 (List.map enc44 a0), .agg [.str a1.Service, .str a1.Op, .str a1.Key, .str a1.Value, .int .i64 a1.Dur, .bool a1.Err]] [] [] (.bool r) [] [] := by
  unfold gleaninglaw32_SearchMerged at h
  refine ok_of_code Try.func5 rfl (by show (2 : Nat) ≤ _; decide) (Nat.le_refl _) fun X => ?_
  refine aw_seq_k (fun K1 hK1 => ?_)
  refine aw_regL ?_
  refine alD (some 3) rfl rfl (do_box (by conv => lhs; whnf) rfl rfl) (by decide) ?_
  refine alP (some 4) rfl rfl (does_assign (v := .bool false) (by exact rfl)) (by decide) ?_
  refine al_nil ?_
  refine hK1 _ ?_
  refine aw_seq_k (fun K2 hK2 => ?_)
  refine aw_regL ?_
  obtain ⟨x3, hx3, h⟩ := bnd_some h
  refine alD (some 13) rfl rfl (do_call0 13 false (gleaninglaw32_alive_ok hx3) rfl ent7 rfl rfl) (by decide) ?_
  refine alP (some 5) rfl rfl (does_assign (v := .bool x3) (by exact rfl)) (by decide) ?_
  refine al_nil ?_
  refine hK2 _ ?_
  obtain ⟨q4, h, hk5⟩ := bnd_some h
  refine aw_cut (fun s => gleaninglaw32_SearchMerged_k0 a0 a1 = some r ∧ s = lit [(0, .sl 4 (List.map enc44 a0)), (3, .ptr 3 0 0)] [((3, 0), .box [.str a1.Service, .str a1.Op, .str a1.Key, .str a1.Value, .int .i64 a1.Dur, .bool a1.Err])] [(3, 1)] X) ?_ ?_
  · skip
    refine aw_seq_k (fun K6 hK6 => ?_)
    refine aw_regL ?_
    refine alP (some 14) rfl rfl (does_move (v := .bool x3) (by exact rfl)) (by decide) ?_
    refine alP (some 15) rfl rfl (does_un (v := .bool (!x3)) (by conv => lhs; whnf) rfl) (by decide) ?_
    refine alP (some 16) rfl rfl (does_move (v := .bool (!x3)) (by exact rfl)) (by decide) ?_
    refine al_bool (c := (!x3)) 16 rfl (fun c7 => ?_) (fun c7 => ?_)
    · have h := ifT c7 h
      refine alS (some 17) rfl rfl (by decide) ?_
      refine alS (some 18) rfl rfl (by decide) ?_
      refine alS (some 19) rfl rfl (by decide) ?_
      refine alP (some 20) rfl rfl (does_pick (v := .bool true) (by conv => lhs; whnf) (by exact rfl)) (by decide) ?_
      refine alP (some 21) rfl rfl (does_move (v := .bool true) (by exact rfl)) (by decide) ?_
      refine alS (some 22) rfl rfl (by decide) ?_
      refine alS (some 23) rfl rfl (by decide) ?_
      refine alS (some 24) rfl rfl (by decide) ?_
      refine alP (some 25) rfl rfl (does_pick (v := .bool true) (by conv => lhs; whnf) (by exact rfl)) (by decide) ?_
      refine al_nil ?_
      refine hK6 _ ?_
      refine aw_cond_t (by decide) rfl ?_
      refine aw_seq_k (fun K8 hK8 => ?_)
      refine aw_regL ?_
      refine alP (some 26) rfl rfl (does_move (v := .bool x3) (by exact rfl)) (by decide) ?_
      refine alP (some 4) rfl rfl (does_assign (v := .bool x3) (by exact rfl)) (by decide) ?_
      refine al_nil ?_
      refine hK8 _ ?_
      refine aw_ret ?_
      have h := leafR h hk5
      obtain rfl := Option.some.inj h
      exact ret_ok1 (by conv => lhs; whnf) (by conv => lhs; whnf) (by exact rfl) (.inr rfl) rfl
    · have h := ifF c7 h
      refine alP (some 17) rfl rfl (does_move (v := .sl 4 (List.map enc44 a0)) (by exact rfl)) (by decide) ?_
      obtain ⟨x9, hx9, h⟩ := bnd_some h
      refine alD (some 18) rfl rfl (do_call0 18 false (gleaninglaw19_Few_ok a0 hx9) rfl ent8 rfl rfl) (by decide) ?_
      refine alP (some 19) rfl rfl (does_un (v := .bool (!x9)) (by conv => lhs; whnf) rfl) (by decide) ?_
      refine alP (some 20) rfl rfl (does_pick (v := .bool (!x9)) (by conv => lhs; whnf) (by exact rfl)) (by decide) ?_
      refine alP (some 21) rfl rfl (does_move (v := .bool (!x9)) (by exact rfl)) (by decide) ?_
      refine al_bool (c := (!x9)) 21 rfl (fun c10 => ?_) (fun c10 => ?_)
      · have h := ifT c10 h
        refine alS (some 22) rfl rfl (by decide) ?_
        refine alS (some 23) rfl rfl (by decide) ?_
        refine alS (some 24) rfl rfl (by decide) ?_
        refine alP (some 25) rfl rfl (does_pick (v := .bool true) (by conv => lhs; whnf) (by exact rfl)) (by decide) ?_
        refine al_nil ?_
        refine hK6 _ ?_
        refine aw_cond_t (by decide) rfl ?_
        refine aw_seq_k (fun K11 hK11 => ?_)
        refine aw_regL ?_
        refine alP (some 26) rfl rfl (does_move (v := .bool x3) (by exact rfl)) (by decide) ?_
        refine alP (some 4) rfl rfl (does_assign (v := .bool x3) (by exact rfl)) (by decide) ?_
        refine al_nil ?_
        refine hK11 _ ?_
        refine aw_ret ?_
        have h := leafR h hk5
        obtain rfl := Option.some.inj h
        exact ret_ok1 (by conv => lhs; whnf) (by conv => lhs; whnf) (by exact rfl) (.inr rfl) rfl
      · have h := ifF c10 h
        refine alR (some 22) rfl rfl (does_load (v := .agg [.str a1.Service, .str a1.Op, .str a1.Key, .str a1.Value, .int .i64 a1.Dur, .bool a1.Err]) (by conv => lhs; whnf) (by conv => lhs; whnf) ty24 (by exact rfl)) (by decide) ?_
        obtain ⟨x12, hx12, h⟩ := bnd_some h
        refine alD (some 23) rfl rfl (do_call0 23 false (gleaninglaw32_Few_ok a1 hx12) rfl ent9 rfl rfl) (by decide) ?_
        refine alP (some 24) rfl rfl (does_un (v := .bool (!x12)) (by conv => lhs; whnf) rfl) (by decide) ?_
        refine alP (some 25) rfl rfl (does_pick (v := .bool (!x12)) (by conv => lhs; whnf) (by exact rfl)) (by decide) ?_
        refine al_nil ?_
        refine hK6 _ ?_
        refine aw_bool (b := (!x12)) 25 rfl (fun c13 => ?_) (fun c13 => ?_)
        · have h := ifT c13 h
          refine aw_cond_t (by decide) rfl ?_
          refine aw_seq_k (fun K14 hK14 => ?_)
          refine aw_regL ?_
          refine alP (some 26) rfl rfl (does_move (v := .bool x3) (by exact rfl)) (by decide) ?_
          refine alP (some 4) rfl rfl (does_assign (v := .bool x3) (by exact rfl)) (by decide) ?_
          refine al_nil ?_
          refine hK14 _ ?_
          refine aw_ret ?_
          have h := leafR h hk5
          obtain rfl := Option.some.inj h
          exact ret_ok1 (by conv => lhs; whnf) (by conv => lhs; whnf) (by exact rfl) (.inr rfl) rfl
        · have h := ifF c13 h
          refine aw_cond_f (by decide) rfl ?_
          refine aw_skip ?_
          have h := leafL h hk5
          exact ⟨_, reb_lit [(0, .sl 4 (List.map enc44 a0)), (3, .ptr 3 0 0)] [(3, 0)] [((3, 0), .box [.str a1.Service, .str a1.Op, .str a1.Key, .str a1.Value, .int .i64 a1.Dur, .bool a1.Err])] [(3, 1)] (envOk_cons (by conv => lhs; whnf) (by exact rfl) (envOk_cons (by conv => lhs; whnf) (by exact rfl) envOk_nil)) (objOk_cons (by conv => lhs; whnf) (by conv => lhs; whnf) (by exact rfl) (by simp) objOk_nil) (nodup_b rfl) (nodup_b rfl) rfl rfl, h, rfl⟩
  · rintro s ⟨h, rfl⟩
    unfold gleaninglaw32_SearchMerged_k0 at h
    refine aw_seq_k (fun K15 hK15 => ?_)
    refine aw_regL ?_
    refine alP (some 27) rfl rfl (does_move (v := .sl 4 (List.map enc44 a0)) (by exact rfl)) (by decide) ?_
    refine alR (some 28) rfl rfl (does_load (v := .agg [.str a1.Service, .str a1.Op, .str a1.Key, .str a1.Value, .int .i64 a1.Dur, .bool a1.Err]) (by conv => lhs; whnf) (by conv => lhs; whnf) ty24 (by exact rfl)) (by decide) ?_
    obtain ⟨x16, hx16, h⟩ := bnd_some h
    refine alD (some 29) rfl rfl (do_call0 29 false (search_Find_ok a0 a1 1000 hx16) rfl ent14 rfl rfl) (by decide) ?_
    refine alP (some 6) rfl rfl (does_assign (v := .sl 2 (List.map enc26 x16)) (by exact rfl)) (by decide) ?_
    refine al_nil ?_
    refine hK15 _ ?_
    refine aw_seq_k (fun K17 hK17 => ?_)
    refine aw_regL ?_
    refine alP (some 7) rfl rfl (does_assign (v := .nil) (by exact rfl)) (by decide) ?_
    refine al_nil ?_
    refine hK17 _ ?_
    obtain ⟨q18, h, hk19⟩ := bnd_some h
    refine aw_cut (fun s => ∃ (v7_s_1 : List Block), gleaninglaw32_SearchMerged_k1 a0 a1 x16 v7_s_1 = some r ∧ s = lit [(0, .sl 4 (List.map enc44 a0)), (3, .ptr 3 0 0), (6, .sl 2 (List.map enc26 x16)), (7, .own 7 0)] [((3, 0), .box [.str a1.Service, .str a1.Op, .str a1.Key, .str a1.Value, .int .i64 a1.Dur, .bool a1.Err]), ((7, 0), .arr 45 4 false (List.map enc44 v7_s_1))] [(3, 1), (7, 1)] X) ?_ ?_
    · skip
      refine aw_seq_k (fun K20 hK20 => ?_)
      refine aw_regL ?_
      refine alP (some 30) rfl rfl (does_move (v := .sl 4 (List.map enc44 a0)) (by exact rfl)) (by decide) ?_
      refine alP (some 31) rfl rfl ((does_len_sl (by conv => lhs; whnf) ty22).castp (v' := .int .i64 (List.length a0 : Int)) (by exact len_map _)) (by decide) ?_
      refine alP (some 32) rfl rfl (does_bin (v := .int .i64 (IntKind.i64.wrap ((List.length a0 : Int) - 1))) (by conv => lhs; whnf) (by conv => lhs; whnf) rfl) (by decide) ?_
      refine alP (some 8) rfl rfl (does_assign (v := .int .i64 (IntKind.i64.wrap ((List.length a0 : Int) - 1))) (by exact rfl)) (by decide) ?_
      refine al_nil ?_
      refine hK20 _ ?_
      refine aw_block ?_
      refine aw_nilOwn 7 45 4 (by conv => lhs; whnf) (by decide) (by decide) ?_
      refine aw_loop' (fun m s => ∃ (v7_s_2 : List Block), ∃ (v8_2 : Int), loopN (fun (s : List Block × Int) => gleaninglaw32_SearchMerged_l2 a0 s.1 s.2) m (v7_s_2, v8_2) = some q18 ∧ s = lit [(0, .sl 4 (List.map enc44 a0)), (3, .ptr 3 0 0), (6, .sl 2 (List.map enc26 x16)), (7, .own 7 0), (8, .int .i64 v8_2)] [((3, 0), .box [.str a1.Service, .str a1.Op, .str a1.Key, .str a1.Value, .int .i64 a1.Dur, .bool a1.Err]), ((7, 0), .arr 45 4 false (List.map enc44 v7_s_2))] [(3, 1), (7, 1)] X) Fu
        ⟨_, reb_lit [(0, .sl 4 (List.map enc44 a0)), (3, .ptr 3 0 0), (6, .sl 2 (List.map enc26 x16)), (7, .own 7 0), (8, .int .i64 (IntKind.i64.wrap ((List.length a0 : Int) - 1)))] [(3, 0), (7, 0)] [((3, 0), .box [.str a1.Service, .str a1.Op, .str a1.Key, .str a1.Value, .int .i64 a1.Dur, .bool a1.Err]), ((7, 0), .arr 45 4 false (List.map enc44 []))] [(3, 1), (7, 1)] (envOk_cons (by conv => lhs; whnf) (by exact rfl) (envOk_cons (by conv => lhs; whnf) (by exact rfl) (envOk_cons (by conv => lhs; whnf) (by exact rfl) (envOk_cons (by conv => lhs; whnf) (by exact rfl) (envOk_cons (by conv => lhs; whnf) (by exact rfl) envOk_nil))))) (objOk_cons (by conv => lhs; whnf) (by conv => lhs; whnf) (by exact rfl) (by simp) (objOk_cons (by conv => lhs; whnf) (by conv => lhs; whnf) (by exact rfl) (by simp) objOk_nil)) (nodup_b rfl) (nodup_b rfl) rfl rfl, [], (IntKind.i64.wrap ((List.length a0 : Int) - 1)), h, rfl⟩ ?_
      rintro m s ⟨v7_s_2, v8_2, h, rfl⟩
      obtain ⟨m2, q21, rfl, h, hq22⟩ := loop_some h
      replace h : gleaninglaw32_SearchMerged_l2 a0 v7_s_2 v8_2 = some q21 := h
      unfold gleaninglaw32_SearchMerged_l2 at h
      refine aw_seq_k (fun K23 hK23 => ?_)
      refine aw_seq_k (fun K24 hK24 => ?_)
      refine aw_regL ?_
      refine alP (some 33) rfl rfl (does_move (v := .int .i64 v8_2) (by exact rfl)) (by decide) ?_
      refine alP (some 34) rfl rfl (does_bin (v := .bool (decide ((0 : Int) ≤ v8_2))) (by conv => lhs; whnf) (by conv => lhs; whnf) rfl) (by decide) ?_
      refine al_nil ?_
      refine hK24 _ ?_
      refine aw_bool (b := (decide ((0 : Int) ≤ v8_2))) 34 rfl (fun c25 => ?_) (fun c25 => ?_)
      · have h := ifT c25 h
        refine aw_cond_t (by decide) rfl ?_
        refine aw_skip ?_
        refine hK23 _ ?_
        refine aw_seq_k (fun K26 hK26 => ?_)
        refine aw_block ?_
        refine aw_regL ?_
        refine alP (some 37) rfl rfl (does_move (v := .own 7 0) (by exact rfl)) (by decide) ?_
        refine alP (some 38) rfl rfl (does_move (v := .sl 4 (List.map enc44 a0)) (by exact rfl)) (by decide) ?_
        refine alP (some 39) rfl rfl (does_move (v := .int .i64 v8_2) (by exact rfl)) (by decide) ?_
        obtain ⟨g27, h⟩ := gd_some h
        obtain ⟨x28, hx28, h⟩ := bnd_some h
        refine alP (some 40) rfl rfl (does_indexAddr_sl (el := .agg [.int .i64 x28.Number, .int .i64 x28.Born, .int .i64 x28.Tier, .sl 6 (List.map enc50 x28.Episodes)]) (by conv => lhs; whnf) (by conv => lhs; whnf) ty22 ty45 g27 (by exact map_get hx28)) (by decide) ?_
        refine alR (some 41) rfl rfl (does_load (v := .agg [.int .i64 x28.Number, .int .i64 x28.Born, .int .i64 x28.Tier, .sl 6 (List.map enc50 x28.Episodes)]) (by conv => lhs; whnf) (by conv => lhs; whnf) ty45 (by exact rfl)) (by decide) ?_
        refine alD (some 42) rfl rfl (do_buildSlice (xs := List.map enc44 [x28]) ty22 ty45 rfl rfl rfl rfl rfl rfl rfl rfl) (by decide) ?_
        obtain ⟨g29, h⟩ := gd_some h
        refine alD (some 43) rfl rfl (do_append (v := List.map enc44 (v7_s_2 ++ [x28])) (by conv => lhs; whnf) (by conv => lhs; whnf) ty22 ty45 rfl rfl (by conv => lhs; whnf) (by first | exact .inl rfl | exact .inr ⟨rfl, rfl⟩) (by conv => lhs; whnf) (by first | exact .inr rfl | exact .inl rfl) (map_app _ _) (fit_map g29)) (by decide) ?_
        refine alP (some 7) rfl rfl (does_assign (v := .own 43 0) (by exact rfl)) (by decide) ?_
        refine al_nil ?_
        refine hK26 _ ?_
        refine aw_regL ?_
        refine alP (some 35) rfl rfl (does_move (v := .int .i64 v8_2) (by exact rfl)) (by decide) ?_
        refine alP (some 36) rfl rfl (does_bin (v := .int .i64 (IntKind.i64.wrap (v8_2 - 1))) (by conv => lhs; whnf) (by conv => lhs; whnf) rfl) (by decide) ?_
        refine alP (some 8) rfl rfl (does_assign (v := .int .i64 (IntKind.i64.wrap (v8_2 - 1))) (by exact rfl)) (by decide) ?_
        refine al_nil ?_
        have h := leafL h hq22
        exact ⟨m2, Nat.lt_succ_self _, _, reb_lit [(0, .sl 4 (List.map enc44 a0)), (3, .ptr 3 0 0), (6, .sl 2 (List.map enc26 x16)), (7, .own 7 0), (8, .int .i64 (IntKind.i64.wrap (v8_2 - 1)))] [(3, 0), (43, 0)] [((3, 0), .box [.str a1.Service, .str a1.Op, .str a1.Key, .str a1.Value, .int .i64 a1.Dur, .bool a1.Err]), ((7, 0), .arr 45 4 false (List.map enc44 (v7_s_2 ++ [x28])))] [(3, 1), (7, 1)] (envOk_cons (by conv => lhs; whnf) (by exact rfl) (envOk_cons (by conv => lhs; whnf) (by exact rfl) (envOk_cons (by conv => lhs; whnf) (by exact rfl) (envOk_cons (by conv => lhs; whnf) (by exact rfl) (envOk_cons (by conv => lhs; whnf) (by exact rfl) envOk_nil))))) (objOk_cons (by conv => lhs; whnf) (by conv => lhs; whnf) (by exact rfl) (by simp) (objOk_cons (by conv => lhs; whnf) (by conv => lhs; whnf) (by exact rfl) (by simp) objOk_nil)) (nodup_b rfl) (nodup_b rfl) rfl rfl, (v7_s_2 ++ [x28]), (IntKind.i64.wrap (v8_2 - 1)), h, rfl⟩
      · have h := ifF c25 h
        refine aw_cond_f (by decide) rfl ?_
        refine aw_exit ?_
        have h := leafR h hq22
        obtain rfl := Option.some.inj h
        have h := hk19
        exact ⟨_, reb_lit [(0, .sl 4 (List.map enc44 a0)), (3, .ptr 3 0 0), (6, .sl 2 (List.map enc26 x16)), (7, .own 7 0)] [(3, 0), (7, 0)] [((3, 0), .box [.str a1.Service, .str a1.Op, .str a1.Key, .str a1.Value, .int .i64 a1.Dur, .bool a1.Err]), ((7, 0), .arr 45 4 false (List.map enc44 v7_s_2))] [(3, 1), (7, 1)] (envOk_cons (by conv => lhs; whnf) (by exact rfl) (envOk_cons (by conv => lhs; whnf) (by exact rfl) (envOk_cons (by conv => lhs; whnf) (by exact rfl) (envOk_cons (by conv => lhs; whnf) (by exact rfl) envOk_nil)))) (objOk_cons (by conv => lhs; whnf) (by conv => lhs; whnf) (by exact rfl) (by simp) (objOk_cons (by conv => lhs; whnf) (by conv => lhs; whnf) (by exact rfl) (by simp) objOk_nil)) (nodup_b rfl) (nodup_b rfl) rfl rfl, v7_s_2, h, rfl⟩
    · rintro s ⟨v7_s_1, h, rfl⟩
      unfold gleaninglaw32_SearchMerged_k1 at h
      refine aw_seq_k (fun K30 hK30 => ?_)
      refine aw_regL ?_
      refine alP (some 44) rfl rfl (does_move (v := .own 7 0) (by exact rfl)) (by decide) ?_
      refine alR (some 45) rfl rfl (does_load (v := .agg [.str a1.Service, .str a1.Op, .str a1.Key, .str a1.Value, .int .i64 a1.Dur, .bool a1.Err]) (by conv => lhs; whnf) (by conv => lhs; whnf) ty24 (by exact rfl)) (by decide) ?_
      obtain ⟨x31, hx31, h⟩ := bnd_some h
      refine alD (some 46) rfl rfl (does_frz (d := 7) (n := 0) (by conv => lhs; whnf) (do_callG (bcs := []) [] [] [(7, 0)] 46 false (search_Find_ok v7_s_1 a1 1000 hx31) rfl ent14 trivial trivial rfl rfl rfl rfl rfl rfl rfl rfl (.inl ⟨⟨_, _, _, rfl⟩, trivial⟩))) (by decide) ?_
      refine alP (some 9) rfl rfl (does_assign (v := .sl 2 (List.map enc26 x31)) (by exact rfl)) (by decide) ?_
      refine al_nil ?_
      refine hK30 _ ?_
      refine aw_seq_k (fun K32 hK32 => ?_)
      refine aw_regL ?_
      refine alD (some 10) rfl rfl (do_new ty45 rfl rfl) (by decide) ?_
      refine al_nil ?_
      refine hK32 _ ?_
      obtain ⟨q33, h, hk34⟩ := bnd_some h
      refine aw_cut (fun s => ∃ (v10_s_0_3 : Int), ∃ (v10_s_1_3 : Int), ∃ (v10_s_2_3 : Int), ∃ (v10_s_3_3 : List Episode), gleaninglaw32_SearchMerged_k3 a0 a1 x16 x31 v10_s_0_3 v10_s_1_3 v10_s_2_3 v10_s_3_3 = some r ∧ s = lit [(0, .sl 4 (List.map enc44 a0)), (3, .ptr 3 0 0), (6, .sl 2 (List.map enc26 x16)), (9, .sl 2 (List.map enc26 x31)), (10, .ptr 10 0 0)] [((3, 0), .box [.str a1.Service, .str a1.Op, .str a1.Key, .str a1.Value, .int .i64 a1.Dur, .bool a1.Err]), ((10, 0), .box [.int .i64 v10_s_0_3, .int .i64 v10_s_1_3, .int .i64 v10_s_2_3, .sl 6 (List.map enc50 v10_s_3_3)])] [(3, 1), (10, 1)] X) ?_ ?_
      · skip
        refine aw_seq_k (fun K35 hK35 => ?_)
        refine aw_regL ?_
        refine alP (some 11) rfl rfl (does_assign (v := .int .i64 0) (by exact rfl)) (by decide) ?_
        refine al_nil ?_
        refine hK35 _ ?_
        refine aw_block ?_
        refine aw_loop' (fun m s => ∃ (v10_s_0_4 : Int), ∃ (v10_s_1_4 : Int), ∃ (v10_s_2_4 : Int), ∃ (v10_s_3_4 : List Episode), ∃ (v11_4 : Int), loopN (fun (s : Int × Int × Int × List Episode × Int) => gleaninglaw32_SearchMerged_l4 a0 s.1 s.2.1 s.2.2.1 s.2.2.2.1 s.2.2.2.2) m (v10_s_0_4, v10_s_1_4, v10_s_2_4, v10_s_3_4, v11_4) = some q33 ∧ s = lit [(0, .sl 4 (List.map enc44 a0)), (3, .ptr 3 0 0), (6, .sl 2 (List.map enc26 x16)), (9, .sl 2 (List.map enc26 x31)), (10, .ptr 10 0 0), (11, .int .i64 v11_4)] [((3, 0), .box [.str a1.Service, .str a1.Op, .str a1.Key, .str a1.Value, .int .i64 a1.Dur, .bool a1.Err]), ((10, 0), .box [.int .i64 v10_s_0_4, .int .i64 v10_s_1_4, .int .i64 v10_s_2_4, .sl 6 (List.map enc50 v10_s_3_4)])] [(3, 1), (10, 1)] X) Fu
          ⟨_, reb_w (tl' := [(0, .sl 4 (List.map enc44 a0)), (3, .ptr 3 0 0), (6, .sl 2 (List.map enc26 x16)), (9, .sl 2 (List.map enc26 x31)), (10, .ptr 10 0 0), (11, .int .i64 (0))]) (ol' := [((3, 0), .box [.str a1.Service, .str a1.Op, .str a1.Key, .str a1.Value, .int .i64 a1.Dur, .bool a1.Err]), ((10, 0), .box [.int .i64 (0), .int .i64 (0), .int .i64 (0), .sl 6 (List.map enc50 [])])]) (reb_lit [(0, .sl 4 (List.map enc44 a0)), (3, .ptr 3 0 0), (6, .sl 2 (List.map enc26 x16)), (9, .sl 2 (List.map enc26 x31)), (10, .ptr 10 0 0), (11, .int .i64 (0))] [(3, 0), (10, 0)] [((3, 0), .box [.str a1.Service, .str a1.Op, .str a1.Key, .str a1.Value, .int .i64 a1.Dur, .bool a1.Err]), ((10, 0), .box [.int .i64 (0), .int .i64 (0), .int .i64 (0), .nil])] [(3, 1), (10, 1)] (envOk_cons (by conv => lhs; whnf) (by exact rfl) (envOk_cons (by conv => lhs; whnf) (by exact rfl) (envOk_cons (by conv => lhs; whnf) (by exact rfl) (envOk_cons (by conv => lhs; whnf) (by exact rfl) (envOk_cons (by conv => lhs; whnf) (by exact rfl) (envOk_cons (by conv => lhs; whnf) (by exact rfl) envOk_nil)))))) (objOk_cons (by conv => lhs; whnf) (by conv => lhs; whnf) (by exact rfl) (by simp) (objOk_cons (by conv => lhs; whnf) (by conv => lhs; whnf) (by exact rfl) (by simp) objOk_nil)) (nodup_b rfl) (nodup_b rfl) rfl rfl) ⟨rfl, le_refl _, rfl, le_refl _, rfl, le_refl _, rfl, le_refl _, rfl, le_refl _, rfl, le_refl _, trivial⟩ ⟨rfl, .rfl _, rfl, (.box ⟨le_refl _, le_refl _, le_refl _, le_nil _, trivial⟩), trivial⟩, 0, 0, 0, [], 0, h, rfl⟩ ?_
        rintro m s ⟨v10_s_0_4, v10_s_1_4, v10_s_2_4, v10_s_3_4, v11_4, h, rfl⟩
        obtain ⟨m4, q36, rfl, h, hq37⟩ := loop_some h
        replace h : gleaninglaw32_SearchMerged_l4 a0 v10_s_0_4 v10_s_1_4 v10_s_2_4 v10_s_3_4 v11_4 = some q36 := h
        unfold gleaninglaw32_SearchMerged_l4 at h
        refine aw_seq_k (fun K38 hK38 => ?_)
        refine aw_seq_k (fun K39 hK39 => ?_)
        refine aw_regL ?_
        refine alP (some 47) rfl rfl (does_move (v := .int .i64 v11_4) (by exact rfl)) (by decide) ?_
        refine alP (some 48) rfl rfl (does_move (v := .sl 4 (List.map enc44 a0)) (by exact rfl)) (by decide) ?_
        refine alP (some 49) rfl rfl ((does_len_sl (by conv => lhs; whnf) ty22).castp (v' := .int .i64 (List.length a0 : Int)) (by exact len_map _)) (by decide) ?_
        refine alP (some 50) rfl rfl (does_bin (v := .bool (decide (v11_4 < (List.length a0 : Int)))) (by conv => lhs; whnf) (by conv => lhs; whnf) rfl) (by decide) ?_
        refine al_nil ?_
        refine hK39 _ ?_
        refine aw_bool (b := (decide (v11_4 < (List.length a0 : Int)))) 50 rfl (fun c40 => ?_) (fun c40 => ?_)
        · have h := ifT c40 h
          refine aw_cond_t (by decide) rfl ?_
          refine aw_skip ?_
          refine hK38 _ ?_
          refine aw_seq_k (fun K41 hK41 => ?_)
          refine aw_block ?_
          refine aw_regd (by kernel_rfl) (by decide +kernel) ?_
          refine aoR (some 53) rfl rfl (does_load (v := .agg [.int .i64 v10_s_0_4, .int .i64 v10_s_1_4, .int .i64 v10_s_2_4, .sl 6 (List.map enc50 v10_s_3_4)]) (by conv => lhs; whnf) (by conv => lhs; whnf) ty45 (by exact rfl)) (by decide) ?_
          refine aoP (some 54) rfl rfl (does_move (v := .sl 4 (List.map enc44 a0)) (by exact rfl)) (by decide) ?_
          refine aoP (some 55) rfl rfl (does_move (v := .int .i64 v11_4) (by exact rfl)) (by decide) ?_
          obtain ⟨g42, h⟩ := gd_some h
          obtain ⟨x43, hx43, h⟩ := bnd_some h
          refine aoP (some 56) rfl rfl (does_indexAddr_sl (el := .agg [.int .i64 x43.Number, .int .i64 x43.Born, .int .i64 x43.Tier, .sl 6 (List.map enc50 x43.Episodes)]) (by conv => lhs; whnf) (by conv => lhs; whnf) ty22 ty45 g42 (by exact map_get hx43)) (by decide) ?_
          refine aoR (some 57) rfl rfl (does_load (v := .agg [.int .i64 x43.Number, .int .i64 x43.Born, .int .i64 x43.Tier, .sl 6 (List.map enc50 x43.Episodes)]) (by conv => lhs; whnf) (by conv => lhs; whnf) ty45 (by exact rfl)) (by decide) ?_
          refine aoP (some 58) rfl rfl (does_move (v := .int .i64 v11_4) (by exact rfl)) (by decide) ?_
          obtain ⟨x44, hx44, h⟩ := bnd_some h
          refine aoD (some 59) rfl rfl (do_call0 59 false (gleaningref15_Join_ok (Block.mk v10_s_0_4 v10_s_1_4 v10_s_2_4 v10_s_3_4) x43 v11_4 hx44) rfl ent20 rfl rfl) (by decide) ?_
          refine aoD none rfl rfl (do_store (cs' := [.int .i64 x44.Number, .int .i64 x44.Born, .int .i64 x44.Tier, .sl 6 (List.map enc50 x44.Episodes)]) (by conv => lhs; whnf) (by conv => lhs; whnf) (by conv => lhs; whnf) ty45 rfl rfl rfl (by exact rfl)) (by decide) ?_
          refine ao_nil_d (by kernel_rfl) ?_
          refine hK41 _ ?_
          refine aw_regL ?_
          refine alP (some 51) rfl rfl (does_move (v := .int .i64 v11_4) (by exact rfl)) (by decide) ?_
          refine alP (some 52) rfl rfl (does_bin (v := .int .i64 (IntKind.i64.wrap (v11_4 + 1))) (by conv => lhs; whnf) (by conv => lhs; whnf) rfl) (by decide) ?_
          refine alP (some 11) rfl rfl (does_assign (v := .int .i64 (IntKind.i64.wrap (v11_4 + 1))) (by exact rfl)) (by decide) ?_
          refine al_nil ?_
          have h := leafL h hq37
          exact ⟨m4, Nat.lt_succ_self _, _, reb_lit [(0, .sl 4 (List.map enc44 a0)), (3, .ptr 3 0 0), (6, .sl 2 (List.map enc26 x16)), (9, .sl 2 (List.map enc26 x31)), (10, .ptr 10 0 0), (11, .int .i64 (IntKind.i64.wrap (v11_4 + 1)))] [(3, 0), (10, 0)] [((3, 0), .box [.str a1.Service, .str a1.Op, .str a1.Key, .str a1.Value, .int .i64 a1.Dur, .bool a1.Err]), ((10, 0), .box [.int .i64 x44.Number, .int .i64 x44.Born, .int .i64 x44.Tier, .sl 6 (List.map enc50 x44.Episodes)])] [(3, 1), (10, 1)] (envOk_cons (by conv => lhs; whnf) (by exact rfl) (envOk_cons (by conv => lhs; whnf) (by exact rfl) (envOk_cons (by conv => lhs; whnf) (by exact rfl) (envOk_cons (by conv => lhs; whnf) (by exact rfl) (envOk_cons (by conv => lhs; whnf) (by exact rfl) (envOk_cons (by conv => lhs; whnf) (by exact rfl) envOk_nil)))))) (objOk_cons (by conv => lhs; whnf) (by conv => lhs; whnf) (by exact rfl) (by simp) (objOk_cons (by conv => lhs; whnf) (by conv => lhs; whnf) (by exact rfl) (by simp) objOk_nil)) (nodup_b rfl) (nodup_b rfl) rfl rfl, x44.Number, x44.Born, x44.Tier, x44.Episodes, (IntKind.i64.wrap (v11_4 + 1)), h, rfl⟩
        · have h := ifF c40 h
          refine aw_cond_f (by decide) rfl ?_
          refine aw_exit ?_
          have h := leafR h hq37
          obtain rfl := Option.some.inj h
          have h := hk34
          exact ⟨_, reb_lit [(0, .sl 4 (List.map enc44 a0)), (3, .ptr 3 0 0), (6, .sl 2 (List.map enc26 x16)), (9, .sl 2 (List.map enc26 x31)), (10, .ptr 10 0 0)] [(3, 0), (10, 0)] [((3, 0), .box [.str a1.Service, .str a1.Op, .str a1.Key, .str a1.Value, .int .i64 a1.Dur, .bool a1.Err]), ((10, 0), .box [.int .i64 v10_s_0_4, .int .i64 v10_s_1_4, .int .i64 v10_s_2_4, .sl 6 (List.map enc50 v10_s_3_4)])] [(3, 1), (10, 1)] (envOk_cons (by conv => lhs; whnf) (by exact rfl) (envOk_cons (by conv => lhs; whnf) (by exact rfl) (envOk_cons (by conv => lhs; whnf) (by exact rfl) (envOk_cons (by conv => lhs; whnf) (by exact rfl) (envOk_cons (by conv => lhs; whnf) (by exact rfl) envOk_nil))))) (objOk_cons (by conv => lhs; whnf) (by conv => lhs; whnf) (by exact rfl) (by simp) (objOk_cons (by conv => lhs; whnf) (by conv => lhs; whnf) (by exact rfl) (by simp) objOk_nil)) (nodup_b rfl) (nodup_b rfl) rfl rfl, v10_s_0_4, v10_s_1_4, v10_s_2_4, v10_s_3_4, h, rfl⟩
      · rintro s ⟨v10_s_0_3, v10_s_1_3, v10_s_2_3, v10_s_3_3, h, rfl⟩
        unfold gleaninglaw32_SearchMerged_k3 at h
        refine aw_seq_k (fun K45 hK45 => ?_)
        refine aw_regL ?_
        refine alR (some 60) rfl rfl (does_load (v := .agg [.int .i64 v10_s_0_3, .int .i64 v10_s_1_3, .int .i64 v10_s_2_3, .sl 6 (List.map enc50 v10_s_3_3)]) (by conv => lhs; whnf) (by conv => lhs; whnf) ty45 (by exact rfl)) (by decide) ?_
        refine alD (some 61) rfl rfl (do_buildSlice (xs := List.map enc44 [(Block.mk v10_s_0_3 v10_s_1_3 v10_s_2_3 v10_s_3_3)]) ty22 ty45 rfl rfl rfl rfl rfl rfl rfl rfl) (by decide) ?_
        refine alR (some 62) rfl rfl (does_load (v := .agg [.str a1.Service, .str a1.Op, .str a1.Key, .str a1.Value, .int .i64 a1.Dur, .bool a1.Err]) (by conv => lhs; whnf) (by conv => lhs; whnf) ty24 (by exact rfl)) (by decide) ?_
        obtain ⟨x46, hx46, h⟩ := bnd_some h
        refine alD (some 63) rfl rfl (does_frz (d := 61) (n := 0) (by conv => lhs; whnf) (do_callG (bcs := []) [] [] [(61, 0)] 63 false (search_Find_ok [(Block.mk v10_s_0_3 v10_s_1_3 v10_s_2_3 v10_s_3_3)] a1 1000 hx46) rfl ent14 trivial trivial rfl rfl rfl rfl rfl rfl rfl rfl (.inl ⟨⟨_, _, _, rfl⟩, trivial⟩))) (by decide) ?_
        refine alP (some 12) rfl rfl (does_assign (v := .sl 2 (List.map enc26 x46)) (by exact rfl)) (by decide) ?_
        refine al_nil ?_
        refine hK45 _ ?_
        refine aw_seq_k (fun K47 hK47 => ?_)
        refine aw_regL ?_
        refine alP (some 64) rfl rfl (does_move (v := .sl 2 (List.map enc26 x16)) (by exact rfl)) (by decide) ?_
        refine alP (some 65) rfl rfl (does_move (v := .sl 2 (List.map enc26 x31)) (by exact rfl)) (by decide) ?_
        obtain ⟨x48, hx48, h⟩ := bnd_some h
        refine alD (some 66) rfl rfl (do_call0 66 false (gleaningref28_SameTraces_ok x16 x31 hx48) rfl ent13 rfl rfl) (by decide) ?_
        refine alP (some 67) rfl rfl (does_move (v := .bool x48) (by exact rfl)) (by decide) ?_
        refine al_bool (c := x48) 67 rfl (fun c49 => ?_) (fun c49 => ?_)
        · have h := ifT c49 h
          refine alP (some 68) rfl rfl (does_move (v := .sl 2 (List.map enc26 x16)) (by exact rfl)) (by decide) ?_
          refine alP (some 69) rfl rfl (does_move (v := .sl 2 (List.map enc26 x46)) (by exact rfl)) (by decide) ?_
          obtain ⟨x50, hx50, h⟩ := bnd_some h
          refine alD (some 70) rfl rfl (do_call0 70 false (gleaningref28_SameTraces_ok x16 x46 hx50) rfl ent13 rfl rfl) (by decide) ?_
          refine alP (some 71) rfl rfl (does_pick (v := .bool x50) (by conv => lhs; whnf) (by exact rfl)) (by decide) ?_
          refine alP (some 72) rfl rfl (does_move (v := .bool x50) (by exact rfl)) (by decide) ?_
          refine al_bool (c := x50) 72 rfl (fun c51 => ?_) (fun c51 => ?_)
          · have h := ifT c51 h
            refine alP (some 73) rfl rfl (does_move (v := .sl 2 (List.map enc26 x16)) (by exact rfl)) (by decide) ?_
            refine alP (some 74) rfl rfl ((does_len_sl (by conv => lhs; whnf) ty37).castp (v' := .int .i64 (List.length x16 : Int)) (by exact len_map _)) (by decide) ?_
            refine alP (some 75) rfl rfl (does_move (v := .sl 4 (List.map enc44 a0)) (by exact rfl)) (by decide) ?_
            refine alR (some 76) rfl rfl (does_load (v := .agg [.str a1.Service, .str a1.Op, .str a1.Key, .str a1.Value, .int .i64 a1.Dur, .bool a1.Err]) (by conv => lhs; whnf) (by conv => lhs; whnf) ty24 (by exact rfl)) (by decide) ?_
            obtain ⟨x52, hx52, h⟩ := bnd_some h
            refine alD (some 77) rfl rfl (do_call0 77 false (search_Count_ok a0 a1 hx52) rfl ent16 rfl rfl) (by decide) ?_
            refine alP (some 78) rfl rfl (does_bin (v := .bool ((List.length x16 : Int) == x52)) (by conv => lhs; whnf) (by conv => lhs; whnf) rfl) (by decide) ?_
            refine alP (some 79) rfl rfl (does_pick (v := .bool ((List.length x16 : Int) == x52)) (by conv => lhs; whnf) (by exact rfl)) (by decide) ?_
            refine alP (some 4) rfl rfl (does_assign (v := .bool ((List.length x16 : Int) == x52)) (by exact rfl)) (by decide) ?_
            refine al_nil ?_
            refine hK47 _ ?_
            refine aw_ret ?_
            obtain rfl := Option.some.inj h
            exact ret_ok1 (by conv => lhs; whnf) (by conv => lhs; whnf) (by exact rfl) (.inr rfl) rfl
          · have h := ifF c51 h
            refine alS (some 73) rfl rfl (by decide) ?_
            refine alS (some 74) rfl rfl (by decide) ?_
            refine alS (some 75) rfl rfl (by decide) ?_
            refine alS (some 76) rfl rfl (by decide) ?_
            refine alS (some 77) rfl rfl (by decide) ?_
            refine alS (some 78) rfl rfl (by decide) ?_
            refine alP (some 79) rfl rfl (does_pick (v := .bool false) (by conv => lhs; whnf) (by exact rfl)) (by decide) ?_
            refine alP (some 4) rfl rfl (does_assign (v := .bool false) (by exact rfl)) (by decide) ?_
            refine al_nil ?_
            refine hK47 _ ?_
            refine aw_ret ?_
            obtain rfl := Option.some.inj h
            exact ret_ok1 (by conv => lhs; whnf) (by conv => lhs; whnf) (by exact rfl) (.inr rfl) rfl
        · have h := ifF c49 h
          refine alS (some 68) rfl rfl (by decide) ?_
          refine alS (some 69) rfl rfl (by decide) ?_
          refine alS (some 70) rfl rfl (by decide) ?_
          refine alP (some 71) rfl rfl (does_pick (v := .bool false) (by conv => lhs; whnf) (by exact rfl)) (by decide) ?_
          refine alP (some 72) rfl rfl (does_move (v := .bool false) (by exact rfl)) (by decide) ?_
          refine alS (some 73) rfl rfl (by decide) ?_
          refine alS (some 74) rfl rfl (by decide) ?_
          refine alS (some 75) rfl rfl (by decide) ?_
          refine alS (some 76) rfl rfl (by decide) ?_
          refine alS (some 77) rfl rfl (by decide) ?_
          refine alS (some 78) rfl rfl (by decide) ?_
          refine alP (some 79) rfl rfl (does_pick (v := .bool false) (by conv => lhs; whnf) (by exact rfl)) (by decide) ?_
          refine alP (some 4) rfl rfl (does_assign (v := .bool false) (by exact rfl)) (by decide) ?_
          refine al_nil ?_
          refine hK47 _ ?_
          refine aw_ret ?_
          obtain rfl := Option.some.inj h
          exact ret_ok1 (by conv => lhs; whnf) (by conv => lhs; whnf) (by exact rfl) (.inr rfl) rfl
end Go.Proofs.Ytnhjcpnoadicpaa.Ab
