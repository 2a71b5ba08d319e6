/- Chapter 32: the first so many. -/
import Derived.Test.YtnhjcpnoadicpaaXSMerged
import Derived.Test.YtnhjcpnoadicpaaProg
namespace Go.Proofs.Ytnhjcpnoadicpaa.Ab
open Go Go.RowKit
set_option linter.unusedVariables false
set_option linter.unusedSimpArgs false

def gleaninglaw32_SearchFirst_l2 (x22 : List Trace) (v10_2 : Int) : Option (Int ⊕ (Unit ⊕ Bool)) :=
  if (decide (v10_2 < (List.length x22 : Int))) = true then (gd (0 ≤ (IntKind.i64.wrap (v10_2 - 1))) (Option.bind (x22[(Int.toNat (IntKind.i64.wrap (v10_2 - 1)))]?) (fun (x34 : Trace) => gd (0 ≤ v10_2) (Option.bind (x22[(Int.toNat v10_2)]?) (fun (x36 : Trace) => Option.bind (gleaningref15_LessTrace x34 x36) (fun (x37 : Bool) => if (!x37) = true then (some (Sum.inr (Sum.inr false))) else (some (Sum.inl (IntKind.i64.wrap (v10_2 + 1)))))))))) else (some (Sum.inr (Sum.inl ())))
def gleaninglaw32_SearchFirst_k3 (x20 : List Trace) (x22 : List Trace) (v11_3 : Int) : Option Bool :=
  if ((List.length x20 : Int) == v11_3) = true then (gd (0 ≤ v11_3) (gd (v11_3 ≤ (List.length x22 : Int)) (Option.bind (gleaningref28_SameTraces x20 (List.take (Int.toNat v11_3) x22)) (fun (x49 : Bool) => some x49)))) else (some false)
def gleaninglaw32_SearchFirst_k1 (a2 : Int) (x20 : List Trace) (x22 : List Trace) : Option Bool :=
  Option.bind (if (decide ((List.length x22 : Int) < a2)) = true then (some (List.length x22 : Int)) else (some a2)) (fun (s : Int) => gleaninglaw32_SearchFirst_k3 x20 x22 s)
def gleaninglaw32_SearchFirst_k0 (a0 : List Block) (a1 : Query) (a2 : Int) : Option Bool :=
  Option.bind (search_Find a0 a1 a2) (fun (x20 : List Trace) => Option.bind (search_Find a0 a1 1000) (fun (x22 : List Trace) => Option.bind (loopN (fun (s : Int) => gleaninglaw32_SearchFirst_l2 x22 s) Fu 1) (Sum.elim (fun (s : Unit) => gleaninglaw32_SearchFirst_k1 a2 x20 x22) some)))
def gleaninglaw32_SearchFirst (a0 : List Block) (a1 : Query) (a2 : Int) : Option Bool :=
  Option.bind (gleaninglaw32_alive) (fun (x3 : Bool) => Option.bind (if (!x3) = true then (some (Sum.inr x3)) else (Option.bind (gleaninglaw19_Few a0) (fun (x9 : Bool) => if (!x9) = true then (some (Sum.inr x3)) else (Option.bind (gleaninglaw32_Few a1) (fun (x12 : Bool) => if (!x12) = true then (some (Sum.inr x3)) else (if (decide (a2 < 0)) = true then (some (Sum.inr x3)) else (if (decide ((1000 : Int) < a2)) = true then (some (Sum.inr x3)) else (some (Sum.inl ()))))))))) (Sum.elim (fun (s : Unit) => gleaninglaw32_SearchFirst_k0 a0 a1 a2) some))
set_option maxRecDepth 100000 in
set_option maxHeartbeats 8000000 in
/-- gleaning/gleaninglaw32.SearchFirst -/
theorem gleaninglaw32_SearchFirst_ok (a0 : List Block) (a1 : Query) (a2 : Int) {r : Bool} (h : gleaninglaw32_SearchFirst a0 a1 a2 = some r) : Ok Try.prog 6 [.sl 4 (List.map enc44 a0), .agg [.str a1.Service, .str a1.Op, .str a1.Key, .str a1.Value, .int .i64 a1.Dur, .bool a1.Err], .int .i64 a2] [] [] (.bool r) [] [] := by
  unfold gleaninglaw32_SearchFirst at h
  refine ok_of_code Try.func6 rfl (by show (3 : Nat) ≤ _; decide) (Nat.le_refl _) fun X => ?_
  refine aw_seq_k (fun K1 hK1 => ?_)
  refine aw_regL ?_
  refine alD (some 4) rfl rfl (do_box (by conv => lhs; whnf) rfl rfl) (by decide) ?_
  refine alP (some 6) rfl rfl (does_assign (v := .bool false) (by exact rfl)) (by decide) ?_
  refine al_nil ?_
  refine hK1 _ ?_
  refine aw_seq_k (fun K2 hK2 => ?_)
  refine aw_regL ?_
  obtain ⟨x3, hx3, h⟩ := bnd_some h
  refine alD (some 12) rfl rfl (do_call0 12 false (gleaninglaw32_alive_ok hx3) rfl ent7 rfl rfl) (by decide) ?_
  refine alP (some 7) rfl rfl (does_assign (v := .bool x3) (by exact rfl)) (by decide) ?_
  refine al_nil ?_
  refine hK2 _ ?_
  obtain ⟨q4, h, hk5⟩ := bnd_some h
  refine aw_cut (fun s => gleaninglaw32_SearchFirst_k0 a0 a1 a2 = some r ∧ s = lit [(0, .sl 4 (List.map enc44 a0)), (2, .int .i64 a2), (4, .ptr 4 0 0)] [((4, 0), .box [.str a1.Service, .str a1.Op, .str a1.Key, .str a1.Value, .int .i64 a1.Dur, .bool a1.Err])] [(4, 1)] X) ?_ ?_
  · skip
    refine aw_seq_k (fun K6 hK6 => ?_)
    refine aw_regL ?_
    refine alP (some 13) rfl rfl (does_move (v := .bool x3) (by exact rfl)) (by decide) ?_
    refine alP (some 14) rfl rfl (does_un (v := .bool (!x3)) (by conv => lhs; whnf) rfl) (by decide) ?_
    refine alP (some 15) rfl rfl (does_move (v := .bool (!x3)) (by exact rfl)) (by decide) ?_
    refine al_bool (c := (!x3)) 15 rfl (fun c7 => ?_) (fun c7 => ?_)
    · have h := ifT c7 h
      refine alS (some 16) rfl rfl (by decide) ?_
      refine alS (some 17) rfl rfl (by decide) ?_
      refine alS (some 18) rfl rfl (by decide) ?_
      refine alP (some 19) rfl rfl (does_pick (v := .bool true) (by conv => lhs; whnf) (by exact rfl)) (by decide) ?_
      refine alP (some 20) rfl rfl (does_move (v := .bool true) (by exact rfl)) (by decide) ?_
      refine alS (some 21) rfl rfl (by decide) ?_
      refine alS (some 22) rfl rfl (by decide) ?_
      refine alS (some 23) rfl rfl (by decide) ?_
      refine alP (some 24) rfl rfl (does_pick (v := .bool true) (by conv => lhs; whnf) (by exact rfl)) (by decide) ?_
      refine alP (some 25) rfl rfl (does_move (v := .bool true) (by exact rfl)) (by decide) ?_
      refine alS (some 26) rfl rfl (by decide) ?_
      refine alS (some 27) rfl rfl (by decide) ?_
      refine alP (some 28) rfl rfl (does_pick (v := .bool true) (by conv => lhs; whnf) (by exact rfl)) (by decide) ?_
      refine alP (some 29) rfl rfl (does_move (v := .bool true) (by exact rfl)) (by decide) ?_
      refine alS (some 30) rfl rfl (by decide) ?_
      refine alS (some 31) rfl rfl (by decide) ?_
      refine alP (some 32) rfl rfl (does_pick (v := .bool true) (by conv => lhs; whnf) (by exact rfl)) (by decide) ?_
      refine al_nil ?_
      refine hK6 _ ?_
      refine aw_cond_t (by decide) rfl ?_
      refine aw_seq_k (fun K8 hK8 => ?_)
      refine aw_regL ?_
      refine alP (some 33) rfl rfl (does_move (v := .bool x3) (by exact rfl)) (by decide) ?_
      refine alP (some 6) rfl rfl (does_assign (v := .bool x3) (by exact rfl)) (by decide) ?_
      refine al_nil ?_
      refine hK8 _ ?_
      refine aw_ret ?_
      have h := leafR h hk5
      obtain rfl := Option.some.inj h
      exact ret_ok1 (by conv => lhs; whnf) (by conv => lhs; whnf) (by exact rfl) (.inr rfl) rfl
    · have h := ifF c7 h
      refine alP (some 16) rfl rfl (does_move (v := .sl 4 (List.map enc44 a0)) (by exact rfl)) (by decide) ?_
      obtain ⟨x9, hx9, h⟩ := bnd_some h
      refine alD (some 17) rfl rfl (do_call0 17 false (gleaninglaw19_Few_ok a0 hx9) rfl ent8 rfl rfl) (by decide) ?_
      refine alP (some 18) rfl rfl (does_un (v := .bool (!x9)) (by conv => lhs; whnf) rfl) (by decide) ?_
      refine alP (some 19) rfl rfl (does_pick (v := .bool (!x9)) (by conv => lhs; whnf) (by exact rfl)) (by decide) ?_
      refine alP (some 20) rfl rfl (does_move (v := .bool (!x9)) (by exact rfl)) (by decide) ?_
      refine al_bool (c := (!x9)) 20 rfl (fun c10 => ?_) (fun c10 => ?_)
      · have h := ifT c10 h
        refine alS (some 21) rfl rfl (by decide) ?_
        refine alS (some 22) rfl rfl (by decide) ?_
        refine alS (some 23) rfl rfl (by decide) ?_
        refine alP (some 24) rfl rfl (does_pick (v := .bool true) (by conv => lhs; whnf) (by exact rfl)) (by decide) ?_
        refine alP (some 25) rfl rfl (does_move (v := .bool true) (by exact rfl)) (by decide) ?_
        refine alS (some 26) rfl rfl (by decide) ?_
        refine alS (some 27) rfl rfl (by decide) ?_
        refine alP (some 28) rfl rfl (does_pick (v := .bool true) (by conv => lhs; whnf) (by exact rfl)) (by decide) ?_
        refine alP (some 29) rfl rfl (does_move (v := .bool true) (by exact rfl)) (by decide) ?_
        refine alS (some 30) rfl rfl (by decide) ?_
        refine alS (some 31) rfl rfl (by decide) ?_
        refine alP (some 32) rfl rfl (does_pick (v := .bool true) (by conv => lhs; whnf) (by exact rfl)) (by decide) ?_
        refine al_nil ?_
        refine hK6 _ ?_
        refine aw_cond_t (by decide) rfl ?_
        refine aw_seq_k (fun K11 hK11 => ?_)
        refine aw_regL ?_
        refine alP (some 33) rfl rfl (does_move (v := .bool x3) (by exact rfl)) (by decide) ?_
        refine alP (some 6) rfl rfl (does_assign (v := .bool x3) (by exact rfl)) (by decide) ?_
        refine al_nil ?_
        refine hK11 _ ?_
        refine aw_ret ?_
        have h := leafR h hk5
        obtain rfl := Option.some.inj h
        exact ret_ok1 (by conv => lhs; whnf) (by conv => lhs; whnf) (by exact rfl) (.inr rfl) rfl
      · have h := ifF c10 h
        refine alR (some 21) rfl rfl (does_load (v := .agg [.str a1.Service, .str a1.Op, .str a1.Key, .str a1.Value, .int .i64 a1.Dur, .bool a1.Err]) (by conv => lhs; whnf) (by conv => lhs; whnf) ty24 (by exact rfl)) (by decide) ?_
        obtain ⟨x12, hx12, h⟩ := bnd_some h
        refine alD (some 22) rfl rfl (do_call0 22 false (gleaninglaw32_Few_ok a1 hx12) rfl ent9 rfl rfl) (by decide) ?_
        refine alP (some 23) rfl rfl (does_un (v := .bool (!x12)) (by conv => lhs; whnf) rfl) (by decide) ?_
        refine alP (some 24) rfl rfl (does_pick (v := .bool (!x12)) (by conv => lhs; whnf) (by exact rfl)) (by decide) ?_
        refine alP (some 25) rfl rfl (does_move (v := .bool (!x12)) (by exact rfl)) (by decide) ?_
        refine al_bool (c := (!x12)) 25 rfl (fun c13 => ?_) (fun c13 => ?_)
        · have h := ifT c13 h
          refine alS (some 26) rfl rfl (by decide) ?_
          refine alS (some 27) rfl rfl (by decide) ?_
          refine alP (some 28) rfl rfl (does_pick (v := .bool true) (by conv => lhs; whnf) (by exact rfl)) (by decide) ?_
          refine alP (some 29) rfl rfl (does_move (v := .bool true) (by exact rfl)) (by decide) ?_
          refine alS (some 30) rfl rfl (by decide) ?_
          refine alS (some 31) rfl rfl (by decide) ?_
          refine alP (some 32) rfl rfl (does_pick (v := .bool true) (by conv => lhs; whnf) (by exact rfl)) (by decide) ?_
          refine al_nil ?_
          refine hK6 _ ?_
          refine aw_cond_t (by decide) rfl ?_
          refine aw_seq_k (fun K14 hK14 => ?_)
          refine aw_regL ?_
          refine alP (some 33) rfl rfl (does_move (v := .bool x3) (by exact rfl)) (by decide) ?_
          refine alP (some 6) rfl rfl (does_assign (v := .bool x3) (by exact rfl)) (by decide) ?_
          refine al_nil ?_
          refine hK14 _ ?_
          refine aw_ret ?_
          have h := leafR h hk5
          obtain rfl := Option.some.inj h
          exact ret_ok1 (by conv => lhs; whnf) (by conv => lhs; whnf) (by exact rfl) (.inr rfl) rfl
        · have h := ifF c13 h
          refine alP (some 26) rfl rfl (does_move (v := .int .i64 a2) (by exact rfl)) (by decide) ?_
          refine alP (some 27) rfl rfl (does_bin (v := .bool (decide (a2 < 0))) (by conv => lhs; whnf) (by conv => lhs; whnf) rfl) (by decide) ?_
          refine alP (some 28) rfl rfl (does_pick (v := .bool (decide (a2 < 0))) (by conv => lhs; whnf) (by exact rfl)) (by decide) ?_
          refine alP (some 29) rfl rfl (does_move (v := .bool (decide (a2 < 0))) (by exact rfl)) (by decide) ?_
          refine al_bool (c := (decide (a2 < 0))) 29 rfl (fun c15 => ?_) (fun c15 => ?_)
          · have h := ifT c15 h
            refine alS (some 30) rfl rfl (by decide) ?_
            refine alS (some 31) rfl rfl (by decide) ?_
            refine alP (some 32) rfl rfl (does_pick (v := .bool true) (by conv => lhs; whnf) (by exact rfl)) (by decide) ?_
            refine al_nil ?_
            refine hK6 _ ?_
            refine aw_cond_t (by decide) rfl ?_
            refine aw_seq_k (fun K16 hK16 => ?_)
            refine aw_regL ?_
            refine alP (some 33) rfl rfl (does_move (v := .bool x3) (by exact rfl)) (by decide) ?_
            refine alP (some 6) rfl rfl (does_assign (v := .bool x3) (by exact rfl)) (by decide) ?_
            refine al_nil ?_
            refine hK16 _ ?_
            refine aw_ret ?_
            have h := leafR h hk5
            obtain rfl := Option.some.inj h
            exact ret_ok1 (by conv => lhs; whnf) (by conv => lhs; whnf) (by exact rfl) (.inr rfl) rfl
          · have h := ifF c15 h
            refine alP (some 30) rfl rfl (does_move (v := .int .i64 a2) (by exact rfl)) (by decide) ?_
            refine alP (some 31) rfl rfl (does_bin (v := .bool (decide ((1000 : Int) < a2))) (by conv => lhs; whnf) (by conv => lhs; whnf) rfl) (by decide) ?_
            refine alP (some 32) rfl rfl (does_pick (v := .bool (decide ((1000 : Int) < a2))) (by conv => lhs; whnf) (by exact rfl)) (by decide) ?_
            refine al_nil ?_
            refine hK6 _ ?_
            refine aw_bool (b := (decide ((1000 : Int) < a2))) 32 rfl (fun c17 => ?_) (fun c17 => ?_)
            · have h := ifT c17 h
              refine aw_cond_t (by decide) rfl ?_
              refine aw_seq_k (fun K18 hK18 => ?_)
              refine aw_regL ?_
              refine alP (some 33) rfl rfl (does_move (v := .bool x3) (by exact rfl)) (by decide) ?_
              refine alP (some 6) rfl rfl (does_assign (v := .bool x3) (by exact rfl)) (by decide) ?_
              refine al_nil ?_
              refine hK18 _ ?_
              refine aw_ret ?_
              have h := leafR h hk5
              obtain rfl := Option.some.inj h
              exact ret_ok1 (by conv => lhs; whnf) (by conv => lhs; whnf) (by exact rfl) (.inr rfl) rfl
            · have h := ifF c17 h
              refine aw_cond_f (by decide) rfl ?_
              refine aw_skip ?_
              have h := leafL h hk5
              exact ⟨_, reb_lit [(0, .sl 4 (List.map enc44 a0)), (2, .int .i64 a2), (4, .ptr 4 0 0)] [(4, 0)] [((4, 0), .box [.str a1.Service, .str a1.Op, .str a1.Key, .str a1.Value, .int .i64 a1.Dur, .bool a1.Err])] [(4, 1)] (envOk_cons (by conv => lhs; whnf) (by exact rfl) (envOk_cons (by conv => lhs; whnf) (by exact rfl) (envOk_cons (by conv => lhs; whnf) (by exact rfl) envOk_nil))) (objOk_cons (by conv => lhs; whnf) (by conv => lhs; whnf) (by exact rfl) (by simp) objOk_nil) (nodup_b rfl) (nodup_b rfl) rfl rfl, h, rfl⟩
  · rintro s ⟨h, rfl⟩
    unfold gleaninglaw32_SearchFirst_k0 at h
    refine aw_seq_k (fun K19 hK19 => ?_)
    refine aw_regL ?_
    refine alP (some 34) rfl rfl (does_move (v := .sl 4 (List.map enc44 a0)) (by exact rfl)) (by decide) ?_
    refine alR (some 35) rfl rfl (does_load (v := .agg [.str a1.Service, .str a1.Op, .str a1.Key, .str a1.Value, .int .i64 a1.Dur, .bool a1.Err]) (by conv => lhs; whnf) (by conv => lhs; whnf) ty24 (by exact rfl)) (by decide) ?_
    refine alP (some 36) rfl rfl (does_move (v := .int .i64 a2) (by exact rfl)) (by decide) ?_
    obtain ⟨x20, hx20, h⟩ := bnd_some h
    refine alD (some 37) rfl rfl (do_call0 37 false (search_Find_ok a0 a1 a2 hx20) rfl ent14 rfl rfl) (by decide) ?_
    refine alP (some 8) rfl rfl (does_assign (v := .sl 2 (List.map enc26 x20)) (by exact rfl)) (by decide) ?_
    refine al_nil ?_
    refine hK19 _ ?_
    refine aw_seq_k (fun K21 hK21 => ?_)
    refine aw_regL ?_
    refine alP (some 38) rfl rfl (does_move (v := .sl 4 (List.map enc44 a0)) (by exact rfl)) (by decide) ?_
    refine alR (some 39) rfl rfl (does_load (v := .agg [.str a1.Service, .str a1.Op, .str a1.Key, .str a1.Value, .int .i64 a1.Dur, .bool a1.Err]) (by conv => lhs; whnf) (by conv => lhs; whnf) ty24 (by exact rfl)) (by decide) ?_
    obtain ⟨x22, hx22, h⟩ := bnd_some h
    refine alD (some 40) rfl rfl (do_call0 40 false (search_Find_ok a0 a1 1000 hx22) rfl ent14 rfl rfl) (by decide) ?_
    refine alP (some 9) rfl rfl (does_assign (v := .sl 2 (List.map enc26 x22)) (by exact rfl)) (by decide) ?_
    refine al_nil ?_
    refine hK21 _ ?_
    obtain ⟨q23, h, hk24⟩ := bnd_some h
    refine aw_cut (fun s => gleaninglaw32_SearchFirst_k1 a2 x20 x22 = some r ∧ s = lit [(2, .int .i64 a2), (8, .sl 2 (List.map enc26 x20)), (9, .sl 2 (List.map enc26 x22))] [] [] X) ?_ ?_
    · skip
      refine aw_seq_k (fun K25 hK25 => ?_)
      refine aw_regL ?_
      refine alP (some 10) rfl rfl (does_assign (v := .int .i64 1) (by exact rfl)) (by decide) ?_
      refine al_nil ?_
      refine hK25 _ ?_
      refine aw_block ?_
      refine aw_loop' (fun m s => ∃ (v10_2 : Int), loopN (fun (s : Int) => gleaninglaw32_SearchFirst_l2 x22 s) m v10_2 = some q23 ∧ s = lit [(2, .int .i64 a2), (8, .sl 2 (List.map enc26 x20)), (9, .sl 2 (List.map enc26 x22)), (10, .int .i64 v10_2)] [] [] X) Fu
        ⟨_, reb_lit [(2, .int .i64 a2), (8, .sl 2 (List.map enc26 x20)), (9, .sl 2 (List.map enc26 x22)), (10, .int .i64 (1))] [] [] [] (envOk_cons (by conv => lhs; whnf) (by exact rfl) (envOk_cons (by conv => lhs; whnf) (by exact rfl) (envOk_cons (by conv => lhs; whnf) (by exact rfl) (envOk_cons (by conv => lhs; whnf) (by exact rfl) envOk_nil)))) objOk_nil (nodup_b rfl) (nodup_b rfl) rfl rfl, 1, h, rfl⟩ ?_
      rintro m s ⟨v10_2, h, rfl⟩
      obtain ⟨m2, q26, rfl, h, hq27⟩ := loop_some h
      replace h : gleaninglaw32_SearchFirst_l2 x22 v10_2 = some q26 := h
      unfold gleaninglaw32_SearchFirst_l2 at h
      refine aw_seq_k (fun K28 hK28 => ?_)
      refine aw_seq_k (fun K29 hK29 => ?_)
      refine aw_regL ?_
      refine alP (some 41) rfl rfl (does_move (v := .int .i64 v10_2) (by exact rfl)) (by decide) ?_
      refine alP (some 42) rfl rfl (does_move (v := .sl 2 (List.map enc26 x22)) (by exact rfl)) (by decide) ?_
      refine alP (some 43) rfl rfl ((does_len_sl (by conv => lhs; whnf) ty37).castp (v' := .int .i64 (List.length x22 : Int)) (by exact len_map _)) (by decide) ?_
      refine alP (some 44) rfl rfl (does_bin (v := .bool (decide (v10_2 < (List.length x22 : Int)))) (by conv => lhs; whnf) (by conv => lhs; whnf) rfl) (by decide) ?_
      refine al_nil ?_
      refine hK29 _ ?_
      refine aw_bool (b := (decide (v10_2 < (List.length x22 : Int)))) 44 rfl (fun c30 => ?_) (fun c30 => ?_)
      · have h := ifT c30 h
        refine aw_cond_t (by decide) rfl ?_
        refine aw_skip ?_
        refine hK28 _ ?_
        refine aw_seq_k (fun K31 hK31 => ?_)
        refine aw_block ?_
        refine aw_seq_k (fun K32 hK32 => ?_)
        refine aw_regd (by kernel_rfl) (by decide +kernel) ?_
        refine aoP (some 47) rfl rfl (does_move (v := .sl 2 (List.map enc26 x22)) (by exact rfl)) (by decide) ?_
        refine aoP (some 48) rfl rfl (does_move (v := .int .i64 v10_2) (by exact rfl)) (by decide) ?_
        refine aoP (some 49) rfl rfl (does_bin (v := .int .i64 (IntKind.i64.wrap (v10_2 - 1))) (by conv => lhs; whnf) (by conv => lhs; whnf) rfl) (by decide) ?_
        obtain ⟨g33, h⟩ := gd_some h
        obtain ⟨x34, hx34, h⟩ := bnd_some h
        refine aoP (some 50) rfl rfl (does_indexAddr_sl (el := .agg [.int .u64 x34.Hi, .int .u64 x34.Lo]) (by conv => lhs; whnf) (by conv => lhs; whnf) ty37 ty27 g33 (by exact map_get hx34)) (by decide) ?_
        refine aoR (some 51) rfl rfl (does_load (v := .agg [.int .u64 x34.Hi, .int .u64 x34.Lo]) (by conv => lhs; whnf) (by conv => lhs; whnf) ty27 (by exact rfl)) (by decide) ?_
        refine aoP (some 52) rfl rfl (does_move (v := .sl 2 (List.map enc26 x22)) (by exact rfl)) (by decide) ?_
        refine aoP (some 53) rfl rfl (does_move (v := .int .i64 v10_2) (by exact rfl)) (by decide) ?_
        obtain ⟨g35, h⟩ := gd_some h
        obtain ⟨x36, hx36, h⟩ := bnd_some h
        refine aoP (some 54) rfl rfl (does_indexAddr_sl (el := .agg [.int .u64 x36.Hi, .int .u64 x36.Lo]) (by conv => lhs; whnf) (by conv => lhs; whnf) ty37 ty27 g35 (by exact map_get hx36)) (by decide) ?_
        refine aoR (some 55) rfl rfl (does_load (v := .agg [.int .u64 x36.Hi, .int .u64 x36.Lo]) (by conv => lhs; whnf) (by conv => lhs; whnf) ty27 (by exact rfl)) (by decide) ?_
        obtain ⟨x37, hx37, h⟩ := bnd_some h
        refine aoD (some 56) rfl rfl (do_call0 56 false (gleaningref15_LessTrace_ok x34 x36 hx37) rfl ent21 rfl rfl) (by decide) ?_
        refine aoP (some 57) rfl rfl (does_un (v := .bool (!x37)) (by conv => lhs; whnf) rfl) (by decide) ?_
        refine ao_nil_d (by kernel_rfl) ?_
        refine hK32 _ ?_
        refine aw_bool (b := (!x37)) 57 rfl (fun c38 => ?_) (fun c38 => ?_)
        · have h := ifT c38 h
          refine aw_cond_t (by decide) rfl ?_
          refine aw_seq_k (fun K39 hK39 => ?_)
          refine aw_regL ?_
          refine alP (some 6) rfl rfl (does_assign (v := .bool false) (by exact rfl)) (by decide) ?_
          refine al_nil ?_
          refine hK39 _ ?_
          refine aw_ret ?_
          have h := leafR h hq27
          have h := leafR h hk24
          obtain rfl := Option.some.inj h
          exact ret_ok1 (by conv => lhs; whnf) (by conv => lhs; whnf) (by exact rfl) (.inr rfl) rfl
        · have h := ifF c38 h
          refine aw_cond_f (by decide) rfl ?_
          refine aw_skip ?_
          refine hK31 _ ?_
          refine aw_regL ?_
          refine alP (some 45) rfl rfl (does_move (v := .int .i64 v10_2) (by exact rfl)) (by decide) ?_
          refine alP (some 46) rfl rfl (does_bin (v := .int .i64 (IntKind.i64.wrap (v10_2 + 1))) (by conv => lhs; whnf) (by conv => lhs; whnf) rfl) (by decide) ?_
          refine alP (some 10) rfl rfl (does_assign (v := .int .i64 (IntKind.i64.wrap (v10_2 + 1))) (by exact rfl)) (by decide) ?_
          refine al_nil ?_
          have h := leafL h hq27
          exact ⟨m2, Nat.lt_succ_self _, _, reb_lit [(2, .int .i64 a2), (8, .sl 2 (List.map enc26 x20)), (9, .sl 2 (List.map enc26 x22)), (10, .int .i64 (IntKind.i64.wrap (v10_2 + 1)))] [] [] [] (envOk_cons (by conv => lhs; whnf) (by exact rfl) (envOk_cons (by conv => lhs; whnf) (by exact rfl) (envOk_cons (by conv => lhs; whnf) (by exact rfl) (envOk_cons (by conv => lhs; whnf) (by exact rfl) envOk_nil)))) objOk_nil (nodup_b rfl) (nodup_b rfl) rfl rfl, (IntKind.i64.wrap (v10_2 + 1)), h, rfl⟩
      · have h := ifF c30 h
        refine aw_cond_f (by decide) rfl ?_
        refine aw_exit ?_
        have h := leafR h hq27
        have h := leafL h hk24
        exact ⟨_, reb_lit [(2, .int .i64 a2), (8, .sl 2 (List.map enc26 x20)), (9, .sl 2 (List.map enc26 x22))] [] [] [] (envOk_cons (by conv => lhs; whnf) (by exact rfl) (envOk_cons (by conv => lhs; whnf) (by exact rfl) (envOk_cons (by conv => lhs; whnf) (by exact rfl) envOk_nil))) objOk_nil (nodup_b rfl) (nodup_b rfl) rfl rfl, h, rfl⟩
    · rintro s ⟨h, rfl⟩
      unfold gleaninglaw32_SearchFirst_k1 at h
      refine aw_seq_k (fun K40 hK40 => ?_)
      refine aw_regL ?_
      refine alP (some 58) rfl rfl (does_move (v := .int .i64 a2) (by exact rfl)) (by decide) ?_
      refine alP (some 11) rfl rfl (does_assign (v := .int .i64 a2) (by exact rfl)) (by decide) ?_
      refine al_nil ?_
      refine hK40 _ ?_
      obtain ⟨q41, h, hk42⟩ := bnd_some h
      refine aw_cut (fun s => ∃ (v11_3 : Int), gleaninglaw32_SearchFirst_k3 x20 x22 v11_3 = some r ∧ s = lit [(8, .sl 2 (List.map enc26 x20)), (9, .sl 2 (List.map enc26 x22)), (11, .int .i64 v11_3)] [] [] X) ?_ ?_
      · skip
        refine aw_seq_k (fun K43 hK43 => ?_)
        refine aw_regL ?_
        refine alP (some 59) rfl rfl (does_move (v := .sl 2 (List.map enc26 x22)) (by exact rfl)) (by decide) ?_
        refine alP (some 60) rfl rfl ((does_len_sl (by conv => lhs; whnf) ty37).castp (v' := .int .i64 (List.length x22 : Int)) (by exact len_map _)) (by decide) ?_
        refine alP (some 61) rfl rfl (does_move (v := .int .i64 a2) (by exact rfl)) (by decide) ?_
        refine alP (some 62) rfl rfl (does_bin (v := .bool (decide ((List.length x22 : Int) < a2))) (by conv => lhs; whnf) (by conv => lhs; whnf) rfl) (by decide) ?_
        refine al_nil ?_
        refine hK43 _ ?_
        refine aw_bool (b := (decide ((List.length x22 : Int) < a2))) 62 rfl (fun c44 => ?_) (fun c44 => ?_)
        · have h := ifT c44 h
          refine aw_cond_t (by decide) rfl ?_
          refine aw_regL ?_
          refine alP (some 63) rfl rfl (does_move (v := .sl 2 (List.map enc26 x22)) (by exact rfl)) (by decide) ?_
          refine alP (some 64) rfl rfl ((does_len_sl (by conv => lhs; whnf) ty37).castp (v' := .int .i64 (List.length x22 : Int)) (by exact len_map _)) (by decide) ?_
          refine alP (some 11) rfl rfl (does_assign (v := .int .i64 (List.length x22 : Int)) (by exact rfl)) (by decide) ?_
          refine al_nil ?_
          obtain rfl := Option.some.inj h
          have h := hk42
          exact ⟨_, reb_lit [(8, .sl 2 (List.map enc26 x20)), (9, .sl 2 (List.map enc26 x22)), (11, .int .i64 (List.length x22 : Int))] [] [] [] (envOk_cons (by conv => lhs; whnf) (by exact rfl) (envOk_cons (by conv => lhs; whnf) (by exact rfl) (envOk_cons (by conv => lhs; whnf) (by exact rfl) envOk_nil))) objOk_nil (nodup_b rfl) (nodup_b rfl) rfl rfl, (List.length x22 : Int), h, rfl⟩
        · have h := ifF c44 h
          refine aw_cond_f (by decide) rfl ?_
          refine aw_skip ?_
          obtain rfl := Option.some.inj h
          have h := hk42
          exact ⟨_, reb_lit [(8, .sl 2 (List.map enc26 x20)), (9, .sl 2 (List.map enc26 x22)), (11, .int .i64 a2)] [] [] [] (envOk_cons (by conv => lhs; whnf) (by exact rfl) (envOk_cons (by conv => lhs; whnf) (by exact rfl) (envOk_cons (by conv => lhs; whnf) (by exact rfl) envOk_nil))) objOk_nil (nodup_b rfl) (nodup_b rfl) rfl rfl, a2, h, rfl⟩
      · rintro s ⟨v11_3, h, rfl⟩
        unfold gleaninglaw32_SearchFirst_k3 at h
        refine aw_seq_k (fun K45 hK45 => ?_)
        refine aw_regL ?_
        refine alP (some 65) rfl rfl (does_move (v := .sl 2 (List.map enc26 x20)) (by exact rfl)) (by decide) ?_
        refine alP (some 66) rfl rfl ((does_len_sl (by conv => lhs; whnf) ty37).castp (v' := .int .i64 (List.length x20 : Int)) (by exact len_map _)) (by decide) ?_
        refine alP (some 67) rfl rfl (does_move (v := .int .i64 v11_3) (by exact rfl)) (by decide) ?_
        refine alP (some 68) rfl rfl (does_bin (v := .bool ((List.length x20 : Int) == v11_3)) (by conv => lhs; whnf) (by conv => lhs; whnf) rfl) (by decide) ?_
        refine alP (some 69) rfl rfl (does_move (v := .bool ((List.length x20 : Int) == v11_3)) (by exact rfl)) (by decide) ?_
        refine al_bool (c := ((List.length x20 : Int) == v11_3)) 69 rfl (fun c46 => ?_) (fun c46 => ?_)
        · have h := ifT c46 h
          refine alP (some 70) rfl rfl (does_move (v := .sl 2 (List.map enc26 x20)) (by exact rfl)) (by decide) ?_
          refine alP (some 71) rfl rfl (does_move (v := .sl 2 (List.map enc26 x22)) (by exact rfl)) (by decide) ?_
          refine alP (some 72) rfl rfl (does_move (v := .int .i64 v11_3) (by exact rfl)) (by decide) ?_
          obtain ⟨g47, h⟩ := gd_some h
          obtain ⟨g48, h⟩ := gd_some h
          refine alP (some 73) rfl rfl (does_slice_sl (l := 0) (k := (Int.toNat v11_3)) (by conv => lhs; whnf) ty37 ty27 bd_none (bd_some (by conv => lhs; whnf) (by exact (nat_of (by omega)))) (by (try simp only [List.length_map]); omega) (by (try simp only [List.length_map]); omega) (by exact part_h _ _)) (by decide) ?_
          obtain ⟨x49, hx49, h⟩ := bnd_some h
          refine alD (some 74) rfl rfl (do_call0 74 false (gleaningref28_SameTraces_ok x20 (List.take (Int.toNat v11_3) x22) hx49) rfl ent13 rfl rfl) (by decide) ?_
          refine alP (some 75) rfl rfl (does_pick (v := .bool x49) (by conv => lhs; whnf) (by exact rfl)) (by decide) ?_
          refine alP (some 6) rfl rfl (does_assign (v := .bool x49) (by exact rfl)) (by decide) ?_
          refine al_nil ?_
          refine hK45 _ ?_
          refine aw_ret ?_
          obtain rfl := Option.some.inj h
          exact ret_ok1 (by conv => lhs; whnf) (by conv => lhs; whnf) (by exact rfl) (.inr rfl) rfl
        · have h := ifF c46 h
          refine alS (some 70) rfl rfl (by decide) ?_
          refine alS (some 71) rfl rfl (by decide) ?_
          refine alS (some 72) rfl rfl (by decide) ?_
          refine alS (some 73) rfl rfl (by decide) ?_
          refine alS (some 74) rfl rfl (by decide) ?_
          refine alP (some 75) rfl rfl (does_pick (v := .bool false) (by conv => lhs; whnf) (by exact rfl)) (by decide) ?_
          refine alP (some 6) rfl rfl (does_assign (v := .bool false) (by exact rfl)) (by decide) ?_
          refine al_nil ?_
          refine hK45 _ ?_
          refine aw_ret ?_
          obtain rfl := Option.some.inj h
          exact ret_ok1 (by conv => lhs; whnf) (by conv => lhs; whnf) (by exact rfl) (.inr rfl) rfl
end Go.Proofs.Ytnhjcpnoadicpaa.Ab
