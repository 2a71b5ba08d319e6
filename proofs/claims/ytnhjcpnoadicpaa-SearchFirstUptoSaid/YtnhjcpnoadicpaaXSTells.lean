/- Chapter 32: which traces are found. -/
import Derived.Test.YtnhjcpnoadicpaaXS2
import Derived.Test.YtnhjcpnoadicpaaProg
namespace Go.Proofs.Ytnhjcpnoadicpaa.Ab
open Go Go.RowKit
set_option linter.unusedVariables false
set_option linter.unusedSimpArgs false
theorem ent7 : Ent Try.prog 7 := ⟨_, Try.func7, by kernel_rfl, rfl⟩
theorem ent8 : Ent Try.prog 8 := ⟨_, Try.func8, by kernel_rfl, rfl⟩
theorem ent9 : Ent Try.prog 9 := ⟨_, Try.func9, by kernel_rfl, rfl⟩
theorem ent13 : Ent Try.prog 13 := ⟨_, Try.func13, by kernel_rfl, rfl⟩
theorem ent15 : Ent Try.prog 15 := ⟨_, Try.func15, by kernel_rfl, rfl⟩
theorem ent17 : Ent Try.prog 17 := ⟨_, Try.func17, by kernel_rfl, rfl⟩
def gleaninglaw32_SearchTells_k0 (a0 : List Block) (a1 : Query) (a2 : Span) (a3 : Int) : Option Bool :=
  Option.bind (search_Match a1 a2) (fun (x19 : Bool) => Option.bind (gleaningref28_Match a1 a2) (fun (x20 : Bool) => if (x19 == x20) = true then (Option.bind (search_Find a0 a1 a3) (fun (x22 : List Trace) => Option.bind (gleaningref28_Find a0 a1 a3) (fun (x23 : List Trace) => Option.bind (gleaningref28_SameTraces x22 x23) (fun (x24 : Bool) => if x24 = true then (Option.bind (search_Count a0 a1) (fun (x26 : Int) => Option.bind (gleaningref28_Count a0 a1) (fun (x27 : Int) => some (x26 == x27)))) else (some false))))) else (some false)))
def gleaninglaw32_SearchTells (a0 : List Block) (a1 : Query) (a2 : Span) (a3 : Int) : Option Bool :=
  Option.bind (gleaninglaw32_alive) (fun (x3 : Bool) => Option.bind (if (!x3) = true then (some (Sum.inr x3)) else (Option.bind (gleaninglaw19_Few a0) (fun (x9 : Bool) => if (!x9) = true then (some (Sum.inr x3)) else (Option.bind (gleaninglaw32_Few a1) (fun (x12 : Bool) => if (!x12) = true then (some (Sum.inr x3)) else (Option.bind (gleaninglaw3_Few a2) (fun (x15 : Bool) => if (!x15) = true then (some (Sum.inr x3)) else (some (Sum.inl ()))))))))) (Sum.elim (fun (s : Unit) => gleaninglaw32_SearchTells_k0 a0 a1 a2 a3) some))
set_option maxRecDepth 100000 in
set_option maxHeartbeats 8000000 in
/-- gleaning/gleaninglaw32.SearchTells -/
theorem gleaninglaw32_SearchTells_ok (a0 : List Block) (a1 : Query) (a2 : Span) (a3 : Int) {r : Bool} (h : gleaninglaw32_SearchTells a0 a1 a2 a3 = some r) : Ok Try.prog 3 [.sl 4 (List.map enc44 a0), .agg [.str a1.Service, .str a1.Op, .str a1.Key, .str a1.Value, .int .i64 a1.Dur, .bool a1.Err], .agg [.int .u64 a2.Trace.Hi, .int .u64 a2.Trace.Lo, .int .u64 a2.Id, .int .u64 a2.Parent, .str a2.Service, .str a2.Op, .int .i64 a2.Start, .int .i64 a2.Dur, .bool a2.Err, .sl 2 (List.map enc53 a2.Attrs)], .int .i64 a3] [] [] (.bool r) [] [] := by
  unfold gleaninglaw32_SearchTells at h
  refine ok_of_code Try.func3 rfl (by show (4 : Nat) ≤ _; decide) (Nat.le_refl _) fun X => ?_
  refine aw_seq_k (fun K1 hK1 => ?_)
  refine aw_regL ?_
  refine alD (some 5) rfl rfl (do_box (by conv => lhs; whnf) rfl rfl) (by decide) ?_
  refine alD (some 6) rfl rfl (do_box (by conv => lhs; whnf) rfl rfl) (by decide) ?_
  refine alP (some 8) rfl rfl (does_assign (v := .bool false) (by exact rfl)) (by decide) ?_
  refine al_nil ?_
  refine hK1 _ ?_
  refine aw_seq_k (fun K2 hK2 => ?_)
  refine aw_regL ?_
  obtain ⟨x3, hx3, h⟩ := bnd_some h
  refine alD (some 10) rfl rfl (do_call0 10 false (gleaninglaw32_alive_ok hx3) rfl ent7 rfl rfl) (by decide) ?_
  refine alP (some 9) rfl rfl (does_assign (v := .bool x3) (by exact rfl)) (by decide) ?_
  refine al_nil ?_
  refine hK2 _ ?_
  obtain ⟨q4, h, hk5⟩ := bnd_some h
  refine aw_cut (fun s => gleaninglaw32_SearchTells_k0 a0 a1 a2 a3 = some r ∧ s = lit [(0, .sl 4 (List.map enc44 a0)), (3, .int .i64 a3), (5, .ptr 5 0 0), (6, .ptr 6 0 0)] [((5, 0), .box [.str a1.Service, .str a1.Op, .str a1.Key, .str a1.Value, .int .i64 a1.Dur, .bool a1.Err]), ((6, 0), .box [.int .u64 a2.Trace.Hi, .int .u64 a2.Trace.Lo, .int .u64 a2.Id, .int .u64 a2.Parent, .str a2.Service, .str a2.Op, .int .i64 a2.Start, .int .i64 a2.Dur, .bool a2.Err, .sl 2 (List.map enc53 a2.Attrs)])] [(5, 1), (6, 1)] X) ?_ ?_
  · skip
    refine aw_seq_k (fun K6 hK6 => ?_)
    refine aw_regL ?_
    refine alP (some 11) rfl rfl (does_move (v := .bool x3) (by exact rfl)) (by decide) ?_
    refine alP (some 12) rfl rfl (does_un (v := .bool (!x3)) (by conv => lhs; whnf) rfl) (by decide) ?_
    refine alP (some 13) rfl rfl (does_move (v := .bool (!x3)) (by exact rfl)) (by decide) ?_
    refine al_bool (c := (!x3)) 13 rfl (fun c7 => ?_) (fun c7 => ?_)
    · have h := ifT c7 h
      refine alS (some 14) rfl rfl (by decide) ?_
      refine alS (some 15) rfl rfl (by decide) ?_
      refine alS (some 16) rfl rfl (by decide) ?_
      refine alP (some 17) rfl rfl (does_pick (v := .bool true) (by conv => lhs; whnf) (by exact rfl)) (by decide) ?_
      refine alP (some 18) rfl rfl (does_move (v := .bool true) (by exact rfl)) (by decide) ?_
      refine alS (some 19) rfl rfl (by decide) ?_
      refine alS (some 20) rfl rfl (by decide) ?_
      refine alS (some 21) rfl rfl (by decide) ?_
      refine alP (some 22) rfl rfl (does_pick (v := .bool true) (by conv => lhs; whnf) (by exact rfl)) (by decide) ?_
      refine alP (some 23) rfl rfl (does_move (v := .bool true) (by exact rfl)) (by decide) ?_
      refine alS (some 24) rfl rfl (by decide) ?_
      refine alS (some 25) rfl rfl (by decide) ?_
      refine alS (some 26) rfl rfl (by decide) ?_
      refine alP (some 27) rfl rfl (does_pick (v := .bool true) (by conv => lhs; whnf) (by exact rfl)) (by decide) ?_
      refine al_nil ?_
      refine hK6 _ ?_
      refine aw_cond_t (by decide) rfl ?_
      refine aw_seq_k (fun K8 hK8 => ?_)
      refine aw_regL ?_
      refine alP (some 28) rfl rfl (does_move (v := .bool x3) (by exact rfl)) (by decide) ?_
      refine alP (some 8) rfl rfl (does_assign (v := .bool x3) (by exact rfl)) (by decide) ?_
      refine al_nil ?_
      refine hK8 _ ?_
      refine aw_ret ?_
      have h := leafR h hk5
      obtain rfl := Option.some.inj h
      exact ret_ok1 (by conv => lhs; whnf) (by conv => lhs; whnf) (by exact rfl) (.inr rfl) rfl
    · have h := ifF c7 h
      refine alP (some 14) rfl rfl (does_move (v := .sl 4 (List.map enc44 a0)) (by exact rfl)) (by decide) ?_
      obtain ⟨x9, hx9, h⟩ := bnd_some h
      refine alD (some 15) rfl rfl (do_call0 15 false (gleaninglaw19_Few_ok a0 hx9) rfl ent8 rfl rfl) (by decide) ?_
      refine alP (some 16) rfl rfl (does_un (v := .bool (!x9)) (by conv => lhs; whnf) rfl) (by decide) ?_
      refine alP (some 17) rfl rfl (does_pick (v := .bool (!x9)) (by conv => lhs; whnf) (by exact rfl)) (by decide) ?_
      refine alP (some 18) rfl rfl (does_move (v := .bool (!x9)) (by exact rfl)) (by decide) ?_
      refine al_bool (c := (!x9)) 18 rfl (fun c10 => ?_) (fun c10 => ?_)
      · have h := ifT c10 h
        refine alS (some 19) rfl rfl (by decide) ?_
        refine alS (some 20) rfl rfl (by decide) ?_
        refine alS (some 21) rfl rfl (by decide) ?_
        refine alP (some 22) rfl rfl (does_pick (v := .bool true) (by conv => lhs; whnf) (by exact rfl)) (by decide) ?_
        refine alP (some 23) rfl rfl (does_move (v := .bool true) (by exact rfl)) (by decide) ?_
        refine alS (some 24) rfl rfl (by decide) ?_
        refine alS (some 25) rfl rfl (by decide) ?_
        refine alS (some 26) rfl rfl (by decide) ?_
        refine alP (some 27) rfl rfl (does_pick (v := .bool true) (by conv => lhs; whnf) (by exact rfl)) (by decide) ?_
        refine al_nil ?_
        refine hK6 _ ?_
        refine aw_cond_t (by decide) rfl ?_
        refine aw_seq_k (fun K11 hK11 => ?_)
        refine aw_regL ?_
        refine alP (some 28) rfl rfl (does_move (v := .bool x3) (by exact rfl)) (by decide) ?_
        refine alP (some 8) rfl rfl (does_assign (v := .bool x3) (by exact rfl)) (by decide) ?_
        refine al_nil ?_
        refine hK11 _ ?_
        refine aw_ret ?_
        have h := leafR h hk5
        obtain rfl := Option.some.inj h
        exact ret_ok1 (by conv => lhs; whnf) (by conv => lhs; whnf) (by exact rfl) (.inr rfl) rfl
      · have h := ifF c10 h
        refine alR (some 19) rfl rfl (does_load (v := .agg [.str a1.Service, .str a1.Op, .str a1.Key, .str a1.Value, .int .i64 a1.Dur, .bool a1.Err]) (by conv => lhs; whnf) (by conv => lhs; whnf) ty24 (by exact rfl)) (by decide) ?_
        obtain ⟨x12, hx12, h⟩ := bnd_some h
        refine alD (some 20) rfl rfl (do_call0 20 false (gleaninglaw32_Few_ok a1 hx12) rfl ent9 rfl rfl) (by decide) ?_
        refine alP (some 21) rfl rfl (does_un (v := .bool (!x12)) (by conv => lhs; whnf) rfl) (by decide) ?_
        refine alP (some 22) rfl rfl (does_pick (v := .bool (!x12)) (by conv => lhs; whnf) (by exact rfl)) (by decide) ?_
        refine alP (some 23) rfl rfl (does_move (v := .bool (!x12)) (by exact rfl)) (by decide) ?_
        refine al_bool (c := (!x12)) 23 rfl (fun c13 => ?_) (fun c13 => ?_)
        · have h := ifT c13 h
          refine alS (some 24) rfl rfl (by decide) ?_
          refine alS (some 25) rfl rfl (by decide) ?_
          refine alS (some 26) rfl rfl (by decide) ?_
          refine alP (some 27) rfl rfl (does_pick (v := .bool true) (by conv => lhs; whnf) (by exact rfl)) (by decide) ?_
          refine al_nil ?_
          refine hK6 _ ?_
          refine aw_cond_t (by decide) rfl ?_
          refine aw_seq_k (fun K14 hK14 => ?_)
          refine aw_regL ?_
          refine alP (some 28) rfl rfl (does_move (v := .bool x3) (by exact rfl)) (by decide) ?_
          refine alP (some 8) rfl rfl (does_assign (v := .bool x3) (by exact rfl)) (by decide) ?_
          refine al_nil ?_
          refine hK14 _ ?_
          refine aw_ret ?_
          have h := leafR h hk5
          obtain rfl := Option.some.inj h
          exact ret_ok1 (by conv => lhs; whnf) (by conv => lhs; whnf) (by exact rfl) (.inr rfl) rfl
        · have h := ifF c13 h
          refine alR (some 24) rfl rfl (does_load (v := .agg [.int .u64 a2.Trace.Hi, .int .u64 a2.Trace.Lo, .int .u64 a2.Id, .int .u64 a2.Parent, .str a2.Service, .str a2.Op, .int .i64 a2.Start, .int .i64 a2.Dur, .bool a2.Err, .sl 2 (List.map enc53 a2.Attrs)]) (by conv => lhs; whnf) (by conv => lhs; whnf) ty30 (by exact rfl)) (by decide) ?_
          obtain ⟨x15, hx15, h⟩ := bnd_some h
          refine alD (some 25) rfl rfl (do_call0 25 false (gleaninglaw3_Few_ok a2 hx15) rfl ent10 rfl rfl) (by decide) ?_
          refine alP (some 26) rfl rfl (does_un (v := .bool (!x15)) (by conv => lhs; whnf) rfl) (by decide) ?_
          refine alP (some 27) rfl rfl (does_pick (v := .bool (!x15)) (by conv => lhs; whnf) (by exact rfl)) (by decide) ?_
          refine al_nil ?_
          refine hK6 _ ?_
          refine aw_bool (b := (!x15)) 27 rfl (fun c16 => ?_) (fun c16 => ?_)
          · have h := ifT c16 h
            refine aw_cond_t (by decide) rfl ?_
            refine aw_seq_k (fun K17 hK17 => ?_)
            refine aw_regL ?_
            refine alP (some 28) rfl rfl (does_move (v := .bool x3) (by exact rfl)) (by decide) ?_
            refine alP (some 8) rfl rfl (does_assign (v := .bool x3) (by exact rfl)) (by decide) ?_
            refine al_nil ?_
            refine hK17 _ ?_
            refine aw_ret ?_
            have h := leafR h hk5
            obtain rfl := Option.some.inj h
            exact ret_ok1 (by conv => lhs; whnf) (by conv => lhs; whnf) (by exact rfl) (.inr rfl) rfl
          · have h := ifF c16 h
            refine aw_cond_f (by decide) rfl ?_
            refine aw_skip ?_
            have h := leafL h hk5
            exact ⟨_, reb_lit [(0, .sl 4 (List.map enc44 a0)), (3, .int .i64 a3), (5, .ptr 5 0 0), (6, .ptr 6 0 0)] [(5, 0), (6, 0)] [((5, 0), .box [.str a1.Service, .str a1.Op, .str a1.Key, .str a1.Value, .int .i64 a1.Dur, .bool a1.Err]), ((6, 0), .box [.int .u64 a2.Trace.Hi, .int .u64 a2.Trace.Lo, .int .u64 a2.Id, .int .u64 a2.Parent, .str a2.Service, .str a2.Op, .int .i64 a2.Start, .int .i64 a2.Dur, .bool a2.Err, .sl 2 (List.map enc53 a2.Attrs)])] [(5, 1), (6, 1)] (envOk_cons (by conv => lhs; whnf) (by exact rfl) (envOk_cons (by conv => lhs; whnf) (by exact rfl) (envOk_cons (by conv => lhs; whnf) (by exact rfl) (envOk_cons (by conv => lhs; whnf) (by exact rfl) envOk_nil)))) (objOk_cons (by conv => lhs; whnf) (by conv => lhs; whnf) (by exact rfl) (by simp) (objOk_cons (by conv => lhs; whnf) (by conv => lhs; whnf) (by exact rfl) (by simp) objOk_nil)) (nodup_b rfl) (nodup_b rfl) rfl rfl, h, rfl⟩
  · rintro s ⟨h, rfl⟩
    unfold gleaninglaw32_SearchTells_k0 at h
    refine aw_seq_k (fun K18 hK18 => ?_)
    refine aw_regd (by kernel_rfl) (by decide +kernel) ?_
    refine aoR (some 29) rfl rfl (does_load (v := .agg [.str a1.Service, .str a1.Op, .str a1.Key, .str a1.Value, .int .i64 a1.Dur, .bool a1.Err]) (by conv => lhs; whnf) (by conv => lhs; whnf) ty24 (by exact rfl)) (by decide) ?_
    refine aoR (some 30) rfl rfl (does_load (v := .agg [.int .u64 a2.Trace.Hi, .int .u64 a2.Trace.Lo, .int .u64 a2.Id, .int .u64 a2.Parent, .str a2.Service, .str a2.Op, .int .i64 a2.Start, .int .i64 a2.Dur, .bool a2.Err, .sl 2 (List.map enc53 a2.Attrs)]) (by conv => lhs; whnf) (by conv => lhs; whnf) ty30 (by exact rfl)) (by decide) ?_
    obtain ⟨x19, hx19, h⟩ := bnd_some h
    refine aoD (some 31) rfl rfl ((do_call0 31 false (search_Match_ok a1 a2 hx19) rfl ent11 rfl rfl).fx (y := ⟨[], .bool x19, [], [31]⟩) rfl) (by decide) ?_
    refine aoR (some 32) rfl rfl (does_load (v := .agg [.str a1.Service, .str a1.Op, .str a1.Key, .str a1.Value, .int .i64 a1.Dur, .bool a1.Err]) (by conv => lhs; whnf) (by conv => lhs; whnf) ty24 (by exact rfl)) (by decide) ?_
    refine aoR (some 33) rfl rfl (does_load (v := .agg [.int .u64 a2.Trace.Hi, .int .u64 a2.Trace.Lo, .int .u64 a2.Id, .int .u64 a2.Parent, .str a2.Service, .str a2.Op, .int .i64 a2.Start, .int .i64 a2.Dur, .bool a2.Err, .sl 2 (List.map enc53 a2.Attrs)]) (by conv => lhs; whnf) (by conv => lhs; whnf) ty30 (by exact rfl)) (by decide) ?_
    obtain ⟨x20, hx20, h⟩ := bnd_some h
    refine aoD (some 34) rfl rfl ((do_call0 34 false (gleaningref28_Match_ok a1 a2 hx20) rfl ent12 rfl rfl).fx (y := ⟨[], .bool x20, [], [34]⟩) rfl) (by decide) ?_
    refine aoP (some 35) rfl rfl (does_eq_bool (v := .bool (x19 == x20)) (by conv => lhs; whnf) (by conv => lhs; whnf) (ty_bool ty4) rfl) (by decide) ?_
    refine aoP (some 36) rfl rfl (does_move (v := .bool (x19 == x20)) (by exact rfl)) (by decide) ?_
    refine ao_bool (c := (x19 == x20)) 36 rfl (fun c21 => ?_) (fun c21 => ?_)
    · have h := ifT c21 h
      refine aoP (some 37) rfl rfl (does_move (v := .sl 4 (List.map enc44 a0)) (by exact rfl)) (by decide) ?_
      refine aoR (some 38) rfl rfl (does_load (v := .agg [.str a1.Service, .str a1.Op, .str a1.Key, .str a1.Value, .int .i64 a1.Dur, .bool a1.Err]) (by conv => lhs; whnf) (by conv => lhs; whnf) ty24 (by exact rfl)) (by decide) ?_
      refine aoP (some 39) rfl rfl (does_move (v := .int .i64 a3) (by exact rfl)) (by decide) ?_
      obtain ⟨x22, hx22, h⟩ := bnd_some h
      refine aoD (some 40) rfl rfl ((do_call0 40 false (search_Find_ok a0 a1 a3 hx22) rfl ent14 rfl rfl).fx (y := ⟨[], .sl 2 (List.map enc26 x22), [], [40]⟩) rfl) (by decide) ?_
      refine aoP (some 41) rfl rfl (does_move (v := .sl 4 (List.map enc44 a0)) (by exact rfl)) (by decide) ?_
      refine aoR (some 42) rfl rfl (does_load (v := .agg [.str a1.Service, .str a1.Op, .str a1.Key, .str a1.Value, .int .i64 a1.Dur, .bool a1.Err]) (by conv => lhs; whnf) (by conv => lhs; whnf) ty24 (by exact rfl)) (by decide) ?_
      refine aoP (some 43) rfl rfl (does_move (v := .int .i64 a3) (by exact rfl)) (by decide) ?_
      obtain ⟨x23, hx23, h⟩ := bnd_some h
      refine aoD (some 44) rfl rfl ((do_call0 44 false (gleaningref28_Find_ok a0 a1 a3 hx23) rfl ent15 rfl rfl).fx (y := ⟨[], .sl 2 (List.map enc26 x23), [], [44]⟩) rfl) (by decide) ?_
      obtain ⟨x24, hx24, h⟩ := bnd_some h
      refine aoD (some 45) rfl rfl ((do_call0 45 false (gleaningref28_SameTraces_ok x22 x23 hx24) rfl ent13 rfl rfl).fx (y := ⟨[], .bool x24, [], [45]⟩) rfl) (by decide) ?_
      refine aoP (some 46) rfl rfl (does_pick (v := .bool x24) (by conv => lhs; whnf) (by exact rfl)) (by decide) ?_
      refine aoP (some 47) rfl rfl (does_move (v := .bool x24) (by exact rfl)) (by decide) ?_
      refine ao_bool (c := x24) 47 rfl (fun c25 => ?_) (fun c25 => ?_)
      · have h := ifT c25 h
        refine aoP (some 48) rfl rfl (does_move (v := .sl 4 (List.map enc44 a0)) (by exact rfl)) (by decide) ?_
        refine aoR (some 49) rfl rfl (does_load (v := .agg [.str a1.Service, .str a1.Op, .str a1.Key, .str a1.Value, .int .i64 a1.Dur, .bool a1.Err]) (by conv => lhs; whnf) (by conv => lhs; whnf) ty24 (by exact rfl)) (by decide) ?_
        obtain ⟨x26, hx26, h⟩ := bnd_some h
        refine aoD (some 50) rfl rfl ((do_call0 50 false (search_Count_ok a0 a1 hx26) rfl ent16 rfl rfl).fx (y := ⟨[], .int .i64 x26, [], [50]⟩) rfl) (by decide) ?_
        refine aoP (some 51) rfl rfl (does_move (v := .sl 4 (List.map enc44 a0)) (by exact rfl)) (by decide) ?_
        refine aoR (some 52) rfl rfl (does_load (v := .agg [.str a1.Service, .str a1.Op, .str a1.Key, .str a1.Value, .int .i64 a1.Dur, .bool a1.Err]) (by conv => lhs; whnf) (by conv => lhs; whnf) ty24 (by exact rfl)) (by decide) ?_
        obtain ⟨x27, hx27, h⟩ := bnd_some h
        refine aoD (some 53) rfl rfl ((do_call0 53 false (gleaningref28_Count_ok a0 a1 hx27) rfl ent17 rfl rfl).fx (y := ⟨[], .int .i64 x27, [], [53]⟩) rfl) (by decide) ?_
        refine aoP (some 54) rfl rfl (does_bin (v := .bool (x26 == x27)) (by conv => lhs; whnf) (by conv => lhs; whnf) rfl) (by decide) ?_
        refine aoP (some 55) rfl rfl (does_pick (v := .bool (x26 == x27)) (by conv => lhs; whnf) (by exact rfl)) (by decide) ?_
        refine aoP (some 8) rfl rfl (does_assign (v := .bool (x26 == x27)) (by exact rfl)) (by decide) ?_
        refine ao_nil_d (by kernel_rfl) ?_
        refine hK18 _ ?_
        refine aw_ret ?_
        obtain rfl := Option.some.inj h
        exact ret_ok1 (by conv => lhs; whnf) (by conv => lhs; whnf) (by exact rfl) (.inr rfl) rfl
      · have h := ifF c25 h
        refine aoS (some 48) rfl rfl (by decide) ?_
        refine aoS (some 49) rfl rfl (by decide) ?_
        refine aoS (some 50) rfl rfl (by decide) ?_
        refine aoS (some 51) rfl rfl (by decide) ?_
        refine aoS (some 52) rfl rfl (by decide) ?_
        refine aoS (some 53) rfl rfl (by decide) ?_
        refine aoS (some 54) rfl rfl (by decide) ?_
        refine aoP (some 55) rfl rfl (does_pick (v := .bool false) (by conv => lhs; whnf) (by exact rfl)) (by decide) ?_
        refine aoP (some 8) rfl rfl (does_assign (v := .bool false) (by exact rfl)) (by decide) ?_
        refine ao_nil_d (by kernel_rfl) ?_
        refine hK18 _ ?_
        refine aw_ret ?_
        obtain rfl := Option.some.inj h
        exact ret_ok1 (by conv => lhs; whnf) (by conv => lhs; whnf) (by exact rfl) (.inr rfl) rfl
    · have h := ifF c21 h
      refine aoS (some 37) rfl rfl (by decide) ?_
      refine aoS (some 38) rfl rfl (by decide) ?_
      refine aoS (some 39) rfl rfl (by decide) ?_
      refine aoS (some 40) rfl rfl (by decide) ?_
      refine aoS (some 41) rfl rfl (by decide) ?_
      refine aoS (some 42) rfl rfl (by decide) ?_
      refine aoS (some 43) rfl rfl (by decide) ?_
      refine aoS (some 44) rfl rfl (by decide) ?_
      refine aoS (some 45) rfl rfl (by decide) ?_
      refine aoP (some 46) rfl rfl (does_pick (v := .bool false) (by conv => lhs; whnf) (by exact rfl)) (by decide) ?_
      refine aoP (some 47) rfl rfl (does_move (v := .bool false) (by exact rfl)) (by decide) ?_
      refine aoS (some 48) rfl rfl (by decide) ?_
      refine aoS (some 49) rfl rfl (by decide) ?_
      refine aoS (some 50) rfl rfl (by decide) ?_
      refine aoS (some 51) rfl rfl (by decide) ?_
      refine aoS (some 52) rfl rfl (by decide) ?_
      refine aoS (some 53) rfl rfl (by decide) ?_
      refine aoS (some 54) rfl rfl (by decide) ?_
      refine aoP (some 55) rfl rfl (does_pick (v := .bool false) (by conv => lhs; whnf) (by exact rfl)) (by decide) ?_
      refine aoP (some 8) rfl rfl (does_assign (v := .bool false) (by exact rfl)) (by decide) ?_
      refine ao_nil_d (by kernel_rfl) ?_
      refine hK18 _ ?_
      refine aw_ret ?_
      obtain rfl := Option.some.inj h
      exact ret_ok1 (by conv => lhs; whnf) (by conv => lhs; whnf) (by exact rfl) (.inr rfl) rfl
end Go.Proofs.Ytnhjcpnoadicpaa.Ab
