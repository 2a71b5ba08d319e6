/- Chapter 30: the latest. -/
import Derived.Test.YtmompdklolomfaaXPTells
import Derived.Test.YtmompdklolomfaaProg
namespace Go.Proofs.Ytmompdklolomfaa.Ab
open Go Go.RowKit
set_option linter.unusedVariables false
set_option linter.unusedSimpArgs false
def gleaninglaw30_PathLatest_l3 (a0 : List Span) (x18 : List Int) (v6_1 : Int) (v8_3 : Int) (v9_3 : Int) : Option ((Int × Int) ⊕ Int) :=
 if (decide (v9_3 < (List.length a0 : Int))) = true then (gd (0 ≤ v9_3) (Option.bind (a0[(Int.toNat v9_3)]?) (fun (x46 : Span) => Option.bind (gleaningref28_Ends x46) (fun (x47 : Int × Int) => gd (0 ≤ v9_3) (Option.bind (x18[(Int.toNat v9_3)]?) (fun (x50 : Int) => if (x50 == v6_1) = true then (if (decide (v8_3 < x47.2)) = true then (some (Sum.inl (x47.2, (IntKind.i64.wrap (v9_3 + 1))))) else (some (Sum.inl (v8_3, (IntKind.i64.wrap (v9_3 + 1)))))) else (some (Sum.inl (v8_3, (IntKind.i64.wrap (v9_3 + 1))))))))))) else (some (Sum.inr v8_3))
def gleaninglaw30_PathLatest_k4 (a0 : List Span) (x20 : List Int) (v7_1 : Int) (v8_2 : Int) : Option ((Int × Int) ⊕ Bool) :=
 gd (0 ≤ v7_1) (Option.bind (x20[(Int.toNat v7_1)]?) (fun (x76 : Int) => gd (0 ≤ x76) (Option.bind (a0[(Int.toNat x76)]?) (fun (x78 : Span) => Option.bind (path_Ends x78) (fun (x79 : Int × Int) => if (x79.2 != v8_2) = true then (some (Sum.inr false)) else (gd (0 ≤ v7_1) (Option.bind (x20[(Int.toNat v7_1)]?) (fun (x85 : Int) => some (Sum.inl (x85, (IntKind.i64.wrap (v7_1 + 1))))))))))))
def gleaninglaw30_PathLatest_k2 (a0 : List Span) (x18 : List Int) (x20 : List Int) (v6_1 : Int) (v7_1 : Int) (v8_2 : Int) : Option ((Int × Int) ⊕ Bool) :=
 if (v7_1 == (List.length x20 : Int)) = true then (some (Sum.inr (v8_2 == (-1)))) else (Option.bind (gd (0 ≤ v7_1) (Option.bind (x20[(Int.toNat v7_1)]?) (fun (x61 : Int) => if (decide (x61 < 0)) = true then (some (Sum.inr (Sum.inr false))) else (gd (0 ≤ v7_1) (Option.bind (x20[(Int.toNat v7_1)]?) (fun (x65 : Int) => if (decide ((List.length a0 : Int) ≤ x65)) = true then (some (Sum.inr (Sum.inr false))) else (gd (0 ≤ v7_1) (Option.bind (x20[(Int.toNat v7_1)]?) (fun (x69 : Int) => gd (0 ≤ x69) (Option.bind (x18[(Int.toNat x69)]?) (fun (x71 : Int) => if (x71 != v6_1) = true then (some (Sum.inr (Sum.inr false))) else (some (Sum.inl ()))))))))))))) (Sum.elim (fun (s : Unit) => gleaninglaw30_PathLatest_k4 a0 x20 v7_1 v8_2) some))
def gleaninglaw30_PathLatest_l1 (a0 : List Span) (x18 : List Int) (x20 : List Int) (v6_1 : Int) (v7_1 : Int) : Option ((Int × Int) ⊕ Bool) :=
 if (decide (v7_1 ≤ (List.length x20 : Int))) = true then (Option.bind (loopN (fun (s : Int × Int) => gleaninglaw30_PathLatest_l3 a0 x18 v6_1 s.1 s.2) Fu (-1, 0)) (fun (s : Int) => gleaninglaw30_PathLatest_k2 a0 x18 x20 v6_1 v7_1 s)) else (some (Sum.inr false))
def gleaninglaw30_PathLatest_k0 (a0 : List Span) : Option Bool :=
 Option.bind (gleaningref28_Parents a0) (fun (x18 : List Int) => Option.bind (path_Critical a0) (fun (x20 : List Int) => if ((List.length x20 : Int) == 0) = true then (some false) else (loopN (fun (s : Int × Int) => gleaninglaw30_PathLatest_l1 a0 x18 x20 s.1 s.2) Fu (-1, 0))))
def gleaninglaw30_PathLatest (a0 : List Span) : Option Bool :=
 Option.bind (gleaninglaw30_alive) (fun (x3 : Bool) => Option.bind (if (!x3) = true then (some (Sum.inr x3)) else (Option.bind (gleaninglaw3_FewAll a0) (fun (x9 : Bool) => if (!x9) = true then (some (Sum.inr x3)) else (Option.bind (gleaningref1_RightSpans a0) (fun (x12 : Bool) => if (!x12) = true then (some (Sum.inr x3)) else (if ((List.length a0 : Int) == 0) = true then (some (Sum.inr x3)) else (some (Sum.inl ())))))))) (Sum.elim (fun (s : Unit) => gleaninglaw30_PathLatest_k0 a0) some))
set_option maxRecDepth 100000 in
set_option maxHeartbeats 8000000 in
theorem gleaninglaw30_PathLatest_ok (a0 : List Span) {r : Bool} (h : gleaninglaw30_PathLatest a0 = some r) : Ok Try.prog 4 [.sl 10 (List.map enc27 a0)] [] [] (.bool r) [] [] := by
 unfold gleaninglaw30_PathLatest at h
 refine ok_of_code Try.func4 rfl (by show (1 : Nat) ≤ _; decide) (Nat.le_refl _) fun X => ?_
 refine aw_seq_k (fun K1 hK1 => ?_)
 refine aw_regL ?_
 refine alP (some 2) rfl rfl (does_assign (v := .bool false) (by exact rfl)) (by decide) ?_
 refine al_nil ?_
 refine hK1 _ ?_
 refine aw_seq_k (fun K2 hK2 => ?_)
 refine aw_regL ?_
 obtain ⟨x3, hx3, h⟩ := bnd_some h
 refine alD (some 14) rfl rfl (do_call0 14 false (gleaninglaw30_alive_ok hx3) rfl ent6 rfl rfl) (by decide) ?_
 refine alP (some 3) rfl rfl (does_assign (v := .bool x3) (by exact rfl)) (by decide) ?_
 refine al_nil ?_
 refine hK2 _ ?_
 obtain ⟨q4, h, hk5⟩ := bnd_some h
 refine aw_cut (fun s => gleaninglaw30_PathLatest_k0 a0 = some r ∧ s = lit [(0, .sl 10 (List.map enc27 a0))] [] [] X) ?_ ?_
 ·skip
  refine aw_seq_k (fun K6 hK6 => ?_)
  refine aw_regL ?_
  refine alP (some 15) rfl rfl (does_move (v := .bool x3) (by exact rfl)) (by decide) ?_
  refine alP (some 16) rfl rfl (does_un (v := .bool (!x3)) (by conv => lhs; whnf) rfl) (by decide) ?_
  refine alP (some 17) rfl rfl (does_move (v := .bool (!x3)) (by exact rfl)) (by decide) ?_
  refine al_bool (c := (!x3)) 17 rfl (fun c7 => ?_) (fun c7 => ?_)
  ·have h := ifT c7 h
   refine alS (some 18) rfl rfl (by decide) ?_
   refine alS (some 19) rfl rfl (by decide) ?_
   refine alS (some 20) rfl rfl (by decide) ?_
   refine alP (some 21) rfl rfl (does_pick (v := .bool true) (by conv => lhs; whnf) (by exact rfl)) (by decide) ?_
   refine alP (some 22) rfl rfl (does_move (v := .bool true) (by exact rfl)) (by decide) ?_
   refine alS (some 23) rfl rfl (by decide) ?_
   refine alS (some 24) rfl rfl (by decide) ?_
   refine alS (some 25) rfl rfl (by decide) ?_
   refine alP (some 26) rfl rfl (does_pick (v := .bool true) (by conv => lhs; whnf) (by exact rfl)) (by decide) ?_
   refine alP (some 27) rfl rfl (does_move (v := .bool true) (by exact rfl)) (by decide) ?_
   refine alS (some 28) rfl rfl (by decide) ?_
   refine alS (some 29) rfl rfl (by decide) ?_
   refine alS (some 30) rfl rfl (by decide) ?_
   refine alP (some 31) rfl rfl (does_pick (v := .bool true) (by conv => lhs; whnf) (by exact rfl)) (by decide) ?_
   refine al_nil ?_
   refine hK6 _ ?_
   refine aw_cond_t (by decide) rfl ?_
   refine aw_seq_k (fun K8 hK8 => ?_)
   refine aw_regL ?_
   refine alP (some 32) rfl rfl (does_move (v := .bool x3) (by exact rfl)) (by decide) ?_
   refine alP (some 2) rfl rfl (does_assign (v := .bool x3) (by exact rfl)) (by decide) ?_
   refine al_nil ?_
   refine hK8 _ ?_
   refine aw_ret ?_
   have h := leafR h hk5
   obtain rfl := Option.some.inj h
   exact ret_ok1 (by conv => lhs; whnf) (by conv => lhs; whnf) (by exact rfl) (.inr rfl) rfl
  ·have h := ifF c7 h
   refine alP (some 18) rfl rfl (does_move (v := .sl 10 (List.map enc27 a0)) (by exact rfl)) (by decide) ?_
   obtain ⟨x9, hx9, h⟩ := bnd_some h
   refine alD (some 19) rfl rfl (do_call0 19 false (gleaninglaw3_FewAll_ok a0 hx9) rfl ent7 rfl rfl) (by decide) ?_
   refine alP (some 20) rfl rfl (does_un (v := .bool (!x9)) (by conv => lhs; whnf) rfl) (by decide) ?_
   refine alP (some 21) rfl rfl (does_pick (v := .bool (!x9)) (by conv => lhs; whnf) (by exact rfl)) (by decide) ?_
   refine alP (some 22) rfl rfl (does_move (v := .bool (!x9)) (by exact rfl)) (by decide) ?_
   refine al_bool (c := (!x9)) 22 rfl (fun c10 => ?_) (fun c10 => ?_)
   ·have h := ifT c10 h
    refine alS (some 23) rfl rfl (by decide) ?_
    refine alS (some 24) rfl rfl (by decide) ?_
    refine alS (some 25) rfl rfl (by decide) ?_
    refine alP (some 26) rfl rfl (does_pick (v := .bool true) (by conv => lhs; whnf) (by exact rfl)) (by decide) ?_
    refine alP (some 27) rfl rfl (does_move (v := .bool true) (by exact rfl)) (by decide) ?_
    refine alS (some 28) rfl rfl (by decide) ?_
    refine alS (some 29) rfl rfl (by decide) ?_
    refine alS (some 30) rfl rfl (by decide) ?_
    refine alP (some 31) rfl rfl (does_pick (v := .bool true) (by conv => lhs; whnf) (by exact rfl)) (by decide) ?_
    refine al_nil ?_
    refine hK6 _ ?_
    refine aw_cond_t (by decide) rfl ?_
    refine aw_seq_k (fun K11 hK11 => ?_)
    refine aw_regL ?_
    refine alP (some 32) rfl rfl (does_move (v := .bool x3) (by exact rfl)) (by decide) ?_
    refine alP (some 2) rfl rfl (does_assign (v := .bool x3) (by exact rfl)) (by decide) ?_
    refine al_nil ?_
    refine hK11 _ ?_
    refine aw_ret ?_
    have h := leafR h hk5
    obtain rfl := Option.some.inj h
    exact ret_ok1 (by conv => lhs; whnf) (by conv => lhs; whnf) (by exact rfl) (.inr rfl) rfl
   ·have h := ifF c10 h
    refine alP (some 23) rfl rfl (does_move (v := .sl 10 (List.map enc27 a0)) (by exact rfl)) (by decide) ?_
    obtain ⟨x12, hx12, h⟩ := bnd_some h
    refine alD (some 24) rfl rfl (do_call0 24 false (gleaningref1_RightSpans_ok a0 hx12) rfl ent15 rfl rfl) (by decide) ?_
    refine alP (some 25) rfl rfl (does_un (v := .bool (!x12)) (by conv => lhs; whnf) rfl) (by decide) ?_
    refine alP (some 26) rfl rfl (does_pick (v := .bool (!x12)) (by conv => lhs; whnf) (by exact rfl)) (by decide) ?_
    refine alP (some 27) rfl rfl (does_move (v := .bool (!x12)) (by exact rfl)) (by decide) ?_
    refine al_bool (c := (!x12)) 27 rfl (fun c13 => ?_) (fun c13 => ?_)
    ·have h := ifT c13 h
     refine alS (some 28) rfl rfl (by decide) ?_
     refine alS (some 29) rfl rfl (by decide) ?_
     refine alS (some 30) rfl rfl (by decide) ?_
     refine alP (some 31) rfl rfl (does_pick (v := .bool true) (by conv => lhs; whnf) (by exact rfl)) (by decide) ?_
     refine al_nil ?_
     refine hK6 _ ?_
     refine aw_cond_t (by decide) rfl ?_
     refine aw_seq_k (fun K14 hK14 => ?_)
     refine aw_regL ?_
     refine alP (some 32) rfl rfl (does_move (v := .bool x3) (by exact rfl)) (by decide) ?_
     refine alP (some 2) rfl rfl (does_assign (v := .bool x3) (by exact rfl)) (by decide) ?_
     refine al_nil ?_
     refine hK14 _ ?_
     refine aw_ret ?_
     have h := leafR h hk5
     obtain rfl := Option.some.inj h
     exact ret_ok1 (by conv => lhs; whnf) (by conv => lhs; whnf) (by exact rfl) (.inr rfl) rfl
    ·have h := ifF c13 h
     refine alP (some 28) rfl rfl (does_move (v := .sl 10 (List.map enc27 a0)) (by exact rfl)) (by decide) ?_
     refine alP (some 29) rfl rfl ((does_len_sl (by conv => lhs; whnf) ty22).castp (v' := .int .i64 (List.length a0 : Int)) (by exact len_map _)) (by decide) ?_
     refine alP (some 30) rfl rfl (does_bin (v := .bool ((List.length a0 : Int) == 0)) (by conv => lhs; whnf) (by conv => lhs; whnf) rfl) (by decide) ?_
     refine alP (some 31) rfl rfl (does_pick (v := .bool ((List.length a0 : Int) == 0)) (by conv => lhs; whnf) (by exact rfl)) (by decide) ?_
     refine al_nil ?_
     refine hK6 _ ?_
     refine aw_bool (b := ((List.length a0 : Int) == 0)) 31 rfl (fun c15 => ?_) (fun c15 => ?_)
     ·have h := ifT c15 h
      refine aw_cond_t (by decide) rfl ?_
      refine aw_seq_k (fun K16 hK16 => ?_)
      refine aw_regL ?_
      refine alP (some 32) rfl rfl (does_move (v := .bool x3) (by exact rfl)) (by decide) ?_
      refine alP (some 2) rfl rfl (does_assign (v := .bool x3) (by exact rfl)) (by decide) ?_
      refine al_nil ?_
      refine hK16 _ ?_
      refine aw_ret ?_
      have h := leafR h hk5
      obtain rfl := Option.some.inj h
      exact ret_ok1 (by conv => lhs; whnf) (by conv => lhs; whnf) (by exact rfl) (.inr rfl) rfl
     ·have h := ifF c15 h
      refine aw_cond_f (by decide) rfl ?_
      refine aw_skip ?_
      have h := leafL h hk5
      exact ⟨_, reb_lit [(0, .sl 10 (List.map enc27 a0))] [] [] [] (envOk_cons (by conv => lhs; whnf) (by exact rfl) envOk_nil) objOk_nil (nodup_b rfl) (nodup_b rfl) rfl rfl, h, rfl⟩
 ·rintro s ⟨h, rfl⟩
  unfold gleaninglaw30_PathLatest_k0 at h
  refine aw_seq_k (fun K17 hK17 => ?_)
  refine aw_regL ?_
  refine alP (some 33) rfl rfl (does_move (v := .sl 10 (List.map enc27 a0)) (by exact rfl)) (by decide) ?_
  obtain ⟨x18, hx18, h⟩ := bnd_some h
  refine alD (some 34) rfl rfl (do_call0 34 false (gleaningref28_Parents_ok a0 hx18) rfl ent16 rfl rfl) (by decide) ?_
  refine alP (some 4) rfl rfl (does_assign (v := .own 34 0) (by exact rfl)) (by decide) ?_
  refine al_nil ?_
  refine hK17 _ ?_
  refine aw_seq_k (fun K19 hK19 => ?_)
  refine aw_regL ?_
  refine alP (some 35) rfl rfl (does_move (v := .sl 10 (List.map enc27 a0)) (by exact rfl)) (by decide) ?_
  obtain ⟨x20, hx20, h⟩ := bnd_some h
  refine alD (some 36) rfl rfl (do_call0 36 false (path_Critical_ok a0 hx20) rfl ent11 rfl rfl) (by decide) ?_
  refine alP (some 5) rfl rfl (does_assign (v := .own 36 0) (by exact rfl)) (by decide) ?_
  refine al_nil ?_
  refine hK19 _ ?_
  refine aw_seq_k (fun K21 hK21 => ?_)
  refine aw_seq_k (fun K22 hK22 => ?_)
  refine aw_regL ?_
  refine alP (some 37) rfl rfl (does_move (v := .own 36 0) (by exact rfl)) (by decide) ?_
  refine alR (some 38) rfl rfl ((does_len_own (by conv => lhs; whnf) (by conv => lhs; whnf) ty34).cast (v' := .int .i64 (List.length x20 : Int)) (by exact len_map _)) (by decide) ?_
  refine alP (some 39) rfl rfl (does_bin (v := .bool ((List.length x20 : Int) == 0)) (by conv => lhs; whnf) (by conv => lhs; whnf) rfl) (by decide) ?_
  refine al_nil ?_
  refine hK22 _ ?_
  refine aw_bool (b := ((List.length x20 : Int) == 0)) 39 rfl (fun c23 => ?_) (fun c23 => ?_)
  ·have h := ifT c23 h
   refine aw_cond_t (by decide) rfl ?_
   refine aw_seq_k (fun K24 hK24 => ?_)
   refine aw_regL ?_
   refine alP (some 2) rfl rfl (does_assign (v := .bool false) (by exact rfl)) (by decide) ?_
   refine al_nil ?_
   refine hK24 _ ?_
   refine aw_ret ?_
   obtain rfl := Option.some.inj h
   exact ret_ok1 (by conv => lhs; whnf) (by conv => lhs; whnf) (by exact rfl) (.inr rfl) rfl
  ·have h := ifF c23 h
   refine aw_cond_f (by decide) rfl ?_
   refine aw_skip ?_
   refine hK21 _ ?_
   refine aw_seq_k (fun K25 hK25 => ?_)
   refine aw_regL ?_
   refine alP (some 6) rfl rfl (does_assign (v := .int .i64 (-1)) (by exact rfl)) (by decide) ?_
   refine al_nil ?_
   refine hK25 _ ?_
   refine aw_seq_k (fun K26 hK26 => ?_)
   refine aw_seq_k (fun K27 hK27 => ?_)
   refine aw_regL ?_
   refine alP (some 7) rfl rfl (does_assign (v := .int .i64 0) (by exact rfl)) (by decide) ?_
   refine al_nil ?_
   refine hK27 _ ?_
   refine aw_block ?_
   refine aw_loop' (fun m s => ∃ (v6_1 : Int), ∃ (v7_1 : Int), loopN (fun (s : Int × Int) => gleaninglaw30_PathLatest_l1 a0 x18 x20 s.1 s.2) m (v6_1, v7_1) = some r ∧ s = lit [(0, .sl 10 (List.map enc27 a0)), (4, .own 34 0), (5, .own 36 0), (6, .int .i64 v6_1), (7, .int .i64 v7_1)] [((34, 0), .arr 3 1 false (List.map enc2 x18)), ((36, 0), .arr 3 1 false (List.map enc2 x20))] [(34, 1), (36, 1)] X) Fu
    ⟨_, reb_lit [(0, .sl 10 (List.map enc27 a0)), (4, .own 34 0), (5, .own 36 0), (6, .int .i64 (-1)), (7, .int .i64 (0))] [(34, 0), (36, 0)] [((34, 0), .arr 3 1 false (List.map enc2 x18)), ((36, 0), .arr 3 1 false (List.map enc2 x20))] [(34, 1), (36, 1)] (envOk_cons (by conv => lhs; whnf) (by exact rfl) (envOk_cons (by conv => lhs; whnf) (by exact rfl) (envOk_cons (by conv => lhs; whnf) (by exact rfl) (envOk_cons (by conv => lhs; whnf) (by exact rfl) (envOk_cons (by conv => lhs; whnf) (by exact rfl) envOk_nil))))) (objOk_cons (by conv => lhs; whnf) (by conv => lhs; whnf) (by exact rfl) (by simp) (objOk_cons (by conv => lhs; whnf) (by conv => lhs; whnf) (by exact rfl) (by simp) objOk_nil)) (nodup_b rfl) (nodup_b rfl) rfl rfl, -1, 0, h, rfl⟩ ?_
   rintro m s ⟨v6_1, v7_1, h, rfl⟩
   obtain ⟨m1, q28, rfl, h, hq29⟩ := loop_some h
   replace h : gleaninglaw30_PathLatest_l1 a0 x18 x20 v6_1 v7_1 = some q28 := h
   unfold gleaninglaw30_PathLatest_l1 at h
   refine aw_seq_k (fun K30 hK30 => ?_)
   refine aw_seq_k (fun K31 hK31 => ?_)
   refine aw_regL ?_
   refine alP (some 40) rfl rfl (does_move (v := .int .i64 v7_1) (by exact rfl)) (by decide) ?_
   refine alP (some 41) rfl rfl (does_move (v := .own 36 0) (by exact rfl)) (by decide) ?_
   refine alR (some 42) rfl rfl ((does_len_own (by conv => lhs; whnf) (by conv => lhs; whnf) ty34).cast (v' := .int .i64 (List.length x20 : Int)) (by exact len_map _)) (by decide) ?_
   refine alP (some 43) rfl rfl (does_bin (v := .bool (decide (v7_1 ≤ (List.length x20 : Int)))) (by conv => lhs; whnf) (by conv => lhs; whnf) rfl) (by decide) ?_
   refine al_nil ?_
   refine hK31 _ ?_
   refine aw_bool (b := (decide (v7_1 ≤ (List.length x20 : Int)))) 43 rfl (fun c32 => ?_) (fun c32 => ?_)
   ·have h := ifT c32 h
    refine aw_cond_t (by decide) rfl ?_
    refine aw_skip ?_
    refine hK30 _ ?_
    refine aw_seq_k (fun K33 hK33 => ?_)
    refine aw_block ?_
    refine aw_seq_k (fun K34 hK34 => ?_)
    refine aw_regL ?_
    refine alP (some 8) rfl rfl (does_assign (v := .int .i64 (-1)) (by exact rfl)) (by decide) ?_
    refine al_nil ?_
    refine hK34 _ ?_
    obtain ⟨q35, h, hk36⟩ := bnd_some h
    refine aw_cut (fun s => ∃ (v8_2 : Int), gleaninglaw30_PathLatest_k2 a0 x18 x20 v6_1 v7_1 v8_2 = some q28 ∧ s = lit [(0, .sl 10 (List.map enc27 a0)), (4, .own 34 0), (5, .own 36 0), (6, .int .i64 v6_1), (7, .int .i64 v7_1), (8, .int .i64 v8_2)] [((34, 0), .arr 3 1 false (List.map enc2 x18)), ((36, 0), .arr 3 1 false (List.map enc2 x20))] [(34, 1), (36, 1)] X) ?_ ?_
    ·skip
     refine aw_seq_k (fun K37 hK37 => ?_)
     refine aw_regL ?_
     refine alP (some 9) rfl rfl (does_assign (v := .int .i64 0) (by exact rfl)) (by decide) ?_
     refine al_nil ?_
     refine hK37 _ ?_
     refine aw_block ?_
     refine aw_loop' (fun m s => ∃ (v8_3 : Int), ∃ (v9_3 : Int), loopN (fun (s : Int × Int) => gleaninglaw30_PathLatest_l3 a0 x18 v6_1 s.1 s.2) m (v8_3, v9_3) = some q35 ∧ s = lit [(0, .sl 10 (List.map enc27 a0)), (4, .own 34 0), (5, .own 36 0), (6, .int .i64 v6_1), (7, .int .i64 v7_1), (8, .int .i64 v8_3), (9, .int .i64 v9_3)] [((34, 0), .arr 3 1 false (List.map enc2 x18)), ((36, 0), .arr 3 1 false (List.map enc2 x20))] [(34, 1), (36, 1)] X) Fu
      ⟨_, reb_lit [(0, .sl 10 (List.map enc27 a0)), (4, .own 34 0), (5, .own 36 0), (6, .int .i64 v6_1), (7, .int .i64 v7_1), (8, .int .i64 (-1)), (9, .int .i64 (0))] [(34, 0), (36, 0)] [((34, 0), .arr 3 1 false (List.map enc2 x18)), ((36, 0), .arr 3 1 false (List.map enc2 x20))] [(34, 1), (36, 1)] (envOk_cons (by conv => lhs; whnf) (by exact rfl) (envOk_cons (by conv => lhs; whnf) (by exact rfl) (envOk_cons (by conv => lhs; whnf) (by exact rfl) (envOk_cons (by conv => lhs; whnf) (by exact rfl) (envOk_cons (by conv => lhs; whnf) (by exact rfl) (envOk_cons (by conv => lhs; whnf) (by exact rfl) (envOk_cons (by conv => lhs; whnf) (by exact rfl) envOk_nil))))))) (objOk_cons (by conv => lhs; whnf) (by conv => lhs; whnf) (by exact rfl) (by simp) (objOk_cons (by conv => lhs; whnf) (by conv => lhs; whnf) (by exact rfl) (by simp) objOk_nil)) (nodup_b rfl) (nodup_b rfl) rfl rfl, -1, 0, h, rfl⟩ ?_
     rintro m s ⟨v8_3, v9_3, h, rfl⟩
     obtain ⟨m3, q38, rfl, h, hq39⟩ := loop_some h
     replace h : gleaninglaw30_PathLatest_l3 a0 x18 v6_1 v8_3 v9_3 = some q38 := h
     unfold gleaninglaw30_PathLatest_l3 at h
     refine aw_seq_k (fun K40 hK40 => ?_)
     refine aw_seq_k (fun K41 hK41 => ?_)
     refine aw_regL ?_
     refine alP (some 46) rfl rfl (does_move (v := .int .i64 v9_3) (by exact rfl)) (by decide) ?_
     refine alP (some 47) rfl rfl (does_move (v := .sl 10 (List.map enc27 a0)) (by exact rfl)) (by decide) ?_
     refine alP (some 48) rfl rfl ((does_len_sl (by conv => lhs; whnf) ty22).castp (v' := .int .i64 (List.length a0 : Int)) (by exact len_map _)) (by decide) ?_
     refine alP (some 49) rfl rfl (does_bin (v := .bool (decide (v9_3 < (List.length a0 : Int)))) (by conv => lhs; whnf) (by conv => lhs; whnf) rfl) (by decide) ?_
     refine al_nil ?_
     refine hK41 _ ?_
     refine aw_bool (b := (decide (v9_3 < (List.length a0 : Int)))) 49 rfl (fun c42 => ?_) (fun c42 => ?_)
     ·have h := ifT c42 h
      refine aw_cond_t (by decide) rfl ?_
      refine aw_skip ?_
      refine hK40 _ ?_
      refine aw_seq_k (fun K43 hK43 => ?_)
      refine aw_block ?_
      refine aw_seq_k (fun K44 hK44 => ?_)
      refine aw_regL ?_
      refine alP (some 53) rfl rfl (does_move (v := .sl 10 (List.map enc27 a0)) (by exact rfl)) (by decide) ?_
      refine alP (some 54) rfl rfl (does_move (v := .int .i64 v9_3) (by exact rfl)) (by decide) ?_
      obtain ⟨g45, h⟩ := gd_some h
      obtain ⟨x46, hx46, h⟩ := bnd_some h
      refine alP (some 55) rfl rfl (does_indexAddr_sl (el := .agg [.int .u64 x46.Trace.Hi, .int .u64 x46.Trace.Lo, .int .u64 x46.Id, .int .u64 x46.Parent, .str x46.Service, .str x46.Op, .int .i64 x46.Start, .int .i64 x46.Dur, .bool x46.Err, .sl 2 (List.map enc39 x46.Attrs)]) (by conv => lhs; whnf) (by conv => lhs; whnf) ty22 ty28 g45 (by exact map_get hx46)) (by decide) ?_
      refine alR (some 56) rfl rfl (does_load (v := .agg [.int .u64 x46.Trace.Hi, .int .u64 x46.Trace.Lo, .int .u64 x46.Id, .int .u64 x46.Parent, .str x46.Service, .str x46.Op, .int .i64 x46.Start, .int .i64 x46.Dur, .bool x46.Err, .sl 2 (List.map enc39 x46.Attrs)]) (by conv => lhs; whnf) (by conv => lhs; whnf) ty28 (by exact rfl)) (by decide) ?_
      obtain ⟨x47, hx47, h⟩ := bnd_some h
      refine alD (some 57) rfl rfl (do_call0 57 false (gleaningref28_Ends_ok x46 hx47) rfl ent10 rfl rfl) (by decide) ?_
      refine alP (some 52) rfl rfl (does_move (v := .tup [.int .i64 x47.1, .int .i64 x47.2]) (by exact rfl)) (by decide) ?_
      refine alP (some 58) rfl rfl (does_extract (v := .int .i64 x47.1) (by conv => lhs; whnf) (by exact rfl)) (by decide) ?_
      refine alP (some 59) rfl rfl (does_extract (v := .int .i64 x47.2) (by conv => lhs; whnf) (by exact rfl)) (by decide) ?_
      refine alP (some 10) rfl rfl (does_assign (v := .int .i64 x47.1) (by exact rfl)) (by decide) ?_
      refine alP (some 11) rfl rfl (does_assign (v := .int .i64 x47.2) (by exact rfl)) (by decide) ?_
      refine al_nil ?_
      refine hK44 _ ?_
      refine aw_seq_k (fun K48 hK48 => ?_)
      refine aw_regL ?_
      refine alP (some 60) rfl rfl (does_move (v := .own 34 0) (by exact rfl)) (by decide) ?_
      refine alP (some 61) rfl rfl (does_move (v := .int .i64 v9_3) (by exact rfl)) (by decide) ?_
      obtain ⟨g49, h⟩ := gd_some h
      obtain ⟨x50, hx50, h⟩ := bnd_some h
      refine alR (some 62) rfl rfl (does_indexAddr_own (by conv => lhs; whnf) (by conv => lhs; whnf) (by conv => lhs; whnf) ty34 ty3 g49 (by exact own_lt hx50)) (by decide) ?_
      refine alR (some 63) rfl rfl (does_load (v := .int .i64 x50) (by conv => lhs; whnf) (cellsAt_eptr (by conv => lhs; whnf) (by exact map_get hx50)) ty3 (by exact rfl)) (by decide) ?_
      refine alP (some 64) rfl rfl (does_move (v := .int .i64 v6_1) (by exact rfl)) (by decide) ?_
      refine alP (some 65) rfl rfl (does_bin (v := .bool (x50 == v6_1)) (by conv => lhs; whnf) (by conv => lhs; whnf) rfl) (by decide) ?_
      refine alP (some 66) rfl rfl (does_move (v := .bool (x50 == v6_1)) (by exact rfl)) (by decide) ?_
      refine al_bool (c := (x50 == v6_1)) 66 rfl (fun c51 => ?_) (fun c51 => ?_)
      ·have h := ifT c51 h
       refine alP (some 67) rfl rfl (does_move (v := .int .i64 x47.2) (by exact rfl)) (by decide) ?_
       refine alP (some 68) rfl rfl (does_move (v := .int .i64 v8_3) (by exact rfl)) (by decide) ?_
       refine alP (some 69) rfl rfl (does_bin (v := .bool (decide (v8_3 < x47.2))) (by conv => lhs; whnf) (by conv => lhs; whnf) rfl) (by decide) ?_
       refine alP (some 70) rfl rfl (does_pick (v := .bool (decide (v8_3 < x47.2))) (by conv => lhs; whnf) (by exact rfl)) (by decide) ?_
       refine al_nil ?_
       refine hK48 _ ?_
       refine aw_bool (b := (decide (v8_3 < x47.2))) 70 rfl (fun c52 => ?_) (fun c52 => ?_)
       ·have h := ifT c52 h
        refine aw_cond_t (by decide) rfl ?_
        refine aw_regL ?_
        refine alP (some 71) rfl rfl (does_move (v := .int .i64 x47.2) (by exact rfl)) (by decide) ?_
        refine alP (some 8) rfl rfl (does_assign (v := .int .i64 x47.2) (by exact rfl)) (by decide) ?_
        refine al_nil ?_
        refine hK43 _ ?_
        refine aw_regL ?_
        refine alP (some 50) rfl rfl (does_move (v := .int .i64 v9_3) (by exact rfl)) (by decide) ?_
        refine alP (some 51) rfl rfl (does_bin (v := .int .i64 (IntKind.i64.wrap (v9_3 + 1))) (by conv => lhs; whnf) (by conv => lhs; whnf) rfl) (by decide) ?_
        refine alP (some 9) rfl rfl (does_assign (v := .int .i64 (IntKind.i64.wrap (v9_3 + 1))) (by exact rfl)) (by decide) ?_
        refine al_nil ?_
        have h := leafL h hq39
        exact ⟨m3, Nat.lt_succ_self _, _, reb_lit [(0, .sl 10 (List.map enc27 a0)), (4, .own 34 0), (5, .own 36 0), (6, .int .i64 v6_1), (7, .int .i64 v7_1), (8, .int .i64 x47.2), (9, .int .i64 (IntKind.i64.wrap (v9_3 + 1)))] [(34, 0), (36, 0)] [((34, 0), .arr 3 1 false (List.map enc2 x18)), ((36, 0), .arr 3 1 false (List.map enc2 x20))] [(34, 1), (36, 1)] (envOk_cons (by conv => lhs; whnf) (by exact rfl) (envOk_cons (by conv => lhs; whnf) (by exact rfl) (envOk_cons (by conv => lhs; whnf) (by exact rfl) (envOk_cons (by conv => lhs; whnf) (by exact rfl) (envOk_cons (by conv => lhs; whnf) (by exact rfl) (envOk_cons (by conv => lhs; whnf) (by exact rfl) (envOk_cons (by conv => lhs; whnf) (by exact rfl) envOk_nil))))))) (objOk_cons (by conv => lhs; whnf) (by conv => lhs; whnf) (by exact rfl) (by simp) (objOk_cons (by conv => lhs; whnf) (by conv => lhs; whnf) (by exact rfl) (by simp) objOk_nil)) (nodup_b rfl) (nodup_b rfl) rfl rfl, x47.2, (IntKind.i64.wrap (v9_3 + 1)), h, rfl⟩
       ·have h := ifF c52 h
        refine aw_cond_f (by decide) rfl ?_
        refine aw_skip ?_
        refine hK43 _ ?_
        refine aw_regL ?_
        refine alP (some 50) rfl rfl (does_move (v := .int .i64 v9_3) (by exact rfl)) (by decide) ?_
        refine alP (some 51) rfl rfl (does_bin (v := .int .i64 (IntKind.i64.wrap (v9_3 + 1))) (by conv => lhs; whnf) (by conv => lhs; whnf) rfl) (by decide) ?_
        refine alP (some 9) rfl rfl (does_assign (v := .int .i64 (IntKind.i64.wrap (v9_3 + 1))) (by exact rfl)) (by decide) ?_
        refine al_nil ?_
        have h := leafL h hq39
        exact ⟨m3, Nat.lt_succ_self _, _, reb_lit [(0, .sl 10 (List.map enc27 a0)), (4, .own 34 0), (5, .own 36 0), (6, .int .i64 v6_1), (7, .int .i64 v7_1), (8, .int .i64 v8_3), (9, .int .i64 (IntKind.i64.wrap (v9_3 + 1)))] [(34, 0), (36, 0)] [((34, 0), .arr 3 1 false (List.map enc2 x18)), ((36, 0), .arr 3 1 false (List.map enc2 x20))] [(34, 1), (36, 1)] (envOk_cons (by conv => lhs; whnf) (by exact rfl) (envOk_cons (by conv => lhs; whnf) (by exact rfl) (envOk_cons (by conv => lhs; whnf) (by exact rfl) (envOk_cons (by conv => lhs; whnf) (by exact rfl) (envOk_cons (by conv => lhs; whnf) (by exact rfl) (envOk_cons (by conv => lhs; whnf) (by exact rfl) (envOk_cons (by conv => lhs; whnf) (by exact rfl) envOk_nil))))))) (objOk_cons (by conv => lhs; whnf) (by conv => lhs; whnf) (by exact rfl) (by simp) (objOk_cons (by conv => lhs; whnf) (by conv => lhs; whnf) (by exact rfl) (by simp) objOk_nil)) (nodup_b rfl) (nodup_b rfl) rfl rfl, v8_3, (IntKind.i64.wrap (v9_3 + 1)), h, rfl⟩
      ·have h := ifF c51 h
       refine alS (some 67) rfl rfl (by decide) ?_
       refine alS (some 68) rfl rfl (by decide) ?_
       refine alS (some 69) rfl rfl (by decide) ?_
       refine alP (some 70) rfl rfl (does_pick (v := .bool false) (by conv => lhs; whnf) (by exact rfl)) (by decide) ?_
       refine al_nil ?_
       refine hK48 _ ?_
       refine aw_cond_f (by decide) rfl ?_
       refine aw_skip ?_
       refine hK43 _ ?_
       refine aw_regL ?_
       refine alP (some 50) rfl rfl (does_move (v := .int .i64 v9_3) (by exact rfl)) (by decide) ?_
       refine alP (some 51) rfl rfl (does_bin (v := .int .i64 (IntKind.i64.wrap (v9_3 + 1))) (by conv => lhs; whnf) (by conv => lhs; whnf) rfl) (by decide) ?_
       refine alP (some 9) rfl rfl (does_assign (v := .int .i64 (IntKind.i64.wrap (v9_3 + 1))) (by exact rfl)) (by decide) ?_
       refine al_nil ?_
       have h := leafL h hq39
       exact ⟨m3, Nat.lt_succ_self _, _, reb_lit [(0, .sl 10 (List.map enc27 a0)), (4, .own 34 0), (5, .own 36 0), (6, .int .i64 v6_1), (7, .int .i64 v7_1), (8, .int .i64 v8_3), (9, .int .i64 (IntKind.i64.wrap (v9_3 + 1)))] [(34, 0), (36, 0)] [((34, 0), .arr 3 1 false (List.map enc2 x18)), ((36, 0), .arr 3 1 false (List.map enc2 x20))] [(34, 1), (36, 1)] (envOk_cons (by conv => lhs; whnf) (by exact rfl) (envOk_cons (by conv => lhs; whnf) (by exact rfl) (envOk_cons (by conv => lhs; whnf) (by exact rfl) (envOk_cons (by conv => lhs; whnf) (by exact rfl) (envOk_cons (by conv => lhs; whnf) (by exact rfl) (envOk_cons (by conv => lhs; whnf) (by exact rfl) (envOk_cons (by conv => lhs; whnf) (by exact rfl) envOk_nil))))))) (objOk_cons (by conv => lhs; whnf) (by conv => lhs; whnf) (by exact rfl) (by simp) (objOk_cons (by conv => lhs; whnf) (by conv => lhs; whnf) (by exact rfl) (by simp) objOk_nil)) (nodup_b rfl) (nodup_b rfl) rfl rfl, v8_3, (IntKind.i64.wrap (v9_3 + 1)), h, rfl⟩
     ·have h := ifF c42 h
      refine aw_cond_f (by decide) rfl ?_
      refine aw_exit ?_
      have h := leafR h hq39
      obtain rfl := Option.some.inj h
      have h := hk36
      exact ⟨_, reb_lit [(0, .sl 10 (List.map enc27 a0)), (4, .own 34 0), (5, .own 36 0), (6, .int .i64 v6_1), (7, .int .i64 v7_1), (8, .int .i64 v8_3)] [(34, 0), (36, 0)] [((34, 0), .arr 3 1 false (List.map enc2 x18)), ((36, 0), .arr 3 1 false (List.map enc2 x20))] [(34, 1), (36, 1)] (envOk_cons (by conv => lhs; whnf) (by exact rfl) (envOk_cons (by conv => lhs; whnf) (by exact rfl) (envOk_cons (by conv => lhs; whnf) (by exact rfl) (envOk_cons (by conv => lhs; whnf) (by exact rfl) (envOk_cons (by conv => lhs; whnf) (by exact rfl) (envOk_cons (by conv => lhs; whnf) (by exact rfl) envOk_nil)))))) (objOk_cons (by conv => lhs; whnf) (by conv => lhs; whnf) (by exact rfl) (by simp) (objOk_cons (by conv => lhs; whnf) (by conv => lhs; whnf) (by exact rfl) (by simp) objOk_nil)) (nodup_b rfl) (nodup_b rfl) rfl rfl, v8_3, h, rfl⟩
    ·rintro s ⟨v8_2, h, rfl⟩
     unfold gleaninglaw30_PathLatest_k2 at h
     refine aw_seq_k (fun K53 hK53 => ?_)
     refine aw_seq_k (fun K54 hK54 => ?_)
     refine aw_regL ?_
     refine alP (some 72) rfl rfl (does_move (v := .int .i64 v7_1) (by exact rfl)) (by decide) ?_
     refine alP (some 73) rfl rfl (does_move (v := .own 36 0) (by exact rfl)) (by decide) ?_
     refine alR (some 74) rfl rfl ((does_len_own (by conv => lhs; whnf) (by conv => lhs; whnf) ty34).cast (v' := .int .i64 (List.length x20 : Int)) (by exact len_map _)) (by decide) ?_
     refine alP (some 75) rfl rfl (does_bin (v := .bool (v7_1 == (List.length x20 : Int))) (by conv => lhs; whnf) (by conv => lhs; whnf) rfl) (by decide) ?_
     refine al_nil ?_
     refine hK54 _ ?_
     refine aw_bool (b := (v7_1 == (List.length x20 : Int))) 75 rfl (fun c55 => ?_) (fun c55 => ?_)
     ·have h := ifT c55 h
      refine aw_cond_t (by decide) rfl ?_
      refine aw_seq_k (fun K56 hK56 => ?_)
      refine aw_regL ?_
      refine alP (some 76) rfl rfl (does_move (v := .int .i64 v8_2) (by exact rfl)) (by decide) ?_
      refine alP (some 77) rfl rfl (does_bin (v := .bool (v8_2 == (-1))) (by conv => lhs; whnf) (by conv => lhs; whnf) rfl) (by decide) ?_
      refine alP (some 2) rfl rfl (does_assign (v := .bool (v8_2 == (-1))) (by exact rfl)) (by decide) ?_
      refine al_nil ?_
      refine hK56 _ ?_
      refine aw_ret ?_
      have h := leafR h hq29
      obtain rfl := Option.some.inj h
      exact ret_ok1 (by conv => lhs; whnf) (by conv => lhs; whnf) (by exact rfl) (.inr rfl) rfl
     ·have h := ifF c55 h
      refine aw_cond_f (by decide) rfl ?_
      refine aw_skip ?_
      refine hK53 _ ?_
      obtain ⟨q57, h, hk58⟩ := bnd_some h
      refine aw_cut (fun s => gleaninglaw30_PathLatest_k4 a0 x20 v7_1 v8_2 = some q28 ∧ s = lit [(0, .sl 10 (List.map enc27 a0)), (4, .own 34 0), (5, .own 36 0), (7, .int .i64 v7_1), (8, .int .i64 v8_2)] [((34, 0), .arr 3 1 false (List.map enc2 x18)), ((36, 0), .arr 3 1 false (List.map enc2 x20))] [(34, 1), (36, 1)] X) ?_ ?_
      ·skip
       refine aw_seq_k (fun K59 hK59 => ?_)
       refine aw_regL ?_
       refine alP (some 78) rfl rfl (does_move (v := .own 36 0) (by exact rfl)) (by decide) ?_
       refine alP (some 79) rfl rfl (does_move (v := .int .i64 v7_1) (by exact rfl)) (by decide) ?_
       obtain ⟨g60, h⟩ := gd_some h
       obtain ⟨x61, hx61, h⟩ := bnd_some h
       refine alR (some 80) rfl rfl (does_indexAddr_own (by conv => lhs; whnf) (by conv => lhs; whnf) (by conv => lhs; whnf) ty34 ty3 g60 (by exact own_lt hx61)) (by decide) ?_
       refine alR (some 81) rfl rfl (does_load (v := .int .i64 x61) (by conv => lhs; whnf) (cellsAt_eptr (by conv => lhs; whnf) (by exact map_get hx61)) ty3 (by exact rfl)) (by decide) ?_
       refine alP (some 82) rfl rfl (does_bin (v := .bool (decide (x61 < 0))) (by conv => lhs; whnf) (by conv => lhs; whnf) rfl) (by decide) ?_
       refine alP (some 83) rfl rfl (does_move (v := .bool (decide (x61 < 0))) (by exact rfl)) (by decide) ?_
       refine al_bool (c := (decide (x61 < 0))) 83 rfl (fun c62 => ?_) (fun c62 => ?_)
       ·have h := ifT c62 h
        refine alS (some 84) rfl rfl (by decide) ?_
        refine alS (some 85) rfl rfl (by decide) ?_
        refine alS (some 86) rfl rfl (by decide) ?_
        refine alS (some 87) rfl rfl (by decide) ?_
        refine alS (some 88) rfl rfl (by decide) ?_
        refine alS (some 89) rfl rfl (by decide) ?_
        refine alS (some 90) rfl rfl (by decide) ?_
        refine alP (some 91) rfl rfl (does_pick (v := .bool true) (by conv => lhs; whnf) (by exact rfl)) (by decide) ?_
        refine alP (some 92) rfl rfl (does_move (v := .bool true) (by exact rfl)) (by decide) ?_
        refine alS (some 93) rfl rfl (by decide) ?_
        refine alS (some 94) rfl rfl (by decide) ?_
        refine alS (some 95) rfl rfl (by decide) ?_
        refine alS (some 96) rfl rfl (by decide) ?_
        refine alS (some 97) rfl rfl (by decide) ?_
        refine alS (some 98) rfl rfl (by decide) ?_
        refine alS (some 99) rfl rfl (by decide) ?_
        refine alS (some 100) rfl rfl (by decide) ?_
        refine alS (some 101) rfl rfl (by decide) ?_
        refine alP (some 102) rfl rfl (does_pick (v := .bool true) (by conv => lhs; whnf) (by exact rfl)) (by decide) ?_
        refine al_nil ?_
        refine hK59 _ ?_
        refine aw_cond_t (by decide) rfl ?_
        refine aw_seq_k (fun K63 hK63 => ?_)
        refine aw_regL ?_
        refine alP (some 2) rfl rfl (does_assign (v := .bool false) (by exact rfl)) (by decide) ?_
        refine al_nil ?_
        refine hK63 _ ?_
        refine aw_ret ?_
        have h := leafR h hk58
        have h := leafR h hq29
        obtain rfl := Option.some.inj h
        exact ret_ok1 (by conv => lhs; whnf) (by conv => lhs; whnf) (by exact rfl) (.inr rfl) rfl
       ·have h := ifF c62 h
        refine alP (some 84) rfl rfl (does_move (v := .own 36 0) (by exact rfl)) (by decide) ?_
        refine alP (some 85) rfl rfl (does_move (v := .int .i64 v7_1) (by exact rfl)) (by decide) ?_
        obtain ⟨g64, h⟩ := gd_some h
        obtain ⟨x65, hx65, h⟩ := bnd_some h
        refine alR (some 86) rfl rfl (does_indexAddr_own (by conv => lhs; whnf) (by conv => lhs; whnf) (by conv => lhs; whnf) ty34 ty3 g64 (by exact own_lt hx65)) (by decide) ?_
        refine alR (some 87) rfl rfl (does_load (v := .int .i64 x65) (by conv => lhs; whnf) (cellsAt_eptr (by conv => lhs; whnf) (by exact map_get hx65)) ty3 (by exact rfl)) (by decide) ?_
        refine alP (some 88) rfl rfl (does_move (v := .sl 10 (List.map enc27 a0)) (by exact rfl)) (by decide) ?_
        refine alP (some 89) rfl rfl ((does_len_sl (by conv => lhs; whnf) ty22).castp (v' := .int .i64 (List.length a0 : Int)) (by exact len_map _)) (by decide) ?_
        refine alP (some 90) rfl rfl (does_bin (v := .bool (decide ((List.length a0 : Int) ≤ x65))) (by conv => lhs; whnf) (by conv => lhs; whnf) rfl) (by decide) ?_
        refine alP (some 91) rfl rfl (does_pick (v := .bool (decide ((List.length a0 : Int) ≤ x65))) (by conv => lhs; whnf) (by exact rfl)) (by decide) ?_
        refine alP (some 92) rfl rfl (does_move (v := .bool (decide ((List.length a0 : Int) ≤ x65))) (by exact rfl)) (by decide) ?_
        refine al_bool (c := (decide ((List.length a0 : Int) ≤ x65))) 92 rfl (fun c66 => ?_) (fun c66 => ?_)
        ·have h := ifT c66 h
         refine alS (some 93) rfl rfl (by decide) ?_
         refine alS (some 94) rfl rfl (by decide) ?_
         refine alS (some 95) rfl rfl (by decide) ?_
         refine alS (some 96) rfl rfl (by decide) ?_
         refine alS (some 97) rfl rfl (by decide) ?_
         refine alS (some 98) rfl rfl (by decide) ?_
         refine alS (some 99) rfl rfl (by decide) ?_
         refine alS (some 100) rfl rfl (by decide) ?_
         refine alS (some 101) rfl rfl (by decide) ?_
         refine alP (some 102) rfl rfl (does_pick (v := .bool true) (by conv => lhs; whnf) (by exact rfl)) (by decide) ?_
         refine al_nil ?_
         refine hK59 _ ?_
         refine aw_cond_t (by decide) rfl ?_
         refine aw_seq_k (fun K67 hK67 => ?_)
         refine aw_regL ?_
         refine alP (some 2) rfl rfl (does_assign (v := .bool false) (by exact rfl)) (by decide) ?_
         refine al_nil ?_
         refine hK67 _ ?_
         refine aw_ret ?_
         have h := leafR h hk58
         have h := leafR h hq29
         obtain rfl := Option.some.inj h
         exact ret_ok1 (by conv => lhs; whnf) (by conv => lhs; whnf) (by exact rfl) (.inr rfl) rfl
        ·have h := ifF c66 h
         refine alP (some 93) rfl rfl (does_move (v := .own 34 0) (by exact rfl)) (by decide) ?_
         refine alP (some 94) rfl rfl (does_move (v := .own 36 0) (by exact rfl)) (by decide) ?_
         refine alP (some 95) rfl rfl (does_move (v := .int .i64 v7_1) (by exact rfl)) (by decide) ?_
         obtain ⟨g68, h⟩ := gd_some h
         obtain ⟨x69, hx69, h⟩ := bnd_some h
         refine alR (some 96) rfl rfl (does_indexAddr_own (by conv => lhs; whnf) (by conv => lhs; whnf) (by conv => lhs; whnf) ty34 ty3 g68 (by exact own_lt hx69)) (by decide) ?_
         refine alR (some 97) rfl rfl (does_load (v := .int .i64 x69) (by conv => lhs; whnf) (cellsAt_eptr (by conv => lhs; whnf) (by exact map_get hx69)) ty3 (by exact rfl)) (by decide) ?_
         obtain ⟨g70, h⟩ := gd_some h
         obtain ⟨x71, hx71, h⟩ := bnd_some h
         refine alR (some 98) rfl rfl (does_indexAddr_own (by conv => lhs; whnf) (by conv => lhs; whnf) (by conv => lhs; whnf) ty34 ty3 g70 (by exact own_lt hx71)) (by decide) ?_
         refine alR (some 99) rfl rfl (does_load (v := .int .i64 x71) (by conv => lhs; whnf) (cellsAt_eptr (by conv => lhs; whnf) (by exact map_get hx71)) ty3 (by exact rfl)) (by decide) ?_
         refine alP (some 100) rfl rfl (does_move (v := .int .i64 v6_1) (by exact rfl)) (by decide) ?_
         refine alP (some 101) rfl rfl (does_bin (v := .bool (x71 != v6_1)) (by conv => lhs; whnf) (by conv => lhs; whnf) rfl) (by decide) ?_
         refine alP (some 102) rfl rfl (does_pick (v := .bool (x71 != v6_1)) (by conv => lhs; whnf) (by exact rfl)) (by decide) ?_
         refine al_nil ?_
         refine hK59 _ ?_
         refine aw_bool (b := (x71 != v6_1)) 102 rfl (fun c72 => ?_) (fun c72 => ?_)
         ·have h := ifT c72 h
          refine aw_cond_t (by decide) rfl ?_
          refine aw_seq_k (fun K73 hK73 => ?_)
          refine aw_regL ?_
          refine alP (some 2) rfl rfl (does_assign (v := .bool false) (by exact rfl)) (by decide) ?_
          refine al_nil ?_
          refine hK73 _ ?_
          refine aw_ret ?_
          have h := leafR h hk58
          have h := leafR h hq29
          obtain rfl := Option.some.inj h
          exact ret_ok1 (by conv => lhs; whnf) (by conv => lhs; whnf) (by exact rfl) (.inr rfl) rfl
         ·have h := ifF c72 h
          refine aw_cond_f (by decide) rfl ?_
          refine aw_skip ?_
          have h := leafL h hk58
          exact ⟨_, reb_lit [(0, .sl 10 (List.map enc27 a0)), (4, .own 34 0), (5, .own 36 0), (7, .int .i64 v7_1), (8, .int .i64 v8_2)] [(34, 0), (36, 0)] [((34, 0), .arr 3 1 false (List.map enc2 x18)), ((36, 0), .arr 3 1 false (List.map enc2 x20))] [(34, 1), (36, 1)] (envOk_cons (by conv => lhs; whnf) (by exact rfl) (envOk_cons (by conv => lhs; whnf) (by exact rfl) (envOk_cons (by conv => lhs; whnf) (by exact rfl) (envOk_cons (by conv => lhs; whnf) (by exact rfl) (envOk_cons (by conv => lhs; whnf) (by exact rfl) envOk_nil))))) (objOk_cons (by conv => lhs; whnf) (by conv => lhs; whnf) (by exact rfl) (by simp) (objOk_cons (by conv => lhs; whnf) (by conv => lhs; whnf) (by exact rfl) (by simp) objOk_nil)) (nodup_b rfl) (nodup_b rfl) rfl rfl, h, rfl⟩
      ·rintro s ⟨h, rfl⟩
       unfold gleaninglaw30_PathLatest_k4 at h
       refine aw_seq_k (fun K74 hK74 => ?_)
       refine aw_regL ?_
       refine alP (some 104) rfl rfl (does_move (v := .sl 10 (List.map enc27 a0)) (by exact rfl)) (by decide) ?_
       refine alP (some 105) rfl rfl (does_move (v := .own 36 0) (by exact rfl)) (by decide) ?_
       refine alP (some 106) rfl rfl (does_move (v := .int .i64 v7_1) (by exact rfl)) (by decide) ?_
       obtain ⟨g75, h⟩ := gd_some h
       obtain ⟨x76, hx76, h⟩ := bnd_some h
       refine alR (some 107) rfl rfl (does_indexAddr_own (by conv => lhs; whnf) (by conv => lhs; whnf) (by conv => lhs; whnf) ty34 ty3 g75 (by exact own_lt hx76)) (by decide) ?_
       refine alR (some 108) rfl rfl (does_load (v := .int .i64 x76) (by conv => lhs; whnf) (cellsAt_eptr (by conv => lhs; whnf) (by exact map_get hx76)) ty3 (by exact rfl)) (by decide) ?_
       obtain ⟨g77, h⟩ := gd_some h
       obtain ⟨x78, hx78, h⟩ := bnd_some h
       refine alP (some 109) rfl rfl (does_indexAddr_sl (el := .agg [.int .u64 x78.Trace.Hi, .int .u64 x78.Trace.Lo, .int .u64 x78.Id, .int .u64 x78.Parent, .str x78.Service, .str x78.Op, .int .i64 x78.Start, .int .i64 x78.Dur, .bool x78.Err, .sl 2 (List.map enc39 x78.Attrs)]) (by conv => lhs; whnf) (by conv => lhs; whnf) ty22 ty28 g77 (by exact map_get hx78)) (by decide) ?_
       refine alR (some 110) rfl rfl (does_load (v := .agg [.int .u64 x78.Trace.Hi, .int .u64 x78.Trace.Lo, .int .u64 x78.Id, .int .u64 x78.Parent, .str x78.Service, .str x78.Op, .int .i64 x78.Start, .int .i64 x78.Dur, .bool x78.Err, .sl 2 (List.map enc39 x78.Attrs)]) (by conv => lhs; whnf) (by conv => lhs; whnf) ty28 (by exact rfl)) (by decide) ?_
       obtain ⟨x79, hx79, h⟩ := bnd_some h
       refine alD (some 111) rfl rfl (do_call0 111 false (path_Ends_ok x78 hx79) rfl ent9 rfl rfl) (by decide) ?_
       refine alP (some 103) rfl rfl (does_move (v := .tup [.int .i64 x79.1, .int .i64 x79.2]) (by exact rfl)) (by decide) ?_
       refine alP (some 112) rfl rfl (does_extract (v := .int .i64 x79.1) (by conv => lhs; whnf) (by exact rfl)) (by decide) ?_
       refine alP (some 113) rfl rfl (does_extract (v := .int .i64 x79.2) (by conv => lhs; whnf) (by exact rfl)) (by decide) ?_
       refine alP (some 12) rfl rfl (does_assign (v := .int .i64 x79.1) (by exact rfl)) (by decide) ?_
       refine alP (some 13) rfl rfl (does_assign (v := .int .i64 x79.2) (by exact rfl)) (by decide) ?_
       refine al_nil ?_
       refine hK74 _ ?_
       refine aw_seq_k (fun K80 hK80 => ?_)
       refine aw_seq_k (fun K81 hK81 => ?_)
       refine aw_regL ?_
       refine alP (some 114) rfl rfl (does_move (v := .int .i64 x79.2) (by exact rfl)) (by decide) ?_
       refine alP (some 115) rfl rfl (does_move (v := .int .i64 v8_2) (by exact rfl)) (by decide) ?_
       refine alP (some 116) rfl rfl (does_bin (v := .bool (x79.2 != v8_2)) (by conv => lhs; whnf) (by conv => lhs; whnf) rfl) (by decide) ?_
       refine al_nil ?_
       refine hK81 _ ?_
       refine aw_bool (b := (x79.2 != v8_2)) 116 rfl (fun c82 => ?_) (fun c82 => ?_)
       ·have h := ifT c82 h
        refine aw_cond_t (by decide) rfl ?_
        refine aw_seq_k (fun K83 hK83 => ?_)
        refine aw_regL ?_
        refine alP (some 2) rfl rfl (does_assign (v := .bool false) (by exact rfl)) (by decide) ?_
        refine al_nil ?_
        refine hK83 _ ?_
        refine aw_ret ?_
        have h := leafR h hq29
        obtain rfl := Option.some.inj h
        exact ret_ok1 (by conv => lhs; whnf) (by conv => lhs; whnf) (by exact rfl) (.inr rfl) rfl
       ·have h := ifF c82 h
        refine aw_cond_f (by decide) rfl ?_
        refine aw_skip ?_
        refine hK80 _ ?_
        refine aw_regL ?_
        refine alP (some 117) rfl rfl (does_move (v := .own 36 0) (by exact rfl)) (by decide) ?_
        refine alP (some 118) rfl rfl (does_move (v := .int .i64 v7_1) (by exact rfl)) (by decide) ?_
        obtain ⟨g84, h⟩ := gd_some h
        obtain ⟨x85, hx85, h⟩ := bnd_some h
        refine alR (some 119) rfl rfl (does_indexAddr_own (by conv => lhs; whnf) (by conv => lhs; whnf) (by conv => lhs; whnf) ty34 ty3 g84 (by exact own_lt hx85)) (by decide) ?_
        refine alR (some 120) rfl rfl (does_load (v := .int .i64 x85) (by conv => lhs; whnf) (cellsAt_eptr (by conv => lhs; whnf) (by exact map_get hx85)) ty3 (by exact rfl)) (by decide) ?_
        refine alP (some 6) rfl rfl (does_assign (v := .int .i64 x85) (by exact rfl)) (by decide) ?_
        refine al_nil ?_
        refine hK33 _ ?_
        refine aw_regL ?_
        refine alP (some 44) rfl rfl (does_move (v := .int .i64 v7_1) (by exact rfl)) (by decide) ?_
        refine alP (some 45) rfl rfl (does_bin (v := .int .i64 (IntKind.i64.wrap (v7_1 + 1))) (by conv => lhs; whnf) (by conv => lhs; whnf) rfl) (by decide) ?_
        refine alP (some 7) rfl rfl (does_assign (v := .int .i64 (IntKind.i64.wrap (v7_1 + 1))) (by exact rfl)) (by decide) ?_
        refine al_nil ?_
        have h := leafL h hq29
        exact ⟨m1, Nat.lt_succ_self _, _, reb_lit [(0, .sl 10 (List.map enc27 a0)), (4, .own 34 0), (5, .own 36 0), (6, .int .i64 x85), (7, .int .i64 (IntKind.i64.wrap (v7_1 + 1)))] [(34, 0), (36, 0)] [((34, 0), .arr 3 1 false (List.map enc2 x18)), ((36, 0), .arr 3 1 false (List.map enc2 x20))] [(34, 1), (36, 1)] (envOk_cons (by conv => lhs; whnf) (by exact rfl) (envOk_cons (by conv => lhs; whnf) (by exact rfl) (envOk_cons (by conv => lhs; whnf) (by exact rfl) (envOk_cons (by conv => lhs; whnf) (by exact rfl) (envOk_cons (by conv => lhs; whnf) (by exact rfl) envOk_nil))))) (objOk_cons (by conv => lhs; whnf) (by conv => lhs; whnf) (by exact rfl) (by simp) (objOk_cons (by conv => lhs; whnf) (by conv => lhs; whnf) (by exact rfl) (by simp) objOk_nil)) (nodup_b rfl) (nodup_b rfl) rfl rfl, x85, (IntKind.i64.wrap (v7_1 + 1)), h, rfl⟩
   ·have h := ifF c32 h
    refine aw_cond_f (by decide) rfl ?_
    refine aw_exit ?_
    have h := leafR h hq29
    refine hK26 _ ?_
    refine aw_seq_k (fun K86 hK86 => ?_)
    refine aw_regL ?_
    refine alP (some 2) rfl rfl (does_assign (v := .bool false) (by exact rfl)) (by decide) ?_
    refine al_nil ?_
    refine hK86 _ ?_
    refine aw_ret ?_
    obtain rfl := Option.some.inj h
    exact ret_ok1 (by conv => lhs; whnf) (by conv => lhs; whnf) (by exact rfl) (.inr rfl) rfl
end Go.Proofs.Ytmompdklolomfaa.Ab
