/- Chapter 30: what took time. -/
import Derived.Test.YtmompdklolomfaaXPal
import Derived.Test.YtmompdklolomfaaProg
namespace Go.Proofs.Ytmompdklolomfaa.Ab
open Go Go.RowKit
set_option linter.unusedVariables false
set_option linter.unusedSimpArgs false
theorem ent6 : Ent Try.prog 6 := ⟨_, Try.func6, by kernel_rfl, rfl⟩
theorem ent7 : Ent Try.prog 7 := ⟨_, Try.func7, by kernel_rfl, rfl⟩
theorem ent12 : Ent Try.prog 12 := ⟨_, Try.func12, by kernel_rfl, rfl⟩
theorem ent14 : Ent Try.prog 14 := ⟨_, Try.func14, by kernel_rfl, rfl⟩
def gleaninglaw30_PathTells_l2 (x21 : List Int) (x23 : List Int) (v14_2 : Int) : Option (Int ⊕ Bool) :=
 if (decide (v14_2 < (List.length x21 : Int))) = true then (gd (0 ≤ v14_2) (Option.bind (x21[(Int.toNat v14_2)]?) (fun (x47 : Int) => gd (0 ≤ v14_2) (Option.bind (x23[(Int.toNat v14_2)]?) (fun (x49 : Int) => if (x47 != x49) = true then (some (Sum.inr false)) else (some (Sum.inl (IntKind.i64.wrap (v14_2 + 1))))))))) else (some (Sum.inr true))
def gleaninglaw30_PathTells_k1 (x21 : List Int) (x23 : List Int) : Option Bool :=
 loopN (fun (s : Int) => gleaninglaw30_PathTells_l2 x21 x23 s) Fu 0
def gleaninglaw30_PathTells_k0 (a0 : List Span) (a1 : Span) (a2 : Int) : Option Bool :=
 Option.bind (path_Ends a1) (fun (x16 : Int × Int) => Option.bind (gleaningref28_Ends a1) (fun (x18 : Int × Int) => gd ((List.length a0) * 112 ≤ 140737488355328 ∧ (List.length a0) ≤ 140737488355328) (Option.bind (path_Critical a0) (fun (x21 : List Int) => Option.bind (gleaningref28_Critical a0) (fun (x23 : List Int) => Option.bind (if (x16.1 != x18.1) = true then (some (Sum.inr false)) else (if (x16.2 != x18.2) = true then (some (Sum.inr false)) else (if ((List.length x21 : Int) != (List.length x23 : Int)) = true then (some (Sum.inr false)) else (Option.bind (path_Self a0 a2) (fun (x33 : Int) => Option.bind (gleaningref28_Self a0 a2) (fun (x34 : Int) => if (x33 != x34) = true then (some (Sum.inr false)) else (some (Sum.inl ())))))))) (Sum.elim (fun (s : Unit) => gleaninglaw30_PathTells_k1 x21 x23) some))))))
def gleaninglaw30_PathTells (a0 : List Span) (a1 : Span) (a2 : Int) : Option Bool :=
 Option.bind (gleaninglaw30_alive) (fun (x3 : Bool) => Option.bind (if (!x3) = true then (some (Sum.inr x3)) else (Option.bind (gleaninglaw3_FewAll a0) (fun (x9 : Bool) => if (!x9) = true then (some (Sum.inr x3)) else (Option.bind (gleaninglaw3_Few a1) (fun (x12 : Bool) => if (!x12) = true then (some (Sum.inr x3)) else (some (Sum.inl ()))))))) (Sum.elim (fun (s : Unit) => gleaninglaw30_PathTells_k0 a0 a1 a2) some))
set_option maxRecDepth 100000 in
set_option maxHeartbeats 8000000 in
theorem gleaninglaw30_PathTells_ok (a0 : List Span) (a1 : Span) (a2 : Int) {r : Bool} (h : gleaninglaw30_PathTells a0 a1 a2 = some r) : Ok Try.prog 3 [.sl 10 (List.map enc27 a0), .agg [.int .u64 a1.Trace.Hi, .int .u64 a1.Trace.Lo, .int .u64 a1.Id, .int .u64 a1.Parent, .str a1.Service, .str a1.Op, .int .i64 a1.Start, .int .i64 a1.Dur, .bool a1.Err, .sl 2 (List.map enc39 a1.Attrs)], .int .i64 a2] [] [] (.bool r) [] [] := by
 unfold gleaninglaw30_PathTells at h
 refine ok_of_code Try.func3 rfl (by show (3 : Nat) ≤ _; decide) (Nat.le_refl _) fun X => ?_
 refine aw_seq_k (fun K1 hK1 => ?_)
 refine aw_regL ?_
 refine alD (some 4) rfl rfl (do_box (by conv => lhs; whnf) rfl rfl) (by decide) ?_
 refine alP (some 6) rfl rfl (does_assign (v := .bool false) (by exact rfl)) (by decide) ?_
 refine al_nil ?_
 refine hK1 _ ?_
 refine aw_seq_k (fun K2 hK2 => ?_)
 refine aw_regL ?_
 obtain ⟨x3, hx3, h⟩ := bnd_some h
 refine alD (some 15) rfl rfl (do_call0 15 false (gleaninglaw30_alive_ok hx3) rfl ent6 rfl rfl) (by decide) ?_
 refine alP (some 7) rfl rfl (does_assign (v := .bool x3) (by exact rfl)) (by decide) ?_
 refine al_nil ?_
 refine hK2 _ ?_
 obtain ⟨q4, h, hk5⟩ := bnd_some h
 refine aw_cut (fun s => gleaninglaw30_PathTells_k0 a0 a1 a2 = some r ∧ s = lit [(0, .sl 10 (List.map enc27 a0)), (2, .int .i64 a2), (4, .ptr 4 0 0)] [((4, 0), .box [.int .u64 a1.Trace.Hi, .int .u64 a1.Trace.Lo, .int .u64 a1.Id, .int .u64 a1.Parent, .str a1.Service, .str a1.Op, .int .i64 a1.Start, .int .i64 a1.Dur, .bool a1.Err, .sl 2 (List.map enc39 a1.Attrs)])] [(4, 1)] X) ?_ ?_
 ·skip
  refine aw_seq_k (fun K6 hK6 => ?_)
  refine aw_regL ?_
  refine alP (some 16) rfl rfl (does_move (v := .bool x3) (by exact rfl)) (by decide) ?_
  refine alP (some 17) rfl rfl (does_un (v := .bool (!x3)) (by conv => lhs; whnf) rfl) (by decide) ?_
  refine alP (some 18) rfl rfl (does_move (v := .bool (!x3)) (by exact rfl)) (by decide) ?_
  refine al_bool (c := (!x3)) 18 rfl (fun c7 => ?_) (fun c7 => ?_)
  ·have h := ifT c7 h
   refine alS (some 19) rfl rfl (by decide) ?_
   refine alS (some 20) rfl rfl (by decide) ?_
   refine alS (some 21) rfl rfl (by decide) ?_
   refine alP (some 22) rfl rfl (does_pick (v := .bool true) (by conv => lhs; whnf) (by exact rfl)) (by decide) ?_
   refine alP (some 23) rfl rfl (does_move (v := .bool true) (by exact rfl)) (by decide) ?_
   refine alS (some 24) rfl rfl (by decide) ?_
   refine alS (some 25) rfl rfl (by decide) ?_
   refine alS (some 26) rfl rfl (by decide) ?_
   refine alP (some 27) rfl rfl (does_pick (v := .bool true) (by conv => lhs; whnf) (by exact rfl)) (by decide) ?_
   refine al_nil ?_
   refine hK6 _ ?_
   refine aw_cond_t (by decide) rfl ?_
   refine aw_seq_k (fun K8 hK8 => ?_)
   refine aw_regL ?_
   refine alP (some 28) rfl rfl (does_move (v := .bool x3) (by exact rfl)) (by decide) ?_
   refine alP (some 6) rfl rfl (does_assign (v := .bool x3) (by exact rfl)) (by decide) ?_
   refine al_nil ?_
   refine hK8 _ ?_
   refine aw_ret ?_
   have h := leafR h hk5
   obtain rfl := Option.some.inj h
   exact ret_ok1 (by conv => lhs; whnf) (by conv => lhs; whnf) (by exact rfl) (.inr rfl) rfl
  ·have h := ifF c7 h
   refine alP (some 19) rfl rfl (does_move (v := .sl 10 (List.map enc27 a0)) (by exact rfl)) (by decide) ?_
   obtain ⟨x9, hx9, h⟩ := bnd_some h
   refine alD (some 20) rfl rfl (do_call0 20 false (gleaninglaw3_FewAll_ok a0 hx9) rfl ent7 rfl rfl) (by decide) ?_
   refine alP (some 21) rfl rfl (does_un (v := .bool (!x9)) (by conv => lhs; whnf) rfl) (by decide) ?_
   refine alP (some 22) rfl rfl (does_pick (v := .bool (!x9)) (by conv => lhs; whnf) (by exact rfl)) (by decide) ?_
   refine alP (some 23) rfl rfl (does_move (v := .bool (!x9)) (by exact rfl)) (by decide) ?_
   refine al_bool (c := (!x9)) 23 rfl (fun c10 => ?_) (fun c10 => ?_)
   ·have h := ifT c10 h
    refine alS (some 24) rfl rfl (by decide) ?_
    refine alS (some 25) rfl rfl (by decide) ?_
    refine alS (some 26) rfl rfl (by decide) ?_
    refine alP (some 27) rfl rfl (does_pick (v := .bool true) (by conv => lhs; whnf) (by exact rfl)) (by decide) ?_
    refine al_nil ?_
    refine hK6 _ ?_
    refine aw_cond_t (by decide) rfl ?_
    refine aw_seq_k (fun K11 hK11 => ?_)
    refine aw_regL ?_
    refine alP (some 28) rfl rfl (does_move (v := .bool x3) (by exact rfl)) (by decide) ?_
    refine alP (some 6) rfl rfl (does_assign (v := .bool x3) (by exact rfl)) (by decide) ?_
    refine al_nil ?_
    refine hK11 _ ?_
    refine aw_ret ?_
    have h := leafR h hk5
    obtain rfl := Option.some.inj h
    exact ret_ok1 (by conv => lhs; whnf) (by conv => lhs; whnf) (by exact rfl) (.inr rfl) rfl
   ·have h := ifF c10 h
    refine alR (some 24) rfl rfl (does_load (v := .agg [.int .u64 a1.Trace.Hi, .int .u64 a1.Trace.Lo, .int .u64 a1.Id, .int .u64 a1.Parent, .str a1.Service, .str a1.Op, .int .i64 a1.Start, .int .i64 a1.Dur, .bool a1.Err, .sl 2 (List.map enc39 a1.Attrs)]) (by conv => lhs; whnf) (by conv => lhs; whnf) ty28 (by exact rfl)) (by decide) ?_
    obtain ⟨x12, hx12, h⟩ := bnd_some h
    refine alD (some 25) rfl rfl (do_call0 25 false (gleaninglaw3_Few_ok a1 hx12) rfl ent8 rfl rfl) (by decide) ?_
    refine alP (some 26) rfl rfl (does_un (v := .bool (!x12)) (by conv => lhs; whnf) rfl) (by decide) ?_
    refine alP (some 27) rfl rfl (does_pick (v := .bool (!x12)) (by conv => lhs; whnf) (by exact rfl)) (by decide) ?_
    refine al_nil ?_
    refine hK6 _ ?_
    refine aw_bool (b := (!x12)) 27 rfl (fun c13 => ?_) (fun c13 => ?_)
    ·have h := ifT c13 h
     refine aw_cond_t (by decide) rfl ?_
     refine aw_seq_k (fun K14 hK14 => ?_)
     refine aw_regL ?_
     refine alP (some 28) rfl rfl (does_move (v := .bool x3) (by exact rfl)) (by decide) ?_
     refine alP (some 6) rfl rfl (does_assign (v := .bool x3) (by exact rfl)) (by decide) ?_
     refine al_nil ?_
     refine hK14 _ ?_
     refine aw_ret ?_
     have h := leafR h hk5
     obtain rfl := Option.some.inj h
     exact ret_ok1 (by conv => lhs; whnf) (by conv => lhs; whnf) (by exact rfl) (.inr rfl) rfl
    ·have h := ifF c13 h
     refine aw_cond_f (by decide) rfl ?_
     refine aw_skip ?_
     have h := leafL h hk5
     exact ⟨_, reb_lit [(0, .sl 10 (List.map enc27 a0)), (2, .int .i64 a2), (4, .ptr 4 0 0)] [(4, 0)] [((4, 0), .box [.int .u64 a1.Trace.Hi, .int .u64 a1.Trace.Lo, .int .u64 a1.Id, .int .u64 a1.Parent, .str a1.Service, .str a1.Op, .int .i64 a1.Start, .int .i64 a1.Dur, .bool a1.Err, .sl 2 (List.map enc39 a1.Attrs)])] [(4, 1)] (envOk_cons (by conv => lhs; whnf) (by exact rfl) (envOk_cons (by conv => lhs; whnf) (by exact rfl) (envOk_cons (by conv => lhs; whnf) (by exact rfl) envOk_nil))) (objOk_cons (by conv => lhs; whnf) (by conv => lhs; whnf) (by exact rfl) (by simp) objOk_nil) (nodup_b rfl) (nodup_b rfl) rfl rfl, h, rfl⟩
 ·rintro s ⟨h, rfl⟩
  unfold gleaninglaw30_PathTells_k0 at h
  refine aw_seq_k (fun K15 hK15 => ?_)
  refine aw_regL ?_
  refine alR (some 30) rfl rfl (does_load (v := .agg [.int .u64 a1.Trace.Hi, .int .u64 a1.Trace.Lo, .int .u64 a1.Id, .int .u64 a1.Parent, .str a1.Service, .str a1.Op, .int .i64 a1.Start, .int .i64 a1.Dur, .bool a1.Err, .sl 2 (List.map enc39 a1.Attrs)]) (by conv => lhs; whnf) (by conv => lhs; whnf) ty28 (by exact rfl)) (by decide) ?_
  obtain ⟨x16, hx16, h⟩ := bnd_some h
  refine alD (some 31) rfl rfl (do_call0 31 false (path_Ends_ok a1 hx16) rfl ent9 rfl rfl) (by decide) ?_
  refine alP (some 29) rfl rfl (does_move (v := .tup [.int .i64 x16.1, .int .i64 x16.2]) (by exact rfl)) (by decide) ?_
  refine alP (some 32) rfl rfl (does_extract (v := .int .i64 x16.1) (by conv => lhs; whnf) (by exact rfl)) (by decide) ?_
  refine alP (some 33) rfl rfl (does_extract (v := .int .i64 x16.2) (by conv => lhs; whnf) (by exact rfl)) (by decide) ?_
  refine alP (some 8) rfl rfl (does_assign (v := .int .i64 x16.1) (by exact rfl)) (by decide) ?_
  refine alP (some 9) rfl rfl (does_assign (v := .int .i64 x16.2) (by exact rfl)) (by decide) ?_
  refine al_nil ?_
  refine hK15 _ ?_
  refine aw_seq_k (fun K17 hK17 => ?_)
  refine aw_regL ?_
  refine alR (some 35) rfl rfl (does_load (v := .agg [.int .u64 a1.Trace.Hi, .int .u64 a1.Trace.Lo, .int .u64 a1.Id, .int .u64 a1.Parent, .str a1.Service, .str a1.Op, .int .i64 a1.Start, .int .i64 a1.Dur, .bool a1.Err, .sl 2 (List.map enc39 a1.Attrs)]) (by conv => lhs; whnf) (by conv => lhs; whnf) ty28 (by exact rfl)) (by decide) ?_
  obtain ⟨x18, hx18, h⟩ := bnd_some h
  refine alD (some 36) rfl rfl (do_call0 36 false (gleaningref28_Ends_ok a1 hx18) rfl ent10 rfl rfl) (by decide) ?_
  refine alP (some 34) rfl rfl (does_move (v := .tup [.int .i64 x18.1, .int .i64 x18.2]) (by exact rfl)) (by decide) ?_
  refine alP (some 37) rfl rfl (does_extract (v := .int .i64 x18.1) (by conv => lhs; whnf) (by exact rfl)) (by decide) ?_
  refine alP (some 38) rfl rfl (does_extract (v := .int .i64 x18.2) (by conv => lhs; whnf) (by exact rfl)) (by decide) ?_
  refine alP (some 10) rfl rfl (does_assign (v := .int .i64 x18.1) (by exact rfl)) (by decide) ?_
  refine alP (some 11) rfl rfl (does_assign (v := .int .i64 x18.2) (by exact rfl)) (by decide) ?_
  refine al_nil ?_
  refine hK17 _ ?_
  refine aw_seq_k (fun K19 hK19 => ?_)
  refine aw_regL ?_
  refine alP (some 39) rfl rfl (does_move (v := .sl 10 (List.map enc27 a0)) (by exact rfl)) (by decide) ?_
  obtain ⟨g20, h⟩ := gd_some h
  refine alD (some 40) rfl rfl (do_append (v := List.map enc27 a0) (by conv => lhs; whnf) (by conv => lhs; whnf) ty22 ty28 rfl rfl (by conv => lhs; whnf) (by first | exact .inl rfl | exact .inr ⟨rfl, rfl⟩) (by conv => lhs; whnf) (by first | exact .inr rfl | exact .inl rfl) (List.nil_append _) (fit_map g20)) (by decide) ?_
  obtain ⟨x21, hx21, h⟩ := bnd_some h
  refine alD (some 41) rfl rfl (do_callG (bcs := []) [] [] [(40, 0)] 41 false (path_Critical_ok a0 hx21) rfl ent11 trivial trivial rfl rfl rfl rfl rfl rfl rfl rfl (.inr ⟨rfl, rfl, ⟨plain_map (fun _ => rfl), trivial⟩⟩)) (by decide) ?_
  refine alP (some 12) rfl rfl (does_assign (v := .own 41 0) (by exact rfl)) (by decide) ?_
  refine al_nil ?_
  refine hK19 _ ?_
  refine aw_seq_k (fun K22 hK22 => ?_)
  refine aw_regL ?_
  refine alP (some 42) rfl rfl (does_move (v := .sl 10 (List.map enc27 a0)) (by exact rfl)) (by decide) ?_
  obtain ⟨x23, hx23, h⟩ := bnd_some h
  refine alD (some 43) rfl rfl (do_call0 43 false (gleaningref28_Critical_ok a0 hx23) rfl ent12 rfl rfl) (by decide) ?_
  refine alP (some 13) rfl rfl (does_assign (v := .own 43 0) (by exact rfl)) (by decide) ?_
  refine al_nil ?_
  refine hK22 _ ?_
  obtain ⟨q24, h, hk25⟩ := bnd_some h
  refine aw_cut (fun s => gleaninglaw30_PathTells_k1 x21 x23 = some r ∧ s = lit [(12, .own 41 0), (13, .own 43 0)] [((41, 0), .arr 3 1 false (List.map enc2 x21)), ((43, 0), .arr 3 1 false (List.map enc2 x23))] [(41, 1), (43, 1)] X) ?_ ?_
  ·skip
   refine aw_seq_k (fun K26 hK26 => ?_)
   refine aw_regL ?_
   refine alP (some 44) rfl rfl (does_move (v := .int .i64 x16.1) (by exact rfl)) (by decide) ?_
   refine alP (some 45) rfl rfl (does_move (v := .int .i64 x18.1) (by exact rfl)) (by decide) ?_
   refine alP (some 46) rfl rfl (does_bin (v := .bool (x16.1 != x18.1)) (by conv => lhs; whnf) (by conv => lhs; whnf) rfl) (by decide) ?_
   refine alP (some 47) rfl rfl (does_move (v := .bool (x16.1 != x18.1)) (by exact rfl)) (by decide) ?_
   refine al_bool (c := (x16.1 != x18.1)) 47 rfl (fun c27 => ?_) (fun c27 => ?_)
   ·have h := ifT c27 h
    refine alS (some 48) rfl rfl (by decide) ?_
    refine alS (some 49) rfl rfl (by decide) ?_
    refine alS (some 50) rfl rfl (by decide) ?_
    refine alP (some 51) rfl rfl (does_pick (v := .bool true) (by conv => lhs; whnf) (by exact rfl)) (by decide) ?_
    refine alP (some 52) rfl rfl (does_move (v := .bool true) (by exact rfl)) (by decide) ?_
    refine alS (some 53) rfl rfl (by decide) ?_
    refine alS (some 54) rfl rfl (by decide) ?_
    refine alS (some 55) rfl rfl (by decide) ?_
    refine alS (some 56) rfl rfl (by decide) ?_
    refine alS (some 57) rfl rfl (by decide) ?_
    refine alP (some 58) rfl rfl (does_pick (v := .bool true) (by conv => lhs; whnf) (by exact rfl)) (by decide) ?_
    refine alP (some 59) rfl rfl (does_move (v := .bool true) (by exact rfl)) (by decide) ?_
    refine alS (some 60) rfl rfl (by decide) ?_
    refine alS (some 61) rfl rfl (by decide) ?_
    refine alS (some 62) rfl rfl (by decide) ?_
    refine alS (some 63) rfl rfl (by decide) ?_
    refine alS (some 64) rfl rfl (by decide) ?_
    refine alS (some 65) rfl rfl (by decide) ?_
    refine alS (some 66) rfl rfl (by decide) ?_
    refine alP (some 67) rfl rfl (does_pick (v := .bool true) (by conv => lhs; whnf) (by exact rfl)) (by decide) ?_
    refine al_nil ?_
    refine hK26 _ ?_
    refine aw_cond_t (by decide) rfl ?_
    refine aw_seq_k (fun K28 hK28 => ?_)
    refine aw_regL ?_
    refine alP (some 6) rfl rfl (does_assign (v := .bool false) (by exact rfl)) (by decide) ?_
    refine al_nil ?_
    refine hK28 _ ?_
    refine aw_ret ?_
    have h := leafR h hk25
    obtain rfl := Option.some.inj h
    exact ret_ok1 (by conv => lhs; whnf) (by conv => lhs; whnf) (by exact rfl) (.inr rfl) rfl
   ·have h := ifF c27 h
    refine alP (some 48) rfl rfl (does_move (v := .int .i64 x16.2) (by exact rfl)) (by decide) ?_
    refine alP (some 49) rfl rfl (does_move (v := .int .i64 x18.2) (by exact rfl)) (by decide) ?_
    refine alP (some 50) rfl rfl (does_bin (v := .bool (x16.2 != x18.2)) (by conv => lhs; whnf) (by conv => lhs; whnf) rfl) (by decide) ?_
    refine alP (some 51) rfl rfl (does_pick (v := .bool (x16.2 != x18.2)) (by conv => lhs; whnf) (by exact rfl)) (by decide) ?_
    refine alP (some 52) rfl rfl (does_move (v := .bool (x16.2 != x18.2)) (by exact rfl)) (by decide) ?_
    refine al_bool (c := (x16.2 != x18.2)) 52 rfl (fun c29 => ?_) (fun c29 => ?_)
    ·have h := ifT c29 h
     refine alS (some 53) rfl rfl (by decide) ?_
     refine alS (some 54) rfl rfl (by decide) ?_
     refine alS (some 55) rfl rfl (by decide) ?_
     refine alS (some 56) rfl rfl (by decide) ?_
     refine alS (some 57) rfl rfl (by decide) ?_
     refine alP (some 58) rfl rfl (does_pick (v := .bool true) (by conv => lhs; whnf) (by exact rfl)) (by decide) ?_
     refine alP (some 59) rfl rfl (does_move (v := .bool true) (by exact rfl)) (by decide) ?_
     refine alS (some 60) rfl rfl (by decide) ?_
     refine alS (some 61) rfl rfl (by decide) ?_
     refine alS (some 62) rfl rfl (by decide) ?_
     refine alS (some 63) rfl rfl (by decide) ?_
     refine alS (some 64) rfl rfl (by decide) ?_
     refine alS (some 65) rfl rfl (by decide) ?_
     refine alS (some 66) rfl rfl (by decide) ?_
     refine alP (some 67) rfl rfl (does_pick (v := .bool true) (by conv => lhs; whnf) (by exact rfl)) (by decide) ?_
     refine al_nil ?_
     refine hK26 _ ?_
     refine aw_cond_t (by decide) rfl ?_
     refine aw_seq_k (fun K30 hK30 => ?_)
     refine aw_regL ?_
     refine alP (some 6) rfl rfl (does_assign (v := .bool false) (by exact rfl)) (by decide) ?_
     refine al_nil ?_
     refine hK30 _ ?_
     refine aw_ret ?_
     have h := leafR h hk25
     obtain rfl := Option.some.inj h
     exact ret_ok1 (by conv => lhs; whnf) (by conv => lhs; whnf) (by exact rfl) (.inr rfl) rfl
    ·have h := ifF c29 h
     refine alP (some 53) rfl rfl (does_move (v := .own 41 0) (by exact rfl)) (by decide) ?_
     refine alR (some 54) rfl rfl ((does_len_own (by conv => lhs; whnf) (by conv => lhs; whnf) ty34).cast (v' := .int .i64 (List.length x21 : Int)) (by exact len_map _)) (by decide) ?_
     refine alP (some 55) rfl rfl (does_move (v := .own 43 0) (by exact rfl)) (by decide) ?_
     refine alR (some 56) rfl rfl ((does_len_own (by conv => lhs; whnf) (by conv => lhs; whnf) ty34).cast (v' := .int .i64 (List.length x23 : Int)) (by exact len_map _)) (by decide) ?_
     refine alP (some 57) rfl rfl (does_bin (v := .bool ((List.length x21 : Int) != (List.length x23 : Int))) (by conv => lhs; whnf) (by conv => lhs; whnf) rfl) (by decide) ?_
     refine alP (some 58) rfl rfl (does_pick (v := .bool ((List.length x21 : Int) != (List.length x23 : Int))) (by conv => lhs; whnf) (by exact rfl)) (by decide) ?_
     refine alP (some 59) rfl rfl (does_move (v := .bool ((List.length x21 : Int) != (List.length x23 : Int))) (by exact rfl)) (by decide) ?_
     refine al_bool (c := ((List.length x21 : Int) != (List.length x23 : Int))) 59 rfl (fun c31 => ?_) (fun c31 => ?_)
     ·have h := ifT c31 h
      refine alS (some 60) rfl rfl (by decide) ?_
      refine alS (some 61) rfl rfl (by decide) ?_
      refine alS (some 62) rfl rfl (by decide) ?_
      refine alS (some 63) rfl rfl (by decide) ?_
      refine alS (some 64) rfl rfl (by decide) ?_
      refine alS (some 65) rfl rfl (by decide) ?_
      refine alS (some 66) rfl rfl (by decide) ?_
      refine alP (some 67) rfl rfl (does_pick (v := .bool true) (by conv => lhs; whnf) (by exact rfl)) (by decide) ?_
      refine al_nil ?_
      refine hK26 _ ?_
      refine aw_cond_t (by decide) rfl ?_
      refine aw_seq_k (fun K32 hK32 => ?_)
      refine aw_regL ?_
      refine alP (some 6) rfl rfl (does_assign (v := .bool false) (by exact rfl)) (by decide) ?_
      refine al_nil ?_
      refine hK32 _ ?_
      refine aw_ret ?_
      have h := leafR h hk25
      obtain rfl := Option.some.inj h
      exact ret_ok1 (by conv => lhs; whnf) (by conv => lhs; whnf) (by exact rfl) (.inr rfl) rfl
     ·have h := ifF c31 h
      refine alP (some 60) rfl rfl (does_move (v := .sl 10 (List.map enc27 a0)) (by exact rfl)) (by decide) ?_
      refine alP (some 61) rfl rfl (does_move (v := .int .i64 a2) (by exact rfl)) (by decide) ?_
      obtain ⟨x33, hx33, h⟩ := bnd_some h
      refine alD (some 62) rfl rfl ((do_call0 62 false (path_Self_ok a0 a2 hx33) rfl ent13 rfl rfl).fx (y := ⟨[], .int .i64 x33, [], [62]⟩) rfl) (by decide) ?_
      refine alP (some 63) rfl rfl (does_move (v := .sl 10 (List.map enc27 a0)) (by exact rfl)) (by decide) ?_
      refine alP (some 64) rfl rfl (does_move (v := .int .i64 a2) (by exact rfl)) (by decide) ?_
      obtain ⟨x34, hx34, h⟩ := bnd_some h
      refine alD (some 65) rfl rfl ((do_call0 65 false (gleaningref28_Self_ok a0 a2 hx34) rfl ent14 rfl rfl).fx (y := ⟨[], .int .i64 x34, [], [65]⟩) rfl) (by decide) ?_
      refine alP (some 66) rfl rfl (does_bin (v := .bool (x33 != x34)) (by conv => lhs; whnf) (by conv => lhs; whnf) rfl) (by decide) ?_
      refine alP (some 67) rfl rfl (does_pick (v := .bool (x33 != x34)) (by conv => lhs; whnf) (by exact rfl)) (by decide) ?_
      refine al_nil ?_
      refine hK26 _ ?_
      refine aw_bool (b := (x33 != x34)) 67 rfl (fun c35 => ?_) (fun c35 => ?_)
      ·have h := ifT c35 h
       refine aw_cond_t (by decide) rfl ?_
       refine aw_seq_k (fun K36 hK36 => ?_)
       refine aw_regL ?_
       refine alP (some 6) rfl rfl (does_assign (v := .bool false) (by exact rfl)) (by decide) ?_
       refine al_nil ?_
       refine hK36 _ ?_
       refine aw_ret ?_
       have h := leafR h hk25
       obtain rfl := Option.some.inj h
       exact ret_ok1 (by conv => lhs; whnf) (by conv => lhs; whnf) (by exact rfl) (.inr rfl) rfl
      ·have h := ifF c35 h
       refine aw_cond_f (by decide) rfl ?_
       refine aw_skip ?_
       have h := leafL h hk25
       exact ⟨_, reb_lit [(12, .own 41 0), (13, .own 43 0)] [(41, 0), (43, 0)] [((41, 0), .arr 3 1 false (List.map enc2 x21)), ((43, 0), .arr 3 1 false (List.map enc2 x23))] [(41, 1), (43, 1)] (envOk_cons (by conv => lhs; whnf) (by exact rfl) (envOk_cons (by conv => lhs; whnf) (by exact rfl) envOk_nil)) (objOk_cons (by conv => lhs; whnf) (by conv => lhs; whnf) (by exact rfl) (by simp) (objOk_cons (by conv => lhs; whnf) (by conv => lhs; whnf) (by exact rfl) (by simp) objOk_nil)) (nodup_b rfl) (nodup_b rfl) rfl rfl, h, rfl⟩
  ·rintro s ⟨h, rfl⟩
   unfold gleaninglaw30_PathTells_k1 at h
   refine aw_seq_k (fun K37 hK37 => ?_)
   refine aw_seq_k (fun K38 hK38 => ?_)
   refine aw_regL ?_
   refine alP (some 14) rfl rfl (does_assign (v := .int .i64 0) (by exact rfl)) (by decide) ?_
   refine al_nil ?_
   refine hK38 _ ?_
   refine aw_block ?_
   refine aw_loop' (fun m s => ∃ (v14_2 : Int), loopN (fun (s : Int) => gleaninglaw30_PathTells_l2 x21 x23 s) m v14_2 = some r ∧ s = lit [(12, .own 41 0), (13, .own 43 0), (14, .int .i64 v14_2)] [((41, 0), .arr 3 1 false (List.map enc2 x21)), ((43, 0), .arr 3 1 false (List.map enc2 x23))] [(41, 1), (43, 1)] X) Fu
    ⟨_, reb_lit [(12, .own 41 0), (13, .own 43 0), (14, .int .i64 (0))] [(41, 0), (43, 0)] [((41, 0), .arr 3 1 false (List.map enc2 x21)), ((43, 0), .arr 3 1 false (List.map enc2 x23))] [(41, 1), (43, 1)] (envOk_cons (by conv => lhs; whnf) (by exact rfl) (envOk_cons (by conv => lhs; whnf) (by exact rfl) (envOk_cons (by conv => lhs; whnf) (by exact rfl) envOk_nil))) (objOk_cons (by conv => lhs; whnf) (by conv => lhs; whnf) (by exact rfl) (by simp) (objOk_cons (by conv => lhs; whnf) (by conv => lhs; whnf) (by exact rfl) (by simp) objOk_nil)) (nodup_b rfl) (nodup_b rfl) rfl rfl, 0, h, rfl⟩ ?_
   rintro m s ⟨v14_2, h, rfl⟩
   obtain ⟨m2, q39, rfl, h, hq40⟩ := loop_some h
   replace h : gleaninglaw30_PathTells_l2 x21 x23 v14_2 = some q39 := h
   unfold gleaninglaw30_PathTells_l2 at h
   refine aw_seq_k (fun K41 hK41 => ?_)
   refine aw_seq_k (fun K42 hK42 => ?_)
   refine aw_regL ?_
   refine alP (some 68) rfl rfl (does_move (v := .int .i64 v14_2) (by exact rfl)) (by decide) ?_
   refine alP (some 69) rfl rfl (does_move (v := .own 41 0) (by exact rfl)) (by decide) ?_
   refine alR (some 70) rfl rfl ((does_len_own (by conv => lhs; whnf) (by conv => lhs; whnf) ty34).cast (v' := .int .i64 (List.length x21 : Int)) (by exact len_map _)) (by decide) ?_
   refine alP (some 71) rfl rfl (does_bin (v := .bool (decide (v14_2 < (List.length x21 : Int)))) (by conv => lhs; whnf) (by conv => lhs; whnf) rfl) (by decide) ?_
   refine al_nil ?_
   refine hK42 _ ?_
   refine aw_bool (b := (decide (v14_2 < (List.length x21 : Int)))) 71 rfl (fun c43 => ?_) (fun c43 => ?_)
   ·have h := ifT c43 h
    refine aw_cond_t (by decide) rfl ?_
    refine aw_skip ?_
    refine hK41 _ ?_
    refine aw_seq_k (fun K44 hK44 => ?_)
    refine aw_block ?_
    refine aw_seq_k (fun K45 hK45 => ?_)
    refine aw_regd (by kernel_rfl) (by decide +kernel) ?_
    refine aoP (some 74) rfl rfl (does_move (v := .own 41 0) (by exact rfl)) (by decide) ?_
    refine aoP (some 75) rfl rfl (does_move (v := .int .i64 v14_2) (by exact rfl)) (by decide) ?_
    obtain ⟨g46, h⟩ := gd_some h
    obtain ⟨x47, hx47, h⟩ := bnd_some h
    refine aoR (some 76) rfl rfl (does_indexAddr_own (by conv => lhs; whnf) (by conv => lhs; whnf) (by conv => lhs; whnf) ty34 ty3 g46 (by exact own_lt hx47)) (by decide) ?_
    refine aoR (some 77) rfl rfl (does_load (v := .int .i64 x47) (by conv => lhs; whnf) (cellsAt_eptr (by conv => lhs; whnf) (by exact map_get hx47)) ty3 (by exact rfl)) (by decide) ?_
    refine aoP (some 78) rfl rfl (does_move (v := .own 43 0) (by exact rfl)) (by decide) ?_
    refine aoP (some 79) rfl rfl (does_move (v := .int .i64 v14_2) (by exact rfl)) (by decide) ?_
    obtain ⟨g48, h⟩ := gd_some h
    obtain ⟨x49, hx49, h⟩ := bnd_some h
    refine aoR (some 80) rfl rfl (does_indexAddr_own (by conv => lhs; whnf) (by conv => lhs; whnf) (by conv => lhs; whnf) ty34 ty3 g48 (by exact own_lt hx49)) (by decide) ?_
    refine aoR (some 81) rfl rfl (does_load (v := .int .i64 x49) (by conv => lhs; whnf) (cellsAt_eptr (by conv => lhs; whnf) (by exact map_get hx49)) ty3 (by exact rfl)) (by decide) ?_
    refine aoP (some 82) rfl rfl (does_bin (v := .bool (x47 != x49)) (by conv => lhs; whnf) (by conv => lhs; whnf) rfl) (by decide) ?_
    refine ao_nil_d (by kernel_rfl) ?_
    refine hK45 _ ?_
    refine aw_bool (b := (x47 != x49)) 82 rfl (fun c50 => ?_) (fun c50 => ?_)
    ·have h := ifT c50 h
     refine aw_cond_t (by decide) rfl ?_
     refine aw_seq_k (fun K51 hK51 => ?_)
     refine aw_regL ?_
     refine alP (some 6) rfl rfl (does_assign (v := .bool false) (by exact rfl)) (by decide) ?_
     refine al_nil ?_
     refine hK51 _ ?_
     refine aw_ret ?_
     have h := leafR h hq40
     obtain rfl := Option.some.inj h
     exact ret_ok1 (by conv => lhs; whnf) (by conv => lhs; whnf) (by exact rfl) (.inr rfl) rfl
    ·have h := ifF c50 h
     refine aw_cond_f (by decide) rfl ?_
     refine aw_skip ?_
     refine hK44 _ ?_
     refine aw_regL ?_
     refine alP (some 72) rfl rfl (does_move (v := .int .i64 v14_2) (by exact rfl)) (by decide) ?_
     refine alP (some 73) rfl rfl (does_bin (v := .int .i64 (IntKind.i64.wrap (v14_2 + 1))) (by conv => lhs; whnf) (by conv => lhs; whnf) rfl) (by decide) ?_
     refine alP (some 14) rfl rfl (does_assign (v := .int .i64 (IntKind.i64.wrap (v14_2 + 1))) (by exact rfl)) (by decide) ?_
     refine al_nil ?_
     have h := leafL h hq40
     exact ⟨m2, Nat.lt_succ_self _, _, reb_lit [(12, .own 41 0), (13, .own 43 0), (14, .int .i64 (IntKind.i64.wrap (v14_2 + 1)))] [(41, 0), (43, 0)] [((41, 0), .arr 3 1 false (List.map enc2 x21)), ((43, 0), .arr 3 1 false (List.map enc2 x23))] [(41, 1), (43, 1)] (envOk_cons (by conv => lhs; whnf) (by exact rfl) (envOk_cons (by conv => lhs; whnf) (by exact rfl) (envOk_cons (by conv => lhs; whnf) (by exact rfl) envOk_nil))) (objOk_cons (by conv => lhs; whnf) (by conv => lhs; whnf) (by exact rfl) (by simp) (objOk_cons (by conv => lhs; whnf) (by conv => lhs; whnf) (by exact rfl) (by simp) objOk_nil)) (nodup_b rfl) (nodup_b rfl) rfl rfl, (IntKind.i64.wrap (v14_2 + 1)), h, rfl⟩
   ·have h := ifF c43 h
    refine aw_cond_f (by decide) rfl ?_
    refine aw_exit ?_
    have h := leafR h hq40
    refine hK37 _ ?_
    refine aw_seq_k (fun K52 hK52 => ?_)
    refine aw_regL ?_
    refine alP (some 6) rfl rfl (does_assign (v := .bool true) (by exact rfl)) (by decide) ?_
    refine al_nil ?_
    refine hK52 _ ?_
    refine aw_ret ?_
    obtain rfl := Option.some.inj h
    exact ret_ok1 (by conv => lhs; whnf) (by conv => lhs; whnf) (by exact rfl) (.inr rfl) rfl
end Go.Proofs.Ytmompdklolomfaa.Ab
