/- Which spans may be. -/
import Derived.Test.YtmompdklolomfaaAbSort1
import Derived.Test.YtmompdklolomfaaProg
namespace Go.Proofs.Ytmompdklolomfaa.Ab
open Go Go.RowKit
set_option linter.unusedVariables false
set_option linter.unusedSimpArgs false
structure Trace where
 Hi : Int
 Lo : Int
 deriving DecidableEq
structure Attr where
 Key : ByteArray
 Value : ByteArray
 deriving DecidableEq
structure Span where
 Trace : Trace
 Id : Int
 Parent : Int
 Service : ByteArray
 Op : ByteArray
 Start : Int
 Dur : Int
 Err : Bool
 Attrs : List Attr
 deriving DecidableEq
def enc39 (x : Attr) : PV := .agg [.str x.Key, .str x.Value]
def enc27 (x : Span) : PV := .agg [.int .u64 x.Trace.Hi, .int .u64 x.Trace.Lo, .int .u64 x.Id, .int .u64 x.Parent, .str x.Service, .str x.Op, .int .i64 x.Start, .int .i64 x.Dur, .bool x.Err, .sl 2 (List.map enc39 x.Attrs)]
theorem ty9 : tyOf Try.prog 9 = some ⟨.str, 1, 16, [.str ByteArray.empty]⟩ := by kernel_rfl
theorem ty22 : tyOf Try.prog 22 = some ⟨.slice 28, 1, 24, [.nil]⟩ := by kernel_rfl
theorem ty26 : tyOf Try.prog 26 = some ⟨.slice 40, 1, 24, [.nil]⟩ := by kernel_rfl
theorem ty28 : tyOf Try.prog 28 = some ⟨.struct [(0, 25), (2, 23), (3, 23), (4, 9), (5, 9), (6, 3), (7, 3), (8, 4), (9, 26)], 10, 112, [.int .u64 0, .int .u64 0, .int .u64 0, .int .u64 0, .str ByteArray.empty, .str ByteArray.empty, .int .i64 0, .int .i64 0, .bool false, .nil]⟩ := by kernel_rfl
theorem ty40 : tyOf Try.prog 40 = some ⟨.struct [(0, 9), (1, 9)], 2, 32, [.str ByteArray.empty, .str ByteArray.empty]⟩ := by kernel_rfl
theorem ent8 : Ent Try.prog 8 := ⟨_, Try.func8, by kernel_rfl, rfl⟩
def gleaninglaw3_Few_l1 (a0 : Span) (v3_1 : Int) : Option (Int ⊕ Bool) :=
 if (decide (v3_1 < (List.length a0.Attrs : Int))) = true then (gd (0 ≤ v3_1) (Option.bind (a0.Attrs[(Int.toNat v3_1)]?) (fun (x21 : Attr) => if (decide ((100 : Int) < (ByteArray.size x21.Key : Int))) = true then (some (Sum.inr false)) else (gd (0 ≤ v3_1) (Option.bind (a0.Attrs[(Int.toNat v3_1)]?) (fun (x25 : Attr) => if (decide ((100 : Int) < (ByteArray.size x25.Value : Int))) = true then (some (Sum.inr false)) else (some (Sum.inl (IntKind.i64.wrap (v3_1 + 1)))))))))) else (some (Sum.inr true))
def gleaninglaw3_Few_k0 (a0 : Span) : Option Bool :=
 loopN (fun (s : Int) => gleaninglaw3_Few_l1 a0 s) Fu 0
def gleaninglaw3_Few (a0 : Span) : Option Bool :=
 Option.bind (if (decide ((100 : Int) < (ByteArray.size a0.Service : Int))) = true then (some (Sum.inr false)) else (if (decide ((100 : Int) < (ByteArray.size a0.Op : Int))) = true then (some (Sum.inr false)) else (if (decide ((20 : Int) < (List.length a0.Attrs : Int))) = true then (some (Sum.inr false)) else (some (Sum.inl ()))))) (Sum.elim (fun (s : Unit) => gleaninglaw3_Few_k0 a0) some)
set_option maxRecDepth 100000 in
set_option maxHeartbeats 8000000 in
theorem gleaninglaw3_Few_ok (a0 : Span) {r : Bool} (h : gleaninglaw3_Few a0 = some r) : Ok Try.prog 8 [.agg [.int .u64 a0.Trace.Hi, .int .u64 a0.Trace.Lo, .int .u64 a0.Id, .int .u64 a0.Parent, .str a0.Service, .str a0.Op, .int .i64 a0.Start, .int .i64 a0.Dur, .bool a0.Err, .sl 2 (List.map enc39 a0.Attrs)]] [] [] (.bool r) [] [] := by
 unfold gleaninglaw3_Few at h
 refine ok_of_code Try.func8 rfl (by show (1 : Nat) ≤ _; decide) (Nat.le_refl _) fun X => ?_
 refine aw_seq_k (fun K1 hK1 => ?_)
 refine aw_regL ?_
 refine alD (some 1) rfl rfl (do_box (by conv => lhs; whnf) rfl rfl) (by decide) ?_
 refine alP (some 2) rfl rfl (does_assign (v := .bool false) (by exact rfl)) (by decide) ?_
 refine al_nil ?_
 refine hK1 _ ?_
 obtain ⟨q2, h, hk3⟩ := bnd_some h
 refine aw_cut (fun s => gleaninglaw3_Few_k0 a0 = some r ∧ s = lit [(1, .ptr 1 0 0)] [((1, 0), .box [.int .u64 a0.Trace.Hi, .int .u64 a0.Trace.Lo, .int .u64 a0.Id, .int .u64 a0.Parent, .str a0.Service, .str a0.Op, .int .i64 a0.Start, .int .i64 a0.Dur, .bool a0.Err, .sl 2 (List.map enc39 a0.Attrs)])] [(1, 1)] X) ?_ ?_
 ·skip
  refine aw_seq_k (fun K4 hK4 => ?_)
  refine aw_regL ?_
  refine alP (some 4) rfl rfl (does_fieldAddr (q := .ptr 1 0 4) (by conv => lhs; whnf) ty28 rfl ty9 (by decide) (by exact rfl)) (by decide) ?_
  refine alR (some 5) rfl rfl (does_load (v := .str a0.Service) (by conv => lhs; whnf) (by conv => lhs; whnf) ty9 (by exact rfl)) (by decide) ?_
  refine alP (some 6) rfl rfl (does_len_str (by conv => lhs; whnf) ty9) (by decide) ?_
  refine alP (some 7) rfl rfl (does_bin (v := .bool (decide ((100 : Int) < (ByteArray.size a0.Service : Int)))) (by conv => lhs; whnf) (by conv => lhs; whnf) rfl) (by decide) ?_
  refine alP (some 8) rfl rfl (does_move (v := .bool (decide ((100 : Int) < (ByteArray.size a0.Service : Int)))) (by exact rfl)) (by decide) ?_
  refine al_bool (c := (decide ((100 : Int) < (ByteArray.size a0.Service : Int)))) 8 rfl (fun c5 => ?_) (fun c5 => ?_)
  ·have h := ifT c5 h
   refine alS (some 9) rfl rfl (by decide) ?_
   refine alS (some 10) rfl rfl (by decide) ?_
   refine alS (some 11) rfl rfl (by decide) ?_
   refine alS (some 12) rfl rfl (by decide) ?_
   refine alP (some 13) rfl rfl (does_pick (v := .bool true) (by conv => lhs; whnf) (by exact rfl)) (by decide) ?_
   refine alP (some 14) rfl rfl (does_move (v := .bool true) (by exact rfl)) (by decide) ?_
   refine alS (some 15) rfl rfl (by decide) ?_
   refine alS (some 16) rfl rfl (by decide) ?_
   refine alS (some 17) rfl rfl (by decide) ?_
   refine alS (some 18) rfl rfl (by decide) ?_
   refine alP (some 19) rfl rfl (does_pick (v := .bool true) (by conv => lhs; whnf) (by exact rfl)) (by decide) ?_
   refine al_nil ?_
   refine hK4 _ ?_
   refine aw_cond_t (by decide) rfl ?_
   refine aw_seq_k (fun K6 hK6 => ?_)
   refine aw_regL ?_
   refine alP (some 2) rfl rfl (does_assign (v := .bool false) (by exact rfl)) (by decide) ?_
   refine al_nil ?_
   refine hK6 _ ?_
   refine aw_ret ?_
   have h := leafR h hk3
   obtain rfl := Option.some.inj h
   exact ret_ok1 (by conv => lhs; whnf) (by conv => lhs; whnf) (by exact rfl) (.inr rfl) rfl
  ·have h := ifF c5 h
   refine alP (some 9) rfl rfl (does_fieldAddr (q := .ptr 1 0 5) (by conv => lhs; whnf) ty28 rfl ty9 (by decide) (by exact rfl)) (by decide) ?_
   refine alR (some 10) rfl rfl (does_load (v := .str a0.Op) (by conv => lhs; whnf) (by conv => lhs; whnf) ty9 (by exact rfl)) (by decide) ?_
   refine alP (some 11) rfl rfl (does_len_str (by conv => lhs; whnf) ty9) (by decide) ?_
   refine alP (some 12) rfl rfl (does_bin (v := .bool (decide ((100 : Int) < (ByteArray.size a0.Op : Int)))) (by conv => lhs; whnf) (by conv => lhs; whnf) rfl) (by decide) ?_
   refine alP (some 13) rfl rfl (does_pick (v := .bool (decide ((100 : Int) < (ByteArray.size a0.Op : Int)))) (by conv => lhs; whnf) (by exact rfl)) (by decide) ?_
   refine alP (some 14) rfl rfl (does_move (v := .bool (decide ((100 : Int) < (ByteArray.size a0.Op : Int)))) (by exact rfl)) (by decide) ?_
   refine al_bool (c := (decide ((100 : Int) < (ByteArray.size a0.Op : Int)))) 14 rfl (fun c7 => ?_) (fun c7 => ?_)
   ·have h := ifT c7 h
    refine alS (some 15) rfl rfl (by decide) ?_
    refine alS (some 16) rfl rfl (by decide) ?_
    refine alS (some 17) rfl rfl (by decide) ?_
    refine alS (some 18) rfl rfl (by decide) ?_
    refine alP (some 19) rfl rfl (does_pick (v := .bool true) (by conv => lhs; whnf) (by exact rfl)) (by decide) ?_
    refine al_nil ?_
    refine hK4 _ ?_
    refine aw_cond_t (by decide) rfl ?_
    refine aw_seq_k (fun K8 hK8 => ?_)
    refine aw_regL ?_
    refine alP (some 2) rfl rfl (does_assign (v := .bool false) (by exact rfl)) (by decide) ?_
    refine al_nil ?_
    refine hK8 _ ?_
    refine aw_ret ?_
    have h := leafR h hk3
    obtain rfl := Option.some.inj h
    exact ret_ok1 (by conv => lhs; whnf) (by conv => lhs; whnf) (by exact rfl) (.inr rfl) rfl
   ·have h := ifF c7 h
    refine alP (some 15) rfl rfl (does_fieldAddr (q := .ptr 1 0 9) (by conv => lhs; whnf) ty28 rfl ty26 (by decide) (by exact rfl)) (by decide) ?_
    refine alR (some 16) rfl rfl (does_load (v := .sl 2 (List.map enc39 a0.Attrs)) (by conv => lhs; whnf) (by conv => lhs; whnf) ty26 (by exact rfl)) (by decide) ?_
    refine alP (some 17) rfl rfl ((does_len_sl (by conv => lhs; whnf) ty26).castp (v' := .int .i64 (List.length a0.Attrs : Int)) (by exact len_map _)) (by decide) ?_
    refine alP (some 18) rfl rfl (does_bin (v := .bool (decide ((20 : Int) < (List.length a0.Attrs : Int)))) (by conv => lhs; whnf) (by conv => lhs; whnf) rfl) (by decide) ?_
    refine alP (some 19) rfl rfl (does_pick (v := .bool (decide ((20 : Int) < (List.length a0.Attrs : Int)))) (by conv => lhs; whnf) (by exact rfl)) (by decide) ?_
    refine al_nil ?_
    refine hK4 _ ?_
    refine aw_bool (b := (decide ((20 : Int) < (List.length a0.Attrs : Int)))) 19 rfl (fun c9 => ?_) (fun c9 => ?_)
    ·have h := ifT c9 h
     refine aw_cond_t (by decide) rfl ?_
     refine aw_seq_k (fun K10 hK10 => ?_)
     refine aw_regL ?_
     refine alP (some 2) rfl rfl (does_assign (v := .bool false) (by exact rfl)) (by decide) ?_
     refine al_nil ?_
     refine hK10 _ ?_
     refine aw_ret ?_
     have h := leafR h hk3
     obtain rfl := Option.some.inj h
     exact ret_ok1 (by conv => lhs; whnf) (by conv => lhs; whnf) (by exact rfl) (.inr rfl) rfl
    ·have h := ifF c9 h
     refine aw_cond_f (by decide) rfl ?_
     refine aw_skip ?_
     have h := leafL h hk3
     exact ⟨_, reb_lit [(1, .ptr 1 0 0)] [(1, 0)] [((1, 0), .box [.int .u64 a0.Trace.Hi, .int .u64 a0.Trace.Lo, .int .u64 a0.Id, .int .u64 a0.Parent, .str a0.Service, .str a0.Op, .int .i64 a0.Start, .int .i64 a0.Dur, .bool a0.Err, .sl 2 (List.map enc39 a0.Attrs)])] [(1, 1)] (envOk_cons (by conv => lhs; whnf) (by exact rfl) envOk_nil) (objOk_cons (by conv => lhs; whnf) (by conv => lhs; whnf) (by exact rfl) (by simp) objOk_nil) (nodup_b rfl) (nodup_b rfl) rfl rfl, h, rfl⟩
 ·rintro s ⟨h, rfl⟩
  unfold gleaninglaw3_Few_k0 at h
  refine aw_seq_k (fun K11 hK11 => ?_)
  refine aw_seq_k (fun K12 hK12 => ?_)
  refine aw_regL ?_
  refine alP (some 3) rfl rfl (does_assign (v := .int .i64 0) (by exact rfl)) (by decide) ?_
  refine al_nil ?_
  refine hK12 _ ?_
  refine aw_block ?_
  refine aw_loop' (fun m s => ∃ (v3_1 : Int), loopN (fun (s : Int) => gleaninglaw3_Few_l1 a0 s) m v3_1 = some r ∧ s = lit [(1, .ptr 1 0 0), (3, .int .i64 v3_1)] [((1, 0), .box [.int .u64 a0.Trace.Hi, .int .u64 a0.Trace.Lo, .int .u64 a0.Id, .int .u64 a0.Parent, .str a0.Service, .str a0.Op, .int .i64 a0.Start, .int .i64 a0.Dur, .bool a0.Err, .sl 2 (List.map enc39 a0.Attrs)])] [(1, 1)] X) Fu
   ⟨_, reb_lit [(1, .ptr 1 0 0), (3, .int .i64 (0))] [(1, 0)] [((1, 0), .box [.int .u64 a0.Trace.Hi, .int .u64 a0.Trace.Lo, .int .u64 a0.Id, .int .u64 a0.Parent, .str a0.Service, .str a0.Op, .int .i64 a0.Start, .int .i64 a0.Dur, .bool a0.Err, .sl 2 (List.map enc39 a0.Attrs)])] [(1, 1)] (envOk_cons (by conv => lhs; whnf) (by exact rfl) (envOk_cons (by conv => lhs; whnf) (by exact rfl) envOk_nil)) (objOk_cons (by conv => lhs; whnf) (by conv => lhs; whnf) (by exact rfl) (by simp) objOk_nil) (nodup_b rfl) (nodup_b rfl) rfl rfl, 0, h, rfl⟩ ?_
  rintro m s ⟨v3_1, h, rfl⟩
  obtain ⟨m1, q13, rfl, h, hq14⟩ := loop_some h
  replace h : gleaninglaw3_Few_l1 a0 v3_1 = some q13 := h
  unfold gleaninglaw3_Few_l1 at h
  refine aw_seq_k (fun K15 hK15 => ?_)
  refine aw_seq_k (fun K16 hK16 => ?_)
  refine aw_regL ?_
  refine alP (some 20) rfl rfl (does_move (v := .int .i64 v3_1) (by exact rfl)) (by decide) ?_
  refine alP (some 21) rfl rfl (does_fieldAddr (q := .ptr 1 0 9) (by conv => lhs; whnf) ty28 rfl ty26 (by decide) (by exact rfl)) (by decide) ?_
  refine alR (some 22) rfl rfl (does_load (v := .sl 2 (List.map enc39 a0.Attrs)) (by conv => lhs; whnf) (by conv => lhs; whnf) ty26 (by exact rfl)) (by decide) ?_
  refine alP (some 23) rfl rfl ((does_len_sl (by conv => lhs; whnf) ty26).castp (v' := .int .i64 (List.length a0.Attrs : Int)) (by exact len_map _)) (by decide) ?_
  refine alP (some 24) rfl rfl (does_bin (v := .bool (decide (v3_1 < (List.length a0.Attrs : Int)))) (by conv => lhs; whnf) (by conv => lhs; whnf) rfl) (by decide) ?_
  refine al_nil ?_
  refine hK16 _ ?_
  refine aw_bool (b := (decide (v3_1 < (List.length a0.Attrs : Int)))) 24 rfl (fun c17 => ?_) (fun c17 => ?_)
  ·have h := ifT c17 h
   refine aw_cond_t (by decide) rfl ?_
   refine aw_skip ?_
   refine hK15 _ ?_
   refine aw_seq_k (fun K18 hK18 => ?_)
   refine aw_block ?_
   refine aw_seq_k (fun K19 hK19 => ?_)
   refine aw_regL ?_
   refine alP (some 27) rfl rfl (does_fieldAddr (q := .ptr 1 0 9) (by conv => lhs; whnf) ty28 rfl ty26 (by decide) (by exact rfl)) (by decide) ?_
   refine alR (some 28) rfl rfl (does_load (v := .sl 2 (List.map enc39 a0.Attrs)) (by conv => lhs; whnf) (by conv => lhs; whnf) ty26 (by exact rfl)) (by decide) ?_
   refine alP (some 29) rfl rfl (does_move (v := .int .i64 v3_1) (by exact rfl)) (by decide) ?_
   obtain ⟨g20, h⟩ := gd_some h
   obtain ⟨x21, hx21, h⟩ := bnd_some h
   refine alP (some 30) rfl rfl (does_indexAddr_sl (el := .agg [.str x21.Key, .str x21.Value]) (by conv => lhs; whnf) (by conv => lhs; whnf) ty26 ty40 g20 (by exact map_get hx21)) (by decide) ?_
   refine alP (some 31) rfl rfl (does_fieldAddr (q := .rptr [.str x21.Key, .str x21.Value]) (by conv => lhs; whnf) ty40 rfl ty9 (by decide) (by exact rfl)) (by decide) ?_
   refine alR (some 32) rfl rfl (does_load (v := .str x21.Key) (by conv => lhs; whnf) (by conv => lhs; whnf) ty9 (by exact rfl)) (by decide) ?_
   refine alP (some 33) rfl rfl (does_len_str (by conv => lhs; whnf) ty9) (by decide) ?_
   refine alP (some 34) rfl rfl (does_bin (v := .bool (decide ((100 : Int) < (ByteArray.size x21.Key : Int)))) (by conv => lhs; whnf) (by conv => lhs; whnf) rfl) (by decide) ?_
   refine alP (some 35) rfl rfl (does_move (v := .bool (decide ((100 : Int) < (ByteArray.size x21.Key : Int)))) (by exact rfl)) (by decide) ?_
   refine al_bool (c := (decide ((100 : Int) < (ByteArray.size x21.Key : Int)))) 35 rfl (fun c22 => ?_) (fun c22 => ?_)
   ·have h := ifT c22 h
    refine alS (some 36) rfl rfl (by decide) ?_
    refine alS (some 37) rfl rfl (by decide) ?_
    refine alS (some 38) rfl rfl (by decide) ?_
    refine alS (some 39) rfl rfl (by decide) ?_
    refine alS (some 40) rfl rfl (by decide) ?_
    refine alS (some 41) rfl rfl (by decide) ?_
    refine alS (some 42) rfl rfl (by decide) ?_
    refine alS (some 43) rfl rfl (by decide) ?_
    refine alP (some 44) rfl rfl (does_pick (v := .bool true) (by conv => lhs; whnf) (by exact rfl)) (by decide) ?_
    refine al_nil ?_
    refine hK19 _ ?_
    refine aw_cond_t (by decide) rfl ?_
    refine aw_seq_k (fun K23 hK23 => ?_)
    refine aw_regL ?_
    refine alP (some 2) rfl rfl (does_assign (v := .bool false) (by exact rfl)) (by decide) ?_
    refine al_nil ?_
    refine hK23 _ ?_
    refine aw_ret ?_
    have h := leafR h hq14
    obtain rfl := Option.some.inj h
    exact ret_ok1 (by conv => lhs; whnf) (by conv => lhs; whnf) (by exact rfl) (.inr rfl) rfl
   ·have h := ifF c22 h
    refine alP (some 36) rfl rfl (does_fieldAddr (q := .ptr 1 0 9) (by conv => lhs; whnf) ty28 rfl ty26 (by decide) (by exact rfl)) (by decide) ?_
    refine alR (some 37) rfl rfl (does_load (v := .sl 2 (List.map enc39 a0.Attrs)) (by conv => lhs; whnf) (by conv => lhs; whnf) ty26 (by exact rfl)) (by decide) ?_
    refine alP (some 38) rfl rfl (does_move (v := .int .i64 v3_1) (by exact rfl)) (by decide) ?_
    obtain ⟨g24, h⟩ := gd_some h
    obtain ⟨x25, hx25, h⟩ := bnd_some h
    refine alP (some 39) rfl rfl (does_indexAddr_sl (el := .agg [.str x25.Key, .str x25.Value]) (by conv => lhs; whnf) (by conv => lhs; whnf) ty26 ty40 g24 (by exact map_get hx25)) (by decide) ?_
    refine alP (some 40) rfl rfl (does_fieldAddr (q := .rptr [.str x25.Value]) (by conv => lhs; whnf) ty40 rfl ty9 (by decide) (by exact rfl)) (by decide) ?_
    refine alR (some 41) rfl rfl (does_load (v := .str x25.Value) (by conv => lhs; whnf) (by conv => lhs; whnf) ty9 (by exact rfl)) (by decide) ?_
    refine alP (some 42) rfl rfl (does_len_str (by conv => lhs; whnf) ty9) (by decide) ?_
    refine alP (some 43) rfl rfl (does_bin (v := .bool (decide ((100 : Int) < (ByteArray.size x25.Value : Int)))) (by conv => lhs; whnf) (by conv => lhs; whnf) rfl) (by decide) ?_
    refine alP (some 44) rfl rfl (does_pick (v := .bool (decide ((100 : Int) < (ByteArray.size x25.Value : Int)))) (by conv => lhs; whnf) (by exact rfl)) (by decide) ?_
    refine al_nil ?_
    refine hK19 _ ?_
    refine aw_bool (b := (decide ((100 : Int) < (ByteArray.size x25.Value : Int)))) 44 rfl (fun c26 => ?_) (fun c26 => ?_)
    ·have h := ifT c26 h
     refine aw_cond_t (by decide) rfl ?_
     refine aw_seq_k (fun K27 hK27 => ?_)
     refine aw_regL ?_
     refine alP (some 2) rfl rfl (does_assign (v := .bool false) (by exact rfl)) (by decide) ?_
     refine al_nil ?_
     refine hK27 _ ?_
     refine aw_ret ?_
     have h := leafR h hq14
     obtain rfl := Option.some.inj h
     exact ret_ok1 (by conv => lhs; whnf) (by conv => lhs; whnf) (by exact rfl) (.inr rfl) rfl
    ·have h := ifF c26 h
     refine aw_cond_f (by decide) rfl ?_
     refine aw_skip ?_
     refine hK18 _ ?_
     refine aw_regL ?_
     refine alP (some 25) rfl rfl (does_move (v := .int .i64 v3_1) (by exact rfl)) (by decide) ?_
     refine alP (some 26) rfl rfl (does_bin (v := .int .i64 (IntKind.i64.wrap (v3_1 + 1))) (by conv => lhs; whnf) (by conv => lhs; whnf) rfl) (by decide) ?_
     refine alP (some 3) rfl rfl (does_assign (v := .int .i64 (IntKind.i64.wrap (v3_1 + 1))) (by exact rfl)) (by decide) ?_
     refine al_nil ?_
     have h := leafL h hq14
     exact ⟨m1, Nat.lt_succ_self _, _, reb_lit [(1, .ptr 1 0 0), (3, .int .i64 (IntKind.i64.wrap (v3_1 + 1)))] [(1, 0)] [((1, 0), .box [.int .u64 a0.Trace.Hi, .int .u64 a0.Trace.Lo, .int .u64 a0.Id, .int .u64 a0.Parent, .str a0.Service, .str a0.Op, .int .i64 a0.Start, .int .i64 a0.Dur, .bool a0.Err, .sl 2 (List.map enc39 a0.Attrs)])] [(1, 1)] (envOk_cons (by conv => lhs; whnf) (by exact rfl) (envOk_cons (by conv => lhs; whnf) (by exact rfl) envOk_nil)) (objOk_cons (by conv => lhs; whnf) (by conv => lhs; whnf) (by exact rfl) (by simp) objOk_nil) (nodup_b rfl) (nodup_b rfl) rfl rfl, (IntKind.i64.wrap (v3_1 + 1)), h, rfl⟩
  ·have h := ifF c17 h
   refine aw_cond_f (by decide) rfl ?_
   refine aw_exit ?_
   have h := leafR h hq14
   refine hK11 _ ?_
   refine aw_seq_k (fun K28 hK28 => ?_)
   refine aw_regL ?_
   refine alP (some 2) rfl rfl (does_assign (v := .bool true) (by exact rfl)) (by decide) ?_
   refine al_nil ?_
   refine hK28 _ ?_
   refine aw_ret ?_
   obtain rfl := Option.some.inj h
   exact ret_ok1 (by conv => lhs; whnf) (by conv => lhs; whnf) (by exact rfl) (.inr rfl) rfl
theorem sh23 : ∀ (m : Nat) (cs : List PV), Shape Try.prog m 23 cs → ∃ a : Int, cs = [.int .u64 a] ∧ (inI .u64 a) := fun m cs h => shape_i h Try.underlying23
def Trace.wf (a : Trace) : Prop := (inI .u64 a.Hi) ∧ (inI .u64 a.Lo)
theorem sh25 : ∀ (m : Nat) (cs : List PV), Shape Try.prog m 25 cs → ∃ a : Trace, cs = [.int .u64 a.Hi, .int .u64 a.Lo] ∧ (Trace.wf a) := fun m cs h => by
 obtain ⟨hl, m, hf⟩ := shape_struct h Try.underlying25
 have f0 := hf 0 _ rfl
 obtain ⟨a0, e0, w0⟩ := sh23 m _ f0
 rw [show Try.prog.cellsOf _ = 1 by kernel_rfl] at e0
 have f1 := hf 1 _ rfl
 obtain ⟨a1, e1, w1⟩ := sh23 m _ f1
 rw [show Try.prog.cellsOf _ = 1 by kernel_rfl] at e1
 exact ⟨⟨a0, a1⟩, tile_all (l := [(1, [.int .u64 a0]), (1, [.int .u64 a1])]) ⟨e0, e1, trivial⟩ hl (by kernel_rfl), ⟨w0, w1⟩⟩
theorem sh9 : ∀ (m : Nat) (cs : List PV), Shape Try.prog m 9 cs → ∃ a : ByteArray, cs = [.str a] ∧ ((ByteArray.size a) ≤ maxLen) := fun m cs h => shape_str h Try.underlying9
theorem sh3 : ∀ (m : Nat) (cs : List PV), Shape Try.prog m 3 cs → ∃ a : Int, cs = [.int .i64 a] ∧ (inI .i64 a) := fun m cs h => shape_i h Try.underlying3
theorem sh4 : ∀ (m : Nat) (cs : List PV), Shape Try.prog m 4 cs → ∃ a : Bool, cs = [.bool a] ∧ True := fun m cs h => shape_b h Try.underlying4
def Attr.wf (a : Attr) : Prop := ((ByteArray.size a.Key) ≤ maxLen) ∧ ((ByteArray.size a.Value) ≤ maxLen)
theorem sh40 : ∀ (m : Nat) (cs : List PV), Shape Try.prog m 40 cs → ∃ a : Attr, cs = [.str a.Key, .str a.Value] ∧ (Attr.wf a) := fun m cs h => by
 obtain ⟨hl, m, hf⟩ := shape_struct h Try.underlying40
 have f0 := hf 0 _ rfl
 obtain ⟨a0, e0, w0⟩ := sh9 m _ f0
 rw [show Try.prog.cellsOf _ = 1 by kernel_rfl] at e0
 have f1 := hf 1 _ rfl
 obtain ⟨a1, e1, w1⟩ := sh9 m _ f1
 rw [show Try.prog.cellsOf _ = 1 by kernel_rfl] at e1
 exact ⟨⟨a0, a1⟩, tile_all (l := [(1, [.str a0]), (1, [.str a1])]) ⟨e0, e1, trivial⟩ hl (by kernel_rfl), ⟨w0, w1⟩⟩
theorem sh26 : ∀ (m : Nat) (cs : List PV), Shape Try.prog m 26 cs → ∃ a : List Attr, cs = [.sl 2 (List.map enc39 a)] ∧ ((List.length a) ≤ maxLen ∧ ∀ y ∈ a, Attr.wf y) := fun m cs h => by
 obtain ⟨l, h1, h2, h3⟩ := shape_rows (f := enc39) (Q := fun y => Attr.wf y) h Try.underlying26 (fun m ps hs => by
  obtain ⟨a, rfl, hw⟩ := sh40 m ps hs
  exact ⟨a, by rw [show aggT Try.prog 40 = true by kernel_rfl]; rfl, hw⟩)
 exact ⟨l, h1.trans (by rw [show Try.prog.cellsOf 40 = 2 by kernel_rfl]), h2, h3⟩
def Span.wf (a : Span) : Prop := (Trace.wf a.Trace) ∧ (inI .u64 a.Id) ∧ (inI .u64 a.Parent) ∧ ((ByteArray.size a.Service) ≤ maxLen) ∧ ((ByteArray.size a.Op) ≤ maxLen) ∧ (inI .i64 a.Start) ∧ (inI .i64 a.Dur) ∧ True ∧ ((List.length a.Attrs) ≤ maxLen ∧ ∀ y ∈ a.Attrs, Attr.wf y)
theorem sh28 : ∀ (m : Nat) (cs : List PV), Shape Try.prog m 28 cs → ∃ a : Span, cs = [.int .u64 a.Trace.Hi, .int .u64 a.Trace.Lo, .int .u64 a.Id, .int .u64 a.Parent, .str a.Service, .str a.Op, .int .i64 a.Start, .int .i64 a.Dur, .bool a.Err, .sl 2 (List.map enc39 a.Attrs)] ∧ (Span.wf a) := fun m cs h => by
 obtain ⟨hl, m, hf⟩ := shape_struct h Try.underlying28
 have f0 := hf 0 _ rfl
 obtain ⟨a0, e0, w0⟩ := sh25 m _ f0
 rw [show Try.prog.cellsOf _ = 2 by kernel_rfl] at e0
 have f1 := hf 1 _ rfl
 obtain ⟨a1, e1, w1⟩ := sh23 m _ f1
 rw [show Try.prog.cellsOf _ = 1 by kernel_rfl] at e1
 have f2 := hf 2 _ rfl
 obtain ⟨a2, e2, w2⟩ := sh23 m _ f2
 rw [show Try.prog.cellsOf _ = 1 by kernel_rfl] at e2
 have f3 := hf 3 _ rfl
 obtain ⟨a3, e3, w3⟩ := sh9 m _ f3
 rw [show Try.prog.cellsOf _ = 1 by kernel_rfl] at e3
 have f4 := hf 4 _ rfl
 obtain ⟨a4, e4, w4⟩ := sh9 m _ f4
 rw [show Try.prog.cellsOf _ = 1 by kernel_rfl] at e4
 have f5 := hf 5 _ rfl
 obtain ⟨a5, e5, w5⟩ := sh3 m _ f5
 rw [show Try.prog.cellsOf _ = 1 by kernel_rfl] at e5
 have f6 := hf 6 _ rfl
 obtain ⟨a6, e6, w6⟩ := sh3 m _ f6
 rw [show Try.prog.cellsOf _ = 1 by kernel_rfl] at e6
 have f7 := hf 7 _ rfl
 obtain ⟨a7, e7, w7⟩ := sh4 m _ f7
 rw [show Try.prog.cellsOf _ = 1 by kernel_rfl] at e7
 have f8 := hf 8 _ rfl
 obtain ⟨a8, e8, w8⟩ := sh26 m _ f8
 rw [show Try.prog.cellsOf _ = 1 by kernel_rfl] at e8
 exact ⟨⟨a0, a1, a2, a3, a4, a5, a6, a7, a8⟩, tile_all (l := [(2, [.int .u64 a0.Hi, .int .u64 a0.Lo]), (1, [.int .u64 a1]), (1, [.int .u64 a2]), (1, [.str a3]), (1, [.str a4]), (1, [.int .i64 a5]), (1, [.int .i64 a6]), (1, [.bool a7]), (1, [.sl 2 (List.map enc39 a8)])]) ⟨e0, e1, e2, e3, e4, e5, e6, e7, e8, trivial⟩ hl (by kernel_rfl), ⟨w0, w1, w2, w3, w4, w5, w6, w7, w8⟩⟩
def gleaninglaw3_FewAll_l0 (a0 : List Span) (v3_0 : Int) : Option (Int ⊕ Bool) :=
 if (decide (v3_0 < (List.length a0 : Int))) = true then (gd (0 ≤ v3_0) (Option.bind (a0[(Int.toNat v3_0)]?) (fun (x16 : Span) => Option.bind (gleaninglaw3_Few x16) (fun (x17 : Bool) => if (!x17) = true then (some (Sum.inr false)) else (some (Sum.inl (IntKind.i64.wrap (v3_0 + 1)))))))) else (some (Sum.inr true))
def gleaninglaw3_FewAll (a0 : List Span) : Option Bool :=
 if (decide ((60 : Int) < (List.length a0 : Int))) = true then (some false) else (loopN (fun (s : Int) => gleaninglaw3_FewAll_l0 a0 s) Fu 0)
set_option maxRecDepth 100000 in
set_option maxHeartbeats 8000000 in
theorem gleaninglaw3_FewAll_ok (a0 : List Span) {r : Bool} (h : gleaninglaw3_FewAll a0 = some r) : Ok Try.prog 7 [.sl 10 (List.map enc27 a0)] [] [] (.bool r) [] [] := by
 unfold gleaninglaw3_FewAll at h
 refine ok_of_code Try.func7 rfl (by show (1 : Nat) ≤ _; decide) (Nat.le_refl _) fun X => ?_
 refine aw_seq_k (fun K1 hK1 => ?_)
 refine aw_regL ?_
 refine alP (some 2) rfl rfl (does_assign (v := .bool false) (by exact rfl)) (by decide) ?_
 refine al_nil ?_
 refine hK1 _ ?_
 refine aw_seq_k (fun K2 hK2 => ?_)
 refine aw_seq_k (fun K3 hK3 => ?_)
 refine aw_regL ?_
 refine alP (some 4) rfl rfl (does_move (v := .sl 10 (List.map enc27 a0)) (by exact rfl)) (by decide) ?_
 refine alP (some 5) rfl rfl ((does_len_sl (by conv => lhs; whnf) ty22).castp (v' := .int .i64 (List.length a0 : Int)) (by exact len_map _)) (by decide) ?_
 refine alP (some 6) rfl rfl (does_bin (v := .bool (decide ((60 : Int) < (List.length a0 : Int)))) (by conv => lhs; whnf) (by conv => lhs; whnf) rfl) (by decide) ?_
 refine al_nil ?_
 refine hK3 _ ?_
 refine aw_bool (b := (decide ((60 : Int) < (List.length a0 : Int)))) 6 rfl (fun c4 => ?_) (fun c4 => ?_)
 ·have h := ifT c4 h
  refine aw_cond_t (by decide) rfl ?_
  refine aw_seq_k (fun K5 hK5 => ?_)
  refine aw_regL ?_
  refine alP (some 2) rfl rfl (does_assign (v := .bool false) (by exact rfl)) (by decide) ?_
  refine al_nil ?_
  refine hK5 _ ?_
  refine aw_ret ?_
  obtain rfl := Option.some.inj h
  exact ret_ok1 (by conv => lhs; whnf) (by conv => lhs; whnf) (by exact rfl) (.inr rfl) rfl
 ·have h := ifF c4 h
  refine aw_cond_f (by decide) rfl ?_
  refine aw_skip ?_
  refine hK2 _ ?_
  refine aw_seq_k (fun K6 hK6 => ?_)
  refine aw_seq_k (fun K7 hK7 => ?_)
  refine aw_regL ?_
  refine alP (some 3) rfl rfl (does_assign (v := .int .i64 0) (by exact rfl)) (by decide) ?_
  refine al_nil ?_
  refine hK7 _ ?_
  refine aw_block ?_
  refine aw_loop' (fun m s => ∃ (v3_0 : Int), loopN (fun (s : Int) => gleaninglaw3_FewAll_l0 a0 s) m v3_0 = some r ∧ s = lit [(0, .sl 10 (List.map enc27 a0)), (3, .int .i64 v3_0)] [] [] X) Fu
   ⟨_, reb_lit [(0, .sl 10 (List.map enc27 a0)), (3, .int .i64 (0))] [] [] [] (envOk_cons (by conv => lhs; whnf) (by exact rfl) (envOk_cons (by conv => lhs; whnf) (by exact rfl) envOk_nil)) objOk_nil (nodup_b rfl) (nodup_b rfl) rfl rfl, 0, h, rfl⟩ ?_
  rintro m s ⟨v3_0, h, rfl⟩
  obtain ⟨m0, q8, rfl, h, hq9⟩ := loop_some h
  replace h : gleaninglaw3_FewAll_l0 a0 v3_0 = some q8 := h
  unfold gleaninglaw3_FewAll_l0 at h
  refine aw_seq_k (fun K10 hK10 => ?_)
  refine aw_seq_k (fun K11 hK11 => ?_)
  refine aw_regL ?_
  refine alP (some 7) rfl rfl (does_move (v := .int .i64 v3_0) (by exact rfl)) (by decide) ?_
  refine alP (some 8) rfl rfl (does_move (v := .sl 10 (List.map enc27 a0)) (by exact rfl)) (by decide) ?_
  refine alP (some 9) rfl rfl ((does_len_sl (by conv => lhs; whnf) ty22).castp (v' := .int .i64 (List.length a0 : Int)) (by exact len_map _)) (by decide) ?_
  refine alP (some 10) rfl rfl (does_bin (v := .bool (decide (v3_0 < (List.length a0 : Int)))) (by conv => lhs; whnf) (by conv => lhs; whnf) rfl) (by decide) ?_
  refine al_nil ?_
  refine hK11 _ ?_
  refine aw_bool (b := (decide (v3_0 < (List.length a0 : Int)))) 10 rfl (fun c12 => ?_) (fun c12 => ?_)
  ·have h := ifT c12 h
   refine aw_cond_t (by decide) rfl ?_
   refine aw_skip ?_
   refine hK10 _ ?_
   refine aw_seq_k (fun K13 hK13 => ?_)
   refine aw_block ?_
   refine aw_seq_k (fun K14 hK14 => ?_)
   refine aw_regL ?_
   refine alP (some 13) rfl rfl (does_move (v := .sl 10 (List.map enc27 a0)) (by exact rfl)) (by decide) ?_
   refine alP (some 14) rfl rfl (does_move (v := .int .i64 v3_0) (by exact rfl)) (by decide) ?_
   obtain ⟨g15, h⟩ := gd_some h
   obtain ⟨x16, hx16, h⟩ := bnd_some h
   refine alP (some 15) rfl rfl (does_indexAddr_sl (el := .agg [.int .u64 x16.Trace.Hi, .int .u64 x16.Trace.Lo, .int .u64 x16.Id, .int .u64 x16.Parent, .str x16.Service, .str x16.Op, .int .i64 x16.Start, .int .i64 x16.Dur, .bool x16.Err, .sl 2 (List.map enc39 x16.Attrs)]) (by conv => lhs; whnf) (by conv => lhs; whnf) ty22 ty28 g15 (by exact map_get hx16)) (by decide) ?_
   refine alR (some 16) rfl rfl (does_load (v := .agg [.int .u64 x16.Trace.Hi, .int .u64 x16.Trace.Lo, .int .u64 x16.Id, .int .u64 x16.Parent, .str x16.Service, .str x16.Op, .int .i64 x16.Start, .int .i64 x16.Dur, .bool x16.Err, .sl 2 (List.map enc39 x16.Attrs)]) (by conv => lhs; whnf) (by conv => lhs; whnf) ty28 (by exact rfl)) (by decide) ?_
   obtain ⟨x17, hx17, h⟩ := bnd_some h
   refine alD (some 17) rfl rfl (do_call0 17 false (gleaninglaw3_Few_ok x16 hx17) rfl ent8 rfl rfl) (by decide) ?_
   refine alP (some 18) rfl rfl (does_un (v := .bool (!x17)) (by conv => lhs; whnf) rfl) (by decide) ?_
   refine al_nil ?_
   refine hK14 _ ?_
   refine aw_bool (b := (!x17)) 18 rfl (fun c18 => ?_) (fun c18 => ?_)
   ·have h := ifT c18 h
    refine aw_cond_t (by decide) rfl ?_
    refine aw_seq_k (fun K19 hK19 => ?_)
    refine aw_regL ?_
    refine alP (some 2) rfl rfl (does_assign (v := .bool false) (by exact rfl)) (by decide) ?_
    refine al_nil ?_
    refine hK19 _ ?_
    refine aw_ret ?_
    have h := leafR h hq9
    obtain rfl := Option.some.inj h
    exact ret_ok1 (by conv => lhs; whnf) (by conv => lhs; whnf) (by exact rfl) (.inr rfl) rfl
   ·have h := ifF c18 h
    refine aw_cond_f (by decide) rfl ?_
    refine aw_skip ?_
    refine hK13 _ ?_
    refine aw_regL ?_
    refine alP (some 11) rfl rfl (does_move (v := .int .i64 v3_0) (by exact rfl)) (by decide) ?_
    refine alP (some 12) rfl rfl (does_bin (v := .int .i64 (IntKind.i64.wrap (v3_0 + 1))) (by conv => lhs; whnf) (by conv => lhs; whnf) rfl) (by decide) ?_
    refine alP (some 3) rfl rfl (does_assign (v := .int .i64 (IntKind.i64.wrap (v3_0 + 1))) (by exact rfl)) (by decide) ?_
    refine al_nil ?_
    have h := leafL h hq9
    exact ⟨m0, Nat.lt_succ_self _, _, reb_lit [(0, .sl 10 (List.map enc27 a0)), (3, .int .i64 (IntKind.i64.wrap (v3_0 + 1)))] [] [] [] (envOk_cons (by conv => lhs; whnf) (by exact rfl) (envOk_cons (by conv => lhs; whnf) (by exact rfl) envOk_nil)) objOk_nil (nodup_b rfl) (nodup_b rfl) rfl rfl, (IntKind.i64.wrap (v3_0 + 1)), h, rfl⟩
  ·have h := ifF c12 h
   refine aw_cond_f (by decide) rfl ?_
   refine aw_exit ?_
   have h := leafR h hq9
   refine hK6 _ ?_
   refine aw_seq_k (fun K20 hK20 => ?_)
   refine aw_regL ?_
   refine alP (some 2) rfl rfl (does_assign (v := .bool true) (by exact rfl)) (by decide) ?_
   refine al_nil ?_
   refine hK20 _ ?_
   refine aw_ret ?_
   obtain rfl := Option.some.inj h
   exact ret_ok1 (by conv => lhs; whnf) (by conv => lhs; whnf) (by exact rfl) (.inr rfl) rfl
theorem sh22 : ∀ (m : Nat) (cs : List PV), Shape Try.prog m 22 cs → ∃ a : List Span, cs = [.sl 10 (List.map enc27 a)] ∧ ((List.length a) ≤ maxLen ∧ ∀ y ∈ a, Span.wf y) := fun m cs h => by
 obtain ⟨l, h1, h2, h3⟩ := shape_rows (f := enc27) (Q := fun y => Span.wf y) h Try.underlying22 (fun m ps hs => by
  obtain ⟨a, rfl, hw⟩ := sh28 m ps hs
  exact ⟨a, by rw [show aggT Try.prog 28 = true by kernel_rfl]; rfl, hw⟩)
 exact ⟨l, h1.trans (by rw [show Try.prog.cellsOf 28 = 10 by kernel_rfl]), h2, h3⟩
end Go.Proofs.Ytmompdklolomfaa.Ab
namespace Go.Proofs.Ytmompdklolomfaa.Ab
open Go Go.RowKit
set_option linter.unusedVariables false
set_option linter.unusedSimpArgs false
theorem ty3 : tyOf Try.prog 3 = some ⟨.int .i64, 1, 8, [.int .i64 0]⟩ := by kernel_rfl
theorem ent17 : Ent Try.prog 17 := ⟨_, Try.func17, by kernel_rfl, rfl⟩
theorem ent18 : Ent Try.prog 18 := ⟨_, Try.func18, by kernel_rfl, rfl⟩
theorem ent27 : Ent Try.prog 27 := ⟨_, Try.func27, by kernel_rfl, rfl⟩
theorem ent28 : Ent Try.prog 28 := ⟨_, Try.func28, by kernel_rfl, rfl⟩
theorem ent29 : Ent Try.prog 29 := ⟨_, Try.func29, by kernel_rfl, rfl⟩
theorem ent30 : Ent Try.prog 30 := ⟨_, Try.func30, by kernel_rfl, rfl⟩
theorem ent31 : Ent Try.prog 31 := ⟨_, Try.func31, by kernel_rfl, rfl⟩
theorem ent38 : Ent Try.prog 38 := ⟨_, Try.func38, by kernel_rfl, rfl⟩
theorem ent39 : Ent Try.prog 39 := ⟨_, Try.func39, by kernel_rfl, rfl⟩
theorem ent40 : Ent Try.prog 40 := ⟨_, Try.func40, by kernel_rfl, rfl⟩
theorem ent54 : Ent Try.prog 54 := ⟨_, Try.func54, by kernel_rfl, rfl⟩
def span_Name (a0 : ByteArray) : Option Bool :=
 if (decide ((1 : Int) ≤ (ByteArray.size a0 : Int))) = true then (some (decide ((ByteArray.size a0 : Int) ≤ 16))) else (some false)
set_option maxRecDepth 100000 in
set_option maxHeartbeats 8000000 in
theorem span_Name_ok (a0 : ByteArray) {r : Bool} (h : span_Name a0 = some r) : Ok Try.prog 27 [.str a0] [] [] (.bool r) [] [] := by
 unfold span_Name at h
 refine ok_of_code Try.func27 rfl (by show (1 : Nat) ≤ _; decide) (Nat.le_refl _) fun X => ?_
 refine aw_seq_k (fun K1 hK1 => ?_)
 refine aw_regL ?_
 refine alP (some 2) rfl rfl (does_assign (v := .bool false) (by exact rfl)) (by decide) ?_
 refine al_nil ?_
 refine hK1 _ ?_
 refine aw_seq_k (fun K2 hK2 => ?_)
 refine aw_regL ?_
 refine alP (some 3) rfl rfl (does_move (v := .str a0) (by exact rfl)) (by decide) ?_
 refine alP (some 4) rfl rfl (does_len_str (by conv => lhs; whnf) ty9) (by decide) ?_
 refine alP (some 5) rfl rfl (does_bin (v := .bool (decide ((1 : Int) ≤ (ByteArray.size a0 : Int)))) (by conv => lhs; whnf) (by conv => lhs; whnf) rfl) (by decide) ?_
 refine alP (some 6) rfl rfl (does_move (v := .bool (decide ((1 : Int) ≤ (ByteArray.size a0 : Int)))) (by exact rfl)) (by decide) ?_
 refine al_bool (c := (decide ((1 : Int) ≤ (ByteArray.size a0 : Int)))) 6 rfl (fun c3 => ?_) (fun c3 => ?_)
 ·have h := ifT c3 h
  refine alP (some 7) rfl rfl (does_move (v := .str a0) (by exact rfl)) (by decide) ?_
  refine alP (some 8) rfl rfl (does_len_str (by conv => lhs; whnf) ty9) (by decide) ?_
  refine alP (some 9) rfl rfl (does_bin (v := .bool (decide ((ByteArray.size a0 : Int) ≤ 16))) (by conv => lhs; whnf) (by conv => lhs; whnf) rfl) (by decide) ?_
  refine alP (some 10) rfl rfl (does_pick (v := .bool (decide ((ByteArray.size a0 : Int) ≤ 16))) (by conv => lhs; whnf) (by exact rfl)) (by decide) ?_
  refine alP (some 2) rfl rfl (does_assign (v := .bool (decide ((ByteArray.size a0 : Int) ≤ 16))) (by exact rfl)) (by decide) ?_
  refine al_nil ?_
  refine hK2 _ ?_
  refine aw_ret ?_
  obtain rfl := Option.some.inj h
  exact ret_ok1 (by conv => lhs; whnf) (by conv => lhs; whnf) (by exact rfl) (.inr rfl) rfl
 ·have h := ifF c3 h
  refine alS (some 7) rfl rfl (by decide) ?_
  refine alS (some 8) rfl rfl (by decide) ?_
  refine alS (some 9) rfl rfl (by decide) ?_
  refine alP (some 10) rfl rfl (does_pick (v := .bool false) (by conv => lhs; whnf) (by exact rfl)) (by decide) ?_
  refine alP (some 2) rfl rfl (does_assign (v := .bool false) (by exact rfl)) (by decide) ?_
  refine al_nil ?_
  refine hK2 _ ?_
  refine aw_ret ?_
  obtain rfl := Option.some.inj h
  exact ret_ok1 (by conv => lhs; whnf) (by conv => lhs; whnf) (by exact rfl) (.inr rfl) rfl
def span_attrs_c1 (a0 : Attr) (a1 : Attr) : Option Bool :=
 some (ByteArray.toList a0.Key == ByteArray.toList a1.Key)
set_option maxRecDepth 100000 in
set_option maxHeartbeats 8000000 in
theorem span_attrs_c1_ok (a0 : Attr) (a1 : Attr) {r : Bool} (h : span_attrs_c1 a0 a1 = some r) : Ok Try.prog 39 [.agg [.str a0.Key, .str a0.Value], .rptr [.str a1.Key, .str a1.Value]] [] [] (.bool r) [] [] := by
 unfold span_attrs_c1 at h
 refine ok_of_code Try.func39 rfl (by show (2 : Nat) ≤ _; decide) (Nat.le_refl _) fun X => ?_
 refine aw_seq_k (fun K1 hK1 => ?_)
 refine aw_regL ?_
 refine alD (some 2) rfl rfl (do_box (by conv => lhs; whnf) rfl rfl) (by decide) ?_
 refine alP (some 3) rfl rfl (does_assign (v := .bool false) (by exact rfl)) (by decide) ?_
 refine al_nil ?_
 refine hK1 _ ?_
 refine aw_seq_k (fun K2 hK2 => ?_)
 refine aw_regL ?_
 refine alP (some 4) rfl rfl (does_fieldAddr (q := .ptr 2 0 0) (by conv => lhs; whnf) ty40 rfl ty9 (by decide) (by exact rfl)) (by decide) ?_
 refine alR (some 5) rfl rfl (does_load (v := .str a0.Key) (by conv => lhs; whnf) (by conv => lhs; whnf) ty9 (by exact rfl)) (by decide) ?_
 refine alP (some 6) rfl rfl (does_fieldAddr (q := .rptr [.str a1.Key, .str a1.Value]) (by conv => lhs; whnf) ty40 rfl ty9 (by decide) (by exact rfl)) (by decide) ?_
 refine alR (some 7) rfl rfl (does_load (v := .str a1.Key) (by conv => lhs; whnf) (by conv => lhs; whnf) ty9 (by exact rfl)) (by decide) ?_
 refine alP (some 8) rfl rfl (does_bin (v := .bool (ByteArray.toList a0.Key == ByteArray.toList a1.Key)) (by conv => lhs; whnf) (by conv => lhs; whnf) rfl) (by decide) ?_
 refine alP (some 3) rfl rfl (does_assign (v := .bool (ByteArray.toList a0.Key == ByteArray.toList a1.Key)) (by exact rfl)) (by decide) ?_
 refine al_nil ?_
 refine hK2 _ ?_
 refine aw_ret ?_
 obtain rfl := Option.some.inj h
 exact ret_ok1 (by conv => lhs; whnf) (by conv => lhs; whnf) (by exact rfl) (.inr rfl) rfl
def slices_IndexFunc_Attr_span_attrs_c1_l0 (a0 : List Attr) (a1_0 : Attr) (v8_0 : Int) : Option (Int ⊕ Int) :=
 if (decide (v8_0 < (List.length a0 : Int))) = true then (gd (0 ≤ v8_0) (Option.bind (a0[(Int.toNat v8_0)]?) (fun (x13 : Attr) => Option.bind (span_attrs_c1 x13 a1_0) (fun (x14 : Bool) => if x14 = true then (some (Sum.inr v8_0)) else (some (Sum.inl (IntKind.i64.wrap (v8_0 + 1)))))))) else (some (Sum.inr (-1)))
def slices_IndexFunc_Attr_span_attrs_c1 (a0 : List Attr) (a1_0 : Attr) : Option Int :=
 loopN (fun (s : Int) => slices_IndexFunc_Attr_span_attrs_c1_l0 a0 a1_0 s) Fu 0
set_option maxRecDepth 100000 in
set_option maxHeartbeats 8000000 in
theorem slices_IndexFunc_Attr_span_attrs_c1_ok (a0 : List Attr) (a1_0 : Attr) {r : Int} (h : slices_IndexFunc_Attr_span_attrs_c1 a0 a1_0 = some r) : Ok Try.prog 54 [.sl 2 (List.map enc39 a0), .fn 39 [.rptr [.str a1_0.Key, .str a1_0.Value]]] [] [] (.int .i64 r) [] [] := by
 unfold slices_IndexFunc_Attr_span_attrs_c1 at h
 refine ok_of_code Try.func54 rfl (by show (2 : Nat) ≤ _; decide) (Nat.le_refl _) fun X => ?_
 refine aw_seq_k (fun K1 hK1 => ?_)
 refine aw_regL ?_
 refine alP (some 4) rfl rfl (does_assign (v := .int .i64 0) (by exact rfl)) (by decide) ?_
 refine al_nil ?_
 refine hK1 _ ?_
 refine aw_seq_k (fun K2 hK2 => ?_)
 refine aw_seq_k (fun K3 hK3 => ?_)
 refine aw_regL ?_
 refine alP (some 6) rfl rfl (does_move (v := .sl 2 (List.map enc39 a0)) (by exact rfl)) (by decide) ?_
 refine alP (some 7) rfl rfl ((does_len_sl (by conv => lhs; whnf) ty26).castp (v' := .int .i64 (List.length a0 : Int)) (by exact len_map _)) (by decide) ?_
 refine alP (some 8) rfl rfl (does_move (v := .int .i64 0) (by exact rfl)) (by decide) ?_
 refine al_nil ?_
 refine hK3 _ ?_
 refine aw_block ?_
 refine aw_loop' (fun m s => ∃ (v8_0 : Int), loopN (fun (s : Int) => slices_IndexFunc_Attr_span_attrs_c1_l0 a0 a1_0 s) m v8_0 = some r ∧ s = lit [(0, .sl 2 (List.map enc39 a0)), (1, .fn 39 [.rptr [.str a1_0.Key, .str a1_0.Value]]), (7, .int .i64 (List.length a0 : Int)), (8, .int .i64 v8_0)] [] [] X) Fu
  ⟨_, reb_lit [(0, .sl 2 (List.map enc39 a0)), (1, .fn 39 [.rptr [.str a1_0.Key, .str a1_0.Value]]), (7, .int .i64 (List.length a0 : Int)), (8, .int .i64 (0))] [] [] [] (envOk_cons (by conv => lhs; whnf) (by exact rfl) (envOk_cons (by conv => lhs; whnf) (by exact rfl) (envOk_cons (by conv => lhs; whnf) (by exact rfl) (envOk_cons (by conv => lhs; whnf) (by exact rfl) envOk_nil)))) objOk_nil (nodup_b rfl) (nodup_b rfl) rfl rfl, 0, h, rfl⟩ ?_
 rintro m s ⟨v8_0, h, rfl⟩
 obtain ⟨m0, q4, rfl, h, hq5⟩ := loop_some h
 replace h : slices_IndexFunc_Attr_span_attrs_c1_l0 a0 a1_0 v8_0 = some q4 := h
 unfold slices_IndexFunc_Attr_span_attrs_c1_l0 at h
 refine aw_seq_k (fun K6 hK6 => ?_)
 refine aw_regL ?_
 refine alP (some 9) rfl rfl (does_bin (v := .bool (decide (v8_0 < (List.length a0 : Int)))) (by conv => lhs; whnf) (by conv => lhs; whnf) rfl) (by decide) ?_
 refine al_nil ?_
 refine hK6 _ ?_
 refine aw_seq_k (fun K7 hK7 => ?_)
 refine aw_bool (b := (decide (v8_0 < (List.length a0 : Int)))) 9 rfl (fun c8 => ?_) (fun c8 => ?_)
 ·have h := ifT c8 h
  refine aw_cond_t (by decide) rfl ?_
  refine aw_skip ?_
  refine hK7 _ ?_
  refine aw_seq_k (fun K9 hK9 => ?_)
  refine aw_block ?_
  refine aw_seq_k (fun K10 hK10 => ?_)
  refine aw_regL ?_
  refine alP (some 10) rfl rfl (does_move (v := .int .i64 v8_0) (by exact rfl)) (by decide) ?_
  refine alP (some 5) rfl rfl (does_assign (v := .int .i64 v8_0) (by exact rfl)) (by decide) ?_
  refine al_nil ?_
  refine hK10 _ ?_
  refine aw_seq_k (fun K11 hK11 => ?_)
  refine aw_regL ?_
  refine alP (some 11) rfl rfl (does_move (v := .fn 39 [.rptr [.str a1_0.Key, .str a1_0.Value]]) (by exact rfl)) (by decide) ?_
  refine alP (some 12) rfl rfl (does_move (v := .sl 2 (List.map enc39 a0)) (by exact rfl)) (by decide) ?_
  refine alP (some 13) rfl rfl (does_move (v := .int .i64 v8_0) (by exact rfl)) (by decide) ?_
  obtain ⟨g12, h⟩ := gd_some h
  obtain ⟨x13, hx13, h⟩ := bnd_some h
  refine alP (some 14) rfl rfl (does_indexAddr_sl (el := .agg [.str x13.Key, .str x13.Value]) (by conv => lhs; whnf) (by conv => lhs; whnf) ty26 ty40 g12 (by exact map_get hx13)) (by decide) ?_
  refine alR (some 15) rfl rfl (does_load (v := .agg [.str x13.Key, .str x13.Value]) (by conv => lhs; whnf) (by conv => lhs; whnf) ty40 (by exact rfl)) (by decide) ?_
  obtain ⟨x14, hx14, h⟩ := bnd_some h
  refine alD (some 16) rfl rfl (do_call0 16 false (span_attrs_c1_ok x13 a1_0 hx14) rfl ent39 rfl rfl) (by decide) ?_
  refine al_nil ?_
  refine hK11 _ ?_
  refine aw_bool (b := x14) 16 rfl (fun c15 => ?_) (fun c15 => ?_)
  ·have h := ifT c15 h
   refine aw_cond_t (by decide) rfl ?_
   refine aw_seq_k (fun K16 hK16 => ?_)
   refine aw_regL ?_
   refine alP (some 17) rfl rfl (does_move (v := .int .i64 v8_0) (by exact rfl)) (by decide) ?_
   refine alP (some 4) rfl rfl (does_assign (v := .int .i64 v8_0) (by exact rfl)) (by decide) ?_
   refine al_nil ?_
   refine hK16 _ ?_
   refine aw_ret ?_
   have h := leafR h hq5
   obtain rfl := Option.some.inj h
   exact ret_ok1 (by conv => lhs; whnf) (by conv => lhs; whnf) (by exact rfl) (.inr rfl) rfl
  ·have h := ifF c15 h
   refine aw_cond_f (by decide) rfl ?_
   refine aw_skip ?_
   refine hK9 _ ?_
   refine aw_regL ?_
   refine alP (some 18) rfl rfl (does_bin (v := .int .i64 (IntKind.i64.wrap (v8_0 + 1))) (by conv => lhs; whnf) (by conv => lhs; whnf) rfl) (by decide) ?_
   refine alP (some 8) rfl rfl (does_move (v := .int .i64 (IntKind.i64.wrap (v8_0 + 1))) (by exact rfl)) (by decide) ?_
   refine al_nil ?_
   have h := leafL h hq5
   exact ⟨m0, Nat.lt_succ_self _, _, reb_lit [(0, .sl 2 (List.map enc39 a0)), (1, .fn 39 [.rptr [.str a1_0.Key, .str a1_0.Value]]), (7, .int .i64 (List.length a0 : Int)), (8, .int .i64 (IntKind.i64.wrap (v8_0 + 1)))] [] [] [] (envOk_cons (by conv => lhs; whnf) (by exact rfl) (envOk_cons (by conv => lhs; whnf) (by exact rfl) (envOk_cons (by conv => lhs; whnf) (by exact rfl) (envOk_cons (by conv => lhs; whnf) (by exact rfl) envOk_nil)))) objOk_nil (nodup_b rfl) (nodup_b rfl) rfl rfl, (IntKind.i64.wrap (v8_0 + 1)), h, rfl⟩
 ·have h := ifF c8 h
  refine aw_cond_f (by decide) rfl ?_
  refine aw_exit ?_
  have h := leafR h hq5
  refine hK2 _ ?_
  refine aw_seq_k (fun K17 hK17 => ?_)
  refine aw_regL ?_
  refine alP (some 4) rfl rfl (does_assign (v := .int .i64 (-1)) (by exact rfl)) (by decide) ?_
  refine al_nil ?_
  refine hK17 _ ?_
  refine aw_ret ?_
  obtain rfl := Option.some.inj h
  exact ret_ok1 (by conv => lhs; whnf) (by conv => lhs; whnf) (by exact rfl) (.inr rfl) rfl
def slices_ContainsFunc_Attr_span_attrs_c1 (a0 : List Attr) (a1_0 : Attr) : Option Bool :=
 Option.bind (slices_IndexFunc_Attr_span_attrs_c1 a0 a1_0) (fun (x3 : Int) => some (decide ((0 : Int) ≤ x3)))
set_option maxRecDepth 100000 in
set_option maxHeartbeats 8000000 in
theorem slices_ContainsFunc_Attr_span_attrs_c1_ok (a0 : List Attr) (a1_0 : Attr) {r : Bool} (h : slices_ContainsFunc_Attr_span_attrs_c1 a0 a1_0 = some r) : Ok Try.prog 38 [.sl 2 (List.map enc39 a0), .fn 39 [.rptr [.str a1_0.Key, .str a1_0.Value]]] [] [] (.bool r) [] [] := by
 unfold slices_ContainsFunc_Attr_span_attrs_c1 at h
 refine ok_of_code Try.func38 rfl (by show (2 : Nat) ≤ _; decide) (Nat.le_refl _) fun X => ?_
 refine aw_seq_k (fun K1 hK1 => ?_)
 refine aw_regL ?_
 refine alP (some 4) rfl rfl (does_assign (v := .bool false) (by exact rfl)) (by decide) ?_
 refine al_nil ?_
 refine hK1 _ ?_
 refine aw_seq_k (fun K2 hK2 => ?_)
 refine aw_regL ?_
 refine alP (some 5) rfl rfl (does_move (v := .sl 2 (List.map enc39 a0)) (by exact rfl)) (by decide) ?_
 refine alP (some 6) rfl rfl (does_move (v := .fn 39 [.rptr [.str a1_0.Key, .str a1_0.Value]]) (by exact rfl)) (by decide) ?_
 obtain ⟨x3, hx3, h⟩ := bnd_some h
 refine alD (some 7) rfl rfl (do_call0 7 false (slices_IndexFunc_Attr_span_attrs_c1_ok a0 a1_0 hx3) rfl ent54 rfl rfl) (by decide) ?_
 refine alP (some 8) rfl rfl (does_bin (v := .bool (decide ((0 : Int) ≤ x3))) (by conv => lhs; whnf) (by conv => lhs; whnf) rfl) (by decide) ?_
 refine alP (some 4) rfl rfl (does_assign (v := .bool (decide ((0 : Int) ≤ x3))) (by exact rfl)) (by decide) ?_
 refine al_nil ?_
 refine hK2 _ ?_
 refine aw_ret ?_
 obtain rfl := Option.some.inj h
 exact ret_ok1 (by conv => lhs; whnf) (by conv => lhs; whnf) (by exact rfl) (.inr rfl) rfl
def span_attrs_l1 (a0 : List Attr) (v7_1 : Int) : Option (Int ⊕ (Unit ⊕ Bool)) :=
 if (decide (v7_1 < (List.length a0 : Int))) = true then (gd (0 ≤ v7_1) (Option.bind (a0[(Int.toNat v7_1)]?) (fun (x13 : Attr) => Option.bind (span_Name x13.Key) (fun (x15 : Bool) => if (!x15) = true then (some (Sum.inr (Sum.inr false))) else (if (decide ((16 : Int) < (ByteArray.size x13.Value : Int))) = true then (some (Sum.inr (Sum.inr false))) else (gd (0 ≤ v7_1) (gd (v7_1 ≤ (List.length a0 : Int)) (Option.bind (slices_ContainsFunc_Attr_span_attrs_c1 (List.take (Int.toNat v7_1) a0) x13) (fun (x22 : Bool) => if x22 = true then (some (Sum.inr (Sum.inr false))) else (some (Sum.inl (IntKind.i64.wrap (v7_1 + 1))))))))))))) else (some (Sum.inr (Sum.inl ())))
def span_attrs_k0 (a0 : List Attr) : Option Bool :=
 some (decide ((List.length a0 : Int) ≤ 4))
def span_attrs (a0 : List Attr) : Option Bool :=
 Option.bind (loopN (fun (s : Int) => span_attrs_l1 a0 s) Fu 0) (Sum.elim (fun (s : Unit) => span_attrs_k0 a0) some)
set_option maxRecDepth 100000 in
set_option maxHeartbeats 8000000 in
theorem span_attrs_ok (a0 : List Attr) {r : Bool} (h : span_attrs a0 = some r) : Ok Try.prog 28 [.sl 2 (List.map enc39 a0)] [] [] (.bool r) [] [] := by
 unfold span_attrs at h
 refine ok_of_code Try.func28 rfl (by show (1 : Nat) ≤ _; decide) (Nat.le_refl _) fun X => ?_
 refine aw_seq_k (fun K1 hK1 => ?_)
 refine aw_regL ?_
 refine alP (some 2) rfl rfl (does_assign (v := .bool false) (by exact rfl)) (by decide) ?_
 refine al_nil ?_
 refine hK1 _ ?_
 obtain ⟨q2, h, hk3⟩ := bnd_some h
 refine aw_cut (fun s => span_attrs_k0 a0 = some r ∧ s = lit [(0, .sl 2 (List.map enc39 a0))] [] [] X) ?_ ?_
 ·skip
  refine aw_seq_k (fun K4 hK4 => ?_)
  refine aw_regL ?_
  refine alP (some 5) rfl rfl (does_move (v := .sl 2 (List.map enc39 a0)) (by exact rfl)) (by decide) ?_
  refine alP (some 6) rfl rfl ((does_len_sl (by conv => lhs; whnf) ty26).castp (v' := .int .i64 (List.length a0 : Int)) (by exact len_map _)) (by decide) ?_
  refine alP (some 7) rfl rfl (does_move (v := .int .i64 0) (by exact rfl)) (by decide) ?_
  refine al_nil ?_
  refine hK4 _ ?_
  refine aw_block ?_
  refine aw_loop' (fun m s => ∃ (v7_1 : Int), loopN (fun (s : Int) => span_attrs_l1 a0 s) m v7_1 = some q2 ∧ s = lit [(0, .sl 2 (List.map enc39 a0)), (5, .sl 2 (List.map enc39 a0)), (6, .int .i64 (List.length a0 : Int)), (7, .int .i64 v7_1)] [] [] X) Fu
   ⟨_, reb_lit [(0, .sl 2 (List.map enc39 a0)), (5, .sl 2 (List.map enc39 a0)), (6, .int .i64 (List.length a0 : Int)), (7, .int .i64 (0))] [] [] [] (envOk_cons (by conv => lhs; whnf) (by exact rfl) (envOk_cons (by conv => lhs; whnf) (by exact rfl) (envOk_cons (by conv => lhs; whnf) (by exact rfl) (envOk_cons (by conv => lhs; whnf) (by exact rfl) envOk_nil)))) objOk_nil (nodup_b rfl) (nodup_b rfl) rfl rfl, 0, h, rfl⟩ ?_
  rintro m s ⟨v7_1, h, rfl⟩
  obtain ⟨m1, q5, rfl, h, hq6⟩ := loop_some h
  replace h : span_attrs_l1 a0 v7_1 = some q5 := h
  unfold span_attrs_l1 at h
  refine aw_seq_k (fun K7 hK7 => ?_)
  refine aw_regL ?_
  refine alP (some 8) rfl rfl (does_bin (v := .bool (decide (v7_1 < (List.length a0 : Int)))) (by conv => lhs; whnf) (by conv => lhs; whnf) rfl) (by decide) ?_
  refine al_nil ?_
  refine hK7 _ ?_
  refine aw_seq_k (fun K8 hK8 => ?_)
  refine aw_bool (b := (decide (v7_1 < (List.length a0 : Int)))) 8 rfl (fun c9 => ?_) (fun c9 => ?_)
  ·have h := ifT c9 h
   refine aw_cond_t (by decide) rfl ?_
   refine aw_skip ?_
   refine hK8 _ ?_
   refine aw_seq_k (fun K10 hK10 => ?_)
   refine aw_block ?_
   refine aw_seq_k (fun K11 hK11 => ?_)
   refine aw_regL ?_
   refine alP (some 9) rfl rfl (does_move (v := .int .i64 v7_1) (by exact rfl)) (by decide) ?_
   obtain ⟨g12, h⟩ := gd_some h
   obtain ⟨x13, hx13, h⟩ := bnd_some h
   refine alP (some 10) rfl rfl (does_indexAddr_sl (el := .agg [.str x13.Key, .str x13.Value]) (by conv => lhs; whnf) (by conv => lhs; whnf) ty26 ty40 g12 (by exact map_get hx13)) (by decide) ?_
   refine alR (some 11) rfl rfl (does_load (v := .agg [.str x13.Key, .str x13.Value]) (by conv => lhs; whnf) (by conv => lhs; whnf) ty40 (by exact rfl)) (by decide) ?_
   refine alD (some 4) rfl rfl (do_new ty40 rfl rfl) (by decide) ?_
   refine alP (some 3) rfl rfl (does_assign (v := .int .i64 v7_1) (by exact rfl)) (by decide) ?_
   refine alD none rfl rfl (do_store (cs' := [.str x13.Key, .str x13.Value]) (by conv => lhs; whnf) (by conv => lhs; whnf) (by conv => lhs; whnf) ty40 rfl rfl rfl (by exact rfl)) (by decide) ?_
   refine al_nil ?_
   refine hK11 _ ?_
   refine aw_seq_k (fun K14 hK14 => ?_)
   refine aw_regL ?_
   refine alP (some 12) rfl rfl (does_fieldAddr (q := .ptr 4 0 0) (by conv => lhs; whnf) ty40 rfl ty9 (by decide) (by exact rfl)) (by decide) ?_
   refine alR (some 13) rfl rfl (does_load (v := .str x13.Key) (by conv => lhs; whnf) (by conv => lhs; whnf) ty9 (by exact rfl)) (by decide) ?_
   obtain ⟨x15, hx15, h⟩ := bnd_some h
   refine alD (some 14) rfl rfl (do_call0 14 false (span_Name_ok x13.Key hx15) rfl ent27 rfl rfl) (by decide) ?_
   refine alP (some 15) rfl rfl (does_un (v := .bool (!x15)) (by conv => lhs; whnf) rfl) (by decide) ?_
   refine alP (some 16) rfl rfl (does_move (v := .bool (!x15)) (by exact rfl)) (by decide) ?_
   refine al_bool (c := (!x15)) 16 rfl (fun c16 => ?_) (fun c16 => ?_)
   ·have h := ifT c16 h
    refine alS (some 17) rfl rfl (by decide) ?_
    refine alS (some 18) rfl rfl (by decide) ?_
    refine alS (some 19) rfl rfl (by decide) ?_
    refine alS (some 20) rfl rfl (by decide) ?_
    refine alP (some 21) rfl rfl (does_pick (v := .bool true) (by conv => lhs; whnf) (by exact rfl)) (by decide) ?_
    refine alP (some 22) rfl rfl (does_move (v := .bool true) (by exact rfl)) (by decide) ?_
    refine alS (some 23) rfl rfl (by decide) ?_
    refine alS (some 24) rfl rfl (by decide) ?_
    refine alS (some 25) rfl rfl (by decide) ?_
    refine alS (some 26) rfl rfl (by decide) ?_
    refine alS (some 27) rfl rfl (by decide) ?_
    refine alP (some 28) rfl rfl (does_pick (v := .bool true) (by conv => lhs; whnf) (by exact rfl)) (by decide) ?_
    refine al_nil ?_
    refine hK14 _ ?_
    refine aw_cond_t (by decide) rfl ?_
    refine aw_seq_k (fun K17 hK17 => ?_)
    refine aw_regL ?_
    refine alP (some 2) rfl rfl (does_assign (v := .bool false) (by exact rfl)) (by decide) ?_
    refine al_nil ?_
    refine hK17 _ ?_
    refine aw_ret ?_
    have h := leafR h hq6
    have h := leafR h hk3
    obtain rfl := Option.some.inj h
    exact ret_ok1 (by conv => lhs; whnf) (by conv => lhs; whnf) (by exact rfl) (.inr rfl) rfl
   ·have h := ifF c16 h
    refine alP (some 17) rfl rfl (does_fieldAddr (q := .ptr 4 0 1) (by conv => lhs; whnf) ty40 rfl ty9 (by decide) (by exact rfl)) (by decide) ?_
    refine alR (some 18) rfl rfl (does_load (v := .str x13.Value) (by conv => lhs; whnf) (by conv => lhs; whnf) ty9 (by exact rfl)) (by decide) ?_
    refine alP (some 19) rfl rfl (does_len_str (by conv => lhs; whnf) ty9) (by decide) ?_
    refine alP (some 20) rfl rfl (does_bin (v := .bool (decide ((16 : Int) < (ByteArray.size x13.Value : Int)))) (by conv => lhs; whnf) (by conv => lhs; whnf) rfl) (by decide) ?_
    refine alP (some 21) rfl rfl (does_pick (v := .bool (decide ((16 : Int) < (ByteArray.size x13.Value : Int)))) (by conv => lhs; whnf) (by exact rfl)) (by decide) ?_
    refine alP (some 22) rfl rfl (does_move (v := .bool (decide ((16 : Int) < (ByteArray.size x13.Value : Int)))) (by exact rfl)) (by decide) ?_
    refine al_bool (c := (decide ((16 : Int) < (ByteArray.size x13.Value : Int)))) 22 rfl (fun c18 => ?_) (fun c18 => ?_)
    ·have h := ifT c18 h
     refine alS (some 23) rfl rfl (by decide) ?_
     refine alS (some 24) rfl rfl (by decide) ?_
     refine alS (some 25) rfl rfl (by decide) ?_
     refine alS (some 26) rfl rfl (by decide) ?_
     refine alS (some 27) rfl rfl (by decide) ?_
     refine alP (some 28) rfl rfl (does_pick (v := .bool true) (by conv => lhs; whnf) (by exact rfl)) (by decide) ?_
     refine al_nil ?_
     refine hK14 _ ?_
     refine aw_cond_t (by decide) rfl ?_
     refine aw_seq_k (fun K19 hK19 => ?_)
     refine aw_regL ?_
     refine alP (some 2) rfl rfl (does_assign (v := .bool false) (by exact rfl)) (by decide) ?_
     refine al_nil ?_
     refine hK19 _ ?_
     refine aw_ret ?_
     have h := leafR h hq6
     have h := leafR h hk3
     obtain rfl := Option.some.inj h
     exact ret_ok1 (by conv => lhs; whnf) (by conv => lhs; whnf) (by exact rfl) (.inr rfl) rfl
    ·have h := ifF c18 h
     refine alP (some 23) rfl rfl (does_move (v := .sl 2 (List.map enc39 a0)) (by exact rfl)) (by decide) ?_
     refine alP (some 24) rfl rfl (does_move (v := .int .i64 v7_1) (by exact rfl)) (by decide) ?_
     obtain ⟨g20, h⟩ := gd_some h
     obtain ⟨g21, h⟩ := gd_some h
     refine alP (some 25) rfl rfl (does_slice_sl (l := 0) (k := (Int.toNat v7_1)) (by conv => lhs; whnf) ty26 ty40 bd_none (bd_some (by conv => lhs; whnf) (by exact (nat_of (by omega)))) (by (try simp only [List.length_map]); omega) (by (try simp only [List.length_map]); omega) (by exact part_h _ _)) (by decide) ?_
     refine alP (some 26) rfl rfl (does_makeFunc (vs := [.ptr 4 0 0]) rfl) (by decide) ?_
     obtain ⟨x22, hx22, h⟩ := bnd_some h
     refine alD (some 27) rfl rfl (do_callG (bcs := []) [] [] [(4, 0)] 27 false (slices_ContainsFunc_Attr_span_attrs_c1_ok (List.take (Int.toNat v7_1) a0) x13 hx22) rfl ent38 trivial trivial rfl rfl rfl rfl rfl rfl rfl rfl (.inr ⟨rfl, rfl, trivial⟩)) (by decide) ?_
     refine alP (some 28) rfl rfl (does_pick (v := .bool x22) (by conv => lhs; whnf) (by exact rfl)) (by decide) ?_
     refine al_nil ?_
     refine hK14 _ ?_
     refine aw_bool (b := x22) 28 rfl (fun c23 => ?_) (fun c23 => ?_)
     ·have h := ifT c23 h
      refine aw_cond_t (by decide) rfl ?_
      refine aw_seq_k (fun K24 hK24 => ?_)
      refine aw_regL ?_
      refine alP (some 2) rfl rfl (does_assign (v := .bool false) (by exact rfl)) (by decide) ?_
      refine al_nil ?_
      refine hK24 _ ?_
      refine aw_ret ?_
      have h := leafR h hq6
      have h := leafR h hk3
      obtain rfl := Option.some.inj h
      exact ret_ok1 (by conv => lhs; whnf) (by conv => lhs; whnf) (by exact rfl) (.inr rfl) rfl
     ·have h := ifF c23 h
      refine aw_cond_f (by decide) rfl ?_
      refine aw_skip ?_
      refine hK10 _ ?_
      refine aw_regL ?_
      refine alP (some 29) rfl rfl (does_bin (v := .int .i64 (IntKind.i64.wrap (v7_1 + 1))) (by conv => lhs; whnf) (by conv => lhs; whnf) rfl) (by decide) ?_
      refine alP (some 7) rfl rfl (does_move (v := .int .i64 (IntKind.i64.wrap (v7_1 + 1))) (by exact rfl)) (by decide) ?_
      refine al_nil ?_
      have h := leafL h hq6
      exact ⟨m1, Nat.lt_succ_self _, _, reb_lit [(0, .sl 2 (List.map enc39 a0)), (5, .sl 2 (List.map enc39 a0)), (6, .int .i64 (List.length a0 : Int)), (7, .int .i64 (IntKind.i64.wrap (v7_1 + 1)))] [] [] [] (envOk_cons (by conv => lhs; whnf) (by exact rfl) (envOk_cons (by conv => lhs; whnf) (by exact rfl) (envOk_cons (by conv => lhs; whnf) (by exact rfl) (envOk_cons (by conv => lhs; whnf) (by exact rfl) envOk_nil)))) objOk_nil (nodup_b rfl) (nodup_b rfl) rfl rfl, (IntKind.i64.wrap (v7_1 + 1)), h, rfl⟩
  ·have h := ifF c9 h
   refine aw_cond_f (by decide) rfl ?_
   refine aw_exit ?_
   have h := leafR h hq6
   have h := leafL h hk3
   exact ⟨_, reb_lit [(0, .sl 2 (List.map enc39 a0))] [] [] [] (envOk_cons (by conv => lhs; whnf) (by exact rfl) envOk_nil) objOk_nil (nodup_b rfl) (nodup_b rfl) rfl rfl, h, rfl⟩
 ·rintro s ⟨h, rfl⟩
  unfold span_attrs_k0 at h
  refine aw_seq_k (fun K25 hK25 => ?_)
  refine aw_regL ?_
  refine alP (some 30) rfl rfl (does_move (v := .sl 2 (List.map enc39 a0)) (by exact rfl)) (by decide) ?_
  refine alP (some 31) rfl rfl ((does_len_sl (by conv => lhs; whnf) ty26).castp (v' := .int .i64 (List.length a0 : Int)) (by exact len_map _)) (by decide) ?_
  refine alP (some 32) rfl rfl (does_bin (v := .bool (decide ((List.length a0 : Int) ≤ 4))) (by conv => lhs; whnf) (by conv => lhs; whnf) rfl) (by decide) ?_
  refine alP (some 2) rfl rfl (does_assign (v := .bool (decide ((List.length a0 : Int) ≤ 4))) (by exact rfl)) (by decide) ?_
  refine al_nil ?_
  refine hK25 _ ?_
  refine aw_ret ?_
  obtain rfl := Option.some.inj h
  exact ret_ok1 (by conv => lhs; whnf) (by conv => lhs; whnf) (by exact rfl) (.inr rfl) rfl
def span_Right (a0 : Span) : Option Bool :=
 Option.bind (span_Name a0.Service) (fun (x3 : Bool) => if x3 = true then (Option.bind (span_Name a0.Op) (fun (x5 : Bool) => if x5 = true then (if (decide ((0 : Int) ≤ a0.Start)) = true then (if (decide (a0.Start ≤ 1099511627776)) = true then (if (decide ((0 : Int) ≤ a0.Dur)) = true then (if (decide (a0.Dur ≤ 1073741824)) = true then (if (decide ((List.length a0.Attrs : Int) ≤ 4)) = true then (Option.bind (span_attrs a0.Attrs) (fun (x12 : Bool) => some x12)) else (some false)) else (some false)) else (some false)) else (some false)) else (some false)) else (some false))) else (some false))
set_option maxRecDepth 100000 in
set_option maxHeartbeats 8000000 in
theorem span_Right_ok (a0 : Span) {r : Bool} (h : span_Right a0 = some r) : Ok Try.prog 17 [.agg [.int .u64 a0.Trace.Hi, .int .u64 a0.Trace.Lo, .int .u64 a0.Id, .int .u64 a0.Parent, .str a0.Service, .str a0.Op, .int .i64 a0.Start, .int .i64 a0.Dur, .bool a0.Err, .sl 2 (List.map enc39 a0.Attrs)]] [] [] (.bool r) [] [] := by
 unfold span_Right at h
 refine ok_of_code Try.func17 rfl (by show (1 : Nat) ≤ _; decide) (Nat.le_refl _) fun X => ?_
 refine aw_seq_k (fun K1 hK1 => ?_)
 refine aw_regL ?_
 refine alD (some 1) rfl rfl (do_box (by conv => lhs; whnf) rfl rfl) (by decide) ?_
 refine alP (some 2) rfl rfl (does_assign (v := .bool false) (by exact rfl)) (by decide) ?_
 refine al_nil ?_
 refine hK1 _ ?_
 refine aw_seq_k (fun K2 hK2 => ?_)
 refine aw_regL ?_
 refine alP (some 3) rfl rfl (does_fieldAddr (q := .ptr 1 0 4) (by conv => lhs; whnf) ty28 rfl ty9 (by decide) (by exact rfl)) (by decide) ?_
 refine alR (some 4) rfl rfl (does_load (v := .str a0.Service) (by conv => lhs; whnf) (by conv => lhs; whnf) ty9 (by exact rfl)) (by decide) ?_
 obtain ⟨x3, hx3, h⟩ := bnd_some h
 refine alD (some 5) rfl rfl ((do_call0 5 false (span_Name_ok a0.Service hx3) rfl ent27 rfl rfl).fx (y := ⟨[], .bool x3, [], [5]⟩) rfl) (by decide) ?_
 refine alP (some 6) rfl rfl (does_move (v := .bool x3) (by exact rfl)) (by decide) ?_
 refine al_bool (c := x3) 6 rfl (fun c4 => ?_) (fun c4 => ?_)
 ·have h := ifT c4 h
  refine alP (some 7) rfl rfl (does_fieldAddr (q := .ptr 1 0 5) (by conv => lhs; whnf) ty28 rfl ty9 (by decide) (by exact rfl)) (by decide) ?_
  refine alR (some 8) rfl rfl (does_load (v := .str a0.Op) (by conv => lhs; whnf) (by conv => lhs; whnf) ty9 (by exact rfl)) (by decide) ?_
  obtain ⟨x5, hx5, h⟩ := bnd_some h
  refine alD (some 9) rfl rfl ((do_call0 9 false (span_Name_ok a0.Op hx5) rfl ent27 rfl rfl).fx (y := ⟨[], .bool x5, [], [9]⟩) rfl) (by decide) ?_
  refine alP (some 10) rfl rfl (does_pick (v := .bool x5) (by conv => lhs; whnf) (by exact rfl)) (by decide) ?_
  refine alP (some 11) rfl rfl (does_move (v := .bool x5) (by exact rfl)) (by decide) ?_
  refine al_bool (c := x5) 11 rfl (fun c6 => ?_) (fun c6 => ?_)
  ·have h := ifT c6 h
   refine alP (some 12) rfl rfl (does_fieldAddr (q := .ptr 1 0 6) (by conv => lhs; whnf) ty28 rfl ty3 (by decide) (by exact rfl)) (by decide) ?_
   refine alR (some 13) rfl rfl (does_load (v := .int .i64 a0.Start) (by conv => lhs; whnf) (by conv => lhs; whnf) ty3 (by exact rfl)) (by decide) ?_
   refine alP (some 14) rfl rfl (does_bin (v := .bool (decide ((0 : Int) ≤ a0.Start))) (by conv => lhs; whnf) (by conv => lhs; whnf) rfl) (by decide) ?_
   refine alP (some 15) rfl rfl (does_pick (v := .bool (decide ((0 : Int) ≤ a0.Start))) (by conv => lhs; whnf) (by exact rfl)) (by decide) ?_
   refine alP (some 16) rfl rfl (does_move (v := .bool (decide ((0 : Int) ≤ a0.Start))) (by exact rfl)) (by decide) ?_
   refine al_bool (c := (decide ((0 : Int) ≤ a0.Start))) 16 rfl (fun c7 => ?_) (fun c7 => ?_)
   ·have h := ifT c7 h
    refine alP (some 17) rfl rfl (does_fieldAddr (q := .ptr 1 0 6) (by conv => lhs; whnf) ty28 rfl ty3 (by decide) (by exact rfl)) (by decide) ?_
    refine alR (some 18) rfl rfl (does_load (v := .int .i64 a0.Start) (by conv => lhs; whnf) (by conv => lhs; whnf) ty3 (by exact rfl)) (by decide) ?_
    refine alP (some 19) rfl rfl (does_bin (v := .bool (decide (a0.Start ≤ 1099511627776))) (by conv => lhs; whnf) (by conv => lhs; whnf) rfl) (by decide) ?_
    refine alP (some 20) rfl rfl (does_pick (v := .bool (decide (a0.Start ≤ 1099511627776))) (by conv => lhs; whnf) (by exact rfl)) (by decide) ?_
    refine alP (some 21) rfl rfl (does_move (v := .bool (decide (a0.Start ≤ 1099511627776))) (by exact rfl)) (by decide) ?_
    refine al_bool (c := (decide (a0.Start ≤ 1099511627776))) 21 rfl (fun c8 => ?_) (fun c8 => ?_)
    ·have h := ifT c8 h
     refine alP (some 22) rfl rfl (does_fieldAddr (q := .ptr 1 0 7) (by conv => lhs; whnf) ty28 rfl ty3 (by decide) (by exact rfl)) (by decide) ?_
     refine alR (some 23) rfl rfl (does_load (v := .int .i64 a0.Dur) (by conv => lhs; whnf) (by conv => lhs; whnf) ty3 (by exact rfl)) (by decide) ?_
     refine alP (some 24) rfl rfl (does_bin (v := .bool (decide ((0 : Int) ≤ a0.Dur))) (by conv => lhs; whnf) (by conv => lhs; whnf) rfl) (by decide) ?_
     refine alP (some 25) rfl rfl (does_pick (v := .bool (decide ((0 : Int) ≤ a0.Dur))) (by conv => lhs; whnf) (by exact rfl)) (by decide) ?_
     refine alP (some 26) rfl rfl (does_move (v := .bool (decide ((0 : Int) ≤ a0.Dur))) (by exact rfl)) (by decide) ?_
     refine al_bool (c := (decide ((0 : Int) ≤ a0.Dur))) 26 rfl (fun c9 => ?_) (fun c9 => ?_)
     ·have h := ifT c9 h
      refine alP (some 27) rfl rfl (does_fieldAddr (q := .ptr 1 0 7) (by conv => lhs; whnf) ty28 rfl ty3 (by decide) (by exact rfl)) (by decide) ?_
      refine alR (some 28) rfl rfl (does_load (v := .int .i64 a0.Dur) (by conv => lhs; whnf) (by conv => lhs; whnf) ty3 (by exact rfl)) (by decide) ?_
      refine alP (some 29) rfl rfl (does_bin (v := .bool (decide (a0.Dur ≤ 1073741824))) (by conv => lhs; whnf) (by conv => lhs; whnf) rfl) (by decide) ?_
      refine alP (some 30) rfl rfl (does_pick (v := .bool (decide (a0.Dur ≤ 1073741824))) (by conv => lhs; whnf) (by exact rfl)) (by decide) ?_
      refine alP (some 31) rfl rfl (does_move (v := .bool (decide (a0.Dur ≤ 1073741824))) (by exact rfl)) (by decide) ?_
      refine al_bool (c := (decide (a0.Dur ≤ 1073741824))) 31 rfl (fun c10 => ?_) (fun c10 => ?_)
      ·have h := ifT c10 h
       refine alP (some 32) rfl rfl (does_fieldAddr (q := .ptr 1 0 9) (by conv => lhs; whnf) ty28 rfl ty26 (by decide) (by exact rfl)) (by decide) ?_
       refine alR (some 33) rfl rfl (does_load (v := .sl 2 (List.map enc39 a0.Attrs)) (by conv => lhs; whnf) (by conv => lhs; whnf) ty26 (by exact rfl)) (by decide) ?_
       refine alP (some 34) rfl rfl ((does_len_sl (by conv => lhs; whnf) ty26).castp (v' := .int .i64 (List.length a0.Attrs : Int)) (by exact len_map _)) (by decide) ?_
       refine alP (some 35) rfl rfl (does_bin (v := .bool (decide ((List.length a0.Attrs : Int) ≤ 4))) (by conv => lhs; whnf) (by conv => lhs; whnf) rfl) (by decide) ?_
       refine alP (some 36) rfl rfl (does_pick (v := .bool (decide ((List.length a0.Attrs : Int) ≤ 4))) (by conv => lhs; whnf) (by exact rfl)) (by decide) ?_
       refine alP (some 37) rfl rfl (does_move (v := .bool (decide ((List.length a0.Attrs : Int) ≤ 4))) (by exact rfl)) (by decide) ?_
       refine al_bool (c := (decide ((List.length a0.Attrs : Int) ≤ 4))) 37 rfl (fun c11 => ?_) (fun c11 => ?_)
       ·have h := ifT c11 h
        refine alP (some 38) rfl rfl (does_fieldAddr (q := .ptr 1 0 9) (by conv => lhs; whnf) ty28 rfl ty26 (by decide) (by exact rfl)) (by decide) ?_
        refine alR (some 39) rfl rfl (does_load (v := .sl 2 (List.map enc39 a0.Attrs)) (by conv => lhs; whnf) (by conv => lhs; whnf) ty26 (by exact rfl)) (by decide) ?_
        obtain ⟨x12, hx12, h⟩ := bnd_some h
        refine alD (some 40) rfl rfl ((do_call0 40 false (span_attrs_ok a0.Attrs hx12) rfl ent28 rfl rfl).fx (y := ⟨[], .bool x12, [], [40]⟩) rfl) (by decide) ?_
        refine alP (some 41) rfl rfl (does_pick (v := .bool x12) (by conv => lhs; whnf) (by exact rfl)) (by decide) ?_
        refine alP (some 2) rfl rfl (does_assign (v := .bool x12) (by exact rfl)) (by decide) ?_
        refine al_nil ?_
        refine hK2 _ ?_
        refine aw_ret ?_
        obtain rfl := Option.some.inj h
        exact ret_ok1 (by conv => lhs; whnf) (by conv => lhs; whnf) (by exact rfl) (.inr rfl) rfl
       ·have h := ifF c11 h
        refine alS (some 38) rfl rfl (by decide) ?_
        refine alS (some 39) rfl rfl (by decide) ?_
        refine alS (some 40) rfl rfl (by decide) ?_
        refine alP (some 41) rfl rfl (does_pick (v := .bool false) (by conv => lhs; whnf) (by exact rfl)) (by decide) ?_
        refine alP (some 2) rfl rfl (does_assign (v := .bool false) (by exact rfl)) (by decide) ?_
        refine al_nil ?_
        refine hK2 _ ?_
        refine aw_ret ?_
        obtain rfl := Option.some.inj h
        exact ret_ok1 (by conv => lhs; whnf) (by conv => lhs; whnf) (by exact rfl) (.inr rfl) rfl
      ·have h := ifF c10 h
       refine alS (some 32) rfl rfl (by decide) ?_
       refine alS (some 33) rfl rfl (by decide) ?_
       refine alS (some 34) rfl rfl (by decide) ?_
       refine alS (some 35) rfl rfl (by decide) ?_
       refine alP (some 36) rfl rfl (does_pick (v := .bool false) (by conv => lhs; whnf) (by exact rfl)) (by decide) ?_
       refine alP (some 37) rfl rfl (does_move (v := .bool false) (by exact rfl)) (by decide) ?_
       refine alS (some 38) rfl rfl (by decide) ?_
       refine alS (some 39) rfl rfl (by decide) ?_
       refine alS (some 40) rfl rfl (by decide) ?_
       refine alP (some 41) rfl rfl (does_pick (v := .bool false) (by conv => lhs; whnf) (by exact rfl)) (by decide) ?_
       refine alP (some 2) rfl rfl (does_assign (v := .bool false) (by exact rfl)) (by decide) ?_
       refine al_nil ?_
       refine hK2 _ ?_
       refine aw_ret ?_
       obtain rfl := Option.some.inj h
       exact ret_ok1 (by conv => lhs; whnf) (by conv => lhs; whnf) (by exact rfl) (.inr rfl) rfl
     ·have h := ifF c9 h
      refine alS (some 27) rfl rfl (by decide) ?_
      refine alS (some 28) rfl rfl (by decide) ?_
      refine alS (some 29) rfl rfl (by decide) ?_
      refine alP (some 30) rfl rfl (does_pick (v := .bool false) (by conv => lhs; whnf) (by exact rfl)) (by decide) ?_
      refine alP (some 31) rfl rfl (does_move (v := .bool false) (by exact rfl)) (by decide) ?_
      refine alS (some 32) rfl rfl (by decide) ?_
      refine alS (some 33) rfl rfl (by decide) ?_
      refine alS (some 34) rfl rfl (by decide) ?_
      refine alS (some 35) rfl rfl (by decide) ?_
      refine alP (some 36) rfl rfl (does_pick (v := .bool false) (by conv => lhs; whnf) (by exact rfl)) (by decide) ?_
      refine alP (some 37) rfl rfl (does_move (v := .bool false) (by exact rfl)) (by decide) ?_
      refine alS (some 38) rfl rfl (by decide) ?_
      refine alS (some 39) rfl rfl (by decide) ?_
      refine alS (some 40) rfl rfl (by decide) ?_
      refine alP (some 41) rfl rfl (does_pick (v := .bool false) (by conv => lhs; whnf) (by exact rfl)) (by decide) ?_
      refine alP (some 2) rfl rfl (does_assign (v := .bool false) (by exact rfl)) (by decide) ?_
      refine al_nil ?_
      refine hK2 _ ?_
      refine aw_ret ?_
      obtain rfl := Option.some.inj h
      exact ret_ok1 (by conv => lhs; whnf) (by conv => lhs; whnf) (by exact rfl) (.inr rfl) rfl
    ·have h := ifF c8 h
     refine alS (some 22) rfl rfl (by decide) ?_
     refine alS (some 23) rfl rfl (by decide) ?_
     refine alS (some 24) rfl rfl (by decide) ?_
     refine alP (some 25) rfl rfl (does_pick (v := .bool false) (by conv => lhs; whnf) (by exact rfl)) (by decide) ?_
     refine alP (some 26) rfl rfl (does_move (v := .bool false) (by exact rfl)) (by decide) ?_
     refine alS (some 27) rfl rfl (by decide) ?_
     refine alS (some 28) rfl rfl (by decide) ?_
     refine alS (some 29) rfl rfl (by decide) ?_
     refine alP (some 30) rfl rfl (does_pick (v := .bool false) (by conv => lhs; whnf) (by exact rfl)) (by decide) ?_
     refine alP (some 31) rfl rfl (does_move (v := .bool false) (by exact rfl)) (by decide) ?_
     refine alS (some 32) rfl rfl (by decide) ?_
     refine alS (some 33) rfl rfl (by decide) ?_
     refine alS (some 34) rfl rfl (by decide) ?_
     refine alS (some 35) rfl rfl (by decide) ?_
     refine alP (some 36) rfl rfl (does_pick (v := .bool false) (by conv => lhs; whnf) (by exact rfl)) (by decide) ?_
     refine alP (some 37) rfl rfl (does_move (v := .bool false) (by exact rfl)) (by decide) ?_
     refine alS (some 38) rfl rfl (by decide) ?_
     refine alS (some 39) rfl rfl (by decide) ?_
     refine alS (some 40) rfl rfl (by decide) ?_
     refine alP (some 41) rfl rfl (does_pick (v := .bool false) (by conv => lhs; whnf) (by exact rfl)) (by decide) ?_
     refine alP (some 2) rfl rfl (does_assign (v := .bool false) (by exact rfl)) (by decide) ?_
     refine al_nil ?_
     refine hK2 _ ?_
     refine aw_ret ?_
     obtain rfl := Option.some.inj h
     exact ret_ok1 (by conv => lhs; whnf) (by conv => lhs; whnf) (by exact rfl) (.inr rfl) rfl
   ·have h := ifF c7 h
    refine alS (some 17) rfl rfl (by decide) ?_
    refine alS (some 18) rfl rfl (by decide) ?_
    refine alS (some 19) rfl rfl (by decide) ?_
    refine alP (some 20) rfl rfl (does_pick (v := .bool false) (by conv => lhs; whnf) (by exact rfl)) (by decide) ?_
    refine alP (some 21) rfl rfl (does_move (v := .bool false) (by exact rfl)) (by decide) ?_
    refine alS (some 22) rfl rfl (by decide) ?_
    refine alS (some 23) rfl rfl (by decide) ?_
    refine alS (some 24) rfl rfl (by decide) ?_
    refine alP (some 25) rfl rfl (does_pick (v := .bool false) (by conv => lhs; whnf) (by exact rfl)) (by decide) ?_
    refine alP (some 26) rfl rfl (does_move (v := .bool false) (by exact rfl)) (by decide) ?_
    refine alS (some 27) rfl rfl (by decide) ?_
    refine alS (some 28) rfl rfl (by decide) ?_
    refine alS (some 29) rfl rfl (by decide) ?_
    refine alP (some 30) rfl rfl (does_pick (v := .bool false) (by conv => lhs; whnf) (by exact rfl)) (by decide) ?_
    refine alP (some 31) rfl rfl (does_move (v := .bool false) (by exact rfl)) (by decide) ?_
    refine alS (some 32) rfl rfl (by decide) ?_
    refine alS (some 33) rfl rfl (by decide) ?_
    refine alS (some 34) rfl rfl (by decide) ?_
    refine alS (some 35) rfl rfl (by decide) ?_
    refine alP (some 36) rfl rfl (does_pick (v := .bool false) (by conv => lhs; whnf) (by exact rfl)) (by decide) ?_
    refine alP (some 37) rfl rfl (does_move (v := .bool false) (by exact rfl)) (by decide) ?_
    refine alS (some 38) rfl rfl (by decide) ?_
    refine alS (some 39) rfl rfl (by decide) ?_
    refine alS (some 40) rfl rfl (by decide) ?_
    refine alP (some 41) rfl rfl (does_pick (v := .bool false) (by conv => lhs; whnf) (by exact rfl)) (by decide) ?_
    refine alP (some 2) rfl rfl (does_assign (v := .bool false) (by exact rfl)) (by decide) ?_
    refine al_nil ?_
    refine hK2 _ ?_
    refine aw_ret ?_
    obtain rfl := Option.some.inj h
    exact ret_ok1 (by conv => lhs; whnf) (by conv => lhs; whnf) (by exact rfl) (.inr rfl) rfl
  ·have h := ifF c6 h
   refine alS (some 12) rfl rfl (by decide) ?_
   refine alS (some 13) rfl rfl (by decide) ?_
   refine alS (some 14) rfl rfl (by decide) ?_
   refine alP (some 15) rfl rfl (does_pick (v := .bool false) (by conv => lhs; whnf) (by exact rfl)) (by decide) ?_
   refine alP (some 16) rfl rfl (does_move (v := .bool false) (by exact rfl)) (by decide) ?_
   refine alS (some 17) rfl rfl (by decide) ?_
   refine alS (some 18) rfl rfl (by decide) ?_
   refine alS (some 19) rfl rfl (by decide) ?_
   refine alP (some 20) rfl rfl (does_pick (v := .bool false) (by conv => lhs; whnf) (by exact rfl)) (by decide) ?_
   refine alP (some 21) rfl rfl (does_move (v := .bool false) (by exact rfl)) (by decide) ?_
   refine alS (some 22) rfl rfl (by decide) ?_
   refine alS (some 23) rfl rfl (by decide) ?_
   refine alS (some 24) rfl rfl (by decide) ?_
   refine alP (some 25) rfl rfl (does_pick (v := .bool false) (by conv => lhs; whnf) (by exact rfl)) (by decide) ?_
   refine alP (some 26) rfl rfl (does_move (v := .bool false) (by exact rfl)) (by decide) ?_
   refine alS (some 27) rfl rfl (by decide) ?_
   refine alS (some 28) rfl rfl (by decide) ?_
   refine alS (some 29) rfl rfl (by decide) ?_
   refine alP (some 30) rfl rfl (does_pick (v := .bool false) (by conv => lhs; whnf) (by exact rfl)) (by decide) ?_
   refine alP (some 31) rfl rfl (does_move (v := .bool false) (by exact rfl)) (by decide) ?_
   refine alS (some 32) rfl rfl (by decide) ?_
   refine alS (some 33) rfl rfl (by decide) ?_
   refine alS (some 34) rfl rfl (by decide) ?_
   refine alS (some 35) rfl rfl (by decide) ?_
   refine alP (some 36) rfl rfl (does_pick (v := .bool false) (by conv => lhs; whnf) (by exact rfl)) (by decide) ?_
   refine alP (some 37) rfl rfl (does_move (v := .bool false) (by exact rfl)) (by decide) ?_
   refine alS (some 38) rfl rfl (by decide) ?_
   refine alS (some 39) rfl rfl (by decide) ?_
   refine alS (some 40) rfl rfl (by decide) ?_
   refine alP (some 41) rfl rfl (does_pick (v := .bool false) (by conv => lhs; whnf) (by exact rfl)) (by decide) ?_
   refine alP (some 2) rfl rfl (does_assign (v := .bool false) (by exact rfl)) (by decide) ?_
   refine al_nil ?_
   refine hK2 _ ?_
   refine aw_ret ?_
   obtain rfl := Option.some.inj h
   exact ret_ok1 (by conv => lhs; whnf) (by conv => lhs; whnf) (by exact rfl) (.inr rfl) rfl
 ·have h := ifF c4 h
  refine alS (some 7) rfl rfl (by decide) ?_
  refine alS (some 8) rfl rfl (by decide) ?_
  refine alS (some 9) rfl rfl (by decide) ?_
  refine alP (some 10) rfl rfl (does_pick (v := .bool false) (by conv => lhs; whnf) (by exact rfl)) (by decide) ?_
  refine alP (some 11) rfl rfl (does_move (v := .bool false) (by exact rfl)) (by decide) ?_
  refine alS (some 12) rfl rfl (by decide) ?_
  refine alS (some 13) rfl rfl (by decide) ?_
  refine alS (some 14) rfl rfl (by decide) ?_
  refine alP (some 15) rfl rfl (does_pick (v := .bool false) (by conv => lhs; whnf) (by exact rfl)) (by decide) ?_
  refine alP (some 16) rfl rfl (does_move (v := .bool false) (by exact rfl)) (by decide) ?_
  refine alS (some 17) rfl rfl (by decide) ?_
  refine alS (some 18) rfl rfl (by decide) ?_
  refine alS (some 19) rfl rfl (by decide) ?_
  refine alP (some 20) rfl rfl (does_pick (v := .bool false) (by conv => lhs; whnf) (by exact rfl)) (by decide) ?_
  refine alP (some 21) rfl rfl (does_move (v := .bool false) (by exact rfl)) (by decide) ?_
  refine alS (some 22) rfl rfl (by decide) ?_
  refine alS (some 23) rfl rfl (by decide) ?_
  refine alS (some 24) rfl rfl (by decide) ?_
  refine alP (some 25) rfl rfl (does_pick (v := .bool false) (by conv => lhs; whnf) (by exact rfl)) (by decide) ?_
  refine alP (some 26) rfl rfl (does_move (v := .bool false) (by exact rfl)) (by decide) ?_
  refine alS (some 27) rfl rfl (by decide) ?_
  refine alS (some 28) rfl rfl (by decide) ?_
  refine alS (some 29) rfl rfl (by decide) ?_
  refine alP (some 30) rfl rfl (does_pick (v := .bool false) (by conv => lhs; whnf) (by exact rfl)) (by decide) ?_
  refine alP (some 31) rfl rfl (does_move (v := .bool false) (by exact rfl)) (by decide) ?_
  refine alS (some 32) rfl rfl (by decide) ?_
  refine alS (some 33) rfl rfl (by decide) ?_
  refine alS (some 34) rfl rfl (by decide) ?_
  refine alS (some 35) rfl rfl (by decide) ?_
  refine alP (some 36) rfl rfl (does_pick (v := .bool false) (by conv => lhs; whnf) (by exact rfl)) (by decide) ?_
  refine alP (some 37) rfl rfl (does_move (v := .bool false) (by exact rfl)) (by decide) ?_
  refine alS (some 38) rfl rfl (by decide) ?_
  refine alS (some 39) rfl rfl (by decide) ?_
  refine alS (some 40) rfl rfl (by decide) ?_
  refine alP (some 41) rfl rfl (does_pick (v := .bool false) (by conv => lhs; whnf) (by exact rfl)) (by decide) ?_
  refine alP (some 2) rfl rfl (does_assign (v := .bool false) (by exact rfl)) (by decide) ?_
  refine al_nil ?_
  refine hK2 _ ?_
  refine aw_ret ?_
  obtain rfl := Option.some.inj h
  exact ret_ok1 (by conv => lhs; whnf) (by conv => lhs; whnf) (by exact rfl) (.inr rfl) rfl
def span_All_c1 (a0 : Span) : Option Bool :=
 Option.bind (span_Right a0) (fun (x3 : Bool) => some (!x3))
set_option maxRecDepth 100000 in
set_option maxHeartbeats 8000000 in
theorem span_All_c1_ok (a0 : Span) {r : Bool} (h : span_All_c1 a0 = some r) : Ok Try.prog 31 [.agg [.int .u64 a0.Trace.Hi, .int .u64 a0.Trace.Lo, .int .u64 a0.Id, .int .u64 a0.Parent, .str a0.Service, .str a0.Op, .int .i64 a0.Start, .int .i64 a0.Dur, .bool a0.Err, .sl 2 (List.map enc39 a0.Attrs)]] [] [] (.bool r) [] [] := by
 unfold span_All_c1 at h
 refine ok_of_code Try.func31 rfl (by show (1 : Nat) ≤ _; decide) (Nat.le_refl _) fun X => ?_
 refine aw_seq_k (fun K1 hK1 => ?_)
 refine aw_regL ?_
 refine alD (some 1) rfl rfl (do_box (by conv => lhs; whnf) rfl rfl) (by decide) ?_
 refine alP (some 2) rfl rfl (does_assign (v := .bool false) (by exact rfl)) (by decide) ?_
 refine al_nil ?_
 refine hK1 _ ?_
 refine aw_seq_k (fun K2 hK2 => ?_)
 refine aw_regL ?_
 refine alR (some 3) rfl rfl (does_load (v := .agg [.int .u64 a0.Trace.Hi, .int .u64 a0.Trace.Lo, .int .u64 a0.Id, .int .u64 a0.Parent, .str a0.Service, .str a0.Op, .int .i64 a0.Start, .int .i64 a0.Dur, .bool a0.Err, .sl 2 (List.map enc39 a0.Attrs)]) (by conv => lhs; whnf) (by conv => lhs; whnf) ty28 (by exact rfl)) (by decide) ?_
 obtain ⟨x3, hx3, h⟩ := bnd_some h
 refine alD (some 4) rfl rfl (do_call0 4 false (span_Right_ok a0 hx3) rfl ent17 rfl rfl) (by decide) ?_
 refine alP (some 5) rfl rfl (does_un (v := .bool (!x3)) (by conv => lhs; whnf) rfl) (by decide) ?_
 refine alP (some 2) rfl rfl (does_assign (v := .bool (!x3)) (by exact rfl)) (by decide) ?_
 refine al_nil ?_
 refine hK2 _ ?_
 refine aw_ret ?_
 obtain rfl := Option.some.inj h
 exact ret_ok1 (by conv => lhs; whnf) (by conv => lhs; whnf) (by exact rfl) (.inr rfl) rfl
def slices_IndexFunc_Span_span_All_c1_l0 (a0 : List Span) (v8_0 : Int) : Option (Int ⊕ Int) :=
 if (decide (v8_0 < (List.length a0 : Int))) = true then (gd (0 ≤ v8_0) (Option.bind (a0[(Int.toNat v8_0)]?) (fun (x13 : Span) => Option.bind (span_All_c1 x13) (fun (x14 : Bool) => if x14 = true then (some (Sum.inr v8_0)) else (some (Sum.inl (IntKind.i64.wrap (v8_0 + 1)))))))) else (some (Sum.inr (-1)))
def slices_IndexFunc_Span_span_All_c1 (a0 : List Span) : Option Int :=
 loopN (fun (s : Int) => slices_IndexFunc_Span_span_All_c1_l0 a0 s) Fu 0
set_option maxRecDepth 100000 in
set_option maxHeartbeats 8000000 in
theorem slices_IndexFunc_Span_span_All_c1_ok (a0 : List Span) {r : Int} (h : slices_IndexFunc_Span_span_All_c1 a0 = some r) : Ok Try.prog 40 [.sl 10 (List.map enc27 a0), .fn 31 []] [] [] (.int .i64 r) [] [] := by
 unfold slices_IndexFunc_Span_span_All_c1 at h
 refine ok_of_code Try.func40 rfl (by show (2 : Nat) ≤ _; decide) (Nat.le_refl _) fun X => ?_
 refine aw_seq_k (fun K1 hK1 => ?_)
 refine aw_regL ?_
 refine alP (some 4) rfl rfl (does_assign (v := .int .i64 0) (by exact rfl)) (by decide) ?_
 refine al_nil ?_
 refine hK1 _ ?_
 refine aw_seq_k (fun K2 hK2 => ?_)
 refine aw_seq_k (fun K3 hK3 => ?_)
 refine aw_regL ?_
 refine alP (some 6) rfl rfl (does_move (v := .sl 10 (List.map enc27 a0)) (by exact rfl)) (by decide) ?_
 refine alP (some 7) rfl rfl ((does_len_sl (by conv => lhs; whnf) ty22).castp (v' := .int .i64 (List.length a0 : Int)) (by exact len_map _)) (by decide) ?_
 refine alP (some 8) rfl rfl (does_move (v := .int .i64 0) (by exact rfl)) (by decide) ?_
 refine al_nil ?_
 refine hK3 _ ?_
 refine aw_block ?_
 refine aw_loop' (fun m s => ∃ (v8_0 : Int), loopN (fun (s : Int) => slices_IndexFunc_Span_span_All_c1_l0 a0 s) m v8_0 = some r ∧ s = lit [(0, .sl 10 (List.map enc27 a0)), (1, .fn 31 []), (7, .int .i64 (List.length a0 : Int)), (8, .int .i64 v8_0)] [] [] X) Fu
  ⟨_, reb_lit [(0, .sl 10 (List.map enc27 a0)), (1, .fn 31 []), (7, .int .i64 (List.length a0 : Int)), (8, .int .i64 (0))] [] [] [] (envOk_cons (by conv => lhs; whnf) (by exact rfl) (envOk_cons (by conv => lhs; whnf) (by exact rfl) (envOk_cons (by conv => lhs; whnf) (by exact rfl) (envOk_cons (by conv => lhs; whnf) (by exact rfl) envOk_nil)))) objOk_nil (nodup_b rfl) (nodup_b rfl) rfl rfl, 0, h, rfl⟩ ?_
 rintro m s ⟨v8_0, h, rfl⟩
 obtain ⟨m0, q4, rfl, h, hq5⟩ := loop_some h
 replace h : slices_IndexFunc_Span_span_All_c1_l0 a0 v8_0 = some q4 := h
 unfold slices_IndexFunc_Span_span_All_c1_l0 at h
 refine aw_seq_k (fun K6 hK6 => ?_)
 refine aw_regL ?_
 refine alP (some 9) rfl rfl (does_bin (v := .bool (decide (v8_0 < (List.length a0 : Int)))) (by conv => lhs; whnf) (by conv => lhs; whnf) rfl) (by decide) ?_
 refine al_nil ?_
 refine hK6 _ ?_
 refine aw_seq_k (fun K7 hK7 => ?_)
 refine aw_bool (b := (decide (v8_0 < (List.length a0 : Int)))) 9 rfl (fun c8 => ?_) (fun c8 => ?_)
 ·have h := ifT c8 h
  refine aw_cond_t (by decide) rfl ?_
  refine aw_skip ?_
  refine hK7 _ ?_
  refine aw_seq_k (fun K9 hK9 => ?_)
  refine aw_block ?_
  refine aw_seq_k (fun K10 hK10 => ?_)
  refine aw_regL ?_
  refine alP (some 10) rfl rfl (does_move (v := .int .i64 v8_0) (by exact rfl)) (by decide) ?_
  refine alP (some 5) rfl rfl (does_assign (v := .int .i64 v8_0) (by exact rfl)) (by decide) ?_
  refine al_nil ?_
  refine hK10 _ ?_
  refine aw_seq_k (fun K11 hK11 => ?_)
  refine aw_regL ?_
  refine alP (some 11) rfl rfl (does_move (v := .fn 31 []) (by exact rfl)) (by decide) ?_
  refine alP (some 12) rfl rfl (does_move (v := .sl 10 (List.map enc27 a0)) (by exact rfl)) (by decide) ?_
  refine alP (some 13) rfl rfl (does_move (v := .int .i64 v8_0) (by exact rfl)) (by decide) ?_
  obtain ⟨g12, h⟩ := gd_some h
  obtain ⟨x13, hx13, h⟩ := bnd_some h
  refine alP (some 14) rfl rfl (does_indexAddr_sl (el := .agg [.int .u64 x13.Trace.Hi, .int .u64 x13.Trace.Lo, .int .u64 x13.Id, .int .u64 x13.Parent, .str x13.Service, .str x13.Op, .int .i64 x13.Start, .int .i64 x13.Dur, .bool x13.Err, .sl 2 (List.map enc39 x13.Attrs)]) (by conv => lhs; whnf) (by conv => lhs; whnf) ty22 ty28 g12 (by exact map_get hx13)) (by decide) ?_
  refine alR (some 15) rfl rfl (does_load (v := .agg [.int .u64 x13.Trace.Hi, .int .u64 x13.Trace.Lo, .int .u64 x13.Id, .int .u64 x13.Parent, .str x13.Service, .str x13.Op, .int .i64 x13.Start, .int .i64 x13.Dur, .bool x13.Err, .sl 2 (List.map enc39 x13.Attrs)]) (by conv => lhs; whnf) (by conv => lhs; whnf) ty28 (by exact rfl)) (by decide) ?_
  obtain ⟨x14, hx14, h⟩ := bnd_some h
  refine alD (some 16) rfl rfl (do_call0 16 false (span_All_c1_ok x13 hx14) rfl ent31 rfl rfl) (by decide) ?_
  refine al_nil ?_
  refine hK11 _ ?_
  refine aw_bool (b := x14) 16 rfl (fun c15 => ?_) (fun c15 => ?_)
  ·have h := ifT c15 h
   refine aw_cond_t (by decide) rfl ?_
   refine aw_seq_k (fun K16 hK16 => ?_)
   refine aw_regL ?_
   refine alP (some 17) rfl rfl (does_move (v := .int .i64 v8_0) (by exact rfl)) (by decide) ?_
   refine alP (some 4) rfl rfl (does_assign (v := .int .i64 v8_0) (by exact rfl)) (by decide) ?_
   refine al_nil ?_
   refine hK16 _ ?_
   refine aw_ret ?_
   have h := leafR h hq5
   obtain rfl := Option.some.inj h
   exact ret_ok1 (by conv => lhs; whnf) (by conv => lhs; whnf) (by exact rfl) (.inr rfl) rfl
  ·have h := ifF c15 h
   refine aw_cond_f (by decide) rfl ?_
   refine aw_skip ?_
   refine hK9 _ ?_
   refine aw_regL ?_
   refine alP (some 18) rfl rfl (does_bin (v := .int .i64 (IntKind.i64.wrap (v8_0 + 1))) (by conv => lhs; whnf) (by conv => lhs; whnf) rfl) (by decide) ?_
   refine alP (some 8) rfl rfl (does_move (v := .int .i64 (IntKind.i64.wrap (v8_0 + 1))) (by exact rfl)) (by decide) ?_
   refine al_nil ?_
   have h := leafL h hq5
   exact ⟨m0, Nat.lt_succ_self _, _, reb_lit [(0, .sl 10 (List.map enc27 a0)), (1, .fn 31 []), (7, .int .i64 (List.length a0 : Int)), (8, .int .i64 (IntKind.i64.wrap (v8_0 + 1)))] [] [] [] (envOk_cons (by conv => lhs; whnf) (by exact rfl) (envOk_cons (by conv => lhs; whnf) (by exact rfl) (envOk_cons (by conv => lhs; whnf) (by exact rfl) (envOk_cons (by conv => lhs; whnf) (by exact rfl) envOk_nil)))) objOk_nil (nodup_b rfl) (nodup_b rfl) rfl rfl, (IntKind.i64.wrap (v8_0 + 1)), h, rfl⟩
 ·have h := ifF c8 h
  refine aw_cond_f (by decide) rfl ?_
  refine aw_exit ?_
  have h := leafR h hq5
  refine hK2 _ ?_
  refine aw_seq_k (fun K17 hK17 => ?_)
  refine aw_regL ?_
  refine alP (some 4) rfl rfl (does_assign (v := .int .i64 (-1)) (by exact rfl)) (by decide) ?_
  refine al_nil ?_
  refine hK17 _ ?_
  refine aw_ret ?_
  obtain rfl := Option.some.inj h
  exact ret_ok1 (by conv => lhs; whnf) (by conv => lhs; whnf) (by exact rfl) (.inr rfl) rfl
def slices_ContainsFunc_Span_span_All_c1 (a0 : List Span) : Option Bool :=
 Option.bind (slices_IndexFunc_Span_span_All_c1 a0) (fun (x3 : Int) => some (decide ((0 : Int) ≤ x3)))
set_option maxRecDepth 100000 in
set_option maxHeartbeats 8000000 in
theorem slices_ContainsFunc_Span_span_All_c1_ok (a0 : List Span) {r : Bool} (h : slices_ContainsFunc_Span_span_All_c1 a0 = some r) : Ok Try.prog 30 [.sl 10 (List.map enc27 a0), .fn 31 []] [] [] (.bool r) [] [] := by
 unfold slices_ContainsFunc_Span_span_All_c1 at h
 refine ok_of_code Try.func30 rfl (by show (2 : Nat) ≤ _; decide) (Nat.le_refl _) fun X => ?_
 refine aw_seq_k (fun K1 hK1 => ?_)
 refine aw_regL ?_
 refine alP (some 4) rfl rfl (does_assign (v := .bool false) (by exact rfl)) (by decide) ?_
 refine al_nil ?_
 refine hK1 _ ?_
 refine aw_seq_k (fun K2 hK2 => ?_)
 refine aw_regL ?_
 refine alP (some 5) rfl rfl (does_move (v := .sl 10 (List.map enc27 a0)) (by exact rfl)) (by decide) ?_
 refine alP (some 6) rfl rfl (does_move (v := .fn 31 []) (by exact rfl)) (by decide) ?_
 obtain ⟨x3, hx3, h⟩ := bnd_some h
 refine alD (some 7) rfl rfl (do_call0 7 false (slices_IndexFunc_Span_span_All_c1_ok a0 hx3) rfl ent40 rfl rfl) (by decide) ?_
 refine alP (some 8) rfl rfl (does_bin (v := .bool (decide ((0 : Int) ≤ x3))) (by conv => lhs; whnf) (by conv => lhs; whnf) rfl) (by decide) ?_
 refine alP (some 4) rfl rfl (does_assign (v := .bool (decide ((0 : Int) ≤ x3))) (by exact rfl)) (by decide) ?_
 refine al_nil ?_
 refine hK2 _ ?_
 refine aw_ret ?_
 obtain rfl := Option.some.inj h
 exact ret_ok1 (by conv => lhs; whnf) (by conv => lhs; whnf) (by exact rfl) (.inr rfl) rfl
def span_All (a0 : List Span) : Option Bool :=
 Option.bind (slices_ContainsFunc_Span_span_All_c1 a0) (fun (x3 : Bool) => some (!x3))
set_option maxRecDepth 100000 in
set_option maxHeartbeats 8000000 in
theorem span_All_ok (a0 : List Span) {r : Bool} (h : span_All a0 = some r) : Ok Try.prog 19 [.sl 10 (List.map enc27 a0)] [] [] (.bool r) [] [] := by
 unfold span_All at h
 refine ok_of_code Try.func19 rfl (by show (1 : Nat) ≤ _; decide) (Nat.le_refl _) fun X => ?_
 refine aw_seq_k (fun K1 hK1 => ?_)
 refine aw_regL ?_
 refine alP (some 2) rfl rfl (does_assign (v := .bool false) (by exact rfl)) (by decide) ?_
 refine al_nil ?_
 refine hK1 _ ?_
 refine aw_seq_k (fun K2 hK2 => ?_)
 refine aw_regL ?_
 refine alP (some 3) rfl rfl (does_move (v := .sl 10 (List.map enc27 a0)) (by exact rfl)) (by decide) ?_
 obtain ⟨x3, hx3, h⟩ := bnd_some h
 refine alD (some 4) rfl rfl (do_call0 4 false (slices_ContainsFunc_Span_span_All_c1_ok a0 hx3) rfl ent30 rfl rfl) (by decide) ?_
 refine alP (some 5) rfl rfl (does_un (v := .bool (!x3)) (by conv => lhs; whnf) rfl) (by decide) ?_
 refine alP (some 2) rfl rfl (does_assign (v := .bool (!x3)) (by exact rfl)) (by decide) ?_
 refine al_nil ?_
 refine hK2 _ ?_
 refine aw_ret ?_
 obtain rfl := Option.some.inj h
 exact ret_ok1 (by conv => lhs; whnf) (by conv => lhs; whnf) (by exact rfl) (.inr rfl) rfl
def gleaningref1_Within (a0 : Int) (a1 : Int) (a2 : Int) : Option Bool :=
 if (decide (a1 ≤ a0)) = true then (some (decide (a0 ≤ a2))) else (some false)
set_option maxRecDepth 100000 in
set_option maxHeartbeats 8000000 in
theorem gleaningref1_Within_ok (a0 : Int) (a1 : Int) (a2 : Int) {r : Bool} (h : gleaningref1_Within a0 a1 a2 = some r) : Ok Try.prog 29 [.int .i64 a0, .int .i64 a1, .int .i64 a2] [] [] (.bool r) [] [] := by
 unfold gleaningref1_Within at h
 refine ok_of_code Try.func29 rfl (by show (3 : Nat) ≤ _; decide) (Nat.le_refl _) fun X => ?_
 refine aw_seq_k (fun K1 hK1 => ?_)
 refine aw_regL ?_
 refine alP (some 6) rfl rfl (does_assign (v := .bool false) (by exact rfl)) (by decide) ?_
 refine al_nil ?_
 refine hK1 _ ?_
 refine aw_seq_k (fun K2 hK2 => ?_)
 refine aw_regL ?_
 refine alP (some 7) rfl rfl (does_move (v := .int .i64 a0) (by exact rfl)) (by decide) ?_
 refine alP (some 8) rfl rfl (does_move (v := .int .i64 a1) (by exact rfl)) (by decide) ?_
 refine alP (some 9) rfl rfl (does_bin (v := .bool (decide (a1 ≤ a0))) (by conv => lhs; whnf) (by conv => lhs; whnf) rfl) (by decide) ?_
 refine alP (some 10) rfl rfl (does_move (v := .bool (decide (a1 ≤ a0))) (by exact rfl)) (by decide) ?_
 refine al_bool (c := (decide (a1 ≤ a0))) 10 rfl (fun c3 => ?_) (fun c3 => ?_)
 ·have h := ifT c3 h
  refine alP (some 11) rfl rfl (does_move (v := .int .i64 a0) (by exact rfl)) (by decide) ?_
  refine alP (some 12) rfl rfl (does_move (v := .int .i64 a2) (by exact rfl)) (by decide) ?_
  refine alP (some 13) rfl rfl (does_bin (v := .bool (decide (a0 ≤ a2))) (by conv => lhs; whnf) (by conv => lhs; whnf) rfl) (by decide) ?_
  refine alP (some 14) rfl rfl (does_pick (v := .bool (decide (a0 ≤ a2))) (by conv => lhs; whnf) (by exact rfl)) (by decide) ?_
  refine alP (some 6) rfl rfl (does_assign (v := .bool (decide (a0 ≤ a2))) (by exact rfl)) (by decide) ?_
  refine al_nil ?_
  refine hK2 _ ?_
  refine aw_ret ?_
  obtain rfl := Option.some.inj h
  exact ret_ok1 (by conv => lhs; whnf) (by conv => lhs; whnf) (by exact rfl) (.inr rfl) rfl
 ·have h := ifF c3 h
  refine alS (some 11) rfl rfl (by decide) ?_
  refine alS (some 12) rfl rfl (by decide) ?_
  refine alS (some 13) rfl rfl (by decide) ?_
  refine alP (some 14) rfl rfl (does_pick (v := .bool false) (by conv => lhs; whnf) (by exact rfl)) (by decide) ?_
  refine alP (some 6) rfl rfl (does_assign (v := .bool false) (by exact rfl)) (by decide) ?_
  refine al_nil ?_
  refine hK2 _ ?_
  refine aw_ret ?_
  obtain rfl := Option.some.inj h
  exact ret_ok1 (by conv => lhs; whnf) (by conv => lhs; whnf) (by exact rfl) (.inr rfl) rfl
def gleaningref1_RightSpan_l3 (a0 : Span) (v3_1 : Int) (v4_3 : Int) : Option (Int ⊕ (Int ⊕ Bool)) :=
 if (decide (v4_3 < v3_1)) = true then (gd (0 ≤ v4_3) (Option.bind (a0.Attrs[(Int.toNat v4_3)]?) (fun (x48 : Attr) => gd (0 ≤ v3_1) (Option.bind (a0.Attrs[(Int.toNat v3_1)]?) (fun (x50 : Attr) => if (ByteArray.toList x48.Key == ByteArray.toList x50.Key) = true then (some (Sum.inr (Sum.inr false))) else (some (Sum.inl (IntKind.i64.wrap (v4_3 + 1))))))))) else (some (Sum.inr (Sum.inl (IntKind.i64.wrap (v3_1 + 1)))))
def gleaningref1_RightSpan_k2 (a0 : Span) (v3_1 : Int) : Option (Int ⊕ Bool) :=
 loopN (fun (s : Int) => gleaningref1_RightSpan_l3 a0 v3_1 s) Fu 0
def gleaningref1_RightSpan_l1 (a0 : Span) (v3_1 : Int) : Option (Int ⊕ Bool) :=
 if (decide (v3_1 < (List.length a0.Attrs : Int))) = true then (Option.bind (gd (0 ≤ v3_1) (Option.bind (a0.Attrs[(Int.toNat v3_1)]?) (fun (x31 : Attr) => Option.bind (gleaningref1_Within (ByteArray.size x31.Key : Int) 1 16) (fun (x32 : Bool) => if (!x32) = true then (some (Sum.inr (Sum.inr false))) else (gd (0 ≤ v3_1) (Option.bind (a0.Attrs[(Int.toNat v3_1)]?) (fun (x36 : Attr) => if (decide ((16 : Int) < (ByteArray.size x36.Value : Int))) = true then (some (Sum.inr (Sum.inr false))) else (some (Sum.inl ()))))))))) (Sum.elim (fun (s : Unit) => gleaningref1_RightSpan_k2 a0 v3_1) some)) else (some (Sum.inr true))
def gleaningref1_RightSpan_k0 (a0 : Span) : Option Bool :=
 loopN (fun (s : Int) => gleaningref1_RightSpan_l1 a0 s) Fu 0
def gleaningref1_RightSpan (a0 : Span) : Option Bool :=
 Option.bind (Option.bind (gleaningref1_Within (ByteArray.size a0.Service : Int) 1 16) (fun (x5 : Bool) => if (!x5) = true then (some (Sum.inr false)) else (Option.bind (gleaningref1_Within (ByteArray.size a0.Op : Int) 1 16) (fun (x8 : Bool) => if (!x8) = true then (some (Sum.inr false)) else (Option.bind (gleaningref1_Within a0.Start 0 1099511627776) (fun (x11 : Bool) => if (!x11) = true then (some (Sum.inr false)) else (Option.bind (gleaningref1_Within a0.Dur 0 1073741824) (fun (x14 : Bool) => if (!x14) = true then (some (Sum.inr false)) else (if (decide ((4 : Int) < (List.length a0.Attrs : Int))) = true then (some (Sum.inr false)) else (some (Sum.inl ()))))))))))) (Sum.elim (fun (s : Unit) => gleaningref1_RightSpan_k0 a0) some)
set_option maxRecDepth 100000 in
set_option maxHeartbeats 8000000 in
theorem gleaningref1_RightSpan_ok (a0 : Span) {r : Bool} (h : gleaningref1_RightSpan a0 = some r) : Ok Try.prog 18 [.agg [.int .u64 a0.Trace.Hi, .int .u64 a0.Trace.Lo, .int .u64 a0.Id, .int .u64 a0.Parent, .str a0.Service, .str a0.Op, .int .i64 a0.Start, .int .i64 a0.Dur, .bool a0.Err, .sl 2 (List.map enc39 a0.Attrs)]] [] [] (.bool r) [] [] := by
 unfold gleaningref1_RightSpan at h
 refine ok_of_code Try.func18 rfl (by show (1 : Nat) ≤ _; decide) (Nat.le_refl _) fun X => ?_
 refine aw_seq_k (fun K1 hK1 => ?_)
 refine aw_regL ?_
 refine alD (some 1) rfl rfl (do_box (by conv => lhs; whnf) rfl rfl) (by decide) ?_
 refine alP (some 2) rfl rfl (does_assign (v := .bool false) (by exact rfl)) (by decide) ?_
 refine al_nil ?_
 refine hK1 _ ?_
 obtain ⟨q2, h, hk3⟩ := bnd_some h
 refine aw_cut (fun s => gleaningref1_RightSpan_k0 a0 = some r ∧ s = lit [(1, .ptr 1 0 0)] [((1, 0), .box [.int .u64 a0.Trace.Hi, .int .u64 a0.Trace.Lo, .int .u64 a0.Id, .int .u64 a0.Parent, .str a0.Service, .str a0.Op, .int .i64 a0.Start, .int .i64 a0.Dur, .bool a0.Err, .sl 2 (List.map enc39 a0.Attrs)])] [(1, 1)] X) ?_ ?_
 ·skip
  refine aw_seq_k (fun K4 hK4 => ?_)
  refine aw_regL ?_
  refine alP (some 5) rfl rfl (does_fieldAddr (q := .ptr 1 0 4) (by conv => lhs; whnf) ty28 rfl ty9 (by decide) (by exact rfl)) (by decide) ?_
  refine alR (some 6) rfl rfl (does_load (v := .str a0.Service) (by conv => lhs; whnf) (by conv => lhs; whnf) ty9 (by exact rfl)) (by decide) ?_
  refine alP (some 7) rfl rfl (does_len_str (by conv => lhs; whnf) ty9) (by decide) ?_
  obtain ⟨x5, hx5, h⟩ := bnd_some h
  refine alD (some 8) rfl rfl ((do_call0 8 false (gleaningref1_Within_ok (ByteArray.size a0.Service : Int) 1 16 hx5) rfl ent29 rfl rfl).fx (y := ⟨[], .bool x5, [], [8]⟩) rfl) (by decide) ?_
  refine alP (some 9) rfl rfl (does_un (v := .bool (!x5)) (by conv => lhs; whnf) rfl) (by decide) ?_
  refine alP (some 10) rfl rfl (does_move (v := .bool (!x5)) (by exact rfl)) (by decide) ?_
  refine al_bool (c := (!x5)) 10 rfl (fun c6 => ?_) (fun c6 => ?_)
  ·have h := ifT c6 h
   refine alS (some 11) rfl rfl (by decide) ?_
   refine alS (some 12) rfl rfl (by decide) ?_
   refine alS (some 13) rfl rfl (by decide) ?_
   refine alS (some 14) rfl rfl (by decide) ?_
   refine alS (some 15) rfl rfl (by decide) ?_
   refine alP (some 16) rfl rfl (does_pick (v := .bool true) (by conv => lhs; whnf) (by exact rfl)) (by decide) ?_
   refine alP (some 17) rfl rfl (does_move (v := .bool true) (by exact rfl)) (by decide) ?_
   refine alS (some 18) rfl rfl (by decide) ?_
   refine alS (some 19) rfl rfl (by decide) ?_
   refine alS (some 20) rfl rfl (by decide) ?_
   refine alS (some 21) rfl rfl (by decide) ?_
   refine alP (some 22) rfl rfl (does_pick (v := .bool true) (by conv => lhs; whnf) (by exact rfl)) (by decide) ?_
   refine alP (some 23) rfl rfl (does_move (v := .bool true) (by exact rfl)) (by decide) ?_
   refine alS (some 24) rfl rfl (by decide) ?_
   refine alS (some 25) rfl rfl (by decide) ?_
   refine alS (some 26) rfl rfl (by decide) ?_
   refine alS (some 27) rfl rfl (by decide) ?_
   refine alP (some 28) rfl rfl (does_pick (v := .bool true) (by conv => lhs; whnf) (by exact rfl)) (by decide) ?_
   refine alP (some 29) rfl rfl (does_move (v := .bool true) (by exact rfl)) (by decide) ?_
   refine alS (some 30) rfl rfl (by decide) ?_
   refine alS (some 31) rfl rfl (by decide) ?_
   refine alS (some 32) rfl rfl (by decide) ?_
   refine alS (some 33) rfl rfl (by decide) ?_
   refine alP (some 34) rfl rfl (does_pick (v := .bool true) (by conv => lhs; whnf) (by exact rfl)) (by decide) ?_
   refine al_nil ?_
   refine hK4 _ ?_
   refine aw_cond_t (by decide) rfl ?_
   refine aw_seq_k (fun K7 hK7 => ?_)
   refine aw_regL ?_
   refine alP (some 2) rfl rfl (does_assign (v := .bool false) (by exact rfl)) (by decide) ?_
   refine al_nil ?_
   refine hK7 _ ?_
   refine aw_ret ?_
   have h := leafR h hk3
   obtain rfl := Option.some.inj h
   exact ret_ok1 (by conv => lhs; whnf) (by conv => lhs; whnf) (by exact rfl) (.inr rfl) rfl
  ·have h := ifF c6 h
   refine alP (some 11) rfl rfl (does_fieldAddr (q := .ptr 1 0 5) (by conv => lhs; whnf) ty28 rfl ty9 (by decide) (by exact rfl)) (by decide) ?_
   refine alR (some 12) rfl rfl (does_load (v := .str a0.Op) (by conv => lhs; whnf) (by conv => lhs; whnf) ty9 (by exact rfl)) (by decide) ?_
   refine alP (some 13) rfl rfl (does_len_str (by conv => lhs; whnf) ty9) (by decide) ?_
   obtain ⟨x8, hx8, h⟩ := bnd_some h
   refine alD (some 14) rfl rfl ((do_call0 14 false (gleaningref1_Within_ok (ByteArray.size a0.Op : Int) 1 16 hx8) rfl ent29 rfl rfl).fx (y := ⟨[], .bool x8, [], [14]⟩) rfl) (by decide) ?_
   refine alP (some 15) rfl rfl (does_un (v := .bool (!x8)) (by conv => lhs; whnf) rfl) (by decide) ?_
   refine alP (some 16) rfl rfl (does_pick (v := .bool (!x8)) (by conv => lhs; whnf) (by exact rfl)) (by decide) ?_
   refine alP (some 17) rfl rfl (does_move (v := .bool (!x8)) (by exact rfl)) (by decide) ?_
   refine al_bool (c := (!x8)) 17 rfl (fun c9 => ?_) (fun c9 => ?_)
   ·have h := ifT c9 h
    refine alS (some 18) rfl rfl (by decide) ?_
    refine alS (some 19) rfl rfl (by decide) ?_
    refine alS (some 20) rfl rfl (by decide) ?_
    refine alS (some 21) rfl rfl (by decide) ?_
    refine alP (some 22) rfl rfl (does_pick (v := .bool true) (by conv => lhs; whnf) (by exact rfl)) (by decide) ?_
    refine alP (some 23) rfl rfl (does_move (v := .bool true) (by exact rfl)) (by decide) ?_
    refine alS (some 24) rfl rfl (by decide) ?_
    refine alS (some 25) rfl rfl (by decide) ?_
    refine alS (some 26) rfl rfl (by decide) ?_
    refine alS (some 27) rfl rfl (by decide) ?_
    refine alP (some 28) rfl rfl (does_pick (v := .bool true) (by conv => lhs; whnf) (by exact rfl)) (by decide) ?_
    refine alP (some 29) rfl rfl (does_move (v := .bool true) (by exact rfl)) (by decide) ?_
    refine alS (some 30) rfl rfl (by decide) ?_
    refine alS (some 31) rfl rfl (by decide) ?_
    refine alS (some 32) rfl rfl (by decide) ?_
    refine alS (some 33) rfl rfl (by decide) ?_
    refine alP (some 34) rfl rfl (does_pick (v := .bool true) (by conv => lhs; whnf) (by exact rfl)) (by decide) ?_
    refine al_nil ?_
    refine hK4 _ ?_
    refine aw_cond_t (by decide) rfl ?_
    refine aw_seq_k (fun K10 hK10 => ?_)
    refine aw_regL ?_
    refine alP (some 2) rfl rfl (does_assign (v := .bool false) (by exact rfl)) (by decide) ?_
    refine al_nil ?_
    refine hK10 _ ?_
    refine aw_ret ?_
    have h := leafR h hk3
    obtain rfl := Option.some.inj h
    exact ret_ok1 (by conv => lhs; whnf) (by conv => lhs; whnf) (by exact rfl) (.inr rfl) rfl
   ·have h := ifF c9 h
    refine alP (some 18) rfl rfl (does_fieldAddr (q := .ptr 1 0 6) (by conv => lhs; whnf) ty28 rfl ty3 (by decide) (by exact rfl)) (by decide) ?_
    refine alR (some 19) rfl rfl (does_load (v := .int .i64 a0.Start) (by conv => lhs; whnf) (by conv => lhs; whnf) ty3 (by exact rfl)) (by decide) ?_
    obtain ⟨x11, hx11, h⟩ := bnd_some h
    refine alD (some 20) rfl rfl ((do_call0 20 false (gleaningref1_Within_ok a0.Start 0 1099511627776 hx11) rfl ent29 rfl rfl).fx (y := ⟨[], .bool x11, [], [20]⟩) rfl) (by decide) ?_
    refine alP (some 21) rfl rfl (does_un (v := .bool (!x11)) (by conv => lhs; whnf) rfl) (by decide) ?_
    refine alP (some 22) rfl rfl (does_pick (v := .bool (!x11)) (by conv => lhs; whnf) (by exact rfl)) (by decide) ?_
    refine alP (some 23) rfl rfl (does_move (v := .bool (!x11)) (by exact rfl)) (by decide) ?_
    refine al_bool (c := (!x11)) 23 rfl (fun c12 => ?_) (fun c12 => ?_)
    ·have h := ifT c12 h
     refine alS (some 24) rfl rfl (by decide) ?_
     refine alS (some 25) rfl rfl (by decide) ?_
     refine alS (some 26) rfl rfl (by decide) ?_
     refine alS (some 27) rfl rfl (by decide) ?_
     refine alP (some 28) rfl rfl (does_pick (v := .bool true) (by conv => lhs; whnf) (by exact rfl)) (by decide) ?_
     refine alP (some 29) rfl rfl (does_move (v := .bool true) (by exact rfl)) (by decide) ?_
     refine alS (some 30) rfl rfl (by decide) ?_
     refine alS (some 31) rfl rfl (by decide) ?_
     refine alS (some 32) rfl rfl (by decide) ?_
     refine alS (some 33) rfl rfl (by decide) ?_
     refine alP (some 34) rfl rfl (does_pick (v := .bool true) (by conv => lhs; whnf) (by exact rfl)) (by decide) ?_
     refine al_nil ?_
     refine hK4 _ ?_
     refine aw_cond_t (by decide) rfl ?_
     refine aw_seq_k (fun K13 hK13 => ?_)
     refine aw_regL ?_
     refine alP (some 2) rfl rfl (does_assign (v := .bool false) (by exact rfl)) (by decide) ?_
     refine al_nil ?_
     refine hK13 _ ?_
     refine aw_ret ?_
     have h := leafR h hk3
     obtain rfl := Option.some.inj h
     exact ret_ok1 (by conv => lhs; whnf) (by conv => lhs; whnf) (by exact rfl) (.inr rfl) rfl
    ·have h := ifF c12 h
     refine alP (some 24) rfl rfl (does_fieldAddr (q := .ptr 1 0 7) (by conv => lhs; whnf) ty28 rfl ty3 (by decide) (by exact rfl)) (by decide) ?_
     refine alR (some 25) rfl rfl (does_load (v := .int .i64 a0.Dur) (by conv => lhs; whnf) (by conv => lhs; whnf) ty3 (by exact rfl)) (by decide) ?_
     obtain ⟨x14, hx14, h⟩ := bnd_some h
     refine alD (some 26) rfl rfl ((do_call0 26 false (gleaningref1_Within_ok a0.Dur 0 1073741824 hx14) rfl ent29 rfl rfl).fx (y := ⟨[], .bool x14, [], [26]⟩) rfl) (by decide) ?_
     refine alP (some 27) rfl rfl (does_un (v := .bool (!x14)) (by conv => lhs; whnf) rfl) (by decide) ?_
     refine alP (some 28) rfl rfl (does_pick (v := .bool (!x14)) (by conv => lhs; whnf) (by exact rfl)) (by decide) ?_
     refine alP (some 29) rfl rfl (does_move (v := .bool (!x14)) (by exact rfl)) (by decide) ?_
     refine al_bool (c := (!x14)) 29 rfl (fun c15 => ?_) (fun c15 => ?_)
     ·have h := ifT c15 h
      refine alS (some 30) rfl rfl (by decide) ?_
      refine alS (some 31) rfl rfl (by decide) ?_
      refine alS (some 32) rfl rfl (by decide) ?_
      refine alS (some 33) rfl rfl (by decide) ?_
      refine alP (some 34) rfl rfl (does_pick (v := .bool true) (by conv => lhs; whnf) (by exact rfl)) (by decide) ?_
      refine al_nil ?_
      refine hK4 _ ?_
      refine aw_cond_t (by decide) rfl ?_
      refine aw_seq_k (fun K16 hK16 => ?_)
      refine aw_regL ?_
      refine alP (some 2) rfl rfl (does_assign (v := .bool false) (by exact rfl)) (by decide) ?_
      refine al_nil ?_
      refine hK16 _ ?_
      refine aw_ret ?_
      have h := leafR h hk3
      obtain rfl := Option.some.inj h
      exact ret_ok1 (by conv => lhs; whnf) (by conv => lhs; whnf) (by exact rfl) (.inr rfl) rfl
     ·have h := ifF c15 h
      refine alP (some 30) rfl rfl (does_fieldAddr (q := .ptr 1 0 9) (by conv => lhs; whnf) ty28 rfl ty26 (by decide) (by exact rfl)) (by decide) ?_
      refine alR (some 31) rfl rfl (does_load (v := .sl 2 (List.map enc39 a0.Attrs)) (by conv => lhs; whnf) (by conv => lhs; whnf) ty26 (by exact rfl)) (by decide) ?_
      refine alP (some 32) rfl rfl ((does_len_sl (by conv => lhs; whnf) ty26).castp (v' := .int .i64 (List.length a0.Attrs : Int)) (by exact len_map _)) (by decide) ?_
      refine alP (some 33) rfl rfl (does_bin (v := .bool (decide ((4 : Int) < (List.length a0.Attrs : Int)))) (by conv => lhs; whnf) (by conv => lhs; whnf) rfl) (by decide) ?_
      refine alP (some 34) rfl rfl (does_pick (v := .bool (decide ((4 : Int) < (List.length a0.Attrs : Int)))) (by conv => lhs; whnf) (by exact rfl)) (by decide) ?_
      refine al_nil ?_
      refine hK4 _ ?_
      refine aw_bool (b := (decide ((4 : Int) < (List.length a0.Attrs : Int)))) 34 rfl (fun c17 => ?_) (fun c17 => ?_)
      ·have h := ifT c17 h
       refine aw_cond_t (by decide) rfl ?_
       refine aw_seq_k (fun K18 hK18 => ?_)
       refine aw_regL ?_
       refine alP (some 2) rfl rfl (does_assign (v := .bool false) (by exact rfl)) (by decide) ?_
       refine al_nil ?_
       refine hK18 _ ?_
       refine aw_ret ?_
       have h := leafR h hk3
       obtain rfl := Option.some.inj h
       exact ret_ok1 (by conv => lhs; whnf) (by conv => lhs; whnf) (by exact rfl) (.inr rfl) rfl
      ·have h := ifF c17 h
       refine aw_cond_f (by decide) rfl ?_
       refine aw_skip ?_
       have h := leafL h hk3
       exact ⟨_, reb_lit [(1, .ptr 1 0 0)] [(1, 0)] [((1, 0), .box [.int .u64 a0.Trace.Hi, .int .u64 a0.Trace.Lo, .int .u64 a0.Id, .int .u64 a0.Parent, .str a0.Service, .str a0.Op, .int .i64 a0.Start, .int .i64 a0.Dur, .bool a0.Err, .sl 2 (List.map enc39 a0.Attrs)])] [(1, 1)] (envOk_cons (by conv => lhs; whnf) (by exact rfl) envOk_nil) (objOk_cons (by conv => lhs; whnf) (by conv => lhs; whnf) (by exact rfl) (by simp) objOk_nil) (nodup_b rfl) (nodup_b rfl) rfl rfl, h, rfl⟩
 ·rintro s ⟨h, rfl⟩
  unfold gleaningref1_RightSpan_k0 at h
  refine aw_seq_k (fun K19 hK19 => ?_)
  refine aw_seq_k (fun K20 hK20 => ?_)
  refine aw_regL ?_
  refine alP (some 3) rfl rfl (does_assign (v := .int .i64 0) (by exact rfl)) (by decide) ?_
  refine al_nil ?_
  refine hK20 _ ?_
  refine aw_block ?_
  refine aw_loop' (fun m s => ∃ (v3_1 : Int), loopN (fun (s : Int) => gleaningref1_RightSpan_l1 a0 s) m v3_1 = some r ∧ s = lit [(1, .ptr 1 0 0), (3, .int .i64 v3_1)] [((1, 0), .box [.int .u64 a0.Trace.Hi, .int .u64 a0.Trace.Lo, .int .u64 a0.Id, .int .u64 a0.Parent, .str a0.Service, .str a0.Op, .int .i64 a0.Start, .int .i64 a0.Dur, .bool a0.Err, .sl 2 (List.map enc39 a0.Attrs)])] [(1, 1)] X) Fu
   ⟨_, reb_lit [(1, .ptr 1 0 0), (3, .int .i64 (0))] [(1, 0)] [((1, 0), .box [.int .u64 a0.Trace.Hi, .int .u64 a0.Trace.Lo, .int .u64 a0.Id, .int .u64 a0.Parent, .str a0.Service, .str a0.Op, .int .i64 a0.Start, .int .i64 a0.Dur, .bool a0.Err, .sl 2 (List.map enc39 a0.Attrs)])] [(1, 1)] (envOk_cons (by conv => lhs; whnf) (by exact rfl) (envOk_cons (by conv => lhs; whnf) (by exact rfl) envOk_nil)) (objOk_cons (by conv => lhs; whnf) (by conv => lhs; whnf) (by exact rfl) (by simp) objOk_nil) (nodup_b rfl) (nodup_b rfl) rfl rfl, 0, h, rfl⟩ ?_
  rintro m s ⟨v3_1, h, rfl⟩
  obtain ⟨m1, q21, rfl, h, hq22⟩ := loop_some h
  replace h : gleaningref1_RightSpan_l1 a0 v3_1 = some q21 := h
  unfold gleaningref1_RightSpan_l1 at h
  refine aw_seq_k (fun K23 hK23 => ?_)
  refine aw_seq_k (fun K24 hK24 => ?_)
  refine aw_regL ?_
  refine alP (some 35) rfl rfl (does_move (v := .int .i64 v3_1) (by exact rfl)) (by decide) ?_
  refine alP (some 36) rfl rfl (does_fieldAddr (q := .ptr 1 0 9) (by conv => lhs; whnf) ty28 rfl ty26 (by decide) (by exact rfl)) (by decide) ?_
  refine alR (some 37) rfl rfl (does_load (v := .sl 2 (List.map enc39 a0.Attrs)) (by conv => lhs; whnf) (by conv => lhs; whnf) ty26 (by exact rfl)) (by decide) ?_
  refine alP (some 38) rfl rfl ((does_len_sl (by conv => lhs; whnf) ty26).castp (v' := .int .i64 (List.length a0.Attrs : Int)) (by exact len_map _)) (by decide) ?_
  refine alP (some 39) rfl rfl (does_bin (v := .bool (decide (v3_1 < (List.length a0.Attrs : Int)))) (by conv => lhs; whnf) (by conv => lhs; whnf) rfl) (by decide) ?_
  refine al_nil ?_
  refine hK24 _ ?_
  refine aw_bool (b := (decide (v3_1 < (List.length a0.Attrs : Int)))) 39 rfl (fun c25 => ?_) (fun c25 => ?_)
  ·have h := ifT c25 h
   refine aw_cond_t (by decide) rfl ?_
   refine aw_skip ?_
   refine hK23 _ ?_
   refine aw_seq_k (fun K26 hK26 => ?_)
   refine aw_block ?_
   obtain ⟨q27, h, hk28⟩ := bnd_some h
   refine aw_cut (fun s => gleaningref1_RightSpan_k2 a0 v3_1 = some q21 ∧ s = lit [(1, .ptr 1 0 0), (3, .int .i64 v3_1)] [((1, 0), .box [.int .u64 a0.Trace.Hi, .int .u64 a0.Trace.Lo, .int .u64 a0.Id, .int .u64 a0.Parent, .str a0.Service, .str a0.Op, .int .i64 a0.Start, .int .i64 a0.Dur, .bool a0.Err, .sl 2 (List.map enc39 a0.Attrs)])] [(1, 1)] X) ?_ ?_
   ·skip
    refine aw_seq_k (fun K29 hK29 => ?_)
    refine aw_regL ?_
    refine alP (some 42) rfl rfl (does_fieldAddr (q := .ptr 1 0 9) (by conv => lhs; whnf) ty28 rfl ty26 (by decide) (by exact rfl)) (by decide) ?_
    refine alR (some 43) rfl rfl (does_load (v := .sl 2 (List.map enc39 a0.Attrs)) (by conv => lhs; whnf) (by conv => lhs; whnf) ty26 (by exact rfl)) (by decide) ?_
    refine alP (some 44) rfl rfl (does_move (v := .int .i64 v3_1) (by exact rfl)) (by decide) ?_
    obtain ⟨g30, h⟩ := gd_some h
    obtain ⟨x31, hx31, h⟩ := bnd_some h
    refine alP (some 45) rfl rfl (does_indexAddr_sl (el := .agg [.str x31.Key, .str x31.Value]) (by conv => lhs; whnf) (by conv => lhs; whnf) ty26 ty40 g30 (by exact map_get hx31)) (by decide) ?_
    refine alP (some 46) rfl rfl (does_fieldAddr (q := .rptr [.str x31.Key, .str x31.Value]) (by conv => lhs; whnf) ty40 rfl ty9 (by decide) (by exact rfl)) (by decide) ?_
    refine alR (some 47) rfl rfl (does_load (v := .str x31.Key) (by conv => lhs; whnf) (by conv => lhs; whnf) ty9 (by exact rfl)) (by decide) ?_
    refine alP (some 48) rfl rfl (does_len_str (by conv => lhs; whnf) ty9) (by decide) ?_
    obtain ⟨x32, hx32, h⟩ := bnd_some h
    refine alD (some 49) rfl rfl (do_call0 49 false (gleaningref1_Within_ok (ByteArray.size x31.Key : Int) 1 16 hx32) rfl ent29 rfl rfl) (by decide) ?_
    refine alP (some 50) rfl rfl (does_un (v := .bool (!x32)) (by conv => lhs; whnf) rfl) (by decide) ?_
    refine alP (some 51) rfl rfl (does_move (v := .bool (!x32)) (by exact rfl)) (by decide) ?_
    refine al_bool (c := (!x32)) 51 rfl (fun c33 => ?_) (fun c33 => ?_)
    ·have h := ifT c33 h
     refine alS (some 52) rfl rfl (by decide) ?_
     refine alS (some 53) rfl rfl (by decide) ?_
     refine alS (some 54) rfl rfl (by decide) ?_
     refine alS (some 55) rfl rfl (by decide) ?_
     refine alS (some 56) rfl rfl (by decide) ?_
     refine alS (some 57) rfl rfl (by decide) ?_
     refine alS (some 58) rfl rfl (by decide) ?_
     refine alS (some 59) rfl rfl (by decide) ?_
     refine alP (some 60) rfl rfl (does_pick (v := .bool true) (by conv => lhs; whnf) (by exact rfl)) (by decide) ?_
     refine al_nil ?_
     refine hK29 _ ?_
     refine aw_cond_t (by decide) rfl ?_
     refine aw_seq_k (fun K34 hK34 => ?_)
     refine aw_regL ?_
     refine alP (some 2) rfl rfl (does_assign (v := .bool false) (by exact rfl)) (by decide) ?_
     refine al_nil ?_
     refine hK34 _ ?_
     refine aw_ret ?_
     have h := leafR h hk28
     have h := leafR h hq22
     obtain rfl := Option.some.inj h
     exact ret_ok1 (by conv => lhs; whnf) (by conv => lhs; whnf) (by exact rfl) (.inr rfl) rfl
    ·have h := ifF c33 h
     refine alP (some 52) rfl rfl (does_fieldAddr (q := .ptr 1 0 9) (by conv => lhs; whnf) ty28 rfl ty26 (by decide) (by exact rfl)) (by decide) ?_
     refine alR (some 53) rfl rfl (does_load (v := .sl 2 (List.map enc39 a0.Attrs)) (by conv => lhs; whnf) (by conv => lhs; whnf) ty26 (by exact rfl)) (by decide) ?_
     refine alP (some 54) rfl rfl (does_move (v := .int .i64 v3_1) (by exact rfl)) (by decide) ?_
     obtain ⟨g35, h⟩ := gd_some h
     obtain ⟨x36, hx36, h⟩ := bnd_some h
     refine alP (some 55) rfl rfl (does_indexAddr_sl (el := .agg [.str x36.Key, .str x36.Value]) (by conv => lhs; whnf) (by conv => lhs; whnf) ty26 ty40 g35 (by exact map_get hx36)) (by decide) ?_
     refine alP (some 56) rfl rfl (does_fieldAddr (q := .rptr [.str x36.Value]) (by conv => lhs; whnf) ty40 rfl ty9 (by decide) (by exact rfl)) (by decide) ?_
     refine alR (some 57) rfl rfl (does_load (v := .str x36.Value) (by conv => lhs; whnf) (by conv => lhs; whnf) ty9 (by exact rfl)) (by decide) ?_
     refine alP (some 58) rfl rfl (does_len_str (by conv => lhs; whnf) ty9) (by decide) ?_
     refine alP (some 59) rfl rfl (does_bin (v := .bool (decide ((16 : Int) < (ByteArray.size x36.Value : Int)))) (by conv => lhs; whnf) (by conv => lhs; whnf) rfl) (by decide) ?_
     refine alP (some 60) rfl rfl (does_pick (v := .bool (decide ((16 : Int) < (ByteArray.size x36.Value : Int)))) (by conv => lhs; whnf) (by exact rfl)) (by decide) ?_
     refine al_nil ?_
     refine hK29 _ ?_
     refine aw_bool (b := (decide ((16 : Int) < (ByteArray.size x36.Value : Int)))) 60 rfl (fun c37 => ?_) (fun c37 => ?_)
     ·have h := ifT c37 h
      refine aw_cond_t (by decide) rfl ?_
      refine aw_seq_k (fun K38 hK38 => ?_)
      refine aw_regL ?_
      refine alP (some 2) rfl rfl (does_assign (v := .bool false) (by exact rfl)) (by decide) ?_
      refine al_nil ?_
      refine hK38 _ ?_
      refine aw_ret ?_
      have h := leafR h hk28
      have h := leafR h hq22
      obtain rfl := Option.some.inj h
      exact ret_ok1 (by conv => lhs; whnf) (by conv => lhs; whnf) (by exact rfl) (.inr rfl) rfl
     ·have h := ifF c37 h
      refine aw_cond_f (by decide) rfl ?_
      refine aw_skip ?_
      have h := leafL h hk28
      exact ⟨_, reb_lit [(1, .ptr 1 0 0), (3, .int .i64 v3_1)] [(1, 0)] [((1, 0), .box [.int .u64 a0.Trace.Hi, .int .u64 a0.Trace.Lo, .int .u64 a0.Id, .int .u64 a0.Parent, .str a0.Service, .str a0.Op, .int .i64 a0.Start, .int .i64 a0.Dur, .bool a0.Err, .sl 2 (List.map enc39 a0.Attrs)])] [(1, 1)] (envOk_cons (by conv => lhs; whnf) (by exact rfl) (envOk_cons (by conv => lhs; whnf) (by exact rfl) envOk_nil)) (objOk_cons (by conv => lhs; whnf) (by conv => lhs; whnf) (by exact rfl) (by simp) objOk_nil) (nodup_b rfl) (nodup_b rfl) rfl rfl, h, rfl⟩
   ·rintro s ⟨h, rfl⟩
    unfold gleaningref1_RightSpan_k2 at h
    refine aw_seq_k (fun K39 hK39 => ?_)
    refine aw_regL ?_
    refine alP (some 4) rfl rfl (does_assign (v := .int .i64 0) (by exact rfl)) (by decide) ?_
    refine al_nil ?_
    refine hK39 _ ?_
    refine aw_block ?_
    refine aw_loop' (fun m s => ∃ (v4_3 : Int), loopN (fun (s : Int) => gleaningref1_RightSpan_l3 a0 v3_1 s) m v4_3 = some q21 ∧ s = lit [(1, .ptr 1 0 0), (3, .int .i64 v3_1), (4, .int .i64 v4_3)] [((1, 0), .box [.int .u64 a0.Trace.Hi, .int .u64 a0.Trace.Lo, .int .u64 a0.Id, .int .u64 a0.Parent, .str a0.Service, .str a0.Op, .int .i64 a0.Start, .int .i64 a0.Dur, .bool a0.Err, .sl 2 (List.map enc39 a0.Attrs)])] [(1, 1)] X) Fu
     ⟨_, reb_lit [(1, .ptr 1 0 0), (3, .int .i64 v3_1), (4, .int .i64 (0))] [(1, 0)] [((1, 0), .box [.int .u64 a0.Trace.Hi, .int .u64 a0.Trace.Lo, .int .u64 a0.Id, .int .u64 a0.Parent, .str a0.Service, .str a0.Op, .int .i64 a0.Start, .int .i64 a0.Dur, .bool a0.Err, .sl 2 (List.map enc39 a0.Attrs)])] [(1, 1)] (envOk_cons (by conv => lhs; whnf) (by exact rfl) (envOk_cons (by conv => lhs; whnf) (by exact rfl) (envOk_cons (by conv => lhs; whnf) (by exact rfl) envOk_nil))) (objOk_cons (by conv => lhs; whnf) (by conv => lhs; whnf) (by exact rfl) (by simp) objOk_nil) (nodup_b rfl) (nodup_b rfl) rfl rfl, 0, h, rfl⟩ ?_
    rintro m s ⟨v4_3, h, rfl⟩
    obtain ⟨m3, q40, rfl, h, hq41⟩ := loop_some h
    replace h : gleaningref1_RightSpan_l3 a0 v3_1 v4_3 = some q40 := h
    unfold gleaningref1_RightSpan_l3 at h
    refine aw_seq_k (fun K42 hK42 => ?_)
    refine aw_seq_k (fun K43 hK43 => ?_)
    refine aw_regL ?_
    refine alP (some 61) rfl rfl (does_move (v := .int .i64 v4_3) (by exact rfl)) (by decide) ?_
    refine alP (some 62) rfl rfl (does_move (v := .int .i64 v3_1) (by exact rfl)) (by decide) ?_
    refine alP (some 63) rfl rfl (does_bin (v := .bool (decide (v4_3 < v3_1))) (by conv => lhs; whnf) (by conv => lhs; whnf) rfl) (by decide) ?_
    refine al_nil ?_
    refine hK43 _ ?_
    refine aw_bool (b := (decide (v4_3 < v3_1))) 63 rfl (fun c44 => ?_) (fun c44 => ?_)
    ·have h := ifT c44 h
     refine aw_cond_t (by decide) rfl ?_
     refine aw_skip ?_
     refine hK42 _ ?_
     refine aw_seq_k (fun K45 hK45 => ?_)
     refine aw_block ?_
     refine aw_seq_k (fun K46 hK46 => ?_)
     refine aw_regd (by kernel_rfl) (by decide +kernel) ?_
     refine aoP (some 66) rfl rfl (does_fieldAddr (q := .ptr 1 0 9) (by conv => lhs; whnf) ty28 rfl ty26 (by decide) (by exact rfl)) (by decide) ?_
     refine aoR (some 67) rfl rfl (does_load (v := .sl 2 (List.map enc39 a0.Attrs)) (by conv => lhs; whnf) (by conv => lhs; whnf) ty26 (by exact rfl)) (by decide) ?_
     refine aoP (some 68) rfl rfl (does_move (v := .int .i64 v4_3) (by exact rfl)) (by decide) ?_
     obtain ⟨g47, h⟩ := gd_some h
     obtain ⟨x48, hx48, h⟩ := bnd_some h
     refine aoP (some 69) rfl rfl (does_indexAddr_sl (el := .agg [.str x48.Key, .str x48.Value]) (by conv => lhs; whnf) (by conv => lhs; whnf) ty26 ty40 g47 (by exact map_get hx48)) (by decide) ?_
     refine aoP (some 70) rfl rfl (does_fieldAddr (q := .rptr [.str x48.Key, .str x48.Value]) (by conv => lhs; whnf) ty40 rfl ty9 (by decide) (by exact rfl)) (by decide) ?_
     refine aoR (some 71) rfl rfl (does_load (v := .str x48.Key) (by conv => lhs; whnf) (by conv => lhs; whnf) ty9 (by exact rfl)) (by decide) ?_
     refine aoP (some 72) rfl rfl (does_fieldAddr (q := .ptr 1 0 9) (by conv => lhs; whnf) ty28 rfl ty26 (by decide) (by exact rfl)) (by decide) ?_
     refine aoR (some 73) rfl rfl (does_load (v := .sl 2 (List.map enc39 a0.Attrs)) (by conv => lhs; whnf) (by conv => lhs; whnf) ty26 (by exact rfl)) (by decide) ?_
     refine aoP (some 74) rfl rfl (does_move (v := .int .i64 v3_1) (by exact rfl)) (by decide) ?_
     obtain ⟨g49, h⟩ := gd_some h
     obtain ⟨x50, hx50, h⟩ := bnd_some h
     refine aoP (some 75) rfl rfl (does_indexAddr_sl (el := .agg [.str x50.Key, .str x50.Value]) (by conv => lhs; whnf) (by conv => lhs; whnf) ty26 ty40 g49 (by exact map_get hx50)) (by decide) ?_
     refine aoP (some 76) rfl rfl (does_fieldAddr (q := .rptr [.str x50.Key, .str x50.Value]) (by conv => lhs; whnf) ty40 rfl ty9 (by decide) (by exact rfl)) (by decide) ?_
     refine aoR (some 77) rfl rfl (does_load (v := .str x50.Key) (by conv => lhs; whnf) (by conv => lhs; whnf) ty9 (by exact rfl)) (by decide) ?_
     refine aoP (some 78) rfl rfl (does_bin (v := .bool (ByteArray.toList x48.Key == ByteArray.toList x50.Key)) (by conv => lhs; whnf) (by conv => lhs; whnf) rfl) (by decide) ?_
     refine ao_nil_d (by kernel_rfl) ?_
     refine hK46 _ ?_
     refine aw_bool (b := (ByteArray.toList x48.Key == ByteArray.toList x50.Key)) 78 rfl (fun c51 => ?_) (fun c51 => ?_)
     ·have h := ifT c51 h
      refine aw_cond_t (by decide) rfl ?_
      refine aw_seq_k (fun K52 hK52 => ?_)
      refine aw_regL ?_
      refine alP (some 2) rfl rfl (does_assign (v := .bool false) (by exact rfl)) (by decide) ?_
      refine al_nil ?_
      refine hK52 _ ?_
      refine aw_ret ?_
      have h := leafR h hq41
      have h := leafR h hq22
      obtain rfl := Option.some.inj h
      exact ret_ok1 (by conv => lhs; whnf) (by conv => lhs; whnf) (by exact rfl) (.inr rfl) rfl
     ·have h := ifF c51 h
      refine aw_cond_f (by decide) rfl ?_
      refine aw_skip ?_
      refine hK45 _ ?_
      refine aw_regL ?_
      refine alP (some 64) rfl rfl (does_move (v := .int .i64 v4_3) (by exact rfl)) (by decide) ?_
      refine alP (some 65) rfl rfl (does_bin (v := .int .i64 (IntKind.i64.wrap (v4_3 + 1))) (by conv => lhs; whnf) (by conv => lhs; whnf) rfl) (by decide) ?_
      refine alP (some 4) rfl rfl (does_assign (v := .int .i64 (IntKind.i64.wrap (v4_3 + 1))) (by exact rfl)) (by decide) ?_
      refine al_nil ?_
      have h := leafL h hq41
      exact ⟨m3, Nat.lt_succ_self _, _, reb_lit [(1, .ptr 1 0 0), (3, .int .i64 v3_1), (4, .int .i64 (IntKind.i64.wrap (v4_3 + 1)))] [(1, 0)] [((1, 0), .box [.int .u64 a0.Trace.Hi, .int .u64 a0.Trace.Lo, .int .u64 a0.Id, .int .u64 a0.Parent, .str a0.Service, .str a0.Op, .int .i64 a0.Start, .int .i64 a0.Dur, .bool a0.Err, .sl 2 (List.map enc39 a0.Attrs)])] [(1, 1)] (envOk_cons (by conv => lhs; whnf) (by exact rfl) (envOk_cons (by conv => lhs; whnf) (by exact rfl) (envOk_cons (by conv => lhs; whnf) (by exact rfl) envOk_nil))) (objOk_cons (by conv => lhs; whnf) (by conv => lhs; whnf) (by exact rfl) (by simp) objOk_nil) (nodup_b rfl) (nodup_b rfl) rfl rfl, (IntKind.i64.wrap (v4_3 + 1)), h, rfl⟩
    ·have h := ifF c44 h
     refine aw_cond_f (by decide) rfl ?_
     refine aw_exit ?_
     have h := leafR h hq41
     refine hK26 _ ?_
     refine aw_regL ?_
     refine alP (some 40) rfl rfl (does_move (v := .int .i64 v3_1) (by exact rfl)) (by decide) ?_
     refine alP (some 41) rfl rfl (does_bin (v := .int .i64 (IntKind.i64.wrap (v3_1 + 1))) (by conv => lhs; whnf) (by conv => lhs; whnf) rfl) (by decide) ?_
     refine alP (some 3) rfl rfl (does_assign (v := .int .i64 (IntKind.i64.wrap (v3_1 + 1))) (by exact rfl)) (by decide) ?_
     refine al_nil ?_
     have h := leafL h hq22
     exact ⟨m1, Nat.lt_succ_self _, _, reb_lit [(1, .ptr 1 0 0), (3, .int .i64 (IntKind.i64.wrap (v3_1 + 1)))] [(1, 0)] [((1, 0), .box [.int .u64 a0.Trace.Hi, .int .u64 a0.Trace.Lo, .int .u64 a0.Id, .int .u64 a0.Parent, .str a0.Service, .str a0.Op, .int .i64 a0.Start, .int .i64 a0.Dur, .bool a0.Err, .sl 2 (List.map enc39 a0.Attrs)])] [(1, 1)] (envOk_cons (by conv => lhs; whnf) (by exact rfl) (envOk_cons (by conv => lhs; whnf) (by exact rfl) envOk_nil)) (objOk_cons (by conv => lhs; whnf) (by conv => lhs; whnf) (by exact rfl) (by simp) objOk_nil) (nodup_b rfl) (nodup_b rfl) rfl rfl, (IntKind.i64.wrap (v3_1 + 1)), h, rfl⟩
  ·have h := ifF c25 h
   refine aw_cond_f (by decide) rfl ?_
   refine aw_exit ?_
   have h := leafR h hq22
   refine hK19 _ ?_
   refine aw_seq_k (fun K53 hK53 => ?_)
   refine aw_regL ?_
   refine alP (some 2) rfl rfl (does_assign (v := .bool true) (by exact rfl)) (by decide) ?_
   refine al_nil ?_
   refine hK53 _ ?_
   refine aw_ret ?_
   obtain rfl := Option.some.inj h
   exact ret_ok1 (by conv => lhs; whnf) (by conv => lhs; whnf) (by exact rfl) (.inr rfl) rfl
def gleaningref1_RightSpans_l0 (a0 : List Span) (v3_0 : Int) : Option (Int ⊕ Bool) :=
 if (decide (v3_0 < (List.length a0 : Int))) = true then (gd (0 ≤ v3_0) (Option.bind (a0[(Int.toNat v3_0)]?) (fun (x12 : Span) => Option.bind (gleaningref1_RightSpan x12) (fun (x13 : Bool) => if (!x13) = true then (some (Sum.inr false)) else (some (Sum.inl (IntKind.i64.wrap (v3_0 + 1)))))))) else (some (Sum.inr true))
def gleaningref1_RightSpans (a0 : List Span) : Option Bool :=
 loopN (fun (s : Int) => gleaningref1_RightSpans_l0 a0 s) Fu 0
set_option maxRecDepth 100000 in
set_option maxHeartbeats 8000000 in
theorem gleaningref1_RightSpans_ok (a0 : List Span) {r : Bool} (h : gleaningref1_RightSpans a0 = some r) : Ok Try.prog 15 [.sl 10 (List.map enc27 a0)] [] [] (.bool r) [] [] := by
 unfold gleaningref1_RightSpans at h
 refine ok_of_code Try.func15 rfl (by show (1 : Nat) ≤ _; decide) (Nat.le_refl _) fun X => ?_
 refine aw_seq_k (fun K1 hK1 => ?_)
 refine aw_regL ?_
 refine alP (some 2) rfl rfl (does_assign (v := .bool false) (by exact rfl)) (by decide) ?_
 refine al_nil ?_
 refine hK1 _ ?_
 refine aw_seq_k (fun K2 hK2 => ?_)
 refine aw_seq_k (fun K3 hK3 => ?_)
 refine aw_regL ?_
 refine alP (some 3) rfl rfl (does_assign (v := .int .i64 0) (by exact rfl)) (by decide) ?_
 refine al_nil ?_
 refine hK3 _ ?_
 refine aw_block ?_
 refine aw_loop' (fun m s => ∃ (v3_0 : Int), loopN (fun (s : Int) => gleaningref1_RightSpans_l0 a0 s) m v3_0 = some r ∧ s = lit [(0, .sl 10 (List.map enc27 a0)), (3, .int .i64 v3_0)] [] [] X) Fu
  ⟨_, reb_lit [(0, .sl 10 (List.map enc27 a0)), (3, .int .i64 (0))] [] [] [] (envOk_cons (by conv => lhs; whnf) (by exact rfl) (envOk_cons (by conv => lhs; whnf) (by exact rfl) envOk_nil)) objOk_nil (nodup_b rfl) (nodup_b rfl) rfl rfl, 0, h, rfl⟩ ?_
 rintro m s ⟨v3_0, h, rfl⟩
 obtain ⟨m0, q4, rfl, h, hq5⟩ := loop_some h
 replace h : gleaningref1_RightSpans_l0 a0 v3_0 = some q4 := h
 unfold gleaningref1_RightSpans_l0 at h
 refine aw_seq_k (fun K6 hK6 => ?_)
 refine aw_seq_k (fun K7 hK7 => ?_)
 refine aw_regL ?_
 refine alP (some 4) rfl rfl (does_move (v := .int .i64 v3_0) (by exact rfl)) (by decide) ?_
 refine alP (some 5) rfl rfl (does_move (v := .sl 10 (List.map enc27 a0)) (by exact rfl)) (by decide) ?_
 refine alP (some 6) rfl rfl ((does_len_sl (by conv => lhs; whnf) ty22).castp (v' := .int .i64 (List.length a0 : Int)) (by exact len_map _)) (by decide) ?_
 refine alP (some 7) rfl rfl (does_bin (v := .bool (decide (v3_0 < (List.length a0 : Int)))) (by conv => lhs; whnf) (by conv => lhs; whnf) rfl) (by decide) ?_
 refine al_nil ?_
 refine hK7 _ ?_
 refine aw_bool (b := (decide (v3_0 < (List.length a0 : Int)))) 7 rfl (fun c8 => ?_) (fun c8 => ?_)
 ·have h := ifT c8 h
  refine aw_cond_t (by decide) rfl ?_
  refine aw_skip ?_
  refine hK6 _ ?_
  refine aw_seq_k (fun K9 hK9 => ?_)
  refine aw_block ?_
  refine aw_seq_k (fun K10 hK10 => ?_)
  refine aw_regL ?_
  refine alP (some 10) rfl rfl (does_move (v := .sl 10 (List.map enc27 a0)) (by exact rfl)) (by decide) ?_
  refine alP (some 11) rfl rfl (does_move (v := .int .i64 v3_0) (by exact rfl)) (by decide) ?_
  obtain ⟨g11, h⟩ := gd_some h
  obtain ⟨x12, hx12, h⟩ := bnd_some h
  refine alP (some 12) rfl rfl (does_indexAddr_sl (el := .agg [.int .u64 x12.Trace.Hi, .int .u64 x12.Trace.Lo, .int .u64 x12.Id, .int .u64 x12.Parent, .str x12.Service, .str x12.Op, .int .i64 x12.Start, .int .i64 x12.Dur, .bool x12.Err, .sl 2 (List.map enc39 x12.Attrs)]) (by conv => lhs; whnf) (by conv => lhs; whnf) ty22 ty28 g11 (by exact map_get hx12)) (by decide) ?_
  refine alR (some 13) rfl rfl (does_load (v := .agg [.int .u64 x12.Trace.Hi, .int .u64 x12.Trace.Lo, .int .u64 x12.Id, .int .u64 x12.Parent, .str x12.Service, .str x12.Op, .int .i64 x12.Start, .int .i64 x12.Dur, .bool x12.Err, .sl 2 (List.map enc39 x12.Attrs)]) (by conv => lhs; whnf) (by conv => lhs; whnf) ty28 (by exact rfl)) (by decide) ?_
  obtain ⟨x13, hx13, h⟩ := bnd_some h
  refine alD (some 14) rfl rfl (do_call0 14 false (gleaningref1_RightSpan_ok x12 hx13) rfl ent18 rfl rfl) (by decide) ?_
  refine alP (some 15) rfl rfl (does_un (v := .bool (!x13)) (by conv => lhs; whnf) rfl) (by decide) ?_
  refine al_nil ?_
  refine hK10 _ ?_
  refine aw_bool (b := (!x13)) 15 rfl (fun c14 => ?_) (fun c14 => ?_)
  ·have h := ifT c14 h
   refine aw_cond_t (by decide) rfl ?_
   refine aw_seq_k (fun K15 hK15 => ?_)
   refine aw_regL ?_
   refine alP (some 2) rfl rfl (does_assign (v := .bool false) (by exact rfl)) (by decide) ?_
   refine al_nil ?_
   refine hK15 _ ?_
   refine aw_ret ?_
   have h := leafR h hq5
   obtain rfl := Option.some.inj h
   exact ret_ok1 (by conv => lhs; whnf) (by conv => lhs; whnf) (by exact rfl) (.inr rfl) rfl
  ·have h := ifF c14 h
   refine aw_cond_f (by decide) rfl ?_
   refine aw_skip ?_
   refine hK9 _ ?_
   refine aw_regL ?_
   refine alP (some 8) rfl rfl (does_move (v := .int .i64 v3_0) (by exact rfl)) (by decide) ?_
   refine alP (some 9) rfl rfl (does_bin (v := .int .i64 (IntKind.i64.wrap (v3_0 + 1))) (by conv => lhs; whnf) (by conv => lhs; whnf) rfl) (by decide) ?_
   refine alP (some 3) rfl rfl (does_assign (v := .int .i64 (IntKind.i64.wrap (v3_0 + 1))) (by exact rfl)) (by decide) ?_
   refine al_nil ?_
   have h := leafL h hq5
   exact ⟨m0, Nat.lt_succ_self _, _, reb_lit [(0, .sl 10 (List.map enc27 a0)), (3, .int .i64 (IntKind.i64.wrap (v3_0 + 1)))] [] [] [] (envOk_cons (by conv => lhs; whnf) (by exact rfl) (envOk_cons (by conv => lhs; whnf) (by exact rfl) envOk_nil)) objOk_nil (nodup_b rfl) (nodup_b rfl) rfl rfl, (IntKind.i64.wrap (v3_0 + 1)), h, rfl⟩
 ·have h := ifF c8 h
  refine aw_cond_f (by decide) rfl ?_
  refine aw_exit ?_
  have h := leafR h hq5
  refine hK2 _ ?_
  refine aw_seq_k (fun K16 hK16 => ?_)
  refine aw_regL ?_
  refine alP (some 2) rfl rfl (does_assign (v := .bool true) (by exact rfl)) (by decide) ?_
  refine al_nil ?_
  refine hK16 _ ?_
  refine aw_ret ?_
  obtain rfl := Option.some.inj h
  exact ret_ok1 (by conv => lhs; whnf) (by conv => lhs; whnf) (by exact rfl) (.inr rfl) rfl
end Go.Proofs.Ytmompdklolomfaa.Ab
