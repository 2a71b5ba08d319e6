/- What took time: the document. -/
import Derived.Test.YtmompdklolomfaaXPath
import Derived.Test.YtmompdklolomfaaProg
namespace Go.Proofs.Ytmompdklolomfaa.Ab
open Go Go.RowKit
set_option linter.unusedVariables false
set_option linter.unusedSimpArgs false
structure Arr2_Int where
 c0 : Int
 c1 : Int
 deriving DecidableEq
def enc49 (x : Arr2_Int) : PV := .agg [.int .i64 x.c0, .int .i64 x.c1]
theorem ty49 : tyOf Try.prog 49 = some ⟨.arr 2 3, 2, 16, [.int .i64 0, .int .i64 0]⟩ := by kernel_rfl
theorem ty50 : tyOf Try.prog 50 = some ⟨.slice 49, 1, 24, [.nil]⟩ := by kernel_rfl
theorem ent10 : Ent Try.prog 10 := ⟨_, Try.func10, by kernel_rfl, rfl⟩
theorem ent15 : Ent Try.prog 15 := ⟨_, Try.func15, by kernel_rfl, rfl⟩
theorem ent16 : Ent Try.prog 16 := ⟨_, Try.func16, by kernel_rfl, rfl⟩
theorem ent22 : Ent Try.prog 22 := ⟨_, Try.func22, by kernel_rfl, rfl⟩
def gleaningref28_Ends (a0 : Span) : Option (Int × Int) :=
 Option.bind (gleaningref1_RightSpan a0) (fun (x4 : Bool) => if (!x4) = true then (some (0, 0)) else (some ((IntKind.i64.wrap (a0.Start * 1000)), (IntKind.i64.wrap ((IntKind.i64.wrap (a0.Start * 1000)) + a0.Dur)))))
set_option maxRecDepth 100000 in
set_option maxHeartbeats 8000000 in
theorem gleaningref28_Ends_ok (a0 : Span) {r : Int × Int} (h : gleaningref28_Ends a0 = some r) : Ok Try.prog 10 [.agg [.int .u64 a0.Trace.Hi, .int .u64 a0.Trace.Lo, .int .u64 a0.Id, .int .u64 a0.Parent, .str a0.Service, .str a0.Op, .int .i64 a0.Start, .int .i64 a0.Dur, .bool a0.Err, .sl 2 (List.map enc39 a0.Attrs)]] [] [] (.tup [.int .i64 r.1, .int .i64 r.2]) [] [] := by
 unfold gleaningref28_Ends at h
 refine ok_of_code Try.func10 rfl (by show (1 : Nat) ≤ _; decide) (Nat.le_refl _) fun X => ?_
 refine aw_seq_k (fun K1 hK1 => ?_)
 refine aw_regL ?_
 refine alD (some 1) rfl rfl (do_box (by conv => lhs; whnf) rfl rfl) (by decide) ?_
 refine alP (some 2) rfl rfl (does_assign (v := .int .i64 0) (by exact rfl)) (by decide) ?_
 refine alP (some 3) rfl rfl (does_assign (v := .int .i64 0) (by exact rfl)) (by decide) ?_
 refine al_nil ?_
 refine hK1 _ ?_
 refine aw_seq_k (fun K2 hK2 => ?_)
 refine aw_seq_k (fun K3 hK3 => ?_)
 refine aw_regL ?_
 refine alR (some 4) rfl rfl (does_load (v := .agg [.int .u64 a0.Trace.Hi, .int .u64 a0.Trace.Lo, .int .u64 a0.Id, .int .u64 a0.Parent, .str a0.Service, .str a0.Op, .int .i64 a0.Start, .int .i64 a0.Dur, .bool a0.Err, .sl 2 (List.map enc39 a0.Attrs)]) (by conv => lhs; whnf) (by conv => lhs; whnf) ty28 (by exact rfl)) (by decide) ?_
 obtain ⟨x4, hx4, h⟩ := bnd_some h
 refine alD (some 5) rfl rfl (do_call0 5 false (gleaningref1_RightSpan_ok a0 hx4) rfl ent18 rfl rfl) (by decide) ?_
 refine alP (some 6) rfl rfl (does_un (v := .bool (!x4)) (by conv => lhs; whnf) rfl) (by decide) ?_
 refine al_nil ?_
 refine hK3 _ ?_
 refine aw_bool (b := (!x4)) 6 rfl (fun c5 => ?_) (fun c5 => ?_)
 ·have h := ifT c5 h
  refine aw_cond_t (by decide) rfl ?_
  refine aw_seq_k (fun K6 hK6 => ?_)
  refine aw_regL ?_
  refine alP (some 2) rfl rfl (does_assign (v := .int .i64 0) (by exact rfl)) (by decide) ?_
  refine alP (some 3) rfl rfl (does_assign (v := .int .i64 0) (by exact rfl)) (by decide) ?_
  refine al_nil ?_
  refine hK6 _ ?_
  refine aw_ret ?_
  obtain rfl := Option.some.inj h
  exact ret_ok1 (by conv => lhs; whnf) (by conv => lhs; whnf) (by exact rfl) (.inr rfl) rfl
 ·have h := ifF c5 h
  refine aw_cond_f (by decide) rfl ?_
  refine aw_skip ?_
  refine hK2 _ ?_
  refine aw_seq_k (fun K7 hK7 => ?_)
  refine aw_regd (by kernel_rfl) (by decide +kernel) ?_
  refine aoP (some 7) rfl rfl (does_fieldAddr (q := .ptr 1 0 6) (by conv => lhs; whnf) ty28 rfl ty3 (by decide) (by exact rfl)) (by decide) ?_
  refine aoR (some 8) rfl rfl (does_load (v := .int .i64 a0.Start) (by conv => lhs; whnf) (by conv => lhs; whnf) ty3 (by exact rfl)) (by decide) ?_
  refine aoP (some 9) rfl rfl (does_bin (v := .int .i64 (IntKind.i64.wrap (a0.Start * 1000))) (by conv => lhs; whnf) (by conv => lhs; whnf) rfl) (by decide) ?_
  refine aoP (some 10) rfl rfl (does_fieldAddr (q := .ptr 1 0 6) (by conv => lhs; whnf) ty28 rfl ty3 (by decide) (by exact rfl)) (by decide) ?_
  refine aoR (some 11) rfl rfl (does_load (v := .int .i64 a0.Start) (by conv => lhs; whnf) (by conv => lhs; whnf) ty3 (by exact rfl)) (by decide) ?_
  refine aoP (some 12) rfl rfl (does_bin (v := .int .i64 (IntKind.i64.wrap (a0.Start * 1000))) (by conv => lhs; whnf) (by conv => lhs; whnf) rfl) (by decide) ?_
  refine aoP (some 13) rfl rfl (does_fieldAddr (q := .ptr 1 0 7) (by conv => lhs; whnf) ty28 rfl ty3 (by decide) (by exact rfl)) (by decide) ?_
  refine aoR (some 14) rfl rfl (does_load (v := .int .i64 a0.Dur) (by conv => lhs; whnf) (by conv => lhs; whnf) ty3 (by exact rfl)) (by decide) ?_
  refine aoP (some 15) rfl rfl (does_bin (v := .int .i64 (IntKind.i64.wrap ((IntKind.i64.wrap (a0.Start * 1000)) + a0.Dur))) (by conv => lhs; whnf) (by conv => lhs; whnf) rfl) (by decide) ?_
  refine aoP (some 2) rfl rfl (does_assign (v := .int .i64 (IntKind.i64.wrap (a0.Start * 1000))) (by exact rfl)) (by decide) ?_
  refine aoP (some 3) rfl rfl (does_assign (v := .int .i64 (IntKind.i64.wrap ((IntKind.i64.wrap (a0.Start * 1000)) + a0.Dur))) (by exact rfl)) (by decide) ?_
  refine ao_nil_d (by kernel_rfl) ?_
  refine hK7 _ ?_
  refine aw_ret ?_
  obtain rfl := Option.some.inj h
  exact ret_ok1 (by conv => lhs; whnf) (by conv => lhs; whnf) (by exact rfl) (.inr rfl) rfl
def gleaningref28_Parents_k3 (v4_1 : Int) (v3_s_2 : List Int) (v5_2 : Int) (v45_3 : Bool) : Option ((List Int × Int) ⊕ ((List Int × Int) ⊕ (List Int))) :=
 if v45_3 = true then (gd (0 ≤ v4_1) (Option.bind (v3_s_2[(Int.toNat v4_1)]?) (fun (x32 : Int) => some (Sum.inl ((List.set v3_s_2 (Int.toNat v4_1) v5_2), (IntKind.i64.wrap (v5_2 - 1))))))) else (some (Sum.inl (v3_s_2, (IntKind.i64.wrap (v5_2 - 1)))))
def gleaningref28_Parents_l2 (a0 : List Span) (v4_1 : Int) (v3_s_2 : List Int) (v5_2 : Int) : Option ((List Int × Int) ⊕ ((List Int × Int) ⊕ (List Int))) :=
 if (decide ((0 : Int) ≤ v5_2)) = true then (Option.bind (if (v5_2 != v4_1) = true then (gd (0 ≤ v5_2) (Option.bind (a0[(Int.toNat v5_2)]?) (fun (x27 : Span) => gd (0 ≤ v4_1) (Option.bind (a0[(Int.toNat v4_1)]?) (fun (x29 : Span) => some (x27.Id == x29.Parent)))))) else (some false)) (fun (s : Bool) => gleaningref28_Parents_k3 v4_1 v3_s_2 v5_2 s)) else (some (Sum.inr (Sum.inl (v3_s_2, (IntKind.i64.wrap (v4_1 + 1))))))
def gleaningref28_Parents_l1 (a0 : List Span) (v3_s_1 : List Int) (v4_1 : Int) : Option ((List Int × Int) ⊕ (List Int)) :=
 if (decide (v4_1 < (List.length a0 : Int))) = true then (gd (0 ≤ v4_1) (Option.bind (v3_s_1[(Int.toNat v4_1)]?) (fun (x15 : Int) => loopN (fun (s : List Int × Int) => gleaningref28_Parents_l2 a0 v4_1 s.1 s.2) Fu ((List.set v3_s_1 (Int.toNat v4_1) (-1)), (IntKind.i64.wrap ((List.length a0 : Int) - 1)))))) else (some (Sum.inr v3_s_1))
def gleaningref28_Parents_k8 (v3_s_0 : List Int) (v9_6 : Int) (v10_6 : Int) (v8_8 : Bool) : Option ((Bool × Int × Int) ⊕ (Bool × Int)) :=
 gd (0 ≤ v9_6) (Option.bind (v3_s_0[(Int.toNat v9_6)]?) (fun (x63 : Int) => some (Sum.inl (v8_8, x63, (IntKind.i64.wrap (v10_6 + 1))))))
def gleaningref28_Parents_k7 (v3_s_0 : List Int) (v7_4 : Int) (v8_6 : Bool) (v9_6 : Int) (v10_6 : Int) : Option ((Bool × Int × Int) ⊕ (Bool × Int)) :=
 Option.bind (if v8_6 = true then (some (decide (v7_4 < v9_6))) else (some false)) (fun (s : Bool) => gleaningref28_Parents_k8 v3_s_0 v9_6 v10_6 s)
def gleaningref28_Parents_l6 (a0 : List Span) (v3_s_0 : List Int) (v7_4 : Int) (v8_6 : Bool) (v9_6 : Int) (v10_6 : Int) : Option ((Bool × Int × Int) ⊕ (Bool × Int)) :=
 Option.bind (if (decide (v10_6 < (List.length a0 : Int))) = true then (if (decide ((0 : Int) ≤ v9_6)) = true then (if (v9_6 != v7_4) = true then (some (Sum.inl ())) else (some (Sum.inr (Sum.inr (v8_6, v9_6))))) else (some (Sum.inr (Sum.inr (v8_6, v9_6))))) else (some (Sum.inr (Sum.inr (v8_6, v9_6))))) (Sum.elim (fun (s : Unit) => gleaningref28_Parents_k7 v3_s_0 v7_4 v8_6 v9_6 v10_6) some)
def gleaningref28_Parents_k9 (v6_s_4 : List Int) (v7_4 : Int) (v92_9 : Bool) : Option ((List Int × Int) ⊕ (List Int)) :=
 if v92_9 = true then (gd (0 ≤ v7_4) (Option.bind (v6_s_4[(Int.toNat v7_4)]?) (fun (x69 : Int) => some (Sum.inl ((List.set v6_s_4 (Int.toNat v7_4) (-1)), (IntKind.i64.wrap (v7_4 + 1))))))) else (some (Sum.inl (v6_s_4, (IntKind.i64.wrap (v7_4 + 1)))))
def gleaningref28_Parents_k5 (v6_s_4 : List Int) (v7_4 : Int) (v8_5 : Bool) (v9_5 : Int) : Option ((List Int × Int) ⊕ (List Int)) :=
 Option.bind (if (v9_5 == v7_4) = true then (some v8_5) else (some false)) (fun (s : Bool) => gleaningref28_Parents_k9 v6_s_4 v7_4 s)
def gleaningref28_Parents_l4 (a0 : List Span) (v3_s_0 : List Int) (v6_s_4 : List Int) (v7_4 : Int) : Option ((List Int × Int) ⊕ (List Int)) :=
 if (decide (v7_4 < (List.length a0 : Int))) = true then (gd (0 ≤ v7_4) (Option.bind (v3_s_0[(Int.toNat v7_4)]?) (fun (x46 : Int) => Option.bind (loopN (fun (s : Bool × Int × Int) => gleaningref28_Parents_l6 a0 v3_s_0 v7_4 s.1 s.2.1 s.2.2) Fu (true, x46, 0)) (fun (s : Bool × Int) => gleaningref28_Parents_k5 v6_s_4 v7_4 s.1 s.2)))) else (some (Sum.inr v6_s_4))
def gleaningref28_Parents_k0 (a0 : List Span) (v3_s_0 : List Int) : Option (List Int) :=
 gd ((List.length v3_s_0) * 8 ≤ 140737488355328 ∧ (List.length v3_s_0) ≤ 140737488355328) (loopN (fun (s : List Int × Int) => gleaningref28_Parents_l4 a0 v3_s_0 s.1 s.2) Fu (v3_s_0, 0))
def gleaningref28_Parents (a0 : List Span) : Option (List Int) :=
 gd (0 ≤ (List.length a0 : Int) ∧ (List.length a0 : Int) ≤ 1000000) (Option.bind (loopN (fun (s : List Int × Int) => gleaningref28_Parents_l1 a0 s.1 s.2) Fu ((List.replicate (Int.toNat (List.length a0 : Int)) 0), 0)) (fun (s : List Int) => gleaningref28_Parents_k0 a0 s))
set_option maxRecDepth 100000 in
set_option maxHeartbeats 8000000 in
theorem gleaningref28_Parents_ok (a0 : List Span) {r : List Int} (h : gleaningref28_Parents a0 = some r) : Ok Try.prog 16 [.sl 10 (List.map enc27 a0)] [] [] (.own 2 0) [] [(3, 1, List.map enc2 r)] := by
 unfold gleaningref28_Parents at h
 refine ok_of_code Try.func16 rfl (by show (1 : Nat) ≤ _; decide) (Nat.le_refl _) fun X => ?_
 refine aw_seq_k (fun K1 hK1 => ?_)
 refine aw_regL ?_
 refine alP (some 2) rfl rfl (does_assign (v := .nil) (by exact rfl)) (by decide) ?_
 refine al_nil ?_
 refine hK1 _ ?_
 refine aw_seq_k (fun K2 hK2 => ?_)
 refine aw_regL ?_
 refine alP (some 11) rfl rfl (does_move (v := .sl 10 (List.map enc27 a0)) (by exact rfl)) (by decide) ?_
 refine alP (some 12) rfl rfl ((does_len_sl (by conv => lhs; whnf) ty22).castp (v' := .int .i64 (List.length a0 : Int)) (by exact len_map _)) (by decide) ?_
 obtain ⟨g3, h⟩ := gd_some h
 refine alD (some 13) rfl rfl (do_makeSlice (f := enc2) (z0 := 0) (zx := .int .i64 0) rfl ty34 ty3 (ev_nat (by conv => lhs; whnf) g3.1) (ev_nat (by conv => lhs; whnf) g3.1) rfl rfl rfl (by omega) rfl) (by decide) ?_
 refine alP (some 3) rfl rfl (does_assign (v := .own 13 0) (by exact rfl)) (by decide) ?_
 refine al_nil ?_
 refine hK2 _ ?_
 obtain ⟨q4, h, hk5⟩ := bnd_some h
 refine aw_cut (fun s => ∃ (v3_s_0 : List Int), gleaningref28_Parents_k0 a0 v3_s_0 = some r ∧ s = lit [(0, .sl 10 (List.map enc27 a0)), (3, .own 13 0)] [((13, 0), .arr 3 1 false (List.map enc2 v3_s_0))] [(13, 1)] X) ?_ ?_
 ·skip
  refine aw_seq_k (fun K6 hK6 => ?_)
  refine aw_regL ?_
  refine alP (some 4) rfl rfl (does_assign (v := .int .i64 0) (by exact rfl)) (by decide) ?_
  refine al_nil ?_
  refine hK6 _ ?_
  refine aw_block ?_
  refine aw_loop' (fun m s => ∃ (v3_s_1 : List Int), ∃ (v4_1 : Int), loopN (fun (s : List Int × Int) => gleaningref28_Parents_l1 a0 s.1 s.2) m (v3_s_1, v4_1) = some q4 ∧ s = lit [(0, .sl 10 (List.map enc27 a0)), (3, .own 13 0), (4, .int .i64 v4_1)] [((13, 0), .arr 3 1 false (List.map enc2 v3_s_1))] [(13, 1)] X) Fu
   ⟨_, reb_lit [(0, .sl 10 (List.map enc27 a0)), (3, .own 13 0), (4, .int .i64 (0))] [(13, 0)] [((13, 0), .arr 3 1 false (List.map enc2 (List.replicate (Int.toNat (List.length a0 : Int)) 0)))] [(13, 1)] (envOk_cons (by conv => lhs; whnf) (by exact rfl) (envOk_cons (by conv => lhs; whnf) (by exact rfl) (envOk_cons (by conv => lhs; whnf) (by exact rfl) envOk_nil))) (objOk_cons (by conv => lhs; whnf) (by conv => lhs; whnf) (by exact rfl) (by simp) objOk_nil) (nodup_b rfl) (nodup_b rfl) rfl rfl, (List.replicate (Int.toNat (List.length a0 : Int)) 0), 0, h, rfl⟩ ?_
  rintro m s ⟨v3_s_1, v4_1, h, rfl⟩
  obtain ⟨m1, q7, rfl, h, hq8⟩ := loop_some h
  replace h : gleaningref28_Parents_l1 a0 v3_s_1 v4_1 = some q7 := h
  unfold gleaningref28_Parents_l1 at h
  refine aw_seq_k (fun K9 hK9 => ?_)
  refine aw_seq_k (fun K10 hK10 => ?_)
  refine aw_regL ?_
  refine alP (some 14) rfl rfl (does_move (v := .int .i64 v4_1) (by exact rfl)) (by decide) ?_
  refine alP (some 15) rfl rfl (does_move (v := .sl 10 (List.map enc27 a0)) (by exact rfl)) (by decide) ?_
  refine alP (some 16) rfl rfl ((does_len_sl (by conv => lhs; whnf) ty22).castp (v' := .int .i64 (List.length a0 : Int)) (by exact len_map _)) (by decide) ?_
  refine alP (some 17) rfl rfl (does_bin (v := .bool (decide (v4_1 < (List.length a0 : Int)))) (by conv => lhs; whnf) (by conv => lhs; whnf) rfl) (by decide) ?_
  refine al_nil ?_
  refine hK10 _ ?_
  refine aw_bool (b := (decide (v4_1 < (List.length a0 : Int)))) 17 rfl (fun c11 => ?_) (fun c11 => ?_)
  ·have h := ifT c11 h
   refine aw_cond_t (by decide) rfl ?_
   refine aw_skip ?_
   refine hK9 _ ?_
   refine aw_seq_k (fun K12 hK12 => ?_)
   refine aw_block ?_
   refine aw_seq_k (fun K13 hK13 => ?_)
   refine aw_regL ?_
   refine alP (some 20) rfl rfl (does_move (v := .own 13 0) (by exact rfl)) (by decide) ?_
   refine alP (some 21) rfl rfl (does_move (v := .int .i64 v4_1) (by exact rfl)) (by decide) ?_
   obtain ⟨g14, h⟩ := gd_some h
   obtain ⟨x15, hx15, h⟩ := bnd_some h
   refine alR (some 22) rfl rfl (does_indexAddr_own (by conv => lhs; whnf) (by conv => lhs; whnf) (by conv => lhs; whnf) ty34 ty3 g14 (by exact own_lt hx15)) (by decide) ?_
   refine alD none rfl rfl (does_storeE (old := .int .i64 x15) (el := .int .i64 (-1)) (xs' := List.map enc2 (List.set v3_s_1 (Int.toNat v4_1) (-1))) (by conv => lhs; whnf) (by conv => lhs; whnf) (by conv => lhs; whnf) ty3 (by rfl) (by rfl) (by exact map_get hx15) (by rfl) (by exact rfl) (by exact map_set' _ _ (-1)) (by rfl)) (by decide) ?_
   refine al_nil ?_
   refine hK13 _ ?_
   refine aw_seq_k (fun K16 hK16 => ?_)
   refine aw_regL ?_
   refine alP (some 23) rfl rfl (does_move (v := .sl 10 (List.map enc27 a0)) (by exact rfl)) (by decide) ?_
   refine alP (some 24) rfl rfl ((does_len_sl (by conv => lhs; whnf) ty22).castp (v' := .int .i64 (List.length a0 : Int)) (by exact len_map _)) (by decide) ?_
   refine alP (some 25) rfl rfl (does_bin (v := .int .i64 (IntKind.i64.wrap ((List.length a0 : Int) - 1))) (by conv => lhs; whnf) (by conv => lhs; whnf) rfl) (by decide) ?_
   refine alP (some 5) rfl rfl (does_assign (v := .int .i64 (IntKind.i64.wrap ((List.length a0 : Int) - 1))) (by exact rfl)) (by decide) ?_
   refine al_nil ?_
   refine hK16 _ ?_
   refine aw_block ?_
   refine aw_loop' (fun m s => ∃ (v3_s_2 : List Int), ∃ (v5_2 : Int), loopN (fun (s : List Int × Int) => gleaningref28_Parents_l2 a0 v4_1 s.1 s.2) m (v3_s_2, v5_2) = some q7 ∧ s = lit [(0, .sl 10 (List.map enc27 a0)), (3, .own 13 0), (4, .int .i64 v4_1), (5, .int .i64 v5_2)] [((13, 0), .arr 3 1 false (List.map enc2 v3_s_2))] [(13, 1)] X) Fu
    ⟨_, reb_lit [(0, .sl 10 (List.map enc27 a0)), (3, .own 13 0), (4, .int .i64 v4_1), (5, .int .i64 (IntKind.i64.wrap ((List.length a0 : Int) - 1)))] [(13, 0)] [((13, 0), .arr 3 1 false (List.map enc2 (List.set v3_s_1 (Int.toNat v4_1) (-1))))] [(13, 1)] (envOk_cons (by conv => lhs; whnf) (by exact rfl) (envOk_cons (by conv => lhs; whnf) (by exact rfl) (envOk_cons (by conv => lhs; whnf) (by exact rfl) (envOk_cons (by conv => lhs; whnf) (by exact rfl) envOk_nil)))) (objOk_cons (by conv => lhs; whnf) (by conv => lhs; whnf) (by exact rfl) (by simp) objOk_nil) (nodup_b rfl) (nodup_b rfl) rfl rfl, (List.set v3_s_1 (Int.toNat v4_1) (-1)), (IntKind.i64.wrap ((List.length a0 : Int) - 1)), h, rfl⟩ ?_
   rintro m s ⟨v3_s_2, v5_2, h, rfl⟩
   obtain ⟨m2, q17, rfl, h, hq18⟩ := loop_some h
   replace h : gleaningref28_Parents_l2 a0 v4_1 v3_s_2 v5_2 = some q17 := h
   unfold gleaningref28_Parents_l2 at h
   refine aw_seq_k (fun K19 hK19 => ?_)
   refine aw_seq_k (fun K20 hK20 => ?_)
   refine aw_regL ?_
   refine alP (some 26) rfl rfl (does_move (v := .int .i64 v5_2) (by exact rfl)) (by decide) ?_
   refine alP (some 27) rfl rfl (does_bin (v := .bool (decide ((0 : Int) ≤ v5_2))) (by conv => lhs; whnf) (by conv => lhs; whnf) rfl) (by decide) ?_
   refine al_nil ?_
   refine hK20 _ ?_
   refine aw_bool (b := (decide ((0 : Int) ≤ v5_2))) 27 rfl (fun c21 => ?_) (fun c21 => ?_)
   ·have h := ifT c21 h
    refine aw_cond_t (by decide) rfl ?_
    refine aw_skip ?_
    refine hK19 _ ?_
    refine aw_seq_k (fun K22 hK22 => ?_)
    refine aw_block ?_
    obtain ⟨q23, h, hk24⟩ := bnd_some h
    refine aw_cut (fun s => ∃ (v45_3 : Bool), gleaningref28_Parents_k3 v4_1 v3_s_2 v5_2 v45_3 = some q17 ∧ s = lit [(0, .sl 10 (List.map enc27 a0)), (3, .own 13 0), (4, .int .i64 v4_1), (5, .int .i64 v5_2), (45, .bool v45_3)] [((13, 0), .arr 3 1 false (List.map enc2 v3_s_2))] [(13, 1)] X) ?_ ?_
    ·skip
     refine aw_regd (by kernel_rfl) (by decide +kernel) ?_
     refine aoP (some 30) rfl rfl (does_move (v := .int .i64 v5_2) (by exact rfl)) (by decide) ?_
     refine aoP (some 31) rfl rfl (does_move (v := .int .i64 v4_1) (by exact rfl)) (by decide) ?_
     refine aoP (some 32) rfl rfl (does_bin (v := .bool (v5_2 != v4_1)) (by conv => lhs; whnf) (by conv => lhs; whnf) rfl) (by decide) ?_
     refine aoP (some 33) rfl rfl (does_move (v := .bool (v5_2 != v4_1)) (by exact rfl)) (by decide) ?_
     refine ao_bool (c := (v5_2 != v4_1)) 33 rfl (fun c25 => ?_) (fun c25 => ?_)
     ·have h := ifT c25 h
      refine aoP (some 34) rfl rfl (does_move (v := .sl 10 (List.map enc27 a0)) (by exact rfl)) (by decide) ?_
      refine aoP (some 35) rfl rfl (does_move (v := .int .i64 v5_2) (by exact rfl)) (by decide) ?_
      obtain ⟨g26, h⟩ := gd_some h
      obtain ⟨x27, hx27, h⟩ := bnd_some h
      refine aoP (some 36) rfl rfl (does_indexAddr_sl (el := .agg [.int .u64 x27.Trace.Hi, .int .u64 x27.Trace.Lo, .int .u64 x27.Id, .int .u64 x27.Parent, .str x27.Service, .str x27.Op, .int .i64 x27.Start, .int .i64 x27.Dur, .bool x27.Err, .sl 2 (List.map enc39 x27.Attrs)]) (by conv => lhs; whnf) (by conv => lhs; whnf) ty22 ty28 g26 (by exact map_get hx27)) (by decide) ?_
      refine aoP (some 37) rfl rfl (does_fieldAddr (q := .rptr [.int .u64 x27.Id, .int .u64 x27.Parent, .str x27.Service, .str x27.Op, .int .i64 x27.Start, .int .i64 x27.Dur, .bool x27.Err, .sl 2 (List.map enc39 x27.Attrs)]) (by conv => lhs; whnf) ty28 rfl ty23 (by decide) (by exact rfl)) (by decide) ?_
      refine aoR (some 38) rfl rfl (does_load (v := .int .u64 x27.Id) (by conv => lhs; whnf) (by conv => lhs; whnf) ty23 (by exact rfl)) (by decide) ?_
      refine aoP (some 39) rfl rfl (does_move (v := .sl 10 (List.map enc27 a0)) (by exact rfl)) (by decide) ?_
      refine aoP (some 40) rfl rfl (does_move (v := .int .i64 v4_1) (by exact rfl)) (by decide) ?_
      obtain ⟨g28, h⟩ := gd_some h
      obtain ⟨x29, hx29, h⟩ := bnd_some h
      refine aoP (some 41) rfl rfl (does_indexAddr_sl (el := .agg [.int .u64 x29.Trace.Hi, .int .u64 x29.Trace.Lo, .int .u64 x29.Id, .int .u64 x29.Parent, .str x29.Service, .str x29.Op, .int .i64 x29.Start, .int .i64 x29.Dur, .bool x29.Err, .sl 2 (List.map enc39 x29.Attrs)]) (by conv => lhs; whnf) (by conv => lhs; whnf) ty22 ty28 g28 (by exact map_get hx29)) (by decide) ?_
      refine aoP (some 42) rfl rfl (does_fieldAddr (q := .rptr [.int .u64 x29.Parent, .str x29.Service, .str x29.Op, .int .i64 x29.Start, .int .i64 x29.Dur, .bool x29.Err, .sl 2 (List.map enc39 x29.Attrs)]) (by conv => lhs; whnf) ty28 rfl ty23 (by decide) (by exact rfl)) (by decide) ?_
      refine aoR (some 43) rfl rfl (does_load (v := .int .u64 x29.Parent) (by conv => lhs; whnf) (by conv => lhs; whnf) ty23 (by exact rfl)) (by decide) ?_
      refine aoP (some 44) rfl rfl (does_bin (v := .bool (x27.Id == x29.Parent)) (by conv => lhs; whnf) (by conv => lhs; whnf) rfl) (by decide) ?_
      refine aoP (some 45) rfl rfl (does_pick (v := .bool (x27.Id == x29.Parent)) (by conv => lhs; whnf) (by exact rfl)) (by decide) ?_
      refine ao_nil_d (by kernel_rfl) ?_
      obtain rfl := Option.some.inj h
      have h := hk24
      exact ⟨_, reb_lit [(0, .sl 10 (List.map enc27 a0)), (3, .own 13 0), (4, .int .i64 v4_1), (5, .int .i64 v5_2), (45, .bool (x27.Id == x29.Parent))] [(13, 0)] [((13, 0), .arr 3 1 false (List.map enc2 v3_s_2))] [(13, 1)] (envOk_cons (by conv => lhs; whnf) (by exact rfl) (envOk_cons (by conv => lhs; whnf) (by exact rfl) (envOk_cons (by conv => lhs; whnf) (by exact rfl) (envOk_cons (by conv => lhs; whnf) (by exact rfl) (envOk_cons (by conv => lhs; whnf) (by exact rfl) envOk_nil))))) (objOk_cons (by conv => lhs; whnf) (by conv => lhs; whnf) (by exact rfl) (by simp) objOk_nil) (nodup_b rfl) (nodup_b rfl) rfl rfl, (x27.Id == x29.Parent), h, rfl⟩
     ·have h := ifF c25 h
      refine aoS (some 34) rfl rfl (by decide) ?_
      refine aoS (some 35) rfl rfl (by decide) ?_
      refine aoS (some 36) rfl rfl (by decide) ?_
      refine aoS (some 37) rfl rfl (by decide) ?_
      refine aoS (some 38) rfl rfl (by decide) ?_
      refine aoS (some 39) rfl rfl (by decide) ?_
      refine aoS (some 40) rfl rfl (by decide) ?_
      refine aoS (some 41) rfl rfl (by decide) ?_
      refine aoS (some 42) rfl rfl (by decide) ?_
      refine aoS (some 43) rfl rfl (by decide) ?_
      refine aoS (some 44) rfl rfl (by decide) ?_
      refine aoP (some 45) rfl rfl (does_pick (v := .bool false) (by conv => lhs; whnf) (by exact rfl)) (by decide) ?_
      refine ao_nil_d (by kernel_rfl) ?_
      obtain rfl := Option.some.inj h
      have h := hk24
      exact ⟨_, reb_lit [(0, .sl 10 (List.map enc27 a0)), (3, .own 13 0), (4, .int .i64 v4_1), (5, .int .i64 v5_2), (45, .bool false)] [(13, 0)] [((13, 0), .arr 3 1 false (List.map enc2 v3_s_2))] [(13, 1)] (envOk_cons (by conv => lhs; whnf) (by exact rfl) (envOk_cons (by conv => lhs; whnf) (by exact rfl) (envOk_cons (by conv => lhs; whnf) (by exact rfl) (envOk_cons (by conv => lhs; whnf) (by exact rfl) (envOk_cons (by conv => lhs; whnf) (by exact rfl) envOk_nil))))) (objOk_cons (by conv => lhs; whnf) (by conv => lhs; whnf) (by exact rfl) (by simp) objOk_nil) (nodup_b rfl) (nodup_b rfl) rfl rfl, false, h, rfl⟩
    ·rintro s ⟨v45_3, h, rfl⟩
     unfold gleaningref28_Parents_k3 at h
     refine aw_bool (b := v45_3) 45 rfl (fun c30 => ?_) (fun c30 => ?_)
     ·have h := ifT c30 h
      refine aw_cond_t (by decide) rfl ?_
      refine aw_regL ?_
      refine alP (some 46) rfl rfl (does_move (v := .own 13 0) (by exact rfl)) (by decide) ?_
      refine alP (some 47) rfl rfl (does_move (v := .int .i64 v4_1) (by exact rfl)) (by decide) ?_
      refine alP (some 48) rfl rfl (does_move (v := .int .i64 v5_2) (by exact rfl)) (by decide) ?_
      obtain ⟨g31, h⟩ := gd_some h
      obtain ⟨x32, hx32, h⟩ := bnd_some h
      refine alR (some 49) rfl rfl (does_indexAddr_own (by conv => lhs; whnf) (by conv => lhs; whnf) (by conv => lhs; whnf) ty34 ty3 g31 (by exact own_lt hx32)) (by decide) ?_
      refine alD none rfl rfl (does_storeE (old := .int .i64 x32) (el := .int .i64 v5_2) (xs' := List.map enc2 (List.set v3_s_2 (Int.toNat v4_1) v5_2)) (by conv => lhs; whnf) (by conv => lhs; whnf) (by conv => lhs; whnf) ty3 (by rfl) (by rfl) (by exact map_get hx32) (by rfl) (by exact rfl) (by exact map_set' _ _ v5_2) (by rfl)) (by decide) ?_
      refine al_nil ?_
      refine hK22 _ ?_
      refine aw_regL ?_
      refine alP (some 28) rfl rfl (does_move (v := .int .i64 v5_2) (by exact rfl)) (by decide) ?_
      refine alP (some 29) rfl rfl (does_bin (v := .int .i64 (IntKind.i64.wrap (v5_2 - 1))) (by conv => lhs; whnf) (by conv => lhs; whnf) rfl) (by decide) ?_
      refine alP (some 5) rfl rfl (does_assign (v := .int .i64 (IntKind.i64.wrap (v5_2 - 1))) (by exact rfl)) (by decide) ?_
      refine al_nil ?_
      have h := leafL h hq18
      exact ⟨m2, Nat.lt_succ_self _, _, reb_lit [(0, .sl 10 (List.map enc27 a0)), (3, .own 13 0), (4, .int .i64 v4_1), (5, .int .i64 (IntKind.i64.wrap (v5_2 - 1)))] [(13, 0)] [((13, 0), .arr 3 1 false (List.map enc2 (List.set v3_s_2 (Int.toNat v4_1) v5_2)))] [(13, 1)] (envOk_cons (by conv => lhs; whnf) (by exact rfl) (envOk_cons (by conv => lhs; whnf) (by exact rfl) (envOk_cons (by conv => lhs; whnf) (by exact rfl) (envOk_cons (by conv => lhs; whnf) (by exact rfl) envOk_nil)))) (objOk_cons (by conv => lhs; whnf) (by conv => lhs; whnf) (by exact rfl) (by simp) objOk_nil) (nodup_b rfl) (nodup_b rfl) rfl rfl, (List.set v3_s_2 (Int.toNat v4_1) v5_2), (IntKind.i64.wrap (v5_2 - 1)), h, rfl⟩
     ·have h := ifF c30 h
      refine aw_cond_f (by decide) rfl ?_
      refine aw_skip ?_
      refine hK22 _ ?_
      refine aw_regL ?_
      refine alP (some 28) rfl rfl (does_move (v := .int .i64 v5_2) (by exact rfl)) (by decide) ?_
      refine alP (some 29) rfl rfl (does_bin (v := .int .i64 (IntKind.i64.wrap (v5_2 - 1))) (by conv => lhs; whnf) (by conv => lhs; whnf) rfl) (by decide) ?_
      refine alP (some 5) rfl rfl (does_assign (v := .int .i64 (IntKind.i64.wrap (v5_2 - 1))) (by exact rfl)) (by decide) ?_
      refine al_nil ?_
      have h := leafL h hq18
      exact ⟨m2, Nat.lt_succ_self _, _, reb_lit [(0, .sl 10 (List.map enc27 a0)), (3, .own 13 0), (4, .int .i64 v4_1), (5, .int .i64 (IntKind.i64.wrap (v5_2 - 1)))] [(13, 0)] [((13, 0), .arr 3 1 false (List.map enc2 v3_s_2))] [(13, 1)] (envOk_cons (by conv => lhs; whnf) (by exact rfl) (envOk_cons (by conv => lhs; whnf) (by exact rfl) (envOk_cons (by conv => lhs; whnf) (by exact rfl) (envOk_cons (by conv => lhs; whnf) (by exact rfl) envOk_nil)))) (objOk_cons (by conv => lhs; whnf) (by conv => lhs; whnf) (by exact rfl) (by simp) objOk_nil) (nodup_b rfl) (nodup_b rfl) rfl rfl, v3_s_2, (IntKind.i64.wrap (v5_2 - 1)), h, rfl⟩
   ·have h := ifF c21 h
    refine aw_cond_f (by decide) rfl ?_
    refine aw_exit ?_
    have h := leafR h hq18
    refine hK12 _ ?_
    refine aw_regL ?_
    refine alP (some 18) rfl rfl (does_move (v := .int .i64 v4_1) (by exact rfl)) (by decide) ?_
    refine alP (some 19) rfl rfl (does_bin (v := .int .i64 (IntKind.i64.wrap (v4_1 + 1))) (by conv => lhs; whnf) (by conv => lhs; whnf) rfl) (by decide) ?_
    refine alP (some 4) rfl rfl (does_assign (v := .int .i64 (IntKind.i64.wrap (v4_1 + 1))) (by exact rfl)) (by decide) ?_
    refine al_nil ?_
    have h := leafL h hq8
    exact ⟨m1, Nat.lt_succ_self _, _, reb_lit [(0, .sl 10 (List.map enc27 a0)), (3, .own 13 0), (4, .int .i64 (IntKind.i64.wrap (v4_1 + 1)))] [(13, 0)] [((13, 0), .arr 3 1 false (List.map enc2 v3_s_2))] [(13, 1)] (envOk_cons (by conv => lhs; whnf) (by exact rfl) (envOk_cons (by conv => lhs; whnf) (by exact rfl) (envOk_cons (by conv => lhs; whnf) (by exact rfl) envOk_nil))) (objOk_cons (by conv => lhs; whnf) (by conv => lhs; whnf) (by exact rfl) (by simp) objOk_nil) (nodup_b rfl) (nodup_b rfl) rfl rfl, v3_s_2, (IntKind.i64.wrap (v4_1 + 1)), h, rfl⟩
  ·have h := ifF c11 h
   refine aw_cond_f (by decide) rfl ?_
   refine aw_exit ?_
   have h := leafR h hq8
   obtain rfl := Option.some.inj h
   have h := hk5
   exact ⟨_, reb_lit [(0, .sl 10 (List.map enc27 a0)), (3, .own 13 0)] [(13, 0)] [((13, 0), .arr 3 1 false (List.map enc2 v3_s_1))] [(13, 1)] (envOk_cons (by conv => lhs; whnf) (by exact rfl) (envOk_cons (by conv => lhs; whnf) (by exact rfl) envOk_nil)) (objOk_cons (by conv => lhs; whnf) (by conv => lhs; whnf) (by exact rfl) (by simp) objOk_nil) (nodup_b rfl) (nodup_b rfl) rfl rfl, v3_s_1, h, rfl⟩
 ·rintro s ⟨v3_s_0, h, rfl⟩
  unfold gleaningref28_Parents_k0 at h
  refine aw_seq_k (fun K33 hK33 => ?_)
  refine aw_regL ?_
  refine alP (some 50) rfl rfl (does_move (v := .own 13 0) (by exact rfl)) (by decide) ?_
  obtain ⟨g34, h⟩ := gd_some h
  refine alD (some 51) rfl rfl (do_append (v := List.map enc2 v3_s_0) (by conv => lhs; whnf) (by conv => lhs; whnf) ty34 ty3 rfl rfl (by conv => lhs; whnf) (by first | exact .inl rfl | exact .inr ⟨rfl, rfl⟩) (by conv => lhs; whnf) (by first | exact .inr rfl | exact .inl rfl) (List.nil_append _) (fit_map g34)) (by decide) ?_
  refine alP (some 6) rfl rfl (does_assign (v := .own 51 0) (by exact rfl)) (by decide) ?_
  refine al_nil ?_
  refine hK33 _ ?_
  refine aw_seq_k (fun K35 hK35 => ?_)
  refine aw_seq_k (fun K36 hK36 => ?_)
  refine aw_regL ?_
  refine alP (some 7) rfl rfl (does_assign (v := .int .i64 0) (by exact rfl)) (by decide) ?_
  refine al_nil ?_
  refine hK36 _ ?_
  refine aw_block ?_
  refine aw_loop' (fun m s => ∃ (v6_s_4 : List Int), ∃ (v7_4 : Int), loopN (fun (s : List Int × Int) => gleaningref28_Parents_l4 a0 v3_s_0 s.1 s.2) m (v6_s_4, v7_4) = some r ∧ s = lit [(0, .sl 10 (List.map enc27 a0)), (3, .own 13 0), (6, .own 51 0), (7, .int .i64 v7_4)] [((13, 0), .arr 3 1 false (List.map enc2 v3_s_0)), ((51, 0), .arr 3 1 false (List.map enc2 v6_s_4))] [(13, 1), (51, 1)] X) Fu
   ⟨_, reb_lit [(0, .sl 10 (List.map enc27 a0)), (3, .own 13 0), (6, .own 51 0), (7, .int .i64 (0))] [(13, 0), (51, 0)] [((13, 0), .arr 3 1 false (List.map enc2 v3_s_0)), ((51, 0), .arr 3 1 false (List.map enc2 v3_s_0))] [(13, 1), (51, 1)] (envOk_cons (by conv => lhs; whnf) (by exact rfl) (envOk_cons (by conv => lhs; whnf) (by exact rfl) (envOk_cons (by conv => lhs; whnf) (by exact rfl) (envOk_cons (by conv => lhs; whnf) (by exact rfl) envOk_nil)))) (objOk_cons (by conv => lhs; whnf) (by conv => lhs; whnf) (by exact rfl) (by simp) (objOk_cons (by conv => lhs; whnf) (by conv => lhs; whnf) (by exact rfl) (by simp) objOk_nil)) (nodup_b rfl) (nodup_b rfl) rfl rfl, v3_s_0, 0, h, rfl⟩ ?_
  rintro m s ⟨v6_s_4, v7_4, h, rfl⟩
  obtain ⟨m4, q37, rfl, h, hq38⟩ := loop_some h
  replace h : gleaningref28_Parents_l4 a0 v3_s_0 v6_s_4 v7_4 = some q37 := h
  unfold gleaningref28_Parents_l4 at h
  refine aw_seq_k (fun K39 hK39 => ?_)
  refine aw_seq_k (fun K40 hK40 => ?_)
  refine aw_regL ?_
  refine alP (some 52) rfl rfl (does_move (v := .int .i64 v7_4) (by exact rfl)) (by decide) ?_
  refine alP (some 53) rfl rfl (does_move (v := .sl 10 (List.map enc27 a0)) (by exact rfl)) (by decide) ?_
  refine alP (some 54) rfl rfl ((does_len_sl (by conv => lhs; whnf) ty22).castp (v' := .int .i64 (List.length a0 : Int)) (by exact len_map _)) (by decide) ?_
  refine alP (some 55) rfl rfl (does_bin (v := .bool (decide (v7_4 < (List.length a0 : Int)))) (by conv => lhs; whnf) (by conv => lhs; whnf) rfl) (by decide) ?_
  refine al_nil ?_
  refine hK40 _ ?_
  refine aw_bool (b := (decide (v7_4 < (List.length a0 : Int)))) 55 rfl (fun c41 => ?_) (fun c41 => ?_)
  ·have h := ifT c41 h
   refine aw_cond_t (by decide) rfl ?_
   refine aw_skip ?_
   refine hK39 _ ?_
   refine aw_seq_k (fun K42 hK42 => ?_)
   refine aw_block ?_
   refine aw_seq_k (fun K43 hK43 => ?_)
   refine aw_regL ?_
   refine alP (some 8) rfl rfl (does_assign (v := .bool true) (by exact rfl)) (by decide) ?_
   refine al_nil ?_
   refine hK43 _ ?_
   refine aw_seq_k (fun K44 hK44 => ?_)
   refine aw_regL ?_
   refine alP (some 58) rfl rfl (does_move (v := .own 13 0) (by exact rfl)) (by decide) ?_
   refine alP (some 59) rfl rfl (does_move (v := .int .i64 v7_4) (by exact rfl)) (by decide) ?_
   obtain ⟨g45, h⟩ := gd_some h
   obtain ⟨x46, hx46, h⟩ := bnd_some h
   refine alR (some 60) rfl rfl (does_indexAddr_own (by conv => lhs; whnf) (by conv => lhs; whnf) (by conv => lhs; whnf) ty34 ty3 g45 (by exact own_lt hx46)) (by decide) ?_
   refine alR (some 61) rfl rfl (does_load (v := .int .i64 x46) (by conv => lhs; whnf) (cellsAt_eptr (by conv => lhs; whnf) (by exact map_get hx46)) ty3 (by exact rfl)) (by decide) ?_
   refine alP (some 9) rfl rfl (does_assign (v := .int .i64 x46) (by exact rfl)) (by decide) ?_
   refine al_nil ?_
   refine hK44 _ ?_
   obtain ⟨q47, h, hk48⟩ := bnd_some h
   refine aw_cut (fun s => ∃ (v8_5 : Bool), ∃ (v9_5 : Int), gleaningref28_Parents_k5 v6_s_4 v7_4 v8_5 v9_5 = some q37 ∧ s = lit [(0, .sl 10 (List.map enc27 a0)), (3, .own 13 0), (6, .own 51 0), (7, .int .i64 v7_4), (8, .bool v8_5), (9, .int .i64 v9_5)] [((13, 0), .arr 3 1 false (List.map enc2 v3_s_0)), ((51, 0), .arr 3 1 false (List.map enc2 v6_s_4))] [(13, 1), (51, 1)] X) ?_ ?_
   ·skip
    refine aw_seq_k (fun K49 hK49 => ?_)
    refine aw_regL ?_
    refine alP (some 10) rfl rfl (does_assign (v := .int .i64 0) (by exact rfl)) (by decide) ?_
    refine al_nil ?_
    refine hK49 _ ?_
    refine aw_block ?_
    refine aw_loop' (fun m s => ∃ (v8_6 : Bool), ∃ (v9_6 : Int), ∃ (v10_6 : Int), loopN (fun (s : Bool × Int × Int) => gleaningref28_Parents_l6 a0 v3_s_0 v7_4 s.1 s.2.1 s.2.2) m (v8_6, v9_6, v10_6) = some q47 ∧ s = lit [(0, .sl 10 (List.map enc27 a0)), (3, .own 13 0), (6, .own 51 0), (7, .int .i64 v7_4), (8, .bool v8_6), (9, .int .i64 v9_6), (10, .int .i64 v10_6)] [((13, 0), .arr 3 1 false (List.map enc2 v3_s_0)), ((51, 0), .arr 3 1 false (List.map enc2 v6_s_4))] [(13, 1), (51, 1)] X) Fu
     ⟨_, reb_lit [(0, .sl 10 (List.map enc27 a0)), (3, .own 13 0), (6, .own 51 0), (7, .int .i64 v7_4), (8, .bool true), (9, .int .i64 x46), (10, .int .i64 (0))] [(13, 0), (51, 0)] [((13, 0), .arr 3 1 false (List.map enc2 v3_s_0)), ((51, 0), .arr 3 1 false (List.map enc2 v6_s_4))] [(13, 1), (51, 1)] (envOk_cons (by conv => lhs; whnf) (by exact rfl) (envOk_cons (by conv => lhs; whnf) (by exact rfl) (envOk_cons (by conv => lhs; whnf) (by exact rfl) (envOk_cons (by conv => lhs; whnf) (by exact rfl) (envOk_cons (by conv => lhs; whnf) (by exact rfl) (envOk_cons (by conv => lhs; whnf) (by exact rfl) (envOk_cons (by conv => lhs; whnf) (by exact rfl) envOk_nil))))))) (objOk_cons (by conv => lhs; whnf) (by conv => lhs; whnf) (by exact rfl) (by simp) (objOk_cons (by conv => lhs; whnf) (by conv => lhs; whnf) (by exact rfl) (by simp) objOk_nil)) (nodup_b rfl) (nodup_b rfl) rfl rfl, true, x46, 0, h, rfl⟩ ?_
    rintro m s ⟨v8_6, v9_6, v10_6, h, rfl⟩
    obtain ⟨m6, q50, rfl, h, hq51⟩ := loop_some h
    replace h : gleaningref28_Parents_l6 a0 v3_s_0 v7_4 v8_6 v9_6 v10_6 = some q50 := h
    unfold gleaningref28_Parents_l6 at h
    obtain ⟨q52, h, hk53⟩ := bnd_some h
    refine aw_cut (fun s => gleaningref28_Parents_k7 v3_s_0 v7_4 v8_6 v9_6 v10_6 = some q50 ∧ s = lit [(0, .sl 10 (List.map enc27 a0)), (3, .own 13 0), (6, .own 51 0), (7, .int .i64 v7_4), (8, .bool v8_6), (9, .int .i64 v9_6), (10, .int .i64 v10_6)] [((13, 0), .arr 3 1 false (List.map enc2 v3_s_0)), ((51, 0), .arr 3 1 false (List.map enc2 v6_s_4))] [(13, 1), (51, 1)] X) ?_ ?_
    ·skip
     refine aw_seq_k (fun K54 hK54 => ?_)
     refine aw_regL ?_
     refine alP (some 62) rfl rfl (does_move (v := .int .i64 v10_6) (by exact rfl)) (by decide) ?_
     refine alP (some 63) rfl rfl (does_move (v := .sl 10 (List.map enc27 a0)) (by exact rfl)) (by decide) ?_
     refine alP (some 64) rfl rfl ((does_len_sl (by conv => lhs; whnf) ty22).castp (v' := .int .i64 (List.length a0 : Int)) (by exact len_map _)) (by decide) ?_
     refine alP (some 65) rfl rfl (does_bin (v := .bool (decide (v10_6 < (List.length a0 : Int)))) (by conv => lhs; whnf) (by conv => lhs; whnf) rfl) (by decide) ?_
     refine alP (some 66) rfl rfl (does_move (v := .bool (decide (v10_6 < (List.length a0 : Int)))) (by exact rfl)) (by decide) ?_
     refine al_bool (c := (decide (v10_6 < (List.length a0 : Int)))) 66 rfl (fun c55 => ?_) (fun c55 => ?_)
     ·have h := ifT c55 h
      refine alP (some 67) rfl rfl (does_move (v := .int .i64 v9_6) (by exact rfl)) (by decide) ?_
      refine alP (some 68) rfl rfl (does_bin (v := .bool (decide ((0 : Int) ≤ v9_6))) (by conv => lhs; whnf) (by conv => lhs; whnf) rfl) (by decide) ?_
      refine alP (some 69) rfl rfl (does_pick (v := .bool (decide ((0 : Int) ≤ v9_6))) (by conv => lhs; whnf) (by exact rfl)) (by decide) ?_
      refine alP (some 70) rfl rfl (does_move (v := .bool (decide ((0 : Int) ≤ v9_6))) (by exact rfl)) (by decide) ?_
      refine al_bool (c := (decide ((0 : Int) ≤ v9_6))) 70 rfl (fun c56 => ?_) (fun c56 => ?_)
      ·have h := ifT c56 h
       refine alP (some 71) rfl rfl (does_move (v := .int .i64 v9_6) (by exact rfl)) (by decide) ?_
       refine alP (some 72) rfl rfl (does_move (v := .int .i64 v7_4) (by exact rfl)) (by decide) ?_
       refine alP (some 73) rfl rfl (does_bin (v := .bool (v9_6 != v7_4)) (by conv => lhs; whnf) (by conv => lhs; whnf) rfl) (by decide) ?_
       refine alP (some 74) rfl rfl (does_pick (v := .bool (v9_6 != v7_4)) (by conv => lhs; whnf) (by exact rfl)) (by decide) ?_
       refine al_nil ?_
       refine hK54 _ ?_
       refine aw_bool (b := (v9_6 != v7_4)) 74 rfl (fun c57 => ?_) (fun c57 => ?_)
       ·have h := ifT c57 h
        refine aw_cond_t (by decide) rfl ?_
        refine aw_skip ?_
        have h := leafL h hk53
        exact ⟨_, reb_lit [(0, .sl 10 (List.map enc27 a0)), (3, .own 13 0), (6, .own 51 0), (7, .int .i64 v7_4), (8, .bool v8_6), (9, .int .i64 v9_6), (10, .int .i64 v10_6)] [(13, 0), (51, 0)] [((13, 0), .arr 3 1 false (List.map enc2 v3_s_0)), ((51, 0), .arr 3 1 false (List.map enc2 v6_s_4))] [(13, 1), (51, 1)] (envOk_cons (by conv => lhs; whnf) (by exact rfl) (envOk_cons (by conv => lhs; whnf) (by exact rfl) (envOk_cons (by conv => lhs; whnf) (by exact rfl) (envOk_cons (by conv => lhs; whnf) (by exact rfl) (envOk_cons (by conv => lhs; whnf) (by exact rfl) (envOk_cons (by conv => lhs; whnf) (by exact rfl) (envOk_cons (by conv => lhs; whnf) (by exact rfl) envOk_nil))))))) (objOk_cons (by conv => lhs; whnf) (by conv => lhs; whnf) (by exact rfl) (by simp) (objOk_cons (by conv => lhs; whnf) (by conv => lhs; whnf) (by exact rfl) (by simp) objOk_nil)) (nodup_b rfl) (nodup_b rfl) rfl rfl, h, rfl⟩
       ·have h := ifF c57 h
        refine aw_cond_f (by decide) rfl ?_
        refine aw_exit ?_
        have h := leafR h hk53
        have h := leafR h hq51
        obtain rfl := Option.some.inj h
        have h := hk48
        exact ⟨_, reb_lit [(0, .sl 10 (List.map enc27 a0)), (3, .own 13 0), (6, .own 51 0), (7, .int .i64 v7_4), (8, .bool v8_6), (9, .int .i64 v9_6)] [(13, 0), (51, 0)] [((13, 0), .arr 3 1 false (List.map enc2 v3_s_0)), ((51, 0), .arr 3 1 false (List.map enc2 v6_s_4))] [(13, 1), (51, 1)] (envOk_cons (by conv => lhs; whnf) (by exact rfl) (envOk_cons (by conv => lhs; whnf) (by exact rfl) (envOk_cons (by conv => lhs; whnf) (by exact rfl) (envOk_cons (by conv => lhs; whnf) (by exact rfl) (envOk_cons (by conv => lhs; whnf) (by exact rfl) (envOk_cons (by conv => lhs; whnf) (by exact rfl) envOk_nil)))))) (objOk_cons (by conv => lhs; whnf) (by conv => lhs; whnf) (by exact rfl) (by simp) (objOk_cons (by conv => lhs; whnf) (by conv => lhs; whnf) (by exact rfl) (by simp) objOk_nil)) (nodup_b rfl) (nodup_b rfl) rfl rfl, v8_6, v9_6, h, rfl⟩
      ·have h := ifF c56 h
       refine alS (some 71) rfl rfl (by decide) ?_
       refine alS (some 72) rfl rfl (by decide) ?_
       refine alS (some 73) rfl rfl (by decide) ?_
       refine alP (some 74) rfl rfl (does_pick (v := .bool false) (by conv => lhs; whnf) (by exact rfl)) (by decide) ?_
       refine al_nil ?_
       refine hK54 _ ?_
       refine aw_cond_f (by decide) rfl ?_
       refine aw_exit ?_
       have h := leafR h hk53
       have h := leafR h hq51
       obtain rfl := Option.some.inj h
       have h := hk48
       exact ⟨_, reb_lit [(0, .sl 10 (List.map enc27 a0)), (3, .own 13 0), (6, .own 51 0), (7, .int .i64 v7_4), (8, .bool v8_6), (9, .int .i64 v9_6)] [(13, 0), (51, 0)] [((13, 0), .arr 3 1 false (List.map enc2 v3_s_0)), ((51, 0), .arr 3 1 false (List.map enc2 v6_s_4))] [(13, 1), (51, 1)] (envOk_cons (by conv => lhs; whnf) (by exact rfl) (envOk_cons (by conv => lhs; whnf) (by exact rfl) (envOk_cons (by conv => lhs; whnf) (by exact rfl) (envOk_cons (by conv => lhs; whnf) (by exact rfl) (envOk_cons (by conv => lhs; whnf) (by exact rfl) (envOk_cons (by conv => lhs; whnf) (by exact rfl) envOk_nil)))))) (objOk_cons (by conv => lhs; whnf) (by conv => lhs; whnf) (by exact rfl) (by simp) (objOk_cons (by conv => lhs; whnf) (by conv => lhs; whnf) (by exact rfl) (by simp) objOk_nil)) (nodup_b rfl) (nodup_b rfl) rfl rfl, v8_6, v9_6, h, rfl⟩
     ·have h := ifF c55 h
      refine alS (some 67) rfl rfl (by decide) ?_
      refine alS (some 68) rfl rfl (by decide) ?_
      refine alP (some 69) rfl rfl (does_pick (v := .bool false) (by conv => lhs; whnf) (by exact rfl)) (by decide) ?_
      refine alP (some 70) rfl rfl (does_move (v := .bool false) (by exact rfl)) (by decide) ?_
      refine alS (some 71) rfl rfl (by decide) ?_
      refine alS (some 72) rfl rfl (by decide) ?_
      refine alS (some 73) rfl rfl (by decide) ?_
      refine alP (some 74) rfl rfl (does_pick (v := .bool false) (by conv => lhs; whnf) (by exact rfl)) (by decide) ?_
      refine al_nil ?_
      refine hK54 _ ?_
      refine aw_cond_f (by decide) rfl ?_
      refine aw_exit ?_
      have h := leafR h hk53
      have h := leafR h hq51
      obtain rfl := Option.some.inj h
      have h := hk48
      exact ⟨_, reb_lit [(0, .sl 10 (List.map enc27 a0)), (3, .own 13 0), (6, .own 51 0), (7, .int .i64 v7_4), (8, .bool v8_6), (9, .int .i64 v9_6)] [(13, 0), (51, 0)] [((13, 0), .arr 3 1 false (List.map enc2 v3_s_0)), ((51, 0), .arr 3 1 false (List.map enc2 v6_s_4))] [(13, 1), (51, 1)] (envOk_cons (by conv => lhs; whnf) (by exact rfl) (envOk_cons (by conv => lhs; whnf) (by exact rfl) (envOk_cons (by conv => lhs; whnf) (by exact rfl) (envOk_cons (by conv => lhs; whnf) (by exact rfl) (envOk_cons (by conv => lhs; whnf) (by exact rfl) (envOk_cons (by conv => lhs; whnf) (by exact rfl) envOk_nil)))))) (objOk_cons (by conv => lhs; whnf) (by conv => lhs; whnf) (by exact rfl) (by simp) (objOk_cons (by conv => lhs; whnf) (by conv => lhs; whnf) (by exact rfl) (by simp) objOk_nil)) (nodup_b rfl) (nodup_b rfl) rfl rfl, v8_6, v9_6, h, rfl⟩
    ·rintro s ⟨h, rfl⟩
     unfold gleaningref28_Parents_k7 at h
     refine aw_seq_k (fun K58 hK58 => ?_)
     refine aw_block ?_
     obtain ⟨q59, h, hk60⟩ := bnd_some h
     refine aw_cut (fun s => ∃ (v8_8 : Bool), gleaningref28_Parents_k8 v3_s_0 v9_6 v10_6 v8_8 = some q50 ∧ s = lit [(0, .sl 10 (List.map enc27 a0)), (3, .own 13 0), (6, .own 51 0), (7, .int .i64 v7_4), (8, .bool v8_8), (9, .int .i64 v9_6), (10, .int .i64 v10_6)] [((13, 0), .arr 3 1 false (List.map enc2 v3_s_0)), ((51, 0), .arr 3 1 false (List.map enc2 v6_s_4))] [(13, 1), (51, 1)] X) ?_ ?_
     ·skip
      refine aw_regL ?_
      refine alP (some 77) rfl rfl (does_move (v := .bool v8_6) (by exact rfl)) (by decide) ?_
      refine alP (some 78) rfl rfl (does_move (v := .bool v8_6) (by exact rfl)) (by decide) ?_
      refine al_bool (c := v8_6) 78 rfl (fun c61 => ?_) (fun c61 => ?_)
      ·have h := ifT c61 h
       refine alP (some 79) rfl rfl (does_move (v := .int .i64 v9_6) (by exact rfl)) (by decide) ?_
       refine alP (some 80) rfl rfl (does_move (v := .int .i64 v7_4) (by exact rfl)) (by decide) ?_
       refine alP (some 81) rfl rfl (does_bin (v := .bool (decide (v7_4 < v9_6))) (by conv => lhs; whnf) (by conv => lhs; whnf) rfl) (by decide) ?_
       refine alP (some 82) rfl rfl (does_pick (v := .bool (decide (v7_4 < v9_6))) (by conv => lhs; whnf) (by exact rfl)) (by decide) ?_
       refine alP (some 8) rfl rfl (does_assign (v := .bool (decide (v7_4 < v9_6))) (by exact rfl)) (by decide) ?_
       refine al_nil ?_
       obtain rfl := Option.some.inj h
       have h := hk60
       exact ⟨_, reb_lit [(0, .sl 10 (List.map enc27 a0)), (3, .own 13 0), (6, .own 51 0), (7, .int .i64 v7_4), (8, .bool (decide (v7_4 < v9_6))), (9, .int .i64 v9_6), (10, .int .i64 v10_6)] [(13, 0), (51, 0)] [((13, 0), .arr 3 1 false (List.map enc2 v3_s_0)), ((51, 0), .arr 3 1 false (List.map enc2 v6_s_4))] [(13, 1), (51, 1)] (envOk_cons (by conv => lhs; whnf) (by exact rfl) (envOk_cons (by conv => lhs; whnf) (by exact rfl) (envOk_cons (by conv => lhs; whnf) (by exact rfl) (envOk_cons (by conv => lhs; whnf) (by exact rfl) (envOk_cons (by conv => lhs; whnf) (by exact rfl) (envOk_cons (by conv => lhs; whnf) (by exact rfl) (envOk_cons (by conv => lhs; whnf) (by exact rfl) envOk_nil))))))) (objOk_cons (by conv => lhs; whnf) (by conv => lhs; whnf) (by exact rfl) (by simp) (objOk_cons (by conv => lhs; whnf) (by conv => lhs; whnf) (by exact rfl) (by simp) objOk_nil)) (nodup_b rfl) (nodup_b rfl) rfl rfl, (decide (v7_4 < v9_6)), h, rfl⟩
      ·have h := ifF c61 h
       refine alS (some 79) rfl rfl (by decide) ?_
       refine alS (some 80) rfl rfl (by decide) ?_
       refine alS (some 81) rfl rfl (by decide) ?_
       refine alP (some 82) rfl rfl (does_pick (v := .bool false) (by conv => lhs; whnf) (by exact rfl)) (by decide) ?_
       refine alP (some 8) rfl rfl (does_assign (v := .bool false) (by exact rfl)) (by decide) ?_
       refine al_nil ?_
       obtain rfl := Option.some.inj h
       have h := hk60
       exact ⟨_, reb_lit [(0, .sl 10 (List.map enc27 a0)), (3, .own 13 0), (6, .own 51 0), (7, .int .i64 v7_4), (8, .bool false), (9, .int .i64 v9_6), (10, .int .i64 v10_6)] [(13, 0), (51, 0)] [((13, 0), .arr 3 1 false (List.map enc2 v3_s_0)), ((51, 0), .arr 3 1 false (List.map enc2 v6_s_4))] [(13, 1), (51, 1)] (envOk_cons (by conv => lhs; whnf) (by exact rfl) (envOk_cons (by conv => lhs; whnf) (by exact rfl) (envOk_cons (by conv => lhs; whnf) (by exact rfl) (envOk_cons (by conv => lhs; whnf) (by exact rfl) (envOk_cons (by conv => lhs; whnf) (by exact rfl) (envOk_cons (by conv => lhs; whnf) (by exact rfl) (envOk_cons (by conv => lhs; whnf) (by exact rfl) envOk_nil))))))) (objOk_cons (by conv => lhs; whnf) (by conv => lhs; whnf) (by exact rfl) (by simp) (objOk_cons (by conv => lhs; whnf) (by conv => lhs; whnf) (by exact rfl) (by simp) objOk_nil)) (nodup_b rfl) (nodup_b rfl) rfl rfl, false, h, rfl⟩
     ·rintro s ⟨v8_8, h, rfl⟩
      unfold gleaningref28_Parents_k8 at h
      refine aw_regL ?_
      refine alP (some 83) rfl rfl (does_move (v := .own 13 0) (by exact rfl)) (by decide) ?_
      refine alP (some 84) rfl rfl (does_move (v := .int .i64 v9_6) (by exact rfl)) (by decide) ?_
      obtain ⟨g62, h⟩ := gd_some h
      obtain ⟨x63, hx63, h⟩ := bnd_some h
      refine alR (some 85) rfl rfl (does_indexAddr_own (by conv => lhs; whnf) (by conv => lhs; whnf) (by conv => lhs; whnf) ty34 ty3 g62 (by exact own_lt hx63)) (by decide) ?_
      refine alR (some 86) rfl rfl (does_load (v := .int .i64 x63) (by conv => lhs; whnf) (cellsAt_eptr (by conv => lhs; whnf) (by exact map_get hx63)) ty3 (by exact rfl)) (by decide) ?_
      refine alP (some 9) rfl rfl (does_assign (v := .int .i64 x63) (by exact rfl)) (by decide) ?_
      refine al_nil ?_
      refine hK58 _ ?_
      refine aw_regL ?_
      refine alP (some 75) rfl rfl (does_move (v := .int .i64 v10_6) (by exact rfl)) (by decide) ?_
      refine alP (some 76) rfl rfl (does_bin (v := .int .i64 (IntKind.i64.wrap (v10_6 + 1))) (by conv => lhs; whnf) (by conv => lhs; whnf) rfl) (by decide) ?_
      refine alP (some 10) rfl rfl (does_assign (v := .int .i64 (IntKind.i64.wrap (v10_6 + 1))) (by exact rfl)) (by decide) ?_
      refine al_nil ?_
      have h := leafL h hq51
      exact ⟨m6, Nat.lt_succ_self _, _, reb_lit [(0, .sl 10 (List.map enc27 a0)), (3, .own 13 0), (6, .own 51 0), (7, .int .i64 v7_4), (8, .bool v8_8), (9, .int .i64 x63), (10, .int .i64 (IntKind.i64.wrap (v10_6 + 1)))] [(13, 0), (51, 0)] [((13, 0), .arr 3 1 false (List.map enc2 v3_s_0)), ((51, 0), .arr 3 1 false (List.map enc2 v6_s_4))] [(13, 1), (51, 1)] (envOk_cons (by conv => lhs; whnf) (by exact rfl) (envOk_cons (by conv => lhs; whnf) (by exact rfl) (envOk_cons (by conv => lhs; whnf) (by exact rfl) (envOk_cons (by conv => lhs; whnf) (by exact rfl) (envOk_cons (by conv => lhs; whnf) (by exact rfl) (envOk_cons (by conv => lhs; whnf) (by exact rfl) (envOk_cons (by conv => lhs; whnf) (by exact rfl) envOk_nil))))))) (objOk_cons (by conv => lhs; whnf) (by conv => lhs; whnf) (by exact rfl) (by simp) (objOk_cons (by conv => lhs; whnf) (by conv => lhs; whnf) (by exact rfl) (by simp) objOk_nil)) (nodup_b rfl) (nodup_b rfl) rfl rfl, v8_8, x63, (IntKind.i64.wrap (v10_6 + 1)), h, rfl⟩
   ·rintro s ⟨v8_5, v9_5, h, rfl⟩
    unfold gleaningref28_Parents_k5 at h
    obtain ⟨q64, h, hk65⟩ := bnd_some h
    refine aw_cut (fun s => ∃ (v92_9 : Bool), gleaningref28_Parents_k9 v6_s_4 v7_4 v92_9 = some q37 ∧ s = lit [(0, .sl 10 (List.map enc27 a0)), (3, .own 13 0), (6, .own 51 0), (7, .int .i64 v7_4), (92, .bool v92_9)] [((13, 0), .arr 3 1 false (List.map enc2 v3_s_0)), ((51, 0), .arr 3 1 false (List.map enc2 v6_s_4))] [(13, 1), (51, 1)] X) ?_ ?_
    ·skip
     refine aw_regL ?_
     refine alP (some 87) rfl rfl (does_move (v := .int .i64 v9_5) (by exact rfl)) (by decide) ?_
     refine alP (some 88) rfl rfl (does_move (v := .int .i64 v7_4) (by exact rfl)) (by decide) ?_
     refine alP (some 89) rfl rfl (does_bin (v := .bool (v9_5 == v7_4)) (by conv => lhs; whnf) (by conv => lhs; whnf) rfl) (by decide) ?_
     refine alP (some 90) rfl rfl (does_move (v := .bool (v9_5 == v7_4)) (by exact rfl)) (by decide) ?_
     refine al_bool (c := (v9_5 == v7_4)) 90 rfl (fun c66 => ?_) (fun c66 => ?_)
     ·have h := ifT c66 h
      refine alP (some 91) rfl rfl (does_move (v := .bool v8_5) (by exact rfl)) (by decide) ?_
      refine alP (some 92) rfl rfl (does_pick (v := .bool v8_5) (by conv => lhs; whnf) (by exact rfl)) (by decide) ?_
      refine al_nil ?_
      obtain rfl := Option.some.inj h
      have h := hk65
      exact ⟨_, reb_lit [(0, .sl 10 (List.map enc27 a0)), (3, .own 13 0), (6, .own 51 0), (7, .int .i64 v7_4), (92, .bool v8_5)] [(13, 0), (51, 0)] [((13, 0), .arr 3 1 false (List.map enc2 v3_s_0)), ((51, 0), .arr 3 1 false (List.map enc2 v6_s_4))] [(13, 1), (51, 1)] (envOk_cons (by conv => lhs; whnf) (by exact rfl) (envOk_cons (by conv => lhs; whnf) (by exact rfl) (envOk_cons (by conv => lhs; whnf) (by exact rfl) (envOk_cons (by conv => lhs; whnf) (by exact rfl) (envOk_cons (by conv => lhs; whnf) (by exact rfl) envOk_nil))))) (objOk_cons (by conv => lhs; whnf) (by conv => lhs; whnf) (by exact rfl) (by simp) (objOk_cons (by conv => lhs; whnf) (by conv => lhs; whnf) (by exact rfl) (by simp) objOk_nil)) (nodup_b rfl) (nodup_b rfl) rfl rfl, v8_5, h, rfl⟩
     ·have h := ifF c66 h
      refine alS (some 91) rfl rfl (by decide) ?_
      refine alP (some 92) rfl rfl (does_pick (v := .bool false) (by conv => lhs; whnf) (by exact rfl)) (by decide) ?_
      refine al_nil ?_
      obtain rfl := Option.some.inj h
      have h := hk65
      exact ⟨_, reb_lit [(0, .sl 10 (List.map enc27 a0)), (3, .own 13 0), (6, .own 51 0), (7, .int .i64 v7_4), (92, .bool false)] [(13, 0), (51, 0)] [((13, 0), .arr 3 1 false (List.map enc2 v3_s_0)), ((51, 0), .arr 3 1 false (List.map enc2 v6_s_4))] [(13, 1), (51, 1)] (envOk_cons (by conv => lhs; whnf) (by exact rfl) (envOk_cons (by conv => lhs; whnf) (by exact rfl) (envOk_cons (by conv => lhs; whnf) (by exact rfl) (envOk_cons (by conv => lhs; whnf) (by exact rfl) (envOk_cons (by conv => lhs; whnf) (by exact rfl) envOk_nil))))) (objOk_cons (by conv => lhs; whnf) (by conv => lhs; whnf) (by exact rfl) (by simp) (objOk_cons (by conv => lhs; whnf) (by conv => lhs; whnf) (by exact rfl) (by simp) objOk_nil)) (nodup_b rfl) (nodup_b rfl) rfl rfl, false, h, rfl⟩
    ·rintro s ⟨v92_9, h, rfl⟩
     unfold gleaningref28_Parents_k9 at h
     refine aw_bool (b := v92_9) 92 rfl (fun c67 => ?_) (fun c67 => ?_)
     ·have h := ifT c67 h
      refine aw_cond_t (by decide) rfl ?_
      refine aw_regL ?_
      refine alP (some 93) rfl rfl (does_move (v := .own 51 0) (by exact rfl)) (by decide) ?_
      refine alP (some 94) rfl rfl (does_move (v := .int .i64 v7_4) (by exact rfl)) (by decide) ?_
      obtain ⟨g68, h⟩ := gd_some h
      obtain ⟨x69, hx69, h⟩ := bnd_some h
      refine alR (some 95) rfl rfl (does_indexAddr_own (by conv => lhs; whnf) (by conv => lhs; whnf) (by conv => lhs; whnf) ty34 ty3 g68 (by exact own_lt hx69)) (by decide) ?_
      refine alD none rfl rfl (does_storeE (old := .int .i64 x69) (el := .int .i64 (-1)) (xs' := List.map enc2 (List.set v6_s_4 (Int.toNat v7_4) (-1))) (by conv => lhs; whnf) (by conv => lhs; whnf) (by conv => lhs; whnf) ty3 (by rfl) (by rfl) (by exact map_get hx69) (by rfl) (by exact rfl) (by exact map_set' _ _ (-1)) (by rfl)) (by decide) ?_
      refine al_nil ?_
      refine hK42 _ ?_
      refine aw_regL ?_
      refine alP (some 56) rfl rfl (does_move (v := .int .i64 v7_4) (by exact rfl)) (by decide) ?_
      refine alP (some 57) rfl rfl (does_bin (v := .int .i64 (IntKind.i64.wrap (v7_4 + 1))) (by conv => lhs; whnf) (by conv => lhs; whnf) rfl) (by decide) ?_
      refine alP (some 7) rfl rfl (does_assign (v := .int .i64 (IntKind.i64.wrap (v7_4 + 1))) (by exact rfl)) (by decide) ?_
      refine al_nil ?_
      have h := leafL h hq38
      exact ⟨m4, Nat.lt_succ_self _, _, reb_lit [(0, .sl 10 (List.map enc27 a0)), (3, .own 13 0), (6, .own 51 0), (7, .int .i64 (IntKind.i64.wrap (v7_4 + 1)))] [(13, 0), (51, 0)] [((13, 0), .arr 3 1 false (List.map enc2 v3_s_0)), ((51, 0), .arr 3 1 false (List.map enc2 (List.set v6_s_4 (Int.toNat v7_4) (-1))))] [(13, 1), (51, 1)] (envOk_cons (by conv => lhs; whnf) (by exact rfl) (envOk_cons (by conv => lhs; whnf) (by exact rfl) (envOk_cons (by conv => lhs; whnf) (by exact rfl) (envOk_cons (by conv => lhs; whnf) (by exact rfl) envOk_nil)))) (objOk_cons (by conv => lhs; whnf) (by conv => lhs; whnf) (by exact rfl) (by simp) (objOk_cons (by conv => lhs; whnf) (by conv => lhs; whnf) (by exact rfl) (by simp) objOk_nil)) (nodup_b rfl) (nodup_b rfl) rfl rfl, (List.set v6_s_4 (Int.toNat v7_4) (-1)), (IntKind.i64.wrap (v7_4 + 1)), h, rfl⟩
     ·have h := ifF c67 h
      refine aw_cond_f (by decide) rfl ?_
      refine aw_skip ?_
      refine hK42 _ ?_
      refine aw_regL ?_
      refine alP (some 56) rfl rfl (does_move (v := .int .i64 v7_4) (by exact rfl)) (by decide) ?_
      refine alP (some 57) rfl rfl (does_bin (v := .int .i64 (IntKind.i64.wrap (v7_4 + 1))) (by conv => lhs; whnf) (by conv => lhs; whnf) rfl) (by decide) ?_
      refine alP (some 7) rfl rfl (does_assign (v := .int .i64 (IntKind.i64.wrap (v7_4 + 1))) (by exact rfl)) (by decide) ?_
      refine al_nil ?_
      have h := leafL h hq38
      exact ⟨m4, Nat.lt_succ_self _, _, reb_lit [(0, .sl 10 (List.map enc27 a0)), (3, .own 13 0), (6, .own 51 0), (7, .int .i64 (IntKind.i64.wrap (v7_4 + 1)))] [(13, 0), (51, 0)] [((13, 0), .arr 3 1 false (List.map enc2 v3_s_0)), ((51, 0), .arr 3 1 false (List.map enc2 v6_s_4))] [(13, 1), (51, 1)] (envOk_cons (by conv => lhs; whnf) (by exact rfl) (envOk_cons (by conv => lhs; whnf) (by exact rfl) (envOk_cons (by conv => lhs; whnf) (by exact rfl) (envOk_cons (by conv => lhs; whnf) (by exact rfl) envOk_nil)))) (objOk_cons (by conv => lhs; whnf) (by conv => lhs; whnf) (by exact rfl) (by simp) (objOk_cons (by conv => lhs; whnf) (by conv => lhs; whnf) (by exact rfl) (by simp) objOk_nil)) (nodup_b rfl) (nodup_b rfl) rfl rfl, v6_s_4, (IntKind.i64.wrap (v7_4 + 1)), h, rfl⟩
  ·have h := ifF c41 h
   refine aw_cond_f (by decide) rfl ?_
   refine aw_exit ?_
   have h := leafR h hq38
   refine hK35 _ ?_
   refine aw_seq_k (fun K70 hK70 => ?_)
   refine aw_regL ?_
   refine alP (some 96) rfl rfl (does_move (v := .own 51 0) (by exact rfl)) (by decide) ?_
   refine alP (some 2) rfl rfl (does_assign (v := .own 51 0) (by exact rfl)) (by decide) ?_
   refine al_nil ?_
   refine hK70 _ ?_
   refine aw_ret ?_
   obtain rfl := Option.some.inj h
   exact ret_okR [(51, 0)] (by conv => lhs; whnf) (by conv => lhs; whnf) (by exact rfl) (rowsOk_cons (by conv => lhs; whnf) (by exact rfl) trivial) (nodup_b rfl) (.inr rfl) rfl
def gleaningref28_kids_l2 (a0 : List Span) (v7_s_0 : List Int) (v8_0 : Int) (v9_2 : Int) : Option (Int ⊕ Int) :=
 if (decide ((0 : Int) < v9_2)) = true then (gd (0 ≤ v8_0) (Option.bind (a0[(Int.toNat v8_0)]?) (fun (x25 : Span) => gd (0 ≤ (IntKind.i64.wrap (v9_2 - 1))) (Option.bind (v7_s_0[(Int.toNat (IntKind.i64.wrap (v9_2 - 1)))]?) (fun (x27 : Int) => gd (0 ≤ x27) (Option.bind (a0[(Int.toNat x27)]?) (fun (x29 : Span) => if (decide (x25.Start < x29.Start)) = true then (some (Sum.inl (IntKind.i64.wrap (v9_2 - 1)))) else (some (Sum.inr v9_2))))))))) else (some (Sum.inr v9_2))
def gleaningref28_kids_k1 (v7_s_0 : List Int) (v8_0 : Int) (v9_1 : Int) : Option ((List Int × Int) ⊕ (List Int)) :=
 gd (0 ≤ v9_1) (gd (v9_1 ≤ (List.length v7_s_0 : Int)) (gd ((List.length (List.take (Int.toNat v9_1) v7_s_0)) * 8 ≤ 140737488355328 ∧ (List.length (List.take (Int.toNat v9_1) v7_s_0)) ≤ 140737488355328) (gd ((List.length ((List.take (Int.toNat v9_1) v7_s_0) ++ [v8_0])) * 8 ≤ 140737488355328 ∧ (List.length ((List.take (Int.toNat v9_1) v7_s_0) ++ [v8_0])) ≤ 140737488355328) (gd (0 ≤ v9_1) (gd (v9_1 ≤ (List.length v7_s_0 : Int)) (gd ((List.length (((List.take (Int.toNat v9_1) v7_s_0) ++ [v8_0]) ++ (List.drop (Int.toNat v9_1) v7_s_0))) * 8 ≤ 140737488355328 ∧ (List.length (((List.take (Int.toNat v9_1) v7_s_0) ++ [v8_0]) ++ (List.drop (Int.toNat v9_1) v7_s_0))) ≤ 140737488355328) (some (Sum.inl ((((List.take (Int.toNat v9_1) v7_s_0) ++ [v8_0]) ++ (List.drop (Int.toNat v9_1) v7_s_0)), (IntKind.i64.wrap (v8_0 + 1)))))))))))
def gleaningref28_kids_l0 (a0 : List Span) (a1 : List Int) (a2 : Int) (v7_s_0 : List Int) (v8_0 : Int) : Option ((List Int × Int) ⊕ (List Int)) :=
 if (decide (v8_0 < (List.length a0 : Int))) = true then (gd (0 ≤ v8_0) (Option.bind (a1[(Int.toNat v8_0)]?) (fun (x14 : Int) => if (x14 != a2) = true then (some (Sum.inl (v7_s_0, (IntKind.i64.wrap (v8_0 + 1))))) else (Option.bind (loopN (fun (s : Int) => gleaningref28_kids_l2 a0 v7_s_0 v8_0 s) Fu (List.length v7_s_0 : Int)) (fun (s : Int) => gleaningref28_kids_k1 v7_s_0 v8_0 s))))) else (some (Sum.inr v7_s_0))
def gleaningref28_kids (a0 : List Span) (a1 : List Int) (a2 : Int) : Option (List Int) :=
 loopN (fun (s : List Int × Int) => gleaningref28_kids_l0 a0 a1 a2 s.1 s.2) Fu ([], 0)
set_option maxRecDepth 100000 in
set_option maxHeartbeats 8000000 in
theorem gleaningref28_kids_ok (a0 : List Span) (a1 : List Int) (a2 : Int) {r : List Int} (h : gleaningref28_kids a0 a1 a2 = some r) : Ok Try.prog 22 [.sl 10 (List.map enc27 a0), .sl 1 (List.map enc2 a1), .int .i64 a2] [] [] (.own 2 0) [] [(3, 1, List.map enc2 r)] := by
 unfold gleaningref28_kids at h
 refine ok_of_code Try.func22 rfl (by show (3 : Nat) ≤ _; decide) (Nat.le_refl _) fun X => ?_
 refine aw_seq_k (fun K1 hK1 => ?_)
 refine aw_regL ?_
 refine alP (some 6) rfl rfl (does_assign (v := .nil) (by exact rfl)) (by decide) ?_
 refine al_nil ?_
 refine hK1 _ ?_
 refine aw_seq_k (fun K2 hK2 => ?_)
 refine aw_regL ?_
 refine alP (some 7) rfl rfl (does_assign (v := .nil) (by exact rfl)) (by decide) ?_
 refine al_nil ?_
 refine hK2 _ ?_
 refine aw_seq_k (fun K3 hK3 => ?_)
 refine aw_seq_k (fun K4 hK4 => ?_)
 refine aw_regL ?_
 refine alP (some 8) rfl rfl (does_assign (v := .int .i64 0) (by exact rfl)) (by decide) ?_
 refine al_nil ?_
 refine hK4 _ ?_
 refine aw_block ?_
 refine aw_nilOwn 7 3 1 (by conv => lhs; whnf) (by decide) (by decide) ?_
 refine aw_loop' (fun m s => ∃ (v7_s_0 : List Int), ∃ (v8_0 : Int), loopN (fun (s : List Int × Int) => gleaningref28_kids_l0 a0 a1 a2 s.1 s.2) m (v7_s_0, v8_0) = some r ∧ s = lit [(0, .sl 10 (List.map enc27 a0)), (1, .sl 1 (List.map enc2 a1)), (2, .int .i64 a2), (7, .own 7 0), (8, .int .i64 v8_0)] [((7, 0), .arr 3 1 false (List.map enc2 v7_s_0))] [(7, 1)] X) Fu
  ⟨_, reb_lit [(0, .sl 10 (List.map enc27 a0)), (1, .sl 1 (List.map enc2 a1)), (2, .int .i64 a2), (7, .own 7 0), (8, .int .i64 (0))] [(7, 0)] [((7, 0), .arr 3 1 false (List.map enc2 []))] [(7, 1)] (envOk_cons (by conv => lhs; whnf) (by exact rfl) (envOk_cons (by conv => lhs; whnf) (by exact rfl) (envOk_cons (by conv => lhs; whnf) (by exact rfl) (envOk_cons (by conv => lhs; whnf) (by exact rfl) (envOk_cons (by conv => lhs; whnf) (by exact rfl) envOk_nil))))) (objOk_cons (by conv => lhs; whnf) (by conv => lhs; whnf) (by exact rfl) (by simp) objOk_nil) (nodup_b rfl) (nodup_b rfl) rfl rfl, [], 0, h, rfl⟩ ?_
 rintro m s ⟨v7_s_0, v8_0, h, rfl⟩
 obtain ⟨m0, q5, rfl, h, hq6⟩ := loop_some h
 replace h : gleaningref28_kids_l0 a0 a1 a2 v7_s_0 v8_0 = some q5 := h
 unfold gleaningref28_kids_l0 at h
 refine aw_seq_k (fun K7 hK7 => ?_)
 refine aw_seq_k (fun K8 hK8 => ?_)
 refine aw_regL ?_
 refine alP (some 10) rfl rfl (does_move (v := .int .i64 v8_0) (by exact rfl)) (by decide) ?_
 refine alP (some 11) rfl rfl (does_move (v := .sl 10 (List.map enc27 a0)) (by exact rfl)) (by decide) ?_
 refine alP (some 12) rfl rfl ((does_len_sl (by conv => lhs; whnf) ty22).castp (v' := .int .i64 (List.length a0 : Int)) (by exact len_map _)) (by decide) ?_
 refine alP (some 13) rfl rfl (does_bin (v := .bool (decide (v8_0 < (List.length a0 : Int)))) (by conv => lhs; whnf) (by conv => lhs; whnf) rfl) (by decide) ?_
 refine al_nil ?_
 refine hK8 _ ?_
 refine aw_bool (b := (decide (v8_0 < (List.length a0 : Int)))) 13 rfl (fun c9 => ?_) (fun c9 => ?_)
 ·have h := ifT c9 h
  refine aw_cond_t (by decide) rfl ?_
  refine aw_skip ?_
  refine hK7 _ ?_
  refine aw_seq_k (fun K10 hK10 => ?_)
  refine aw_block ?_
  refine aw_seq_k (fun K11 hK11 => ?_)
  refine aw_seq_k (fun K12 hK12 => ?_)
  refine aw_regL ?_
  refine alP (some 16) rfl rfl (does_move (v := .sl 1 (List.map enc2 a1)) (by exact rfl)) (by decide) ?_
  refine alP (some 17) rfl rfl (does_move (v := .int .i64 v8_0) (by exact rfl)) (by decide) ?_
  obtain ⟨g13, h⟩ := gd_some h
  obtain ⟨x14, hx14, h⟩ := bnd_some h
  refine alP (some 18) rfl rfl (does_indexAddr_sl (el := .int .i64 x14) (by conv => lhs; whnf) (by conv => lhs; whnf) ty34 ty3 g13 (by exact map_get hx14)) (by decide) ?_
  refine alR (some 19) rfl rfl (does_load (v := .int .i64 x14) (by conv => lhs; whnf) (by conv => lhs; whnf) ty3 (by exact rfl)) (by decide) ?_
  refine alP (some 20) rfl rfl (does_move (v := .int .i64 a2) (by exact rfl)) (by decide) ?_
  refine alP (some 21) rfl rfl (does_bin (v := .bool (x14 != a2)) (by conv => lhs; whnf) (by conv => lhs; whnf) rfl) (by decide) ?_
  refine al_nil ?_
  refine hK12 _ ?_
  refine aw_bool (b := (x14 != a2)) 21 rfl (fun c15 => ?_) (fun c15 => ?_)
  ·have h := ifT c15 h
   refine aw_cond_t (by decide) rfl ?_
   refine aw_exit ?_
   refine hK10 _ ?_
   refine aw_regL ?_
   refine alP (some 14) rfl rfl (does_move (v := .int .i64 v8_0) (by exact rfl)) (by decide) ?_
   refine alP (some 15) rfl rfl (does_bin (v := .int .i64 (IntKind.i64.wrap (v8_0 + 1))) (by conv => lhs; whnf) (by conv => lhs; whnf) rfl) (by decide) ?_
   refine alP (some 8) rfl rfl (does_assign (v := .int .i64 (IntKind.i64.wrap (v8_0 + 1))) (by exact rfl)) (by decide) ?_
   refine al_nil ?_
   have h := leafL h hq6
   exact ⟨m0, Nat.lt_succ_self _, _, reb_lit [(0, .sl 10 (List.map enc27 a0)), (1, .sl 1 (List.map enc2 a1)), (2, .int .i64 a2), (7, .own 7 0), (8, .int .i64 (IntKind.i64.wrap (v8_0 + 1)))] [(7, 0)] [((7, 0), .arr 3 1 false (List.map enc2 v7_s_0))] [(7, 1)] (envOk_cons (by conv => lhs; whnf) (by exact rfl) (envOk_cons (by conv => lhs; whnf) (by exact rfl) (envOk_cons (by conv => lhs; whnf) (by exact rfl) (envOk_cons (by conv => lhs; whnf) (by exact rfl) (envOk_cons (by conv => lhs; whnf) (by exact rfl) envOk_nil))))) (objOk_cons (by conv => lhs; whnf) (by conv => lhs; whnf) (by exact rfl) (by simp) objOk_nil) (nodup_b rfl) (nodup_b rfl) rfl rfl, v7_s_0, (IntKind.i64.wrap (v8_0 + 1)), h, rfl⟩
  ·have h := ifF c15 h
   refine aw_cond_f (by decide) rfl ?_
   refine aw_skip ?_
   refine hK11 _ ?_
   refine aw_seq_k (fun K16 hK16 => ?_)
   refine aw_regL ?_
   refine alP (some 22) rfl rfl (does_move (v := .own 7 0) (by exact rfl)) (by decide) ?_
   refine alR (some 23) rfl rfl ((does_len_own (by conv => lhs; whnf) (by conv => lhs; whnf) ty34).cast (v' := .int .i64 (List.length v7_s_0 : Int)) (by exact len_map _)) (by decide) ?_
   refine alP (some 9) rfl rfl (does_assign (v := .int .i64 (List.length v7_s_0 : Int)) (by exact rfl)) (by decide) ?_
   refine al_nil ?_
   refine hK16 _ ?_
   obtain ⟨q17, h, hk18⟩ := bnd_some h
   refine aw_cut (fun s => ∃ (v9_1 : Int), gleaningref28_kids_k1 v7_s_0 v8_0 v9_1 = some q5 ∧ s = lit [(0, .sl 10 (List.map enc27 a0)), (1, .sl 1 (List.map enc2 a1)), (2, .int .i64 a2), (7, .own 7 0), (8, .int .i64 v8_0), (9, .int .i64 v9_1)] [((7, 0), .arr 3 1 false (List.map enc2 v7_s_0))] [(7, 1)] X) ?_ ?_
   ·skip
    refine aw_block ?_
    refine aw_loop' (fun m s => ∃ (v9_2 : Int), loopN (fun (s : Int) => gleaningref28_kids_l2 a0 v7_s_0 v8_0 s) m v9_2 = some q17 ∧ s = lit [(0, .sl 10 (List.map enc27 a0)), (1, .sl 1 (List.map enc2 a1)), (2, .int .i64 a2), (7, .own 7 0), (8, .int .i64 v8_0), (9, .int .i64 v9_2)] [((7, 0), .arr 3 1 false (List.map enc2 v7_s_0))] [(7, 1)] X) Fu
     ⟨_, reb_lit [(0, .sl 10 (List.map enc27 a0)), (1, .sl 1 (List.map enc2 a1)), (2, .int .i64 a2), (7, .own 7 0), (8, .int .i64 v8_0), (9, .int .i64 (List.length v7_s_0 : Int))] [(7, 0)] [((7, 0), .arr 3 1 false (List.map enc2 v7_s_0))] [(7, 1)] (envOk_cons (by conv => lhs; whnf) (by exact rfl) (envOk_cons (by conv => lhs; whnf) (by exact rfl) (envOk_cons (by conv => lhs; whnf) (by exact rfl) (envOk_cons (by conv => lhs; whnf) (by exact rfl) (envOk_cons (by conv => lhs; whnf) (by exact rfl) (envOk_cons (by conv => lhs; whnf) (by exact rfl) envOk_nil)))))) (objOk_cons (by conv => lhs; whnf) (by conv => lhs; whnf) (by exact rfl) (by simp) objOk_nil) (nodup_b rfl) (nodup_b rfl) rfl rfl, (List.length v7_s_0 : Int), h, rfl⟩ ?_
    rintro m s ⟨v9_2, h, rfl⟩
    obtain ⟨m2, q19, rfl, h, hq20⟩ := loop_some h
    replace h : gleaningref28_kids_l2 a0 v7_s_0 v8_0 v9_2 = some q19 := h
    unfold gleaningref28_kids_l2 at h
    refine aw_seq_k (fun K21 hK21 => ?_)
    refine aw_seq_k (fun K22 hK22 => ?_)
    refine aw_regd (by kernel_rfl) (by decide +kernel) ?_
    refine aoP (some 24) rfl rfl (does_move (v := .int .i64 v9_2) (by exact rfl)) (by decide) ?_
    refine aoP (some 25) rfl rfl (does_bin (v := .bool (decide ((0 : Int) < v9_2))) (by conv => lhs; whnf) (by conv => lhs; whnf) rfl) (by decide) ?_
    refine aoP (some 26) rfl rfl (does_move (v := .bool (decide ((0 : Int) < v9_2))) (by exact rfl)) (by decide) ?_
    refine ao_bool (c := (decide ((0 : Int) < v9_2))) 26 rfl (fun c23 => ?_) (fun c23 => ?_)
    ·have h := ifT c23 h
     refine aoP (some 27) rfl rfl (does_move (v := .sl 10 (List.map enc27 a0)) (by exact rfl)) (by decide) ?_
     refine aoP (some 28) rfl rfl (does_move (v := .int .i64 v8_0) (by exact rfl)) (by decide) ?_
     obtain ⟨g24, h⟩ := gd_some h
     obtain ⟨x25, hx25, h⟩ := bnd_some h
     refine aoP (some 29) rfl rfl (does_indexAddr_sl (el := .agg [.int .u64 x25.Trace.Hi, .int .u64 x25.Trace.Lo, .int .u64 x25.Id, .int .u64 x25.Parent, .str x25.Service, .str x25.Op, .int .i64 x25.Start, .int .i64 x25.Dur, .bool x25.Err, .sl 2 (List.map enc39 x25.Attrs)]) (by conv => lhs; whnf) (by conv => lhs; whnf) ty22 ty28 g24 (by exact map_get hx25)) (by decide) ?_
     refine aoP (some 30) rfl rfl (does_fieldAddr (q := .rptr [.int .i64 x25.Start, .int .i64 x25.Dur, .bool x25.Err, .sl 2 (List.map enc39 x25.Attrs)]) (by conv => lhs; whnf) ty28 rfl ty3 (by decide) (by exact rfl)) (by decide) ?_
     refine aoR (some 31) rfl rfl (does_load (v := .int .i64 x25.Start) (by conv => lhs; whnf) (by conv => lhs; whnf) ty3 (by exact rfl)) (by decide) ?_
     refine aoP (some 32) rfl rfl (does_move (v := .sl 10 (List.map enc27 a0)) (by exact rfl)) (by decide) ?_
     refine aoP (some 33) rfl rfl (does_move (v := .own 7 0) (by exact rfl)) (by decide) ?_
     refine aoP (some 34) rfl rfl (does_move (v := .int .i64 v9_2) (by exact rfl)) (by decide) ?_
     refine aoP (some 35) rfl rfl (does_bin (v := .int .i64 (IntKind.i64.wrap (v9_2 - 1))) (by conv => lhs; whnf) (by conv => lhs; whnf) rfl) (by decide) ?_
     obtain ⟨g26, h⟩ := gd_some h
     obtain ⟨x27, hx27, h⟩ := bnd_some h
     refine aoR (some 36) rfl rfl (does_indexAddr_own (by conv => lhs; whnf) (by conv => lhs; whnf) (by conv => lhs; whnf) ty34 ty3 g26 (by exact own_lt hx27)) (by decide) ?_
     refine aoR (some 37) rfl rfl (does_load (v := .int .i64 x27) (by conv => lhs; whnf) (cellsAt_eptr (by conv => lhs; whnf) (by exact map_get hx27)) ty3 (by exact rfl)) (by decide) ?_
     obtain ⟨g28, h⟩ := gd_some h
     obtain ⟨x29, hx29, h⟩ := bnd_some h
     refine aoP (some 38) rfl rfl (does_indexAddr_sl (el := .agg [.int .u64 x29.Trace.Hi, .int .u64 x29.Trace.Lo, .int .u64 x29.Id, .int .u64 x29.Parent, .str x29.Service, .str x29.Op, .int .i64 x29.Start, .int .i64 x29.Dur, .bool x29.Err, .sl 2 (List.map enc39 x29.Attrs)]) (by conv => lhs; whnf) (by conv => lhs; whnf) ty22 ty28 g28 (by exact map_get hx29)) (by decide) ?_
     refine aoP (some 39) rfl rfl (does_fieldAddr (q := .rptr [.int .i64 x29.Start, .int .i64 x29.Dur, .bool x29.Err, .sl 2 (List.map enc39 x29.Attrs)]) (by conv => lhs; whnf) ty28 rfl ty3 (by decide) (by exact rfl)) (by decide) ?_
     refine aoR (some 40) rfl rfl (does_load (v := .int .i64 x29.Start) (by conv => lhs; whnf) (by conv => lhs; whnf) ty3 (by exact rfl)) (by decide) ?_
     refine aoP (some 41) rfl rfl (does_bin (v := .bool (decide (x25.Start < x29.Start))) (by conv => lhs; whnf) (by conv => lhs; whnf) rfl) (by decide) ?_
     refine aoP (some 42) rfl rfl (does_pick (v := .bool (decide (x25.Start < x29.Start))) (by conv => lhs; whnf) (by exact rfl)) (by decide) ?_
     refine ao_nil_d (by kernel_rfl) ?_
     refine hK22 _ ?_
     refine aw_bool (b := (decide (x25.Start < x29.Start))) 42 rfl (fun c30 => ?_) (fun c30 => ?_)
     ·have h := ifT c30 h
      refine aw_cond_t (by decide) rfl ?_
      refine aw_skip ?_
      refine hK21 _ ?_
      refine aw_block ?_
      refine aw_regL ?_
      refine alP (some 43) rfl rfl (does_move (v := .int .i64 v9_2) (by exact rfl)) (by decide) ?_
      refine alP (some 44) rfl rfl (does_bin (v := .int .i64 (IntKind.i64.wrap (v9_2 - 1))) (by conv => lhs; whnf) (by conv => lhs; whnf) rfl) (by decide) ?_
      refine alP (some 9) rfl rfl (does_assign (v := .int .i64 (IntKind.i64.wrap (v9_2 - 1))) (by exact rfl)) (by decide) ?_
      refine al_nil ?_
      have h := leafL h hq20
      exact ⟨m2, Nat.lt_succ_self _, _, reb_lit [(0, .sl 10 (List.map enc27 a0)), (1, .sl 1 (List.map enc2 a1)), (2, .int .i64 a2), (7, .own 7 0), (8, .int .i64 v8_0), (9, .int .i64 (IntKind.i64.wrap (v9_2 - 1)))] [(7, 0)] [((7, 0), .arr 3 1 false (List.map enc2 v7_s_0))] [(7, 1)] (envOk_cons (by conv => lhs; whnf) (by exact rfl) (envOk_cons (by conv => lhs; whnf) (by exact rfl) (envOk_cons (by conv => lhs; whnf) (by exact rfl) (envOk_cons (by conv => lhs; whnf) (by exact rfl) (envOk_cons (by conv => lhs; whnf) (by exact rfl) (envOk_cons (by conv => lhs; whnf) (by exact rfl) envOk_nil)))))) (objOk_cons (by conv => lhs; whnf) (by conv => lhs; whnf) (by exact rfl) (by simp) objOk_nil) (nodup_b rfl) (nodup_b rfl) rfl rfl, (IntKind.i64.wrap (v9_2 - 1)), h, rfl⟩
     ·have h := ifF c30 h
      refine aw_cond_f (by decide) rfl ?_
      refine aw_exit ?_
      have h := leafR h hq20
      obtain rfl := Option.some.inj h
      have h := hk18
      exact ⟨_, reb_lit [(0, .sl 10 (List.map enc27 a0)), (1, .sl 1 (List.map enc2 a1)), (2, .int .i64 a2), (7, .own 7 0), (8, .int .i64 v8_0), (9, .int .i64 v9_2)] [(7, 0)] [((7, 0), .arr 3 1 false (List.map enc2 v7_s_0))] [(7, 1)] (envOk_cons (by conv => lhs; whnf) (by exact rfl) (envOk_cons (by conv => lhs; whnf) (by exact rfl) (envOk_cons (by conv => lhs; whnf) (by exact rfl) (envOk_cons (by conv => lhs; whnf) (by exact rfl) (envOk_cons (by conv => lhs; whnf) (by exact rfl) (envOk_cons (by conv => lhs; whnf) (by exact rfl) envOk_nil)))))) (objOk_cons (by conv => lhs; whnf) (by conv => lhs; whnf) (by exact rfl) (by simp) objOk_nil) (nodup_b rfl) (nodup_b rfl) rfl rfl, v9_2, h, rfl⟩
    ·have h := ifF c23 h
     refine aoS (some 27) rfl rfl (by decide) ?_
     refine aoS (some 28) rfl rfl (by decide) ?_
     refine aoS (some 29) rfl rfl (by decide) ?_
     refine aoS (some 30) rfl rfl (by decide) ?_
     refine aoS (some 31) rfl rfl (by decide) ?_
     refine aoS (some 32) rfl rfl (by decide) ?_
     refine aoS (some 33) rfl rfl (by decide) ?_
     refine aoS (some 34) rfl rfl (by decide) ?_
     refine aoS (some 35) rfl rfl (by decide) ?_
     refine aoS (some 36) rfl rfl (by decide) ?_
     refine aoS (some 37) rfl rfl (by decide) ?_
     refine aoS (some 38) rfl rfl (by decide) ?_
     refine aoS (some 39) rfl rfl (by decide) ?_
     refine aoS (some 40) rfl rfl (by decide) ?_
     refine aoS (some 41) rfl rfl (by decide) ?_
     refine aoP (some 42) rfl rfl (does_pick (v := .bool false) (by conv => lhs; whnf) (by exact rfl)) (by decide) ?_
     refine ao_nil_d (by kernel_rfl) ?_
     refine hK22 _ ?_
     refine aw_cond_f (by decide) rfl ?_
     refine aw_exit ?_
     have h := leafR h hq20
     obtain rfl := Option.some.inj h
     have h := hk18
     exact ⟨_, reb_lit [(0, .sl 10 (List.map enc27 a0)), (1, .sl 1 (List.map enc2 a1)), (2, .int .i64 a2), (7, .own 7 0), (8, .int .i64 v8_0), (9, .int .i64 v9_2)] [(7, 0)] [((7, 0), .arr 3 1 false (List.map enc2 v7_s_0))] [(7, 1)] (envOk_cons (by conv => lhs; whnf) (by exact rfl) (envOk_cons (by conv => lhs; whnf) (by exact rfl) (envOk_cons (by conv => lhs; whnf) (by exact rfl) (envOk_cons (by conv => lhs; whnf) (by exact rfl) (envOk_cons (by conv => lhs; whnf) (by exact rfl) (envOk_cons (by conv => lhs; whnf) (by exact rfl) envOk_nil)))))) (objOk_cons (by conv => lhs; whnf) (by conv => lhs; whnf) (by exact rfl) (by simp) objOk_nil) (nodup_b rfl) (nodup_b rfl) rfl rfl, v9_2, h, rfl⟩
   ·rintro s ⟨v9_1, h, rfl⟩
    unfold gleaningref28_kids_k1 at h
    refine aw_freeze (d := 7) (n := 0) (by conv => lhs; whnf) ?_
    refine aw_regd (by kernel_rfl) (by decide +kernel) ?_
    refine aoP (some 45) rfl rfl (does_move (v := .own 7 0) (by exact rfl)) (by decide) ?_
    refine aoP (some 46) rfl rfl (does_move (v := .int .i64 v9_1) (by exact rfl)) (by decide) ?_
    obtain ⟨g31, h⟩ := gd_some h
    obtain ⟨g32, h⟩ := gd_some h
    refine aoD (some 47) rfl rfl (does_slice_own (l := 0) (k := (Int.toNat v9_1)) (by conv => lhs; whnf) (by conv => lhs; whnf) ty34 ty3 bd_none (bd_some (by conv => lhs; whnf) (by exact (nat_of (by omega)))) (by (try simp only [List.length_map]); omega) (by (try simp only [List.length_map]); omega) (by exact part_h _ _)) (by decide) ?_
    obtain ⟨g33, h⟩ := gd_some h
    refine aoD (some 48) rfl rfl (do_append (v := List.map enc2 (List.take (Int.toNat v9_1) v7_s_0)) (by conv => lhs; whnf) (by conv => lhs; whnf) ty34 ty3 rfl rfl (by conv => lhs; whnf) (by first | exact .inl rfl | exact .inr ⟨rfl, rfl⟩) (by conv => lhs; whnf) (by first | exact .inr rfl | exact .inl rfl) (List.nil_append _) (fit_map g33)) (by decide) ?_
    refine aoP (some 49) rfl rfl (does_move (v := .int .i64 v8_0) (by exact rfl)) (by decide) ?_
    refine aoD (some 50) rfl rfl (do_buildSlice (xs := List.map enc2 [v8_0]) ty34 ty3 rfl rfl rfl rfl rfl rfl rfl rfl) (by decide) ?_
    obtain ⟨g34, h⟩ := gd_some h
    refine aoD (some 51) rfl rfl (do_append (v := List.map enc2 ((List.take (Int.toNat v9_1) v7_s_0) ++ [v8_0])) (by conv => lhs; whnf) (by conv => lhs; whnf) ty34 ty3 rfl rfl (by conv => lhs; whnf) (by first | exact .inl rfl | exact .inr ⟨rfl, rfl⟩) (by conv => lhs; whnf) (by first | exact .inr rfl | exact .inl rfl) (map_app _ _) (fit_map g34)) (by decide) ?_
    refine aoP (some 52) rfl rfl (does_move (v := .own 7 0) (by exact rfl)) (by decide) ?_
    refine aoP (some 53) rfl rfl (does_move (v := .int .i64 v9_1) (by exact rfl)) (by decide) ?_
    obtain ⟨g35, h⟩ := gd_some h
    obtain ⟨g36, h⟩ := gd_some h
    refine aoD (some 54) rfl rfl (does_slice_own (l := (Int.toNat v9_1)) (by conv => lhs; whnf) (by conv => lhs; whnf) ty34 ty3 (bd_some (by conv => lhs; whnf) (by exact (nat_of g35))) bd_none (by (try simp only [List.length_map]); omega) (by (try simp only [List.length_map]); omega) (by exact part_l _ _)) (by decide) ?_
    obtain ⟨g37, h⟩ := gd_some h
    refine aoD (some 55) rfl rfl (do_append (v := List.map enc2 (((List.take (Int.toNat v9_1) v7_s_0) ++ [v8_0]) ++ (List.drop (Int.toNat v9_1) v7_s_0))) (by conv => lhs; whnf) (by conv => lhs; whnf) ty34 ty3 rfl rfl (by conv => lhs; whnf) (by first | exact .inl rfl | exact .inr ⟨rfl, rfl⟩) (by conv => lhs; whnf) (by first | exact .inr rfl | exact .inl rfl) (map_app _ _) (fit_map g37)) (by decide) ?_
    refine aoP (some 7) rfl rfl (does_assign (v := .own 55 0) (by exact rfl)) (by decide) ?_
    refine ao_nil_d (by kernel_rfl) ?_
    refine hK10 _ ?_
    refine aw_regL ?_
    refine alP (some 14) rfl rfl (does_move (v := .int .i64 v8_0) (by exact rfl)) (by decide) ?_
    refine alP (some 15) rfl rfl (does_bin (v := .int .i64 (IntKind.i64.wrap (v8_0 + 1))) (by conv => lhs; whnf) (by conv => lhs; whnf) rfl) (by decide) ?_
    refine alP (some 8) rfl rfl (does_assign (v := .int .i64 (IntKind.i64.wrap (v8_0 + 1))) (by exact rfl)) (by decide) ?_
    refine al_nil ?_
    have h := leafL h hq6
    exact ⟨m0, Nat.lt_succ_self _, _, reb_lit [(0, .sl 10 (List.map enc27 a0)), (1, .sl 1 (List.map enc2 a1)), (2, .int .i64 a2), (7, .own 7 0), (8, .int .i64 (IntKind.i64.wrap (v8_0 + 1)))] [(55, 0)] [((7, 0), .arr 3 1 false (List.map enc2 (((List.take (Int.toNat v9_1) v7_s_0) ++ [v8_0]) ++ (List.drop (Int.toNat v9_1) v7_s_0))))] [(7, 1)] (envOk_cons (by conv => lhs; whnf) (by exact rfl) (envOk_cons (by conv => lhs; whnf) (by exact rfl) (envOk_cons (by conv => lhs; whnf) (by exact rfl) (envOk_cons (by conv => lhs; whnf) (by exact rfl) (envOk_cons (by conv => lhs; whnf) (by exact rfl) envOk_nil))))) (objOk_cons (by conv => lhs; whnf) (by conv => lhs; whnf) (by exact rfl) (by simp) objOk_nil) (nodup_b rfl) (nodup_b rfl) rfl rfl, (((List.take (Int.toNat v9_1) v7_s_0) ++ [v8_0]) ++ (List.drop (Int.toNat v9_1) v7_s_0)), (IntKind.i64.wrap (v8_0 + 1)), h, rfl⟩
 ·have h := ifF c9 h
  refine aw_cond_f (by decide) rfl ?_
  refine aw_exit ?_
  have h := leafR h hq6
  refine hK3 _ ?_
  refine aw_seq_k (fun K38 hK38 => ?_)
  refine aw_regL ?_
  refine alP (some 56) rfl rfl (does_move (v := .own 7 0) (by exact rfl)) (by decide) ?_
  refine alP (some 6) rfl rfl (does_assign (v := .own 7 0) (by exact rfl)) (by decide) ?_
  refine al_nil ?_
  refine hK38 _ ?_
  refine aw_ret ?_
  obtain rfl := Option.some.inj h
  exact ret_okR [(7, 0)] (by conv => lhs; whnf) (by conv => lhs; whnf) (by exact rfl) (rowsOk_cons (by conv => lhs; whnf) (by exact rfl) trivial) (nodup_b rfl) (.inr rfl) rfl
def gleaningref28_Critical_l2 (a0 : List Span) (v5_s_0 : List Int) (v6_2 : Int) (v7_2 : Int) : Option ((Int × Int) ⊕ Int) :=
 if (decide (v7_2 < (List.length v5_s_0 : Int))) = true then (gd (0 ≤ v7_2) (Option.bind (v5_s_0[(Int.toNat v7_2)]?) (fun (x31 : Int) => gd (0 ≤ x31) (Option.bind (a0[(Int.toNat x31)]?) (fun (x33 : Span) => Option.bind (gleaningref28_Ends x33) (fun (x34 : Int × Int) => gd (0 ≤ v6_2) (Option.bind (a0[(Int.toNat v6_2)]?) (fun (x37 : Span) => Option.bind (gleaningref28_Ends x37) (fun (x38 : Int × Int) => if (decide (x38.2 < x34.2)) = true then (gd (0 ≤ v7_2) (Option.bind (v5_s_0[(Int.toNat v7_2)]?) (fun (x42 : Int) => some (Sum.inl (x42, (IntKind.i64.wrap (v7_2 + 1))))))) else (some (Sum.inl (v6_2, (IntKind.i64.wrap (v7_2 + 1)))))))))))))) else (some (Sum.inr v6_2))
def gleaningref28_Critical_k1 (a0 : List Span) (x8 : List Int) (v4_s_0 : List Int) (v6_1 : Int) : Option ((List Int × List Int) ⊕ (List Int)) :=
 gd ((List.length (v4_s_0 ++ [v6_1])) * 8 ≤ 140737488355328 ∧ (List.length (v4_s_0 ++ [v6_1])) ≤ 140737488355328) (Option.bind (gleaningref28_kids a0 x8 v6_1) (fun (x45 : List Int) => some (Sum.inl ((v4_s_0 ++ [v6_1]), x45))))
def gleaningref28_Critical_l0 (a0 : List Span) (x8 : List Int) (v4_s_0 : List Int) (v5_s_0 : List Int) : Option ((List Int × List Int) ⊕ (List Int)) :=
 if (decide ((0 : Int) < (List.length v5_s_0 : Int))) = true then (Option.bind (v5_s_0[0]?) (fun (x19 : Int) => Option.bind (loopN (fun (s : Int × Int) => gleaningref28_Critical_l2 a0 v5_s_0 s.1 s.2) Fu (x19, 0)) (fun (s : Int) => gleaningref28_Critical_k1 a0 x8 v4_s_0 s))) else (some (Sum.inr v4_s_0))
def gleaningref28_Critical (a0 : List Span) : Option (List Int) :=
 Option.bind (gleaningref1_RightSpans a0) (fun (x4 : Bool) => if (!x4) = true then (some []) else (Option.bind (gleaningref28_Parents a0) (fun (x8 : List Int) => Option.bind (gleaningref28_kids a0 x8 (-1)) (fun (x11 : List Int) => loopN (fun (s : List Int × List Int) => gleaningref28_Critical_l0 a0 x8 s.1 s.2) Fu ([], x11)))))
set_option maxRecDepth 100000 in
set_option maxHeartbeats 8000000 in
theorem gleaningref28_Critical_ok (a0 : List Span) {r : List Int} (h : gleaningref28_Critical a0 = some r) : Ok Try.prog 12 [.sl 10 (List.map enc27 a0)] [] [] (.own 2 0) [] [(3, 1, List.map enc2 r)] := by
 unfold gleaningref28_Critical at h
 refine ok_of_code Try.func12 rfl (by show (1 : Nat) ≤ _; decide) (Nat.le_refl _) fun X => ?_
 refine aw_seq_k (fun K1 hK1 => ?_)
 refine aw_regL ?_
 refine alP (some 2) rfl rfl (does_assign (v := .nil) (by exact rfl)) (by decide) ?_
 refine al_nil ?_
 refine hK1 _ ?_
 refine aw_seq_k (fun K2 hK2 => ?_)
 refine aw_seq_k (fun K3 hK3 => ?_)
 refine aw_regL ?_
 refine alP (some 12) rfl rfl (does_move (v := .sl 10 (List.map enc27 a0)) (by exact rfl)) (by decide) ?_
 obtain ⟨x4, hx4, h⟩ := bnd_some h
 refine alD (some 13) rfl rfl (do_call0 13 false (gleaningref1_RightSpans_ok a0 hx4) rfl ent15 rfl rfl) (by decide) ?_
 refine alP (some 14) rfl rfl (does_un (v := .bool (!x4)) (by conv => lhs; whnf) rfl) (by decide) ?_
 refine al_nil ?_
 refine hK3 _ ?_
 refine aw_bool (b := (!x4)) 14 rfl (fun c5 => ?_) (fun c5 => ?_)
 ·have h := ifT c5 h
  refine aw_cond_t (by decide) rfl ?_
  refine aw_seq_k (fun K6 hK6 => ?_)
  refine aw_regL ?_
  refine alP (some 2) rfl rfl (does_assign (v := .nil) (by exact rfl)) (by decide) ?_
  refine al_nil ?_
  refine hK6 _ ?_
  refine aw_nilOwn 2 3 1 (by conv => lhs; whnf) (by decide) (by decide) ?_
  refine aw_ret ?_
  obtain rfl := Option.some.inj h
  exact ret_okR [(2, 0)] (by conv => lhs; whnf) (by conv => lhs; whnf) (by exact rfl) (rowsOk_cons (by conv => lhs; whnf) (by exact rfl) trivial) (nodup_b rfl) (.inr rfl) rfl
 ·have h := ifF c5 h
  refine aw_cond_f (by decide) rfl ?_
  refine aw_skip ?_
  refine hK2 _ ?_
  refine aw_seq_k (fun K7 hK7 => ?_)
  refine aw_regL ?_
  refine alP (some 15) rfl rfl (does_move (v := .sl 10 (List.map enc27 a0)) (by exact rfl)) (by decide) ?_
  obtain ⟨x8, hx8, h⟩ := bnd_some h
  refine alD (some 16) rfl rfl (do_call0 16 false (gleaningref28_Parents_ok a0 hx8) rfl ent16 rfl rfl) (by decide) ?_
  refine alP (some 3) rfl rfl (does_assign (v := .own 16 0) (by exact rfl)) (by decide) ?_
  refine al_nil ?_
  refine hK7 _ ?_
  refine aw_seq_k (fun K9 hK9 => ?_)
  refine aw_regL ?_
  refine alP (some 4) rfl rfl (does_assign (v := .nil) (by exact rfl)) (by decide) ?_
  refine al_nil ?_
  refine hK9 _ ?_
  refine aw_seq_k (fun K10 hK10 => ?_)
  refine aw_regL ?_
  refine alP (some 17) rfl rfl (does_move (v := .sl 10 (List.map enc27 a0)) (by exact rfl)) (by decide) ?_
  refine alP (some 18) rfl rfl (does_move (v := .own 16 0) (by exact rfl)) (by decide) ?_
  obtain ⟨x11, hx11, h⟩ := bnd_some h
  refine alD (some 19) rfl rfl (do_callG (bcs := []) [] [] [(16, 0)] 19 false (gleaningref28_kids_ok a0 x8 (-1) hx11) rfl ent22 trivial trivial rfl rfl rfl rfl rfl rfl rfl rfl (.inr ⟨rfl, rfl, ⟨plain_map (fun _ => rfl), trivial⟩⟩)) (by decide) ?_
  refine alP (some 5) rfl rfl (does_assign (v := .own 19 0) (by exact rfl)) (by decide) ?_
  refine al_nil ?_
  refine hK10 _ ?_
  refine aw_seq_k (fun K12 hK12 => ?_)
  refine aw_block ?_
  refine aw_nilOwn 4 3 1 (by conv => lhs; whnf) (by decide) (by decide) ?_
  refine aw_loop' (fun m s => ∃ (v4_s_0 : List Int), ∃ (v5_s_0 : List Int), loopN (fun (s : List Int × List Int) => gleaningref28_Critical_l0 a0 x8 s.1 s.2) m (v4_s_0, v5_s_0) = some r ∧ s = lit [(0, .sl 10 (List.map enc27 a0)), (3, .own 16 0), (4, .own 4 0), (5, .own 19 0)] [((16, 0), .arr 3 1 false (List.map enc2 x8)), ((4, 0), .arr 3 1 false (List.map enc2 v4_s_0)), ((19, 0), .arr 3 1 false (List.map enc2 v5_s_0))] [(4, 1), (16, 1), (19, 1)] X) Fu
   ⟨_, reb_lit [(0, .sl 10 (List.map enc27 a0)), (3, .own 16 0), (4, .own 4 0), (5, .own 19 0)] [(16, 0), (4, 0), (19, 0)] [((16, 0), .arr 3 1 false (List.map enc2 x8)), ((4, 0), .arr 3 1 false (List.map enc2 [])), ((19, 0), .arr 3 1 false (List.map enc2 x11))] [(4, 1), (16, 1), (19, 1)] (envOk_cons (by conv => lhs; whnf) (by exact rfl) (envOk_cons (by conv => lhs; whnf) (by exact rfl) (envOk_cons (by conv => lhs; whnf) (by exact rfl) (envOk_cons (by conv => lhs; whnf) (by exact rfl) envOk_nil)))) (objOk_cons (by conv => lhs; whnf) (by conv => lhs; whnf) (by exact rfl) (by simp) (objOk_cons (by conv => lhs; whnf) (by conv => lhs; whnf) (by exact rfl) (by simp) (objOk_cons (by conv => lhs; whnf) (by conv => lhs; whnf) (by exact rfl) (by simp) objOk_nil))) (nodup_b rfl) (nodup_b rfl) rfl rfl, [], x11, h, rfl⟩ ?_
  rintro m s ⟨v4_s_0, v5_s_0, h, rfl⟩
  obtain ⟨m0, q13, rfl, h, hq14⟩ := loop_some h
  replace h : gleaningref28_Critical_l0 a0 x8 v4_s_0 v5_s_0 = some q13 := h
  unfold gleaningref28_Critical_l0 at h
  refine aw_seq_k (fun K15 hK15 => ?_)
  refine aw_seq_k (fun K16 hK16 => ?_)
  refine aw_regL ?_
  refine alP (some 20) rfl rfl (does_move (v := .own 19 0) (by exact rfl)) (by decide) ?_
  refine alR (some 21) rfl rfl ((does_len_own (by conv => lhs; whnf) (by conv => lhs; whnf) ty34).cast (v' := .int .i64 (List.length v5_s_0 : Int)) (by exact len_map _)) (by decide) ?_
  refine alP (some 22) rfl rfl (does_bin (v := .bool (decide ((0 : Int) < (List.length v5_s_0 : Int)))) (by conv => lhs; whnf) (by conv => lhs; whnf) rfl) (by decide) ?_
  refine al_nil ?_
  refine hK16 _ ?_
  refine aw_bool (b := (decide ((0 : Int) < (List.length v5_s_0 : Int)))) 22 rfl (fun c17 => ?_) (fun c17 => ?_)
  ·have h := ifT c17 h
   refine aw_cond_t (by decide) rfl ?_
   refine aw_skip ?_
   refine hK15 _ ?_
   refine aw_block ?_
   refine aw_seq_k (fun K18 hK18 => ?_)
   refine aw_regL ?_
   refine alP (some 23) rfl rfl (does_move (v := .own 19 0) (by exact rfl)) (by decide) ?_
   obtain ⟨x19, hx19, h⟩ := bnd_some h
   refine alR (some 24) rfl rfl (does_indexAddr_own (by conv => lhs; whnf) (by conv => lhs; whnf) (by conv => lhs; whnf) ty34 ty3 (by decide) (by exact own_lt hx19)) (by decide) ?_
   refine alR (some 25) rfl rfl (does_load (v := .int .i64 x19) (by conv => lhs; whnf) (cellsAt_eptr (by conv => lhs; whnf) (by exact map_get hx19)) ty3 (by exact rfl)) (by decide) ?_
   refine alP (some 6) rfl rfl (does_assign (v := .int .i64 x19) (by exact rfl)) (by decide) ?_
   refine al_nil ?_
   refine hK18 _ ?_
   obtain ⟨q20, h, hk21⟩ := bnd_some h
   refine aw_cut (fun s => ∃ (v6_1 : Int), gleaningref28_Critical_k1 a0 x8 v4_s_0 v6_1 = some q13 ∧ s = lit [(0, .sl 10 (List.map enc27 a0)), (3, .own 16 0), (4, .own 4 0), (6, .int .i64 v6_1)] [((16, 0), .arr 3 1 false (List.map enc2 x8)), ((4, 0), .arr 3 1 false (List.map enc2 v4_s_0))] [(4, 1), (16, 1)] X) ?_ ?_
   ·skip
    refine aw_seq_k (fun K22 hK22 => ?_)
    refine aw_regL ?_
    refine alP (some 7) rfl rfl (does_assign (v := .int .i64 0) (by exact rfl)) (by decide) ?_
    refine al_nil ?_
    refine hK22 _ ?_
    refine aw_block ?_
    refine aw_loop' (fun m s => ∃ (v6_2 : Int), ∃ (v7_2 : Int), loopN (fun (s : Int × Int) => gleaningref28_Critical_l2 a0 v5_s_0 s.1 s.2) m (v6_2, v7_2) = some q20 ∧ s = lit [(0, .sl 10 (List.map enc27 a0)), (3, .own 16 0), (4, .own 4 0), (5, .own 19 0), (6, .int .i64 v6_2), (7, .int .i64 v7_2)] [((16, 0), .arr 3 1 false (List.map enc2 x8)), ((4, 0), .arr 3 1 false (List.map enc2 v4_s_0)), ((19, 0), .arr 3 1 false (List.map enc2 v5_s_0))] [(4, 1), (16, 1), (19, 1)] X) Fu
     ⟨_, reb_lit [(0, .sl 10 (List.map enc27 a0)), (3, .own 16 0), (4, .own 4 0), (5, .own 19 0), (6, .int .i64 x19), (7, .int .i64 (0))] [(16, 0), (4, 0), (19, 0)] [((16, 0), .arr 3 1 false (List.map enc2 x8)), ((4, 0), .arr 3 1 false (List.map enc2 v4_s_0)), ((19, 0), .arr 3 1 false (List.map enc2 v5_s_0))] [(4, 1), (16, 1), (19, 1)] (envOk_cons (by conv => lhs; whnf) (by exact rfl) (envOk_cons (by conv => lhs; whnf) (by exact rfl) (envOk_cons (by conv => lhs; whnf) (by exact rfl) (envOk_cons (by conv => lhs; whnf) (by exact rfl) (envOk_cons (by conv => lhs; whnf) (by exact rfl) (envOk_cons (by conv => lhs; whnf) (by exact rfl) envOk_nil)))))) (objOk_cons (by conv => lhs; whnf) (by conv => lhs; whnf) (by exact rfl) (by simp) (objOk_cons (by conv => lhs; whnf) (by conv => lhs; whnf) (by exact rfl) (by simp) (objOk_cons (by conv => lhs; whnf) (by conv => lhs; whnf) (by exact rfl) (by simp) objOk_nil))) (nodup_b rfl) (nodup_b rfl) rfl rfl, x19, 0, h, rfl⟩ ?_
    rintro m s ⟨v6_2, v7_2, h, rfl⟩
    obtain ⟨m2, q23, rfl, h, hq24⟩ := loop_some h
    replace h : gleaningref28_Critical_l2 a0 v5_s_0 v6_2 v7_2 = some q23 := h
    unfold gleaningref28_Critical_l2 at h
    refine aw_seq_k (fun K25 hK25 => ?_)
    refine aw_seq_k (fun K26 hK26 => ?_)
    refine aw_regL ?_
    refine alP (some 26) rfl rfl (does_move (v := .int .i64 v7_2) (by exact rfl)) (by decide) ?_
    refine alP (some 27) rfl rfl (does_move (v := .own 19 0) (by exact rfl)) (by decide) ?_
    refine alR (some 28) rfl rfl ((does_len_own (by conv => lhs; whnf) (by conv => lhs; whnf) ty34).cast (v' := .int .i64 (List.length v5_s_0 : Int)) (by exact len_map _)) (by decide) ?_
    refine alP (some 29) rfl rfl (does_bin (v := .bool (decide (v7_2 < (List.length v5_s_0 : Int)))) (by conv => lhs; whnf) (by conv => lhs; whnf) rfl) (by decide) ?_
    refine al_nil ?_
    refine hK26 _ ?_
    refine aw_bool (b := (decide (v7_2 < (List.length v5_s_0 : Int)))) 29 rfl (fun c27 => ?_) (fun c27 => ?_)
    ·have h := ifT c27 h
     refine aw_cond_t (by decide) rfl ?_
     refine aw_skip ?_
     refine hK25 _ ?_
     refine aw_seq_k (fun K28 hK28 => ?_)
     refine aw_block ?_
     refine aw_seq_k (fun K29 hK29 => ?_)
     refine aw_regL ?_
     refine alP (some 33) rfl rfl (does_move (v := .sl 10 (List.map enc27 a0)) (by exact rfl)) (by decide) ?_
     refine alP (some 34) rfl rfl (does_move (v := .own 19 0) (by exact rfl)) (by decide) ?_
     refine alP (some 35) rfl rfl (does_move (v := .int .i64 v7_2) (by exact rfl)) (by decide) ?_
     obtain ⟨g30, h⟩ := gd_some h
     obtain ⟨x31, hx31, h⟩ := bnd_some h
     refine alR (some 36) rfl rfl (does_indexAddr_own (by conv => lhs; whnf) (by conv => lhs; whnf) (by conv => lhs; whnf) ty34 ty3 g30 (by exact own_lt hx31)) (by decide) ?_
     refine alR (some 37) rfl rfl (does_load (v := .int .i64 x31) (by conv => lhs; whnf) (cellsAt_eptr (by conv => lhs; whnf) (by exact map_get hx31)) ty3 (by exact rfl)) (by decide) ?_
     obtain ⟨g32, h⟩ := gd_some h
     obtain ⟨x33, hx33, h⟩ := bnd_some h
     refine alP (some 38) rfl rfl (does_indexAddr_sl (el := .agg [.int .u64 x33.Trace.Hi, .int .u64 x33.Trace.Lo, .int .u64 x33.Id, .int .u64 x33.Parent, .str x33.Service, .str x33.Op, .int .i64 x33.Start, .int .i64 x33.Dur, .bool x33.Err, .sl 2 (List.map enc39 x33.Attrs)]) (by conv => lhs; whnf) (by conv => lhs; whnf) ty22 ty28 g32 (by exact map_get hx33)) (by decide) ?_
     refine alR (some 39) rfl rfl (does_load (v := .agg [.int .u64 x33.Trace.Hi, .int .u64 x33.Trace.Lo, .int .u64 x33.Id, .int .u64 x33.Parent, .str x33.Service, .str x33.Op, .int .i64 x33.Start, .int .i64 x33.Dur, .bool x33.Err, .sl 2 (List.map enc39 x33.Attrs)]) (by conv => lhs; whnf) (by conv => lhs; whnf) ty28 (by exact rfl)) (by decide) ?_
     obtain ⟨x34, hx34, h⟩ := bnd_some h
     refine alD (some 40) rfl rfl (do_call0 40 false (gleaningref28_Ends_ok x33 hx34) rfl ent10 rfl rfl) (by decide) ?_
     refine alP (some 32) rfl rfl (does_move (v := .tup [.int .i64 x34.1, .int .i64 x34.2]) (by exact rfl)) (by decide) ?_
     refine alP (some 41) rfl rfl (does_extract (v := .int .i64 x34.1) (by conv => lhs; whnf) (by exact rfl)) (by decide) ?_
     refine alP (some 42) rfl rfl (does_extract (v := .int .i64 x34.2) (by conv => lhs; whnf) (by exact rfl)) (by decide) ?_
     refine alP (some 8) rfl rfl (does_assign (v := .int .i64 x34.1) (by exact rfl)) (by decide) ?_
     refine alP (some 9) rfl rfl (does_assign (v := .int .i64 x34.2) (by exact rfl)) (by decide) ?_
     refine al_nil ?_
     refine hK29 _ ?_
     refine aw_seq_k (fun K35 hK35 => ?_)
     refine aw_regL ?_
     refine alP (some 44) rfl rfl (does_move (v := .sl 10 (List.map enc27 a0)) (by exact rfl)) (by decide) ?_
     refine alP (some 45) rfl rfl (does_move (v := .int .i64 v6_2) (by exact rfl)) (by decide) ?_
     obtain ⟨g36, h⟩ := gd_some h
     obtain ⟨x37, hx37, h⟩ := bnd_some h
     refine alP (some 46) rfl rfl (does_indexAddr_sl (el := .agg [.int .u64 x37.Trace.Hi, .int .u64 x37.Trace.Lo, .int .u64 x37.Id, .int .u64 x37.Parent, .str x37.Service, .str x37.Op, .int .i64 x37.Start, .int .i64 x37.Dur, .bool x37.Err, .sl 2 (List.map enc39 x37.Attrs)]) (by conv => lhs; whnf) (by conv => lhs; whnf) ty22 ty28 g36 (by exact map_get hx37)) (by decide) ?_
     refine alR (some 47) rfl rfl (does_load (v := .agg [.int .u64 x37.Trace.Hi, .int .u64 x37.Trace.Lo, .int .u64 x37.Id, .int .u64 x37.Parent, .str x37.Service, .str x37.Op, .int .i64 x37.Start, .int .i64 x37.Dur, .bool x37.Err, .sl 2 (List.map enc39 x37.Attrs)]) (by conv => lhs; whnf) (by conv => lhs; whnf) ty28 (by exact rfl)) (by decide) ?_
     obtain ⟨x38, hx38, h⟩ := bnd_some h
     refine alD (some 48) rfl rfl (do_call0 48 false (gleaningref28_Ends_ok x37 hx38) rfl ent10 rfl rfl) (by decide) ?_
     refine alP (some 43) rfl rfl (does_move (v := .tup [.int .i64 x38.1, .int .i64 x38.2]) (by exact rfl)) (by decide) ?_
     refine alP (some 49) rfl rfl (does_extract (v := .int .i64 x38.1) (by conv => lhs; whnf) (by exact rfl)) (by decide) ?_
     refine alP (some 50) rfl rfl (does_extract (v := .int .i64 x38.2) (by conv => lhs; whnf) (by exact rfl)) (by decide) ?_
     refine alP (some 10) rfl rfl (does_assign (v := .int .i64 x38.1) (by exact rfl)) (by decide) ?_
     refine alP (some 11) rfl rfl (does_assign (v := .int .i64 x38.2) (by exact rfl)) (by decide) ?_
     refine al_nil ?_
     refine hK35 _ ?_
     refine aw_seq_k (fun K39 hK39 => ?_)
     refine aw_regL ?_
     refine alP (some 51) rfl rfl (does_move (v := .int .i64 x34.2) (by exact rfl)) (by decide) ?_
     refine alP (some 52) rfl rfl (does_move (v := .int .i64 x38.2) (by exact rfl)) (by decide) ?_
     refine alP (some 53) rfl rfl (does_bin (v := .bool (decide (x38.2 < x34.2))) (by conv => lhs; whnf) (by conv => lhs; whnf) rfl) (by decide) ?_
     refine al_nil ?_
     refine hK39 _ ?_
     refine aw_bool (b := (decide (x38.2 < x34.2))) 53 rfl (fun c40 => ?_) (fun c40 => ?_)
     ·have h := ifT c40 h
      refine aw_cond_t (by decide) rfl ?_
      refine aw_regL ?_
      refine alP (some 54) rfl rfl (does_move (v := .own 19 0) (by exact rfl)) (by decide) ?_
      refine alP (some 55) rfl rfl (does_move (v := .int .i64 v7_2) (by exact rfl)) (by decide) ?_
      obtain ⟨g41, h⟩ := gd_some h
      obtain ⟨x42, hx42, h⟩ := bnd_some h
      refine alR (some 56) rfl rfl (does_indexAddr_own (by conv => lhs; whnf) (by conv => lhs; whnf) (by conv => lhs; whnf) ty34 ty3 g41 (by exact own_lt hx42)) (by decide) ?_
      refine alR (some 57) rfl rfl (does_load (v := .int .i64 x42) (by conv => lhs; whnf) (cellsAt_eptr (by conv => lhs; whnf) (by exact map_get hx42)) ty3 (by exact rfl)) (by decide) ?_
      refine alP (some 6) rfl rfl (does_assign (v := .int .i64 x42) (by exact rfl)) (by decide) ?_
      refine al_nil ?_
      refine hK28 _ ?_
      refine aw_regL ?_
      refine alP (some 30) rfl rfl (does_move (v := .int .i64 v7_2) (by exact rfl)) (by decide) ?_
      refine alP (some 31) rfl rfl (does_bin (v := .int .i64 (IntKind.i64.wrap (v7_2 + 1))) (by conv => lhs; whnf) (by conv => lhs; whnf) rfl) (by decide) ?_
      refine alP (some 7) rfl rfl (does_assign (v := .int .i64 (IntKind.i64.wrap (v7_2 + 1))) (by exact rfl)) (by decide) ?_
      refine al_nil ?_
      have h := leafL h hq24
      exact ⟨m2, Nat.lt_succ_self _, _, reb_lit [(0, .sl 10 (List.map enc27 a0)), (3, .own 16 0), (4, .own 4 0), (5, .own 19 0), (6, .int .i64 x42), (7, .int .i64 (IntKind.i64.wrap (v7_2 + 1)))] [(16, 0), (4, 0), (19, 0)] [((16, 0), .arr 3 1 false (List.map enc2 x8)), ((4, 0), .arr 3 1 false (List.map enc2 v4_s_0)), ((19, 0), .arr 3 1 false (List.map enc2 v5_s_0))] [(4, 1), (16, 1), (19, 1)] (envOk_cons (by conv => lhs; whnf) (by exact rfl) (envOk_cons (by conv => lhs; whnf) (by exact rfl) (envOk_cons (by conv => lhs; whnf) (by exact rfl) (envOk_cons (by conv => lhs; whnf) (by exact rfl) (envOk_cons (by conv => lhs; whnf) (by exact rfl) (envOk_cons (by conv => lhs; whnf) (by exact rfl) envOk_nil)))))) (objOk_cons (by conv => lhs; whnf) (by conv => lhs; whnf) (by exact rfl) (by simp) (objOk_cons (by conv => lhs; whnf) (by conv => lhs; whnf) (by exact rfl) (by simp) (objOk_cons (by conv => lhs; whnf) (by conv => lhs; whnf) (by exact rfl) (by simp) objOk_nil))) (nodup_b rfl) (nodup_b rfl) rfl rfl, x42, (IntKind.i64.wrap (v7_2 + 1)), h, rfl⟩
     ·have h := ifF c40 h
      refine aw_cond_f (by decide) rfl ?_
      refine aw_skip ?_
      refine hK28 _ ?_
      refine aw_regL ?_
      refine alP (some 30) rfl rfl (does_move (v := .int .i64 v7_2) (by exact rfl)) (by decide) ?_
      refine alP (some 31) rfl rfl (does_bin (v := .int .i64 (IntKind.i64.wrap (v7_2 + 1))) (by conv => lhs; whnf) (by conv => lhs; whnf) rfl) (by decide) ?_
      refine alP (some 7) rfl rfl (does_assign (v := .int .i64 (IntKind.i64.wrap (v7_2 + 1))) (by exact rfl)) (by decide) ?_
      refine al_nil ?_
      have h := leafL h hq24
      exact ⟨m2, Nat.lt_succ_self _, _, reb_lit [(0, .sl 10 (List.map enc27 a0)), (3, .own 16 0), (4, .own 4 0), (5, .own 19 0), (6, .int .i64 v6_2), (7, .int .i64 (IntKind.i64.wrap (v7_2 + 1)))] [(16, 0), (4, 0), (19, 0)] [((16, 0), .arr 3 1 false (List.map enc2 x8)), ((4, 0), .arr 3 1 false (List.map enc2 v4_s_0)), ((19, 0), .arr 3 1 false (List.map enc2 v5_s_0))] [(4, 1), (16, 1), (19, 1)] (envOk_cons (by conv => lhs; whnf) (by exact rfl) (envOk_cons (by conv => lhs; whnf) (by exact rfl) (envOk_cons (by conv => lhs; whnf) (by exact rfl) (envOk_cons (by conv => lhs; whnf) (by exact rfl) (envOk_cons (by conv => lhs; whnf) (by exact rfl) (envOk_cons (by conv => lhs; whnf) (by exact rfl) envOk_nil)))))) (objOk_cons (by conv => lhs; whnf) (by conv => lhs; whnf) (by exact rfl) (by simp) (objOk_cons (by conv => lhs; whnf) (by conv => lhs; whnf) (by exact rfl) (by simp) (objOk_cons (by conv => lhs; whnf) (by conv => lhs; whnf) (by exact rfl) (by simp) objOk_nil))) (nodup_b rfl) (nodup_b rfl) rfl rfl, v6_2, (IntKind.i64.wrap (v7_2 + 1)), h, rfl⟩
    ·have h := ifF c27 h
     refine aw_cond_f (by decide) rfl ?_
     refine aw_exit ?_
     have h := leafR h hq24
     obtain rfl := Option.some.inj h
     have h := hk21
     exact ⟨_, reb_lit [(0, .sl 10 (List.map enc27 a0)), (3, .own 16 0), (4, .own 4 0), (6, .int .i64 v6_2)] [(16, 0), (4, 0)] [((16, 0), .arr 3 1 false (List.map enc2 x8)), ((4, 0), .arr 3 1 false (List.map enc2 v4_s_0))] [(4, 1), (16, 1)] (envOk_cons (by conv => lhs; whnf) (by exact rfl) (envOk_cons (by conv => lhs; whnf) (by exact rfl) (envOk_cons (by conv => lhs; whnf) (by exact rfl) (envOk_cons (by conv => lhs; whnf) (by exact rfl) envOk_nil)))) (objOk_cons (by conv => lhs; whnf) (by conv => lhs; whnf) (by exact rfl) (by simp) (objOk_cons (by conv => lhs; whnf) (by conv => lhs; whnf) (by exact rfl) (by simp) objOk_nil)) (nodup_b rfl) (nodup_b rfl) rfl rfl, v6_2, h, rfl⟩
   ·rintro s ⟨v6_1, h, rfl⟩
    unfold gleaningref28_Critical_k1 at h
    refine aw_seq_k (fun K43 hK43 => ?_)
    refine aw_regL ?_
    refine alP (some 58) rfl rfl (does_move (v := .own 4 0) (by exact rfl)) (by decide) ?_
    refine alP (some 59) rfl rfl (does_move (v := .int .i64 v6_1) (by exact rfl)) (by decide) ?_
    refine alD (some 60) rfl rfl (do_buildSlice (xs := List.map enc2 [v6_1]) ty34 ty3 rfl rfl rfl rfl rfl rfl rfl rfl) (by decide) ?_
    obtain ⟨g44, h⟩ := gd_some h
    refine alD (some 61) rfl rfl (do_append (v := List.map enc2 (v4_s_0 ++ [v6_1])) (by conv => lhs; whnf) (by conv => lhs; whnf) ty34 ty3 rfl rfl (by conv => lhs; whnf) (by first | exact .inl rfl | exact .inr ⟨rfl, rfl⟩) (by conv => lhs; whnf) (by first | exact .inr rfl | exact .inl rfl) (map_app _ _) (fit_map g44)) (by decide) ?_
    refine alP (some 4) rfl rfl (does_assign (v := .own 61 0) (by exact rfl)) (by decide) ?_
    refine al_nil ?_
    refine hK43 _ ?_
    refine aw_regL ?_
    refine alP (some 62) rfl rfl (does_move (v := .sl 10 (List.map enc27 a0)) (by exact rfl)) (by decide) ?_
    refine alP (some 63) rfl rfl (does_move (v := .own 16 0) (by exact rfl)) (by decide) ?_
    refine alP (some 64) rfl rfl (does_move (v := .int .i64 v6_1) (by exact rfl)) (by decide) ?_
    obtain ⟨x45, hx45, h⟩ := bnd_some h
    refine alD (some 65) rfl rfl (do_callG (bcs := []) [] [] [(16, 0)] 65 false (gleaningref28_kids_ok a0 x8 v6_1 hx45) rfl ent22 trivial trivial rfl rfl rfl rfl rfl rfl rfl rfl (.inr ⟨rfl, rfl, ⟨plain_map (fun _ => rfl), trivial⟩⟩)) (by decide) ?_
    refine alP (some 5) rfl rfl (does_assign (v := .own 65 0) (by exact rfl)) (by decide) ?_
    refine al_nil ?_
    have h := leafL h hq14
    exact ⟨m0, Nat.lt_succ_self _, _, reb_lit [(0, .sl 10 (List.map enc27 a0)), (3, .own 16 0), (4, .own 4 0), (5, .own 19 0)] [(16, 0), (61, 0), (65, 0)] [((16, 0), .arr 3 1 false (List.map enc2 x8)), ((4, 0), .arr 3 1 false (List.map enc2 (v4_s_0 ++ [v6_1]))), ((19, 0), .arr 3 1 false (List.map enc2 x45))] [(4, 1), (16, 1), (19, 1)] (envOk_cons (by conv => lhs; whnf) (by exact rfl) (envOk_cons (by conv => lhs; whnf) (by exact rfl) (envOk_cons (by conv => lhs; whnf) (by exact rfl) (envOk_cons (by conv => lhs; whnf) (by exact rfl) envOk_nil)))) (objOk_cons (by conv => lhs; whnf) (by conv => lhs; whnf) (by exact rfl) (by simp) (objOk_cons (by conv => lhs; whnf) (by conv => lhs; whnf) (by exact rfl) (by simp) (objOk_cons (by conv => lhs; whnf) (by conv => lhs; whnf) (by exact rfl) (by simp) objOk_nil))) (nodup_b rfl) (nodup_b rfl) rfl rfl, (v4_s_0 ++ [v6_1]), x45, h, rfl⟩
  ·have h := ifF c17 h
   refine aw_cond_f (by decide) rfl ?_
   refine aw_exit ?_
   have h := leafR h hq14
   refine hK12 _ ?_
   refine aw_seq_k (fun K46 hK46 => ?_)
   refine aw_regL ?_
   refine alP (some 66) rfl rfl (does_move (v := .own 4 0) (by exact rfl)) (by decide) ?_
   refine alP (some 2) rfl rfl (does_assign (v := .own 4 0) (by exact rfl)) (by decide) ?_
   refine al_nil ?_
   refine hK46 _ ?_
   refine aw_ret ?_
   obtain rfl := Option.some.inj h
   exact ret_okR [(4, 0)] (by conv => lhs; whnf) (by conv => lhs; whnf) (by exact rfl) (rowsOk_cons (by conv => lhs; whnf) (by exact rfl) trivial) (nodup_b rfl) (.inr rfl) rfl
def gleaningref28_Self_k5 (v8_s_2 : List Arr2_Int) (v12_s_3 : List Arr2_Int) (v13_3 : Int) (v88_5 : Bool) : Option (Unit ⊕ ((List Arr2_Int × Int) ⊕ ((List Arr2_Int × Int) ⊕ (List Arr2_Int)))) :=
 if v88_5 = true then (gd (0 ≤ v13_3) (Option.bind (v8_s_2[(Int.toNat v13_3)]?) (fun (x60 : Arr2_Int) => gd ((List.length (v12_s_3 ++ [x60])) * 16 ≤ 140737488355328 ∧ (List.length (v12_s_3 ++ [x60])) ≤ 140737488355328) (some (Sum.inr (Sum.inl ((v12_s_3 ++ [x60]), (IntKind.i64.wrap (v13_3 + 1))))))))) else (some (Sum.inl ()))
def gleaningref28_Self_k6 (x36 : Int × Int) (v13_3 : Int) (x51 : Arr2_Int) (v12_s_6 : List Arr2_Int) : Option ((List Arr2_Int × Int) ⊕ ((List Arr2_Int × Int) ⊕ (List Arr2_Int))) :=
 if (decide (x36.2 < x51.c1)) = true then (gd ((List.length (v12_s_6 ++ [(Arr2_Int.mk x36.2 x51.c1)])) * 16 ≤ 140737488355328 ∧ (List.length (v12_s_6 ++ [(Arr2_Int.mk x36.2 x51.c1)])) ≤ 140737488355328) (some (Sum.inl ((v12_s_6 ++ [(Arr2_Int.mk x36.2 x51.c1)]), (IntKind.i64.wrap (v13_3 + 1)))))) else (some (Sum.inl (v12_s_6, (IntKind.i64.wrap (v13_3 + 1)))))
def gleaningref28_Self_k4 (x36 : Int × Int) (v12_s_3 : List Arr2_Int) (v13_3 : Int) (x48 : Arr2_Int) (x51 : Arr2_Int) : Option ((List Arr2_Int × Int) ⊕ ((List Arr2_Int × Int) ⊕ (List Arr2_Int))) :=
 Option.bind (if (decide (x48.c0 < x36.1)) = true then (gd ((List.length (v12_s_3 ++ [(Arr2_Int.mk x48.c0 x36.1)])) * 16 ≤ 140737488355328 ∧ (List.length (v12_s_3 ++ [(Arr2_Int.mk x48.c0 x36.1)])) ≤ 140737488355328) (some (v12_s_3 ++ [(Arr2_Int.mk x48.c0 x36.1)]))) else (some v12_s_3)) (fun (s : List Arr2_Int) => gleaningref28_Self_k6 x36 v13_3 x51 s)
def gleaningref28_Self_l3 (v8_s_2 : List Arr2_Int) (v9_2 : Int) (x36 : Int × Int) (v12_s_3 : List Arr2_Int) (v13_3 : Int) : Option ((List Arr2_Int × Int) ⊕ ((List Arr2_Int × Int) ⊕ (List Arr2_Int))) :=
 if (decide (v13_3 < (List.length v8_s_2 : Int))) = true then (gd (0 ≤ v13_3) (Option.bind (v8_s_2[(Int.toNat v13_3)]?) (fun (x48 : Arr2_Int) => gd (0 ≤ v13_3) (Option.bind (v8_s_2[(Int.toNat v13_3)]?) (fun (x51 : Arr2_Int) => Option.bind (Option.bind (if (decide (x36.2 ≤ x48.c0)) = true then (some true) else (some (decide (x51.c1 ≤ x36.1)))) (fun (s : Bool) => gleaningref28_Self_k5 v8_s_2 v12_s_3 v13_3 s)) (Sum.elim (fun (s : Unit) => gleaningref28_Self_k4 x36 v12_s_3 v13_3 x48 x51) some)))))) else (some (Sum.inr (Sum.inl (v12_s_3, (IntKind.i64.wrap (v9_2 + 1))))))
def gleaningref28_Self_l2 (a0 : List Span) (a1 : Int) (x13 : List Int) (v8_s_2 : List Arr2_Int) (v9_2 : Int) : Option ((List Arr2_Int × Int) ⊕ (List Arr2_Int)) :=
 if (decide (v9_2 < (List.length a0 : Int))) = true then (gd (0 ≤ v9_2) (Option.bind (x13[(Int.toNat v9_2)]?) (fun (x31 : Int) => if (x31 != a1) = true then (some (Sum.inl (v8_s_2, (IntKind.i64.wrap (v9_2 + 1))))) else (gd (0 ≤ v9_2) (Option.bind (a0[(Int.toNat v9_2)]?) (fun (x35 : Span) => Option.bind (gleaningref28_Ends x35) (fun (x36 : Int × Int) => loopN (fun (s : List Arr2_Int × Int) => gleaningref28_Self_l3 v8_s_2 v9_2 x36 s.1 s.2) Fu ([], 0)))))))) else (some (Sum.inr v8_s_2))
def gleaningref28_Self_l7 (v8_s_1 : List Arr2_Int) (v16_7 : Int) (v17_7 : Int) : Option ((Int × Int) ⊕ Int) :=
 if (decide (v17_7 < (List.length v8_s_1 : Int))) = true then (gd (0 ≤ v17_7) (Option.bind (v8_s_1[(Int.toNat v17_7)]?) (fun (x80 : Arr2_Int) => gd (0 ≤ v17_7) (Option.bind (v8_s_1[(Int.toNat v17_7)]?) (fun (x82 : Arr2_Int) => some (Sum.inl ((IntKind.i64.wrap ((IntKind.i64.wrap (v16_7 + x80.c1)) - x82.c0)), (IntKind.i64.wrap (v17_7 + 1))))))))) else (some (Sum.inr v16_7))
def gleaningref28_Self_k1 (v8_s_1 : List Arr2_Int) : Option Int :=
 loopN (fun (s : Int × Int) => gleaningref28_Self_l7 v8_s_1 s.1 s.2) Fu (0, 0)
def gleaningref28_Self_k0 (a0 : List Span) (a1 : Int) : Option Int :=
 Option.bind (gleaningref28_Parents a0) (fun (x13 : List Int) => gd (0 ≤ a1) (Option.bind (a0[(Int.toNat a1)]?) (fun (x16 : Span) => Option.bind (gleaningref28_Ends x16) (fun (x17 : Int × Int) => Option.bind (loopN (fun (s : List Arr2_Int × Int) => gleaningref28_Self_l2 a0 a1 x13 s.1 s.2) Fu ([(Arr2_Int.mk x17.1 x17.2)], 0)) (fun (s : List Arr2_Int) => gleaningref28_Self_k1 s)))))
def gleaningref28_Self (a0 : List Span) (a1 : Int) : Option Int :=
 Option.bind (if (decide (a1 < 0)) = true then (some (Sum.inr 0)) else (if (decide ((List.length a0 : Int) ≤ a1)) = true then (some (Sum.inr 0)) else (Option.bind (gleaningref1_RightSpans a0) (fun (x9 : Bool) => if (!x9) = true then (some (Sum.inr 0)) else (some (Sum.inl ())))))) (Sum.elim (fun (s : Unit) => gleaningref28_Self_k0 a0 a1) some)
set_option maxRecDepth 100000 in
set_option maxHeartbeats 8000000 in
theorem gleaningref28_Self_ok (a0 : List Span) (a1 : Int) {r : Int} (h : gleaningref28_Self a0 a1 = some r) : Ok Try.prog 14 [.sl 10 (List.map enc27 a0), .int .i64 a1] [] [] (.int .i64 r) [] [] := by
 unfold gleaningref28_Self at h
 refine ok_of_code Try.func14 rfl (by show (2 : Nat) ≤ _; decide) (Nat.le_refl _) fun X => ?_
 refine aw_seq_k (fun K1 hK1 => ?_)
 refine aw_regL ?_
 refine alP (some 4) rfl rfl (does_assign (v := .int .i64 0) (by exact rfl)) (by decide) ?_
 refine al_nil ?_
 refine hK1 _ ?_
 obtain ⟨q2, h, hk3⟩ := bnd_some h
 refine aw_cut (fun s => gleaningref28_Self_k0 a0 a1 = some r ∧ s = lit [(0, .sl 10 (List.map enc27 a0)), (1, .int .i64 a1)] [] [] X) ?_ ?_
 ·skip
  refine aw_seq_k (fun K4 hK4 => ?_)
  refine aw_regL ?_
  refine alP (some 18) rfl rfl (does_move (v := .int .i64 a1) (by exact rfl)) (by decide) ?_
  refine alP (some 19) rfl rfl (does_bin (v := .bool (decide (a1 < 0))) (by conv => lhs; whnf) (by conv => lhs; whnf) rfl) (by decide) ?_
  refine alP (some 20) rfl rfl (does_move (v := .bool (decide (a1 < 0))) (by exact rfl)) (by decide) ?_
  refine al_bool (c := (decide (a1 < 0))) 20 rfl (fun c5 => ?_) (fun c5 => ?_)
  ·have h := ifT c5 h
   refine alS (some 21) rfl rfl (by decide) ?_
   refine alS (some 22) rfl rfl (by decide) ?_
   refine alS (some 23) rfl rfl (by decide) ?_
   refine alS (some 24) rfl rfl (by decide) ?_
   refine alP (some 25) rfl rfl (does_pick (v := .bool true) (by conv => lhs; whnf) (by exact rfl)) (by decide) ?_
   refine alP (some 26) rfl rfl (does_move (v := .bool true) (by exact rfl)) (by decide) ?_
   refine alS (some 27) rfl rfl (by decide) ?_
   refine alS (some 28) rfl rfl (by decide) ?_
   refine alS (some 29) rfl rfl (by decide) ?_
   refine alP (some 30) rfl rfl (does_pick (v := .bool true) (by conv => lhs; whnf) (by exact rfl)) (by decide) ?_
   refine al_nil ?_
   refine hK4 _ ?_
   refine aw_cond_t (by decide) rfl ?_
   refine aw_seq_k (fun K6 hK6 => ?_)
   refine aw_regL ?_
   refine alP (some 4) rfl rfl (does_assign (v := .int .i64 0) (by exact rfl)) (by decide) ?_
   refine al_nil ?_
   refine hK6 _ ?_
   refine aw_ret ?_
   have h := leafR h hk3
   obtain rfl := Option.some.inj h
   exact ret_ok1 (by conv => lhs; whnf) (by conv => lhs; whnf) (by exact rfl) (.inr rfl) rfl
  ·have h := ifF c5 h
   refine alP (some 21) rfl rfl (does_move (v := .int .i64 a1) (by exact rfl)) (by decide) ?_
   refine alP (some 22) rfl rfl (does_move (v := .sl 10 (List.map enc27 a0)) (by exact rfl)) (by decide) ?_
   refine alP (some 23) rfl rfl ((does_len_sl (by conv => lhs; whnf) ty22).castp (v' := .int .i64 (List.length a0 : Int)) (by exact len_map _)) (by decide) ?_
   refine alP (some 24) rfl rfl (does_bin (v := .bool (decide ((List.length a0 : Int) ≤ a1))) (by conv => lhs; whnf) (by conv => lhs; whnf) rfl) (by decide) ?_
   refine alP (some 25) rfl rfl (does_pick (v := .bool (decide ((List.length a0 : Int) ≤ a1))) (by conv => lhs; whnf) (by exact rfl)) (by decide) ?_
   refine alP (some 26) rfl rfl (does_move (v := .bool (decide ((List.length a0 : Int) ≤ a1))) (by exact rfl)) (by decide) ?_
   refine al_bool (c := (decide ((List.length a0 : Int) ≤ a1))) 26 rfl (fun c7 => ?_) (fun c7 => ?_)
   ·have h := ifT c7 h
    refine alS (some 27) rfl rfl (by decide) ?_
    refine alS (some 28) rfl rfl (by decide) ?_
    refine alS (some 29) rfl rfl (by decide) ?_
    refine alP (some 30) rfl rfl (does_pick (v := .bool true) (by conv => lhs; whnf) (by exact rfl)) (by decide) ?_
    refine al_nil ?_
    refine hK4 _ ?_
    refine aw_cond_t (by decide) rfl ?_
    refine aw_seq_k (fun K8 hK8 => ?_)
    refine aw_regL ?_
    refine alP (some 4) rfl rfl (does_assign (v := .int .i64 0) (by exact rfl)) (by decide) ?_
    refine al_nil ?_
    refine hK8 _ ?_
    refine aw_ret ?_
    have h := leafR h hk3
    obtain rfl := Option.some.inj h
    exact ret_ok1 (by conv => lhs; whnf) (by conv => lhs; whnf) (by exact rfl) (.inr rfl) rfl
   ·have h := ifF c7 h
    refine alP (some 27) rfl rfl (does_move (v := .sl 10 (List.map enc27 a0)) (by exact rfl)) (by decide) ?_
    obtain ⟨x9, hx9, h⟩ := bnd_some h
    refine alD (some 28) rfl rfl (do_call0 28 false (gleaningref1_RightSpans_ok a0 hx9) rfl ent15 rfl rfl) (by decide) ?_
    refine alP (some 29) rfl rfl (does_un (v := .bool (!x9)) (by conv => lhs; whnf) rfl) (by decide) ?_
    refine alP (some 30) rfl rfl (does_pick (v := .bool (!x9)) (by conv => lhs; whnf) (by exact rfl)) (by decide) ?_
    refine al_nil ?_
    refine hK4 _ ?_
    refine aw_bool (b := (!x9)) 30 rfl (fun c10 => ?_) (fun c10 => ?_)
    ·have h := ifT c10 h
     refine aw_cond_t (by decide) rfl ?_
     refine aw_seq_k (fun K11 hK11 => ?_)
     refine aw_regL ?_
     refine alP (some 4) rfl rfl (does_assign (v := .int .i64 0) (by exact rfl)) (by decide) ?_
     refine al_nil ?_
     refine hK11 _ ?_
     refine aw_ret ?_
     have h := leafR h hk3
     obtain rfl := Option.some.inj h
     exact ret_ok1 (by conv => lhs; whnf) (by conv => lhs; whnf) (by exact rfl) (.inr rfl) rfl
    ·have h := ifF c10 h
     refine aw_cond_f (by decide) rfl ?_
     refine aw_skip ?_
     have h := leafL h hk3
     exact ⟨_, reb_lit [(0, .sl 10 (List.map enc27 a0)), (1, .int .i64 a1)] [] [] [] (envOk_cons (by conv => lhs; whnf) (by exact rfl) (envOk_cons (by conv => lhs; whnf) (by exact rfl) envOk_nil)) objOk_nil (nodup_b rfl) (nodup_b rfl) rfl rfl, h, rfl⟩
 ·rintro s ⟨h, rfl⟩
  unfold gleaningref28_Self_k0 at h
  refine aw_seq_k (fun K12 hK12 => ?_)
  refine aw_regL ?_
  refine alP (some 31) rfl rfl (does_move (v := .sl 10 (List.map enc27 a0)) (by exact rfl)) (by decide) ?_
  obtain ⟨x13, hx13, h⟩ := bnd_some h
  refine alD (some 32) rfl rfl (do_call0 32 false (gleaningref28_Parents_ok a0 hx13) rfl ent16 rfl rfl) (by decide) ?_
  refine alP (some 5) rfl rfl (does_assign (v := .own 32 0) (by exact rfl)) (by decide) ?_
  refine al_nil ?_
  refine hK12 _ ?_
  refine aw_seq_k (fun K14 hK14 => ?_)
  refine aw_regL ?_
  refine alP (some 34) rfl rfl (does_move (v := .sl 10 (List.map enc27 a0)) (by exact rfl)) (by decide) ?_
  refine alP (some 35) rfl rfl (does_move (v := .int .i64 a1) (by exact rfl)) (by decide) ?_
  obtain ⟨g15, h⟩ := gd_some h
  obtain ⟨x16, hx16, h⟩ := bnd_some h
  refine alP (some 36) rfl rfl (does_indexAddr_sl (el := .agg [.int .u64 x16.Trace.Hi, .int .u64 x16.Trace.Lo, .int .u64 x16.Id, .int .u64 x16.Parent, .str x16.Service, .str x16.Op, .int .i64 x16.Start, .int .i64 x16.Dur, .bool x16.Err, .sl 2 (List.map enc39 x16.Attrs)]) (by conv => lhs; whnf) (by conv => lhs; whnf) ty22 ty28 g15 (by exact map_get hx16)) (by decide) ?_
  refine alR (some 37) rfl rfl (does_load (v := .agg [.int .u64 x16.Trace.Hi, .int .u64 x16.Trace.Lo, .int .u64 x16.Id, .int .u64 x16.Parent, .str x16.Service, .str x16.Op, .int .i64 x16.Start, .int .i64 x16.Dur, .bool x16.Err, .sl 2 (List.map enc39 x16.Attrs)]) (by conv => lhs; whnf) (by conv => lhs; whnf) ty28 (by exact rfl)) (by decide) ?_
  obtain ⟨x17, hx17, h⟩ := bnd_some h
  refine alD (some 38) rfl rfl (do_call0 38 false (gleaningref28_Ends_ok x16 hx17) rfl ent10 rfl rfl) (by decide) ?_
  refine alP (some 33) rfl rfl (does_move (v := .tup [.int .i64 x17.1, .int .i64 x17.2]) (by exact rfl)) (by decide) ?_
  refine alP (some 39) rfl rfl (does_extract (v := .int .i64 x17.1) (by conv => lhs; whnf) (by exact rfl)) (by decide) ?_
  refine alP (some 40) rfl rfl (does_extract (v := .int .i64 x17.2) (by conv => lhs; whnf) (by exact rfl)) (by decide) ?_
  refine alP (some 6) rfl rfl (does_assign (v := .int .i64 x17.1) (by exact rfl)) (by decide) ?_
  refine alP (some 7) rfl rfl (does_assign (v := .int .i64 x17.2) (by exact rfl)) (by decide) ?_
  refine al_nil ?_
  refine hK14 _ ?_
  refine aw_seq_k (fun K18 hK18 => ?_)
  refine aw_regL ?_
  refine alP (some 41) rfl rfl (does_move (v := .int .i64 x17.1) (by exact rfl)) (by decide) ?_
  refine alP (some 42) rfl rfl (does_move (v := .int .i64 x17.2) (by exact rfl)) (by decide) ?_
  refine alD (some 43) rfl rfl (do_build_arr (cs := [.int .i64 x17.1, .int .i64 x17.2]) ty49 rfl ty3 (by rfl) (by exact rfl)) (by decide) ?_
  refine alD (some 44) rfl rfl (do_buildSlice (xs := List.map enc49 [(Arr2_Int.mk x17.1 x17.2)]) ty50 ty49 rfl rfl rfl rfl rfl rfl rfl rfl) (by decide) ?_
  refine alP (some 8) rfl rfl (does_assign (v := .own 44 0) (by exact rfl)) (by decide) ?_
  refine al_nil ?_
  refine hK18 _ ?_
  obtain ⟨q19, h, hk20⟩ := bnd_some h
  refine aw_cut (fun s => ∃ (v8_s_1 : List Arr2_Int), gleaningref28_Self_k1 v8_s_1 = some r ∧ s = lit [(8, .own 44 0)] [((44, 0), .arr 49 2 false (List.map enc49 v8_s_1))] [(44, 1)] X) ?_ ?_
  ·skip
   refine aw_seq_k (fun K21 hK21 => ?_)
   refine aw_regL ?_
   refine alP (some 9) rfl rfl (does_assign (v := .int .i64 0) (by exact rfl)) (by decide) ?_
   refine al_nil ?_
   refine hK21 _ ?_
   refine aw_block ?_
   refine aw_loop' (fun m s => ∃ (v8_s_2 : List Arr2_Int), ∃ (v9_2 : Int), loopN (fun (s : List Arr2_Int × Int) => gleaningref28_Self_l2 a0 a1 x13 s.1 s.2) m (v8_s_2, v9_2) = some q19 ∧ s = lit [(0, .sl 10 (List.map enc27 a0)), (1, .int .i64 a1), (5, .own 32 0), (8, .own 44 0), (9, .int .i64 v9_2)] [((32, 0), .arr 3 1 false (List.map enc2 x13)), ((44, 0), .arr 49 2 false (List.map enc49 v8_s_2))] [(32, 1), (44, 1)] X) Fu
    ⟨_, reb_lit [(0, .sl 10 (List.map enc27 a0)), (1, .int .i64 a1), (5, .own 32 0), (8, .own 44 0), (9, .int .i64 (0))] [(32, 0), (44, 0)] [((32, 0), .arr 3 1 false (List.map enc2 x13)), ((44, 0), .arr 49 2 false (List.map enc49 [(Arr2_Int.mk x17.1 x17.2)]))] [(32, 1), (44, 1)] (envOk_cons (by conv => lhs; whnf) (by exact rfl) (envOk_cons (by conv => lhs; whnf) (by exact rfl) (envOk_cons (by conv => lhs; whnf) (by exact rfl) (envOk_cons (by conv => lhs; whnf) (by exact rfl) (envOk_cons (by conv => lhs; whnf) (by exact rfl) envOk_nil))))) (objOk_cons (by conv => lhs; whnf) (by conv => lhs; whnf) (by exact rfl) (by simp) (objOk_cons (by conv => lhs; whnf) (by conv => lhs; whnf) (by exact rfl) (by simp) objOk_nil)) (nodup_b rfl) (nodup_b rfl) rfl rfl, [(Arr2_Int.mk x17.1 x17.2)], 0, h, rfl⟩ ?_
   rintro m s ⟨v8_s_2, v9_2, h, rfl⟩
   obtain ⟨m2, q22, rfl, h, hq23⟩ := loop_some h
   replace h : gleaningref28_Self_l2 a0 a1 x13 v8_s_2 v9_2 = some q22 := h
   unfold gleaningref28_Self_l2 at h
   refine aw_seq_k (fun K24 hK24 => ?_)
   refine aw_seq_k (fun K25 hK25 => ?_)
   refine aw_regL ?_
   refine alP (some 45) rfl rfl (does_move (v := .int .i64 v9_2) (by exact rfl)) (by decide) ?_
   refine alP (some 46) rfl rfl (does_move (v := .sl 10 (List.map enc27 a0)) (by exact rfl)) (by decide) ?_
   refine alP (some 47) rfl rfl ((does_len_sl (by conv => lhs; whnf) ty22).castp (v' := .int .i64 (List.length a0 : Int)) (by exact len_map _)) (by decide) ?_
   refine alP (some 48) rfl rfl (does_bin (v := .bool (decide (v9_2 < (List.length a0 : Int)))) (by conv => lhs; whnf) (by conv => lhs; whnf) rfl) (by decide) ?_
   refine al_nil ?_
   refine hK25 _ ?_
   refine aw_bool (b := (decide (v9_2 < (List.length a0 : Int)))) 48 rfl (fun c26 => ?_) (fun c26 => ?_)
   ·have h := ifT c26 h
    refine aw_cond_t (by decide) rfl ?_
    refine aw_skip ?_
    refine hK24 _ ?_
    refine aw_seq_k (fun K27 hK27 => ?_)
    refine aw_block ?_
    refine aw_seq_k (fun K28 hK28 => ?_)
    refine aw_seq_k (fun K29 hK29 => ?_)
    refine aw_regL ?_
    refine alP (some 51) rfl rfl (does_move (v := .own 32 0) (by exact rfl)) (by decide) ?_
    refine alP (some 52) rfl rfl (does_move (v := .int .i64 v9_2) (by exact rfl)) (by decide) ?_
    obtain ⟨g30, h⟩ := gd_some h
    obtain ⟨x31, hx31, h⟩ := bnd_some h
    refine alR (some 53) rfl rfl (does_indexAddr_own (by conv => lhs; whnf) (by conv => lhs; whnf) (by conv => lhs; whnf) ty34 ty3 g30 (by exact own_lt hx31)) (by decide) ?_
    refine alR (some 54) rfl rfl (does_load (v := .int .i64 x31) (by conv => lhs; whnf) (cellsAt_eptr (by conv => lhs; whnf) (by exact map_get hx31)) ty3 (by exact rfl)) (by decide) ?_
    refine alP (some 55) rfl rfl (does_move (v := .int .i64 a1) (by exact rfl)) (by decide) ?_
    refine alP (some 56) rfl rfl (does_bin (v := .bool (x31 != a1)) (by conv => lhs; whnf) (by conv => lhs; whnf) rfl) (by decide) ?_
    refine al_nil ?_
    refine hK29 _ ?_
    refine aw_bool (b := (x31 != a1)) 56 rfl (fun c32 => ?_) (fun c32 => ?_)
    ·have h := ifT c32 h
     refine aw_cond_t (by decide) rfl ?_
     refine aw_exit ?_
     refine hK27 _ ?_
     refine aw_regL ?_
     refine alP (some 49) rfl rfl (does_move (v := .int .i64 v9_2) (by exact rfl)) (by decide) ?_
     refine alP (some 50) rfl rfl (does_bin (v := .int .i64 (IntKind.i64.wrap (v9_2 + 1))) (by conv => lhs; whnf) (by conv => lhs; whnf) rfl) (by decide) ?_
     refine alP (some 9) rfl rfl (does_assign (v := .int .i64 (IntKind.i64.wrap (v9_2 + 1))) (by exact rfl)) (by decide) ?_
     refine al_nil ?_
     have h := leafL h hq23
     exact ⟨m2, Nat.lt_succ_self _, _, reb_lit [(0, .sl 10 (List.map enc27 a0)), (1, .int .i64 a1), (5, .own 32 0), (8, .own 44 0), (9, .int .i64 (IntKind.i64.wrap (v9_2 + 1)))] [(32, 0), (44, 0)] [((32, 0), .arr 3 1 false (List.map enc2 x13)), ((44, 0), .arr 49 2 false (List.map enc49 v8_s_2))] [(32, 1), (44, 1)] (envOk_cons (by conv => lhs; whnf) (by exact rfl) (envOk_cons (by conv => lhs; whnf) (by exact rfl) (envOk_cons (by conv => lhs; whnf) (by exact rfl) (envOk_cons (by conv => lhs; whnf) (by exact rfl) (envOk_cons (by conv => lhs; whnf) (by exact rfl) envOk_nil))))) (objOk_cons (by conv => lhs; whnf) (by conv => lhs; whnf) (by exact rfl) (by simp) (objOk_cons (by conv => lhs; whnf) (by conv => lhs; whnf) (by exact rfl) (by simp) objOk_nil)) (nodup_b rfl) (nodup_b rfl) rfl rfl, v8_s_2, (IntKind.i64.wrap (v9_2 + 1)), h, rfl⟩
    ·have h := ifF c32 h
     refine aw_cond_f (by decide) rfl ?_
     refine aw_skip ?_
     refine hK28 _ ?_
     refine aw_seq_k (fun K33 hK33 => ?_)
     refine aw_regL ?_
     refine alP (some 58) rfl rfl (does_move (v := .sl 10 (List.map enc27 a0)) (by exact rfl)) (by decide) ?_
     refine alP (some 59) rfl rfl (does_move (v := .int .i64 v9_2) (by exact rfl)) (by decide) ?_
     obtain ⟨g34, h⟩ := gd_some h
     obtain ⟨x35, hx35, h⟩ := bnd_some h
     refine alP (some 60) rfl rfl (does_indexAddr_sl (el := .agg [.int .u64 x35.Trace.Hi, .int .u64 x35.Trace.Lo, .int .u64 x35.Id, .int .u64 x35.Parent, .str x35.Service, .str x35.Op, .int .i64 x35.Start, .int .i64 x35.Dur, .bool x35.Err, .sl 2 (List.map enc39 x35.Attrs)]) (by conv => lhs; whnf) (by conv => lhs; whnf) ty22 ty28 g34 (by exact map_get hx35)) (by decide) ?_
     refine alR (some 61) rfl rfl (does_load (v := .agg [.int .u64 x35.Trace.Hi, .int .u64 x35.Trace.Lo, .int .u64 x35.Id, .int .u64 x35.Parent, .str x35.Service, .str x35.Op, .int .i64 x35.Start, .int .i64 x35.Dur, .bool x35.Err, .sl 2 (List.map enc39 x35.Attrs)]) (by conv => lhs; whnf) (by conv => lhs; whnf) ty28 (by exact rfl)) (by decide) ?_
     obtain ⟨x36, hx36, h⟩ := bnd_some h
     refine alD (some 62) rfl rfl (do_call0 62 false (gleaningref28_Ends_ok x35 hx36) rfl ent10 rfl rfl) (by decide) ?_
     refine alP (some 57) rfl rfl (does_move (v := .tup [.int .i64 x36.1, .int .i64 x36.2]) (by exact rfl)) (by decide) ?_
     refine alP (some 63) rfl rfl (does_extract (v := .int .i64 x36.1) (by conv => lhs; whnf) (by exact rfl)) (by decide) ?_
     refine alP (some 64) rfl rfl (does_extract (v := .int .i64 x36.2) (by conv => lhs; whnf) (by exact rfl)) (by decide) ?_
     refine alP (some 10) rfl rfl (does_assign (v := .int .i64 x36.1) (by exact rfl)) (by decide) ?_
     refine alP (some 11) rfl rfl (does_assign (v := .int .i64 x36.2) (by exact rfl)) (by decide) ?_
     refine al_nil ?_
     refine hK33 _ ?_
     refine aw_seq_k (fun K37 hK37 => ?_)
     refine aw_regL ?_
     refine alP (some 12) rfl rfl (does_assign (v := .nil) (by exact rfl)) (by decide) ?_
     refine al_nil ?_
     refine hK37 _ ?_
     refine aw_seq_k (fun K38 hK38 => ?_)
     refine aw_seq_k (fun K39 hK39 => ?_)
     refine aw_regL ?_
     refine alP (some 13) rfl rfl (does_assign (v := .int .i64 0) (by exact rfl)) (by decide) ?_
     refine al_nil ?_
     refine hK39 _ ?_
     refine aw_block ?_
     refine aw_nilOwn 12 49 2 (by conv => lhs; whnf) (by decide) (by decide) ?_
     refine aw_loop' (fun m s => ∃ (v12_s_3 : List Arr2_Int), ∃ (v13_3 : Int), loopN (fun (s : List Arr2_Int × Int) => gleaningref28_Self_l3 v8_s_2 v9_2 x36 s.1 s.2) m (v12_s_3, v13_3) = some q22 ∧ s = lit [(0, .sl 10 (List.map enc27 a0)), (1, .int .i64 a1), (5, .own 32 0), (8, .own 44 0), (9, .int .i64 v9_2), (10, .int .i64 x36.1), (11, .int .i64 x36.2), (12, .own 12 0), (13, .int .i64 v13_3)] [((32, 0), .arr 3 1 false (List.map enc2 x13)), ((44, 0), .arr 49 2 false (List.map enc49 v8_s_2)), ((12, 0), .arr 49 2 false (List.map enc49 v12_s_3))] [(12, 1), (32, 1), (44, 1)] X) Fu
      ⟨_, reb_lit [(0, .sl 10 (List.map enc27 a0)), (1, .int .i64 a1), (5, .own 32 0), (8, .own 44 0), (9, .int .i64 v9_2), (10, .int .i64 x36.1), (11, .int .i64 x36.2), (12, .own 12 0), (13, .int .i64 (0))] [(32, 0), (44, 0), (12, 0)] [((32, 0), .arr 3 1 false (List.map enc2 x13)), ((44, 0), .arr 49 2 false (List.map enc49 v8_s_2)), ((12, 0), .arr 49 2 false (List.map enc49 []))] [(12, 1), (32, 1), (44, 1)] (envOk_cons (by conv => lhs; whnf) (by exact rfl) (envOk_cons (by conv => lhs; whnf) (by exact rfl) (envOk_cons (by conv => lhs; whnf) (by exact rfl) (envOk_cons (by conv => lhs; whnf) (by exact rfl) (envOk_cons (by conv => lhs; whnf) (by exact rfl) (envOk_cons (by conv => lhs; whnf) (by exact rfl) (envOk_cons (by conv => lhs; whnf) (by exact rfl) (envOk_cons (by conv => lhs; whnf) (by exact rfl) (envOk_cons (by conv => lhs; whnf) (by exact rfl) envOk_nil))))))))) (objOk_cons (by conv => lhs; whnf) (by conv => lhs; whnf) (by exact rfl) (by simp) (objOk_cons (by conv => lhs; whnf) (by conv => lhs; whnf) (by exact rfl) (by simp) (objOk_cons (by conv => lhs; whnf) (by conv => lhs; whnf) (by exact rfl) (by simp) objOk_nil))) (nodup_b rfl) (nodup_b rfl) rfl rfl, [], 0, h, rfl⟩ ?_
     rintro m s ⟨v12_s_3, v13_3, h, rfl⟩
     obtain ⟨m3, q40, rfl, h, hq41⟩ := loop_some h
     replace h : gleaningref28_Self_l3 v8_s_2 v9_2 x36 v12_s_3 v13_3 = some q40 := h
     unfold gleaningref28_Self_l3 at h
     refine aw_seq_k (fun K42 hK42 => ?_)
     refine aw_seq_k (fun K43 hK43 => ?_)
     refine aw_regL ?_
     refine alP (some 65) rfl rfl (does_move (v := .int .i64 v13_3) (by exact rfl)) (by decide) ?_
     refine alP (some 66) rfl rfl (does_move (v := .own 44 0) (by exact rfl)) (by decide) ?_
     refine alR (some 67) rfl rfl ((does_len_own (by conv => lhs; whnf) (by conv => lhs; whnf) ty50).cast (v' := .int .i64 (List.length v8_s_2 : Int)) (by exact len_map _)) (by decide) ?_
     refine alP (some 68) rfl rfl (does_bin (v := .bool (decide (v13_3 < (List.length v8_s_2 : Int)))) (by conv => lhs; whnf) (by conv => lhs; whnf) rfl) (by decide) ?_
     refine al_nil ?_
     refine hK43 _ ?_
     refine aw_bool (b := (decide (v13_3 < (List.length v8_s_2 : Int)))) 68 rfl (fun c44 => ?_) (fun c44 => ?_)
     ·have h := ifT c44 h
      refine aw_cond_t (by decide) rfl ?_
      refine aw_skip ?_
      refine hK42 _ ?_
      refine aw_seq_k (fun K45 hK45 => ?_)
      refine aw_block ?_
      refine aw_seq_k (fun K46 hK46 => ?_)
      refine aw_regL ?_
      refine alP (some 71) rfl rfl (does_move (v := .own 44 0) (by exact rfl)) (by decide) ?_
      refine alP (some 72) rfl rfl (does_move (v := .int .i64 v13_3) (by exact rfl)) (by decide) ?_
      obtain ⟨g47, h⟩ := gd_some h
      obtain ⟨x48, hx48, h⟩ := bnd_some h
      refine alR (some 73) rfl rfl (does_indexAddr_own (by conv => lhs; whnf) (by conv => lhs; whnf) (by conv => lhs; whnf) ty50 ty49 g47 (by exact own_lt hx48)) (by decide) ?_
      refine alP (some 74) rfl rfl (does_indexAddr_arr (q := .eptr 44 0 2 (Int.toNat v13_3) 0) (by conv => lhs; whnf) (by conv => lhs; whnf) ty49 ty3 (by decide) (by decide) rfl) (by decide) ?_
      refine alR (some 75) rfl rfl (does_load (v := .int .i64 x48.c0) (by conv => lhs; whnf) (cellsAt_eptr (by conv => lhs; whnf) (by exact map_get hx48)) ty3 (by exact rfl)) (by decide) ?_
      refine alP (some 14) rfl rfl (does_assign (v := .int .i64 x48.c0) (by exact rfl)) (by decide) ?_
      refine al_nil ?_
      refine hK46 _ ?_
      refine aw_seq_k (fun K49 hK49 => ?_)
      refine aw_regL ?_
      refine alP (some 76) rfl rfl (does_move (v := .own 44 0) (by exact rfl)) (by decide) ?_
      refine alP (some 77) rfl rfl (does_move (v := .int .i64 v13_3) (by exact rfl)) (by decide) ?_
      obtain ⟨g50, h⟩ := gd_some h
      obtain ⟨x51, hx51, h⟩ := bnd_some h
      refine alR (some 78) rfl rfl (does_indexAddr_own (by conv => lhs; whnf) (by conv => lhs; whnf) (by conv => lhs; whnf) ty50 ty49 g50 (by exact own_lt hx51)) (by decide) ?_
      refine alP (some 79) rfl rfl (does_indexAddr_arr (q := .eptr 44 0 2 (Int.toNat v13_3) 1) (by conv => lhs; whnf) (by conv => lhs; whnf) ty49 ty3 (by decide) (by decide) rfl) (by decide) ?_
      refine alR (some 80) rfl rfl (does_load (v := .int .i64 x51.c1) (by conv => lhs; whnf) (cellsAt_eptr (by conv => lhs; whnf) (by exact map_get hx51)) ty3 (by exact rfl)) (by decide) ?_
      refine alP (some 15) rfl rfl (does_assign (v := .int .i64 x51.c1) (by exact rfl)) (by decide) ?_
      refine al_nil ?_
      refine hK49 _ ?_
      obtain ⟨q52, h, hk53⟩ := bnd_some h
      refine aw_cut (fun s => gleaningref28_Self_k4 x36 v12_s_3 v13_3 x48 x51 = some q40 ∧ s = lit [(0, .sl 10 (List.map enc27 a0)), (1, .int .i64 a1), (5, .own 32 0), (8, .own 44 0), (9, .int .i64 v9_2), (10, .int .i64 x36.1), (11, .int .i64 x36.2), (12, .own 12 0), (13, .int .i64 v13_3), (14, .int .i64 x48.c0), (15, .int .i64 x51.c1)] [((32, 0), .arr 3 1 false (List.map enc2 x13)), ((44, 0), .arr 49 2 false (List.map enc49 v8_s_2)), ((12, 0), .arr 49 2 false (List.map enc49 v12_s_3))] [(12, 1), (32, 1), (44, 1)] X) ?_ ?_
      ·skip
       obtain ⟨q54, h, hk55⟩ := bnd_some h
       refine aw_cut (fun s => ∃ (v88_5 : Bool), gleaningref28_Self_k5 v8_s_2 v12_s_3 v13_3 v88_5 = some q52 ∧ s = lit [(0, .sl 10 (List.map enc27 a0)), (1, .int .i64 a1), (5, .own 32 0), (8, .own 44 0), (9, .int .i64 v9_2), (10, .int .i64 x36.1), (11, .int .i64 x36.2), (12, .own 12 0), (13, .int .i64 v13_3), (14, .int .i64 x48.c0), (15, .int .i64 x51.c1), (88, .bool v88_5)] [((32, 0), .arr 3 1 false (List.map enc2 x13)), ((44, 0), .arr 49 2 false (List.map enc49 v8_s_2)), ((12, 0), .arr 49 2 false (List.map enc49 v12_s_3))] [(12, 1), (32, 1), (44, 1)] X) ?_ ?_
       ·skip
        refine aw_regL ?_
        refine alP (some 81) rfl rfl (does_move (v := .int .i64 x36.2) (by exact rfl)) (by decide) ?_
        refine alP (some 82) rfl rfl (does_move (v := .int .i64 x48.c0) (by exact rfl)) (by decide) ?_
        refine alP (some 83) rfl rfl (does_bin (v := .bool (decide (x36.2 ≤ x48.c0))) (by conv => lhs; whnf) (by conv => lhs; whnf) rfl) (by decide) ?_
        refine alP (some 84) rfl rfl (does_move (v := .bool (decide (x36.2 ≤ x48.c0))) (by exact rfl)) (by decide) ?_
        refine al_bool (c := (decide (x36.2 ≤ x48.c0))) 84 rfl (fun c56 => ?_) (fun c56 => ?_)
        ·have h := ifT c56 h
         refine alS (some 85) rfl rfl (by decide) ?_
         refine alS (some 86) rfl rfl (by decide) ?_
         refine alS (some 87) rfl rfl (by decide) ?_
         refine alP (some 88) rfl rfl (does_pick (v := .bool true) (by conv => lhs; whnf) (by exact rfl)) (by decide) ?_
         refine al_nil ?_
         obtain rfl := Option.some.inj h
         have h := hk55
         exact ⟨_, reb_lit [(0, .sl 10 (List.map enc27 a0)), (1, .int .i64 a1), (5, .own 32 0), (8, .own 44 0), (9, .int .i64 v9_2), (10, .int .i64 x36.1), (11, .int .i64 x36.2), (12, .own 12 0), (13, .int .i64 v13_3), (14, .int .i64 x48.c0), (15, .int .i64 x51.c1), (88, .bool true)] [(32, 0), (44, 0), (12, 0)] [((32, 0), .arr 3 1 false (List.map enc2 x13)), ((44, 0), .arr 49 2 false (List.map enc49 v8_s_2)), ((12, 0), .arr 49 2 false (List.map enc49 v12_s_3))] [(12, 1), (32, 1), (44, 1)] (envOk_cons (by conv => lhs; whnf) (by exact rfl) (envOk_cons (by conv => lhs; whnf) (by exact rfl) (envOk_cons (by conv => lhs; whnf) (by exact rfl) (envOk_cons (by conv => lhs; whnf) (by exact rfl) (envOk_cons (by conv => lhs; whnf) (by exact rfl) (envOk_cons (by conv => lhs; whnf) (by exact rfl) (envOk_cons (by conv => lhs; whnf) (by exact rfl) (envOk_cons (by conv => lhs; whnf) (by exact rfl) (envOk_cons (by conv => lhs; whnf) (by exact rfl) (envOk_cons (by conv => lhs; whnf) (by exact rfl) (envOk_cons (by conv => lhs; whnf) (by exact rfl) (envOk_cons (by conv => lhs; whnf) (by exact rfl) envOk_nil)))))))))))) (objOk_cons (by conv => lhs; whnf) (by conv => lhs; whnf) (by exact rfl) (by simp) (objOk_cons (by conv => lhs; whnf) (by conv => lhs; whnf) (by exact rfl) (by simp) (objOk_cons (by conv => lhs; whnf) (by conv => lhs; whnf) (by exact rfl) (by simp) objOk_nil))) (nodup_b rfl) (nodup_b rfl) rfl rfl, true, h, rfl⟩
        ·have h := ifF c56 h
         refine alP (some 85) rfl rfl (does_move (v := .int .i64 x36.1) (by exact rfl)) (by decide) ?_
         refine alP (some 86) rfl rfl (does_move (v := .int .i64 x51.c1) (by exact rfl)) (by decide) ?_
         refine alP (some 87) rfl rfl (does_bin (v := .bool (decide (x51.c1 ≤ x36.1))) (by conv => lhs; whnf) (by conv => lhs; whnf) rfl) (by decide) ?_
         refine alP (some 88) rfl rfl (does_pick (v := .bool (decide (x51.c1 ≤ x36.1))) (by conv => lhs; whnf) (by exact rfl)) (by decide) ?_
         refine al_nil ?_
         obtain rfl := Option.some.inj h
         have h := hk55
         exact ⟨_, reb_lit [(0, .sl 10 (List.map enc27 a0)), (1, .int .i64 a1), (5, .own 32 0), (8, .own 44 0), (9, .int .i64 v9_2), (10, .int .i64 x36.1), (11, .int .i64 x36.2), (12, .own 12 0), (13, .int .i64 v13_3), (14, .int .i64 x48.c0), (15, .int .i64 x51.c1), (88, .bool (decide (x51.c1 ≤ x36.1)))] [(32, 0), (44, 0), (12, 0)] [((32, 0), .arr 3 1 false (List.map enc2 x13)), ((44, 0), .arr 49 2 false (List.map enc49 v8_s_2)), ((12, 0), .arr 49 2 false (List.map enc49 v12_s_3))] [(12, 1), (32, 1), (44, 1)] (envOk_cons (by conv => lhs; whnf) (by exact rfl) (envOk_cons (by conv => lhs; whnf) (by exact rfl) (envOk_cons (by conv => lhs; whnf) (by exact rfl) (envOk_cons (by conv => lhs; whnf) (by exact rfl) (envOk_cons (by conv => lhs; whnf) (by exact rfl) (envOk_cons (by conv => lhs; whnf) (by exact rfl) (envOk_cons (by conv => lhs; whnf) (by exact rfl) (envOk_cons (by conv => lhs; whnf) (by exact rfl) (envOk_cons (by conv => lhs; whnf) (by exact rfl) (envOk_cons (by conv => lhs; whnf) (by exact rfl) (envOk_cons (by conv => lhs; whnf) (by exact rfl) (envOk_cons (by conv => lhs; whnf) (by exact rfl) envOk_nil)))))))))))) (objOk_cons (by conv => lhs; whnf) (by conv => lhs; whnf) (by exact rfl) (by simp) (objOk_cons (by conv => lhs; whnf) (by conv => lhs; whnf) (by exact rfl) (by simp) (objOk_cons (by conv => lhs; whnf) (by conv => lhs; whnf) (by exact rfl) (by simp) objOk_nil))) (nodup_b rfl) (nodup_b rfl) rfl rfl, (decide (x51.c1 ≤ x36.1)), h, rfl⟩
       ·rintro s ⟨v88_5, h, rfl⟩
        unfold gleaningref28_Self_k5 at h
        refine aw_bool (b := v88_5) 88 rfl (fun c57 => ?_) (fun c57 => ?_)
        ·have h := ifT c57 h
         refine aw_cond_t (by decide) rfl ?_
         refine aw_seq_k (fun K58 hK58 => ?_)
         refine aw_regL ?_
         refine alP (some 89) rfl rfl (does_move (v := .own 12 0) (by exact rfl)) (by decide) ?_
         refine alP (some 90) rfl rfl (does_move (v := .own 44 0) (by exact rfl)) (by decide) ?_
         refine alP (some 91) rfl rfl (does_move (v := .int .i64 v13_3) (by exact rfl)) (by decide) ?_
         obtain ⟨g59, h⟩ := gd_some h
         obtain ⟨x60, hx60, h⟩ := bnd_some h
         refine alR (some 92) rfl rfl (does_indexAddr_own (by conv => lhs; whnf) (by conv => lhs; whnf) (by conv => lhs; whnf) ty50 ty49 g59 (by exact own_lt hx60)) (by decide) ?_
         refine alR (some 93) rfl rfl (does_load (v := .agg [.int .i64 x60.c0, .int .i64 x60.c1]) (by conv => lhs; whnf) (cellsAt_eptr (by conv => lhs; whnf) (by exact map_get hx60)) ty49 (by exact rfl)) (by decide) ?_
         refine alD (some 94) rfl rfl (do_buildSlice (xs := List.map enc49 [x60]) ty50 ty49 rfl rfl rfl rfl rfl rfl rfl rfl) (by decide) ?_
         obtain ⟨g61, h⟩ := gd_some h
         refine alD (some 95) rfl rfl (do_append (v := List.map enc49 (v12_s_3 ++ [x60])) (by conv => lhs; whnf) (by conv => lhs; whnf) ty50 ty49 rfl rfl (by conv => lhs; whnf) (by first | exact .inl rfl | exact .inr ⟨rfl, rfl⟩) (by conv => lhs; whnf) (by first | exact .inr rfl | exact .inl rfl) (map_app _ _) (fit_map g61)) (by decide) ?_
         refine alP (some 12) rfl rfl (does_assign (v := .own 95 0) (by exact rfl)) (by decide) ?_
         refine al_nil ?_
         refine hK58 _ ?_
         refine aw_exit ?_
         have h := leafR h hk53
         refine hK45 _ ?_
         refine aw_regL ?_
         refine alP (some 69) rfl rfl (does_move (v := .int .i64 v13_3) (by exact rfl)) (by decide) ?_
         refine alP (some 70) rfl rfl (does_bin (v := .int .i64 (IntKind.i64.wrap (v13_3 + 1))) (by conv => lhs; whnf) (by conv => lhs; whnf) rfl) (by decide) ?_
         refine alP (some 13) rfl rfl (does_assign (v := .int .i64 (IntKind.i64.wrap (v13_3 + 1))) (by exact rfl)) (by decide) ?_
         refine al_nil ?_
         have h := leafL h hq41
         exact ⟨m3, Nat.lt_succ_self _, _, reb_lit [(0, .sl 10 (List.map enc27 a0)), (1, .int .i64 a1), (5, .own 32 0), (8, .own 44 0), (9, .int .i64 v9_2), (10, .int .i64 x36.1), (11, .int .i64 x36.2), (12, .own 12 0), (13, .int .i64 (IntKind.i64.wrap (v13_3 + 1)))] [(32, 0), (44, 0), (95, 0)] [((32, 0), .arr 3 1 false (List.map enc2 x13)), ((44, 0), .arr 49 2 false (List.map enc49 v8_s_2)), ((12, 0), .arr 49 2 false (List.map enc49 (v12_s_3 ++ [x60])))] [(12, 1), (32, 1), (44, 1)] (envOk_cons (by conv => lhs; whnf) (by exact rfl) (envOk_cons (by conv => lhs; whnf) (by exact rfl) (envOk_cons (by conv => lhs; whnf) (by exact rfl) (envOk_cons (by conv => lhs; whnf) (by exact rfl) (envOk_cons (by conv => lhs; whnf) (by exact rfl) (envOk_cons (by conv => lhs; whnf) (by exact rfl) (envOk_cons (by conv => lhs; whnf) (by exact rfl) (envOk_cons (by conv => lhs; whnf) (by exact rfl) (envOk_cons (by conv => lhs; whnf) (by exact rfl) envOk_nil))))))))) (objOk_cons (by conv => lhs; whnf) (by conv => lhs; whnf) (by exact rfl) (by simp) (objOk_cons (by conv => lhs; whnf) (by conv => lhs; whnf) (by exact rfl) (by simp) (objOk_cons (by conv => lhs; whnf) (by conv => lhs; whnf) (by exact rfl) (by simp) objOk_nil))) (nodup_b rfl) (nodup_b rfl) rfl rfl, (v12_s_3 ++ [x60]), (IntKind.i64.wrap (v13_3 + 1)), h, rfl⟩
        ·have h := ifF c57 h
         refine aw_cond_f (by decide) rfl ?_
         refine aw_skip ?_
         have h := leafL h hk53
         exact ⟨_, reb_lit [(0, .sl 10 (List.map enc27 a0)), (1, .int .i64 a1), (5, .own 32 0), (8, .own 44 0), (9, .int .i64 v9_2), (10, .int .i64 x36.1), (11, .int .i64 x36.2), (12, .own 12 0), (13, .int .i64 v13_3), (14, .int .i64 x48.c0), (15, .int .i64 x51.c1)] [(32, 0), (44, 0), (12, 0)] [((32, 0), .arr 3 1 false (List.map enc2 x13)), ((44, 0), .arr 49 2 false (List.map enc49 v8_s_2)), ((12, 0), .arr 49 2 false (List.map enc49 v12_s_3))] [(12, 1), (32, 1), (44, 1)] (envOk_cons (by conv => lhs; whnf) (by exact rfl) (envOk_cons (by conv => lhs; whnf) (by exact rfl) (envOk_cons (by conv => lhs; whnf) (by exact rfl) (envOk_cons (by conv => lhs; whnf) (by exact rfl) (envOk_cons (by conv => lhs; whnf) (by exact rfl) (envOk_cons (by conv => lhs; whnf) (by exact rfl) (envOk_cons (by conv => lhs; whnf) (by exact rfl) (envOk_cons (by conv => lhs; whnf) (by exact rfl) (envOk_cons (by conv => lhs; whnf) (by exact rfl) (envOk_cons (by conv => lhs; whnf) (by exact rfl) (envOk_cons (by conv => lhs; whnf) (by exact rfl) envOk_nil))))))))))) (objOk_cons (by conv => lhs; whnf) (by conv => lhs; whnf) (by exact rfl) (by simp) (objOk_cons (by conv => lhs; whnf) (by conv => lhs; whnf) (by exact rfl) (by simp) (objOk_cons (by conv => lhs; whnf) (by conv => lhs; whnf) (by exact rfl) (by simp) objOk_nil))) (nodup_b rfl) (nodup_b rfl) rfl rfl, h, rfl⟩
      ·rintro s ⟨h, rfl⟩
       unfold gleaningref28_Self_k4 at h
       obtain ⟨q62, h, hk63⟩ := bnd_some h
       refine aw_cut (fun s => ∃ (v12_s_6 : List Arr2_Int), gleaningref28_Self_k6 x36 v13_3 x51 v12_s_6 = some q40 ∧ s = lit [(0, .sl 10 (List.map enc27 a0)), (1, .int .i64 a1), (5, .own 32 0), (8, .own 44 0), (9, .int .i64 v9_2), (10, .int .i64 x36.1), (11, .int .i64 x36.2), (12, .own 104 0), (13, .int .i64 v13_3), (15, .int .i64 x51.c1)] [((32, 0), .arr 3 1 false (List.map enc2 x13)), ((44, 0), .arr 49 2 false (List.map enc49 v8_s_2)), ((104, 0), .arr 49 2 false (List.map enc49 v12_s_6))] [(32, 1), (44, 1), (104, 1)] X) ?_ ?_
       ·skip
        refine aw_seq_k (fun K64 hK64 => ?_)
        refine aw_regL ?_
        refine alP (some 96) rfl rfl (does_move (v := .int .i64 x48.c0) (by exact rfl)) (by decide) ?_
        refine alP (some 97) rfl rfl (does_move (v := .int .i64 x36.1) (by exact rfl)) (by decide) ?_
        refine alP (some 98) rfl rfl (does_bin (v := .bool (decide (x48.c0 < x36.1))) (by conv => lhs; whnf) (by conv => lhs; whnf) rfl) (by decide) ?_
        refine al_nil ?_
        refine hK64 _ ?_
        refine aw_bool (b := (decide (x48.c0 < x36.1))) 98 rfl (fun c65 => ?_) (fun c65 => ?_)
        ·have h := ifT c65 h
         refine aw_cond_t (by decide) rfl ?_
         refine aw_regL ?_
         refine alP (some 99) rfl rfl (does_move (v := .own 12 0) (by exact rfl)) (by decide) ?_
         refine alP (some 100) rfl rfl (does_move (v := .int .i64 x48.c0) (by exact rfl)) (by decide) ?_
         refine alP (some 101) rfl rfl (does_move (v := .int .i64 x36.1) (by exact rfl)) (by decide) ?_
         refine alD (some 102) rfl rfl (do_build_arr (cs := [.int .i64 x48.c0, .int .i64 x36.1]) ty49 rfl ty3 (by rfl) (by exact rfl)) (by decide) ?_
         refine alD (some 103) rfl rfl (do_buildSlice (xs := List.map enc49 [(Arr2_Int.mk x48.c0 x36.1)]) ty50 ty49 rfl rfl rfl rfl rfl rfl rfl rfl) (by decide) ?_
         obtain ⟨g66, h⟩ := gd_some h
         refine alD (some 104) rfl rfl (do_append (v := List.map enc49 (v12_s_3 ++ [(Arr2_Int.mk x48.c0 x36.1)])) (by conv => lhs; whnf) (by conv => lhs; whnf) ty50 ty49 rfl rfl (by conv => lhs; whnf) (by first | exact .inl rfl | exact .inr ⟨rfl, rfl⟩) (by conv => lhs; whnf) (by first | exact .inr rfl | exact .inl rfl) (map_app _ _) (fit_map g66)) (by decide) ?_
         refine alP (some 12) rfl rfl (does_assign (v := .own 104 0) (by exact rfl)) (by decide) ?_
         refine al_nil ?_
         obtain rfl := Option.some.inj h
         have h := hk63
         exact ⟨_, reb_lit [(0, .sl 10 (List.map enc27 a0)), (1, .int .i64 a1), (5, .own 32 0), (8, .own 44 0), (9, .int .i64 v9_2), (10, .int .i64 x36.1), (11, .int .i64 x36.2), (12, .own 104 0), (13, .int .i64 v13_3), (15, .int .i64 x51.c1)] [(32, 0), (44, 0), (104, 0)] [((32, 0), .arr 3 1 false (List.map enc2 x13)), ((44, 0), .arr 49 2 false (List.map enc49 v8_s_2)), ((104, 0), .arr 49 2 false (List.map enc49 (v12_s_3 ++ [(Arr2_Int.mk x48.c0 x36.1)])))] [(32, 1), (44, 1), (104, 1)] (envOk_cons (by conv => lhs; whnf) (by exact rfl) (envOk_cons (by conv => lhs; whnf) (by exact rfl) (envOk_cons (by conv => lhs; whnf) (by exact rfl) (envOk_cons (by conv => lhs; whnf) (by exact rfl) (envOk_cons (by conv => lhs; whnf) (by exact rfl) (envOk_cons (by conv => lhs; whnf) (by exact rfl) (envOk_cons (by conv => lhs; whnf) (by exact rfl) (envOk_cons (by conv => lhs; whnf) (by exact rfl) (envOk_cons (by conv => lhs; whnf) (by exact rfl) (envOk_cons (by conv => lhs; whnf) (by exact rfl) envOk_nil)))))))))) (objOk_cons (by conv => lhs; whnf) (by conv => lhs; whnf) (by exact rfl) (by simp) (objOk_cons (by conv => lhs; whnf) (by conv => lhs; whnf) (by exact rfl) (by simp) (objOk_cons (by conv => lhs; whnf) (by conv => lhs; whnf) (by exact rfl) (by simp) objOk_nil))) (nodup_b rfl) (nodup_b rfl) rfl rfl, (v12_s_3 ++ [(Arr2_Int.mk x48.c0 x36.1)]), h, rfl⟩
        ·have h := ifF c65 h
         refine aw_cond_f (by decide) rfl ?_
         refine aw_skip ?_
         obtain rfl := Option.some.inj h
         have h := hk63
         exact ⟨_, reb_lit [(0, .sl 10 (List.map enc27 a0)), (1, .int .i64 a1), (5, .own 32 0), (8, .own 44 0), (9, .int .i64 v9_2), (10, .int .i64 x36.1), (11, .int .i64 x36.2), (12, .own 104 0), (13, .int .i64 v13_3), (15, .int .i64 x51.c1)] [(32, 0), (44, 0), (12, 0)] [((32, 0), .arr 3 1 false (List.map enc2 x13)), ((44, 0), .arr 49 2 false (List.map enc49 v8_s_2)), ((104, 0), .arr 49 2 false (List.map enc49 v12_s_3))] [(32, 1), (44, 1), (104, 1)] (envOk_cons (by conv => lhs; whnf) (by exact rfl) (envOk_cons (by conv => lhs; whnf) (by exact rfl) (envOk_cons (by conv => lhs; whnf) (by exact rfl) (envOk_cons (by conv => lhs; whnf) (by exact rfl) (envOk_cons (by conv => lhs; whnf) (by exact rfl) (envOk_cons (by conv => lhs; whnf) (by exact rfl) (envOk_cons (by conv => lhs; whnf) (by exact rfl) (envOk_cons (by conv => lhs; whnf) (by exact rfl) (envOk_cons (by conv => lhs; whnf) (by exact rfl) (envOk_cons (by conv => lhs; whnf) (by exact rfl) envOk_nil)))))))))) (objOk_cons (by conv => lhs; whnf) (by conv => lhs; whnf) (by exact rfl) (by simp) (objOk_cons (by conv => lhs; whnf) (by conv => lhs; whnf) (by exact rfl) (by simp) (objOk_cons (by conv => lhs; whnf) (by conv => lhs; whnf) (by exact rfl) (by simp) objOk_nil))) (nodup_b rfl) (nodup_b rfl) rfl rfl, v12_s_3, h, rfl⟩
       ·rintro s ⟨v12_s_6, h, rfl⟩
        unfold gleaningref28_Self_k6 at h
        refine aw_seq_k (fun K67 hK67 => ?_)
        refine aw_regL ?_
        refine alP (some 105) rfl rfl (does_move (v := .int .i64 x36.2) (by exact rfl)) (by decide) ?_
        refine alP (some 106) rfl rfl (does_move (v := .int .i64 x51.c1) (by exact rfl)) (by decide) ?_
        refine alP (some 107) rfl rfl (does_bin (v := .bool (decide (x36.2 < x51.c1))) (by conv => lhs; whnf) (by conv => lhs; whnf) rfl) (by decide) ?_
        refine al_nil ?_
        refine hK67 _ ?_
        refine aw_bool (b := (decide (x36.2 < x51.c1))) 107 rfl (fun c68 => ?_) (fun c68 => ?_)
        ·have h := ifT c68 h
         refine aw_cond_t (by decide) rfl ?_
         refine aw_regL ?_
         refine alP (some 108) rfl rfl (does_move (v := .own 104 0) (by exact rfl)) (by decide) ?_
         refine alP (some 109) rfl rfl (does_move (v := .int .i64 x36.2) (by exact rfl)) (by decide) ?_
         refine alP (some 110) rfl rfl (does_move (v := .int .i64 x51.c1) (by exact rfl)) (by decide) ?_
         refine alD (some 111) rfl rfl (do_build_arr (cs := [.int .i64 x36.2, .int .i64 x51.c1]) ty49 rfl ty3 (by rfl) (by exact rfl)) (by decide) ?_
         refine alD (some 112) rfl rfl (do_buildSlice (xs := List.map enc49 [(Arr2_Int.mk x36.2 x51.c1)]) ty50 ty49 rfl rfl rfl rfl rfl rfl rfl rfl) (by decide) ?_
         obtain ⟨g69, h⟩ := gd_some h
         refine alD (some 113) rfl rfl (do_append (v := List.map enc49 (v12_s_6 ++ [(Arr2_Int.mk x36.2 x51.c1)])) (by conv => lhs; whnf) (by conv => lhs; whnf) ty50 ty49 rfl rfl (by conv => lhs; whnf) (by first | exact .inl rfl | exact .inr ⟨rfl, rfl⟩) (by conv => lhs; whnf) (by first | exact .inr rfl | exact .inl rfl) (map_app _ _) (fit_map g69)) (by decide) ?_
         refine alP (some 12) rfl rfl (does_assign (v := .own 113 0) (by exact rfl)) (by decide) ?_
         refine al_nil ?_
         refine hK45 _ ?_
         refine aw_regL ?_
         refine alP (some 69) rfl rfl (does_move (v := .int .i64 v13_3) (by exact rfl)) (by decide) ?_
         refine alP (some 70) rfl rfl (does_bin (v := .int .i64 (IntKind.i64.wrap (v13_3 + 1))) (by conv => lhs; whnf) (by conv => lhs; whnf) rfl) (by decide) ?_
         refine alP (some 13) rfl rfl (does_assign (v := .int .i64 (IntKind.i64.wrap (v13_3 + 1))) (by exact rfl)) (by decide) ?_
         refine al_nil ?_
         have h := leafL h hq41
         exact ⟨m3, Nat.lt_succ_self _, _, reb_lit [(0, .sl 10 (List.map enc27 a0)), (1, .int .i64 a1), (5, .own 32 0), (8, .own 44 0), (9, .int .i64 v9_2), (10, .int .i64 x36.1), (11, .int .i64 x36.2), (12, .own 12 0), (13, .int .i64 (IntKind.i64.wrap (v13_3 + 1)))] [(32, 0), (44, 0), (113, 0)] [((32, 0), .arr 3 1 false (List.map enc2 x13)), ((44, 0), .arr 49 2 false (List.map enc49 v8_s_2)), ((12, 0), .arr 49 2 false (List.map enc49 (v12_s_6 ++ [(Arr2_Int.mk x36.2 x51.c1)])))] [(12, 1), (32, 1), (44, 1)] (envOk_cons (by conv => lhs; whnf) (by exact rfl) (envOk_cons (by conv => lhs; whnf) (by exact rfl) (envOk_cons (by conv => lhs; whnf) (by exact rfl) (envOk_cons (by conv => lhs; whnf) (by exact rfl) (envOk_cons (by conv => lhs; whnf) (by exact rfl) (envOk_cons (by conv => lhs; whnf) (by exact rfl) (envOk_cons (by conv => lhs; whnf) (by exact rfl) (envOk_cons (by conv => lhs; whnf) (by exact rfl) (envOk_cons (by conv => lhs; whnf) (by exact rfl) envOk_nil))))))))) (objOk_cons (by conv => lhs; whnf) (by conv => lhs; whnf) (by exact rfl) (by simp) (objOk_cons (by conv => lhs; whnf) (by conv => lhs; whnf) (by exact rfl) (by simp) (objOk_cons (by conv => lhs; whnf) (by conv => lhs; whnf) (by exact rfl) (by simp) objOk_nil))) (nodup_b rfl) (nodup_b rfl) rfl rfl, (v12_s_6 ++ [(Arr2_Int.mk x36.2 x51.c1)]), (IntKind.i64.wrap (v13_3 + 1)), h, rfl⟩
        ·have h := ifF c68 h
         refine aw_cond_f (by decide) rfl ?_
         refine aw_skip ?_
         refine hK45 _ ?_
         refine aw_regL ?_
         refine alP (some 69) rfl rfl (does_move (v := .int .i64 v13_3) (by exact rfl)) (by decide) ?_
         refine alP (some 70) rfl rfl (does_bin (v := .int .i64 (IntKind.i64.wrap (v13_3 + 1))) (by conv => lhs; whnf) (by conv => lhs; whnf) rfl) (by decide) ?_
         refine alP (some 13) rfl rfl (does_assign (v := .int .i64 (IntKind.i64.wrap (v13_3 + 1))) (by exact rfl)) (by decide) ?_
         refine al_nil ?_
         have h := leafL h hq41
         exact ⟨m3, Nat.lt_succ_self _, _, reb_lit [(0, .sl 10 (List.map enc27 a0)), (1, .int .i64 a1), (5, .own 32 0), (8, .own 44 0), (9, .int .i64 v9_2), (10, .int .i64 x36.1), (11, .int .i64 x36.2), (12, .own 12 0), (13, .int .i64 (IntKind.i64.wrap (v13_3 + 1)))] [(32, 0), (44, 0), (104, 0)] [((32, 0), .arr 3 1 false (List.map enc2 x13)), ((44, 0), .arr 49 2 false (List.map enc49 v8_s_2)), ((12, 0), .arr 49 2 false (List.map enc49 v12_s_6))] [(12, 1), (32, 1), (44, 1)] (envOk_cons (by conv => lhs; whnf) (by exact rfl) (envOk_cons (by conv => lhs; whnf) (by exact rfl) (envOk_cons (by conv => lhs; whnf) (by exact rfl) (envOk_cons (by conv => lhs; whnf) (by exact rfl) (envOk_cons (by conv => lhs; whnf) (by exact rfl) (envOk_cons (by conv => lhs; whnf) (by exact rfl) (envOk_cons (by conv => lhs; whnf) (by exact rfl) (envOk_cons (by conv => lhs; whnf) (by exact rfl) (envOk_cons (by conv => lhs; whnf) (by exact rfl) envOk_nil))))))))) (objOk_cons (by conv => lhs; whnf) (by conv => lhs; whnf) (by exact rfl) (by simp) (objOk_cons (by conv => lhs; whnf) (by conv => lhs; whnf) (by exact rfl) (by simp) (objOk_cons (by conv => lhs; whnf) (by conv => lhs; whnf) (by exact rfl) (by simp) objOk_nil))) (nodup_b rfl) (nodup_b rfl) rfl rfl, v12_s_6, (IntKind.i64.wrap (v13_3 + 1)), h, rfl⟩
     ·have h := ifF c44 h
      refine aw_cond_f (by decide) rfl ?_
      refine aw_exit ?_
      have h := leafR h hq41
      refine hK38 _ ?_
      refine aw_regL ?_
      refine alP (some 114) rfl rfl (does_move (v := .own 12 0) (by exact rfl)) (by decide) ?_
      refine alP (some 8) rfl rfl (does_assign (v := .own 12 0) (by exact rfl)) (by decide) ?_
      refine al_nil ?_
      refine hK27 _ ?_
      refine aw_regL ?_
      refine alP (some 49) rfl rfl (does_move (v := .int .i64 v9_2) (by exact rfl)) (by decide) ?_
      refine alP (some 50) rfl rfl (does_bin (v := .int .i64 (IntKind.i64.wrap (v9_2 + 1))) (by conv => lhs; whnf) (by conv => lhs; whnf) rfl) (by decide) ?_
      refine alP (some 9) rfl rfl (does_assign (v := .int .i64 (IntKind.i64.wrap (v9_2 + 1))) (by exact rfl)) (by decide) ?_
      refine al_nil ?_
      have h := leafL h hq23
      exact ⟨m2, Nat.lt_succ_self _, _, reb_lit [(0, .sl 10 (List.map enc27 a0)), (1, .int .i64 a1), (5, .own 32 0), (8, .own 44 0), (9, .int .i64 (IntKind.i64.wrap (v9_2 + 1)))] [(32, 0), (12, 0)] [((32, 0), .arr 3 1 false (List.map enc2 x13)), ((44, 0), .arr 49 2 false (List.map enc49 v12_s_3))] [(32, 1), (44, 1)] (envOk_cons (by conv => lhs; whnf) (by exact rfl) (envOk_cons (by conv => lhs; whnf) (by exact rfl) (envOk_cons (by conv => lhs; whnf) (by exact rfl) (envOk_cons (by conv => lhs; whnf) (by exact rfl) (envOk_cons (by conv => lhs; whnf) (by exact rfl) envOk_nil))))) (objOk_cons (by conv => lhs; whnf) (by conv => lhs; whnf) (by exact rfl) (by simp) (objOk_cons (by conv => lhs; whnf) (by conv => lhs; whnf) (by exact rfl) (by simp) objOk_nil)) (nodup_b rfl) (nodup_b rfl) rfl rfl, v12_s_3, (IntKind.i64.wrap (v9_2 + 1)), h, rfl⟩
   ·have h := ifF c26 h
    refine aw_cond_f (by decide) rfl ?_
    refine aw_exit ?_
    have h := leafR h hq23
    obtain rfl := Option.some.inj h
    have h := hk20
    exact ⟨_, reb_lit [(8, .own 44 0)] [(44, 0)] [((44, 0), .arr 49 2 false (List.map enc49 v8_s_2))] [(44, 1)] (envOk_cons (by conv => lhs; whnf) (by exact rfl) envOk_nil) (objOk_cons (by conv => lhs; whnf) (by conv => lhs; whnf) (by exact rfl) (by simp) objOk_nil) (nodup_b rfl) (nodup_b rfl) rfl rfl, v8_s_2, h, rfl⟩
  ·rintro s ⟨v8_s_1, h, rfl⟩
   unfold gleaningref28_Self_k1 at h
   refine aw_seq_k (fun K70 hK70 => ?_)
   refine aw_regL ?_
   refine alP (some 16) rfl rfl (does_assign (v := .int .i64 0) (by exact rfl)) (by decide) ?_
   refine al_nil ?_
   refine hK70 _ ?_
   refine aw_seq_k (fun K71 hK71 => ?_)
   refine aw_seq_k (fun K72 hK72 => ?_)
   refine aw_regL ?_
   refine alP (some 17) rfl rfl (does_assign (v := .int .i64 0) (by exact rfl)) (by decide) ?_
   refine al_nil ?_
   refine hK72 _ ?_
   refine aw_block ?_
   refine aw_loop' (fun m s => ∃ (v16_7 : Int), ∃ (v17_7 : Int), loopN (fun (s : Int × Int) => gleaningref28_Self_l7 v8_s_1 s.1 s.2) m (v16_7, v17_7) = some r ∧ s = lit [(8, .own 44 0), (16, .int .i64 v16_7), (17, .int .i64 v17_7)] [((44, 0), .arr 49 2 false (List.map enc49 v8_s_1))] [(44, 1)] X) Fu
    ⟨_, reb_lit [(8, .own 44 0), (16, .int .i64 (0)), (17, .int .i64 (0))] [(44, 0)] [((44, 0), .arr 49 2 false (List.map enc49 v8_s_1))] [(44, 1)] (envOk_cons (by conv => lhs; whnf) (by exact rfl) (envOk_cons (by conv => lhs; whnf) (by exact rfl) (envOk_cons (by conv => lhs; whnf) (by exact rfl) envOk_nil))) (objOk_cons (by conv => lhs; whnf) (by conv => lhs; whnf) (by exact rfl) (by simp) objOk_nil) (nodup_b rfl) (nodup_b rfl) rfl rfl, 0, 0, h, rfl⟩ ?_
   rintro m s ⟨v16_7, v17_7, h, rfl⟩
   obtain ⟨m7, q73, rfl, h, hq74⟩ := loop_some h
   replace h : gleaningref28_Self_l7 v8_s_1 v16_7 v17_7 = some q73 := h
   unfold gleaningref28_Self_l7 at h
   refine aw_seq_k (fun K75 hK75 => ?_)
   refine aw_seq_k (fun K76 hK76 => ?_)
   refine aw_regL ?_
   refine alP (some 115) rfl rfl (does_move (v := .int .i64 v17_7) (by exact rfl)) (by decide) ?_
   refine alP (some 116) rfl rfl (does_move (v := .own 44 0) (by exact rfl)) (by decide) ?_
   refine alR (some 117) rfl rfl ((does_len_own (by conv => lhs; whnf) (by conv => lhs; whnf) ty50).cast (v' := .int .i64 (List.length v8_s_1 : Int)) (by exact len_map _)) (by decide) ?_
   refine alP (some 118) rfl rfl (does_bin (v := .bool (decide (v17_7 < (List.length v8_s_1 : Int)))) (by conv => lhs; whnf) (by conv => lhs; whnf) rfl) (by decide) ?_
   refine al_nil ?_
   refine hK76 _ ?_
   refine aw_bool (b := (decide (v17_7 < (List.length v8_s_1 : Int)))) 118 rfl (fun c77 => ?_) (fun c77 => ?_)
   ·have h := ifT c77 h
    refine aw_cond_t (by decide) rfl ?_
    refine aw_skip ?_
    refine hK75 _ ?_
    refine aw_seq_k (fun K78 hK78 => ?_)
    refine aw_block ?_
    refine aw_regd (by kernel_rfl) (by decide +kernel) ?_
    refine aoP (some 121) rfl rfl (does_move (v := .int .i64 v16_7) (by exact rfl)) (by decide) ?_
    refine aoP (some 122) rfl rfl (does_move (v := .own 44 0) (by exact rfl)) (by decide) ?_
    refine aoP (some 123) rfl rfl (does_move (v := .int .i64 v17_7) (by exact rfl)) (by decide) ?_
    obtain ⟨g79, h⟩ := gd_some h
    obtain ⟨x80, hx80, h⟩ := bnd_some h
    refine aoR (some 124) rfl rfl (does_indexAddr_own (by conv => lhs; whnf) (by conv => lhs; whnf) (by conv => lhs; whnf) ty50 ty49 g79 (by exact own_lt hx80)) (by decide) ?_
    refine aoP (some 125) rfl rfl (does_indexAddr_arr (q := .eptr 44 0 2 (Int.toNat v17_7) 1) (by conv => lhs; whnf) (by conv => lhs; whnf) ty49 ty3 (by decide) (by decide) rfl) (by decide) ?_
    refine aoR (some 126) rfl rfl (does_load (v := .int .i64 x80.c1) (by conv => lhs; whnf) (cellsAt_eptr (by conv => lhs; whnf) (by exact map_get hx80)) ty3 (by exact rfl)) (by decide) ?_
    refine aoP (some 127) rfl rfl (does_bin (v := .int .i64 (IntKind.i64.wrap (v16_7 + x80.c1))) (by conv => lhs; whnf) (by conv => lhs; whnf) rfl) (by decide) ?_
    refine aoP (some 128) rfl rfl (does_move (v := .own 44 0) (by exact rfl)) (by decide) ?_
    refine aoP (some 129) rfl rfl (does_move (v := .int .i64 v17_7) (by exact rfl)) (by decide) ?_
    obtain ⟨g81, h⟩ := gd_some h
    obtain ⟨x82, hx82, h⟩ := bnd_some h
    refine aoR (some 130) rfl rfl (does_indexAddr_own (by conv => lhs; whnf) (by conv => lhs; whnf) (by conv => lhs; whnf) ty50 ty49 g81 (by exact own_lt hx82)) (by decide) ?_
    refine aoP (some 131) rfl rfl (does_indexAddr_arr (q := .eptr 44 0 2 (Int.toNat v17_7) 0) (by conv => lhs; whnf) (by conv => lhs; whnf) ty49 ty3 (by decide) (by decide) rfl) (by decide) ?_
    refine aoR (some 132) rfl rfl (does_load (v := .int .i64 x82.c0) (by conv => lhs; whnf) (cellsAt_eptr (by conv => lhs; whnf) (by exact map_get hx82)) ty3 (by exact rfl)) (by decide) ?_
    refine aoP (some 133) rfl rfl (does_bin (v := .int .i64 (IntKind.i64.wrap ((IntKind.i64.wrap (v16_7 + x80.c1)) - x82.c0))) (by conv => lhs; whnf) (by conv => lhs; whnf) rfl) (by decide) ?_
    refine aoP (some 16) rfl rfl (does_assign (v := .int .i64 (IntKind.i64.wrap ((IntKind.i64.wrap (v16_7 + x80.c1)) - x82.c0))) (by exact rfl)) (by decide) ?_
    refine ao_nil_d (by kernel_rfl) ?_
    refine hK78 _ ?_
    refine aw_regL ?_
    refine alP (some 119) rfl rfl (does_move (v := .int .i64 v17_7) (by exact rfl)) (by decide) ?_
    refine alP (some 120) rfl rfl (does_bin (v := .int .i64 (IntKind.i64.wrap (v17_7 + 1))) (by conv => lhs; whnf) (by conv => lhs; whnf) rfl) (by decide) ?_
    refine alP (some 17) rfl rfl (does_assign (v := .int .i64 (IntKind.i64.wrap (v17_7 + 1))) (by exact rfl)) (by decide) ?_
    refine al_nil ?_
    have h := leafL h hq74
    exact ⟨m7, Nat.lt_succ_self _, _, reb_lit [(8, .own 44 0), (16, .int .i64 (IntKind.i64.wrap ((IntKind.i64.wrap (v16_7 + x80.c1)) - x82.c0))), (17, .int .i64 (IntKind.i64.wrap (v17_7 + 1)))] [(44, 0)] [((44, 0), .arr 49 2 false (List.map enc49 v8_s_1))] [(44, 1)] (envOk_cons (by conv => lhs; whnf) (by exact rfl) (envOk_cons (by conv => lhs; whnf) (by exact rfl) (envOk_cons (by conv => lhs; whnf) (by exact rfl) envOk_nil))) (objOk_cons (by conv => lhs; whnf) (by conv => lhs; whnf) (by exact rfl) (by simp) objOk_nil) (nodup_b rfl) (nodup_b rfl) rfl rfl, (IntKind.i64.wrap ((IntKind.i64.wrap (v16_7 + x80.c1)) - x82.c0)), (IntKind.i64.wrap (v17_7 + 1)), h, rfl⟩
   ·have h := ifF c77 h
    refine aw_cond_f (by decide) rfl ?_
    refine aw_exit ?_
    have h := leafR h hq74
    refine hK71 _ ?_
    refine aw_seq_k (fun K83 hK83 => ?_)
    refine aw_regL ?_
    refine alP (some 134) rfl rfl (does_move (v := .int .i64 v16_7) (by exact rfl)) (by decide) ?_
    refine alP (some 4) rfl rfl (does_assign (v := .int .i64 v16_7) (by exact rfl)) (by decide) ?_
    refine al_nil ?_
    refine hK83 _ ?_
    refine aw_ret ?_
    obtain rfl := Option.some.inj h
    exact ret_ok1 (by conv => lhs; whnf) (by conv => lhs; whnf) (by exact rfl) (.inr rfl) rfl
end Go.Proofs.Ytmompdklolomfaa.Ab
