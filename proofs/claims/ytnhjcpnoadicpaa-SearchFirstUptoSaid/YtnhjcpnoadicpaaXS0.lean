/- Search: which spans, all traces, the first so many: the program. -/
import Derived.Test.YtnhjcpnoadicpaaPSearchC
import Derived.Test.YtnhjcpnoadicpaaProg
namespace Go.Proofs.Ytnhjcpnoadicpaa.Ab
open Go Go.RowKit
set_option linter.unusedVariables false
set_option linter.unusedSimpArgs false
structure Query where
  Service : ByteArray
  Op : ByteArray
  Key : ByteArray
  Value : ByteArray
  Dur : Int
  Err : Bool
  deriving DecidableEq
structure Attr where
  Key : ByteArray
  Value : ByteArray
  deriving DecidableEq
structure Span where
  Trace : Trace
  Id : Int
  Parent : Int
  Service : ByteArray
  Op : ByteArray
  Start : Int
  Dur : Int
  Err : Bool
  Attrs : List Attr
  deriving DecidableEq
def enc53 (x : Attr) : PV := .agg [.str x.Key, .str x.Value]
structure Episode where
  Trace : Trace
  First : Int
  Last : Int
  Sure : Bool
  Spans : List Span
  deriving DecidableEq
structure Block where
  Number : Int
  Born : Int
  Tier : Int
  Episodes : List Episode
  deriving DecidableEq
def enc29 (x : Span) : PV := .agg [.int .u64 x.Trace.Hi, .int .u64 x.Trace.Lo, .int .u64 x.Id, .int .u64 x.Parent, .str x.Service, .str x.Op, .int .i64 x.Start, .int .i64 x.Dur, .bool x.Err, .sl 2 (List.map enc53 x.Attrs)]
def enc50 (x : Episode) : PV := .agg [.int .u64 x.Trace.Hi, .int .u64 x.Trace.Lo, .int .i64 x.First, .int .i64 x.Last, .bool x.Sure, .sl 10 (List.map enc29 x.Spans)]
def enc44 (x : Block) : PV := .agg [.int .i64 x.Number, .int .i64 x.Born, .int .i64 x.Tier, .sl 6 (List.map enc50 x.Episodes)]
def enc26 (x : Trace) : PV := .agg [.int .u64 x.Hi, .int .u64 x.Lo]
theorem ty4 : tyOf Try.prog 4 = some ⟨.bool, 1, 1, [.bool false]⟩ := by kernel_rfl
theorem ty9 : tyOf Try.prog 9 = some ⟨.str, 1, 16, [.str ByteArray.empty]⟩ := by kernel_rfl
theorem ty22 : tyOf Try.prog 22 = some ⟨.slice 45, 1, 24, [.nil]⟩ := by kernel_rfl
theorem ty24 : tyOf Try.prog 24 = some ⟨.struct [(0, 9), (1, 9), (2, 9), (3, 9), (4, 3), (5, 4)], 6, 80, [.str ByteArray.empty, .str ByteArray.empty, .str ByteArray.empty, .str ByteArray.empty, .int .i64 0, .bool false]⟩ := by kernel_rfl
theorem ty28 : tyOf Try.prog 28 = some ⟨.slice 54, 1, 24, [.nil]⟩ := by kernel_rfl
theorem ty30 : tyOf Try.prog 30 = some ⟨.struct [(0, 27), (2, 25), (3, 25), (4, 9), (5, 9), (6, 3), (7, 3), (8, 4), (9, 28)], 10, 112, [.int .u64 0, .int .u64 0, .int .u64 0, .int .u64 0, .str ByteArray.empty, .str ByteArray.empty, .int .i64 0, .int .i64 0, .bool false, .nil]⟩ := by kernel_rfl
theorem ty37 : tyOf Try.prog 37 = some ⟨.slice 27, 1, 24, [.nil]⟩ := by kernel_rfl
theorem ty43 : tyOf Try.prog 43 = some ⟨.slice 51, 1, 24, [.nil]⟩ := by kernel_rfl
theorem ty45 : tyOf Try.prog 45 = some ⟨.struct [(0, 3), (1, 3), (2, 3), (3, 43)], 4, 48, [.int .i64 0, .int .i64 0, .int .i64 0, .nil]⟩ := by kernel_rfl
theorem ty49 : tyOf Try.prog 49 = some ⟨.slice 30, 1, 24, [.nil]⟩ := by kernel_rfl
theorem ty51 : tyOf Try.prog 51 = some ⟨.struct [(0, 27), (2, 3), (3, 3), (4, 4), (5, 49)], 6, 64, [.int .u64 0, .int .u64 0, .int .i64 0, .int .i64 0, .bool false, .nil]⟩ := by kernel_rfl
theorem ty54 : tyOf Try.prog 54 = some ⟨.struct [(0, 9), (1, 9)], 2, 32, [.str ByteArray.empty, .str ByteArray.empty]⟩ := by kernel_rfl
theorem fk27 : flatK Try.prog 8 27 = some [.i .u64, .i .u64] := by kernel_rfl
theorem ag27 : aggT Try.prog 27 = true := by kernel_rfl
theorem eg27 : Try.prog.eqGuardType Try.prog.depth 27 = false := by kernel_rfl
theorem fk54 : flatK Try.prog 8 54 = some [.s, .s] := by kernel_rfl
theorem ag54 : aggT Try.prog 54 = true := by kernel_rfl
theorem eg54 : Try.prog.eqGuardType Try.prog.depth 54 = false := by kernel_rfl
theorem ent11 : Ent Try.prog 11 := ⟨_, Try.func11, by kernel_rfl, rfl⟩
theorem ent23 : Ent Try.prog 23 := ⟨_, Try.func23, by kernel_rfl, rfl⟩
theorem ent24 : Ent Try.prog 24 := ⟨_, Try.func24, by kernel_rfl, rfl⟩
theorem ent29 : Ent Try.prog 29 := ⟨_, Try.func29, by kernel_rfl, rfl⟩
theorem ent30 : Ent Try.prog 30 := ⟨_, Try.func30, by kernel_rfl, rfl⟩
theorem ent31 : Ent Try.prog 31 := ⟨_, Try.func31, by kernel_rfl, rfl⟩
theorem ent32 : Ent Try.prog 32 := ⟨_, Try.func32, by kernel_rfl, rfl⟩
theorem ent33 : Ent Try.prog 33 := ⟨_, Try.func33, by kernel_rfl, rfl⟩
theorem ent34 : Ent Try.prog 34 := ⟨_, Try.func34, by kernel_rfl, rfl⟩
theorem ent35 : Ent Try.prog 35 := ⟨_, Try.func35, by kernel_rfl, rfl⟩
def slices_Index_Attr_l0 (a0 : List Attr) (a1 : Attr) (v8_0 : Int) : Option (Int ⊕ Int) :=
  if (decide (v8_0 < (List.length a0 : Int))) = true then (gd (0 ≤ v8_0) (Option.bind (a0[(Int.toNat v8_0)]?) (fun (x13 : Attr) => if ((ByteArray.toList a1.Key == ByteArray.toList x13.Key) && ((ByteArray.toList a1.Value == ByteArray.toList x13.Value) && true)) = true then (some (Sum.inr v8_0)) else (some (Sum.inl (IntKind.i64.wrap (v8_0 + 1))))))) else (some (Sum.inr (-1)))
def slices_Index_Attr (a0 : List Attr) (a1 : Attr) : Option Int :=
  loopN (fun (s : Int) => slices_Index_Attr_l0 a0 a1 s) Fu 0
set_option maxRecDepth 100000 in
set_option maxHeartbeats 8000000 in
/-- slices.Index[[]gleaning/api.Attr,gleaning/api.Attr] -/
theorem slices_Index_Attr_ok (a0 : List Attr) (a1 : Attr) {r : Int} (h : slices_Index_Attr a0 a1 = some r) : Ok Try.prog 29 [.sl 2 (List.map enc53 a0), .agg [.str a1.Key, .str a1.Value]] [] [] (.int .i64 r) [] [] := by
  unfold slices_Index_Attr at h
  refine ok_of_code Try.func29 rfl (by show (2 : Nat) ≤ _; decide) (Nat.le_refl _) fun X => ?_
  refine aw_seq_k (fun K1 hK1 => ?_)
  refine aw_regL ?_
  refine alD (some 3) rfl rfl (do_box (by conv => lhs; whnf) rfl rfl) (by decide) ?_
  refine alP (some 4) rfl rfl (does_assign (v := .int .i64 0) (by exact rfl)) (by decide) ?_
  refine al_nil ?_
  refine hK1 _ ?_
  refine aw_seq_k (fun K2 hK2 => ?_)
  refine aw_seq_k (fun K3 hK3 => ?_)
  refine aw_regL ?_
  refine alP (some 6) rfl rfl (does_move (v := .sl 2 (List.map enc53 a0)) (by exact rfl)) (by decide) ?_
  refine alP (some 7) rfl rfl ((does_len_sl (by conv => lhs; whnf) ty28).castp (v' := .int .i64 (List.length a0 : Int)) (by exact len_map _)) (by decide) ?_
  refine alP (some 8) rfl rfl (does_move (v := .int .i64 0) (by exact rfl)) (by decide) ?_
  refine al_nil ?_
  refine hK3 _ ?_
  refine aw_block ?_
  refine aw_loop' (fun m s => ∃ (v8_0 : Int), loopN (fun (s : Int) => slices_Index_Attr_l0 a0 a1 s) m v8_0 = some r ∧ s = lit [(0, .sl 2 (List.map enc53 a0)), (3, .ptr 3 0 0), (7, .int .i64 (List.length a0 : Int)), (8, .int .i64 v8_0)] [((3, 0), .box [.str a1.Key, .str a1.Value])] [(3, 1)] X) Fu
    ⟨_, reb_lit [(0, .sl 2 (List.map enc53 a0)), (3, .ptr 3 0 0), (7, .int .i64 (List.length a0 : Int)), (8, .int .i64 (0))] [(3, 0)] [((3, 0), .box [.str a1.Key, .str a1.Value])] [(3, 1)] (envOk_cons (by conv => lhs; whnf) (by exact rfl) (envOk_cons (by conv => lhs; whnf) (by exact rfl) (envOk_cons (by conv => lhs; whnf) (by exact rfl) (envOk_cons (by conv => lhs; whnf) (by exact rfl) envOk_nil)))) (objOk_cons (by conv => lhs; whnf) (by conv => lhs; whnf) (by exact rfl) (by simp) objOk_nil) (nodup_b rfl) (nodup_b rfl) rfl rfl, 0, h, rfl⟩ ?_
  rintro m s ⟨v8_0, h, rfl⟩
  obtain ⟨m0, q4, rfl, h, hq5⟩ := loop_some h
  replace h : slices_Index_Attr_l0 a0 a1 v8_0 = some q4 := h
  unfold slices_Index_Attr_l0 at h
  refine aw_seq_k (fun K6 hK6 => ?_)
  refine aw_regL ?_
  refine alP (some 9) rfl rfl (does_bin (v := .bool (decide (v8_0 < (List.length a0 : Int)))) (by conv => lhs; whnf) (by conv => lhs; whnf) rfl) (by decide) ?_
  refine al_nil ?_
  refine hK6 _ ?_
  refine aw_seq_k (fun K7 hK7 => ?_)
  refine aw_bool (b := (decide (v8_0 < (List.length a0 : Int)))) 9 rfl (fun c8 => ?_) (fun c8 => ?_)
  · have h := ifT c8 h
    refine aw_cond_t (by decide) rfl ?_
    refine aw_skip ?_
    refine hK7 _ ?_
    refine aw_seq_k (fun K9 hK9 => ?_)
    refine aw_block ?_
    refine aw_seq_k (fun K10 hK10 => ?_)
    refine aw_regL ?_
    refine alP (some 10) rfl rfl (does_move (v := .int .i64 v8_0) (by exact rfl)) (by decide) ?_
    refine alP (some 5) rfl rfl (does_assign (v := .int .i64 v8_0) (by exact rfl)) (by decide) ?_
    refine al_nil ?_
    refine hK10 _ ?_
    refine aw_seq_k (fun K11 hK11 => ?_)
    refine aw_regd (by kernel_rfl) (by decide +kernel) ?_
    refine aoR (some 11) rfl rfl (does_load (v := .agg [.str a1.Key, .str a1.Value]) (by conv => lhs; whnf) (by conv => lhs; whnf) ty54 (by exact rfl)) (by decide) ?_
    refine aoP (some 12) rfl rfl (does_move (v := .sl 2 (List.map enc53 a0)) (by exact rfl)) (by decide) ?_
    refine aoP (some 13) rfl rfl (does_move (v := .int .i64 v8_0) (by exact rfl)) (by decide) ?_
    obtain ⟨g12, h⟩ := gd_some h
    obtain ⟨x13, hx13, h⟩ := bnd_some h
    refine aoP (some 14) rfl rfl (does_indexAddr_sl (el := .agg [.str x13.Key, .str x13.Value]) (by conv => lhs; whnf) (by conv => lhs; whnf) ty28 ty54 g12 (by exact map_get hx13)) (by decide) ?_
    refine aoR (some 15) rfl rfl (does_load (v := .agg [.str x13.Key, .str x13.Value]) (by conv => lhs; whnf) (by conv => lhs; whnf) ty54 (by exact rfl)) (by decide) ?_
    refine aoP (some 16) rfl rfl (does_eq_struct (v := .bool ((ByteArray.toList a1.Key == ByteArray.toList x13.Key) && ((ByteArray.toList a1.Value == ByteArray.toList x13.Value) && true))) (by conv => lhs; whnf) (by conv => lhs; whnf) fk54 rfl ag54 eg54 (by conv => lhs; whnf) rfl) (by decide) ?_
    refine ao_nil_d (by kernel_rfl) ?_
    refine hK11 _ ?_
    refine aw_bool (b := ((ByteArray.toList a1.Key == ByteArray.toList x13.Key) && ((ByteArray.toList a1.Value == ByteArray.toList x13.Value) && true))) 16 rfl (fun c14 => ?_) (fun c14 => ?_)
    · have h := ifT c14 h
      refine aw_cond_t (by decide) rfl ?_
      refine aw_seq_k (fun K15 hK15 => ?_)
      refine aw_regL ?_
      refine alP (some 17) rfl rfl (does_move (v := .int .i64 v8_0) (by exact rfl)) (by decide) ?_
      refine alP (some 4) rfl rfl (does_assign (v := .int .i64 v8_0) (by exact rfl)) (by decide) ?_
      refine al_nil ?_
      refine hK15 _ ?_
      refine aw_ret ?_
      have h := leafR h hq5
      obtain rfl := Option.some.inj h
      exact ret_ok1 (by conv => lhs; whnf) (by conv => lhs; whnf) (by exact rfl) (.inr rfl) rfl
    · have h := ifF c14 h
      refine aw_cond_f (by decide) rfl ?_
      refine aw_skip ?_
      refine hK9 _ ?_
      refine aw_regL ?_
      refine alP (some 18) rfl rfl (does_bin (v := .int .i64 (IntKind.i64.wrap (v8_0 + 1))) (by conv => lhs; whnf) (by conv => lhs; whnf) rfl) (by decide) ?_
      refine alP (some 8) rfl rfl (does_move (v := .int .i64 (IntKind.i64.wrap (v8_0 + 1))) (by exact rfl)) (by decide) ?_
      refine al_nil ?_
      have h := leafL h hq5
      exact ⟨m0, Nat.lt_succ_self _, _, reb_lit [(0, .sl 2 (List.map enc53 a0)), (3, .ptr 3 0 0), (7, .int .i64 (List.length a0 : Int)), (8, .int .i64 (IntKind.i64.wrap (v8_0 + 1)))] [(3, 0)] [((3, 0), .box [.str a1.Key, .str a1.Value])] [(3, 1)] (envOk_cons (by conv => lhs; whnf) (by exact rfl) (envOk_cons (by conv => lhs; whnf) (by exact rfl) (envOk_cons (by conv => lhs; whnf) (by exact rfl) (envOk_cons (by conv => lhs; whnf) (by exact rfl) envOk_nil)))) (objOk_cons (by conv => lhs; whnf) (by conv => lhs; whnf) (by exact rfl) (by simp) objOk_nil) (nodup_b rfl) (nodup_b rfl) rfl rfl, (IntKind.i64.wrap (v8_0 + 1)), h, rfl⟩
  · have h := ifF c8 h
    refine aw_cond_f (by decide) rfl ?_
    refine aw_exit ?_
    have h := leafR h hq5
    refine hK2 _ ?_
    refine aw_seq_k (fun K16 hK16 => ?_)
    refine aw_regL ?_
    refine alP (some 4) rfl rfl (does_assign (v := .int .i64 (-1)) (by exact rfl)) (by decide) ?_
    refine al_nil ?_
    refine hK16 _ ?_
    refine aw_ret ?_
    obtain rfl := Option.some.inj h
    exact ret_ok1 (by conv => lhs; whnf) (by conv => lhs; whnf) (by exact rfl) (.inr rfl) rfl
def slices_Contains_Attr (a0 : List Attr) (a1 : Attr) : Option Bool :=
  Option.bind (slices_Index_Attr a0 a1) (fun (x3 : Int) => some (decide ((0 : Int) ≤ x3)))
set_option maxRecDepth 100000 in
set_option maxHeartbeats 8000000 in
/-- slices.Contains[[]gleaning/api.Attr,gleaning/api.Attr] -/
theorem slices_Contains_Attr_ok (a0 : List Attr) (a1 : Attr) {r : Bool} (h : slices_Contains_Attr a0 a1 = some r) : Ok Try.prog 23 [.sl 2 (List.map enc53 a0), .agg [.str a1.Key, .str a1.Value]] [] [] (.bool r) [] [] := by
  unfold slices_Contains_Attr at h
  refine ok_of_code Try.func23 rfl (by show (2 : Nat) ≤ _; decide) (Nat.le_refl _) fun X => ?_
  refine aw_seq_k (fun K1 hK1 => ?_)
  refine aw_regL ?_
  refine alD (some 3) rfl rfl (do_box (by conv => lhs; whnf) rfl rfl) (by decide) ?_
  refine alP (some 4) rfl rfl (does_assign (v := .bool false) (by exact rfl)) (by decide) ?_
  refine al_nil ?_
  refine hK1 _ ?_
  refine aw_seq_k (fun K2 hK2 => ?_)
  refine aw_regL ?_
  refine alP (some 5) rfl rfl (does_move (v := .sl 2 (List.map enc53 a0)) (by exact rfl)) (by decide) ?_
  refine alR (some 6) rfl rfl (does_load (v := .agg [.str a1.Key, .str a1.Value]) (by conv => lhs; whnf) (by conv => lhs; whnf) ty54 (by exact rfl)) (by decide) ?_
  obtain ⟨x3, hx3, h⟩ := bnd_some h
  refine alD (some 7) rfl rfl (do_call0 7 false (slices_Index_Attr_ok a0 a1 hx3) rfl ent29 rfl rfl) (by decide) ?_
  refine alP (some 8) rfl rfl (does_bin (v := .bool (decide ((0 : Int) ≤ x3))) (by conv => lhs; whnf) (by conv => lhs; whnf) rfl) (by decide) ?_
  refine alP (some 4) rfl rfl (does_assign (v := .bool (decide ((0 : Int) ≤ x3))) (by exact rfl)) (by decide) ?_
  refine al_nil ?_
  refine hK2 _ ?_
  refine aw_ret ?_
  obtain rfl := Option.some.inj h
  exact ret_ok1 (by conv => lhs; whnf) (by conv => lhs; whnf) (by exact rfl) (.inr rfl) rfl
def search_Match_k1 (a0 : Query) (a1 : Span) (v5_1 : Bool) : Option (Unit ⊕ Bool) :=
  if v5_1 = true then (some (Sum.inr false)) else (if (a0.Dur != 0) = true then (if (decide (a1.Dur < a0.Dur)) = true then (some (Sum.inr false)) else (if a0.Err = true then (if (!a1.Err) = true then (some (Sum.inr false)) else (some (Sum.inl ()))) else (some (Sum.inl ())))) else (if a0.Err = true then (if (!a1.Err) = true then (some (Sum.inr false)) else (some (Sum.inl ()))) else (some (Sum.inl ()))))
def search_Match_k0 (a0 : Query) (a1 : Span) : Option Bool :=
  if (ByteArray.toList a0.Key == ByteArray.toList (strOf [])) = true then (if (ByteArray.toList a0.Value == ByteArray.toList (strOf [])) = true then (some true) else (Option.bind (slices_Contains_Attr a1.Attrs (Attr.mk a0.Key a0.Value)) (fun (x25 : Bool) => some x25))) else (Option.bind (slices_Contains_Attr a1.Attrs (Attr.mk a0.Key a0.Value)) (fun (x26 : Bool) => some x26))
def search_Match (a0 : Query) (a1 : Span) : Option Bool :=
  Option.bind (Option.bind (if (!(ByteArray.toList a0.Service == ByteArray.toList (strOf []))) = true then (if (!(ByteArray.toList a0.Service == ByteArray.toList a1.Service)) = true then (some true) else (if (!(ByteArray.toList a0.Op == ByteArray.toList (strOf []))) = true then (some (!(ByteArray.toList a0.Op == ByteArray.toList a1.Op))) else (some false))) else (if (!(ByteArray.toList a0.Op == ByteArray.toList (strOf []))) = true then (some (!(ByteArray.toList a0.Op == ByteArray.toList a1.Op))) else (some false))) (fun (s : Bool) => search_Match_k1 a0 a1 s)) (Sum.elim (fun (s : Unit) => search_Match_k0 a0 a1) some)
set_option maxRecDepth 100000 in
set_option maxHeartbeats 8000000 in
/-- gleaning/search.Match -/
theorem search_Match_ok (a0 : Query) (a1 : Span) {r : Bool} (h : search_Match a0 a1 = some r) : Ok Try.prog 11 [.agg [.str a0.Service, .str a0.Op, .str a0.Key, .str a0.Value, .int .i64 a0.Dur, .bool a0.Err], .agg [.int .u64 a1.Trace.Hi, .int .u64 a1.Trace.Lo, .int .u64 a1.Id, .int .u64 a1.Parent, .str a1.Service, .str a1.Op, .int .i64 a1.Start, .int .i64 a1.Dur, .bool a1.Err, .sl 2 (List.map enc53 a1.Attrs)]] [] [] (.bool r) [] [] := by
  unfold search_Match at h
  refine ok_of_code Try.func11 rfl (by show (2 : Nat) ≤ _; decide) (Nat.le_refl _) fun X => ?_
  refine aw_seq_k (fun K1 hK1 => ?_)
  refine aw_regL ?_
  refine alD (some 2) rfl rfl (do_box (by conv => lhs; whnf) rfl rfl) (by decide) ?_
  refine alD (some 3) rfl rfl (do_box (by conv => lhs; whnf) rfl rfl) (by decide) ?_
  refine alP (some 4) rfl rfl (does_assign (v := .bool false) (by exact rfl)) (by decide) ?_
  refine al_nil ?_
  refine hK1 _ ?_
  obtain ⟨q2, h, hk3⟩ := bnd_some h
  refine aw_cut (fun s => search_Match_k0 a0 a1 = some r ∧ s = lit [(2, .ptr 2 0 0), (3, .ptr 3 0 0)] [((2, 0), .box [.str a0.Service, .str a0.Op, .str a0.Key, .str a0.Value, .int .i64 a0.Dur, .bool a0.Err]), ((3, 0), .box [.int .u64 a1.Trace.Hi, .int .u64 a1.Trace.Lo, .int .u64 a1.Id, .int .u64 a1.Parent, .str a1.Service, .str a1.Op, .int .i64 a1.Start, .int .i64 a1.Dur, .bool a1.Err, .sl 2 (List.map enc53 a1.Attrs)])] [(2, 1), (3, 1)] X) ?_ ?_
  · skip
    refine aw_block ?_
    obtain ⟨q4, h, hk5⟩ := bnd_some h
    refine aw_cut (fun s => ∃ (v5_1 : Bool), search_Match_k1 a0 a1 v5_1 = some q2 ∧ s = lit [(2, .ptr 2 0 0), (3, .ptr 3 0 0), (5, .bool v5_1)] [((2, 0), .box [.str a0.Service, .str a0.Op, .str a0.Key, .str a0.Value, .int .i64 a0.Dur, .bool a0.Err]), ((3, 0), .box [.int .u64 a1.Trace.Hi, .int .u64 a1.Trace.Lo, .int .u64 a1.Id, .int .u64 a1.Parent, .str a1.Service, .str a1.Op, .int .i64 a1.Start, .int .i64 a1.Dur, .bool a1.Err, .sl 2 (List.map enc53 a1.Attrs)])] [(2, 1), (3, 1)] X) ?_ ?_
    · skip
      refine aw_regL ?_
      refine alP (some 6) rfl rfl (does_fieldAddr (q := .ptr 2 0 0) (by conv => lhs; whnf) ty24 rfl ty9 (by decide) (by exact rfl)) (by decide) ?_
      refine alR (some 7) rfl rfl (does_load (v := .str a0.Service) (by conv => lhs; whnf) (by conv => lhs; whnf) ty9 (by exact rfl)) (by decide) ?_
      refine alP (some 8) rfl rfl (does_bin (v := .bool (!(ByteArray.toList a0.Service == ByteArray.toList (strOf [])))) (by conv => lhs; whnf) (by conv => lhs; whnf) rfl) (by decide) ?_
      refine alP (some 9) rfl rfl (does_move (v := .bool (!(ByteArray.toList a0.Service == ByteArray.toList (strOf [])))) (by exact rfl)) (by decide) ?_
      refine al_bool (c := (!(ByteArray.toList a0.Service == ByteArray.toList (strOf [])))) 9 rfl (fun c6 => ?_) (fun c6 => ?_)
      · have h := ifT c6 h
        refine alP (some 10) rfl rfl (does_fieldAddr (q := .ptr 2 0 0) (by conv => lhs; whnf) ty24 rfl ty9 (by decide) (by exact rfl)) (by decide) ?_
        refine alR (some 11) rfl rfl (does_load (v := .str a0.Service) (by conv => lhs; whnf) (by conv => lhs; whnf) ty9 (by exact rfl)) (by decide) ?_
        refine alP (some 12) rfl rfl (does_fieldAddr (q := .ptr 3 0 4) (by conv => lhs; whnf) ty30 rfl ty9 (by decide) (by exact rfl)) (by decide) ?_
        refine alR (some 13) rfl rfl (does_load (v := .str a1.Service) (by conv => lhs; whnf) (by conv => lhs; whnf) ty9 (by exact rfl)) (by decide) ?_
        refine alP (some 14) rfl rfl (does_bin (v := .bool (!(ByteArray.toList a0.Service == ByteArray.toList a1.Service))) (by conv => lhs; whnf) (by conv => lhs; whnf) rfl) (by decide) ?_
        refine alP (some 15) rfl rfl (does_pick (v := .bool (!(ByteArray.toList a0.Service == ByteArray.toList a1.Service))) (by conv => lhs; whnf) (by exact rfl)) (by decide) ?_
        refine alP (some 16) rfl rfl (does_move (v := .bool (!(ByteArray.toList a0.Service == ByteArray.toList a1.Service))) (by exact rfl)) (by decide) ?_
        refine al_bool (c := (!(ByteArray.toList a0.Service == ByteArray.toList a1.Service))) 16 rfl (fun c7 => ?_) (fun c7 => ?_)
        · have h := ifT c7 h
          refine alS (some 17) rfl rfl (by decide) ?_
          refine alS (some 18) rfl rfl (by decide) ?_
          refine alS (some 19) rfl rfl (by decide) ?_
          refine alS (some 20) rfl rfl (by decide) ?_
          refine alS (some 21) rfl rfl (by decide) ?_
          refine alS (some 22) rfl rfl (by decide) ?_
          refine alS (some 23) rfl rfl (by decide) ?_
          refine alS (some 24) rfl rfl (by decide) ?_
          refine alS (some 25) rfl rfl (by decide) ?_
          refine alS (some 26) rfl rfl (by decide) ?_
          refine alP (some 27) rfl rfl (does_pick (v := .bool true) (by conv => lhs; whnf) (by exact rfl)) (by decide) ?_
          refine alP (some 5) rfl rfl (does_assign (v := .bool true) (by exact rfl)) (by decide) ?_
          refine al_nil ?_
          obtain rfl := Option.some.inj h
          have h := hk5
          exact ⟨_, reb_lit [(2, .ptr 2 0 0), (3, .ptr 3 0 0), (5, .bool true)] [(2, 0), (3, 0)] [((2, 0), .box [.str a0.Service, .str a0.Op, .str a0.Key, .str a0.Value, .int .i64 a0.Dur, .bool a0.Err]), ((3, 0), .box [.int .u64 a1.Trace.Hi, .int .u64 a1.Trace.Lo, .int .u64 a1.Id, .int .u64 a1.Parent, .str a1.Service, .str a1.Op, .int .i64 a1.Start, .int .i64 a1.Dur, .bool a1.Err, .sl 2 (List.map enc53 a1.Attrs)])] [(2, 1), (3, 1)] (envOk_cons (by conv => lhs; whnf) (by exact rfl) (envOk_cons (by conv => lhs; whnf) (by exact rfl) (envOk_cons (by conv => lhs; whnf) (by exact rfl) envOk_nil))) (objOk_cons (by conv => lhs; whnf) (by conv => lhs; whnf) (by exact rfl) (by simp) (objOk_cons (by conv => lhs; whnf) (by conv => lhs; whnf) (by exact rfl) (by simp) objOk_nil)) (nodup_b rfl) (nodup_b rfl) rfl rfl, true, h, rfl⟩
        · have h := ifF c7 h
          refine alP (some 17) rfl rfl (does_fieldAddr (q := .ptr 2 0 1) (by conv => lhs; whnf) ty24 rfl ty9 (by decide) (by exact rfl)) (by decide) ?_
          refine alR (some 18) rfl rfl (does_load (v := .str a0.Op) (by conv => lhs; whnf) (by conv => lhs; whnf) ty9 (by exact rfl)) (by decide) ?_
          refine alP (some 19) rfl rfl (does_bin (v := .bool (!(ByteArray.toList a0.Op == ByteArray.toList (strOf [])))) (by conv => lhs; whnf) (by conv => lhs; whnf) rfl) (by decide) ?_
          refine alP (some 20) rfl rfl (does_move (v := .bool (!(ByteArray.toList a0.Op == ByteArray.toList (strOf [])))) (by exact rfl)) (by decide) ?_
          refine al_bool (c := (!(ByteArray.toList a0.Op == ByteArray.toList (strOf [])))) 20 rfl (fun c8 => ?_) (fun c8 => ?_)
          · have h := ifT c8 h
            refine alP (some 21) rfl rfl (does_fieldAddr (q := .ptr 2 0 1) (by conv => lhs; whnf) ty24 rfl ty9 (by decide) (by exact rfl)) (by decide) ?_
            refine alR (some 22) rfl rfl (does_load (v := .str a0.Op) (by conv => lhs; whnf) (by conv => lhs; whnf) ty9 (by exact rfl)) (by decide) ?_
            refine alP (some 23) rfl rfl (does_fieldAddr (q := .ptr 3 0 5) (by conv => lhs; whnf) ty30 rfl ty9 (by decide) (by exact rfl)) (by decide) ?_
            refine alR (some 24) rfl rfl (does_load (v := .str a1.Op) (by conv => lhs; whnf) (by conv => lhs; whnf) ty9 (by exact rfl)) (by decide) ?_
            refine alP (some 25) rfl rfl (does_bin (v := .bool (!(ByteArray.toList a0.Op == ByteArray.toList a1.Op))) (by conv => lhs; whnf) (by conv => lhs; whnf) rfl) (by decide) ?_
            refine alP (some 26) rfl rfl (does_pick (v := .bool (!(ByteArray.toList a0.Op == ByteArray.toList a1.Op))) (by conv => lhs; whnf) (by exact rfl)) (by decide) ?_
            refine alP (some 27) rfl rfl (does_pick (v := .bool (!(ByteArray.toList a0.Op == ByteArray.toList a1.Op))) (by conv => lhs; whnf) (by exact rfl)) (by decide) ?_
            refine alP (some 5) rfl rfl (does_assign (v := .bool (!(ByteArray.toList a0.Op == ByteArray.toList a1.Op))) (by exact rfl)) (by decide) ?_
            refine al_nil ?_
            obtain rfl := Option.some.inj h
            have h := hk5
            exact ⟨_, reb_lit [(2, .ptr 2 0 0), (3, .ptr 3 0 0), (5, .bool (!(ByteArray.toList a0.Op == ByteArray.toList a1.Op)))] [(2, 0), (3, 0)] [((2, 0), .box [.str a0.Service, .str a0.Op, .str a0.Key, .str a0.Value, .int .i64 a0.Dur, .bool a0.Err]), ((3, 0), .box [.int .u64 a1.Trace.Hi, .int .u64 a1.Trace.Lo, .int .u64 a1.Id, .int .u64 a1.Parent, .str a1.Service, .str a1.Op, .int .i64 a1.Start, .int .i64 a1.Dur, .bool a1.Err, .sl 2 (List.map enc53 a1.Attrs)])] [(2, 1), (3, 1)] (envOk_cons (by conv => lhs; whnf) (by exact rfl) (envOk_cons (by conv => lhs; whnf) (by exact rfl) (envOk_cons (by conv => lhs; whnf) (by exact rfl) envOk_nil))) (objOk_cons (by conv => lhs; whnf) (by conv => lhs; whnf) (by exact rfl) (by simp) (objOk_cons (by conv => lhs; whnf) (by conv => lhs; whnf) (by exact rfl) (by simp) objOk_nil)) (nodup_b rfl) (nodup_b rfl) rfl rfl, (!(ByteArray.toList a0.Op == ByteArray.toList a1.Op)), h, rfl⟩
          · have h := ifF c8 h
            refine alS (some 21) rfl rfl (by decide) ?_
            refine alS (some 22) rfl rfl (by decide) ?_
            refine alS (some 23) rfl rfl (by decide) ?_
            refine alS (some 24) rfl rfl (by decide) ?_
            refine alS (some 25) rfl rfl (by decide) ?_
            refine alP (some 26) rfl rfl (does_pick (v := .bool false) (by conv => lhs; whnf) (by exact rfl)) (by decide) ?_
            refine alP (some 27) rfl rfl (does_pick (v := .bool false) (by conv => lhs; whnf) (by exact rfl)) (by decide) ?_
            refine alP (some 5) rfl rfl (does_assign (v := .bool false) (by exact rfl)) (by decide) ?_
            refine al_nil ?_
            obtain rfl := Option.some.inj h
            have h := hk5
            exact ⟨_, reb_lit [(2, .ptr 2 0 0), (3, .ptr 3 0 0), (5, .bool false)] [(2, 0), (3, 0)] [((2, 0), .box [.str a0.Service, .str a0.Op, .str a0.Key, .str a0.Value, .int .i64 a0.Dur, .bool a0.Err]), ((3, 0), .box [.int .u64 a1.Trace.Hi, .int .u64 a1.Trace.Lo, .int .u64 a1.Id, .int .u64 a1.Parent, .str a1.Service, .str a1.Op, .int .i64 a1.Start, .int .i64 a1.Dur, .bool a1.Err, .sl 2 (List.map enc53 a1.Attrs)])] [(2, 1), (3, 1)] (envOk_cons (by conv => lhs; whnf) (by exact rfl) (envOk_cons (by conv => lhs; whnf) (by exact rfl) (envOk_cons (by conv => lhs; whnf) (by exact rfl) envOk_nil))) (objOk_cons (by conv => lhs; whnf) (by conv => lhs; whnf) (by exact rfl) (by simp) (objOk_cons (by conv => lhs; whnf) (by conv => lhs; whnf) (by exact rfl) (by simp) objOk_nil)) (nodup_b rfl) (nodup_b rfl) rfl rfl, false, h, rfl⟩
      · have h := ifF c6 h
        refine alS (some 10) rfl rfl (by decide) ?_
        refine alS (some 11) rfl rfl (by decide) ?_
        refine alS (some 12) rfl rfl (by decide) ?_
        refine alS (some 13) rfl rfl (by decide) ?_
        refine alS (some 14) rfl rfl (by decide) ?_
        refine alP (some 15) rfl rfl (does_pick (v := .bool false) (by conv => lhs; whnf) (by exact rfl)) (by decide) ?_
        refine alP (some 16) rfl rfl (does_move (v := .bool false) (by exact rfl)) (by decide) ?_
        refine alP (some 17) rfl rfl (does_fieldAddr (q := .ptr 2 0 1) (by conv => lhs; whnf) ty24 rfl ty9 (by decide) (by exact rfl)) (by decide) ?_
        refine alR (some 18) rfl rfl (does_load (v := .str a0.Op) (by conv => lhs; whnf) (by conv => lhs; whnf) ty9 (by exact rfl)) (by decide) ?_
        refine alP (some 19) rfl rfl (does_bin (v := .bool (!(ByteArray.toList a0.Op == ByteArray.toList (strOf [])))) (by conv => lhs; whnf) (by conv => lhs; whnf) rfl) (by decide) ?_
        refine alP (some 20) rfl rfl (does_move (v := .bool (!(ByteArray.toList a0.Op == ByteArray.toList (strOf [])))) (by exact rfl)) (by decide) ?_
        refine al_bool (c := (!(ByteArray.toList a0.Op == ByteArray.toList (strOf [])))) 20 rfl (fun c9 => ?_) (fun c9 => ?_)
        · have h := ifT c9 h
          refine alP (some 21) rfl rfl (does_fieldAddr (q := .ptr 2 0 1) (by conv => lhs; whnf) ty24 rfl ty9 (by decide) (by exact rfl)) (by decide) ?_
          refine alR (some 22) rfl rfl (does_load (v := .str a0.Op) (by conv => lhs; whnf) (by conv => lhs; whnf) ty9 (by exact rfl)) (by decide) ?_
          refine alP (some 23) rfl rfl (does_fieldAddr (q := .ptr 3 0 5) (by conv => lhs; whnf) ty30 rfl ty9 (by decide) (by exact rfl)) (by decide) ?_
          refine alR (some 24) rfl rfl (does_load (v := .str a1.Op) (by conv => lhs; whnf) (by conv => lhs; whnf) ty9 (by exact rfl)) (by decide) ?_
          refine alP (some 25) rfl rfl (does_bin (v := .bool (!(ByteArray.toList a0.Op == ByteArray.toList a1.Op))) (by conv => lhs; whnf) (by conv => lhs; whnf) rfl) (by decide) ?_
          refine alP (some 26) rfl rfl (does_pick (v := .bool (!(ByteArray.toList a0.Op == ByteArray.toList a1.Op))) (by conv => lhs; whnf) (by exact rfl)) (by decide) ?_
          refine alP (some 27) rfl rfl (does_pick (v := .bool (!(ByteArray.toList a0.Op == ByteArray.toList a1.Op))) (by conv => lhs; whnf) (by exact rfl)) (by decide) ?_
          refine alP (some 5) rfl rfl (does_assign (v := .bool (!(ByteArray.toList a0.Op == ByteArray.toList a1.Op))) (by exact rfl)) (by decide) ?_
          refine al_nil ?_
          obtain rfl := Option.some.inj h
          have h := hk5
          exact ⟨_, reb_lit [(2, .ptr 2 0 0), (3, .ptr 3 0 0), (5, .bool (!(ByteArray.toList a0.Op == ByteArray.toList a1.Op)))] [(2, 0), (3, 0)] [((2, 0), .box [.str a0.Service, .str a0.Op, .str a0.Key, .str a0.Value, .int .i64 a0.Dur, .bool a0.Err]), ((3, 0), .box [.int .u64 a1.Trace.Hi, .int .u64 a1.Trace.Lo, .int .u64 a1.Id, .int .u64 a1.Parent, .str a1.Service, .str a1.Op, .int .i64 a1.Start, .int .i64 a1.Dur, .bool a1.Err, .sl 2 (List.map enc53 a1.Attrs)])] [(2, 1), (3, 1)] (envOk_cons (by conv => lhs; whnf) (by exact rfl) (envOk_cons (by conv => lhs; whnf) (by exact rfl) (envOk_cons (by conv => lhs; whnf) (by exact rfl) envOk_nil))) (objOk_cons (by conv => lhs; whnf) (by conv => lhs; whnf) (by exact rfl) (by simp) (objOk_cons (by conv => lhs; whnf) (by conv => lhs; whnf) (by exact rfl) (by simp) objOk_nil)) (nodup_b rfl) (nodup_b rfl) rfl rfl, (!(ByteArray.toList a0.Op == ByteArray.toList a1.Op)), h, rfl⟩
        · have h := ifF c9 h
          refine alS (some 21) rfl rfl (by decide) ?_
          refine alS (some 22) rfl rfl (by decide) ?_
          refine alS (some 23) rfl rfl (by decide) ?_
          refine alS (some 24) rfl rfl (by decide) ?_
          refine alS (some 25) rfl rfl (by decide) ?_
          refine alP (some 26) rfl rfl (does_pick (v := .bool false) (by conv => lhs; whnf) (by exact rfl)) (by decide) ?_
          refine alP (some 27) rfl rfl (does_pick (v := .bool false) (by conv => lhs; whnf) (by exact rfl)) (by decide) ?_
          refine alP (some 5) rfl rfl (does_assign (v := .bool false) (by exact rfl)) (by decide) ?_
          refine al_nil ?_
          obtain rfl := Option.some.inj h
          have h := hk5
          exact ⟨_, reb_lit [(2, .ptr 2 0 0), (3, .ptr 3 0 0), (5, .bool false)] [(2, 0), (3, 0)] [((2, 0), .box [.str a0.Service, .str a0.Op, .str a0.Key, .str a0.Value, .int .i64 a0.Dur, .bool a0.Err]), ((3, 0), .box [.int .u64 a1.Trace.Hi, .int .u64 a1.Trace.Lo, .int .u64 a1.Id, .int .u64 a1.Parent, .str a1.Service, .str a1.Op, .int .i64 a1.Start, .int .i64 a1.Dur, .bool a1.Err, .sl 2 (List.map enc53 a1.Attrs)])] [(2, 1), (3, 1)] (envOk_cons (by conv => lhs; whnf) (by exact rfl) (envOk_cons (by conv => lhs; whnf) (by exact rfl) (envOk_cons (by conv => lhs; whnf) (by exact rfl) envOk_nil))) (objOk_cons (by conv => lhs; whnf) (by conv => lhs; whnf) (by exact rfl) (by simp) (objOk_cons (by conv => lhs; whnf) (by conv => lhs; whnf) (by exact rfl) (by simp) objOk_nil)) (nodup_b rfl) (nodup_b rfl) rfl rfl, false, h, rfl⟩
    · rintro s ⟨v5_1, h, rfl⟩
      unfold search_Match_k1 at h
      refine aw_bool (b := v5_1) 5 rfl (fun c10 => ?_) (fun c10 => ?_)
      · have h := ifT c10 h
        refine aw_cond_t (by decide) rfl ?_
        refine aw_seq_k (fun K11 hK11 => ?_)
        refine aw_regL ?_
        refine alP (some 4) rfl rfl (does_assign (v := .bool false) (by exact rfl)) (by decide) ?_
        refine al_nil ?_
        refine hK11 _ ?_
        refine aw_ret ?_
        have h := leafR h hk3
        obtain rfl := Option.some.inj h
        exact ret_ok1 (by conv => lhs; whnf) (by conv => lhs; whnf) (by exact rfl) (.inr rfl) rfl
      · have h := ifF c10 h
        refine aw_cond_f (by decide) rfl ?_
        refine aw_seq_k (fun K12 hK12 => ?_)
        refine aw_regL ?_
        refine alP (some 29) rfl rfl (does_fieldAddr (q := .ptr 2 0 4) (by conv => lhs; whnf) ty24 rfl ty3 (by decide) (by exact rfl)) (by decide) ?_
        refine alR (some 30) rfl rfl (does_load (v := .int .i64 a0.Dur) (by conv => lhs; whnf) (by conv => lhs; whnf) ty3 (by exact rfl)) (by decide) ?_
        refine alP (some 31) rfl rfl (does_bin (v := .bool (a0.Dur != 0)) (by conv => lhs; whnf) (by conv => lhs; whnf) rfl) (by decide) ?_
        refine alP (some 32) rfl rfl (does_move (v := .bool (a0.Dur != 0)) (by exact rfl)) (by decide) ?_
        refine al_bool (c := (a0.Dur != 0)) 32 rfl (fun c13 => ?_) (fun c13 => ?_)
        · have h := ifT c13 h
          refine alP (some 33) rfl rfl (does_fieldAddr (q := .ptr 3 0 7) (by conv => lhs; whnf) ty30 rfl ty3 (by decide) (by exact rfl)) (by decide) ?_
          refine alR (some 34) rfl rfl (does_load (v := .int .i64 a1.Dur) (by conv => lhs; whnf) (by conv => lhs; whnf) ty3 (by exact rfl)) (by decide) ?_
          refine alP (some 35) rfl rfl (does_fieldAddr (q := .ptr 2 0 4) (by conv => lhs; whnf) ty24 rfl ty3 (by decide) (by exact rfl)) (by decide) ?_
          refine alR (some 36) rfl rfl (does_load (v := .int .i64 a0.Dur) (by conv => lhs; whnf) (by conv => lhs; whnf) ty3 (by exact rfl)) (by decide) ?_
          refine alP (some 37) rfl rfl (does_bin (v := .bool (decide (a1.Dur < a0.Dur))) (by conv => lhs; whnf) (by conv => lhs; whnf) rfl) (by decide) ?_
          refine alP (some 38) rfl rfl (does_pick (v := .bool (decide (a1.Dur < a0.Dur))) (by conv => lhs; whnf) (by exact rfl)) (by decide) ?_
          refine alP (some 39) rfl rfl (does_move (v := .bool (decide (a1.Dur < a0.Dur))) (by exact rfl)) (by decide) ?_
          refine al_bool (c := (decide (a1.Dur < a0.Dur))) 39 rfl (fun c14 => ?_) (fun c14 => ?_)
          · have h := ifT c14 h
            refine alS (some 40) rfl rfl (by decide) ?_
            refine alS (some 41) rfl rfl (by decide) ?_
            refine alS (some 42) rfl rfl (by decide) ?_
            refine alS (some 43) rfl rfl (by decide) ?_
            refine alS (some 44) rfl rfl (by decide) ?_
            refine alS (some 45) rfl rfl (by decide) ?_
            refine alS (some 46) rfl rfl (by decide) ?_
            refine alP (some 47) rfl rfl (does_pick (v := .bool true) (by conv => lhs; whnf) (by exact rfl)) (by decide) ?_
            refine alP (some 28) rfl rfl (does_assign (v := .bool true) (by exact rfl)) (by decide) ?_
            refine al_nil ?_
            refine hK12 _ ?_
            refine aw_cond_t (by decide) rfl ?_
            refine aw_seq_k (fun K15 hK15 => ?_)
            refine aw_regL ?_
            refine alP (some 4) rfl rfl (does_assign (v := .bool false) (by exact rfl)) (by decide) ?_
            refine al_nil ?_
            refine hK15 _ ?_
            refine aw_ret ?_
            have h := leafR h hk3
            obtain rfl := Option.some.inj h
            exact ret_ok1 (by conv => lhs; whnf) (by conv => lhs; whnf) (by exact rfl) (.inr rfl) rfl
          · have h := ifF c14 h
            refine alP (some 40) rfl rfl (does_fieldAddr (q := .ptr 2 0 5) (by conv => lhs; whnf) ty24 rfl ty4 (by decide) (by exact rfl)) (by decide) ?_
            refine alR (some 41) rfl rfl (does_load (v := .bool a0.Err) (by conv => lhs; whnf) (by conv => lhs; whnf) ty4 (by exact rfl)) (by decide) ?_
            refine alP (some 42) rfl rfl (does_move (v := .bool a0.Err) (by exact rfl)) (by decide) ?_
            refine al_bool (c := a0.Err) 42 rfl (fun c16 => ?_) (fun c16 => ?_)
            · have h := ifT c16 h
              refine alP (some 43) rfl rfl (does_fieldAddr (q := .ptr 3 0 8) (by conv => lhs; whnf) ty30 rfl ty4 (by decide) (by exact rfl)) (by decide) ?_
              refine alR (some 44) rfl rfl (does_load (v := .bool a1.Err) (by conv => lhs; whnf) (by conv => lhs; whnf) ty4 (by exact rfl)) (by decide) ?_
              refine alP (some 45) rfl rfl (does_un (v := .bool (!a1.Err)) (by conv => lhs; whnf) rfl) (by decide) ?_
              refine alP (some 46) rfl rfl (does_pick (v := .bool (!a1.Err)) (by conv => lhs; whnf) (by exact rfl)) (by decide) ?_
              refine alP (some 47) rfl rfl (does_pick (v := .bool (!a1.Err)) (by conv => lhs; whnf) (by exact rfl)) (by decide) ?_
              refine alP (some 28) rfl rfl (does_assign (v := .bool (!a1.Err)) (by exact rfl)) (by decide) ?_
              refine al_nil ?_
              refine hK12 _ ?_
              refine aw_bool (b := (!a1.Err)) 28 rfl (fun c17 => ?_) (fun c17 => ?_)
              · have h := ifT c17 h
                refine aw_cond_t (by decide) rfl ?_
                refine aw_seq_k (fun K18 hK18 => ?_)
                refine aw_regL ?_
                refine alP (some 4) rfl rfl (does_assign (v := .bool false) (by exact rfl)) (by decide) ?_
                refine al_nil ?_
                refine hK18 _ ?_
                refine aw_ret ?_
                have h := leafR h hk3
                obtain rfl := Option.some.inj h
                exact ret_ok1 (by conv => lhs; whnf) (by conv => lhs; whnf) (by exact rfl) (.inr rfl) rfl
              · have h := ifF c17 h
                refine aw_cond_f (by decide) rfl ?_
                refine aw_skip ?_
                have h := leafL h hk3
                exact ⟨_, reb_lit [(2, .ptr 2 0 0), (3, .ptr 3 0 0)] [(2, 0), (3, 0)] [((2, 0), .box [.str a0.Service, .str a0.Op, .str a0.Key, .str a0.Value, .int .i64 a0.Dur, .bool a0.Err]), ((3, 0), .box [.int .u64 a1.Trace.Hi, .int .u64 a1.Trace.Lo, .int .u64 a1.Id, .int .u64 a1.Parent, .str a1.Service, .str a1.Op, .int .i64 a1.Start, .int .i64 a1.Dur, .bool a1.Err, .sl 2 (List.map enc53 a1.Attrs)])] [(2, 1), (3, 1)] (envOk_cons (by conv => lhs; whnf) (by exact rfl) (envOk_cons (by conv => lhs; whnf) (by exact rfl) envOk_nil)) (objOk_cons (by conv => lhs; whnf) (by conv => lhs; whnf) (by exact rfl) (by simp) (objOk_cons (by conv => lhs; whnf) (by conv => lhs; whnf) (by exact rfl) (by simp) objOk_nil)) (nodup_b rfl) (nodup_b rfl) rfl rfl, h, rfl⟩
            · have h := ifF c16 h
              refine alS (some 43) rfl rfl (by decide) ?_
              refine alS (some 44) rfl rfl (by decide) ?_
              refine alS (some 45) rfl rfl (by decide) ?_
              refine alP (some 46) rfl rfl (does_pick (v := .bool false) (by conv => lhs; whnf) (by exact rfl)) (by decide) ?_
              refine alP (some 47) rfl rfl (does_pick (v := .bool false) (by conv => lhs; whnf) (by exact rfl)) (by decide) ?_
              refine alP (some 28) rfl rfl (does_assign (v := .bool false) (by exact rfl)) (by decide) ?_
              refine al_nil ?_
              refine hK12 _ ?_
              refine aw_cond_f (by decide) rfl ?_
              refine aw_skip ?_
              have h := leafL h hk3
              exact ⟨_, reb_lit [(2, .ptr 2 0 0), (3, .ptr 3 0 0)] [(2, 0), (3, 0)] [((2, 0), .box [.str a0.Service, .str a0.Op, .str a0.Key, .str a0.Value, .int .i64 a0.Dur, .bool a0.Err]), ((3, 0), .box [.int .u64 a1.Trace.Hi, .int .u64 a1.Trace.Lo, .int .u64 a1.Id, .int .u64 a1.Parent, .str a1.Service, .str a1.Op, .int .i64 a1.Start, .int .i64 a1.Dur, .bool a1.Err, .sl 2 (List.map enc53 a1.Attrs)])] [(2, 1), (3, 1)] (envOk_cons (by conv => lhs; whnf) (by exact rfl) (envOk_cons (by conv => lhs; whnf) (by exact rfl) envOk_nil)) (objOk_cons (by conv => lhs; whnf) (by conv => lhs; whnf) (by exact rfl) (by simp) (objOk_cons (by conv => lhs; whnf) (by conv => lhs; whnf) (by exact rfl) (by simp) objOk_nil)) (nodup_b rfl) (nodup_b rfl) rfl rfl, h, rfl⟩
        · have h := ifF c13 h
          refine alS (some 33) rfl rfl (by decide) ?_
          refine alS (some 34) rfl rfl (by decide) ?_
          refine alS (some 35) rfl rfl (by decide) ?_
          refine alS (some 36) rfl rfl (by decide) ?_
          refine alS (some 37) rfl rfl (by decide) ?_
          refine alP (some 38) rfl rfl (does_pick (v := .bool false) (by conv => lhs; whnf) (by exact rfl)) (by decide) ?_
          refine alP (some 39) rfl rfl (does_move (v := .bool false) (by exact rfl)) (by decide) ?_
          refine alP (some 40) rfl rfl (does_fieldAddr (q := .ptr 2 0 5) (by conv => lhs; whnf) ty24 rfl ty4 (by decide) (by exact rfl)) (by decide) ?_
          refine alR (some 41) rfl rfl (does_load (v := .bool a0.Err) (by conv => lhs; whnf) (by conv => lhs; whnf) ty4 (by exact rfl)) (by decide) ?_
          refine alP (some 42) rfl rfl (does_move (v := .bool a0.Err) (by exact rfl)) (by decide) ?_
          refine al_bool (c := a0.Err) 42 rfl (fun c19 => ?_) (fun c19 => ?_)
          · have h := ifT c19 h
            refine alP (some 43) rfl rfl (does_fieldAddr (q := .ptr 3 0 8) (by conv => lhs; whnf) ty30 rfl ty4 (by decide) (by exact rfl)) (by decide) ?_
            refine alR (some 44) rfl rfl (does_load (v := .bool a1.Err) (by conv => lhs; whnf) (by conv => lhs; whnf) ty4 (by exact rfl)) (by decide) ?_
            refine alP (some 45) rfl rfl (does_un (v := .bool (!a1.Err)) (by conv => lhs; whnf) rfl) (by decide) ?_
            refine alP (some 46) rfl rfl (does_pick (v := .bool (!a1.Err)) (by conv => lhs; whnf) (by exact rfl)) (by decide) ?_
            refine alP (some 47) rfl rfl (does_pick (v := .bool (!a1.Err)) (by conv => lhs; whnf) (by exact rfl)) (by decide) ?_
            refine alP (some 28) rfl rfl (does_assign (v := .bool (!a1.Err)) (by exact rfl)) (by decide) ?_
            refine al_nil ?_
            refine hK12 _ ?_
            refine aw_bool (b := (!a1.Err)) 28 rfl (fun c20 => ?_) (fun c20 => ?_)
            · have h := ifT c20 h
              refine aw_cond_t (by decide) rfl ?_
              refine aw_seq_k (fun K21 hK21 => ?_)
              refine aw_regL ?_
              refine alP (some 4) rfl rfl (does_assign (v := .bool false) (by exact rfl)) (by decide) ?_
              refine al_nil ?_
              refine hK21 _ ?_
              refine aw_ret ?_
              have h := leafR h hk3
              obtain rfl := Option.some.inj h
              exact ret_ok1 (by conv => lhs; whnf) (by conv => lhs; whnf) (by exact rfl) (.inr rfl) rfl
            · have h := ifF c20 h
              refine aw_cond_f (by decide) rfl ?_
              refine aw_skip ?_
              have h := leafL h hk3
              exact ⟨_, reb_lit [(2, .ptr 2 0 0), (3, .ptr 3 0 0)] [(2, 0), (3, 0)] [((2, 0), .box [.str a0.Service, .str a0.Op, .str a0.Key, .str a0.Value, .int .i64 a0.Dur, .bool a0.Err]), ((3, 0), .box [.int .u64 a1.Trace.Hi, .int .u64 a1.Trace.Lo, .int .u64 a1.Id, .int .u64 a1.Parent, .str a1.Service, .str a1.Op, .int .i64 a1.Start, .int .i64 a1.Dur, .bool a1.Err, .sl 2 (List.map enc53 a1.Attrs)])] [(2, 1), (3, 1)] (envOk_cons (by conv => lhs; whnf) (by exact rfl) (envOk_cons (by conv => lhs; whnf) (by exact rfl) envOk_nil)) (objOk_cons (by conv => lhs; whnf) (by conv => lhs; whnf) (by exact rfl) (by simp) (objOk_cons (by conv => lhs; whnf) (by conv => lhs; whnf) (by exact rfl) (by simp) objOk_nil)) (nodup_b rfl) (nodup_b rfl) rfl rfl, h, rfl⟩
          · have h := ifF c19 h
            refine alS (some 43) rfl rfl (by decide) ?_
            refine alS (some 44) rfl rfl (by decide) ?_
            refine alS (some 45) rfl rfl (by decide) ?_
            refine alP (some 46) rfl rfl (does_pick (v := .bool false) (by conv => lhs; whnf) (by exact rfl)) (by decide) ?_
            refine alP (some 47) rfl rfl (does_pick (v := .bool false) (by conv => lhs; whnf) (by exact rfl)) (by decide) ?_
            refine alP (some 28) rfl rfl (does_assign (v := .bool false) (by exact rfl)) (by decide) ?_
            refine al_nil ?_
            refine hK12 _ ?_
            refine aw_cond_f (by decide) rfl ?_
            refine aw_skip ?_
            have h := leafL h hk3
            exact ⟨_, reb_lit [(2, .ptr 2 0 0), (3, .ptr 3 0 0)] [(2, 0), (3, 0)] [((2, 0), .box [.str a0.Service, .str a0.Op, .str a0.Key, .str a0.Value, .int .i64 a0.Dur, .bool a0.Err]), ((3, 0), .box [.int .u64 a1.Trace.Hi, .int .u64 a1.Trace.Lo, .int .u64 a1.Id, .int .u64 a1.Parent, .str a1.Service, .str a1.Op, .int .i64 a1.Start, .int .i64 a1.Dur, .bool a1.Err, .sl 2 (List.map enc53 a1.Attrs)])] [(2, 1), (3, 1)] (envOk_cons (by conv => lhs; whnf) (by exact rfl) (envOk_cons (by conv => lhs; whnf) (by exact rfl) envOk_nil)) (objOk_cons (by conv => lhs; whnf) (by conv => lhs; whnf) (by exact rfl) (by simp) (objOk_cons (by conv => lhs; whnf) (by conv => lhs; whnf) (by exact rfl) (by simp) objOk_nil)) (nodup_b rfl) (nodup_b rfl) rfl rfl, h, rfl⟩
  · rintro s ⟨h, rfl⟩
    unfold search_Match_k0 at h
    refine aw_seq_k (fun K22 hK22 => ?_)
    refine aw_regL ?_
    refine alP (some 48) rfl rfl (does_fieldAddr (q := .ptr 2 0 2) (by conv => lhs; whnf) ty24 rfl ty9 (by decide) (by exact rfl)) (by decide) ?_
    refine alR (some 49) rfl rfl (does_load (v := .str a0.Key) (by conv => lhs; whnf) (by conv => lhs; whnf) ty9 (by exact rfl)) (by decide) ?_
    refine alP (some 50) rfl rfl (does_bin (v := .bool (ByteArray.toList a0.Key == ByteArray.toList (strOf []))) (by conv => lhs; whnf) (by conv => lhs; whnf) rfl) (by decide) ?_
    refine alP (some 51) rfl rfl (does_move (v := .bool (ByteArray.toList a0.Key == ByteArray.toList (strOf []))) (by exact rfl)) (by decide) ?_
    refine al_bool (c := (ByteArray.toList a0.Key == ByteArray.toList (strOf []))) 51 rfl (fun c23 => ?_) (fun c23 => ?_)
    · have h := ifT c23 h
      refine alP (some 52) rfl rfl (does_fieldAddr (q := .ptr 2 0 3) (by conv => lhs; whnf) ty24 rfl ty9 (by decide) (by exact rfl)) (by decide) ?_
      refine alR (some 53) rfl rfl (does_load (v := .str a0.Value) (by conv => lhs; whnf) (by conv => lhs; whnf) ty9 (by exact rfl)) (by decide) ?_
      refine alP (some 54) rfl rfl (does_bin (v := .bool (ByteArray.toList a0.Value == ByteArray.toList (strOf []))) (by conv => lhs; whnf) (by conv => lhs; whnf) rfl) (by decide) ?_
      refine alP (some 55) rfl rfl (does_pick (v := .bool (ByteArray.toList a0.Value == ByteArray.toList (strOf []))) (by conv => lhs; whnf) (by exact rfl)) (by decide) ?_
      refine alP (some 56) rfl rfl (does_move (v := .bool (ByteArray.toList a0.Value == ByteArray.toList (strOf []))) (by exact rfl)) (by decide) ?_
      refine al_bool (c := (ByteArray.toList a0.Value == ByteArray.toList (strOf []))) 56 rfl (fun c24 => ?_) (fun c24 => ?_)
      · have h := ifT c24 h
        refine alS (some 57) rfl rfl (by decide) ?_
        refine alS (some 58) rfl rfl (by decide) ?_
        refine alS (some 59) rfl rfl (by decide) ?_
        refine alS (some 60) rfl rfl (by decide) ?_
        refine alS (some 61) rfl rfl (by decide) ?_
        refine alS (some 62) rfl rfl (by decide) ?_
        refine alS (some 63) rfl rfl (by decide) ?_
        refine alS (some 64) rfl rfl (by decide) ?_
        refine alP (some 65) rfl rfl (does_pick (v := .bool true) (by conv => lhs; whnf) (by exact rfl)) (by decide) ?_
        refine alP (some 4) rfl rfl (does_assign (v := .bool true) (by exact rfl)) (by decide) ?_
        refine al_nil ?_
        refine hK22 _ ?_
        refine aw_ret ?_
        obtain rfl := Option.some.inj h
        exact ret_ok1 (by conv => lhs; whnf) (by conv => lhs; whnf) (by exact rfl) (.inr rfl) rfl
      · have h := ifF c24 h
        refine alP (some 57) rfl rfl (does_fieldAddr (q := .ptr 3 0 9) (by conv => lhs; whnf) ty30 rfl ty28 (by decide) (by exact rfl)) (by decide) ?_
        refine alR (some 58) rfl rfl (does_load (v := .sl 2 (List.map enc53 a1.Attrs)) (by conv => lhs; whnf) (by conv => lhs; whnf) ty28 (by exact rfl)) (by decide) ?_
        refine alP (some 59) rfl rfl (does_fieldAddr (q := .ptr 2 0 2) (by conv => lhs; whnf) ty24 rfl ty9 (by decide) (by exact rfl)) (by decide) ?_
        refine alR (some 60) rfl rfl (does_load (v := .str a0.Key) (by conv => lhs; whnf) (by conv => lhs; whnf) ty9 (by exact rfl)) (by decide) ?_
        refine alP (some 61) rfl rfl (does_fieldAddr (q := .ptr 2 0 3) (by conv => lhs; whnf) ty24 rfl ty9 (by decide) (by exact rfl)) (by decide) ?_
        refine alR (some 62) rfl rfl (does_load (v := .str a0.Value) (by conv => lhs; whnf) (by conv => lhs; whnf) ty9 (by exact rfl)) (by decide) ?_
        refine alP (some 63) rfl rfl (do_build_struct (cs := [.str a0.Key, .str a0.Value]) ty54 rfl [⟨.str, 1, 16, [.str ByteArray.empty]⟩, ⟨.str, 1, 16, [.str ByteArray.empty]⟩] (by simp only [List.map, ty9]) (by rfl) (by exact rfl)) (by decide) ?_
        obtain ⟨x25, hx25, h⟩ := bnd_some h
        refine alD (some 64) rfl rfl (do_call0 64 false (slices_Contains_Attr_ok a1.Attrs (Attr.mk a0.Key a0.Value) hx25) rfl ent23 rfl rfl) (by decide) ?_
        refine alP (some 65) rfl rfl (does_pick (v := .bool x25) (by conv => lhs; whnf) (by exact rfl)) (by decide) ?_
        refine alP (some 4) rfl rfl (does_assign (v := .bool x25) (by exact rfl)) (by decide) ?_
        refine al_nil ?_
        refine hK22 _ ?_
        refine aw_ret ?_
        obtain rfl := Option.some.inj h
        exact ret_ok1 (by conv => lhs; whnf) (by conv => lhs; whnf) (by exact rfl) (.inr rfl) rfl
    · have h := ifF c23 h
      refine alS (some 52) rfl rfl (by decide) ?_
      refine alS (some 53) rfl rfl (by decide) ?_
      refine alS (some 54) rfl rfl (by decide) ?_
      refine alP (some 55) rfl rfl (does_pick (v := .bool false) (by conv => lhs; whnf) (by exact rfl)) (by decide) ?_
      refine alP (some 56) rfl rfl (does_move (v := .bool false) (by exact rfl)) (by decide) ?_
      refine alP (some 57) rfl rfl (does_fieldAddr (q := .ptr 3 0 9) (by conv => lhs; whnf) ty30 rfl ty28 (by decide) (by exact rfl)) (by decide) ?_
      refine alR (some 58) rfl rfl (does_load (v := .sl 2 (List.map enc53 a1.Attrs)) (by conv => lhs; whnf) (by conv => lhs; whnf) ty28 (by exact rfl)) (by decide) ?_
      refine alP (some 59) rfl rfl (does_fieldAddr (q := .ptr 2 0 2) (by conv => lhs; whnf) ty24 rfl ty9 (by decide) (by exact rfl)) (by decide) ?_
      refine alR (some 60) rfl rfl (does_load (v := .str a0.Key) (by conv => lhs; whnf) (by conv => lhs; whnf) ty9 (by exact rfl)) (by decide) ?_
      refine alP (some 61) rfl rfl (does_fieldAddr (q := .ptr 2 0 3) (by conv => lhs; whnf) ty24 rfl ty9 (by decide) (by exact rfl)) (by decide) ?_
      refine alR (some 62) rfl rfl (does_load (v := .str a0.Value) (by conv => lhs; whnf) (by conv => lhs; whnf) ty9 (by exact rfl)) (by decide) ?_
      refine alP (some 63) rfl rfl (do_build_struct (cs := [.str a0.Key, .str a0.Value]) ty54 rfl [⟨.str, 1, 16, [.str ByteArray.empty]⟩, ⟨.str, 1, 16, [.str ByteArray.empty]⟩] (by simp only [List.map, ty9]) (by rfl) (by exact rfl)) (by decide) ?_
      obtain ⟨x26, hx26, h⟩ := bnd_some h
      refine alD (some 64) rfl rfl (do_call0 64 false (slices_Contains_Attr_ok a1.Attrs (Attr.mk a0.Key a0.Value) hx26) rfl ent23 rfl rfl) (by decide) ?_
      refine alP (some 65) rfl rfl (does_pick (v := .bool x26) (by conv => lhs; whnf) (by exact rfl)) (by decide) ?_
      refine alP (some 4) rfl rfl (does_assign (v := .bool x26) (by exact rfl)) (by decide) ?_
      refine al_nil ?_
      refine hK22 _ ?_
      refine aw_ret ?_
      obtain rfl := Option.some.inj h
      exact ret_ok1 (by conv => lhs; whnf) (by conv => lhs; whnf) (by exact rfl) (.inr rfl) rfl
def search_all_c1 (a0 : Span) (a1 : Query) : Option Bool :=
  Option.bind (search_Match a1 a0) (fun (x3 : Bool) => some x3)
set_option maxRecDepth 100000 in
set_option maxHeartbeats 8000000 in
/-- gleaning/search.all$1 -/
theorem search_all_c1_ok (a0 : Span) (a1 : Query) {r : Bool} (h : search_all_c1 a0 a1 = some r) : Ok Try.prog 31 [.agg [.int .u64 a0.Trace.Hi, .int .u64 a0.Trace.Lo, .int .u64 a0.Id, .int .u64 a0.Parent, .str a0.Service, .str a0.Op, .int .i64 a0.Start, .int .i64 a0.Dur, .bool a0.Err, .sl 2 (List.map enc53 a0.Attrs)], .rptr [.str a1.Service, .str a1.Op, .str a1.Key, .str a1.Value, .int .i64 a1.Dur, .bool a1.Err]] [] [] (.bool r) [] [] := by
  unfold search_all_c1 at h
  refine ok_of_code Try.func31 rfl (by show (2 : Nat) ≤ _; decide) (Nat.le_refl _) fun X => ?_
  refine aw_seq_k (fun K1 hK1 => ?_)
  refine aw_regL ?_
  refine alD (some 2) rfl rfl (do_box (by conv => lhs; whnf) rfl rfl) (by decide) ?_
  refine alP (some 3) rfl rfl (does_assign (v := .bool false) (by exact rfl)) (by decide) ?_
  refine al_nil ?_
  refine hK1 _ ?_
  refine aw_seq_k (fun K2 hK2 => ?_)
  refine aw_regL ?_
  refine alR (some 4) rfl rfl (does_load (v := .agg [.str a1.Service, .str a1.Op, .str a1.Key, .str a1.Value, .int .i64 a1.Dur, .bool a1.Err]) (by conv => lhs; whnf) (by conv => lhs; whnf) ty24 (by exact rfl)) (by decide) ?_
  refine alR (some 5) rfl rfl (does_load (v := .agg [.int .u64 a0.Trace.Hi, .int .u64 a0.Trace.Lo, .int .u64 a0.Id, .int .u64 a0.Parent, .str a0.Service, .str a0.Op, .int .i64 a0.Start, .int .i64 a0.Dur, .bool a0.Err, .sl 2 (List.map enc53 a0.Attrs)]) (by conv => lhs; whnf) (by conv => lhs; whnf) ty30 (by exact rfl)) (by decide) ?_
  obtain ⟨x3, hx3, h⟩ := bnd_some h
  refine alD (some 6) rfl rfl (do_call0 6 false (search_Match_ok a1 a0 hx3) rfl ent11 rfl rfl) (by decide) ?_
  refine alP (some 3) rfl rfl (does_assign (v := .bool x3) (by exact rfl)) (by decide) ?_
  refine al_nil ?_
  refine hK2 _ ?_
  refine aw_ret ?_
  obtain rfl := Option.some.inj h
  exact ret_ok1 (by conv => lhs; whnf) (by conv => lhs; whnf) (by exact rfl) (.inr rfl) rfl
def slices_IndexFunc_Span_search_all_c1_l0 (a0 : List Span) (a1_0 : Query) (v8_0 : Int) : Option (Int ⊕ Int) :=
  if (decide (v8_0 < (List.length a0 : Int))) = true then (gd (0 ≤ v8_0) (Option.bind (a0[(Int.toNat v8_0)]?) (fun (x13 : Span) => Option.bind (search_all_c1 x13 a1_0) (fun (x14 : Bool) => if x14 = true then (some (Sum.inr v8_0)) else (some (Sum.inl (IntKind.i64.wrap (v8_0 + 1)))))))) else (some (Sum.inr (-1)))
def slices_IndexFunc_Span_search_all_c1 (a0 : List Span) (a1_0 : Query) : Option Int :=
  loopN (fun (s : Int) => slices_IndexFunc_Span_search_all_c1_l0 a0 a1_0 s) Fu 0
set_option maxRecDepth 100000 in
set_option maxHeartbeats 8000000 in
/-- slices.IndexFunc[[]gleaning/api.Span,gleaning/api.Span] -/
theorem slices_IndexFunc_Span_search_all_c1_ok (a0 : List Span) (a1_0 : Query) {r : Int} (h : slices_IndexFunc_Span_search_all_c1 a0 a1_0 = some r) : Ok Try.prog 35 [.sl 10 (List.map enc29 a0), .fn 31 [.rptr [.str a1_0.Service, .str a1_0.Op, .str a1_0.Key, .str a1_0.Value, .int .i64 a1_0.Dur, .bool a1_0.Err]]] [] [] (.int .i64 r) [] [] := by
  unfold slices_IndexFunc_Span_search_all_c1 at h
  refine ok_of_code Try.func35 rfl (by show (2 : Nat) ≤ _; decide) (Nat.le_refl _) fun X => ?_
  refine aw_seq_k (fun K1 hK1 => ?_)
  refine aw_regL ?_
  refine alP (some 4) rfl rfl (does_assign (v := .int .i64 0) (by exact rfl)) (by decide) ?_
  refine al_nil ?_
  refine hK1 _ ?_
  refine aw_seq_k (fun K2 hK2 => ?_)
  refine aw_seq_k (fun K3 hK3 => ?_)
  refine aw_regL ?_
  refine alP (some 6) rfl rfl (does_move (v := .sl 10 (List.map enc29 a0)) (by exact rfl)) (by decide) ?_
  refine alP (some 7) rfl rfl ((does_len_sl (by conv => lhs; whnf) ty49).castp (v' := .int .i64 (List.length a0 : Int)) (by exact len_map _)) (by decide) ?_
  refine alP (some 8) rfl rfl (does_move (v := .int .i64 0) (by exact rfl)) (by decide) ?_
  refine al_nil ?_
  refine hK3 _ ?_
  refine aw_block ?_
  refine aw_loop' (fun m s => ∃ (v8_0 : Int), loopN (fun (s : Int) => slices_IndexFunc_Span_search_all_c1_l0 a0 a1_0 s) m v8_0 = some r ∧ s = lit [(0, .sl 10 (List.map enc29 a0)), (1, .fn 31 [.rptr [.str a1_0.Service, .str a1_0.Op, .str a1_0.Key, .str a1_0.Value, .int .i64 a1_0.Dur, .bool a1_0.Err]]), (7, .int .i64 (List.length a0 : Int)), (8, .int .i64 v8_0)] [] [] X) Fu
    ⟨_, reb_lit [(0, .sl 10 (List.map enc29 a0)), (1, .fn 31 [.rptr [.str a1_0.Service, .str a1_0.Op, .str a1_0.Key, .str a1_0.Value, .int .i64 a1_0.Dur, .bool a1_0.Err]]), (7, .int .i64 (List.length a0 : Int)), (8, .int .i64 (0))] [] [] [] (envOk_cons (by conv => lhs; whnf) (by exact rfl) (envOk_cons (by conv => lhs; whnf) (by exact rfl) (envOk_cons (by conv => lhs; whnf) (by exact rfl) (envOk_cons (by conv => lhs; whnf) (by exact rfl) envOk_nil)))) objOk_nil (nodup_b rfl) (nodup_b rfl) rfl rfl, 0, h, rfl⟩ ?_
  rintro m s ⟨v8_0, h, rfl⟩
  obtain ⟨m0, q4, rfl, h, hq5⟩ := loop_some h
  replace h : slices_IndexFunc_Span_search_all_c1_l0 a0 a1_0 v8_0 = some q4 := h
  unfold slices_IndexFunc_Span_search_all_c1_l0 at h
  refine aw_seq_k (fun K6 hK6 => ?_)
  refine aw_regL ?_
  refine alP (some 9) rfl rfl (does_bin (v := .bool (decide (v8_0 < (List.length a0 : Int)))) (by conv => lhs; whnf) (by conv => lhs; whnf) rfl) (by decide) ?_
  refine al_nil ?_
  refine hK6 _ ?_
  refine aw_seq_k (fun K7 hK7 => ?_)
  refine aw_bool (b := (decide (v8_0 < (List.length a0 : Int)))) 9 rfl (fun c8 => ?_) (fun c8 => ?_)
  · have h := ifT c8 h
    refine aw_cond_t (by decide) rfl ?_
    refine aw_skip ?_
    refine hK7 _ ?_
    refine aw_seq_k (fun K9 hK9 => ?_)
    refine aw_block ?_
    refine aw_seq_k (fun K10 hK10 => ?_)
    refine aw_regL ?_
    refine alP (some 10) rfl rfl (does_move (v := .int .i64 v8_0) (by exact rfl)) (by decide) ?_
    refine alP (some 5) rfl rfl (does_assign (v := .int .i64 v8_0) (by exact rfl)) (by decide) ?_
    refine al_nil ?_
    refine hK10 _ ?_
    refine aw_seq_k (fun K11 hK11 => ?_)
    refine aw_regL ?_
    refine alP (some 11) rfl rfl (does_move (v := .fn 31 [.rptr [.str a1_0.Service, .str a1_0.Op, .str a1_0.Key, .str a1_0.Value, .int .i64 a1_0.Dur, .bool a1_0.Err]]) (by exact rfl)) (by decide) ?_
    refine alP (some 12) rfl rfl (does_move (v := .sl 10 (List.map enc29 a0)) (by exact rfl)) (by decide) ?_
    refine alP (some 13) rfl rfl (does_move (v := .int .i64 v8_0) (by exact rfl)) (by decide) ?_
    obtain ⟨g12, h⟩ := gd_some h
    obtain ⟨x13, hx13, h⟩ := bnd_some h
    refine alP (some 14) rfl rfl (does_indexAddr_sl (el := .agg [.int .u64 x13.Trace.Hi, .int .u64 x13.Trace.Lo, .int .u64 x13.Id, .int .u64 x13.Parent, .str x13.Service, .str x13.Op, .int .i64 x13.Start, .int .i64 x13.Dur, .bool x13.Err, .sl 2 (List.map enc53 x13.Attrs)]) (by conv => lhs; whnf) (by conv => lhs; whnf) ty49 ty30 g12 (by exact map_get hx13)) (by decide) ?_
    refine alR (some 15) rfl rfl (does_load (v := .agg [.int .u64 x13.Trace.Hi, .int .u64 x13.Trace.Lo, .int .u64 x13.Id, .int .u64 x13.Parent, .str x13.Service, .str x13.Op, .int .i64 x13.Start, .int .i64 x13.Dur, .bool x13.Err, .sl 2 (List.map enc53 x13.Attrs)]) (by conv => lhs; whnf) (by conv => lhs; whnf) ty30 (by exact rfl)) (by decide) ?_
    obtain ⟨x14, hx14, h⟩ := bnd_some h
    refine alD (some 16) rfl rfl (do_call0 16 false (search_all_c1_ok x13 a1_0 hx14) rfl ent31 rfl rfl) (by decide) ?_
    refine al_nil ?_
    refine hK11 _ ?_
    refine aw_bool (b := x14) 16 rfl (fun c15 => ?_) (fun c15 => ?_)
    · have h := ifT c15 h
      refine aw_cond_t (by decide) rfl ?_
      refine aw_seq_k (fun K16 hK16 => ?_)
      refine aw_regL ?_
      refine alP (some 17) rfl rfl (does_move (v := .int .i64 v8_0) (by exact rfl)) (by decide) ?_
      refine alP (some 4) rfl rfl (does_assign (v := .int .i64 v8_0) (by exact rfl)) (by decide) ?_
      refine al_nil ?_
      refine hK16 _ ?_
      refine aw_ret ?_
      have h := leafR h hq5
      obtain rfl := Option.some.inj h
      exact ret_ok1 (by conv => lhs; whnf) (by conv => lhs; whnf) (by exact rfl) (.inr rfl) rfl
    · have h := ifF c15 h
      refine aw_cond_f (by decide) rfl ?_
      refine aw_skip ?_
      refine hK9 _ ?_
      refine aw_regL ?_
      refine alP (some 18) rfl rfl (does_bin (v := .int .i64 (IntKind.i64.wrap (v8_0 + 1))) (by conv => lhs; whnf) (by conv => lhs; whnf) rfl) (by decide) ?_
      refine alP (some 8) rfl rfl (does_move (v := .int .i64 (IntKind.i64.wrap (v8_0 + 1))) (by exact rfl)) (by decide) ?_
      refine al_nil ?_
      have h := leafL h hq5
      exact ⟨m0, Nat.lt_succ_self _, _, reb_lit [(0, .sl 10 (List.map enc29 a0)), (1, .fn 31 [.rptr [.str a1_0.Service, .str a1_0.Op, .str a1_0.Key, .str a1_0.Value, .int .i64 a1_0.Dur, .bool a1_0.Err]]), (7, .int .i64 (List.length a0 : Int)), (8, .int .i64 (IntKind.i64.wrap (v8_0 + 1)))] [] [] [] (envOk_cons (by conv => lhs; whnf) (by exact rfl) (envOk_cons (by conv => lhs; whnf) (by exact rfl) (envOk_cons (by conv => lhs; whnf) (by exact rfl) (envOk_cons (by conv => lhs; whnf) (by exact rfl) envOk_nil)))) objOk_nil (nodup_b rfl) (nodup_b rfl) rfl rfl, (IntKind.i64.wrap (v8_0 + 1)), h, rfl⟩
  · have h := ifF c8 h
    refine aw_cond_f (by decide) rfl ?_
    refine aw_exit ?_
    have h := leafR h hq5
    refine hK2 _ ?_
    refine aw_seq_k (fun K17 hK17 => ?_)
    refine aw_regL ?_
    refine alP (some 4) rfl rfl (does_assign (v := .int .i64 (-1)) (by exact rfl)) (by decide) ?_
    refine al_nil ?_
    refine hK17 _ ?_
    refine aw_ret ?_
    obtain rfl := Option.some.inj h
    exact ret_ok1 (by conv => lhs; whnf) (by conv => lhs; whnf) (by exact rfl) (.inr rfl) rfl
def slices_ContainsFunc_Span_search_all_c1 (a0 : List Span) (a1_0 : Query) : Option Bool :=
  Option.bind (slices_IndexFunc_Span_search_all_c1 a0 a1_0) (fun (x3 : Int) => some (decide ((0 : Int) ≤ x3)))
set_option maxRecDepth 100000 in
set_option maxHeartbeats 8000000 in
/-- slices.ContainsFunc[[]gleaning/api.Span,gleaning/api.Span] -/
theorem slices_ContainsFunc_Span_search_all_c1_ok (a0 : List Span) (a1_0 : Query) {r : Bool} (h : slices_ContainsFunc_Span_search_all_c1 a0 a1_0 = some r) : Ok Try.prog 30 [.sl 10 (List.map enc29 a0), .fn 31 [.rptr [.str a1_0.Service, .str a1_0.Op, .str a1_0.Key, .str a1_0.Value, .int .i64 a1_0.Dur, .bool a1_0.Err]]] [] [] (.bool r) [] [] := by
  unfold slices_ContainsFunc_Span_search_all_c1 at h
  refine ok_of_code Try.func30 rfl (by show (2 : Nat) ≤ _; decide) (Nat.le_refl _) fun X => ?_
  refine aw_seq_k (fun K1 hK1 => ?_)
  refine aw_regL ?_
  refine alP (some 4) rfl rfl (does_assign (v := .bool false) (by exact rfl)) (by decide) ?_
  refine al_nil ?_
  refine hK1 _ ?_
  refine aw_seq_k (fun K2 hK2 => ?_)
  refine aw_regL ?_
  refine alP (some 5) rfl rfl (does_move (v := .sl 10 (List.map enc29 a0)) (by exact rfl)) (by decide) ?_
  refine alP (some 6) rfl rfl (does_move (v := .fn 31 [.rptr [.str a1_0.Service, .str a1_0.Op, .str a1_0.Key, .str a1_0.Value, .int .i64 a1_0.Dur, .bool a1_0.Err]]) (by exact rfl)) (by decide) ?_
  obtain ⟨x3, hx3, h⟩ := bnd_some h
  refine alD (some 7) rfl rfl (do_call0 7 false (slices_IndexFunc_Span_search_all_c1_ok a0 a1_0 hx3) rfl ent35 rfl rfl) (by decide) ?_
  refine alP (some 8) rfl rfl (does_bin (v := .bool (decide ((0 : Int) ≤ x3))) (by conv => lhs; whnf) (by conv => lhs; whnf) rfl) (by decide) ?_
  refine alP (some 4) rfl rfl (does_assign (v := .bool (decide ((0 : Int) ≤ x3))) (by exact rfl)) (by decide) ?_
  refine al_nil ?_
  refine hK2 _ ?_
  refine aw_ret ?_
  obtain rfl := Option.some.inj h
  exact ret_ok1 (by conv => lhs; whnf) (by conv => lhs; whnf) (by exact rfl) (.inr rfl) rfl
instance : Inhabited Trace := ⟨(Trace.mk 0 0)⟩
def sortL32_ren : Go.Shelf.Ren := ⟨fun | 6 => 32 | 15 => 37 | 14 => 36 | 28 => 48 | 29 => 49 | 20 => 40 | 21 => 41 | 22 => 42 | 23 => 43 | 24 => 44 | 25 => 45 | 26 => 46 | 27 => 47 | 46 => 51 | 47 => 52 | 48 => 53 | 49 => 54 | 50 => 55 | 57 => 56 | n => n, fun | 22 => 37 | 24 => 27 | 25 => 63 | 3 => 3 | 39 => 68 | 0 => 0 | 53 => 80 | 55 => 25 | 4 => 4 | 46 => 73 | 45 => 72 | 50 => 77 | 5 => 5 | 9 => 9 | 66 => 84 | 70 => 88 | 76 => 90 | 77 => 91 | n => n, fun | n => n⟩
theorem sortL32 : SlLaysF0.n6 Try.prog sortL32_ren :=
  { mixed := by kernel_rfl
    f6 := ⟨Try.f32.name, by decide, Try.func32.trans (congrArg some (by kernel_rfl))⟩
    f14 := ⟨Try.f36.name, by decide, Try.func36.trans (congrArg some (by kernel_rfl))⟩
    f15 := Try.func37.trans (congrArg some (by kernel_rfl))
    f20 := ⟨Try.f40.name, by decide, Try.func40.trans (congrArg some (by kernel_rfl))⟩
    f21 := ⟨Try.f41.name, by decide, Try.func41.trans (congrArg some (by kernel_rfl))⟩
    f22 := ⟨Try.f42.name, by decide, Try.func42.trans (congrArg some (by kernel_rfl))⟩
    f23 := ⟨Try.f43.name, by decide, Try.func43.trans (congrArg some (by kernel_rfl))⟩
    f24 := ⟨Try.f44.name, by decide, Try.func44.trans (congrArg some (by kernel_rfl))⟩
    f25 := ⟨Try.f45.name, by decide, Try.func45.trans (congrArg some (by kernel_rfl))⟩
    f26 := ⟨Try.f46.name, by decide, Try.func46.trans (congrArg some (by kernel_rfl))⟩
    f27 := ⟨Try.f47.name, by decide, Try.func47.trans (congrArg some (by kernel_rfl))⟩
    f28 := Try.func48.trans (congrArg some (by kernel_rfl))
    f29 := Try.func49.trans (congrArg some (by kernel_rfl))
    f46 := ⟨Try.f51.name, by decide, Try.func51.trans (congrArg some (by kernel_rfl))⟩
    f47 := Try.func52.trans (congrArg some (by kernel_rfl))
    f48 := Try.func53.trans (congrArg some (by kernel_rfl))
    f49 := ⟨Try.f54.name, by decide, Try.func54.trans (congrArg some (by kernel_rfl))⟩
    f50 := ⟨Try.f55.name, by decide, Try.func55.trans (congrArg some (by kernel_rfl))⟩
    f57 := ⟨Try.f56.name, by decide, Try.func56.trans (congrArg some (by kernel_rfl))⟩
    t0 := Try.underlying0
    a0 := Try.isAgg0
    z0 := Try.sizeOf0
    v0 := Try.zeroValue0
    t3 := Try.underlying3
    a3 := Try.isAgg3
    z3 := Try.sizeOf3
    v3 := Try.zeroValue3
    t4 := Try.underlying4
    a4 := Try.isAgg4
    z4 := Try.sizeOf4
    v4 := Try.zeroValue4
    t5 := Try.underlying5
    a5 := Try.isAgg5
    z5 := Try.sizeOf5
    v5 := Try.zeroValue5
    t9 := Try.underlying9
    a9 := Try.isAgg9
    z9 := Try.sizeOf9
    v9 := Try.zeroValue9
    t22 := Try.underlying37
    a22 := Try.isAgg37
    z22 := Try.sizeOf37
    v22 := Try.zeroValue37
    t25 := Try.underlying63
    a25 := Try.isAgg63
    z25 := Try.sizeOf63
    v25 := Try.zeroValue63
    t39 := Try.underlying68
    a39 := Try.isAgg68
    z39 := Try.sizeOf68
    v39 := Try.zeroValue68
    t45 := Try.underlying72
    a45 := Try.isAgg72
    z45 := Try.sizeOf72
    v45 := Try.zeroValue72
    t46 := Try.underlying73
    a46 := Try.isAgg73
    z46 := Try.sizeOf73
    v46 := Try.zeroValue73
    t50 := Try.underlying77
    a50 := Try.isAgg77
    z50 := Try.sizeOf77
    v50 := Try.zeroValue77
    t53 := Try.underlying80
    a53 := Try.isAgg80
    z53 := Try.sizeOf80
    v53 := Try.zeroValue80
    t55 := Try.underlying25
    a55 := Try.isAgg25
    z55 := Try.sizeOf25
    v55 := Try.zeroValue25
    t66 := Try.underlying84
    a66 := Try.isAgg84
    z66 := Try.sizeOf84
    v66 := Try.zeroValue84
    t70 := Try.underlying88
    a70 := Try.isAgg88
    z70 := Try.sizeOf88
    v70 := Try.zeroValue88
    t76 := Try.underlying90
    a76 := Try.isAgg90
    z76 := Try.sizeOf90
    v76 := Try.zeroValue90
    t77 := Try.underlying91
    a77 := Try.isAgg91
    z77 := Try.sizeOf91
    v77 := Try.zeroValue91 }
theorem compL34 : CompLay Try.prog ⟨fun _ => 34, fun n => if n = 0 then 0 else if n = 3 then 3 else if n = 4 then 4 else if n = 22 then 37 else 27, id⟩ 2 :=
  { mixed := by kernel_rfl
    f43 := ⟨Try.f34.name, by decide, Try.func34.trans (congrArg some (by kernel_rfl))⟩
    t0 := Try.underlying0
    a0 := Try.isAgg0
    z0 := Try.sizeOf0
    v0 := Try.zeroValue0
    t3 := Try.underlying3
    a3 := Try.isAgg3
    z3 := Try.sizeOf3
    v3 := Try.zeroValue3
    t4 := Try.underlying4
    a4 := Try.isAgg4
    z4 := Try.sizeOf4
    v4 := Try.zeroValue4
    t22 := Try.underlying37
    a22 := Try.isAgg37
    z22 := Try.sizeOf37
    v22 := Try.zeroValue37
    a23 := Try.isAgg27
    z23 := Try.sizeOf27 }
def slices_Compact_Trace (a0 : List Trace) : Option (List Trace) :=
  some (compactL a0)
theorem slices_Compact_Trace_ok (a0 : List Trace) {r : List Trace} (h : slices_Compact_Trace a0 = some r) : Ok Try.prog 34 [.own 1 0] [] [(27, 2, List.map enc26 a0)] (.own 2 0) [] [(27, 2, List.map enc26 r)] :=
  compact_okT compL34 rfl rfl enc26 (fun x => [.int .u64 x.Hi, .int .u64 x.Lo]) (fun _ => rfl) (fun _ => rfl) (by decide) (fun _ => rfl) fk27 rfl ag27 eg27 (fun x y => by cases x; cases y; simp only [eqK, cellK, andO, and_self, if_true, Bool.and_true, Trace.mk.injEq, Option.some.injEq]; rw [Bool.eq_iff_iff]; simp) (by kernel_rfl) a0 h
def search_all_l2 (a1 : Query) (v12_1 : Int) (x14 : Block) (v5_s_2 : List Trace) (v19_2 : Int) : Option ((List Trace × Int) ⊕ ((List Trace × Int) ⊕ (List Trace))) :=
  if (decide (v19_2 < (List.length x14.Episodes : Int))) = true then (gd (0 ≤ v19_2) (Option.bind (x14.Episodes[(Int.toNat v19_2)]?) (fun (x24 : Episode) => Option.bind (slices_ContainsFunc_Span_search_all_c1 x24.Spans a1) (fun (x26 : Bool) => if x26 = true then (gd ((List.length (v5_s_2 ++ [x24.Trace])) * 16 ≤ 140737488355328 ∧ (List.length (v5_s_2 ++ [x24.Trace])) ≤ 140737488355328) (some (Sum.inl ((v5_s_2 ++ [x24.Trace]), (IntKind.i64.wrap (v19_2 + 1)))))) else (some (Sum.inl (v5_s_2, (IntKind.i64.wrap (v19_2 + 1))))))))) else (some (Sum.inr (Sum.inl (v5_s_2, (IntKind.i64.wrap (v12_1 + 1))))))
def search_all_l1 (a0 : List Block) (a1 : Query) (v5_s_1 : List Trace) (v12_1 : Int) : Option ((List Trace × Int) ⊕ (List Trace)) :=
  if (decide (v12_1 < (List.length a0 : Int))) = true then (gd (0 ≤ v12_1) (Option.bind (a0[(Int.toNat v12_1)]?) (fun (x14 : Block) => loopN (fun (s : List Trace × Int) => search_all_l2 a1 v12_1 x14 s.1 s.2) Fu (v5_s_1, 0)))) else (some (Sum.inr v5_s_1))
def search_all_k0 (v5_s_0 : List Trace) : Option (List Trace) :=
  Option.bind (sortO search_compare v5_s_0) (fun (x30 : List Trace) => Option.bind (slices_Compact_Trace x30) (fun (x32 : List Trace) => some x32))
def search_all (a0 : List Block) (a1 : Query) : Option (List Trace) :=
  Option.bind (loopN (fun (s : List Trace × Int) => search_all_l1 a0 a1 s.1 s.2) Fu ([], 0)) (fun (s : List Trace) => search_all_k0 s)
set_option maxRecDepth 100000 in
set_option maxHeartbeats 8000000 in
/-- gleaning/search.all -/
theorem search_all_ok (a0 : List Block) (a1 : Query) {r : List Trace} (h : search_all a0 a1 = some r) : Ok Try.prog 24 [.sl 4 (List.map enc44 a0), .agg [.str a1.Service, .str a1.Op, .str a1.Key, .str a1.Value, .int .i64 a1.Dur, .bool a1.Err]] [] [] (.own 2 0) [] [(27, 2, List.map enc26 r)] := by
  unfold search_all at h
  refine ok_of_code Try.func24 rfl (by show (2 : Nat) ≤ _; decide) (Nat.le_refl _) fun X => ?_
  refine aw_seq_k (fun K1 hK1 => ?_)
  refine aw_regL ?_
  refine alD (some 3) rfl rfl (do_box (by conv => lhs; whnf) rfl rfl) (by decide) ?_
  refine alP (some 4) rfl rfl (does_assign (v := .nil) (by exact rfl)) (by decide) ?_
  refine al_nil ?_
  refine hK1 _ ?_
  refine aw_seq_k (fun K2 hK2 => ?_)
  refine aw_regL ?_
  refine alP (some 5) rfl rfl (does_assign (v := .nil) (by exact rfl)) (by decide) ?_
  refine al_nil ?_
  refine hK2 _ ?_
  obtain ⟨q3, h, hk4⟩ := bnd_some h
  refine aw_cut (fun s => ∃ (v5_s_0 : List Trace), search_all_k0 v5_s_0 = some r ∧ s = lit [(5, .own 5 0)] [((5, 0), .arr 27 2 false (List.map enc26 v5_s_0))] [(5, 1)] X) ?_ ?_
  · skip
    refine aw_seq_k (fun K5 hK5 => ?_)
    refine aw_regL ?_
    refine alP (some 10) rfl rfl (does_move (v := .sl 4 (List.map enc44 a0)) (by exact rfl)) (by decide) ?_
    refine alP (some 11) rfl rfl ((does_len_sl (by conv => lhs; whnf) ty22).castp (v' := .int .i64 (List.length a0 : Int)) (by exact len_map _)) (by decide) ?_
    refine alP (some 12) rfl rfl (does_move (v := .int .i64 0) (by exact rfl)) (by decide) ?_
    refine al_nil ?_
    refine hK5 _ ?_
    refine aw_block ?_
    refine aw_nilOwn 5 27 2 (by conv => lhs; whnf) (by decide) (by decide) ?_
    refine aw_loop' (fun m s => ∃ (v5_s_1 : List Trace), ∃ (v12_1 : Int), loopN (fun (s : List Trace × Int) => search_all_l1 a0 a1 s.1 s.2) m (v5_s_1, v12_1) = some q3 ∧ s = lit [(3, .ptr 3 0 0), (5, .own 5 0), (10, .sl 4 (List.map enc44 a0)), (11, .int .i64 (List.length a0 : Int)), (12, .int .i64 v12_1)] [((3, 0), .box [.str a1.Service, .str a1.Op, .str a1.Key, .str a1.Value, .int .i64 a1.Dur, .bool a1.Err]), ((5, 0), .arr 27 2 false (List.map enc26 v5_s_1))] [(3, 1), (5, 1)] X) Fu
      ⟨_, reb_lit [(3, .ptr 3 0 0), (5, .own 5 0), (10, .sl 4 (List.map enc44 a0)), (11, .int .i64 (List.length a0 : Int)), (12, .int .i64 (0))] [(3, 0), (5, 0)] [((3, 0), .box [.str a1.Service, .str a1.Op, .str a1.Key, .str a1.Value, .int .i64 a1.Dur, .bool a1.Err]), ((5, 0), .arr 27 2 false (List.map enc26 []))] [(3, 1), (5, 1)] (envOk_cons (by conv => lhs; whnf) (by exact rfl) (envOk_cons (by conv => lhs; whnf) (by exact rfl) (envOk_cons (by conv => lhs; whnf) (by exact rfl) (envOk_cons (by conv => lhs; whnf) (by exact rfl) (envOk_cons (by conv => lhs; whnf) (by exact rfl) envOk_nil))))) (objOk_cons (by conv => lhs; whnf) (by conv => lhs; whnf) (by exact rfl) (by simp) (objOk_cons (by conv => lhs; whnf) (by conv => lhs; whnf) (by exact rfl) (by simp) objOk_nil)) (nodup_b rfl) (nodup_b rfl) rfl rfl, [], 0, h, rfl⟩ ?_
    rintro m s ⟨v5_s_1, v12_1, h, rfl⟩
    obtain ⟨m1, q6, rfl, h, hq7⟩ := loop_some h
    replace h : search_all_l1 a0 a1 v5_s_1 v12_1 = some q6 := h
    unfold search_all_l1 at h
    refine aw_seq_k (fun K8 hK8 => ?_)
    refine aw_regL ?_
    refine alP (some 13) rfl rfl (does_bin (v := .bool (decide (v12_1 < (List.length a0 : Int)))) (by conv => lhs; whnf) (by conv => lhs; whnf) rfl) (by decide) ?_
    refine al_nil ?_
    refine hK8 _ ?_
    refine aw_seq_k (fun K9 hK9 => ?_)
    refine aw_bool (b := (decide (v12_1 < (List.length a0 : Int)))) 13 rfl (fun c10 => ?_) (fun c10 => ?_)
    · have h := ifT c10 h
      refine aw_cond_t (by decide) rfl ?_
      refine aw_skip ?_
      refine hK9 _ ?_
      refine aw_seq_k (fun K11 hK11 => ?_)
      refine aw_block ?_
      refine aw_seq_k (fun K12 hK12 => ?_)
      refine aw_regL ?_
      obtain ⟨g13, h⟩ := gd_some h
      obtain ⟨x14, hx14, h⟩ := bnd_some h
      refine alP (some 14) rfl rfl (does_indexAddr_sl (el := .agg [.int .i64 x14.Number, .int .i64 x14.Born, .int .i64 x14.Tier, .sl 6 (List.map enc50 x14.Episodes)]) (by conv => lhs; whnf) (by conv => lhs; whnf) ty22 ty45 g13 (by exact map_get hx14)) (by decide) ?_
      refine alR (some 15) rfl rfl (does_load (v := .agg [.int .i64 x14.Number, .int .i64 x14.Born, .int .i64 x14.Tier, .sl 6 (List.map enc50 x14.Episodes)]) (by conv => lhs; whnf) (by conv => lhs; whnf) ty45 (by exact rfl)) (by decide) ?_
      refine alD (some 7) rfl rfl (do_new ty45 rfl rfl) (by decide) ?_
      refine alD none rfl rfl (do_store (cs' := [.int .i64 x14.Number, .int .i64 x14.Born, .int .i64 x14.Tier, .sl 6 (List.map enc50 x14.Episodes)]) (by conv => lhs; whnf) (by conv => lhs; whnf) (by conv => lhs; whnf) ty45 rfl rfl rfl (by exact rfl)) (by decide) ?_
      refine al_nil ?_
      refine hK12 _ ?_
      refine aw_seq_k (fun K15 hK15 => ?_)
      refine aw_regL ?_
      refine alP (some 16) rfl rfl (does_fieldAddr (q := .ptr 7 0 3) (by conv => lhs; whnf) ty45 rfl ty43 (by decide) (by exact rfl)) (by decide) ?_
      refine alR (some 17) rfl rfl (does_load (v := .sl 6 (List.map enc50 x14.Episodes)) (by conv => lhs; whnf) (by conv => lhs; whnf) ty43 (by exact rfl)) (by decide) ?_
      refine alP (some 18) rfl rfl ((does_len_sl (by conv => lhs; whnf) ty43).castp (v' := .int .i64 (List.length x14.Episodes : Int)) (by exact len_map _)) (by decide) ?_
      refine alP (some 19) rfl rfl (does_move (v := .int .i64 0) (by exact rfl)) (by decide) ?_
      refine al_nil ?_
      refine hK15 _ ?_
      refine aw_block ?_
      refine aw_loop' (fun m s => ∃ (v5_s_2 : List Trace), ∃ (v19_2 : Int), loopN (fun (s : List Trace × Int) => search_all_l2 a1 v12_1 x14 s.1 s.2) m (v5_s_2, v19_2) = some q6 ∧ s = lit [(3, .ptr 3 0 0), (5, .own 5 0), (10, .sl 4 (List.map enc44 a0)), (11, .int .i64 (List.length a0 : Int)), (12, .int .i64 v12_1), (17, .sl 6 (List.map enc50 x14.Episodes)), (18, .int .i64 (List.length x14.Episodes : Int)), (19, .int .i64 v19_2)] [((3, 0), .box [.str a1.Service, .str a1.Op, .str a1.Key, .str a1.Value, .int .i64 a1.Dur, .bool a1.Err]), ((5, 0), .arr 27 2 false (List.map enc26 v5_s_2))] [(3, 1), (5, 1)] X) Fu
        ⟨_, reb_lit [(3, .ptr 3 0 0), (5, .own 5 0), (10, .sl 4 (List.map enc44 a0)), (11, .int .i64 (List.length a0 : Int)), (12, .int .i64 v12_1), (17, .sl 6 (List.map enc50 x14.Episodes)), (18, .int .i64 (List.length x14.Episodes : Int)), (19, .int .i64 (0))] [(3, 0), (5, 0)] [((3, 0), .box [.str a1.Service, .str a1.Op, .str a1.Key, .str a1.Value, .int .i64 a1.Dur, .bool a1.Err]), ((5, 0), .arr 27 2 false (List.map enc26 v5_s_1))] [(3, 1), (5, 1)] (envOk_cons (by conv => lhs; whnf) (by exact rfl) (envOk_cons (by conv => lhs; whnf) (by exact rfl) (envOk_cons (by conv => lhs; whnf) (by exact rfl) (envOk_cons (by conv => lhs; whnf) (by exact rfl) (envOk_cons (by conv => lhs; whnf) (by exact rfl) (envOk_cons (by conv => lhs; whnf) (by exact rfl) (envOk_cons (by conv => lhs; whnf) (by exact rfl) (envOk_cons (by conv => lhs; whnf) (by exact rfl) envOk_nil)))))))) (objOk_cons (by conv => lhs; whnf) (by conv => lhs; whnf) (by exact rfl) (by simp) (objOk_cons (by conv => lhs; whnf) (by conv => lhs; whnf) (by exact rfl) (by simp) objOk_nil)) (nodup_b rfl) (nodup_b rfl) rfl rfl, v5_s_1, 0, h, rfl⟩ ?_
      rintro m s ⟨v5_s_2, v19_2, h, rfl⟩
      obtain ⟨m2, q16, rfl, h, hq17⟩ := loop_some h
      replace h : search_all_l2 a1 v12_1 x14 v5_s_2 v19_2 = some q16 := h
      unfold search_all_l2 at h
      refine aw_seq_k (fun K18 hK18 => ?_)
      refine aw_regL ?_
      refine alP (some 20) rfl rfl (does_bin (v := .bool (decide (v19_2 < (List.length x14.Episodes : Int)))) (by conv => lhs; whnf) (by conv => lhs; whnf) rfl) (by decide) ?_
      refine al_nil ?_
      refine hK18 _ ?_
      refine aw_seq_k (fun K19 hK19 => ?_)
      refine aw_bool (b := (decide (v19_2 < (List.length x14.Episodes : Int)))) 20 rfl (fun c20 => ?_) (fun c20 => ?_)
      · have h := ifT c20 h
        refine aw_cond_t (by decide) rfl ?_
        refine aw_skip ?_
        refine hK19 _ ?_
        refine aw_seq_k (fun K21 hK21 => ?_)
        refine aw_block ?_
        refine aw_seq_k (fun K22 hK22 => ?_)
        refine aw_regL ?_
        obtain ⟨g23, h⟩ := gd_some h
        obtain ⟨x24, hx24, h⟩ := bnd_some h
        refine alP (some 21) rfl rfl (does_indexAddr_sl (el := .agg [.int .u64 x24.Trace.Hi, .int .u64 x24.Trace.Lo, .int .i64 x24.First, .int .i64 x24.Last, .bool x24.Sure, .sl 10 (List.map enc29 x24.Spans)]) (by conv => lhs; whnf) (by conv => lhs; whnf) ty43 ty51 g23 (by exact map_get hx24)) (by decide) ?_
        refine alR (some 22) rfl rfl (does_load (v := .agg [.int .u64 x24.Trace.Hi, .int .u64 x24.Trace.Lo, .int .i64 x24.First, .int .i64 x24.Last, .bool x24.Sure, .sl 10 (List.map enc29 x24.Spans)]) (by conv => lhs; whnf) (by conv => lhs; whnf) ty51 (by exact rfl)) (by decide) ?_
        refine alD (some 9) rfl rfl (do_new ty51 rfl rfl) (by decide) ?_
        refine alD none rfl rfl (do_store (cs' := [.int .u64 x24.Trace.Hi, .int .u64 x24.Trace.Lo, .int .i64 x24.First, .int .i64 x24.Last, .bool x24.Sure, .sl 10 (List.map enc29 x24.Spans)]) (by conv => lhs; whnf) (by conv => lhs; whnf) (by conv => lhs; whnf) ty51 rfl rfl rfl (by exact rfl)) (by decide) ?_
        refine al_nil ?_
        refine hK22 _ ?_
        refine aw_seq_k (fun K25 hK25 => ?_)
        refine aw_regL ?_
        refine alP (some 23) rfl rfl (does_fieldAddr (q := .ptr 9 0 5) (by conv => lhs; whnf) ty51 rfl ty49 (by decide) (by exact rfl)) (by decide) ?_
        refine alR (some 24) rfl rfl (does_load (v := .sl 10 (List.map enc29 x24.Spans)) (by conv => lhs; whnf) (by conv => lhs; whnf) ty49 (by exact rfl)) (by decide) ?_
        refine alP (some 25) rfl rfl (does_makeFunc (vs := [.ptr 3 0 0]) rfl) (by decide) ?_
        obtain ⟨x26, hx26, h⟩ := bnd_some h
        refine alD (some 26) rfl rfl (do_callG (bcs := []) [] [] [(3, 0)] 26 false (slices_ContainsFunc_Span_search_all_c1_ok x24.Spans a1 hx26) rfl ent30 trivial trivial rfl rfl rfl rfl rfl rfl rfl rfl (.inr ⟨rfl, rfl, trivial⟩)) (by decide) ?_
        refine al_nil ?_
        refine hK25 _ ?_
        refine aw_bool (b := x26) 26 rfl (fun c27 => ?_) (fun c27 => ?_)
        · have h := ifT c27 h
          refine aw_cond_t (by decide) rfl ?_
          refine aw_regL ?_
          refine alP (some 27) rfl rfl (does_move (v := .own 5 0) (by exact rfl)) (by decide) ?_
          refine alP (some 28) rfl rfl (does_fieldAddr (q := .ptr 9 0 0) (by conv => lhs; whnf) ty51 rfl ty27 (by decide) (by exact rfl)) (by decide) ?_
          refine alR (some 29) rfl rfl (does_load (v := .agg [.int .u64 x24.Trace.Hi, .int .u64 x24.Trace.Lo]) (by conv => lhs; whnf) (by conv => lhs; whnf) ty27 (by exact rfl)) (by decide) ?_
          refine alD (some 30) rfl rfl (do_buildSlice (xs := List.map enc26 [x24.Trace]) ty37 ty27 rfl rfl rfl rfl rfl rfl rfl rfl) (by decide) ?_
          obtain ⟨g28, h⟩ := gd_some h
          refine alD (some 31) rfl rfl (do_append (v := List.map enc26 (v5_s_2 ++ [x24.Trace])) (by conv => lhs; whnf) (by conv => lhs; whnf) ty37 ty27 rfl rfl (by conv => lhs; whnf) (by first | exact .inl rfl | exact .inr ⟨rfl, rfl⟩) (by conv => lhs; whnf) (by first | exact .inr rfl | exact .inl rfl) (map_app _ _) (fit_map g28)) (by decide) ?_
          refine alP (some 5) rfl rfl (does_assign (v := .own 31 0) (by exact rfl)) (by decide) ?_
          refine al_nil ?_
          refine hK21 _ ?_
          refine aw_regL ?_
          refine alP (some 32) rfl rfl (does_bin (v := .int .i64 (IntKind.i64.wrap (v19_2 + 1))) (by conv => lhs; whnf) (by conv => lhs; whnf) rfl) (by decide) ?_
          refine alP (some 19) rfl rfl (does_move (v := .int .i64 (IntKind.i64.wrap (v19_2 + 1))) (by exact rfl)) (by decide) ?_
          refine al_nil ?_
          have h := leafL h hq17
          exact ⟨m2, Nat.lt_succ_self _, _, reb_lit [(3, .ptr 3 0 0), (5, .own 5 0), (10, .sl 4 (List.map enc44 a0)), (11, .int .i64 (List.length a0 : Int)), (12, .int .i64 v12_1), (17, .sl 6 (List.map enc50 x14.Episodes)), (18, .int .i64 (List.length x14.Episodes : Int)), (19, .int .i64 (IntKind.i64.wrap (v19_2 + 1)))] [(3, 0), (31, 0)] [((3, 0), .box [.str a1.Service, .str a1.Op, .str a1.Key, .str a1.Value, .int .i64 a1.Dur, .bool a1.Err]), ((5, 0), .arr 27 2 false (List.map enc26 (v5_s_2 ++ [x24.Trace])))] [(3, 1), (5, 1)] (envOk_cons (by conv => lhs; whnf) (by exact rfl) (envOk_cons (by conv => lhs; whnf) (by exact rfl) (envOk_cons (by conv => lhs; whnf) (by exact rfl) (envOk_cons (by conv => lhs; whnf) (by exact rfl) (envOk_cons (by conv => lhs; whnf) (by exact rfl) (envOk_cons (by conv => lhs; whnf) (by exact rfl) (envOk_cons (by conv => lhs; whnf) (by exact rfl) (envOk_cons (by conv => lhs; whnf) (by exact rfl) envOk_nil)))))))) (objOk_cons (by conv => lhs; whnf) (by conv => lhs; whnf) (by exact rfl) (by simp) (objOk_cons (by conv => lhs; whnf) (by conv => lhs; whnf) (by exact rfl) (by simp) objOk_nil)) (nodup_b rfl) (nodup_b rfl) rfl rfl, (v5_s_2 ++ [x24.Trace]), (IntKind.i64.wrap (v19_2 + 1)), h, rfl⟩
        · have h := ifF c27 h
          refine aw_cond_f (by decide) rfl ?_
          refine aw_skip ?_
          refine hK21 _ ?_
          refine aw_regL ?_
          refine alP (some 32) rfl rfl (does_bin (v := .int .i64 (IntKind.i64.wrap (v19_2 + 1))) (by conv => lhs; whnf) (by conv => lhs; whnf) rfl) (by decide) ?_
          refine alP (some 19) rfl rfl (does_move (v := .int .i64 (IntKind.i64.wrap (v19_2 + 1))) (by exact rfl)) (by decide) ?_
          refine al_nil ?_
          have h := leafL h hq17
          exact ⟨m2, Nat.lt_succ_self _, _, reb_lit [(3, .ptr 3 0 0), (5, .own 5 0), (10, .sl 4 (List.map enc44 a0)), (11, .int .i64 (List.length a0 : Int)), (12, .int .i64 v12_1), (17, .sl 6 (List.map enc50 x14.Episodes)), (18, .int .i64 (List.length x14.Episodes : Int)), (19, .int .i64 (IntKind.i64.wrap (v19_2 + 1)))] [(3, 0), (5, 0)] [((3, 0), .box [.str a1.Service, .str a1.Op, .str a1.Key, .str a1.Value, .int .i64 a1.Dur, .bool a1.Err]), ((5, 0), .arr 27 2 false (List.map enc26 v5_s_2))] [(3, 1), (5, 1)] (envOk_cons (by conv => lhs; whnf) (by exact rfl) (envOk_cons (by conv => lhs; whnf) (by exact rfl) (envOk_cons (by conv => lhs; whnf) (by exact rfl) (envOk_cons (by conv => lhs; whnf) (by exact rfl) (envOk_cons (by conv => lhs; whnf) (by exact rfl) (envOk_cons (by conv => lhs; whnf) (by exact rfl) (envOk_cons (by conv => lhs; whnf) (by exact rfl) (envOk_cons (by conv => lhs; whnf) (by exact rfl) envOk_nil)))))))) (objOk_cons (by conv => lhs; whnf) (by conv => lhs; whnf) (by exact rfl) (by simp) (objOk_cons (by conv => lhs; whnf) (by conv => lhs; whnf) (by exact rfl) (by simp) objOk_nil)) (nodup_b rfl) (nodup_b rfl) rfl rfl, v5_s_2, (IntKind.i64.wrap (v19_2 + 1)), h, rfl⟩
      · have h := ifF c20 h
        refine aw_cond_f (by decide) rfl ?_
        refine aw_exit ?_
        have h := leafR h hq17
        refine hK11 _ ?_
        refine aw_regL ?_
        refine alP (some 33) rfl rfl (does_bin (v := .int .i64 (IntKind.i64.wrap (v12_1 + 1))) (by conv => lhs; whnf) (by conv => lhs; whnf) rfl) (by decide) ?_
        refine alP (some 12) rfl rfl (does_move (v := .int .i64 (IntKind.i64.wrap (v12_1 + 1))) (by exact rfl)) (by decide) ?_
        refine al_nil ?_
        have h := leafL h hq7
        exact ⟨m1, Nat.lt_succ_self _, _, reb_lit [(3, .ptr 3 0 0), (5, .own 5 0), (10, .sl 4 (List.map enc44 a0)), (11, .int .i64 (List.length a0 : Int)), (12, .int .i64 (IntKind.i64.wrap (v12_1 + 1)))] [(3, 0), (5, 0)] [((3, 0), .box [.str a1.Service, .str a1.Op, .str a1.Key, .str a1.Value, .int .i64 a1.Dur, .bool a1.Err]), ((5, 0), .arr 27 2 false (List.map enc26 v5_s_2))] [(3, 1), (5, 1)] (envOk_cons (by conv => lhs; whnf) (by exact rfl) (envOk_cons (by conv => lhs; whnf) (by exact rfl) (envOk_cons (by conv => lhs; whnf) (by exact rfl) (envOk_cons (by conv => lhs; whnf) (by exact rfl) (envOk_cons (by conv => lhs; whnf) (by exact rfl) envOk_nil))))) (objOk_cons (by conv => lhs; whnf) (by conv => lhs; whnf) (by exact rfl) (by simp) (objOk_cons (by conv => lhs; whnf) (by conv => lhs; whnf) (by exact rfl) (by simp) objOk_nil)) (nodup_b rfl) (nodup_b rfl) rfl rfl, v5_s_2, (IntKind.i64.wrap (v12_1 + 1)), h, rfl⟩
    · have h := ifF c10 h
      refine aw_cond_f (by decide) rfl ?_
      refine aw_exit ?_
      have h := leafR h hq7
      obtain rfl := Option.some.inj h
      have h := hk4
      exact ⟨_, reb_lit [(5, .own 5 0)] [(5, 0)] [((5, 0), .arr 27 2 false (List.map enc26 v5_s_1))] [(5, 1)] (envOk_cons (by conv => lhs; whnf) (by exact rfl) envOk_nil) (objOk_cons (by conv => lhs; whnf) (by conv => lhs; whnf) (by exact rfl) (by simp) objOk_nil) (nodup_b rfl) (nodup_b rfl) rfl rfl, v5_s_1, h, rfl⟩
  · rintro s ⟨v5_s_0, h, rfl⟩
    unfold search_all_k0 at h
    refine aw_seq_k (fun K29 hK29 => ?_)
    refine aw_regL ?_
    refine alP (some 34) rfl rfl (does_move (v := .own 5 0) (by exact rfl)) (by decide) ?_
    obtain ⟨x30, hx30, h⟩ := bnd_some h
    refine alD (some 35) rfl rfl (do_sort (d := 5) (n := 0) (e := 27) (sz := 2) (enc := enc26) (fun x => [.int .u64 x.Hi, .int .u64 x.Lo]) sortL32 hx30 sok_search_compare (fun x y q hq => by exact search_compare_ok x y hq) (by conv => lhs; whnf) (by exact rfl) rfl (by exact Try.isAgg27) (by exact Try.sizeOf27) (fun _ => rfl) (fun _ => rfl) (by decide) (fun _ => rfl) ent32 ent33) (by decide) ?_
    refine al_nil ?_
    refine hK29 _ ?_
    refine aw_seq_k (fun K31 hK31 => ?_)
    refine aw_regL ?_
    refine alP (some 36) rfl rfl (does_move (v := .own 5 0) (by exact rfl)) (by decide) ?_
    obtain ⟨x32, hx32, h⟩ := bnd_some h
    refine alD (some 37) rfl rfl (do_callG (bcs := []) [] [(5, 0)] [] 37 false (slices_Compact_Trace_ok x30 hx32) rfl ent34 trivial (rowsOk_cons (by conv => lhs; whnf) (by exact rfl) trivial) rfl rfl rfl rfl rfl rfl rfl rfl (.inr ⟨rfl, rfl, ⟨plain_map (fun _ => rfl), trivial⟩⟩)) (by decide) ?_
    refine alP (some 4) rfl rfl (does_assign (v := .own 37 0) (by exact rfl)) (by decide) ?_
    refine al_nil ?_
    refine hK31 _ ?_
    refine aw_ret ?_
    obtain rfl := Option.some.inj h
    exact ret_okR [(37, 0)] (by conv => lhs; whnf) (by conv => lhs; whnf) (by exact rfl) (rowsOk_cons (by conv => lhs; whnf) (by exact rfl) trivial) (nodup_b rfl) (.inr rfl) rfl
def search_Find (a0 : List Block) (a1 : Query) (a2 : Int) : Option (List Trace) :=
  Option.bind (search_all a0 a1) (fun (x3 : List Trace) => gd (0 ≤ (if (if (List.length x3 : Int) < a2 then (List.length x3 : Int) else a2) > 0 then (if (List.length x3 : Int) < a2 then (List.length x3 : Int) else a2) else 0)) (gd ((if (if (List.length x3 : Int) < a2 then (List.length x3 : Int) else a2) > 0 then (if (List.length x3 : Int) < a2 then (List.length x3 : Int) else a2) else 0) ≤ (List.length x3 : Int)) (some (List.take (Int.toNat (if (if (List.length x3 : Int) < a2 then (List.length x3 : Int) else a2) > 0 then (if (List.length x3 : Int) < a2 then (List.length x3 : Int) else a2) else 0)) x3))))
set_option maxRecDepth 100000 in
set_option maxHeartbeats 8000000 in
/-- gleaning/search.Find -/
theorem search_Find_ok (a0 : List Block) (a1 : Query) (a2 : Int) {r : List Trace} (h : search_Find a0 a1 a2 = some r) : Ok Try.prog 14 [.sl 4 (List.map enc44 a0), .agg [.str a1.Service, .str a1.Op, .str a1.Key, .str a1.Value, .int .i64 a1.Dur, .bool a1.Err], .int .i64 a2] [] [] (.sl 2 (List.map enc26 r)) [] [] := by
  unfold search_Find at h
  refine ok_of_code Try.func14 rfl (by show (3 : Nat) ≤ _; decide) (Nat.le_refl _) fun X => ?_
  refine aw_seq_k (fun K1 hK1 => ?_)
  refine aw_regL ?_
  refine alD (some 4) rfl rfl (do_box (by conv => lhs; whnf) rfl rfl) (by decide) ?_
  refine alP (some 6) rfl rfl (does_assign (v := .nil) (by exact rfl)) (by decide) ?_
  refine al_nil ?_
  refine hK1 _ ?_
  refine aw_seq_k (fun K2 hK2 => ?_)
  refine aw_regL ?_
  refine alP (some 8) rfl rfl (does_move (v := .sl 4 (List.map enc44 a0)) (by exact rfl)) (by decide) ?_
  refine alR (some 9) rfl rfl (does_load (v := .agg [.str a1.Service, .str a1.Op, .str a1.Key, .str a1.Value, .int .i64 a1.Dur, .bool a1.Err]) (by conv => lhs; whnf) (by conv => lhs; whnf) ty24 (by exact rfl)) (by decide) ?_
  obtain ⟨x3, hx3, h⟩ := bnd_some h
  refine alD (some 10) rfl rfl (do_call0 10 false (search_all_ok a0 a1 hx3) rfl ent24 rfl rfl) (by decide) ?_
  refine alP (some 7) rfl rfl (does_assign (v := .own 10 0) (by exact rfl)) (by decide) ?_
  refine al_nil ?_
  refine hK2 _ ?_
  refine aw_seq_k (fun K4 hK4 => ?_)
  refine aw_regL ?_
  refine alP (some 11) rfl rfl (does_move (v := .own 10 0) (by exact rfl)) (by decide) ?_
  refine alP (some 12) rfl rfl (does_move (v := .int .i64 a2) (by exact rfl)) (by decide) ?_
  refine alP (some 13) rfl rfl (does_move (v := .own 10 0) (by exact rfl)) (by decide) ?_
  refine alR (some 14) rfl rfl ((does_len_own (by conv => lhs; whnf) (by conv => lhs; whnf) ty37).cast (v' := .int .i64 (List.length x3 : Int)) (by exact len_map _)) (by decide) ?_
  refine alP (some 15) rfl rfl ((does_min (by conv => lhs; whnf) (by conv => lhs; whnf)).castp (v' := .int .i64 (if (List.length x3 : Int) < a2 then (List.length x3 : Int) else a2)) rfl) (by decide) ?_
  refine alP (some 16) rfl rfl ((does_max (by conv => lhs; whnf) (by conv => lhs; whnf)).castp (v' := .int .i64 (if (if (List.length x3 : Int) < a2 then (List.length x3 : Int) else a2) > 0 then (if (List.length x3 : Int) < a2 then (List.length x3 : Int) else a2) else 0)) rfl) (by decide) ?_
  obtain ⟨g5, h⟩ := gd_some h
  obtain ⟨g6, h⟩ := gd_some h
  refine alD (some 17) rfl rfl (does_frz (d := 10) (n := 0) (by conv => lhs; whnf) (does_slice_own (l := 0) (k := (Int.toNat (if (if (List.length x3 : Int) < a2 then (List.length x3 : Int) else a2) > 0 then (if (List.length x3 : Int) < a2 then (List.length x3 : Int) else a2) else 0))) (by conv => lhs; whnf) (by conv => lhs; whnf) ty37 ty27 bd_none (bd_some (by conv => lhs; whnf) (by exact (nat_of (by omega)))) (by (try simp only [List.length_map]); omega) (by (try simp only [List.length_map]); omega) (by exact part_h _ _))) (by decide) ?_
  refine alP (some 6) rfl rfl (does_assign (v := .sl 2 (List.map enc26 (List.take (Int.toNat (if (if (List.length x3 : Int) < a2 then (List.length x3 : Int) else a2) > 0 then (if (List.length x3 : Int) < a2 then (List.length x3 : Int) else a2) else 0)) x3))) (by exact rfl)) (by decide) ?_
  refine al_nil ?_
  refine hK4 _ ?_
  refine aw_ret ?_
  obtain rfl := Option.some.inj h
  exact ret_ok1 (by conv => lhs; whnf) (by conv => lhs; whnf) (by exact rfl) (.inr rfl) rfl
def search_Count (a0 : List Block) (a1 : Query) : Option Int :=
  Option.bind (search_all a0 a1) (fun (x3 : List Trace) => some (List.length x3 : Int))
set_option maxRecDepth 100000 in
set_option maxHeartbeats 8000000 in
/-- gleaning/search.Count -/
theorem search_Count_ok (a0 : List Block) (a1 : Query) {r : Int} (h : search_Count a0 a1 = some r) : Ok Try.prog 16 [.sl 4 (List.map enc44 a0), .agg [.str a1.Service, .str a1.Op, .str a1.Key, .str a1.Value, .int .i64 a1.Dur, .bool a1.Err]] [] [] (.int .i64 r) [] [] := by
  unfold search_Count at h
  refine ok_of_code Try.func16 rfl (by show (2 : Nat) ≤ _; decide) (Nat.le_refl _) fun X => ?_
  refine aw_seq_k (fun K1 hK1 => ?_)
  refine aw_regL ?_
  refine alD (some 3) rfl rfl (do_box (by conv => lhs; whnf) rfl rfl) (by decide) ?_
  refine alP (some 4) rfl rfl (does_assign (v := .int .i64 0) (by exact rfl)) (by decide) ?_
  refine al_nil ?_
  refine hK1 _ ?_
  refine aw_seq_k (fun K2 hK2 => ?_)
  refine aw_regL ?_
  refine alP (some 5) rfl rfl (does_move (v := .sl 4 (List.map enc44 a0)) (by exact rfl)) (by decide) ?_
  refine alR (some 6) rfl rfl (does_load (v := .agg [.str a1.Service, .str a1.Op, .str a1.Key, .str a1.Value, .int .i64 a1.Dur, .bool a1.Err]) (by conv => lhs; whnf) (by conv => lhs; whnf) ty24 (by exact rfl)) (by decide) ?_
  obtain ⟨x3, hx3, h⟩ := bnd_some h
  refine alD (some 7) rfl rfl (do_call0 7 false (search_all_ok a0 a1 hx3) rfl ent24 rfl rfl) (by decide) ?_
  refine alR (some 8) rfl rfl ((does_len_own (by conv => lhs; whnf) (by conv => lhs; whnf) ty37).cast (v' := .int .i64 (List.length x3 : Int)) (by exact len_map _)) (by decide) ?_
  refine alP (some 4) rfl rfl (does_assign (v := .int .i64 (List.length x3 : Int)) (by exact rfl)) (by decide) ?_
  refine al_nil ?_
  refine hK2 _ ?_
  refine aw_ret ?_
  obtain rfl := Option.some.inj h
  exact ret_ok1 (by conv => lhs; whnf) (by conv => lhs; whnf) (by exact rfl) (.inr rfl) rfl
end Go.Proofs.Ytnhjcpnoadicpaa.Ab
