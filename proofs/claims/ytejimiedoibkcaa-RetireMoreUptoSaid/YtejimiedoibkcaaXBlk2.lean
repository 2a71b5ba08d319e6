/- Blocks as bytes: the document. -/
import Derived.Test.YtejimiedoibkcaaXBSum
import Derived.Test.YtejimiedoibkcaaProg
namespace Go.Proofs.Ytejimiedoibkcaa.Ab
open Go Go.RowKit
set_option linter.unusedVariables false
set_option linter.unusedSimpArgs false
set_option maxRecDepth 100000
set_option maxHeartbeats 8000000
structure Episode where
  Trace : Trace
  First : Int
  Last : Int
  Sure : Bool
  Spans : List Span
  deriving DecidableEq
structure Block where
  Number : Int
  Born : Int
  Tier : Int
  Episodes : List Episode
  deriving DecidableEq
def enc46 (x : Episode) : PV := .agg [.int .u64 x.Trace.Hi, .int .u64 x.Trace.Lo, .int .i64 x.First, .int .i64 x.Last, .bool x.Sure, .sl 10 (List.map enc58 x.Spans)]
theorem ty29 : tyOf Try.prog 29 = some ⟨.slice 47, 1, 24, [.nil]⟩ := by kernel_rfl
theorem ty31 : tyOf Try.prog 31 = some ⟨.struct [(0, 3), (1, 3), (2, 3), (3, 29)], 4, 48, [.int .i64 0, .int .i64 0, .int .i64 0, .nil]⟩ := by kernel_rfl
theorem ty47 : tyOf Try.prog 47 = some ⟨.struct [(0, 44), (2, 3), (3, 3), (4, 4), (5, 45)], 6, 64, [.int .u64 0, .int .u64 0, .int .i64 0, .int .i64 0, .bool false, .nil]⟩ := by kernel_rfl
theorem fk44 : flatK Try.prog 8 44 = some [.i .u64, .i .u64] := by kernel_rfl
theorem ag44 : aggT Try.prog 44 = true := by kernel_rfl
theorem eg44 : Try.prog.eqGuardType Try.prog.depth 44 = false := by kernel_rfl
theorem ent24 : Ent Try.prog 24 := ⟨_, Try.func24, by kernel_rfl, rfl⟩
theorem ent32 : Ent Try.prog 32 := ⟨_, Try.func32, by kernel_rfl, rfl⟩
theorem ent34 : Ent Try.prog 34 := ⟨_, Try.func34, by kernel_rfl, rfl⟩
theorem ent36 : Ent Try.prog 36 := ⟨_, Try.func36, by kernel_rfl, rfl⟩
theorem ent42 : Ent Try.prog 42 := ⟨_, Try.func42, by kernel_rfl, rfl⟩
theorem ent43 : Ent Try.prog 43 := ⟨_, Try.func43, by kernel_rfl, rfl⟩
theorem ent44 : Ent Try.prog 44 := ⟨_, Try.func44, by kernel_rfl, rfl⟩
theorem ent45 : Ent Try.prog 45 := ⟨_, Try.func45, by kernel_rfl, rfl⟩
theorem ent46 : Ent Try.prog 46 := ⟨_, Try.func46, by kernel_rfl, rfl⟩
theorem ent47 : Ent Try.prog 47 := ⟨_, Try.func47, by kernel_rfl, rfl⟩
theorem ent49 : Ent Try.prog 49 := ⟨_, Try.func49, by kernel_rfl, rfl⟩
theorem ent54 : Ent Try.prog 54 := ⟨_, Try.func54, by kernel_rfl, rfl⟩
theorem ent55 : Ent Try.prog 55 := ⟨_, Try.func55, by kernel_rfl, rfl⟩
theorem ent56 : Ent Try.prog 56 := ⟨_, Try.func56, by kernel_rfl, rfl⟩
theorem ent57 : Ent Try.prog 57 := ⟨_, Try.func57, by kernel_rfl, rfl⟩
theorem ent58 : Ent Try.prog 58 := ⟨_, Try.func58, by kernel_rfl, rfl⟩
theorem ent59 : Ent Try.prog 59 := ⟨_, Try.func59, by kernel_rfl, rfl⟩
theorem ent62 : Ent Try.prog 62 := ⟨_, Try.func62, by kernel_rfl, rfl⟩
theorem ent63 : Ent Try.prog 63 := ⟨_, Try.func63, by kernel_rfl, rfl⟩
def block_Epoch_c1 (a0 : Int) : Option Bool :=
 if (decide (a0 < 0)) = true then (some true) else (some (decide ((1099511627776 : Int) < a0)))
theorem block_Epoch_c1_ok (a0 : Int) {r : Bool} (h : block_Epoch_c1 a0 = some r) : Ok Try.prog 55 [.int .i64 a0] [] [] (.bool r) [] [] := by
 unfold block_Epoch_c1 at h
 refine ok_of_code Try.func55 rfl (by show (1 : Nat) ≤ _; decide) (Nat.le_refl _) fun X => ?_
 refine sr fun K1 hK1 => ?_
 refine pa 2 (.bool false) ?_
 refine en hK1 ?_
 refine sr fun K2 hK2 => ?_
 refine pm 3 (.int .i64 a0) ?_
 refine pb 4 (.bool (decide (a0 < 0))) ?_
 refine pm 5 (.bool (decide (a0 < 0))) ?_
 refine al_bool (c := (decide (a0 < 0))) 5 rfl (fun c3 => ?_) (fun c3 => ?_)
 ·have h := ifT c3 h
  refine pS 6 ?_
  refine pS 7 ?_
  refine pk 8 (.bool true) ?_
  refine pa 2 (.bool true) ?_
  refine en hK2 ?_
  refine aw_ret ?_
  obtain rfl := Option.some.inj h
  exact ret_ok1 W_ W_ R_ (.inr rfl) rfl
 ·have h := ifF c3 h
  refine pm 6 (.int .i64 a0) ?_
  refine pb 7 (.bool (decide ((1099511627776 : Int) < a0))) ?_
  refine pk 8 (.bool (decide ((1099511627776 : Int) < a0))) ?_
  refine pa 2 (.bool (decide ((1099511627776 : Int) < a0))) ?_
  refine en hK2 ?_
  refine aw_ret ?_
  obtain rfl := Option.some.inj h
  exact ret_ok1 W_ W_ R_ (.inr rfl) rfl
def slices_IndexFunc_int_block_Epoch_c1_l0 (a0 : List Int) (v8_0 : Int) : Option (Int ⊕ Int) :=
 if (decide (v8_0 < (List.length a0 : Int))) = true then (gd (0 ≤ v8_0) (Option.bind (a0[(Int.toNat v8_0)]?) (fun (x13 : Int) => Option.bind (block_Epoch_c1 x13) (fun (x14 : Bool) => if x14 = true then (some (Sum.inr v8_0)) else (some (Sum.inl (IntKind.i64.wrap (v8_0 + 1)))))))) else (some (Sum.inr (-1)))
def slices_IndexFunc_int_block_Epoch_c1 (a0 : List Int) : Option Int :=
 loopN (fun (s : Int) => slices_IndexFunc_int_block_Epoch_c1_l0 a0 s) Fu 0
theorem slices_IndexFunc_int_block_Epoch_c1_ok (a0 : List Int) {r : Int} (h : slices_IndexFunc_int_block_Epoch_c1 a0 = some r) : Ok Try.prog 62 [.sl 1 (List.map enc2 a0), .fn 55 []] [] [] (.int .i64 r) [] [] := by
 unfold slices_IndexFunc_int_block_Epoch_c1 at h
 refine ok_of_code Try.func62 rfl (by show (2 : Nat) ≤ _; decide) (Nat.le_refl _) fun X => ?_
 refine sr fun K1 hK1 => ?_
 refine pa 4 (.int .i64 0) ?_
 refine en hK1 ?_
 refine aw_seq_k (fun K2 hK2 => ?_)
 refine sr fun K3 hK3 => ?_
 refine pm 6 (.sl 1 (List.map enc2 a0)) ?_
 refine pP 7 ((does_len_sl W_ ty25).castp (v' := .int .i64 (List.length a0 : Int)) (by exact len_map _)) ?_
 refine pm 8 (.int .i64 0) ?_
 refine en hK3 ?_
 refine aw_block ?_
 refine aw_loop' (fun m s => ∃ (v8_0 : Int), loopN (fun (s : Int) => slices_IndexFunc_int_block_Epoch_c1_l0 a0 s) m v8_0 = some r ∧ s = lit [(0, .sl 1 (List.map enc2 a0)), (1, .fn 55 []), (7, .int .i64 (List.length a0 : Int)), (8, .int .i64 v8_0)] [] [] X) Fu
  ⟨_, reb_lit [(0, .sl 1 (List.map enc2 a0)), (1, .fn 55 []), (7, .int .i64 (List.length a0 : Int)), (8, .int .i64 (0))] [] [] [] (ec (ec (ec (ec envOk_nil)))) objOk_nil (nodup_b rfl) (nodup_b rfl) rfl rfl, 0, h, rfl⟩ ?_
 rintro m s ⟨v8_0, h, rfl⟩
 obtain ⟨m0, q4, rfl, h, hq5⟩ := loop_some h
 replace h : slices_IndexFunc_int_block_Epoch_c1_l0 a0 v8_0 = some q4 := h
 unfold slices_IndexFunc_int_block_Epoch_c1_l0 at h
 refine sr fun K6 hK6 => ?_
 refine pb 9 (.bool (decide (v8_0 < (List.length a0 : Int)))) ?_
 refine en hK6 ?_
 refine aw_seq_k (fun K7 hK7 => ?_)
 refine aw_bool (b := (decide (v8_0 < (List.length a0 : Int)))) 9 rfl (fun c8 => ?_) (fun c8 => ?_)
 ·have h := ifT c8 h
  refine aw_cond_t D_ rfl ?_
  refine aw_skip ?_
  refine hK7 _ ?_
  refine aw_seq_k (fun K9 hK9 => ?_)
  refine aw_block ?_
  refine sr fun K10 hK10 => ?_
  refine pm 10 (.int .i64 v8_0) ?_
  refine pa 5 (.int .i64 v8_0) ?_
  refine en hK10 ?_
  refine sr fun K11 hK11 => ?_
  refine pm 11 (.fn 55 []) ?_
  refine pm 12 (.sl 1 (List.map enc2 a0)) ?_
  refine pm 13 (.int .i64 v8_0) ?_
  obtain ⟨g12, h⟩ := gd_some h
  obtain ⟨x13, hx13, h⟩ := bnd_some h
  refine pP 14 (does_indexAddr_sl (el := .int .i64 x13) W_ W_ ty25 ty3 g12 (by exact map_get hx13)) ?_
  refine pl 15 (.int .i64 x13) ty3 ?_
  obtain ⟨x14, hx14, h⟩ := bnd_some h
  refine pD 16 (do_call0 16 false (block_Epoch_c1_ok x13 hx14) rfl ent55 rfl rfl) ?_
  refine en hK11 ?_
  refine aw_bool (b := x14) 16 rfl (fun c15 => ?_) (fun c15 => ?_)
  ·have h := ifT c15 h
   refine aw_cond_t D_ rfl ?_
   refine sr fun K16 hK16 => ?_
   refine pm 17 (.int .i64 v8_0) ?_
   refine pa 4 (.int .i64 v8_0) ?_
   refine en hK16 ?_
   refine aw_ret ?_
   have h := leafR h hq5
   obtain rfl := Option.some.inj h
   exact ret_ok1 W_ W_ R_ (.inr rfl) rfl
  ·have h := ifF c15 h
   refine aw_cond_f D_ rfl ?_
   refine aw_skip ?_
   refine hK9 _ ?_
   refine aw_regL ?_
   refine pb 18 (.int .i64 (IntKind.i64.wrap (v8_0 + 1))) ?_
   refine pm 8 (.int .i64 (IntKind.i64.wrap (v8_0 + 1))) ?_
   refine al_nil ?_
   have h := leafL h hq5
   exact ⟨m0, Nat.lt_succ_self _, _, reb_lit [(0, .sl 1 (List.map enc2 a0)), (1, .fn 55 []), (7, .int .i64 (List.length a0 : Int)), (8, .int .i64 (IntKind.i64.wrap (v8_0 + 1)))] [] [] [] (ec (ec (ec (ec envOk_nil)))) objOk_nil (nodup_b rfl) (nodup_b rfl) rfl rfl, (IntKind.i64.wrap (v8_0 + 1)), h, rfl⟩
 ·have h := ifF c8 h
  refine aw_cond_f D_ rfl ?_
  refine aw_exit ?_
  have h := leafR h hq5
  refine hK2 _ ?_
  refine sr fun K17 hK17 => ?_
  refine pa 4 (.int .i64 (-1)) ?_
  refine en hK17 ?_
  refine aw_ret ?_
  obtain rfl := Option.some.inj h
  exact ret_ok1 W_ W_ R_ (.inr rfl) rfl
def slices_ContainsFunc_int_block_Epoch_c1 (a0 : List Int) : Option Bool :=
 Option.bind (slices_IndexFunc_int_block_Epoch_c1 a0) (fun (x3 : Int) => some (decide ((0 : Int) ≤ x3)))
theorem slices_ContainsFunc_int_block_Epoch_c1_ok (a0 : List Int) {r : Bool} (h : slices_ContainsFunc_int_block_Epoch_c1 a0 = some r) : Ok Try.prog 54 [.sl 1 (List.map enc2 a0), .fn 55 []] [] [] (.bool r) [] [] := by
 unfold slices_ContainsFunc_int_block_Epoch_c1 at h
 refine ok_of_code Try.func54 rfl (by show (2 : Nat) ≤ _; decide) (Nat.le_refl _) fun X => ?_
 refine sr fun K1 hK1 => ?_
 refine pa 4 (.bool false) ?_
 refine en hK1 ?_
 refine sr fun K2 hK2 => ?_
 refine pm 5 (.sl 1 (List.map enc2 a0)) ?_
 refine pm 6 (.fn 55 []) ?_
 obtain ⟨x3, hx3, h⟩ := bnd_some h
 refine pD 7 (do_call0 7 false (slices_IndexFunc_int_block_Epoch_c1_ok a0 hx3) rfl ent62 rfl rfl) ?_
 refine pb 8 (.bool (decide ((0 : Int) ≤ x3))) ?_
 refine pa 4 (.bool (decide ((0 : Int) ≤ x3))) ?_
 refine en hK2 ?_
 refine aw_ret ?_
 obtain rfl := Option.some.inj h
 exact ret_ok1 W_ W_ R_ (.inr rfl) rfl
def block_Epoch (a0 : List Int) : Option Bool :=
 Option.bind (slices_ContainsFunc_int_block_Epoch_c1 a0) (fun (x3 : Bool) => some (!x3))
theorem block_Epoch_ok (a0 : List Int) {r : Bool} (h : block_Epoch a0 = some r) : Ok Try.prog 42 [.sl 1 (List.map enc2 a0)] [] [] (.bool r) [] [] := by
 unfold block_Epoch at h
 refine ok_of_code Try.func42 rfl (by show (1 : Nat) ≤ _; decide) (Nat.le_refl _) fun X => ?_
 refine sr fun K1 hK1 => ?_
 refine pa 2 (.bool false) ?_
 refine en hK1 ?_
 refine sr fun K2 hK2 => ?_
 refine pm 3 (.sl 1 (List.map enc2 a0)) ?_
 obtain ⟨x3, hx3, h⟩ := bnd_some h
 refine pD 4 (do_call0 4 false (slices_ContainsFunc_int_block_Epoch_c1_ok a0 hx3) rfl ent54 rfl rfl) ?_
 refine pP 5 (does_un (v := .bool (!x3)) W_ rfl) ?_
 refine pa 2 (.bool (!x3)) ?_
 refine en hK2 ?_
 refine aw_ret ?_
 obtain rfl := Option.some.inj h
 exact ret_ok1 W_ W_ R_ (.inr rfl) rfl
def block_Episode_k2 (v3_s_1 : List Int) (v29_1 : Int) (x24 : Span) : Option ((List Int × Int) ⊕ Bool) :=
 some (Sum.inl ((addN v3_s_1 x24.Id), (IntKind.i64.wrap (v29_1 + 1))))
def block_Episode_l1 (a0 : Episode) (v3_s_1 : List Int) (v29_1 : Int) : Option ((List Int × Int) ⊕ Bool) :=
 if (decide (v29_1 < (List.length a0.Spans : Int))) = true then (gd (0 ≤ v29_1) (Option.bind (a0.Spans[(Int.toNat v29_1)]?) (fun (x24 : Span) => Option.bind (if (!((x24.Trace.Hi == a0.Trace.Hi) && ((x24.Trace.Lo == a0.Trace.Lo) && true))) = true then (some (Sum.inr (Sum.inr false))) else (if (decide (x24.Id ∈ v3_s_1)) = true then (some (Sum.inr (Sum.inr false))) else (some (Sum.inl ())))) (Sum.elim (fun (s : Unit) => block_Episode_k2 v3_s_1 v29_1 x24) some)))) else (some (Sum.inr true))
def block_Episode_k0 (a0 : Episode) : Option Bool :=
 loopN (fun (s : List Int × Int) => block_Episode_l1 a0 s.1 s.2) Fu (([] : List Int), 0)
def block_Episode (a0 : Episode) : Option Bool :=
 Option.bind (Option.bind (block_Epoch [a0.First, a0.Last]) (fun (x5 : Bool) => if (!x5) = true then (some (Sum.inr false)) else (if ((List.length a0.Spans : Int) == 0) = true then (some (Sum.inr false)) else (Option.bind (span_All a0.Spans) (fun (x10 : Bool) => if (!x10) = true then (some (Sum.inr false)) else (some (Sum.inl ()))))))) (Sum.elim (fun (s : Unit) => block_Episode_k0 a0) some)
theorem block_Episode_ok (a0 : Episode) {r : Bool} (h : block_Episode a0 = some r) : Ok Try.prog 47 [.agg [.int .u64 a0.Trace.Hi, .int .u64 a0.Trace.Lo, .int .i64 a0.First, .int .i64 a0.Last, .bool a0.Sure, .sl 10 (List.map enc58 a0.Spans)]] [] [] (.bool r) [] [] := by
 unfold block_Episode at h
 refine ok_of_code Try.func47 rfl (by show (1 : Nat) ≤ _; decide) (Nat.le_refl _) fun X => ?_
 refine sr fun K1 hK1 => ?_
 refine pD 1 (do_box W_ rfl rfl) ?_
 refine pa 2 (.bool false) ?_
 refine en hK1 ?_
 obtain ⟨q2, h, hk3⟩ := bnd_some h
 refine aw_cut (fun s => block_Episode_k0 a0 = some r ∧ s = lit [(1, .ptr 1 0 0)] [((1, 0), .box [.int .u64 a0.Trace.Hi, .int .u64 a0.Trace.Lo, .int .i64 a0.First, .int .i64 a0.Last, .bool a0.Sure, .sl 10 (List.map enc58 a0.Spans)])] [(1, 1)] X) ?_ ?_
 ·skip
  refine sr fun K4 hK4 => ?_
  refine pf 6 (.ptr 1 0 2) ty47 ty3 ?_
  refine pl 7 (.int .i64 a0.First) ty3 ?_
  refine pf 8 (.ptr 1 0 3) ty47 ty3 ?_
  refine pl 9 (.int .i64 a0.Last) ty3 ?_
  refine pD 10 (do_buildSlice (xs := List.map enc2 [a0.First, a0.Last]) ty25 ty3 rfl rfl rfl rfl rfl rfl rfl rfl) ?_
  obtain ⟨x5, hx5, h⟩ := bnd_some h
  refine pD 11 (do_callG (bcs := []) [] [] [(10, 0)] 11 false (block_Epoch_ok [a0.First, a0.Last] hx5) rfl ent42 trivial trivial rfl rfl rfl rfl rfl rfl rfl rfl (.inr ⟨rfl, rfl, trivial⟩)) ?_
  refine pP 12 (does_un (v := .bool (!x5)) W_ rfl) ?_
  refine pm 13 (.bool (!x5)) ?_
  refine al_bool (c := (!x5)) 13 rfl (fun c6 => ?_) (fun c6 => ?_)
  ·have h := ifT c6 h
   refine pS 14 ?_
   refine pS 15 ?_
   refine pS 16 ?_
   refine pS 17 ?_
   refine pk 18 (.bool true) ?_
   refine pm 19 (.bool true) ?_
   refine pS 20 ?_
   refine pS 21 ?_
   refine pS 22 ?_
   refine pS 23 ?_
   refine pk 24 (.bool true) ?_
   refine en hK4 ?_
   refine aw_cond_t D_ rfl ?_
   refine sr fun K7 hK7 => ?_
   refine pa 2 (.bool false) ?_
   refine en hK7 ?_
   refine aw_ret ?_
   have h := leafR h hk3
   obtain rfl := Option.some.inj h
   exact ret_ok1 W_ W_ R_ (.inr rfl) rfl
  ·have h := ifF c6 h
   refine pf 14 (.ptr 1 0 5) ty47 ty45 ?_
   refine pl 15 (.sl 10 (List.map enc58 a0.Spans)) ty45 ?_
   refine pP 16 ((does_len_sl W_ ty45).castp (v' := .int .i64 (List.length a0.Spans : Int)) (by exact len_map _)) ?_
   refine pb 17 (.bool ((List.length a0.Spans : Int) == 0)) ?_
   refine pk 18 (.bool ((List.length a0.Spans : Int) == 0)) ?_
   refine pm 19 (.bool ((List.length a0.Spans : Int) == 0)) ?_
   refine al_bool (c := ((List.length a0.Spans : Int) == 0)) 19 rfl (fun c8 => ?_) (fun c8 => ?_)
   ·have h := ifT c8 h
    refine pS 20 ?_
    refine pS 21 ?_
    refine pS 22 ?_
    refine pS 23 ?_
    refine pk 24 (.bool true) ?_
    refine en hK4 ?_
    refine aw_cond_t D_ rfl ?_
    refine sr fun K9 hK9 => ?_
    refine pa 2 (.bool false) ?_
    refine en hK9 ?_
    refine aw_ret ?_
    have h := leafR h hk3
    obtain rfl := Option.some.inj h
    exact ret_ok1 W_ W_ R_ (.inr rfl) rfl
   ·have h := ifF c8 h
    refine pf 20 (.ptr 1 0 5) ty47 ty45 ?_
    refine pl 21 (.sl 10 (List.map enc58 a0.Spans)) ty45 ?_
    obtain ⟨x10, hx10, h⟩ := bnd_some h
    refine pD 22 (do_call0 22 false (span_All_ok a0.Spans hx10) rfl ent59 rfl rfl) ?_
    refine pP 23 (does_un (v := .bool (!x10)) W_ rfl) ?_
    refine pk 24 (.bool (!x10)) ?_
    refine en hK4 ?_
    refine aw_bool (b := (!x10)) 24 rfl (fun c11 => ?_) (fun c11 => ?_)
    ·have h := ifT c11 h
     refine aw_cond_t D_ rfl ?_
     refine sr fun K12 hK12 => ?_
     refine pa 2 (.bool false) ?_
     refine en hK12 ?_
     refine aw_ret ?_
     have h := leafR h hk3
     obtain rfl := Option.some.inj h
     exact ret_ok1 W_ W_ R_ (.inr rfl) rfl
    ·have h := ifF c11 h
     refine aw_cond_f D_ rfl ?_
     refine aw_skip ?_
     have h := leafL h hk3
     exact ⟨_, reb_lit [(1, .ptr 1 0 0)] [(1, 0)] [((1, 0), .box [.int .u64 a0.Trace.Hi, .int .u64 a0.Trace.Lo, .int .i64 a0.First, .int .i64 a0.Last, .bool a0.Sure, .sl 10 (List.map enc58 a0.Spans)])] [(1, 1)] (ec envOk_nil) (objOk_cons W_ W_ R_ (by simp) objOk_nil) (nodup_b rfl) (nodup_b rfl) rfl rfl, h, rfl⟩
 ·rintro s ⟨h, rfl⟩
  unfold block_Episode_k0 at h
  refine sr fun K13 hK13 => ?_
  refine pD 25 (do_makeMap (d := 25) .u64) ?_
  refine pa 3 (.mp 25 0) ?_
  refine en hK13 ?_
  refine aw_seq_k (fun K14 hK14 => ?_)
  refine sr fun K15 hK15 => ?_
  refine pf 26 (.ptr 1 0 5) ty47 ty45 ?_
  refine pl 27 (.sl 10 (List.map enc58 a0.Spans)) ty45 ?_
  refine pP 28 ((does_len_sl W_ ty45).castp (v' := .int .i64 (List.length a0.Spans : Int)) (by exact len_map _)) ?_
  refine pm 29 (.int .i64 0) ?_
  refine en hK15 ?_
  refine aw_block ?_
  refine aw_loop' (fun m s => ∃ (v3_s_1 : List Int), ∃ (v29_1 : Int), loopN (fun (s : List Int × Int) => block_Episode_l1 a0 s.1 s.2) m (v3_s_1, v29_1) = some r ∧ s = lit [(1, .ptr 1 0 0), (3, .mp 25 0), (27, .sl 10 (List.map enc58 a0.Spans)), (28, .int .i64 (List.length a0.Spans : Int)), (29, .int .i64 v29_1)] [((1, 0), .box [.int .u64 a0.Trace.Hi, .int .u64 a0.Trace.Lo, .int .i64 a0.First, .int .i64 a0.Last, .bool a0.Sure, .sl 10 (List.map enc58 a0.Spans)]), ((25, 0), .mp .u64 v3_s_1)] [(1, 1), (25, 1)] X) Fu
   ⟨_, reb_lit [(1, .ptr 1 0 0), (3, .mp 25 0), (27, .sl 10 (List.map enc58 a0.Spans)), (28, .int .i64 (List.length a0.Spans : Int)), (29, .int .i64 (0))] [(1, 0), (25, 0)] [((1, 0), .box [.int .u64 a0.Trace.Hi, .int .u64 a0.Trace.Lo, .int .i64 a0.First, .int .i64 a0.Last, .bool a0.Sure, .sl 10 (List.map enc58 a0.Spans)]), ((25, 0), .mp .u64 ([] : List Int))] [(1, 1), (25, 1)] (ec (ec (ec (ec (ec envOk_nil))))) (objOk_cons W_ W_ R_ (by simp) (objOk_cons W_ W_ R_ (by simp) objOk_nil)) (nodup_b rfl) (nodup_b rfl) rfl rfl, ([] : List Int), 0, h, rfl⟩ ?_
  rintro m s ⟨v3_s_1, v29_1, h, rfl⟩
  obtain ⟨m1, q16, rfl, h, hq17⟩ := loop_some h
  replace h : block_Episode_l1 a0 v3_s_1 v29_1 = some q16 := h
  unfold block_Episode_l1 at h
  refine sr fun K18 hK18 => ?_
  refine pb 30 (.bool (decide (v29_1 < (List.length a0.Spans : Int)))) ?_
  refine en hK18 ?_
  refine aw_seq_k (fun K19 hK19 => ?_)
  refine aw_bool (b := (decide (v29_1 < (List.length a0.Spans : Int)))) 30 rfl (fun c20 => ?_) (fun c20 => ?_)
  ·have h := ifT c20 h
   refine aw_cond_t D_ rfl ?_
   refine aw_skip ?_
   refine hK19 _ ?_
   refine aw_seq_k (fun K21 hK21 => ?_)
   refine aw_block ?_
   refine sr fun K22 hK22 => ?_
   obtain ⟨g23, h⟩ := gd_some h
   obtain ⟨x24, hx24, h⟩ := bnd_some h
   refine pP 31 (does_indexAddr_sl (el := .agg [.int .u64 x24.Trace.Hi, .int .u64 x24.Trace.Lo, .int .u64 x24.Id, .int .u64 x24.Parent, .str x24.Service, .str x24.Op, .int .i64 x24.Start, .int .i64 x24.Dur, .bool x24.Err, .sl 2 (List.map enc73 x24.Attrs)]) W_ W_ ty45 ty59 g23 (by exact map_get hx24)) ?_
   refine pl 32 (.agg [.int .u64 x24.Trace.Hi, .int .u64 x24.Trace.Lo, .int .u64 x24.Id, .int .u64 x24.Parent, .str x24.Service, .str x24.Op, .int .i64 x24.Start, .int .i64 x24.Dur, .bool x24.Err, .sl 2 (List.map enc73 x24.Attrs)]) ty59 ?_
   refine pD 5 (do_new ty59 rfl rfl) ?_
   refine alD none rfl rfl (do_store (cs' := [.int .u64 x24.Trace.Hi, .int .u64 x24.Trace.Lo, .int .u64 x24.Id, .int .u64 x24.Parent, .str x24.Service, .str x24.Op, .int .i64 x24.Start, .int .i64 x24.Dur, .bool x24.Err, .sl 2 (List.map enc73 x24.Attrs)]) W_ W_ W_ ty59 rfl rfl rfl R_) D_ ?_
   refine en hK22 ?_
   obtain ⟨q25, h, hk26⟩ := bnd_some h
   refine aw_cut (fun s => block_Episode_k2 v3_s_1 v29_1 x24 = some q16 ∧ s = lit [(1, .ptr 1 0 0), (3, .mp 25 0), (5, .ptr 5 0 0), (27, .sl 10 (List.map enc58 a0.Spans)), (28, .int .i64 (List.length a0.Spans : Int)), (29, .int .i64 v29_1)] [((1, 0), .box [.int .u64 a0.Trace.Hi, .int .u64 a0.Trace.Lo, .int .i64 a0.First, .int .i64 a0.Last, .bool a0.Sure, .sl 10 (List.map enc58 a0.Spans)]), ((25, 0), .mp .u64 v3_s_1), ((5, 0), .box [.int .u64 x24.Trace.Hi, .int .u64 x24.Trace.Lo, .int .u64 x24.Id, .int .u64 x24.Parent, .str x24.Service, .str x24.Op, .int .i64 x24.Start, .int .i64 x24.Dur, .bool x24.Err, .sl 2 (List.map enc73 x24.Attrs)])] [(1, 1), (5, 1), (25, 1)] X) ?_ ?_
   ·skip
    refine sr fun K27 hK27 => ?_
    refine pf 33 (.ptr 5 0 0) ty59 ty44 ?_
    refine pl 34 (.agg [.int .u64 x24.Trace.Hi, .int .u64 x24.Trace.Lo]) ty44 ?_
    refine pf 35 (.ptr 1 0 0) ty47 ty44 ?_
    refine pl 36 (.agg [.int .u64 a0.Trace.Hi, .int .u64 a0.Trace.Lo]) ty44 ?_
    refine pP 37 (does_eq_struct (v := .bool (!((x24.Trace.Hi == a0.Trace.Hi) && ((x24.Trace.Lo == a0.Trace.Lo) && true)))) W_ W_ fk44 rfl ag44 eg44 W_ rfl) ?_
    refine pm 38 (.bool (!((x24.Trace.Hi == a0.Trace.Hi) && ((x24.Trace.Lo == a0.Trace.Lo) && true)))) ?_
    refine al_bool (c := (!((x24.Trace.Hi == a0.Trace.Hi) && ((x24.Trace.Lo == a0.Trace.Lo) && true)))) 38 rfl (fun c28 => ?_) (fun c28 => ?_)
    ·have h := ifT c28 h
     refine pS 39 ?_
     refine pS 40 ?_
     refine pS 41 ?_
     refine pS 42 ?_
     refine pk 43 (.bool true) ?_
     refine en hK27 ?_
     refine aw_cond_t D_ rfl ?_
     refine sr fun K29 hK29 => ?_
     refine pa 2 (.bool false) ?_
     refine en hK29 ?_
     refine aw_ret ?_
     have h := leafR h hk26
     have h := leafR h hq17
     obtain rfl := Option.some.inj h
     exact ret_ok1 W_ W_ R_ (.inr rfl) rfl
    ·have h := ifF c28 h
     refine pm 39 (.mp 25 0) ?_
     refine pf 40 (.ptr 5 0 2) ty59 ty42 ?_
     refine pl 41 (.int .u64 x24.Id) ty42 ?_
     refine pX 42 (do_lookup W_ W_ W_ Try.underlying89 Try.underlying42 Try.zeroValue4) ?_
     refine pk 43 (.bool (decide (x24.Id ∈ v3_s_1))) ?_
     refine en hK27 ?_
     refine aw_bool (b := (decide (x24.Id ∈ v3_s_1))) 43 rfl (fun c30 => ?_) (fun c30 => ?_)
     ·have h := ifT c30 h
      refine aw_cond_t D_ rfl ?_
      refine sr fun K31 hK31 => ?_
      refine pa 2 (.bool false) ?_
      refine en hK31 ?_
      refine aw_ret ?_
      have h := leafR h hk26
      have h := leafR h hq17
      obtain rfl := Option.some.inj h
      exact ret_ok1 W_ W_ R_ (.inr rfl) rfl
     ·have h := ifF c30 h
      refine aw_cond_f D_ rfl ?_
      refine aw_skip ?_
      have h := leafL h hk26
      exact ⟨_, reb_lit [(1, .ptr 1 0 0), (3, .mp 25 0), (5, .ptr 5 0 0), (27, .sl 10 (List.map enc58 a0.Spans)), (28, .int .i64 (List.length a0.Spans : Int)), (29, .int .i64 v29_1)] [(1, 0), (25, 0), (5, 0)] [((1, 0), .box [.int .u64 a0.Trace.Hi, .int .u64 a0.Trace.Lo, .int .i64 a0.First, .int .i64 a0.Last, .bool a0.Sure, .sl 10 (List.map enc58 a0.Spans)]), ((25, 0), .mp .u64 v3_s_1), ((5, 0), .box [.int .u64 x24.Trace.Hi, .int .u64 x24.Trace.Lo, .int .u64 x24.Id, .int .u64 x24.Parent, .str x24.Service, .str x24.Op, .int .i64 x24.Start, .int .i64 x24.Dur, .bool x24.Err, .sl 2 (List.map enc73 x24.Attrs)])] [(1, 1), (5, 1), (25, 1)] (ec (ec (ec (ec (ec (ec envOk_nil)))))) (objOk_cons W_ W_ R_ (by simp) (objOk_cons W_ W_ R_ (by simp) (objOk_cons W_ W_ R_ (by simp) objOk_nil))) (nodup_b rfl) (nodup_b rfl) rfl rfl, h, rfl⟩
   ·rintro s ⟨h, rfl⟩
    unfold block_Episode_k2 at h
    refine aw_regL ?_
    refine pm 44 (.mp 25 0) ?_
    refine pf 45 (.ptr 5 0 2) ty59 ty42 ?_
    refine pl 46 (.int .u64 x24.Id) ty42 ?_
    refine alD none rfl rfl (do_mapUpdate W_ W_ W_ R_ Try.underlying89 Try.underlying42) D_ ?_
    refine en hK21 ?_
    refine aw_regL ?_
    refine pb 47 (.int .i64 (IntKind.i64.wrap (v29_1 + 1))) ?_
    refine pm 29 (.int .i64 (IntKind.i64.wrap (v29_1 + 1))) ?_
    refine al_nil ?_
    have h := leafL h hq17
    exact ⟨m1, Nat.lt_succ_self _, _, reb_lit [(1, .ptr 1 0 0), (3, .mp 25 0), (27, .sl 10 (List.map enc58 a0.Spans)), (28, .int .i64 (List.length a0.Spans : Int)), (29, .int .i64 (IntKind.i64.wrap (v29_1 + 1)))] [(1, 0), (25, 0)] [((1, 0), .box [.int .u64 a0.Trace.Hi, .int .u64 a0.Trace.Lo, .int .i64 a0.First, .int .i64 a0.Last, .bool a0.Sure, .sl 10 (List.map enc58 a0.Spans)]), ((25, 0), .mp .u64 (addN v3_s_1 x24.Id))] [(1, 1), (25, 1)] (ec (ec (ec (ec (ec envOk_nil))))) (objOk_cons W_ W_ R_ (by simp) (objOk_cons W_ W_ R_ (by simp) objOk_nil)) (nodup_b rfl) (nodup_b rfl) rfl rfl, (addN v3_s_1 x24.Id), (IntKind.i64.wrap (v29_1 + 1)), h, rfl⟩
  ·have h := ifF c20 h
   refine aw_cond_f D_ rfl ?_
   refine aw_exit ?_
   have h := leafR h hq17
   refine hK14 _ ?_
   refine sr fun K32 hK32 => ?_
   refine pa 2 (.bool true) ?_
   refine en hK32 ?_
   refine aw_ret ?_
   obtain rfl := Option.some.inj h
   exact ret_ok1 W_ W_ R_ (.inr rfl) rfl
def cmp_isNaN_uint64 (a0 : Int) : Option Bool :=
 some (a0 != a0)
theorem cmp_isNaN_uint64_ok (a0 : Int) {r : Bool} (h : cmp_isNaN_uint64 a0 = some r) : Ok Try.prog 63 [.int .u64 a0] [] [] (.bool r) [] [] := by
 unfold cmp_isNaN_uint64 at h
 refine ok_of_code Try.func63 rfl (by show (1 : Nat) ≤ _; decide) (Nat.le_refl _) fun X => ?_
 refine sr fun K1 hK1 => ?_
 refine pa 2 (.bool false) ?_
 refine en hK1 ?_
 refine sr fun K2 hK2 => ?_
 refine pm 3 (.int .u64 a0) ?_
 refine pm 4 (.int .u64 a0) ?_
 refine pb 5 (.bool (a0 != a0)) ?_
 refine pa 2 (.bool (a0 != a0)) ?_
 refine en hK2 ?_
 refine aw_ret ?_
 obtain rfl := Option.some.inj h
 exact ret_ok1 W_ W_ R_ (.inr rfl) rfl
def cmp_Compare_uint64 (a0 : Int) (a1 : Int) : Option Int :=
 Option.bind (cmp_isNaN_uint64 a0) (fun (x3 : Bool) => Option.bind (cmp_isNaN_uint64 a1) (fun (x5 : Bool) => if x3 = true then (if x5 = true then (some 0) else (some (-1))) else (if x5 = true then (some 1) else (if (decide (a0 < a1)) = true then (some (-1)) else (if (decide (a1 < a0)) = true then (some 1) else (some 0))))))
theorem cmp_Compare_uint64_ok (a0 : Int) (a1 : Int) {r : Int} (h : cmp_Compare_uint64 a0 a1 = some r) : Ok Try.prog 57 [.int .u64 a0, .int .u64 a1] [] [] (.int .i64 r) [] [] := by
 unfold cmp_Compare_uint64 at h
 refine ok_of_code Try.func57 rfl (by show (2 : Nat) ≤ _; decide) (Nat.le_refl _) fun X => ?_
 refine sr fun K1 hK1 => ?_
 refine pa 4 (.int .i64 0) ?_
 refine en hK1 ?_
 refine sr fun K2 hK2 => ?_
 refine pm 7 (.int .u64 a0) ?_
 obtain ⟨x3, hx3, h⟩ := bnd_some h
 refine pD 8 (do_call0 8 false (cmp_isNaN_uint64_ok a0 hx3) rfl ent63 rfl rfl) ?_
 refine pa 5 (.bool x3) ?_
 refine en hK2 ?_
 refine sr fun K4 hK4 => ?_
 refine pm 9 (.int .u64 a1) ?_
 obtain ⟨x5, hx5, h⟩ := bnd_some h
 refine pD 10 (do_call0 10 false (cmp_isNaN_uint64_ok a1 hx5) rfl ent63 rfl rfl) ?_
 refine pa 6 (.bool x5) ?_
 refine en hK4 ?_
 refine aw_seq_k (fun K6 hK6 => ?_)
 refine sr fun K7 hK7 => ?_
 refine pm 11 (.bool x3) ?_
 refine en hK7 ?_
 refine aw_bool (b := x3) 11 rfl (fun c8 => ?_) (fun c8 => ?_)
 ·have h := ifT c8 h
  refine aw_cond_t D_ rfl ?_
  refine aw_seq_k (fun K9 hK9 => ?_)
  refine sr fun K10 hK10 => ?_
  refine pm 12 (.bool x5) ?_
  refine en hK10 ?_
  refine aw_bool (b := x5) 12 rfl (fun c11 => ?_) (fun c11 => ?_)
  ·have h := ifT c11 h
   refine aw_cond_t D_ rfl ?_
   refine sr fun K12 hK12 => ?_
   refine pa 4 (.int .i64 0) ?_
   refine en hK12 ?_
   refine aw_ret ?_
   obtain rfl := Option.some.inj h
   exact ret_ok1 W_ W_ R_ (.inr rfl) rfl
  ·have h := ifF c11 h
   refine aw_cond_f D_ rfl ?_
   refine aw_skip ?_
   refine hK9 _ ?_
   refine sr fun K13 hK13 => ?_
   refine pa 4 (.int .i64 (-1)) ?_
   refine en hK13 ?_
   refine aw_ret ?_
   obtain rfl := Option.some.inj h
   exact ret_ok1 W_ W_ R_ (.inr rfl) rfl
 ·have h := ifF c8 h
  refine aw_cond_f D_ rfl ?_
  refine aw_skip ?_
  refine hK6 _ ?_
  refine aw_seq_k (fun K14 hK14 => ?_)
  refine sr fun K15 hK15 => ?_
  refine pm 13 (.bool x5) ?_
  refine en hK15 ?_
  refine aw_bool (b := x5) 13 rfl (fun c16 => ?_) (fun c16 => ?_)
  ·have h := ifT c16 h
   refine aw_cond_t D_ rfl ?_
   refine sr fun K17 hK17 => ?_
   refine pa 4 (.int .i64 1) ?_
   refine en hK17 ?_
   refine aw_ret ?_
   obtain rfl := Option.some.inj h
   exact ret_ok1 W_ W_ R_ (.inr rfl) rfl
  ·have h := ifF c16 h
   refine aw_cond_f D_ rfl ?_
   refine aw_skip ?_
   refine hK14 _ ?_
   refine aw_seq_k (fun K18 hK18 => ?_)
   refine sr fun K19 hK19 => ?_
   refine pm 14 (.int .u64 a0) ?_
   refine pm 15 (.int .u64 a1) ?_
   refine pb 16 (.bool (decide (a0 < a1))) ?_
   refine en hK19 ?_
   refine aw_bool (b := (decide (a0 < a1))) 16 rfl (fun c20 => ?_) (fun c20 => ?_)
   ·have h := ifT c20 h
    refine aw_cond_t D_ rfl ?_
    refine sr fun K21 hK21 => ?_
    refine pa 4 (.int .i64 (-1)) ?_
    refine en hK21 ?_
    refine aw_ret ?_
    obtain rfl := Option.some.inj h
    exact ret_ok1 W_ W_ R_ (.inr rfl) rfl
   ·have h := ifF c20 h
    refine aw_cond_f D_ rfl ?_
    refine aw_skip ?_
    refine hK18 _ ?_
    refine aw_seq_k (fun K22 hK22 => ?_)
    refine sr fun K23 hK23 => ?_
    refine pm 17 (.int .u64 a0) ?_
    refine pm 18 (.int .u64 a1) ?_
    refine pb 19 (.bool (decide (a1 < a0))) ?_
    refine en hK23 ?_
    refine aw_bool (b := (decide (a1 < a0))) 19 rfl (fun c24 => ?_) (fun c24 => ?_)
    ·have h := ifT c24 h
     refine aw_cond_t D_ rfl ?_
     refine sr fun K25 hK25 => ?_
     refine pa 4 (.int .i64 1) ?_
     refine en hK25 ?_
     refine aw_ret ?_
     obtain rfl := Option.some.inj h
     exact ret_ok1 W_ W_ R_ (.inr rfl) rfl
    ·have h := ifF c24 h
     refine aw_cond_f D_ rfl ?_
     refine aw_skip ?_
     refine hK22 _ ?_
     refine sr fun K26 hK26 => ?_
     refine pa 4 (.int .i64 0) ?_
     refine en hK26 ?_
     refine aw_ret ?_
     obtain rfl := Option.some.inj h
     exact ret_ok1 W_ W_ R_ (.inr rfl) rfl
def cmp_Or_int_l0 (a0 : List Int) (v8_0 : Int) : Option (Int ⊕ Int) :=
 if (decide (v8_0 < (List.length a0 : Int))) = true then (gd (0 ≤ v8_0) (Option.bind (a0[(Int.toNat v8_0)]?) (fun (x13 : Int) => if (x13 != 0) = true then (some (Sum.inr x13)) else (some (Sum.inl (IntKind.i64.wrap (v8_0 + 1))))))) else (some (Sum.inr 0))
def cmp_Or_int (a0 : List Int) : Option Int :=
 loopN (fun (s : Int) => cmp_Or_int_l0 a0 s) Fu 0
theorem cmp_Or_int_ok (a0 : List Int) {r : Int} (h : cmp_Or_int a0 = some r) : Ok Try.prog 56 [.sl 1 (List.map enc2 a0)] [] [] (.int .i64 r) [] [] := by
 unfold cmp_Or_int at h
 refine ok_of_code Try.func56 rfl (by show (1 : Nat) ≤ _; decide) (Nat.le_refl _) fun X => ?_
 refine sr fun K1 hK1 => ?_
 refine pa 2 (.int .i64 0) ?_
 refine en hK1 ?_
 refine sr fun K2 hK2 => ?_
 refine pa 3 (.int .i64 0) ?_
 refine en hK2 ?_
 refine aw_seq_k (fun K3 hK3 => ?_)
 refine sr fun K4 hK4 => ?_
 refine pm 6 (.sl 1 (List.map enc2 a0)) ?_
 refine pP 7 ((does_len_sl W_ ty25).castp (v' := .int .i64 (List.length a0 : Int)) (by exact len_map _)) ?_
 refine pm 8 (.int .i64 0) ?_
 refine en hK4 ?_
 refine aw_block ?_
 refine aw_loop' (fun m s => ∃ (v8_0 : Int), loopN (fun (s : Int) => cmp_Or_int_l0 a0 s) m v8_0 = some r ∧ s = lit [(3, .int .i64 0), (6, .sl 1 (List.map enc2 a0)), (7, .int .i64 (List.length a0 : Int)), (8, .int .i64 v8_0)] [] [] X) Fu
  ⟨_, reb_lit [(3, .int .i64 0), (6, .sl 1 (List.map enc2 a0)), (7, .int .i64 (List.length a0 : Int)), (8, .int .i64 (0))] [] [] [] (ec (ec (ec (ec envOk_nil)))) objOk_nil (nodup_b rfl) (nodup_b rfl) rfl rfl, 0, h, rfl⟩ ?_
 rintro m s ⟨v8_0, h, rfl⟩
 obtain ⟨m0, q5, rfl, h, hq6⟩ := loop_some h
 replace h : cmp_Or_int_l0 a0 v8_0 = some q5 := h
 unfold cmp_Or_int_l0 at h
 refine sr fun K7 hK7 => ?_
 refine pb 9 (.bool (decide (v8_0 < (List.length a0 : Int)))) ?_
 refine en hK7 ?_
 refine aw_seq_k (fun K8 hK8 => ?_)
 refine aw_bool (b := (decide (v8_0 < (List.length a0 : Int)))) 9 rfl (fun c9 => ?_) (fun c9 => ?_)
 ·have h := ifT c9 h
  refine aw_cond_t D_ rfl ?_
  refine aw_skip ?_
  refine hK8 _ ?_
  refine aw_seq_k (fun K10 hK10 => ?_)
  refine aw_block ?_
  refine sr fun K11 hK11 => ?_
  obtain ⟨g12, h⟩ := gd_some h
  obtain ⟨x13, hx13, h⟩ := bnd_some h
  refine pP 10 (does_indexAddr_sl (el := .int .i64 x13) W_ W_ ty25 ty3 g12 (by exact map_get hx13)) ?_
  refine pl 11 (.int .i64 x13) ty3 ?_
  refine pa 5 (.int .i64 x13) ?_
  refine en hK11 ?_
  refine sr fun K14 hK14 => ?_
  refine pm 12 (.int .i64 x13) ?_
  refine pm 13 (.int .i64 0) ?_
  refine pb 14 (.bool (x13 != 0)) ?_
  refine en hK14 ?_
  refine aw_bool (b := (x13 != 0)) 14 rfl (fun c15 => ?_) (fun c15 => ?_)
  ·have h := ifT c15 h
   refine aw_cond_t D_ rfl ?_
   refine sr fun K16 hK16 => ?_
   refine pm 15 (.int .i64 x13) ?_
   refine pa 2 (.int .i64 x13) ?_
   refine en hK16 ?_
   refine aw_ret ?_
   have h := leafR h hq6
   obtain rfl := Option.some.inj h
   exact ret_ok1 W_ W_ R_ (.inr rfl) rfl
  ·have h := ifF c15 h
   refine aw_cond_f D_ rfl ?_
   refine aw_skip ?_
   refine hK10 _ ?_
   refine aw_regL ?_
   refine pb 16 (.int .i64 (IntKind.i64.wrap (v8_0 + 1))) ?_
   refine pm 8 (.int .i64 (IntKind.i64.wrap (v8_0 + 1))) ?_
   refine al_nil ?_
   have h := leafL h hq6
   exact ⟨m0, Nat.lt_succ_self _, _, reb_lit [(3, .int .i64 0), (6, .sl 1 (List.map enc2 a0)), (7, .int .i64 (List.length a0 : Int)), (8, .int .i64 (IntKind.i64.wrap (v8_0 + 1)))] [] [] [] (ec (ec (ec (ec envOk_nil)))) objOk_nil (nodup_b rfl) (nodup_b rfl) rfl rfl, (IntKind.i64.wrap (v8_0 + 1)), h, rfl⟩
 ·have h := ifF c9 h
  refine aw_cond_f D_ rfl ?_
  refine aw_exit ?_
  have h := leafR h hq6
  refine hK3 _ ?_
  refine sr fun K17 hK17 => ?_
  refine pm 17 (.int .i64 0) ?_
  refine pa 2 (.int .i64 0) ?_
  refine en hK17 ?_
  refine aw_ret ?_
  obtain rfl := Option.some.inj h
  exact ret_ok1 W_ W_ R_ (.inr rfl) rfl
def block_compare (a0 : Episode) (a1 : Episode) : Option Int :=
 Option.bind (cmp_Compare_uint64 a0.Trace.Hi a1.Trace.Hi) (fun (x3 : Int) => Option.bind (cmp_Compare_uint64 a0.Trace.Lo a1.Trace.Lo) (fun (x4 : Int) => Option.bind (cmp_Or_int [x3, x4]) (fun (x5 : Int) => some x5)))
theorem block_compare_ok (a0 : Episode) (a1 : Episode) {r : Int} (h : block_compare a0 a1 = some r) : Ok Try.prog 44 [.agg [.int .u64 a0.Trace.Hi, .int .u64 a0.Trace.Lo, .int .i64 a0.First, .int .i64 a0.Last, .bool a0.Sure, .sl 10 (List.map enc58 a0.Spans)], .agg [.int .u64 a1.Trace.Hi, .int .u64 a1.Trace.Lo, .int .i64 a1.First, .int .i64 a1.Last, .bool a1.Sure, .sl 10 (List.map enc58 a1.Spans)]] [] [] (.int .i64 r) [] [] := by
 unfold block_compare at h
 refine ok_of_code Try.func44 rfl (by show (2 : Nat) ≤ _; decide) (Nat.le_refl _) fun X => ?_
 refine sr fun K1 hK1 => ?_
 refine pD 2 (do_box W_ rfl rfl) ?_
 refine pD 3 (do_box W_ rfl rfl) ?_
 refine pa 4 (.int .i64 0) ?_
 refine en hK1 ?_
 refine aw_seq_k (fun K2 hK2 => ?_)
 refine aw_regd (by kernel_rfl) (by decide +kernel) ?_
 refine qP 5 (does_fieldAddr (q := .ptr 2 0 0) W_ ty47 rfl ty44 D_ R_) ?_
 refine qP 6 (does_fieldAddr (q := .ptr 2 0 0) W_ ty44 rfl ty42 D_ R_) ?_
 refine qR 7 (does_load (v := .int .u64 a0.Trace.Hi) W_ W_ ty42 R_) ?_
 refine qP 8 (does_fieldAddr (q := .ptr 3 0 0) W_ ty47 rfl ty44 D_ R_) ?_
 refine qP 9 (does_fieldAddr (q := .ptr 3 0 0) W_ ty44 rfl ty42 D_ R_) ?_
 refine qR 10 (does_load (v := .int .u64 a1.Trace.Hi) W_ W_ ty42 R_) ?_
 obtain ⟨x3, hx3, h⟩ := bnd_some h
 refine qD 11 (do_call0 11 false (cmp_Compare_uint64_ok a0.Trace.Hi a1.Trace.Hi hx3) rfl ent57 rfl rfl) ?_
 refine qP 12 (does_fieldAddr (q := .ptr 2 0 0) W_ ty47 rfl ty44 D_ R_) ?_
 refine qP 13 (does_fieldAddr (q := .ptr 2 0 1) W_ ty44 rfl ty42 D_ R_) ?_
 refine qR 14 (does_load (v := .int .u64 a0.Trace.Lo) W_ W_ ty42 R_) ?_
 refine qP 15 (does_fieldAddr (q := .ptr 3 0 0) W_ ty47 rfl ty44 D_ R_) ?_
 refine qP 16 (does_fieldAddr (q := .ptr 3 0 1) W_ ty44 rfl ty42 D_ R_) ?_
 refine qR 17 (does_load (v := .int .u64 a1.Trace.Lo) W_ W_ ty42 R_) ?_
 obtain ⟨x4, hx4, h⟩ := bnd_some h
 refine qD 18 (do_call0 18 false (cmp_Compare_uint64_ok a0.Trace.Lo a1.Trace.Lo hx4) rfl ent57 rfl rfl) ?_
 refine qD 19 (do_buildSlice (xs := List.map enc2 [x3, x4]) ty25 ty3 rfl rfl rfl rfl rfl rfl rfl rfl) ?_
 obtain ⟨x5, hx5, h⟩ := bnd_some h
 refine qD 20 (do_callG (bcs := []) [] [] [(19, 0)] 20 false (cmp_Or_int_ok [x3, x4] hx5) rfl ent56 trivial trivial rfl rfl rfl rfl rfl rfl rfl rfl (.inr ⟨rfl, rfl, trivial⟩)) ?_
 refine qP 4 (does_assign (v := .int .i64 x5) R_) ?_
 refine ao_nil_d (by kernel_rfl) ?_
 refine hK2 _ ?_
 refine aw_ret ?_
 obtain rfl := Option.some.inj h
 exact ret_ok1 W_ W_ R_ (.inr rfl) rfl
def slices_IsSortedFunc_Episode_block_compare_l0 (a0 : List Episode) (v5_0 : Int) : Option (Int ⊕ Bool) :=
 if (decide ((0 : Int) < v5_0)) = true then (gd (0 ≤ v5_0) (Option.bind (a0[(Int.toNat v5_0)]?) (fun (x12 : Episode) => gd (0 ≤ (IntKind.i64.wrap (v5_0 - 1))) (Option.bind (a0[(Int.toNat (IntKind.i64.wrap (v5_0 - 1)))]?) (fun (x14 : Episode) => Option.bind (block_compare x12 x14) (fun (x15 : Int) => if (decide (x15 < 0)) = true then (some (Sum.inr false)) else (some (Sum.inl (IntKind.i64.wrap (v5_0 - 1)))))))))) else (some (Sum.inr true))
def slices_IsSortedFunc_Episode_block_compare (a0 : List Episode) : Option Bool :=
 loopN (fun (s : Int) => slices_IsSortedFunc_Episode_block_compare_l0 a0 s) Fu (IntKind.i64.wrap ((List.length a0 : Int) - 1))
theorem slices_IsSortedFunc_Episode_block_compare_ok (a0 : List Episode) {r : Bool} (h : slices_IsSortedFunc_Episode_block_compare a0 = some r) : Ok Try.prog 43 [.sl 6 (List.map enc46 a0), .fn 44 []] [] [] (.bool r) [] [] := by
 unfold slices_IsSortedFunc_Episode_block_compare at h
 refine ok_of_code Try.func43 rfl (by show (2 : Nat) ≤ _; decide) (Nat.le_refl _) fun X => ?_
 refine sr fun K1 hK1 => ?_
 refine pa 4 (.bool false) ?_
 refine en hK1 ?_
 refine aw_seq_k (fun K2 hK2 => ?_)
 refine sr fun K3 hK3 => ?_
 refine pm 6 (.sl 6 (List.map enc46 a0)) ?_
 refine pP 7 ((does_len_sl W_ ty29).castp (v' := .int .i64 (List.length a0 : Int)) (by exact len_map _)) ?_
 refine pb 8 (.int .i64 (IntKind.i64.wrap ((List.length a0 : Int) - 1))) ?_
 refine pa 5 (.int .i64 (IntKind.i64.wrap ((List.length a0 : Int) - 1))) ?_
 refine en hK3 ?_
 refine aw_block ?_
 refine aw_loop' (fun m s => ∃ (v5_0 : Int), loopN (fun (s : Int) => slices_IsSortedFunc_Episode_block_compare_l0 a0 s) m v5_0 = some r ∧ s = lit [(0, .sl 6 (List.map enc46 a0)), (1, .fn 44 []), (5, .int .i64 v5_0)] [] [] X) Fu
  ⟨_, reb_lit [(0, .sl 6 (List.map enc46 a0)), (1, .fn 44 []), (5, .int .i64 (IntKind.i64.wrap ((List.length a0 : Int) - 1)))] [] [] [] (ec (ec (ec envOk_nil))) objOk_nil (nodup_b rfl) (nodup_b rfl) rfl rfl, (IntKind.i64.wrap ((List.length a0 : Int) - 1)), h, rfl⟩ ?_
 rintro m s ⟨v5_0, h, rfl⟩
 obtain ⟨m0, q4, rfl, h, hq5⟩ := loop_some h
 replace h : slices_IsSortedFunc_Episode_block_compare_l0 a0 v5_0 = some q4 := h
 unfold slices_IsSortedFunc_Episode_block_compare_l0 at h
 refine aw_seq_k (fun K6 hK6 => ?_)
 refine sr fun K7 hK7 => ?_
 refine pm 9 (.int .i64 v5_0) ?_
 refine pb 10 (.bool (decide ((0 : Int) < v5_0))) ?_
 refine en hK7 ?_
 refine aw_bool (b := (decide ((0 : Int) < v5_0))) 10 rfl (fun c8 => ?_) (fun c8 => ?_)
 ·have h := ifT c8 h
  refine aw_cond_t D_ rfl ?_
  refine aw_skip ?_
  refine hK6 _ ?_
  refine aw_seq_k (fun K9 hK9 => ?_)
  refine aw_block ?_
  refine aw_seq_k (fun K10 hK10 => ?_)
  refine aw_regd (by kernel_rfl) (by decide +kernel) ?_
  refine qP 13 (does_move (v := .fn 44 []) R_) ?_
  refine qP 14 (does_move (v := .sl 6 (List.map enc46 a0)) R_) ?_
  refine qP 15 (does_move (v := .int .i64 v5_0) R_) ?_
  obtain ⟨g11, h⟩ := gd_some h
  obtain ⟨x12, hx12, h⟩ := bnd_some h
  refine qP 16 (does_indexAddr_sl (el := .agg [.int .u64 x12.Trace.Hi, .int .u64 x12.Trace.Lo, .int .i64 x12.First, .int .i64 x12.Last, .bool x12.Sure, .sl 10 (List.map enc58 x12.Spans)]) W_ W_ ty29 ty47 g11 (by exact map_get hx12)) ?_
  refine qR 17 (does_load (v := .agg [.int .u64 x12.Trace.Hi, .int .u64 x12.Trace.Lo, .int .i64 x12.First, .int .i64 x12.Last, .bool x12.Sure, .sl 10 (List.map enc58 x12.Spans)]) W_ W_ ty47 R_) ?_
  refine qP 18 (does_move (v := .sl 6 (List.map enc46 a0)) R_) ?_
  refine qP 19 (does_move (v := .int .i64 v5_0) R_) ?_
  refine qP 20 (does_bin (v := .int .i64 (IntKind.i64.wrap (v5_0 - 1))) W_ W_ rfl) ?_
  obtain ⟨g13, h⟩ := gd_some h
  obtain ⟨x14, hx14, h⟩ := bnd_some h
  refine qP 21 (does_indexAddr_sl (el := .agg [.int .u64 x14.Trace.Hi, .int .u64 x14.Trace.Lo, .int .i64 x14.First, .int .i64 x14.Last, .bool x14.Sure, .sl 10 (List.map enc58 x14.Spans)]) W_ W_ ty29 ty47 g13 (by exact map_get hx14)) ?_
  refine qR 22 (does_load (v := .agg [.int .u64 x14.Trace.Hi, .int .u64 x14.Trace.Lo, .int .i64 x14.First, .int .i64 x14.Last, .bool x14.Sure, .sl 10 (List.map enc58 x14.Spans)]) W_ W_ ty47 R_) ?_
  obtain ⟨x15, hx15, h⟩ := bnd_some h
  refine qD 23 (do_call0 23 false (block_compare_ok x12 x14 hx15) rfl ent44 rfl rfl) ?_
  refine qP 24 (does_bin (v := .bool (decide (x15 < 0))) W_ W_ rfl) ?_
  refine ao_nil_d (by kernel_rfl) ?_
  refine hK10 _ ?_
  refine aw_bool (b := (decide (x15 < 0))) 24 rfl (fun c16 => ?_) (fun c16 => ?_)
  ·have h := ifT c16 h
   refine aw_cond_t D_ rfl ?_
   refine sr fun K17 hK17 => ?_
   refine pa 4 (.bool false) ?_
   refine en hK17 ?_
   refine aw_ret ?_
   have h := leafR h hq5
   obtain rfl := Option.some.inj h
   exact ret_ok1 W_ W_ R_ (.inr rfl) rfl
  ·have h := ifF c16 h
   refine aw_cond_f D_ rfl ?_
   refine aw_skip ?_
   refine hK9 _ ?_
   refine aw_regL ?_
   refine pm 11 (.int .i64 v5_0) ?_
   refine pb 12 (.int .i64 (IntKind.i64.wrap (v5_0 - 1))) ?_
   refine pa 5 (.int .i64 (IntKind.i64.wrap (v5_0 - 1))) ?_
   refine al_nil ?_
   have h := leafL h hq5
   exact ⟨m0, Nat.lt_succ_self _, _, reb_lit [(0, .sl 6 (List.map enc46 a0)), (1, .fn 44 []), (5, .int .i64 (IntKind.i64.wrap (v5_0 - 1)))] [] [] [] (ec (ec (ec envOk_nil))) objOk_nil (nodup_b rfl) (nodup_b rfl) rfl rfl, (IntKind.i64.wrap (v5_0 - 1)), h, rfl⟩
 ·have h := ifF c8 h
  refine aw_cond_f D_ rfl ?_
  refine aw_exit ?_
  have h := leafR h hq5
  refine hK2 _ ?_
  refine sr fun K18 hK18 => ?_
  refine pa 4 (.bool true) ?_
  refine en hK18 ?_
  refine aw_ret ?_
  obtain rfl := Option.some.inj h
  exact ret_ok1 W_ W_ R_ (.inr rfl) rfl
def block_Right_c1 (a0 : Episode) : Option Bool :=
 Option.bind (block_Episode a0) (fun (x3 : Bool) => some (!x3))
theorem block_Right_c1_ok (a0 : Episode) {r : Bool} (h : block_Right_c1 a0 = some r) : Ok Try.prog 46 [.agg [.int .u64 a0.Trace.Hi, .int .u64 a0.Trace.Lo, .int .i64 a0.First, .int .i64 a0.Last, .bool a0.Sure, .sl 10 (List.map enc58 a0.Spans)]] [] [] (.bool r) [] [] := by
 unfold block_Right_c1 at h
 refine ok_of_code Try.func46 rfl (by show (1 : Nat) ≤ _; decide) (Nat.le_refl _) fun X => ?_
 refine sr fun K1 hK1 => ?_
 refine pD 1 (do_box W_ rfl rfl) ?_
 refine pa 2 (.bool false) ?_
 refine en hK1 ?_
 refine sr fun K2 hK2 => ?_
 refine pl 3 (.agg [.int .u64 a0.Trace.Hi, .int .u64 a0.Trace.Lo, .int .i64 a0.First, .int .i64 a0.Last, .bool a0.Sure, .sl 10 (List.map enc58 a0.Spans)]) ty47 ?_
 obtain ⟨x3, hx3, h⟩ := bnd_some h
 refine pD 4 (do_call0 4 false (block_Episode_ok a0 hx3) rfl ent47 rfl rfl) ?_
 refine pP 5 (does_un (v := .bool (!x3)) W_ rfl) ?_
 refine pa 2 (.bool (!x3)) ?_
 refine en hK2 ?_
 refine aw_ret ?_
 obtain rfl := Option.some.inj h
 exact ret_ok1 W_ W_ R_ (.inr rfl) rfl
def slices_IndexFunc_Episode_block_Right_c1_l0 (a0 : List Episode) (v8_0 : Int) : Option (Int ⊕ Int) :=
 if (decide (v8_0 < (List.length a0 : Int))) = true then (gd (0 ≤ v8_0) (Option.bind (a0[(Int.toNat v8_0)]?) (fun (x13 : Episode) => Option.bind (block_Right_c1 x13) (fun (x14 : Bool) => if x14 = true then (some (Sum.inr v8_0)) else (some (Sum.inl (IntKind.i64.wrap (v8_0 + 1)))))))) else (some (Sum.inr (-1)))
def slices_IndexFunc_Episode_block_Right_c1 (a0 : List Episode) : Option Int :=
 loopN (fun (s : Int) => slices_IndexFunc_Episode_block_Right_c1_l0 a0 s) Fu 0
theorem slices_IndexFunc_Episode_block_Right_c1_ok (a0 : List Episode) {r : Int} (h : slices_IndexFunc_Episode_block_Right_c1 a0 = some r) : Ok Try.prog 58 [.sl 6 (List.map enc46 a0), .fn 46 []] [] [] (.int .i64 r) [] [] := by
 unfold slices_IndexFunc_Episode_block_Right_c1 at h
 refine ok_of_code Try.func58 rfl (by show (2 : Nat) ≤ _; decide) (Nat.le_refl _) fun X => ?_
 refine sr fun K1 hK1 => ?_
 refine pa 4 (.int .i64 0) ?_
 refine en hK1 ?_
 refine aw_seq_k (fun K2 hK2 => ?_)
 refine sr fun K3 hK3 => ?_
 refine pm 6 (.sl 6 (List.map enc46 a0)) ?_
 refine pP 7 ((does_len_sl W_ ty29).castp (v' := .int .i64 (List.length a0 : Int)) (by exact len_map _)) ?_
 refine pm 8 (.int .i64 0) ?_
 refine en hK3 ?_
 refine aw_block ?_
 refine aw_loop' (fun m s => ∃ (v8_0 : Int), loopN (fun (s : Int) => slices_IndexFunc_Episode_block_Right_c1_l0 a0 s) m v8_0 = some r ∧ s = lit [(0, .sl 6 (List.map enc46 a0)), (1, .fn 46 []), (7, .int .i64 (List.length a0 : Int)), (8, .int .i64 v8_0)] [] [] X) Fu
  ⟨_, reb_lit [(0, .sl 6 (List.map enc46 a0)), (1, .fn 46 []), (7, .int .i64 (List.length a0 : Int)), (8, .int .i64 (0))] [] [] [] (ec (ec (ec (ec envOk_nil)))) objOk_nil (nodup_b rfl) (nodup_b rfl) rfl rfl, 0, h, rfl⟩ ?_
 rintro m s ⟨v8_0, h, rfl⟩
 obtain ⟨m0, q4, rfl, h, hq5⟩ := loop_some h
 replace h : slices_IndexFunc_Episode_block_Right_c1_l0 a0 v8_0 = some q4 := h
 unfold slices_IndexFunc_Episode_block_Right_c1_l0 at h
 refine sr fun K6 hK6 => ?_
 refine pb 9 (.bool (decide (v8_0 < (List.length a0 : Int)))) ?_
 refine en hK6 ?_
 refine aw_seq_k (fun K7 hK7 => ?_)
 refine aw_bool (b := (decide (v8_0 < (List.length a0 : Int)))) 9 rfl (fun c8 => ?_) (fun c8 => ?_)
 ·have h := ifT c8 h
  refine aw_cond_t D_ rfl ?_
  refine aw_skip ?_
  refine hK7 _ ?_
  refine aw_seq_k (fun K9 hK9 => ?_)
  refine aw_block ?_
  refine sr fun K10 hK10 => ?_
  refine pm 10 (.int .i64 v8_0) ?_
  refine pa 5 (.int .i64 v8_0) ?_
  refine en hK10 ?_
  refine sr fun K11 hK11 => ?_
  refine pm 11 (.fn 46 []) ?_
  refine pm 12 (.sl 6 (List.map enc46 a0)) ?_
  refine pm 13 (.int .i64 v8_0) ?_
  obtain ⟨g12, h⟩ := gd_some h
  obtain ⟨x13, hx13, h⟩ := bnd_some h
  refine pP 14 (does_indexAddr_sl (el := .agg [.int .u64 x13.Trace.Hi, .int .u64 x13.Trace.Lo, .int .i64 x13.First, .int .i64 x13.Last, .bool x13.Sure, .sl 10 (List.map enc58 x13.Spans)]) W_ W_ ty29 ty47 g12 (by exact map_get hx13)) ?_
  refine pl 15 (.agg [.int .u64 x13.Trace.Hi, .int .u64 x13.Trace.Lo, .int .i64 x13.First, .int .i64 x13.Last, .bool x13.Sure, .sl 10 (List.map enc58 x13.Spans)]) ty47 ?_
  obtain ⟨x14, hx14, h⟩ := bnd_some h
  refine pD 16 (do_call0 16 false (block_Right_c1_ok x13 hx14) rfl ent46 rfl rfl) ?_
  refine en hK11 ?_
  refine aw_bool (b := x14) 16 rfl (fun c15 => ?_) (fun c15 => ?_)
  ·have h := ifT c15 h
   refine aw_cond_t D_ rfl ?_
   refine sr fun K16 hK16 => ?_
   refine pm 17 (.int .i64 v8_0) ?_
   refine pa 4 (.int .i64 v8_0) ?_
   refine en hK16 ?_
   refine aw_ret ?_
   have h := leafR h hq5
   obtain rfl := Option.some.inj h
   exact ret_ok1 W_ W_ R_ (.inr rfl) rfl
  ·have h := ifF c15 h
   refine aw_cond_f D_ rfl ?_
   refine aw_skip ?_
   refine hK9 _ ?_
   refine aw_regL ?_
   refine pb 18 (.int .i64 (IntKind.i64.wrap (v8_0 + 1))) ?_
   refine pm 8 (.int .i64 (IntKind.i64.wrap (v8_0 + 1))) ?_
   refine al_nil ?_
   have h := leafL h hq5
   exact ⟨m0, Nat.lt_succ_self _, _, reb_lit [(0, .sl 6 (List.map enc46 a0)), (1, .fn 46 []), (7, .int .i64 (List.length a0 : Int)), (8, .int .i64 (IntKind.i64.wrap (v8_0 + 1)))] [] [] [] (ec (ec (ec (ec envOk_nil)))) objOk_nil (nodup_b rfl) (nodup_b rfl) rfl rfl, (IntKind.i64.wrap (v8_0 + 1)), h, rfl⟩
 ·have h := ifF c8 h
  refine aw_cond_f D_ rfl ?_
  refine aw_exit ?_
  have h := leafR h hq5
  refine hK2 _ ?_
  refine sr fun K17 hK17 => ?_
  refine pa 4 (.int .i64 (-1)) ?_
  refine en hK17 ?_
  refine aw_ret ?_
  obtain rfl := Option.some.inj h
  exact ret_ok1 W_ W_ R_ (.inr rfl) rfl
def slices_ContainsFunc_Episode_block_Right_c1 (a0 : List Episode) : Option Bool :=
 Option.bind (slices_IndexFunc_Episode_block_Right_c1 a0) (fun (x3 : Int) => some (decide ((0 : Int) ≤ x3)))
theorem slices_ContainsFunc_Episode_block_Right_c1_ok (a0 : List Episode) {r : Bool} (h : slices_ContainsFunc_Episode_block_Right_c1 a0 = some r) : Ok Try.prog 45 [.sl 6 (List.map enc46 a0), .fn 46 []] [] [] (.bool r) [] [] := by
 unfold slices_ContainsFunc_Episode_block_Right_c1 at h
 refine ok_of_code Try.func45 rfl (by show (2 : Nat) ≤ _; decide) (Nat.le_refl _) fun X => ?_
 refine sr fun K1 hK1 => ?_
 refine pa 4 (.bool false) ?_
 refine en hK1 ?_
 refine sr fun K2 hK2 => ?_
 refine pm 5 (.sl 6 (List.map enc46 a0)) ?_
 refine pm 6 (.fn 46 []) ?_
 obtain ⟨x3, hx3, h⟩ := bnd_some h
 refine pD 7 (do_call0 7 false (slices_IndexFunc_Episode_block_Right_c1_ok a0 hx3) rfl ent58 rfl rfl) ?_
 refine pb 8 (.bool (decide ((0 : Int) ≤ x3))) ?_
 refine pa 4 (.bool (decide ((0 : Int) ≤ x3))) ?_
 refine en hK2 ?_
 refine aw_ret ?_
 obtain rfl := Option.some.inj h
 exact ret_ok1 W_ W_ R_ (.inr rfl) rfl
def block_Right (a0 : Block) : Option Bool :=
 Option.bind (block_Epoch [a0.Number, a0.Born, a0.Tier]) (fun (x3 : Bool) => if x3 = true then (Option.bind (slices_IsSortedFunc_Episode_block_compare a0.Episodes) (fun (x5 : Bool) => if x5 = true then (Option.bind (slices_ContainsFunc_Episode_block_Right_c1 a0.Episodes) (fun (x7 : Bool) => some (!x7))) else (some false))) else (some false))
theorem block_Right_ok (a0 : Block) {r : Bool} (h : block_Right a0 = some r) : Ok Try.prog 32 [.agg [.int .i64 a0.Number, .int .i64 a0.Born, .int .i64 a0.Tier, .sl 6 (List.map enc46 a0.Episodes)]] [] [] (.bool r) [] [] := by
 unfold block_Right at h
 refine ok_of_code Try.func32 rfl (by show (1 : Nat) ≤ _; decide) (Nat.le_refl _) fun X => ?_
 refine sr fun K1 hK1 => ?_
 refine pD 1 (do_box W_ rfl rfl) ?_
 refine pa 2 (.bool false) ?_
 refine en hK1 ?_
 refine sr fun K2 hK2 => ?_
 refine pf 3 (.ptr 1 0 0) ty31 ty3 ?_
 refine pl 4 (.int .i64 a0.Number) ty3 ?_
 refine pf 5 (.ptr 1 0 1) ty31 ty3 ?_
 refine pl 6 (.int .i64 a0.Born) ty3 ?_
 refine pf 7 (.ptr 1 0 2) ty31 ty3 ?_
 refine pl 8 (.int .i64 a0.Tier) ty3 ?_
 refine pD 9 (do_buildSlice (xs := List.map enc2 [a0.Number, a0.Born, a0.Tier]) ty25 ty3 rfl rfl rfl rfl rfl rfl rfl rfl) ?_
 obtain ⟨x3, hx3, h⟩ := bnd_some h
 refine pD 10 (do_callG (bcs := []) [] [] [(9, 0)] 10 false (block_Epoch_ok [a0.Number, a0.Born, a0.Tier] hx3) rfl ent42 trivial trivial rfl rfl rfl rfl rfl rfl rfl rfl (.inr ⟨rfl, rfl, trivial⟩)) ?_
 refine pm 11 (.bool x3) ?_
 refine al_bool (c := x3) 11 rfl (fun c4 => ?_) (fun c4 => ?_)
 ·have h := ifT c4 h
  refine pf 12 (.ptr 1 0 3) ty31 ty29 ?_
  refine pl 13 (.sl 6 (List.map enc46 a0.Episodes)) ty29 ?_
  obtain ⟨x5, hx5, h⟩ := bnd_some h
  refine pD 14 (do_call0 14 false (slices_IsSortedFunc_Episode_block_compare_ok a0.Episodes hx5) rfl ent43 rfl rfl) ?_
  refine pk 15 (.bool x5) ?_
  refine pm 16 (.bool x5) ?_
  refine al_bool (c := x5) 16 rfl (fun c6 => ?_) (fun c6 => ?_)
  ·have h := ifT c6 h
   refine pf 17 (.ptr 1 0 3) ty31 ty29 ?_
   refine pl 18 (.sl 6 (List.map enc46 a0.Episodes)) ty29 ?_
   obtain ⟨x7, hx7, h⟩ := bnd_some h
   refine pD 19 (do_call0 19 false (slices_ContainsFunc_Episode_block_Right_c1_ok a0.Episodes hx7) rfl ent45 rfl rfl) ?_
   refine pP 20 (does_un (v := .bool (!x7)) W_ rfl) ?_
   refine pk 21 (.bool (!x7)) ?_
   refine pa 2 (.bool (!x7)) ?_
   refine en hK2 ?_
   refine aw_ret ?_
   obtain rfl := Option.some.inj h
   exact ret_ok1 W_ W_ R_ (.inr rfl) rfl
  ·have h := ifF c6 h
   refine pS 17 ?_
   refine pS 18 ?_
   refine pS 19 ?_
   refine pS 20 ?_
   refine pk 21 (.bool false) ?_
   refine pa 2 (.bool false) ?_
   refine en hK2 ?_
   refine aw_ret ?_
   obtain rfl := Option.some.inj h
   exact ret_ok1 W_ W_ R_ (.inr rfl) rfl
 ·have h := ifF c4 h
  refine pS 12 ?_
  refine pS 13 ?_
  refine pS 14 ?_
  refine pk 15 (.bool false) ?_
  refine pm 16 (.bool false) ?_
  refine pS 17 ?_
  refine pS 18 ?_
  refine pS 19 ?_
  refine pS 20 ?_
  refine pk 21 (.bool false) ?_
  refine pa 2 (.bool false) ?_
  refine en hK2 ?_
  refine aw_ret ?_
  obtain rfl := Option.some.inj h
  exact ret_ok1 W_ W_ R_ (.inr rfl) rfl
def block_PutSpans_l0 (a1 : Episode) (vb0_s_0_s_0 : List UInt8) (v26_0 : Int) : Option ((List UInt8 × Int) ⊕ Writer) :=
 if (decide (v26_0 < (List.length a1.Spans : Int))) = true then (gd (0 ≤ v26_0) (Option.bind (a1.Spans[(Int.toNat v26_0)]?) (fun (x17 : Span) => Option.bind (span_Put (Writer.mk vb0_s_0_s_0) x17) (fun (x18 : Writer) => some (Sum.inl (x18.B, (IntKind.i64.wrap (v26_0 + 1)))))))) else (some (Sum.inr (Writer.mk vb0_s_0_s_0)))
def block_PutSpans (a0 : Writer) (a1 : Episode) : Option Writer :=
 Option.bind (ints_Writer_Num a0 [a1.First, a1.Last]) (fun (x3 : Writer) => Option.bind (ints_Writer_Flag x3 a1.Sure) (fun (x5 : Writer) => Option.bind (ints_Writer_Num x5 [(List.length a1.Spans : Int)]) (fun (x7 : Writer) => loopN (fun (s : List UInt8 × Int) => block_PutSpans_l0 a1 s.1 s.2) Fu (x7.B, 0))))
theorem block_PutSpans_ok (a0 : Writer) (a1 : Episode) {r : Writer} (h : block_PutSpans a0 a1 = some r) : Ok Try.prog 34 [.ptr 0 0 0, .agg [.int .u64 a1.Trace.Hi, .int .u64 a1.Trace.Lo, .int .i64 a1.First, .int .i64 a1.Last, .bool a1.Sure, .sl 10 (List.map enc58 a1.Spans)]] [[.own 1 0]] [(5, 1, List.map enc5 a0.B)] (.tup []) [[.own 2 0]] [(5, 1, List.map enc5 r.B)] := by
 unfold block_PutSpans at h
 refine ok_of_code Try.func34 rfl (by show (2 : Nat) ≤ _; decide) (Nat.le_refl _) fun X => ?_
 refine sr fun K1 hK1 => ?_
 refine pD 3 (do_box W_ rfl rfl) ?_
 refine en hK1 ?_
 refine sr fun K2 hK2 => ?_
 refine pm 6 (.ptr 0 0 0) ?_
 refine pf 7 (.ptr 3 0 2) ty47 ty3 ?_
 refine pl 8 (.int .i64 a1.First) ty3 ?_
 refine pf 9 (.ptr 3 0 3) ty47 ty3 ?_
 refine pl 10 (.int .i64 a1.Last) ty3 ?_
 refine pD 11 (do_buildSlice (xs := List.map enc2 [a1.First, a1.Last]) ty25 ty3 rfl rfl rfl rfl rfl rfl rfl rfl) ?_
 obtain ⟨x3, hx3, h⟩ := bnd_some h
 refine pD 12 (does_frz (d := 11) (n := 0) W_ (do_callG (bcs := [[.own 1 0]]) [(0, 0)] [(1, 0)] [(11, 0)] 12 false (ints_Writer_Num_ok a0 [a1.First, a1.Last] hx3) rfl ent33 ⟨R_, trivial⟩ (rowsOk_cons W_ R_ trivial) rfl rfl rfl rfl rfl rfl rfl rfl (.inl ⟨⟨_, _, _, rfl⟩, trivial⟩))) ?_
 refine en hK2 ?_
 refine sr fun K4 hK4 => ?_
 refine pm 13 (.ptr 0 0 0) ?_
 refine pf 14 (.ptr 3 0 4) ty47 ty4 ?_
 refine pl 15 (.bool a1.Sure) ty4 ?_
 obtain ⟨x5, hx5, h⟩ := bnd_some h
 refine pD 16 (do_callG (bcs := [[.own 12 0]]) [(0, 0)] [(12, 0)] [] 16 false (ints_Writer_Flag_ok x3 a1.Sure hx5) rfl ent48 ⟨R_, trivial⟩ (rowsOk_cons W_ R_ trivial) rfl rfl rfl rfl rfl rfl rfl rfl (.inl trivial)) ?_
 refine en hK4 ?_
 refine sr fun K6 hK6 => ?_
 refine pm 17 (.ptr 0 0 0) ?_
 refine pf 18 (.ptr 3 0 5) ty47 ty45 ?_
 refine pl 19 (.sl 10 (List.map enc58 a1.Spans)) ty45 ?_
 refine pP 20 ((does_len_sl W_ ty45).castp (v' := .int .i64 (List.length a1.Spans : Int)) (by exact len_map _)) ?_
 refine pD 21 (do_buildSlice (xs := List.map enc2 [(List.length a1.Spans : Int)]) ty25 ty3 rfl rfl rfl rfl rfl rfl rfl rfl) ?_
 obtain ⟨x7, hx7, h⟩ := bnd_some h
 refine pD 22 (does_frz (d := 21) (n := 0) W_ (do_callG (bcs := [[.own 16 0]]) [(0, 0)] [(16, 0)] [(21, 0)] 22 false (ints_Writer_Num_ok x5 [(List.length a1.Spans : Int)] hx7) rfl ent33 ⟨R_, trivial⟩ (rowsOk_cons W_ R_ trivial) rfl rfl rfl rfl rfl rfl rfl rfl (.inl ⟨⟨_, _, _, rfl⟩, trivial⟩))) ?_
 refine en hK6 ?_
 refine sr fun K8 hK8 => ?_
 refine pf 23 (.ptr 3 0 5) ty47 ty45 ?_
 refine pl 24 (.sl 10 (List.map enc58 a1.Spans)) ty45 ?_
 refine pP 25 ((does_len_sl W_ ty45).castp (v' := .int .i64 (List.length a1.Spans : Int)) (by exact len_map _)) ?_
 refine pm 26 (.int .i64 0) ?_
 refine en hK8 ?_
 refine aw_block ?_
 refine aw_loop' (fun m s => ∃ (vb0_s_0_s_0 : List UInt8), ∃ (v26_0 : Int), loopN (fun (s : List UInt8 × Int) => block_PutSpans_l0 a1 s.1 s.2) m (vb0_s_0_s_0, v26_0) = some r ∧ s = lit [(0, .ptr 0 0 0), (24, .sl 10 (List.map enc58 a1.Spans)), (25, .int .i64 (List.length a1.Spans : Int)), (26, .int .i64 v26_0)] [((0, 0), .box [.own 22 0]), ((22, 0), .arr 5 1 false (List.map enc5 vb0_s_0_s_0))] [(0, 1), (22, 1)] X) Fu
  ⟨_, reb_lit [(0, .ptr 0 0 0), (24, .sl 10 (List.map enc58 a1.Spans)), (25, .int .i64 (List.length a1.Spans : Int)), (26, .int .i64 (0))] [(0, 0), (22, 0)] [((0, 0), .box [.own 22 0]), ((22, 0), .arr 5 1 false (List.map enc5 x7.B))] [(0, 1), (22, 1)] (ec (ec (ec (ec envOk_nil)))) (objOk_cons W_ W_ R_ (by simp) (objOk_cons W_ W_ R_ (by simp) objOk_nil)) (nodup_b rfl) (nodup_b rfl) rfl rfl, x7.B, 0, h, rfl⟩ ?_
 rintro m s ⟨vb0_s_0_s_0, v26_0, h, rfl⟩
 obtain ⟨m0, q9, rfl, h, hq10⟩ := loop_some h
 replace h : block_PutSpans_l0 a1 vb0_s_0_s_0 v26_0 = some q9 := h
 unfold block_PutSpans_l0 at h
 refine sr fun K11 hK11 => ?_
 refine pb 27 (.bool (decide (v26_0 < (List.length a1.Spans : Int)))) ?_
 refine en hK11 ?_
 refine aw_seq_k (fun K12 hK12 => ?_)
 refine aw_bool (b := (decide (v26_0 < (List.length a1.Spans : Int)))) 27 rfl (fun c13 => ?_) (fun c13 => ?_)
 ·have h := ifT c13 h
  refine aw_cond_t D_ rfl ?_
  refine aw_skip ?_
  refine hK12 _ ?_
  refine aw_seq_k (fun K14 hK14 => ?_)
  refine aw_block ?_
  refine sr fun K15 hK15 => ?_
  obtain ⟨g16, h⟩ := gd_some h
  obtain ⟨x17, hx17, h⟩ := bnd_some h
  refine pP 28 (does_indexAddr_sl (el := .agg [.int .u64 x17.Trace.Hi, .int .u64 x17.Trace.Lo, .int .u64 x17.Id, .int .u64 x17.Parent, .str x17.Service, .str x17.Op, .int .i64 x17.Start, .int .i64 x17.Dur, .bool x17.Err, .sl 2 (List.map enc73 x17.Attrs)]) W_ W_ ty45 ty59 g16 (by exact map_get hx17)) ?_
  refine pl 29 (.agg [.int .u64 x17.Trace.Hi, .int .u64 x17.Trace.Lo, .int .u64 x17.Id, .int .u64 x17.Parent, .str x17.Service, .str x17.Op, .int .i64 x17.Start, .int .i64 x17.Dur, .bool x17.Err, .sl 2 (List.map enc73 x17.Attrs)]) ty59 ?_
  refine pD 5 (do_new ty59 rfl rfl) ?_
  refine alD none rfl rfl (do_store (cs' := [.int .u64 x17.Trace.Hi, .int .u64 x17.Trace.Lo, .int .u64 x17.Id, .int .u64 x17.Parent, .str x17.Service, .str x17.Op, .int .i64 x17.Start, .int .i64 x17.Dur, .bool x17.Err, .sl 2 (List.map enc73 x17.Attrs)]) W_ W_ W_ ty59 rfl rfl rfl R_) D_ ?_
  refine en hK15 ?_
  refine aw_regL ?_
  refine pm 30 (.ptr 0 0 0) ?_
  refine pl 31 (.agg [.int .u64 x17.Trace.Hi, .int .u64 x17.Trace.Lo, .int .u64 x17.Id, .int .u64 x17.Parent, .str x17.Service, .str x17.Op, .int .i64 x17.Start, .int .i64 x17.Dur, .bool x17.Err, .sl 2 (List.map enc73 x17.Attrs)]) ty59 ?_
  obtain ⟨x18, hx18, h⟩ := bnd_some h
  refine pD 32 (do_callG (bcs := [[.own 22 0]]) [(0, 0)] [(22, 0)] [] 32 false (span_Put_ok (Writer.mk vb0_s_0_s_0) x17 hx18) rfl ent49 ⟨R_, trivial⟩ (rowsOk_cons W_ R_ trivial) rfl rfl rfl rfl rfl rfl rfl rfl (.inl trivial)) ?_
  refine en hK14 ?_
  refine aw_regL ?_
  refine pb 33 (.int .i64 (IntKind.i64.wrap (v26_0 + 1))) ?_
  refine pm 26 (.int .i64 (IntKind.i64.wrap (v26_0 + 1))) ?_
  refine al_nil ?_
  have h := leafL h hq10
  exact ⟨m0, Nat.lt_succ_self _, _, reb_lit [(0, .ptr 0 0 0), (24, .sl 10 (List.map enc58 a1.Spans)), (25, .int .i64 (List.length a1.Spans : Int)), (26, .int .i64 (IntKind.i64.wrap (v26_0 + 1)))] [(0, 0), (32, 0)] [((0, 0), .box [.own 22 0]), ((22, 0), .arr 5 1 false (List.map enc5 x18.B))] [(0, 1), (22, 1)] (ec (ec (ec (ec envOk_nil)))) (objOk_cons W_ W_ R_ (by simp) (objOk_cons W_ W_ R_ (by simp) objOk_nil)) (nodup_b rfl) (nodup_b rfl) rfl rfl, x18.B, (IntKind.i64.wrap (v26_0 + 1)), h, rfl⟩
 ·have h := ifF c13 h
  refine aw_cond_f D_ rfl ?_
  refine aw_exit ?_
  have h := leafR h hq10
  obtain rfl := Option.some.inj h
  exact ret_okB [(22, 0)] W_ W_ R_ (rowsOk_cons W_ R_ trivial) (boxesOk_cons W_ W_ R_ trivial) (nodup_b rfl) (.inl rfl) rfl
def block_Bytes_l1 (a0 : Block) (v3_s_0_s_1 : List UInt8) (v4_s_0_s_1 : List UInt8) (v30_1 : Int) : Option ((List UInt8 × List UInt8 × Int) ⊕ (List UInt8 × List UInt8)) :=
 if (decide (v30_1 < (List.length a0.Episodes : Int))) = true then (gd (0 ≤ v30_1) (Option.bind (a0.Episodes[(Int.toNat v30_1)]?) (fun (x21 : Episode) => Option.bind (block_PutSpans (Writer.mk v4_s_0_s_1) x21) (fun (x24 : Writer) => Option.bind (ints_Writer_Wide (Writer.mk v3_s_0_s_1) [x21.Trace.Hi, x21.Trace.Lo]) (fun (x26 : Writer) => Option.bind (ints_Writer_Num x26 [(IntKind.i64.wrap ((List.length x24.B : Int) - (List.length v4_s_0_s_1 : Int)))]) (fun (x27 : Writer) => some (Sum.inl (x27.B, x24.B, (IntKind.i64.wrap (v30_1 + 1)))))))))) else (some (Sum.inr (v3_s_0_s_1, v4_s_0_s_1)))
def block_Bytes_k0 (v3_s_0_s_0 : List UInt8) (v4_s_0_s_0 : List UInt8) : Option (List UInt8) :=
 gd ((List.length (v3_s_0_s_0 ++ v4_s_0_s_0)) * 1 ≤ 140737488355328 ∧ (List.length (v3_s_0_s_0 ++ v4_s_0_s_0)) ≤ 140737488355328) (Option.bind (check_Seal (v3_s_0_s_0 ++ v4_s_0_s_0)) (fun (x30 : List UInt8) => some x30))
def block_Bytes (a0 : Block) : Option (List UInt8) :=
 Option.bind (block_Right a0) (fun (x4 : Bool) => if (!x4) = true then (some []) else (Option.bind (ints_Writer_Num (Writer.mk []) [a0.Number, a0.Born, a0.Tier, (List.length a0.Episodes : Int)]) (fun (x9 : Writer) => Option.bind (loopN (fun (s : List UInt8 × List UInt8 × Int) => block_Bytes_l1 a0 s.1 s.2.1 s.2.2) Fu (x9.B, [], 0)) (fun (s : List UInt8 × List UInt8) => block_Bytes_k0 s.1 s.2))))
theorem block_Bytes_ok (a0 : Block) {r : List UInt8} (h : block_Bytes a0 = some r) : Ok Try.prog 24 [.agg [.int .i64 a0.Number, .int .i64 a0.Born, .int .i64 a0.Tier, .sl 6 (List.map enc46 a0.Episodes)]] [] [] (.own 2 0) [] [(5, 1, List.map enc5 r)] := by
 unfold block_Bytes at h
 refine ok_of_code Try.func24 rfl (by show (1 : Nat) ≤ _; decide) (Nat.le_refl _) fun X => ?_
 refine sr fun K1 hK1 => ?_
 refine pD 1 (do_box W_ rfl rfl) ?_
 refine pa 2 (.nil) ?_
 refine en hK1 ?_
 refine aw_seq_k (fun K2 hK2 => ?_)
 refine sr fun K3 hK3 => ?_
 refine pl 8 (.agg [.int .i64 a0.Number, .int .i64 a0.Born, .int .i64 a0.Tier, .sl 6 (List.map enc46 a0.Episodes)]) ty31 ?_
 obtain ⟨x4, hx4, h⟩ := bnd_some h
 refine pD 9 (do_call0 9 false (block_Right_ok a0 hx4) rfl ent32 rfl rfl) ?_
 refine pP 10 (does_un (v := .bool (!x4)) W_ rfl) ?_
 refine en hK3 ?_
 refine aw_bool (b := (!x4)) 10 rfl (fun c5 => ?_) (fun c5 => ?_)
 ·have h := ifT c5 h
  refine aw_cond_t D_ rfl ?_
  refine sr fun K6 hK6 => ?_
  refine pa 2 (.nil) ?_
  refine en hK6 ?_
  refine aw_nilOwn 2 5 1 W_ D_ D_ ?_
  refine aw_ret ?_
  obtain rfl := Option.some.inj h
  exact ret_okR [(2, 0)] W_ W_ R_ (rowsOk_cons W_ R_ trivial) (nodup_b rfl) (.inr rfl) rfl
 ·have h := ifF c5 h
  refine aw_cond_f D_ rfl ?_
  refine aw_skip ?_
  refine hK2 _ ?_
  refine sr fun K7 hK7 => ?_
  refine pP 11 (do_build_struct (cs := [.nil]) ty62 rfl [⟨.slice 5, 1, 24, [.nil]⟩] (by simp only [List.map, ty39]) (by rfl) R_) ?_
  refine pD 12 (do_box W_ rfl rfl) ?_
  refine pP 13 (do_build_struct (cs := [.nil]) ty62 rfl [⟨.slice 5, 1, 24, [.nil]⟩] (by simp only [List.map, ty39]) (by rfl) R_) ?_
  refine pD 14 (do_box W_ rfl rfl) ?_
  refine pa 3 (.ptr 12 0 0) ?_
  refine pa 4 (.ptr 14 0 0) ?_
  refine en hK7 ?_
  refine aw_seq_k (fun K8 hK8 => ?_)
  refine aw_nilOwnC 12 0 0 12 5 1 (cs := [.nil]) R_ rfl D_ ?_
  refine aw_regL ?_
  refine pm 15 (.ptr 12 0 0) ?_
  refine pf 16 (.ptr 1 0 0) ty31 ty3 ?_
  refine pl 17 (.int .i64 a0.Number) ty3 ?_
  refine pf 18 (.ptr 1 0 1) ty31 ty3 ?_
  refine pl 19 (.int .i64 a0.Born) ty3 ?_
  refine pf 20 (.ptr 1 0 2) ty31 ty3 ?_
  refine pl 21 (.int .i64 a0.Tier) ty3 ?_
  refine pf 22 (.ptr 1 0 3) ty31 ty29 ?_
  refine pl 23 (.sl 6 (List.map enc46 a0.Episodes)) ty29 ?_
  refine pP 24 ((does_len_sl W_ ty29).castp (v' := .int .i64 (List.length a0.Episodes : Int)) (by exact len_map _)) ?_
  refine pD 25 (do_buildSlice (xs := List.map enc2 [a0.Number, a0.Born, a0.Tier, (List.length a0.Episodes : Int)]) ty25 ty3 rfl rfl rfl rfl rfl rfl rfl rfl) ?_
  obtain ⟨x9, hx9, h⟩ := bnd_some h
  refine pD 26 (does_frz (d := 25) (n := 0) W_ (do_callG (bcs := [[.own 12 1]]) [(12, 0)] [(12, 1)] [(25, 0)] 26 false (ints_Writer_Num_ok (Writer.mk []) [a0.Number, a0.Born, a0.Tier, (List.length a0.Episodes : Int)] hx9) rfl ent33 ⟨R_, trivial⟩ (rowsOk_cons W_ R_ trivial) rfl rfl rfl rfl rfl rfl rfl rfl (.inl ⟨⟨_, _, _, rfl⟩, trivial⟩))) ?_
  refine en hK8 ?_
  obtain ⟨q10, h, hk11⟩ := bnd_some h
  refine aw_cut (fun s => ∃ (v3_s_0_s_0 : List UInt8), ∃ (v4_s_0_s_0 : List UInt8), block_Bytes_k0 v3_s_0_s_0 v4_s_0_s_0 = some r ∧ s = lit [(3, .ptr 12 0 0), (4, .ptr 14 0 0)] [((12, 0), .box [.own 26 0]), ((26, 0), .arr 5 1 false (List.map enc5 v3_s_0_s_0)), ((14, 0), .box [.own 4 0]), ((4, 0), .arr 5 1 false (List.map enc5 v4_s_0_s_0))] [(4, 1), (12, 1), (14, 1), (26, 1)] X) ?_ ?_
  ·skip
   refine sr fun K12 hK12 => ?_
   refine pf 27 (.ptr 1 0 3) ty31 ty29 ?_
   refine pl 28 (.sl 6 (List.map enc46 a0.Episodes)) ty29 ?_
   refine pP 29 ((does_len_sl W_ ty29).castp (v' := .int .i64 (List.length a0.Episodes : Int)) (by exact len_map _)) ?_
   refine pm 30 (.int .i64 0) ?_
   refine en hK12 ?_
   refine aw_block ?_
   refine aw_nilOwnC 14 0 0 4 5 1 (cs := [.nil]) R_ rfl D_ ?_
   refine aw_loop' (fun m s => ∃ (v3_s_0_s_1 : List UInt8), ∃ (v4_s_0_s_1 : List UInt8), ∃ (v30_1 : Int), loopN (fun (s : List UInt8 × List UInt8 × Int) => block_Bytes_l1 a0 s.1 s.2.1 s.2.2) m (v3_s_0_s_1, v4_s_0_s_1, v30_1) = some q10 ∧ s = lit [(3, .ptr 12 0 0), (4, .ptr 14 0 0), (28, .sl 6 (List.map enc46 a0.Episodes)), (29, .int .i64 (List.length a0.Episodes : Int)), (30, .int .i64 v30_1)] [((12, 0), .box [.own 26 0]), ((26, 0), .arr 5 1 false (List.map enc5 v3_s_0_s_1)), ((14, 0), .box [.own 4 0]), ((4, 0), .arr 5 1 false (List.map enc5 v4_s_0_s_1))] [(4, 1), (12, 1), (14, 1), (26, 1)] X) Fu
    ⟨_, reb_lit [(3, .ptr 12 0 0), (4, .ptr 14 0 0), (28, .sl 6 (List.map enc46 a0.Episodes)), (29, .int .i64 (List.length a0.Episodes : Int)), (30, .int .i64 (0))] [(12, 0), (26, 0), (14, 0), (4, 0)] [((12, 0), .box [.own 26 0]), ((26, 0), .arr 5 1 false (List.map enc5 x9.B)), ((14, 0), .box [.own 4 0]), ((4, 0), .arr 5 1 false (List.map enc5 []))] [(4, 1), (12, 1), (14, 1), (26, 1)] (ec (ec (ec (ec (ec envOk_nil))))) (objOk_cons W_ W_ R_ (by simp) (objOk_cons W_ W_ R_ (by simp) (objOk_cons W_ W_ R_ (by simp) (objOk_cons W_ W_ R_ (by simp) objOk_nil)))) (nodup_b rfl) (nodup_b rfl) rfl rfl, x9.B, [], 0, h, rfl⟩ ?_
   rintro m s ⟨v3_s_0_s_1, v4_s_0_s_1, v30_1, h, rfl⟩
   obtain ⟨m1, q13, rfl, h, hq14⟩ := loop_some h
   replace h : block_Bytes_l1 a0 v3_s_0_s_1 v4_s_0_s_1 v30_1 = some q13 := h
   unfold block_Bytes_l1 at h
   refine sr fun K15 hK15 => ?_
   refine pb 31 (.bool (decide (v30_1 < (List.length a0.Episodes : Int)))) ?_
   refine en hK15 ?_
   refine aw_seq_k (fun K16 hK16 => ?_)
   refine aw_bool (b := (decide (v30_1 < (List.length a0.Episodes : Int)))) 31 rfl (fun c17 => ?_) (fun c17 => ?_)
   ·have h := ifT c17 h
    refine aw_cond_t D_ rfl ?_
    refine aw_skip ?_
    refine hK16 _ ?_
    refine aw_seq_k (fun K18 hK18 => ?_)
    refine aw_block ?_
    refine sr fun K19 hK19 => ?_
    obtain ⟨g20, h⟩ := gd_some h
    obtain ⟨x21, hx21, h⟩ := bnd_some h
    refine pP 32 (does_indexAddr_sl (el := .agg [.int .u64 x21.Trace.Hi, .int .u64 x21.Trace.Lo, .int .i64 x21.First, .int .i64 x21.Last, .bool x21.Sure, .sl 10 (List.map enc58 x21.Spans)]) W_ W_ ty29 ty47 g20 (by exact map_get hx21)) ?_
    refine pl 33 (.agg [.int .u64 x21.Trace.Hi, .int .u64 x21.Trace.Lo, .int .i64 x21.First, .int .i64 x21.Last, .bool x21.Sure, .sl 10 (List.map enc58 x21.Spans)]) ty47 ?_
    refine pD 6 (do_new ty47 rfl rfl) ?_
    refine alD none rfl rfl (do_store (cs' := [.int .u64 x21.Trace.Hi, .int .u64 x21.Trace.Lo, .int .i64 x21.First, .int .i64 x21.Last, .bool x21.Sure, .sl 10 (List.map enc58 x21.Spans)]) W_ W_ W_ ty47 rfl rfl rfl R_) D_ ?_
    refine en hK19 ?_
    refine sr fun K22 hK22 => ?_
    refine pm 34 (.ptr 14 0 0) ?_
    refine pP 35 (does_nilCheck (p := .ptr 14 0 0) W_ rfl) ?_
    refine pf 36 (.ptr 14 0 0) ty62 ty39 ?_
    refine pl 37 (.own 4 0) ty39 ?_
    refine pX 38 ((does_len_own W_ W_ ty39).cast (v' := .int .i64 (List.length v4_s_0_s_1 : Int)) (by exact len_map _)) ?_
    refine pa 7 (.int .i64 (List.length v4_s_0_s_1 : Int)) ?_
    refine en hK22 ?_
    refine sr fun K23 hK23 => ?_
    refine pm 39 (.ptr 14 0 0) ?_
    refine pl 40 (.agg [.int .u64 x21.Trace.Hi, .int .u64 x21.Trace.Lo, .int .i64 x21.First, .int .i64 x21.Last, .bool x21.Sure, .sl 10 (List.map enc58 x21.Spans)]) ty47 ?_
    obtain ⟨x24, hx24, h⟩ := bnd_some h
    refine pD 41 (do_callG (bcs := [[.own 4 0]]) [(14, 0)] [(4, 0)] [] 41 false (block_PutSpans_ok (Writer.mk v4_s_0_s_1) x21 hx24) rfl ent34 ⟨R_, trivial⟩ (rowsOk_cons W_ R_ trivial) rfl rfl rfl rfl rfl rfl rfl rfl (.inl trivial)) ?_
    refine en hK23 ?_
    refine sr fun K25 hK25 => ?_
    refine pm 42 (.ptr 12 0 0) ?_
    refine pf 43 (.ptr 6 0 0) ty47 ty44 ?_
    refine pf 44 (.ptr 6 0 0) ty44 ty42 ?_
    refine pl 45 (.int .u64 x21.Trace.Hi) ty42 ?_
    refine pf 46 (.ptr 6 0 0) ty47 ty44 ?_
    refine pf 47 (.ptr 6 0 1) ty44 ty42 ?_
    refine pl 48 (.int .u64 x21.Trace.Lo) ty42 ?_
    refine pD 49 (do_buildSlice (xs := List.map enc12 [x21.Trace.Hi, x21.Trace.Lo]) ty81 ty42 rfl rfl rfl rfl rfl rfl rfl rfl) ?_
    obtain ⟨x26, hx26, h⟩ := bnd_some h
    refine pD 50 (does_frz (d := 49) (n := 0) W_ (do_callG (bcs := [[.own 26 0]]) [(12, 0)] [(26, 0)] [(49, 0)] 50 false (ints_Writer_Wide_ok (Writer.mk v3_s_0_s_1) [x21.Trace.Hi, x21.Trace.Lo] hx26) rfl ent35 ⟨R_, trivial⟩ (rowsOk_cons W_ R_ trivial) rfl rfl rfl rfl rfl rfl rfl rfl (.inl ⟨⟨_, _, _, rfl⟩, trivial⟩))) ?_
    refine en hK25 ?_
    refine aw_regL ?_
    refine pm 51 (.ptr 12 0 0) ?_
    refine pm 52 (.ptr 14 0 0) ?_
    refine pP 53 (does_nilCheck (p := .ptr 14 0 0) W_ rfl) ?_
    refine pf 54 (.ptr 14 0 0) ty62 ty39 ?_
    refine pl 55 (.own 41 0) ty39 ?_
    refine pX 56 ((does_len_own W_ W_ ty39).cast (v' := .int .i64 (List.length x24.B : Int)) (by exact len_map _)) ?_
    refine pm 57 (.int .i64 (List.length v4_s_0_s_1 : Int)) ?_
    refine pb 58 (.int .i64 (IntKind.i64.wrap ((List.length x24.B : Int) - (List.length v4_s_0_s_1 : Int)))) ?_
    refine pD 59 (do_buildSlice (xs := List.map enc2 [(IntKind.i64.wrap ((List.length x24.B : Int) - (List.length v4_s_0_s_1 : Int)))]) ty25 ty3 rfl rfl rfl rfl rfl rfl rfl rfl) ?_
    obtain ⟨x27, hx27, h⟩ := bnd_some h
    refine pD 60 (does_frz (d := 59) (n := 0) W_ (do_callG (bcs := [[.own 50 0]]) [(12, 0)] [(50, 0)] [(59, 0)] 60 false (ints_Writer_Num_ok x26 [(IntKind.i64.wrap ((List.length x24.B : Int) - (List.length v4_s_0_s_1 : Int)))] hx27) rfl ent33 ⟨R_, trivial⟩ (rowsOk_cons W_ R_ trivial) rfl rfl rfl rfl rfl rfl rfl rfl (.inl ⟨⟨_, _, _, rfl⟩, trivial⟩))) ?_
    refine en hK18 ?_
    refine aw_regL ?_
    refine pb 61 (.int .i64 (IntKind.i64.wrap (v30_1 + 1))) ?_
    refine pm 30 (.int .i64 (IntKind.i64.wrap (v30_1 + 1))) ?_
    refine al_nil ?_
    have h := leafL h hq14
    exact ⟨m1, Nat.lt_succ_self _, _, reb_lit [(3, .ptr 12 0 0), (4, .ptr 14 0 0), (28, .sl 6 (List.map enc46 a0.Episodes)), (29, .int .i64 (List.length a0.Episodes : Int)), (30, .int .i64 (IntKind.i64.wrap (v30_1 + 1)))] [(12, 0), (60, 0), (14, 0), (41, 0)] [((12, 0), .box [.own 26 0]), ((26, 0), .arr 5 1 false (List.map enc5 x27.B)), ((14, 0), .box [.own 4 0]), ((4, 0), .arr 5 1 false (List.map enc5 x24.B))] [(4, 1), (12, 1), (14, 1), (26, 1)] (ec (ec (ec (ec (ec envOk_nil))))) (objOk_cons W_ W_ R_ (by simp) (objOk_cons W_ W_ R_ (by simp) (objOk_cons W_ W_ R_ (by simp) (objOk_cons W_ W_ R_ (by simp) objOk_nil)))) (nodup_b rfl) (nodup_b rfl) rfl rfl, x27.B, x24.B, (IntKind.i64.wrap (v30_1 + 1)), h, rfl⟩
   ·have h := ifF c17 h
    refine aw_cond_f D_ rfl ?_
    refine aw_exit ?_
    have h := leafR h hq14
    obtain rfl := Option.some.inj h
    have h := hk11
    exact ⟨_, reb_lit [(3, .ptr 12 0 0), (4, .ptr 14 0 0)] [(12, 0), (26, 0), (14, 0), (4, 0)] [((12, 0), .box [.own 26 0]), ((26, 0), .arr 5 1 false (List.map enc5 v3_s_0_s_1)), ((14, 0), .box [.own 4 0]), ((4, 0), .arr 5 1 false (List.map enc5 v4_s_0_s_1))] [(4, 1), (12, 1), (14, 1), (26, 1)] (ec (ec envOk_nil)) (objOk_cons W_ W_ R_ (by simp) (objOk_cons W_ W_ R_ (by simp) (objOk_cons W_ W_ R_ (by simp) (objOk_cons W_ W_ R_ (by simp) objOk_nil)))) (nodup_b rfl) (nodup_b rfl) rfl rfl, v3_s_0_s_1, v4_s_0_s_1, h, rfl⟩
  ·rintro s ⟨v3_s_0_s_0, v4_s_0_s_0, h, rfl⟩
   unfold block_Bytes_k0 at h
   refine aw_seq_k (fun K28 hK28 => ?_)
   refine aw_regd (by kernel_rfl) (by decide +kernel) ?_
   refine qP 62 (does_move (v := .ptr 12 0 0) R_) ?_
   refine qP 63 (does_nilCheck (p := .ptr 12 0 0) W_ rfl) ?_
   refine qP 64 (does_fieldAddr (q := .ptr 12 0 0) W_ ty62 rfl ty39 D_ R_) ?_
   refine qR 65 (does_load (v := .own 26 0) W_ W_ ty39 R_) ?_
   refine qP 66 (does_move (v := .ptr 14 0 0) R_) ?_
   refine qP 67 (does_nilCheck (p := .ptr 14 0 0) W_ rfl) ?_
   refine qP 68 (does_fieldAddr (q := .ptr 14 0 0) W_ ty62 rfl ty39 D_ R_) ?_
   refine qR 69 (does_load (v := .own 4 0) W_ W_ ty39 R_) ?_
   obtain ⟨g29, h⟩ := gd_some h
   refine qD 70 (do_append (v := List.map enc5 (v3_s_0_s_0 ++ v4_s_0_s_0)) W_ W_ ty39 ty5 rfl rfl W_ (by first | exact .inl rfl | exact .inr ⟨rfl, rfl⟩) W_ (by first | exact .inr rfl | exact .inl rfl) (map_app _ _) (fit_map g29)) ?_
   obtain ⟨x30, hx30, h⟩ := bnd_some h
   refine qD 71 (do_callG (bcs := []) [] [] [(70, 0)] 71 false (check_Seal_ok (v3_s_0_s_0 ++ v4_s_0_s_0) hx30) rfl ent36 trivial trivial rfl rfl rfl rfl rfl rfl rfl rfl (.inr ⟨rfl, rfl, ⟨plain_map (fun _ => rfl), trivial⟩⟩)) ?_
   refine qP 2 (does_assign (v := .own 71 0) R_) ?_
   refine ao_nil_d (by kernel_rfl) ?_
   refine hK28 _ ?_
   refine aw_ret ?_
   obtain rfl := Option.some.inj h
   exact ret_okR [(71, 0)] W_ W_ R_ (rowsOk_cons W_ R_ trivial) (nodup_b rfl) (.inr rfl) rfl
def block_Size (a0 : Block) : Option Int :=
 Option.bind (block_Bytes a0) (fun (x3 : List UInt8) => some (List.length x3 : Int))
theorem block_Size_ok (a0 : Block) {r : Int} (h : block_Size a0 = some r) : Ok Try.prog 16 [.agg [.int .i64 a0.Number, .int .i64 a0.Born, .int .i64 a0.Tier, .sl 6 (List.map enc46 a0.Episodes)]] [] [] (.int .i64 r) [] [] := by
 unfold block_Size at h
 refine ok_of_code Try.func16 rfl (by show (1 : Nat) ≤ _; decide) (Nat.le_refl _) fun X => ?_
 refine sr fun K1 hK1 => ?_
 refine pD 1 (do_box W_ rfl rfl) ?_
 refine pa 2 (.int .i64 0) ?_
 refine en hK1 ?_
 refine sr fun K2 hK2 => ?_
 refine pl 3 (.agg [.int .i64 a0.Number, .int .i64 a0.Born, .int .i64 a0.Tier, .sl 6 (List.map enc46 a0.Episodes)]) ty31 ?_
 obtain ⟨x3, hx3, h⟩ := bnd_some h
 refine pD 4 (do_call0 4 false (block_Bytes_ok a0 hx3) rfl ent24 rfl rfl) ?_
 refine pX 5 ((does_len_own W_ W_ ty39).cast (v' := .int .i64 (List.length x3 : Int)) (by exact len_map _)) ?_
 refine pa 2 (.int .i64 (List.length x3 : Int)) ?_
 refine en hK2 ?_
 refine aw_ret ?_
 obtain rfl := Option.some.inj h
 exact ret_ok1 W_ W_ R_ (.inr rfl) rfl
end Go.Proofs.Ytejimiedoibkcaa.Ab
namespace Go.Proofs.Ytejimiedoibkcaa.Ab
open Go Go.RowKit
set_option linter.unusedVariables false
set_option linter.unusedSimpArgs false
set_option maxRecDepth 100000
set_option maxHeartbeats 8000000
theorem ent13 : Ent Try.prog 13 := ⟨_, Try.func13, by kernel_rfl, rfl⟩
theorem ent20 : Ent Try.prog 20 := ⟨_, Try.func20, by kernel_rfl, rfl⟩
theorem ent21 : Ent Try.prog 21 := ⟨_, Try.func21, by kernel_rfl, rfl⟩
theorem ent22 : Ent Try.prog 22 := ⟨_, Try.func22, by kernel_rfl, rfl⟩
theorem ent25 : Ent Try.prog 25 := ⟨_, Try.func25, by kernel_rfl, rfl⟩
theorem ent26 : Ent Try.prog 26 := ⟨_, Try.func26, by kernel_rfl, rfl⟩
theorem ent28 : Ent Try.prog 28 := ⟨_, Try.func28, by kernel_rfl, rfl⟩
theorem ent29 : Ent Try.prog 29 := ⟨_, Try.func29, by kernel_rfl, rfl⟩
theorem ent30 : Ent Try.prog 30 := ⟨_, Try.func30, by kernel_rfl, rfl⟩
theorem ent38 : Ent Try.prog 38 := ⟨_, Try.func38, by kernel_rfl, rfl⟩
def gleaningref15_count (a0 : Int) : Option Bool :=
 if (decide ((0 : Int) ≤ a0)) = true then (some (decide (a0 ≤ 1099511627776))) else (some false)
theorem gleaningref15_count_ok (a0 : Int) {r : Bool} (h : gleaningref15_count a0 = some r) : Ok Try.prog 22 [.int .i64 a0] [] [] (.bool r) [] [] := by
 unfold gleaningref15_count at h
 refine ok_of_code Try.func22 rfl (by show (1 : Nat) ≤ _; decide) (Nat.le_refl _) fun X => ?_
 refine sr fun K1 hK1 => ?_
 refine pa 2 (.bool false) ?_
 refine en hK1 ?_
 refine sr fun K2 hK2 => ?_
 refine pm 3 (.int .i64 a0) ?_
 refine pb 4 (.bool (decide ((0 : Int) ≤ a0))) ?_
 refine pm 5 (.bool (decide ((0 : Int) ≤ a0))) ?_
 refine al_bool (c := (decide ((0 : Int) ≤ a0))) 5 rfl (fun c3 => ?_) (fun c3 => ?_)
 ·have h := ifT c3 h
  refine pm 6 (.int .i64 a0) ?_
  refine pb 7 (.bool (decide (a0 ≤ 1099511627776))) ?_
  refine pk 8 (.bool (decide (a0 ≤ 1099511627776))) ?_
  refine pa 2 (.bool (decide (a0 ≤ 1099511627776))) ?_
  refine en hK2 ?_
  refine aw_ret ?_
  obtain rfl := Option.some.inj h
  exact ret_ok1 W_ W_ R_ (.inr rfl) rfl
 ·have h := ifF c3 h
  refine pS 6 ?_
  refine pS 7 ?_
  refine pk 8 (.bool false) ?_
  refine pa 2 (.bool false) ?_
  refine en hK2 ?_
  refine aw_ret ?_
  obtain rfl := Option.some.inj h
  exact ret_ok1 W_ W_ R_ (.inr rfl) rfl
def gleaningref15_RightEpisode_l3 (a0 : Episode) (v3_1 : Int) (v4_3 : Int) : Option (Int ⊕ (Int ⊕ Bool)) :=
 if (decide (v4_3 < v3_1)) = true then (gd (0 ≤ v4_3) (Option.bind (a0.Spans[(Int.toNat v4_3)]?) (fun (x42 : Span) => gd (0 ≤ v3_1) (Option.bind (a0.Spans[(Int.toNat v3_1)]?) (fun (x44 : Span) => if (x42.Id == x44.Id) = true then (some (Sum.inr (Sum.inr false))) else (some (Sum.inl (IntKind.i64.wrap (v4_3 + 1))))))))) else (some (Sum.inr (Sum.inl (IntKind.i64.wrap (v3_1 + 1)))))
def gleaningref15_RightEpisode_k2 (a0 : Episode) (v3_1 : Int) : Option (Int ⊕ Bool) :=
 loopN (fun (s : Int) => gleaningref15_RightEpisode_l3 a0 v3_1 s) Fu 0
def gleaningref15_RightEpisode_l1 (a0 : Episode) (v3_1 : Int) : Option (Int ⊕ Bool) :=
 if (decide (v3_1 < (List.length a0.Spans : Int))) = true then (Option.bind (gd (0 ≤ v3_1) (Option.bind (a0.Spans[(Int.toNat v3_1)]?) (fun (x25 : Span) => Option.bind (gleaningref1_RightSpan x25) (fun (x26 : Bool) => if (!x26) = true then (some (Sum.inr (Sum.inr false))) else (gd (0 ≤ v3_1) (Option.bind (a0.Spans[(Int.toNat v3_1)]?) (fun (x30 : Span) => if (!((x30.Trace.Hi == a0.Trace.Hi) && ((x30.Trace.Lo == a0.Trace.Lo) && true))) = true then (some (Sum.inr (Sum.inr false))) else (some (Sum.inl ()))))))))) (Sum.elim (fun (s : Unit) => gleaningref15_RightEpisode_k2 a0 v3_1) some)) else (some (Sum.inr true))
def gleaningref15_RightEpisode_k0 (a0 : Episode) : Option Bool :=
 loopN (fun (s : Int) => gleaningref15_RightEpisode_l1 a0 s) Fu 0
def gleaningref15_RightEpisode (a0 : Episode) : Option Bool :=
 Option.bind (Option.bind (gleaningref15_count a0.First) (fun (x5 : Bool) => if (!x5) = true then (some (Sum.inr false)) else (Option.bind (gleaningref15_count a0.Last) (fun (x8 : Bool) => if (!x8) = true then (some (Sum.inr false)) else (if ((List.length a0.Spans : Int) == 0) = true then (some (Sum.inr false)) else (some (Sum.inl ()))))))) (Sum.elim (fun (s : Unit) => gleaningref15_RightEpisode_k0 a0) some)
theorem gleaningref15_RightEpisode_ok (a0 : Episode) {r : Bool} (h : gleaningref15_RightEpisode a0 = some r) : Ok Try.prog 20 [.agg [.int .u64 a0.Trace.Hi, .int .u64 a0.Trace.Lo, .int .i64 a0.First, .int .i64 a0.Last, .bool a0.Sure, .sl 10 (List.map enc58 a0.Spans)]] [] [] (.bool r) [] [] := by
 unfold gleaningref15_RightEpisode at h
 refine ok_of_code Try.func20 rfl (by show (1 : Nat) ≤ _; decide) (Nat.le_refl _) fun X => ?_
 refine sr fun K1 hK1 => ?_
 refine pD 1 (do_box W_ rfl rfl) ?_
 refine pa 2 (.bool false) ?_
 refine en hK1 ?_
 obtain ⟨q2, h, hk3⟩ := bnd_some h
 refine aw_cut (fun s => gleaningref15_RightEpisode_k0 a0 = some r ∧ s = lit [(1, .ptr 1 0 0)] [((1, 0), .box [.int .u64 a0.Trace.Hi, .int .u64 a0.Trace.Lo, .int .i64 a0.First, .int .i64 a0.Last, .bool a0.Sure, .sl 10 (List.map enc58 a0.Spans)])] [(1, 1)] X) ?_ ?_
 ·skip
  refine sr fun K4 hK4 => ?_
  refine pf 5 (.ptr 1 0 2) ty47 ty3 ?_
  refine pl 6 (.int .i64 a0.First) ty3 ?_
  obtain ⟨x5, hx5, h⟩ := bnd_some h
  refine pD 7 (do_call0 7 false (gleaningref15_count_ok a0.First hx5) rfl ent22 rfl rfl) ?_
  refine pP 8 (does_un (v := .bool (!x5)) W_ rfl) ?_
  refine pm 9 (.bool (!x5)) ?_
  refine al_bool (c := (!x5)) 9 rfl (fun c6 => ?_) (fun c6 => ?_)
  ·have h := ifT c6 h
   refine pS 10 ?_
   refine pS 11 ?_
   refine pS 12 ?_
   refine pS 13 ?_
   refine pk 14 (.bool true) ?_
   refine pm 15 (.bool true) ?_
   refine pS 16 ?_
   refine pS 17 ?_
   refine pS 18 ?_
   refine pS 19 ?_
   refine pk 20 (.bool true) ?_
   refine en hK4 ?_
   refine aw_cond_t D_ rfl ?_
   refine sr fun K7 hK7 => ?_
   refine pa 2 (.bool false) ?_
   refine en hK7 ?_
   refine aw_ret ?_
   have h := leafR h hk3
   obtain rfl := Option.some.inj h
   exact ret_ok1 W_ W_ R_ (.inr rfl) rfl
  ·have h := ifF c6 h
   refine pf 10 (.ptr 1 0 3) ty47 ty3 ?_
   refine pl 11 (.int .i64 a0.Last) ty3 ?_
   obtain ⟨x8, hx8, h⟩ := bnd_some h
   refine pD 12 (do_call0 12 false (gleaningref15_count_ok a0.Last hx8) rfl ent22 rfl rfl) ?_
   refine pP 13 (does_un (v := .bool (!x8)) W_ rfl) ?_
   refine pk 14 (.bool (!x8)) ?_
   refine pm 15 (.bool (!x8)) ?_
   refine al_bool (c := (!x8)) 15 rfl (fun c9 => ?_) (fun c9 => ?_)
   ·have h := ifT c9 h
    refine pS 16 ?_
    refine pS 17 ?_
    refine pS 18 ?_
    refine pS 19 ?_
    refine pk 20 (.bool true) ?_
    refine en hK4 ?_
    refine aw_cond_t D_ rfl ?_
    refine sr fun K10 hK10 => ?_
    refine pa 2 (.bool false) ?_
    refine en hK10 ?_
    refine aw_ret ?_
    have h := leafR h hk3
    obtain rfl := Option.some.inj h
    exact ret_ok1 W_ W_ R_ (.inr rfl) rfl
   ·have h := ifF c9 h
    refine pf 16 (.ptr 1 0 5) ty47 ty45 ?_
    refine pl 17 (.sl 10 (List.map enc58 a0.Spans)) ty45 ?_
    refine pP 18 ((does_len_sl W_ ty45).castp (v' := .int .i64 (List.length a0.Spans : Int)) (by exact len_map _)) ?_
    refine pb 19 (.bool ((List.length a0.Spans : Int) == 0)) ?_
    refine pk 20 (.bool ((List.length a0.Spans : Int) == 0)) ?_
    refine en hK4 ?_
    refine aw_bool (b := ((List.length a0.Spans : Int) == 0)) 20 rfl (fun c11 => ?_) (fun c11 => ?_)
    ·have h := ifT c11 h
     refine aw_cond_t D_ rfl ?_
     refine sr fun K12 hK12 => ?_
     refine pa 2 (.bool false) ?_
     refine en hK12 ?_
     refine aw_ret ?_
     have h := leafR h hk3
     obtain rfl := Option.some.inj h
     exact ret_ok1 W_ W_ R_ (.inr rfl) rfl
    ·have h := ifF c11 h
     refine aw_cond_f D_ rfl ?_
     refine aw_skip ?_
     have h := leafL h hk3
     exact ⟨_, reb_lit [(1, .ptr 1 0 0)] [(1, 0)] [((1, 0), .box [.int .u64 a0.Trace.Hi, .int .u64 a0.Trace.Lo, .int .i64 a0.First, .int .i64 a0.Last, .bool a0.Sure, .sl 10 (List.map enc58 a0.Spans)])] [(1, 1)] (ec envOk_nil) (objOk_cons W_ W_ R_ (by simp) objOk_nil) (nodup_b rfl) (nodup_b rfl) rfl rfl, h, rfl⟩
 ·rintro s ⟨h, rfl⟩
  unfold gleaningref15_RightEpisode_k0 at h
  refine aw_seq_k (fun K13 hK13 => ?_)
  refine sr fun K14 hK14 => ?_
  refine pa 3 (.int .i64 0) ?_
  refine en hK14 ?_
  refine aw_block ?_
  refine aw_loop' (fun m s => ∃ (v3_1 : Int), loopN (fun (s : Int) => gleaningref15_RightEpisode_l1 a0 s) m v3_1 = some r ∧ s = lit [(1, .ptr 1 0 0), (3, .int .i64 v3_1)] [((1, 0), .box [.int .u64 a0.Trace.Hi, .int .u64 a0.Trace.Lo, .int .i64 a0.First, .int .i64 a0.Last, .bool a0.Sure, .sl 10 (List.map enc58 a0.Spans)])] [(1, 1)] X) Fu
   ⟨_, reb_lit [(1, .ptr 1 0 0), (3, .int .i64 (0))] [(1, 0)] [((1, 0), .box [.int .u64 a0.Trace.Hi, .int .u64 a0.Trace.Lo, .int .i64 a0.First, .int .i64 a0.Last, .bool a0.Sure, .sl 10 (List.map enc58 a0.Spans)])] [(1, 1)] (ec (ec envOk_nil)) (objOk_cons W_ W_ R_ (by simp) objOk_nil) (nodup_b rfl) (nodup_b rfl) rfl rfl, 0, h, rfl⟩ ?_
  rintro m s ⟨v3_1, h, rfl⟩
  obtain ⟨m1, q15, rfl, h, hq16⟩ := loop_some h
  replace h : gleaningref15_RightEpisode_l1 a0 v3_1 = some q15 := h
  unfold gleaningref15_RightEpisode_l1 at h
  refine aw_seq_k (fun K17 hK17 => ?_)
  refine sr fun K18 hK18 => ?_
  refine pm 21 (.int .i64 v3_1) ?_
  refine pf 22 (.ptr 1 0 5) ty47 ty45 ?_
  refine pl 23 (.sl 10 (List.map enc58 a0.Spans)) ty45 ?_
  refine pP 24 ((does_len_sl W_ ty45).castp (v' := .int .i64 (List.length a0.Spans : Int)) (by exact len_map _)) ?_
  refine pb 25 (.bool (decide (v3_1 < (List.length a0.Spans : Int)))) ?_
  refine en hK18 ?_
  refine aw_bool (b := (decide (v3_1 < (List.length a0.Spans : Int)))) 25 rfl (fun c19 => ?_) (fun c19 => ?_)
  ·have h := ifT c19 h
   refine aw_cond_t D_ rfl ?_
   refine aw_skip ?_
   refine hK17 _ ?_
   refine aw_seq_k (fun K20 hK20 => ?_)
   refine aw_block ?_
   obtain ⟨q21, h, hk22⟩ := bnd_some h
   refine aw_cut (fun s => gleaningref15_RightEpisode_k2 a0 v3_1 = some q15 ∧ s = lit [(1, .ptr 1 0 0), (3, .int .i64 v3_1)] [((1, 0), .box [.int .u64 a0.Trace.Hi, .int .u64 a0.Trace.Lo, .int .i64 a0.First, .int .i64 a0.Last, .bool a0.Sure, .sl 10 (List.map enc58 a0.Spans)])] [(1, 1)] X) ?_ ?_
   ·skip
    refine aw_seq_k (fun K23 hK23 => ?_)
    refine aw_regd (by kernel_rfl) (by decide +kernel) ?_
    refine qP 28 (does_fieldAddr (q := .ptr 1 0 5) W_ ty47 rfl ty45 D_ R_) ?_
    refine qR 29 (does_load (v := .sl 10 (List.map enc58 a0.Spans)) W_ W_ ty45 R_) ?_
    refine qP 30 (does_move (v := .int .i64 v3_1) R_) ?_
    obtain ⟨g24, h⟩ := gd_some h
    obtain ⟨x25, hx25, h⟩ := bnd_some h
    refine qP 31 (does_indexAddr_sl (el := .agg [.int .u64 x25.Trace.Hi, .int .u64 x25.Trace.Lo, .int .u64 x25.Id, .int .u64 x25.Parent, .str x25.Service, .str x25.Op, .int .i64 x25.Start, .int .i64 x25.Dur, .bool x25.Err, .sl 2 (List.map enc73 x25.Attrs)]) W_ W_ ty45 ty59 g24 (by exact map_get hx25)) ?_
    refine qR 32 (does_load (v := .agg [.int .u64 x25.Trace.Hi, .int .u64 x25.Trace.Lo, .int .u64 x25.Id, .int .u64 x25.Parent, .str x25.Service, .str x25.Op, .int .i64 x25.Start, .int .i64 x25.Dur, .bool x25.Err, .sl 2 (List.map enc73 x25.Attrs)]) W_ W_ ty59 R_) ?_
    obtain ⟨x26, hx26, h⟩ := bnd_some h
    refine qD 33 (do_call0 33 false (gleaningref1_RightSpan_ok x25 hx26) rfl ent30 rfl rfl) ?_
    refine qP 34 (does_un (v := .bool (!x26)) W_ rfl) ?_
    refine qP 35 (does_move (v := .bool (!x26)) R_) ?_
    refine ao_bool (c := (!x26)) 35 rfl (fun c27 => ?_) (fun c27 => ?_)
    ·have h := ifT c27 h
     refine qS 36 ?_
     refine qS 37 ?_
     refine qS 38 ?_
     refine qS 39 ?_
     refine qS 40 ?_
     refine qS 41 ?_
     refine qS 42 ?_
     refine qS 43 ?_
     refine qS 44 ?_
     refine qP 45 (does_pick (v := .bool true) W_ R_) ?_
     refine ao_nil_d (by kernel_rfl) ?_
     refine hK23 _ ?_
     refine aw_cond_t D_ rfl ?_
     refine sr fun K28 hK28 => ?_
     refine pa 2 (.bool false) ?_
     refine en hK28 ?_
     refine aw_ret ?_
     have h := leafR h hk22
     have h := leafR h hq16
     obtain rfl := Option.some.inj h
     exact ret_ok1 W_ W_ R_ (.inr rfl) rfl
    ·have h := ifF c27 h
     refine qP 36 (does_fieldAddr (q := .ptr 1 0 5) W_ ty47 rfl ty45 D_ R_) ?_
     refine qR 37 (does_load (v := .sl 10 (List.map enc58 a0.Spans)) W_ W_ ty45 R_) ?_
     refine qP 38 (does_move (v := .int .i64 v3_1) R_) ?_
     obtain ⟨g29, h⟩ := gd_some h
     obtain ⟨x30, hx30, h⟩ := bnd_some h
     refine qP 39 (does_indexAddr_sl (el := .agg [.int .u64 x30.Trace.Hi, .int .u64 x30.Trace.Lo, .int .u64 x30.Id, .int .u64 x30.Parent, .str x30.Service, .str x30.Op, .int .i64 x30.Start, .int .i64 x30.Dur, .bool x30.Err, .sl 2 (List.map enc73 x30.Attrs)]) W_ W_ ty45 ty59 g29 (by exact map_get hx30)) ?_
     refine qP 40 (does_fieldAddr (q := .rptr [.int .u64 x30.Trace.Hi, .int .u64 x30.Trace.Lo, .int .u64 x30.Id, .int .u64 x30.Parent, .str x30.Service, .str x30.Op, .int .i64 x30.Start, .int .i64 x30.Dur, .bool x30.Err, .sl 2 (List.map enc73 x30.Attrs)]) W_ ty59 rfl ty44 D_ R_) ?_
     refine qR 41 (does_load (v := .agg [.int .u64 x30.Trace.Hi, .int .u64 x30.Trace.Lo]) W_ W_ ty44 R_) ?_
     refine qP 42 (does_fieldAddr (q := .ptr 1 0 0) W_ ty47 rfl ty44 D_ R_) ?_
     refine qR 43 (does_load (v := .agg [.int .u64 a0.Trace.Hi, .int .u64 a0.Trace.Lo]) W_ W_ ty44 R_) ?_
     refine qP 44 (does_eq_struct (v := .bool (!((x30.Trace.Hi == a0.Trace.Hi) && ((x30.Trace.Lo == a0.Trace.Lo) && true)))) W_ W_ fk44 rfl ag44 eg44 W_ rfl) ?_
     refine qP 45 (does_pick (v := .bool (!((x30.Trace.Hi == a0.Trace.Hi) && ((x30.Trace.Lo == a0.Trace.Lo) && true)))) W_ R_) ?_
     refine ao_nil_d (by kernel_rfl) ?_
     refine hK23 _ ?_
     refine aw_bool (b := (!((x30.Trace.Hi == a0.Trace.Hi) && ((x30.Trace.Lo == a0.Trace.Lo) && true)))) 45 rfl (fun c31 => ?_) (fun c31 => ?_)
     ·have h := ifT c31 h
      refine aw_cond_t D_ rfl ?_
      refine sr fun K32 hK32 => ?_
      refine pa 2 (.bool false) ?_
      refine en hK32 ?_
      refine aw_ret ?_
      have h := leafR h hk22
      have h := leafR h hq16
      obtain rfl := Option.some.inj h
      exact ret_ok1 W_ W_ R_ (.inr rfl) rfl
     ·have h := ifF c31 h
      refine aw_cond_f D_ rfl ?_
      refine aw_skip ?_
      have h := leafL h hk22
      exact ⟨_, reb_lit [(1, .ptr 1 0 0), (3, .int .i64 v3_1)] [(1, 0)] [((1, 0), .box [.int .u64 a0.Trace.Hi, .int .u64 a0.Trace.Lo, .int .i64 a0.First, .int .i64 a0.Last, .bool a0.Sure, .sl 10 (List.map enc58 a0.Spans)])] [(1, 1)] (ec (ec envOk_nil)) (objOk_cons W_ W_ R_ (by simp) objOk_nil) (nodup_b rfl) (nodup_b rfl) rfl rfl, h, rfl⟩
   ·rintro s ⟨h, rfl⟩
    unfold gleaningref15_RightEpisode_k2 at h
    refine sr fun K33 hK33 => ?_
    refine pa 4 (.int .i64 0) ?_
    refine en hK33 ?_
    refine aw_block ?_
    refine aw_loop' (fun m s => ∃ (v4_3 : Int), loopN (fun (s : Int) => gleaningref15_RightEpisode_l3 a0 v3_1 s) m v4_3 = some q15 ∧ s = lit [(1, .ptr 1 0 0), (3, .int .i64 v3_1), (4, .int .i64 v4_3)] [((1, 0), .box [.int .u64 a0.Trace.Hi, .int .u64 a0.Trace.Lo, .int .i64 a0.First, .int .i64 a0.Last, .bool a0.Sure, .sl 10 (List.map enc58 a0.Spans)])] [(1, 1)] X) Fu
     ⟨_, reb_lit [(1, .ptr 1 0 0), (3, .int .i64 v3_1), (4, .int .i64 (0))] [(1, 0)] [((1, 0), .box [.int .u64 a0.Trace.Hi, .int .u64 a0.Trace.Lo, .int .i64 a0.First, .int .i64 a0.Last, .bool a0.Sure, .sl 10 (List.map enc58 a0.Spans)])] [(1, 1)] (ec (ec (ec envOk_nil))) (objOk_cons W_ W_ R_ (by simp) objOk_nil) (nodup_b rfl) (nodup_b rfl) rfl rfl, 0, h, rfl⟩ ?_
    rintro m s ⟨v4_3, h, rfl⟩
    obtain ⟨m3, q34, rfl, h, hq35⟩ := loop_some h
    replace h : gleaningref15_RightEpisode_l3 a0 v3_1 v4_3 = some q34 := h
    unfold gleaningref15_RightEpisode_l3 at h
    refine aw_seq_k (fun K36 hK36 => ?_)
    refine sr fun K37 hK37 => ?_
    refine pm 46 (.int .i64 v4_3) ?_
    refine pm 47 (.int .i64 v3_1) ?_
    refine pb 48 (.bool (decide (v4_3 < v3_1))) ?_
    refine en hK37 ?_
    refine aw_bool (b := (decide (v4_3 < v3_1))) 48 rfl (fun c38 => ?_) (fun c38 => ?_)
    ·have h := ifT c38 h
     refine aw_cond_t D_ rfl ?_
     refine aw_skip ?_
     refine hK36 _ ?_
     refine aw_seq_k (fun K39 hK39 => ?_)
     refine aw_block ?_
     refine aw_seq_k (fun K40 hK40 => ?_)
     refine aw_regd (by kernel_rfl) (by decide +kernel) ?_
     refine qP 51 (does_fieldAddr (q := .ptr 1 0 5) W_ ty47 rfl ty45 D_ R_) ?_
     refine qR 52 (does_load (v := .sl 10 (List.map enc58 a0.Spans)) W_ W_ ty45 R_) ?_
     refine qP 53 (does_move (v := .int .i64 v4_3) R_) ?_
     obtain ⟨g41, h⟩ := gd_some h
     obtain ⟨x42, hx42, h⟩ := bnd_some h
     refine qP 54 (does_indexAddr_sl (el := .agg [.int .u64 x42.Trace.Hi, .int .u64 x42.Trace.Lo, .int .u64 x42.Id, .int .u64 x42.Parent, .str x42.Service, .str x42.Op, .int .i64 x42.Start, .int .i64 x42.Dur, .bool x42.Err, .sl 2 (List.map enc73 x42.Attrs)]) W_ W_ ty45 ty59 g41 (by exact map_get hx42)) ?_
     refine qP 55 (does_fieldAddr (q := .rptr [.int .u64 x42.Id, .int .u64 x42.Parent, .str x42.Service, .str x42.Op, .int .i64 x42.Start, .int .i64 x42.Dur, .bool x42.Err, .sl 2 (List.map enc73 x42.Attrs)]) W_ ty59 rfl ty42 D_ R_) ?_
     refine qR 56 (does_load (v := .int .u64 x42.Id) W_ W_ ty42 R_) ?_
     refine qP 57 (does_fieldAddr (q := .ptr 1 0 5) W_ ty47 rfl ty45 D_ R_) ?_
     refine qR 58 (does_load (v := .sl 10 (List.map enc58 a0.Spans)) W_ W_ ty45 R_) ?_
     refine qP 59 (does_move (v := .int .i64 v3_1) R_) ?_
     obtain ⟨g43, h⟩ := gd_some h
     obtain ⟨x44, hx44, h⟩ := bnd_some h
     refine qP 60 (does_indexAddr_sl (el := .agg [.int .u64 x44.Trace.Hi, .int .u64 x44.Trace.Lo, .int .u64 x44.Id, .int .u64 x44.Parent, .str x44.Service, .str x44.Op, .int .i64 x44.Start, .int .i64 x44.Dur, .bool x44.Err, .sl 2 (List.map enc73 x44.Attrs)]) W_ W_ ty45 ty59 g43 (by exact map_get hx44)) ?_
     refine qP 61 (does_fieldAddr (q := .rptr [.int .u64 x44.Id, .int .u64 x44.Parent, .str x44.Service, .str x44.Op, .int .i64 x44.Start, .int .i64 x44.Dur, .bool x44.Err, .sl 2 (List.map enc73 x44.Attrs)]) W_ ty59 rfl ty42 D_ R_) ?_
     refine qR 62 (does_load (v := .int .u64 x44.Id) W_ W_ ty42 R_) ?_
     refine qP 63 (does_bin (v := .bool (x42.Id == x44.Id)) W_ W_ rfl) ?_
     refine ao_nil_d (by kernel_rfl) ?_
     refine hK40 _ ?_
     refine aw_bool (b := (x42.Id == x44.Id)) 63 rfl (fun c45 => ?_) (fun c45 => ?_)
     ·have h := ifT c45 h
      refine aw_cond_t D_ rfl ?_
      refine sr fun K46 hK46 => ?_
      refine pa 2 (.bool false) ?_
      refine en hK46 ?_
      refine aw_ret ?_
      have h := leafR h hq35
      have h := leafR h hq16
      obtain rfl := Option.some.inj h
      exact ret_ok1 W_ W_ R_ (.inr rfl) rfl
     ·have h := ifF c45 h
      refine aw_cond_f D_ rfl ?_
      refine aw_skip ?_
      refine hK39 _ ?_
      refine aw_regL ?_
      refine pm 49 (.int .i64 v4_3) ?_
      refine pb 50 (.int .i64 (IntKind.i64.wrap (v4_3 + 1))) ?_
      refine pa 4 (.int .i64 (IntKind.i64.wrap (v4_3 + 1))) ?_
      refine al_nil ?_
      have h := leafL h hq35
      exact ⟨m3, Nat.lt_succ_self _, _, reb_lit [(1, .ptr 1 0 0), (3, .int .i64 v3_1), (4, .int .i64 (IntKind.i64.wrap (v4_3 + 1)))] [(1, 0)] [((1, 0), .box [.int .u64 a0.Trace.Hi, .int .u64 a0.Trace.Lo, .int .i64 a0.First, .int .i64 a0.Last, .bool a0.Sure, .sl 10 (List.map enc58 a0.Spans)])] [(1, 1)] (ec (ec (ec envOk_nil))) (objOk_cons W_ W_ R_ (by simp) objOk_nil) (nodup_b rfl) (nodup_b rfl) rfl rfl, (IntKind.i64.wrap (v4_3 + 1)), h, rfl⟩
    ·have h := ifF c38 h
     refine aw_cond_f D_ rfl ?_
     refine aw_exit ?_
     have h := leafR h hq35
     refine hK20 _ ?_
     refine aw_regL ?_
     refine pm 26 (.int .i64 v3_1) ?_
     refine pb 27 (.int .i64 (IntKind.i64.wrap (v3_1 + 1))) ?_
     refine pa 3 (.int .i64 (IntKind.i64.wrap (v3_1 + 1))) ?_
     refine al_nil ?_
     have h := leafL h hq16
     exact ⟨m1, Nat.lt_succ_self _, _, reb_lit [(1, .ptr 1 0 0), (3, .int .i64 (IntKind.i64.wrap (v3_1 + 1)))] [(1, 0)] [((1, 0), .box [.int .u64 a0.Trace.Hi, .int .u64 a0.Trace.Lo, .int .i64 a0.First, .int .i64 a0.Last, .bool a0.Sure, .sl 10 (List.map enc58 a0.Spans)])] [(1, 1)] (ec (ec envOk_nil)) (objOk_cons W_ W_ R_ (by simp) objOk_nil) (nodup_b rfl) (nodup_b rfl) rfl rfl, (IntKind.i64.wrap (v3_1 + 1)), h, rfl⟩
  ·have h := ifF c19 h
   refine aw_cond_f D_ rfl ?_
   refine aw_exit ?_
   have h := leafR h hq16
   refine hK13 _ ?_
   refine sr fun K47 hK47 => ?_
   refine pa 2 (.bool true) ?_
   refine en hK47 ?_
   refine aw_ret ?_
   obtain rfl := Option.some.inj h
   exact ret_ok1 W_ W_ R_ (.inr rfl) rfl
def gleaningref15_LessTrace (a0 : Trace) (a1 : Trace) : Option Bool :=
 if (decide (a0.Hi < a1.Hi)) = true then (some true) else (if (a0.Hi == a1.Hi) = true then (some (decide (a0.Lo < a1.Lo))) else (some false))
theorem gleaningref15_LessTrace_ok (a0 : Trace) (a1 : Trace) {r : Bool} (h : gleaningref15_LessTrace a0 a1 = some r) : Ok Try.prog 21 [.agg [.int .u64 a0.Hi, .int .u64 a0.Lo], .agg [.int .u64 a1.Hi, .int .u64 a1.Lo]] [] [] (.bool r) [] [] := by
 unfold gleaningref15_LessTrace at h
 refine ok_of_code Try.func21 rfl (by show (2 : Nat) ≤ _; decide) (Nat.le_refl _) fun X => ?_
 refine sr fun K1 hK1 => ?_
 refine pD 2 (do_box W_ rfl rfl) ?_
 refine pD 3 (do_box W_ rfl rfl) ?_
 refine pa 4 (.bool false) ?_
 refine en hK1 ?_
 refine sr fun K2 hK2 => ?_
 refine pf 5 (.ptr 2 0 0) ty44 ty42 ?_
 refine pl 6 (.int .u64 a0.Hi) ty42 ?_
 refine pf 7 (.ptr 3 0 0) ty44 ty42 ?_
 refine pl 8 (.int .u64 a1.Hi) ty42 ?_
 refine pb 9 (.bool (decide (a0.Hi < a1.Hi))) ?_
 refine pm 10 (.bool (decide (a0.Hi < a1.Hi))) ?_
 refine al_bool (c := (decide (a0.Hi < a1.Hi))) 10 rfl (fun c3 => ?_) (fun c3 => ?_)
 ·have h := ifT c3 h
  refine pS 11 ?_
  refine pS 12 ?_
  refine pS 13 ?_
  refine pS 14 ?_
  refine pS 15 ?_
  refine pS 16 ?_
  refine pS 17 ?_
  refine pS 18 ?_
  refine pS 19 ?_
  refine pS 20 ?_
  refine pS 21 ?_
  refine pS 22 ?_
  refine pk 23 (.bool true) ?_
  refine pa 4 (.bool true) ?_
  refine en hK2 ?_
  refine aw_ret ?_
  obtain rfl := Option.some.inj h
  exact ret_ok1 W_ W_ R_ (.inr rfl) rfl
 ·have h := ifF c3 h
  refine pf 11 (.ptr 2 0 0) ty44 ty42 ?_
  refine pl 12 (.int .u64 a0.Hi) ty42 ?_
  refine pf 13 (.ptr 3 0 0) ty44 ty42 ?_
  refine pl 14 (.int .u64 a1.Hi) ty42 ?_
  refine pb 15 (.bool (a0.Hi == a1.Hi)) ?_
  refine pm 16 (.bool (a0.Hi == a1.Hi)) ?_
  refine al_bool (c := (a0.Hi == a1.Hi)) 16 rfl (fun c4 => ?_) (fun c4 => ?_)
  ·have h := ifT c4 h
   refine pf 17 (.ptr 2 0 1) ty44 ty42 ?_
   refine pl 18 (.int .u64 a0.Lo) ty42 ?_
   refine pf 19 (.ptr 3 0 1) ty44 ty42 ?_
   refine pl 20 (.int .u64 a1.Lo) ty42 ?_
   refine pb 21 (.bool (decide (a0.Lo < a1.Lo))) ?_
   refine pk 22 (.bool (decide (a0.Lo < a1.Lo))) ?_
   refine pk 23 (.bool (decide (a0.Lo < a1.Lo))) ?_
   refine pa 4 (.bool (decide (a0.Lo < a1.Lo))) ?_
   refine en hK2 ?_
   refine aw_ret ?_
   obtain rfl := Option.some.inj h
   exact ret_ok1 W_ W_ R_ (.inr rfl) rfl
  ·have h := ifF c4 h
   refine pS 17 ?_
   refine pS 18 ?_
   refine pS 19 ?_
   refine pS 20 ?_
   refine pS 21 ?_
   refine pk 22 (.bool false) ?_
   refine pk 23 (.bool false) ?_
   refine pa 4 (.bool false) ?_
   refine en hK2 ?_
   refine aw_ret ?_
   obtain rfl := Option.some.inj h
   exact ret_ok1 W_ W_ R_ (.inr rfl) rfl
def gleaningref15_RightBlock_l1 (a0 : Block) (v3_1 : Int) : Option (Int ⊕ (Unit ⊕ Bool)) :=
 if (decide (v3_1 < (List.length a0.Episodes : Int))) = true then (gd (0 ≤ v3_1) (Option.bind (a0.Episodes[(Int.toNat v3_1)]?) (fun (x13 : Episode) => Option.bind (gleaningref15_RightEpisode x13) (fun (x14 : Bool) => if (!x14) = true then (some (Sum.inr (Sum.inr false))) else (if (decide ((0 : Int) < v3_1)) = true then (gd (0 ≤ v3_1) (Option.bind (a0.Episodes[(Int.toNat v3_1)]?) (fun (x19 : Episode) => gd (0 ≤ (IntKind.i64.wrap (v3_1 - 1))) (Option.bind (a0.Episodes[(Int.toNat (IntKind.i64.wrap (v3_1 - 1)))]?) (fun (x21 : Episode) => Option.bind (gleaningref15_LessTrace x19.Trace x21.Trace) (fun (x22 : Bool) => if x22 = true then (some (Sum.inr (Sum.inr false))) else (some (Sum.inl (IntKind.i64.wrap (v3_1 + 1)))))))))) else (some (Sum.inl (IntKind.i64.wrap (v3_1 + 1))))))))) else (some (Sum.inr (Sum.inl ())))
def gleaningref15_RightBlock_k0 (a0 : Block) : Option Bool :=
 Option.bind (gleaningref15_count a0.Number) (fun (x26 : Bool) => if x26 = true then (Option.bind (gleaningref15_count a0.Born) (fun (x28 : Bool) => if x28 = true then (Option.bind (gleaningref15_count a0.Tier) (fun (x30 : Bool) => some x30)) else (some false))) else (some false))
def gleaningref15_RightBlock (a0 : Block) : Option Bool :=
 Option.bind (loopN (fun (s : Int) => gleaningref15_RightBlock_l1 a0 s) Fu 0) (Sum.elim (fun (s : Unit) => gleaningref15_RightBlock_k0 a0) some)
theorem gleaningref15_RightBlock_ok (a0 : Block) {r : Bool} (h : gleaningref15_RightBlock a0 = some r) : Ok Try.prog 13 [.agg [.int .i64 a0.Number, .int .i64 a0.Born, .int .i64 a0.Tier, .sl 6 (List.map enc46 a0.Episodes)]] [] [] (.bool r) [] [] := by
 unfold gleaningref15_RightBlock at h
 refine ok_of_code Try.func13 rfl (by show (1 : Nat) ≤ _; decide) (Nat.le_refl _) fun X => ?_
 refine sr fun K1 hK1 => ?_
 refine pD 1 (do_box W_ rfl rfl) ?_
 refine pa 2 (.bool false) ?_
 refine en hK1 ?_
 obtain ⟨q2, h, hk3⟩ := bnd_some h
 refine aw_cut (fun s => gleaningref15_RightBlock_k0 a0 = some r ∧ s = lit [(1, .ptr 1 0 0)] [((1, 0), .box [.int .i64 a0.Number, .int .i64 a0.Born, .int .i64 a0.Tier, .sl 6 (List.map enc46 a0.Episodes)])] [(1, 1)] X) ?_ ?_
 ·skip
  refine sr fun K4 hK4 => ?_
  refine pa 3 (.int .i64 0) ?_
  refine en hK4 ?_
  refine aw_block ?_
  refine aw_loop' (fun m s => ∃ (v3_1 : Int), loopN (fun (s : Int) => gleaningref15_RightBlock_l1 a0 s) m v3_1 = some q2 ∧ s = lit [(1, .ptr 1 0 0), (3, .int .i64 v3_1)] [((1, 0), .box [.int .i64 a0.Number, .int .i64 a0.Born, .int .i64 a0.Tier, .sl 6 (List.map enc46 a0.Episodes)])] [(1, 1)] X) Fu
   ⟨_, reb_lit [(1, .ptr 1 0 0), (3, .int .i64 (0))] [(1, 0)] [((1, 0), .box [.int .i64 a0.Number, .int .i64 a0.Born, .int .i64 a0.Tier, .sl 6 (List.map enc46 a0.Episodes)])] [(1, 1)] (ec (ec envOk_nil)) (objOk_cons W_ W_ R_ (by simp) objOk_nil) (nodup_b rfl) (nodup_b rfl) rfl rfl, 0, h, rfl⟩ ?_
  rintro m s ⟨v3_1, h, rfl⟩
  obtain ⟨m1, q5, rfl, h, hq6⟩ := loop_some h
  replace h : gleaningref15_RightBlock_l1 a0 v3_1 = some q5 := h
  unfold gleaningref15_RightBlock_l1 at h
  refine aw_seq_k (fun K7 hK7 => ?_)
  refine sr fun K8 hK8 => ?_
  refine pm 4 (.int .i64 v3_1) ?_
  refine pf 5 (.ptr 1 0 3) ty31 ty29 ?_
  refine pl 6 (.sl 6 (List.map enc46 a0.Episodes)) ty29 ?_
  refine pP 7 ((does_len_sl W_ ty29).castp (v' := .int .i64 (List.length a0.Episodes : Int)) (by exact len_map _)) ?_
  refine pb 8 (.bool (decide (v3_1 < (List.length a0.Episodes : Int)))) ?_
  refine en hK8 ?_
  refine aw_bool (b := (decide (v3_1 < (List.length a0.Episodes : Int)))) 8 rfl (fun c9 => ?_) (fun c9 => ?_)
  ·have h := ifT c9 h
   refine aw_cond_t D_ rfl ?_
   refine aw_skip ?_
   refine hK7 _ ?_
   refine aw_seq_k (fun K10 hK10 => ?_)
   refine aw_block ?_
   refine aw_seq_k (fun K11 hK11 => ?_)
   refine aw_regd (by kernel_rfl) (by decide +kernel) ?_
   refine qP 11 (does_fieldAddr (q := .ptr 1 0 3) W_ ty31 rfl ty29 D_ R_) ?_
   refine qR 12 (does_load (v := .sl 6 (List.map enc46 a0.Episodes)) W_ W_ ty29 R_) ?_
   refine qP 13 (does_move (v := .int .i64 v3_1) R_) ?_
   obtain ⟨g12, h⟩ := gd_some h
   obtain ⟨x13, hx13, h⟩ := bnd_some h
   refine qP 14 (does_indexAddr_sl (el := .agg [.int .u64 x13.Trace.Hi, .int .u64 x13.Trace.Lo, .int .i64 x13.First, .int .i64 x13.Last, .bool x13.Sure, .sl 10 (List.map enc58 x13.Spans)]) W_ W_ ty29 ty47 g12 (by exact map_get hx13)) ?_
   refine qR 15 (does_load (v := .agg [.int .u64 x13.Trace.Hi, .int .u64 x13.Trace.Lo, .int .i64 x13.First, .int .i64 x13.Last, .bool x13.Sure, .sl 10 (List.map enc58 x13.Spans)]) W_ W_ ty47 R_) ?_
   obtain ⟨x14, hx14, h⟩ := bnd_some h
   refine qD 16 ((do_call0 16 false (gleaningref15_RightEpisode_ok x13 hx14) rfl ent20 rfl rfl).fx (y := ⟨[], .bool x14, [], [16]⟩) rfl) ?_
   refine qP 17 (does_un (v := .bool (!x14)) W_ rfl) ?_
   refine qP 18 (does_move (v := .bool (!x14)) R_) ?_
   refine ao_bool (c := (!x14)) 18 rfl (fun c15 => ?_) (fun c15 => ?_)
   ·have h := ifT c15 h
    refine qS 19 ?_
    refine qS 20 ?_
    refine qS 21 ?_
    refine qS 22 ?_
    refine qS 23 ?_
    refine qS 24 ?_
    refine qS 25 ?_
    refine qS 26 ?_
    refine qS 27 ?_
    refine qS 28 ?_
    refine qS 29 ?_
    refine qS 30 ?_
    refine qS 31 ?_
    refine qS 32 ?_
    refine qS 33 ?_
    refine qS 34 ?_
    refine qS 35 ?_
    refine qS 36 ?_
    refine qP 37 (does_pick (v := .bool true) W_ R_) ?_
    refine ao_nil_d (by kernel_rfl) ?_
    refine hK11 _ ?_
    refine aw_cond_t D_ rfl ?_
    refine sr fun K16 hK16 => ?_
    refine pa 2 (.bool false) ?_
    refine en hK16 ?_
    refine aw_ret ?_
    have h := leafR h hq6
    have h := leafR h hk3
    obtain rfl := Option.some.inj h
    exact ret_ok1 W_ W_ R_ (.inr rfl) rfl
   ·have h := ifF c15 h
    refine qP 19 (does_move (v := .int .i64 v3_1) R_) ?_
    refine qP 20 (does_bin (v := .bool (decide ((0 : Int) < v3_1))) W_ W_ rfl) ?_
    refine qP 21 (does_move (v := .bool (decide ((0 : Int) < v3_1))) R_) ?_
    refine ao_bool (c := (decide ((0 : Int) < v3_1))) 21 rfl (fun c17 => ?_) (fun c17 => ?_)
    ·have h := ifT c17 h
     refine qP 22 (does_fieldAddr (q := .ptr 1 0 3) W_ ty31 rfl ty29 D_ R_) ?_
     refine qR 23 (does_load (v := .sl 6 (List.map enc46 a0.Episodes)) W_ W_ ty29 R_) ?_
     refine qP 24 (does_move (v := .int .i64 v3_1) R_) ?_
     obtain ⟨g18, h⟩ := gd_some h
     obtain ⟨x19, hx19, h⟩ := bnd_some h
     refine qP 25 (does_indexAddr_sl (el := .agg [.int .u64 x19.Trace.Hi, .int .u64 x19.Trace.Lo, .int .i64 x19.First, .int .i64 x19.Last, .bool x19.Sure, .sl 10 (List.map enc58 x19.Spans)]) W_ W_ ty29 ty47 g18 (by exact map_get hx19)) ?_
     refine qP 26 (does_fieldAddr (q := .rptr [.int .u64 x19.Trace.Hi, .int .u64 x19.Trace.Lo, .int .i64 x19.First, .int .i64 x19.Last, .bool x19.Sure, .sl 10 (List.map enc58 x19.Spans)]) W_ ty47 rfl ty44 D_ R_) ?_
     refine qR 27 (does_load (v := .agg [.int .u64 x19.Trace.Hi, .int .u64 x19.Trace.Lo]) W_ W_ ty44 R_) ?_
     refine qP 28 (does_fieldAddr (q := .ptr 1 0 3) W_ ty31 rfl ty29 D_ R_) ?_
     refine qR 29 (does_load (v := .sl 6 (List.map enc46 a0.Episodes)) W_ W_ ty29 R_) ?_
     refine qP 30 (does_move (v := .int .i64 v3_1) R_) ?_
     refine qP 31 (does_bin (v := .int .i64 (IntKind.i64.wrap (v3_1 - 1))) W_ W_ rfl) ?_
     obtain ⟨g20, h⟩ := gd_some h
     obtain ⟨x21, hx21, h⟩ := bnd_some h
     refine qP 32 (does_indexAddr_sl (el := .agg [.int .u64 x21.Trace.Hi, .int .u64 x21.Trace.Lo, .int .i64 x21.First, .int .i64 x21.Last, .bool x21.Sure, .sl 10 (List.map enc58 x21.Spans)]) W_ W_ ty29 ty47 g20 (by exact map_get hx21)) ?_
     refine qP 33 (does_fieldAddr (q := .rptr [.int .u64 x21.Trace.Hi, .int .u64 x21.Trace.Lo, .int .i64 x21.First, .int .i64 x21.Last, .bool x21.Sure, .sl 10 (List.map enc58 x21.Spans)]) W_ ty47 rfl ty44 D_ R_) ?_
     refine qR 34 (does_load (v := .agg [.int .u64 x21.Trace.Hi, .int .u64 x21.Trace.Lo]) W_ W_ ty44 R_) ?_
     obtain ⟨x22, hx22, h⟩ := bnd_some h
     refine qD 35 ((do_call0 35 false (gleaningref15_LessTrace_ok x19.Trace x21.Trace hx22) rfl ent21 rfl rfl).fx (y := ⟨[], .bool x22, [], [35]⟩) rfl) ?_
     refine qP 36 (does_pick (v := .bool x22) W_ R_) ?_
     refine qP 37 (does_pick (v := .bool x22) W_ R_) ?_
     refine ao_nil_d (by kernel_rfl) ?_
     refine hK11 _ ?_
     refine aw_bool (b := x22) 37 rfl (fun c23 => ?_) (fun c23 => ?_)
     ·have h := ifT c23 h
      refine aw_cond_t D_ rfl ?_
      refine sr fun K24 hK24 => ?_
      refine pa 2 (.bool false) ?_
      refine en hK24 ?_
      refine aw_ret ?_
      have h := leafR h hq6
      have h := leafR h hk3
      obtain rfl := Option.some.inj h
      exact ret_ok1 W_ W_ R_ (.inr rfl) rfl
     ·have h := ifF c23 h
      refine aw_cond_f D_ rfl ?_
      refine aw_skip ?_
      refine hK10 _ ?_
      refine aw_regL ?_
      refine pm 9 (.int .i64 v3_1) ?_
      refine pb 10 (.int .i64 (IntKind.i64.wrap (v3_1 + 1))) ?_
      refine pa 3 (.int .i64 (IntKind.i64.wrap (v3_1 + 1))) ?_
      refine al_nil ?_
      have h := leafL h hq6
      exact ⟨m1, Nat.lt_succ_self _, _, reb_lit [(1, .ptr 1 0 0), (3, .int .i64 (IntKind.i64.wrap (v3_1 + 1)))] [(1, 0)] [((1, 0), .box [.int .i64 a0.Number, .int .i64 a0.Born, .int .i64 a0.Tier, .sl 6 (List.map enc46 a0.Episodes)])] [(1, 1)] (ec (ec envOk_nil)) (objOk_cons W_ W_ R_ (by simp) objOk_nil) (nodup_b rfl) (nodup_b rfl) rfl rfl, (IntKind.i64.wrap (v3_1 + 1)), h, rfl⟩
    ·have h := ifF c17 h
     refine qS 22 ?_
     refine qS 23 ?_
     refine qS 24 ?_
     refine qS 25 ?_
     refine qS 26 ?_
     refine qS 27 ?_
     refine qS 28 ?_
     refine qS 29 ?_
     refine qS 30 ?_
     refine qS 31 ?_
     refine qS 32 ?_
     refine qS 33 ?_
     refine qS 34 ?_
     refine qS 35 ?_
     refine qP 36 (does_pick (v := .bool false) W_ R_) ?_
     refine qP 37 (does_pick (v := .bool false) W_ R_) ?_
     refine ao_nil_d (by kernel_rfl) ?_
     refine hK11 _ ?_
     refine aw_cond_f D_ rfl ?_
     refine aw_skip ?_
     refine hK10 _ ?_
     refine aw_regL ?_
     refine pm 9 (.int .i64 v3_1) ?_
     refine pb 10 (.int .i64 (IntKind.i64.wrap (v3_1 + 1))) ?_
     refine pa 3 (.int .i64 (IntKind.i64.wrap (v3_1 + 1))) ?_
     refine al_nil ?_
     have h := leafL h hq6
     exact ⟨m1, Nat.lt_succ_self _, _, reb_lit [(1, .ptr 1 0 0), (3, .int .i64 (IntKind.i64.wrap (v3_1 + 1)))] [(1, 0)] [((1, 0), .box [.int .i64 a0.Number, .int .i64 a0.Born, .int .i64 a0.Tier, .sl 6 (List.map enc46 a0.Episodes)])] [(1, 1)] (ec (ec envOk_nil)) (objOk_cons W_ W_ R_ (by simp) objOk_nil) (nodup_b rfl) (nodup_b rfl) rfl rfl, (IntKind.i64.wrap (v3_1 + 1)), h, rfl⟩
  ·have h := ifF c9 h
   refine aw_cond_f D_ rfl ?_
   refine aw_exit ?_
   have h := leafR h hq6
   have h := leafL h hk3
   exact ⟨_, reb_lit [(1, .ptr 1 0 0)] [(1, 0)] [((1, 0), .box [.int .i64 a0.Number, .int .i64 a0.Born, .int .i64 a0.Tier, .sl 6 (List.map enc46 a0.Episodes)])] [(1, 1)] (ec envOk_nil) (objOk_cons W_ W_ R_ (by simp) objOk_nil) (nodup_b rfl) (nodup_b rfl) rfl rfl, h, rfl⟩
 ·rintro s ⟨h, rfl⟩
  unfold gleaningref15_RightBlock_k0 at h
  refine sr fun K25 hK25 => ?_
  refine pf 38 (.ptr 1 0 0) ty31 ty3 ?_
  refine pl 39 (.int .i64 a0.Number) ty3 ?_
  obtain ⟨x26, hx26, h⟩ := bnd_some h
  refine pD 40 (do_call0 40 false (gleaningref15_count_ok a0.Number hx26) rfl ent22 rfl rfl) ?_
  refine pm 41 (.bool x26) ?_
  refine al_bool (c := x26) 41 rfl (fun c27 => ?_) (fun c27 => ?_)
  ·have h := ifT c27 h
   refine pf 42 (.ptr 1 0 1) ty31 ty3 ?_
   refine pl 43 (.int .i64 a0.Born) ty3 ?_
   obtain ⟨x28, hx28, h⟩ := bnd_some h
   refine pD 44 (do_call0 44 false (gleaningref15_count_ok a0.Born hx28) rfl ent22 rfl rfl) ?_
   refine pk 45 (.bool x28) ?_
   refine pm 46 (.bool x28) ?_
   refine al_bool (c := x28) 46 rfl (fun c29 => ?_) (fun c29 => ?_)
   ·have h := ifT c29 h
    refine pf 47 (.ptr 1 0 2) ty31 ty3 ?_
    refine pl 48 (.int .i64 a0.Tier) ty3 ?_
    obtain ⟨x30, hx30, h⟩ := bnd_some h
    refine pD 49 (do_call0 49 false (gleaningref15_count_ok a0.Tier hx30) rfl ent22 rfl rfl) ?_
    refine pk 50 (.bool x30) ?_
    refine pa 2 (.bool x30) ?_
    refine en hK25 ?_
    refine aw_ret ?_
    obtain rfl := Option.some.inj h
    exact ret_ok1 W_ W_ R_ (.inr rfl) rfl
   ·have h := ifF c29 h
    refine pS 47 ?_
    refine pS 48 ?_
    refine pS 49 ?_
    refine pk 50 (.bool false) ?_
    refine pa 2 (.bool false) ?_
    refine en hK25 ?_
    refine aw_ret ?_
    obtain rfl := Option.some.inj h
    exact ret_ok1 W_ W_ R_ (.inr rfl) rfl
  ·have h := ifF c27 h
   refine pS 42 ?_
   refine pS 43 ?_
   refine pS 44 ?_
   refine pk 45 (.bool false) ?_
   refine pm 46 (.bool false) ?_
   refine pS 47 ?_
   refine pS 48 ?_
   refine pS 49 ?_
   refine pk 50 (.bool false) ?_
   refine pa 2 (.bool false) ?_
   refine en hK25 ?_
   refine aw_ret ?_
   obtain rfl := Option.some.inj h
   exact ret_ok1 W_ W_ R_ (.inr rfl) rfl
def gleaningref15_puts_l0 (a1 : List Int) (v0_s_0 : List UInt8) (v5_0 : Int) : Option ((List UInt8 × Int) ⊕ (List UInt8)) :=
 if (decide (v5_0 < (List.length a1 : Int))) = true then (gd (0 ≤ v5_0) (Option.bind (a1[(Int.toNat v5_0)]?) (fun (x11 : Int) => Option.bind (gleaningref1_Put v0_s_0 (IntKind.u64.wrap x11)) (fun (x12 : List UInt8) => some (Sum.inl (x12, (IntKind.i64.wrap (v5_0 + 1)))))))) else (some (Sum.inr v0_s_0))
def gleaningref15_puts (a0 : List UInt8) (a1 : List Int) : Option (List UInt8) :=
 loopN (fun (s : List UInt8 × Int) => gleaningref15_puts_l0 a1 s.1 s.2) Fu (a0, 0)
theorem gleaningref15_puts_ok (a0 : List UInt8) (a1 : List Int) {r : List UInt8} (h : gleaningref15_puts a0 a1 = some r) : Ok Try.prog 25 [.own 1 0, .sl 1 (List.map enc2 a1)] [] [(5, 1, List.map enc5 a0)] (.own 2 0) [] [(5, 1, List.map enc5 r)] := by
 unfold gleaningref15_puts at h
 refine ok_of_code Try.func25 rfl (by show (2 : Nat) ≤ _; decide) (Nat.le_refl _) fun X => ?_
 refine sr fun K1 hK1 => ?_
 refine pa 4 (.nil) ?_
 refine en hK1 ?_
 refine aw_seq_k (fun K2 hK2 => ?_)
 refine sr fun K3 hK3 => ?_
 refine pa 5 (.int .i64 0) ?_
 refine en hK3 ?_
 refine aw_block ?_
 refine aw_loop' (fun m s => ∃ (v0_s_0 : List UInt8), ∃ (v5_0 : Int), loopN (fun (s : List UInt8 × Int) => gleaningref15_puts_l0 a1 s.1 s.2) m (v0_s_0, v5_0) = some r ∧ s = lit [(0, .own 1 0), (1, .sl 1 (List.map enc2 a1)), (5, .int .i64 v5_0)] [((1, 0), .arr 5 1 false (List.map enc5 v0_s_0))] [(1, 1)] X) Fu
  ⟨_, reb_lit [(0, .own 1 0), (1, .sl 1 (List.map enc2 a1)), (5, .int .i64 (0))] [(1, 0)] [((1, 0), .arr 5 1 false (List.map enc5 a0))] [(1, 1)] (ec (ec (ec envOk_nil))) (objOk_cons W_ W_ R_ (by simp) objOk_nil) (nodup_b rfl) (nodup_b rfl) rfl rfl, a0, 0, h, rfl⟩ ?_
 rintro m s ⟨v0_s_0, v5_0, h, rfl⟩
 obtain ⟨m0, q4, rfl, h, hq5⟩ := loop_some h
 replace h : gleaningref15_puts_l0 a1 v0_s_0 v5_0 = some q4 := h
 unfold gleaningref15_puts_l0 at h
 refine aw_seq_k (fun K6 hK6 => ?_)
 refine sr fun K7 hK7 => ?_
 refine pm 6 (.int .i64 v5_0) ?_
 refine pm 7 (.sl 1 (List.map enc2 a1)) ?_
 refine pP 8 ((does_len_sl W_ ty25).castp (v' := .int .i64 (List.length a1 : Int)) (by exact len_map _)) ?_
 refine pb 9 (.bool (decide (v5_0 < (List.length a1 : Int)))) ?_
 refine en hK7 ?_
 refine aw_bool (b := (decide (v5_0 < (List.length a1 : Int)))) 9 rfl (fun c8 => ?_) (fun c8 => ?_)
 ·have h := ifT c8 h
  refine aw_cond_t D_ rfl ?_
  refine aw_skip ?_
  refine hK6 _ ?_
  refine aw_seq_k (fun K9 hK9 => ?_)
  refine aw_block ?_
  refine aw_regL ?_
  refine pm 12 (.own 1 0) ?_
  refine pm 13 (.sl 1 (List.map enc2 a1)) ?_
  refine pm 14 (.int .i64 v5_0) ?_
  obtain ⟨g10, h⟩ := gd_some h
  obtain ⟨x11, hx11, h⟩ := bnd_some h
  refine pP 15 (does_indexAddr_sl (el := .int .i64 x11) W_ W_ ty25 ty3 g10 (by exact map_get hx11)) ?_
  refine pl 16 (.int .i64 x11) ty3 ?_
  refine pP 17 (does_conv_int (v := .int .u64 (IntKind.u64.wrap x11)) W_ (ty_some ty3) (ty_int ty42) rfl) ?_
  obtain ⟨x12, hx12, h⟩ := bnd_some h
  refine pD 18 (do_callG (bcs := []) [] [(1, 0)] [] 18 false (gleaningref1_Put_ok v0_s_0 (IntKind.u64.wrap x11) hx12) rfl ent27 trivial (rowsOk_cons W_ R_ trivial) rfl rfl rfl rfl rfl rfl rfl rfl (.inr ⟨rfl, rfl, ⟨plain_map (fun _ => rfl), trivial⟩⟩)) ?_
  refine pa 0 (.own 18 0) ?_
  refine en hK9 ?_
  refine aw_regL ?_
  refine pm 10 (.int .i64 v5_0) ?_
  refine pb 11 (.int .i64 (IntKind.i64.wrap (v5_0 + 1))) ?_
  refine pa 5 (.int .i64 (IntKind.i64.wrap (v5_0 + 1))) ?_
  refine al_nil ?_
  have h := leafL h hq5
  exact ⟨m0, Nat.lt_succ_self _, _, reb_lit [(0, .own 1 0), (1, .sl 1 (List.map enc2 a1)), (5, .int .i64 (IntKind.i64.wrap (v5_0 + 1)))] [(18, 0)] [((1, 0), .arr 5 1 false (List.map enc5 x12))] [(1, 1)] (ec (ec (ec envOk_nil))) (objOk_cons W_ W_ R_ (by simp) objOk_nil) (nodup_b rfl) (nodup_b rfl) rfl rfl, x12, (IntKind.i64.wrap (v5_0 + 1)), h, rfl⟩
 ·have h := ifF c8 h
  refine aw_cond_f D_ rfl ?_
  refine aw_exit ?_
  have h := leafR h hq5
  refine hK2 _ ?_
  refine sr fun K13 hK13 => ?_
  refine pm 19 (.own 1 0) ?_
  refine pa 4 (.own 1 0) ?_
  refine en hK13 ?_
  refine aw_ret ?_
  obtain rfl := Option.some.inj h
  exact ret_okR [(1, 0)] W_ W_ R_ (rowsOk_cons W_ R_ trivial) (nodup_b rfl) (.inr rfl) rfl
def gleaningref15_body_l0 (a1 : Episode) (v0_s_0 : List UInt8) (v5_0 : Int) : Option ((List UInt8 × Int) ⊕ (List UInt8)) :=
 if (decide (v5_0 < (List.length a1.Spans : Int))) = true then (gd (0 ≤ v5_0) (Option.bind (a1.Spans[(Int.toNat v5_0)]?) (fun (x18 : Span) => Option.bind (gleaningref1_AddSpan v0_s_0 x18) (fun (x19 : List UInt8) => some (Sum.inl (x19, (IntKind.i64.wrap (v5_0 + 1)))))))) else (some (Sum.inr v0_s_0))
def gleaningref15_body (a0 : List UInt8) (a1 : Episode) : Option (List UInt8) :=
 Option.bind (gleaningref1_Put a0 (IntKind.u64.wrap a1.First)) (fun (x3 : List UInt8) => Option.bind (gleaningref1_Put x3 (IntKind.u64.wrap a1.Last)) (fun (x4 : List UInt8) => Option.bind (gleaningref1_Bit a1.Sure) (fun (x6 : Int) => Option.bind (gleaningref1_Put x4 x6) (fun (x7 : List UInt8) => Option.bind (gleaningref1_Put x7 (IntKind.u64.wrap (List.length a1.Spans : Int))) (fun (x8 : List UInt8) => loopN (fun (s : List UInt8 × Int) => gleaningref15_body_l0 a1 s.1 s.2) Fu (x8, 0))))))
theorem gleaningref15_body_ok (a0 : List UInt8) (a1 : Episode) {r : List UInt8} (h : gleaningref15_body a0 a1 = some r) : Ok Try.prog 26 [.own 1 0, .agg [.int .u64 a1.Trace.Hi, .int .u64 a1.Trace.Lo, .int .i64 a1.First, .int .i64 a1.Last, .bool a1.Sure, .sl 10 (List.map enc58 a1.Spans)]] [] [(5, 1, List.map enc5 a0)] (.own 2 0) [] [(5, 1, List.map enc5 r)] := by
 unfold gleaningref15_body at h
 refine ok_of_code Try.func26 rfl (by show (2 : Nat) ≤ _; decide) (Nat.le_refl _) fun X => ?_
 refine sr fun K1 hK1 => ?_
 refine pD 3 (do_box W_ rfl rfl) ?_
 refine pa 4 (.nil) ?_
 refine en hK1 ?_
 refine aw_seq_k (fun K2 hK2 => ?_)
 refine aw_regd (by kernel_rfl) (by decide +kernel) ?_
 refine qP 6 (does_move (v := .own 1 0) R_) ?_
 refine qP 7 (does_fieldAddr (q := .ptr 3 0 2) W_ ty47 rfl ty3 D_ R_) ?_
 refine qR 8 (does_load (v := .int .i64 a1.First) W_ W_ ty3 R_) ?_
 refine qP 9 (does_conv_int (v := .int .u64 (IntKind.u64.wrap a1.First)) W_ (ty_some ty3) (ty_int ty42) rfl) ?_
 obtain ⟨x3, hx3, h⟩ := bnd_some h
 refine qD 10 (do_callG (bcs := []) [] [(1, 0)] [] 10 false (gleaningref1_Put_ok a0 (IntKind.u64.wrap a1.First) hx3) rfl ent27 trivial (rowsOk_cons W_ R_ trivial) rfl rfl rfl rfl rfl rfl rfl rfl (.inr ⟨rfl, rfl, ⟨plain_map (fun _ => rfl), trivial⟩⟩)) ?_
 refine qP 11 (does_fieldAddr (q := .ptr 3 0 3) W_ ty47 rfl ty3 D_ R_) ?_
 refine qR 12 (does_load (v := .int .i64 a1.Last) W_ W_ ty3 R_) ?_
 refine qP 13 (does_conv_int (v := .int .u64 (IntKind.u64.wrap a1.Last)) W_ (ty_some ty3) (ty_int ty42) rfl) ?_
 obtain ⟨x4, hx4, h⟩ := bnd_some h
 refine qD 14 (do_callG (bcs := []) [] [(10, 0)] [] 14 false (gleaningref1_Put_ok x3 (IntKind.u64.wrap a1.Last) hx4) rfl ent27 trivial (rowsOk_cons W_ R_ trivial) rfl rfl rfl rfl rfl rfl rfl rfl (.inr ⟨rfl, rfl, ⟨plain_map (fun _ => rfl), trivial⟩⟩)) ?_
 refine qP 0 (does_assign (v := .own 14 0) R_) ?_
 refine ao_nil_d (by kernel_rfl) ?_
 refine hK2 _ ?_
 refine aw_seq_k (fun K5 hK5 => ?_)
 refine aw_regd (by kernel_rfl) (by decide +kernel) ?_
 refine qP 15 (does_move (v := .own 14 0) R_) ?_
 refine qP 16 (does_fieldAddr (q := .ptr 3 0 4) W_ ty47 rfl ty4 D_ R_) ?_
 refine qR 17 (does_load (v := .bool a1.Sure) W_ W_ ty4 R_) ?_
 obtain ⟨x6, hx6, h⟩ := bnd_some h
 refine qD 18 (do_call0 18 false (gleaningref1_Bit_ok a1.Sure hx6) rfl ent37 rfl rfl) ?_
 obtain ⟨x7, hx7, h⟩ := bnd_some h
 refine qD 19 (do_callG (bcs := []) [] [(14, 0)] [] 19 false (gleaningref1_Put_ok x4 x6 hx7) rfl ent27 trivial (rowsOk_cons W_ R_ trivial) rfl rfl rfl rfl rfl rfl rfl rfl (.inr ⟨rfl, rfl, ⟨plain_map (fun _ => rfl), trivial⟩⟩)) ?_
 refine qP 20 (does_fieldAddr (q := .ptr 3 0 5) W_ ty47 rfl ty45 D_ R_) ?_
 refine qR 21 (does_load (v := .sl 10 (List.map enc58 a1.Spans)) W_ W_ ty45 R_) ?_
 refine qP 22 ((does_len_sl W_ ty45).castp (v' := .int .i64 (List.length a1.Spans : Int)) (by exact len_map _)) ?_
 refine qP 23 (does_conv_int (v := .int .u64 (IntKind.u64.wrap (List.length a1.Spans : Int))) W_ (ty_some ty3) (ty_int ty42) rfl) ?_
 obtain ⟨x8, hx8, h⟩ := bnd_some h
 refine qD 24 (do_callG (bcs := []) [] [(19, 0)] [] 24 false (gleaningref1_Put_ok x7 (IntKind.u64.wrap (List.length a1.Spans : Int)) hx8) rfl ent27 trivial (rowsOk_cons W_ R_ trivial) rfl rfl rfl rfl rfl rfl rfl rfl (.inr ⟨rfl, rfl, ⟨plain_map (fun _ => rfl), trivial⟩⟩)) ?_
 refine qP 0 (does_assign (v := .own 24 0) R_) ?_
 refine ao_nil_d (by kernel_rfl) ?_
 refine hK5 _ ?_
 refine aw_seq_k (fun K9 hK9 => ?_)
 refine sr fun K10 hK10 => ?_
 refine pa 5 (.int .i64 0) ?_
 refine en hK10 ?_
 refine aw_block ?_
 refine aw_loop' (fun m s => ∃ (v0_s_0 : List UInt8), ∃ (v5_0 : Int), loopN (fun (s : List UInt8 × Int) => gleaningref15_body_l0 a1 s.1 s.2) m (v0_s_0, v5_0) = some r ∧ s = lit [(0, .own 24 0), (3, .ptr 3 0 0), (5, .int .i64 v5_0)] [((24, 0), .arr 5 1 false (List.map enc5 v0_s_0)), ((3, 0), .box [.int .u64 a1.Trace.Hi, .int .u64 a1.Trace.Lo, .int .i64 a1.First, .int .i64 a1.Last, .bool a1.Sure, .sl 10 (List.map enc58 a1.Spans)])] [(3, 1), (24, 1)] X) Fu
  ⟨_, reb_lit [(0, .own 24 0), (3, .ptr 3 0 0), (5, .int .i64 (0))] [(24, 0), (3, 0)] [((24, 0), .arr 5 1 false (List.map enc5 x8)), ((3, 0), .box [.int .u64 a1.Trace.Hi, .int .u64 a1.Trace.Lo, .int .i64 a1.First, .int .i64 a1.Last, .bool a1.Sure, .sl 10 (List.map enc58 a1.Spans)])] [(3, 1), (24, 1)] (ec (ec (ec envOk_nil))) (objOk_cons W_ W_ R_ (by simp) (objOk_cons W_ W_ R_ (by simp) objOk_nil)) (nodup_b rfl) (nodup_b rfl) rfl rfl, x8, 0, h, rfl⟩ ?_
 rintro m s ⟨v0_s_0, v5_0, h, rfl⟩
 obtain ⟨m0, q11, rfl, h, hq12⟩ := loop_some h
 replace h : gleaningref15_body_l0 a1 v0_s_0 v5_0 = some q11 := h
 unfold gleaningref15_body_l0 at h
 refine aw_seq_k (fun K13 hK13 => ?_)
 refine sr fun K14 hK14 => ?_
 refine pm 25 (.int .i64 v5_0) ?_
 refine pf 26 (.ptr 3 0 5) ty47 ty45 ?_
 refine pl 27 (.sl 10 (List.map enc58 a1.Spans)) ty45 ?_
 refine pP 28 ((does_len_sl W_ ty45).castp (v' := .int .i64 (List.length a1.Spans : Int)) (by exact len_map _)) ?_
 refine pb 29 (.bool (decide (v5_0 < (List.length a1.Spans : Int)))) ?_
 refine en hK14 ?_
 refine aw_bool (b := (decide (v5_0 < (List.length a1.Spans : Int)))) 29 rfl (fun c15 => ?_) (fun c15 => ?_)
 ·have h := ifT c15 h
  refine aw_cond_t D_ rfl ?_
  refine aw_skip ?_
  refine hK13 _ ?_
  refine aw_seq_k (fun K16 hK16 => ?_)
  refine aw_block ?_
  refine aw_regL ?_
  refine pm 32 (.own 24 0) ?_
  refine pf 33 (.ptr 3 0 5) ty47 ty45 ?_
  refine pl 34 (.sl 10 (List.map enc58 a1.Spans)) ty45 ?_
  refine pm 35 (.int .i64 v5_0) ?_
  obtain ⟨g17, h⟩ := gd_some h
  obtain ⟨x18, hx18, h⟩ := bnd_some h
  refine pP 36 (does_indexAddr_sl (el := .agg [.int .u64 x18.Trace.Hi, .int .u64 x18.Trace.Lo, .int .u64 x18.Id, .int .u64 x18.Parent, .str x18.Service, .str x18.Op, .int .i64 x18.Start, .int .i64 x18.Dur, .bool x18.Err, .sl 2 (List.map enc73 x18.Attrs)]) W_ W_ ty45 ty59 g17 (by exact map_get hx18)) ?_
  refine pl 37 (.agg [.int .u64 x18.Trace.Hi, .int .u64 x18.Trace.Lo, .int .u64 x18.Id, .int .u64 x18.Parent, .str x18.Service, .str x18.Op, .int .i64 x18.Start, .int .i64 x18.Dur, .bool x18.Err, .sl 2 (List.map enc73 x18.Attrs)]) ty59 ?_
  obtain ⟨x19, hx19, h⟩ := bnd_some h
  refine pD 38 (do_callG (bcs := []) [] [(24, 0)] [] 38 false (gleaningref1_AddSpan_ok v0_s_0 x18 hx19) rfl ent38 trivial (rowsOk_cons W_ R_ trivial) rfl rfl rfl rfl rfl rfl rfl rfl (.inr ⟨rfl, rfl, ⟨plain_map (fun _ => rfl), trivial⟩⟩)) ?_
  refine pa 0 (.own 38 0) ?_
  refine en hK16 ?_
  refine aw_regL ?_
  refine pm 30 (.int .i64 v5_0) ?_
  refine pb 31 (.int .i64 (IntKind.i64.wrap (v5_0 + 1))) ?_
  refine pa 5 (.int .i64 (IntKind.i64.wrap (v5_0 + 1))) ?_
  refine al_nil ?_
  have h := leafL h hq12
  exact ⟨m0, Nat.lt_succ_self _, _, reb_lit [(0, .own 24 0), (3, .ptr 3 0 0), (5, .int .i64 (IntKind.i64.wrap (v5_0 + 1)))] [(38, 0), (3, 0)] [((24, 0), .arr 5 1 false (List.map enc5 x19)), ((3, 0), .box [.int .u64 a1.Trace.Hi, .int .u64 a1.Trace.Lo, .int .i64 a1.First, .int .i64 a1.Last, .bool a1.Sure, .sl 10 (List.map enc58 a1.Spans)])] [(3, 1), (24, 1)] (ec (ec (ec envOk_nil))) (objOk_cons W_ W_ R_ (by simp) (objOk_cons W_ W_ R_ (by simp) objOk_nil)) (nodup_b rfl) (nodup_b rfl) rfl rfl, x19, (IntKind.i64.wrap (v5_0 + 1)), h, rfl⟩
 ·have h := ifF c15 h
  refine aw_cond_f D_ rfl ?_
  refine aw_exit ?_
  have h := leafR h hq12
  refine hK9 _ ?_
  refine sr fun K20 hK20 => ?_
  refine pm 39 (.own 24 0) ?_
  refine pa 4 (.own 24 0) ?_
  refine en hK20 ?_
  refine aw_ret ?_
  obtain rfl := Option.some.inj h
  exact ret_okR [(24, 0)] W_ W_ R_ (rowsOk_cons W_ R_ trivial) (nodup_b rfl) (.inr rfl) rfl
def gleaningref15_trace (a0 : List UInt8) (a1 : Trace) : Option (List UInt8) :=
 Option.bind (gleaningref1_Put a0 a1.Hi) (fun (x3 : List UInt8) => Option.bind (gleaningref1_Put x3 a1.Lo) (fun (x4 : List UInt8) => some x4))
theorem gleaningref15_trace_ok (a0 : List UInt8) (a1 : Trace) {r : List UInt8} (h : gleaningref15_trace a0 a1 = some r) : Ok Try.prog 28 [.own 1 0, .agg [.int .u64 a1.Hi, .int .u64 a1.Lo]] [] [(5, 1, List.map enc5 a0)] (.own 2 0) [] [(5, 1, List.map enc5 r)] := by
 unfold gleaningref15_trace at h
 refine ok_of_code Try.func28 rfl (by show (2 : Nat) ≤ _; decide) (Nat.le_refl _) fun X => ?_
 refine sr fun K1 hK1 => ?_
 refine pD 3 (do_box W_ rfl rfl) ?_
 refine pa 4 (.nil) ?_
 refine en hK1 ?_
 refine aw_seq_k (fun K2 hK2 => ?_)
 refine aw_regd (by kernel_rfl) (by decide +kernel) ?_
 refine qP 5 (does_move (v := .own 1 0) R_) ?_
 refine qP 6 (does_fieldAddr (q := .ptr 3 0 0) W_ ty44 rfl ty42 D_ R_) ?_
 refine qR 7 (does_load (v := .int .u64 a1.Hi) W_ W_ ty42 R_) ?_
 obtain ⟨x3, hx3, h⟩ := bnd_some h
 refine qD 8 (do_callG (bcs := []) [] [(1, 0)] [] 8 false (gleaningref1_Put_ok a0 a1.Hi hx3) rfl ent27 trivial (rowsOk_cons W_ R_ trivial) rfl rfl rfl rfl rfl rfl rfl rfl (.inr ⟨rfl, rfl, ⟨plain_map (fun _ => rfl), trivial⟩⟩)) ?_
 refine qP 9 (does_fieldAddr (q := .ptr 3 0 1) W_ ty44 rfl ty42 D_ R_) ?_
 refine qR 10 (does_load (v := .int .u64 a1.Lo) W_ W_ ty42 R_) ?_
 obtain ⟨x4, hx4, h⟩ := bnd_some h
 refine qD 11 (do_callG (bcs := []) [] [(8, 0)] [] 11 false (gleaningref1_Put_ok x3 a1.Lo hx4) rfl ent27 trivial (rowsOk_cons W_ R_ trivial) rfl rfl rfl rfl rfl rfl rfl rfl (.inr ⟨rfl, rfl, ⟨plain_map (fun _ => rfl), trivial⟩⟩)) ?_
 refine qP 4 (does_assign (v := .own 11 0) R_) ?_
 refine ao_nil_d (by kernel_rfl) ?_
 refine hK2 _ ?_
 refine aw_ret ?_
 obtain rfl := Option.some.inj h
 exact ret_okR [(11, 0)] W_ W_ R_ (rowsOk_cons W_ R_ trivial) (nodup_b rfl) (.inr rfl) rfl
def gleaningref15_BlockBytes_l1 (a0 : Block) (v3_s_1 : List UInt8) (v4_s_1 : List UInt8) (v5_1 : Int) : Option ((List UInt8 × List UInt8 × Int) ⊕ (List UInt8 × List UInt8)) :=
 if (decide (v5_1 < (List.length a0.Episodes : Int))) = true then (gd (0 ≤ v5_1) (Option.bind (a0.Episodes[(Int.toNat v5_1)]?) (fun (x21 : Episode) => Option.bind (gleaningref15_body [] x21) (fun (x22 : List UInt8) => gd (0 ≤ v5_1) (Option.bind (a0.Episodes[(Int.toNat v5_1)]?) (fun (x25 : Episode) => Option.bind (gleaningref15_trace v3_s_1 x25.Trace) (fun (x26 : List UInt8) => Option.bind (gleaningref1_Put x26 (IntKind.u64.wrap (List.length x22 : Int))) (fun (x27 : List UInt8) => gd ((List.length (v4_s_1 ++ x22)) * 1 ≤ 140737488355328 ∧ (List.length (v4_s_1 ++ x22)) ≤ 140737488355328) (some (Sum.inl (x27, (v4_s_1 ++ x22), (IntKind.i64.wrap (v5_1 + 1))))))))))))) else (some (Sum.inr (v3_s_1, v4_s_1)))
def gleaningref15_BlockBytes_k0 (v3_s_0 : List UInt8) (v4_s_0 : List UInt8) : Option (List UInt8) :=
 gd ((List.length (v3_s_0 ++ v4_s_0)) * 1 ≤ 140737488355328 ∧ (List.length (v3_s_0 ++ v4_s_0)) ≤ 140737488355328) (Option.bind (gleaningref1_Sealed (v3_s_0 ++ v4_s_0)) (fun (x31 : List UInt8) => some x31))
def gleaningref15_BlockBytes (a0 : Block) : Option (List UInt8) :=
 Option.bind (gleaningref15_RightBlock a0) (fun (x4 : Bool) => if (!x4) = true then (some []) else (Option.bind (gleaningref15_puts [] [a0.Number, a0.Born, a0.Tier, (List.length a0.Episodes : Int)]) (fun (x8 : List UInt8) => Option.bind (loopN (fun (s : List UInt8 × List UInt8 × Int) => gleaningref15_BlockBytes_l1 a0 s.1 s.2.1 s.2.2) Fu (x8, [], 0)) (fun (s : List UInt8 × List UInt8) => gleaningref15_BlockBytes_k0 s.1 s.2))))
theorem gleaningref15_BlockBytes_ok (a0 : Block) {r : List UInt8} (h : gleaningref15_BlockBytes a0 = some r) : Ok Try.prog 19 [.agg [.int .i64 a0.Number, .int .i64 a0.Born, .int .i64 a0.Tier, .sl 6 (List.map enc46 a0.Episodes)]] [] [] (.own 2 0) [] [(5, 1, List.map enc5 r)] := by
 unfold gleaningref15_BlockBytes at h
 refine ok_of_code Try.func19 rfl (by show (1 : Nat) ≤ _; decide) (Nat.le_refl _) fun X => ?_
 refine sr fun K1 hK1 => ?_
 refine pD 1 (do_box W_ rfl rfl) ?_
 refine pa 2 (.nil) ?_
 refine en hK1 ?_
 refine aw_seq_k (fun K2 hK2 => ?_)
 refine sr fun K3 hK3 => ?_
 refine pl 7 (.agg [.int .i64 a0.Number, .int .i64 a0.Born, .int .i64 a0.Tier, .sl 6 (List.map enc46 a0.Episodes)]) ty31 ?_
 obtain ⟨x4, hx4, h⟩ := bnd_some h
 refine pD 8 (do_call0 8 false (gleaningref15_RightBlock_ok a0 hx4) rfl ent13 rfl rfl) ?_
 refine pP 9 (does_un (v := .bool (!x4)) W_ rfl) ?_
 refine en hK3 ?_
 refine aw_bool (b := (!x4)) 9 rfl (fun c5 => ?_) (fun c5 => ?_)
 ·have h := ifT c5 h
  refine aw_cond_t D_ rfl ?_
  refine sr fun K6 hK6 => ?_
  refine pa 2 (.nil) ?_
  refine en hK6 ?_
  refine aw_nilOwn 2 5 1 W_ D_ D_ ?_
  refine aw_ret ?_
  obtain rfl := Option.some.inj h
  exact ret_okR [(2, 0)] W_ W_ R_ (rowsOk_cons W_ R_ trivial) (nodup_b rfl) (.inr rfl) rfl
 ·have h := ifF c5 h
  refine aw_cond_f D_ rfl ?_
  refine aw_skip ?_
  refine hK2 _ ?_
  refine sr fun K7 hK7 => ?_
  refine pf 10 (.ptr 1 0 0) ty31 ty3 ?_
  refine pl 11 (.int .i64 a0.Number) ty3 ?_
  refine pf 12 (.ptr 1 0 1) ty31 ty3 ?_
  refine pl 13 (.int .i64 a0.Born) ty3 ?_
  refine pf 14 (.ptr 1 0 2) ty31 ty3 ?_
  refine pl 15 (.int .i64 a0.Tier) ty3 ?_
  refine pf 16 (.ptr 1 0 3) ty31 ty29 ?_
  refine pl 17 (.sl 6 (List.map enc46 a0.Episodes)) ty29 ?_
  refine pP 18 ((does_len_sl W_ ty29).castp (v' := .int .i64 (List.length a0.Episodes : Int)) (by exact len_map _)) ?_
  refine pD 19 (do_buildSlice (xs := List.map enc2 [a0.Number, a0.Born, a0.Tier, (List.length a0.Episodes : Int)]) ty25 ty3 rfl rfl rfl rfl rfl rfl rfl rfl) ?_
  obtain ⟨x8, hx8, h⟩ := bnd_some h
  refine pD 20 (do_callG (bcs := []) [] [] [(19, 0)] 20 false ((gleaningref15_puts_ok [] [a0.Number, a0.Born, a0.Tier, (List.length a0.Episodes : Int)] hx8).nilRow0) rfl ent25 trivial trivial rfl rfl rfl rfl rfl rfl rfl rfl (.inr ⟨rfl, rfl, ⟨plain_map (fun _ => rfl), trivial⟩⟩)) ?_
  refine pa 3 (.own 20 0) ?_
  refine en hK7 ?_
  refine sr fun K9 hK9 => ?_
  refine pa 4 (.nil) ?_
  refine en hK9 ?_
  obtain ⟨q10, h, hk11⟩ := bnd_some h
  refine aw_cut (fun s => ∃ (v3_s_0 : List UInt8), ∃ (v4_s_0 : List UInt8), gleaningref15_BlockBytes_k0 v3_s_0 v4_s_0 = some r ∧ s = lit [(3, .own 20 0), (4, .own 4 0)] [((20, 0), .arr 5 1 false (List.map enc5 v3_s_0)), ((4, 0), .arr 5 1 false (List.map enc5 v4_s_0))] [(4, 1), (20, 1)] X) ?_ ?_
  ·skip
   refine sr fun K12 hK12 => ?_
   refine pa 5 (.int .i64 0) ?_
   refine en hK12 ?_
   refine aw_block ?_
   refine aw_nilOwn 4 5 1 W_ D_ D_ ?_
   refine aw_loop' (fun m s => ∃ (v3_s_1 : List UInt8), ∃ (v4_s_1 : List UInt8), ∃ (v5_1 : Int), loopN (fun (s : List UInt8 × List UInt8 × Int) => gleaningref15_BlockBytes_l1 a0 s.1 s.2.1 s.2.2) m (v3_s_1, v4_s_1, v5_1) = some q10 ∧ s = lit [(1, .ptr 1 0 0), (3, .own 20 0), (4, .own 4 0), (5, .int .i64 v5_1)] [((1, 0), .box [.int .i64 a0.Number, .int .i64 a0.Born, .int .i64 a0.Tier, .sl 6 (List.map enc46 a0.Episodes)]), ((20, 0), .arr 5 1 false (List.map enc5 v3_s_1)), ((4, 0), .arr 5 1 false (List.map enc5 v4_s_1))] [(1, 1), (4, 1), (20, 1)] X) Fu
    ⟨_, reb_lit [(1, .ptr 1 0 0), (3, .own 20 0), (4, .own 4 0), (5, .int .i64 (0))] [(1, 0), (20, 0), (4, 0)] [((1, 0), .box [.int .i64 a0.Number, .int .i64 a0.Born, .int .i64 a0.Tier, .sl 6 (List.map enc46 a0.Episodes)]), ((20, 0), .arr 5 1 false (List.map enc5 x8)), ((4, 0), .arr 5 1 false (List.map enc5 []))] [(1, 1), (4, 1), (20, 1)] (ec (ec (ec (ec envOk_nil)))) (objOk_cons W_ W_ R_ (by simp) (objOk_cons W_ W_ R_ (by simp) (objOk_cons W_ W_ R_ (by simp) objOk_nil))) (nodup_b rfl) (nodup_b rfl) rfl rfl, x8, [], 0, h, rfl⟩ ?_
   rintro m s ⟨v3_s_1, v4_s_1, v5_1, h, rfl⟩
   obtain ⟨m1, q13, rfl, h, hq14⟩ := loop_some h
   replace h : gleaningref15_BlockBytes_l1 a0 v3_s_1 v4_s_1 v5_1 = some q13 := h
   unfold gleaningref15_BlockBytes_l1 at h
   refine aw_seq_k (fun K15 hK15 => ?_)
   refine sr fun K16 hK16 => ?_
   refine pm 21 (.int .i64 v5_1) ?_
   refine pf 22 (.ptr 1 0 3) ty31 ty29 ?_
   refine pl 23 (.sl 6 (List.map enc46 a0.Episodes)) ty29 ?_
   refine pP 24 ((does_len_sl W_ ty29).castp (v' := .int .i64 (List.length a0.Episodes : Int)) (by exact len_map _)) ?_
   refine pb 25 (.bool (decide (v5_1 < (List.length a0.Episodes : Int)))) ?_
   refine en hK16 ?_
   refine aw_bool (b := (decide (v5_1 < (List.length a0.Episodes : Int)))) 25 rfl (fun c17 => ?_) (fun c17 => ?_)
   ·have h := ifT c17 h
    refine aw_cond_t D_ rfl ?_
    refine aw_skip ?_
    refine hK15 _ ?_
    refine aw_seq_k (fun K18 hK18 => ?_)
    refine aw_block ?_
    refine sr fun K19 hK19 => ?_
    refine pf 28 (.ptr 1 0 3) ty31 ty29 ?_
    refine pl 29 (.sl 6 (List.map enc46 a0.Episodes)) ty29 ?_
    refine pm 30 (.int .i64 v5_1) ?_
    obtain ⟨g20, h⟩ := gd_some h
    obtain ⟨x21, hx21, h⟩ := bnd_some h
    refine pP 31 (does_indexAddr_sl (el := .agg [.int .u64 x21.Trace.Hi, .int .u64 x21.Trace.Lo, .int .i64 x21.First, .int .i64 x21.Last, .bool x21.Sure, .sl 10 (List.map enc58 x21.Spans)]) W_ W_ ty29 ty47 g20 (by exact map_get hx21)) ?_
    refine pl 32 (.agg [.int .u64 x21.Trace.Hi, .int .u64 x21.Trace.Lo, .int .i64 x21.First, .int .i64 x21.Last, .bool x21.Sure, .sl 10 (List.map enc58 x21.Spans)]) ty47 ?_
    obtain ⟨x22, hx22, h⟩ := bnd_some h
    refine pD 33 (do_call0 33 false ((gleaningref15_body_ok [] x21 hx22).nilRow0) rfl ent26 rfl rfl) ?_
    refine pa 6 (.own 33 0) ?_
    refine en hK19 ?_
    refine sr fun K23 hK23 => ?_
    refine pm 34 (.own 20 0) ?_
    refine pf 35 (.ptr 1 0 3) ty31 ty29 ?_
    refine pl 36 (.sl 6 (List.map enc46 a0.Episodes)) ty29 ?_
    refine pm 37 (.int .i64 v5_1) ?_
    obtain ⟨g24, h⟩ := gd_some h
    obtain ⟨x25, hx25, h⟩ := bnd_some h
    refine pP 38 (does_indexAddr_sl (el := .agg [.int .u64 x25.Trace.Hi, .int .u64 x25.Trace.Lo, .int .i64 x25.First, .int .i64 x25.Last, .bool x25.Sure, .sl 10 (List.map enc58 x25.Spans)]) W_ W_ ty29 ty47 g24 (by exact map_get hx25)) ?_
    refine pf 39 (.rptr [.int .u64 x25.Trace.Hi, .int .u64 x25.Trace.Lo, .int .i64 x25.First, .int .i64 x25.Last, .bool x25.Sure, .sl 10 (List.map enc58 x25.Spans)]) ty47 ty44 ?_
    refine pl 40 (.agg [.int .u64 x25.Trace.Hi, .int .u64 x25.Trace.Lo]) ty44 ?_
    obtain ⟨x26, hx26, h⟩ := bnd_some h
    refine pD 41 (do_callG (bcs := []) [] [(20, 0)] [] 41 false (gleaningref15_trace_ok v3_s_1 x25.Trace hx26) rfl ent28 trivial (rowsOk_cons W_ R_ trivial) rfl rfl rfl rfl rfl rfl rfl rfl (.inr ⟨rfl, rfl, ⟨plain_map (fun _ => rfl), trivial⟩⟩)) ?_
    refine pm 42 (.own 33 0) ?_
    refine pX 43 ((does_len_own W_ W_ ty39).cast (v' := .int .i64 (List.length x22 : Int)) (by exact len_map _)) ?_
    refine pP 44 (does_conv_int (v := .int .u64 (IntKind.u64.wrap (List.length x22 : Int))) W_ (ty_some ty3) (ty_int ty42) rfl) ?_
    obtain ⟨x27, hx27, h⟩ := bnd_some h
    refine pD 45 (do_callG (bcs := []) [] [(41, 0)] [] 45 false (gleaningref1_Put_ok x26 (IntKind.u64.wrap (List.length x22 : Int)) hx27) rfl ent27 trivial (rowsOk_cons W_ R_ trivial) rfl rfl rfl rfl rfl rfl rfl rfl (.inr ⟨rfl, rfl, ⟨plain_map (fun _ => rfl), trivial⟩⟩)) ?_
    refine pa 3 (.own 45 0) ?_
    refine en hK23 ?_
    refine aw_regL ?_
    refine pm 46 (.own 4 0) ?_
    refine pm 47 (.own 33 0) ?_
    obtain ⟨g28, h⟩ := gd_some h
    refine pD 48 (do_append (v := List.map enc5 (v4_s_1 ++ x22)) W_ W_ ty39 ty5 rfl rfl W_ (by first | exact .inl rfl | exact .inr ⟨rfl, rfl⟩) W_ (by first | exact .inr rfl | exact .inl rfl) (map_app _ _) (fit_map g28)) ?_
    refine pa 4 (.own 48 0) ?_
    refine en hK18 ?_
    refine aw_regL ?_
    refine pm 26 (.int .i64 v5_1) ?_
    refine pb 27 (.int .i64 (IntKind.i64.wrap (v5_1 + 1))) ?_
    refine pa 5 (.int .i64 (IntKind.i64.wrap (v5_1 + 1))) ?_
    refine al_nil ?_
    have h := leafL h hq14
    exact ⟨m1, Nat.lt_succ_self _, _, reb_lit [(1, .ptr 1 0 0), (3, .own 20 0), (4, .own 4 0), (5, .int .i64 (IntKind.i64.wrap (v5_1 + 1)))] [(1, 0), (45, 0), (48, 0)] [((1, 0), .box [.int .i64 a0.Number, .int .i64 a0.Born, .int .i64 a0.Tier, .sl 6 (List.map enc46 a0.Episodes)]), ((20, 0), .arr 5 1 false (List.map enc5 x27)), ((4, 0), .arr 5 1 false (List.map enc5 (v4_s_1 ++ x22)))] [(1, 1), (4, 1), (20, 1)] (ec (ec (ec (ec envOk_nil)))) (objOk_cons W_ W_ R_ (by simp) (objOk_cons W_ W_ R_ (by simp) (objOk_cons W_ W_ R_ (by simp) objOk_nil))) (nodup_b rfl) (nodup_b rfl) rfl rfl, x27, (v4_s_1 ++ x22), (IntKind.i64.wrap (v5_1 + 1)), h, rfl⟩
   ·have h := ifF c17 h
    refine aw_cond_f D_ rfl ?_
    refine aw_exit ?_
    have h := leafR h hq14
    obtain rfl := Option.some.inj h
    have h := hk11
    exact ⟨_, reb_lit [(3, .own 20 0), (4, .own 4 0)] [(20, 0), (4, 0)] [((20, 0), .arr 5 1 false (List.map enc5 v3_s_1)), ((4, 0), .arr 5 1 false (List.map enc5 v4_s_1))] [(4, 1), (20, 1)] (ec (ec envOk_nil)) (objOk_cons W_ W_ R_ (by simp) (objOk_cons W_ W_ R_ (by simp) objOk_nil)) (nodup_b rfl) (nodup_b rfl) rfl rfl, v3_s_1, v4_s_1, h, rfl⟩
  ·rintro s ⟨v3_s_0, v4_s_0, h, rfl⟩
   unfold gleaningref15_BlockBytes_k0 at h
   refine sr fun K29 hK29 => ?_
   refine pm 49 (.own 20 0) ?_
   refine pm 50 (.own 4 0) ?_
   obtain ⟨g30, h⟩ := gd_some h
   refine pD 51 (do_append (v := List.map enc5 (v3_s_0 ++ v4_s_0)) W_ W_ ty39 ty5 rfl rfl W_ (by first | exact .inl rfl | exact .inr ⟨rfl, rfl⟩) W_ (by first | exact .inr rfl | exact .inl rfl) (map_app _ _) (fit_map g30)) ?_
   obtain ⟨x31, hx31, h⟩ := bnd_some h
   refine pD 52 (do_callG (bcs := []) [] [] [(51, 0)] 52 false (gleaningref1_Sealed_ok (v3_s_0 ++ v4_s_0) hx31) rfl ent29 trivial trivial rfl rfl rfl rfl rfl rfl rfl rfl (.inr ⟨rfl, rfl, ⟨plain_map (fun _ => rfl), trivial⟩⟩)) ?_
   refine pa 2 (.own 52 0) ?_
   refine en hK29 ?_
   refine aw_ret ?_
   obtain rfl := Option.some.inj h
   exact ret_okR [(52, 0)] W_ W_ R_ (rowsOk_cons W_ R_ trivial) (nodup_b rfl) (.inr rfl) rfl
end Go.Proofs.Ytejimiedoibkcaa.Ab
