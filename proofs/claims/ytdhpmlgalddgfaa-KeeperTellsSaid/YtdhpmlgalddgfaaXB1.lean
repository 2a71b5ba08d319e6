/- Batches as bytes, the program and the document. -/
import Derived.Test.YtdhpmlgalddgfaaXBSum
import Derived.Test.YtdhpmlgalddgfaaProg
namespace Go.Proofs.Ytdhpmlgalddgfaa.Ab
open Go Go.RowKit
set_option linter.unusedVariables false
set_option linter.unusedSimpArgs false
set_option maxRecDepth 100000
set_option maxHeartbeats 8000000
theorem ent31 : Ent Try.prog 31 := ⟨_, Try.func31, by kernel_rfl, rfl⟩
theorem ent35 : Ent Try.prog 35 := ⟨_, Try.func35, by kernel_rfl, rfl⟩
theorem ent36 : Ent Try.prog 36 := ⟨_, Try.func36, by kernel_rfl, rfl⟩
theorem ent38 : Ent Try.prog 38 := ⟨_, Try.func38, by kernel_rfl, rfl⟩
theorem ent39 : Ent Try.prog 39 := ⟨_, Try.func39, by kernel_rfl, rfl⟩
theorem ent42 : Ent Try.prog 42 := ⟨_, Try.func42, by kernel_rfl, rfl⟩
theorem ent43 : Ent Try.prog 43 := ⟨_, Try.func43, by kernel_rfl, rfl⟩
theorem ent47 : Ent Try.prog 47 := ⟨_, Try.func47, by kernel_rfl, rfl⟩
theorem ent48 : Ent Try.prog 48 := ⟨_, Try.func48, by kernel_rfl, rfl⟩
theorem ent49 : Ent Try.prog 49 := ⟨_, Try.func49, by kernel_rfl, rfl⟩
theorem ent52 : Ent Try.prog 52 := ⟨_, Try.func52, by kernel_rfl, rfl⟩
theorem ent78 : Ent Try.prog 78 := ⟨_, Try.func78, by kernel_rfl, rfl⟩
theorem ent79 : Ent Try.prog 79 := ⟨_, Try.func79, by kernel_rfl, rfl⟩
theorem ent90 : Ent Try.prog 90 := ⟨_, Try.func90, by kernel_rfl, rfl⟩
def span_All_c1 (a0 : Span) : Option Bool :=
 Option.bind (span_Right a0) (fun (x3 : Bool) => some (!x3))
theorem span_All_c1_ok (a0 : Span) {r : Bool} (h : span_All_c1 a0 = some r) : Ok Try.prog 79 [.agg [.int .u64 a0.Trace.Hi, .int .u64 a0.Trace.Lo, .int .u64 a0.Id, .int .u64 a0.Parent, .str a0.Service, .str a0.Op, .int .i64 a0.Start, .int .i64 a0.Dur, .bool a0.Err, .sl 2 (List.map enc90 a0.Attrs)]] [] [] (.bool r) [] [] := by
 unfold span_All_c1 at h
 refine ok_of_code Try.func79 rfl (by show (1 : Nat) ≤ _; decide) (Nat.le_refl _) fun X => ?_
 refine sr fun K1 hK1 => ?_
 refine pD 1 (do_box W_ rfl rfl) ?_
 refine pa 2 (.bool false) ?_
 refine en hK1 ?_
 refine sr fun K2 hK2 => ?_
 refine pl 3 (.agg [.int .u64 a0.Trace.Hi, .int .u64 a0.Trace.Lo, .int .u64 a0.Id, .int .u64 a0.Parent, .str a0.Service, .str a0.Op, .int .i64 a0.Start, .int .i64 a0.Dur, .bool a0.Err, .sl 2 (List.map enc90 a0.Attrs)]) ty69 ?_
 obtain ⟨x3, hx3, h⟩ := bnd_some h
 refine pD 4 (do_call0 4 false (span_Right_ok a0 hx3) rfl ent64 rfl rfl) ?_
 refine pP 5 (does_un (v := .bool (!x3)) W_ rfl) ?_
 refine pa 2 (.bool (!x3)) ?_
 refine en hK2 ?_
 refine aw_ret ?_
 obtain rfl := Option.some.inj h
 exact ret_ok1 W_ W_ R_ (.inr rfl) rfl
def slices_IndexFunc_Span_span_All_c1_l0 (a0 : List Span) (v8_0 : Int) : Option (Int ⊕ Int) :=
 if (decide (v8_0 < (List.length a0 : Int))) = true then (gd (0 ≤ v8_0) (Option.bind (a0[(Int.toNat v8_0)]?) (fun (x13 : Span) => Option.bind (span_All_c1 x13) (fun (x14 : Bool) => if x14 = true then (some (Sum.inr v8_0)) else (some (Sum.inl (IntKind.i64.wrap (v8_0 + 1)))))))) else (some (Sum.inr (-1)))
def slices_IndexFunc_Span_span_All_c1 (a0 : List Span) : Option Int :=
 loopN (fun (s : Int) => slices_IndexFunc_Span_span_All_c1_l0 a0 s) Fu 0
theorem slices_IndexFunc_Span_span_All_c1_ok (a0 : List Span) {r : Int} (h : slices_IndexFunc_Span_span_All_c1 a0 = some r) : Ok Try.prog 90 [.sl 10 (List.map enc68 a0), .fn 79 []] [] [] (.int .i64 r) [] [] := by
 unfold slices_IndexFunc_Span_span_All_c1 at h
 refine ok_of_code Try.func90 rfl (by show (2 : Nat) ≤ _; decide) (Nat.le_refl _) fun X => ?_
 refine sr fun K1 hK1 => ?_
 refine pa 4 (.int .i64 0) ?_
 refine en hK1 ?_
 refine aw_seq_k (fun K2 hK2 => ?_)
 refine sr fun K3 hK3 => ?_
 refine pm 6 (.sl 10 (List.map enc68 a0)) ?_
 refine pP 7 ((does_len_sl W_ ty22).castp (v' := .int .i64 (List.length a0 : Int)) (by exact len_map _)) ?_
 refine pm 8 (.int .i64 0) ?_
 refine en hK3 ?_
 refine aw_block ?_
 refine aw_loop' (fun m s => ∃ (v8_0 : Int), loopN (fun (s : Int) => slices_IndexFunc_Span_span_All_c1_l0 a0 s) m v8_0 = some r ∧ s = lit [(0, .sl 10 (List.map enc68 a0)), (1, .fn 79 []), (7, .int .i64 (List.length a0 : Int)), (8, .int .i64 v8_0)] [] [] X) Fu
  ⟨_, reb_lit [(0, .sl 10 (List.map enc68 a0)), (1, .fn 79 []), (7, .int .i64 (List.length a0 : Int)), (8, .int .i64 (0))] [] [] [] (ec (ec (ec (ec envOk_nil)))) objOk_nil (nodup_b rfl) (nodup_b rfl) rfl rfl, 0, h, rfl⟩ ?_
 rintro m s ⟨v8_0, h, rfl⟩
 obtain ⟨m0, q4, rfl, h, hq5⟩ := loop_some h
 replace h : slices_IndexFunc_Span_span_All_c1_l0 a0 v8_0 = some q4 := h
 unfold slices_IndexFunc_Span_span_All_c1_l0 at h
 refine sr fun K6 hK6 => ?_
 refine pb 9 (.bool (decide (v8_0 < (List.length a0 : Int)))) ?_
 refine en hK6 ?_
 refine aw_seq_k (fun K7 hK7 => ?_)
 refine aw_bool (b := (decide (v8_0 < (List.length a0 : Int)))) 9 rfl (fun c8 => ?_) (fun c8 => ?_)
 ·have h := ifT c8 h
  refine aw_cond_t D_ rfl ?_
  refine aw_skip ?_
  refine hK7 _ ?_
  refine aw_seq_k (fun K9 hK9 => ?_)
  refine aw_block ?_
  refine sr fun K10 hK10 => ?_
  refine pm 10 (.int .i64 v8_0) ?_
  refine pa 5 (.int .i64 v8_0) ?_
  refine en hK10 ?_
  refine sr fun K11 hK11 => ?_
  refine pm 11 (.fn 79 []) ?_
  refine pm 12 (.sl 10 (List.map enc68 a0)) ?_
  refine pm 13 (.int .i64 v8_0) ?_
  obtain ⟨g12, h⟩ := gd_some h
  obtain ⟨x13, hx13, h⟩ := bnd_some h
  refine pP 14 (does_indexAddr_sl (el := .agg [.int .u64 x13.Trace.Hi, .int .u64 x13.Trace.Lo, .int .u64 x13.Id, .int .u64 x13.Parent, .str x13.Service, .str x13.Op, .int .i64 x13.Start, .int .i64 x13.Dur, .bool x13.Err, .sl 2 (List.map enc90 x13.Attrs)]) W_ W_ ty22 ty69 g12 (by exact map_get hx13)) ?_
  refine pl 15 (.agg [.int .u64 x13.Trace.Hi, .int .u64 x13.Trace.Lo, .int .u64 x13.Id, .int .u64 x13.Parent, .str x13.Service, .str x13.Op, .int .i64 x13.Start, .int .i64 x13.Dur, .bool x13.Err, .sl 2 (List.map enc90 x13.Attrs)]) ty69 ?_
  obtain ⟨x14, hx14, h⟩ := bnd_some h
  refine pD 16 (do_call0 16 false (span_All_c1_ok x13 hx14) rfl ent79 rfl rfl) ?_
  refine en hK11 ?_
  refine aw_bool (b := x14) 16 rfl (fun c15 => ?_) (fun c15 => ?_)
  ·have h := ifT c15 h
   refine aw_cond_t D_ rfl ?_
   refine sr fun K16 hK16 => ?_
   refine pm 17 (.int .i64 v8_0) ?_
   refine pa 4 (.int .i64 v8_0) ?_
   refine en hK16 ?_
   refine aw_ret ?_
   have h := leafR h hq5
   obtain rfl := Option.some.inj h
   exact ret_ok1 W_ W_ R_ (.inr rfl) rfl
  ·have h := ifF c15 h
   refine aw_cond_f D_ rfl ?_
   refine aw_skip ?_
   refine hK9 _ ?_
   refine aw_regL ?_
   refine pb 18 (.int .i64 (IntKind.i64.wrap (v8_0 + 1))) ?_
   refine pm 8 (.int .i64 (IntKind.i64.wrap (v8_0 + 1))) ?_
   refine al_nil ?_
   have h := leafL h hq5
   exact ⟨m0, Nat.lt_succ_self _, _, reb_lit [(0, .sl 10 (List.map enc68 a0)), (1, .fn 79 []), (7, .int .i64 (List.length a0 : Int)), (8, .int .i64 (IntKind.i64.wrap (v8_0 + 1)))] [] [] [] (ec (ec (ec (ec envOk_nil)))) objOk_nil (nodup_b rfl) (nodup_b rfl) rfl rfl, (IntKind.i64.wrap (v8_0 + 1)), h, rfl⟩
 ·have h := ifF c8 h
  refine aw_cond_f D_ rfl ?_
  refine aw_exit ?_
  have h := leafR h hq5
  refine hK2 _ ?_
  refine sr fun K17 hK17 => ?_
  refine pa 4 (.int .i64 (-1)) ?_
  refine en hK17 ?_
  refine aw_ret ?_
  obtain rfl := Option.some.inj h
  exact ret_ok1 W_ W_ R_ (.inr rfl) rfl
def slices_ContainsFunc_Span_span_All_c1 (a0 : List Span) : Option Bool :=
 Option.bind (slices_IndexFunc_Span_span_All_c1 a0) (fun (x3 : Int) => some (decide ((0 : Int) ≤ x3)))
theorem slices_ContainsFunc_Span_span_All_c1_ok (a0 : List Span) {r : Bool} (h : slices_ContainsFunc_Span_span_All_c1 a0 = some r) : Ok Try.prog 78 [.sl 10 (List.map enc68 a0), .fn 79 []] [] [] (.bool r) [] [] := by
 unfold slices_ContainsFunc_Span_span_All_c1 at h
 refine ok_of_code Try.func78 rfl (by show (2 : Nat) ≤ _; decide) (Nat.le_refl _) fun X => ?_
 refine sr fun K1 hK1 => ?_
 refine pa 4 (.bool false) ?_
 refine en hK1 ?_
 refine sr fun K2 hK2 => ?_
 refine pm 5 (.sl 10 (List.map enc68 a0)) ?_
 refine pm 6 (.fn 79 []) ?_
 obtain ⟨x3, hx3, h⟩ := bnd_some h
 refine pD 7 (do_call0 7 false (slices_IndexFunc_Span_span_All_c1_ok a0 hx3) rfl ent90 rfl rfl) ?_
 refine pb 8 (.bool (decide ((0 : Int) ≤ x3))) ?_
 refine pa 4 (.bool (decide ((0 : Int) ≤ x3))) ?_
 refine en hK2 ?_
 refine aw_ret ?_
 obtain rfl := Option.some.inj h
 exact ret_ok1 W_ W_ R_ (.inr rfl) rfl
def span_All (a0 : List Span) : Option Bool :=
 Option.bind (slices_ContainsFunc_Span_span_All_c1 a0) (fun (x3 : Bool) => some (!x3))
theorem span_All_ok (a0 : List Span) {r : Bool} (h : span_All a0 = some r) : Ok Try.prog 52 [.sl 10 (List.map enc68 a0)] [] [] (.bool r) [] [] := by
 unfold span_All at h
 refine ok_of_code Try.func52 rfl (by show (1 : Nat) ≤ _; decide) (Nat.le_refl _) fun X => ?_
 refine sr fun K1 hK1 => ?_
 refine pa 2 (.bool false) ?_
 refine en hK1 ?_
 refine sr fun K2 hK2 => ?_
 refine pm 3 (.sl 10 (List.map enc68 a0)) ?_
 obtain ⟨x3, hx3, h⟩ := bnd_some h
 refine pD 4 (do_call0 4 false (slices_ContainsFunc_Span_span_All_c1_ok a0 hx3) rfl ent78 rfl rfl) ?_
 refine pP 5 (does_un (v := .bool (!x3)) W_ rfl) ?_
 refine pa 2 (.bool (!x3)) ?_
 refine en hK2 ?_
 refine aw_ret ?_
 obtain rfl := Option.some.inj h
 exact ret_ok1 W_ W_ R_ (.inr rfl) rfl
def batch_Right (a0 : List Span) : Option Bool :=
 if (decide ((1 : Int) ≤ (List.length a0 : Int))) = true then (if (decide ((List.length a0 : Int) ≤ 50)) = true then (Option.bind (span_All a0) (fun (x5 : Bool) => some x5)) else (some false)) else (some false)
theorem batch_Right_ok (a0 : List Span) {r : Bool} (h : batch_Right a0 = some r) : Ok Try.prog 31 [.sl 10 (List.map enc68 a0)] [] [] (.bool r) [] [] := by
 unfold batch_Right at h
 refine ok_of_code Try.func31 rfl (by show (1 : Nat) ≤ _; decide) (Nat.le_refl _) fun X => ?_
 refine sr fun K1 hK1 => ?_
 refine pa 2 (.bool false) ?_
 refine en hK1 ?_
 refine sr fun K2 hK2 => ?_
 refine pm 3 (.sl 10 (List.map enc68 a0)) ?_
 refine pP 4 ((does_len_sl W_ ty22).castp (v' := .int .i64 (List.length a0 : Int)) (by exact len_map _)) ?_
 refine pb 5 (.bool (decide ((1 : Int) ≤ (List.length a0 : Int)))) ?_
 refine pm 6 (.bool (decide ((1 : Int) ≤ (List.length a0 : Int)))) ?_
 refine al_bool (c := (decide ((1 : Int) ≤ (List.length a0 : Int)))) 6 rfl (fun c3 => ?_) (fun c3 => ?_)
 ·have h := ifT c3 h
  refine pm 7 (.sl 10 (List.map enc68 a0)) ?_
  refine pP 8 ((does_len_sl W_ ty22).castp (v' := .int .i64 (List.length a0 : Int)) (by exact len_map _)) ?_
  refine pb 9 (.bool (decide ((List.length a0 : Int) ≤ 50))) ?_
  refine pk 10 (.bool (decide ((List.length a0 : Int) ≤ 50))) ?_
  refine pm 11 (.bool (decide ((List.length a0 : Int) ≤ 50))) ?_
  refine al_bool (c := (decide ((List.length a0 : Int) ≤ 50))) 11 rfl (fun c4 => ?_) (fun c4 => ?_)
  ·have h := ifT c4 h
   refine pm 12 (.sl 10 (List.map enc68 a0)) ?_
   obtain ⟨x5, hx5, h⟩ := bnd_some h
   refine pD 13 (do_call0 13 false (span_All_ok a0 hx5) rfl ent52 rfl rfl) ?_
   refine pk 14 (.bool x5) ?_
   refine pa 2 (.bool x5) ?_
   refine en hK2 ?_
   refine aw_ret ?_
   obtain rfl := Option.some.inj h
   exact ret_ok1 W_ W_ R_ (.inr rfl) rfl
  ·have h := ifF c4 h
   refine pS 12 ?_
   refine pS 13 ?_
   refine pk 14 (.bool false) ?_
   refine pa 2 (.bool false) ?_
   refine en hK2 ?_
   refine aw_ret ?_
   obtain rfl := Option.some.inj h
   exact ret_ok1 W_ W_ R_ (.inr rfl) rfl
 ·have h := ifF c3 h
  refine pS 7 ?_
  refine pS 8 ?_
  refine pS 9 ?_
  refine pk 10 (.bool false) ?_
  refine pm 11 (.bool false) ?_
  refine pS 12 ?_
  refine pS 13 ?_
  refine pk 14 (.bool false) ?_
  refine pa 2 (.bool false) ?_
  refine en hK2 ?_
  refine aw_ret ?_
  obtain rfl := Option.some.inj h
  exact ret_ok1 W_ W_ R_ (.inr rfl) rfl
def batch_Bytes_l1 (a0 : List Span) (v3_s_0_s_1 : List UInt8) (v18_1 : Int) : Option ((List UInt8 × Int) ⊕ (List UInt8)) :=
 if (decide (v18_1 < (List.length a0 : Int))) = true then (gd (0 ≤ v18_1) (Option.bind (a0[(Int.toNat v18_1)]?) (fun (x21 : Span) => Option.bind (span_Put (Writer.mk v3_s_0_s_1) x21) (fun (x22 : Writer) => some (Sum.inl (x22.B, (IntKind.i64.wrap (v18_1 + 1)))))))) else (some (Sum.inr v3_s_0_s_1))
def batch_Bytes_k0 (v3_s_0_s_0 : List UInt8) : Option (List UInt8) :=
 Option.bind (check_Seal v3_s_0_s_0) (fun (x24 : List UInt8) => some x24)
def batch_Bytes (a0 : List Span) : Option (List UInt8) :=
 Option.bind (batch_Right a0) (fun (x4 : Bool) => if (!x4) = true then (some []) else (Option.bind (ints_Writer_Num (Writer.mk []) [(List.length a0 : Int)]) (fun (x9 : Writer) => Option.bind (loopN (fun (s : List UInt8 × Int) => batch_Bytes_l1 a0 s.1 s.2) Fu (x9.B, 0)) (fun (s : List UInt8) => batch_Bytes_k0 s))))
theorem batch_Bytes_ok (a0 : List Span) {r : List UInt8} (h : batch_Bytes a0 = some r) : Ok Try.prog 15 [.sl 10 (List.map enc68 a0)] [] [] (.own 2 0) [] [(5, 1, List.map enc5 r)] := by
 unfold batch_Bytes at h
 refine ok_of_code Try.func15 rfl (by show (1 : Nat) ≤ _; decide) (Nat.le_refl _) fun X => ?_
 refine sr fun K1 hK1 => ?_
 refine pa 2 (.nil) ?_
 refine en hK1 ?_
 refine aw_seq_k (fun K2 hK2 => ?_)
 refine sr fun K3 hK3 => ?_
 refine pm 6 (.sl 10 (List.map enc68 a0)) ?_
 obtain ⟨x4, hx4, h⟩ := bnd_some h
 refine pD 7 (do_call0 7 false (batch_Right_ok a0 hx4) rfl ent31 rfl rfl) ?_
 refine pP 8 (does_un (v := .bool (!x4)) W_ rfl) ?_
 refine en hK3 ?_
 refine aw_bool (b := (!x4)) 8 rfl (fun c5 => ?_) (fun c5 => ?_)
 ·have h := ifT c5 h
  refine aw_cond_t D_ rfl ?_
  refine sr fun K6 hK6 => ?_
  refine pa 2 (.nil) ?_
  refine en hK6 ?_
  refine aw_nilOwn 2 5 1 W_ D_ D_ ?_
  refine aw_ret ?_
  obtain rfl := Option.some.inj h
  exact ret_okR [(2, 0)] W_ W_ R_ (rowsOk_cons W_ R_ trivial) (nodup_b rfl) (.inr rfl) rfl
 ·have h := ifF c5 h
  refine aw_cond_f D_ rfl ?_
  refine aw_skip ?_
  refine hK2 _ ?_
  refine sr fun K7 hK7 => ?_
  refine pP 9 (do_build_struct (cs := [.nil]) ty74 rfl [⟨.slice 5, 1, 24, [.nil]⟩] (by simp only [List.map, ty28]) (by rfl) R_) ?_
  refine pD 10 (do_box W_ rfl rfl) ?_
  refine pa 3 (.ptr 10 0 0) ?_
  refine en hK7 ?_
  refine aw_seq_k (fun K8 hK8 => ?_)
  refine aw_nilOwnC 10 0 0 10 5 1 (cs := [.nil]) R_ rfl D_ ?_
  refine aw_regL ?_
  refine pm 11 (.ptr 10 0 0) ?_
  refine pm 12 (.sl 10 (List.map enc68 a0)) ?_
  refine pP 13 ((does_len_sl W_ ty22).castp (v' := .int .i64 (List.length a0 : Int)) (by exact len_map _)) ?_
  refine pD 14 (do_buildSlice (xs := List.map enc2 [(List.length a0 : Int)]) ty92 ty3 rfl rfl rfl rfl rfl rfl rfl rfl) ?_
  obtain ⟨x9, hx9, h⟩ := bnd_some h
  refine pD 15 (does_frz (d := 14) (n := 0) W_ (do_callG (bcs := [[.own 10 1]]) [(10, 0)] [(10, 1)] [(14, 0)] 15 false (ints_Writer_Num_ok (Writer.mk []) [(List.length a0 : Int)] hx9) rfl ent34 ⟨R_, trivial⟩ (rowsOk_cons W_ R_ trivial) rfl rfl rfl rfl rfl rfl rfl rfl (.inl ⟨⟨_, _, _, rfl⟩, trivial⟩))) ?_
  refine en hK8 ?_
  obtain ⟨q10, h, hk11⟩ := bnd_some h
  refine aw_cut (fun s => ∃ (v3_s_0_s_0 : List UInt8), batch_Bytes_k0 v3_s_0_s_0 = some r ∧ s = lit [(3, .ptr 10 0 0)] [((10, 0), .box [.own 15 0]), ((15, 0), .arr 5 1 false (List.map enc5 v3_s_0_s_0))] [(10, 1), (15, 1)] X) ?_ ?_
  ·skip
   refine sr fun K12 hK12 => ?_
   refine pm 16 (.sl 10 (List.map enc68 a0)) ?_
   refine pP 17 ((does_len_sl W_ ty22).castp (v' := .int .i64 (List.length a0 : Int)) (by exact len_map _)) ?_
   refine pm 18 (.int .i64 0) ?_
   refine en hK12 ?_
   refine aw_block ?_
   refine aw_loop' (fun m s => ∃ (v3_s_0_s_1 : List UInt8), ∃ (v18_1 : Int), loopN (fun (s : List UInt8 × Int) => batch_Bytes_l1 a0 s.1 s.2) m (v3_s_0_s_1, v18_1) = some q10 ∧ s = lit [(3, .ptr 10 0 0), (16, .sl 10 (List.map enc68 a0)), (17, .int .i64 (List.length a0 : Int)), (18, .int .i64 v18_1)] [((10, 0), .box [.own 15 0]), ((15, 0), .arr 5 1 false (List.map enc5 v3_s_0_s_1))] [(10, 1), (15, 1)] X) Fu
    ⟨_, reb_lit [(3, .ptr 10 0 0), (16, .sl 10 (List.map enc68 a0)), (17, .int .i64 (List.length a0 : Int)), (18, .int .i64 (0))] [(10, 0), (15, 0)] [((10, 0), .box [.own 15 0]), ((15, 0), .arr 5 1 false (List.map enc5 x9.B))] [(10, 1), (15, 1)] (ec (ec (ec (ec envOk_nil)))) (objOk_cons W_ W_ R_ (by simp) (objOk_cons W_ W_ R_ (by simp) objOk_nil)) (nodup_b rfl) (nodup_b rfl) rfl rfl, x9.B, 0, h, rfl⟩ ?_
   rintro m s ⟨v3_s_0_s_1, v18_1, h, rfl⟩
   obtain ⟨m1, q13, rfl, h, hq14⟩ := loop_some h
   replace h : batch_Bytes_l1 a0 v3_s_0_s_1 v18_1 = some q13 := h
   unfold batch_Bytes_l1 at h
   refine sr fun K15 hK15 => ?_
   refine pb 19 (.bool (decide (v18_1 < (List.length a0 : Int)))) ?_
   refine en hK15 ?_
   refine aw_seq_k (fun K16 hK16 => ?_)
   refine aw_bool (b := (decide (v18_1 < (List.length a0 : Int)))) 19 rfl (fun c17 => ?_) (fun c17 => ?_)
   ·have h := ifT c17 h
    refine aw_cond_t D_ rfl ?_
    refine aw_skip ?_
    refine hK16 _ ?_
    refine aw_seq_k (fun K18 hK18 => ?_)
    refine aw_block ?_
    refine sr fun K19 hK19 => ?_
    obtain ⟨g20, h⟩ := gd_some h
    obtain ⟨x21, hx21, h⟩ := bnd_some h
    refine pP 20 (does_indexAddr_sl (el := .agg [.int .u64 x21.Trace.Hi, .int .u64 x21.Trace.Lo, .int .u64 x21.Id, .int .u64 x21.Parent, .str x21.Service, .str x21.Op, .int .i64 x21.Start, .int .i64 x21.Dur, .bool x21.Err, .sl 2 (List.map enc90 x21.Attrs)]) W_ W_ ty22 ty69 g20 (by exact map_get hx21)) ?_
    refine pl 21 (.agg [.int .u64 x21.Trace.Hi, .int .u64 x21.Trace.Lo, .int .u64 x21.Id, .int .u64 x21.Parent, .str x21.Service, .str x21.Op, .int .i64 x21.Start, .int .i64 x21.Dur, .bool x21.Err, .sl 2 (List.map enc90 x21.Attrs)]) ty69 ?_
    refine pD 5 (do_new ty69 rfl rfl) ?_
    refine alD none rfl rfl (do_store (cs' := [.int .u64 x21.Trace.Hi, .int .u64 x21.Trace.Lo, .int .u64 x21.Id, .int .u64 x21.Parent, .str x21.Service, .str x21.Op, .int .i64 x21.Start, .int .i64 x21.Dur, .bool x21.Err, .sl 2 (List.map enc90 x21.Attrs)]) W_ W_ W_ ty69 rfl rfl rfl R_) D_ ?_
    refine en hK19 ?_
    refine aw_regL ?_
    refine pm 22 (.ptr 10 0 0) ?_
    refine pl 23 (.agg [.int .u64 x21.Trace.Hi, .int .u64 x21.Trace.Lo, .int .u64 x21.Id, .int .u64 x21.Parent, .str x21.Service, .str x21.Op, .int .i64 x21.Start, .int .i64 x21.Dur, .bool x21.Err, .sl 2 (List.map enc90 x21.Attrs)]) ty69 ?_
    obtain ⟨x22, hx22, h⟩ := bnd_some h
    refine pD 24 (do_callG (bcs := [[.own 15 0]]) [(10, 0)] [(15, 0)] [] 24 false (span_Put_ok (Writer.mk v3_s_0_s_1) x21 hx22) rfl ent35 ⟨R_, trivial⟩ (rowsOk_cons W_ R_ trivial) rfl rfl rfl rfl rfl rfl rfl rfl (.inl trivial)) ?_
    refine en hK18 ?_
    refine aw_regL ?_
    refine pb 25 (.int .i64 (IntKind.i64.wrap (v18_1 + 1))) ?_
    refine pm 18 (.int .i64 (IntKind.i64.wrap (v18_1 + 1))) ?_
    refine al_nil ?_
    have h := leafL h hq14
    exact ⟨m1, Nat.lt_succ_self _, _, reb_lit [(3, .ptr 10 0 0), (16, .sl 10 (List.map enc68 a0)), (17, .int .i64 (List.length a0 : Int)), (18, .int .i64 (IntKind.i64.wrap (v18_1 + 1)))] [(10, 0), (24, 0)] [((10, 0), .box [.own 15 0]), ((15, 0), .arr 5 1 false (List.map enc5 x22.B))] [(10, 1), (15, 1)] (ec (ec (ec (ec envOk_nil)))) (objOk_cons W_ W_ R_ (by simp) (objOk_cons W_ W_ R_ (by simp) objOk_nil)) (nodup_b rfl) (nodup_b rfl) rfl rfl, x22.B, (IntKind.i64.wrap (v18_1 + 1)), h, rfl⟩
   ·have h := ifF c17 h
    refine aw_cond_f D_ rfl ?_
    refine aw_exit ?_
    have h := leafR h hq14
    obtain rfl := Option.some.inj h
    have h := hk11
    exact ⟨_, reb_lit [(3, .ptr 10 0 0)] [(10, 0), (15, 0)] [((10, 0), .box [.own 15 0]), ((15, 0), .arr 5 1 false (List.map enc5 v3_s_0_s_1))] [(10, 1), (15, 1)] (ec envOk_nil) (objOk_cons W_ W_ R_ (by simp) (objOk_cons W_ W_ R_ (by simp) objOk_nil)) (nodup_b rfl) (nodup_b rfl) rfl rfl, v3_s_0_s_1, h, rfl⟩
  ·rintro s ⟨v3_s_0_s_0, h, rfl⟩
   unfold batch_Bytes_k0 at h
   refine sr fun K23 hK23 => ?_
   refine pm 26 (.ptr 10 0 0) ?_
   refine pP 27 (does_nilCheck (p := .ptr 10 0 0) W_ rfl) ?_
   refine pf 28 (.ptr 10 0 0) ty74 ty28 ?_
   refine pl 29 (.own 15 0) ty28 ?_
   obtain ⟨x24, hx24, h⟩ := bnd_some h
   refine pD 30 (do_callG (bcs := []) [] [] [(15, 0)] 30 false (check_Seal_ok v3_s_0_s_0 hx24) rfl ent36 trivial trivial rfl rfl rfl rfl rfl rfl rfl rfl (.inr ⟨rfl, rfl, ⟨plain_map (fun _ => rfl), trivial⟩⟩)) ?_
   refine pa 2 (.own 30 0) ?_
   refine en hK23 ?_
   refine aw_ret ?_
   obtain rfl := Option.some.inj h
   exact ret_okR [(30, 0)] W_ W_ R_ (rowsOk_cons W_ R_ trivial) (nodup_b rfl) (.inr rfl) rfl
def batch_Read_l1 (x13 : Int × Reader) (v5_s_0_1 : List UInt8) (v5_s_1_1 : Bool) (v6_s_1 : List Span) (v19_1 : Int) : Option ((List UInt8 × Bool × List Span × Int) ⊕ (List UInt8 × Bool × List Span)) :=
 if (decide (v19_1 < x13.1)) = true then (Option.bind (span_Get (Reader.mk v5_s_0_1 v5_s_1_1)) (fun (x20 : Span × Reader) => gd ((List.length (v6_s_1 ++ [x20.1])) * 112 ≤ 140737488355328 ∧ (List.length (v6_s_1 ++ [x20.1])) ≤ 140737488355328) (some (Sum.inl (x20.2.B, x20.2.Bad, (v6_s_1 ++ [x20.1]), (IntKind.i64.wrap (v19_1 + 1))))))) else (some (Sum.inr (v5_s_0_1, v5_s_1_1, v6_s_1)))
def batch_Read_k0 (v5_s_0_0 : List UInt8) (v5_s_1_0 : Bool) (v6_s_0 : List Span) : Option (List Span × Int) :=
 if v5_s_1_0 = true then (some ([], 2)) else (if (decide ((0 : Int) < (List.length v5_s_0_0 : Int))) = true then (some ([], 2)) else (if ((List.length v6_s_0 : Int) == 0) = true then (some ([], 2)) else (some (v6_s_0, 0))))
def batch_Read (a0 : List UInt8) : Option (List Span × Int) :=
 Option.bind (check_Open a0) (fun (x3 : List UInt8 × Bool) => if (!x3.2) = true then (some ([], 2)) else (Option.bind (Option.bind (ints_Reader_Num (Reader.mk x3.1 false) 50) (fun (x13 : Int × Reader) => loopN (fun (s : List UInt8 × Bool × List Span × Int) => batch_Read_l1 x13 s.1 s.2.1 s.2.2.1 s.2.2.2) Fu (x13.2.B, x13.2.Bad, [], 0))) (fun (s : List UInt8 × Bool × List Span) => batch_Read_k0 s.1 s.2.1 s.2.2)))
theorem batch_Read_ok (a0 : List UInt8) {r : List Span × Int} (h : batch_Read a0 = some r) : Ok Try.prog 18 [.sl 1 (List.map enc5 a0)] [] [] (.tup [.own 2 0, .int .i64 r.2]) [] [(69, 10, List.map enc68 r.1)] := by
 unfold batch_Read at h
 refine ok_of_code Try.func18 rfl (by show (1 : Nat) ≤ _; decide) (Nat.le_refl _) fun X => ?_
 refine sr fun K1 hK1 => ?_
 refine pa 2 (.nil) ?_
 refine pa 3 (.int .i64 0) ?_
 refine en hK1 ?_
 refine sr fun K2 hK2 => ?_
 refine pm 8 (.sl 1 (List.map enc5 a0)) ?_
 obtain ⟨x3, hx3, h⟩ := bnd_some h
 refine pD 9 (do_call0 9 false (check_Open_ok a0 hx3) rfl ent38 rfl rfl) ?_
 refine pm 7 (.tup [.sl 1 (List.map enc5 x3.1), .bool x3.2]) ?_
 refine pP 10 (does_extract (v := .sl 1 (List.map enc5 x3.1)) W_ R_) ?_
 refine pP 11 (does_extract (v := .bool x3.2) W_ R_) ?_
 refine pa 0 (.sl 1 (List.map enc5 x3.1)) ?_
 refine pa 4 (.bool x3.2) ?_
 refine en hK2 ?_
 refine aw_seq_k (fun K4 hK4 => ?_)
 refine sr fun K5 hK5 => ?_
 refine pm 12 (.bool x3.2) ?_
 refine pP 13 (does_un (v := .bool (!x3.2)) W_ rfl) ?_
 refine en hK5 ?_
 refine aw_bool (b := (!x3.2)) 13 rfl (fun c6 => ?_) (fun c6 => ?_)
 ·have h := ifT c6 h
  refine aw_cond_t D_ rfl ?_
  refine sr fun K7 hK7 => ?_
  refine pa 2 (.nil) ?_
  refine pa 3 (.int .i64 2) ?_
  refine en hK7 ?_
  refine aw_nilOwn 2 69 10 W_ D_ D_ ?_
  refine aw_ret ?_
  obtain rfl := Option.some.inj h
  exact ret_okR [(2, 0)] W_ W_ R_ (rowsOk_cons W_ R_ trivial) (nodup_b rfl) (.inr rfl) rfl
 ·have h := ifF c6 h
  refine aw_cond_f D_ rfl ?_
  refine aw_skip ?_
  refine hK4 _ ?_
  refine sr fun K8 hK8 => ?_
  refine pm 14 (.sl 1 (List.map enc5 x3.1)) ?_
  refine pP 15 (do_build_struct (cs := [.sl 1 (List.map enc5 x3.1), .bool false]) ty54 rfl [⟨.slice 5, 1, 24, [.nil]⟩, ⟨.bool, 1, 1, [.bool false]⟩] (by simp only [List.map, ty28, ty4]) (by rfl) R_) ?_
  refine pD 16 (do_box W_ rfl rfl) ?_
  refine pa 5 (.ptr 16 0 0) ?_
  refine en hK8 ?_
  refine sr fun K9 hK9 => ?_
  refine pa 6 (.nil) ?_
  refine en hK9 ?_
  obtain ⟨q10, h, hk11⟩ := bnd_some h
  refine aw_cut (fun s => ∃ (v5_s_0_0 : List UInt8), ∃ (v5_s_1_0 : Bool), ∃ (v6_s_0 : List Span), batch_Read_k0 v5_s_0_0 v5_s_1_0 v6_s_0 = some r ∧ s = lit [(5, .ptr 16 0 0), (6, .own 6 0)] [((16, 0), .box [.sl 1 (List.map enc5 v5_s_0_0), .bool v5_s_1_0]), ((6, 0), .arr 69 10 false (List.map enc68 v6_s_0))] [(6, 1), (16, 1)] X) ?_ ?_
  ·skip
   refine sr fun K12 hK12 => ?_
   refine pm 17 (.ptr 16 0 0) ?_
   obtain ⟨x13, hx13, h⟩ := bnd_some h
   refine pD 18 (do_callG (bcs := [[.sl 1 (List.map enc5 x3.1), .bool false]]) [(16, 0)] [] [] 18 false (ints_Reader_Num_ok (Reader.mk x3.1 false) 50 hx13) rfl ent20 ⟨R_, trivial⟩ trivial rfl rfl rfl rfl rfl rfl rfl rfl (.inl trivial)) ?_
   refine pm 19 (.int .i64 0) ?_
   refine en hK12 ?_
   refine aw_block ?_
   refine aw_nilOwn 6 69 10 W_ D_ D_ ?_
   refine aw_loop' (fun m s => ∃ (v5_s_0_1 : List UInt8), ∃ (v5_s_1_1 : Bool), ∃ (v6_s_1 : List Span), ∃ (v19_1 : Int), loopN (fun (s : List UInt8 × Bool × List Span × Int) => batch_Read_l1 x13 s.1 s.2.1 s.2.2.1 s.2.2.2) m (v5_s_0_1, v5_s_1_1, v6_s_1, v19_1) = some q10 ∧ s = lit [(5, .ptr 16 0 0), (6, .own 6 0), (18, .int .i64 x13.1), (19, .int .i64 v19_1)] [((16, 0), .box [.sl 1 (List.map enc5 v5_s_0_1), .bool v5_s_1_1]), ((6, 0), .arr 69 10 false (List.map enc68 v6_s_1))] [(6, 1), (16, 1)] X) Fu
    ⟨_, reb_lit [(5, .ptr 16 0 0), (6, .own 6 0), (18, .int .i64 x13.1), (19, .int .i64 (0))] [(16, 0), (6, 0)] [((16, 0), .box [.sl 1 (List.map enc5 x13.2.B), .bool x13.2.Bad]), ((6, 0), .arr 69 10 false (List.map enc68 []))] [(6, 1), (16, 1)] (ec (ec (ec (ec envOk_nil)))) (objOk_cons W_ W_ R_ (by simp) (objOk_cons W_ W_ R_ (by simp) objOk_nil)) (nodup_b rfl) (nodup_b rfl) rfl rfl, x13.2.B, x13.2.Bad, [], 0, h, rfl⟩ ?_
   rintro m s ⟨v5_s_0_1, v5_s_1_1, v6_s_1, v19_1, h, rfl⟩
   obtain ⟨m1, q14, rfl, h, hq15⟩ := loop_some h
   replace h : batch_Read_l1 x13 v5_s_0_1 v5_s_1_1 v6_s_1 v19_1 = some q14 := h
   unfold batch_Read_l1 at h
   refine sr fun K16 hK16 => ?_
   refine pb 20 (.bool (decide (v19_1 < x13.1))) ?_
   refine en hK16 ?_
   refine aw_seq_k (fun K17 hK17 => ?_)
   refine aw_bool (b := (decide (v19_1 < x13.1))) 20 rfl (fun c18 => ?_) (fun c18 => ?_)
   ·have h := ifT c18 h
    refine aw_cond_t D_ rfl ?_
    refine aw_skip ?_
    refine hK17 _ ?_
    refine aw_seq_k (fun K19 hK19 => ?_)
    refine aw_block ?_
    refine aw_regL ?_
    refine pm 21 (.own 6 0) ?_
    refine pm 22 (.ptr 16 0 0) ?_
    obtain ⟨x20, hx20, h⟩ := bnd_some h
    refine pD 23 (do_callG (bcs := [[.sl 1 (List.map enc5 v5_s_0_1), .bool v5_s_1_1]]) [(16, 0)] [] [] 23 false (span_Get_ok (Reader.mk v5_s_0_1 v5_s_1_1) hx20) rfl ent39 ⟨R_, trivial⟩ trivial rfl rfl rfl rfl rfl rfl rfl rfl (.inl trivial)) ?_
    refine pD 24 (does_frz (d := 23) (n := 0) W_ (do_buildSlice (xs := List.map enc68 [x20.1]) ty22 ty69 rfl rfl rfl rfl rfl rfl rfl rfl)) ?_
    obtain ⟨g21, h⟩ := gd_some h
    refine pD 25 (do_append (v := List.map enc68 (v6_s_1 ++ [x20.1])) W_ W_ ty22 ty69 rfl rfl W_ (by first | exact .inl rfl | exact .inr ⟨rfl, rfl⟩) W_ (by first | exact .inr rfl | exact .inl rfl) (map_app _ _) (fit_map g21)) ?_
    refine pa 6 (.own 25 0) ?_
    refine en hK19 ?_
    refine aw_regL ?_
    refine pb 26 (.int .i64 (IntKind.i64.wrap (v19_1 + 1))) ?_
    refine pm 19 (.int .i64 (IntKind.i64.wrap (v19_1 + 1))) ?_
    refine al_nil ?_
    have h := leafL h hq15
    exact ⟨m1, Nat.lt_succ_self _, _, reb_lit [(5, .ptr 16 0 0), (6, .own 6 0), (18, .int .i64 x13.1), (19, .int .i64 (IntKind.i64.wrap (v19_1 + 1)))] [(16, 0), (25, 0)] [((16, 0), .box [.sl 1 (List.map enc5 x20.2.B), .bool x20.2.Bad]), ((6, 0), .arr 69 10 false (List.map enc68 (v6_s_1 ++ [x20.1])))] [(6, 1), (16, 1)] (ec (ec (ec (ec envOk_nil)))) (objOk_cons W_ W_ R_ (by simp) (objOk_cons W_ W_ R_ (by simp) objOk_nil)) (nodup_b rfl) (nodup_b rfl) rfl rfl, x20.2.B, x20.2.Bad, (v6_s_1 ++ [x20.1]), (IntKind.i64.wrap (v19_1 + 1)), h, rfl⟩
   ·have h := ifF c18 h
    refine aw_cond_f D_ rfl ?_
    refine aw_exit ?_
    have h := leafR h hq15
    obtain rfl := Option.some.inj h
    have h := hk11
    exact ⟨_, reb_lit [(5, .ptr 16 0 0), (6, .own 6 0)] [(16, 0), (6, 0)] [((16, 0), .box [.sl 1 (List.map enc5 v5_s_0_1), .bool v5_s_1_1]), ((6, 0), .arr 69 10 false (List.map enc68 v6_s_1))] [(6, 1), (16, 1)] (ec (ec envOk_nil)) (objOk_cons W_ W_ R_ (by simp) (objOk_cons W_ W_ R_ (by simp) objOk_nil)) (nodup_b rfl) (nodup_b rfl) rfl rfl, v5_s_0_1, v5_s_1_1, v6_s_1, h, rfl⟩
  ·rintro s ⟨v5_s_0_0, v5_s_1_0, v6_s_0, h, rfl⟩
   unfold batch_Read_k0 at h
   refine aw_seq_k (fun K22 hK22 => ?_)
   refine sr fun K23 hK23 => ?_
   refine pm 27 (.ptr 16 0 0) ?_
   refine pP 28 (does_nilCheck (p := .ptr 16 0 0) W_ rfl) ?_
   refine pf 29 (.ptr 16 0 1) ty54 ty4 ?_
   refine pl 30 (.bool v5_s_1_0) ty4 ?_
   refine pm 31 (.bool v5_s_1_0) ?_
   refine al_bool (c := v5_s_1_0) 31 rfl (fun c24 => ?_) (fun c24 => ?_)
   ·have h := ifT c24 h
    refine pS 32 ?_
    refine pS 33 ?_
    refine pS 34 ?_
    refine pS 35 ?_
    refine pS 36 ?_
    refine pS 37 ?_
    refine pk 38 (.bool true) ?_
    refine pm 39 (.bool true) ?_
    refine pS 40 ?_
    refine pS 41 ?_
    refine pS 42 ?_
    refine pk 43 (.bool true) ?_
    refine en hK23 ?_
    refine aw_cond_t D_ rfl ?_
    refine sr fun K25 hK25 => ?_
    refine pa 2 (.nil) ?_
    refine pa 3 (.int .i64 2) ?_
    refine en hK25 ?_
    refine aw_nilOwn 2 69 10 W_ D_ D_ ?_
    refine aw_ret ?_
    obtain rfl := Option.some.inj h
    exact ret_okR [(2, 0)] W_ W_ R_ (rowsOk_cons W_ R_ trivial) (nodup_b rfl) (.inr rfl) rfl
   ·have h := ifF c24 h
    refine pm 32 (.ptr 16 0 0) ?_
    refine pP 33 (does_nilCheck (p := .ptr 16 0 0) W_ rfl) ?_
    refine pf 34 (.ptr 16 0 0) ty54 ty28 ?_
    refine pl 35 (.sl 1 (List.map enc5 v5_s_0_0)) ty28 ?_
    refine pP 36 ((does_len_sl W_ ty28).castp (v' := .int .i64 (List.length v5_s_0_0 : Int)) (by exact len_map _)) ?_
    refine pb 37 (.bool (decide ((0 : Int) < (List.length v5_s_0_0 : Int)))) ?_
    refine pk 38 (.bool (decide ((0 : Int) < (List.length v5_s_0_0 : Int)))) ?_
    refine pm 39 (.bool (decide ((0 : Int) < (List.length v5_s_0_0 : Int)))) ?_
    refine al_bool (c := (decide ((0 : Int) < (List.length v5_s_0_0 : Int)))) 39 rfl (fun c26 => ?_) (fun c26 => ?_)
    ·have h := ifT c26 h
     refine pS 40 ?_
     refine pS 41 ?_
     refine pS 42 ?_
     refine pk 43 (.bool true) ?_
     refine en hK23 ?_
     refine aw_cond_t D_ rfl ?_
     refine sr fun K27 hK27 => ?_
     refine pa 2 (.nil) ?_
     refine pa 3 (.int .i64 2) ?_
     refine en hK27 ?_
     refine aw_nilOwn 2 69 10 W_ D_ D_ ?_
     refine aw_ret ?_
     obtain rfl := Option.some.inj h
     exact ret_okR [(2, 0)] W_ W_ R_ (rowsOk_cons W_ R_ trivial) (nodup_b rfl) (.inr rfl) rfl
    ·have h := ifF c26 h
     refine pm 40 (.own 6 0) ?_
     refine pX 41 ((does_len_own W_ W_ ty22).cast (v' := .int .i64 (List.length v6_s_0 : Int)) (by exact len_map _)) ?_
     refine pb 42 (.bool ((List.length v6_s_0 : Int) == 0)) ?_
     refine pk 43 (.bool ((List.length v6_s_0 : Int) == 0)) ?_
     refine en hK23 ?_
     refine aw_bool (b := ((List.length v6_s_0 : Int) == 0)) 43 rfl (fun c28 => ?_) (fun c28 => ?_)
     ·have h := ifT c28 h
      refine aw_cond_t D_ rfl ?_
      refine sr fun K29 hK29 => ?_
      refine pa 2 (.nil) ?_
      refine pa 3 (.int .i64 2) ?_
      refine en hK29 ?_
      refine aw_nilOwn 2 69 10 W_ D_ D_ ?_
      refine aw_ret ?_
      obtain rfl := Option.some.inj h
      exact ret_okR [(2, 0)] W_ W_ R_ (rowsOk_cons W_ R_ trivial) (nodup_b rfl) (.inr rfl) rfl
     ·have h := ifF c28 h
      refine aw_cond_f D_ rfl ?_
      refine aw_skip ?_
      refine hK22 _ ?_
      refine sr fun K30 hK30 => ?_
      refine pm 44 (.own 6 0) ?_
      refine pa 2 (.own 6 0) ?_
      refine pa 3 (.int .i64 0) ?_
      refine en hK30 ?_
      refine aw_ret ?_
      obtain rfl := Option.some.inj h
      exact ret_okR [(6, 0)] W_ W_ R_ (rowsOk_cons W_ R_ trivial) (nodup_b rfl) (.inr rfl) rfl
def gleaningref1_RightSpans_l0 (a0 : List Span) (v3_0 : Int) : Option (Int ⊕ Bool) :=
 if (decide (v3_0 < (List.length a0 : Int))) = true then (gd (0 ≤ v3_0) (Option.bind (a0[(Int.toNat v3_0)]?) (fun (x12 : Span) => Option.bind (gleaningref1_RightSpan x12) (fun (x13 : Bool) => if (!x13) = true then (some (Sum.inr false)) else (some (Sum.inl (IntKind.i64.wrap (v3_0 + 1)))))))) else (some (Sum.inr true))
def gleaningref1_RightSpans (a0 : List Span) : Option Bool :=
 loopN (fun (s : Int) => gleaningref1_RightSpans_l0 a0 s) Fu 0
theorem gleaningref1_RightSpans_ok (a0 : List Span) {r : Bool} (h : gleaningref1_RightSpans a0 = some r) : Ok Try.prog 47 [.sl 10 (List.map enc68 a0)] [] [] (.bool r) [] [] := by
 unfold gleaningref1_RightSpans at h
 refine ok_of_code Try.func47 rfl (by show (1 : Nat) ≤ _; decide) (Nat.le_refl _) fun X => ?_
 refine sr fun K1 hK1 => ?_
 refine pa 2 (.bool false) ?_
 refine en hK1 ?_
 refine aw_seq_k (fun K2 hK2 => ?_)
 refine sr fun K3 hK3 => ?_
 refine pa 3 (.int .i64 0) ?_
 refine en hK3 ?_
 refine aw_block ?_
 refine aw_loop' (fun m s => ∃ (v3_0 : Int), loopN (fun (s : Int) => gleaningref1_RightSpans_l0 a0 s) m v3_0 = some r ∧ s = lit [(0, .sl 10 (List.map enc68 a0)), (3, .int .i64 v3_0)] [] [] X) Fu
  ⟨_, reb_lit [(0, .sl 10 (List.map enc68 a0)), (3, .int .i64 (0))] [] [] [] (ec (ec envOk_nil)) objOk_nil (nodup_b rfl) (nodup_b rfl) rfl rfl, 0, h, rfl⟩ ?_
 rintro m s ⟨v3_0, h, rfl⟩
 obtain ⟨m0, q4, rfl, h, hq5⟩ := loop_some h
 replace h : gleaningref1_RightSpans_l0 a0 v3_0 = some q4 := h
 unfold gleaningref1_RightSpans_l0 at h
 refine aw_seq_k (fun K6 hK6 => ?_)
 refine sr fun K7 hK7 => ?_
 refine pm 4 (.int .i64 v3_0) ?_
 refine pm 5 (.sl 10 (List.map enc68 a0)) ?_
 refine pP 6 ((does_len_sl W_ ty22).castp (v' := .int .i64 (List.length a0 : Int)) (by exact len_map _)) ?_
 refine pb 7 (.bool (decide (v3_0 < (List.length a0 : Int)))) ?_
 refine en hK7 ?_
 refine aw_bool (b := (decide (v3_0 < (List.length a0 : Int)))) 7 rfl (fun c8 => ?_) (fun c8 => ?_)
 ·have h := ifT c8 h
  refine aw_cond_t D_ rfl ?_
  refine aw_skip ?_
  refine hK6 _ ?_
  refine aw_seq_k (fun K9 hK9 => ?_)
  refine aw_block ?_
  refine sr fun K10 hK10 => ?_
  refine pm 10 (.sl 10 (List.map enc68 a0)) ?_
  refine pm 11 (.int .i64 v3_0) ?_
  obtain ⟨g11, h⟩ := gd_some h
  obtain ⟨x12, hx12, h⟩ := bnd_some h
  refine pP 12 (does_indexAddr_sl (el := .agg [.int .u64 x12.Trace.Hi, .int .u64 x12.Trace.Lo, .int .u64 x12.Id, .int .u64 x12.Parent, .str x12.Service, .str x12.Op, .int .i64 x12.Start, .int .i64 x12.Dur, .bool x12.Err, .sl 2 (List.map enc90 x12.Attrs)]) W_ W_ ty22 ty69 g11 (by exact map_get hx12)) ?_
  refine pl 13 (.agg [.int .u64 x12.Trace.Hi, .int .u64 x12.Trace.Lo, .int .u64 x12.Id, .int .u64 x12.Parent, .str x12.Service, .str x12.Op, .int .i64 x12.Start, .int .i64 x12.Dur, .bool x12.Err, .sl 2 (List.map enc90 x12.Attrs)]) ty69 ?_
  obtain ⟨x13, hx13, h⟩ := bnd_some h
  refine pD 14 (do_call0 14 false (gleaningref1_RightSpan_ok x12 hx13) rfl ent72 rfl rfl) ?_
  refine pP 15 (does_un (v := .bool (!x13)) W_ rfl) ?_
  refine en hK10 ?_
  refine aw_bool (b := (!x13)) 15 rfl (fun c14 => ?_) (fun c14 => ?_)
  ·have h := ifT c14 h
   refine aw_cond_t D_ rfl ?_
   refine sr fun K15 hK15 => ?_
   refine pa 2 (.bool false) ?_
   refine en hK15 ?_
   refine aw_ret ?_
   have h := leafR h hq5
   obtain rfl := Option.some.inj h
   exact ret_ok1 W_ W_ R_ (.inr rfl) rfl
  ·have h := ifF c14 h
   refine aw_cond_f D_ rfl ?_
   refine aw_skip ?_
   refine hK9 _ ?_
   refine aw_regL ?_
   refine pm 8 (.int .i64 v3_0) ?_
   refine pb 9 (.int .i64 (IntKind.i64.wrap (v3_0 + 1))) ?_
   refine pa 3 (.int .i64 (IntKind.i64.wrap (v3_0 + 1))) ?_
   refine al_nil ?_
   have h := leafL h hq5
   exact ⟨m0, Nat.lt_succ_self _, _, reb_lit [(0, .sl 10 (List.map enc68 a0)), (3, .int .i64 (IntKind.i64.wrap (v3_0 + 1)))] [] [] [] (ec (ec envOk_nil)) objOk_nil (nodup_b rfl) (nodup_b rfl) rfl rfl, (IntKind.i64.wrap (v3_0 + 1)), h, rfl⟩
 ·have h := ifF c8 h
  refine aw_cond_f D_ rfl ?_
  refine aw_exit ?_
  have h := leafR h hq5
  refine hK2 _ ?_
  refine sr fun K16 hK16 => ?_
  refine pa 2 (.bool true) ?_
  refine en hK16 ?_
  refine aw_ret ?_
  obtain rfl := Option.some.inj h
  exact ret_ok1 W_ W_ R_ (.inr rfl) rfl
def gleaningref1_BatchBytes_l2 (a0 : List Span) (v3_s_2 : List UInt8) (v4_2 : Int) : Option ((List UInt8 × Int) ⊕ (List UInt8)) :=
 if (decide (v4_2 < (List.length a0 : Int))) = true then (gd (0 ≤ v4_2) (Option.bind (a0[(Int.toNat v4_2)]?) (fun (x24 : Span) => Option.bind (gleaningref1_AddSpan v3_s_2 x24) (fun (x25 : List UInt8) => some (Sum.inl (x25, (IntKind.i64.wrap (v4_2 + 1)))))))) else (some (Sum.inr v3_s_2))
def gleaningref1_BatchBytes_k1 (v3_s_1 : List UInt8) : Option (List UInt8) :=
 Option.bind (gleaningref1_Sealed v3_s_1) (fun (x27 : List UInt8) => some x27)
def gleaningref1_BatchBytes_k0 (a0 : List Span) : Option (List UInt8) :=
 Option.bind (gleaningref1_Put [] (IntKind.u64.wrap (List.length a0 : Int))) (fun (x13 : List UInt8) => Option.bind (loopN (fun (s : List UInt8 × Int) => gleaningref1_BatchBytes_l2 a0 s.1 s.2) Fu (x13, 0)) (fun (s : List UInt8) => gleaningref1_BatchBytes_k1 s))
def gleaningref1_BatchBytes (a0 : List Span) : Option (List UInt8) :=
 Option.bind (if (decide ((List.length a0 : Int) < 1)) = true then (some (Sum.inr [])) else (if (decide ((50 : Int) < (List.length a0 : Int))) = true then (some (Sum.inr [])) else (Option.bind (gleaningref1_RightSpans a0) (fun (x9 : Bool) => if (!x9) = true then (some (Sum.inr [])) else (some (Sum.inl ())))))) (Sum.elim (fun (s : Unit) => gleaningref1_BatchBytes_k0 a0) some)
theorem gleaningref1_BatchBytes_ok (a0 : List Span) {r : List UInt8} (h : gleaningref1_BatchBytes a0 = some r) : Ok Try.prog 24 [.sl 10 (List.map enc68 a0)] [] [] (.own 2 0) [] [(5, 1, List.map enc5 r)] := by
 unfold gleaningref1_BatchBytes at h
 refine ok_of_code Try.func24 rfl (by show (1 : Nat) ≤ _; decide) (Nat.le_refl _) fun X => ?_
 refine sr fun K1 hK1 => ?_
 refine pa 2 (.nil) ?_
 refine en hK1 ?_
 obtain ⟨q2, h, hk3⟩ := bnd_some h
 refine aw_cut (fun s => gleaningref1_BatchBytes_k0 a0 = some r ∧ s = lit [(0, .sl 10 (List.map enc68 a0))] [] [] X) ?_ ?_
 ·skip
  refine sr fun K4 hK4 => ?_
  refine pm 5 (.sl 10 (List.map enc68 a0)) ?_
  refine pP 6 ((does_len_sl W_ ty22).castp (v' := .int .i64 (List.length a0 : Int)) (by exact len_map _)) ?_
  refine pb 7 (.bool (decide ((List.length a0 : Int) < 1))) ?_
  refine pm 8 (.bool (decide ((List.length a0 : Int) < 1))) ?_
  refine al_bool (c := (decide ((List.length a0 : Int) < 1))) 8 rfl (fun c5 => ?_) (fun c5 => ?_)
  ·have h := ifT c5 h
   refine pS 9 ?_
   refine pS 10 ?_
   refine pS 11 ?_
   refine pk 12 (.bool true) ?_
   refine pm 13 (.bool true) ?_
   refine pS 14 ?_
   refine pS 15 ?_
   refine pS 16 ?_
   refine pk 17 (.bool true) ?_
   refine en hK4 ?_
   refine aw_cond_t D_ rfl ?_
   refine sr fun K6 hK6 => ?_
   refine pa 2 (.nil) ?_
   refine en hK6 ?_
   refine aw_nilOwn 2 5 1 W_ D_ D_ ?_
   refine aw_ret ?_
   have h := leafR h hk3
   obtain rfl := Option.some.inj h
   exact ret_okR [(2, 0)] W_ W_ R_ (rowsOk_cons W_ R_ trivial) (nodup_b rfl) (.inr rfl) rfl
  ·have h := ifF c5 h
   refine pm 9 (.sl 10 (List.map enc68 a0)) ?_
   refine pP 10 ((does_len_sl W_ ty22).castp (v' := .int .i64 (List.length a0 : Int)) (by exact len_map _)) ?_
   refine pb 11 (.bool (decide ((50 : Int) < (List.length a0 : Int)))) ?_
   refine pk 12 (.bool (decide ((50 : Int) < (List.length a0 : Int)))) ?_
   refine pm 13 (.bool (decide ((50 : Int) < (List.length a0 : Int)))) ?_
   refine al_bool (c := (decide ((50 : Int) < (List.length a0 : Int)))) 13 rfl (fun c7 => ?_) (fun c7 => ?_)
   ·have h := ifT c7 h
    refine pS 14 ?_
    refine pS 15 ?_
    refine pS 16 ?_
    refine pk 17 (.bool true) ?_
    refine en hK4 ?_
    refine aw_cond_t D_ rfl ?_
    refine sr fun K8 hK8 => ?_
    refine pa 2 (.nil) ?_
    refine en hK8 ?_
    refine aw_nilOwn 2 5 1 W_ D_ D_ ?_
    refine aw_ret ?_
    have h := leafR h hk3
    obtain rfl := Option.some.inj h
    exact ret_okR [(2, 0)] W_ W_ R_ (rowsOk_cons W_ R_ trivial) (nodup_b rfl) (.inr rfl) rfl
   ·have h := ifF c7 h
    refine pm 14 (.sl 10 (List.map enc68 a0)) ?_
    obtain ⟨x9, hx9, h⟩ := bnd_some h
    refine pD 15 (do_call0 15 false (gleaningref1_RightSpans_ok a0 hx9) rfl ent47 rfl rfl) ?_
    refine pP 16 (does_un (v := .bool (!x9)) W_ rfl) ?_
    refine pk 17 (.bool (!x9)) ?_
    refine en hK4 ?_
    refine aw_bool (b := (!x9)) 17 rfl (fun c10 => ?_) (fun c10 => ?_)
    ·have h := ifT c10 h
     refine aw_cond_t D_ rfl ?_
     refine sr fun K11 hK11 => ?_
     refine pa 2 (.nil) ?_
     refine en hK11 ?_
     refine aw_nilOwn 2 5 1 W_ D_ D_ ?_
     refine aw_ret ?_
     have h := leafR h hk3
     obtain rfl := Option.some.inj h
     exact ret_okR [(2, 0)] W_ W_ R_ (rowsOk_cons W_ R_ trivial) (nodup_b rfl) (.inr rfl) rfl
    ·have h := ifF c10 h
     refine aw_cond_f D_ rfl ?_
     refine aw_skip ?_
     have h := leafL h hk3
     exact ⟨_, reb_lit [(0, .sl 10 (List.map enc68 a0))] [] [] [] (ec envOk_nil) objOk_nil (nodup_b rfl) (nodup_b rfl) rfl rfl, h, rfl⟩
 ·rintro s ⟨h, rfl⟩
  unfold gleaningref1_BatchBytes_k0 at h
  refine sr fun K12 hK12 => ?_
  refine pm 18 (.sl 10 (List.map enc68 a0)) ?_
  refine pP 19 ((does_len_sl W_ ty22).castp (v' := .int .i64 (List.length a0 : Int)) (by exact len_map _)) ?_
  refine pP 20 (does_conv_int (v := .int .u64 (IntKind.u64.wrap (List.length a0 : Int))) W_ (ty_some ty3) (ty_int ty46) rfl) ?_
  obtain ⟨x13, hx13, h⟩ := bnd_some h
  refine pD 21 (do_call0 21 false ((gleaningref1_Put_ok [] (IntKind.u64.wrap (List.length a0 : Int)) hx13).nilRow0) rfl ent25 rfl rfl) ?_
  refine pa 3 (.own 21 0) ?_
  refine en hK12 ?_
  obtain ⟨q14, h, hk15⟩ := bnd_some h
  refine aw_cut (fun s => ∃ (v3_s_1 : List UInt8), gleaningref1_BatchBytes_k1 v3_s_1 = some r ∧ s = lit [(3, .own 21 0)] [((21, 0), .arr 5 1 false (List.map enc5 v3_s_1))] [(21, 1)] X) ?_ ?_
  ·skip
   refine sr fun K16 hK16 => ?_
   refine pa 4 (.int .i64 0) ?_
   refine en hK16 ?_
   refine aw_block ?_
   refine aw_loop' (fun m s => ∃ (v3_s_2 : List UInt8), ∃ (v4_2 : Int), loopN (fun (s : List UInt8 × Int) => gleaningref1_BatchBytes_l2 a0 s.1 s.2) m (v3_s_2, v4_2) = some q14 ∧ s = lit [(0, .sl 10 (List.map enc68 a0)), (3, .own 21 0), (4, .int .i64 v4_2)] [((21, 0), .arr 5 1 false (List.map enc5 v3_s_2))] [(21, 1)] X) Fu
    ⟨_, reb_lit [(0, .sl 10 (List.map enc68 a0)), (3, .own 21 0), (4, .int .i64 (0))] [(21, 0)] [((21, 0), .arr 5 1 false (List.map enc5 x13))] [(21, 1)] (ec (ec (ec envOk_nil))) (objOk_cons W_ W_ R_ (by simp) objOk_nil) (nodup_b rfl) (nodup_b rfl) rfl rfl, x13, 0, h, rfl⟩ ?_
   rintro m s ⟨v3_s_2, v4_2, h, rfl⟩
   obtain ⟨m2, q17, rfl, h, hq18⟩ := loop_some h
   replace h : gleaningref1_BatchBytes_l2 a0 v3_s_2 v4_2 = some q17 := h
   unfold gleaningref1_BatchBytes_l2 at h
   refine aw_seq_k (fun K19 hK19 => ?_)
   refine sr fun K20 hK20 => ?_
   refine pm 22 (.int .i64 v4_2) ?_
   refine pm 23 (.sl 10 (List.map enc68 a0)) ?_
   refine pP 24 ((does_len_sl W_ ty22).castp (v' := .int .i64 (List.length a0 : Int)) (by exact len_map _)) ?_
   refine pb 25 (.bool (decide (v4_2 < (List.length a0 : Int)))) ?_
   refine en hK20 ?_
   refine aw_bool (b := (decide (v4_2 < (List.length a0 : Int)))) 25 rfl (fun c21 => ?_) (fun c21 => ?_)
   ·have h := ifT c21 h
    refine aw_cond_t D_ rfl ?_
    refine aw_skip ?_
    refine hK19 _ ?_
    refine aw_seq_k (fun K22 hK22 => ?_)
    refine aw_block ?_
    refine aw_regL ?_
    refine pm 28 (.own 21 0) ?_
    refine pm 29 (.sl 10 (List.map enc68 a0)) ?_
    refine pm 30 (.int .i64 v4_2) ?_
    obtain ⟨g23, h⟩ := gd_some h
    obtain ⟨x24, hx24, h⟩ := bnd_some h
    refine pP 31 (does_indexAddr_sl (el := .agg [.int .u64 x24.Trace.Hi, .int .u64 x24.Trace.Lo, .int .u64 x24.Id, .int .u64 x24.Parent, .str x24.Service, .str x24.Op, .int .i64 x24.Start, .int .i64 x24.Dur, .bool x24.Err, .sl 2 (List.map enc90 x24.Attrs)]) W_ W_ ty22 ty69 g23 (by exact map_get hx24)) ?_
    refine pl 32 (.agg [.int .u64 x24.Trace.Hi, .int .u64 x24.Trace.Lo, .int .u64 x24.Id, .int .u64 x24.Parent, .str x24.Service, .str x24.Op, .int .i64 x24.Start, .int .i64 x24.Dur, .bool x24.Err, .sl 2 (List.map enc90 x24.Attrs)]) ty69 ?_
    obtain ⟨x25, hx25, h⟩ := bnd_some h
    refine pD 33 (do_callG (bcs := []) [] [(21, 0)] [] 33 false (gleaningref1_AddSpan_ok v3_s_2 x24 hx25) rfl ent48 trivial (rowsOk_cons W_ R_ trivial) rfl rfl rfl rfl rfl rfl rfl rfl (.inr ⟨rfl, rfl, ⟨plain_map (fun _ => rfl), trivial⟩⟩)) ?_
    refine pa 3 (.own 33 0) ?_
    refine en hK22 ?_
    refine aw_regL ?_
    refine pm 26 (.int .i64 v4_2) ?_
    refine pb 27 (.int .i64 (IntKind.i64.wrap (v4_2 + 1))) ?_
    refine pa 4 (.int .i64 (IntKind.i64.wrap (v4_2 + 1))) ?_
    refine al_nil ?_
    have h := leafL h hq18
    exact ⟨m2, Nat.lt_succ_self _, _, reb_lit [(0, .sl 10 (List.map enc68 a0)), (3, .own 21 0), (4, .int .i64 (IntKind.i64.wrap (v4_2 + 1)))] [(33, 0)] [((21, 0), .arr 5 1 false (List.map enc5 x25))] [(21, 1)] (ec (ec (ec envOk_nil))) (objOk_cons W_ W_ R_ (by simp) objOk_nil) (nodup_b rfl) (nodup_b rfl) rfl rfl, x25, (IntKind.i64.wrap (v4_2 + 1)), h, rfl⟩
   ·have h := ifF c21 h
    refine aw_cond_f D_ rfl ?_
    refine aw_exit ?_
    have h := leafR h hq18
    obtain rfl := Option.some.inj h
    have h := hk15
    exact ⟨_, reb_lit [(3, .own 21 0)] [(21, 0)] [((21, 0), .arr 5 1 false (List.map enc5 v3_s_2))] [(21, 1)] (ec envOk_nil) (objOk_cons W_ W_ R_ (by simp) objOk_nil) (nodup_b rfl) (nodup_b rfl) rfl rfl, v3_s_2, h, rfl⟩
  ·rintro s ⟨v3_s_1, h, rfl⟩
   unfold gleaningref1_BatchBytes_k1 at h
   refine sr fun K26 hK26 => ?_
   refine pm 34 (.own 21 0) ?_
   obtain ⟨x27, hx27, h⟩ := bnd_some h
   refine pD 35 (do_callG (bcs := []) [] [] [(21, 0)] 35 false (gleaningref1_Sealed_ok v3_s_1 hx27) rfl ent49 trivial trivial rfl rfl rfl rfl rfl rfl rfl rfl (.inr ⟨rfl, rfl, ⟨plain_map (fun _ => rfl), trivial⟩⟩)) ?_
   refine pa 2 (.own 35 0) ?_
   refine en hK26 ?_
   refine aw_ret ?_
   obtain rfl := Option.some.inj h
   exact ret_okR [(35, 0)] W_ W_ R_ (rowsOk_cons W_ R_ trivial) (nodup_b rfl) (.inr rfl) rfl
def gleaningref1_ReadBatch_k2 (v6_s_0_1 : List UInt8) (v6_s_1_1 : Bool) (v8_s_1 : List Span) (v9_1 : Int) : Option ((List UInt8 × Bool × List Span × Int) ⊕ (List UInt8 × Bool × List Span)) :=
 Option.bind (gleaningref1_Reader_Span (Reader.mk v6_s_0_1 v6_s_1_1)) (fun (x23 : Span × Reader) => gd ((List.length (v8_s_1 ++ [x23.1])) * 112 ≤ 140737488355328 ∧ (List.length (v8_s_1 ++ [x23.1])) ≤ 140737488355328) (some (Sum.inl (x23.2.B, x23.2.Bad, (v8_s_1 ++ [x23.1]), (IntKind.i64.wrap (v9_1 + 1))))))
def gleaningref1_ReadBatch_l1 (x10 : Int × Reader) (v6_s_0_1 : List UInt8) (v6_s_1_1 : Bool) (v8_s_1 : List Span) (v9_1 : Int) : Option ((List UInt8 × Bool × List Span × Int) ⊕ (List UInt8 × Bool × List Span)) :=
 Option.bind (if (decide (v9_1 < x10.1)) = true then (if (!v6_s_1_1) = true then (some (Sum.inl ())) else (some (Sum.inr (Sum.inr (v6_s_0_1, v6_s_1_1, v8_s_1))))) else (some (Sum.inr (Sum.inr (v6_s_0_1, v6_s_1_1, v8_s_1))))) (Sum.elim (fun (s : Unit) => gleaningref1_ReadBatch_k2 v6_s_0_1 v6_s_1_1 v8_s_1 v9_1) some)
def gleaningref1_ReadBatch_k0 (x10 : Int × Reader) (v6_s_0_0 : List UInt8) (v6_s_1_0 : Bool) (v8_s_0 : List Span) : Option (List Span × Int) :=
 if v6_s_1_0 = true then (some ([], 2)) else (if (decide ((0 : Int) < (List.length v6_s_0_0 : Int))) = true then (some ([], 2)) else (if (decide (x10.1 < 1)) = true then (some ([], 2)) else (some (v8_s_0, 0))))
def gleaningref1_ReadBatch (a0 : List UInt8) : Option (List Span × Int) :=
 Option.bind (gleaningref1_Open a0) (fun (x3 : List UInt8 × Bool) => if (!x3.2) = true then (some ([], 2)) else (Option.bind (gleaningref1_Reader_Int (Reader.mk x3.1 false) 50) (fun (x10 : Int × Reader) => Option.bind (loopN (fun (s : List UInt8 × Bool × List Span × Int) => gleaningref1_ReadBatch_l1 x10 s.1 s.2.1 s.2.2.1 s.2.2.2) Fu (x10.2.B, x10.2.Bad, [], 0)) (fun (s : List UInt8 × Bool × List Span) => gleaningref1_ReadBatch_k0 x10 s.1 s.2.1 s.2.2))))
theorem gleaningref1_ReadBatch_ok (a0 : List UInt8) {r : List Span × Int} (h : gleaningref1_ReadBatch a0 = some r) : Ok Try.prog 21 [.sl 1 (List.map enc5 a0)] [] [] (.tup [.own 2 0, .int .i64 r.2]) [] [(69, 10, List.map enc68 r.1)] := by
 unfold gleaningref1_ReadBatch at h
 refine ok_of_code Try.func21 rfl (by show (1 : Nat) ≤ _; decide) (Nat.le_refl _) fun X => ?_
 refine sr fun K1 hK1 => ?_
 refine pa 2 (.nil) ?_
 refine pa 3 (.int .i64 0) ?_
 refine en hK1 ?_
 refine sr fun K2 hK2 => ?_
 refine pm 11 (.sl 1 (List.map enc5 a0)) ?_
 obtain ⟨x3, hx3, h⟩ := bnd_some h
 refine pD 12 (do_call0 12 false (gleaningref1_Open_ok a0 hx3) rfl ent42 rfl rfl) ?_
 refine pm 10 (.tup [.sl 1 (List.map enc5 x3.1), .bool x3.2]) ?_
 refine pP 13 (does_extract (v := .sl 1 (List.map enc5 x3.1)) W_ R_) ?_
 refine pP 14 (does_extract (v := .bool x3.2) W_ R_) ?_
 refine pa 4 (.sl 1 (List.map enc5 x3.1)) ?_
 refine pa 5 (.bool x3.2) ?_
 refine en hK2 ?_
 refine aw_seq_k (fun K4 hK4 => ?_)
 refine sr fun K5 hK5 => ?_
 refine pm 15 (.bool x3.2) ?_
 refine pP 16 (does_un (v := .bool (!x3.2)) W_ rfl) ?_
 refine en hK5 ?_
 refine aw_bool (b := (!x3.2)) 16 rfl (fun c6 => ?_) (fun c6 => ?_)
 ·have h := ifT c6 h
  refine aw_cond_t D_ rfl ?_
  refine sr fun K7 hK7 => ?_
  refine pa 2 (.nil) ?_
  refine pa 3 (.int .i64 2) ?_
  refine en hK7 ?_
  refine aw_nilOwn 2 69 10 W_ D_ D_ ?_
  refine aw_ret ?_
  obtain rfl := Option.some.inj h
  exact ret_okR [(2, 0)] W_ W_ R_ (rowsOk_cons W_ R_ trivial) (nodup_b rfl) (.inr rfl) rfl
 ·have h := ifF c6 h
  refine aw_cond_f D_ rfl ?_
  refine aw_skip ?_
  refine hK4 _ ?_
  refine sr fun K8 hK8 => ?_
  refine pm 17 (.sl 1 (List.map enc5 x3.1)) ?_
  refine pP 18 (do_build_struct (cs := [.sl 1 (List.map enc5 x3.1), .bool false]) ty59 rfl [⟨.slice 5, 1, 24, [.nil]⟩, ⟨.bool, 1, 1, [.bool false]⟩] (by simp only [List.map, ty28, ty4]) (by rfl) R_) ?_
  refine pD 19 (do_box W_ rfl rfl) ?_
  refine pa 6 (.ptr 19 0 0) ?_
  refine en hK8 ?_
  refine sr fun K9 hK9 => ?_
  refine pm 20 (.ptr 19 0 0) ?_
  obtain ⟨x10, hx10, h⟩ := bnd_some h
  refine pD 21 (do_callG (bcs := [[.sl 1 (List.map enc5 x3.1), .bool false]]) [(19, 0)] [] [] 21 false (gleaningref1_Reader_Int_ok (Reader.mk x3.1 false) 50 hx10) rfl ent22 ⟨R_, trivial⟩ trivial rfl rfl rfl rfl rfl rfl rfl rfl (.inl trivial)) ?_
  refine pa 7 (.int .i64 x10.1) ?_
  refine en hK9 ?_
  refine sr fun K11 hK11 => ?_
  refine pa 8 (.nil) ?_
  refine en hK11 ?_
  obtain ⟨q12, h, hk13⟩ := bnd_some h
  refine aw_cut (fun s => ∃ (v6_s_0_0 : List UInt8), ∃ (v6_s_1_0 : Bool), ∃ (v8_s_0 : List Span), gleaningref1_ReadBatch_k0 x10 v6_s_0_0 v6_s_1_0 v8_s_0 = some r ∧ s = lit [(6, .ptr 19 0 0), (7, .int .i64 x10.1), (8, .own 8 0)] [((19, 0), .box [.sl 1 (List.map enc5 v6_s_0_0), .bool v6_s_1_0]), ((8, 0), .arr 69 10 false (List.map enc68 v8_s_0))] [(8, 1), (19, 1)] X) ?_ ?_
  ·skip
   refine sr fun K14 hK14 => ?_
   refine pa 9 (.int .i64 0) ?_
   refine en hK14 ?_
   refine aw_block ?_
   refine aw_nilOwn 8 69 10 W_ D_ D_ ?_
   refine aw_loop' (fun m s => ∃ (v6_s_0_1 : List UInt8), ∃ (v6_s_1_1 : Bool), ∃ (v8_s_1 : List Span), ∃ (v9_1 : Int), loopN (fun (s : List UInt8 × Bool × List Span × Int) => gleaningref1_ReadBatch_l1 x10 s.1 s.2.1 s.2.2.1 s.2.2.2) m (v6_s_0_1, v6_s_1_1, v8_s_1, v9_1) = some q12 ∧ s = lit [(6, .ptr 19 0 0), (7, .int .i64 x10.1), (8, .own 8 0), (9, .int .i64 v9_1)] [((19, 0), .box [.sl 1 (List.map enc5 v6_s_0_1), .bool v6_s_1_1]), ((8, 0), .arr 69 10 false (List.map enc68 v8_s_1))] [(8, 1), (19, 1)] X) Fu
    ⟨_, reb_lit [(6, .ptr 19 0 0), (7, .int .i64 x10.1), (8, .own 8 0), (9, .int .i64 (0))] [(19, 0), (8, 0)] [((19, 0), .box [.sl 1 (List.map enc5 x10.2.B), .bool x10.2.Bad]), ((8, 0), .arr 69 10 false (List.map enc68 []))] [(8, 1), (19, 1)] (ec (ec (ec (ec envOk_nil)))) (objOk_cons W_ W_ R_ (by simp) (objOk_cons W_ W_ R_ (by simp) objOk_nil)) (nodup_b rfl) (nodup_b rfl) rfl rfl, x10.2.B, x10.2.Bad, [], 0, h, rfl⟩ ?_
   rintro m s ⟨v6_s_0_1, v6_s_1_1, v8_s_1, v9_1, h, rfl⟩
   obtain ⟨m1, q15, rfl, h, hq16⟩ := loop_some h
   replace h : gleaningref1_ReadBatch_l1 x10 v6_s_0_1 v6_s_1_1 v8_s_1 v9_1 = some q15 := h
   unfold gleaningref1_ReadBatch_l1 at h
   obtain ⟨q17, h, hk18⟩ := bnd_some h
   refine aw_cut (fun s => gleaningref1_ReadBatch_k2 v6_s_0_1 v6_s_1_1 v8_s_1 v9_1 = some q15 ∧ s = lit [(6, .ptr 19 0 0), (7, .int .i64 x10.1), (8, .own 8 0), (9, .int .i64 v9_1)] [((19, 0), .box [.sl 1 (List.map enc5 v6_s_0_1), .bool v6_s_1_1]), ((8, 0), .arr 69 10 false (List.map enc68 v8_s_1))] [(8, 1), (19, 1)] X) ?_ ?_
   ·skip
    refine sr fun K19 hK19 => ?_
    refine pm 22 (.int .i64 v9_1) ?_
    refine pm 23 (.int .i64 x10.1) ?_
    refine pb 24 (.bool (decide (v9_1 < x10.1))) ?_
    refine pm 25 (.bool (decide (v9_1 < x10.1))) ?_
    refine al_bool (c := (decide (v9_1 < x10.1))) 25 rfl (fun c20 => ?_) (fun c20 => ?_)
    ·have h := ifT c20 h
     refine pm 26 (.ptr 19 0 0) ?_
     refine pP 27 (does_nilCheck (p := .ptr 19 0 0) W_ rfl) ?_
     refine pf 28 (.ptr 19 0 1) ty59 ty4 ?_
     refine pl 29 (.bool v6_s_1_1) ty4 ?_
     refine pP 30 (does_un (v := .bool (!v6_s_1_1)) W_ rfl) ?_
     refine pk 31 (.bool (!v6_s_1_1)) ?_
     refine en hK19 ?_
     refine aw_bool (b := (!v6_s_1_1)) 31 rfl (fun c21 => ?_) (fun c21 => ?_)
     ·have h := ifT c21 h
      refine aw_cond_t D_ rfl ?_
      refine aw_skip ?_
      have h := leafL h hk18
      exact ⟨_, reb_lit [(6, .ptr 19 0 0), (7, .int .i64 x10.1), (8, .own 8 0), (9, .int .i64 v9_1)] [(19, 0), (8, 0)] [((19, 0), .box [.sl 1 (List.map enc5 v6_s_0_1), .bool v6_s_1_1]), ((8, 0), .arr 69 10 false (List.map enc68 v8_s_1))] [(8, 1), (19, 1)] (ec (ec (ec (ec envOk_nil)))) (objOk_cons W_ W_ R_ (by simp) (objOk_cons W_ W_ R_ (by simp) objOk_nil)) (nodup_b rfl) (nodup_b rfl) rfl rfl, h, rfl⟩
     ·have h := ifF c21 h
      refine aw_cond_f D_ rfl ?_
      refine aw_exit ?_
      have h := leafR h hk18
      have h := leafR h hq16
      obtain rfl := Option.some.inj h
      have h := hk13
      exact ⟨_, reb_lit [(6, .ptr 19 0 0), (7, .int .i64 x10.1), (8, .own 8 0)] [(19, 0), (8, 0)] [((19, 0), .box [.sl 1 (List.map enc5 v6_s_0_1), .bool v6_s_1_1]), ((8, 0), .arr 69 10 false (List.map enc68 v8_s_1))] [(8, 1), (19, 1)] (ec (ec (ec envOk_nil))) (objOk_cons W_ W_ R_ (by simp) (objOk_cons W_ W_ R_ (by simp) objOk_nil)) (nodup_b rfl) (nodup_b rfl) rfl rfl, v6_s_0_1, v6_s_1_1, v8_s_1, h, rfl⟩
    ·have h := ifF c20 h
     refine pS 26 ?_
     refine pS 27 ?_
     refine pS 28 ?_
     refine pS 29 ?_
     refine pS 30 ?_
     refine pk 31 (.bool false) ?_
     refine en hK19 ?_
     refine aw_cond_f D_ rfl ?_
     refine aw_exit ?_
     have h := leafR h hk18
     have h := leafR h hq16
     obtain rfl := Option.some.inj h
     have h := hk13
     exact ⟨_, reb_lit [(6, .ptr 19 0 0), (7, .int .i64 x10.1), (8, .own 8 0)] [(19, 0), (8, 0)] [((19, 0), .box [.sl 1 (List.map enc5 v6_s_0_1), .bool v6_s_1_1]), ((8, 0), .arr 69 10 false (List.map enc68 v8_s_1))] [(8, 1), (19, 1)] (ec (ec (ec envOk_nil))) (objOk_cons W_ W_ R_ (by simp) (objOk_cons W_ W_ R_ (by simp) objOk_nil)) (nodup_b rfl) (nodup_b rfl) rfl rfl, v6_s_0_1, v6_s_1_1, v8_s_1, h, rfl⟩
   ·rintro s ⟨h, rfl⟩
    unfold gleaningref1_ReadBatch_k2 at h
    refine aw_seq_k (fun K22 hK22 => ?_)
    refine aw_block ?_
    refine aw_regL ?_
    refine pm 34 (.own 8 0) ?_
    refine pm 35 (.ptr 19 0 0) ?_
    obtain ⟨x23, hx23, h⟩ := bnd_some h
    refine pD 36 (do_callG (bcs := [[.sl 1 (List.map enc5 v6_s_0_1), .bool v6_s_1_1]]) [(19, 0)] [] [] 36 false (gleaningref1_Reader_Span_ok (Reader.mk v6_s_0_1 v6_s_1_1) hx23) rfl ent43 ⟨R_, trivial⟩ trivial rfl rfl rfl rfl rfl rfl rfl rfl (.inl trivial)) ?_
    refine pD 37 (does_frz (d := 36) (n := 0) W_ (do_buildSlice (xs := List.map enc68 [x23.1]) ty22 ty69 rfl rfl rfl rfl rfl rfl rfl rfl)) ?_
    obtain ⟨g24, h⟩ := gd_some h
    refine pD 38 (do_append (v := List.map enc68 (v8_s_1 ++ [x23.1])) W_ W_ ty22 ty69 rfl rfl W_ (by first | exact .inl rfl | exact .inr ⟨rfl, rfl⟩) W_ (by first | exact .inr rfl | exact .inl rfl) (map_app _ _) (fit_map g24)) ?_
    refine pa 8 (.own 38 0) ?_
    refine en hK22 ?_
    refine aw_regL ?_
    refine pm 32 (.int .i64 v9_1) ?_
    refine pb 33 (.int .i64 (IntKind.i64.wrap (v9_1 + 1))) ?_
    refine pa 9 (.int .i64 (IntKind.i64.wrap (v9_1 + 1))) ?_
    refine al_nil ?_
    have h := leafL h hq16
    exact ⟨m1, Nat.lt_succ_self _, _, reb_lit [(6, .ptr 19 0 0), (7, .int .i64 x10.1), (8, .own 8 0), (9, .int .i64 (IntKind.i64.wrap (v9_1 + 1)))] [(19, 0), (38, 0)] [((19, 0), .box [.sl 1 (List.map enc5 x23.2.B), .bool x23.2.Bad]), ((8, 0), .arr 69 10 false (List.map enc68 (v8_s_1 ++ [x23.1])))] [(8, 1), (19, 1)] (ec (ec (ec (ec envOk_nil)))) (objOk_cons W_ W_ R_ (by simp) (objOk_cons W_ W_ R_ (by simp) objOk_nil)) (nodup_b rfl) (nodup_b rfl) rfl rfl, x23.2.B, x23.2.Bad, (v8_s_1 ++ [x23.1]), (IntKind.i64.wrap (v9_1 + 1)), h, rfl⟩
  ·rintro s ⟨v6_s_0_0, v6_s_1_0, v8_s_0, h, rfl⟩
   unfold gleaningref1_ReadBatch_k0 at h
   refine aw_seq_k (fun K25 hK25 => ?_)
   refine sr fun K26 hK26 => ?_
   refine pm 39 (.ptr 19 0 0) ?_
   refine pP 40 (does_nilCheck (p := .ptr 19 0 0) W_ rfl) ?_
   refine pf 41 (.ptr 19 0 1) ty59 ty4 ?_
   refine pl 42 (.bool v6_s_1_0) ty4 ?_
   refine pm 43 (.bool v6_s_1_0) ?_
   refine al_bool (c := v6_s_1_0) 43 rfl (fun c27 => ?_) (fun c27 => ?_)
   ·have h := ifT c27 h
    refine pS 44 ?_
    refine pS 45 ?_
    refine pS 46 ?_
    refine pS 47 ?_
    refine pS 48 ?_
    refine pS 49 ?_
    refine pk 50 (.bool true) ?_
    refine pm 51 (.bool true) ?_
    refine pS 52 ?_
    refine pS 53 ?_
    refine pk 54 (.bool true) ?_
    refine en hK26 ?_
    refine aw_cond_t D_ rfl ?_
    refine sr fun K28 hK28 => ?_
    refine pa 2 (.nil) ?_
    refine pa 3 (.int .i64 2) ?_
    refine en hK28 ?_
    refine aw_nilOwn 2 69 10 W_ D_ D_ ?_
    refine aw_ret ?_
    obtain rfl := Option.some.inj h
    exact ret_okR [(2, 0)] W_ W_ R_ (rowsOk_cons W_ R_ trivial) (nodup_b rfl) (.inr rfl) rfl
   ·have h := ifF c27 h
    refine pm 44 (.ptr 19 0 0) ?_
    refine pP 45 (does_nilCheck (p := .ptr 19 0 0) W_ rfl) ?_
    refine pf 46 (.ptr 19 0 0) ty59 ty28 ?_
    refine pl 47 (.sl 1 (List.map enc5 v6_s_0_0)) ty28 ?_
    refine pP 48 ((does_len_sl W_ ty28).castp (v' := .int .i64 (List.length v6_s_0_0 : Int)) (by exact len_map _)) ?_
    refine pb 49 (.bool (decide ((0 : Int) < (List.length v6_s_0_0 : Int)))) ?_
    refine pk 50 (.bool (decide ((0 : Int) < (List.length v6_s_0_0 : Int)))) ?_
    refine pm 51 (.bool (decide ((0 : Int) < (List.length v6_s_0_0 : Int)))) ?_
    refine al_bool (c := (decide ((0 : Int) < (List.length v6_s_0_0 : Int)))) 51 rfl (fun c29 => ?_) (fun c29 => ?_)
    ·have h := ifT c29 h
     refine pS 52 ?_
     refine pS 53 ?_
     refine pk 54 (.bool true) ?_
     refine en hK26 ?_
     refine aw_cond_t D_ rfl ?_
     refine sr fun K30 hK30 => ?_
     refine pa 2 (.nil) ?_
     refine pa 3 (.int .i64 2) ?_
     refine en hK30 ?_
     refine aw_nilOwn 2 69 10 W_ D_ D_ ?_
     refine aw_ret ?_
     obtain rfl := Option.some.inj h
     exact ret_okR [(2, 0)] W_ W_ R_ (rowsOk_cons W_ R_ trivial) (nodup_b rfl) (.inr rfl) rfl
    ·have h := ifF c29 h
     refine pm 52 (.int .i64 x10.1) ?_
     refine pb 53 (.bool (decide (x10.1 < 1))) ?_
     refine pk 54 (.bool (decide (x10.1 < 1))) ?_
     refine en hK26 ?_
     refine aw_bool (b := (decide (x10.1 < 1))) 54 rfl (fun c31 => ?_) (fun c31 => ?_)
     ·have h := ifT c31 h
      refine aw_cond_t D_ rfl ?_
      refine sr fun K32 hK32 => ?_
      refine pa 2 (.nil) ?_
      refine pa 3 (.int .i64 2) ?_
      refine en hK32 ?_
      refine aw_nilOwn 2 69 10 W_ D_ D_ ?_
      refine aw_ret ?_
      obtain rfl := Option.some.inj h
      exact ret_okR [(2, 0)] W_ W_ R_ (rowsOk_cons W_ R_ trivial) (nodup_b rfl) (.inr rfl) rfl
     ·have h := ifF c31 h
      refine aw_cond_f D_ rfl ?_
      refine aw_skip ?_
      refine hK25 _ ?_
      refine sr fun K33 hK33 => ?_
      refine pm 55 (.own 8 0) ?_
      refine pa 2 (.own 8 0) ?_
      refine pa 3 (.int .i64 0) ?_
      refine en hK33 ?_
      refine aw_ret ?_
      obtain rfl := Option.some.inj h
      exact ret_okR [(8, 0)] W_ W_ R_ (rowsOk_cons W_ R_ trivial) (nodup_b rfl) (.inr rfl) rfl
end Go.Proofs.Ytdhpmlgalddgfaa.Ab
