/- Chapter 25: operations as bytes. -/
import Derived.Test.YtdhpmlgalddgfaaXR2
import Derived.Test.YtdhpmlgalddgfaaProg
namespace Go.Proofs.Ytdhpmlgalddgfaa.Ab
open Go Go.RowKit
set_option linter.unusedVariables false
set_option linter.unusedSimpArgs false
set_option maxRecDepth 100000
set_option maxHeartbeats 8000000
structure OpG where
  Kind : Int
  N : Int
  Spans : List Span
  Policy : Rule
def enc26 (x : OpG) : PV := .agg [.int .i64 x.Kind, .int .i64 x.N, .sl 10 (List.map enc68 x.Spans), .int .i64 x.Policy.Kind, .int .i64 x.Policy.N, .str x.Policy.Key, .str x.Policy.Value, .sl 5 (List.map enc24 x.Policy.Kids)]
theorem ty27 : tyOf Try.prog 27 = some ⟨.struct [(0, 3), (1, 3), (2, 22), (3, 25)], 8, 112, [.int .i64 0, .int .i64 0, .nil, .int .i64 0, .int .i64 0, .str ByteArray.empty, .str ByteArray.empty, .nil]⟩ := by kernel_rfl
theorem ty31 : tyOf Try.prog 31 = some ⟨.slice 27, 1, 24, [.nil]⟩ := by kernel_rfl
theorem ent4 : Ent Try.prog 4 := ⟨_, Try.func4, by kernel_rfl, rfl⟩
theorem ent5 : Ent Try.prog 5 := ⟨_, Try.func5, by kernel_rfl, rfl⟩
theorem ent6 : Ent Try.prog 6 := ⟨_, Try.func6, by kernel_rfl, rfl⟩
theorem ent7 : Ent Try.prog 7 := ⟨_, Try.func7, by kernel_rfl, rfl⟩
theorem ent8 : Ent Try.prog 8 := ⟨_, Try.func8, by kernel_rfl, rfl⟩
theorem ent9 : Ent Try.prog 9 := ⟨_, Try.func9, by kernel_rfl, rfl⟩
theorem ent10 : Ent Try.prog 10 := ⟨_, Try.func10, by kernel_rfl, rfl⟩
theorem ent11 : Ent Try.prog 11 := ⟨_, Try.func11, by kernel_rfl, rfl⟩
theorem ent12 : Ent Try.prog 12 := ⟨_, Try.func12, by kernel_rfl, rfl⟩
theorem ent13 : Ent Try.prog 13 := ⟨_, Try.func13, by kernel_rfl, rfl⟩
theorem ent14 : Ent Try.prog 14 := ⟨_, Try.func14, by kernel_rfl, rfl⟩
theorem ent15 : Ent Try.prog 15 := ⟨_, Try.func15, by kernel_rfl, rfl⟩
theorem ent16 : Ent Try.prog 16 := ⟨_, Try.func16, by kernel_rfl, rfl⟩
theorem ent17 : Ent Try.prog 17 := ⟨_, Try.func17, by kernel_rfl, rfl⟩
theorem ent18 : Ent Try.prog 18 := ⟨_, Try.func18, by kernel_rfl, rfl⟩
theorem ent19 : Ent Try.prog 19 := ⟨_, Try.func19, by kernel_rfl, rfl⟩
theorem ent21 : Ent Try.prog 21 := ⟨_, Try.func21, by kernel_rfl, rfl⟩
theorem ent23 : Ent Try.prog 23 := ⟨_, Try.func23, by kernel_rfl, rfl⟩
theorem ent24 : Ent Try.prog 24 := ⟨_, Try.func24, by kernel_rfl, rfl⟩
theorem ent26 : Ent Try.prog 26 := ⟨_, Try.func26, by kernel_rfl, rfl⟩
theorem ent27 : Ent Try.prog 27 := ⟨_, Try.func27, by kernel_rfl, rfl⟩
theorem ent32 : Ent Try.prog 32 := ⟨_, Try.func32, by kernel_rfl, rfl⟩
theorem ent53 : Ent Try.prog 53 := ⟨_, Try.func53, by kernel_rfl, rfl⟩
theorem ent54 : Ent Try.prog 54 := ⟨_, Try.func54, by kernel_rfl, rfl⟩
theorem ent80 : Ent Try.prog 80 := ⟨_, Try.func80, by kernel_rfl, rfl⟩
def keeper_ReadOp_k0 (x7 : UInt8) (v4_s_1_0 : Int) (v4_s_2_0 : List Span) (v4_s_3_0 : Int) (v4_s_4_0 : Int) (v4_s_5_0 : ByteArray) (v4_s_6_0 : ByteArray) (v4_s_7_0 : List Rule) (v5_0 : Int) : Option (OpG × Int) :=
 if (v5_0 != 0) = true then (some ((OpG.mk 0 0 [] (Rule.mk 0 0 (strOf []) (strOf []) [])), 2)) else (some ((OpG.mk (IntKind.i64.wrap (x7.toNat : Int)) v4_s_1_0 v4_s_2_0 (Rule.mk v4_s_3_0 v4_s_4_0 v4_s_5_0 v4_s_6_0 v4_s_7_0)), 0))
def keeper_ReadOp (a0 : List UInt8) : Option (OpG × Int) :=
 if ((List.length a0 : Int) == 0) = true then (some ((OpG.mk 0 0 [] (Rule.mk 0 0 (strOf []) (strOf []) [])), 2)) else (Option.bind (a0[0]?) (fun (x7 : UInt8) => gd ((1 : Int) ≤ (List.length a0 : Int)) (Option.bind (if ((IntKind.i64.wrap (x7.toNat : Int)) == 1) = true then (Option.bind (batch_Read (List.drop 1 a0)) (fun (x16 : List Span × Int) => some (0, x16.1, 0, 0, (strOf []), (strOf []), [], x16.2))) else (if ((IntKind.i64.wrap (x7.toNat : Int)) == 3) = true then (Option.bind (rule_Read (List.drop 1 a0)) (fun (x19 : Rule × Int) => some (0, [], x19.1.Kind, x19.1.N, x19.1.Key, x19.1.Value, x19.1.Kids, x19.2))) else (if ((IntKind.i64.wrap (x7.toNat : Int)) == 2) = true then (Option.bind (ints_Reader_Num (Reader.mk (List.drop 1 a0) false) 1099511627776) (fun (x24 : Int × Reader) => if x24.2.Bad = true then (some (x24.1, [], 0, 0, (strOf []), (strOf []), [], 2)) else (if (decide ((0 : Int) < (List.length x24.2.B : Int))) = true then (some (x24.1, [], 0, 0, (strOf []), (strOf []), [], 2)) else (some (x24.1, [], 0, 0, (strOf []), (strOf []), [], 0))))) else (if ((IntKind.i64.wrap (x7.toNat : Int)) != 4) = true then (some (0, [], 0, 0, (strOf []), (strOf []), [], 2)) else (if (decide ((0 : Int) < (List.length (List.drop 1 a0) : Int))) = true then (some (0, [], 0, 0, (strOf []), (strOf []), [], 2)) else (some (0, [], 0, 0, (strOf []), (strOf []), [], 0))))))) (fun (s : Int × List Span × Int × Int × ByteArray × ByteArray × List Rule × Int) => keeper_ReadOp_k0 x7 s.1 s.2.1 s.2.2.1 s.2.2.2.1 s.2.2.2.2.1 s.2.2.2.2.2.1 s.2.2.2.2.2.2.1 s.2.2.2.2.2.2.2))))
theorem keeper_ReadOp_ok (a0 : List UInt8) {r : OpG × Int} (h : keeper_ReadOp a0 = some r) : Ok Try.prog 7 [.sl 1 (List.map enc5 a0)] [] [] (.tup [.agg [.int .i64 r.1.Kind, .int .i64 r.1.N, .sl 10 (List.map enc68 r.1.Spans), .int .i64 r.1.Policy.Kind, .int .i64 r.1.Policy.N, .str r.1.Policy.Key, .str r.1.Policy.Value, .sl 5 (List.map enc24 r.1.Policy.Kids)], .int .i64 r.2]) [] [] := by
 unfold keeper_ReadOp at h
 refine ok_of_code Try.func7 rfl (by show (1 : Nat) ≤ _; decide) (Nat.le_refl _) fun X => ?_
 refine sr fun K1 hK1 => ?_
 refine pD 2 (do_new ty27 rfl rfl) ?_
 refine pa 3 (.int .i64 0) ?_
 refine en hK1 ?_
 refine aw_seq_k (fun K2 hK2 => ?_)
 refine sr fun K3 hK3 => ?_
 refine pm 7 (.sl 1 (List.map enc5 a0)) ?_
 refine pP 8 ((does_len_sl W_ ty28).castp (v' := .int .i64 (List.length a0 : Int)) (by exact len_map _)) ?_
 refine pb 9 (.bool ((List.length a0 : Int) == 0)) ?_
 refine en hK3 ?_
 refine aw_bool (b := ((List.length a0 : Int) == 0)) 9 rfl (fun c4 => ?_) (fun c4 => ?_)
 ·have h := ifT c4 h
  refine aw_cond_t D_ rfl ?_
  refine sr fun K5 hK5 => ?_
  refine pP 10 (do_build_struct (cs := [.int .i64 0, .int .i64 0, .nil, .int .i64 0, .int .i64 0, .str (strOf []), .str (strOf []), .nil]) ty27 rfl [⟨.int .i64, 1, 8, [.int .i64 0]⟩, ⟨.int .i64, 1, 8, [.int .i64 0]⟩, ⟨.slice 69, 1, 24, [.nil]⟩, ⟨.struct [(0, 3), (1, 3), (2, 9), (3, 9), (4, 23)], 5, 72, [.int .i64 0, .int .i64 0, .str ByteArray.empty, .str ByteArray.empty, .nil]⟩] (by simp only [List.map, ty22, ty25, ty3]) (by rfl) R_) ?_
  refine alD none rfl rfl (do_store (cs' := [.int .i64 0, .int .i64 0, .nil, .int .i64 0, .int .i64 0, .str (strOf []), .str (strOf []), .nil]) W_ W_ W_ ty27 rfl rfl rfl R_) D_ ?_
  refine pa 3 (.int .i64 2) ?_
  refine en hK5 ?_
  refine aw_reb (reb_w (tl' := [(2, .ptr 2 0 0), (3, .int .i64 2)]) (ol' := [((2, 0), .box [.int .i64 0, .int .i64 0, .sl 10 (List.map enc68 []), .int .i64 0, .int .i64 0, .str (strOf []), .str (strOf []), .sl 5 (List.map enc24 [])])]) (reb_lit [(2, .ptr 2 0 0), (3, .int .i64 2)] [(2, 0)] [((2, 0), .box [.int .i64 0, .int .i64 0, .nil, .int .i64 0, .int .i64 0, .str (strOf []), .str (strOf []), .nil])] [(2, 1)] (ec (ec envOk_nil)) (objOk_cons W_ W_ R_ (by simp) objOk_nil) (nodup_b rfl) (nodup_b rfl) rfl rfl) ⟨rfl, le_refl _, rfl, le_refl _, trivial⟩ ⟨rfl, (.box ⟨le_refl _, le_refl _, le_nil _, le_refl _, le_refl _, le_refl _, le_refl _, le_nil _, trivial⟩), trivial⟩) ?_
  refine aw_ret ?_
  obtain rfl := Option.some.inj h
  exact ret_ok1 W_ W_ R_ (.inr rfl) rfl
 ·have h := ifF c4 h
  refine aw_cond_f D_ rfl ?_
  refine aw_skip ?_
  refine hK2 _ ?_
  refine sr fun K6 hK6 => ?_
  refine pm 11 (.sl 1 (List.map enc5 a0)) ?_
  obtain ⟨x7, hx7, h⟩ := bnd_some h
  refine pP 12 (does_indexAddr_sl (el := .int .u8 (x7.toNat : Int)) W_ W_ ty28 ty5 D_ (by exact map_get hx7)) ?_
  refine pl 13 (.int .u8 (x7.toNat : Int)) ty5 ?_
  refine pP 14 (does_conv_int (v := .int .i64 (IntKind.i64.wrap (x7.toNat : Int))) W_ (ty_some ty5) (ty_int ty3) rfl) ?_
  refine pP 15 (do_build_struct (cs := [.int .i64 (IntKind.i64.wrap (x7.toNat : Int)), .int .i64 0, .nil, .int .i64 0, .int .i64 0, .str (strOf []), .str (strOf []), .nil]) ty27 rfl [⟨.int .i64, 1, 8, [.int .i64 0]⟩, ⟨.int .i64, 1, 8, [.int .i64 0]⟩, ⟨.slice 69, 1, 24, [.nil]⟩, ⟨.struct [(0, 3), (1, 3), (2, 9), (3, 9), (4, 23)], 5, 72, [.int .i64 0, .int .i64 0, .str ByteArray.empty, .str ByteArray.empty, .nil]⟩] (by simp only [List.map, ty22, ty25, ty3]) (by rfl) R_) ?_
  refine pD 4 (do_new ty27 rfl rfl) ?_
  refine alD none rfl rfl (do_store (cs' := [.int .i64 (IntKind.i64.wrap (x7.toNat : Int)), .int .i64 0, .nil, .int .i64 0, .int .i64 0, .str (strOf []), .str (strOf []), .nil]) W_ W_ W_ ty27 rfl rfl rfl R_) D_ ?_
  refine en hK6 ?_
  refine sr fun K8 hK8 => ?_
  refine pa 5 (.int .i64 0) ?_
  refine en hK8 ?_
  refine sr fun K9 hK9 => ?_
  refine pm 16 (.sl 1 (List.map enc5 a0)) ?_
  obtain ⟨g10, h⟩ := gd_some h
  refine pP 17 (does_slice_sl (l := 1) W_ ty28 ty5 (bd_some W_ R_) bd_none (by (try simp only [List.length_map]); omega) (by (try simp only [List.length_map]); omega) (by exact part_l _ _)) ?_
  refine pa 0 (.sl 1 (List.map enc5 (List.drop 1 a0))) ?_
  refine en hK9 ?_
  obtain ⟨q11, h, hk12⟩ := bnd_some h
  refine aw_cut (fun s => ∃ (v4_s_1_0 : Int), ∃ (v4_s_2_0 : List Span), ∃ (v4_s_3_0 : Int), ∃ (v4_s_4_0 : Int), ∃ (v4_s_5_0 : ByteArray), ∃ (v4_s_6_0 : ByteArray), ∃ (v4_s_7_0 : List Rule), ∃ (v5_0 : Int), keeper_ReadOp_k0 x7 v4_s_1_0 v4_s_2_0 v4_s_3_0 v4_s_4_0 v4_s_5_0 v4_s_6_0 v4_s_7_0 v5_0 = some r ∧ s = lit [(2, .ptr 2 0 0), (4, .ptr 4 0 0), (5, .int .i64 v5_0)] [((2, 0), .box [.int .i64 0, .int .i64 0, .nil, .int .i64 0, .int .i64 0, .str (strOf []), .str (strOf []), .nil]), ((4, 0), .box [.int .i64 (IntKind.i64.wrap (x7.toNat : Int)), .int .i64 v4_s_1_0, .sl 10 (List.map enc68 v4_s_2_0), .int .i64 v4_s_3_0, .int .i64 v4_s_4_0, .str v4_s_5_0, .str v4_s_6_0, .sl 5 (List.map enc24 v4_s_7_0)])] [(2, 1), (4, 1)] X) ?_ ?_
  ·skip
   refine sr fun K13 hK13 => ?_
   refine pf 18 (.ptr 4 0 0) ty27 ty3 ?_
   refine pl 19 (.int .i64 (IntKind.i64.wrap (x7.toNat : Int))) ty3 ?_
   refine en hK13 ?_
   refine aw_block ?_
   refine sr fun K14 hK14 => ?_
   refine pb 29 (.bool ((IntKind.i64.wrap (x7.toNat : Int)) == 1)) ?_
   refine pa 28 (.bool ((IntKind.i64.wrap (x7.toNat : Int)) == 1)) ?_
   refine en hK14 ?_
   refine aw_bool (b := ((IntKind.i64.wrap (x7.toNat : Int)) == 1)) 28 rfl (fun c15 => ?_) (fun c15 => ?_)
   ·have h := ifT c15 h
    refine aw_cond_t D_ rfl ?_
    refine aw_regL ?_
    refine pm 31 (.sl 1 (List.map enc5 (List.drop 1 a0))) ?_
    obtain ⟨x16, hx16, h⟩ := bnd_some h
    refine pD 32 (do_call0 32 false (batch_Read_ok (List.drop 1 a0) hx16) rfl ent18 rfl rfl) ?_
    refine pm 30 (.tup [.own 32 0, .int .i64 x16.2]) ?_
    refine pP 33 (does_extract (v := .own 32 0) W_ R_) ?_
    refine pP 34 (does_extract (v := .int .i64 x16.2) W_ R_) ?_
    refine pf 35 (.ptr 4 0 2) ty27 ty22 ?_
    refine alD none rfl rfl (do_store (cs' := [.int .i64 (IntKind.i64.wrap (x7.toNat : Int)), .int .i64 0, .own 32 0, .int .i64 0, .int .i64 0, .str (strOf []), .str (strOf []), .nil]) W_ W_ W_ ty22 rfl rfl rfl R_) D_ ?_
    refine pa 5 (.int .i64 x16.2) ?_
    refine al_nil ?_
    obtain rfl := Option.some.inj h
    have h := hk12
    exact ⟨_, reb_w (tl' := [(2, .ptr 2 0 0), (4, .ptr 4 0 0), (5, .int .i64 x16.2)]) (ol' := [((2, 0), .box [.int .i64 0, .int .i64 0, .nil, .int .i64 0, .int .i64 0, .str (strOf []), .str (strOf []), .nil]), ((4, 0), .box [.int .i64 (IntKind.i64.wrap (x7.toNat : Int)), .int .i64 (0), .sl 10 (List.map enc68 x16.1), .int .i64 (0), .int .i64 (0), .str (strOf []), .str (strOf []), .sl 5 (List.map enc24 [])])]) (reb_lit [(2, .ptr 2 0 0), (4, .ptr 4 0 0), (5, .int .i64 x16.2)] [(2, 0), (4, 0)] [((2, 0), .box [.int .i64 0, .int .i64 0, .nil, .int .i64 0, .int .i64 0, .str (strOf []), .str (strOf []), .nil]), ((4, 0), .box [.int .i64 (IntKind.i64.wrap (x7.toNat : Int)), .int .i64 (0), .sl 10 (List.map enc68 x16.1), .int .i64 (0), .int .i64 (0), .str (strOf []), .str (strOf []), .nil])] [(2, 1), (4, 1)] (ec (ec (ec envOk_nil))) (objOk_cons W_ W_ R_ (by simp) (objOk_cons W_ W_ R_ (by simp) objOk_nil)) (nodup_b rfl) (nodup_b rfl) rfl rfl) ⟨rfl, le_refl _, rfl, le_refl _, rfl, le_refl _, trivial⟩ ⟨rfl, .rfl _, rfl, (.box ⟨le_refl _, le_refl _, le_refl _, le_refl _, le_refl _, le_refl _, le_refl _, le_nil _, trivial⟩), trivial⟩, 0, x16.1, 0, 0, (strOf []), (strOf []), [], x16.2, h, rfl⟩
   ·have h := ifF c15 h
    refine aw_cond_f D_ rfl ?_
    refine sr fun K17 hK17 => ?_
    refine pb 37 (.bool ((IntKind.i64.wrap (x7.toNat : Int)) == 3)) ?_
    refine pa 36 (.bool ((IntKind.i64.wrap (x7.toNat : Int)) == 3)) ?_
    refine en hK17 ?_
    refine aw_bool (b := ((IntKind.i64.wrap (x7.toNat : Int)) == 3)) 36 rfl (fun c18 => ?_) (fun c18 => ?_)
    ·have h := ifT c18 h
     refine aw_cond_t D_ rfl ?_
     refine aw_regL ?_
     refine pm 39 (.sl 1 (List.map enc5 (List.drop 1 a0))) ?_
     obtain ⟨x19, hx19, h⟩ := bnd_some h
     refine pD 40 (do_call0 40 false (rule_Read_ok (List.drop 1 a0) hx19) rfl ent19 rfl rfl) ?_
     refine pm 38 (.tup [.agg [.int .i64 x19.1.Kind, .int .i64 x19.1.N, .str x19.1.Key, .str x19.1.Value, .sl 5 (List.map enc24 x19.1.Kids)], .int .i64 x19.2]) ?_
     refine pP 41 (does_extract (v := .agg [.int .i64 x19.1.Kind, .int .i64 x19.1.N, .str x19.1.Key, .str x19.1.Value, .sl 5 (List.map enc24 x19.1.Kids)]) W_ R_) ?_
     refine pP 42 (does_extract (v := .int .i64 x19.2) W_ R_) ?_
     refine pf 43 (.ptr 4 0 3) ty27 ty25 ?_
     refine alD none rfl rfl (do_store (cs' := [.int .i64 (IntKind.i64.wrap (x7.toNat : Int)), .int .i64 0, .nil, .int .i64 x19.1.Kind, .int .i64 x19.1.N, .str x19.1.Key, .str x19.1.Value, .sl 5 (List.map enc24 x19.1.Kids)]) W_ W_ W_ ty25 rfl rfl rfl R_) D_ ?_
     refine pa 5 (.int .i64 x19.2) ?_
     refine al_nil ?_
     obtain rfl := Option.some.inj h
     have h := hk12
     exact ⟨_, reb_w (tl' := [(2, .ptr 2 0 0), (4, .ptr 4 0 0), (5, .int .i64 x19.2)]) (ol' := [((2, 0), .box [.int .i64 0, .int .i64 0, .nil, .int .i64 0, .int .i64 0, .str (strOf []), .str (strOf []), .nil]), ((4, 0), .box [.int .i64 (IntKind.i64.wrap (x7.toNat : Int)), .int .i64 (0), .sl 10 (List.map enc68 []), .int .i64 x19.1.Kind, .int .i64 x19.1.N, .str x19.1.Key, .str x19.1.Value, .sl 5 (List.map enc24 x19.1.Kids)])]) (reb_lit [(2, .ptr 2 0 0), (4, .ptr 4 0 0), (5, .int .i64 x19.2)] [(2, 0), (4, 0)] [((2, 0), .box [.int .i64 0, .int .i64 0, .nil, .int .i64 0, .int .i64 0, .str (strOf []), .str (strOf []), .nil]), ((4, 0), .box [.int .i64 (IntKind.i64.wrap (x7.toNat : Int)), .int .i64 (0), .nil, .int .i64 x19.1.Kind, .int .i64 x19.1.N, .str x19.1.Key, .str x19.1.Value, .sl 5 (List.map enc24 x19.1.Kids)])] [(2, 1), (4, 1)] (ec (ec (ec envOk_nil))) (objOk_cons W_ W_ R_ (by simp) (objOk_cons W_ W_ R_ (by simp) objOk_nil)) (nodup_b rfl) (nodup_b rfl) rfl rfl) ⟨rfl, le_refl _, rfl, le_refl _, rfl, le_refl _, trivial⟩ ⟨rfl, .rfl _, rfl, (.box ⟨le_refl _, le_refl _, le_nil _, le_refl _, le_refl _, le_refl _, le_refl _, le_refl _, trivial⟩), trivial⟩, 0, [], x19.1.Kind, x19.1.N, x19.1.Key, x19.1.Value, x19.1.Kids, x19.2, h, rfl⟩
    ·have h := ifF c18 h
     refine aw_cond_f D_ rfl ?_
     refine sr fun K20 hK20 => ?_
     refine pb 45 (.bool ((IntKind.i64.wrap (x7.toNat : Int)) == 2)) ?_
     refine pa 44 (.bool ((IntKind.i64.wrap (x7.toNat : Int)) == 2)) ?_
     refine en hK20 ?_
     refine aw_bool (b := ((IntKind.i64.wrap (x7.toNat : Int)) == 2)) 44 rfl (fun c21 => ?_) (fun c21 => ?_)
     ·have h := ifT c21 h
      refine aw_cond_t D_ rfl ?_
      refine sr fun K22 hK22 => ?_
      refine pm 46 (.sl 1 (List.map enc5 (List.drop 1 a0))) ?_
      refine pP 47 (do_build_struct (cs := [.sl 1 (List.map enc5 (List.drop 1 a0)), .bool false]) ty54 rfl [⟨.slice 5, 1, 24, [.nil]⟩, ⟨.bool, 1, 1, [.bool false]⟩] (by simp only [List.map, ty28, ty4]) (by rfl) R_) ?_
      refine pD 48 (do_box W_ rfl rfl) ?_
      refine pa 6 (.ptr 48 0 0) ?_
      refine en hK22 ?_
      refine sr fun K23 hK23 => ?_
      refine pm 49 (.ptr 48 0 0) ?_
      obtain ⟨x24, hx24, h⟩ := bnd_some h
      refine pD 50 (do_callG (bcs := [[.sl 1 (List.map enc5 (List.drop 1 a0)), .bool false]]) [(48, 0)] [] [] 50 false (ints_Reader_Num_ok (Reader.mk (List.drop 1 a0) false) 1099511627776 hx24) rfl ent20 ⟨R_, trivial⟩ trivial rfl rfl rfl rfl rfl rfl rfl rfl (.inl trivial)) ?_
      refine pf 51 (.ptr 4 0 1) ty27 ty3 ?_
      refine alD none rfl rfl (do_store (cs' := [.int .i64 (IntKind.i64.wrap (x7.toNat : Int)), .int .i64 x24.1, .nil, .int .i64 0, .int .i64 0, .str (strOf []), .str (strOf []), .nil]) W_ W_ W_ ty3 rfl rfl rfl R_) D_ ?_
      refine en hK23 ?_
      refine sr fun K25 hK25 => ?_
      refine pm 52 (.ptr 48 0 0) ?_
      refine pP 53 (does_nilCheck (p := .ptr 48 0 0) W_ rfl) ?_
      refine pf 54 (.ptr 48 0 1) ty54 ty4 ?_
      refine pl 55 (.bool x24.2.Bad) ty4 ?_
      refine pm 56 (.bool x24.2.Bad) ?_
      refine al_bool (c := x24.2.Bad) 56 rfl (fun c26 => ?_) (fun c26 => ?_)
      ·have h := ifT c26 h
       refine pS 57 ?_
       refine pS 58 ?_
       refine pS 59 ?_
       refine pS 60 ?_
       refine pS 61 ?_
       refine pS 62 ?_
       refine pk 63 (.bool true) ?_
       refine en hK25 ?_
       refine aw_cond_t D_ rfl ?_
       refine aw_regL ?_
       refine pa 5 (.int .i64 2) ?_
       refine al_nil ?_
       obtain rfl := Option.some.inj h
       have h := hk12
       exact ⟨_, reb_w (tl' := [(2, .ptr 2 0 0), (4, .ptr 4 0 0), (5, .int .i64 (2))]) (ol' := [((2, 0), .box [.int .i64 0, .int .i64 0, .nil, .int .i64 0, .int .i64 0, .str (strOf []), .str (strOf []), .nil]), ((4, 0), .box [.int .i64 (IntKind.i64.wrap (x7.toNat : Int)), .int .i64 x24.1, .sl 10 (List.map enc68 []), .int .i64 (0), .int .i64 (0), .str (strOf []), .str (strOf []), .sl 5 (List.map enc24 [])])]) (reb_lit [(2, .ptr 2 0 0), (4, .ptr 4 0 0), (5, .int .i64 (2))] [(2, 0), (4, 0)] [((2, 0), .box [.int .i64 0, .int .i64 0, .nil, .int .i64 0, .int .i64 0, .str (strOf []), .str (strOf []), .nil]), ((4, 0), .box [.int .i64 (IntKind.i64.wrap (x7.toNat : Int)), .int .i64 x24.1, .nil, .int .i64 (0), .int .i64 (0), .str (strOf []), .str (strOf []), .nil])] [(2, 1), (4, 1)] (ec (ec (ec envOk_nil))) (objOk_cons W_ W_ R_ (by simp) (objOk_cons W_ W_ R_ (by simp) objOk_nil)) (nodup_b rfl) (nodup_b rfl) rfl rfl) ⟨rfl, le_refl _, rfl, le_refl _, rfl, le_refl _, trivial⟩ ⟨rfl, .rfl _, rfl, (.box ⟨le_refl _, le_refl _, le_nil _, le_refl _, le_refl _, le_refl _, le_refl _, le_nil _, trivial⟩), trivial⟩, x24.1, [], 0, 0, (strOf []), (strOf []), [], 2, h, rfl⟩
      ·have h := ifF c26 h
       refine pm 57 (.ptr 48 0 0) ?_
       refine pP 58 (does_nilCheck (p := .ptr 48 0 0) W_ rfl) ?_
       refine pf 59 (.ptr 48 0 0) ty54 ty28 ?_
       refine pl 60 (.sl 1 (List.map enc5 x24.2.B)) ty28 ?_
       refine pP 61 ((does_len_sl W_ ty28).castp (v' := .int .i64 (List.length x24.2.B : Int)) (by exact len_map _)) ?_
       refine pb 62 (.bool (decide ((0 : Int) < (List.length x24.2.B : Int)))) ?_
       refine pk 63 (.bool (decide ((0 : Int) < (List.length x24.2.B : Int)))) ?_
       refine en hK25 ?_
       refine aw_bool (b := (decide ((0 : Int) < (List.length x24.2.B : Int)))) 63 rfl (fun c27 => ?_) (fun c27 => ?_)
       ·have h := ifT c27 h
        refine aw_cond_t D_ rfl ?_
        refine aw_regL ?_
        refine pa 5 (.int .i64 2) ?_
        refine al_nil ?_
        obtain rfl := Option.some.inj h
        have h := hk12
        exact ⟨_, reb_w (tl' := [(2, .ptr 2 0 0), (4, .ptr 4 0 0), (5, .int .i64 (2))]) (ol' := [((2, 0), .box [.int .i64 0, .int .i64 0, .nil, .int .i64 0, .int .i64 0, .str (strOf []), .str (strOf []), .nil]), ((4, 0), .box [.int .i64 (IntKind.i64.wrap (x7.toNat : Int)), .int .i64 x24.1, .sl 10 (List.map enc68 []), .int .i64 (0), .int .i64 (0), .str (strOf []), .str (strOf []), .sl 5 (List.map enc24 [])])]) (reb_lit [(2, .ptr 2 0 0), (4, .ptr 4 0 0), (5, .int .i64 (2))] [(2, 0), (4, 0)] [((2, 0), .box [.int .i64 0, .int .i64 0, .nil, .int .i64 0, .int .i64 0, .str (strOf []), .str (strOf []), .nil]), ((4, 0), .box [.int .i64 (IntKind.i64.wrap (x7.toNat : Int)), .int .i64 x24.1, .nil, .int .i64 (0), .int .i64 (0), .str (strOf []), .str (strOf []), .nil])] [(2, 1), (4, 1)] (ec (ec (ec envOk_nil))) (objOk_cons W_ W_ R_ (by simp) (objOk_cons W_ W_ R_ (by simp) objOk_nil)) (nodup_b rfl) (nodup_b rfl) rfl rfl) ⟨rfl, le_refl _, rfl, le_refl _, rfl, le_refl _, trivial⟩ ⟨rfl, .rfl _, rfl, (.box ⟨le_refl _, le_refl _, le_nil _, le_refl _, le_refl _, le_refl _, le_refl _, le_nil _, trivial⟩), trivial⟩, x24.1, [], 0, 0, (strOf []), (strOf []), [], 2, h, rfl⟩
       ·have h := ifF c27 h
        refine aw_cond_f D_ rfl ?_
        refine aw_skip ?_
        obtain rfl := Option.some.inj h
        have h := hk12
        exact ⟨_, reb_w (tl' := [(2, .ptr 2 0 0), (4, .ptr 4 0 0), (5, .int .i64 (0))]) (ol' := [((2, 0), .box [.int .i64 0, .int .i64 0, .nil, .int .i64 0, .int .i64 0, .str (strOf []), .str (strOf []), .nil]), ((4, 0), .box [.int .i64 (IntKind.i64.wrap (x7.toNat : Int)), .int .i64 x24.1, .sl 10 (List.map enc68 []), .int .i64 (0), .int .i64 (0), .str (strOf []), .str (strOf []), .sl 5 (List.map enc24 [])])]) (reb_lit [(2, .ptr 2 0 0), (4, .ptr 4 0 0), (5, .int .i64 (0))] [(2, 0), (4, 0)] [((2, 0), .box [.int .i64 0, .int .i64 0, .nil, .int .i64 0, .int .i64 0, .str (strOf []), .str (strOf []), .nil]), ((4, 0), .box [.int .i64 (IntKind.i64.wrap (x7.toNat : Int)), .int .i64 x24.1, .nil, .int .i64 (0), .int .i64 (0), .str (strOf []), .str (strOf []), .nil])] [(2, 1), (4, 1)] (ec (ec (ec envOk_nil))) (objOk_cons W_ W_ R_ (by simp) (objOk_cons W_ W_ R_ (by simp) objOk_nil)) (nodup_b rfl) (nodup_b rfl) rfl rfl) ⟨rfl, le_refl _, rfl, le_refl _, rfl, le_refl _, trivial⟩ ⟨rfl, .rfl _, rfl, (.box ⟨le_refl _, le_refl _, le_nil _, le_refl _, le_refl _, le_refl _, le_refl _, le_nil _, trivial⟩), trivial⟩, x24.1, [], 0, 0, (strOf []), (strOf []), [], 0, h, rfl⟩
     ·have h := ifF c21 h
      refine aw_cond_f D_ rfl ?_
      refine sr fun K28 hK28 => ?_
      refine pf 20 (.ptr 4 0 0) ty27 ty3 ?_
      refine pl 21 (.int .i64 (IntKind.i64.wrap (x7.toNat : Int))) ty3 ?_
      refine pb 22 (.bool ((IntKind.i64.wrap (x7.toNat : Int)) != 4)) ?_
      refine pm 23 (.bool ((IntKind.i64.wrap (x7.toNat : Int)) != 4)) ?_
      refine al_bool (c := ((IntKind.i64.wrap (x7.toNat : Int)) != 4)) 23 rfl (fun c29 => ?_) (fun c29 => ?_)
      ·have h := ifT c29 h
       refine pS 24 ?_
       refine pS 25 ?_
       refine pS 26 ?_
       refine pk 27 (.bool true) ?_
       refine en hK28 ?_
       refine aw_cond_t D_ rfl ?_
       refine aw_regL ?_
       refine pa 5 (.int .i64 2) ?_
       refine al_nil ?_
       obtain rfl := Option.some.inj h
       have h := hk12
       exact ⟨_, reb_w (tl' := [(2, .ptr 2 0 0), (4, .ptr 4 0 0), (5, .int .i64 (2))]) (ol' := [((2, 0), .box [.int .i64 0, .int .i64 0, .nil, .int .i64 0, .int .i64 0, .str (strOf []), .str (strOf []), .nil]), ((4, 0), .box [.int .i64 (IntKind.i64.wrap (x7.toNat : Int)), .int .i64 (0), .sl 10 (List.map enc68 []), .int .i64 (0), .int .i64 (0), .str (strOf []), .str (strOf []), .sl 5 (List.map enc24 [])])]) (reb_lit [(2, .ptr 2 0 0), (4, .ptr 4 0 0), (5, .int .i64 (2))] [(2, 0), (4, 0)] [((2, 0), .box [.int .i64 0, .int .i64 0, .nil, .int .i64 0, .int .i64 0, .str (strOf []), .str (strOf []), .nil]), ((4, 0), .box [.int .i64 (IntKind.i64.wrap (x7.toNat : Int)), .int .i64 (0), .nil, .int .i64 (0), .int .i64 (0), .str (strOf []), .str (strOf []), .nil])] [(2, 1), (4, 1)] (ec (ec (ec envOk_nil))) (objOk_cons W_ W_ R_ (by simp) (objOk_cons W_ W_ R_ (by simp) objOk_nil)) (nodup_b rfl) (nodup_b rfl) rfl rfl) ⟨rfl, le_refl _, rfl, le_refl _, rfl, le_refl _, trivial⟩ ⟨rfl, .rfl _, rfl, (.box ⟨le_refl _, le_refl _, le_nil _, le_refl _, le_refl _, le_refl _, le_refl _, le_nil _, trivial⟩), trivial⟩, 0, [], 0, 0, (strOf []), (strOf []), [], 2, h, rfl⟩
      ·have h := ifF c29 h
       refine pm 24 (.sl 1 (List.map enc5 (List.drop 1 a0))) ?_
       refine pP 25 ((does_len_sl W_ ty28).castp (v' := .int .i64 (List.length (List.drop 1 a0) : Int)) (by exact len_map _)) ?_
       refine pb 26 (.bool (decide ((0 : Int) < (List.length (List.drop 1 a0) : Int)))) ?_
       refine pk 27 (.bool (decide ((0 : Int) < (List.length (List.drop 1 a0) : Int)))) ?_
       refine en hK28 ?_
       refine aw_bool (b := (decide ((0 : Int) < (List.length (List.drop 1 a0) : Int)))) 27 rfl (fun c30 => ?_) (fun c30 => ?_)
       ·have h := ifT c30 h
        refine aw_cond_t D_ rfl ?_
        refine aw_regL ?_
        refine pa 5 (.int .i64 2) ?_
        refine al_nil ?_
        obtain rfl := Option.some.inj h
        have h := hk12
        exact ⟨_, reb_w (tl' := [(2, .ptr 2 0 0), (4, .ptr 4 0 0), (5, .int .i64 (2))]) (ol' := [((2, 0), .box [.int .i64 0, .int .i64 0, .nil, .int .i64 0, .int .i64 0, .str (strOf []), .str (strOf []), .nil]), ((4, 0), .box [.int .i64 (IntKind.i64.wrap (x7.toNat : Int)), .int .i64 (0), .sl 10 (List.map enc68 []), .int .i64 (0), .int .i64 (0), .str (strOf []), .str (strOf []), .sl 5 (List.map enc24 [])])]) (reb_lit [(2, .ptr 2 0 0), (4, .ptr 4 0 0), (5, .int .i64 (2))] [(2, 0), (4, 0)] [((2, 0), .box [.int .i64 0, .int .i64 0, .nil, .int .i64 0, .int .i64 0, .str (strOf []), .str (strOf []), .nil]), ((4, 0), .box [.int .i64 (IntKind.i64.wrap (x7.toNat : Int)), .int .i64 (0), .nil, .int .i64 (0), .int .i64 (0), .str (strOf []), .str (strOf []), .nil])] [(2, 1), (4, 1)] (ec (ec (ec envOk_nil))) (objOk_cons W_ W_ R_ (by simp) (objOk_cons W_ W_ R_ (by simp) objOk_nil)) (nodup_b rfl) (nodup_b rfl) rfl rfl) ⟨rfl, le_refl _, rfl, le_refl _, rfl, le_refl _, trivial⟩ ⟨rfl, .rfl _, rfl, (.box ⟨le_refl _, le_refl _, le_nil _, le_refl _, le_refl _, le_refl _, le_refl _, le_nil _, trivial⟩), trivial⟩, 0, [], 0, 0, (strOf []), (strOf []), [], 2, h, rfl⟩
       ·have h := ifF c30 h
        refine aw_cond_f D_ rfl ?_
        refine aw_skip ?_
        obtain rfl := Option.some.inj h
        have h := hk12
        exact ⟨_, reb_w (tl' := [(2, .ptr 2 0 0), (4, .ptr 4 0 0), (5, .int .i64 (0))]) (ol' := [((2, 0), .box [.int .i64 0, .int .i64 0, .nil, .int .i64 0, .int .i64 0, .str (strOf []), .str (strOf []), .nil]), ((4, 0), .box [.int .i64 (IntKind.i64.wrap (x7.toNat : Int)), .int .i64 (0), .sl 10 (List.map enc68 []), .int .i64 (0), .int .i64 (0), .str (strOf []), .str (strOf []), .sl 5 (List.map enc24 [])])]) (reb_lit [(2, .ptr 2 0 0), (4, .ptr 4 0 0), (5, .int .i64 (0))] [(2, 0), (4, 0)] [((2, 0), .box [.int .i64 0, .int .i64 0, .nil, .int .i64 0, .int .i64 0, .str (strOf []), .str (strOf []), .nil]), ((4, 0), .box [.int .i64 (IntKind.i64.wrap (x7.toNat : Int)), .int .i64 (0), .nil, .int .i64 (0), .int .i64 (0), .str (strOf []), .str (strOf []), .nil])] [(2, 1), (4, 1)] (ec (ec (ec envOk_nil))) (objOk_cons W_ W_ R_ (by simp) (objOk_cons W_ W_ R_ (by simp) objOk_nil)) (nodup_b rfl) (nodup_b rfl) rfl rfl) ⟨rfl, le_refl _, rfl, le_refl _, rfl, le_refl _, trivial⟩ ⟨rfl, .rfl _, rfl, (.box ⟨le_refl _, le_refl _, le_nil _, le_refl _, le_refl _, le_refl _, le_refl _, le_nil _, trivial⟩), trivial⟩, 0, [], 0, 0, (strOf []), (strOf []), [], 0, h, rfl⟩
  ·rintro s ⟨v4_s_1_0, v4_s_2_0, v4_s_3_0, v4_s_4_0, v4_s_5_0, v4_s_6_0, v4_s_7_0, v5_0, h, rfl⟩
   unfold keeper_ReadOp_k0 at h
   refine aw_seq_k (fun K31 hK31 => ?_)
   refine sr fun K32 hK32 => ?_
   refine pm 64 (.int .i64 v5_0) ?_
   refine pb 65 (.bool (v5_0 != 0)) ?_
   refine en hK32 ?_
   refine aw_bool (b := (v5_0 != 0)) 65 rfl (fun c33 => ?_) (fun c33 => ?_)
   ·have h := ifT c33 h
    refine aw_cond_t D_ rfl ?_
    refine sr fun K34 hK34 => ?_
    refine pP 66 (do_build_struct (cs := [.int .i64 0, .int .i64 0, .nil, .int .i64 0, .int .i64 0, .str (strOf []), .str (strOf []), .nil]) ty27 rfl [⟨.int .i64, 1, 8, [.int .i64 0]⟩, ⟨.int .i64, 1, 8, [.int .i64 0]⟩, ⟨.slice 69, 1, 24, [.nil]⟩, ⟨.struct [(0, 3), (1, 3), (2, 9), (3, 9), (4, 23)], 5, 72, [.int .i64 0, .int .i64 0, .str ByteArray.empty, .str ByteArray.empty, .nil]⟩] (by simp only [List.map, ty22, ty25, ty3]) (by rfl) R_) ?_
    refine alD none rfl rfl (do_store (cs' := [.int .i64 0, .int .i64 0, .nil, .int .i64 0, .int .i64 0, .str (strOf []), .str (strOf []), .nil]) W_ W_ W_ ty27 rfl rfl rfl R_) D_ ?_
    refine pa 3 (.int .i64 2) ?_
    refine en hK34 ?_
    refine aw_reb (reb_w (tl' := [(2, .ptr 2 0 0), (3, .int .i64 2)]) (ol' := [((2, 0), .box [.int .i64 0, .int .i64 0, .sl 10 (List.map enc68 []), .int .i64 0, .int .i64 0, .str (strOf []), .str (strOf []), .sl 5 (List.map enc24 [])])]) (reb_lit [(2, .ptr 2 0 0), (3, .int .i64 2)] [(2, 0)] [((2, 0), .box [.int .i64 0, .int .i64 0, .nil, .int .i64 0, .int .i64 0, .str (strOf []), .str (strOf []), .nil])] [(2, 1)] (ec (ec envOk_nil)) (objOk_cons W_ W_ R_ (by simp) objOk_nil) (nodup_b rfl) (nodup_b rfl) rfl rfl) ⟨rfl, le_refl _, rfl, le_refl _, trivial⟩ ⟨rfl, (.box ⟨le_refl _, le_refl _, le_nil _, le_refl _, le_refl _, le_refl _, le_refl _, le_nil _, trivial⟩), trivial⟩) ?_
    refine aw_ret ?_
    obtain rfl := Option.some.inj h
    exact ret_ok1 W_ W_ R_ (.inr rfl) rfl
   ·have h := ifF c33 h
    refine aw_cond_f D_ rfl ?_
    refine aw_skip ?_
    refine hK31 _ ?_
    refine sr fun K35 hK35 => ?_
    refine pl 67 (.agg [.int .i64 (IntKind.i64.wrap (x7.toNat : Int)), .int .i64 v4_s_1_0, .sl 10 (List.map enc68 v4_s_2_0), .int .i64 v4_s_3_0, .int .i64 v4_s_4_0, .str v4_s_5_0, .str v4_s_6_0, .sl 5 (List.map enc24 v4_s_7_0)]) ty27 ?_
    refine alD none rfl rfl (do_store (cs' := [.int .i64 (IntKind.i64.wrap (x7.toNat : Int)), .int .i64 v4_s_1_0, .sl 10 (List.map enc68 v4_s_2_0), .int .i64 v4_s_3_0, .int .i64 v4_s_4_0, .str v4_s_5_0, .str v4_s_6_0, .sl 5 (List.map enc24 v4_s_7_0)]) W_ W_ W_ ty27 rfl rfl rfl R_) D_ ?_
    refine pa 3 (.int .i64 0) ?_
    refine en hK35 ?_
    refine aw_ret ?_
    obtain rfl := Option.some.inj h
    exact ret_ok1 W_ W_ R_ (.inr rfl) rfl
def model_within_c1 (a0 : Int) (a1 : Int) (a2 : Int) : Option Bool :=
 if (decide (a0 < a1)) = true then (some true) else (some (decide (a2 < a0)))
theorem model_within_c1_ok (a0 : Int) (a1 : Int) (a2 : Int) {r : Bool} (h : model_within_c1 a0 a1 a2 = some r) : Ok Try.prog 54 [.int .i64 a0, .rptr [.int .i64 a1], .rptr [.int .i64 a2]] [] [] (.bool r) [] [] := by
 unfold model_within_c1 at h
 refine ok_of_code Try.func54 rfl (by show (3 : Nat) ≤ _; decide) (Nat.le_refl _) fun X => ?_
 refine sr fun K1 hK1 => ?_
 refine pa 4 (.bool false) ?_
 refine en hK1 ?_
 refine sr fun K2 hK2 => ?_
 refine pm 5 (.int .i64 a0) ?_
 refine pl 6 (.int .i64 a1) ty3 ?_
 refine pb 7 (.bool (decide (a0 < a1))) ?_
 refine pm 8 (.bool (decide (a0 < a1))) ?_
 refine al_bool (c := (decide (a0 < a1))) 8 rfl (fun c3 => ?_) (fun c3 => ?_)
 ·have h := ifT c3 h
  refine pS 9 ?_
  refine pS 10 ?_
  refine pS 11 ?_
  refine pk 12 (.bool true) ?_
  refine pa 4 (.bool true) ?_
  refine en hK2 ?_
  refine aw_ret ?_
  obtain rfl := Option.some.inj h
  exact ret_ok1 W_ W_ R_ (.inr rfl) rfl
 ·have h := ifF c3 h
  refine pm 9 (.int .i64 a0) ?_
  refine pl 10 (.int .i64 a2) ty3 ?_
  refine pb 11 (.bool (decide (a2 < a0))) ?_
  refine pk 12 (.bool (decide (a2 < a0))) ?_
  refine pa 4 (.bool (decide (a2 < a0))) ?_
  refine en hK2 ?_
  refine aw_ret ?_
  obtain rfl := Option.some.inj h
  exact ret_ok1 W_ W_ R_ (.inr rfl) rfl
def slices_IndexFunc_int_model_within_c1_l0 (a0 : List Int) (a1_0 : Int) (a1_1 : Int) (v8_0 : Int) : Option (Int ⊕ Int) :=
 if (decide (v8_0 < (List.length a0 : Int))) = true then (gd (0 ≤ v8_0) (Option.bind (a0[(Int.toNat v8_0)]?) (fun (x13 : Int) => Option.bind (model_within_c1 x13 a1_0 a1_1) (fun (x14 : Bool) => if x14 = true then (some (Sum.inr v8_0)) else (some (Sum.inl (IntKind.i64.wrap (v8_0 + 1)))))))) else (some (Sum.inr (-1)))
def slices_IndexFunc_int_model_within_c1 (a0 : List Int) (a1_0 : Int) (a1_1 : Int) : Option Int :=
 loopN (fun (s : Int) => slices_IndexFunc_int_model_within_c1_l0 a0 a1_0 a1_1 s) Fu 0
theorem slices_IndexFunc_int_model_within_c1_ok (a0 : List Int) (a1_0 : Int) (a1_1 : Int) {r : Int} (h : slices_IndexFunc_int_model_within_c1 a0 a1_0 a1_1 = some r) : Ok Try.prog 80 [.sl 1 (List.map enc2 a0), .fn 54 [.rptr [.int .i64 a1_0], .rptr [.int .i64 a1_1]]] [] [] (.int .i64 r) [] [] := by
 unfold slices_IndexFunc_int_model_within_c1 at h
 refine ok_of_code Try.func80 rfl (by show (2 : Nat) ≤ _; decide) (Nat.le_refl _) fun X => ?_
 refine sr fun K1 hK1 => ?_
 refine pa 4 (.int .i64 0) ?_
 refine en hK1 ?_
 refine aw_seq_k (fun K2 hK2 => ?_)
 refine sr fun K3 hK3 => ?_
 refine pm 6 (.sl 1 (List.map enc2 a0)) ?_
 refine pP 7 ((does_len_sl W_ ty92).castp (v' := .int .i64 (List.length a0 : Int)) (by exact len_map _)) ?_
 refine pm 8 (.int .i64 0) ?_
 refine en hK3 ?_
 refine aw_block ?_
 refine aw_loop' (fun m s => ∃ (v8_0 : Int), loopN (fun (s : Int) => slices_IndexFunc_int_model_within_c1_l0 a0 a1_0 a1_1 s) m v8_0 = some r ∧ s = lit [(0, .sl 1 (List.map enc2 a0)), (1, .fn 54 [.rptr [.int .i64 a1_0], .rptr [.int .i64 a1_1]]), (7, .int .i64 (List.length a0 : Int)), (8, .int .i64 v8_0)] [] [] X) Fu
  ⟨_, reb_lit [(0, .sl 1 (List.map enc2 a0)), (1, .fn 54 [.rptr [.int .i64 a1_0], .rptr [.int .i64 a1_1]]), (7, .int .i64 (List.length a0 : Int)), (8, .int .i64 (0))] [] [] [] (ec (ec (ec (ec envOk_nil)))) objOk_nil (nodup_b rfl) (nodup_b rfl) rfl rfl, 0, h, rfl⟩ ?_
 rintro m s ⟨v8_0, h, rfl⟩
 obtain ⟨m0, q4, rfl, h, hq5⟩ := loop_some h
 replace h : slices_IndexFunc_int_model_within_c1_l0 a0 a1_0 a1_1 v8_0 = some q4 := h
 unfold slices_IndexFunc_int_model_within_c1_l0 at h
 refine sr fun K6 hK6 => ?_
 refine pb 9 (.bool (decide (v8_0 < (List.length a0 : Int)))) ?_
 refine en hK6 ?_
 refine aw_seq_k (fun K7 hK7 => ?_)
 refine aw_bool (b := (decide (v8_0 < (List.length a0 : Int)))) 9 rfl (fun c8 => ?_) (fun c8 => ?_)
 ·have h := ifT c8 h
  refine aw_cond_t D_ rfl ?_
  refine aw_skip ?_
  refine hK7 _ ?_
  refine aw_seq_k (fun K9 hK9 => ?_)
  refine aw_block ?_
  refine sr fun K10 hK10 => ?_
  refine pm 10 (.int .i64 v8_0) ?_
  refine pa 5 (.int .i64 v8_0) ?_
  refine en hK10 ?_
  refine sr fun K11 hK11 => ?_
  refine pm 11 (.fn 54 [.rptr [.int .i64 a1_0], .rptr [.int .i64 a1_1]]) ?_
  refine pm 12 (.sl 1 (List.map enc2 a0)) ?_
  refine pm 13 (.int .i64 v8_0) ?_
  obtain ⟨g12, h⟩ := gd_some h
  obtain ⟨x13, hx13, h⟩ := bnd_some h
  refine pP 14 (does_indexAddr_sl (el := .int .i64 x13) W_ W_ ty92 ty3 g12 (by exact map_get hx13)) ?_
  refine pl 15 (.int .i64 x13) ty3 ?_
  obtain ⟨x14, hx14, h⟩ := bnd_some h
  refine pD 16 (do_call0 16 false (model_within_c1_ok x13 a1_0 a1_1 hx14) rfl ent54 rfl rfl) ?_
  refine en hK11 ?_
  refine aw_bool (b := x14) 16 rfl (fun c15 => ?_) (fun c15 => ?_)
  ·have h := ifT c15 h
   refine aw_cond_t D_ rfl ?_
   refine sr fun K16 hK16 => ?_
   refine pm 17 (.int .i64 v8_0) ?_
   refine pa 4 (.int .i64 v8_0) ?_
   refine en hK16 ?_
   refine aw_ret ?_
   have h := leafR h hq5
   obtain rfl := Option.some.inj h
   exact ret_ok1 W_ W_ R_ (.inr rfl) rfl
  ·have h := ifF c15 h
   refine aw_cond_f D_ rfl ?_
   refine aw_skip ?_
   refine hK9 _ ?_
   refine aw_regL ?_
   refine pb 18 (.int .i64 (IntKind.i64.wrap (v8_0 + 1))) ?_
   refine pm 8 (.int .i64 (IntKind.i64.wrap (v8_0 + 1))) ?_
   refine al_nil ?_
   have h := leafL h hq5
   exact ⟨m0, Nat.lt_succ_self _, _, reb_lit [(0, .sl 1 (List.map enc2 a0)), (1, .fn 54 [.rptr [.int .i64 a1_0], .rptr [.int .i64 a1_1]]), (7, .int .i64 (List.length a0 : Int)), (8, .int .i64 (IntKind.i64.wrap (v8_0 + 1)))] [] [] [] (ec (ec (ec (ec envOk_nil)))) objOk_nil (nodup_b rfl) (nodup_b rfl) rfl rfl, (IntKind.i64.wrap (v8_0 + 1)), h, rfl⟩
 ·have h := ifF c8 h
  refine aw_cond_f D_ rfl ?_
  refine aw_exit ?_
  have h := leafR h hq5
  refine hK2 _ ?_
  refine sr fun K17 hK17 => ?_
  refine pa 4 (.int .i64 (-1)) ?_
  refine en hK17 ?_
  refine aw_ret ?_
  obtain rfl := Option.some.inj h
  exact ret_ok1 W_ W_ R_ (.inr rfl) rfl
def slices_ContainsFunc_int_model_within_c1 (a0 : List Int) (a1_0 : Int) (a1_1 : Int) : Option Bool :=
 Option.bind (slices_IndexFunc_int_model_within_c1 a0 a1_0 a1_1) (fun (x3 : Int) => some (decide ((0 : Int) ≤ x3)))
theorem slices_ContainsFunc_int_model_within_c1_ok (a0 : List Int) (a1_0 : Int) (a1_1 : Int) {r : Bool} (h : slices_ContainsFunc_int_model_within_c1 a0 a1_0 a1_1 = some r) : Ok Try.prog 53 [.sl 1 (List.map enc2 a0), .fn 54 [.rptr [.int .i64 a1_0], .rptr [.int .i64 a1_1]]] [] [] (.bool r) [] [] := by
 unfold slices_ContainsFunc_int_model_within_c1 at h
 refine ok_of_code Try.func53 rfl (by show (2 : Nat) ≤ _; decide) (Nat.le_refl _) fun X => ?_
 refine sr fun K1 hK1 => ?_
 refine pa 4 (.bool false) ?_
 refine en hK1 ?_
 refine sr fun K2 hK2 => ?_
 refine pm 5 (.sl 1 (List.map enc2 a0)) ?_
 refine pm 6 (.fn 54 [.rptr [.int .i64 a1_0], .rptr [.int .i64 a1_1]]) ?_
 obtain ⟨x3, hx3, h⟩ := bnd_some h
 refine pD 7 (do_call0 7 false (slices_IndexFunc_int_model_within_c1_ok a0 a1_0 a1_1 hx3) rfl ent80 rfl rfl) ?_
 refine pb 8 (.bool (decide ((0 : Int) ≤ x3))) ?_
 refine pa 4 (.bool (decide ((0 : Int) ≤ x3))) ?_
 refine en hK2 ?_
 refine aw_ret ?_
 obtain rfl := Option.some.inj h
 exact ret_ok1 W_ W_ R_ (.inr rfl) rfl
def model_within (a0 : Int) (a1 : Int) (a2 : List Int) : Option Bool :=
 Option.bind (slices_ContainsFunc_int_model_within_c1 a2 a0 a1) (fun (x3 : Bool) => some (!x3))
theorem model_within_ok (a0 : Int) (a1 : Int) (a2 : List Int) {r : Bool} (h : model_within a0 a1 a2 = some r) : Ok Try.prog 32 [.int .i64 a0, .int .i64 a1, .sl 1 (List.map enc2 a2)] [] [] (.bool r) [] [] := by
 unfold model_within at h
 refine ok_of_code Try.func32 rfl (by show (3 : Nat) ≤ _; decide) (Nat.le_refl _) fun X => ?_
 refine sr fun K1 hK1 => ?_
 refine pD 3 (do_box W_ rfl rfl) ?_
 refine pD 4 (do_box W_ rfl rfl) ?_
 refine pa 6 (.bool false) ?_
 refine en hK1 ?_
 refine sr fun K2 hK2 => ?_
 refine pm 7 (.sl 1 (List.map enc2 a2)) ?_
 refine pP 8 (does_makeFunc (vs := [.ptr 3 0 0, .ptr 4 0 0]) rfl) ?_
 obtain ⟨x3, hx3, h⟩ := bnd_some h
 refine pD 9 (do_callG (bcs := []) [] [] [(3, 0), (4, 0)] 9 false (slices_ContainsFunc_int_model_within_c1_ok a2 a0 a1 hx3) rfl ent53 trivial trivial rfl rfl rfl rfl rfl rfl rfl rfl (.inr ⟨rfl, rfl, trivial⟩)) ?_
 refine pP 10 (does_un (v := .bool (!x3)) W_ rfl) ?_
 refine pa 6 (.bool (!x3)) ?_
 refine en hK2 ?_
 refine aw_ret ?_
 obtain rfl := Option.some.inj h
 exact ret_ok1 W_ W_ R_ (.inr rfl) rfl
def model_May (a0 : OpG) : Option Bool :=
 if (a0.Kind == 1) = true then (Option.bind (batch_Right a0.Spans) (fun (x7 : Bool) => some x7)) else (if (a0.Kind == 2) = true then (Option.bind (model_within 0 1099511627776 [a0.N]) (fun (x11 : Bool) => some x11)) else (if (a0.Kind == 3) = true then (Option.bind (rule_Right a0.Policy) (fun (x15 : Bool) => some x15)) else (some (a0.Kind == 4))))
theorem model_May_ok (a0 : OpG) {r : Bool} (h : model_May a0 = some r) : Ok Try.prog 14 [.agg [.int .i64 a0.Kind, .int .i64 a0.N, .sl 10 (List.map enc68 a0.Spans), .int .i64 a0.Policy.Kind, .int .i64 a0.Policy.N, .str a0.Policy.Key, .str a0.Policy.Value, .sl 5 (List.map enc24 a0.Policy.Kids)]] [] [] (.bool r) [] [] := by
 unfold model_May at h
 refine ok_of_code Try.func14 rfl (by show (1 : Nat) ≤ _; decide) (Nat.le_refl _) fun X => ?_
 refine sr fun K1 hK1 => ?_
 refine pD 1 (do_box W_ rfl rfl) ?_
 refine pa 2 (.bool false) ?_
 refine en hK1 ?_
 refine aw_seq_k (fun K2 hK2 => ?_)
 refine sr fun K3 hK3 => ?_
 refine pf 3 (.ptr 1 0 0) ty27 ty3 ?_
 refine pl 4 (.int .i64 a0.Kind) ty3 ?_
 refine en hK3 ?_
 refine aw_block ?_
 refine sr fun K4 hK4 => ?_
 refine pb 6 (.bool (a0.Kind == 1)) ?_
 refine pa 5 (.bool (a0.Kind == 1)) ?_
 refine en hK4 ?_
 refine aw_bool (b := (a0.Kind == 1)) 5 rfl (fun c5 => ?_) (fun c5 => ?_)
 ·have h := ifT c5 h
  refine aw_cond_t D_ rfl ?_
  refine sr fun K6 hK6 => ?_
  refine pf 7 (.ptr 1 0 2) ty27 ty22 ?_
  refine pl 8 (.sl 10 (List.map enc68 a0.Spans)) ty22 ?_
  obtain ⟨x7, hx7, h⟩ := bnd_some h
  refine pD 9 (do_call0 9 false (batch_Right_ok a0.Spans hx7) rfl ent31 rfl rfl) ?_
  refine pa 2 (.bool x7) ?_
  refine en hK6 ?_
  refine aw_ret ?_
  obtain rfl := Option.some.inj h
  exact ret_ok1 W_ W_ R_ (.inr rfl) rfl
 ·have h := ifF c5 h
  refine aw_cond_f D_ rfl ?_
  refine sr fun K8 hK8 => ?_
  refine pb 11 (.bool (a0.Kind == 2)) ?_
  refine pa 10 (.bool (a0.Kind == 2)) ?_
  refine en hK8 ?_
  refine aw_bool (b := (a0.Kind == 2)) 10 rfl (fun c9 => ?_) (fun c9 => ?_)
  ·have h := ifT c9 h
   refine aw_cond_t D_ rfl ?_
   refine sr fun K10 hK10 => ?_
   refine pf 12 (.ptr 1 0 1) ty27 ty3 ?_
   refine pl 13 (.int .i64 a0.N) ty3 ?_
   refine pD 14 (do_buildSlice (xs := List.map enc2 [a0.N]) ty92 ty3 rfl rfl rfl rfl rfl rfl rfl rfl) ?_
   obtain ⟨x11, hx11, h⟩ := bnd_some h
   refine pD 15 (do_callG (bcs := []) [] [] [(14, 0)] 15 false (model_within_ok 0 1099511627776 [a0.N] hx11) rfl ent32 trivial trivial rfl rfl rfl rfl rfl rfl rfl rfl (.inr ⟨rfl, rfl, trivial⟩)) ?_
   refine pa 2 (.bool x11) ?_
   refine en hK10 ?_
   refine aw_ret ?_
   obtain rfl := Option.some.inj h
   exact ret_ok1 W_ W_ R_ (.inr rfl) rfl
  ·have h := ifF c9 h
   refine aw_cond_f D_ rfl ?_
   refine sr fun K12 hK12 => ?_
   refine pb 17 (.bool (a0.Kind == 3)) ?_
   refine pa 16 (.bool (a0.Kind == 3)) ?_
   refine en hK12 ?_
   refine aw_bool (b := (a0.Kind == 3)) 16 rfl (fun c13 => ?_) (fun c13 => ?_)
   ·have h := ifT c13 h
    refine aw_cond_t D_ rfl ?_
    refine sr fun K14 hK14 => ?_
    refine pf 18 (.ptr 1 0 3) ty27 ty25 ?_
    refine pl 19 (.agg [.int .i64 a0.Policy.Kind, .int .i64 a0.Policy.N, .str a0.Policy.Key, .str a0.Policy.Value, .sl 5 (List.map enc24 a0.Policy.Kids)]) ty25 ?_
    obtain ⟨x15, hx15, h⟩ := bnd_some h
    refine pD 20 (do_call0 20 false (rule_Right_ok a0.Policy hx15) rfl ent33 rfl rfl) ?_
    refine pa 2 (.bool x15) ?_
    refine en hK14 ?_
    refine aw_ret ?_
    obtain rfl := Option.some.inj h
    exact ret_ok1 W_ W_ R_ (.inr rfl) rfl
   ·have h := ifF c13 h
    refine aw_cond_f D_ rfl ?_
    refine aw_skip ?_
    refine hK2 _ ?_
    refine sr fun K16 hK16 => ?_
    refine pf 21 (.ptr 1 0 0) ty27 ty3 ?_
    refine pl 22 (.int .i64 a0.Kind) ty3 ?_
    refine pb 23 (.bool (a0.Kind == 4)) ?_
    refine pa 2 (.bool (a0.Kind == 4)) ?_
    refine en hK16 ?_
    refine aw_ret ?_
    obtain rfl := Option.some.inj h
    exact ret_ok1 W_ W_ R_ (.inr rfl) rfl
def ints_Put_l1 (v1_1 : Int) (v5_s_1 : List UInt8) : Option ((Int × List UInt8) ⊕ (Int × List UInt8)) :=
 if (decide ((128 : Int) ≤ v1_1)) = true then (gd ((List.length (v5_s_1 ++ [(u8 (bits .or .u8 ((u8 (IntKind.u8.wrap v1_1)).toNat : Int) 128))])) * 1 ≤ 140737488355328 ∧ (List.length (v5_s_1 ++ [(u8 (bits .or .u8 ((u8 (IntKind.u8.wrap v1_1)).toNat : Int) 128))])) ≤ 140737488355328) (some (Sum.inl ((Int.fdiv v1_1 (2 ^ (min (Int.toNat 7) (IntKind.bits .u64)))), (v5_s_1 ++ [(u8 (bits .or .u8 ((u8 (IntKind.u8.wrap v1_1)).toNat : Int) 128))]))))) else (some (Sum.inr (v1_1, v5_s_1)))
def ints_Put_k0 (v1_0 : Int) (v5_s_0 : List UInt8) : Option (List UInt8) :=
 gd ((List.length (v5_s_0 ++ [(u8 (IntKind.u8.wrap v1_0))])) * 1 ≤ 140737488355328 ∧ (List.length (v5_s_0 ++ [(u8 (IntKind.u8.wrap v1_0))])) ≤ 140737488355328) (some (v5_s_0 ++ [(u8 (IntKind.u8.wrap v1_0))]))
def ints_Put (a0 : List UInt8) (a1 : Int) : Option (List UInt8) :=
 gd ((List.length a0) * 1 ≤ 140737488355328 ∧ (List.length a0) ≤ 140737488355328) (Option.bind (loopN (fun (s : Int × List UInt8) => ints_Put_l1 s.1 s.2) Fu (a1, a0)) (fun (s : Int × List UInt8) => ints_Put_k0 s.1 s.2))
theorem ints_Put_ok (a0 : List UInt8) (a1 : Int) {r : List UInt8} (h : ints_Put a0 a1 = some r) : Ok Try.prog 16 [.sl 1 (List.map enc5 a0), .int .u64 a1] [] [] (.own 2 0) [] [(5, 1, List.map enc5 r)] := by
 unfold ints_Put at h
 refine ok_of_code Try.func16 rfl (by show (2 : Nat) ≤ _; decide) (Nat.le_refl _) fun X => ?_
 refine sr fun K1 hK1 => ?_
 refine pa 4 (.nil) ?_
 refine en hK1 ?_
 refine sr fun K2 hK2 => ?_
 refine pm 6 (.sl 1 (List.map enc5 a0)) ?_
 obtain ⟨g3, h⟩ := gd_some h
 refine pD 7 (do_append (v := List.map enc5 a0) W_ W_ ty28 ty5 rfl rfl W_ (by first | exact .inl rfl | exact .inr ⟨rfl, rfl⟩) W_ (by first | exact .inr rfl | exact .inl rfl) (List.nil_append _) (fit_map g3)) ?_
 refine pa 5 (.own 7 0) ?_
 refine en hK2 ?_
 obtain ⟨q4, h, hk5⟩ := bnd_some h
 refine aw_cut (fun s => ∃ (v1_0 : Int), ∃ (v5_s_0 : List UInt8), ints_Put_k0 v1_0 v5_s_0 = some r ∧ s = lit [(1, .int .u64 v1_0), (5, .own 7 0)] [((7, 0), .arr 5 1 false (List.map enc5 v5_s_0))] [(7, 1)] X) ?_ ?_
 ·skip
  refine aw_block ?_
  refine aw_loop' (fun m s => ∃ (v1_1 : Int), ∃ (v5_s_1 : List UInt8), loopN (fun (s : Int × List UInt8) => ints_Put_l1 s.1 s.2) m (v1_1, v5_s_1) = some q4 ∧ s = lit [(1, .int .u64 v1_1), (5, .own 7 0)] [((7, 0), .arr 5 1 false (List.map enc5 v5_s_1))] [(7, 1)] X) Fu
   ⟨_, reb_lit [(1, .int .u64 a1), (5, .own 7 0)] [(7, 0)] [((7, 0), .arr 5 1 false (List.map enc5 a0))] [(7, 1)] (ec (ec envOk_nil)) (objOk_cons W_ W_ R_ (by simp) objOk_nil) (nodup_b rfl) (nodup_b rfl) rfl rfl, a1, a0, h, rfl⟩ ?_
  rintro m s ⟨v1_1, v5_s_1, h, rfl⟩
  obtain ⟨m1, q6, rfl, h, hq7⟩ := loop_some h
  replace h : ints_Put_l1 v1_1 v5_s_1 = some q6 := h
  unfold ints_Put_l1 at h
  refine aw_seq_k (fun K8 hK8 => ?_)
  refine sr fun K9 hK9 => ?_
  refine pm 8 (.int .u64 v1_1) ?_
  refine pb 9 (.bool (decide ((128 : Int) ≤ v1_1))) ?_
  refine en hK9 ?_
  refine aw_bool (b := (decide ((128 : Int) ≤ v1_1))) 9 rfl (fun c10 => ?_) (fun c10 => ?_)
  ·have h := ifT c10 h
   refine aw_cond_t D_ rfl ?_
   refine aw_skip ?_
   refine hK8 _ ?_
   refine aw_seq_k (fun K11 hK11 => ?_)
   refine aw_block ?_
   refine aw_regL ?_
   refine pm 12 (.own 7 0) ?_
   refine pm 13 (.int .u64 v1_1) ?_
   refine pP 14 ((does_conv_int (v := .int .u8 (IntKind.u8.wrap v1_1)) W_ (ty_some ty46) (ty_int ty5) rfl).castp (v' := .int .u8 ((u8 (IntKind.u8.wrap v1_1)).toNat : Int)) (by exact congrArg _ (u8_eq (u8_wrap _)))) ?_
   refine pP 15 ((does_bin (v := .int .u8 (bits .or .u8 ((u8 (IntKind.u8.wrap v1_1)).toNat : Int) 128)) W_ W_ rfl).castp (v' := .int .u8 ((u8 (bits .or .u8 ((u8 (IntKind.u8.wrap v1_1)).toNat : Int) 128)).toNat : Int)) (by exact congrArg _ (u8_eq (u8_bits _ _ _)))) ?_
   refine pD 16 (do_buildSlice (xs := List.map enc5 [(u8 (bits .or .u8 ((u8 (IntKind.u8.wrap v1_1)).toNat : Int) 128))]) ty28 ty5 rfl rfl rfl rfl rfl rfl rfl rfl) ?_
   obtain ⟨g12, h⟩ := gd_some h
   refine pD 17 (do_append (v := List.map enc5 (v5_s_1 ++ [(u8 (bits .or .u8 ((u8 (IntKind.u8.wrap v1_1)).toNat : Int) 128))])) W_ W_ ty28 ty5 rfl rfl W_ (by first | exact .inl rfl | exact .inr ⟨rfl, rfl⟩) W_ (by first | exact .inr rfl | exact .inl rfl) (map_app _ _) (fit_map g12)) ?_
   refine pa 5 (.own 17 0) ?_
   refine en hK11 ?_
   refine aw_regL ?_
   refine pm 10 (.int .u64 v1_1) ?_
   refine pb 11 (.int .u64 (Int.fdiv v1_1 (2 ^ (min (Int.toNat 7) (IntKind.bits .u64))))) ?_
   refine pa 1 (.int .u64 (Int.fdiv v1_1 (2 ^ (min (Int.toNat 7) (IntKind.bits .u64))))) ?_
   refine al_nil ?_
   have h := leafL h hq7
   exact ⟨m1, Nat.lt_succ_self _, _, reb_lit [(1, .int .u64 (Int.fdiv v1_1 (2 ^ (min (Int.toNat 7) (IntKind.bits .u64))))), (5, .own 7 0)] [(17, 0)] [((7, 0), .arr 5 1 false (List.map enc5 (v5_s_1 ++ [(u8 (bits .or .u8 ((u8 (IntKind.u8.wrap v1_1)).toNat : Int) 128))])))] [(7, 1)] (ec (ec envOk_nil)) (objOk_cons W_ W_ R_ (by simp) objOk_nil) (nodup_b rfl) (nodup_b rfl) rfl rfl, (Int.fdiv v1_1 (2 ^ (min (Int.toNat 7) (IntKind.bits .u64)))), (v5_s_1 ++ [(u8 (bits .or .u8 ((u8 (IntKind.u8.wrap v1_1)).toNat : Int) 128))]), h, rfl⟩
  ·have h := ifF c10 h
   refine aw_cond_f D_ rfl ?_
   refine aw_exit ?_
   have h := leafR h hq7
   obtain rfl := Option.some.inj h
   have h := hk5
   exact ⟨_, reb_lit [(1, .int .u64 v1_1), (5, .own 7 0)] [(7, 0)] [((7, 0), .arr 5 1 false (List.map enc5 v5_s_1))] [(7, 1)] (ec (ec envOk_nil)) (objOk_cons W_ W_ R_ (by simp) objOk_nil) (nodup_b rfl) (nodup_b rfl) rfl rfl, v1_1, v5_s_1, h, rfl⟩
 ·rintro s ⟨v1_0, v5_s_0, h, rfl⟩
  unfold ints_Put_k0 at h
  refine sr fun K13 hK13 => ?_
  refine pm 18 (.own 7 0) ?_
  refine pm 19 (.int .u64 v1_0) ?_
  refine pP 20 ((does_conv_int (v := .int .u8 (IntKind.u8.wrap v1_0)) W_ (ty_some ty46) (ty_int ty5) rfl).castp (v' := .int .u8 ((u8 (IntKind.u8.wrap v1_0)).toNat : Int)) (by exact congrArg _ (u8_eq (u8_wrap _)))) ?_
  refine pD 21 (do_buildSlice (xs := List.map enc5 [(u8 (IntKind.u8.wrap v1_0))]) ty28 ty5 rfl rfl rfl rfl rfl rfl rfl rfl) ?_
  obtain ⟨g14, h⟩ := gd_some h
  refine pD 22 (do_append (v := List.map enc5 (v5_s_0 ++ [(u8 (IntKind.u8.wrap v1_0))])) W_ W_ ty28 ty5 rfl rfl W_ (by first | exact .inl rfl | exact .inr ⟨rfl, rfl⟩) W_ (by first | exact .inr rfl | exact .inl rfl) (map_app _ _) (fit_map g14)) ?_
  refine pa 4 (.own 22 0) ?_
  refine en hK13 ?_
  refine aw_ret ?_
  obtain rfl := Option.some.inj h
  exact ret_okR [(22, 0)] W_ W_ R_ (rowsOk_cons W_ R_ trivial) (nodup_b rfl) (.inr rfl) rfl
def keeper_Op (a0 : OpG) : Option (List UInt8) :=
 Option.bind (model_May a0) (fun (x4 : Bool) => if (!x4) = true then (some []) else (if (a0.Kind == 1) = true then (Option.bind (batch_Bytes a0.Spans) (fun (x13 : List UInt8) => gd ((List.length ([(u8 (IntKind.u8.wrap a0.Kind))] ++ x13)) * 1 ≤ 140737488355328 ∧ (List.length ([(u8 (IntKind.u8.wrap a0.Kind))] ++ x13)) ≤ 140737488355328) (some ([(u8 (IntKind.u8.wrap a0.Kind))] ++ x13)))) else (if (a0.Kind == 2) = true then (Option.bind (ints_Put [(u8 (IntKind.u8.wrap a0.Kind))] (IntKind.u64.wrap a0.N)) (fun (x18 : List UInt8) => some x18)) else (if (a0.Kind == 3) = true then (Option.bind (rule_Bytes a0.Policy) (fun (x22 : List UInt8) => gd ((List.length ([(u8 (IntKind.u8.wrap a0.Kind))] ++ x22)) * 1 ≤ 140737488355328 ∧ (List.length ([(u8 (IntKind.u8.wrap a0.Kind))] ++ x22)) ≤ 140737488355328) (some ([(u8 (IntKind.u8.wrap a0.Kind))] ++ x22)))) else (some [(u8 (IntKind.u8.wrap a0.Kind))])))))
theorem keeper_Op_ok (a0 : OpG) {r : List UInt8} (h : keeper_Op a0 = some r) : Ok Try.prog 6 [.agg [.int .i64 a0.Kind, .int .i64 a0.N, .sl 10 (List.map enc68 a0.Spans), .int .i64 a0.Policy.Kind, .int .i64 a0.Policy.N, .str a0.Policy.Key, .str a0.Policy.Value, .sl 5 (List.map enc24 a0.Policy.Kids)]] [] [] (.own 2 0) [] [(5, 1, List.map enc5 r)] := by
 unfold keeper_Op at h
 refine ok_of_code Try.func6 rfl (by show (1 : Nat) ≤ _; decide) (Nat.le_refl _) fun X => ?_
 refine sr fun K1 hK1 => ?_
 refine pD 1 (do_box W_ rfl rfl) ?_
 refine pa 2 (.nil) ?_
 refine en hK1 ?_
 refine aw_seq_k (fun K2 hK2 => ?_)
 refine sr fun K3 hK3 => ?_
 refine pl 4 (.agg [.int .i64 a0.Kind, .int .i64 a0.N, .sl 10 (List.map enc68 a0.Spans), .int .i64 a0.Policy.Kind, .int .i64 a0.Policy.N, .str a0.Policy.Key, .str a0.Policy.Value, .sl 5 (List.map enc24 a0.Policy.Kids)]) ty27 ?_
 obtain ⟨x4, hx4, h⟩ := bnd_some h
 refine pD 5 (do_call0 5 false (model_May_ok a0 hx4) rfl ent14 rfl rfl) ?_
 refine pP 6 (does_un (v := .bool (!x4)) W_ rfl) ?_
 refine en hK3 ?_
 refine aw_bool (b := (!x4)) 6 rfl (fun c5 => ?_) (fun c5 => ?_)
 ·have h := ifT c5 h
  refine aw_cond_t D_ rfl ?_
  refine sr fun K6 hK6 => ?_
  refine pa 2 (.nil) ?_
  refine en hK6 ?_
  refine aw_nilOwn 2 5 1 W_ D_ D_ ?_
  refine aw_ret ?_
  obtain rfl := Option.some.inj h
  exact ret_okR [(2, 0)] W_ W_ R_ (rowsOk_cons W_ R_ trivial) (nodup_b rfl) (.inr rfl) rfl
 ·have h := ifF c5 h
  refine aw_cond_f D_ rfl ?_
  refine aw_skip ?_
  refine hK2 _ ?_
  refine sr fun K7 hK7 => ?_
  refine pf 7 (.ptr 1 0 0) ty27 ty3 ?_
  refine pl 8 (.int .i64 a0.Kind) ty3 ?_
  refine pP 9 ((does_conv_int (v := .int .u8 (IntKind.u8.wrap a0.Kind)) W_ (ty_some ty3) (ty_int ty5) rfl).castp (v' := .int .u8 ((u8 (IntKind.u8.wrap a0.Kind)).toNat : Int)) (by exact congrArg _ (u8_eq (u8_wrap _)))) ?_
  refine pD 10 (do_buildSlice (xs := List.map enc5 [(u8 (IntKind.u8.wrap a0.Kind))]) ty28 ty5 rfl rfl rfl rfl rfl rfl rfl rfl) ?_
  refine pa 3 (.own 10 0) ?_
  refine en hK7 ?_
  refine aw_seq_k (fun K8 hK8 => ?_)
  refine sr fun K9 hK9 => ?_
  refine pf 11 (.ptr 1 0 0) ty27 ty3 ?_
  refine pl 12 (.int .i64 a0.Kind) ty3 ?_
  refine en hK9 ?_
  refine aw_block ?_
  refine sr fun K10 hK10 => ?_
  refine pb 14 (.bool (a0.Kind == 1)) ?_
  refine pa 13 (.bool (a0.Kind == 1)) ?_
  refine en hK10 ?_
  refine aw_bool (b := (a0.Kind == 1)) 13 rfl (fun c11 => ?_) (fun c11 => ?_)
  ·have h := ifT c11 h
   refine aw_cond_t D_ rfl ?_
   refine sr fun K12 hK12 => ?_
   refine pm 15 (.own 10 0) ?_
   refine pf 16 (.ptr 1 0 2) ty27 ty22 ?_
   refine pl 17 (.sl 10 (List.map enc68 a0.Spans)) ty22 ?_
   obtain ⟨x13, hx13, h⟩ := bnd_some h
   refine pD 18 (do_call0 18 false (batch_Bytes_ok a0.Spans hx13) rfl ent15 rfl rfl) ?_
   obtain ⟨g14, h⟩ := gd_some h
   refine pD 19 (do_append (v := List.map enc5 ([(u8 (IntKind.u8.wrap a0.Kind))] ++ x13)) W_ W_ ty28 ty5 rfl rfl W_ (by first | exact .inl rfl | exact .inr ⟨rfl, rfl⟩) W_ (by first | exact .inr rfl | exact .inl rfl) (map_app _ _) (fit_map g14)) ?_
   refine pa 2 (.own 19 0) ?_
   refine en hK12 ?_
   refine aw_ret ?_
   obtain rfl := Option.some.inj h
   exact ret_okR [(19, 0)] W_ W_ R_ (rowsOk_cons W_ R_ trivial) (nodup_b rfl) (.inr rfl) rfl
  ·have h := ifF c11 h
   refine aw_cond_f D_ rfl ?_
   refine sr fun K15 hK15 => ?_
   refine pb 21 (.bool (a0.Kind == 2)) ?_
   refine pa 20 (.bool (a0.Kind == 2)) ?_
   refine en hK15 ?_
   refine aw_bool (b := (a0.Kind == 2)) 20 rfl (fun c16 => ?_) (fun c16 => ?_)
   ·have h := ifT c16 h
    refine aw_cond_t D_ rfl ?_
    refine sr fun K17 hK17 => ?_
    refine pm 22 (.own 10 0) ?_
    refine pf 23 (.ptr 1 0 1) ty27 ty3 ?_
    refine pl 24 (.int .i64 a0.N) ty3 ?_
    refine pP 25 (does_conv_int (v := .int .u64 (IntKind.u64.wrap a0.N)) W_ (ty_some ty3) (ty_int ty46) rfl) ?_
    obtain ⟨x18, hx18, h⟩ := bnd_some h
    refine pD 26 (do_callG (bcs := []) [] [] [(10, 0)] 26 false (ints_Put_ok [(u8 (IntKind.u8.wrap a0.Kind))] (IntKind.u64.wrap a0.N) hx18) rfl ent16 trivial trivial rfl rfl rfl rfl rfl rfl rfl rfl (.inr ⟨rfl, rfl, ⟨plain_map (fun _ => rfl), trivial⟩⟩)) ?_
    refine pa 2 (.own 26 0) ?_
    refine en hK17 ?_
    refine aw_ret ?_
    obtain rfl := Option.some.inj h
    exact ret_okR [(26, 0)] W_ W_ R_ (rowsOk_cons W_ R_ trivial) (nodup_b rfl) (.inr rfl) rfl
   ·have h := ifF c16 h
    refine aw_cond_f D_ rfl ?_
    refine sr fun K19 hK19 => ?_
    refine pb 28 (.bool (a0.Kind == 3)) ?_
    refine pa 27 (.bool (a0.Kind == 3)) ?_
    refine en hK19 ?_
    refine aw_bool (b := (a0.Kind == 3)) 27 rfl (fun c20 => ?_) (fun c20 => ?_)
    ·have h := ifT c20 h
     refine aw_cond_t D_ rfl ?_
     refine sr fun K21 hK21 => ?_
     refine pm 29 (.own 10 0) ?_
     refine pf 30 (.ptr 1 0 3) ty27 ty25 ?_
     refine pl 31 (.agg [.int .i64 a0.Policy.Kind, .int .i64 a0.Policy.N, .str a0.Policy.Key, .str a0.Policy.Value, .sl 5 (List.map enc24 a0.Policy.Kids)]) ty25 ?_
     obtain ⟨x22, hx22, h⟩ := bnd_some h
     refine pD 32 (do_call0 32 false (rule_Bytes_ok a0.Policy hx22) rfl ent17 rfl rfl) ?_
     obtain ⟨g23, h⟩ := gd_some h
     refine pD 33 (do_append (v := List.map enc5 ([(u8 (IntKind.u8.wrap a0.Kind))] ++ x22)) W_ W_ ty28 ty5 rfl rfl W_ (by first | exact .inl rfl | exact .inr ⟨rfl, rfl⟩) W_ (by first | exact .inr rfl | exact .inl rfl) (map_app _ _) (fit_map g23)) ?_
     refine pa 2 (.own 33 0) ?_
     refine en hK21 ?_
     refine aw_ret ?_
     obtain rfl := Option.some.inj h
     exact ret_okR [(33, 0)] W_ W_ R_ (rowsOk_cons W_ R_ trivial) (nodup_b rfl) (.inr rfl) rfl
    ·have h := ifF c20 h
     refine aw_cond_f D_ rfl ?_
     refine aw_skip ?_
     refine hK8 _ ?_
     refine sr fun K24 hK24 => ?_
     refine pm 34 (.own 10 0) ?_
     refine pa 2 (.own 10 0) ?_
     refine en hK24 ?_
     refine aw_ret ?_
     obtain rfl := Option.some.inj h
     exact ret_okR [(10, 0)] W_ W_ R_ (rowsOk_cons W_ R_ trivial) (nodup_b rfl) (.inr rfl) rfl
def gleaninglaw25_num (a0 : Int) : Option Int :=
 some a0
theorem gleaninglaw25_num_ok (a0 : Int) {r : Int} (h : gleaninglaw25_num a0 = some r) : Ok Try.prog 11 [.int .i64 a0] [] [] (.int .i64 r) [] [] := by
 unfold gleaninglaw25_num at h
 refine ok_of_code Try.func11 rfl (by show (1 : Nat) ≤ _; decide) (Nat.le_refl _) fun X => ?_
 refine sr fun K1 hK1 => ?_
 refine pa 2 (.int .i64 0) ?_
 refine en hK1 ?_
 refine sr fun K2 hK2 => ?_
 refine pm 3 (.int .i64 a0) ?_
 refine pa 2 (.int .i64 a0) ?_
 refine en hK2 ?_
 refine aw_ret ?_
 obtain rfl := Option.some.inj h
 exact ret_ok1 W_ W_ R_ (.inr rfl) rfl
def gleaninglaw25_alive : Option Bool :=
 Option.bind (keeper_ReadOp []) (fun (x3 : OpG × Int) => Option.bind (keeper_Op (OpG.mk 2 7 [] (Rule.mk 0 0 (strOf []) (strOf []) []))) (fun (x5 : List UInt8) => Option.bind (keeper_ReadOp x5) (fun (x6 : OpG × Int) => Option.bind (gleaninglaw25_num x3.2) (fun (x8 : Int) => if (x8 == 2) = true then (Option.bind (gleaninglaw25_num x6.2) (fun (x10 : Int) => if (x10 == 0) = true then (some (x6.1.N == 7)) else (some false))) else (some false)))))
theorem gleaninglaw25_alive_ok {r : Bool} (h : gleaninglaw25_alive = some r) : Ok Try.prog 4 [] [] [] (.bool r) [] [] := by
 unfold gleaninglaw25_alive at h
 refine ok_of_code Try.func4 rfl (by show (0 : Nat) ≤ _; decide) (Nat.le_refl _) fun X => ?_
 refine sr fun K1 hK1 => ?_
 refine pa 0 (.bool false) ?_
 refine en hK1 ?_
 refine sr fun K2 hK2 => ?_
 obtain ⟨x3, hx3, h⟩ := bnd_some h
 refine pD 6 (do_call0 6 false ((keeper_ReadOp_ok [] hx3).weak (args' := [.nil]) ⟨le_nil _, trivial⟩) rfl ent7 rfl rfl) ?_
 refine pm 5 (.tup [.agg [.int .i64 x3.1.Kind, .int .i64 x3.1.N, .sl 10 (List.map enc68 x3.1.Spans), .int .i64 x3.1.Policy.Kind, .int .i64 x3.1.Policy.N, .str x3.1.Policy.Key, .str x3.1.Policy.Value, .sl 5 (List.map enc24 x3.1.Policy.Kids)], .int .i64 x3.2]) ?_
 refine pP 7 (does_extract (v := .agg [.int .i64 x3.1.Kind, .int .i64 x3.1.N, .sl 10 (List.map enc68 x3.1.Spans), .int .i64 x3.1.Policy.Kind, .int .i64 x3.1.Policy.N, .str x3.1.Policy.Key, .str x3.1.Policy.Value, .sl 5 (List.map enc24 x3.1.Policy.Kids)]) W_ R_) ?_
 refine pP 8 (does_extract (v := .int .i64 x3.2) W_ R_) ?_
 refine pD 1 (do_new ty27 rfl rfl) ?_
 refine alD none rfl rfl (do_store (cs' := [.int .i64 x3.1.Kind, .int .i64 x3.1.N, .sl 10 (List.map enc68 x3.1.Spans), .int .i64 x3.1.Policy.Kind, .int .i64 x3.1.Policy.N, .str x3.1.Policy.Key, .str x3.1.Policy.Value, .sl 5 (List.map enc24 x3.1.Policy.Kids)]) W_ W_ W_ ty27 rfl rfl rfl R_) D_ ?_
 refine pa 2 (.int .i64 x3.2) ?_
 refine en hK2 ?_
 refine sr fun K4 hK4 => ?_
 refine pP 10 ((do_build_struct (cs := [.int .i64 2, .int .i64 7, .nil, .int .i64 0, .int .i64 0, .str (strOf []), .str (strOf []), .nil]) ty27 rfl [⟨.int .i64, 1, 8, [.int .i64 0]⟩, ⟨.int .i64, 1, 8, [.int .i64 0]⟩, ⟨.slice 69, 1, 24, [.nil]⟩, ⟨.struct [(0, 3), (1, 3), (2, 9), (3, 9), (4, 23)], 5, 72, [.int .i64 0, .int .i64 0, .str ByteArray.empty, .str ByteArray.empty, .nil]⟩] (by simp only [List.map, ty22, ty25, ty3]) (by rfl) R_).weak (v' := .agg [.int .i64 2, .int .i64 7, .sl 10 (List.map enc68 []), .int .i64 0, .int .i64 0, .str (strOf []), .str (strOf []), .sl 5 (List.map enc24 [])]) (le_agg ⟨le_refl _, le_refl _, le_nil _, le_refl _, le_refl _, le_refl _, le_refl _, le_nil _, trivial⟩)) ?_
 obtain ⟨x5, hx5, h⟩ := bnd_some h
 refine pD 11 (do_call0 11 false (keeper_Op_ok (OpG.mk 2 7 [] (Rule.mk 0 0 (strOf []) (strOf []) [])) hx5) rfl ent6 rfl rfl) ?_
 obtain ⟨x6, hx6, h⟩ := bnd_some h
 refine pD 12 (does_frz (d := 11) (n := 0) W_ (do_callG (bcs := []) [] [] [(11, 0)] 12 false (keeper_ReadOp_ok x5 hx6) rfl ent7 trivial trivial rfl rfl rfl rfl rfl rfl rfl rfl (.inl ⟨⟨_, _, _, rfl⟩, trivial⟩))) ?_
 refine pm 9 (.tup [.agg [.int .i64 x6.1.Kind, .int .i64 x6.1.N, .sl 10 (List.map enc68 x6.1.Spans), .int .i64 x6.1.Policy.Kind, .int .i64 x6.1.Policy.N, .str x6.1.Policy.Key, .str x6.1.Policy.Value, .sl 5 (List.map enc24 x6.1.Policy.Kids)], .int .i64 x6.2]) ?_
 refine pP 13 (does_extract (v := .agg [.int .i64 x6.1.Kind, .int .i64 x6.1.N, .sl 10 (List.map enc68 x6.1.Spans), .int .i64 x6.1.Policy.Kind, .int .i64 x6.1.Policy.N, .str x6.1.Policy.Key, .str x6.1.Policy.Value, .sl 5 (List.map enc24 x6.1.Policy.Kids)]) W_ R_) ?_
 refine pP 14 (does_extract (v := .int .i64 x6.2) W_ R_) ?_
 refine pD 3 (do_new ty27 rfl rfl) ?_
 refine alD none rfl rfl (do_store (cs' := [.int .i64 x6.1.Kind, .int .i64 x6.1.N, .sl 10 (List.map enc68 x6.1.Spans), .int .i64 x6.1.Policy.Kind, .int .i64 x6.1.Policy.N, .str x6.1.Policy.Key, .str x6.1.Policy.Value, .sl 5 (List.map enc24 x6.1.Policy.Kids)]) W_ W_ W_ ty27 rfl rfl rfl R_) D_ ?_
 refine pa 4 (.int .i64 x6.2) ?_
 refine en hK4 ?_
 refine sr fun K7 hK7 => ?_
 refine pm 15 (.int .i64 x3.2) ?_
 obtain ⟨x8, hx8, h⟩ := bnd_some h
 refine pD 16 (do_call0 16 false (gleaninglaw25_num_ok x3.2 hx8) rfl ent11 rfl rfl) ?_
 refine pb 17 (.bool (x8 == 2)) ?_
 refine pm 18 (.bool (x8 == 2)) ?_
 refine al_bool (c := (x8 == 2)) 18 rfl (fun c9 => ?_) (fun c9 => ?_)
 ·have h := ifT c9 h
  refine pm 19 (.int .i64 x6.2) ?_
  obtain ⟨x10, hx10, h⟩ := bnd_some h
  refine pD 20 (do_call0 20 false (gleaninglaw25_num_ok x6.2 hx10) rfl ent11 rfl rfl) ?_
  refine pb 21 (.bool (x10 == 0)) ?_
  refine pk 22 (.bool (x10 == 0)) ?_
  refine pm 23 (.bool (x10 == 0)) ?_
  refine al_bool (c := (x10 == 0)) 23 rfl (fun c11 => ?_) (fun c11 => ?_)
  ·have h := ifT c11 h
   refine pf 24 (.ptr 3 0 1) ty27 ty3 ?_
   refine pl 25 (.int .i64 x6.1.N) ty3 ?_
   refine pb 26 (.bool (x6.1.N == 7)) ?_
   refine pk 27 (.bool (x6.1.N == 7)) ?_
   refine pa 0 (.bool (x6.1.N == 7)) ?_
   refine en hK7 ?_
   refine aw_ret ?_
   obtain rfl := Option.some.inj h
   exact ret_ok1 W_ W_ R_ (.inr rfl) rfl
  ·have h := ifF c11 h
   refine pS 24 ?_
   refine pS 25 ?_
   refine pS 26 ?_
   refine pk 27 (.bool false) ?_
   refine pa 0 (.bool false) ?_
   refine en hK7 ?_
   refine aw_ret ?_
   obtain rfl := Option.some.inj h
   exact ret_ok1 W_ W_ R_ (.inr rfl) rfl
 ·have h := ifF c9 h
  refine pS 19 ?_
  refine pS 20 ?_
  refine pS 21 ?_
  refine pk 22 (.bool false) ?_
  refine pm 23 (.bool false) ?_
  refine pS 24 ?_
  refine pS 25 ?_
  refine pS 26 ?_
  refine pk 27 (.bool false) ?_
  refine pa 0 (.bool false) ?_
  refine en hK7 ?_
  refine aw_ret ?_
  obtain rfl := Option.some.inj h
  exact ret_ok1 W_ W_ R_ (.inr rfl) rfl
def gleaninglaw22_Few_k2 (a0 : List OpG) (v3_0 : Int) (v4_0 : Int) : Option ((Int × Int) ⊕ Bool) :=
 gd (0 ≤ v4_0) (Option.bind (a0[(Int.toNat v4_0)]?) (fun (x29 : OpG) => some (Sum.inl ((IntKind.i64.wrap ((IntKind.i64.wrap (v3_0 + 1)) + (List.length x29.Spans : Int))), (IntKind.i64.wrap (v4_0 + 1))))))
def gleaninglaw22_Few_k1 (a0 : List OpG) (v3_0 : Int) (v4_0 : Int) : Option ((Int × Int) ⊕ Bool) :=
 Option.bind (gd (0 ≤ v4_0) (Option.bind (a0[(Int.toNat v4_0)]?) (fun (x19 : OpG) => Option.bind (gleaninglaw3_FewAll x19.Spans) (fun (x20 : Bool) => if (!x20) = true then (some (Sum.inr (Sum.inr false))) else (gd (0 ≤ v4_0) (Option.bind (a0[(Int.toNat v4_0)]?) (fun (x24 : OpG) => Option.bind (gleaninglaw13_Few x24.Policy) (fun (x25 : Bool) => if (!x25) = true then (some (Sum.inr (Sum.inr false))) else (some (Sum.inl ())))))))))) (Sum.elim (fun (s : Unit) => gleaninglaw22_Few_k2 a0 v3_0 v4_0) some)
def gleaninglaw22_Few_l0 (a0 : List OpG) (v3_0 : Int) (v4_0 : Int) : Option ((Int × Int) ⊕ Bool) :=
 Option.bind (if (decide (v4_0 < (List.length a0 : Int))) = true then (if (decide (v3_0 < 1000)) = true then (some (Sum.inl ())) else (some (Sum.inr (Sum.inr (decide (v3_0 ≤ 120)))))) else (some (Sum.inr (Sum.inr (decide (v3_0 ≤ 120)))))) (Sum.elim (fun (s : Unit) => gleaninglaw22_Few_k1 a0 v3_0 v4_0) some)
def gleaninglaw22_Few (a0 : List OpG) : Option Bool :=
 loopN (fun (s : Int × Int) => gleaninglaw22_Few_l0 a0 s.1 s.2) Fu (0, 0)
theorem gleaninglaw22_Few_ok (a0 : List OpG) {r : Bool} (h : gleaninglaw22_Few a0 = some r) : Ok Try.prog 5 [.sl 8 (List.map enc26 a0)] [] [] (.bool r) [] [] := by
 unfold gleaninglaw22_Few at h
 refine ok_of_code Try.func5 rfl (by show (1 : Nat) ≤ _; decide) (Nat.le_refl _) fun X => ?_
 refine sr fun K1 hK1 => ?_
 refine pa 2 (.bool false) ?_
 refine en hK1 ?_
 refine sr fun K2 hK2 => ?_
 refine pa 3 (.int .i64 0) ?_
 refine en hK2 ?_
 refine aw_seq_k (fun K3 hK3 => ?_)
 refine sr fun K4 hK4 => ?_
 refine pa 4 (.int .i64 0) ?_
 refine en hK4 ?_
 refine aw_block ?_
 refine aw_loop' (fun m s => ∃ (v3_0 : Int), ∃ (v4_0 : Int), loopN (fun (s : Int × Int) => gleaninglaw22_Few_l0 a0 s.1 s.2) m (v3_0, v4_0) = some r ∧ s = lit [(0, .sl 8 (List.map enc26 a0)), (3, .int .i64 v3_0), (4, .int .i64 v4_0)] [] [] X) Fu
  ⟨_, reb_lit [(0, .sl 8 (List.map enc26 a0)), (3, .int .i64 (0)), (4, .int .i64 (0))] [] [] [] (ec (ec (ec envOk_nil))) objOk_nil (nodup_b rfl) (nodup_b rfl) rfl rfl, 0, 0, h, rfl⟩ ?_
 rintro m s ⟨v3_0, v4_0, h, rfl⟩
 obtain ⟨m0, q5, rfl, h, hq6⟩ := loop_some h
 replace h : gleaninglaw22_Few_l0 a0 v3_0 v4_0 = some q5 := h
 unfold gleaninglaw22_Few_l0 at h
 obtain ⟨q7, h, hk8⟩ := bnd_some h
 refine aw_cut (fun s => gleaninglaw22_Few_k1 a0 v3_0 v4_0 = some q5 ∧ s = lit [(0, .sl 8 (List.map enc26 a0)), (3, .int .i64 v3_0), (4, .int .i64 v4_0)] [] [] X) ?_ ?_
 ·skip
  refine sr fun K9 hK9 => ?_
  refine pm 5 (.int .i64 v4_0) ?_
  refine pm 6 (.sl 8 (List.map enc26 a0)) ?_
  refine pP 7 ((does_len_sl W_ ty31).castp (v' := .int .i64 (List.length a0 : Int)) (by exact len_map _)) ?_
  refine pb 8 (.bool (decide (v4_0 < (List.length a0 : Int)))) ?_
  refine pm 9 (.bool (decide (v4_0 < (List.length a0 : Int)))) ?_
  refine al_bool (c := (decide (v4_0 < (List.length a0 : Int)))) 9 rfl (fun c10 => ?_) (fun c10 => ?_)
  ·have h := ifT c10 h
   refine pm 10 (.int .i64 v3_0) ?_
   refine pb 11 (.bool (decide (v3_0 < 1000))) ?_
   refine pk 12 (.bool (decide (v3_0 < 1000))) ?_
   refine en hK9 ?_
   refine aw_bool (b := (decide (v3_0 < 1000))) 12 rfl (fun c11 => ?_) (fun c11 => ?_)
   ·have h := ifT c11 h
    refine aw_cond_t D_ rfl ?_
    refine aw_skip ?_
    have h := leafL h hk8
    exact ⟨_, reb_lit [(0, .sl 8 (List.map enc26 a0)), (3, .int .i64 v3_0), (4, .int .i64 v4_0)] [] [] [] (ec (ec (ec envOk_nil))) objOk_nil (nodup_b rfl) (nodup_b rfl) rfl rfl, h, rfl⟩
   ·have h := ifF c11 h
    refine aw_cond_f D_ rfl ?_
    refine aw_exit ?_
    have h := leafR h hk8
    have h := leafR h hq6
    refine hK3 _ ?_
    refine sr fun K12 hK12 => ?_
    refine pm 40 (.int .i64 v3_0) ?_
    refine pb 41 (.bool (decide (v3_0 ≤ 120))) ?_
    refine pa 2 (.bool (decide (v3_0 ≤ 120))) ?_
    refine en hK12 ?_
    refine aw_ret ?_
    obtain rfl := Option.some.inj h
    exact ret_ok1 W_ W_ R_ (.inr rfl) rfl
  ·have h := ifF c10 h
   refine pS 10 ?_
   refine pS 11 ?_
   refine pk 12 (.bool false) ?_
   refine en hK9 ?_
   refine aw_cond_f D_ rfl ?_
   refine aw_exit ?_
   have h := leafR h hk8
   have h := leafR h hq6
   refine hK3 _ ?_
   refine sr fun K13 hK13 => ?_
   refine pm 40 (.int .i64 v3_0) ?_
   refine pb 41 (.bool (decide (v3_0 ≤ 120))) ?_
   refine pa 2 (.bool (decide (v3_0 ≤ 120))) ?_
   refine en hK13 ?_
   refine aw_ret ?_
   obtain rfl := Option.some.inj h
   exact ret_ok1 W_ W_ R_ (.inr rfl) rfl
 ·rintro s ⟨h, rfl⟩
  unfold gleaninglaw22_Few_k1 at h
  refine aw_seq_k (fun K14 hK14 => ?_)
  refine aw_block ?_
  obtain ⟨q15, h, hk16⟩ := bnd_some h
  refine aw_cut (fun s => gleaninglaw22_Few_k2 a0 v3_0 v4_0 = some q5 ∧ s = lit [(0, .sl 8 (List.map enc26 a0)), (3, .int .i64 v3_0), (4, .int .i64 v4_0)] [] [] X) ?_ ?_
  ·skip
   refine sr fun K17 hK17 => ?_
   refine pm 15 (.sl 8 (List.map enc26 a0)) ?_
   refine pm 16 (.int .i64 v4_0) ?_
   obtain ⟨g18, h⟩ := gd_some h
   obtain ⟨x19, hx19, h⟩ := bnd_some h
   refine pP 17 (does_indexAddr_sl (el := .agg [.int .i64 x19.Kind, .int .i64 x19.N, .sl 10 (List.map enc68 x19.Spans), .int .i64 x19.Policy.Kind, .int .i64 x19.Policy.N, .str x19.Policy.Key, .str x19.Policy.Value, .sl 5 (List.map enc24 x19.Policy.Kids)]) W_ W_ ty31 ty27 g18 (by exact map_get hx19)) ?_
   refine pf 18 (.rptr [.sl 10 (List.map enc68 x19.Spans), .int .i64 x19.Policy.Kind, .int .i64 x19.Policy.N, .str x19.Policy.Key, .str x19.Policy.Value, .sl 5 (List.map enc24 x19.Policy.Kids)]) ty27 ty22 ?_
   refine pl 19 (.sl 10 (List.map enc68 x19.Spans)) ty22 ?_
   obtain ⟨x20, hx20, h⟩ := bnd_some h
   refine pD 20 (do_call0 20 false (gleaninglaw3_FewAll_ok x19.Spans hx20) rfl ent12 rfl rfl) ?_
   refine pP 21 (does_un (v := .bool (!x20)) W_ rfl) ?_
   refine pm 22 (.bool (!x20)) ?_
   refine al_bool (c := (!x20)) 22 rfl (fun c21 => ?_) (fun c21 => ?_)
   ·have h := ifT c21 h
    refine pS 23 ?_
    refine pS 24 ?_
    refine pS 25 ?_
    refine pS 26 ?_
    refine pS 27 ?_
    refine pS 28 ?_
    refine pS 29 ?_
    refine pk 30 (.bool true) ?_
    refine en hK17 ?_
    refine aw_cond_t D_ rfl ?_
    refine sr fun K22 hK22 => ?_
    refine pa 2 (.bool false) ?_
    refine en hK22 ?_
    refine aw_ret ?_
    have h := leafR h hk16
    have h := leafR h hq6
    obtain rfl := Option.some.inj h
    exact ret_ok1 W_ W_ R_ (.inr rfl) rfl
   ·have h := ifF c21 h
    refine pm 23 (.sl 8 (List.map enc26 a0)) ?_
    refine pm 24 (.int .i64 v4_0) ?_
    obtain ⟨g23, h⟩ := gd_some h
    obtain ⟨x24, hx24, h⟩ := bnd_some h
    refine pP 25 (does_indexAddr_sl (el := .agg [.int .i64 x24.Kind, .int .i64 x24.N, .sl 10 (List.map enc68 x24.Spans), .int .i64 x24.Policy.Kind, .int .i64 x24.Policy.N, .str x24.Policy.Key, .str x24.Policy.Value, .sl 5 (List.map enc24 x24.Policy.Kids)]) W_ W_ ty31 ty27 g23 (by exact map_get hx24)) ?_
    refine pf 26 (.rptr [.int .i64 x24.Policy.Kind, .int .i64 x24.Policy.N, .str x24.Policy.Key, .str x24.Policy.Value, .sl 5 (List.map enc24 x24.Policy.Kids)]) ty27 ty25 ?_
    refine pl 27 (.agg [.int .i64 x24.Policy.Kind, .int .i64 x24.Policy.N, .str x24.Policy.Key, .str x24.Policy.Value, .sl 5 (List.map enc24 x24.Policy.Kids)]) ty25 ?_
    obtain ⟨x25, hx25, h⟩ := bnd_some h
    refine pD 28 (do_call0 28 false (gleaninglaw13_Few_ok x24.Policy hx25) rfl ent13 rfl rfl) ?_
    refine pP 29 (does_un (v := .bool (!x25)) W_ rfl) ?_
    refine pk 30 (.bool (!x25)) ?_
    refine en hK17 ?_
    refine aw_bool (b := (!x25)) 30 rfl (fun c26 => ?_) (fun c26 => ?_)
    ·have h := ifT c26 h
     refine aw_cond_t D_ rfl ?_
     refine sr fun K27 hK27 => ?_
     refine pa 2 (.bool false) ?_
     refine en hK27 ?_
     refine aw_ret ?_
     have h := leafR h hk16
     have h := leafR h hq6
     obtain rfl := Option.some.inj h
     exact ret_ok1 W_ W_ R_ (.inr rfl) rfl
    ·have h := ifF c26 h
     refine aw_cond_f D_ rfl ?_
     refine aw_skip ?_
     have h := leafL h hk16
     exact ⟨_, reb_lit [(0, .sl 8 (List.map enc26 a0)), (3, .int .i64 v3_0), (4, .int .i64 v4_0)] [] [] [] (ec (ec (ec envOk_nil))) objOk_nil (nodup_b rfl) (nodup_b rfl) rfl rfl, h, rfl⟩
  ·rintro s ⟨h, rfl⟩
   unfold gleaninglaw22_Few_k2 at h
   refine aw_regL ?_
   refine pm 31 (.int .i64 v3_0) ?_
   refine pb 32 (.int .i64 (IntKind.i64.wrap (v3_0 + 1))) ?_
   refine pm 33 (.sl 8 (List.map enc26 a0)) ?_
   refine pm 34 (.int .i64 v4_0) ?_
   obtain ⟨g28, h⟩ := gd_some h
   obtain ⟨x29, hx29, h⟩ := bnd_some h
   refine pP 35 (does_indexAddr_sl (el := .agg [.int .i64 x29.Kind, .int .i64 x29.N, .sl 10 (List.map enc68 x29.Spans), .int .i64 x29.Policy.Kind, .int .i64 x29.Policy.N, .str x29.Policy.Key, .str x29.Policy.Value, .sl 5 (List.map enc24 x29.Policy.Kids)]) W_ W_ ty31 ty27 g28 (by exact map_get hx29)) ?_
   refine pf 36 (.rptr [.sl 10 (List.map enc68 x29.Spans), .int .i64 x29.Policy.Kind, .int .i64 x29.Policy.N, .str x29.Policy.Key, .str x29.Policy.Value, .sl 5 (List.map enc24 x29.Policy.Kids)]) ty27 ty22 ?_
   refine pl 37 (.sl 10 (List.map enc68 x29.Spans)) ty22 ?_
   refine pP 38 ((does_len_sl W_ ty22).castp (v' := .int .i64 (List.length x29.Spans : Int)) (by exact len_map _)) ?_
   refine pb 39 (.int .i64 (IntKind.i64.wrap ((IntKind.i64.wrap (v3_0 + 1)) + (List.length x29.Spans : Int)))) ?_
   refine pa 3 (.int .i64 (IntKind.i64.wrap ((IntKind.i64.wrap (v3_0 + 1)) + (List.length x29.Spans : Int)))) ?_
   refine en hK14 ?_
   refine aw_regL ?_
   refine pm 13 (.int .i64 v4_0) ?_
   refine pb 14 (.int .i64 (IntKind.i64.wrap (v4_0 + 1))) ?_
   refine pa 4 (.int .i64 (IntKind.i64.wrap (v4_0 + 1))) ?_
   refine al_nil ?_
   have h := leafL h hq6
   exact ⟨m0, Nat.lt_succ_self _, _, reb_lit [(0, .sl 8 (List.map enc26 a0)), (3, .int .i64 (IntKind.i64.wrap ((IntKind.i64.wrap (v3_0 + 1)) + (List.length x29.Spans : Int)))), (4, .int .i64 (IntKind.i64.wrap (v4_0 + 1)))] [] [] [] (ec (ec (ec envOk_nil))) objOk_nil (nodup_b rfl) (nodup_b rfl) rfl rfl, (IntKind.i64.wrap ((IntKind.i64.wrap (v3_0 + 1)) + (List.length x29.Spans : Int))), (IntKind.i64.wrap (v4_0 + 1)), h, rfl⟩
def gleaningref24_ReadOp_k0 (x7 : UInt8) (v4_s_1_0 : Int) (v4_s_2_0 : List Span) (v4_s_3_0 : Int) (v4_s_4_0 : Int) (v4_s_5_0 : ByteArray) (v4_s_6_0 : ByteArray) (v4_s_7_0 : List Rule) (v5_0 : Int) : Option (OpG × Int) :=
 if (v5_0 != 0) = true then (some ((OpG.mk 0 0 [] (Rule.mk 0 0 (strOf []) (strOf []) [])), 2)) else (some ((OpG.mk (IntKind.i64.wrap (x7.toNat : Int)) v4_s_1_0 v4_s_2_0 (Rule.mk v4_s_3_0 v4_s_4_0 v4_s_5_0 v4_s_6_0 v4_s_7_0)), 0))
def gleaningref24_ReadOp (a0 : List UInt8) : Option (OpG × Int) :=
 if ((List.length a0 : Int) == 0) = true then (some ((OpG.mk 0 0 [] (Rule.mk 0 0 (strOf []) (strOf []) [])), 2)) else (Option.bind (a0[0]?) (fun (x7 : UInt8) => Option.bind (if ((IntKind.i64.wrap (x7.toNat : Int)) == 1) = true then (gd ((1 : Int) ≤ (List.length a0 : Int)) (Option.bind (gleaningref1_ReadBatch (List.drop 1 a0)) (fun (x15 : List Span × Int) => some (0, x15.1, 0, 0, (strOf []), (strOf []), [], x15.2)))) else (if ((IntKind.i64.wrap (x7.toNat : Int)) == 2) = true then (gd ((1 : Int) ≤ (List.length a0 : Int)) (Option.bind (gleaningref1_Reader_Int (Reader.mk (List.drop 1 a0) false) 1099511627776) (fun (x21 : Int × Reader) => if x21.2.Bad = true then (some (x21.1, [], 0, 0, (strOf []), (strOf []), [], 2)) else (if (decide ((0 : Int) < (List.length x21.2.B : Int))) = true then (some (x21.1, [], 0, 0, (strOf []), (strOf []), [], 2)) else (some (x21.1, [], 0, 0, (strOf []), (strOf []), [], 0)))))) else (if ((IntKind.i64.wrap (x7.toNat : Int)) == 3) = true then (gd ((1 : Int) ≤ (List.length a0 : Int)) (Option.bind (gleaningref1_ReadRule (List.drop 1 a0)) (fun (x28 : Rule × Int) => some (0, [], x28.1.Kind, x28.1.N, x28.1.Key, x28.1.Value, x28.1.Kids, x28.2)))) else (if ((IntKind.i64.wrap (x7.toNat : Int)) == 4) = true then (if (decide ((1 : Int) < (List.length a0 : Int))) = true then (some (0, [], 0, 0, (strOf []), (strOf []), [], 2)) else (some (0, [], 0, 0, (strOf []), (strOf []), [], 0))) else (some (0, [], 0, 0, (strOf []), (strOf []), [], 2)))))) (fun (s : Int × List Span × Int × Int × ByteArray × ByteArray × List Rule × Int) => gleaningref24_ReadOp_k0 x7 s.1 s.2.1 s.2.2.1 s.2.2.2.1 s.2.2.2.2.1 s.2.2.2.2.2.1 s.2.2.2.2.2.2.1 s.2.2.2.2.2.2.2)))
theorem gleaningref24_ReadOp_ok (a0 : List UInt8) {r : OpG × Int} (h : gleaningref24_ReadOp a0 = some r) : Ok Try.prog 8 [.sl 1 (List.map enc5 a0)] [] [] (.tup [.agg [.int .i64 r.1.Kind, .int .i64 r.1.N, .sl 10 (List.map enc68 r.1.Spans), .int .i64 r.1.Policy.Kind, .int .i64 r.1.Policy.N, .str r.1.Policy.Key, .str r.1.Policy.Value, .sl 5 (List.map enc24 r.1.Policy.Kids)], .int .i64 r.2]) [] [] := by
 unfold gleaningref24_ReadOp at h
 refine ok_of_code Try.func8 rfl (by show (1 : Nat) ≤ _; decide) (Nat.le_refl _) fun X => ?_
 refine sr fun K1 hK1 => ?_
 refine pD 2 (do_new ty27 rfl rfl) ?_
 refine pa 3 (.int .i64 0) ?_
 refine en hK1 ?_
 refine aw_seq_k (fun K2 hK2 => ?_)
 refine sr fun K3 hK3 => ?_
 refine pm 7 (.sl 1 (List.map enc5 a0)) ?_
 refine pP 8 ((does_len_sl W_ ty28).castp (v' := .int .i64 (List.length a0 : Int)) (by exact len_map _)) ?_
 refine pb 9 (.bool ((List.length a0 : Int) == 0)) ?_
 refine en hK3 ?_
 refine aw_bool (b := ((List.length a0 : Int) == 0)) 9 rfl (fun c4 => ?_) (fun c4 => ?_)
 ·have h := ifT c4 h
  refine aw_cond_t D_ rfl ?_
  refine sr fun K5 hK5 => ?_
  refine pP 10 (do_build_struct (cs := [.int .i64 0, .int .i64 0, .nil, .int .i64 0, .int .i64 0, .str (strOf []), .str (strOf []), .nil]) ty27 rfl [⟨.int .i64, 1, 8, [.int .i64 0]⟩, ⟨.int .i64, 1, 8, [.int .i64 0]⟩, ⟨.slice 69, 1, 24, [.nil]⟩, ⟨.struct [(0, 3), (1, 3), (2, 9), (3, 9), (4, 23)], 5, 72, [.int .i64 0, .int .i64 0, .str ByteArray.empty, .str ByteArray.empty, .nil]⟩] (by simp only [List.map, ty22, ty25, ty3]) (by rfl) R_) ?_
  refine alD none rfl rfl (do_store (cs' := [.int .i64 0, .int .i64 0, .nil, .int .i64 0, .int .i64 0, .str (strOf []), .str (strOf []), .nil]) W_ W_ W_ ty27 rfl rfl rfl R_) D_ ?_
  refine pa 3 (.int .i64 2) ?_
  refine en hK5 ?_
  refine aw_reb (reb_w (tl' := [(2, .ptr 2 0 0), (3, .int .i64 2)]) (ol' := [((2, 0), .box [.int .i64 0, .int .i64 0, .sl 10 (List.map enc68 []), .int .i64 0, .int .i64 0, .str (strOf []), .str (strOf []), .sl 5 (List.map enc24 [])])]) (reb_lit [(2, .ptr 2 0 0), (3, .int .i64 2)] [(2, 0)] [((2, 0), .box [.int .i64 0, .int .i64 0, .nil, .int .i64 0, .int .i64 0, .str (strOf []), .str (strOf []), .nil])] [(2, 1)] (ec (ec envOk_nil)) (objOk_cons W_ W_ R_ (by simp) objOk_nil) (nodup_b rfl) (nodup_b rfl) rfl rfl) ⟨rfl, le_refl _, rfl, le_refl _, trivial⟩ ⟨rfl, (.box ⟨le_refl _, le_refl _, le_nil _, le_refl _, le_refl _, le_refl _, le_refl _, le_nil _, trivial⟩), trivial⟩) ?_
  refine aw_ret ?_
  obtain rfl := Option.some.inj h
  exact ret_ok1 W_ W_ R_ (.inr rfl) rfl
 ·have h := ifF c4 h
  refine aw_cond_f D_ rfl ?_
  refine aw_skip ?_
  refine hK2 _ ?_
  refine sr fun K6 hK6 => ?_
  refine pm 11 (.sl 1 (List.map enc5 a0)) ?_
  obtain ⟨x7, hx7, h⟩ := bnd_some h
  refine pP 12 (does_indexAddr_sl (el := .int .u8 (x7.toNat : Int)) W_ W_ ty28 ty5 D_ (by exact map_get hx7)) ?_
  refine pl 13 (.int .u8 (x7.toNat : Int)) ty5 ?_
  refine pP 14 (does_conv_int (v := .int .i64 (IntKind.i64.wrap (x7.toNat : Int))) W_ (ty_some ty5) (ty_int ty3) rfl) ?_
  refine pP 15 (do_build_struct (cs := [.int .i64 (IntKind.i64.wrap (x7.toNat : Int)), .int .i64 0, .nil, .int .i64 0, .int .i64 0, .str (strOf []), .str (strOf []), .nil]) ty27 rfl [⟨.int .i64, 1, 8, [.int .i64 0]⟩, ⟨.int .i64, 1, 8, [.int .i64 0]⟩, ⟨.slice 69, 1, 24, [.nil]⟩, ⟨.struct [(0, 3), (1, 3), (2, 9), (3, 9), (4, 23)], 5, 72, [.int .i64 0, .int .i64 0, .str ByteArray.empty, .str ByteArray.empty, .nil]⟩] (by simp only [List.map, ty22, ty25, ty3]) (by rfl) R_) ?_
  refine pD 4 (do_new ty27 rfl rfl) ?_
  refine alD none rfl rfl (do_store (cs' := [.int .i64 (IntKind.i64.wrap (x7.toNat : Int)), .int .i64 0, .nil, .int .i64 0, .int .i64 0, .str (strOf []), .str (strOf []), .nil]) W_ W_ W_ ty27 rfl rfl rfl R_) D_ ?_
  refine en hK6 ?_
  refine sr fun K8 hK8 => ?_
  refine pa 5 (.int .i64 0) ?_
  refine en hK8 ?_
  obtain ⟨q9, h, hk10⟩ := bnd_some h
  refine aw_cut (fun s => ∃ (v4_s_1_0 : Int), ∃ (v4_s_2_0 : List Span), ∃ (v4_s_3_0 : Int), ∃ (v4_s_4_0 : Int), ∃ (v4_s_5_0 : ByteArray), ∃ (v4_s_6_0 : ByteArray), ∃ (v4_s_7_0 : List Rule), ∃ (v5_0 : Int), gleaningref24_ReadOp_k0 x7 v4_s_1_0 v4_s_2_0 v4_s_3_0 v4_s_4_0 v4_s_5_0 v4_s_6_0 v4_s_7_0 v5_0 = some r ∧ s = lit [(2, .ptr 2 0 0), (4, .ptr 4 0 0), (5, .int .i64 v5_0)] [((2, 0), .box [.int .i64 0, .int .i64 0, .nil, .int .i64 0, .int .i64 0, .str (strOf []), .str (strOf []), .nil]), ((4, 0), .box [.int .i64 (IntKind.i64.wrap (x7.toNat : Int)), .int .i64 v4_s_1_0, .sl 10 (List.map enc68 v4_s_2_0), .int .i64 v4_s_3_0, .int .i64 v4_s_4_0, .str v4_s_5_0, .str v4_s_6_0, .sl 5 (List.map enc24 v4_s_7_0)])] [(2, 1), (4, 1)] X) ?_ ?_
  ·skip
   refine sr fun K11 hK11 => ?_
   refine pf 16 (.ptr 4 0 0) ty27 ty3 ?_
   refine pl 17 (.int .i64 (IntKind.i64.wrap (x7.toNat : Int))) ty3 ?_
   refine en hK11 ?_
   refine aw_block ?_
   refine sr fun K12 hK12 => ?_
   refine pb 19 (.bool ((IntKind.i64.wrap (x7.toNat : Int)) == 1)) ?_
   refine pa 18 (.bool ((IntKind.i64.wrap (x7.toNat : Int)) == 1)) ?_
   refine en hK12 ?_
   refine aw_bool (b := ((IntKind.i64.wrap (x7.toNat : Int)) == 1)) 18 rfl (fun c13 => ?_) (fun c13 => ?_)
   ·have h := ifT c13 h
    refine aw_cond_t D_ rfl ?_
    refine aw_regL ?_
    refine pm 21 (.sl 1 (List.map enc5 a0)) ?_
    obtain ⟨g14, h⟩ := gd_some h
    refine pP 22 (does_slice_sl (l := 1) W_ ty28 ty5 (bd_some W_ R_) bd_none (by (try simp only [List.length_map]); omega) (by (try simp only [List.length_map]); omega) (by exact part_l _ _)) ?_
    obtain ⟨x15, hx15, h⟩ := bnd_some h
    refine pD 23 (do_call0 23 false (gleaningref1_ReadBatch_ok (List.drop 1 a0) hx15) rfl ent21 rfl rfl) ?_
    refine pm 20 (.tup [.own 23 0, .int .i64 x15.2]) ?_
    refine pP 24 (does_extract (v := .own 23 0) W_ R_) ?_
    refine pP 25 (does_extract (v := .int .i64 x15.2) W_ R_) ?_
    refine pf 26 (.ptr 4 0 2) ty27 ty22 ?_
    refine alD none rfl rfl (do_store (cs' := [.int .i64 (IntKind.i64.wrap (x7.toNat : Int)), .int .i64 0, .own 23 0, .int .i64 0, .int .i64 0, .str (strOf []), .str (strOf []), .nil]) W_ W_ W_ ty22 rfl rfl rfl R_) D_ ?_
    refine pa 5 (.int .i64 x15.2) ?_
    refine al_nil ?_
    obtain rfl := Option.some.inj h
    have h := hk10
    exact ⟨_, reb_w (tl' := [(2, .ptr 2 0 0), (4, .ptr 4 0 0), (5, .int .i64 x15.2)]) (ol' := [((2, 0), .box [.int .i64 0, .int .i64 0, .nil, .int .i64 0, .int .i64 0, .str (strOf []), .str (strOf []), .nil]), ((4, 0), .box [.int .i64 (IntKind.i64.wrap (x7.toNat : Int)), .int .i64 (0), .sl 10 (List.map enc68 x15.1), .int .i64 (0), .int .i64 (0), .str (strOf []), .str (strOf []), .sl 5 (List.map enc24 [])])]) (reb_lit [(2, .ptr 2 0 0), (4, .ptr 4 0 0), (5, .int .i64 x15.2)] [(2, 0), (4, 0)] [((2, 0), .box [.int .i64 0, .int .i64 0, .nil, .int .i64 0, .int .i64 0, .str (strOf []), .str (strOf []), .nil]), ((4, 0), .box [.int .i64 (IntKind.i64.wrap (x7.toNat : Int)), .int .i64 (0), .sl 10 (List.map enc68 x15.1), .int .i64 (0), .int .i64 (0), .str (strOf []), .str (strOf []), .nil])] [(2, 1), (4, 1)] (ec (ec (ec envOk_nil))) (objOk_cons W_ W_ R_ (by simp) (objOk_cons W_ W_ R_ (by simp) objOk_nil)) (nodup_b rfl) (nodup_b rfl) rfl rfl) ⟨rfl, le_refl _, rfl, le_refl _, rfl, le_refl _, trivial⟩ ⟨rfl, .rfl _, rfl, (.box ⟨le_refl _, le_refl _, le_refl _, le_refl _, le_refl _, le_refl _, le_refl _, le_nil _, trivial⟩), trivial⟩, 0, x15.1, 0, 0, (strOf []), (strOf []), [], x15.2, h, rfl⟩
   ·have h := ifF c13 h
    refine aw_cond_f D_ rfl ?_
    refine sr fun K16 hK16 => ?_
    refine pb 28 (.bool ((IntKind.i64.wrap (x7.toNat : Int)) == 2)) ?_
    refine pa 27 (.bool ((IntKind.i64.wrap (x7.toNat : Int)) == 2)) ?_
    refine en hK16 ?_
    refine aw_bool (b := ((IntKind.i64.wrap (x7.toNat : Int)) == 2)) 27 rfl (fun c17 => ?_) (fun c17 => ?_)
    ·have h := ifT c17 h
     refine aw_cond_t D_ rfl ?_
     refine sr fun K18 hK18 => ?_
     refine pm 29 (.sl 1 (List.map enc5 a0)) ?_
     obtain ⟨g19, h⟩ := gd_some h
     refine pP 30 (does_slice_sl (l := 1) W_ ty28 ty5 (bd_some W_ R_) bd_none (by (try simp only [List.length_map]); omega) (by (try simp only [List.length_map]); omega) (by exact part_l _ _)) ?_
     refine pP 31 (do_build_struct (cs := [.sl 1 (List.map enc5 (List.drop 1 a0)), .bool false]) ty59 rfl [⟨.slice 5, 1, 24, [.nil]⟩, ⟨.bool, 1, 1, [.bool false]⟩] (by simp only [List.map, ty28, ty4]) (by rfl) R_) ?_
     refine pD 32 (do_box W_ rfl rfl) ?_
     refine pa 6 (.ptr 32 0 0) ?_
     refine en hK18 ?_
     refine sr fun K20 hK20 => ?_
     refine pm 33 (.ptr 32 0 0) ?_
     obtain ⟨x21, hx21, h⟩ := bnd_some h
     refine pD 34 (do_callG (bcs := [[.sl 1 (List.map enc5 (List.drop 1 a0)), .bool false]]) [(32, 0)] [] [] 34 false (gleaningref1_Reader_Int_ok (Reader.mk (List.drop 1 a0) false) 1099511627776 hx21) rfl ent22 ⟨R_, trivial⟩ trivial rfl rfl rfl rfl rfl rfl rfl rfl (.inl trivial)) ?_
     refine pf 35 (.ptr 4 0 1) ty27 ty3 ?_
     refine alD none rfl rfl (do_store (cs' := [.int .i64 (IntKind.i64.wrap (x7.toNat : Int)), .int .i64 x21.1, .nil, .int .i64 0, .int .i64 0, .str (strOf []), .str (strOf []), .nil]) W_ W_ W_ ty3 rfl rfl rfl R_) D_ ?_
     refine en hK20 ?_
     refine sr fun K22 hK22 => ?_
     refine pm 36 (.ptr 32 0 0) ?_
     refine pP 37 (does_nilCheck (p := .ptr 32 0 0) W_ rfl) ?_
     refine pf 38 (.ptr 32 0 1) ty59 ty4 ?_
     refine pl 39 (.bool x21.2.Bad) ty4 ?_
     refine pm 40 (.bool x21.2.Bad) ?_
     refine al_bool (c := x21.2.Bad) 40 rfl (fun c23 => ?_) (fun c23 => ?_)
     ·have h := ifT c23 h
      refine pS 41 ?_
      refine pS 42 ?_
      refine pS 43 ?_
      refine pS 44 ?_
      refine pS 45 ?_
      refine pS 46 ?_
      refine pk 47 (.bool true) ?_
      refine en hK22 ?_
      refine aw_cond_t D_ rfl ?_
      refine aw_regL ?_
      refine pa 5 (.int .i64 2) ?_
      refine al_nil ?_
      obtain rfl := Option.some.inj h
      have h := hk10
      exact ⟨_, reb_w (tl' := [(2, .ptr 2 0 0), (4, .ptr 4 0 0), (5, .int .i64 (2))]) (ol' := [((2, 0), .box [.int .i64 0, .int .i64 0, .nil, .int .i64 0, .int .i64 0, .str (strOf []), .str (strOf []), .nil]), ((4, 0), .box [.int .i64 (IntKind.i64.wrap (x7.toNat : Int)), .int .i64 x21.1, .sl 10 (List.map enc68 []), .int .i64 (0), .int .i64 (0), .str (strOf []), .str (strOf []), .sl 5 (List.map enc24 [])])]) (reb_lit [(2, .ptr 2 0 0), (4, .ptr 4 0 0), (5, .int .i64 (2))] [(2, 0), (4, 0)] [((2, 0), .box [.int .i64 0, .int .i64 0, .nil, .int .i64 0, .int .i64 0, .str (strOf []), .str (strOf []), .nil]), ((4, 0), .box [.int .i64 (IntKind.i64.wrap (x7.toNat : Int)), .int .i64 x21.1, .nil, .int .i64 (0), .int .i64 (0), .str (strOf []), .str (strOf []), .nil])] [(2, 1), (4, 1)] (ec (ec (ec envOk_nil))) (objOk_cons W_ W_ R_ (by simp) (objOk_cons W_ W_ R_ (by simp) objOk_nil)) (nodup_b rfl) (nodup_b rfl) rfl rfl) ⟨rfl, le_refl _, rfl, le_refl _, rfl, le_refl _, trivial⟩ ⟨rfl, .rfl _, rfl, (.box ⟨le_refl _, le_refl _, le_nil _, le_refl _, le_refl _, le_refl _, le_refl _, le_nil _, trivial⟩), trivial⟩, x21.1, [], 0, 0, (strOf []), (strOf []), [], 2, h, rfl⟩
     ·have h := ifF c23 h
      refine pm 41 (.ptr 32 0 0) ?_
      refine pP 42 (does_nilCheck (p := .ptr 32 0 0) W_ rfl) ?_
      refine pf 43 (.ptr 32 0 0) ty59 ty28 ?_
      refine pl 44 (.sl 1 (List.map enc5 x21.2.B)) ty28 ?_
      refine pP 45 ((does_len_sl W_ ty28).castp (v' := .int .i64 (List.length x21.2.B : Int)) (by exact len_map _)) ?_
      refine pb 46 (.bool (decide ((0 : Int) < (List.length x21.2.B : Int)))) ?_
      refine pk 47 (.bool (decide ((0 : Int) < (List.length x21.2.B : Int)))) ?_
      refine en hK22 ?_
      refine aw_bool (b := (decide ((0 : Int) < (List.length x21.2.B : Int)))) 47 rfl (fun c24 => ?_) (fun c24 => ?_)
      ·have h := ifT c24 h
       refine aw_cond_t D_ rfl ?_
       refine aw_regL ?_
       refine pa 5 (.int .i64 2) ?_
       refine al_nil ?_
       obtain rfl := Option.some.inj h
       have h := hk10
       exact ⟨_, reb_w (tl' := [(2, .ptr 2 0 0), (4, .ptr 4 0 0), (5, .int .i64 (2))]) (ol' := [((2, 0), .box [.int .i64 0, .int .i64 0, .nil, .int .i64 0, .int .i64 0, .str (strOf []), .str (strOf []), .nil]), ((4, 0), .box [.int .i64 (IntKind.i64.wrap (x7.toNat : Int)), .int .i64 x21.1, .sl 10 (List.map enc68 []), .int .i64 (0), .int .i64 (0), .str (strOf []), .str (strOf []), .sl 5 (List.map enc24 [])])]) (reb_lit [(2, .ptr 2 0 0), (4, .ptr 4 0 0), (5, .int .i64 (2))] [(2, 0), (4, 0)] [((2, 0), .box [.int .i64 0, .int .i64 0, .nil, .int .i64 0, .int .i64 0, .str (strOf []), .str (strOf []), .nil]), ((4, 0), .box [.int .i64 (IntKind.i64.wrap (x7.toNat : Int)), .int .i64 x21.1, .nil, .int .i64 (0), .int .i64 (0), .str (strOf []), .str (strOf []), .nil])] [(2, 1), (4, 1)] (ec (ec (ec envOk_nil))) (objOk_cons W_ W_ R_ (by simp) (objOk_cons W_ W_ R_ (by simp) objOk_nil)) (nodup_b rfl) (nodup_b rfl) rfl rfl) ⟨rfl, le_refl _, rfl, le_refl _, rfl, le_refl _, trivial⟩ ⟨rfl, .rfl _, rfl, (.box ⟨le_refl _, le_refl _, le_nil _, le_refl _, le_refl _, le_refl _, le_refl _, le_nil _, trivial⟩), trivial⟩, x21.1, [], 0, 0, (strOf []), (strOf []), [], 2, h, rfl⟩
      ·have h := ifF c24 h
       refine aw_cond_f D_ rfl ?_
       refine aw_skip ?_
       obtain rfl := Option.some.inj h
       have h := hk10
       exact ⟨_, reb_w (tl' := [(2, .ptr 2 0 0), (4, .ptr 4 0 0), (5, .int .i64 (0))]) (ol' := [((2, 0), .box [.int .i64 0, .int .i64 0, .nil, .int .i64 0, .int .i64 0, .str (strOf []), .str (strOf []), .nil]), ((4, 0), .box [.int .i64 (IntKind.i64.wrap (x7.toNat : Int)), .int .i64 x21.1, .sl 10 (List.map enc68 []), .int .i64 (0), .int .i64 (0), .str (strOf []), .str (strOf []), .sl 5 (List.map enc24 [])])]) (reb_lit [(2, .ptr 2 0 0), (4, .ptr 4 0 0), (5, .int .i64 (0))] [(2, 0), (4, 0)] [((2, 0), .box [.int .i64 0, .int .i64 0, .nil, .int .i64 0, .int .i64 0, .str (strOf []), .str (strOf []), .nil]), ((4, 0), .box [.int .i64 (IntKind.i64.wrap (x7.toNat : Int)), .int .i64 x21.1, .nil, .int .i64 (0), .int .i64 (0), .str (strOf []), .str (strOf []), .nil])] [(2, 1), (4, 1)] (ec (ec (ec envOk_nil))) (objOk_cons W_ W_ R_ (by simp) (objOk_cons W_ W_ R_ (by simp) objOk_nil)) (nodup_b rfl) (nodup_b rfl) rfl rfl) ⟨rfl, le_refl _, rfl, le_refl _, rfl, le_refl _, trivial⟩ ⟨rfl, .rfl _, rfl, (.box ⟨le_refl _, le_refl _, le_nil _, le_refl _, le_refl _, le_refl _, le_refl _, le_nil _, trivial⟩), trivial⟩, x21.1, [], 0, 0, (strOf []), (strOf []), [], 0, h, rfl⟩
    ·have h := ifF c17 h
     refine aw_cond_f D_ rfl ?_
     refine sr fun K25 hK25 => ?_
     refine pb 49 (.bool ((IntKind.i64.wrap (x7.toNat : Int)) == 3)) ?_
     refine pa 48 (.bool ((IntKind.i64.wrap (x7.toNat : Int)) == 3)) ?_
     refine en hK25 ?_
     refine aw_bool (b := ((IntKind.i64.wrap (x7.toNat : Int)) == 3)) 48 rfl (fun c26 => ?_) (fun c26 => ?_)
     ·have h := ifT c26 h
      refine aw_cond_t D_ rfl ?_
      refine aw_regL ?_
      refine pm 51 (.sl 1 (List.map enc5 a0)) ?_
      obtain ⟨g27, h⟩ := gd_some h
      refine pP 52 (does_slice_sl (l := 1) W_ ty28 ty5 (bd_some W_ R_) bd_none (by (try simp only [List.length_map]); omega) (by (try simp only [List.length_map]); omega) (by exact part_l _ _)) ?_
      obtain ⟨x28, hx28, h⟩ := bnd_some h
      refine pD 53 (do_call0 53 false (gleaningref1_ReadRule_ok (List.drop 1 a0) hx28) rfl ent23 rfl rfl) ?_
      refine pm 50 (.tup [.agg [.int .i64 x28.1.Kind, .int .i64 x28.1.N, .str x28.1.Key, .str x28.1.Value, .sl 5 (List.map enc24 x28.1.Kids)], .int .i64 x28.2]) ?_
      refine pP 54 (does_extract (v := .agg [.int .i64 x28.1.Kind, .int .i64 x28.1.N, .str x28.1.Key, .str x28.1.Value, .sl 5 (List.map enc24 x28.1.Kids)]) W_ R_) ?_
      refine pP 55 (does_extract (v := .int .i64 x28.2) W_ R_) ?_
      refine pf 56 (.ptr 4 0 3) ty27 ty25 ?_
      refine alD none rfl rfl (do_store (cs' := [.int .i64 (IntKind.i64.wrap (x7.toNat : Int)), .int .i64 0, .nil, .int .i64 x28.1.Kind, .int .i64 x28.1.N, .str x28.1.Key, .str x28.1.Value, .sl 5 (List.map enc24 x28.1.Kids)]) W_ W_ W_ ty25 rfl rfl rfl R_) D_ ?_
      refine pa 5 (.int .i64 x28.2) ?_
      refine al_nil ?_
      obtain rfl := Option.some.inj h
      have h := hk10
      exact ⟨_, reb_w (tl' := [(2, .ptr 2 0 0), (4, .ptr 4 0 0), (5, .int .i64 x28.2)]) (ol' := [((2, 0), .box [.int .i64 0, .int .i64 0, .nil, .int .i64 0, .int .i64 0, .str (strOf []), .str (strOf []), .nil]), ((4, 0), .box [.int .i64 (IntKind.i64.wrap (x7.toNat : Int)), .int .i64 (0), .sl 10 (List.map enc68 []), .int .i64 x28.1.Kind, .int .i64 x28.1.N, .str x28.1.Key, .str x28.1.Value, .sl 5 (List.map enc24 x28.1.Kids)])]) (reb_lit [(2, .ptr 2 0 0), (4, .ptr 4 0 0), (5, .int .i64 x28.2)] [(2, 0), (4, 0)] [((2, 0), .box [.int .i64 0, .int .i64 0, .nil, .int .i64 0, .int .i64 0, .str (strOf []), .str (strOf []), .nil]), ((4, 0), .box [.int .i64 (IntKind.i64.wrap (x7.toNat : Int)), .int .i64 (0), .nil, .int .i64 x28.1.Kind, .int .i64 x28.1.N, .str x28.1.Key, .str x28.1.Value, .sl 5 (List.map enc24 x28.1.Kids)])] [(2, 1), (4, 1)] (ec (ec (ec envOk_nil))) (objOk_cons W_ W_ R_ (by simp) (objOk_cons W_ W_ R_ (by simp) objOk_nil)) (nodup_b rfl) (nodup_b rfl) rfl rfl) ⟨rfl, le_refl _, rfl, le_refl _, rfl, le_refl _, trivial⟩ ⟨rfl, .rfl _, rfl, (.box ⟨le_refl _, le_refl _, le_nil _, le_refl _, le_refl _, le_refl _, le_refl _, le_refl _, trivial⟩), trivial⟩, 0, [], x28.1.Kind, x28.1.N, x28.1.Key, x28.1.Value, x28.1.Kids, x28.2, h, rfl⟩
     ·have h := ifF c26 h
      refine aw_cond_f D_ rfl ?_
      refine sr fun K29 hK29 => ?_
      refine pb 58 (.bool ((IntKind.i64.wrap (x7.toNat : Int)) == 4)) ?_
      refine pa 57 (.bool ((IntKind.i64.wrap (x7.toNat : Int)) == 4)) ?_
      refine en hK29 ?_
      refine aw_bool (b := ((IntKind.i64.wrap (x7.toNat : Int)) == 4)) 57 rfl (fun c30 => ?_) (fun c30 => ?_)
      ·have h := ifT c30 h
       refine aw_cond_t D_ rfl ?_
       refine sr fun K31 hK31 => ?_
       refine pm 59 (.sl 1 (List.map enc5 a0)) ?_
       refine pP 60 ((does_len_sl W_ ty28).castp (v' := .int .i64 (List.length a0 : Int)) (by exact len_map _)) ?_
       refine pb 61 (.bool (decide ((1 : Int) < (List.length a0 : Int)))) ?_
       refine en hK31 ?_
       refine aw_bool (b := (decide ((1 : Int) < (List.length a0 : Int)))) 61 rfl (fun c32 => ?_) (fun c32 => ?_)
       ·have h := ifT c32 h
        refine aw_cond_t D_ rfl ?_
        refine aw_regL ?_
        refine pa 5 (.int .i64 2) ?_
        refine al_nil ?_
        obtain rfl := Option.some.inj h
        have h := hk10
        exact ⟨_, reb_w (tl' := [(2, .ptr 2 0 0), (4, .ptr 4 0 0), (5, .int .i64 (2))]) (ol' := [((2, 0), .box [.int .i64 0, .int .i64 0, .nil, .int .i64 0, .int .i64 0, .str (strOf []), .str (strOf []), .nil]), ((4, 0), .box [.int .i64 (IntKind.i64.wrap (x7.toNat : Int)), .int .i64 (0), .sl 10 (List.map enc68 []), .int .i64 (0), .int .i64 (0), .str (strOf []), .str (strOf []), .sl 5 (List.map enc24 [])])]) (reb_lit [(2, .ptr 2 0 0), (4, .ptr 4 0 0), (5, .int .i64 (2))] [(2, 0), (4, 0)] [((2, 0), .box [.int .i64 0, .int .i64 0, .nil, .int .i64 0, .int .i64 0, .str (strOf []), .str (strOf []), .nil]), ((4, 0), .box [.int .i64 (IntKind.i64.wrap (x7.toNat : Int)), .int .i64 (0), .nil, .int .i64 (0), .int .i64 (0), .str (strOf []), .str (strOf []), .nil])] [(2, 1), (4, 1)] (ec (ec (ec envOk_nil))) (objOk_cons W_ W_ R_ (by simp) (objOk_cons W_ W_ R_ (by simp) objOk_nil)) (nodup_b rfl) (nodup_b rfl) rfl rfl) ⟨rfl, le_refl _, rfl, le_refl _, rfl, le_refl _, trivial⟩ ⟨rfl, .rfl _, rfl, (.box ⟨le_refl _, le_refl _, le_nil _, le_refl _, le_refl _, le_refl _, le_refl _, le_nil _, trivial⟩), trivial⟩, 0, [], 0, 0, (strOf []), (strOf []), [], 2, h, rfl⟩
       ·have h := ifF c32 h
        refine aw_cond_f D_ rfl ?_
        refine aw_skip ?_
        obtain rfl := Option.some.inj h
        have h := hk10
        exact ⟨_, reb_w (tl' := [(2, .ptr 2 0 0), (4, .ptr 4 0 0), (5, .int .i64 (0))]) (ol' := [((2, 0), .box [.int .i64 0, .int .i64 0, .nil, .int .i64 0, .int .i64 0, .str (strOf []), .str (strOf []), .nil]), ((4, 0), .box [.int .i64 (IntKind.i64.wrap (x7.toNat : Int)), .int .i64 (0), .sl 10 (List.map enc68 []), .int .i64 (0), .int .i64 (0), .str (strOf []), .str (strOf []), .sl 5 (List.map enc24 [])])]) (reb_lit [(2, .ptr 2 0 0), (4, .ptr 4 0 0), (5, .int .i64 (0))] [(2, 0), (4, 0)] [((2, 0), .box [.int .i64 0, .int .i64 0, .nil, .int .i64 0, .int .i64 0, .str (strOf []), .str (strOf []), .nil]), ((4, 0), .box [.int .i64 (IntKind.i64.wrap (x7.toNat : Int)), .int .i64 (0), .nil, .int .i64 (0), .int .i64 (0), .str (strOf []), .str (strOf []), .nil])] [(2, 1), (4, 1)] (ec (ec (ec envOk_nil))) (objOk_cons W_ W_ R_ (by simp) (objOk_cons W_ W_ R_ (by simp) objOk_nil)) (nodup_b rfl) (nodup_b rfl) rfl rfl) ⟨rfl, le_refl _, rfl, le_refl _, rfl, le_refl _, trivial⟩ ⟨rfl, .rfl _, rfl, (.box ⟨le_refl _, le_refl _, le_nil _, le_refl _, le_refl _, le_refl _, le_refl _, le_nil _, trivial⟩), trivial⟩, 0, [], 0, 0, (strOf []), (strOf []), [], 0, h, rfl⟩
      ·have h := ifF c30 h
       refine aw_cond_f D_ rfl ?_
       refine aw_regL ?_
       refine pa 5 (.int .i64 2) ?_
       refine al_nil ?_
       obtain rfl := Option.some.inj h
       have h := hk10
       exact ⟨_, reb_w (tl' := [(2, .ptr 2 0 0), (4, .ptr 4 0 0), (5, .int .i64 (2))]) (ol' := [((2, 0), .box [.int .i64 0, .int .i64 0, .nil, .int .i64 0, .int .i64 0, .str (strOf []), .str (strOf []), .nil]), ((4, 0), .box [.int .i64 (IntKind.i64.wrap (x7.toNat : Int)), .int .i64 (0), .sl 10 (List.map enc68 []), .int .i64 (0), .int .i64 (0), .str (strOf []), .str (strOf []), .sl 5 (List.map enc24 [])])]) (reb_lit [(2, .ptr 2 0 0), (4, .ptr 4 0 0), (5, .int .i64 (2))] [(2, 0), (4, 0)] [((2, 0), .box [.int .i64 0, .int .i64 0, .nil, .int .i64 0, .int .i64 0, .str (strOf []), .str (strOf []), .nil]), ((4, 0), .box [.int .i64 (IntKind.i64.wrap (x7.toNat : Int)), .int .i64 (0), .nil, .int .i64 (0), .int .i64 (0), .str (strOf []), .str (strOf []), .nil])] [(2, 1), (4, 1)] (ec (ec (ec envOk_nil))) (objOk_cons W_ W_ R_ (by simp) (objOk_cons W_ W_ R_ (by simp) objOk_nil)) (nodup_b rfl) (nodup_b rfl) rfl rfl) ⟨rfl, le_refl _, rfl, le_refl _, rfl, le_refl _, trivial⟩ ⟨rfl, .rfl _, rfl, (.box ⟨le_refl _, le_refl _, le_nil _, le_refl _, le_refl _, le_refl _, le_refl _, le_nil _, trivial⟩), trivial⟩, 0, [], 0, 0, (strOf []), (strOf []), [], 2, h, rfl⟩
  ·rintro s ⟨v4_s_1_0, v4_s_2_0, v4_s_3_0, v4_s_4_0, v4_s_5_0, v4_s_6_0, v4_s_7_0, v5_0, h, rfl⟩
   unfold gleaningref24_ReadOp_k0 at h
   refine aw_seq_k (fun K33 hK33 => ?_)
   refine sr fun K34 hK34 => ?_
   refine pm 62 (.int .i64 v5_0) ?_
   refine pb 63 (.bool (v5_0 != 0)) ?_
   refine en hK34 ?_
   refine aw_bool (b := (v5_0 != 0)) 63 rfl (fun c35 => ?_) (fun c35 => ?_)
   ·have h := ifT c35 h
    refine aw_cond_t D_ rfl ?_
    refine sr fun K36 hK36 => ?_
    refine pP 64 (do_build_struct (cs := [.int .i64 0, .int .i64 0, .nil, .int .i64 0, .int .i64 0, .str (strOf []), .str (strOf []), .nil]) ty27 rfl [⟨.int .i64, 1, 8, [.int .i64 0]⟩, ⟨.int .i64, 1, 8, [.int .i64 0]⟩, ⟨.slice 69, 1, 24, [.nil]⟩, ⟨.struct [(0, 3), (1, 3), (2, 9), (3, 9), (4, 23)], 5, 72, [.int .i64 0, .int .i64 0, .str ByteArray.empty, .str ByteArray.empty, .nil]⟩] (by simp only [List.map, ty22, ty25, ty3]) (by rfl) R_) ?_
    refine alD none rfl rfl (do_store (cs' := [.int .i64 0, .int .i64 0, .nil, .int .i64 0, .int .i64 0, .str (strOf []), .str (strOf []), .nil]) W_ W_ W_ ty27 rfl rfl rfl R_) D_ ?_
    refine pa 3 (.int .i64 2) ?_
    refine en hK36 ?_
    refine aw_reb (reb_w (tl' := [(2, .ptr 2 0 0), (3, .int .i64 2)]) (ol' := [((2, 0), .box [.int .i64 0, .int .i64 0, .sl 10 (List.map enc68 []), .int .i64 0, .int .i64 0, .str (strOf []), .str (strOf []), .sl 5 (List.map enc24 [])])]) (reb_lit [(2, .ptr 2 0 0), (3, .int .i64 2)] [(2, 0)] [((2, 0), .box [.int .i64 0, .int .i64 0, .nil, .int .i64 0, .int .i64 0, .str (strOf []), .str (strOf []), .nil])] [(2, 1)] (ec (ec envOk_nil)) (objOk_cons W_ W_ R_ (by simp) objOk_nil) (nodup_b rfl) (nodup_b rfl) rfl rfl) ⟨rfl, le_refl _, rfl, le_refl _, trivial⟩ ⟨rfl, (.box ⟨le_refl _, le_refl _, le_nil _, le_refl _, le_refl _, le_refl _, le_refl _, le_nil _, trivial⟩), trivial⟩) ?_
    refine aw_ret ?_
    obtain rfl := Option.some.inj h
    exact ret_ok1 W_ W_ R_ (.inr rfl) rfl
   ·have h := ifF c35 h
    refine aw_cond_f D_ rfl ?_
    refine aw_skip ?_
    refine hK33 _ ?_
    refine sr fun K37 hK37 => ?_
    refine pl 65 (.agg [.int .i64 (IntKind.i64.wrap (x7.toNat : Int)), .int .i64 v4_s_1_0, .sl 10 (List.map enc68 v4_s_2_0), .int .i64 v4_s_3_0, .int .i64 v4_s_4_0, .str v4_s_5_0, .str v4_s_6_0, .sl 5 (List.map enc24 v4_s_7_0)]) ty27 ?_
    refine alD none rfl rfl (do_store (cs' := [.int .i64 (IntKind.i64.wrap (x7.toNat : Int)), .int .i64 v4_s_1_0, .sl 10 (List.map enc68 v4_s_2_0), .int .i64 v4_s_3_0, .int .i64 v4_s_4_0, .str v4_s_5_0, .str v4_s_6_0, .sl 5 (List.map enc24 v4_s_7_0)]) W_ W_ W_ ty27 rfl rfl rfl R_) D_ ?_
    refine pa 3 (.int .i64 0) ?_
    refine en hK37 ?_
    refine aw_ret ?_
    obtain rfl := Option.some.inj h
    exact ret_ok1 W_ W_ R_ (.inr rfl) rfl
def gleaningref24_OpBytes_k0 (a0 : OpG) (v27_0 : Bool) : Option (List UInt8) :=
 if v27_0 = true then (Option.bind (gleaningref1_Put [(2 : UInt8)] (IntKind.u64.wrap a0.N)) (fun (x20 : List UInt8) => some x20)) else (some [])
def gleaningref24_OpBytes (a0 : OpG) : Option (List UInt8) :=
 if (a0.Kind == 1) = true then (Option.bind (gleaningref1_BatchBytes a0.Spans) (fun (x7 : List UInt8) => if (decide ((0 : Int) < (List.length x7 : Int))) = true then (gd ((List.length ([(1 : UInt8)] ++ x7)) * 1 ≤ 140737488355328 ∧ (List.length ([(1 : UInt8)] ++ x7)) ≤ 140737488355328) (some ([(1 : UInt8)] ++ x7))) else (some []))) else (if (a0.Kind == 2) = true then (Option.bind (if (decide ((0 : Int) ≤ a0.N)) = true then (some (decide (a0.N ≤ 1099511627776))) else (some false)) (fun (s : Bool) => gleaningref24_OpBytes_k0 a0 s)) else (if (a0.Kind == 3) = true then (Option.bind (gleaningref1_RuleBytes a0.Policy) (fun (x25 : List UInt8) => if (decide ((0 : Int) < (List.length x25 : Int))) = true then (gd ((List.length ([(3 : UInt8)] ++ x25)) * 1 ≤ 140737488355328 ∧ (List.length ([(3 : UInt8)] ++ x25)) ≤ 140737488355328) (some ([(3 : UInt8)] ++ x25))) else (some []))) else (if (a0.Kind == 4) = true then (some [(4 : UInt8)]) else (some []))))
theorem gleaningref24_OpBytes_ok (a0 : OpG) {r : List UInt8} (h : gleaningref24_OpBytes a0 = some r) : Ok Try.prog 9 [.agg [.int .i64 a0.Kind, .int .i64 a0.N, .sl 10 (List.map enc68 a0.Spans), .int .i64 a0.Policy.Kind, .int .i64 a0.Policy.N, .str a0.Policy.Key, .str a0.Policy.Value, .sl 5 (List.map enc24 a0.Policy.Kids)]] [] [] (.own 2 0) [] [(5, 1, List.map enc5 r)] := by
 unfold gleaningref24_OpBytes at h
 refine ok_of_code Try.func9 rfl (by show (1 : Nat) ≤ _; decide) (Nat.le_refl _) fun X => ?_
 refine sr fun K1 hK1 => ?_
 refine pD 1 (do_box W_ rfl rfl) ?_
 refine pa 2 (.nil) ?_
 refine en hK1 ?_
 refine aw_seq_k (fun K2 hK2 => ?_)
 refine sr fun K3 hK3 => ?_
 refine pf 5 (.ptr 1 0 0) ty27 ty3 ?_
 refine pl 6 (.int .i64 a0.Kind) ty3 ?_
 refine en hK3 ?_
 refine aw_block ?_
 refine sr fun K4 hK4 => ?_
 refine pb 8 (.bool (a0.Kind == 1)) ?_
 refine pa 7 (.bool (a0.Kind == 1)) ?_
 refine en hK4 ?_
 refine aw_bool (b := (a0.Kind == 1)) 7 rfl (fun c5 => ?_) (fun c5 => ?_)
 ·have h := ifT c5 h
  refine aw_cond_t D_ rfl ?_
  refine sr fun K6 hK6 => ?_
  refine pf 9 (.ptr 1 0 2) ty27 ty22 ?_
  refine pl 10 (.sl 10 (List.map enc68 a0.Spans)) ty22 ?_
  obtain ⟨x7, hx7, h⟩ := bnd_some h
  refine pD 11 (do_call0 11 false (gleaningref1_BatchBytes_ok a0.Spans hx7) rfl ent24 rfl rfl) ?_
  refine pa 3 (.own 11 0) ?_
  refine en hK6 ?_
  refine sr fun K8 hK8 => ?_
  refine pm 12 (.own 11 0) ?_
  refine pX 13 ((does_len_own W_ W_ ty28).cast (v' := .int .i64 (List.length x7 : Int)) (by exact len_map _)) ?_
  refine pb 14 (.bool (decide ((0 : Int) < (List.length x7 : Int)))) ?_
  refine en hK8 ?_
  refine aw_bool (b := (decide ((0 : Int) < (List.length x7 : Int)))) 14 rfl (fun c9 => ?_) (fun c9 => ?_)
  ·have h := ifT c9 h
   refine aw_cond_t D_ rfl ?_
   refine sr fun K10 hK10 => ?_
   refine pD 15 (do_buildSlice (xs := List.map enc5 [(1 : UInt8)]) ty28 ty5 rfl rfl rfl rfl rfl rfl rfl rfl) ?_
   refine pm 16 (.own 11 0) ?_
   obtain ⟨g11, h⟩ := gd_some h
   refine pD 17 (do_append (v := List.map enc5 ([(1 : UInt8)] ++ x7)) W_ W_ ty28 ty5 rfl rfl W_ (by first | exact .inl rfl | exact .inr ⟨rfl, rfl⟩) W_ (by first | exact .inr rfl | exact .inl rfl) (map_app _ _) (fit_map g11)) ?_
   refine pa 2 (.own 17 0) ?_
   refine en hK10 ?_
   refine aw_ret ?_
   obtain rfl := Option.some.inj h
   exact ret_okR [(17, 0)] W_ W_ R_ (rowsOk_cons W_ R_ trivial) (nodup_b rfl) (.inr rfl) rfl
  ·have h := ifF c9 h
   refine aw_cond_f D_ rfl ?_
   refine aw_skip ?_
   refine hK2 _ ?_
   refine sr fun K12 hK12 => ?_
   refine pa 2 (.nil) ?_
   refine en hK12 ?_
   refine aw_nilOwn 2 5 1 W_ D_ D_ ?_
   refine aw_ret ?_
   obtain rfl := Option.some.inj h
   exact ret_okR [(2, 0)] W_ W_ R_ (rowsOk_cons W_ R_ trivial) (nodup_b rfl) (.inr rfl) rfl
 ·have h := ifF c5 h
  refine aw_cond_f D_ rfl ?_
  refine sr fun K13 hK13 => ?_
  refine pb 19 (.bool (a0.Kind == 2)) ?_
  refine pa 18 (.bool (a0.Kind == 2)) ?_
  refine en hK13 ?_
  refine aw_bool (b := (a0.Kind == 2)) 18 rfl (fun c14 => ?_) (fun c14 => ?_)
  ·have h := ifT c14 h
   refine aw_cond_t D_ rfl ?_
   obtain ⟨q15, h, hk16⟩ := bnd_some h
   refine aw_cut (fun s => ∃ (v27_0 : Bool), gleaningref24_OpBytes_k0 a0 v27_0 = some r ∧ s = lit [(1, .ptr 1 0 0), (27, .bool v27_0)] [((1, 0), .box [.int .i64 a0.Kind, .int .i64 a0.N, .sl 10 (List.map enc68 a0.Spans), .int .i64 a0.Policy.Kind, .int .i64 a0.Policy.N, .str a0.Policy.Key, .str a0.Policy.Value, .sl 5 (List.map enc24 a0.Policy.Kids)])] [(1, 1)] X) ?_ ?_
   ·skip
    refine aw_regL ?_
    refine pf 20 (.ptr 1 0 1) ty27 ty3 ?_
    refine pl 21 (.int .i64 a0.N) ty3 ?_
    refine pb 22 (.bool (decide ((0 : Int) ≤ a0.N))) ?_
    refine pm 23 (.bool (decide ((0 : Int) ≤ a0.N))) ?_
    refine al_bool (c := (decide ((0 : Int) ≤ a0.N))) 23 rfl (fun c17 => ?_) (fun c17 => ?_)
    ·have h := ifT c17 h
     refine pf 24 (.ptr 1 0 1) ty27 ty3 ?_
     refine pl 25 (.int .i64 a0.N) ty3 ?_
     refine pb 26 (.bool (decide (a0.N ≤ 1099511627776))) ?_
     refine pk 27 (.bool (decide (a0.N ≤ 1099511627776))) ?_
     refine al_nil ?_
     obtain rfl := Option.some.inj h
     have h := hk16
     exact ⟨_, reb_lit [(1, .ptr 1 0 0), (27, .bool (decide (a0.N ≤ 1099511627776)))] [(1, 0)] [((1, 0), .box [.int .i64 a0.Kind, .int .i64 a0.N, .sl 10 (List.map enc68 a0.Spans), .int .i64 a0.Policy.Kind, .int .i64 a0.Policy.N, .str a0.Policy.Key, .str a0.Policy.Value, .sl 5 (List.map enc24 a0.Policy.Kids)])] [(1, 1)] (ec (ec envOk_nil)) (objOk_cons W_ W_ R_ (by simp) objOk_nil) (nodup_b rfl) (nodup_b rfl) rfl rfl, (decide (a0.N ≤ 1099511627776)), h, rfl⟩
    ·have h := ifF c17 h
     refine pS 24 ?_
     refine pS 25 ?_
     refine pS 26 ?_
     refine pk 27 (.bool false) ?_
     refine al_nil ?_
     obtain rfl := Option.some.inj h
     have h := hk16
     exact ⟨_, reb_lit [(1, .ptr 1 0 0), (27, .bool false)] [(1, 0)] [((1, 0), .box [.int .i64 a0.Kind, .int .i64 a0.N, .sl 10 (List.map enc68 a0.Spans), .int .i64 a0.Policy.Kind, .int .i64 a0.Policy.N, .str a0.Policy.Key, .str a0.Policy.Value, .sl 5 (List.map enc24 a0.Policy.Kids)])] [(1, 1)] (ec (ec envOk_nil)) (objOk_cons W_ W_ R_ (by simp) objOk_nil) (nodup_b rfl) (nodup_b rfl) rfl rfl, false, h, rfl⟩
   ·rintro s ⟨v27_0, h, rfl⟩
    unfold gleaningref24_OpBytes_k0 at h
    refine aw_bool (b := v27_0) 27 rfl (fun c18 => ?_) (fun c18 => ?_)
    ·have h := ifT c18 h
     refine aw_cond_t D_ rfl ?_
     refine sr fun K19 hK19 => ?_
     refine pD 28 (do_buildSlice (xs := List.map enc5 [(2 : UInt8)]) ty28 ty5 rfl rfl rfl rfl rfl rfl rfl rfl) ?_
     refine pf 29 (.ptr 1 0 1) ty27 ty3 ?_
     refine pl 30 (.int .i64 a0.N) ty3 ?_
     refine pP 31 (does_conv_int (v := .int .u64 (IntKind.u64.wrap a0.N)) W_ (ty_some ty3) (ty_int ty46) rfl) ?_
     obtain ⟨x20, hx20, h⟩ := bnd_some h
     refine pD 32 (do_callG (bcs := []) [] [(28, 0)] [] 32 false (gleaningref1_Put_ok [(2 : UInt8)] (IntKind.u64.wrap a0.N) hx20) rfl ent25 trivial (rowsOk_cons W_ R_ trivial) rfl rfl rfl rfl rfl rfl rfl rfl (.inr ⟨rfl, rfl, ⟨plain_map (fun _ => rfl), trivial⟩⟩)) ?_
     refine pa 2 (.own 32 0) ?_
     refine en hK19 ?_
     refine aw_ret ?_
     obtain rfl := Option.some.inj h
     exact ret_okR [(32, 0)] W_ W_ R_ (rowsOk_cons W_ R_ trivial) (nodup_b rfl) (.inr rfl) rfl
    ·have h := ifF c18 h
     refine aw_cond_f D_ rfl ?_
     refine aw_skip ?_
     refine hK2 _ ?_
     refine sr fun K21 hK21 => ?_
     refine pa 2 (.nil) ?_
     refine en hK21 ?_
     refine aw_nilOwn 2 5 1 W_ D_ D_ ?_
     refine aw_ret ?_
     obtain rfl := Option.some.inj h
     exact ret_okR [(2, 0)] W_ W_ R_ (rowsOk_cons W_ R_ trivial) (nodup_b rfl) (.inr rfl) rfl
  ·have h := ifF c14 h
   refine aw_cond_f D_ rfl ?_
   refine sr fun K22 hK22 => ?_
   refine pb 34 (.bool (a0.Kind == 3)) ?_
   refine pa 33 (.bool (a0.Kind == 3)) ?_
   refine en hK22 ?_
   refine aw_bool (b := (a0.Kind == 3)) 33 rfl (fun c23 => ?_) (fun c23 => ?_)
   ·have h := ifT c23 h
    refine aw_cond_t D_ rfl ?_
    refine sr fun K24 hK24 => ?_
    refine pf 35 (.ptr 1 0 3) ty27 ty25 ?_
    refine pl 36 (.agg [.int .i64 a0.Policy.Kind, .int .i64 a0.Policy.N, .str a0.Policy.Key, .str a0.Policy.Value, .sl 5 (List.map enc24 a0.Policy.Kids)]) ty25 ?_
    obtain ⟨x25, hx25, h⟩ := bnd_some h
    refine pD 37 (do_call0 37 false (gleaningref1_RuleBytes_ok a0.Policy hx25) rfl ent26 rfl rfl) ?_
    refine pa 4 (.own 37 0) ?_
    refine en hK24 ?_
    refine sr fun K26 hK26 => ?_
    refine pm 38 (.own 37 0) ?_
    refine pX 39 ((does_len_own W_ W_ ty28).cast (v' := .int .i64 (List.length x25 : Int)) (by exact len_map _)) ?_
    refine pb 40 (.bool (decide ((0 : Int) < (List.length x25 : Int)))) ?_
    refine en hK26 ?_
    refine aw_bool (b := (decide ((0 : Int) < (List.length x25 : Int)))) 40 rfl (fun c27 => ?_) (fun c27 => ?_)
    ·have h := ifT c27 h
     refine aw_cond_t D_ rfl ?_
     refine sr fun K28 hK28 => ?_
     refine pD 41 (do_buildSlice (xs := List.map enc5 [(3 : UInt8)]) ty28 ty5 rfl rfl rfl rfl rfl rfl rfl rfl) ?_
     refine pm 42 (.own 37 0) ?_
     obtain ⟨g29, h⟩ := gd_some h
     refine pD 43 (do_append (v := List.map enc5 ([(3 : UInt8)] ++ x25)) W_ W_ ty28 ty5 rfl rfl W_ (by first | exact .inl rfl | exact .inr ⟨rfl, rfl⟩) W_ (by first | exact .inr rfl | exact .inl rfl) (map_app _ _) (fit_map g29)) ?_
     refine pa 2 (.own 43 0) ?_
     refine en hK28 ?_
     refine aw_ret ?_
     obtain rfl := Option.some.inj h
     exact ret_okR [(43, 0)] W_ W_ R_ (rowsOk_cons W_ R_ trivial) (nodup_b rfl) (.inr rfl) rfl
    ·have h := ifF c27 h
     refine aw_cond_f D_ rfl ?_
     refine aw_skip ?_
     refine hK2 _ ?_
     refine sr fun K30 hK30 => ?_
     refine pa 2 (.nil) ?_
     refine en hK30 ?_
     refine aw_nilOwn 2 5 1 W_ D_ D_ ?_
     refine aw_ret ?_
     obtain rfl := Option.some.inj h
     exact ret_okR [(2, 0)] W_ W_ R_ (rowsOk_cons W_ R_ trivial) (nodup_b rfl) (.inr rfl) rfl
   ·have h := ifF c23 h
    refine aw_cond_f D_ rfl ?_
    refine sr fun K31 hK31 => ?_
    refine pb 45 (.bool (a0.Kind == 4)) ?_
    refine pa 44 (.bool (a0.Kind == 4)) ?_
    refine en hK31 ?_
    refine aw_bool (b := (a0.Kind == 4)) 44 rfl (fun c32 => ?_) (fun c32 => ?_)
    ·have h := ifT c32 h
     refine aw_cond_t D_ rfl ?_
     refine sr fun K33 hK33 => ?_
     refine pD 46 (do_buildSlice (xs := List.map enc5 [(4 : UInt8)]) ty28 ty5 rfl rfl rfl rfl rfl rfl rfl rfl) ?_
     refine pa 2 (.own 46 0) ?_
     refine en hK33 ?_
     refine aw_ret ?_
     obtain rfl := Option.some.inj h
     exact ret_okR [(46, 0)] W_ W_ R_ (rowsOk_cons W_ R_ trivial) (nodup_b rfl) (.inr rfl) rfl
    ·have h := ifF c32 h
     refine aw_cond_f D_ rfl ?_
     refine aw_skip ?_
     refine hK2 _ ?_
     refine sr fun K34 hK34 => ?_
     refine pa 2 (.nil) ?_
     refine en hK34 ?_
     refine aw_nilOwn 2 5 1 W_ D_ D_ ?_
     refine aw_ret ?_
     obtain rfl := Option.some.inj h
     exact ret_okR [(2, 0)] W_ W_ R_ (rowsOk_cons W_ R_ trivial) (nodup_b rfl) (.inr rfl) rfl
def gleaninglaw25_same (a0 : OpG) (a1 : OpG) : Option Bool :=
 if (a0.Kind == a1.Kind) = true then (if (a0.N == a1.N) = true then (Option.bind (gleaningref1_SameSpans a0.Spans a1.Spans) (fun (x5 : Bool) => if x5 = true then (Option.bind (gleaningref1_SameRule a0.Policy a1.Policy) (fun (x7 : Bool) => some x7)) else (some false))) else (some false)) else (some false)
theorem gleaninglaw25_same_ok (a0 : OpG) (a1 : OpG) {r : Bool} (h : gleaninglaw25_same a0 a1 = some r) : Ok Try.prog 10 [.agg [.int .i64 a0.Kind, .int .i64 a0.N, .sl 10 (List.map enc68 a0.Spans), .int .i64 a0.Policy.Kind, .int .i64 a0.Policy.N, .str a0.Policy.Key, .str a0.Policy.Value, .sl 5 (List.map enc24 a0.Policy.Kids)], .agg [.int .i64 a1.Kind, .int .i64 a1.N, .sl 10 (List.map enc68 a1.Spans), .int .i64 a1.Policy.Kind, .int .i64 a1.Policy.N, .str a1.Policy.Key, .str a1.Policy.Value, .sl 5 (List.map enc24 a1.Policy.Kids)]] [] [] (.bool r) [] [] := by
 unfold gleaninglaw25_same at h
 refine ok_of_code Try.func10 rfl (by show (2 : Nat) ≤ _; decide) (Nat.le_refl _) fun X => ?_
 refine sr fun K1 hK1 => ?_
 refine pD 2 (do_box W_ rfl rfl) ?_
 refine pD 3 (do_box W_ rfl rfl) ?_
 refine pa 4 (.bool false) ?_
 refine en hK1 ?_
 refine sr fun K2 hK2 => ?_
 refine pf 5 (.ptr 2 0 0) ty27 ty3 ?_
 refine pl 6 (.int .i64 a0.Kind) ty3 ?_
 refine pf 7 (.ptr 3 0 0) ty27 ty3 ?_
 refine pl 8 (.int .i64 a1.Kind) ty3 ?_
 refine pb 9 (.bool (a0.Kind == a1.Kind)) ?_
 refine pm 10 (.bool (a0.Kind == a1.Kind)) ?_
 refine al_bool (c := (a0.Kind == a1.Kind)) 10 rfl (fun c3 => ?_) (fun c3 => ?_)
 ·have h := ifT c3 h
  refine pf 11 (.ptr 2 0 1) ty27 ty3 ?_
  refine pl 12 (.int .i64 a0.N) ty3 ?_
  refine pf 13 (.ptr 3 0 1) ty27 ty3 ?_
  refine pl 14 (.int .i64 a1.N) ty3 ?_
  refine pb 15 (.bool (a0.N == a1.N)) ?_
  refine pk 16 (.bool (a0.N == a1.N)) ?_
  refine pm 17 (.bool (a0.N == a1.N)) ?_
  refine al_bool (c := (a0.N == a1.N)) 17 rfl (fun c4 => ?_) (fun c4 => ?_)
  ·have h := ifT c4 h
   refine pf 18 (.ptr 2 0 2) ty27 ty22 ?_
   refine pl 19 (.sl 10 (List.map enc68 a0.Spans)) ty22 ?_
   refine pf 20 (.ptr 3 0 2) ty27 ty22 ?_
   refine pl 21 (.sl 10 (List.map enc68 a1.Spans)) ty22 ?_
   obtain ⟨x5, hx5, h⟩ := bnd_some h
   refine pD 22 ((do_call0 22 false (gleaningref1_SameSpans_ok a0.Spans a1.Spans hx5) rfl ent27 rfl rfl).fx (y := ⟨[], .bool x5, [], [22]⟩) rfl) ?_
   refine pk 23 (.bool x5) ?_
   refine pm 24 (.bool x5) ?_
   refine al_bool (c := x5) 24 rfl (fun c6 => ?_) (fun c6 => ?_)
   ·have h := ifT c6 h
    refine pf 25 (.ptr 2 0 3) ty27 ty25 ?_
    refine pl 26 (.agg [.int .i64 a0.Policy.Kind, .int .i64 a0.Policy.N, .str a0.Policy.Key, .str a0.Policy.Value, .sl 5 (List.map enc24 a0.Policy.Kids)]) ty25 ?_
    refine pf 27 (.ptr 3 0 3) ty27 ty25 ?_
    refine pl 28 (.agg [.int .i64 a1.Policy.Kind, .int .i64 a1.Policy.N, .str a1.Policy.Key, .str a1.Policy.Value, .sl 5 (List.map enc24 a1.Policy.Kids)]) ty25 ?_
    obtain ⟨x7, hx7, h⟩ := bnd_some h
    refine pD 29 ((do_call0 29 false (gleaningref1_SameRule_ok a0.Policy a1.Policy hx7) rfl ent28 rfl rfl).fx (y := ⟨[], .bool x7, [], [29]⟩) rfl) ?_
    refine pk 30 (.bool x7) ?_
    refine pa 4 (.bool x7) ?_
    refine en hK2 ?_
    refine aw_ret ?_
    obtain rfl := Option.some.inj h
    exact ret_ok1 W_ W_ R_ (.inr rfl) rfl
   ·have h := ifF c6 h
    refine pS 25 ?_
    refine pS 26 ?_
    refine pS 27 ?_
    refine pS 28 ?_
    refine pS 29 ?_
    refine pk 30 (.bool false) ?_
    refine pa 4 (.bool false) ?_
    refine en hK2 ?_
    refine aw_ret ?_
    obtain rfl := Option.some.inj h
    exact ret_ok1 W_ W_ R_ (.inr rfl) rfl
  ·have h := ifF c4 h
   refine pS 18 ?_
   refine pS 19 ?_
   refine pS 20 ?_
   refine pS 21 ?_
   refine pS 22 ?_
   refine pk 23 (.bool false) ?_
   refine pm 24 (.bool false) ?_
   refine pS 25 ?_
   refine pS 26 ?_
   refine pS 27 ?_
   refine pS 28 ?_
   refine pS 29 ?_
   refine pk 30 (.bool false) ?_
   refine pa 4 (.bool false) ?_
   refine en hK2 ?_
   refine aw_ret ?_
   obtain rfl := Option.some.inj h
   exact ret_ok1 W_ W_ R_ (.inr rfl) rfl
 ·have h := ifF c3 h
  refine pS 11 ?_
  refine pS 12 ?_
  refine pS 13 ?_
  refine pS 14 ?_
  refine pS 15 ?_
  refine pk 16 (.bool false) ?_
  refine pm 17 (.bool false) ?_
  refine pS 18 ?_
  refine pS 19 ?_
  refine pS 20 ?_
  refine pS 21 ?_
  refine pS 22 ?_
  refine pk 23 (.bool false) ?_
  refine pm 24 (.bool false) ?_
  refine pS 25 ?_
  refine pS 26 ?_
  refine pS 27 ?_
  refine pS 28 ?_
  refine pS 29 ?_
  refine pk 30 (.bool false) ?_
  refine pa 4 (.bool false) ?_
  refine en hK2 ?_
  refine aw_ret ?_
  obtain rfl := Option.some.inj h
  exact ret_ok1 W_ W_ R_ (.inr rfl) rfl
def gleaninglaw25_KeeperTells_k1 (a0 : OpG) (x15 : List UInt8) (x22 : OpG × Int) : Option Bool :=
 if ((List.length x15 : Int) == 0) = true then (some true) else (Option.bind (gleaninglaw25_num x22.2) (fun (x37 : Int) => if (x37 == 0) = true then (Option.bind (keeper_Op x22.1) (fun (x39 : List UInt8) => if (ByteArray.toList (strOf x39) == ByteArray.toList (strOf x15)) = true then (some (x22.1.Kind == a0.Kind)) else (some false))) else (some false)))
def gleaninglaw25_KeeperTells_k0 (a0 : OpG) (a1 : List UInt8) : Option Bool :=
 Option.bind (keeper_Op a0) (fun (x15 : List UInt8) => gd ((List.length a1) * 1 ≤ 140737488355328 ∧ (List.length a1) ≤ 140737488355328) (Option.bind (keeper_ReadOp a1) (fun (x18 : OpG × Int) => Option.bind (gleaningref24_ReadOp a1) (fun (x20 : OpG × Int) => Option.bind (keeper_ReadOp x15) (fun (x22 : OpG × Int) => Option.bind (Option.bind (gleaningref24_OpBytes a0) (fun (x26 : List UInt8) => if (!(ByteArray.toList (strOf x15) == ByteArray.toList (strOf x26))) = true then (some (Sum.inr false)) else (Option.bind (gleaninglaw25_same x18.1 x20.1) (fun (x29 : Bool) => if (!x29) = true then (some (Sum.inr false)) else (Option.bind (gleaninglaw25_num x18.2) (fun (x32 : Int) => if (x32 != x20.2) = true then (some (Sum.inr false)) else (some (Sum.inl ())))))))) (Sum.elim (fun (s : Unit) => gleaninglaw25_KeeperTells_k1 a0 x15 x22) some))))))
def gleaninglaw25_KeeperTells (a0 : OpG) (a1 : List UInt8) : Option Bool :=
 Option.bind (gleaninglaw25_alive) (fun (x3 : Bool) => Option.bind (if (!x3) = true then (some (Sum.inr x3)) else (Option.bind (gleaninglaw22_Few [a0]) (fun (x9 : Bool) => if (!x9) = true then (some (Sum.inr x3)) else (if (decide ((1000 : Int) < (List.length a1 : Int))) = true then (some (Sum.inr x3)) else (some (Sum.inl ())))))) (Sum.elim (fun (s : Unit) => gleaninglaw25_KeeperTells_k0 a0 a1) some))
theorem gleaninglaw25_KeeperTells_ok (a0 : OpG) (a1 : List UInt8) {r : Bool} (h : gleaninglaw25_KeeperTells a0 a1 = some r) : Ok Try.prog 3 [.agg [.int .i64 a0.Kind, .int .i64 a0.N, .sl 10 (List.map enc68 a0.Spans), .int .i64 a0.Policy.Kind, .int .i64 a0.Policy.N, .str a0.Policy.Key, .str a0.Policy.Value, .sl 5 (List.map enc24 a0.Policy.Kids)], .sl 1 (List.map enc5 a1)] [] [] (.bool r) [] [] := by
 unfold gleaninglaw25_KeeperTells at h
 refine ok_of_code Try.func3 rfl (by show (2 : Nat) ≤ _; decide) (Nat.le_refl _) fun X => ?_
 refine sr fun K1 hK1 => ?_
 refine pD 2 (do_box W_ rfl rfl) ?_
 refine pa 4 (.bool false) ?_
 refine en hK1 ?_
 refine sr fun K2 hK2 => ?_
 obtain ⟨x3, hx3, h⟩ := bnd_some h
 refine pD 13 (do_call0 13 false (gleaninglaw25_alive_ok hx3) rfl ent4 rfl rfl) ?_
 refine pa 5 (.bool x3) ?_
 refine en hK2 ?_
 obtain ⟨q4, h, hk5⟩ := bnd_some h
 refine aw_cut (fun s => gleaninglaw25_KeeperTells_k0 a0 a1 = some r ∧ s = lit [(1, .sl 1 (List.map enc5 a1)), (2, .ptr 2 0 0)] [((2, 0), .box [.int .i64 a0.Kind, .int .i64 a0.N, .sl 10 (List.map enc68 a0.Spans), .int .i64 a0.Policy.Kind, .int .i64 a0.Policy.N, .str a0.Policy.Key, .str a0.Policy.Value, .sl 5 (List.map enc24 a0.Policy.Kids)])] [(2, 1)] X) ?_ ?_
 ·skip
  refine sr fun K6 hK6 => ?_
  refine pm 14 (.bool x3) ?_
  refine pP 15 (does_un (v := .bool (!x3)) W_ rfl) ?_
  refine pm 16 (.bool (!x3)) ?_
  refine al_bool (c := (!x3)) 16 rfl (fun c7 => ?_) (fun c7 => ?_)
  ·have h := ifT c7 h
   refine pS 17 ?_
   refine pS 18 ?_
   refine pS 19 ?_
   refine pS 20 ?_
   refine pk 21 (.bool true) ?_
   refine pm 22 (.bool true) ?_
   refine pS 23 ?_
   refine pS 24 ?_
   refine pS 25 ?_
   refine pk 26 (.bool true) ?_
   refine en hK6 ?_
   refine aw_cond_t D_ rfl ?_
   refine sr fun K8 hK8 => ?_
   refine pm 27 (.bool x3) ?_
   refine pa 4 (.bool x3) ?_
   refine en hK8 ?_
   refine aw_ret ?_
   have h := leafR h hk5
   obtain rfl := Option.some.inj h
   exact ret_ok1 W_ W_ R_ (.inr rfl) rfl
  ·have h := ifF c7 h
   refine pl 17 (.agg [.int .i64 a0.Kind, .int .i64 a0.N, .sl 10 (List.map enc68 a0.Spans), .int .i64 a0.Policy.Kind, .int .i64 a0.Policy.N, .str a0.Policy.Key, .str a0.Policy.Value, .sl 5 (List.map enc24 a0.Policy.Kids)]) ty27 ?_
   refine pD 18 (do_buildSlice (xs := List.map enc26 [a0]) ty31 ty27 rfl rfl rfl rfl rfl rfl rfl rfl) ?_
   obtain ⟨x9, hx9, h⟩ := bnd_some h
   refine pD 19 (do_callG (bcs := []) [] [] [(18, 0)] 19 false (gleaninglaw22_Few_ok [a0] hx9) rfl ent5 trivial trivial rfl rfl rfl rfl rfl rfl rfl rfl (.inr ⟨rfl, rfl, trivial⟩)) ?_
   refine pP 20 (does_un (v := .bool (!x9)) W_ rfl) ?_
   refine pk 21 (.bool (!x9)) ?_
   refine pm 22 (.bool (!x9)) ?_
   refine al_bool (c := (!x9)) 22 rfl (fun c10 => ?_) (fun c10 => ?_)
   ·have h := ifT c10 h
    refine pS 23 ?_
    refine pS 24 ?_
    refine pS 25 ?_
    refine pk 26 (.bool true) ?_
    refine en hK6 ?_
    refine aw_cond_t D_ rfl ?_
    refine sr fun K11 hK11 => ?_
    refine pm 27 (.bool x3) ?_
    refine pa 4 (.bool x3) ?_
    refine en hK11 ?_
    refine aw_ret ?_
    have h := leafR h hk5
    obtain rfl := Option.some.inj h
    exact ret_ok1 W_ W_ R_ (.inr rfl) rfl
   ·have h := ifF c10 h
    refine pm 23 (.sl 1 (List.map enc5 a1)) ?_
    refine pP 24 ((does_len_sl W_ ty28).castp (v' := .int .i64 (List.length a1 : Int)) (by exact len_map _)) ?_
    refine pb 25 (.bool (decide ((1000 : Int) < (List.length a1 : Int)))) ?_
    refine pk 26 (.bool (decide ((1000 : Int) < (List.length a1 : Int)))) ?_
    refine en hK6 ?_
    refine aw_bool (b := (decide ((1000 : Int) < (List.length a1 : Int)))) 26 rfl (fun c12 => ?_) (fun c12 => ?_)
    ·have h := ifT c12 h
     refine aw_cond_t D_ rfl ?_
     refine sr fun K13 hK13 => ?_
     refine pm 27 (.bool x3) ?_
     refine pa 4 (.bool x3) ?_
     refine en hK13 ?_
     refine aw_ret ?_
     have h := leafR h hk5
     obtain rfl := Option.some.inj h
     exact ret_ok1 W_ W_ R_ (.inr rfl) rfl
    ·have h := ifF c12 h
     refine aw_cond_f D_ rfl ?_
     refine aw_skip ?_
     have h := leafL h hk5
     exact ⟨_, reb_lit [(1, .sl 1 (List.map enc5 a1)), (2, .ptr 2 0 0)] [(2, 0)] [((2, 0), .box [.int .i64 a0.Kind, .int .i64 a0.N, .sl 10 (List.map enc68 a0.Spans), .int .i64 a0.Policy.Kind, .int .i64 a0.Policy.N, .str a0.Policy.Key, .str a0.Policy.Value, .sl 5 (List.map enc24 a0.Policy.Kids)])] [(2, 1)] (ec (ec envOk_nil)) (objOk_cons W_ W_ R_ (by simp) objOk_nil) (nodup_b rfl) (nodup_b rfl) rfl rfl, h, rfl⟩
 ·rintro s ⟨h, rfl⟩
  unfold gleaninglaw25_KeeperTells_k0 at h
  refine sr fun K14 hK14 => ?_
  refine pl 28 (.agg [.int .i64 a0.Kind, .int .i64 a0.N, .sl 10 (List.map enc68 a0.Spans), .int .i64 a0.Policy.Kind, .int .i64 a0.Policy.N, .str a0.Policy.Key, .str a0.Policy.Value, .sl 5 (List.map enc24 a0.Policy.Kids)]) ty27 ?_
  obtain ⟨x15, hx15, h⟩ := bnd_some h
  refine pD 29 (do_call0 29 false (keeper_Op_ok a0 hx15) rfl ent6 rfl rfl) ?_
  refine pa 6 (.own 29 0) ?_
  refine en hK14 ?_
  refine sr fun K16 hK16 => ?_
  refine pm 31 (.sl 1 (List.map enc5 a1)) ?_
  obtain ⟨g17, h⟩ := gd_some h
  refine pD 32 (do_append (v := List.map enc5 a1) W_ W_ ty28 ty5 rfl rfl W_ (by first | exact .inl rfl | exact .inr ⟨rfl, rfl⟩) W_ (by first | exact .inr rfl | exact .inl rfl) (List.nil_append _) (fit_map g17)) ?_
  obtain ⟨x18, hx18, h⟩ := bnd_some h
  refine pD 33 (does_frz (d := 32) (n := 0) W_ (do_callG (bcs := []) [] [] [(32, 0)] 33 false (keeper_ReadOp_ok a1 hx18) rfl ent7 trivial trivial rfl rfl rfl rfl rfl rfl rfl rfl (.inl ⟨⟨_, _, _, rfl⟩, trivial⟩))) ?_
  refine pm 30 (.tup [.agg [.int .i64 x18.1.Kind, .int .i64 x18.1.N, .sl 10 (List.map enc68 x18.1.Spans), .int .i64 x18.1.Policy.Kind, .int .i64 x18.1.Policy.N, .str x18.1.Policy.Key, .str x18.1.Policy.Value, .sl 5 (List.map enc24 x18.1.Policy.Kids)], .int .i64 x18.2]) ?_
  refine pP 34 (does_extract (v := .agg [.int .i64 x18.1.Kind, .int .i64 x18.1.N, .sl 10 (List.map enc68 x18.1.Spans), .int .i64 x18.1.Policy.Kind, .int .i64 x18.1.Policy.N, .str x18.1.Policy.Key, .str x18.1.Policy.Value, .sl 5 (List.map enc24 x18.1.Policy.Kids)]) W_ R_) ?_
  refine pP 35 (does_extract (v := .int .i64 x18.2) W_ R_) ?_
  refine pD 7 (do_new ty27 rfl rfl) ?_
  refine alD none rfl rfl (do_store (cs' := [.int .i64 x18.1.Kind, .int .i64 x18.1.N, .sl 10 (List.map enc68 x18.1.Spans), .int .i64 x18.1.Policy.Kind, .int .i64 x18.1.Policy.N, .str x18.1.Policy.Key, .str x18.1.Policy.Value, .sl 5 (List.map enc24 x18.1.Policy.Kids)]) W_ W_ W_ ty27 rfl rfl rfl R_) D_ ?_
  refine pa 8 (.int .i64 x18.2) ?_
  refine en hK16 ?_
  refine sr fun K19 hK19 => ?_
  refine pm 37 (.sl 1 (List.map enc5 a1)) ?_
  obtain ⟨x20, hx20, h⟩ := bnd_some h
  refine pD 38 (do_call0 38 false (gleaningref24_ReadOp_ok a1 hx20) rfl ent8 rfl rfl) ?_
  refine pm 36 (.tup [.agg [.int .i64 x20.1.Kind, .int .i64 x20.1.N, .sl 10 (List.map enc68 x20.1.Spans), .int .i64 x20.1.Policy.Kind, .int .i64 x20.1.Policy.N, .str x20.1.Policy.Key, .str x20.1.Policy.Value, .sl 5 (List.map enc24 x20.1.Policy.Kids)], .int .i64 x20.2]) ?_
  refine pP 39 (does_extract (v := .agg [.int .i64 x20.1.Kind, .int .i64 x20.1.N, .sl 10 (List.map enc68 x20.1.Spans), .int .i64 x20.1.Policy.Kind, .int .i64 x20.1.Policy.N, .str x20.1.Policy.Key, .str x20.1.Policy.Value, .sl 5 (List.map enc24 x20.1.Policy.Kids)]) W_ R_) ?_
  refine pP 40 (does_extract (v := .int .i64 x20.2) W_ R_) ?_
  refine pD 9 (do_new ty27 rfl rfl) ?_
  refine alD none rfl rfl (do_store (cs' := [.int .i64 x20.1.Kind, .int .i64 x20.1.N, .sl 10 (List.map enc68 x20.1.Spans), .int .i64 x20.1.Policy.Kind, .int .i64 x20.1.Policy.N, .str x20.1.Policy.Key, .str x20.1.Policy.Value, .sl 5 (List.map enc24 x20.1.Policy.Kids)]) W_ W_ W_ ty27 rfl rfl rfl R_) D_ ?_
  refine pa 10 (.int .i64 x20.2) ?_
  refine en hK19 ?_
  refine sr fun K21 hK21 => ?_
  refine pm 42 (.own 29 0) ?_
  obtain ⟨x22, hx22, h⟩ := bnd_some h
  refine pD 43 (does_frz (d := 29) (n := 0) W_ (do_callG (bcs := []) [] [] [(29, 0)] 43 false (keeper_ReadOp_ok x15 hx22) rfl ent7 trivial trivial rfl rfl rfl rfl rfl rfl rfl rfl (.inl ⟨⟨_, _, _, rfl⟩, trivial⟩))) ?_
  refine pm 41 (.tup [.agg [.int .i64 x22.1.Kind, .int .i64 x22.1.N, .sl 10 (List.map enc68 x22.1.Spans), .int .i64 x22.1.Policy.Kind, .int .i64 x22.1.Policy.N, .str x22.1.Policy.Key, .str x22.1.Policy.Value, .sl 5 (List.map enc24 x22.1.Policy.Kids)], .int .i64 x22.2]) ?_
  refine pP 44 (does_extract (v := .agg [.int .i64 x22.1.Kind, .int .i64 x22.1.N, .sl 10 (List.map enc68 x22.1.Spans), .int .i64 x22.1.Policy.Kind, .int .i64 x22.1.Policy.N, .str x22.1.Policy.Key, .str x22.1.Policy.Value, .sl 5 (List.map enc24 x22.1.Policy.Kids)]) W_ R_) ?_
  refine pP 45 (does_extract (v := .int .i64 x22.2) W_ R_) ?_
  refine pD 11 (do_new ty27 rfl rfl) ?_
  refine alD none rfl rfl (do_store (cs' := [.int .i64 x22.1.Kind, .int .i64 x22.1.N, .sl 10 (List.map enc68 x22.1.Spans), .int .i64 x22.1.Policy.Kind, .int .i64 x22.1.Policy.N, .str x22.1.Policy.Key, .str x22.1.Policy.Value, .sl 5 (List.map enc24 x22.1.Policy.Kids)]) W_ W_ W_ ty27 rfl rfl rfl R_) D_ ?_
  refine pa 12 (.int .i64 x22.2) ?_
  refine en hK21 ?_
  obtain ⟨q23, h, hk24⟩ := bnd_some h
  refine aw_cut (fun s => gleaninglaw25_KeeperTells_k1 a0 x15 x22 = some r ∧ s = lit [(2, .ptr 2 0 0), (6, .own 29 0), (11, .ptr 11 0 0), (12, .int .i64 x22.2)] [((2, 0), .box [.int .i64 a0.Kind, .int .i64 a0.N, .sl 10 (List.map enc68 a0.Spans), .int .i64 a0.Policy.Kind, .int .i64 a0.Policy.N, .str a0.Policy.Key, .str a0.Policy.Value, .sl 5 (List.map enc24 a0.Policy.Kids)]), ((29, 0), .arr 5 1 true (List.map enc5 x15)), ((11, 0), .box [.int .i64 x22.1.Kind, .int .i64 x22.1.N, .sl 10 (List.map enc68 x22.1.Spans), .int .i64 x22.1.Policy.Kind, .int .i64 x22.1.Policy.N, .str x22.1.Policy.Key, .str x22.1.Policy.Value, .sl 5 (List.map enc24 x22.1.Policy.Kids)])] [(2, 1), (11, 1), (29, 1)] X) ?_ ?_
  ·skip
   refine aw_seq_k (fun K25 hK25 => ?_)
   refine aw_regd (by kernel_rfl) (by decide +kernel) ?_
   refine qP 46 (does_move (v := .own 29 0) R_) ?_
   refine qR 47 (does_bytes_str (l := x15) (f := enc5) W_ W_ (Nat.le_refl 1) (ty_slice ty28) (ty_int ty5) (ty_str ty9) (fun _ => rfl)) ?_
   refine qR 48 (does_load (v := .agg [.int .i64 a0.Kind, .int .i64 a0.N, .sl 10 (List.map enc68 a0.Spans), .int .i64 a0.Policy.Kind, .int .i64 a0.Policy.N, .str a0.Policy.Key, .str a0.Policy.Value, .sl 5 (List.map enc24 a0.Policy.Kids)]) W_ W_ ty27 R_) ?_
   obtain ⟨x26, hx26, h⟩ := bnd_some h
   refine qD 49 (do_call0 49 false (gleaningref24_OpBytes_ok a0 hx26) rfl ent9 rfl rfl) ?_
   refine qR 50 (does_bytes_str (l := x26) (f := enc5) W_ W_ (Nat.le_refl 1) (ty_slice ty28) (ty_int ty5) (ty_str ty9) (fun _ => rfl)) ?_
   refine qP 51 (does_bin (v := .bool (!(ByteArray.toList (strOf x15) == ByteArray.toList (strOf x26)))) W_ W_ rfl) ?_
   refine qP 52 (does_move (v := .bool (!(ByteArray.toList (strOf x15) == ByteArray.toList (strOf x26)))) R_) ?_
   refine ao_bool (c := (!(ByteArray.toList (strOf x15) == ByteArray.toList (strOf x26)))) 52 rfl (fun c27 => ?_) (fun c27 => ?_)
   ·have h := ifT c27 h
    refine qS 53 ?_
    refine qS 54 ?_
    refine qS 55 ?_
    refine qS 56 ?_
    refine qP 57 (does_pick (v := .bool true) W_ R_) ?_
    refine qP 58 (does_move (v := .bool true) R_) ?_
    refine qS 59 ?_
    refine qS 60 ?_
    refine qS 61 ?_
    refine qS 62 ?_
    refine qP 63 (does_pick (v := .bool true) W_ R_) ?_
    refine ao_nil_d (by kernel_rfl) ?_
    refine hK25 _ ?_
    refine aw_cond_t D_ rfl ?_
    refine sr fun K28 hK28 => ?_
    refine pa 4 (.bool false) ?_
    refine en hK28 ?_
    refine aw_ret ?_
    have h := leafR h hk24
    obtain rfl := Option.some.inj h
    exact ret_ok1 W_ W_ R_ (.inr rfl) rfl
   ·have h := ifF c27 h
    refine qR 53 (does_load (v := .agg [.int .i64 x18.1.Kind, .int .i64 x18.1.N, .sl 10 (List.map enc68 x18.1.Spans), .int .i64 x18.1.Policy.Kind, .int .i64 x18.1.Policy.N, .str x18.1.Policy.Key, .str x18.1.Policy.Value, .sl 5 (List.map enc24 x18.1.Policy.Kids)]) W_ W_ ty27 R_) ?_
    refine qR 54 (does_load (v := .agg [.int .i64 x20.1.Kind, .int .i64 x20.1.N, .sl 10 (List.map enc68 x20.1.Spans), .int .i64 x20.1.Policy.Kind, .int .i64 x20.1.Policy.N, .str x20.1.Policy.Key, .str x20.1.Policy.Value, .sl 5 (List.map enc24 x20.1.Policy.Kids)]) W_ W_ ty27 R_) ?_
    obtain ⟨x29, hx29, h⟩ := bnd_some h
    refine qD 55 (do_call0 55 false (gleaninglaw25_same_ok x18.1 x20.1 hx29) rfl ent10 rfl rfl) ?_
    refine qP 56 (does_un (v := .bool (!x29)) W_ rfl) ?_
    refine qP 57 (does_pick (v := .bool (!x29)) W_ R_) ?_
    refine qP 58 (does_move (v := .bool (!x29)) R_) ?_
    refine ao_bool (c := (!x29)) 58 rfl (fun c30 => ?_) (fun c30 => ?_)
    ·have h := ifT c30 h
     refine qS 59 ?_
     refine qS 60 ?_
     refine qS 61 ?_
     refine qS 62 ?_
     refine qP 63 (does_pick (v := .bool true) W_ R_) ?_
     refine ao_nil_d (by kernel_rfl) ?_
     refine hK25 _ ?_
     refine aw_cond_t D_ rfl ?_
     refine sr fun K31 hK31 => ?_
     refine pa 4 (.bool false) ?_
     refine en hK31 ?_
     refine aw_ret ?_
     have h := leafR h hk24
     obtain rfl := Option.some.inj h
     exact ret_ok1 W_ W_ R_ (.inr rfl) rfl
    ·have h := ifF c30 h
     refine qP 59 (does_move (v := .int .i64 x18.2) R_) ?_
     obtain ⟨x32, hx32, h⟩ := bnd_some h
     refine qD 60 (do_call0 60 false (gleaninglaw25_num_ok x18.2 hx32) rfl ent11 rfl rfl) ?_
     refine qP 61 (does_move (v := .int .i64 x20.2) R_) ?_
     refine qP 62 (does_bin (v := .bool (x32 != x20.2)) W_ W_ rfl) ?_
     refine qP 63 (does_pick (v := .bool (x32 != x20.2)) W_ R_) ?_
     refine ao_nil_d (by kernel_rfl) ?_
     refine hK25 _ ?_
     refine aw_bool (b := (x32 != x20.2)) 63 rfl (fun c33 => ?_) (fun c33 => ?_)
     ·have h := ifT c33 h
      refine aw_cond_t D_ rfl ?_
      refine sr fun K34 hK34 => ?_
      refine pa 4 (.bool false) ?_
      refine en hK34 ?_
      refine aw_ret ?_
      have h := leafR h hk24
      obtain rfl := Option.some.inj h
      exact ret_ok1 W_ W_ R_ (.inr rfl) rfl
     ·have h := ifF c33 h
      refine aw_cond_f D_ rfl ?_
      refine aw_skip ?_
      have h := leafL h hk24
      exact ⟨_, reb_lit [(2, .ptr 2 0 0), (6, .own 29 0), (11, .ptr 11 0 0), (12, .int .i64 x22.2)] [(2, 0), (29, 0), (11, 0)] [((2, 0), .box [.int .i64 a0.Kind, .int .i64 a0.N, .sl 10 (List.map enc68 a0.Spans), .int .i64 a0.Policy.Kind, .int .i64 a0.Policy.N, .str a0.Policy.Key, .str a0.Policy.Value, .sl 5 (List.map enc24 a0.Policy.Kids)]), ((29, 0), .arr 5 1 true (List.map enc5 x15)), ((11, 0), .box [.int .i64 x22.1.Kind, .int .i64 x22.1.N, .sl 10 (List.map enc68 x22.1.Spans), .int .i64 x22.1.Policy.Kind, .int .i64 x22.1.Policy.N, .str x22.1.Policy.Key, .str x22.1.Policy.Value, .sl 5 (List.map enc24 x22.1.Policy.Kids)])] [(2, 1), (11, 1), (29, 1)] (ec (ec (ec (ec envOk_nil)))) (objOk_cons W_ W_ R_ (by simp) (objOk_cons W_ W_ R_ (by simp) (objOk_cons W_ W_ R_ (by simp) objOk_nil))) (nodup_b rfl) (nodup_b rfl) rfl rfl, h, rfl⟩
  ·rintro s ⟨h, rfl⟩
   unfold gleaninglaw25_KeeperTells_k1 at h
   refine aw_seq_k (fun K35 hK35 => ?_)
   refine aw_regd (by kernel_rfl) (by decide +kernel) ?_
   refine qP 64 (does_move (v := .own 29 0) R_) ?_
   refine qR 65 ((does_len_own W_ W_ ty28).cast (v' := .int .i64 (List.length x15 : Int)) (by exact len_map _)) ?_
   refine qP 66 (does_bin (v := .bool ((List.length x15 : Int) == 0)) W_ W_ rfl) ?_
   refine qP 67 (does_move (v := .bool ((List.length x15 : Int) == 0)) R_) ?_
   refine ao_bool (c := ((List.length x15 : Int) == 0)) 67 rfl (fun c36 => ?_) (fun c36 => ?_)
   ·have h := ifT c36 h
    refine qS 68 ?_
    refine qS 69 ?_
    refine qS 70 ?_
    refine qS 71 ?_
    refine qS 72 ?_
    refine qS 73 ?_
    refine qS 74 ?_
    refine qS 75 ?_
    refine qS 76 ?_
    refine qS 77 ?_
    refine qS 78 ?_
    refine qS 79 ?_
    refine qS 80 ?_
    refine qS 81 ?_
    refine qS 82 ?_
    refine qS 83 ?_
    refine qS 84 ?_
    refine qS 85 ?_
    refine qP 86 (does_pick (v := .bool true) W_ R_) ?_
    refine qP 4 (does_assign (v := .bool true) R_) ?_
    refine ao_nil_d (by kernel_rfl) ?_
    refine hK35 _ ?_
    refine aw_ret ?_
    obtain rfl := Option.some.inj h
    exact ret_ok1 W_ W_ R_ (.inr rfl) rfl
   ·have h := ifF c36 h
    refine qP 68 (does_move (v := .int .i64 x22.2) R_) ?_
    obtain ⟨x37, hx37, h⟩ := bnd_some h
    refine qD 69 ((do_call0 69 false (gleaninglaw25_num_ok x22.2 hx37) rfl ent11 rfl rfl).fx (y := ⟨[], .int .i64 x37, [], [69]⟩) rfl) ?_
    refine qP 70 (does_bin (v := .bool (x37 == 0)) W_ W_ rfl) ?_
    refine qP 71 (does_move (v := .bool (x37 == 0)) R_) ?_
    refine ao_bool (c := (x37 == 0)) 71 rfl (fun c38 => ?_) (fun c38 => ?_)
    ·have h := ifT c38 h
     refine qR 72 (does_load (v := .agg [.int .i64 x22.1.Kind, .int .i64 x22.1.N, .sl 10 (List.map enc68 x22.1.Spans), .int .i64 x22.1.Policy.Kind, .int .i64 x22.1.Policy.N, .str x22.1.Policy.Key, .str x22.1.Policy.Value, .sl 5 (List.map enc24 x22.1.Policy.Kids)]) W_ W_ ty27 R_) ?_
     obtain ⟨x39, hx39, h⟩ := bnd_some h
     refine qD 73 ((do_call0 73 false (keeper_Op_ok x22.1 hx39) rfl ent6 rfl rfl).fx (y := ⟨[], .own 73 0, [((73, 0), some (.arr 5 1 false (List.map enc5 x39)))], [73, 73]⟩) rfl) ?_
     refine qR 74 (does_bytes_str (l := x39) (f := enc5) W_ W_ (Nat.le_refl 1) (ty_slice ty28) (ty_int ty5) (ty_str ty9) (fun _ => rfl)) ?_
     refine qP 75 (does_move (v := .own 29 0) R_) ?_
     refine qR 76 (does_bytes_str (l := x15) (f := enc5) W_ W_ (Nat.le_refl 1) (ty_slice ty28) (ty_int ty5) (ty_str ty9) (fun _ => rfl)) ?_
     refine qP 77 (does_bin (v := .bool (ByteArray.toList (strOf x39) == ByteArray.toList (strOf x15))) W_ W_ rfl) ?_
     refine qP 78 (does_pick (v := .bool (ByteArray.toList (strOf x39) == ByteArray.toList (strOf x15))) W_ R_) ?_
     refine qP 79 (does_move (v := .bool (ByteArray.toList (strOf x39) == ByteArray.toList (strOf x15))) R_) ?_
     refine ao_bool (c := (ByteArray.toList (strOf x39) == ByteArray.toList (strOf x15))) 79 rfl (fun c40 => ?_) (fun c40 => ?_)
     ·have h := ifT c40 h
      refine qP 80 (does_fieldAddr (q := .ptr 11 0 0) W_ ty27 rfl ty3 D_ R_) ?_
      refine qR 81 (does_load (v := .int .i64 x22.1.Kind) W_ W_ ty3 R_) ?_
      refine qP 82 (does_fieldAddr (q := .ptr 2 0 0) W_ ty27 rfl ty3 D_ R_) ?_
      refine qR 83 (does_load (v := .int .i64 a0.Kind) W_ W_ ty3 R_) ?_
      refine qP 84 (does_bin (v := .bool (x22.1.Kind == a0.Kind)) W_ W_ rfl) ?_
      refine qP 85 (does_pick (v := .bool (x22.1.Kind == a0.Kind)) W_ R_) ?_
      refine qP 86 (does_pick (v := .bool (x22.1.Kind == a0.Kind)) W_ R_) ?_
      refine qP 4 (does_assign (v := .bool (x22.1.Kind == a0.Kind)) R_) ?_
      refine ao_nil_d (by kernel_rfl) ?_
      refine hK35 _ ?_
      refine aw_ret ?_
      obtain rfl := Option.some.inj h
      exact ret_ok1 W_ W_ R_ (.inr rfl) rfl
     ·have h := ifF c40 h
      refine qS 80 ?_
      refine qS 81 ?_
      refine qS 82 ?_
      refine qS 83 ?_
      refine qS 84 ?_
      refine qP 85 (does_pick (v := .bool false) W_ R_) ?_
      refine qP 86 (does_pick (v := .bool false) W_ R_) ?_
      refine qP 4 (does_assign (v := .bool false) R_) ?_
      refine ao_nil_d (by kernel_rfl) ?_
      refine hK35 _ ?_
      refine aw_ret ?_
      obtain rfl := Option.some.inj h
      exact ret_ok1 W_ W_ R_ (.inr rfl) rfl
    ·have h := ifF c38 h
     refine qS 72 ?_
     refine qS 73 ?_
     refine qS 74 ?_
     refine qS 75 ?_
     refine qS 76 ?_
     refine qS 77 ?_
     refine qP 78 (does_pick (v := .bool false) W_ R_) ?_
     refine qP 79 (does_move (v := .bool false) R_) ?_
     refine qS 80 ?_
     refine qS 81 ?_
     refine qS 82 ?_
     refine qS 83 ?_
     refine qS 84 ?_
     refine qP 85 (does_pick (v := .bool false) W_ R_) ?_
     refine qP 86 (does_pick (v := .bool false) W_ R_) ?_
     refine qP 4 (does_assign (v := .bool false) R_) ?_
     refine ao_nil_d (by kernel_rfl) ?_
     refine hK35 _ ?_
     refine aw_ret ?_
     obtain rfl := Option.some.inj h
     exact ret_ok1 W_ W_ R_ (.inr rfl) rfl
def OpG.wf (a : OpG) : Prop := (inI .i64 a.Kind) ∧ (inI .i64 a.N) ∧ ((List.length a.Spans) ≤ maxLen ∧ ∀ y ∈ a.Spans, Span.wf y) ∧ (Rule.wf a.Policy)
theorem sh27 : ∀ (m : Nat) (cs : List PV), Shape Try.prog m 27 cs → ∃ a : OpG, cs = [.int .i64 a.Kind, .int .i64 a.N, .sl 10 (List.map enc68 a.Spans), .int .i64 a.Policy.Kind, .int .i64 a.Policy.N, .str a.Policy.Key, .str a.Policy.Value, .sl 5 (List.map enc24 a.Policy.Kids)] ∧ (OpG.wf a) := fun m cs h => by
 obtain ⟨hl, m, hf⟩ := shape_struct h Try.underlying27
 have f0 := hf 0 _ rfl
 obtain ⟨a0, e0, w0⟩ := sh3 m _ f0
 rw [show Try.prog.cellsOf _ = 1 by kernel_rfl] at e0
 have f1 := hf 1 _ rfl
 obtain ⟨a1, e1, w1⟩ := sh3 m _ f1
 rw [show Try.prog.cellsOf _ = 1 by kernel_rfl] at e1
 have f2 := hf 2 _ rfl
 obtain ⟨a2, e2, w2⟩ := sh22 m _ f2
 rw [show Try.prog.cellsOf _ = 1 by kernel_rfl] at e2
 have f3 := hf 3 _ rfl
 obtain ⟨a3, e3, w3⟩ := sh25 m _ f3
 rw [show Try.prog.cellsOf _ = 5 by kernel_rfl] at e3
 exact ⟨⟨a0, a1, a2, a3⟩, tile_all (l := [(1, [.int .i64 a0]), (1, [.int .i64 a1]), (1, [.sl 10 (List.map enc68 a2)]), (5, [.int .i64 a3.Kind, .int .i64 a3.N, .str a3.Key, .str a3.Value, .sl 5 (List.map enc24 a3.Kids)])]) ⟨e0, e1, e2, e3, trivial⟩ hl (by kernel_rfl), ⟨w0, w1, w2, w3⟩⟩
theorem sh28 : ∀ (m : Nat) (cs : List PV), Shape Try.prog m 28 cs → ∃ a : List UInt8, cs = [.sl 1 (List.map enc5 a)] ∧ ((List.length a) ≤ maxLen) := fun m cs h => shape_bytes h Try.underlying28 Try.underlying5 (by kernel_rfl)
end Go.Proofs.Ytdhpmlgalddgfaa.Ab
