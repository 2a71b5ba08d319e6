/- What writes and reads numbers and texts; the same. -/
import Derived.Test.YtdhpmlgalddgfaaXInts
import Derived.Test.YtdhpmlgalddgfaaProg
namespace Go.Proofs.Ytdhpmlgalddgfaa.Ab
open Go Go.RowKit
set_option linter.unusedVariables false
set_option linter.unusedSimpArgs false
set_option maxRecDepth 100000
set_option maxHeartbeats 8000000
structure Writer where
  B : List UInt8
  deriving DecidableEq
def enc9 (x : ByteArray) : PV := .str x
def enc2 (x : Int) : PV := .int .i64 x
def enc12 (x : Int) : PV := .int .u64 x
structure Reader where
  B : List UInt8
  Bad : Bool
  deriving DecidableEq
theorem ty4 : tyOf Try.prog 4 = some ⟨.bool, 1, 1, [.bool false]⟩ := by kernel_rfl
theorem ty9 : tyOf Try.prog 9 = some ⟨.str, 1, 16, [.str ByteArray.empty]⟩ := by kernel_rfl
theorem ty54 : tyOf Try.prog 54 = some ⟨.struct [(0, 28), (1, 4)], 2, 32, [.nil, .bool false]⟩ := by kernel_rfl
theorem ty59 : tyOf Try.prog 59 = some ⟨.struct [(0, 28), (1, 4)], 2, 32, [.nil, .bool false]⟩ := by kernel_rfl
theorem ty74 : tyOf Try.prog 74 = some ⟨.struct [(0, 28)], 1, 24, [.nil]⟩ := by kernel_rfl
theorem ty92 : tyOf Try.prog 92 = some ⟨.slice 3, 1, 24, [.nil]⟩ := by kernel_rfl
theorem ty115 : tyOf Try.prog 115 = some ⟨.slice 46, 1, 24, [.nil]⟩ := by kernel_rfl
theorem ty116 : tyOf Try.prog 116 = some ⟨.slice 9, 1, 24, [.nil]⟩ := by kernel_rfl
theorem zr5 : (Try.prog.info? 5).bind (·.zero) = some (.int .u8 0) := by kernel_rfl
theorem ent20 : Ent Try.prog 20 := ⟨_, Try.func20, by kernel_rfl, rfl⟩
theorem ent25 : Ent Try.prog 25 := ⟨_, Try.func25, by kernel_rfl, rfl⟩
theorem ent34 : Ent Try.prog 34 := ⟨_, Try.func34, by kernel_rfl, rfl⟩
theorem ent41 : Ent Try.prog 41 := ⟨_, Try.func41, by kernel_rfl, rfl⟩
theorem ent44 : Ent Try.prog 44 := ⟨_, Try.func44, by kernel_rfl, rfl⟩
theorem ent56 : Ent Try.prog 56 := ⟨_, Try.func56, by kernel_rfl, rfl⟩
theorem ent65 : Ent Try.prog 65 := ⟨_, Try.func65, by kernel_rfl, rfl⟩
theorem ent68 : Ent Try.prog 68 := ⟨_, Try.func68, by kernel_rfl, rfl⟩
theorem ent73 : Ent Try.prog 73 := ⟨_, Try.func73, by kernel_rfl, rfl⟩
theorem ent83 : Ent Try.prog 83 := ⟨_, Try.func83, by kernel_rfl, rfl⟩
theorem ent87 : Ent Try.prog 87 := ⟨_, Try.func87, by kernel_rfl, rfl⟩
def ints_Writer_Wide_l2 (vb0_s_0_s_2 : List UInt8) (v5_2 : Int) : Option ((List UInt8 × Int) ⊕ (List UInt8 × Int)) :=
 if (decide ((128 : Int) ≤ v5_2)) = true then (gd ((List.length (vb0_s_0_s_2 ++ [(u8 (bits .or .u8 ((u8 (IntKind.u8.wrap v5_2)).toNat : Int) 128))])) * 1 ≤ 140737488355328 ∧ (List.length (vb0_s_0_s_2 ++ [(u8 (bits .or .u8 ((u8 (IntKind.u8.wrap v5_2)).toNat : Int) 128))])) ≤ 140737488355328) (some (Sum.inl ((vb0_s_0_s_2 ++ [(u8 (bits .or .u8 ((u8 (IntKind.u8.wrap v5_2)).toNat : Int) 128))]), (Int.fdiv v5_2 (2 ^ (min (Int.toNat 7) (IntKind.bits .u64)))))))) else (some (Sum.inr (vb0_s_0_s_2, v5_2)))
def ints_Writer_Wide_k1 (v8_0 : Int) (vb0_s_0_s_1 : List UInt8) (v5_1 : Int) : Option ((List UInt8 × Int) ⊕ Writer) :=
 gd ((List.length (vb0_s_0_s_1 ++ [(u8 (IntKind.u8.wrap v5_1))])) * 1 ≤ 140737488355328 ∧ (List.length (vb0_s_0_s_1 ++ [(u8 (IntKind.u8.wrap v5_1))])) ≤ 140737488355328) (some (Sum.inl ((vb0_s_0_s_1 ++ [(u8 (IntKind.u8.wrap v5_1))]), (IntKind.i64.wrap (v8_0 + 1)))))
def ints_Writer_Wide_l0 (a1 : List Int) (vb0_s_0_s_0 : List UInt8) (v8_0 : Int) : Option ((List UInt8 × Int) ⊕ Writer) :=
 if (decide (v8_0 < (List.length a1 : Int))) = true then (gd (0 ≤ v8_0) (Option.bind (a1[(Int.toNat v8_0)]?) (fun (x10 : Int) => Option.bind (loopN (fun (s : List UInt8 × Int) => ints_Writer_Wide_l2 s.1 s.2) Fu (vb0_s_0_s_0, x10)) (fun (s : List UInt8 × Int) => ints_Writer_Wide_k1 v8_0 s.1 s.2)))) else (some (Sum.inr (Writer.mk vb0_s_0_s_0)))
def ints_Writer_Wide (a0 : Writer) (a1 : List Int) : Option Writer :=
 loopN (fun (s : List UInt8 × Int) => ints_Writer_Wide_l0 a1 s.1 s.2) Fu (a0.B, 0)
theorem ints_Writer_Wide_ok (a0 : Writer) (a1 : List Int) {r : Writer} (h : ints_Writer_Wide a0 a1 = some r) : Ok Try.prog 56 [.ptr 0 0 0, .sl 1 (List.map enc12 a1)] [[.own 1 0]] [(5, 1, List.map enc5 a0.B)] (.tup []) [[.own 2 0]] [(5, 1, List.map enc5 r.B)] := by
 unfold ints_Writer_Wide at h
 refine ok_of_code Try.func56 rfl (by show (2 : Nat) ≤ _; decide) (Nat.le_refl _) fun X => ?_
 refine sr fun K1 hK1 => ?_
 refine pm 6 (.sl 1 (List.map enc12 a1)) ?_
 refine pP 7 ((does_len_sl W_ ty115).castp (v' := .int .i64 (List.length a1 : Int)) (by exact len_map _)) ?_
 refine pm 8 (.int .i64 0) ?_
 refine en hK1 ?_
 refine aw_block ?_
 refine aw_loop' (fun m s => ∃ (vb0_s_0_s_0 : List UInt8), ∃ (v8_0 : Int), loopN (fun (s : List UInt8 × Int) => ints_Writer_Wide_l0 a1 s.1 s.2) m (vb0_s_0_s_0, v8_0) = some r ∧ s = lit [(0, .ptr 0 0 0), (6, .sl 1 (List.map enc12 a1)), (7, .int .i64 (List.length a1 : Int)), (8, .int .i64 v8_0)] [((0, 0), .box [.own 1 0]), ((1, 0), .arr 5 1 false (List.map enc5 vb0_s_0_s_0))] [(0, 1), (1, 1)] X) Fu
  ⟨_, reb_lit [(0, .ptr 0 0 0), (6, .sl 1 (List.map enc12 a1)), (7, .int .i64 (List.length a1 : Int)), (8, .int .i64 (0))] [(0, 0), (1, 0)] [((0, 0), .box [.own 1 0]), ((1, 0), .arr 5 1 false (List.map enc5 a0.B))] [(0, 1), (1, 1)] (ec (ec (ec (ec envOk_nil)))) (objOk_cons W_ W_ R_ (by simp) (objOk_cons W_ W_ R_ (by simp) objOk_nil)) (nodup_b rfl) (nodup_b rfl) rfl rfl, a0.B, 0, h, rfl⟩ ?_
 rintro m s ⟨vb0_s_0_s_0, v8_0, h, rfl⟩
 obtain ⟨m0, q2, rfl, h, hq3⟩ := loop_some h
 replace h : ints_Writer_Wide_l0 a1 vb0_s_0_s_0 v8_0 = some q2 := h
 unfold ints_Writer_Wide_l0 at h
 refine sr fun K4 hK4 => ?_
 refine pb 9 (.bool (decide (v8_0 < (List.length a1 : Int)))) ?_
 refine en hK4 ?_
 refine aw_seq_k (fun K5 hK5 => ?_)
 refine aw_bool (b := (decide (v8_0 < (List.length a1 : Int)))) 9 rfl (fun c6 => ?_) (fun c6 => ?_)
 ·have h := ifT c6 h
  refine aw_cond_t D_ rfl ?_
  refine aw_skip ?_
  refine hK5 _ ?_
  refine aw_seq_k (fun K7 hK7 => ?_)
  refine aw_block ?_
  refine sr fun K8 hK8 => ?_
  obtain ⟨g9, h⟩ := gd_some h
  obtain ⟨x10, hx10, h⟩ := bnd_some h
  refine pP 10 (does_indexAddr_sl (el := .int .u64 x10) W_ W_ ty115 ty46 g9 (by exact map_get hx10)) ?_
  refine pl 11 (.int .u64 x10) ty46 ?_
  refine pa 5 (.int .u64 x10) ?_
  refine en hK8 ?_
  obtain ⟨q11, h, hk12⟩ := bnd_some h
  refine aw_cut (fun s => ∃ (vb0_s_0_s_1 : List UInt8), ∃ (v5_1 : Int), ints_Writer_Wide_k1 v8_0 vb0_s_0_s_1 v5_1 = some q2 ∧ s = lit [(0, .ptr 0 0 0), (5, .int .u64 v5_1), (6, .sl 1 (List.map enc12 a1)), (7, .int .i64 (List.length a1 : Int)), (8, .int .i64 v8_0)] [((0, 0), .box [.own 1 0]), ((1, 0), .arr 5 1 false (List.map enc5 vb0_s_0_s_1))] [(0, 1), (1, 1)] X) ?_ ?_
  ·skip
   refine aw_block ?_
   refine aw_loop' (fun m s => ∃ (vb0_s_0_s_2 : List UInt8), ∃ (v5_2 : Int), loopN (fun (s : List UInt8 × Int) => ints_Writer_Wide_l2 s.1 s.2) m (vb0_s_0_s_2, v5_2) = some q11 ∧ s = lit [(0, .ptr 0 0 0), (5, .int .u64 v5_2), (6, .sl 1 (List.map enc12 a1)), (7, .int .i64 (List.length a1 : Int)), (8, .int .i64 v8_0)] [((0, 0), .box [.own 1 0]), ((1, 0), .arr 5 1 false (List.map enc5 vb0_s_0_s_2))] [(0, 1), (1, 1)] X) Fu
    ⟨_, reb_lit [(0, .ptr 0 0 0), (5, .int .u64 x10), (6, .sl 1 (List.map enc12 a1)), (7, .int .i64 (List.length a1 : Int)), (8, .int .i64 v8_0)] [(0, 0), (1, 0)] [((0, 0), .box [.own 1 0]), ((1, 0), .arr 5 1 false (List.map enc5 vb0_s_0_s_0))] [(0, 1), (1, 1)] (ec (ec (ec (ec (ec envOk_nil))))) (objOk_cons W_ W_ R_ (by simp) (objOk_cons W_ W_ R_ (by simp) objOk_nil)) (nodup_b rfl) (nodup_b rfl) rfl rfl, vb0_s_0_s_0, x10, h, rfl⟩ ?_
   rintro m s ⟨vb0_s_0_s_2, v5_2, h, rfl⟩
   obtain ⟨m2, q13, rfl, h, hq14⟩ := loop_some h
   replace h : ints_Writer_Wide_l2 vb0_s_0_s_2 v5_2 = some q13 := h
   unfold ints_Writer_Wide_l2 at h
   refine aw_seq_k (fun K15 hK15 => ?_)
   refine sr fun K16 hK16 => ?_
   refine pm 12 (.int .u64 v5_2) ?_
   refine pb 13 (.bool (decide ((128 : Int) ≤ v5_2))) ?_
   refine en hK16 ?_
   refine aw_bool (b := (decide ((128 : Int) ≤ v5_2))) 13 rfl (fun c17 => ?_) (fun c17 => ?_)
   ·have h := ifT c17 h
    refine aw_cond_t D_ rfl ?_
    refine aw_skip ?_
    refine hK15 _ ?_
    refine aw_seq_k (fun K18 hK18 => ?_)
    refine aw_block ?_
    refine aw_regL ?_
    refine pm 16 (.ptr 0 0 0) ?_
    refine pm 17 (.ptr 0 0 0) ?_
    refine pP 18 (does_nilCheck (p := .ptr 0 0 0) W_ rfl) ?_
    refine pf 19 (.ptr 0 0 0) ty74 ty28 ?_
    refine pl 20 (.own 1 0) ty28 ?_
    refine pm 21 (.int .u64 v5_2) ?_
    refine pP 22 ((does_conv_int (v := .int .u8 (IntKind.u8.wrap v5_2)) W_ (ty_some ty46) (ty_int ty5) rfl).castp (v' := .int .u8 ((u8 (IntKind.u8.wrap v5_2)).toNat : Int)) (by exact congrArg _ (u8_eq (u8_wrap _)))) ?_
    refine pP 23 ((does_bin (v := .int .u8 (bits .or .u8 ((u8 (IntKind.u8.wrap v5_2)).toNat : Int) 128)) W_ W_ rfl).castp (v' := .int .u8 ((u8 (bits .or .u8 ((u8 (IntKind.u8.wrap v5_2)).toNat : Int) 128)).toNat : Int)) (by exact congrArg _ (u8_eq (u8_bits _ _ _)))) ?_
    refine pD 24 (do_buildSlice (xs := List.map enc5 [(u8 (bits .or .u8 ((u8 (IntKind.u8.wrap v5_2)).toNat : Int) 128))]) ty28 ty5 rfl rfl rfl rfl rfl rfl rfl rfl) ?_
    obtain ⟨g19, h⟩ := gd_some h
    refine pD 25 (do_append (v := List.map enc5 (vb0_s_0_s_2 ++ [(u8 (bits .or .u8 ((u8 (IntKind.u8.wrap v5_2)).toNat : Int) 128))])) W_ W_ ty28 ty5 rfl rfl W_ (by first | exact .inl rfl | exact .inr ⟨rfl, rfl⟩) W_ (by first | exact .inr rfl | exact .inl rfl) (map_app _ _) (fit_map g19)) ?_
    refine pP 26 (does_nilCheck (p := .ptr 0 0 0) W_ rfl) ?_
    refine pf 27 (.ptr 0 0 0) ty74 ty28 ?_
    refine alD none rfl rfl (do_store (cs' := [.own 25 0]) W_ W_ W_ ty28 rfl rfl rfl R_) D_ ?_
    refine en hK18 ?_
    refine aw_regL ?_
    refine pm 14 (.int .u64 v5_2) ?_
    refine pb 15 (.int .u64 (Int.fdiv v5_2 (2 ^ (min (Int.toNat 7) (IntKind.bits .u64))))) ?_
    refine pa 5 (.int .u64 (Int.fdiv v5_2 (2 ^ (min (Int.toNat 7) (IntKind.bits .u64))))) ?_
    refine al_nil ?_
    have h := leafL h hq14
    exact ⟨m2, Nat.lt_succ_self _, _, reb_lit [(0, .ptr 0 0 0), (5, .int .u64 (Int.fdiv v5_2 (2 ^ (min (Int.toNat 7) (IntKind.bits .u64))))), (6, .sl 1 (List.map enc12 a1)), (7, .int .i64 (List.length a1 : Int)), (8, .int .i64 v8_0)] [(0, 0), (25, 0)] [((0, 0), .box [.own 1 0]), ((1, 0), .arr 5 1 false (List.map enc5 (vb0_s_0_s_2 ++ [(u8 (bits .or .u8 ((u8 (IntKind.u8.wrap v5_2)).toNat : Int) 128))])))] [(0, 1), (1, 1)] (ec (ec (ec (ec (ec envOk_nil))))) (objOk_cons W_ W_ R_ (by simp) (objOk_cons W_ W_ R_ (by simp) objOk_nil)) (nodup_b rfl) (nodup_b rfl) rfl rfl, (vb0_s_0_s_2 ++ [(u8 (bits .or .u8 ((u8 (IntKind.u8.wrap v5_2)).toNat : Int) 128))]), (Int.fdiv v5_2 (2 ^ (min (Int.toNat 7) (IntKind.bits .u64)))), h, rfl⟩
   ·have h := ifF c17 h
    refine aw_cond_f D_ rfl ?_
    refine aw_exit ?_
    have h := leafR h hq14
    obtain rfl := Option.some.inj h
    have h := hk12
    exact ⟨_, reb_lit [(0, .ptr 0 0 0), (5, .int .u64 v5_2), (6, .sl 1 (List.map enc12 a1)), (7, .int .i64 (List.length a1 : Int)), (8, .int .i64 v8_0)] [(0, 0), (1, 0)] [((0, 0), .box [.own 1 0]), ((1, 0), .arr 5 1 false (List.map enc5 vb0_s_0_s_2))] [(0, 1), (1, 1)] (ec (ec (ec (ec (ec envOk_nil))))) (objOk_cons W_ W_ R_ (by simp) (objOk_cons W_ W_ R_ (by simp) objOk_nil)) (nodup_b rfl) (nodup_b rfl) rfl rfl, vb0_s_0_s_2, v5_2, h, rfl⟩
  ·rintro s ⟨vb0_s_0_s_1, v5_1, h, rfl⟩
   unfold ints_Writer_Wide_k1 at h
   refine aw_regL ?_
   refine pm 28 (.ptr 0 0 0) ?_
   refine pm 29 (.ptr 0 0 0) ?_
   refine pP 30 (does_nilCheck (p := .ptr 0 0 0) W_ rfl) ?_
   refine pf 31 (.ptr 0 0 0) ty74 ty28 ?_
   refine pl 32 (.own 1 0) ty28 ?_
   refine pm 33 (.int .u64 v5_1) ?_
   refine pP 34 ((does_conv_int (v := .int .u8 (IntKind.u8.wrap v5_1)) W_ (ty_some ty46) (ty_int ty5) rfl).castp (v' := .int .u8 ((u8 (IntKind.u8.wrap v5_1)).toNat : Int)) (by exact congrArg _ (u8_eq (u8_wrap _)))) ?_
   refine pD 35 (do_buildSlice (xs := List.map enc5 [(u8 (IntKind.u8.wrap v5_1))]) ty28 ty5 rfl rfl rfl rfl rfl rfl rfl rfl) ?_
   obtain ⟨g20, h⟩ := gd_some h
   refine pD 36 (do_append (v := List.map enc5 (vb0_s_0_s_1 ++ [(u8 (IntKind.u8.wrap v5_1))])) W_ W_ ty28 ty5 rfl rfl W_ (by first | exact .inl rfl | exact .inr ⟨rfl, rfl⟩) W_ (by first | exact .inr rfl | exact .inl rfl) (map_app _ _) (fit_map g20)) ?_
   refine pP 37 (does_nilCheck (p := .ptr 0 0 0) W_ rfl) ?_
   refine pf 38 (.ptr 0 0 0) ty74 ty28 ?_
   refine alD none rfl rfl (do_store (cs' := [.own 36 0]) W_ W_ W_ ty28 rfl rfl rfl R_) D_ ?_
   refine en hK7 ?_
   refine aw_regL ?_
   refine pb 39 (.int .i64 (IntKind.i64.wrap (v8_0 + 1))) ?_
   refine pm 8 (.int .i64 (IntKind.i64.wrap (v8_0 + 1))) ?_
   refine al_nil ?_
   have h := leafL h hq3
   exact ⟨m0, Nat.lt_succ_self _, _, reb_lit [(0, .ptr 0 0 0), (6, .sl 1 (List.map enc12 a1)), (7, .int .i64 (List.length a1 : Int)), (8, .int .i64 (IntKind.i64.wrap (v8_0 + 1)))] [(0, 0), (36, 0)] [((0, 0), .box [.own 1 0]), ((1, 0), .arr 5 1 false (List.map enc5 (vb0_s_0_s_1 ++ [(u8 (IntKind.u8.wrap v5_1))])))] [(0, 1), (1, 1)] (ec (ec (ec (ec envOk_nil)))) (objOk_cons W_ W_ R_ (by simp) (objOk_cons W_ W_ R_ (by simp) objOk_nil)) (nodup_b rfl) (nodup_b rfl) rfl rfl, (vb0_s_0_s_1 ++ [(u8 (IntKind.u8.wrap v5_1))]), (IntKind.i64.wrap (v8_0 + 1)), h, rfl⟩
 ·have h := ifF c6 h
  refine aw_cond_f D_ rfl ?_
  refine aw_exit ?_
  have h := leafR h hq3
  obtain rfl := Option.some.inj h
  exact ret_okB [(1, 0)] W_ W_ R_ (rowsOk_cons W_ R_ trivial) (boxesOk_cons W_ W_ R_ trivial) (nodup_b rfl) (.inl rfl) rfl
def ints_Writer_Num_l0 (a1 : List Int) (vb0_s_0_s_0 : List UInt8) (v8_0 : Int) : Option ((List UInt8 × Int) ⊕ Writer) :=
 if (decide (v8_0 < (List.length a1 : Int))) = true then (gd (0 ≤ v8_0) (Option.bind (a1[(Int.toNat v8_0)]?) (fun (x10 : Int) => Option.bind (ints_Writer_Wide (Writer.mk vb0_s_0_s_0) [(IntKind.u64.wrap x10)]) (fun (x11 : Writer) => some (Sum.inl (x11.B, (IntKind.i64.wrap (v8_0 + 1)))))))) else (some (Sum.inr (Writer.mk vb0_s_0_s_0)))
def ints_Writer_Num (a0 : Writer) (a1 : List Int) : Option Writer :=
 loopN (fun (s : List UInt8 × Int) => ints_Writer_Num_l0 a1 s.1 s.2) Fu (a0.B, 0)
theorem ints_Writer_Num_ok (a0 : Writer) (a1 : List Int) {r : Writer} (h : ints_Writer_Num a0 a1 = some r) : Ok Try.prog 34 [.ptr 0 0 0, .sl 1 (List.map enc2 a1)] [[.own 1 0]] [(5, 1, List.map enc5 a0.B)] (.tup []) [[.own 2 0]] [(5, 1, List.map enc5 r.B)] := by
 unfold ints_Writer_Num at h
 refine ok_of_code Try.func34 rfl (by show (2 : Nat) ≤ _; decide) (Nat.le_refl _) fun X => ?_
 refine sr fun K1 hK1 => ?_
 refine pm 6 (.sl 1 (List.map enc2 a1)) ?_
 refine pP 7 ((does_len_sl W_ ty92).castp (v' := .int .i64 (List.length a1 : Int)) (by exact len_map _)) ?_
 refine pm 8 (.int .i64 0) ?_
 refine en hK1 ?_
 refine aw_block ?_
 refine aw_loop' (fun m s => ∃ (vb0_s_0_s_0 : List UInt8), ∃ (v8_0 : Int), loopN (fun (s : List UInt8 × Int) => ints_Writer_Num_l0 a1 s.1 s.2) m (vb0_s_0_s_0, v8_0) = some r ∧ s = lit [(0, .ptr 0 0 0), (6, .sl 1 (List.map enc2 a1)), (7, .int .i64 (List.length a1 : Int)), (8, .int .i64 v8_0)] [((0, 0), .box [.own 1 0]), ((1, 0), .arr 5 1 false (List.map enc5 vb0_s_0_s_0))] [(0, 1), (1, 1)] X) Fu
  ⟨_, reb_lit [(0, .ptr 0 0 0), (6, .sl 1 (List.map enc2 a1)), (7, .int .i64 (List.length a1 : Int)), (8, .int .i64 (0))] [(0, 0), (1, 0)] [((0, 0), .box [.own 1 0]), ((1, 0), .arr 5 1 false (List.map enc5 a0.B))] [(0, 1), (1, 1)] (ec (ec (ec (ec envOk_nil)))) (objOk_cons W_ W_ R_ (by simp) (objOk_cons W_ W_ R_ (by simp) objOk_nil)) (nodup_b rfl) (nodup_b rfl) rfl rfl, a0.B, 0, h, rfl⟩ ?_
 rintro m s ⟨vb0_s_0_s_0, v8_0, h, rfl⟩
 obtain ⟨m0, q2, rfl, h, hq3⟩ := loop_some h
 replace h : ints_Writer_Num_l0 a1 vb0_s_0_s_0 v8_0 = some q2 := h
 unfold ints_Writer_Num_l0 at h
 refine sr fun K4 hK4 => ?_
 refine pb 9 (.bool (decide (v8_0 < (List.length a1 : Int)))) ?_
 refine en hK4 ?_
 refine aw_seq_k (fun K5 hK5 => ?_)
 refine aw_bool (b := (decide (v8_0 < (List.length a1 : Int)))) 9 rfl (fun c6 => ?_) (fun c6 => ?_)
 ·have h := ifT c6 h
  refine aw_cond_t D_ rfl ?_
  refine aw_skip ?_
  refine hK5 _ ?_
  refine aw_seq_k (fun K7 hK7 => ?_)
  refine aw_block ?_
  refine sr fun K8 hK8 => ?_
  obtain ⟨g9, h⟩ := gd_some h
  obtain ⟨x10, hx10, h⟩ := bnd_some h
  refine pP 10 (does_indexAddr_sl (el := .int .i64 x10) W_ W_ ty92 ty3 g9 (by exact map_get hx10)) ?_
  refine pl 11 (.int .i64 x10) ty3 ?_
  refine pa 5 (.int .i64 x10) ?_
  refine en hK8 ?_
  refine aw_regL ?_
  refine pm 12 (.ptr 0 0 0) ?_
  refine pm 13 (.int .i64 x10) ?_
  refine pP 14 (does_conv_int (v := .int .u64 (IntKind.u64.wrap x10)) W_ (ty_some ty3) (ty_int ty46) rfl) ?_
  refine pD 15 (do_buildSlice (xs := List.map enc12 [(IntKind.u64.wrap x10)]) ty115 ty46 rfl rfl rfl rfl rfl rfl rfl rfl) ?_
  obtain ⟨x11, hx11, h⟩ := bnd_some h
  refine pD 16 (does_frz (d := 15) (n := 0) W_ (do_callG (bcs := [[.own 1 0]]) [(0, 0)] [(1, 0)] [(15, 0)] 16 false (ints_Writer_Wide_ok (Writer.mk vb0_s_0_s_0) [(IntKind.u64.wrap x10)] hx11) rfl ent56 ⟨R_, trivial⟩ (rowsOk_cons W_ R_ trivial) rfl rfl rfl rfl rfl rfl rfl rfl (.inl ⟨⟨_, _, _, rfl⟩, trivial⟩))) ?_
  refine en hK7 ?_
  refine aw_regL ?_
  refine pb 17 (.int .i64 (IntKind.i64.wrap (v8_0 + 1))) ?_
  refine pm 8 (.int .i64 (IntKind.i64.wrap (v8_0 + 1))) ?_
  refine al_nil ?_
  have h := leafL h hq3
  exact ⟨m0, Nat.lt_succ_self _, _, reb_lit [(0, .ptr 0 0 0), (6, .sl 1 (List.map enc2 a1)), (7, .int .i64 (List.length a1 : Int)), (8, .int .i64 (IntKind.i64.wrap (v8_0 + 1)))] [(0, 0), (16, 0)] [((0, 0), .box [.own 1 0]), ((1, 0), .arr 5 1 false (List.map enc5 x11.B))] [(0, 1), (1, 1)] (ec (ec (ec (ec envOk_nil)))) (objOk_cons W_ W_ R_ (by simp) (objOk_cons W_ W_ R_ (by simp) objOk_nil)) (nodup_b rfl) (nodup_b rfl) rfl rfl, x11.B, (IntKind.i64.wrap (v8_0 + 1)), h, rfl⟩
 ·have h := ifF c6 h
  refine aw_cond_f D_ rfl ?_
  refine aw_exit ?_
  have h := leafR h hq3
  obtain rfl := Option.some.inj h
  exact ret_okB [(1, 0)] W_ W_ R_ (rowsOk_cons W_ R_ trivial) (boxesOk_cons W_ W_ R_ trivial) (nodup_b rfl) (.inl rfl) rfl
def ints_Writer_Text_l0 (a1 : List ByteArray) (vb0_s_0_s_0 : List UInt8) (v8_0 : Int) : Option ((List UInt8 × Int) ⊕ Writer) :=
 if (decide (v8_0 < (List.length a1 : Int))) = true then (gd (0 ≤ v8_0) (Option.bind (a1[(Int.toNat v8_0)]?) (fun (x10 : ByteArray) => Option.bind (ints_Writer_Num (Writer.mk vb0_s_0_s_0) [(ByteArray.size x10 : Int)]) (fun (x12 : Writer) => gd ((List.length (x12.B ++ (bytesOf x10))) ≤ 140737488355328) (some (Sum.inl ((x12.B ++ (bytesOf x10)), (IntKind.i64.wrap (v8_0 + 1))))))))) else (some (Sum.inr (Writer.mk vb0_s_0_s_0)))
def ints_Writer_Text (a0 : Writer) (a1 : List ByteArray) : Option Writer :=
 loopN (fun (s : List UInt8 × Int) => ints_Writer_Text_l0 a1 s.1 s.2) Fu (a0.B, 0)
theorem ints_Writer_Text_ok (a0 : Writer) (a1 : List ByteArray) {r : Writer} (h : ints_Writer_Text a0 a1 = some r) : Ok Try.prog 57 [.ptr 0 0 0, .sl 1 (List.map enc9 a1)] [[.own 1 0]] [(5, 1, List.map enc5 a0.B)] (.tup []) [[.own 2 0]] [(5, 1, List.map enc5 r.B)] := by
 unfold ints_Writer_Text at h
 refine ok_of_code Try.func57 rfl (by show (2 : Nat) ≤ _; decide) (Nat.le_refl _) fun X => ?_
 refine sr fun K1 hK1 => ?_
 refine pm 6 (.sl 1 (List.map enc9 a1)) ?_
 refine pP 7 ((does_len_sl W_ ty116).castp (v' := .int .i64 (List.length a1 : Int)) (by exact len_map _)) ?_
 refine pm 8 (.int .i64 0) ?_
 refine en hK1 ?_
 refine aw_block ?_
 refine aw_loop' (fun m s => ∃ (vb0_s_0_s_0 : List UInt8), ∃ (v8_0 : Int), loopN (fun (s : List UInt8 × Int) => ints_Writer_Text_l0 a1 s.1 s.2) m (vb0_s_0_s_0, v8_0) = some r ∧ s = lit [(0, .ptr 0 0 0), (6, .sl 1 (List.map enc9 a1)), (7, .int .i64 (List.length a1 : Int)), (8, .int .i64 v8_0)] [((0, 0), .box [.own 1 0]), ((1, 0), .arr 5 1 false (List.map enc5 vb0_s_0_s_0))] [(0, 1), (1, 1)] X) Fu
  ⟨_, reb_lit [(0, .ptr 0 0 0), (6, .sl 1 (List.map enc9 a1)), (7, .int .i64 (List.length a1 : Int)), (8, .int .i64 (0))] [(0, 0), (1, 0)] [((0, 0), .box [.own 1 0]), ((1, 0), .arr 5 1 false (List.map enc5 a0.B))] [(0, 1), (1, 1)] (ec (ec (ec (ec envOk_nil)))) (objOk_cons W_ W_ R_ (by simp) (objOk_cons W_ W_ R_ (by simp) objOk_nil)) (nodup_b rfl) (nodup_b rfl) rfl rfl, a0.B, 0, h, rfl⟩ ?_
 rintro m s ⟨vb0_s_0_s_0, v8_0, h, rfl⟩
 obtain ⟨m0, q2, rfl, h, hq3⟩ := loop_some h
 replace h : ints_Writer_Text_l0 a1 vb0_s_0_s_0 v8_0 = some q2 := h
 unfold ints_Writer_Text_l0 at h
 refine sr fun K4 hK4 => ?_
 refine pb 9 (.bool (decide (v8_0 < (List.length a1 : Int)))) ?_
 refine en hK4 ?_
 refine aw_seq_k (fun K5 hK5 => ?_)
 refine aw_bool (b := (decide (v8_0 < (List.length a1 : Int)))) 9 rfl (fun c6 => ?_) (fun c6 => ?_)
 ·have h := ifT c6 h
  refine aw_cond_t D_ rfl ?_
  refine aw_skip ?_
  refine hK5 _ ?_
  refine aw_seq_k (fun K7 hK7 => ?_)
  refine aw_block ?_
  refine sr fun K8 hK8 => ?_
  obtain ⟨g9, h⟩ := gd_some h
  obtain ⟨x10, hx10, h⟩ := bnd_some h
  refine pP 10 (does_indexAddr_sl (el := .str x10) W_ W_ ty116 ty9 g9 (by exact map_get hx10)) ?_
  refine pl 11 (.str x10) ty9 ?_
  refine pa 5 (.str x10) ?_
  refine en hK8 ?_
  refine sr fun K11 hK11 => ?_
  refine pm 12 (.ptr 0 0 0) ?_
  refine pm 13 (.str x10) ?_
  refine pP 14 (does_len_str W_ ty9) ?_
  refine pD 15 (do_buildSlice (xs := List.map enc2 [(ByteArray.size x10 : Int)]) ty92 ty3 rfl rfl rfl rfl rfl rfl rfl rfl) ?_
  obtain ⟨x12, hx12, h⟩ := bnd_some h
  refine pD 16 (does_frz (d := 15) (n := 0) W_ (do_callG (bcs := [[.own 1 0]]) [(0, 0)] [(1, 0)] [(15, 0)] 16 false (ints_Writer_Num_ok (Writer.mk vb0_s_0_s_0) [(ByteArray.size x10 : Int)] hx12) rfl ent34 ⟨R_, trivial⟩ (rowsOk_cons W_ R_ trivial) rfl rfl rfl rfl rfl rfl rfl rfl (.inl ⟨⟨_, _, _, rfl⟩, trivial⟩))) ?_
  refine en hK11 ?_
  refine aw_regL ?_
  refine pm 17 (.ptr 0 0 0) ?_
  refine pm 18 (.ptr 0 0 0) ?_
  refine pP 19 (does_nilCheck (p := .ptr 0 0 0) W_ rfl) ?_
  refine pf 20 (.ptr 0 0 0) ty74 ty28 ?_
  refine pl 21 (.own 16 0) ty28 ?_
  refine pm 22 (.str x10) ?_
  obtain ⟨g13, h⟩ := gd_some h
  refine pD 23 (do_append_str (l := x12.B) (f := enc5) W_ W_ ty28 ty5 zr5 (ty_str ty9) W_ (by first | exact .inl rfl | exact .inr ⟨rfl, rfl⟩) (fun _ => rfl) (g13)) ?_
  refine pP 24 (does_nilCheck (p := .ptr 0 0 0) W_ rfl) ?_
  refine pf 25 (.ptr 0 0 0) ty74 ty28 ?_
  refine alD none rfl rfl (do_store (cs' := [.own 23 0]) W_ W_ W_ ty28 rfl rfl rfl R_) D_ ?_
  refine en hK7 ?_
  refine aw_regL ?_
  refine pb 26 (.int .i64 (IntKind.i64.wrap (v8_0 + 1))) ?_
  refine pm 8 (.int .i64 (IntKind.i64.wrap (v8_0 + 1))) ?_
  refine al_nil ?_
  have h := leafL h hq3
  exact ⟨m0, Nat.lt_succ_self _, _, reb_lit [(0, .ptr 0 0 0), (6, .sl 1 (List.map enc9 a1)), (7, .int .i64 (List.length a1 : Int)), (8, .int .i64 (IntKind.i64.wrap (v8_0 + 1)))] [(0, 0), (23, 0)] [((0, 0), .box [.own 1 0]), ((1, 0), .arr 5 1 false (List.map enc5 (x12.B ++ (bytesOf x10))))] [(0, 1), (1, 1)] (ec (ec (ec (ec envOk_nil)))) (objOk_cons W_ W_ R_ (by simp) (objOk_cons W_ W_ R_ (by simp) objOk_nil)) (nodup_b rfl) (nodup_b rfl) rfl rfl, (x12.B ++ (bytesOf x10)), (IntKind.i64.wrap (v8_0 + 1)), h, rfl⟩
 ·have h := ifF c6 h
  refine aw_cond_f D_ rfl ?_
  refine aw_exit ?_
  have h := leafR h hq3
  obtain rfl := Option.some.inj h
  exact ret_okB [(1, 0)] W_ W_ R_ (rowsOk_cons W_ R_ trivial) (boxesOk_cons W_ W_ R_ trivial) (nodup_b rfl) (.inl rfl) rfl
def ints_Writer_Flag_k0 (a0 : Writer) (v4_0 : Int) : Option Writer :=
 Option.bind (ints_Writer_Num a0 [v4_0]) (fun (x6 : Writer) => some x6)
def ints_Writer_Flag (a0 : Writer) (a1 : Bool) : Option Writer :=
 Option.bind (if a1 = true then (some 1) else (some 0)) (fun (s : Int) => ints_Writer_Flag_k0 a0 s)
theorem ints_Writer_Flag_ok (a0 : Writer) (a1 : Bool) {r : Writer} (h : ints_Writer_Flag a0 a1 = some r) : Ok Try.prog 58 [.ptr 0 0 0, .bool a1] [[.own 1 0]] [(5, 1, List.map enc5 a0.B)] (.tup []) [[.own 2 0]] [(5, 1, List.map enc5 r.B)] := by
 unfold ints_Writer_Flag at h
 refine ok_of_code Try.func58 rfl (by show (2 : Nat) ≤ _; decide) (Nat.le_refl _) fun X => ?_
 refine sr fun K1 hK1 => ?_
 refine pa 4 (.int .i64 0) ?_
 refine en hK1 ?_
 obtain ⟨q2, h, hk3⟩ := bnd_some h
 refine aw_cut (fun s => ∃ (v4_0 : Int), ints_Writer_Flag_k0 a0 v4_0 = some r ∧ s = lit [(0, .ptr 0 0 0), (4, .int .i64 v4_0)] [((0, 0), .box [.own 1 0]), ((1, 0), .arr 5 1 false (List.map enc5 a0.B))] [(0, 1), (1, 1)] X) ?_ ?_
 ·skip
  refine sr fun K4 hK4 => ?_
  refine pm 5 (.bool a1) ?_
  refine en hK4 ?_
  refine aw_bool (b := a1) 5 rfl (fun c5 => ?_) (fun c5 => ?_)
  ·have h := ifT c5 h
   refine aw_cond_t D_ rfl ?_
   refine aw_regL ?_
   refine pa 4 (.int .i64 1) ?_
   refine al_nil ?_
   obtain rfl := Option.some.inj h
   have h := hk3
   exact ⟨_, reb_lit [(0, .ptr 0 0 0), (4, .int .i64 (1))] [(0, 0), (1, 0)] [((0, 0), .box [.own 1 0]), ((1, 0), .arr 5 1 false (List.map enc5 a0.B))] [(0, 1), (1, 1)] (ec (ec envOk_nil)) (objOk_cons W_ W_ R_ (by simp) (objOk_cons W_ W_ R_ (by simp) objOk_nil)) (nodup_b rfl) (nodup_b rfl) rfl rfl, 1, h, rfl⟩
  ·have h := ifF c5 h
   refine aw_cond_f D_ rfl ?_
   refine aw_skip ?_
   obtain rfl := Option.some.inj h
   have h := hk3
   exact ⟨_, reb_lit [(0, .ptr 0 0 0), (4, .int .i64 (0))] [(0, 0), (1, 0)] [((0, 0), .box [.own 1 0]), ((1, 0), .arr 5 1 false (List.map enc5 a0.B))] [(0, 1), (1, 1)] (ec (ec envOk_nil)) (objOk_cons W_ W_ R_ (by simp) (objOk_cons W_ W_ R_ (by simp) objOk_nil)) (nodup_b rfl) (nodup_b rfl) rfl rfl, 0, h, rfl⟩
 ·rintro s ⟨v4_0, h, rfl⟩
  unfold ints_Writer_Flag_k0 at h
  refine aw_regL ?_
  refine pm 6 (.ptr 0 0 0) ?_
  refine pm 7 (.int .i64 v4_0) ?_
  refine pD 8 (do_buildSlice (xs := List.map enc2 [v4_0]) ty92 ty3 rfl rfl rfl rfl rfl rfl rfl rfl) ?_
  obtain ⟨x6, hx6, h⟩ := bnd_some h
  refine pD 9 (does_frz (d := 8) (n := 0) W_ (do_callG (bcs := [[.own 1 0]]) [(0, 0)] [(1, 0)] [(8, 0)] 9 false (ints_Writer_Num_ok a0 [v4_0] hx6) rfl ent34 ⟨R_, trivial⟩ (rowsOk_cons W_ R_ trivial) rfl rfl rfl rfl rfl rfl rfl rfl (.inl ⟨⟨_, _, _, rfl⟩, trivial⟩))) ?_
  refine al_nil ?_
  obtain rfl := Option.some.inj h
  exact ret_okB [(9, 0)] W_ W_ R_ (rowsOk_cons W_ R_ trivial) (boxesOk_cons W_ W_ R_ trivial) (nodup_b rfl) (.inl rfl) rfl
def ints_Reader_Wide_k1 (v22_1 : Bool) : Option (Unit ⊕ (Int × Reader)) :=
 if v22_1 = true then (some (Sum.inr (0, (Reader.mk [] true)))) else (some (Sum.inl ()))
def ints_Reader_Wide_k0 (a0 : Reader) (x3 : Int × Int × Bool) : Option (Int × Reader) :=
 gd (0 ≤ x3.2.1) (gd (x3.2.1 ≤ (List.length a0.B : Int)) (some (x3.1, (Reader.mk (List.drop (Int.toNat x3.2.1) a0.B) a0.Bad))))
def ints_Reader_Wide (a0 : Reader) : Option (Int × Reader) :=
 Option.bind (ints_Get a0.B) (fun (x3 : Int × Int × Bool) => Option.bind (Option.bind (if a0.Bad = true then (some true) else (some (!x3.2.2))) (fun (s : Bool) => ints_Reader_Wide_k1 s)) (Sum.elim (fun (s : Unit) => ints_Reader_Wide_k0 a0 x3) some))
theorem ints_Reader_Wide_ok (a0 : Reader) {r : Int × Reader} (h : ints_Reader_Wide a0 = some r) : Ok Try.prog 41 [.ptr 0 0 0] [[.sl 1 (List.map enc5 a0.B), .bool a0.Bad]] [] (.int .u64 r.1) [[.sl 1 (List.map enc5 r.2.B), .bool r.2.Bad]] [] := by
 unfold ints_Reader_Wide at h
 refine ok_of_code Try.func41 rfl (by show (1 : Nat) ≤ _; decide) (Nat.le_refl _) fun X => ?_
 refine sr fun K1 hK1 => ?_
 refine pa 2 (.int .u64 0) ?_
 refine en hK1 ?_
 refine sr fun K2 hK2 => ?_
 refine pm 7 (.ptr 0 0 0) ?_
 refine pP 8 (does_nilCheck (p := .ptr 0 0 0) W_ rfl) ?_
 refine pf 9 (.ptr 0 0 0) ty54 ty28 ?_
 refine pl 10 (.sl 1 (List.map enc5 a0.B)) ty28 ?_
 obtain ⟨x3, hx3, h⟩ := bnd_some h
 refine pD 11 (do_call0 11 false (ints_Get_ok a0.B hx3) rfl ent68 rfl rfl) ?_
 refine pm 6 (.tup [.int .u64 x3.1, .int .i64 x3.2.1, .bool x3.2.2]) ?_
 refine pP 12 (does_extract (v := .int .u64 x3.1) W_ R_) ?_
 refine pP 13 (does_extract (v := .int .i64 x3.2.1) W_ R_) ?_
 refine pP 14 (does_extract (v := .bool x3.2.2) W_ R_) ?_
 refine pa 3 (.int .u64 x3.1) ?_
 refine pa 4 (.int .i64 x3.2.1) ?_
 refine pa 5 (.bool x3.2.2) ?_
 refine en hK2 ?_
 obtain ⟨q4, h, hk5⟩ := bnd_some h
 refine aw_cut (fun s => ints_Reader_Wide_k0 a0 x3 = some r ∧ s = lit [(0, .ptr 0 0 0), (3, .int .u64 x3.1), (4, .int .i64 x3.2.1)] [((0, 0), .box [.sl 1 (List.map enc5 a0.B), .bool a0.Bad])] [(0, 1)] X) ?_ ?_
 ·skip
  obtain ⟨q6, h, hk7⟩ := bnd_some h
  refine aw_cut (fun s => ∃ (v22_1 : Bool), ints_Reader_Wide_k1 v22_1 = some q4 ∧ s = lit [(0, .ptr 0 0 0), (3, .int .u64 x3.1), (4, .int .i64 x3.2.1), (22, .bool v22_1)] [((0, 0), .box [.sl 1 (List.map enc5 a0.B), .bool a0.Bad])] [(0, 1)] X) ?_ ?_
  ·skip
   refine aw_regL ?_
   refine pm 15 (.ptr 0 0 0) ?_
   refine pP 16 (does_nilCheck (p := .ptr 0 0 0) W_ rfl) ?_
   refine pf 17 (.ptr 0 0 1) ty54 ty4 ?_
   refine pl 18 (.bool a0.Bad) ty4 ?_
   refine pm 19 (.bool a0.Bad) ?_
   refine al_bool (c := a0.Bad) 19 rfl (fun c8 => ?_) (fun c8 => ?_)
   ·have h := ifT c8 h
    refine pS 20 ?_
    refine pS 21 ?_
    refine pk 22 (.bool true) ?_
    refine al_nil ?_
    obtain rfl := Option.some.inj h
    have h := hk7
    exact ⟨_, reb_lit [(0, .ptr 0 0 0), (3, .int .u64 x3.1), (4, .int .i64 x3.2.1), (22, .bool true)] [(0, 0)] [((0, 0), .box [.sl 1 (List.map enc5 a0.B), .bool a0.Bad])] [(0, 1)] (ec (ec (ec (ec envOk_nil)))) (objOk_cons W_ W_ R_ (by simp) objOk_nil) (nodup_b rfl) (nodup_b rfl) rfl rfl, true, h, rfl⟩
   ·have h := ifF c8 h
    refine pm 20 (.bool x3.2.2) ?_
    refine pP 21 (does_un (v := .bool (!x3.2.2)) W_ rfl) ?_
    refine pk 22 (.bool (!x3.2.2)) ?_
    refine al_nil ?_
    obtain rfl := Option.some.inj h
    have h := hk7
    exact ⟨_, reb_lit [(0, .ptr 0 0 0), (3, .int .u64 x3.1), (4, .int .i64 x3.2.1), (22, .bool (!x3.2.2))] [(0, 0)] [((0, 0), .box [.sl 1 (List.map enc5 a0.B), .bool a0.Bad])] [(0, 1)] (ec (ec (ec (ec envOk_nil)))) (objOk_cons W_ W_ R_ (by simp) objOk_nil) (nodup_b rfl) (nodup_b rfl) rfl rfl, (!x3.2.2), h, rfl⟩
  ·rintro s ⟨v22_1, h, rfl⟩
   unfold ints_Reader_Wide_k1 at h
   refine aw_bool (b := v22_1) 22 rfl (fun c9 => ?_) (fun c9 => ?_)
   ·have h := ifT c9 h
    refine aw_cond_t D_ rfl ?_
    refine sr fun K10 hK10 => ?_
    refine pm 23 (.ptr 0 0 0) ?_
    refine pm 24 (.ptr 0 0 0) ?_
    refine pP 25 (does_nilCheck (p := .ptr 0 0 0) W_ rfl) ?_
    refine pf 26 (.ptr 0 0 0) ty54 ty28 ?_
    refine alD none rfl rfl (do_store (cs' := [.nil, .bool a0.Bad]) W_ W_ W_ ty28 rfl rfl rfl R_) D_ ?_
    refine pP 27 (does_nilCheck (p := .ptr 0 0 0) W_ rfl) ?_
    refine pf 28 (.ptr 0 0 1) ty54 ty4 ?_
    refine alD none rfl rfl (do_store (cs' := [.nil, .bool true]) W_ W_ W_ ty4 rfl rfl rfl R_) D_ ?_
    refine en hK10 ?_
    refine sr fun K11 hK11 => ?_
    refine pa 2 (.int .u64 0) ?_
    refine en hK11 ?_
    refine aw_reb (reb_w (tl' := [(2, .int .u64 0)]) (ol' := [((0, 0), .box [.sl 1 (List.map enc5 []), .bool true])]) (reb_lit [(2, .int .u64 0)] [(0, 0)] [((0, 0), .box [.nil, .bool true])] [(0, 1)] (ec envOk_nil) (objOk_cons W_ W_ R_ (by simp) objOk_nil) (nodup_b rfl) (nodup_b rfl) rfl rfl) ⟨rfl, le_refl _, trivial⟩ ⟨rfl, (.box ⟨le_nil _, le_refl _, trivial⟩), trivial⟩) ?_
    refine aw_ret ?_
    have h := leafR h hk5
    obtain rfl := Option.some.inj h
    exact ret_okB [] W_ W_ R_ trivial (boxesOk_cons W_ W_ R_ trivial) (nodup_b rfl) (.inr rfl) rfl
   ·have h := ifF c9 h
    refine aw_cond_f D_ rfl ?_
    refine aw_skip ?_
    have h := leafL h hk5
    exact ⟨_, reb_lit [(0, .ptr 0 0 0), (3, .int .u64 x3.1), (4, .int .i64 x3.2.1)] [(0, 0)] [((0, 0), .box [.sl 1 (List.map enc5 a0.B), .bool a0.Bad])] [(0, 1)] (ec (ec (ec envOk_nil))) (objOk_cons W_ W_ R_ (by simp) objOk_nil) (nodup_b rfl) (nodup_b rfl) rfl rfl, h, rfl⟩
 ·rintro s ⟨h, rfl⟩
  unfold ints_Reader_Wide_k0 at h
  refine sr fun K12 hK12 => ?_
  refine pm 29 (.ptr 0 0 0) ?_
  refine pm 30 (.ptr 0 0 0) ?_
  refine pP 31 (does_nilCheck (p := .ptr 0 0 0) W_ rfl) ?_
  refine pf 32 (.ptr 0 0 0) ty54 ty28 ?_
  refine pl 33 (.sl 1 (List.map enc5 a0.B)) ty28 ?_
  refine pm 34 (.int .i64 x3.2.1) ?_
  obtain ⟨g13, h⟩ := gd_some h
  obtain ⟨g14, h⟩ := gd_some h
  refine pP 35 (does_slice_sl (l := (Int.toNat x3.2.1)) W_ ty28 ty5 (bd_some W_ (by exact (nat_of g13))) bd_none (by (try simp only [List.length_map]); omega) (by (try simp only [List.length_map]); omega) (by exact part_l _ _)) ?_
  refine pP 36 (does_nilCheck (p := .ptr 0 0 0) W_ rfl) ?_
  refine pf 37 (.ptr 0 0 0) ty54 ty28 ?_
  refine alD none rfl rfl (do_store (cs' := [.sl 1 (List.map enc5 (List.drop (Int.toNat x3.2.1) a0.B)), .bool a0.Bad]) W_ W_ W_ ty28 rfl rfl rfl R_) D_ ?_
  refine en hK12 ?_
  refine sr fun K15 hK15 => ?_
  refine pm 38 (.int .u64 x3.1) ?_
  refine pa 2 (.int .u64 x3.1) ?_
  refine en hK15 ?_
  refine aw_ret ?_
  obtain rfl := Option.some.inj h
  exact ret_okB [] W_ W_ R_ trivial (boxesOk_cons W_ W_ R_ trivial) (nodup_b rfl) (.inr rfl) rfl
def ints_Reader_Count (a0 : Reader) : Option (Int × Reader) :=
 Option.bind (ints_Reader_Wide a0) (fun (x3 : Int × Reader) => if (decide ((IntKind.u64.wrap (List.length x3.2.B : Int)) < x3.1)) = true then (some (0, (Reader.mk [] true))) else (some ((IntKind.i64.wrap x3.1), x3.2)))
theorem ints_Reader_Count_ok (a0 : Reader) {r : Int × Reader} (h : ints_Reader_Count a0 = some r) : Ok Try.prog 83 [.ptr 0 0 0] [[.sl 1 (List.map enc5 a0.B), .bool a0.Bad]] [] (.int .i64 r.1) [[.sl 1 (List.map enc5 r.2.B), .bool r.2.Bad]] [] := by
 unfold ints_Reader_Count at h
 refine ok_of_code Try.func83 rfl (by show (1 : Nat) ≤ _; decide) (Nat.le_refl _) fun X => ?_
 refine sr fun K1 hK1 => ?_
 refine pa 2 (.int .i64 0) ?_
 refine en hK1 ?_
 refine sr fun K2 hK2 => ?_
 refine pm 4 (.ptr 0 0 0) ?_
 obtain ⟨x3, hx3, h⟩ := bnd_some h
 refine pD 5 (do_callG (bcs := [[.sl 1 (List.map enc5 a0.B), .bool a0.Bad]]) [(0, 0)] [] [] 5 false (ints_Reader_Wide_ok a0 hx3) rfl ent41 ⟨R_, trivial⟩ trivial rfl rfl rfl rfl rfl rfl rfl rfl (.inl trivial)) ?_
 refine pa 3 (.int .u64 x3.1) ?_
 refine en hK2 ?_
 refine aw_seq_k (fun K4 hK4 => ?_)
 refine sr fun K5 hK5 => ?_
 refine pm 6 (.int .u64 x3.1) ?_
 refine pm 7 (.ptr 0 0 0) ?_
 refine pP 8 (does_nilCheck (p := .ptr 0 0 0) W_ rfl) ?_
 refine pf 9 (.ptr 0 0 0) ty54 ty28 ?_
 refine pl 10 (.sl 1 (List.map enc5 x3.2.B)) ty28 ?_
 refine pP 11 ((does_len_sl W_ ty28).castp (v' := .int .i64 (List.length x3.2.B : Int)) (by exact len_map _)) ?_
 refine pP 12 (does_conv_int (v := .int .u64 (IntKind.u64.wrap (List.length x3.2.B : Int))) W_ (ty_some ty3) (ty_int ty46) rfl) ?_
 refine pb 13 (.bool (decide ((IntKind.u64.wrap (List.length x3.2.B : Int)) < x3.1))) ?_
 refine en hK5 ?_
 refine aw_bool (b := (decide ((IntKind.u64.wrap (List.length x3.2.B : Int)) < x3.1))) 13 rfl (fun c6 => ?_) (fun c6 => ?_)
 ·have h := ifT c6 h
  refine aw_cond_t D_ rfl ?_
  refine sr fun K7 hK7 => ?_
  refine pm 14 (.ptr 0 0 0) ?_
  refine pm 15 (.ptr 0 0 0) ?_
  refine pP 16 (does_nilCheck (p := .ptr 0 0 0) W_ rfl) ?_
  refine pf 17 (.ptr 0 0 0) ty54 ty28 ?_
  refine alD none rfl rfl (do_store (cs' := [.nil, .bool x3.2.Bad]) W_ W_ W_ ty28 rfl rfl rfl R_) D_ ?_
  refine pP 18 (does_nilCheck (p := .ptr 0 0 0) W_ rfl) ?_
  refine pf 19 (.ptr 0 0 1) ty54 ty4 ?_
  refine alD none rfl rfl (do_store (cs' := [.nil, .bool true]) W_ W_ W_ ty4 rfl rfl rfl R_) D_ ?_
  refine en hK7 ?_
  refine sr fun K8 hK8 => ?_
  refine pa 2 (.int .i64 0) ?_
  refine en hK8 ?_
  refine aw_reb (reb_w (tl' := [(2, .int .i64 0)]) (ol' := [((0, 0), .box [.sl 1 (List.map enc5 []), .bool true])]) (reb_lit [(2, .int .i64 0)] [(0, 0)] [((0, 0), .box [.nil, .bool true])] [(0, 1)] (ec envOk_nil) (objOk_cons W_ W_ R_ (by simp) objOk_nil) (nodup_b rfl) (nodup_b rfl) rfl rfl) ⟨rfl, le_refl _, trivial⟩ ⟨rfl, (.box ⟨le_nil _, le_refl _, trivial⟩), trivial⟩) ?_
  refine aw_ret ?_
  obtain rfl := Option.some.inj h
  exact ret_okB [] W_ W_ R_ trivial (boxesOk_cons W_ W_ R_ trivial) (nodup_b rfl) (.inr rfl) rfl
 ·have h := ifF c6 h
  refine aw_cond_f D_ rfl ?_
  refine aw_skip ?_
  refine hK4 _ ?_
  refine sr fun K9 hK9 => ?_
  refine pm 20 (.int .u64 x3.1) ?_
  refine pP 21 (does_conv_int (v := .int .i64 (IntKind.i64.wrap x3.1)) W_ (ty_some ty46) (ty_int ty3) rfl) ?_
  refine pa 2 (.int .i64 (IntKind.i64.wrap x3.1)) ?_
  refine en hK9 ?_
  refine aw_ret ?_
  obtain rfl := Option.some.inj h
  exact ret_okB [] W_ W_ R_ trivial (boxesOk_cons W_ W_ R_ trivial) (nodup_b rfl) (.inr rfl) rfl
def ints_Reader_Take_k1 (v18_1 : Bool) : Option (Unit ⊕ (List UInt8 × Reader)) :=
 if v18_1 = true then (some (Sum.inr ([], (Reader.mk [] true)))) else (some (Sum.inl ()))
def ints_Reader_Take_k0 (a0 : Reader) (a1 : Int) : Option (List UInt8 × Reader) :=
 gd (0 ≤ a1) (gd (a1 ≤ (List.length a0.B : Int)) (gd (0 ≤ a1) (gd (a1 ≤ (List.length a0.B : Int)) (some ((List.take (Int.toNat a1) a0.B), (Reader.mk (List.drop (Int.toNat a1) a0.B) a0.Bad))))))
def ints_Reader_Take (a0 : Reader) (a1 : Int) : Option (List UInt8 × Reader) :=
 Option.bind (Option.bind (if a0.Bad = true then (some true) else (some (decide ((List.length a0.B : Int) < a1)))) (fun (s : Bool) => ints_Reader_Take_k1 s)) (Sum.elim (fun (s : Unit) => ints_Reader_Take_k0 a0 a1) some)
theorem ints_Reader_Take_ok (a0 : Reader) (a1 : Int) {r : List UInt8 × Reader} (h : ints_Reader_Take a0 a1 = some r) : Ok Try.prog 65 [.ptr 0 0 0, .int .i64 a1] [[.sl 1 (List.map enc5 a0.B), .bool a0.Bad]] [] (.sl 1 (List.map enc5 r.1)) [[.sl 1 (List.map enc5 r.2.B), .bool r.2.Bad]] [] := by
 unfold ints_Reader_Take at h
 refine ok_of_code Try.func65 rfl (by show (2 : Nat) ≤ _; decide) (Nat.le_refl _) fun X => ?_
 refine sr fun K1 hK1 => ?_
 refine pa 4 (.nil) ?_
 refine en hK1 ?_
 obtain ⟨q2, h, hk3⟩ := bnd_some h
 refine aw_cut (fun s => ints_Reader_Take_k0 a0 a1 = some r ∧ s = lit [(0, .ptr 0 0 0), (1, .int .i64 a1)] [((0, 0), .box [.sl 1 (List.map enc5 a0.B), .bool a0.Bad])] [(0, 1)] X) ?_ ?_
 ·skip
  obtain ⟨q4, h, hk5⟩ := bnd_some h
  refine aw_cut (fun s => ∃ (v18_1 : Bool), ints_Reader_Take_k1 v18_1 = some q2 ∧ s = lit [(0, .ptr 0 0 0), (1, .int .i64 a1), (18, .bool v18_1)] [((0, 0), .box [.sl 1 (List.map enc5 a0.B), .bool a0.Bad])] [(0, 1)] X) ?_ ?_
  ·skip
   refine aw_regL ?_
   refine pm 6 (.ptr 0 0 0) ?_
   refine pP 7 (does_nilCheck (p := .ptr 0 0 0) W_ rfl) ?_
   refine pf 8 (.ptr 0 0 1) ty54 ty4 ?_
   refine pl 9 (.bool a0.Bad) ty4 ?_
   refine pm 10 (.bool a0.Bad) ?_
   refine al_bool (c := a0.Bad) 10 rfl (fun c6 => ?_) (fun c6 => ?_)
   ·have h := ifT c6 h
    refine pS 11 ?_
    refine pS 12 ?_
    refine pS 13 ?_
    refine pS 14 ?_
    refine pS 15 ?_
    refine pS 16 ?_
    refine pS 17 ?_
    refine pk 18 (.bool true) ?_
    refine al_nil ?_
    obtain rfl := Option.some.inj h
    have h := hk5
    exact ⟨_, reb_lit [(0, .ptr 0 0 0), (1, .int .i64 a1), (18, .bool true)] [(0, 0)] [((0, 0), .box [.sl 1 (List.map enc5 a0.B), .bool a0.Bad])] [(0, 1)] (ec (ec (ec envOk_nil))) (objOk_cons W_ W_ R_ (by simp) objOk_nil) (nodup_b rfl) (nodup_b rfl) rfl rfl, true, h, rfl⟩
   ·have h := ifF c6 h
    refine pm 11 (.int .i64 a1) ?_
    refine pm 12 (.ptr 0 0 0) ?_
    refine pP 13 (does_nilCheck (p := .ptr 0 0 0) W_ rfl) ?_
    refine pf 14 (.ptr 0 0 0) ty54 ty28 ?_
    refine pl 15 (.sl 1 (List.map enc5 a0.B)) ty28 ?_
    refine pP 16 ((does_len_sl W_ ty28).castp (v' := .int .i64 (List.length a0.B : Int)) (by exact len_map _)) ?_
    refine pb 17 (.bool (decide ((List.length a0.B : Int) < a1))) ?_
    refine pk 18 (.bool (decide ((List.length a0.B : Int) < a1))) ?_
    refine al_nil ?_
    obtain rfl := Option.some.inj h
    have h := hk5
    exact ⟨_, reb_lit [(0, .ptr 0 0 0), (1, .int .i64 a1), (18, .bool (decide ((List.length a0.B : Int) < a1)))] [(0, 0)] [((0, 0), .box [.sl 1 (List.map enc5 a0.B), .bool a0.Bad])] [(0, 1)] (ec (ec (ec envOk_nil))) (objOk_cons W_ W_ R_ (by simp) objOk_nil) (nodup_b rfl) (nodup_b rfl) rfl rfl, (decide ((List.length a0.B : Int) < a1)), h, rfl⟩
  ·rintro s ⟨v18_1, h, rfl⟩
   unfold ints_Reader_Take_k1 at h
   refine aw_bool (b := v18_1) 18 rfl (fun c7 => ?_) (fun c7 => ?_)
   ·have h := ifT c7 h
    refine aw_cond_t D_ rfl ?_
    refine sr fun K8 hK8 => ?_
    refine pm 19 (.ptr 0 0 0) ?_
    refine pm 20 (.ptr 0 0 0) ?_
    refine pP 21 (does_nilCheck (p := .ptr 0 0 0) W_ rfl) ?_
    refine pf 22 (.ptr 0 0 0) ty54 ty28 ?_
    refine alD none rfl rfl (do_store (cs' := [.nil, .bool a0.Bad]) W_ W_ W_ ty28 rfl rfl rfl R_) D_ ?_
    refine pP 23 (does_nilCheck (p := .ptr 0 0 0) W_ rfl) ?_
    refine pf 24 (.ptr 0 0 1) ty54 ty4 ?_
    refine alD none rfl rfl (do_store (cs' := [.nil, .bool true]) W_ W_ W_ ty4 rfl rfl rfl R_) D_ ?_
    refine en hK8 ?_
    refine sr fun K9 hK9 => ?_
    refine pa 4 (.nil) ?_
    refine en hK9 ?_
    refine aw_reb (reb_w (tl' := [(4, .sl 1 (List.map enc5 []))]) (ol' := [((0, 0), .box [.sl 1 (List.map enc5 []), .bool true])]) (reb_lit [(4, .nil)] [(0, 0)] [((0, 0), .box [.nil, .bool true])] [(0, 1)] (ec envOk_nil) (objOk_cons W_ W_ R_ (by simp) objOk_nil) (nodup_b rfl) (nodup_b rfl) rfl rfl) ⟨rfl, (le_nil _), trivial⟩ ⟨rfl, (.box ⟨le_nil _, le_refl _, trivial⟩), trivial⟩) ?_
    refine aw_ret ?_
    have h := leafR h hk3
    obtain rfl := Option.some.inj h
    exact ret_okB [] W_ W_ R_ trivial (boxesOk_cons W_ W_ R_ trivial) (nodup_b rfl) (.inr rfl) rfl
   ·have h := ifF c7 h
    refine aw_cond_f D_ rfl ?_
    refine aw_skip ?_
    have h := leafL h hk3
    exact ⟨_, reb_lit [(0, .ptr 0 0 0), (1, .int .i64 a1)] [(0, 0)] [((0, 0), .box [.sl 1 (List.map enc5 a0.B), .bool a0.Bad])] [(0, 1)] (ec (ec envOk_nil)) (objOk_cons W_ W_ R_ (by simp) objOk_nil) (nodup_b rfl) (nodup_b rfl) rfl rfl, h, rfl⟩
 ·rintro s ⟨h, rfl⟩
  unfold ints_Reader_Take_k0 at h
  refine sr fun K10 hK10 => ?_
  refine pm 25 (.ptr 0 0 0) ?_
  refine pP 26 (does_nilCheck (p := .ptr 0 0 0) W_ rfl) ?_
  refine pf 27 (.ptr 0 0 0) ty54 ty28 ?_
  refine pl 28 (.sl 1 (List.map enc5 a0.B)) ty28 ?_
  refine pm 29 (.int .i64 a1) ?_
  obtain ⟨g11, h⟩ := gd_some h
  obtain ⟨g12, h⟩ := gd_some h
  refine pP 30 (does_slice_sl (l := 0) (k := (Int.toNat a1)) W_ ty28 ty5 bd_none (bd_some W_ (by exact (nat_of (by omega)))) (by (try simp only [List.length_map]); omega) (by (try simp only [List.length_map]); omega) (by exact part_h _ _)) ?_
  refine pa 5 (.sl 1 (List.map enc5 (List.take (Int.toNat a1) a0.B))) ?_
  refine en hK10 ?_
  refine sr fun K13 hK13 => ?_
  refine pm 31 (.ptr 0 0 0) ?_
  refine pm 32 (.ptr 0 0 0) ?_
  refine pP 33 (does_nilCheck (p := .ptr 0 0 0) W_ rfl) ?_
  refine pf 34 (.ptr 0 0 0) ty54 ty28 ?_
  refine pl 35 (.sl 1 (List.map enc5 a0.B)) ty28 ?_
  refine pm 36 (.int .i64 a1) ?_
  obtain ⟨g14, h⟩ := gd_some h
  obtain ⟨g15, h⟩ := gd_some h
  refine pP 37 (does_slice_sl (l := (Int.toNat a1)) W_ ty28 ty5 (bd_some W_ (by exact (nat_of g14))) bd_none (by (try simp only [List.length_map]); omega) (by (try simp only [List.length_map]); omega) (by exact part_l _ _)) ?_
  refine pP 38 (does_nilCheck (p := .ptr 0 0 0) W_ rfl) ?_
  refine pf 39 (.ptr 0 0 0) ty54 ty28 ?_
  refine alD none rfl rfl (do_store (cs' := [.sl 1 (List.map enc5 (List.drop (Int.toNat a1) a0.B)), .bool a0.Bad]) W_ W_ W_ ty28 rfl rfl rfl R_) D_ ?_
  refine en hK13 ?_
  refine sr fun K16 hK16 => ?_
  refine pm 40 (.sl 1 (List.map enc5 (List.take (Int.toNat a1) a0.B))) ?_
  refine pa 4 (.sl 1 (List.map enc5 (List.take (Int.toNat a1) a0.B))) ?_
  refine en hK16 ?_
  refine aw_ret ?_
  obtain rfl := Option.some.inj h
  exact ret_okB [] W_ W_ R_ trivial (boxesOk_cons W_ W_ R_ trivial) (nodup_b rfl) (.inr rfl) rfl
def ints_Reader_Text (a0 : Reader) : Option (ByteArray × Reader) :=
 Option.bind (ints_Reader_Count a0) (fun (x3 : Int × Reader) => Option.bind (ints_Reader_Take x3.2 x3.1) (fun (x4 : List UInt8 × Reader) => some ((strOf x4.1), x4.2)))
theorem ints_Reader_Text_ok (a0 : Reader) {r : ByteArray × Reader} (h : ints_Reader_Text a0 = some r) : Ok Try.prog 62 [.ptr 0 0 0] [[.sl 1 (List.map enc5 a0.B), .bool a0.Bad]] [] (.str r.1) [[.sl 1 (List.map enc5 r.2.B), .bool r.2.Bad]] [] := by
 unfold ints_Reader_Text at h
 refine ok_of_code Try.func62 rfl (by show (1 : Nat) ≤ _; decide) (Nat.le_refl _) fun X => ?_
 refine sr fun K1 hK1 => ?_
 refine pa 2 (.str (strOf [])) ?_
 refine en hK1 ?_
 refine sr fun K2 hK2 => ?_
 refine pm 3 (.ptr 0 0 0) ?_
 refine pm 4 (.ptr 0 0 0) ?_
 obtain ⟨x3, hx3, h⟩ := bnd_some h
 refine pD 5 (do_callG (bcs := [[.sl 1 (List.map enc5 a0.B), .bool a0.Bad]]) [(0, 0)] [] [] 5 false (ints_Reader_Count_ok a0 hx3) rfl ent83 ⟨R_, trivial⟩ trivial rfl rfl rfl rfl rfl rfl rfl rfl (.inl trivial)) ?_
 obtain ⟨x4, hx4, h⟩ := bnd_some h
 refine pD 6 (do_callG (bcs := [[.sl 1 (List.map enc5 x3.2.B), .bool x3.2.Bad]]) [(0, 0)] [] [] 6 false (ints_Reader_Take_ok x3.2 x3.1 hx4) rfl ent65 ⟨R_, trivial⟩ trivial rfl rfl rfl rfl rfl rfl rfl rfl (.inl trivial)) ?_
 refine pX 7 (does_bytes_str (l := x4.1) (f := enc5) W_ W_ (Nat.le_refl 1) (ty_slice ty28) (ty_int ty5) (ty_str ty9) (fun _ => rfl)) ?_
 refine pa 2 (.str (strOf x4.1)) ?_
 refine en hK2 ?_
 refine aw_ret ?_
 obtain rfl := Option.some.inj h
 exact ret_okB [] W_ W_ R_ trivial (boxesOk_cons W_ W_ R_ trivial) (nodup_b rfl) (.inr rfl) rfl
def ints_Reader_Num (a0 : Reader) (a1 : Int) : Option (Int × Reader) :=
 Option.bind (ints_Reader_Wide a0) (fun (x3 : Int × Reader) => if (decide ((IntKind.u64.wrap a1) < x3.1)) = true then (some (0, (Reader.mk [] true))) else (some ((IntKind.i64.wrap x3.1), x3.2)))
theorem ints_Reader_Num_ok (a0 : Reader) (a1 : Int) {r : Int × Reader} (h : ints_Reader_Num a0 a1 = some r) : Ok Try.prog 20 [.ptr 0 0 0, .int .i64 a1] [[.sl 1 (List.map enc5 a0.B), .bool a0.Bad]] [] (.int .i64 r.1) [[.sl 1 (List.map enc5 r.2.B), .bool r.2.Bad]] [] := by
 unfold ints_Reader_Num at h
 refine ok_of_code Try.func20 rfl (by show (2 : Nat) ≤ _; decide) (Nat.le_refl _) fun X => ?_
 refine sr fun K1 hK1 => ?_
 refine pa 4 (.int .i64 0) ?_
 refine en hK1 ?_
 refine sr fun K2 hK2 => ?_
 refine pm 6 (.ptr 0 0 0) ?_
 obtain ⟨x3, hx3, h⟩ := bnd_some h
 refine pD 7 (do_callG (bcs := [[.sl 1 (List.map enc5 a0.B), .bool a0.Bad]]) [(0, 0)] [] [] 7 false (ints_Reader_Wide_ok a0 hx3) rfl ent41 ⟨R_, trivial⟩ trivial rfl rfl rfl rfl rfl rfl rfl rfl (.inl trivial)) ?_
 refine pa 5 (.int .u64 x3.1) ?_
 refine en hK2 ?_
 refine aw_seq_k (fun K4 hK4 => ?_)
 refine sr fun K5 hK5 => ?_
 refine pm 8 (.int .u64 x3.1) ?_
 refine pm 9 (.int .i64 a1) ?_
 refine pP 10 (does_conv_int (v := .int .u64 (IntKind.u64.wrap a1)) W_ (ty_some ty3) (ty_int ty46) rfl) ?_
 refine pb 11 (.bool (decide ((IntKind.u64.wrap a1) < x3.1))) ?_
 refine en hK5 ?_
 refine aw_bool (b := (decide ((IntKind.u64.wrap a1) < x3.1))) 11 rfl (fun c6 => ?_) (fun c6 => ?_)
 ·have h := ifT c6 h
  refine aw_cond_t D_ rfl ?_
  refine sr fun K7 hK7 => ?_
  refine pm 12 (.ptr 0 0 0) ?_
  refine pm 13 (.ptr 0 0 0) ?_
  refine pP 14 (does_nilCheck (p := .ptr 0 0 0) W_ rfl) ?_
  refine pf 15 (.ptr 0 0 0) ty54 ty28 ?_
  refine alD none rfl rfl (do_store (cs' := [.nil, .bool x3.2.Bad]) W_ W_ W_ ty28 rfl rfl rfl R_) D_ ?_
  refine pP 16 (does_nilCheck (p := .ptr 0 0 0) W_ rfl) ?_
  refine pf 17 (.ptr 0 0 1) ty54 ty4 ?_
  refine alD none rfl rfl (do_store (cs' := [.nil, .bool true]) W_ W_ W_ ty4 rfl rfl rfl R_) D_ ?_
  refine en hK7 ?_
  refine sr fun K8 hK8 => ?_
  refine pa 4 (.int .i64 0) ?_
  refine en hK8 ?_
  refine aw_reb (reb_w (tl' := [(4, .int .i64 0)]) (ol' := [((0, 0), .box [.sl 1 (List.map enc5 []), .bool true])]) (reb_lit [(4, .int .i64 0)] [(0, 0)] [((0, 0), .box [.nil, .bool true])] [(0, 1)] (ec envOk_nil) (objOk_cons W_ W_ R_ (by simp) objOk_nil) (nodup_b rfl) (nodup_b rfl) rfl rfl) ⟨rfl, le_refl _, trivial⟩ ⟨rfl, (.box ⟨le_nil _, le_refl _, trivial⟩), trivial⟩) ?_
  refine aw_ret ?_
  obtain rfl := Option.some.inj h
  exact ret_okB [] W_ W_ R_ trivial (boxesOk_cons W_ W_ R_ trivial) (nodup_b rfl) (.inr rfl) rfl
 ·have h := ifF c6 h
  refine aw_cond_f D_ rfl ?_
  refine aw_skip ?_
  refine hK4 _ ?_
  refine sr fun K9 hK9 => ?_
  refine pm 18 (.int .u64 x3.1) ?_
  refine pP 19 (does_conv_int (v := .int .i64 (IntKind.i64.wrap x3.1)) W_ (ty_some ty46) (ty_int ty3) rfl) ?_
  refine pa 4 (.int .i64 (IntKind.i64.wrap x3.1)) ?_
  refine en hK9 ?_
  refine aw_ret ?_
  obtain rfl := Option.some.inj h
  exact ret_okB [] W_ W_ R_ trivial (boxesOk_cons W_ W_ R_ trivial) (nodup_b rfl) (.inr rfl) rfl
def ints_Reader_Flag (a0 : Reader) : Option (Bool × Reader) :=
 Option.bind (ints_Reader_Num a0 1) (fun (x3 : Int × Reader) => some ((x3.1 == 1), x3.2))
theorem ints_Reader_Flag_ok (a0 : Reader) {r : Bool × Reader} (h : ints_Reader_Flag a0 = some r) : Ok Try.prog 63 [.ptr 0 0 0] [[.sl 1 (List.map enc5 a0.B), .bool a0.Bad]] [] (.bool r.1) [[.sl 1 (List.map enc5 r.2.B), .bool r.2.Bad]] [] := by
 unfold ints_Reader_Flag at h
 refine ok_of_code Try.func63 rfl (by show (1 : Nat) ≤ _; decide) (Nat.le_refl _) fun X => ?_
 refine sr fun K1 hK1 => ?_
 refine pa 2 (.bool false) ?_
 refine en hK1 ?_
 refine sr fun K2 hK2 => ?_
 refine pm 3 (.ptr 0 0 0) ?_
 obtain ⟨x3, hx3, h⟩ := bnd_some h
 refine pD 4 (do_callG (bcs := [[.sl 1 (List.map enc5 a0.B), .bool a0.Bad]]) [(0, 0)] [] [] 4 false (ints_Reader_Num_ok a0 1 hx3) rfl ent20 ⟨R_, trivial⟩ trivial rfl rfl rfl rfl rfl rfl rfl rfl (.inl trivial)) ?_
 refine pb 5 (.bool (x3.1 == 1)) ?_
 refine pa 2 (.bool (x3.1 == 1)) ?_
 refine en hK2 ?_
 refine aw_ret ?_
 obtain rfl := Option.some.inj h
 exact ret_okB [] W_ W_ R_ trivial (boxesOk_cons W_ W_ R_ trivial) (nodup_b rfl) (.inr rfl) rfl
def gleaningref1_Text (a0 : List UInt8) (a1 : ByteArray) : Option (List UInt8) :=
 Option.bind (gleaningref1_Put a0 (IntKind.u64.wrap (ByteArray.size a1 : Int))) (fun (x3 : List UInt8) => gd ((List.length (x3 ++ (bytesOf a1))) ≤ 140737488355328) (some (x3 ++ (bytesOf a1))))
theorem gleaningref1_Text_ok (a0 : List UInt8) (a1 : ByteArray) {r : List UInt8} (h : gleaningref1_Text a0 a1 = some r) : Ok Try.prog 76 [.own 1 0, .str a1] [] [(5, 1, List.map enc5 a0)] (.own 2 0) [] [(5, 1, List.map enc5 r)] := by
 unfold gleaningref1_Text at h
 refine ok_of_code Try.func76 rfl (by show (2 : Nat) ≤ _; decide) (Nat.le_refl _) fun X => ?_
 refine sr fun K1 hK1 => ?_
 refine pa 4 (.nil) ?_
 refine en hK1 ?_
 refine sr fun K2 hK2 => ?_
 refine pm 5 (.own 1 0) ?_
 refine pm 6 (.str a1) ?_
 refine pP 7 (does_len_str W_ ty9) ?_
 refine pP 8 (does_conv_int (v := .int .u64 (IntKind.u64.wrap (ByteArray.size a1 : Int))) W_ (ty_some ty3) (ty_int ty46) rfl) ?_
 obtain ⟨x3, hx3, h⟩ := bnd_some h
 refine pD 9 (do_callG (bcs := []) [] [(1, 0)] [] 9 false (gleaningref1_Put_ok a0 (IntKind.u64.wrap (ByteArray.size a1 : Int)) hx3) rfl ent25 trivial (rowsOk_cons W_ R_ trivial) rfl rfl rfl rfl rfl rfl rfl rfl (.inr ⟨rfl, rfl, ⟨plain_map (fun _ => rfl), trivial⟩⟩)) ?_
 refine pm 10 (.str a1) ?_
 obtain ⟨g4, h⟩ := gd_some h
 refine pD 11 (do_append_str (l := x3) (f := enc5) W_ W_ ty28 ty5 zr5 (ty_str ty9) W_ (by first | exact .inl rfl | exact .inr ⟨rfl, rfl⟩) (fun _ => rfl) (g4)) ?_
 refine pa 4 (.own 11 0) ?_
 refine en hK2 ?_
 refine aw_ret ?_
 obtain rfl := Option.some.inj h
 exact ret_okR [(11, 0)] W_ W_ R_ (rowsOk_cons W_ R_ trivial) (nodup_b rfl) (.inr rfl) rfl
def gleaningref1_Reader_Num_k1 (a0 : Reader) (v22_1 : Bool) : Option (Unit ⊕ (Int × Reader)) :=
 if v22_1 = true then (some (Sum.inr (0, (Reader.mk a0.B true)))) else (some (Sum.inl ()))
def gleaningref1_Reader_Num_k0 (a0 : Reader) (x3 : Int × Int × Bool) : Option (Int × Reader) :=
 gd (0 ≤ x3.2.1) (gd (x3.2.1 ≤ (List.length a0.B : Int)) (some (x3.1, (Reader.mk (List.drop (Int.toNat x3.2.1) a0.B) a0.Bad))))
def gleaningref1_Reader_Num (a0 : Reader) : Option (Int × Reader) :=
 Option.bind (gleaningref1_Get a0.B) (fun (x3 : Int × Int × Bool) => Option.bind (Option.bind (if a0.Bad = true then (some true) else (some (!x3.2.2))) (fun (s : Bool) => gleaningref1_Reader_Num_k1 a0 s)) (Sum.elim (fun (s : Unit) => gleaningref1_Reader_Num_k0 a0 x3) some))
theorem gleaningref1_Reader_Num_ok (a0 : Reader) {r : Int × Reader} (h : gleaningref1_Reader_Num a0 = some r) : Ok Try.prog 44 [.ptr 0 0 0] [[.sl 1 (List.map enc5 a0.B), .bool a0.Bad]] [] (.int .u64 r.1) [[.sl 1 (List.map enc5 r.2.B), .bool r.2.Bad]] [] := by
 unfold gleaningref1_Reader_Num at h
 refine ok_of_code Try.func44 rfl (by show (1 : Nat) ≤ _; decide) (Nat.le_refl _) fun X => ?_
 refine sr fun K1 hK1 => ?_
 refine pa 2 (.int .u64 0) ?_
 refine en hK1 ?_
 refine sr fun K2 hK2 => ?_
 refine pm 7 (.ptr 0 0 0) ?_
 refine pP 8 (does_nilCheck (p := .ptr 0 0 0) W_ rfl) ?_
 refine pf 9 (.ptr 0 0 0) ty59 ty28 ?_
 refine pl 10 (.sl 1 (List.map enc5 a0.B)) ty28 ?_
 obtain ⟨x3, hx3, h⟩ := bnd_some h
 refine pD 11 (do_call0 11 false (gleaningref1_Get_ok a0.B hx3) rfl ent73 rfl rfl) ?_
 refine pm 6 (.tup [.int .u64 x3.1, .int .i64 x3.2.1, .bool x3.2.2]) ?_
 refine pP 12 (does_extract (v := .int .u64 x3.1) W_ R_) ?_
 refine pP 13 (does_extract (v := .int .i64 x3.2.1) W_ R_) ?_
 refine pP 14 (does_extract (v := .bool x3.2.2) W_ R_) ?_
 refine pa 3 (.int .u64 x3.1) ?_
 refine pa 4 (.int .i64 x3.2.1) ?_
 refine pa 5 (.bool x3.2.2) ?_
 refine en hK2 ?_
 obtain ⟨q4, h, hk5⟩ := bnd_some h
 refine aw_cut (fun s => gleaningref1_Reader_Num_k0 a0 x3 = some r ∧ s = lit [(0, .ptr 0 0 0), (3, .int .u64 x3.1), (4, .int .i64 x3.2.1)] [((0, 0), .box [.sl 1 (List.map enc5 a0.B), .bool a0.Bad])] [(0, 1)] X) ?_ ?_
 ·skip
  obtain ⟨q6, h, hk7⟩ := bnd_some h
  refine aw_cut (fun s => ∃ (v22_1 : Bool), gleaningref1_Reader_Num_k1 a0 v22_1 = some q4 ∧ s = lit [(0, .ptr 0 0 0), (3, .int .u64 x3.1), (4, .int .i64 x3.2.1), (22, .bool v22_1)] [((0, 0), .box [.sl 1 (List.map enc5 a0.B), .bool a0.Bad])] [(0, 1)] X) ?_ ?_
  ·skip
   refine aw_regL ?_
   refine pm 15 (.ptr 0 0 0) ?_
   refine pP 16 (does_nilCheck (p := .ptr 0 0 0) W_ rfl) ?_
   refine pf 17 (.ptr 0 0 1) ty59 ty4 ?_
   refine pl 18 (.bool a0.Bad) ty4 ?_
   refine pm 19 (.bool a0.Bad) ?_
   refine al_bool (c := a0.Bad) 19 rfl (fun c8 => ?_) (fun c8 => ?_)
   ·have h := ifT c8 h
    refine pS 20 ?_
    refine pS 21 ?_
    refine pk 22 (.bool true) ?_
    refine al_nil ?_
    obtain rfl := Option.some.inj h
    have h := hk7
    exact ⟨_, reb_lit [(0, .ptr 0 0 0), (3, .int .u64 x3.1), (4, .int .i64 x3.2.1), (22, .bool true)] [(0, 0)] [((0, 0), .box [.sl 1 (List.map enc5 a0.B), .bool a0.Bad])] [(0, 1)] (ec (ec (ec (ec envOk_nil)))) (objOk_cons W_ W_ R_ (by simp) objOk_nil) (nodup_b rfl) (nodup_b rfl) rfl rfl, true, h, rfl⟩
   ·have h := ifF c8 h
    refine pm 20 (.bool x3.2.2) ?_
    refine pP 21 (does_un (v := .bool (!x3.2.2)) W_ rfl) ?_
    refine pk 22 (.bool (!x3.2.2)) ?_
    refine al_nil ?_
    obtain rfl := Option.some.inj h
    have h := hk7
    exact ⟨_, reb_lit [(0, .ptr 0 0 0), (3, .int .u64 x3.1), (4, .int .i64 x3.2.1), (22, .bool (!x3.2.2))] [(0, 0)] [((0, 0), .box [.sl 1 (List.map enc5 a0.B), .bool a0.Bad])] [(0, 1)] (ec (ec (ec (ec envOk_nil)))) (objOk_cons W_ W_ R_ (by simp) objOk_nil) (nodup_b rfl) (nodup_b rfl) rfl rfl, (!x3.2.2), h, rfl⟩
  ·rintro s ⟨v22_1, h, rfl⟩
   unfold gleaningref1_Reader_Num_k1 at h
   refine aw_bool (b := v22_1) 22 rfl (fun c9 => ?_) (fun c9 => ?_)
   ·have h := ifT c9 h
    refine aw_cond_t D_ rfl ?_
    refine sr fun K10 hK10 => ?_
    refine pm 23 (.ptr 0 0 0) ?_
    refine pP 24 (does_nilCheck (p := .ptr 0 0 0) W_ rfl) ?_
    refine pf 25 (.ptr 0 0 1) ty59 ty4 ?_
    refine alD none rfl rfl (do_store (cs' := [.sl 1 (List.map enc5 a0.B), .bool true]) W_ W_ W_ ty4 rfl rfl rfl R_) D_ ?_
    refine en hK10 ?_
    refine sr fun K11 hK11 => ?_
    refine pa 2 (.int .u64 0) ?_
    refine en hK11 ?_
    refine aw_ret ?_
    have h := leafR h hk5
    obtain rfl := Option.some.inj h
    exact ret_okB [] W_ W_ R_ trivial (boxesOk_cons W_ W_ R_ trivial) (nodup_b rfl) (.inr rfl) rfl
   ·have h := ifF c9 h
    refine aw_cond_f D_ rfl ?_
    refine aw_skip ?_
    have h := leafL h hk5
    exact ⟨_, reb_lit [(0, .ptr 0 0 0), (3, .int .u64 x3.1), (4, .int .i64 x3.2.1)] [(0, 0)] [((0, 0), .box [.sl 1 (List.map enc5 a0.B), .bool a0.Bad])] [(0, 1)] (ec (ec (ec envOk_nil))) (objOk_cons W_ W_ R_ (by simp) objOk_nil) (nodup_b rfl) (nodup_b rfl) rfl rfl, h, rfl⟩
 ·rintro s ⟨h, rfl⟩
  unfold gleaningref1_Reader_Num_k0 at h
  refine sr fun K12 hK12 => ?_
  refine pm 26 (.ptr 0 0 0) ?_
  refine pm 27 (.ptr 0 0 0) ?_
  refine pP 28 (does_nilCheck (p := .ptr 0 0 0) W_ rfl) ?_
  refine pf 29 (.ptr 0 0 0) ty59 ty28 ?_
  refine pl 30 (.sl 1 (List.map enc5 a0.B)) ty28 ?_
  refine pm 31 (.int .i64 x3.2.1) ?_
  obtain ⟨g13, h⟩ := gd_some h
  obtain ⟨g14, h⟩ := gd_some h
  refine pP 32 (does_slice_sl (l := (Int.toNat x3.2.1)) W_ ty28 ty5 (bd_some W_ (by exact (nat_of g13))) bd_none (by (try simp only [List.length_map]); omega) (by (try simp only [List.length_map]); omega) (by exact part_l _ _)) ?_
  refine pP 33 (does_nilCheck (p := .ptr 0 0 0) W_ rfl) ?_
  refine pf 34 (.ptr 0 0 0) ty59 ty28 ?_
  refine alD none rfl rfl (do_store (cs' := [.sl 1 (List.map enc5 (List.drop (Int.toNat x3.2.1) a0.B)), .bool a0.Bad]) W_ W_ W_ ty28 rfl rfl rfl R_) D_ ?_
  refine en hK12 ?_
  refine sr fun K15 hK15 => ?_
  refine pm 35 (.int .u64 x3.1) ?_
  refine pa 2 (.int .u64 x3.1) ?_
  refine en hK15 ?_
  refine aw_ret ?_
  obtain rfl := Option.some.inj h
  exact ret_okB [] W_ W_ R_ trivial (boxesOk_cons W_ W_ R_ trivial) (nodup_b rfl) (.inr rfl) rfl
def gleaningref1_Reader_Int (a0 : Reader) (a1 : Int) : Option (Int × Reader) :=
 Option.bind (gleaningref1_Reader_Num a0) (fun (x3 : Int × Reader) => if (decide ((IntKind.u64.wrap a1) < x3.1)) = true then (some (0, (Reader.mk x3.2.B true))) else (some ((IntKind.i64.wrap x3.1), x3.2)))
theorem gleaningref1_Reader_Int_ok (a0 : Reader) (a1 : Int) {r : Int × Reader} (h : gleaningref1_Reader_Int a0 a1 = some r) : Ok Try.prog 22 [.ptr 0 0 0, .int .i64 a1] [[.sl 1 (List.map enc5 a0.B), .bool a0.Bad]] [] (.int .i64 r.1) [[.sl 1 (List.map enc5 r.2.B), .bool r.2.Bad]] [] := by
 unfold gleaningref1_Reader_Int at h
 refine ok_of_code Try.func22 rfl (by show (2 : Nat) ≤ _; decide) (Nat.le_refl _) fun X => ?_
 refine sr fun K1 hK1 => ?_
 refine pa 4 (.int .i64 0) ?_
 refine en hK1 ?_
 refine sr fun K2 hK2 => ?_
 refine pm 6 (.ptr 0 0 0) ?_
 obtain ⟨x3, hx3, h⟩ := bnd_some h
 refine pD 7 (do_callG (bcs := [[.sl 1 (List.map enc5 a0.B), .bool a0.Bad]]) [(0, 0)] [] [] 7 false (gleaningref1_Reader_Num_ok a0 hx3) rfl ent44 ⟨R_, trivial⟩ trivial rfl rfl rfl rfl rfl rfl rfl rfl (.inl trivial)) ?_
 refine pa 5 (.int .u64 x3.1) ?_
 refine en hK2 ?_
 refine aw_seq_k (fun K4 hK4 => ?_)
 refine sr fun K5 hK5 => ?_
 refine pm 8 (.int .u64 x3.1) ?_
 refine pm 9 (.int .i64 a1) ?_
 refine pP 10 (does_conv_int (v := .int .u64 (IntKind.u64.wrap a1)) W_ (ty_some ty3) (ty_int ty46) rfl) ?_
 refine pb 11 (.bool (decide ((IntKind.u64.wrap a1) < x3.1))) ?_
 refine en hK5 ?_
 refine aw_bool (b := (decide ((IntKind.u64.wrap a1) < x3.1))) 11 rfl (fun c6 => ?_) (fun c6 => ?_)
 ·have h := ifT c6 h
  refine aw_cond_t D_ rfl ?_
  refine sr fun K7 hK7 => ?_
  refine pm 12 (.ptr 0 0 0) ?_
  refine pP 13 (does_nilCheck (p := .ptr 0 0 0) W_ rfl) ?_
  refine pf 14 (.ptr 0 0 1) ty59 ty4 ?_
  refine alD none rfl rfl (do_store (cs' := [.sl 1 (List.map enc5 x3.2.B), .bool true]) W_ W_ W_ ty4 rfl rfl rfl R_) D_ ?_
  refine en hK7 ?_
  refine sr fun K8 hK8 => ?_
  refine pa 4 (.int .i64 0) ?_
  refine en hK8 ?_
  refine aw_ret ?_
  obtain rfl := Option.some.inj h
  exact ret_okB [] W_ W_ R_ trivial (boxesOk_cons W_ W_ R_ trivial) (nodup_b rfl) (.inr rfl) rfl
 ·have h := ifF c6 h
  refine aw_cond_f D_ rfl ?_
  refine aw_skip ?_
  refine hK4 _ ?_
  refine sr fun K9 hK9 => ?_
  refine pm 15 (.int .u64 x3.1) ?_
  refine pP 16 (does_conv_int (v := .int .i64 (IntKind.i64.wrap x3.1)) W_ (ty_some ty46) (ty_int ty3) rfl) ?_
  refine pa 4 (.int .i64 (IntKind.i64.wrap x3.1)) ?_
  refine en hK9 ?_
  refine aw_ret ?_
  obtain rfl := Option.some.inj h
  exact ret_okB [] W_ W_ R_ trivial (boxesOk_cons W_ W_ R_ trivial) (nodup_b rfl) (.inr rfl) rfl
def gleaningref1_GetText_k0 (a0 : List UInt8) (x3 : Int × Int × Bool) : Option (ByteArray × Int × Bool) :=
 gd (0 ≤ x3.2.1) (gd (x3.2.1 ≤ (IntKind.i64.wrap (x3.2.1 + (IntKind.i64.wrap x3.1)))) (gd ((IntKind.i64.wrap (x3.2.1 + (IntKind.i64.wrap x3.1))) ≤ (List.length a0 : Int)) (some ((strOf (List.drop (Int.toNat x3.2.1) (List.take (Int.toNat (IntKind.i64.wrap (x3.2.1 + (IntKind.i64.wrap x3.1)))) a0))), (IntKind.i64.wrap (x3.2.1 + (IntKind.i64.wrap x3.1))), true))))
def gleaningref1_GetText (a0 : List UInt8) : Option (ByteArray × Int × Bool) :=
 Option.bind (gleaningref1_Get a0) (fun (x3 : Int × Int × Bool) => Option.bind (if (!x3.2.2) = true then (some (Sum.inr ((strOf []), 0, false))) else (if (decide ((IntKind.u64.wrap (IntKind.i64.wrap ((List.length a0 : Int) - x3.2.1))) < x3.1)) = true then (some (Sum.inr ((strOf []), 0, false))) else (some (Sum.inl ())))) (Sum.elim (fun (s : Unit) => gleaningref1_GetText_k0 a0 x3) some))
theorem gleaningref1_GetText_ok (a0 : List UInt8) {r : ByteArray × Int × Bool} (h : gleaningref1_GetText a0 = some r) : Ok Try.prog 87 [.sl 1 (List.map enc5 a0)] [] [] (.tup [.str r.1, .int .i64 r.2.1, .bool r.2.2]) [] [] := by
 unfold gleaningref1_GetText at h
 refine ok_of_code Try.func87 rfl (by show (1 : Nat) ≤ _; decide) (Nat.le_refl _) fun X => ?_
 refine sr fun K1 hK1 => ?_
 refine pa 2 (.str (strOf [])) ?_
 refine pa 3 (.int .i64 0) ?_
 refine pa 4 (.bool false) ?_
 refine en hK1 ?_
 refine sr fun K2 hK2 => ?_
 refine pm 9 (.sl 1 (List.map enc5 a0)) ?_
 obtain ⟨x3, hx3, h⟩ := bnd_some h
 refine pD 10 (do_call0 10 false (gleaningref1_Get_ok a0 hx3) rfl ent73 rfl rfl) ?_
 refine pm 8 (.tup [.int .u64 x3.1, .int .i64 x3.2.1, .bool x3.2.2]) ?_
 refine pP 11 (does_extract (v := .int .u64 x3.1) W_ R_) ?_
 refine pP 12 (does_extract (v := .int .i64 x3.2.1) W_ R_) ?_
 refine pP 13 (does_extract (v := .bool x3.2.2) W_ R_) ?_
 refine pa 5 (.int .u64 x3.1) ?_
 refine pa 6 (.int .i64 x3.2.1) ?_
 refine pa 7 (.bool x3.2.2) ?_
 refine en hK2 ?_
 obtain ⟨q4, h, hk5⟩ := bnd_some h
 refine aw_cut (fun s => gleaningref1_GetText_k0 a0 x3 = some r ∧ s = lit [(0, .sl 1 (List.map enc5 a0)), (5, .int .u64 x3.1), (6, .int .i64 x3.2.1)] [] [] X) ?_ ?_
 ·skip
  refine sr fun K6 hK6 => ?_
  refine pm 14 (.bool x3.2.2) ?_
  refine pP 15 (does_un (v := .bool (!x3.2.2)) W_ rfl) ?_
  refine pm 16 (.bool (!x3.2.2)) ?_
  refine al_bool (c := (!x3.2.2)) 16 rfl (fun c7 => ?_) (fun c7 => ?_)
  ·have h := ifT c7 h
   refine pS 17 ?_
   refine pS 18 ?_
   refine pS 19 ?_
   refine pS 20 ?_
   refine pS 21 ?_
   refine pS 22 ?_
   refine pS 23 ?_
   refine pk 24 (.bool true) ?_
   refine en hK6 ?_
   refine aw_cond_t D_ rfl ?_
   refine sr fun K8 hK8 => ?_
   refine pa 2 (.str (strOf [])) ?_
   refine pa 3 (.int .i64 0) ?_
   refine pa 4 (.bool false) ?_
   refine en hK8 ?_
   refine aw_ret ?_
   have h := leafR h hk5
   obtain rfl := Option.some.inj h
   exact ret_ok1 W_ W_ R_ (.inr rfl) rfl
  ·have h := ifF c7 h
   refine pm 17 (.int .u64 x3.1) ?_
   refine pm 18 (.sl 1 (List.map enc5 a0)) ?_
   refine pP 19 ((does_len_sl W_ ty28).castp (v' := .int .i64 (List.length a0 : Int)) (by exact len_map _)) ?_
   refine pm 20 (.int .i64 x3.2.1) ?_
   refine pb 21 (.int .i64 (IntKind.i64.wrap ((List.length a0 : Int) - x3.2.1))) ?_
   refine pP 22 (does_conv_int (v := .int .u64 (IntKind.u64.wrap (IntKind.i64.wrap ((List.length a0 : Int) - x3.2.1)))) W_ (ty_some ty3) (ty_int ty46) rfl) ?_
   refine pb 23 (.bool (decide ((IntKind.u64.wrap (IntKind.i64.wrap ((List.length a0 : Int) - x3.2.1))) < x3.1))) ?_
   refine pk 24 (.bool (decide ((IntKind.u64.wrap (IntKind.i64.wrap ((List.length a0 : Int) - x3.2.1))) < x3.1))) ?_
   refine en hK6 ?_
   refine aw_bool (b := (decide ((IntKind.u64.wrap (IntKind.i64.wrap ((List.length a0 : Int) - x3.2.1))) < x3.1))) 24 rfl (fun c9 => ?_) (fun c9 => ?_)
   ·have h := ifT c9 h
    refine aw_cond_t D_ rfl ?_
    refine sr fun K10 hK10 => ?_
    refine pa 2 (.str (strOf [])) ?_
    refine pa 3 (.int .i64 0) ?_
    refine pa 4 (.bool false) ?_
    refine en hK10 ?_
    refine aw_ret ?_
    have h := leafR h hk5
    obtain rfl := Option.some.inj h
    exact ret_ok1 W_ W_ R_ (.inr rfl) rfl
   ·have h := ifF c9 h
    refine aw_cond_f D_ rfl ?_
    refine aw_skip ?_
    have h := leafL h hk5
    exact ⟨_, reb_lit [(0, .sl 1 (List.map enc5 a0)), (5, .int .u64 x3.1), (6, .int .i64 x3.2.1)] [] [] [] (ec (ec (ec envOk_nil))) objOk_nil (nodup_b rfl) (nodup_b rfl) rfl rfl, h, rfl⟩
 ·rintro s ⟨h, rfl⟩
  unfold gleaningref1_GetText_k0 at h
  refine sr fun K11 hK11 => ?_
  refine pm 25 (.sl 1 (List.map enc5 a0)) ?_
  refine pm 26 (.int .i64 x3.2.1) ?_
  refine pm 27 (.int .i64 x3.2.1) ?_
  refine pm 28 (.int .u64 x3.1) ?_
  refine pP 29 (does_conv_int (v := .int .i64 (IntKind.i64.wrap x3.1)) W_ (ty_some ty46) (ty_int ty3) rfl) ?_
  refine pb 30 (.int .i64 (IntKind.i64.wrap (x3.2.1 + (IntKind.i64.wrap x3.1)))) ?_
  obtain ⟨g12, h⟩ := gd_some h
  obtain ⟨g13, h⟩ := gd_some h
  obtain ⟨g14, h⟩ := gd_some h
  refine pP 31 (does_slice_sl (l := (Int.toNat x3.2.1)) (k := (Int.toNat (IntKind.i64.wrap (x3.2.1 + (IntKind.i64.wrap x3.1))))) W_ ty28 ty5 (bd_some W_ (by exact (nat_of g12))) (bd_some W_ (by exact (nat_of (by omega)))) (by (try simp only [List.length_map]); omega) (by (try simp only [List.length_map]); omega) (by exact map_part _ _ _)) ?_
  refine pX 32 (does_bytes_str (l := (List.drop (Int.toNat x3.2.1) (List.take (Int.toNat (IntKind.i64.wrap (x3.2.1 + (IntKind.i64.wrap x3.1)))) a0))) (f := enc5) W_ W_ (Nat.le_refl 1) (ty_slice ty28) (ty_int ty5) (ty_str ty9) (fun _ => rfl)) ?_
  refine pm 33 (.int .i64 x3.2.1) ?_
  refine pm 34 (.int .u64 x3.1) ?_
  refine pP 35 (does_conv_int (v := .int .i64 (IntKind.i64.wrap x3.1)) W_ (ty_some ty46) (ty_int ty3) rfl) ?_
  refine pb 36 (.int .i64 (IntKind.i64.wrap (x3.2.1 + (IntKind.i64.wrap x3.1)))) ?_
  refine pa 2 (.str (strOf (List.drop (Int.toNat x3.2.1) (List.take (Int.toNat (IntKind.i64.wrap (x3.2.1 + (IntKind.i64.wrap x3.1)))) a0)))) ?_
  refine pa 3 (.int .i64 (IntKind.i64.wrap (x3.2.1 + (IntKind.i64.wrap x3.1)))) ?_
  refine pa 4 (.bool true) ?_
  refine en hK11 ?_
  refine aw_ret ?_
  obtain rfl := Option.some.inj h
  exact ret_ok1 W_ W_ R_ (.inr rfl) rfl
def gleaningref1_Reader_Text_k1 (a0 : Reader) (v22_1 : Bool) : Option (Unit ⊕ (ByteArray × Reader)) :=
 if v22_1 = true then (some (Sum.inr ((strOf []), (Reader.mk a0.B true)))) else (some (Sum.inl ()))
def gleaningref1_Reader_Text_k0 (a0 : Reader) (x3 : ByteArray × Int × Bool) : Option (ByteArray × Reader) :=
 gd (0 ≤ x3.2.1) (gd (x3.2.1 ≤ (List.length a0.B : Int)) (some (x3.1, (Reader.mk (List.drop (Int.toNat x3.2.1) a0.B) a0.Bad))))
def gleaningref1_Reader_Text (a0 : Reader) : Option (ByteArray × Reader) :=
 Option.bind (gleaningref1_GetText a0.B) (fun (x3 : ByteArray × Int × Bool) => Option.bind (Option.bind (if a0.Bad = true then (some true) else (some (!x3.2.2))) (fun (s : Bool) => gleaningref1_Reader_Text_k1 a0 s)) (Sum.elim (fun (s : Unit) => gleaningref1_Reader_Text_k0 a0 x3) some))
theorem gleaningref1_Reader_Text_ok (a0 : Reader) {r : ByteArray × Reader} (h : gleaningref1_Reader_Text a0 = some r) : Ok Try.prog 71 [.ptr 0 0 0] [[.sl 1 (List.map enc5 a0.B), .bool a0.Bad]] [] (.str r.1) [[.sl 1 (List.map enc5 r.2.B), .bool r.2.Bad]] [] := by
 unfold gleaningref1_Reader_Text at h
 refine ok_of_code Try.func71 rfl (by show (1 : Nat) ≤ _; decide) (Nat.le_refl _) fun X => ?_
 refine sr fun K1 hK1 => ?_
 refine pa 2 (.str (strOf [])) ?_
 refine en hK1 ?_
 refine sr fun K2 hK2 => ?_
 refine pm 7 (.ptr 0 0 0) ?_
 refine pP 8 (does_nilCheck (p := .ptr 0 0 0) W_ rfl) ?_
 refine pf 9 (.ptr 0 0 0) ty59 ty28 ?_
 refine pl 10 (.sl 1 (List.map enc5 a0.B)) ty28 ?_
 obtain ⟨x3, hx3, h⟩ := bnd_some h
 refine pD 11 (do_call0 11 false (gleaningref1_GetText_ok a0.B hx3) rfl ent87 rfl rfl) ?_
 refine pm 6 (.tup [.str x3.1, .int .i64 x3.2.1, .bool x3.2.2]) ?_
 refine pP 12 (does_extract (v := .str x3.1) W_ R_) ?_
 refine pP 13 (does_extract (v := .int .i64 x3.2.1) W_ R_) ?_
 refine pP 14 (does_extract (v := .bool x3.2.2) W_ R_) ?_
 refine pa 3 (.str x3.1) ?_
 refine pa 4 (.int .i64 x3.2.1) ?_
 refine pa 5 (.bool x3.2.2) ?_
 refine en hK2 ?_
 obtain ⟨q4, h, hk5⟩ := bnd_some h
 refine aw_cut (fun s => gleaningref1_Reader_Text_k0 a0 x3 = some r ∧ s = lit [(0, .ptr 0 0 0), (3, .str x3.1), (4, .int .i64 x3.2.1)] [((0, 0), .box [.sl 1 (List.map enc5 a0.B), .bool a0.Bad])] [(0, 1)] X) ?_ ?_
 ·skip
  obtain ⟨q6, h, hk7⟩ := bnd_some h
  refine aw_cut (fun s => ∃ (v22_1 : Bool), gleaningref1_Reader_Text_k1 a0 v22_1 = some q4 ∧ s = lit [(0, .ptr 0 0 0), (3, .str x3.1), (4, .int .i64 x3.2.1), (22, .bool v22_1)] [((0, 0), .box [.sl 1 (List.map enc5 a0.B), .bool a0.Bad])] [(0, 1)] X) ?_ ?_
  ·skip
   refine aw_regL ?_
   refine pm 15 (.ptr 0 0 0) ?_
   refine pP 16 (does_nilCheck (p := .ptr 0 0 0) W_ rfl) ?_
   refine pf 17 (.ptr 0 0 1) ty59 ty4 ?_
   refine pl 18 (.bool a0.Bad) ty4 ?_
   refine pm 19 (.bool a0.Bad) ?_
   refine al_bool (c := a0.Bad) 19 rfl (fun c8 => ?_) (fun c8 => ?_)
   ·have h := ifT c8 h
    refine pS 20 ?_
    refine pS 21 ?_
    refine pk 22 (.bool true) ?_
    refine al_nil ?_
    obtain rfl := Option.some.inj h
    have h := hk7
    exact ⟨_, reb_lit [(0, .ptr 0 0 0), (3, .str x3.1), (4, .int .i64 x3.2.1), (22, .bool true)] [(0, 0)] [((0, 0), .box [.sl 1 (List.map enc5 a0.B), .bool a0.Bad])] [(0, 1)] (ec (ec (ec (ec envOk_nil)))) (objOk_cons W_ W_ R_ (by simp) objOk_nil) (nodup_b rfl) (nodup_b rfl) rfl rfl, true, h, rfl⟩
   ·have h := ifF c8 h
    refine pm 20 (.bool x3.2.2) ?_
    refine pP 21 (does_un (v := .bool (!x3.2.2)) W_ rfl) ?_
    refine pk 22 (.bool (!x3.2.2)) ?_
    refine al_nil ?_
    obtain rfl := Option.some.inj h
    have h := hk7
    exact ⟨_, reb_lit [(0, .ptr 0 0 0), (3, .str x3.1), (4, .int .i64 x3.2.1), (22, .bool (!x3.2.2))] [(0, 0)] [((0, 0), .box [.sl 1 (List.map enc5 a0.B), .bool a0.Bad])] [(0, 1)] (ec (ec (ec (ec envOk_nil)))) (objOk_cons W_ W_ R_ (by simp) objOk_nil) (nodup_b rfl) (nodup_b rfl) rfl rfl, (!x3.2.2), h, rfl⟩
  ·rintro s ⟨v22_1, h, rfl⟩
   unfold gleaningref1_Reader_Text_k1 at h
   refine aw_bool (b := v22_1) 22 rfl (fun c9 => ?_) (fun c9 => ?_)
   ·have h := ifT c9 h
    refine aw_cond_t D_ rfl ?_
    refine sr fun K10 hK10 => ?_
    refine pm 23 (.ptr 0 0 0) ?_
    refine pP 24 (does_nilCheck (p := .ptr 0 0 0) W_ rfl) ?_
    refine pf 25 (.ptr 0 0 1) ty59 ty4 ?_
    refine alD none rfl rfl (do_store (cs' := [.sl 1 (List.map enc5 a0.B), .bool true]) W_ W_ W_ ty4 rfl rfl rfl R_) D_ ?_
    refine en hK10 ?_
    refine sr fun K11 hK11 => ?_
    refine pa 2 (.str (strOf [])) ?_
    refine en hK11 ?_
    refine aw_ret ?_
    have h := leafR h hk5
    obtain rfl := Option.some.inj h
    exact ret_okB [] W_ W_ R_ trivial (boxesOk_cons W_ W_ R_ trivial) (nodup_b rfl) (.inr rfl) rfl
   ·have h := ifF c9 h
    refine aw_cond_f D_ rfl ?_
    refine aw_skip ?_
    have h := leafL h hk5
    exact ⟨_, reb_lit [(0, .ptr 0 0 0), (3, .str x3.1), (4, .int .i64 x3.2.1)] [(0, 0)] [((0, 0), .box [.sl 1 (List.map enc5 a0.B), .bool a0.Bad])] [(0, 1)] (ec (ec (ec envOk_nil))) (objOk_cons W_ W_ R_ (by simp) objOk_nil) (nodup_b rfl) (nodup_b rfl) rfl rfl, h, rfl⟩
 ·rintro s ⟨h, rfl⟩
  unfold gleaningref1_Reader_Text_k0 at h
  refine sr fun K12 hK12 => ?_
  refine pm 26 (.ptr 0 0 0) ?_
  refine pm 27 (.ptr 0 0 0) ?_
  refine pP 28 (does_nilCheck (p := .ptr 0 0 0) W_ rfl) ?_
  refine pf 29 (.ptr 0 0 0) ty59 ty28 ?_
  refine pl 30 (.sl 1 (List.map enc5 a0.B)) ty28 ?_
  refine pm 31 (.int .i64 x3.2.1) ?_
  obtain ⟨g13, h⟩ := gd_some h
  obtain ⟨g14, h⟩ := gd_some h
  refine pP 32 (does_slice_sl (l := (Int.toNat x3.2.1)) W_ ty28 ty5 (bd_some W_ (by exact (nat_of g13))) bd_none (by (try simp only [List.length_map]); omega) (by (try simp only [List.length_map]); omega) (by exact part_l _ _)) ?_
  refine pP 33 (does_nilCheck (p := .ptr 0 0 0) W_ rfl) ?_
  refine pf 34 (.ptr 0 0 0) ty59 ty28 ?_
  refine alD none rfl rfl (do_store (cs' := [.sl 1 (List.map enc5 (List.drop (Int.toNat x3.2.1) a0.B)), .bool a0.Bad]) W_ W_ W_ ty28 rfl rfl rfl R_) D_ ?_
  refine en hK12 ?_
  refine sr fun K15 hK15 => ?_
  refine pm 35 (.str x3.1) ?_
  refine pa 2 (.str x3.1) ?_
  refine en hK15 ?_
  refine aw_ret ?_
  obtain rfl := Option.some.inj h
  exact ret_okB [] W_ W_ R_ trivial (boxesOk_cons W_ W_ R_ trivial) (nodup_b rfl) (.inr rfl) rfl
end Go.Proofs.Ytdhpmlgalddgfaa.Ab
