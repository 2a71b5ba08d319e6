/- The sum of bytes. -/
import Derived.Test.YtejimiedoibkcaaAbOps18
import Derived.Test.YtejimiedoibkcaaProg
namespace Go.Proofs.Ytejimiedoibkcaa.Ab
open Go Go.RowKit
set_option linter.unusedVariables false
set_option linter.unusedSimpArgs false
set_option maxRecDepth 100000
set_option maxHeartbeats 8000000
def enc5 (c : UInt8) : PV := .int .u8 (c.toNat : Int)
theorem ty5 : tyOf Try.prog 5 = some ⟨.int .u8, 1, 1, [.int .u8 0]⟩ := by kernel_rfl
theorem ty39 : tyOf Try.prog 39 = some ⟨.slice 5, 1, 24, [.nil]⟩ := by kernel_rfl
theorem ty42 : tyOf Try.prog 42 = some ⟨.int .u64, 1, 8, [.int .u64 0]⟩ := by kernel_rfl
def gleaningref1_Put_l1 (v0_s_1 : List UInt8) (v1_1 : Int) : Option ((List UInt8 × Int) ⊕ (List UInt8 × Int)) :=
 if (decide ((127 : Int) < v1_1)) = true then (gd ((List.length (v0_s_1 ++ [(u8 (bits .or .u8 ((u8 (IntKind.u8.wrap (bits .and .u64 v1_1 127))).toNat : Int) 128))])) * 1 ≤ 140737488355328 ∧ (List.length (v0_s_1 ++ [(u8 (bits .or .u8 ((u8 (IntKind.u8.wrap (bits .and .u64 v1_1 127))).toNat : Int) 128))])) ≤ 140737488355328) (some (Sum.inl ((v0_s_1 ++ [(u8 (bits .or .u8 ((u8 (IntKind.u8.wrap (bits .and .u64 v1_1 127))).toNat : Int) 128))]), (Int.fdiv v1_1 (2 ^ (min (Int.toNat 7) (IntKind.bits .u64)))))))) else (some (Sum.inr (v0_s_1, v1_1)))
def gleaningref1_Put_k0 (v0_s_0 : List UInt8) (v1_0 : Int) : Option (List UInt8) :=
 gd ((List.length (v0_s_0 ++ [(u8 (IntKind.u8.wrap v1_0))])) * 1 ≤ 140737488355328 ∧ (List.length (v0_s_0 ++ [(u8 (IntKind.u8.wrap v1_0))])) ≤ 140737488355328) (some (v0_s_0 ++ [(u8 (IntKind.u8.wrap v1_0))]))
def gleaningref1_Put (a0 : List UInt8) (a1 : Int) : Option (List UInt8) :=
 Option.bind (loopN (fun (s : List UInt8 × Int) => gleaningref1_Put_l1 s.1 s.2) Fu (a0, a1)) (fun (s : List UInt8 × Int) => gleaningref1_Put_k0 s.1 s.2)
theorem gleaningref1_Put_ok (a0 : List UInt8) (a1 : Int) {r : List UInt8} (h : gleaningref1_Put a0 a1 = some r) : Ok Try.prog 27 [.own 1 0, .int .u64 a1] [] [(5, 1, List.map enc5 a0)] (.own 2 0) [] [(5, 1, List.map enc5 r)] := by
 unfold gleaningref1_Put at h
 refine ok_of_code Try.func27 rfl (by show (2 : Nat) ≤ _; decide) (Nat.le_refl _) fun X => ?_
 refine sr fun K1 hK1 => ?_
 refine pa 4 (.nil) ?_
 refine en hK1 ?_
 obtain ⟨q2, h, hk3⟩ := bnd_some h
 refine aw_cut (fun s => ∃ (v0_s_0 : List UInt8), ∃ (v1_0 : Int), gleaningref1_Put_k0 v0_s_0 v1_0 = some r ∧ s = lit [(0, .own 1 0), (1, .int .u64 v1_0)] [((1, 0), .arr 5 1 false (List.map enc5 v0_s_0))] [(1, 1)] X) ?_ ?_
 ·skip
  refine aw_block ?_
  refine aw_loop' (fun m s => ∃ (v0_s_1 : List UInt8), ∃ (v1_1 : Int), loopN (fun (s : List UInt8 × Int) => gleaningref1_Put_l1 s.1 s.2) m (v0_s_1, v1_1) = some q2 ∧ s = lit [(0, .own 1 0), (1, .int .u64 v1_1)] [((1, 0), .arr 5 1 false (List.map enc5 v0_s_1))] [(1, 1)] X) Fu
   ⟨_, reb_lit [(0, .own 1 0), (1, .int .u64 a1)] [(1, 0)] [((1, 0), .arr 5 1 false (List.map enc5 a0))] [(1, 1)] (ec (ec envOk_nil)) (objOk_cons W_ W_ R_ (by simp) objOk_nil) (nodup_b rfl) (nodup_b rfl) rfl rfl, a0, a1, h, rfl⟩ ?_
  rintro m s ⟨v0_s_1, v1_1, h, rfl⟩
  obtain ⟨m1, q4, rfl, h, hq5⟩ := loop_some h
  replace h : gleaningref1_Put_l1 v0_s_1 v1_1 = some q4 := h
  unfold gleaningref1_Put_l1 at h
  refine aw_seq_k (fun K6 hK6 => ?_)
  refine sr fun K7 hK7 => ?_
  refine pm 5 (.int .u64 v1_1) ?_
  refine pb 6 (.bool (decide ((127 : Int) < v1_1))) ?_
  refine en hK7 ?_
  refine aw_bool (b := (decide ((127 : Int) < v1_1))) 6 rfl (fun c8 => ?_) (fun c8 => ?_)
  ·have h := ifT c8 h
   refine aw_cond_t D_ rfl ?_
   refine aw_skip ?_
   refine hK6 _ ?_
   refine aw_block ?_
   refine sr fun K9 hK9 => ?_
   refine pm 7 (.own 1 0) ?_
   refine pm 8 (.int .u64 v1_1) ?_
   refine pb 9 (.int .u64 (bits .and .u64 v1_1 127)) ?_
   refine pP 10 ((does_conv_int (v := .int .u8 (IntKind.u8.wrap (bits .and .u64 v1_1 127))) W_ (ty_some ty42) (ty_int ty5) rfl).castp (v' := .int .u8 ((u8 (IntKind.u8.wrap (bits .and .u64 v1_1 127))).toNat : Int)) (by exact congrArg _ (u8_eq (u8_wrap _)))) ?_
   refine pP 11 ((does_bin (v := .int .u8 (bits .or .u8 ((u8 (IntKind.u8.wrap (bits .and .u64 v1_1 127))).toNat : Int) 128)) W_ W_ rfl).castp (v' := .int .u8 ((u8 (bits .or .u8 ((u8 (IntKind.u8.wrap (bits .and .u64 v1_1 127))).toNat : Int) 128)).toNat : Int)) (by exact congrArg _ (u8_eq (u8_bits _ _ _)))) ?_
   refine pD 12 (do_buildSlice (xs := List.map enc5 [(u8 (bits .or .u8 ((u8 (IntKind.u8.wrap (bits .and .u64 v1_1 127))).toNat : Int) 128))]) ty39 ty5 rfl rfl rfl rfl rfl rfl rfl rfl) ?_
   obtain ⟨g10, h⟩ := gd_some h
   refine pD 13 (do_append (v := List.map enc5 (v0_s_1 ++ [(u8 (bits .or .u8 ((u8 (IntKind.u8.wrap (bits .and .u64 v1_1 127))).toNat : Int) 128))])) W_ W_ ty39 ty5 rfl rfl W_ (by first | exact .inl rfl | exact .inr ⟨rfl, rfl⟩) W_ (by first | exact .inr rfl | exact .inl rfl) (map_app _ _) (fit_map g10)) ?_
   refine pa 0 (.own 13 0) ?_
   refine en hK9 ?_
   refine aw_regL ?_
   refine pm 14 (.int .u64 v1_1) ?_
   refine pb 15 (.int .u64 (Int.fdiv v1_1 (2 ^ (min (Int.toNat 7) (IntKind.bits .u64))))) ?_
   refine pa 1 (.int .u64 (Int.fdiv v1_1 (2 ^ (min (Int.toNat 7) (IntKind.bits .u64))))) ?_
   refine al_nil ?_
   have h := leafL h hq5
   exact ⟨m1, Nat.lt_succ_self _, _, reb_lit [(0, .own 1 0), (1, .int .u64 (Int.fdiv v1_1 (2 ^ (min (Int.toNat 7) (IntKind.bits .u64)))))] [(13, 0)] [((1, 0), .arr 5 1 false (List.map enc5 (v0_s_1 ++ [(u8 (bits .or .u8 ((u8 (IntKind.u8.wrap (bits .and .u64 v1_1 127))).toNat : Int) 128))])))] [(1, 1)] (ec (ec envOk_nil)) (objOk_cons W_ W_ R_ (by simp) objOk_nil) (nodup_b rfl) (nodup_b rfl) rfl rfl, (v0_s_1 ++ [(u8 (bits .or .u8 ((u8 (IntKind.u8.wrap (bits .and .u64 v1_1 127))).toNat : Int) 128))]), (Int.fdiv v1_1 (2 ^ (min (Int.toNat 7) (IntKind.bits .u64)))), h, rfl⟩
  ·have h := ifF c8 h
   refine aw_cond_f D_ rfl ?_
   refine aw_exit ?_
   have h := leafR h hq5
   obtain rfl := Option.some.inj h
   have h := hk3
   exact ⟨_, reb_lit [(0, .own 1 0), (1, .int .u64 v1_1)] [(1, 0)] [((1, 0), .arr 5 1 false (List.map enc5 v0_s_1))] [(1, 1)] (ec (ec envOk_nil)) (objOk_cons W_ W_ R_ (by simp) objOk_nil) (nodup_b rfl) (nodup_b rfl) rfl rfl, v0_s_1, v1_1, h, rfl⟩
 ·rintro s ⟨v0_s_0, v1_0, h, rfl⟩
  unfold gleaningref1_Put_k0 at h
  refine sr fun K11 hK11 => ?_
  refine pm 16 (.own 1 0) ?_
  refine pm 17 (.int .u64 v1_0) ?_
  refine pP 18 ((does_conv_int (v := .int .u8 (IntKind.u8.wrap v1_0)) W_ (ty_some ty42) (ty_int ty5) rfl).castp (v' := .int .u8 ((u8 (IntKind.u8.wrap v1_0)).toNat : Int)) (by exact congrArg _ (u8_eq (u8_wrap _)))) ?_
  refine pD 19 (do_buildSlice (xs := List.map enc5 [(u8 (IntKind.u8.wrap v1_0))]) ty39 ty5 rfl rfl rfl rfl rfl rfl rfl rfl) ?_
  obtain ⟨g12, h⟩ := gd_some h
  refine pD 20 (do_append (v := List.map enc5 (v0_s_0 ++ [(u8 (IntKind.u8.wrap v1_0))])) W_ W_ ty39 ty5 rfl rfl W_ (by first | exact .inl rfl | exact .inr ⟨rfl, rfl⟩) W_ (by first | exact .inr rfl | exact .inl rfl) (map_app _ _) (fit_map g12)) ?_
  refine pa 4 (.own 20 0) ?_
  refine en hK11 ?_
  refine aw_ret ?_
  obtain rfl := Option.some.inj h
  exact ret_okR [(20, 0)] W_ W_ R_ (rowsOk_cons W_ R_ trivial) (nodup_b rfl) (.inr rfl) rfl
end Go.Proofs.Ytejimiedoibkcaa.Ab
namespace Go.Proofs.Ytejimiedoibkcaa.Ab
open Go Go.RowKit
set_option linter.unusedVariables false
set_option linter.unusedSimpArgs false
set_option maxRecDepth 100000
set_option maxHeartbeats 8000000
structure Writer where
  B : List UInt8
  deriving DecidableEq
def enc9 (x : ByteArray) : PV := .str x
def enc2 (x : Int) : PV := .int .i64 x
def enc12 (x : Int) : PV := .int .u64 x
theorem ty3 : tyOf Try.prog 3 = some ⟨.int .i64, 1, 8, [.int .i64 0]⟩ := by kernel_rfl
theorem ty9 : tyOf Try.prog 9 = some ⟨.str, 1, 16, [.str ByteArray.empty]⟩ := by kernel_rfl
theorem ty25 : tyOf Try.prog 25 = some ⟨.slice 3, 1, 24, [.nil]⟩ := by kernel_rfl
theorem ty62 : tyOf Try.prog 62 = some ⟨.struct [(0, 39)], 1, 24, [.nil]⟩ := by kernel_rfl
theorem ty81 : tyOf Try.prog 81 = some ⟨.slice 42, 1, 24, [.nil]⟩ := by kernel_rfl
theorem ty94 : tyOf Try.prog 94 = some ⟨.slice 9, 1, 24, [.nil]⟩ := by kernel_rfl
theorem zr5 : (Try.prog.info? 5).bind (·.zero) = some (.int .u8 0) := by kernel_rfl
theorem ent27 : Ent Try.prog 27 := ⟨_, Try.func27, by kernel_rfl, rfl⟩
theorem ent33 : Ent Try.prog 33 := ⟨_, Try.func33, by kernel_rfl, rfl⟩
theorem ent35 : Ent Try.prog 35 := ⟨_, Try.func35, by kernel_rfl, rfl⟩
def ints_Writer_Wide_l2 (vb0_s_0_s_2 : List UInt8) (v5_2 : Int) : Option ((List UInt8 × Int) ⊕ (List UInt8 × Int)) :=
 if (decide ((128 : Int) ≤ v5_2)) = true then (gd ((List.length (vb0_s_0_s_2 ++ [(u8 (bits .or .u8 ((u8 (IntKind.u8.wrap v5_2)).toNat : Int) 128))])) * 1 ≤ 140737488355328 ∧ (List.length (vb0_s_0_s_2 ++ [(u8 (bits .or .u8 ((u8 (IntKind.u8.wrap v5_2)).toNat : Int) 128))])) ≤ 140737488355328) (some (Sum.inl ((vb0_s_0_s_2 ++ [(u8 (bits .or .u8 ((u8 (IntKind.u8.wrap v5_2)).toNat : Int) 128))]), (Int.fdiv v5_2 (2 ^ (min (Int.toNat 7) (IntKind.bits .u64)))))))) else (some (Sum.inr (vb0_s_0_s_2, v5_2)))
def ints_Writer_Wide_k1 (v8_0 : Int) (vb0_s_0_s_1 : List UInt8) (v5_1 : Int) : Option ((List UInt8 × Int) ⊕ Writer) :=
 gd ((List.length (vb0_s_0_s_1 ++ [(u8 (IntKind.u8.wrap v5_1))])) * 1 ≤ 140737488355328 ∧ (List.length (vb0_s_0_s_1 ++ [(u8 (IntKind.u8.wrap v5_1))])) ≤ 140737488355328) (some (Sum.inl ((vb0_s_0_s_1 ++ [(u8 (IntKind.u8.wrap v5_1))]), (IntKind.i64.wrap (v8_0 + 1)))))
def ints_Writer_Wide_l0 (a1 : List Int) (vb0_s_0_s_0 : List UInt8) (v8_0 : Int) : Option ((List UInt8 × Int) ⊕ Writer) :=
 if (decide (v8_0 < (List.length a1 : Int))) = true then (gd (0 ≤ v8_0) (Option.bind (a1[(Int.toNat v8_0)]?) (fun (x10 : Int) => Option.bind (loopN (fun (s : List UInt8 × Int) => ints_Writer_Wide_l2 s.1 s.2) Fu (vb0_s_0_s_0, x10)) (fun (s : List UInt8 × Int) => ints_Writer_Wide_k1 v8_0 s.1 s.2)))) else (some (Sum.inr (Writer.mk vb0_s_0_s_0)))
def ints_Writer_Wide (a0 : Writer) (a1 : List Int) : Option Writer :=
 loopN (fun (s : List UInt8 × Int) => ints_Writer_Wide_l0 a1 s.1 s.2) Fu (a0.B, 0)
theorem ints_Writer_Wide_ok (a0 : Writer) (a1 : List Int) {r : Writer} (h : ints_Writer_Wide a0 a1 = some r) : Ok Try.prog 35 [.ptr 0 0 0, .sl 1 (List.map enc12 a1)] [[.own 1 0]] [(5, 1, List.map enc5 a0.B)] (.tup []) [[.own 2 0]] [(5, 1, List.map enc5 r.B)] := by
 unfold ints_Writer_Wide at h
 refine ok_of_code Try.func35 rfl (by show (2 : Nat) ≤ _; decide) (Nat.le_refl _) fun X => ?_
 refine sr fun K1 hK1 => ?_
 refine pm 6 (.sl 1 (List.map enc12 a1)) ?_
 refine pP 7 ((does_len_sl W_ ty81).castp (v' := .int .i64 (List.length a1 : Int)) (by exact len_map _)) ?_
 refine pm 8 (.int .i64 0) ?_
 refine en hK1 ?_
 refine aw_block ?_
 refine aw_loop' (fun m s => ∃ (vb0_s_0_s_0 : List UInt8), ∃ (v8_0 : Int), loopN (fun (s : List UInt8 × Int) => ints_Writer_Wide_l0 a1 s.1 s.2) m (vb0_s_0_s_0, v8_0) = some r ∧ s = lit [(0, .ptr 0 0 0), (6, .sl 1 (List.map enc12 a1)), (7, .int .i64 (List.length a1 : Int)), (8, .int .i64 v8_0)] [((0, 0), .box [.own 1 0]), ((1, 0), .arr 5 1 false (List.map enc5 vb0_s_0_s_0))] [(0, 1), (1, 1)] X) Fu
  ⟨_, reb_lit [(0, .ptr 0 0 0), (6, .sl 1 (List.map enc12 a1)), (7, .int .i64 (List.length a1 : Int)), (8, .int .i64 (0))] [(0, 0), (1, 0)] [((0, 0), .box [.own 1 0]), ((1, 0), .arr 5 1 false (List.map enc5 a0.B))] [(0, 1), (1, 1)] (ec (ec (ec (ec envOk_nil)))) (objOk_cons W_ W_ R_ (by simp) (objOk_cons W_ W_ R_ (by simp) objOk_nil)) (nodup_b rfl) (nodup_b rfl) rfl rfl, a0.B, 0, h, rfl⟩ ?_
 rintro m s ⟨vb0_s_0_s_0, v8_0, h, rfl⟩
 obtain ⟨m0, q2, rfl, h, hq3⟩ := loop_some h
 replace h : ints_Writer_Wide_l0 a1 vb0_s_0_s_0 v8_0 = some q2 := h
 unfold ints_Writer_Wide_l0 at h
 refine sr fun K4 hK4 => ?_
 refine pb 9 (.bool (decide (v8_0 < (List.length a1 : Int)))) ?_
 refine en hK4 ?_
 refine aw_seq_k (fun K5 hK5 => ?_)
 refine aw_bool (b := (decide (v8_0 < (List.length a1 : Int)))) 9 rfl (fun c6 => ?_) (fun c6 => ?_)
 ·have h := ifT c6 h
  refine aw_cond_t D_ rfl ?_
  refine aw_skip ?_
  refine hK5 _ ?_
  refine aw_seq_k (fun K7 hK7 => ?_)
  refine aw_block ?_
  refine sr fun K8 hK8 => ?_
  obtain ⟨g9, h⟩ := gd_some h
  obtain ⟨x10, hx10, h⟩ := bnd_some h
  refine pP 10 (does_indexAddr_sl (el := .int .u64 x10) W_ W_ ty81 ty42 g9 (by exact map_get hx10)) ?_
  refine pl 11 (.int .u64 x10) ty42 ?_
  refine pa 5 (.int .u64 x10) ?_
  refine en hK8 ?_
  obtain ⟨q11, h, hk12⟩ := bnd_some h
  refine aw_cut (fun s => ∃ (vb0_s_0_s_1 : List UInt8), ∃ (v5_1 : Int), ints_Writer_Wide_k1 v8_0 vb0_s_0_s_1 v5_1 = some q2 ∧ s = lit [(0, .ptr 0 0 0), (5, .int .u64 v5_1), (6, .sl 1 (List.map enc12 a1)), (7, .int .i64 (List.length a1 : Int)), (8, .int .i64 v8_0)] [((0, 0), .box [.own 1 0]), ((1, 0), .arr 5 1 false (List.map enc5 vb0_s_0_s_1))] [(0, 1), (1, 1)] X) ?_ ?_
  ·skip
   refine aw_block ?_
   refine aw_loop' (fun m s => ∃ (vb0_s_0_s_2 : List UInt8), ∃ (v5_2 : Int), loopN (fun (s : List UInt8 × Int) => ints_Writer_Wide_l2 s.1 s.2) m (vb0_s_0_s_2, v5_2) = some q11 ∧ s = lit [(0, .ptr 0 0 0), (5, .int .u64 v5_2), (6, .sl 1 (List.map enc12 a1)), (7, .int .i64 (List.length a1 : Int)), (8, .int .i64 v8_0)] [((0, 0), .box [.own 1 0]), ((1, 0), .arr 5 1 false (List.map enc5 vb0_s_0_s_2))] [(0, 1), (1, 1)] X) Fu
    ⟨_, reb_lit [(0, .ptr 0 0 0), (5, .int .u64 x10), (6, .sl 1 (List.map enc12 a1)), (7, .int .i64 (List.length a1 : Int)), (8, .int .i64 v8_0)] [(0, 0), (1, 0)] [((0, 0), .box [.own 1 0]), ((1, 0), .arr 5 1 false (List.map enc5 vb0_s_0_s_0))] [(0, 1), (1, 1)] (ec (ec (ec (ec (ec envOk_nil))))) (objOk_cons W_ W_ R_ (by simp) (objOk_cons W_ W_ R_ (by simp) objOk_nil)) (nodup_b rfl) (nodup_b rfl) rfl rfl, vb0_s_0_s_0, x10, h, rfl⟩ ?_
   rintro m s ⟨vb0_s_0_s_2, v5_2, h, rfl⟩
   obtain ⟨m2, q13, rfl, h, hq14⟩ := loop_some h
   replace h : ints_Writer_Wide_l2 vb0_s_0_s_2 v5_2 = some q13 := h
   unfold ints_Writer_Wide_l2 at h
   refine aw_seq_k (fun K15 hK15 => ?_)
   refine sr fun K16 hK16 => ?_
   refine pm 12 (.int .u64 v5_2) ?_
   refine pb 13 (.bool (decide ((128 : Int) ≤ v5_2))) ?_
   refine en hK16 ?_
   refine aw_bool (b := (decide ((128 : Int) ≤ v5_2))) 13 rfl (fun c17 => ?_) (fun c17 => ?_)
   ·have h := ifT c17 h
    refine aw_cond_t D_ rfl ?_
    refine aw_skip ?_
    refine hK15 _ ?_
    refine aw_seq_k (fun K18 hK18 => ?_)
    refine aw_block ?_
    refine aw_regL ?_
    refine pm 16 (.ptr 0 0 0) ?_
    refine pm 17 (.ptr 0 0 0) ?_
    refine pP 18 (does_nilCheck (p := .ptr 0 0 0) W_ rfl) ?_
    refine pf 19 (.ptr 0 0 0) ty62 ty39 ?_
    refine pl 20 (.own 1 0) ty39 ?_
    refine pm 21 (.int .u64 v5_2) ?_
    refine pP 22 ((does_conv_int (v := .int .u8 (IntKind.u8.wrap v5_2)) W_ (ty_some ty42) (ty_int ty5) rfl).castp (v' := .int .u8 ((u8 (IntKind.u8.wrap v5_2)).toNat : Int)) (by exact congrArg _ (u8_eq (u8_wrap _)))) ?_
    refine pP 23 ((does_bin (v := .int .u8 (bits .or .u8 ((u8 (IntKind.u8.wrap v5_2)).toNat : Int) 128)) W_ W_ rfl).castp (v' := .int .u8 ((u8 (bits .or .u8 ((u8 (IntKind.u8.wrap v5_2)).toNat : Int) 128)).toNat : Int)) (by exact congrArg _ (u8_eq (u8_bits _ _ _)))) ?_
    refine pD 24 (do_buildSlice (xs := List.map enc5 [(u8 (bits .or .u8 ((u8 (IntKind.u8.wrap v5_2)).toNat : Int) 128))]) ty39 ty5 rfl rfl rfl rfl rfl rfl rfl rfl) ?_
    obtain ⟨g19, h⟩ := gd_some h
    refine pD 25 (do_append (v := List.map enc5 (vb0_s_0_s_2 ++ [(u8 (bits .or .u8 ((u8 (IntKind.u8.wrap v5_2)).toNat : Int) 128))])) W_ W_ ty39 ty5 rfl rfl W_ (by first | exact .inl rfl | exact .inr ⟨rfl, rfl⟩) W_ (by first | exact .inr rfl | exact .inl rfl) (map_app _ _) (fit_map g19)) ?_
    refine pP 26 (does_nilCheck (p := .ptr 0 0 0) W_ rfl) ?_
    refine pf 27 (.ptr 0 0 0) ty62 ty39 ?_
    refine alD none rfl rfl (do_store (cs' := [.own 25 0]) W_ W_ W_ ty39 rfl rfl rfl R_) D_ ?_
    refine en hK18 ?_
    refine aw_regL ?_
    refine pm 14 (.int .u64 v5_2) ?_
    refine pb 15 (.int .u64 (Int.fdiv v5_2 (2 ^ (min (Int.toNat 7) (IntKind.bits .u64))))) ?_
    refine pa 5 (.int .u64 (Int.fdiv v5_2 (2 ^ (min (Int.toNat 7) (IntKind.bits .u64))))) ?_
    refine al_nil ?_
    have h := leafL h hq14
    exact ⟨m2, Nat.lt_succ_self _, _, reb_lit [(0, .ptr 0 0 0), (5, .int .u64 (Int.fdiv v5_2 (2 ^ (min (Int.toNat 7) (IntKind.bits .u64))))), (6, .sl 1 (List.map enc12 a1)), (7, .int .i64 (List.length a1 : Int)), (8, .int .i64 v8_0)] [(0, 0), (25, 0)] [((0, 0), .box [.own 1 0]), ((1, 0), .arr 5 1 false (List.map enc5 (vb0_s_0_s_2 ++ [(u8 (bits .or .u8 ((u8 (IntKind.u8.wrap v5_2)).toNat : Int) 128))])))] [(0, 1), (1, 1)] (ec (ec (ec (ec (ec envOk_nil))))) (objOk_cons W_ W_ R_ (by simp) (objOk_cons W_ W_ R_ (by simp) objOk_nil)) (nodup_b rfl) (nodup_b rfl) rfl rfl, (vb0_s_0_s_2 ++ [(u8 (bits .or .u8 ((u8 (IntKind.u8.wrap v5_2)).toNat : Int) 128))]), (Int.fdiv v5_2 (2 ^ (min (Int.toNat 7) (IntKind.bits .u64)))), h, rfl⟩
   ·have h := ifF c17 h
    refine aw_cond_f D_ rfl ?_
    refine aw_exit ?_
    have h := leafR h hq14
    obtain rfl := Option.some.inj h
    have h := hk12
    exact ⟨_, reb_lit [(0, .ptr 0 0 0), (5, .int .u64 v5_2), (6, .sl 1 (List.map enc12 a1)), (7, .int .i64 (List.length a1 : Int)), (8, .int .i64 v8_0)] [(0, 0), (1, 0)] [((0, 0), .box [.own 1 0]), ((1, 0), .arr 5 1 false (List.map enc5 vb0_s_0_s_2))] [(0, 1), (1, 1)] (ec (ec (ec (ec (ec envOk_nil))))) (objOk_cons W_ W_ R_ (by simp) (objOk_cons W_ W_ R_ (by simp) objOk_nil)) (nodup_b rfl) (nodup_b rfl) rfl rfl, vb0_s_0_s_2, v5_2, h, rfl⟩
  ·rintro s ⟨vb0_s_0_s_1, v5_1, h, rfl⟩
   unfold ints_Writer_Wide_k1 at h
   refine aw_regL ?_
   refine pm 28 (.ptr 0 0 0) ?_
   refine pm 29 (.ptr 0 0 0) ?_
   refine pP 30 (does_nilCheck (p := .ptr 0 0 0) W_ rfl) ?_
   refine pf 31 (.ptr 0 0 0) ty62 ty39 ?_
   refine pl 32 (.own 1 0) ty39 ?_
   refine pm 33 (.int .u64 v5_1) ?_
   refine pP 34 ((does_conv_int (v := .int .u8 (IntKind.u8.wrap v5_1)) W_ (ty_some ty42) (ty_int ty5) rfl).castp (v' := .int .u8 ((u8 (IntKind.u8.wrap v5_1)).toNat : Int)) (by exact congrArg _ (u8_eq (u8_wrap _)))) ?_
   refine pD 35 (do_buildSlice (xs := List.map enc5 [(u8 (IntKind.u8.wrap v5_1))]) ty39 ty5 rfl rfl rfl rfl rfl rfl rfl rfl) ?_
   obtain ⟨g20, h⟩ := gd_some h
   refine pD 36 (do_append (v := List.map enc5 (vb0_s_0_s_1 ++ [(u8 (IntKind.u8.wrap v5_1))])) W_ W_ ty39 ty5 rfl rfl W_ (by first | exact .inl rfl | exact .inr ⟨rfl, rfl⟩) W_ (by first | exact .inr rfl | exact .inl rfl) (map_app _ _) (fit_map g20)) ?_
   refine pP 37 (does_nilCheck (p := .ptr 0 0 0) W_ rfl) ?_
   refine pf 38 (.ptr 0 0 0) ty62 ty39 ?_
   refine alD none rfl rfl (do_store (cs' := [.own 36 0]) W_ W_ W_ ty39 rfl rfl rfl R_) D_ ?_
   refine en hK7 ?_
   refine aw_regL ?_
   refine pb 39 (.int .i64 (IntKind.i64.wrap (v8_0 + 1))) ?_
   refine pm 8 (.int .i64 (IntKind.i64.wrap (v8_0 + 1))) ?_
   refine al_nil ?_
   have h := leafL h hq3
   exact ⟨m0, Nat.lt_succ_self _, _, reb_lit [(0, .ptr 0 0 0), (6, .sl 1 (List.map enc12 a1)), (7, .int .i64 (List.length a1 : Int)), (8, .int .i64 (IntKind.i64.wrap (v8_0 + 1)))] [(0, 0), (36, 0)] [((0, 0), .box [.own 1 0]), ((1, 0), .arr 5 1 false (List.map enc5 (vb0_s_0_s_1 ++ [(u8 (IntKind.u8.wrap v5_1))])))] [(0, 1), (1, 1)] (ec (ec (ec (ec envOk_nil)))) (objOk_cons W_ W_ R_ (by simp) (objOk_cons W_ W_ R_ (by simp) objOk_nil)) (nodup_b rfl) (nodup_b rfl) rfl rfl, (vb0_s_0_s_1 ++ [(u8 (IntKind.u8.wrap v5_1))]), (IntKind.i64.wrap (v8_0 + 1)), h, rfl⟩
 ·have h := ifF c6 h
  refine aw_cond_f D_ rfl ?_
  refine aw_exit ?_
  have h := leafR h hq3
  obtain rfl := Option.some.inj h
  exact ret_okB [(1, 0)] W_ W_ R_ (rowsOk_cons W_ R_ trivial) (boxesOk_cons W_ W_ R_ trivial) (nodup_b rfl) (.inl rfl) rfl
def ints_Writer_Num_l0 (a1 : List Int) (vb0_s_0_s_0 : List UInt8) (v8_0 : Int) : Option ((List UInt8 × Int) ⊕ Writer) :=
 if (decide (v8_0 < (List.length a1 : Int))) = true then (gd (0 ≤ v8_0) (Option.bind (a1[(Int.toNat v8_0)]?) (fun (x10 : Int) => Option.bind (ints_Writer_Wide (Writer.mk vb0_s_0_s_0) [(IntKind.u64.wrap x10)]) (fun (x11 : Writer) => some (Sum.inl (x11.B, (IntKind.i64.wrap (v8_0 + 1)))))))) else (some (Sum.inr (Writer.mk vb0_s_0_s_0)))
def ints_Writer_Num (a0 : Writer) (a1 : List Int) : Option Writer :=
 loopN (fun (s : List UInt8 × Int) => ints_Writer_Num_l0 a1 s.1 s.2) Fu (a0.B, 0)
theorem ints_Writer_Num_ok (a0 : Writer) (a1 : List Int) {r : Writer} (h : ints_Writer_Num a0 a1 = some r) : Ok Try.prog 33 [.ptr 0 0 0, .sl 1 (List.map enc2 a1)] [[.own 1 0]] [(5, 1, List.map enc5 a0.B)] (.tup []) [[.own 2 0]] [(5, 1, List.map enc5 r.B)] := by
 unfold ints_Writer_Num at h
 refine ok_of_code Try.func33 rfl (by show (2 : Nat) ≤ _; decide) (Nat.le_refl _) fun X => ?_
 refine sr fun K1 hK1 => ?_
 refine pm 6 (.sl 1 (List.map enc2 a1)) ?_
 refine pP 7 ((does_len_sl W_ ty25).castp (v' := .int .i64 (List.length a1 : Int)) (by exact len_map _)) ?_
 refine pm 8 (.int .i64 0) ?_
 refine en hK1 ?_
 refine aw_block ?_
 refine aw_loop' (fun m s => ∃ (vb0_s_0_s_0 : List UInt8), ∃ (v8_0 : Int), loopN (fun (s : List UInt8 × Int) => ints_Writer_Num_l0 a1 s.1 s.2) m (vb0_s_0_s_0, v8_0) = some r ∧ s = lit [(0, .ptr 0 0 0), (6, .sl 1 (List.map enc2 a1)), (7, .int .i64 (List.length a1 : Int)), (8, .int .i64 v8_0)] [((0, 0), .box [.own 1 0]), ((1, 0), .arr 5 1 false (List.map enc5 vb0_s_0_s_0))] [(0, 1), (1, 1)] X) Fu
  ⟨_, reb_lit [(0, .ptr 0 0 0), (6, .sl 1 (List.map enc2 a1)), (7, .int .i64 (List.length a1 : Int)), (8, .int .i64 (0))] [(0, 0), (1, 0)] [((0, 0), .box [.own 1 0]), ((1, 0), .arr 5 1 false (List.map enc5 a0.B))] [(0, 1), (1, 1)] (ec (ec (ec (ec envOk_nil)))) (objOk_cons W_ W_ R_ (by simp) (objOk_cons W_ W_ R_ (by simp) objOk_nil)) (nodup_b rfl) (nodup_b rfl) rfl rfl, a0.B, 0, h, rfl⟩ ?_
 rintro m s ⟨vb0_s_0_s_0, v8_0, h, rfl⟩
 obtain ⟨m0, q2, rfl, h, hq3⟩ := loop_some h
 replace h : ints_Writer_Num_l0 a1 vb0_s_0_s_0 v8_0 = some q2 := h
 unfold ints_Writer_Num_l0 at h
 refine sr fun K4 hK4 => ?_
 refine pb 9 (.bool (decide (v8_0 < (List.length a1 : Int)))) ?_
 refine en hK4 ?_
 refine aw_seq_k (fun K5 hK5 => ?_)
 refine aw_bool (b := (decide (v8_0 < (List.length a1 : Int)))) 9 rfl (fun c6 => ?_) (fun c6 => ?_)
 ·have h := ifT c6 h
  refine aw_cond_t D_ rfl ?_
  refine aw_skip ?_
  refine hK5 _ ?_
  refine aw_seq_k (fun K7 hK7 => ?_)
  refine aw_block ?_
  refine sr fun K8 hK8 => ?_
  obtain ⟨g9, h⟩ := gd_some h
  obtain ⟨x10, hx10, h⟩ := bnd_some h
  refine pP 10 (does_indexAddr_sl (el := .int .i64 x10) W_ W_ ty25 ty3 g9 (by exact map_get hx10)) ?_
  refine pl 11 (.int .i64 x10) ty3 ?_
  refine pa 5 (.int .i64 x10) ?_
  refine en hK8 ?_
  refine aw_regL ?_
  refine pm 12 (.ptr 0 0 0) ?_
  refine pm 13 (.int .i64 x10) ?_
  refine pP 14 (does_conv_int (v := .int .u64 (IntKind.u64.wrap x10)) W_ (ty_some ty3) (ty_int ty42) rfl) ?_
  refine pD 15 (do_buildSlice (xs := List.map enc12 [(IntKind.u64.wrap x10)]) ty81 ty42 rfl rfl rfl rfl rfl rfl rfl rfl) ?_
  obtain ⟨x11, hx11, h⟩ := bnd_some h
  refine pD 16 (does_frz (d := 15) (n := 0) W_ (do_callG (bcs := [[.own 1 0]]) [(0, 0)] [(1, 0)] [(15, 0)] 16 false (ints_Writer_Wide_ok (Writer.mk vb0_s_0_s_0) [(IntKind.u64.wrap x10)] hx11) rfl ent35 ⟨R_, trivial⟩ (rowsOk_cons W_ R_ trivial) rfl rfl rfl rfl rfl rfl rfl rfl (.inl ⟨⟨_, _, _, rfl⟩, trivial⟩))) ?_
  refine en hK7 ?_
  refine aw_regL ?_
  refine pb 17 (.int .i64 (IntKind.i64.wrap (v8_0 + 1))) ?_
  refine pm 8 (.int .i64 (IntKind.i64.wrap (v8_0 + 1))) ?_
  refine al_nil ?_
  have h := leafL h hq3
  exact ⟨m0, Nat.lt_succ_self _, _, reb_lit [(0, .ptr 0 0 0), (6, .sl 1 (List.map enc2 a1)), (7, .int .i64 (List.length a1 : Int)), (8, .int .i64 (IntKind.i64.wrap (v8_0 + 1)))] [(0, 0), (16, 0)] [((0, 0), .box [.own 1 0]), ((1, 0), .arr 5 1 false (List.map enc5 x11.B))] [(0, 1), (1, 1)] (ec (ec (ec (ec envOk_nil)))) (objOk_cons W_ W_ R_ (by simp) (objOk_cons W_ W_ R_ (by simp) objOk_nil)) (nodup_b rfl) (nodup_b rfl) rfl rfl, x11.B, (IntKind.i64.wrap (v8_0 + 1)), h, rfl⟩
 ·have h := ifF c6 h
  refine aw_cond_f D_ rfl ?_
  refine aw_exit ?_
  have h := leafR h hq3
  obtain rfl := Option.some.inj h
  exact ret_okB [(1, 0)] W_ W_ R_ (rowsOk_cons W_ R_ trivial) (boxesOk_cons W_ W_ R_ trivial) (nodup_b rfl) (.inl rfl) rfl
def ints_Writer_Text_l0 (a1 : List ByteArray) (vb0_s_0_s_0 : List UInt8) (v8_0 : Int) : Option ((List UInt8 × Int) ⊕ Writer) :=
 if (decide (v8_0 < (List.length a1 : Int))) = true then (gd (0 ≤ v8_0) (Option.bind (a1[(Int.toNat v8_0)]?) (fun (x10 : ByteArray) => Option.bind (ints_Writer_Num (Writer.mk vb0_s_0_s_0) [(ByteArray.size x10 : Int)]) (fun (x12 : Writer) => gd ((List.length (x12.B ++ (bytesOf x10))) ≤ 140737488355328) (some (Sum.inl ((x12.B ++ (bytesOf x10)), (IntKind.i64.wrap (v8_0 + 1))))))))) else (some (Sum.inr (Writer.mk vb0_s_0_s_0)))
def ints_Writer_Text (a0 : Writer) (a1 : List ByteArray) : Option Writer :=
 loopN (fun (s : List UInt8 × Int) => ints_Writer_Text_l0 a1 s.1 s.2) Fu (a0.B, 0)
theorem ints_Writer_Text_ok (a0 : Writer) (a1 : List ByteArray) {r : Writer} (h : ints_Writer_Text a0 a1 = some r) : Ok Try.prog 60 [.ptr 0 0 0, .sl 1 (List.map enc9 a1)] [[.own 1 0]] [(5, 1, List.map enc5 a0.B)] (.tup []) [[.own 2 0]] [(5, 1, List.map enc5 r.B)] := by
 unfold ints_Writer_Text at h
 refine ok_of_code Try.func60 rfl (by show (2 : Nat) ≤ _; decide) (Nat.le_refl _) fun X => ?_
 refine sr fun K1 hK1 => ?_
 refine pm 6 (.sl 1 (List.map enc9 a1)) ?_
 refine pP 7 ((does_len_sl W_ ty94).castp (v' := .int .i64 (List.length a1 : Int)) (by exact len_map _)) ?_
 refine pm 8 (.int .i64 0) ?_
 refine en hK1 ?_
 refine aw_block ?_
 refine aw_loop' (fun m s => ∃ (vb0_s_0_s_0 : List UInt8), ∃ (v8_0 : Int), loopN (fun (s : List UInt8 × Int) => ints_Writer_Text_l0 a1 s.1 s.2) m (vb0_s_0_s_0, v8_0) = some r ∧ s = lit [(0, .ptr 0 0 0), (6, .sl 1 (List.map enc9 a1)), (7, .int .i64 (List.length a1 : Int)), (8, .int .i64 v8_0)] [((0, 0), .box [.own 1 0]), ((1, 0), .arr 5 1 false (List.map enc5 vb0_s_0_s_0))] [(0, 1), (1, 1)] X) Fu
  ⟨_, reb_lit [(0, .ptr 0 0 0), (6, .sl 1 (List.map enc9 a1)), (7, .int .i64 (List.length a1 : Int)), (8, .int .i64 (0))] [(0, 0), (1, 0)] [((0, 0), .box [.own 1 0]), ((1, 0), .arr 5 1 false (List.map enc5 a0.B))] [(0, 1), (1, 1)] (ec (ec (ec (ec envOk_nil)))) (objOk_cons W_ W_ R_ (by simp) (objOk_cons W_ W_ R_ (by simp) objOk_nil)) (nodup_b rfl) (nodup_b rfl) rfl rfl, a0.B, 0, h, rfl⟩ ?_
 rintro m s ⟨vb0_s_0_s_0, v8_0, h, rfl⟩
 obtain ⟨m0, q2, rfl, h, hq3⟩ := loop_some h
 replace h : ints_Writer_Text_l0 a1 vb0_s_0_s_0 v8_0 = some q2 := h
 unfold ints_Writer_Text_l0 at h
 refine sr fun K4 hK4 => ?_
 refine pb 9 (.bool (decide (v8_0 < (List.length a1 : Int)))) ?_
 refine en hK4 ?_
 refine aw_seq_k (fun K5 hK5 => ?_)
 refine aw_bool (b := (decide (v8_0 < (List.length a1 : Int)))) 9 rfl (fun c6 => ?_) (fun c6 => ?_)
 ·have h := ifT c6 h
  refine aw_cond_t D_ rfl ?_
  refine aw_skip ?_
  refine hK5 _ ?_
  refine aw_seq_k (fun K7 hK7 => ?_)
  refine aw_block ?_
  refine sr fun K8 hK8 => ?_
  obtain ⟨g9, h⟩ := gd_some h
  obtain ⟨x10, hx10, h⟩ := bnd_some h
  refine pP 10 (does_indexAddr_sl (el := .str x10) W_ W_ ty94 ty9 g9 (by exact map_get hx10)) ?_
  refine pl 11 (.str x10) ty9 ?_
  refine pa 5 (.str x10) ?_
  refine en hK8 ?_
  refine sr fun K11 hK11 => ?_
  refine pm 12 (.ptr 0 0 0) ?_
  refine pm 13 (.str x10) ?_
  refine pP 14 (does_len_str W_ ty9) ?_
  refine pD 15 (do_buildSlice (xs := List.map enc2 [(ByteArray.size x10 : Int)]) ty25 ty3 rfl rfl rfl rfl rfl rfl rfl rfl) ?_
  obtain ⟨x12, hx12, h⟩ := bnd_some h
  refine pD 16 (does_frz (d := 15) (n := 0) W_ (do_callG (bcs := [[.own 1 0]]) [(0, 0)] [(1, 0)] [(15, 0)] 16 false (ints_Writer_Num_ok (Writer.mk vb0_s_0_s_0) [(ByteArray.size x10 : Int)] hx12) rfl ent33 ⟨R_, trivial⟩ (rowsOk_cons W_ R_ trivial) rfl rfl rfl rfl rfl rfl rfl rfl (.inl ⟨⟨_, _, _, rfl⟩, trivial⟩))) ?_
  refine en hK11 ?_
  refine aw_regL ?_
  refine pm 17 (.ptr 0 0 0) ?_
  refine pm 18 (.ptr 0 0 0) ?_
  refine pP 19 (does_nilCheck (p := .ptr 0 0 0) W_ rfl) ?_
  refine pf 20 (.ptr 0 0 0) ty62 ty39 ?_
  refine pl 21 (.own 16 0) ty39 ?_
  refine pm 22 (.str x10) ?_
  obtain ⟨g13, h⟩ := gd_some h
  refine pD 23 (do_append_str (l := x12.B) (f := enc5) W_ W_ ty39 ty5 zr5 (ty_str ty9) W_ (by first | exact .inl rfl | exact .inr ⟨rfl, rfl⟩) (fun _ => rfl) (g13)) ?_
  refine pP 24 (does_nilCheck (p := .ptr 0 0 0) W_ rfl) ?_
  refine pf 25 (.ptr 0 0 0) ty62 ty39 ?_
  refine alD none rfl rfl (do_store (cs' := [.own 23 0]) W_ W_ W_ ty39 rfl rfl rfl R_) D_ ?_
  refine en hK7 ?_
  refine aw_regL ?_
  refine pb 26 (.int .i64 (IntKind.i64.wrap (v8_0 + 1))) ?_
  refine pm 8 (.int .i64 (IntKind.i64.wrap (v8_0 + 1))) ?_
  refine al_nil ?_
  have h := leafL h hq3
  exact ⟨m0, Nat.lt_succ_self _, _, reb_lit [(0, .ptr 0 0 0), (6, .sl 1 (List.map enc9 a1)), (7, .int .i64 (List.length a1 : Int)), (8, .int .i64 (IntKind.i64.wrap (v8_0 + 1)))] [(0, 0), (23, 0)] [((0, 0), .box [.own 1 0]), ((1, 0), .arr 5 1 false (List.map enc5 (x12.B ++ (bytesOf x10))))] [(0, 1), (1, 1)] (ec (ec (ec (ec envOk_nil)))) (objOk_cons W_ W_ R_ (by simp) (objOk_cons W_ W_ R_ (by simp) objOk_nil)) (nodup_b rfl) (nodup_b rfl) rfl rfl, (x12.B ++ (bytesOf x10)), (IntKind.i64.wrap (v8_0 + 1)), h, rfl⟩
 ·have h := ifF c6 h
  refine aw_cond_f D_ rfl ?_
  refine aw_exit ?_
  have h := leafR h hq3
  obtain rfl := Option.some.inj h
  exact ret_okB [(1, 0)] W_ W_ R_ (rowsOk_cons W_ R_ trivial) (boxesOk_cons W_ W_ R_ trivial) (nodup_b rfl) (.inl rfl) rfl
def ints_Writer_Flag_k0 (a0 : Writer) (v4_0 : Int) : Option Writer :=
 Option.bind (ints_Writer_Num a0 [v4_0]) (fun (x6 : Writer) => some x6)
def ints_Writer_Flag (a0 : Writer) (a1 : Bool) : Option Writer :=
 Option.bind (if a1 = true then (some 1) else (some 0)) (fun (s : Int) => ints_Writer_Flag_k0 a0 s)
theorem ints_Writer_Flag_ok (a0 : Writer) (a1 : Bool) {r : Writer} (h : ints_Writer_Flag a0 a1 = some r) : Ok Try.prog 48 [.ptr 0 0 0, .bool a1] [[.own 1 0]] [(5, 1, List.map enc5 a0.B)] (.tup []) [[.own 2 0]] [(5, 1, List.map enc5 r.B)] := by
 unfold ints_Writer_Flag at h
 refine ok_of_code Try.func48 rfl (by show (2 : Nat) ≤ _; decide) (Nat.le_refl _) fun X => ?_
 refine sr fun K1 hK1 => ?_
 refine pa 4 (.int .i64 0) ?_
 refine en hK1 ?_
 obtain ⟨q2, h, hk3⟩ := bnd_some h
 refine aw_cut (fun s => ∃ (v4_0 : Int), ints_Writer_Flag_k0 a0 v4_0 = some r ∧ s = lit [(0, .ptr 0 0 0), (4, .int .i64 v4_0)] [((0, 0), .box [.own 1 0]), ((1, 0), .arr 5 1 false (List.map enc5 a0.B))] [(0, 1), (1, 1)] X) ?_ ?_
 ·skip
  refine sr fun K4 hK4 => ?_
  refine pm 5 (.bool a1) ?_
  refine en hK4 ?_
  refine aw_bool (b := a1) 5 rfl (fun c5 => ?_) (fun c5 => ?_)
  ·have h := ifT c5 h
   refine aw_cond_t D_ rfl ?_
   refine aw_regL ?_
   refine pa 4 (.int .i64 1) ?_
   refine al_nil ?_
   obtain rfl := Option.some.inj h
   have h := hk3
   exact ⟨_, reb_lit [(0, .ptr 0 0 0), (4, .int .i64 (1))] [(0, 0), (1, 0)] [((0, 0), .box [.own 1 0]), ((1, 0), .arr 5 1 false (List.map enc5 a0.B))] [(0, 1), (1, 1)] (ec (ec envOk_nil)) (objOk_cons W_ W_ R_ (by simp) (objOk_cons W_ W_ R_ (by simp) objOk_nil)) (nodup_b rfl) (nodup_b rfl) rfl rfl, 1, h, rfl⟩
  ·have h := ifF c5 h
   refine aw_cond_f D_ rfl ?_
   refine aw_skip ?_
   obtain rfl := Option.some.inj h
   have h := hk3
   exact ⟨_, reb_lit [(0, .ptr 0 0 0), (4, .int .i64 (0))] [(0, 0), (1, 0)] [((0, 0), .box [.own 1 0]), ((1, 0), .arr 5 1 false (List.map enc5 a0.B))] [(0, 1), (1, 1)] (ec (ec envOk_nil)) (objOk_cons W_ W_ R_ (by simp) (objOk_cons W_ W_ R_ (by simp) objOk_nil)) (nodup_b rfl) (nodup_b rfl) rfl rfl, 0, h, rfl⟩
 ·rintro s ⟨v4_0, h, rfl⟩
  unfold ints_Writer_Flag_k0 at h
  refine aw_regL ?_
  refine pm 6 (.ptr 0 0 0) ?_
  refine pm 7 (.int .i64 v4_0) ?_
  refine pD 8 (do_buildSlice (xs := List.map enc2 [v4_0]) ty25 ty3 rfl rfl rfl rfl rfl rfl rfl rfl) ?_
  obtain ⟨x6, hx6, h⟩ := bnd_some h
  refine pD 9 (does_frz (d := 8) (n := 0) W_ (do_callG (bcs := [[.own 1 0]]) [(0, 0)] [(1, 0)] [(8, 0)] 9 false (ints_Writer_Num_ok a0 [v4_0] hx6) rfl ent33 ⟨R_, trivial⟩ (rowsOk_cons W_ R_ trivial) rfl rfl rfl rfl rfl rfl rfl rfl (.inl ⟨⟨_, _, _, rfl⟩, trivial⟩))) ?_
  refine al_nil ?_
  obtain rfl := Option.some.inj h
  exact ret_okB [(9, 0)] W_ W_ R_ (rowsOk_cons W_ R_ trivial) (boxesOk_cons W_ W_ R_ trivial) (nodup_b rfl) (.inl rfl) rfl
def gleaningref1_Text (a0 : List UInt8) (a1 : ByteArray) : Option (List UInt8) :=
 Option.bind (gleaningref1_Put a0 (IntKind.u64.wrap (ByteArray.size a1 : Int))) (fun (x3 : List UInt8) => gd ((List.length (x3 ++ (bytesOf a1))) ≤ 140737488355328) (some (x3 ++ (bytesOf a1))))
theorem gleaningref1_Text_ok (a0 : List UInt8) (a1 : ByteArray) {r : List UInt8} (h : gleaningref1_Text a0 a1 = some r) : Ok Try.prog 52 [.own 1 0, .str a1] [] [(5, 1, List.map enc5 a0)] (.own 2 0) [] [(5, 1, List.map enc5 r)] := by
 unfold gleaningref1_Text at h
 refine ok_of_code Try.func52 rfl (by show (2 : Nat) ≤ _; decide) (Nat.le_refl _) fun X => ?_
 refine sr fun K1 hK1 => ?_
 refine pa 4 (.nil) ?_
 refine en hK1 ?_
 refine sr fun K2 hK2 => ?_
 refine pm 5 (.own 1 0) ?_
 refine pm 6 (.str a1) ?_
 refine pP 7 (does_len_str W_ ty9) ?_
 refine pP 8 (does_conv_int (v := .int .u64 (IntKind.u64.wrap (ByteArray.size a1 : Int))) W_ (ty_some ty3) (ty_int ty42) rfl) ?_
 obtain ⟨x3, hx3, h⟩ := bnd_some h
 refine pD 9 (do_callG (bcs := []) [] [(1, 0)] [] 9 false (gleaningref1_Put_ok a0 (IntKind.u64.wrap (ByteArray.size a1 : Int)) hx3) rfl ent27 trivial (rowsOk_cons W_ R_ trivial) rfl rfl rfl rfl rfl rfl rfl rfl (.inr ⟨rfl, rfl, ⟨plain_map (fun _ => rfl), trivial⟩⟩)) ?_
 refine pm 10 (.str a1) ?_
 obtain ⟨g4, h⟩ := gd_some h
 refine pD 11 (do_append_str (l := x3) (f := enc5) W_ W_ ty39 ty5 zr5 (ty_str ty9) W_ (by first | exact .inl rfl | exact .inr ⟨rfl, rfl⟩) (fun _ => rfl) (g4)) ?_
 refine pa 4 (.own 11 0) ?_
 refine en hK2 ?_
 refine aw_ret ?_
 obtain rfl := Option.some.inj h
 exact ret_okR [(11, 0)] W_ W_ R_ (rowsOk_cons W_ R_ trivial) (nodup_b rfl) (.inr rfl) rfl
end Go.Proofs.Ytejimiedoibkcaa.Ab
namespace Go.Proofs.Ytejimiedoibkcaa.Ab
open Go Go.RowKit
set_option linter.unusedVariables false
set_option linter.unusedSimpArgs false
set_option maxRecDepth 100000
set_option maxHeartbeats 8000000
structure Trace where
  Hi : Int
  Lo : Int
  deriving DecidableEq
structure Attr where
  Key : ByteArray
  Value : ByteArray
  deriving DecidableEq
structure Span where
  Trace : Trace
  Id : Int
  Parent : Int
  Service : ByteArray
  Op : ByteArray
  Start : Int
  Dur : Int
  Err : Bool
  Attrs : List Attr
  deriving DecidableEq
def enc73 (x : Attr) : PV := .agg [.str x.Key, .str x.Value]
def enc58 (x : Span) : PV := .agg [.int .u64 x.Trace.Hi, .int .u64 x.Trace.Lo, .int .u64 x.Id, .int .u64 x.Parent, .str x.Service, .str x.Op, .int .i64 x.Start, .int .i64 x.Dur, .bool x.Err, .sl 2 (List.map enc73 x.Attrs)]
theorem ty45 : tyOf Try.prog 45 = some ⟨.slice 59, 1, 24, [.nil]⟩ := by kernel_rfl
theorem ty57 : tyOf Try.prog 57 = some ⟨.slice 74, 1, 24, [.nil]⟩ := by kernel_rfl
theorem ty59 : tyOf Try.prog 59 = some ⟨.struct [(0, 44), (2, 42), (3, 42), (4, 9), (5, 9), (6, 3), (7, 3), (8, 4), (9, 57)], 10, 112, [.int .u64 0, .int .u64 0, .int .u64 0, .int .u64 0, .str ByteArray.empty, .str ByteArray.empty, .int .i64 0, .int .i64 0, .bool false, .nil]⟩ := by kernel_rfl
theorem ty74 : tyOf Try.prog 74 = some ⟨.struct [(0, 9), (1, 9)], 2, 32, [.str ByteArray.empty, .str ByteArray.empty]⟩ := by kernel_rfl
theorem ent31 : Ent Try.prog 31 := ⟨_, Try.func31, by kernel_rfl, rfl⟩
def gleaninglaw3_Few_l1 (a0 : Span) (v3_1 : Int) : Option (Int ⊕ Bool) :=
 if (decide (v3_1 < (List.length a0.Attrs : Int))) = true then (gd (0 ≤ v3_1) (Option.bind (a0.Attrs[(Int.toNat v3_1)]?) (fun (x21 : Attr) => if (decide ((100 : Int) < (ByteArray.size x21.Key : Int))) = true then (some (Sum.inr false)) else (gd (0 ≤ v3_1) (Option.bind (a0.Attrs[(Int.toNat v3_1)]?) (fun (x25 : Attr) => if (decide ((100 : Int) < (ByteArray.size x25.Value : Int))) = true then (some (Sum.inr false)) else (some (Sum.inl (IntKind.i64.wrap (v3_1 + 1)))))))))) else (some (Sum.inr true))
def gleaninglaw3_Few_k0 (a0 : Span) : Option Bool :=
 loopN (fun (s : Int) => gleaninglaw3_Few_l1 a0 s) Fu 0
def gleaninglaw3_Few (a0 : Span) : Option Bool :=
 Option.bind (if (decide ((100 : Int) < (ByteArray.size a0.Service : Int))) = true then (some (Sum.inr false)) else (if (decide ((100 : Int) < (ByteArray.size a0.Op : Int))) = true then (some (Sum.inr false)) else (if (decide ((20 : Int) < (List.length a0.Attrs : Int))) = true then (some (Sum.inr false)) else (some (Sum.inl ()))))) (Sum.elim (fun (s : Unit) => gleaninglaw3_Few_k0 a0) some)
theorem gleaninglaw3_Few_ok (a0 : Span) {r : Bool} (h : gleaninglaw3_Few a0 = some r) : Ok Try.prog 31 [.agg [.int .u64 a0.Trace.Hi, .int .u64 a0.Trace.Lo, .int .u64 a0.Id, .int .u64 a0.Parent, .str a0.Service, .str a0.Op, .int .i64 a0.Start, .int .i64 a0.Dur, .bool a0.Err, .sl 2 (List.map enc73 a0.Attrs)]] [] [] (.bool r) [] [] := by
 unfold gleaninglaw3_Few at h
 refine ok_of_code Try.func31 rfl (by show (1 : Nat) ≤ _; decide) (Nat.le_refl _) fun X => ?_
 refine sr fun K1 hK1 => ?_
 refine pD 1 (do_box W_ rfl rfl) ?_
 refine pa 2 (.bool false) ?_
 refine en hK1 ?_
 obtain ⟨q2, h, hk3⟩ := bnd_some h
 refine aw_cut (fun s => gleaninglaw3_Few_k0 a0 = some r ∧ s = lit [(1, .ptr 1 0 0)] [((1, 0), .box [.int .u64 a0.Trace.Hi, .int .u64 a0.Trace.Lo, .int .u64 a0.Id, .int .u64 a0.Parent, .str a0.Service, .str a0.Op, .int .i64 a0.Start, .int .i64 a0.Dur, .bool a0.Err, .sl 2 (List.map enc73 a0.Attrs)])] [(1, 1)] X) ?_ ?_
 ·skip
  refine sr fun K4 hK4 => ?_
  refine pf 4 (.ptr 1 0 4) ty59 ty9 ?_
  refine pl 5 (.str a0.Service) ty9 ?_
  refine pP 6 (does_len_str W_ ty9) ?_
  refine pb 7 (.bool (decide ((100 : Int) < (ByteArray.size a0.Service : Int)))) ?_
  refine pm 8 (.bool (decide ((100 : Int) < (ByteArray.size a0.Service : Int)))) ?_
  refine al_bool (c := (decide ((100 : Int) < (ByteArray.size a0.Service : Int)))) 8 rfl (fun c5 => ?_) (fun c5 => ?_)
  ·have h := ifT c5 h
   refine pS 9 ?_
   refine pS 10 ?_
   refine pS 11 ?_
   refine pS 12 ?_
   refine pk 13 (.bool true) ?_
   refine pm 14 (.bool true) ?_
   refine pS 15 ?_
   refine pS 16 ?_
   refine pS 17 ?_
   refine pS 18 ?_
   refine pk 19 (.bool true) ?_
   refine en hK4 ?_
   refine aw_cond_t D_ rfl ?_
   refine sr fun K6 hK6 => ?_
   refine pa 2 (.bool false) ?_
   refine en hK6 ?_
   refine aw_ret ?_
   have h := leafR h hk3
   obtain rfl := Option.some.inj h
   exact ret_ok1 W_ W_ R_ (.inr rfl) rfl
  ·have h := ifF c5 h
   refine pf 9 (.ptr 1 0 5) ty59 ty9 ?_
   refine pl 10 (.str a0.Op) ty9 ?_
   refine pP 11 (does_len_str W_ ty9) ?_
   refine pb 12 (.bool (decide ((100 : Int) < (ByteArray.size a0.Op : Int)))) ?_
   refine pk 13 (.bool (decide ((100 : Int) < (ByteArray.size a0.Op : Int)))) ?_
   refine pm 14 (.bool (decide ((100 : Int) < (ByteArray.size a0.Op : Int)))) ?_
   refine al_bool (c := (decide ((100 : Int) < (ByteArray.size a0.Op : Int)))) 14 rfl (fun c7 => ?_) (fun c7 => ?_)
   ·have h := ifT c7 h
    refine pS 15 ?_
    refine pS 16 ?_
    refine pS 17 ?_
    refine pS 18 ?_
    refine pk 19 (.bool true) ?_
    refine en hK4 ?_
    refine aw_cond_t D_ rfl ?_
    refine sr fun K8 hK8 => ?_
    refine pa 2 (.bool false) ?_
    refine en hK8 ?_
    refine aw_ret ?_
    have h := leafR h hk3
    obtain rfl := Option.some.inj h
    exact ret_ok1 W_ W_ R_ (.inr rfl) rfl
   ·have h := ifF c7 h
    refine pf 15 (.ptr 1 0 9) ty59 ty57 ?_
    refine pl 16 (.sl 2 (List.map enc73 a0.Attrs)) ty57 ?_
    refine pP 17 ((does_len_sl W_ ty57).castp (v' := .int .i64 (List.length a0.Attrs : Int)) (by exact len_map _)) ?_
    refine pb 18 (.bool (decide ((20 : Int) < (List.length a0.Attrs : Int)))) ?_
    refine pk 19 (.bool (decide ((20 : Int) < (List.length a0.Attrs : Int)))) ?_
    refine en hK4 ?_
    refine aw_bool (b := (decide ((20 : Int) < (List.length a0.Attrs : Int)))) 19 rfl (fun c9 => ?_) (fun c9 => ?_)
    ·have h := ifT c9 h
     refine aw_cond_t D_ rfl ?_
     refine sr fun K10 hK10 => ?_
     refine pa 2 (.bool false) ?_
     refine en hK10 ?_
     refine aw_ret ?_
     have h := leafR h hk3
     obtain rfl := Option.some.inj h
     exact ret_ok1 W_ W_ R_ (.inr rfl) rfl
    ·have h := ifF c9 h
     refine aw_cond_f D_ rfl ?_
     refine aw_skip ?_
     have h := leafL h hk3
     exact ⟨_, reb_lit [(1, .ptr 1 0 0)] [(1, 0)] [((1, 0), .box [.int .u64 a0.Trace.Hi, .int .u64 a0.Trace.Lo, .int .u64 a0.Id, .int .u64 a0.Parent, .str a0.Service, .str a0.Op, .int .i64 a0.Start, .int .i64 a0.Dur, .bool a0.Err, .sl 2 (List.map enc73 a0.Attrs)])] [(1, 1)] (ec envOk_nil) (objOk_cons W_ W_ R_ (by simp) objOk_nil) (nodup_b rfl) (nodup_b rfl) rfl rfl, h, rfl⟩
 ·rintro s ⟨h, rfl⟩
  unfold gleaninglaw3_Few_k0 at h
  refine aw_seq_k (fun K11 hK11 => ?_)
  refine sr fun K12 hK12 => ?_
  refine pa 3 (.int .i64 0) ?_
  refine en hK12 ?_
  refine aw_block ?_
  refine aw_loop' (fun m s => ∃ (v3_1 : Int), loopN (fun (s : Int) => gleaninglaw3_Few_l1 a0 s) m v3_1 = some r ∧ s = lit [(1, .ptr 1 0 0), (3, .int .i64 v3_1)] [((1, 0), .box [.int .u64 a0.Trace.Hi, .int .u64 a0.Trace.Lo, .int .u64 a0.Id, .int .u64 a0.Parent, .str a0.Service, .str a0.Op, .int .i64 a0.Start, .int .i64 a0.Dur, .bool a0.Err, .sl 2 (List.map enc73 a0.Attrs)])] [(1, 1)] X) Fu
   ⟨_, reb_lit [(1, .ptr 1 0 0), (3, .int .i64 (0))] [(1, 0)] [((1, 0), .box [.int .u64 a0.Trace.Hi, .int .u64 a0.Trace.Lo, .int .u64 a0.Id, .int .u64 a0.Parent, .str a0.Service, .str a0.Op, .int .i64 a0.Start, .int .i64 a0.Dur, .bool a0.Err, .sl 2 (List.map enc73 a0.Attrs)])] [(1, 1)] (ec (ec envOk_nil)) (objOk_cons W_ W_ R_ (by simp) objOk_nil) (nodup_b rfl) (nodup_b rfl) rfl rfl, 0, h, rfl⟩ ?_
  rintro m s ⟨v3_1, h, rfl⟩
  obtain ⟨m1, q13, rfl, h, hq14⟩ := loop_some h
  replace h : gleaninglaw3_Few_l1 a0 v3_1 = some q13 := h
  unfold gleaninglaw3_Few_l1 at h
  refine aw_seq_k (fun K15 hK15 => ?_)
  refine sr fun K16 hK16 => ?_
  refine pm 20 (.int .i64 v3_1) ?_
  refine pf 21 (.ptr 1 0 9) ty59 ty57 ?_
  refine pl 22 (.sl 2 (List.map enc73 a0.Attrs)) ty57 ?_
  refine pP 23 ((does_len_sl W_ ty57).castp (v' := .int .i64 (List.length a0.Attrs : Int)) (by exact len_map _)) ?_
  refine pb 24 (.bool (decide (v3_1 < (List.length a0.Attrs : Int)))) ?_
  refine en hK16 ?_
  refine aw_bool (b := (decide (v3_1 < (List.length a0.Attrs : Int)))) 24 rfl (fun c17 => ?_) (fun c17 => ?_)
  ·have h := ifT c17 h
   refine aw_cond_t D_ rfl ?_
   refine aw_skip ?_
   refine hK15 _ ?_
   refine aw_seq_k (fun K18 hK18 => ?_)
   refine aw_block ?_
   refine sr fun K19 hK19 => ?_
   refine pf 27 (.ptr 1 0 9) ty59 ty57 ?_
   refine pl 28 (.sl 2 (List.map enc73 a0.Attrs)) ty57 ?_
   refine pm 29 (.int .i64 v3_1) ?_
   obtain ⟨g20, h⟩ := gd_some h
   obtain ⟨x21, hx21, h⟩ := bnd_some h
   refine pP 30 (does_indexAddr_sl (el := .agg [.str x21.Key, .str x21.Value]) W_ W_ ty57 ty74 g20 (by exact map_get hx21)) ?_
   refine pf 31 (.rptr [.str x21.Key, .str x21.Value]) ty74 ty9 ?_
   refine pl 32 (.str x21.Key) ty9 ?_
   refine pP 33 (does_len_str W_ ty9) ?_
   refine pb 34 (.bool (decide ((100 : Int) < (ByteArray.size x21.Key : Int)))) ?_
   refine pm 35 (.bool (decide ((100 : Int) < (ByteArray.size x21.Key : Int)))) ?_
   refine al_bool (c := (decide ((100 : Int) < (ByteArray.size x21.Key : Int)))) 35 rfl (fun c22 => ?_) (fun c22 => ?_)
   ·have h := ifT c22 h
    refine pS 36 ?_
    refine pS 37 ?_
    refine pS 38 ?_
    refine pS 39 ?_
    refine pS 40 ?_
    refine pS 41 ?_
    refine pS 42 ?_
    refine pS 43 ?_
    refine pk 44 (.bool true) ?_
    refine en hK19 ?_
    refine aw_cond_t D_ rfl ?_
    refine sr fun K23 hK23 => ?_
    refine pa 2 (.bool false) ?_
    refine en hK23 ?_
    refine aw_ret ?_
    have h := leafR h hq14
    obtain rfl := Option.some.inj h
    exact ret_ok1 W_ W_ R_ (.inr rfl) rfl
   ·have h := ifF c22 h
    refine pf 36 (.ptr 1 0 9) ty59 ty57 ?_
    refine pl 37 (.sl 2 (List.map enc73 a0.Attrs)) ty57 ?_
    refine pm 38 (.int .i64 v3_1) ?_
    obtain ⟨g24, h⟩ := gd_some h
    obtain ⟨x25, hx25, h⟩ := bnd_some h
    refine pP 39 (does_indexAddr_sl (el := .agg [.str x25.Key, .str x25.Value]) W_ W_ ty57 ty74 g24 (by exact map_get hx25)) ?_
    refine pf 40 (.rptr [.str x25.Value]) ty74 ty9 ?_
    refine pl 41 (.str x25.Value) ty9 ?_
    refine pP 42 (does_len_str W_ ty9) ?_
    refine pb 43 (.bool (decide ((100 : Int) < (ByteArray.size x25.Value : Int)))) ?_
    refine pk 44 (.bool (decide ((100 : Int) < (ByteArray.size x25.Value : Int)))) ?_
    refine en hK19 ?_
    refine aw_bool (b := (decide ((100 : Int) < (ByteArray.size x25.Value : Int)))) 44 rfl (fun c26 => ?_) (fun c26 => ?_)
    ·have h := ifT c26 h
     refine aw_cond_t D_ rfl ?_
     refine sr fun K27 hK27 => ?_
     refine pa 2 (.bool false) ?_
     refine en hK27 ?_
     refine aw_ret ?_
     have h := leafR h hq14
     obtain rfl := Option.some.inj h
     exact ret_ok1 W_ W_ R_ (.inr rfl) rfl
    ·have h := ifF c26 h
     refine aw_cond_f D_ rfl ?_
     refine aw_skip ?_
     refine hK18 _ ?_
     refine aw_regL ?_
     refine pm 25 (.int .i64 v3_1) ?_
     refine pb 26 (.int .i64 (IntKind.i64.wrap (v3_1 + 1))) ?_
     refine pa 3 (.int .i64 (IntKind.i64.wrap (v3_1 + 1))) ?_
     refine al_nil ?_
     have h := leafL h hq14
     exact ⟨m1, Nat.lt_succ_self _, _, reb_lit [(1, .ptr 1 0 0), (3, .int .i64 (IntKind.i64.wrap (v3_1 + 1)))] [(1, 0)] [((1, 0), .box [.int .u64 a0.Trace.Hi, .int .u64 a0.Trace.Lo, .int .u64 a0.Id, .int .u64 a0.Parent, .str a0.Service, .str a0.Op, .int .i64 a0.Start, .int .i64 a0.Dur, .bool a0.Err, .sl 2 (List.map enc73 a0.Attrs)])] [(1, 1)] (ec (ec envOk_nil)) (objOk_cons W_ W_ R_ (by simp) objOk_nil) (nodup_b rfl) (nodup_b rfl) rfl rfl, (IntKind.i64.wrap (v3_1 + 1)), h, rfl⟩
  ·have h := ifF c17 h
   refine aw_cond_f D_ rfl ?_
   refine aw_exit ?_
   have h := leafR h hq14
   refine hK11 _ ?_
   refine sr fun K28 hK28 => ?_
   refine pa 2 (.bool true) ?_
   refine en hK28 ?_
   refine aw_ret ?_
   obtain rfl := Option.some.inj h
   exact ret_ok1 W_ W_ R_ (.inr rfl) rfl
theorem sh42 : ∀ (m : Nat) (cs : List PV), Shape Try.prog m 42 cs → ∃ a : Int, cs = [.int .u64 a] ∧ (inI .u64 a) := fun m cs h => shape_i h Try.underlying42
def Trace.wf (a : Trace) : Prop := (inI .u64 a.Hi) ∧ (inI .u64 a.Lo)
theorem sh44 : ∀ (m : Nat) (cs : List PV), Shape Try.prog m 44 cs → ∃ a : Trace, cs = [.int .u64 a.Hi, .int .u64 a.Lo] ∧ (Trace.wf a) := fun m cs h => by
 obtain ⟨hl, m, hf⟩ := shape_struct h Try.underlying44
 have f0 := hf 0 _ rfl
 obtain ⟨a0, e0, w0⟩ := sh42 m _ f0
 rw [show Try.prog.cellsOf _ = 1 by kernel_rfl] at e0
 have f1 := hf 1 _ rfl
 obtain ⟨a1, e1, w1⟩ := sh42 m _ f1
 rw [show Try.prog.cellsOf _ = 1 by kernel_rfl] at e1
 exact ⟨⟨a0, a1⟩, tile_all (l := [(1, [.int .u64 a0]), (1, [.int .u64 a1])]) ⟨e0, e1, trivial⟩ hl (by kernel_rfl), ⟨w0, w1⟩⟩
theorem sh9 : ∀ (m : Nat) (cs : List PV), Shape Try.prog m 9 cs → ∃ a : ByteArray, cs = [.str a] ∧ ((ByteArray.size a) ≤ maxLen) := fun m cs h => shape_str h Try.underlying9
theorem sh3 : ∀ (m : Nat) (cs : List PV), Shape Try.prog m 3 cs → ∃ a : Int, cs = [.int .i64 a] ∧ (inI .i64 a) := fun m cs h => shape_i h Try.underlying3
theorem sh4 : ∀ (m : Nat) (cs : List PV), Shape Try.prog m 4 cs → ∃ a : Bool, cs = [.bool a] ∧ True := fun m cs h => shape_b h Try.underlying4
def Attr.wf (a : Attr) : Prop := ((ByteArray.size a.Key) ≤ maxLen) ∧ ((ByteArray.size a.Value) ≤ maxLen)
theorem sh74 : ∀ (m : Nat) (cs : List PV), Shape Try.prog m 74 cs → ∃ a : Attr, cs = [.str a.Key, .str a.Value] ∧ (Attr.wf a) := fun m cs h => by
 obtain ⟨hl, m, hf⟩ := shape_struct h Try.underlying74
 have f0 := hf 0 _ rfl
 obtain ⟨a0, e0, w0⟩ := sh9 m _ f0
 rw [show Try.prog.cellsOf _ = 1 by kernel_rfl] at e0
 have f1 := hf 1 _ rfl
 obtain ⟨a1, e1, w1⟩ := sh9 m _ f1
 rw [show Try.prog.cellsOf _ = 1 by kernel_rfl] at e1
 exact ⟨⟨a0, a1⟩, tile_all (l := [(1, [.str a0]), (1, [.str a1])]) ⟨e0, e1, trivial⟩ hl (by kernel_rfl), ⟨w0, w1⟩⟩
theorem sh57 : ∀ (m : Nat) (cs : List PV), Shape Try.prog m 57 cs → ∃ a : List Attr, cs = [.sl 2 (List.map enc73 a)] ∧ ((List.length a) ≤ maxLen ∧ ∀ y ∈ a, Attr.wf y) := fun m cs h => by
 obtain ⟨l, h1, h2, h3⟩ := shape_rows (f := enc73) (Q := fun y => Attr.wf y) h Try.underlying57 (fun m ps hs => by
  obtain ⟨a, rfl, hw⟩ := sh74 m ps hs
  exact ⟨a, by rw [show aggT Try.prog 74 = true by kernel_rfl]; rfl, hw⟩)
 exact ⟨l, h1.trans (by rw [show Try.prog.cellsOf 74 = 2 by kernel_rfl]), h2, h3⟩
def Span.wf (a : Span) : Prop := (Trace.wf a.Trace) ∧ (inI .u64 a.Id) ∧ (inI .u64 a.Parent) ∧ ((ByteArray.size a.Service) ≤ maxLen) ∧ ((ByteArray.size a.Op) ≤ maxLen) ∧ (inI .i64 a.Start) ∧ (inI .i64 a.Dur) ∧ True ∧ ((List.length a.Attrs) ≤ maxLen ∧ ∀ y ∈ a.Attrs, Attr.wf y)
theorem sh59 : ∀ (m : Nat) (cs : List PV), Shape Try.prog m 59 cs → ∃ a : Span, cs = [.int .u64 a.Trace.Hi, .int .u64 a.Trace.Lo, .int .u64 a.Id, .int .u64 a.Parent, .str a.Service, .str a.Op, .int .i64 a.Start, .int .i64 a.Dur, .bool a.Err, .sl 2 (List.map enc73 a.Attrs)] ∧ (Span.wf a) := fun m cs h => by
 obtain ⟨hl, m, hf⟩ := shape_struct h Try.underlying59
 have f0 := hf 0 _ rfl
 obtain ⟨a0, e0, w0⟩ := sh44 m _ f0
 rw [show Try.prog.cellsOf _ = 2 by kernel_rfl] at e0
 have f1 := hf 1 _ rfl
 obtain ⟨a1, e1, w1⟩ := sh42 m _ f1
 rw [show Try.prog.cellsOf _ = 1 by kernel_rfl] at e1
 have f2 := hf 2 _ rfl
 obtain ⟨a2, e2, w2⟩ := sh42 m _ f2
 rw [show Try.prog.cellsOf _ = 1 by kernel_rfl] at e2
 have f3 := hf 3 _ rfl
 obtain ⟨a3, e3, w3⟩ := sh9 m _ f3
 rw [show Try.prog.cellsOf _ = 1 by kernel_rfl] at e3
 have f4 := hf 4 _ rfl
 obtain ⟨a4, e4, w4⟩ := sh9 m _ f4
 rw [show Try.prog.cellsOf _ = 1 by kernel_rfl] at e4
 have f5 := hf 5 _ rfl
 obtain ⟨a5, e5, w5⟩ := sh3 m _ f5
 rw [show Try.prog.cellsOf _ = 1 by kernel_rfl] at e5
 have f6 := hf 6 _ rfl
 obtain ⟨a6, e6, w6⟩ := sh3 m _ f6
 rw [show Try.prog.cellsOf _ = 1 by kernel_rfl] at e6
 have f7 := hf 7 _ rfl
 obtain ⟨a7, e7, w7⟩ := sh4 m _ f7
 rw [show Try.prog.cellsOf _ = 1 by kernel_rfl] at e7
 have f8 := hf 8 _ rfl
 obtain ⟨a8, e8, w8⟩ := sh57 m _ f8
 rw [show Try.prog.cellsOf _ = 1 by kernel_rfl] at e8
 exact ⟨⟨a0, a1, a2, a3, a4, a5, a6, a7, a8⟩, tile_all (l := [(2, [.int .u64 a0.Hi, .int .u64 a0.Lo]), (1, [.int .u64 a1]), (1, [.int .u64 a2]), (1, [.str a3]), (1, [.str a4]), (1, [.int .i64 a5]), (1, [.int .i64 a6]), (1, [.bool a7]), (1, [.sl 2 (List.map enc73 a8)])]) ⟨e0, e1, e2, e3, e4, e5, e6, e7, e8, trivial⟩ hl (by kernel_rfl), ⟨w0, w1, w2, w3, w4, w5, w6, w7, w8⟩⟩
def gleaninglaw3_FewAll_l0 (a0 : List Span) (v3_0 : Int) : Option (Int ⊕ Bool) :=
 if (decide (v3_0 < (List.length a0 : Int))) = true then (gd (0 ≤ v3_0) (Option.bind (a0[(Int.toNat v3_0)]?) (fun (x16 : Span) => Option.bind (gleaninglaw3_Few x16) (fun (x17 : Bool) => if (!x17) = true then (some (Sum.inr false)) else (some (Sum.inl (IntKind.i64.wrap (v3_0 + 1)))))))) else (some (Sum.inr true))
def gleaninglaw3_FewAll (a0 : List Span) : Option Bool :=
 if (decide ((60 : Int) < (List.length a0 : Int))) = true then (some false) else (loopN (fun (s : Int) => gleaninglaw3_FewAll_l0 a0 s) Fu 0)
theorem gleaninglaw3_FewAll_ok (a0 : List Span) {r : Bool} (h : gleaninglaw3_FewAll a0 = some r) : Ok Try.prog 23 [.sl 10 (List.map enc58 a0)] [] [] (.bool r) [] [] := by
 unfold gleaninglaw3_FewAll at h
 refine ok_of_code Try.func23 rfl (by show (1 : Nat) ≤ _; decide) (Nat.le_refl _) fun X => ?_
 refine sr fun K1 hK1 => ?_
 refine pa 2 (.bool false) ?_
 refine en hK1 ?_
 refine aw_seq_k (fun K2 hK2 => ?_)
 refine sr fun K3 hK3 => ?_
 refine pm 4 (.sl 10 (List.map enc58 a0)) ?_
 refine pP 5 ((does_len_sl W_ ty45).castp (v' := .int .i64 (List.length a0 : Int)) (by exact len_map _)) ?_
 refine pb 6 (.bool (decide ((60 : Int) < (List.length a0 : Int)))) ?_
 refine en hK3 ?_
 refine aw_bool (b := (decide ((60 : Int) < (List.length a0 : Int)))) 6 rfl (fun c4 => ?_) (fun c4 => ?_)
 ·have h := ifT c4 h
  refine aw_cond_t D_ rfl ?_
  refine sr fun K5 hK5 => ?_
  refine pa 2 (.bool false) ?_
  refine en hK5 ?_
  refine aw_ret ?_
  obtain rfl := Option.some.inj h
  exact ret_ok1 W_ W_ R_ (.inr rfl) rfl
 ·have h := ifF c4 h
  refine aw_cond_f D_ rfl ?_
  refine aw_skip ?_
  refine hK2 _ ?_
  refine aw_seq_k (fun K6 hK6 => ?_)
  refine sr fun K7 hK7 => ?_
  refine pa 3 (.int .i64 0) ?_
  refine en hK7 ?_
  refine aw_block ?_
  refine aw_loop' (fun m s => ∃ (v3_0 : Int), loopN (fun (s : Int) => gleaninglaw3_FewAll_l0 a0 s) m v3_0 = some r ∧ s = lit [(0, .sl 10 (List.map enc58 a0)), (3, .int .i64 v3_0)] [] [] X) Fu
   ⟨_, reb_lit [(0, .sl 10 (List.map enc58 a0)), (3, .int .i64 (0))] [] [] [] (ec (ec envOk_nil)) objOk_nil (nodup_b rfl) (nodup_b rfl) rfl rfl, 0, h, rfl⟩ ?_
  rintro m s ⟨v3_0, h, rfl⟩
  obtain ⟨m0, q8, rfl, h, hq9⟩ := loop_some h
  replace h : gleaninglaw3_FewAll_l0 a0 v3_0 = some q8 := h
  unfold gleaninglaw3_FewAll_l0 at h
  refine aw_seq_k (fun K10 hK10 => ?_)
  refine sr fun K11 hK11 => ?_
  refine pm 7 (.int .i64 v3_0) ?_
  refine pm 8 (.sl 10 (List.map enc58 a0)) ?_
  refine pP 9 ((does_len_sl W_ ty45).castp (v' := .int .i64 (List.length a0 : Int)) (by exact len_map _)) ?_
  refine pb 10 (.bool (decide (v3_0 < (List.length a0 : Int)))) ?_
  refine en hK11 ?_
  refine aw_bool (b := (decide (v3_0 < (List.length a0 : Int)))) 10 rfl (fun c12 => ?_) (fun c12 => ?_)
  ·have h := ifT c12 h
   refine aw_cond_t D_ rfl ?_
   refine aw_skip ?_
   refine hK10 _ ?_
   refine aw_seq_k (fun K13 hK13 => ?_)
   refine aw_block ?_
   refine sr fun K14 hK14 => ?_
   refine pm 13 (.sl 10 (List.map enc58 a0)) ?_
   refine pm 14 (.int .i64 v3_0) ?_
   obtain ⟨g15, h⟩ := gd_some h
   obtain ⟨x16, hx16, h⟩ := bnd_some h
   refine pP 15 (does_indexAddr_sl (el := .agg [.int .u64 x16.Trace.Hi, .int .u64 x16.Trace.Lo, .int .u64 x16.Id, .int .u64 x16.Parent, .str x16.Service, .str x16.Op, .int .i64 x16.Start, .int .i64 x16.Dur, .bool x16.Err, .sl 2 (List.map enc73 x16.Attrs)]) W_ W_ ty45 ty59 g15 (by exact map_get hx16)) ?_
   refine pl 16 (.agg [.int .u64 x16.Trace.Hi, .int .u64 x16.Trace.Lo, .int .u64 x16.Id, .int .u64 x16.Parent, .str x16.Service, .str x16.Op, .int .i64 x16.Start, .int .i64 x16.Dur, .bool x16.Err, .sl 2 (List.map enc73 x16.Attrs)]) ty59 ?_
   obtain ⟨x17, hx17, h⟩ := bnd_some h
   refine pD 17 (do_call0 17 false (gleaninglaw3_Few_ok x16 hx17) rfl ent31 rfl rfl) ?_
   refine pP 18 (does_un (v := .bool (!x17)) W_ rfl) ?_
   refine en hK14 ?_
   refine aw_bool (b := (!x17)) 18 rfl (fun c18 => ?_) (fun c18 => ?_)
   ·have h := ifT c18 h
    refine aw_cond_t D_ rfl ?_
    refine sr fun K19 hK19 => ?_
    refine pa 2 (.bool false) ?_
    refine en hK19 ?_
    refine aw_ret ?_
    have h := leafR h hq9
    obtain rfl := Option.some.inj h
    exact ret_ok1 W_ W_ R_ (.inr rfl) rfl
   ·have h := ifF c18 h
    refine aw_cond_f D_ rfl ?_
    refine aw_skip ?_
    refine hK13 _ ?_
    refine aw_regL ?_
    refine pm 11 (.int .i64 v3_0) ?_
    refine pb 12 (.int .i64 (IntKind.i64.wrap (v3_0 + 1))) ?_
    refine pa 3 (.int .i64 (IntKind.i64.wrap (v3_0 + 1))) ?_
    refine al_nil ?_
    have h := leafL h hq9
    exact ⟨m0, Nat.lt_succ_self _, _, reb_lit [(0, .sl 10 (List.map enc58 a0)), (3, .int .i64 (IntKind.i64.wrap (v3_0 + 1)))] [] [] [] (ec (ec envOk_nil)) objOk_nil (nodup_b rfl) (nodup_b rfl) rfl rfl, (IntKind.i64.wrap (v3_0 + 1)), h, rfl⟩
  ·have h := ifF c12 h
   refine aw_cond_f D_ rfl ?_
   refine aw_exit ?_
   have h := leafR h hq9
   refine hK6 _ ?_
   refine sr fun K20 hK20 => ?_
   refine pa 2 (.bool true) ?_
   refine en hK20 ?_
   refine aw_ret ?_
   obtain rfl := Option.some.inj h
   exact ret_ok1 W_ W_ R_ (.inr rfl) rfl
theorem sh45 : ∀ (m : Nat) (cs : List PV), Shape Try.prog m 45 cs → ∃ a : List Span, cs = [.sl 10 (List.map enc58 a)] ∧ ((List.length a) ≤ maxLen ∧ ∀ y ∈ a, Span.wf y) := fun m cs h => by
 obtain ⟨l, h1, h2, h3⟩ := shape_rows (f := enc58) (Q := fun y => Span.wf y) h Try.underlying45 (fun m ps hs => by
  obtain ⟨a, rfl, hw⟩ := sh59 m ps hs
  exact ⟨a, by rw [show aggT Try.prog 59 = true by kernel_rfl]; rfl, hw⟩)
 exact ⟨l, h1.trans (by rw [show Try.prog.cellsOf 59 = 10 by kernel_rfl]), h2, h3⟩
end Go.Proofs.Ytejimiedoibkcaa.Ab
namespace Go.Proofs.Ytejimiedoibkcaa.Ab
open Go Go.RowKit
set_option linter.unusedVariables false
set_option linter.unusedSimpArgs false
set_option maxRecDepth 100000
set_option maxHeartbeats 8000000
theorem ty4 : tyOf Try.prog 4 = some ⟨.bool, 1, 1, [.bool false]⟩ := by kernel_rfl
theorem ty44 : tyOf Try.prog 44 = some ⟨.struct [(0, 42), (1, 42)], 2, 16, [.int .u64 0, .int .u64 0]⟩ := by kernel_rfl
theorem ent48 : Ent Try.prog 48 := ⟨_, Try.func48, by kernel_rfl, rfl⟩
theorem ent60 : Ent Try.prog 60 := ⟨_, Try.func60, by kernel_rfl, rfl⟩
theorem ent64 : Ent Try.prog 64 := ⟨_, Try.func64, by kernel_rfl, rfl⟩
theorem ent65 : Ent Try.prog 65 := ⟨_, Try.func65, by kernel_rfl, rfl⟩
theorem ent66 : Ent Try.prog 66 := ⟨_, Try.func66, by kernel_rfl, rfl⟩
theorem ent67 : Ent Try.prog 67 := ⟨_, Try.func67, by kernel_rfl, rfl⟩
theorem ent68 : Ent Try.prog 68 := ⟨_, Try.func68, by kernel_rfl, rfl⟩
theorem ent69 : Ent Try.prog 69 := ⟨_, Try.func69, by kernel_rfl, rfl⟩
theorem ent70 : Ent Try.prog 70 := ⟨_, Try.func70, by kernel_rfl, rfl⟩
theorem ent71 : Ent Try.prog 71 := ⟨_, Try.func71, by kernel_rfl, rfl⟩
theorem ent72 : Ent Try.prog 72 := ⟨_, Try.func72, by kernel_rfl, rfl⟩
def span_Name (a0 : ByteArray) : Option Bool :=
 if (decide ((1 : Int) ≤ (ByteArray.size a0 : Int))) = true then (some (decide ((ByteArray.size a0 : Int) ≤ 16))) else (some false)
theorem span_Name_ok (a0 : ByteArray) {r : Bool} (h : span_Name a0 = some r) : Ok Try.prog 68 [.str a0] [] [] (.bool r) [] [] := by
 unfold span_Name at h
 refine ok_of_code Try.func68 rfl (by show (1 : Nat) ≤ _; decide) (Nat.le_refl _) fun X => ?_
 refine sr fun K1 hK1 => ?_
 refine pa 2 (.bool false) ?_
 refine en hK1 ?_
 refine sr fun K2 hK2 => ?_
 refine pm 3 (.str a0) ?_
 refine pP 4 (does_len_str W_ ty9) ?_
 refine pb 5 (.bool (decide ((1 : Int) ≤ (ByteArray.size a0 : Int)))) ?_
 refine pm 6 (.bool (decide ((1 : Int) ≤ (ByteArray.size a0 : Int)))) ?_
 refine al_bool (c := (decide ((1 : Int) ≤ (ByteArray.size a0 : Int)))) 6 rfl (fun c3 => ?_) (fun c3 => ?_)
 ·have h := ifT c3 h
  refine pm 7 (.str a0) ?_
  refine pP 8 (does_len_str W_ ty9) ?_
  refine pb 9 (.bool (decide ((ByteArray.size a0 : Int) ≤ 16))) ?_
  refine pk 10 (.bool (decide ((ByteArray.size a0 : Int) ≤ 16))) ?_
  refine pa 2 (.bool (decide ((ByteArray.size a0 : Int) ≤ 16))) ?_
  refine en hK2 ?_
  refine aw_ret ?_
  obtain rfl := Option.some.inj h
  exact ret_ok1 W_ W_ R_ (.inr rfl) rfl
 ·have h := ifF c3 h
  refine pS 7 ?_
  refine pS 8 ?_
  refine pS 9 ?_
  refine pk 10 (.bool false) ?_
  refine pa 2 (.bool false) ?_
  refine en hK2 ?_
  refine aw_ret ?_
  obtain rfl := Option.some.inj h
  exact ret_ok1 W_ W_ R_ (.inr rfl) rfl
def span_attrs_c1 (a0 : Attr) (a1 : Attr) : Option Bool :=
 some (ByteArray.toList a0.Key == ByteArray.toList a1.Key)
theorem span_attrs_c1_ok (a0 : Attr) (a1 : Attr) {r : Bool} (h : span_attrs_c1 a0 a1 = some r) : Ok Try.prog 71 [.agg [.str a0.Key, .str a0.Value], .rptr [.str a1.Key, .str a1.Value]] [] [] (.bool r) [] [] := by
 unfold span_attrs_c1 at h
 refine ok_of_code Try.func71 rfl (by show (2 : Nat) ≤ _; decide) (Nat.le_refl _) fun X => ?_
 refine sr fun K1 hK1 => ?_
 refine pD 2 (do_box W_ rfl rfl) ?_
 refine pa 3 (.bool false) ?_
 refine en hK1 ?_
 refine sr fun K2 hK2 => ?_
 refine pf 4 (.ptr 2 0 0) ty74 ty9 ?_
 refine pl 5 (.str a0.Key) ty9 ?_
 refine pf 6 (.rptr [.str a1.Key, .str a1.Value]) ty74 ty9 ?_
 refine pl 7 (.str a1.Key) ty9 ?_
 refine pb 8 (.bool (ByteArray.toList a0.Key == ByteArray.toList a1.Key)) ?_
 refine pa 3 (.bool (ByteArray.toList a0.Key == ByteArray.toList a1.Key)) ?_
 refine en hK2 ?_
 refine aw_ret ?_
 obtain rfl := Option.some.inj h
 exact ret_ok1 W_ W_ R_ (.inr rfl) rfl
def slices_IndexFunc_Attr_span_attrs_c1_l0 (a0 : List Attr) (a1_0 : Attr) (v8_0 : Int) : Option (Int ⊕ Int) :=
 if (decide (v8_0 < (List.length a0 : Int))) = true then (gd (0 ≤ v8_0) (Option.bind (a0[(Int.toNat v8_0)]?) (fun (x13 : Attr) => Option.bind (span_attrs_c1 x13 a1_0) (fun (x14 : Bool) => if x14 = true then (some (Sum.inr v8_0)) else (some (Sum.inl (IntKind.i64.wrap (v8_0 + 1)))))))) else (some (Sum.inr (-1)))
def slices_IndexFunc_Attr_span_attrs_c1 (a0 : List Attr) (a1_0 : Attr) : Option Int :=
 loopN (fun (s : Int) => slices_IndexFunc_Attr_span_attrs_c1_l0 a0 a1_0 s) Fu 0
theorem slices_IndexFunc_Attr_span_attrs_c1_ok (a0 : List Attr) (a1_0 : Attr) {r : Int} (h : slices_IndexFunc_Attr_span_attrs_c1 a0 a1_0 = some r) : Ok Try.prog 72 [.sl 2 (List.map enc73 a0), .fn 71 [.rptr [.str a1_0.Key, .str a1_0.Value]]] [] [] (.int .i64 r) [] [] := by
 unfold slices_IndexFunc_Attr_span_attrs_c1 at h
 refine ok_of_code Try.func72 rfl (by show (2 : Nat) ≤ _; decide) (Nat.le_refl _) fun X => ?_
 refine sr fun K1 hK1 => ?_
 refine pa 4 (.int .i64 0) ?_
 refine en hK1 ?_
 refine aw_seq_k (fun K2 hK2 => ?_)
 refine sr fun K3 hK3 => ?_
 refine pm 6 (.sl 2 (List.map enc73 a0)) ?_
 refine pP 7 ((does_len_sl W_ ty57).castp (v' := .int .i64 (List.length a0 : Int)) (by exact len_map _)) ?_
 refine pm 8 (.int .i64 0) ?_
 refine en hK3 ?_
 refine aw_block ?_
 refine aw_loop' (fun m s => ∃ (v8_0 : Int), loopN (fun (s : Int) => slices_IndexFunc_Attr_span_attrs_c1_l0 a0 a1_0 s) m v8_0 = some r ∧ s = lit [(0, .sl 2 (List.map enc73 a0)), (1, .fn 71 [.rptr [.str a1_0.Key, .str a1_0.Value]]), (7, .int .i64 (List.length a0 : Int)), (8, .int .i64 v8_0)] [] [] X) Fu
  ⟨_, reb_lit [(0, .sl 2 (List.map enc73 a0)), (1, .fn 71 [.rptr [.str a1_0.Key, .str a1_0.Value]]), (7, .int .i64 (List.length a0 : Int)), (8, .int .i64 (0))] [] [] [] (ec (ec (ec (ec envOk_nil)))) objOk_nil (nodup_b rfl) (nodup_b rfl) rfl rfl, 0, h, rfl⟩ ?_
 rintro m s ⟨v8_0, h, rfl⟩
 obtain ⟨m0, q4, rfl, h, hq5⟩ := loop_some h
 replace h : slices_IndexFunc_Attr_span_attrs_c1_l0 a0 a1_0 v8_0 = some q4 := h
 unfold slices_IndexFunc_Attr_span_attrs_c1_l0 at h
 refine sr fun K6 hK6 => ?_
 refine pb 9 (.bool (decide (v8_0 < (List.length a0 : Int)))) ?_
 refine en hK6 ?_
 refine aw_seq_k (fun K7 hK7 => ?_)
 refine aw_bool (b := (decide (v8_0 < (List.length a0 : Int)))) 9 rfl (fun c8 => ?_) (fun c8 => ?_)
 ·have h := ifT c8 h
  refine aw_cond_t D_ rfl ?_
  refine aw_skip ?_
  refine hK7 _ ?_
  refine aw_seq_k (fun K9 hK9 => ?_)
  refine aw_block ?_
  refine sr fun K10 hK10 => ?_
  refine pm 10 (.int .i64 v8_0) ?_
  refine pa 5 (.int .i64 v8_0) ?_
  refine en hK10 ?_
  refine sr fun K11 hK11 => ?_
  refine pm 11 (.fn 71 [.rptr [.str a1_0.Key, .str a1_0.Value]]) ?_
  refine pm 12 (.sl 2 (List.map enc73 a0)) ?_
  refine pm 13 (.int .i64 v8_0) ?_
  obtain ⟨g12, h⟩ := gd_some h
  obtain ⟨x13, hx13, h⟩ := bnd_some h
  refine pP 14 (does_indexAddr_sl (el := .agg [.str x13.Key, .str x13.Value]) W_ W_ ty57 ty74 g12 (by exact map_get hx13)) ?_
  refine pl 15 (.agg [.str x13.Key, .str x13.Value]) ty74 ?_
  obtain ⟨x14, hx14, h⟩ := bnd_some h
  refine pD 16 (do_call0 16 false (span_attrs_c1_ok x13 a1_0 hx14) rfl ent71 rfl rfl) ?_
  refine en hK11 ?_
  refine aw_bool (b := x14) 16 rfl (fun c15 => ?_) (fun c15 => ?_)
  ·have h := ifT c15 h
   refine aw_cond_t D_ rfl ?_
   refine sr fun K16 hK16 => ?_
   refine pm 17 (.int .i64 v8_0) ?_
   refine pa 4 (.int .i64 v8_0) ?_
   refine en hK16 ?_
   refine aw_ret ?_
   have h := leafR h hq5
   obtain rfl := Option.some.inj h
   exact ret_ok1 W_ W_ R_ (.inr rfl) rfl
  ·have h := ifF c15 h
   refine aw_cond_f D_ rfl ?_
   refine aw_skip ?_
   refine hK9 _ ?_
   refine aw_regL ?_
   refine pb 18 (.int .i64 (IntKind.i64.wrap (v8_0 + 1))) ?_
   refine pm 8 (.int .i64 (IntKind.i64.wrap (v8_0 + 1))) ?_
   refine al_nil ?_
   have h := leafL h hq5
   exact ⟨m0, Nat.lt_succ_self _, _, reb_lit [(0, .sl 2 (List.map enc73 a0)), (1, .fn 71 [.rptr [.str a1_0.Key, .str a1_0.Value]]), (7, .int .i64 (List.length a0 : Int)), (8, .int .i64 (IntKind.i64.wrap (v8_0 + 1)))] [] [] [] (ec (ec (ec (ec envOk_nil)))) objOk_nil (nodup_b rfl) (nodup_b rfl) rfl rfl, (IntKind.i64.wrap (v8_0 + 1)), h, rfl⟩
 ·have h := ifF c8 h
  refine aw_cond_f D_ rfl ?_
  refine aw_exit ?_
  have h := leafR h hq5
  refine hK2 _ ?_
  refine sr fun K17 hK17 => ?_
  refine pa 4 (.int .i64 (-1)) ?_
  refine en hK17 ?_
  refine aw_ret ?_
  obtain rfl := Option.some.inj h
  exact ret_ok1 W_ W_ R_ (.inr rfl) rfl
def slices_ContainsFunc_Attr_span_attrs_c1 (a0 : List Attr) (a1_0 : Attr) : Option Bool :=
 Option.bind (slices_IndexFunc_Attr_span_attrs_c1 a0 a1_0) (fun (x3 : Int) => some (decide ((0 : Int) ≤ x3)))
theorem slices_ContainsFunc_Attr_span_attrs_c1_ok (a0 : List Attr) (a1_0 : Attr) {r : Bool} (h : slices_ContainsFunc_Attr_span_attrs_c1 a0 a1_0 = some r) : Ok Try.prog 70 [.sl 2 (List.map enc73 a0), .fn 71 [.rptr [.str a1_0.Key, .str a1_0.Value]]] [] [] (.bool r) [] [] := by
 unfold slices_ContainsFunc_Attr_span_attrs_c1 at h
 refine ok_of_code Try.func70 rfl (by show (2 : Nat) ≤ _; decide) (Nat.le_refl _) fun X => ?_
 refine sr fun K1 hK1 => ?_
 refine pa 4 (.bool false) ?_
 refine en hK1 ?_
 refine sr fun K2 hK2 => ?_
 refine pm 5 (.sl 2 (List.map enc73 a0)) ?_
 refine pm 6 (.fn 71 [.rptr [.str a1_0.Key, .str a1_0.Value]]) ?_
 obtain ⟨x3, hx3, h⟩ := bnd_some h
 refine pD 7 (do_call0 7 false (slices_IndexFunc_Attr_span_attrs_c1_ok a0 a1_0 hx3) rfl ent72 rfl rfl) ?_
 refine pb 8 (.bool (decide ((0 : Int) ≤ x3))) ?_
 refine pa 4 (.bool (decide ((0 : Int) ≤ x3))) ?_
 refine en hK2 ?_
 refine aw_ret ?_
 obtain rfl := Option.some.inj h
 exact ret_ok1 W_ W_ R_ (.inr rfl) rfl
def span_attrs_l1 (a0 : List Attr) (v7_1 : Int) : Option (Int ⊕ (Unit ⊕ Bool)) :=
 if (decide (v7_1 < (List.length a0 : Int))) = true then (gd (0 ≤ v7_1) (Option.bind (a0[(Int.toNat v7_1)]?) (fun (x13 : Attr) => Option.bind (span_Name x13.Key) (fun (x15 : Bool) => if (!x15) = true then (some (Sum.inr (Sum.inr false))) else (if (decide ((16 : Int) < (ByteArray.size x13.Value : Int))) = true then (some (Sum.inr (Sum.inr false))) else (gd (0 ≤ v7_1) (gd (v7_1 ≤ (List.length a0 : Int)) (Option.bind (slices_ContainsFunc_Attr_span_attrs_c1 (List.take (Int.toNat v7_1) a0) x13) (fun (x22 : Bool) => if x22 = true then (some (Sum.inr (Sum.inr false))) else (some (Sum.inl (IntKind.i64.wrap (v7_1 + 1))))))))))))) else (some (Sum.inr (Sum.inl ())))
def span_attrs_k0 (a0 : List Attr) : Option Bool :=
 some (decide ((List.length a0 : Int) ≤ 4))
def span_attrs (a0 : List Attr) : Option Bool :=
 Option.bind (loopN (fun (s : Int) => span_attrs_l1 a0 s) Fu 0) (Sum.elim (fun (s : Unit) => span_attrs_k0 a0) some)
theorem span_attrs_ok (a0 : List Attr) {r : Bool} (h : span_attrs a0 = some r) : Ok Try.prog 69 [.sl 2 (List.map enc73 a0)] [] [] (.bool r) [] [] := by
 unfold span_attrs at h
 refine ok_of_code Try.func69 rfl (by show (1 : Nat) ≤ _; decide) (Nat.le_refl _) fun X => ?_
 refine sr fun K1 hK1 => ?_
 refine pa 2 (.bool false) ?_
 refine en hK1 ?_
 obtain ⟨q2, h, hk3⟩ := bnd_some h
 refine aw_cut (fun s => span_attrs_k0 a0 = some r ∧ s = lit [(0, .sl 2 (List.map enc73 a0))] [] [] X) ?_ ?_
 ·skip
  refine sr fun K4 hK4 => ?_
  refine pm 5 (.sl 2 (List.map enc73 a0)) ?_
  refine pP 6 ((does_len_sl W_ ty57).castp (v' := .int .i64 (List.length a0 : Int)) (by exact len_map _)) ?_
  refine pm 7 (.int .i64 0) ?_
  refine en hK4 ?_
  refine aw_block ?_
  refine aw_loop' (fun m s => ∃ (v7_1 : Int), loopN (fun (s : Int) => span_attrs_l1 a0 s) m v7_1 = some q2 ∧ s = lit [(0, .sl 2 (List.map enc73 a0)), (5, .sl 2 (List.map enc73 a0)), (6, .int .i64 (List.length a0 : Int)), (7, .int .i64 v7_1)] [] [] X) Fu
   ⟨_, reb_lit [(0, .sl 2 (List.map enc73 a0)), (5, .sl 2 (List.map enc73 a0)), (6, .int .i64 (List.length a0 : Int)), (7, .int .i64 (0))] [] [] [] (ec (ec (ec (ec envOk_nil)))) objOk_nil (nodup_b rfl) (nodup_b rfl) rfl rfl, 0, h, rfl⟩ ?_
  rintro m s ⟨v7_1, h, rfl⟩
  obtain ⟨m1, q5, rfl, h, hq6⟩ := loop_some h
  replace h : span_attrs_l1 a0 v7_1 = some q5 := h
  unfold span_attrs_l1 at h
  refine sr fun K7 hK7 => ?_
  refine pb 8 (.bool (decide (v7_1 < (List.length a0 : Int)))) ?_
  refine en hK7 ?_
  refine aw_seq_k (fun K8 hK8 => ?_)
  refine aw_bool (b := (decide (v7_1 < (List.length a0 : Int)))) 8 rfl (fun c9 => ?_) (fun c9 => ?_)
  ·have h := ifT c9 h
   refine aw_cond_t D_ rfl ?_
   refine aw_skip ?_
   refine hK8 _ ?_
   refine aw_seq_k (fun K10 hK10 => ?_)
   refine aw_block ?_
   refine sr fun K11 hK11 => ?_
   refine pm 9 (.int .i64 v7_1) ?_
   obtain ⟨g12, h⟩ := gd_some h
   obtain ⟨x13, hx13, h⟩ := bnd_some h
   refine pP 10 (does_indexAddr_sl (el := .agg [.str x13.Key, .str x13.Value]) W_ W_ ty57 ty74 g12 (by exact map_get hx13)) ?_
   refine pl 11 (.agg [.str x13.Key, .str x13.Value]) ty74 ?_
   refine pD 4 (do_new ty74 rfl rfl) ?_
   refine pa 3 (.int .i64 v7_1) ?_
   refine alD none rfl rfl (do_store (cs' := [.str x13.Key, .str x13.Value]) W_ W_ W_ ty74 rfl rfl rfl R_) D_ ?_
   refine en hK11 ?_
   refine sr fun K14 hK14 => ?_
   refine pf 12 (.ptr 4 0 0) ty74 ty9 ?_
   refine pl 13 (.str x13.Key) ty9 ?_
   obtain ⟨x15, hx15, h⟩ := bnd_some h
   refine pD 14 (do_call0 14 false (span_Name_ok x13.Key hx15) rfl ent68 rfl rfl) ?_
   refine pP 15 (does_un (v := .bool (!x15)) W_ rfl) ?_
   refine pm 16 (.bool (!x15)) ?_
   refine al_bool (c := (!x15)) 16 rfl (fun c16 => ?_) (fun c16 => ?_)
   ·have h := ifT c16 h
    refine pS 17 ?_
    refine pS 18 ?_
    refine pS 19 ?_
    refine pS 20 ?_
    refine pk 21 (.bool true) ?_
    refine pm 22 (.bool true) ?_
    refine pS 23 ?_
    refine pS 24 ?_
    refine pS 25 ?_
    refine pS 26 ?_
    refine pS 27 ?_
    refine pk 28 (.bool true) ?_
    refine en hK14 ?_
    refine aw_cond_t D_ rfl ?_
    refine sr fun K17 hK17 => ?_
    refine pa 2 (.bool false) ?_
    refine en hK17 ?_
    refine aw_ret ?_
    have h := leafR h hq6
    have h := leafR h hk3
    obtain rfl := Option.some.inj h
    exact ret_ok1 W_ W_ R_ (.inr rfl) rfl
   ·have h := ifF c16 h
    refine pf 17 (.ptr 4 0 1) ty74 ty9 ?_
    refine pl 18 (.str x13.Value) ty9 ?_
    refine pP 19 (does_len_str W_ ty9) ?_
    refine pb 20 (.bool (decide ((16 : Int) < (ByteArray.size x13.Value : Int)))) ?_
    refine pk 21 (.bool (decide ((16 : Int) < (ByteArray.size x13.Value : Int)))) ?_
    refine pm 22 (.bool (decide ((16 : Int) < (ByteArray.size x13.Value : Int)))) ?_
    refine al_bool (c := (decide ((16 : Int) < (ByteArray.size x13.Value : Int)))) 22 rfl (fun c18 => ?_) (fun c18 => ?_)
    ·have h := ifT c18 h
     refine pS 23 ?_
     refine pS 24 ?_
     refine pS 25 ?_
     refine pS 26 ?_
     refine pS 27 ?_
     refine pk 28 (.bool true) ?_
     refine en hK14 ?_
     refine aw_cond_t D_ rfl ?_
     refine sr fun K19 hK19 => ?_
     refine pa 2 (.bool false) ?_
     refine en hK19 ?_
     refine aw_ret ?_
     have h := leafR h hq6
     have h := leafR h hk3
     obtain rfl := Option.some.inj h
     exact ret_ok1 W_ W_ R_ (.inr rfl) rfl
    ·have h := ifF c18 h
     refine pm 23 (.sl 2 (List.map enc73 a0)) ?_
     refine pm 24 (.int .i64 v7_1) ?_
     obtain ⟨g20, h⟩ := gd_some h
     obtain ⟨g21, h⟩ := gd_some h
     refine pP 25 (does_slice_sl (l := 0) (k := (Int.toNat v7_1)) W_ ty57 ty74 bd_none (bd_some W_ (by exact (nat_of (by omega)))) (by (try simp only [List.length_map]); omega) (by (try simp only [List.length_map]); omega) (by exact part_h _ _)) ?_
     refine pP 26 (does_makeFunc (vs := [.ptr 4 0 0]) rfl) ?_
     obtain ⟨x22, hx22, h⟩ := bnd_some h
     refine pD 27 (do_callG (bcs := []) [] [] [(4, 0)] 27 false (slices_ContainsFunc_Attr_span_attrs_c1_ok (List.take (Int.toNat v7_1) a0) x13 hx22) rfl ent70 trivial trivial rfl rfl rfl rfl rfl rfl rfl rfl (.inr ⟨rfl, rfl, trivial⟩)) ?_
     refine pk 28 (.bool x22) ?_
     refine en hK14 ?_
     refine aw_bool (b := x22) 28 rfl (fun c23 => ?_) (fun c23 => ?_)
     ·have h := ifT c23 h
      refine aw_cond_t D_ rfl ?_
      refine sr fun K24 hK24 => ?_
      refine pa 2 (.bool false) ?_
      refine en hK24 ?_
      refine aw_ret ?_
      have h := leafR h hq6
      have h := leafR h hk3
      obtain rfl := Option.some.inj h
      exact ret_ok1 W_ W_ R_ (.inr rfl) rfl
     ·have h := ifF c23 h
      refine aw_cond_f D_ rfl ?_
      refine aw_skip ?_
      refine hK10 _ ?_
      refine aw_regL ?_
      refine pb 29 (.int .i64 (IntKind.i64.wrap (v7_1 + 1))) ?_
      refine pm 7 (.int .i64 (IntKind.i64.wrap (v7_1 + 1))) ?_
      refine al_nil ?_
      have h := leafL h hq6
      exact ⟨m1, Nat.lt_succ_self _, _, reb_lit [(0, .sl 2 (List.map enc73 a0)), (5, .sl 2 (List.map enc73 a0)), (6, .int .i64 (List.length a0 : Int)), (7, .int .i64 (IntKind.i64.wrap (v7_1 + 1)))] [] [] [] (ec (ec (ec (ec envOk_nil)))) objOk_nil (nodup_b rfl) (nodup_b rfl) rfl rfl, (IntKind.i64.wrap (v7_1 + 1)), h, rfl⟩
  ·have h := ifF c9 h
   refine aw_cond_f D_ rfl ?_
   refine aw_exit ?_
   have h := leafR h hq6
   have h := leafL h hk3
   exact ⟨_, reb_lit [(0, .sl 2 (List.map enc73 a0))] [] [] [] (ec envOk_nil) objOk_nil (nodup_b rfl) (nodup_b rfl) rfl rfl, h, rfl⟩
 ·rintro s ⟨h, rfl⟩
  unfold span_attrs_k0 at h
  refine sr fun K25 hK25 => ?_
  refine pm 30 (.sl 2 (List.map enc73 a0)) ?_
  refine pP 31 ((does_len_sl W_ ty57).castp (v' := .int .i64 (List.length a0 : Int)) (by exact len_map _)) ?_
  refine pb 32 (.bool (decide ((List.length a0 : Int) ≤ 4))) ?_
  refine pa 2 (.bool (decide ((List.length a0 : Int) ≤ 4))) ?_
  refine en hK25 ?_
  refine aw_ret ?_
  obtain rfl := Option.some.inj h
  exact ret_ok1 W_ W_ R_ (.inr rfl) rfl
def span_Right (a0 : Span) : Option Bool :=
 Option.bind (span_Name a0.Service) (fun (x3 : Bool) => if x3 = true then (Option.bind (span_Name a0.Op) (fun (x5 : Bool) => if x5 = true then (if (decide ((0 : Int) ≤ a0.Start)) = true then (if (decide (a0.Start ≤ 1099511627776)) = true then (if (decide ((0 : Int) ≤ a0.Dur)) = true then (if (decide (a0.Dur ≤ 1073741824)) = true then (if (decide ((List.length a0.Attrs : Int) ≤ 4)) = true then (Option.bind (span_attrs a0.Attrs) (fun (x12 : Bool) => some x12)) else (some false)) else (some false)) else (some false)) else (some false)) else (some false)) else (some false))) else (some false))
theorem span_Right_ok (a0 : Span) {r : Bool} (h : span_Right a0 = some r) : Ok Try.prog 66 [.agg [.int .u64 a0.Trace.Hi, .int .u64 a0.Trace.Lo, .int .u64 a0.Id, .int .u64 a0.Parent, .str a0.Service, .str a0.Op, .int .i64 a0.Start, .int .i64 a0.Dur, .bool a0.Err, .sl 2 (List.map enc73 a0.Attrs)]] [] [] (.bool r) [] [] := by
 unfold span_Right at h
 refine ok_of_code Try.func66 rfl (by show (1 : Nat) ≤ _; decide) (Nat.le_refl _) fun X => ?_
 refine sr fun K1 hK1 => ?_
 refine pD 1 (do_box W_ rfl rfl) ?_
 refine pa 2 (.bool false) ?_
 refine en hK1 ?_
 refine sr fun K2 hK2 => ?_
 refine pf 3 (.ptr 1 0 4) ty59 ty9 ?_
 refine pl 4 (.str a0.Service) ty9 ?_
 obtain ⟨x3, hx3, h⟩ := bnd_some h
 refine pD 5 ((do_call0 5 false (span_Name_ok a0.Service hx3) rfl ent68 rfl rfl).fx (y := ⟨[], .bool x3, [], [5]⟩) rfl) ?_
 refine pm 6 (.bool x3) ?_
 refine al_bool (c := x3) 6 rfl (fun c4 => ?_) (fun c4 => ?_)
 ·have h := ifT c4 h
  refine pf 7 (.ptr 1 0 5) ty59 ty9 ?_
  refine pl 8 (.str a0.Op) ty9 ?_
  obtain ⟨x5, hx5, h⟩ := bnd_some h
  refine pD 9 ((do_call0 9 false (span_Name_ok a0.Op hx5) rfl ent68 rfl rfl).fx (y := ⟨[], .bool x5, [], [9]⟩) rfl) ?_
  refine pk 10 (.bool x5) ?_
  refine pm 11 (.bool x5) ?_
  refine al_bool (c := x5) 11 rfl (fun c6 => ?_) (fun c6 => ?_)
  ·have h := ifT c6 h
   refine pf 12 (.ptr 1 0 6) ty59 ty3 ?_
   refine pl 13 (.int .i64 a0.Start) ty3 ?_
   refine pb 14 (.bool (decide ((0 : Int) ≤ a0.Start))) ?_
   refine pk 15 (.bool (decide ((0 : Int) ≤ a0.Start))) ?_
   refine pm 16 (.bool (decide ((0 : Int) ≤ a0.Start))) ?_
   refine al_bool (c := (decide ((0 : Int) ≤ a0.Start))) 16 rfl (fun c7 => ?_) (fun c7 => ?_)
   ·have h := ifT c7 h
    refine pf 17 (.ptr 1 0 6) ty59 ty3 ?_
    refine pl 18 (.int .i64 a0.Start) ty3 ?_
    refine pb 19 (.bool (decide (a0.Start ≤ 1099511627776))) ?_
    refine pk 20 (.bool (decide (a0.Start ≤ 1099511627776))) ?_
    refine pm 21 (.bool (decide (a0.Start ≤ 1099511627776))) ?_
    refine al_bool (c := (decide (a0.Start ≤ 1099511627776))) 21 rfl (fun c8 => ?_) (fun c8 => ?_)
    ·have h := ifT c8 h
     refine pf 22 (.ptr 1 0 7) ty59 ty3 ?_
     refine pl 23 (.int .i64 a0.Dur) ty3 ?_
     refine pb 24 (.bool (decide ((0 : Int) ≤ a0.Dur))) ?_
     refine pk 25 (.bool (decide ((0 : Int) ≤ a0.Dur))) ?_
     refine pm 26 (.bool (decide ((0 : Int) ≤ a0.Dur))) ?_
     refine al_bool (c := (decide ((0 : Int) ≤ a0.Dur))) 26 rfl (fun c9 => ?_) (fun c9 => ?_)
     ·have h := ifT c9 h
      refine pf 27 (.ptr 1 0 7) ty59 ty3 ?_
      refine pl 28 (.int .i64 a0.Dur) ty3 ?_
      refine pb 29 (.bool (decide (a0.Dur ≤ 1073741824))) ?_
      refine pk 30 (.bool (decide (a0.Dur ≤ 1073741824))) ?_
      refine pm 31 (.bool (decide (a0.Dur ≤ 1073741824))) ?_
      refine al_bool (c := (decide (a0.Dur ≤ 1073741824))) 31 rfl (fun c10 => ?_) (fun c10 => ?_)
      ·have h := ifT c10 h
       refine pf 32 (.ptr 1 0 9) ty59 ty57 ?_
       refine pl 33 (.sl 2 (List.map enc73 a0.Attrs)) ty57 ?_
       refine pP 34 ((does_len_sl W_ ty57).castp (v' := .int .i64 (List.length a0.Attrs : Int)) (by exact len_map _)) ?_
       refine pb 35 (.bool (decide ((List.length a0.Attrs : Int) ≤ 4))) ?_
       refine pk 36 (.bool (decide ((List.length a0.Attrs : Int) ≤ 4))) ?_
       refine pm 37 (.bool (decide ((List.length a0.Attrs : Int) ≤ 4))) ?_
       refine al_bool (c := (decide ((List.length a0.Attrs : Int) ≤ 4))) 37 rfl (fun c11 => ?_) (fun c11 => ?_)
       ·have h := ifT c11 h
        refine pf 38 (.ptr 1 0 9) ty59 ty57 ?_
        refine pl 39 (.sl 2 (List.map enc73 a0.Attrs)) ty57 ?_
        obtain ⟨x12, hx12, h⟩ := bnd_some h
        refine pD 40 ((do_call0 40 false (span_attrs_ok a0.Attrs hx12) rfl ent69 rfl rfl).fx (y := ⟨[], .bool x12, [], [40]⟩) rfl) ?_
        refine pk 41 (.bool x12) ?_
        refine pa 2 (.bool x12) ?_
        refine en hK2 ?_
        refine aw_ret ?_
        obtain rfl := Option.some.inj h
        exact ret_ok1 W_ W_ R_ (.inr rfl) rfl
       ·have h := ifF c11 h
        refine pS 38 ?_
        refine pS 39 ?_
        refine pS 40 ?_
        refine pk 41 (.bool false) ?_
        refine pa 2 (.bool false) ?_
        refine en hK2 ?_
        refine aw_ret ?_
        obtain rfl := Option.some.inj h
        exact ret_ok1 W_ W_ R_ (.inr rfl) rfl
      ·have h := ifF c10 h
       refine pS 32 ?_
       refine pS 33 ?_
       refine pS 34 ?_
       refine pS 35 ?_
       refine pk 36 (.bool false) ?_
       refine pm 37 (.bool false) ?_
       refine pS 38 ?_
       refine pS 39 ?_
       refine pS 40 ?_
       refine pk 41 (.bool false) ?_
       refine pa 2 (.bool false) ?_
       refine en hK2 ?_
       refine aw_ret ?_
       obtain rfl := Option.some.inj h
       exact ret_ok1 W_ W_ R_ (.inr rfl) rfl
     ·have h := ifF c9 h
      refine pS 27 ?_
      refine pS 28 ?_
      refine pS 29 ?_
      refine pk 30 (.bool false) ?_
      refine pm 31 (.bool false) ?_
      refine pS 32 ?_
      refine pS 33 ?_
      refine pS 34 ?_
      refine pS 35 ?_
      refine pk 36 (.bool false) ?_
      refine pm 37 (.bool false) ?_
      refine pS 38 ?_
      refine pS 39 ?_
      refine pS 40 ?_
      refine pk 41 (.bool false) ?_
      refine pa 2 (.bool false) ?_
      refine en hK2 ?_
      refine aw_ret ?_
      obtain rfl := Option.some.inj h
      exact ret_ok1 W_ W_ R_ (.inr rfl) rfl
    ·have h := ifF c8 h
     refine pS 22 ?_
     refine pS 23 ?_
     refine pS 24 ?_
     refine pk 25 (.bool false) ?_
     refine pm 26 (.bool false) ?_
     refine pS 27 ?_
     refine pS 28 ?_
     refine pS 29 ?_
     refine pk 30 (.bool false) ?_
     refine pm 31 (.bool false) ?_
     refine pS 32 ?_
     refine pS 33 ?_
     refine pS 34 ?_
     refine pS 35 ?_
     refine pk 36 (.bool false) ?_
     refine pm 37 (.bool false) ?_
     refine pS 38 ?_
     refine pS 39 ?_
     refine pS 40 ?_
     refine pk 41 (.bool false) ?_
     refine pa 2 (.bool false) ?_
     refine en hK2 ?_
     refine aw_ret ?_
     obtain rfl := Option.some.inj h
     exact ret_ok1 W_ W_ R_ (.inr rfl) rfl
   ·have h := ifF c7 h
    refine pS 17 ?_
    refine pS 18 ?_
    refine pS 19 ?_
    refine pk 20 (.bool false) ?_
    refine pm 21 (.bool false) ?_
    refine pS 22 ?_
    refine pS 23 ?_
    refine pS 24 ?_
    refine pk 25 (.bool false) ?_
    refine pm 26 (.bool false) ?_
    refine pS 27 ?_
    refine pS 28 ?_
    refine pS 29 ?_
    refine pk 30 (.bool false) ?_
    refine pm 31 (.bool false) ?_
    refine pS 32 ?_
    refine pS 33 ?_
    refine pS 34 ?_
    refine pS 35 ?_
    refine pk 36 (.bool false) ?_
    refine pm 37 (.bool false) ?_
    refine pS 38 ?_
    refine pS 39 ?_
    refine pS 40 ?_
    refine pk 41 (.bool false) ?_
    refine pa 2 (.bool false) ?_
    refine en hK2 ?_
    refine aw_ret ?_
    obtain rfl := Option.some.inj h
    exact ret_ok1 W_ W_ R_ (.inr rfl) rfl
  ·have h := ifF c6 h
   refine pS 12 ?_
   refine pS 13 ?_
   refine pS 14 ?_
   refine pk 15 (.bool false) ?_
   refine pm 16 (.bool false) ?_
   refine pS 17 ?_
   refine pS 18 ?_
   refine pS 19 ?_
   refine pk 20 (.bool false) ?_
   refine pm 21 (.bool false) ?_
   refine pS 22 ?_
   refine pS 23 ?_
   refine pS 24 ?_
   refine pk 25 (.bool false) ?_
   refine pm 26 (.bool false) ?_
   refine pS 27 ?_
   refine pS 28 ?_
   refine pS 29 ?_
   refine pk 30 (.bool false) ?_
   refine pm 31 (.bool false) ?_
   refine pS 32 ?_
   refine pS 33 ?_
   refine pS 34 ?_
   refine pS 35 ?_
   refine pk 36 (.bool false) ?_
   refine pm 37 (.bool false) ?_
   refine pS 38 ?_
   refine pS 39 ?_
   refine pS 40 ?_
   refine pk 41 (.bool false) ?_
   refine pa 2 (.bool false) ?_
   refine en hK2 ?_
   refine aw_ret ?_
   obtain rfl := Option.some.inj h
   exact ret_ok1 W_ W_ R_ (.inr rfl) rfl
 ·have h := ifF c4 h
  refine pS 7 ?_
  refine pS 8 ?_
  refine pS 9 ?_
  refine pk 10 (.bool false) ?_
  refine pm 11 (.bool false) ?_
  refine pS 12 ?_
  refine pS 13 ?_
  refine pS 14 ?_
  refine pk 15 (.bool false) ?_
  refine pm 16 (.bool false) ?_
  refine pS 17 ?_
  refine pS 18 ?_
  refine pS 19 ?_
  refine pk 20 (.bool false) ?_
  refine pm 21 (.bool false) ?_
  refine pS 22 ?_
  refine pS 23 ?_
  refine pS 24 ?_
  refine pk 25 (.bool false) ?_
  refine pm 26 (.bool false) ?_
  refine pS 27 ?_
  refine pS 28 ?_
  refine pS 29 ?_
  refine pk 30 (.bool false) ?_
  refine pm 31 (.bool false) ?_
  refine pS 32 ?_
  refine pS 33 ?_
  refine pS 34 ?_
  refine pS 35 ?_
  refine pk 36 (.bool false) ?_
  refine pm 37 (.bool false) ?_
  refine pS 38 ?_
  refine pS 39 ?_
  refine pS 40 ?_
  refine pk 41 (.bool false) ?_
  refine pa 2 (.bool false) ?_
  refine en hK2 ?_
  refine aw_ret ?_
  obtain rfl := Option.some.inj h
  exact ret_ok1 W_ W_ R_ (.inr rfl) rfl
def span_Put_l0 (a1 : Span) (vb0_s_0_s_0 : List UInt8) (v46_0 : Int) : Option ((List UInt8 × Int) ⊕ Writer) :=
 if (decide (v46_0 < (List.length a1.Attrs : Int))) = true then (gd (0 ≤ v46_0) (Option.bind (a1.Attrs[(Int.toNat v46_0)]?) (fun (x21 : Attr) => Option.bind (ints_Writer_Text (Writer.mk vb0_s_0_s_0) [x21.Key, x21.Value]) (fun (x22 : Writer) => some (Sum.inl (x22.B, (IntKind.i64.wrap (v46_0 + 1)))))))) else (some (Sum.inr (Writer.mk vb0_s_0_s_0)))
def span_Put (a0 : Writer) (a1 : Span) : Option Writer :=
 Option.bind (ints_Writer_Wide a0 [a1.Trace.Hi, a1.Trace.Lo, a1.Id, a1.Parent]) (fun (x3 : Writer) => Option.bind (ints_Writer_Text x3 [a1.Service, a1.Op]) (fun (x5 : Writer) => Option.bind (ints_Writer_Num x5 [a1.Start, a1.Dur]) (fun (x7 : Writer) => Option.bind (ints_Writer_Flag x7 a1.Err) (fun (x9 : Writer) => Option.bind (ints_Writer_Num x9 [(List.length a1.Attrs : Int)]) (fun (x11 : Writer) => loopN (fun (s : List UInt8 × Int) => span_Put_l0 a1 s.1 s.2) Fu (x11.B, 0))))))
theorem span_Put_ok (a0 : Writer) (a1 : Span) {r : Writer} (h : span_Put a0 a1 = some r) : Ok Try.prog 49 [.ptr 0 0 0, .agg [.int .u64 a1.Trace.Hi, .int .u64 a1.Trace.Lo, .int .u64 a1.Id, .int .u64 a1.Parent, .str a1.Service, .str a1.Op, .int .i64 a1.Start, .int .i64 a1.Dur, .bool a1.Err, .sl 2 (List.map enc73 a1.Attrs)]] [[.own 1 0]] [(5, 1, List.map enc5 a0.B)] (.tup []) [[.own 2 0]] [(5, 1, List.map enc5 r.B)] := by
 unfold span_Put at h
 refine ok_of_code Try.func49 rfl (by show (2 : Nat) ≤ _; decide) (Nat.le_refl _) fun X => ?_
 refine sr fun K1 hK1 => ?_
 refine pD 3 (do_box W_ rfl rfl) ?_
 refine en hK1 ?_
 refine sr fun K2 hK2 => ?_
 refine pm 6 (.ptr 0 0 0) ?_
 refine pf 7 (.ptr 3 0 0) ty59 ty44 ?_
 refine pf 8 (.ptr 3 0 0) ty44 ty42 ?_
 refine pl 9 (.int .u64 a1.Trace.Hi) ty42 ?_
 refine pf 10 (.ptr 3 0 0) ty59 ty44 ?_
 refine pf 11 (.ptr 3 0 1) ty44 ty42 ?_
 refine pl 12 (.int .u64 a1.Trace.Lo) ty42 ?_
 refine pf 13 (.ptr 3 0 2) ty59 ty42 ?_
 refine pl 14 (.int .u64 a1.Id) ty42 ?_
 refine pf 15 (.ptr 3 0 3) ty59 ty42 ?_
 refine pl 16 (.int .u64 a1.Parent) ty42 ?_
 refine pD 17 (do_buildSlice (xs := List.map enc12 [a1.Trace.Hi, a1.Trace.Lo, a1.Id, a1.Parent]) ty81 ty42 rfl rfl rfl rfl rfl rfl rfl rfl) ?_
 obtain ⟨x3, hx3, h⟩ := bnd_some h
 refine pD 18 (does_frz (d := 17) (n := 0) W_ (do_callG (bcs := [[.own 1 0]]) [(0, 0)] [(1, 0)] [(17, 0)] 18 false (ints_Writer_Wide_ok a0 [a1.Trace.Hi, a1.Trace.Lo, a1.Id, a1.Parent] hx3) rfl ent35 ⟨R_, trivial⟩ (rowsOk_cons W_ R_ trivial) rfl rfl rfl rfl rfl rfl rfl rfl (.inl ⟨⟨_, _, _, rfl⟩, trivial⟩))) ?_
 refine en hK2 ?_
 refine sr fun K4 hK4 => ?_
 refine pm 19 (.ptr 0 0 0) ?_
 refine pf 20 (.ptr 3 0 4) ty59 ty9 ?_
 refine pl 21 (.str a1.Service) ty9 ?_
 refine pf 22 (.ptr 3 0 5) ty59 ty9 ?_
 refine pl 23 (.str a1.Op) ty9 ?_
 refine pD 24 (do_buildSlice (xs := List.map enc9 [a1.Service, a1.Op]) ty94 ty9 rfl rfl rfl rfl rfl rfl rfl rfl) ?_
 obtain ⟨x5, hx5, h⟩ := bnd_some h
 refine pD 25 (does_frz (d := 24) (n := 0) W_ (do_callG (bcs := [[.own 18 0]]) [(0, 0)] [(18, 0)] [(24, 0)] 25 false (ints_Writer_Text_ok x3 [a1.Service, a1.Op] hx5) rfl ent60 ⟨R_, trivial⟩ (rowsOk_cons W_ R_ trivial) rfl rfl rfl rfl rfl rfl rfl rfl (.inl ⟨⟨_, _, _, rfl⟩, trivial⟩))) ?_
 refine en hK4 ?_
 refine sr fun K6 hK6 => ?_
 refine pm 26 (.ptr 0 0 0) ?_
 refine pf 27 (.ptr 3 0 6) ty59 ty3 ?_
 refine pl 28 (.int .i64 a1.Start) ty3 ?_
 refine pf 29 (.ptr 3 0 7) ty59 ty3 ?_
 refine pl 30 (.int .i64 a1.Dur) ty3 ?_
 refine pD 31 (do_buildSlice (xs := List.map enc2 [a1.Start, a1.Dur]) ty25 ty3 rfl rfl rfl rfl rfl rfl rfl rfl) ?_
 obtain ⟨x7, hx7, h⟩ := bnd_some h
 refine pD 32 (does_frz (d := 31) (n := 0) W_ (do_callG (bcs := [[.own 25 0]]) [(0, 0)] [(25, 0)] [(31, 0)] 32 false (ints_Writer_Num_ok x5 [a1.Start, a1.Dur] hx7) rfl ent33 ⟨R_, trivial⟩ (rowsOk_cons W_ R_ trivial) rfl rfl rfl rfl rfl rfl rfl rfl (.inl ⟨⟨_, _, _, rfl⟩, trivial⟩))) ?_
 refine en hK6 ?_
 refine sr fun K8 hK8 => ?_
 refine pm 33 (.ptr 0 0 0) ?_
 refine pf 34 (.ptr 3 0 8) ty59 ty4 ?_
 refine pl 35 (.bool a1.Err) ty4 ?_
 obtain ⟨x9, hx9, h⟩ := bnd_some h
 refine pD 36 (do_callG (bcs := [[.own 32 0]]) [(0, 0)] [(32, 0)] [] 36 false (ints_Writer_Flag_ok x7 a1.Err hx9) rfl ent48 ⟨R_, trivial⟩ (rowsOk_cons W_ R_ trivial) rfl rfl rfl rfl rfl rfl rfl rfl (.inl trivial)) ?_
 refine en hK8 ?_
 refine sr fun K10 hK10 => ?_
 refine pm 37 (.ptr 0 0 0) ?_
 refine pf 38 (.ptr 3 0 9) ty59 ty57 ?_
 refine pl 39 (.sl 2 (List.map enc73 a1.Attrs)) ty57 ?_
 refine pP 40 ((does_len_sl W_ ty57).castp (v' := .int .i64 (List.length a1.Attrs : Int)) (by exact len_map _)) ?_
 refine pD 41 (do_buildSlice (xs := List.map enc2 [(List.length a1.Attrs : Int)]) ty25 ty3 rfl rfl rfl rfl rfl rfl rfl rfl) ?_
 obtain ⟨x11, hx11, h⟩ := bnd_some h
 refine pD 42 (does_frz (d := 41) (n := 0) W_ (do_callG (bcs := [[.own 36 0]]) [(0, 0)] [(36, 0)] [(41, 0)] 42 false (ints_Writer_Num_ok x9 [(List.length a1.Attrs : Int)] hx11) rfl ent33 ⟨R_, trivial⟩ (rowsOk_cons W_ R_ trivial) rfl rfl rfl rfl rfl rfl rfl rfl (.inl ⟨⟨_, _, _, rfl⟩, trivial⟩))) ?_
 refine en hK10 ?_
 refine sr fun K12 hK12 => ?_
 refine pf 43 (.ptr 3 0 9) ty59 ty57 ?_
 refine pl 44 (.sl 2 (List.map enc73 a1.Attrs)) ty57 ?_
 refine pP 45 ((does_len_sl W_ ty57).castp (v' := .int .i64 (List.length a1.Attrs : Int)) (by exact len_map _)) ?_
 refine pm 46 (.int .i64 0) ?_
 refine en hK12 ?_
 refine aw_block ?_
 refine aw_loop' (fun m s => ∃ (vb0_s_0_s_0 : List UInt8), ∃ (v46_0 : Int), loopN (fun (s : List UInt8 × Int) => span_Put_l0 a1 s.1 s.2) m (vb0_s_0_s_0, v46_0) = some r ∧ s = lit [(0, .ptr 0 0 0), (44, .sl 2 (List.map enc73 a1.Attrs)), (45, .int .i64 (List.length a1.Attrs : Int)), (46, .int .i64 v46_0)] [((0, 0), .box [.own 42 0]), ((42, 0), .arr 5 1 false (List.map enc5 vb0_s_0_s_0))] [(0, 1), (42, 1)] X) Fu
  ⟨_, reb_lit [(0, .ptr 0 0 0), (44, .sl 2 (List.map enc73 a1.Attrs)), (45, .int .i64 (List.length a1.Attrs : Int)), (46, .int .i64 (0))] [(0, 0), (42, 0)] [((0, 0), .box [.own 42 0]), ((42, 0), .arr 5 1 false (List.map enc5 x11.B))] [(0, 1), (42, 1)] (ec (ec (ec (ec envOk_nil)))) (objOk_cons W_ W_ R_ (by simp) (objOk_cons W_ W_ R_ (by simp) objOk_nil)) (nodup_b rfl) (nodup_b rfl) rfl rfl, x11.B, 0, h, rfl⟩ ?_
 rintro m s ⟨vb0_s_0_s_0, v46_0, h, rfl⟩
 obtain ⟨m0, q13, rfl, h, hq14⟩ := loop_some h
 replace h : span_Put_l0 a1 vb0_s_0_s_0 v46_0 = some q13 := h
 unfold span_Put_l0 at h
 refine sr fun K15 hK15 => ?_
 refine pb 47 (.bool (decide (v46_0 < (List.length a1.Attrs : Int)))) ?_
 refine en hK15 ?_
 refine aw_seq_k (fun K16 hK16 => ?_)
 refine aw_bool (b := (decide (v46_0 < (List.length a1.Attrs : Int)))) 47 rfl (fun c17 => ?_) (fun c17 => ?_)
 ·have h := ifT c17 h
  refine aw_cond_t D_ rfl ?_
  refine aw_skip ?_
  refine hK16 _ ?_
  refine aw_seq_k (fun K18 hK18 => ?_)
  refine aw_block ?_
  refine sr fun K19 hK19 => ?_
  obtain ⟨g20, h⟩ := gd_some h
  obtain ⟨x21, hx21, h⟩ := bnd_some h
  refine pP 48 (does_indexAddr_sl (el := .agg [.str x21.Key, .str x21.Value]) W_ W_ ty57 ty74 g20 (by exact map_get hx21)) ?_
  refine pl 49 (.agg [.str x21.Key, .str x21.Value]) ty74 ?_
  refine pD 5 (do_new ty74 rfl rfl) ?_
  refine alD none rfl rfl (do_store (cs' := [.str x21.Key, .str x21.Value]) W_ W_ W_ ty74 rfl rfl rfl R_) D_ ?_
  refine en hK19 ?_
  refine aw_regL ?_
  refine pm 50 (.ptr 0 0 0) ?_
  refine pf 51 (.ptr 5 0 0) ty74 ty9 ?_
  refine pl 52 (.str x21.Key) ty9 ?_
  refine pf 53 (.ptr 5 0 1) ty74 ty9 ?_
  refine pl 54 (.str x21.Value) ty9 ?_
  refine pD 55 (do_buildSlice (xs := List.map enc9 [x21.Key, x21.Value]) ty94 ty9 rfl rfl rfl rfl rfl rfl rfl rfl) ?_
  obtain ⟨x22, hx22, h⟩ := bnd_some h
  refine pD 56 (does_frz (d := 55) (n := 0) W_ (do_callG (bcs := [[.own 42 0]]) [(0, 0)] [(42, 0)] [(55, 0)] 56 false (ints_Writer_Text_ok (Writer.mk vb0_s_0_s_0) [x21.Key, x21.Value] hx22) rfl ent60 ⟨R_, trivial⟩ (rowsOk_cons W_ R_ trivial) rfl rfl rfl rfl rfl rfl rfl rfl (.inl ⟨⟨_, _, _, rfl⟩, trivial⟩))) ?_
  refine en hK18 ?_
  refine aw_regL ?_
  refine pb 57 (.int .i64 (IntKind.i64.wrap (v46_0 + 1))) ?_
  refine pm 46 (.int .i64 (IntKind.i64.wrap (v46_0 + 1))) ?_
  refine al_nil ?_
  have h := leafL h hq14
  exact ⟨m0, Nat.lt_succ_self _, _, reb_lit [(0, .ptr 0 0 0), (44, .sl 2 (List.map enc73 a1.Attrs)), (45, .int .i64 (List.length a1.Attrs : Int)), (46, .int .i64 (IntKind.i64.wrap (v46_0 + 1)))] [(0, 0), (56, 0)] [((0, 0), .box [.own 42 0]), ((42, 0), .arr 5 1 false (List.map enc5 x22.B))] [(0, 1), (42, 1)] (ec (ec (ec (ec envOk_nil)))) (objOk_cons W_ W_ R_ (by simp) (objOk_cons W_ W_ R_ (by simp) objOk_nil)) (nodup_b rfl) (nodup_b rfl) rfl rfl, x22.B, (IntKind.i64.wrap (v46_0 + 1)), h, rfl⟩
 ·have h := ifF c17 h
  refine aw_cond_f D_ rfl ?_
  refine aw_exit ?_
  have h := leafR h hq14
  obtain rfl := Option.some.inj h
  exact ret_okB [(42, 0)] W_ W_ R_ (rowsOk_cons W_ R_ trivial) (boxesOk_cons W_ W_ R_ trivial) (nodup_b rfl) (.inl rfl) rfl
def span_All_c1 (a0 : Span) : Option Bool :=
 Option.bind (span_Right a0) (fun (x3 : Bool) => some (!x3))
theorem span_All_c1_ok (a0 : Span) {r : Bool} (h : span_All_c1 a0 = some r) : Ok Try.prog 65 [.agg [.int .u64 a0.Trace.Hi, .int .u64 a0.Trace.Lo, .int .u64 a0.Id, .int .u64 a0.Parent, .str a0.Service, .str a0.Op, .int .i64 a0.Start, .int .i64 a0.Dur, .bool a0.Err, .sl 2 (List.map enc73 a0.Attrs)]] [] [] (.bool r) [] [] := by
 unfold span_All_c1 at h
 refine ok_of_code Try.func65 rfl (by show (1 : Nat) ≤ _; decide) (Nat.le_refl _) fun X => ?_
 refine sr fun K1 hK1 => ?_
 refine pD 1 (do_box W_ rfl rfl) ?_
 refine pa 2 (.bool false) ?_
 refine en hK1 ?_
 refine sr fun K2 hK2 => ?_
 refine pl 3 (.agg [.int .u64 a0.Trace.Hi, .int .u64 a0.Trace.Lo, .int .u64 a0.Id, .int .u64 a0.Parent, .str a0.Service, .str a0.Op, .int .i64 a0.Start, .int .i64 a0.Dur, .bool a0.Err, .sl 2 (List.map enc73 a0.Attrs)]) ty59 ?_
 obtain ⟨x3, hx3, h⟩ := bnd_some h
 refine pD 4 (do_call0 4 false (span_Right_ok a0 hx3) rfl ent66 rfl rfl) ?_
 refine pP 5 (does_un (v := .bool (!x3)) W_ rfl) ?_
 refine pa 2 (.bool (!x3)) ?_
 refine en hK2 ?_
 refine aw_ret ?_
 obtain rfl := Option.some.inj h
 exact ret_ok1 W_ W_ R_ (.inr rfl) rfl
def slices_IndexFunc_Span_span_All_c1_l0 (a0 : List Span) (v8_0 : Int) : Option (Int ⊕ Int) :=
 if (decide (v8_0 < (List.length a0 : Int))) = true then (gd (0 ≤ v8_0) (Option.bind (a0[(Int.toNat v8_0)]?) (fun (x13 : Span) => Option.bind (span_All_c1 x13) (fun (x14 : Bool) => if x14 = true then (some (Sum.inr v8_0)) else (some (Sum.inl (IntKind.i64.wrap (v8_0 + 1)))))))) else (some (Sum.inr (-1)))
def slices_IndexFunc_Span_span_All_c1 (a0 : List Span) : Option Int :=
 loopN (fun (s : Int) => slices_IndexFunc_Span_span_All_c1_l0 a0 s) Fu 0
theorem slices_IndexFunc_Span_span_All_c1_ok (a0 : List Span) {r : Int} (h : slices_IndexFunc_Span_span_All_c1 a0 = some r) : Ok Try.prog 67 [.sl 10 (List.map enc58 a0), .fn 65 []] [] [] (.int .i64 r) [] [] := by
 unfold slices_IndexFunc_Span_span_All_c1 at h
 refine ok_of_code Try.func67 rfl (by show (2 : Nat) ≤ _; decide) (Nat.le_refl _) fun X => ?_
 refine sr fun K1 hK1 => ?_
 refine pa 4 (.int .i64 0) ?_
 refine en hK1 ?_
 refine aw_seq_k (fun K2 hK2 => ?_)
 refine sr fun K3 hK3 => ?_
 refine pm 6 (.sl 10 (List.map enc58 a0)) ?_
 refine pP 7 ((does_len_sl W_ ty45).castp (v' := .int .i64 (List.length a0 : Int)) (by exact len_map _)) ?_
 refine pm 8 (.int .i64 0) ?_
 refine en hK3 ?_
 refine aw_block ?_
 refine aw_loop' (fun m s => ∃ (v8_0 : Int), loopN (fun (s : Int) => slices_IndexFunc_Span_span_All_c1_l0 a0 s) m v8_0 = some r ∧ s = lit [(0, .sl 10 (List.map enc58 a0)), (1, .fn 65 []), (7, .int .i64 (List.length a0 : Int)), (8, .int .i64 v8_0)] [] [] X) Fu
  ⟨_, reb_lit [(0, .sl 10 (List.map enc58 a0)), (1, .fn 65 []), (7, .int .i64 (List.length a0 : Int)), (8, .int .i64 (0))] [] [] [] (ec (ec (ec (ec envOk_nil)))) objOk_nil (nodup_b rfl) (nodup_b rfl) rfl rfl, 0, h, rfl⟩ ?_
 rintro m s ⟨v8_0, h, rfl⟩
 obtain ⟨m0, q4, rfl, h, hq5⟩ := loop_some h
 replace h : slices_IndexFunc_Span_span_All_c1_l0 a0 v8_0 = some q4 := h
 unfold slices_IndexFunc_Span_span_All_c1_l0 at h
 refine sr fun K6 hK6 => ?_
 refine pb 9 (.bool (decide (v8_0 < (List.length a0 : Int)))) ?_
 refine en hK6 ?_
 refine aw_seq_k (fun K7 hK7 => ?_)
 refine aw_bool (b := (decide (v8_0 < (List.length a0 : Int)))) 9 rfl (fun c8 => ?_) (fun c8 => ?_)
 ·have h := ifT c8 h
  refine aw_cond_t D_ rfl ?_
  refine aw_skip ?_
  refine hK7 _ ?_
  refine aw_seq_k (fun K9 hK9 => ?_)
  refine aw_block ?_
  refine sr fun K10 hK10 => ?_
  refine pm 10 (.int .i64 v8_0) ?_
  refine pa 5 (.int .i64 v8_0) ?_
  refine en hK10 ?_
  refine sr fun K11 hK11 => ?_
  refine pm 11 (.fn 65 []) ?_
  refine pm 12 (.sl 10 (List.map enc58 a0)) ?_
  refine pm 13 (.int .i64 v8_0) ?_
  obtain ⟨g12, h⟩ := gd_some h
  obtain ⟨x13, hx13, h⟩ := bnd_some h
  refine pP 14 (does_indexAddr_sl (el := .agg [.int .u64 x13.Trace.Hi, .int .u64 x13.Trace.Lo, .int .u64 x13.Id, .int .u64 x13.Parent, .str x13.Service, .str x13.Op, .int .i64 x13.Start, .int .i64 x13.Dur, .bool x13.Err, .sl 2 (List.map enc73 x13.Attrs)]) W_ W_ ty45 ty59 g12 (by exact map_get hx13)) ?_
  refine pl 15 (.agg [.int .u64 x13.Trace.Hi, .int .u64 x13.Trace.Lo, .int .u64 x13.Id, .int .u64 x13.Parent, .str x13.Service, .str x13.Op, .int .i64 x13.Start, .int .i64 x13.Dur, .bool x13.Err, .sl 2 (List.map enc73 x13.Attrs)]) ty59 ?_
  obtain ⟨x14, hx14, h⟩ := bnd_some h
  refine pD 16 (do_call0 16 false (span_All_c1_ok x13 hx14) rfl ent65 rfl rfl) ?_
  refine en hK11 ?_
  refine aw_bool (b := x14) 16 rfl (fun c15 => ?_) (fun c15 => ?_)
  ·have h := ifT c15 h
   refine aw_cond_t D_ rfl ?_
   refine sr fun K16 hK16 => ?_
   refine pm 17 (.int .i64 v8_0) ?_
   refine pa 4 (.int .i64 v8_0) ?_
   refine en hK16 ?_
   refine aw_ret ?_
   have h := leafR h hq5
   obtain rfl := Option.some.inj h
   exact ret_ok1 W_ W_ R_ (.inr rfl) rfl
  ·have h := ifF c15 h
   refine aw_cond_f D_ rfl ?_
   refine aw_skip ?_
   refine hK9 _ ?_
   refine aw_regL ?_
   refine pb 18 (.int .i64 (IntKind.i64.wrap (v8_0 + 1))) ?_
   refine pm 8 (.int .i64 (IntKind.i64.wrap (v8_0 + 1))) ?_
   refine al_nil ?_
   have h := leafL h hq5
   exact ⟨m0, Nat.lt_succ_self _, _, reb_lit [(0, .sl 10 (List.map enc58 a0)), (1, .fn 65 []), (7, .int .i64 (List.length a0 : Int)), (8, .int .i64 (IntKind.i64.wrap (v8_0 + 1)))] [] [] [] (ec (ec (ec (ec envOk_nil)))) objOk_nil (nodup_b rfl) (nodup_b rfl) rfl rfl, (IntKind.i64.wrap (v8_0 + 1)), h, rfl⟩
 ·have h := ifF c8 h
  refine aw_cond_f D_ rfl ?_
  refine aw_exit ?_
  have h := leafR h hq5
  refine hK2 _ ?_
  refine sr fun K17 hK17 => ?_
  refine pa 4 (.int .i64 (-1)) ?_
  refine en hK17 ?_
  refine aw_ret ?_
  obtain rfl := Option.some.inj h
  exact ret_ok1 W_ W_ R_ (.inr rfl) rfl
def slices_ContainsFunc_Span_span_All_c1 (a0 : List Span) : Option Bool :=
 Option.bind (slices_IndexFunc_Span_span_All_c1 a0) (fun (x3 : Int) => some (decide ((0 : Int) ≤ x3)))
theorem slices_ContainsFunc_Span_span_All_c1_ok (a0 : List Span) {r : Bool} (h : slices_ContainsFunc_Span_span_All_c1 a0 = some r) : Ok Try.prog 64 [.sl 10 (List.map enc58 a0), .fn 65 []] [] [] (.bool r) [] [] := by
 unfold slices_ContainsFunc_Span_span_All_c1 at h
 refine ok_of_code Try.func64 rfl (by show (2 : Nat) ≤ _; decide) (Nat.le_refl _) fun X => ?_
 refine sr fun K1 hK1 => ?_
 refine pa 4 (.bool false) ?_
 refine en hK1 ?_
 refine sr fun K2 hK2 => ?_
 refine pm 5 (.sl 10 (List.map enc58 a0)) ?_
 refine pm 6 (.fn 65 []) ?_
 obtain ⟨x3, hx3, h⟩ := bnd_some h
 refine pD 7 (do_call0 7 false (slices_IndexFunc_Span_span_All_c1_ok a0 hx3) rfl ent67 rfl rfl) ?_
 refine pb 8 (.bool (decide ((0 : Int) ≤ x3))) ?_
 refine pa 4 (.bool (decide ((0 : Int) ≤ x3))) ?_
 refine en hK2 ?_
 refine aw_ret ?_
 obtain rfl := Option.some.inj h
 exact ret_ok1 W_ W_ R_ (.inr rfl) rfl
def span_All (a0 : List Span) : Option Bool :=
 Option.bind (slices_ContainsFunc_Span_span_All_c1 a0) (fun (x3 : Bool) => some (!x3))
theorem span_All_ok (a0 : List Span) {r : Bool} (h : span_All a0 = some r) : Ok Try.prog 59 [.sl 10 (List.map enc58 a0)] [] [] (.bool r) [] [] := by
 unfold span_All at h
 refine ok_of_code Try.func59 rfl (by show (1 : Nat) ≤ _; decide) (Nat.le_refl _) fun X => ?_
 refine sr fun K1 hK1 => ?_
 refine pa 2 (.bool false) ?_
 refine en hK1 ?_
 refine sr fun K2 hK2 => ?_
 refine pm 3 (.sl 10 (List.map enc58 a0)) ?_
 obtain ⟨x3, hx3, h⟩ := bnd_some h
 refine pD 4 (do_call0 4 false (slices_ContainsFunc_Span_span_All_c1_ok a0 hx3) rfl ent64 rfl rfl) ?_
 refine pP 5 (does_un (v := .bool (!x3)) W_ rfl) ?_
 refine pa 2 (.bool (!x3)) ?_
 refine en hK2 ?_
 refine aw_ret ?_
 obtain rfl := Option.some.inj h
 exact ret_ok1 W_ W_ R_ (.inr rfl) rfl
end Go.Proofs.Ytejimiedoibkcaa.Ab
namespace Go.Proofs.Ytejimiedoibkcaa.Ab
open Go Go.RowKit
set_option linter.unusedVariables false
set_option linter.unusedSimpArgs false
set_option maxRecDepth 100000
set_option maxHeartbeats 8000000
theorem ent37 : Ent Try.prog 37 := ⟨_, Try.func37, by kernel_rfl, rfl⟩
theorem ent41 : Ent Try.prog 41 := ⟨_, Try.func41, by kernel_rfl, rfl⟩
theorem ent52 : Ent Try.prog 52 := ⟨_, Try.func52, by kernel_rfl, rfl⟩
def gleaningref1_Within (a0 : Int) (a1 : Int) (a2 : Int) : Option Bool :=
 if (decide (a1 ≤ a0)) = true then (some (decide (a0 ≤ a2))) else (some false)
theorem gleaningref1_Within_ok (a0 : Int) (a1 : Int) (a2 : Int) {r : Bool} (h : gleaningref1_Within a0 a1 a2 = some r) : Ok Try.prog 41 [.int .i64 a0, .int .i64 a1, .int .i64 a2] [] [] (.bool r) [] [] := by
 unfold gleaningref1_Within at h
 refine ok_of_code Try.func41 rfl (by show (3 : Nat) ≤ _; decide) (Nat.le_refl _) fun X => ?_
 refine sr fun K1 hK1 => ?_
 refine pa 6 (.bool false) ?_
 refine en hK1 ?_
 refine sr fun K2 hK2 => ?_
 refine pm 7 (.int .i64 a0) ?_
 refine pm 8 (.int .i64 a1) ?_
 refine pb 9 (.bool (decide (a1 ≤ a0))) ?_
 refine pm 10 (.bool (decide (a1 ≤ a0))) ?_
 refine al_bool (c := (decide (a1 ≤ a0))) 10 rfl (fun c3 => ?_) (fun c3 => ?_)
 ·have h := ifT c3 h
  refine pm 11 (.int .i64 a0) ?_
  refine pm 12 (.int .i64 a2) ?_
  refine pb 13 (.bool (decide (a0 ≤ a2))) ?_
  refine pk 14 (.bool (decide (a0 ≤ a2))) ?_
  refine pa 6 (.bool (decide (a0 ≤ a2))) ?_
  refine en hK2 ?_
  refine aw_ret ?_
  obtain rfl := Option.some.inj h
  exact ret_ok1 W_ W_ R_ (.inr rfl) rfl
 ·have h := ifF c3 h
  refine pS 11 ?_
  refine pS 12 ?_
  refine pS 13 ?_
  refine pk 14 (.bool false) ?_
  refine pa 6 (.bool false) ?_
  refine en hK2 ?_
  refine aw_ret ?_
  obtain rfl := Option.some.inj h
  exact ret_ok1 W_ W_ R_ (.inr rfl) rfl
def gleaningref1_RightSpan_l3 (a0 : Span) (v3_1 : Int) (v4_3 : Int) : Option (Int ⊕ (Int ⊕ Bool)) :=
 if (decide (v4_3 < v3_1)) = true then (gd (0 ≤ v4_3) (Option.bind (a0.Attrs[(Int.toNat v4_3)]?) (fun (x48 : Attr) => gd (0 ≤ v3_1) (Option.bind (a0.Attrs[(Int.toNat v3_1)]?) (fun (x50 : Attr) => if (ByteArray.toList x48.Key == ByteArray.toList x50.Key) = true then (some (Sum.inr (Sum.inr false))) else (some (Sum.inl (IntKind.i64.wrap (v4_3 + 1))))))))) else (some (Sum.inr (Sum.inl (IntKind.i64.wrap (v3_1 + 1)))))
def gleaningref1_RightSpan_k2 (a0 : Span) (v3_1 : Int) : Option (Int ⊕ Bool) :=
 loopN (fun (s : Int) => gleaningref1_RightSpan_l3 a0 v3_1 s) Fu 0
def gleaningref1_RightSpan_l1 (a0 : Span) (v3_1 : Int) : Option (Int ⊕ Bool) :=
 if (decide (v3_1 < (List.length a0.Attrs : Int))) = true then (Option.bind (gd (0 ≤ v3_1) (Option.bind (a0.Attrs[(Int.toNat v3_1)]?) (fun (x31 : Attr) => Option.bind (gleaningref1_Within (ByteArray.size x31.Key : Int) 1 16) (fun (x32 : Bool) => if (!x32) = true then (some (Sum.inr (Sum.inr false))) else (gd (0 ≤ v3_1) (Option.bind (a0.Attrs[(Int.toNat v3_1)]?) (fun (x36 : Attr) => if (decide ((16 : Int) < (ByteArray.size x36.Value : Int))) = true then (some (Sum.inr (Sum.inr false))) else (some (Sum.inl ()))))))))) (Sum.elim (fun (s : Unit) => gleaningref1_RightSpan_k2 a0 v3_1) some)) else (some (Sum.inr true))
def gleaningref1_RightSpan_k0 (a0 : Span) : Option Bool :=
 loopN (fun (s : Int) => gleaningref1_RightSpan_l1 a0 s) Fu 0
def gleaningref1_RightSpan (a0 : Span) : Option Bool :=
 Option.bind (Option.bind (gleaningref1_Within (ByteArray.size a0.Service : Int) 1 16) (fun (x5 : Bool) => if (!x5) = true then (some (Sum.inr false)) else (Option.bind (gleaningref1_Within (ByteArray.size a0.Op : Int) 1 16) (fun (x8 : Bool) => if (!x8) = true then (some (Sum.inr false)) else (Option.bind (gleaningref1_Within a0.Start 0 1099511627776) (fun (x11 : Bool) => if (!x11) = true then (some (Sum.inr false)) else (Option.bind (gleaningref1_Within a0.Dur 0 1073741824) (fun (x14 : Bool) => if (!x14) = true then (some (Sum.inr false)) else (if (decide ((4 : Int) < (List.length a0.Attrs : Int))) = true then (some (Sum.inr false)) else (some (Sum.inl ()))))))))))) (Sum.elim (fun (s : Unit) => gleaningref1_RightSpan_k0 a0) some)
theorem gleaningref1_RightSpan_ok (a0 : Span) {r : Bool} (h : gleaningref1_RightSpan a0 = some r) : Ok Try.prog 30 [.agg [.int .u64 a0.Trace.Hi, .int .u64 a0.Trace.Lo, .int .u64 a0.Id, .int .u64 a0.Parent, .str a0.Service, .str a0.Op, .int .i64 a0.Start, .int .i64 a0.Dur, .bool a0.Err, .sl 2 (List.map enc73 a0.Attrs)]] [] [] (.bool r) [] [] := by
 unfold gleaningref1_RightSpan at h
 refine ok_of_code Try.func30 rfl (by show (1 : Nat) ≤ _; decide) (Nat.le_refl _) fun X => ?_
 refine sr fun K1 hK1 => ?_
 refine pD 1 (do_box W_ rfl rfl) ?_
 refine pa 2 (.bool false) ?_
 refine en hK1 ?_
 obtain ⟨q2, h, hk3⟩ := bnd_some h
 refine aw_cut (fun s => gleaningref1_RightSpan_k0 a0 = some r ∧ s = lit [(1, .ptr 1 0 0)] [((1, 0), .box [.int .u64 a0.Trace.Hi, .int .u64 a0.Trace.Lo, .int .u64 a0.Id, .int .u64 a0.Parent, .str a0.Service, .str a0.Op, .int .i64 a0.Start, .int .i64 a0.Dur, .bool a0.Err, .sl 2 (List.map enc73 a0.Attrs)])] [(1, 1)] X) ?_ ?_
 ·skip
  refine sr fun K4 hK4 => ?_
  refine pf 5 (.ptr 1 0 4) ty59 ty9 ?_
  refine pl 6 (.str a0.Service) ty9 ?_
  refine pP 7 (does_len_str W_ ty9) ?_
  obtain ⟨x5, hx5, h⟩ := bnd_some h
  refine pD 8 ((do_call0 8 false (gleaningref1_Within_ok (ByteArray.size a0.Service : Int) 1 16 hx5) rfl ent41 rfl rfl).fx (y := ⟨[], .bool x5, [], [8]⟩) rfl) ?_
  refine pP 9 (does_un (v := .bool (!x5)) W_ rfl) ?_
  refine pm 10 (.bool (!x5)) ?_
  refine al_bool (c := (!x5)) 10 rfl (fun c6 => ?_) (fun c6 => ?_)
  ·have h := ifT c6 h
   refine pS 11 ?_
   refine pS 12 ?_
   refine pS 13 ?_
   refine pS 14 ?_
   refine pS 15 ?_
   refine pk 16 (.bool true) ?_
   refine pm 17 (.bool true) ?_
   refine pS 18 ?_
   refine pS 19 ?_
   refine pS 20 ?_
   refine pS 21 ?_
   refine pk 22 (.bool true) ?_
   refine pm 23 (.bool true) ?_
   refine pS 24 ?_
   refine pS 25 ?_
   refine pS 26 ?_
   refine pS 27 ?_
   refine pk 28 (.bool true) ?_
   refine pm 29 (.bool true) ?_
   refine pS 30 ?_
   refine pS 31 ?_
   refine pS 32 ?_
   refine pS 33 ?_
   refine pk 34 (.bool true) ?_
   refine en hK4 ?_
   refine aw_cond_t D_ rfl ?_
   refine sr fun K7 hK7 => ?_
   refine pa 2 (.bool false) ?_
   refine en hK7 ?_
   refine aw_ret ?_
   have h := leafR h hk3
   obtain rfl := Option.some.inj h
   exact ret_ok1 W_ W_ R_ (.inr rfl) rfl
  ·have h := ifF c6 h
   refine pf 11 (.ptr 1 0 5) ty59 ty9 ?_
   refine pl 12 (.str a0.Op) ty9 ?_
   refine pP 13 (does_len_str W_ ty9) ?_
   obtain ⟨x8, hx8, h⟩ := bnd_some h
   refine pD 14 ((do_call0 14 false (gleaningref1_Within_ok (ByteArray.size a0.Op : Int) 1 16 hx8) rfl ent41 rfl rfl).fx (y := ⟨[], .bool x8, [], [14]⟩) rfl) ?_
   refine pP 15 (does_un (v := .bool (!x8)) W_ rfl) ?_
   refine pk 16 (.bool (!x8)) ?_
   refine pm 17 (.bool (!x8)) ?_
   refine al_bool (c := (!x8)) 17 rfl (fun c9 => ?_) (fun c9 => ?_)
   ·have h := ifT c9 h
    refine pS 18 ?_
    refine pS 19 ?_
    refine pS 20 ?_
    refine pS 21 ?_
    refine pk 22 (.bool true) ?_
    refine pm 23 (.bool true) ?_
    refine pS 24 ?_
    refine pS 25 ?_
    refine pS 26 ?_
    refine pS 27 ?_
    refine pk 28 (.bool true) ?_
    refine pm 29 (.bool true) ?_
    refine pS 30 ?_
    refine pS 31 ?_
    refine pS 32 ?_
    refine pS 33 ?_
    refine pk 34 (.bool true) ?_
    refine en hK4 ?_
    refine aw_cond_t D_ rfl ?_
    refine sr fun K10 hK10 => ?_
    refine pa 2 (.bool false) ?_
    refine en hK10 ?_
    refine aw_ret ?_
    have h := leafR h hk3
    obtain rfl := Option.some.inj h
    exact ret_ok1 W_ W_ R_ (.inr rfl) rfl
   ·have h := ifF c9 h
    refine pf 18 (.ptr 1 0 6) ty59 ty3 ?_
    refine pl 19 (.int .i64 a0.Start) ty3 ?_
    obtain ⟨x11, hx11, h⟩ := bnd_some h
    refine pD 20 ((do_call0 20 false (gleaningref1_Within_ok a0.Start 0 1099511627776 hx11) rfl ent41 rfl rfl).fx (y := ⟨[], .bool x11, [], [20]⟩) rfl) ?_
    refine pP 21 (does_un (v := .bool (!x11)) W_ rfl) ?_
    refine pk 22 (.bool (!x11)) ?_
    refine pm 23 (.bool (!x11)) ?_
    refine al_bool (c := (!x11)) 23 rfl (fun c12 => ?_) (fun c12 => ?_)
    ·have h := ifT c12 h
     refine pS 24 ?_
     refine pS 25 ?_
     refine pS 26 ?_
     refine pS 27 ?_
     refine pk 28 (.bool true) ?_
     refine pm 29 (.bool true) ?_
     refine pS 30 ?_
     refine pS 31 ?_
     refine pS 32 ?_
     refine pS 33 ?_
     refine pk 34 (.bool true) ?_
     refine en hK4 ?_
     refine aw_cond_t D_ rfl ?_
     refine sr fun K13 hK13 => ?_
     refine pa 2 (.bool false) ?_
     refine en hK13 ?_
     refine aw_ret ?_
     have h := leafR h hk3
     obtain rfl := Option.some.inj h
     exact ret_ok1 W_ W_ R_ (.inr rfl) rfl
    ·have h := ifF c12 h
     refine pf 24 (.ptr 1 0 7) ty59 ty3 ?_
     refine pl 25 (.int .i64 a0.Dur) ty3 ?_
     obtain ⟨x14, hx14, h⟩ := bnd_some h
     refine pD 26 ((do_call0 26 false (gleaningref1_Within_ok a0.Dur 0 1073741824 hx14) rfl ent41 rfl rfl).fx (y := ⟨[], .bool x14, [], [26]⟩) rfl) ?_
     refine pP 27 (does_un (v := .bool (!x14)) W_ rfl) ?_
     refine pk 28 (.bool (!x14)) ?_
     refine pm 29 (.bool (!x14)) ?_
     refine al_bool (c := (!x14)) 29 rfl (fun c15 => ?_) (fun c15 => ?_)
     ·have h := ifT c15 h
      refine pS 30 ?_
      refine pS 31 ?_
      refine pS 32 ?_
      refine pS 33 ?_
      refine pk 34 (.bool true) ?_
      refine en hK4 ?_
      refine aw_cond_t D_ rfl ?_
      refine sr fun K16 hK16 => ?_
      refine pa 2 (.bool false) ?_
      refine en hK16 ?_
      refine aw_ret ?_
      have h := leafR h hk3
      obtain rfl := Option.some.inj h
      exact ret_ok1 W_ W_ R_ (.inr rfl) rfl
     ·have h := ifF c15 h
      refine pf 30 (.ptr 1 0 9) ty59 ty57 ?_
      refine pl 31 (.sl 2 (List.map enc73 a0.Attrs)) ty57 ?_
      refine pP 32 ((does_len_sl W_ ty57).castp (v' := .int .i64 (List.length a0.Attrs : Int)) (by exact len_map _)) ?_
      refine pb 33 (.bool (decide ((4 : Int) < (List.length a0.Attrs : Int)))) ?_
      refine pk 34 (.bool (decide ((4 : Int) < (List.length a0.Attrs : Int)))) ?_
      refine en hK4 ?_
      refine aw_bool (b := (decide ((4 : Int) < (List.length a0.Attrs : Int)))) 34 rfl (fun c17 => ?_) (fun c17 => ?_)
      ·have h := ifT c17 h
       refine aw_cond_t D_ rfl ?_
       refine sr fun K18 hK18 => ?_
       refine pa 2 (.bool false) ?_
       refine en hK18 ?_
       refine aw_ret ?_
       have h := leafR h hk3
       obtain rfl := Option.some.inj h
       exact ret_ok1 W_ W_ R_ (.inr rfl) rfl
      ·have h := ifF c17 h
       refine aw_cond_f D_ rfl ?_
       refine aw_skip ?_
       have h := leafL h hk3
       exact ⟨_, reb_lit [(1, .ptr 1 0 0)] [(1, 0)] [((1, 0), .box [.int .u64 a0.Trace.Hi, .int .u64 a0.Trace.Lo, .int .u64 a0.Id, .int .u64 a0.Parent, .str a0.Service, .str a0.Op, .int .i64 a0.Start, .int .i64 a0.Dur, .bool a0.Err, .sl 2 (List.map enc73 a0.Attrs)])] [(1, 1)] (ec envOk_nil) (objOk_cons W_ W_ R_ (by simp) objOk_nil) (nodup_b rfl) (nodup_b rfl) rfl rfl, h, rfl⟩
 ·rintro s ⟨h, rfl⟩
  unfold gleaningref1_RightSpan_k0 at h
  refine aw_seq_k (fun K19 hK19 => ?_)
  refine sr fun K20 hK20 => ?_
  refine pa 3 (.int .i64 0) ?_
  refine en hK20 ?_
  refine aw_block ?_
  refine aw_loop' (fun m s => ∃ (v3_1 : Int), loopN (fun (s : Int) => gleaningref1_RightSpan_l1 a0 s) m v3_1 = some r ∧ s = lit [(1, .ptr 1 0 0), (3, .int .i64 v3_1)] [((1, 0), .box [.int .u64 a0.Trace.Hi, .int .u64 a0.Trace.Lo, .int .u64 a0.Id, .int .u64 a0.Parent, .str a0.Service, .str a0.Op, .int .i64 a0.Start, .int .i64 a0.Dur, .bool a0.Err, .sl 2 (List.map enc73 a0.Attrs)])] [(1, 1)] X) Fu
   ⟨_, reb_lit [(1, .ptr 1 0 0), (3, .int .i64 (0))] [(1, 0)] [((1, 0), .box [.int .u64 a0.Trace.Hi, .int .u64 a0.Trace.Lo, .int .u64 a0.Id, .int .u64 a0.Parent, .str a0.Service, .str a0.Op, .int .i64 a0.Start, .int .i64 a0.Dur, .bool a0.Err, .sl 2 (List.map enc73 a0.Attrs)])] [(1, 1)] (ec (ec envOk_nil)) (objOk_cons W_ W_ R_ (by simp) objOk_nil) (nodup_b rfl) (nodup_b rfl) rfl rfl, 0, h, rfl⟩ ?_
  rintro m s ⟨v3_1, h, rfl⟩
  obtain ⟨m1, q21, rfl, h, hq22⟩ := loop_some h
  replace h : gleaningref1_RightSpan_l1 a0 v3_1 = some q21 := h
  unfold gleaningref1_RightSpan_l1 at h
  refine aw_seq_k (fun K23 hK23 => ?_)
  refine sr fun K24 hK24 => ?_
  refine pm 35 (.int .i64 v3_1) ?_
  refine pf 36 (.ptr 1 0 9) ty59 ty57 ?_
  refine pl 37 (.sl 2 (List.map enc73 a0.Attrs)) ty57 ?_
  refine pP 38 ((does_len_sl W_ ty57).castp (v' := .int .i64 (List.length a0.Attrs : Int)) (by exact len_map _)) ?_
  refine pb 39 (.bool (decide (v3_1 < (List.length a0.Attrs : Int)))) ?_
  refine en hK24 ?_
  refine aw_bool (b := (decide (v3_1 < (List.length a0.Attrs : Int)))) 39 rfl (fun c25 => ?_) (fun c25 => ?_)
  ·have h := ifT c25 h
   refine aw_cond_t D_ rfl ?_
   refine aw_skip ?_
   refine hK23 _ ?_
   refine aw_seq_k (fun K26 hK26 => ?_)
   refine aw_block ?_
   obtain ⟨q27, h, hk28⟩ := bnd_some h
   refine aw_cut (fun s => gleaningref1_RightSpan_k2 a0 v3_1 = some q21 ∧ s = lit [(1, .ptr 1 0 0), (3, .int .i64 v3_1)] [((1, 0), .box [.int .u64 a0.Trace.Hi, .int .u64 a0.Trace.Lo, .int .u64 a0.Id, .int .u64 a0.Parent, .str a0.Service, .str a0.Op, .int .i64 a0.Start, .int .i64 a0.Dur, .bool a0.Err, .sl 2 (List.map enc73 a0.Attrs)])] [(1, 1)] X) ?_ ?_
   ·skip
    refine sr fun K29 hK29 => ?_
    refine pf 42 (.ptr 1 0 9) ty59 ty57 ?_
    refine pl 43 (.sl 2 (List.map enc73 a0.Attrs)) ty57 ?_
    refine pm 44 (.int .i64 v3_1) ?_
    obtain ⟨g30, h⟩ := gd_some h
    obtain ⟨x31, hx31, h⟩ := bnd_some h
    refine pP 45 (does_indexAddr_sl (el := .agg [.str x31.Key, .str x31.Value]) W_ W_ ty57 ty74 g30 (by exact map_get hx31)) ?_
    refine pf 46 (.rptr [.str x31.Key, .str x31.Value]) ty74 ty9 ?_
    refine pl 47 (.str x31.Key) ty9 ?_
    refine pP 48 (does_len_str W_ ty9) ?_
    obtain ⟨x32, hx32, h⟩ := bnd_some h
    refine pD 49 (do_call0 49 false (gleaningref1_Within_ok (ByteArray.size x31.Key : Int) 1 16 hx32) rfl ent41 rfl rfl) ?_
    refine pP 50 (does_un (v := .bool (!x32)) W_ rfl) ?_
    refine pm 51 (.bool (!x32)) ?_
    refine al_bool (c := (!x32)) 51 rfl (fun c33 => ?_) (fun c33 => ?_)
    ·have h := ifT c33 h
     refine pS 52 ?_
     refine pS 53 ?_
     refine pS 54 ?_
     refine pS 55 ?_
     refine pS 56 ?_
     refine pS 57 ?_
     refine pS 58 ?_
     refine pS 59 ?_
     refine pk 60 (.bool true) ?_
     refine en hK29 ?_
     refine aw_cond_t D_ rfl ?_
     refine sr fun K34 hK34 => ?_
     refine pa 2 (.bool false) ?_
     refine en hK34 ?_
     refine aw_ret ?_
     have h := leafR h hk28
     have h := leafR h hq22
     obtain rfl := Option.some.inj h
     exact ret_ok1 W_ W_ R_ (.inr rfl) rfl
    ·have h := ifF c33 h
     refine pf 52 (.ptr 1 0 9) ty59 ty57 ?_
     refine pl 53 (.sl 2 (List.map enc73 a0.Attrs)) ty57 ?_
     refine pm 54 (.int .i64 v3_1) ?_
     obtain ⟨g35, h⟩ := gd_some h
     obtain ⟨x36, hx36, h⟩ := bnd_some h
     refine pP 55 (does_indexAddr_sl (el := .agg [.str x36.Key, .str x36.Value]) W_ W_ ty57 ty74 g35 (by exact map_get hx36)) ?_
     refine pf 56 (.rptr [.str x36.Value]) ty74 ty9 ?_
     refine pl 57 (.str x36.Value) ty9 ?_
     refine pP 58 (does_len_str W_ ty9) ?_
     refine pb 59 (.bool (decide ((16 : Int) < (ByteArray.size x36.Value : Int)))) ?_
     refine pk 60 (.bool (decide ((16 : Int) < (ByteArray.size x36.Value : Int)))) ?_
     refine en hK29 ?_
     refine aw_bool (b := (decide ((16 : Int) < (ByteArray.size x36.Value : Int)))) 60 rfl (fun c37 => ?_) (fun c37 => ?_)
     ·have h := ifT c37 h
      refine aw_cond_t D_ rfl ?_
      refine sr fun K38 hK38 => ?_
      refine pa 2 (.bool false) ?_
      refine en hK38 ?_
      refine aw_ret ?_
      have h := leafR h hk28
      have h := leafR h hq22
      obtain rfl := Option.some.inj h
      exact ret_ok1 W_ W_ R_ (.inr rfl) rfl
     ·have h := ifF c37 h
      refine aw_cond_f D_ rfl ?_
      refine aw_skip ?_
      have h := leafL h hk28
      exact ⟨_, reb_lit [(1, .ptr 1 0 0), (3, .int .i64 v3_1)] [(1, 0)] [((1, 0), .box [.int .u64 a0.Trace.Hi, .int .u64 a0.Trace.Lo, .int .u64 a0.Id, .int .u64 a0.Parent, .str a0.Service, .str a0.Op, .int .i64 a0.Start, .int .i64 a0.Dur, .bool a0.Err, .sl 2 (List.map enc73 a0.Attrs)])] [(1, 1)] (ec (ec envOk_nil)) (objOk_cons W_ W_ R_ (by simp) objOk_nil) (nodup_b rfl) (nodup_b rfl) rfl rfl, h, rfl⟩
   ·rintro s ⟨h, rfl⟩
    unfold gleaningref1_RightSpan_k2 at h
    refine sr fun K39 hK39 => ?_
    refine pa 4 (.int .i64 0) ?_
    refine en hK39 ?_
    refine aw_block ?_
    refine aw_loop' (fun m s => ∃ (v4_3 : Int), loopN (fun (s : Int) => gleaningref1_RightSpan_l3 a0 v3_1 s) m v4_3 = some q21 ∧ s = lit [(1, .ptr 1 0 0), (3, .int .i64 v3_1), (4, .int .i64 v4_3)] [((1, 0), .box [.int .u64 a0.Trace.Hi, .int .u64 a0.Trace.Lo, .int .u64 a0.Id, .int .u64 a0.Parent, .str a0.Service, .str a0.Op, .int .i64 a0.Start, .int .i64 a0.Dur, .bool a0.Err, .sl 2 (List.map enc73 a0.Attrs)])] [(1, 1)] X) Fu
     ⟨_, reb_lit [(1, .ptr 1 0 0), (3, .int .i64 v3_1), (4, .int .i64 (0))] [(1, 0)] [((1, 0), .box [.int .u64 a0.Trace.Hi, .int .u64 a0.Trace.Lo, .int .u64 a0.Id, .int .u64 a0.Parent, .str a0.Service, .str a0.Op, .int .i64 a0.Start, .int .i64 a0.Dur, .bool a0.Err, .sl 2 (List.map enc73 a0.Attrs)])] [(1, 1)] (ec (ec (ec envOk_nil))) (objOk_cons W_ W_ R_ (by simp) objOk_nil) (nodup_b rfl) (nodup_b rfl) rfl rfl, 0, h, rfl⟩ ?_
    rintro m s ⟨v4_3, h, rfl⟩
    obtain ⟨m3, q40, rfl, h, hq41⟩ := loop_some h
    replace h : gleaningref1_RightSpan_l3 a0 v3_1 v4_3 = some q40 := h
    unfold gleaningref1_RightSpan_l3 at h
    refine aw_seq_k (fun K42 hK42 => ?_)
    refine sr fun K43 hK43 => ?_
    refine pm 61 (.int .i64 v4_3) ?_
    refine pm 62 (.int .i64 v3_1) ?_
    refine pb 63 (.bool (decide (v4_3 < v3_1))) ?_
    refine en hK43 ?_
    refine aw_bool (b := (decide (v4_3 < v3_1))) 63 rfl (fun c44 => ?_) (fun c44 => ?_)
    ·have h := ifT c44 h
     refine aw_cond_t D_ rfl ?_
     refine aw_skip ?_
     refine hK42 _ ?_
     refine aw_seq_k (fun K45 hK45 => ?_)
     refine aw_block ?_
     refine aw_seq_k (fun K46 hK46 => ?_)
     refine aw_regd (by kernel_rfl) (by decide +kernel) ?_
     refine qP 66 (does_fieldAddr (q := .ptr 1 0 9) W_ ty59 rfl ty57 D_ R_) ?_
     refine qR 67 (does_load (v := .sl 2 (List.map enc73 a0.Attrs)) W_ W_ ty57 R_) ?_
     refine qP 68 (does_move (v := .int .i64 v4_3) R_) ?_
     obtain ⟨g47, h⟩ := gd_some h
     obtain ⟨x48, hx48, h⟩ := bnd_some h
     refine qP 69 (does_indexAddr_sl (el := .agg [.str x48.Key, .str x48.Value]) W_ W_ ty57 ty74 g47 (by exact map_get hx48)) ?_
     refine qP 70 (does_fieldAddr (q := .rptr [.str x48.Key, .str x48.Value]) W_ ty74 rfl ty9 D_ R_) ?_
     refine qR 71 (does_load (v := .str x48.Key) W_ W_ ty9 R_) ?_
     refine qP 72 (does_fieldAddr (q := .ptr 1 0 9) W_ ty59 rfl ty57 D_ R_) ?_
     refine qR 73 (does_load (v := .sl 2 (List.map enc73 a0.Attrs)) W_ W_ ty57 R_) ?_
     refine qP 74 (does_move (v := .int .i64 v3_1) R_) ?_
     obtain ⟨g49, h⟩ := gd_some h
     obtain ⟨x50, hx50, h⟩ := bnd_some h
     refine qP 75 (does_indexAddr_sl (el := .agg [.str x50.Key, .str x50.Value]) W_ W_ ty57 ty74 g49 (by exact map_get hx50)) ?_
     refine qP 76 (does_fieldAddr (q := .rptr [.str x50.Key, .str x50.Value]) W_ ty74 rfl ty9 D_ R_) ?_
     refine qR 77 (does_load (v := .str x50.Key) W_ W_ ty9 R_) ?_
     refine qP 78 (does_bin (v := .bool (ByteArray.toList x48.Key == ByteArray.toList x50.Key)) W_ W_ rfl) ?_
     refine ao_nil_d (by kernel_rfl) ?_
     refine hK46 _ ?_
     refine aw_bool (b := (ByteArray.toList x48.Key == ByteArray.toList x50.Key)) 78 rfl (fun c51 => ?_) (fun c51 => ?_)
     ·have h := ifT c51 h
      refine aw_cond_t D_ rfl ?_
      refine sr fun K52 hK52 => ?_
      refine pa 2 (.bool false) ?_
      refine en hK52 ?_
      refine aw_ret ?_
      have h := leafR h hq41
      have h := leafR h hq22
      obtain rfl := Option.some.inj h
      exact ret_ok1 W_ W_ R_ (.inr rfl) rfl
     ·have h := ifF c51 h
      refine aw_cond_f D_ rfl ?_
      refine aw_skip ?_
      refine hK45 _ ?_
      refine aw_regL ?_
      refine pm 64 (.int .i64 v4_3) ?_
      refine pb 65 (.int .i64 (IntKind.i64.wrap (v4_3 + 1))) ?_
      refine pa 4 (.int .i64 (IntKind.i64.wrap (v4_3 + 1))) ?_
      refine al_nil ?_
      have h := leafL h hq41
      exact ⟨m3, Nat.lt_succ_self _, _, reb_lit [(1, .ptr 1 0 0), (3, .int .i64 v3_1), (4, .int .i64 (IntKind.i64.wrap (v4_3 + 1)))] [(1, 0)] [((1, 0), .box [.int .u64 a0.Trace.Hi, .int .u64 a0.Trace.Lo, .int .u64 a0.Id, .int .u64 a0.Parent, .str a0.Service, .str a0.Op, .int .i64 a0.Start, .int .i64 a0.Dur, .bool a0.Err, .sl 2 (List.map enc73 a0.Attrs)])] [(1, 1)] (ec (ec (ec envOk_nil))) (objOk_cons W_ W_ R_ (by simp) objOk_nil) (nodup_b rfl) (nodup_b rfl) rfl rfl, (IntKind.i64.wrap (v4_3 + 1)), h, rfl⟩
    ·have h := ifF c44 h
     refine aw_cond_f D_ rfl ?_
     refine aw_exit ?_
     have h := leafR h hq41
     refine hK26 _ ?_
     refine aw_regL ?_
     refine pm 40 (.int .i64 v3_1) ?_
     refine pb 41 (.int .i64 (IntKind.i64.wrap (v3_1 + 1))) ?_
     refine pa 3 (.int .i64 (IntKind.i64.wrap (v3_1 + 1))) ?_
     refine al_nil ?_
     have h := leafL h hq22
     exact ⟨m1, Nat.lt_succ_self _, _, reb_lit [(1, .ptr 1 0 0), (3, .int .i64 (IntKind.i64.wrap (v3_1 + 1)))] [(1, 0)] [((1, 0), .box [.int .u64 a0.Trace.Hi, .int .u64 a0.Trace.Lo, .int .u64 a0.Id, .int .u64 a0.Parent, .str a0.Service, .str a0.Op, .int .i64 a0.Start, .int .i64 a0.Dur, .bool a0.Err, .sl 2 (List.map enc73 a0.Attrs)])] [(1, 1)] (ec (ec envOk_nil)) (objOk_cons W_ W_ R_ (by simp) objOk_nil) (nodup_b rfl) (nodup_b rfl) rfl rfl, (IntKind.i64.wrap (v3_1 + 1)), h, rfl⟩
  ·have h := ifF c25 h
   refine aw_cond_f D_ rfl ?_
   refine aw_exit ?_
   have h := leafR h hq22
   refine hK19 _ ?_
   refine sr fun K53 hK53 => ?_
   refine pa 2 (.bool true) ?_
   refine en hK53 ?_
   refine aw_ret ?_
   obtain rfl := Option.some.inj h
   exact ret_ok1 W_ W_ R_ (.inr rfl) rfl
def gleaningref1_Bit (a0 : Bool) : Option Int :=
 if a0 = true then (some 1) else (some 0)
theorem gleaningref1_Bit_ok (a0 : Bool) {r : Int} (h : gleaningref1_Bit a0 = some r) : Ok Try.prog 37 [.bool a0] [] [] (.int .u64 r) [] [] := by
 unfold gleaningref1_Bit at h
 refine ok_of_code Try.func37 rfl (by show (1 : Nat) ≤ _; decide) (Nat.le_refl _) fun X => ?_
 refine sr fun K1 hK1 => ?_
 refine pa 2 (.int .u64 0) ?_
 refine en hK1 ?_
 refine aw_seq_k (fun K2 hK2 => ?_)
 refine sr fun K3 hK3 => ?_
 refine pm 3 (.bool a0) ?_
 refine en hK3 ?_
 refine aw_bool (b := a0) 3 rfl (fun c4 => ?_) (fun c4 => ?_)
 ·have h := ifT c4 h
  refine aw_cond_t D_ rfl ?_
  refine sr fun K5 hK5 => ?_
  refine pa 2 (.int .u64 1) ?_
  refine en hK5 ?_
  refine aw_ret ?_
  obtain rfl := Option.some.inj h
  exact ret_ok1 W_ W_ R_ (.inr rfl) rfl
 ·have h := ifF c4 h
  refine aw_cond_f D_ rfl ?_
  refine aw_skip ?_
  refine hK2 _ ?_
  refine sr fun K6 hK6 => ?_
  refine pa 2 (.int .u64 0) ?_
  refine en hK6 ?_
  refine aw_ret ?_
  obtain rfl := Option.some.inj h
  exact ret_ok1 W_ W_ R_ (.inr rfl) rfl
def gleaningref1_AddSpan_l0 (a1 : Span) (v0_s_0 : List UInt8) (v5_0 : Int) : Option ((List UInt8 × Int) ⊕ (List UInt8)) :=
 if (decide (v5_0 < (List.length a1.Attrs : Int))) = true then (gd (0 ≤ v5_0) (Option.bind (a1.Attrs[(Int.toNat v5_0)]?) (fun (x26 : Attr) => Option.bind (gleaningref1_Text v0_s_0 x26.Key) (fun (x27 : List UInt8) => gd (0 ≤ v5_0) (Option.bind (a1.Attrs[(Int.toNat v5_0)]?) (fun (x29 : Attr) => Option.bind (gleaningref1_Text x27 x29.Value) (fun (x30 : List UInt8) => some (Sum.inl (x30, (IntKind.i64.wrap (v5_0 + 1))))))))))) else (some (Sum.inr v0_s_0))
def gleaningref1_AddSpan (a0 : List UInt8) (a1 : Span) : Option (List UInt8) :=
 Option.bind (gleaningref1_Put a0 a1.Trace.Hi) (fun (x3 : List UInt8) => Option.bind (gleaningref1_Put x3 a1.Trace.Lo) (fun (x4 : List UInt8) => Option.bind (gleaningref1_Put x4 a1.Id) (fun (x5 : List UInt8) => Option.bind (gleaningref1_Put x5 a1.Parent) (fun (x6 : List UInt8) => Option.bind (gleaningref1_Text x6 a1.Service) (fun (x8 : List UInt8) => Option.bind (gleaningref1_Text x8 a1.Op) (fun (x9 : List UInt8) => Option.bind (gleaningref1_Put x9 (IntKind.u64.wrap a1.Start)) (fun (x11 : List UInt8) => Option.bind (gleaningref1_Put x11 (IntKind.u64.wrap a1.Dur)) (fun (x12 : List UInt8) => Option.bind (gleaningref1_Bit a1.Err) (fun (x13 : Int) => Option.bind (gleaningref1_Put x12 x13) (fun (x14 : List UInt8) => Option.bind (gleaningref1_Put x14 (IntKind.u64.wrap (List.length a1.Attrs : Int))) (fun (x16 : List UInt8) => loopN (fun (s : List UInt8 × Int) => gleaningref1_AddSpan_l0 a1 s.1 s.2) Fu (x16, 0))))))))))))
theorem gleaningref1_AddSpan_ok (a0 : List UInt8) (a1 : Span) {r : List UInt8} (h : gleaningref1_AddSpan a0 a1 = some r) : Ok Try.prog 38 [.own 1 0, .agg [.int .u64 a1.Trace.Hi, .int .u64 a1.Trace.Lo, .int .u64 a1.Id, .int .u64 a1.Parent, .str a1.Service, .str a1.Op, .int .i64 a1.Start, .int .i64 a1.Dur, .bool a1.Err, .sl 2 (List.map enc73 a1.Attrs)]] [] [(5, 1, List.map enc5 a0)] (.own 2 0) [] [(5, 1, List.map enc5 r)] := by
 unfold gleaningref1_AddSpan at h
 refine ok_of_code Try.func38 rfl (by show (2 : Nat) ≤ _; decide) (Nat.le_refl _) fun X => ?_
 refine sr fun K1 hK1 => ?_
 refine pD 3 (do_box W_ rfl rfl) ?_
 refine pa 4 (.nil) ?_
 refine en hK1 ?_
 refine aw_seq_k (fun K2 hK2 => ?_)
 refine aw_regd (by kernel_rfl) (by decide +kernel) ?_
 refine qP 6 (does_move (v := .own 1 0) R_) ?_
 refine qP 7 (does_fieldAddr (q := .ptr 3 0 0) W_ ty59 rfl ty44 D_ R_) ?_
 refine qP 8 (does_fieldAddr (q := .ptr 3 0 0) W_ ty44 rfl ty42 D_ R_) ?_
 refine qR 9 (does_load (v := .int .u64 a1.Trace.Hi) W_ W_ ty42 R_) ?_
 obtain ⟨x3, hx3, h⟩ := bnd_some h
 refine qD 10 (do_callG (bcs := []) [] [(1, 0)] [] 10 false (gleaningref1_Put_ok a0 a1.Trace.Hi hx3) rfl ent27 trivial (rowsOk_cons W_ R_ trivial) rfl rfl rfl rfl rfl rfl rfl rfl (.inr ⟨rfl, rfl, ⟨plain_map (fun _ => rfl), trivial⟩⟩)) ?_
 refine qP 11 (does_fieldAddr (q := .ptr 3 0 0) W_ ty59 rfl ty44 D_ R_) ?_
 refine qP 12 (does_fieldAddr (q := .ptr 3 0 1) W_ ty44 rfl ty42 D_ R_) ?_
 refine qR 13 (does_load (v := .int .u64 a1.Trace.Lo) W_ W_ ty42 R_) ?_
 obtain ⟨x4, hx4, h⟩ := bnd_some h
 refine qD 14 (do_callG (bcs := []) [] [(10, 0)] [] 14 false (gleaningref1_Put_ok x3 a1.Trace.Lo hx4) rfl ent27 trivial (rowsOk_cons W_ R_ trivial) rfl rfl rfl rfl rfl rfl rfl rfl (.inr ⟨rfl, rfl, ⟨plain_map (fun _ => rfl), trivial⟩⟩)) ?_
 refine qP 15 (does_fieldAddr (q := .ptr 3 0 2) W_ ty59 rfl ty42 D_ R_) ?_
 refine qR 16 (does_load (v := .int .u64 a1.Id) W_ W_ ty42 R_) ?_
 obtain ⟨x5, hx5, h⟩ := bnd_some h
 refine qD 17 (do_callG (bcs := []) [] [(14, 0)] [] 17 false (gleaningref1_Put_ok x4 a1.Id hx5) rfl ent27 trivial (rowsOk_cons W_ R_ trivial) rfl rfl rfl rfl rfl rfl rfl rfl (.inr ⟨rfl, rfl, ⟨plain_map (fun _ => rfl), trivial⟩⟩)) ?_
 refine qP 18 (does_fieldAddr (q := .ptr 3 0 3) W_ ty59 rfl ty42 D_ R_) ?_
 refine qR 19 (does_load (v := .int .u64 a1.Parent) W_ W_ ty42 R_) ?_
 obtain ⟨x6, hx6, h⟩ := bnd_some h
 refine qD 20 (do_callG (bcs := []) [] [(17, 0)] [] 20 false (gleaningref1_Put_ok x5 a1.Parent hx6) rfl ent27 trivial (rowsOk_cons W_ R_ trivial) rfl rfl rfl rfl rfl rfl rfl rfl (.inr ⟨rfl, rfl, ⟨plain_map (fun _ => rfl), trivial⟩⟩)) ?_
 refine qP 0 (does_assign (v := .own 20 0) R_) ?_
 refine ao_nil_d (by kernel_rfl) ?_
 refine hK2 _ ?_
 refine aw_seq_k (fun K7 hK7 => ?_)
 refine aw_regd (by kernel_rfl) (by decide +kernel) ?_
 refine qP 21 (does_move (v := .own 20 0) R_) ?_
 refine qP 22 (does_fieldAddr (q := .ptr 3 0 4) W_ ty59 rfl ty9 D_ R_) ?_
 refine qR 23 (does_load (v := .str a1.Service) W_ W_ ty9 R_) ?_
 obtain ⟨x8, hx8, h⟩ := bnd_some h
 refine qD 24 (do_callG (bcs := []) [] [(20, 0)] [] 24 false (gleaningref1_Text_ok x6 a1.Service hx8) rfl ent52 trivial (rowsOk_cons W_ R_ trivial) rfl rfl rfl rfl rfl rfl rfl rfl (.inr ⟨rfl, rfl, ⟨plain_map (fun _ => rfl), trivial⟩⟩)) ?_
 refine qP 25 (does_fieldAddr (q := .ptr 3 0 5) W_ ty59 rfl ty9 D_ R_) ?_
 refine qR 26 (does_load (v := .str a1.Op) W_ W_ ty9 R_) ?_
 obtain ⟨x9, hx9, h⟩ := bnd_some h
 refine qD 27 (do_callG (bcs := []) [] [(24, 0)] [] 27 false (gleaningref1_Text_ok x8 a1.Op hx9) rfl ent52 trivial (rowsOk_cons W_ R_ trivial) rfl rfl rfl rfl rfl rfl rfl rfl (.inr ⟨rfl, rfl, ⟨plain_map (fun _ => rfl), trivial⟩⟩)) ?_
 refine qP 0 (does_assign (v := .own 27 0) R_) ?_
 refine ao_nil_d (by kernel_rfl) ?_
 refine hK7 _ ?_
 refine aw_seq_k (fun K10 hK10 => ?_)
 refine aw_regd (by kernel_rfl) (by decide +kernel) ?_
 refine qP 28 (does_move (v := .own 27 0) R_) ?_
 refine qP 29 (does_fieldAddr (q := .ptr 3 0 6) W_ ty59 rfl ty3 D_ R_) ?_
 refine qR 30 (does_load (v := .int .i64 a1.Start) W_ W_ ty3 R_) ?_
 refine qP 31 (does_conv_int (v := .int .u64 (IntKind.u64.wrap a1.Start)) W_ (ty_some ty3) (ty_int ty42) rfl) ?_
 obtain ⟨x11, hx11, h⟩ := bnd_some h
 refine qD 32 (do_callG (bcs := []) [] [(27, 0)] [] 32 false (gleaningref1_Put_ok x9 (IntKind.u64.wrap a1.Start) hx11) rfl ent27 trivial (rowsOk_cons W_ R_ trivial) rfl rfl rfl rfl rfl rfl rfl rfl (.inr ⟨rfl, rfl, ⟨plain_map (fun _ => rfl), trivial⟩⟩)) ?_
 refine qP 33 (does_fieldAddr (q := .ptr 3 0 7) W_ ty59 rfl ty3 D_ R_) ?_
 refine qR 34 (does_load (v := .int .i64 a1.Dur) W_ W_ ty3 R_) ?_
 refine qP 35 (does_conv_int (v := .int .u64 (IntKind.u64.wrap a1.Dur)) W_ (ty_some ty3) (ty_int ty42) rfl) ?_
 obtain ⟨x12, hx12, h⟩ := bnd_some h
 refine qD 36 (do_callG (bcs := []) [] [(32, 0)] [] 36 false (gleaningref1_Put_ok x11 (IntKind.u64.wrap a1.Dur) hx12) rfl ent27 trivial (rowsOk_cons W_ R_ trivial) rfl rfl rfl rfl rfl rfl rfl rfl (.inr ⟨rfl, rfl, ⟨plain_map (fun _ => rfl), trivial⟩⟩)) ?_
 refine qP 37 (does_fieldAddr (q := .ptr 3 0 8) W_ ty59 rfl ty4 D_ R_) ?_
 refine qR 38 (does_load (v := .bool a1.Err) W_ W_ ty4 R_) ?_
 obtain ⟨x13, hx13, h⟩ := bnd_some h
 refine qD 39 (do_call0 39 false (gleaningref1_Bit_ok a1.Err hx13) rfl ent37 rfl rfl) ?_
 obtain ⟨x14, hx14, h⟩ := bnd_some h
 refine qD 40 (do_callG (bcs := []) [] [(36, 0)] [] 40 false (gleaningref1_Put_ok x12 x13 hx14) rfl ent27 trivial (rowsOk_cons W_ R_ trivial) rfl rfl rfl rfl rfl rfl rfl rfl (.inr ⟨rfl, rfl, ⟨plain_map (fun _ => rfl), trivial⟩⟩)) ?_
 refine qP 0 (does_assign (v := .own 40 0) R_) ?_
 refine ao_nil_d (by kernel_rfl) ?_
 refine hK10 _ ?_
 refine sr fun K15 hK15 => ?_
 refine pm 41 (.own 40 0) ?_
 refine pf 42 (.ptr 3 0 9) ty59 ty57 ?_
 refine pl 43 (.sl 2 (List.map enc73 a1.Attrs)) ty57 ?_
 refine pP 44 ((does_len_sl W_ ty57).castp (v' := .int .i64 (List.length a1.Attrs : Int)) (by exact len_map _)) ?_
 refine pP 45 (does_conv_int (v := .int .u64 (IntKind.u64.wrap (List.length a1.Attrs : Int))) W_ (ty_some ty3) (ty_int ty42) rfl) ?_
 obtain ⟨x16, hx16, h⟩ := bnd_some h
 refine pD 46 (do_callG (bcs := []) [] [(40, 0)] [] 46 false (gleaningref1_Put_ok x14 (IntKind.u64.wrap (List.length a1.Attrs : Int)) hx16) rfl ent27 trivial (rowsOk_cons W_ R_ trivial) rfl rfl rfl rfl rfl rfl rfl rfl (.inr ⟨rfl, rfl, ⟨plain_map (fun _ => rfl), trivial⟩⟩)) ?_
 refine pa 0 (.own 46 0) ?_
 refine en hK15 ?_
 refine aw_seq_k (fun K17 hK17 => ?_)
 refine sr fun K18 hK18 => ?_
 refine pa 5 (.int .i64 0) ?_
 refine en hK18 ?_
 refine aw_block ?_
 refine aw_loop' (fun m s => ∃ (v0_s_0 : List UInt8), ∃ (v5_0 : Int), loopN (fun (s : List UInt8 × Int) => gleaningref1_AddSpan_l0 a1 s.1 s.2) m (v0_s_0, v5_0) = some r ∧ s = lit [(0, .own 46 0), (3, .ptr 3 0 0), (5, .int .i64 v5_0)] [((46, 0), .arr 5 1 false (List.map enc5 v0_s_0)), ((3, 0), .box [.int .u64 a1.Trace.Hi, .int .u64 a1.Trace.Lo, .int .u64 a1.Id, .int .u64 a1.Parent, .str a1.Service, .str a1.Op, .int .i64 a1.Start, .int .i64 a1.Dur, .bool a1.Err, .sl 2 (List.map enc73 a1.Attrs)])] [(3, 1), (46, 1)] X) Fu
  ⟨_, reb_lit [(0, .own 46 0), (3, .ptr 3 0 0), (5, .int .i64 (0))] [(46, 0), (3, 0)] [((46, 0), .arr 5 1 false (List.map enc5 x16)), ((3, 0), .box [.int .u64 a1.Trace.Hi, .int .u64 a1.Trace.Lo, .int .u64 a1.Id, .int .u64 a1.Parent, .str a1.Service, .str a1.Op, .int .i64 a1.Start, .int .i64 a1.Dur, .bool a1.Err, .sl 2 (List.map enc73 a1.Attrs)])] [(3, 1), (46, 1)] (ec (ec (ec envOk_nil))) (objOk_cons W_ W_ R_ (by simp) (objOk_cons W_ W_ R_ (by simp) objOk_nil)) (nodup_b rfl) (nodup_b rfl) rfl rfl, x16, 0, h, rfl⟩ ?_
 rintro m s ⟨v0_s_0, v5_0, h, rfl⟩
 obtain ⟨m0, q19, rfl, h, hq20⟩ := loop_some h
 replace h : gleaningref1_AddSpan_l0 a1 v0_s_0 v5_0 = some q19 := h
 unfold gleaningref1_AddSpan_l0 at h
 refine aw_seq_k (fun K21 hK21 => ?_)
 refine sr fun K22 hK22 => ?_
 refine pm 47 (.int .i64 v5_0) ?_
 refine pf 48 (.ptr 3 0 9) ty59 ty57 ?_
 refine pl 49 (.sl 2 (List.map enc73 a1.Attrs)) ty57 ?_
 refine pP 50 ((does_len_sl W_ ty57).castp (v' := .int .i64 (List.length a1.Attrs : Int)) (by exact len_map _)) ?_
 refine pb 51 (.bool (decide (v5_0 < (List.length a1.Attrs : Int)))) ?_
 refine en hK22 ?_
 refine aw_bool (b := (decide (v5_0 < (List.length a1.Attrs : Int)))) 51 rfl (fun c23 => ?_) (fun c23 => ?_)
 ·have h := ifT c23 h
  refine aw_cond_t D_ rfl ?_
  refine aw_skip ?_
  refine hK21 _ ?_
  refine aw_seq_k (fun K24 hK24 => ?_)
  refine aw_block ?_
  refine aw_regd (by kernel_rfl) (by decide +kernel) ?_
  refine qP 54 (does_move (v := .own 46 0) R_) ?_
  refine qP 55 (does_fieldAddr (q := .ptr 3 0 9) W_ ty59 rfl ty57 D_ R_) ?_
  refine qR 56 (does_load (v := .sl 2 (List.map enc73 a1.Attrs)) W_ W_ ty57 R_) ?_
  refine qP 57 (does_move (v := .int .i64 v5_0) R_) ?_
  obtain ⟨g25, h⟩ := gd_some h
  obtain ⟨x26, hx26, h⟩ := bnd_some h
  refine qP 58 (does_indexAddr_sl (el := .agg [.str x26.Key, .str x26.Value]) W_ W_ ty57 ty74 g25 (by exact map_get hx26)) ?_
  refine qP 59 (does_fieldAddr (q := .rptr [.str x26.Key, .str x26.Value]) W_ ty74 rfl ty9 D_ R_) ?_
  refine qR 60 (does_load (v := .str x26.Key) W_ W_ ty9 R_) ?_
  obtain ⟨x27, hx27, h⟩ := bnd_some h
  refine qD 61 (do_callG (bcs := []) [] [(46, 0)] [] 61 false (gleaningref1_Text_ok v0_s_0 x26.Key hx27) rfl ent52 trivial (rowsOk_cons W_ R_ trivial) rfl rfl rfl rfl rfl rfl rfl rfl (.inr ⟨rfl, rfl, ⟨plain_map (fun _ => rfl), trivial⟩⟩)) ?_
  refine qP 62 (does_fieldAddr (q := .ptr 3 0 9) W_ ty59 rfl ty57 D_ R_) ?_
  refine qR 63 (does_load (v := .sl 2 (List.map enc73 a1.Attrs)) W_ W_ ty57 R_) ?_
  refine qP 64 (does_move (v := .int .i64 v5_0) R_) ?_
  obtain ⟨g28, h⟩ := gd_some h
  obtain ⟨x29, hx29, h⟩ := bnd_some h
  refine qP 65 (does_indexAddr_sl (el := .agg [.str x29.Key, .str x29.Value]) W_ W_ ty57 ty74 g28 (by exact map_get hx29)) ?_
  refine qP 66 (does_fieldAddr (q := .rptr [.str x29.Value]) W_ ty74 rfl ty9 D_ R_) ?_
  refine qR 67 (does_load (v := .str x29.Value) W_ W_ ty9 R_) ?_
  obtain ⟨x30, hx30, h⟩ := bnd_some h
  refine qD 68 (do_callG (bcs := []) [] [(61, 0)] [] 68 false (gleaningref1_Text_ok x27 x29.Value hx30) rfl ent52 trivial (rowsOk_cons W_ R_ trivial) rfl rfl rfl rfl rfl rfl rfl rfl (.inr ⟨rfl, rfl, ⟨plain_map (fun _ => rfl), trivial⟩⟩)) ?_
  refine qP 0 (does_assign (v := .own 68 0) R_) ?_
  refine ao_nil_d (by kernel_rfl) ?_
  refine hK24 _ ?_
  refine aw_regL ?_
  refine pm 52 (.int .i64 v5_0) ?_
  refine pb 53 (.int .i64 (IntKind.i64.wrap (v5_0 + 1))) ?_
  refine pa 5 (.int .i64 (IntKind.i64.wrap (v5_0 + 1))) ?_
  refine al_nil ?_
  have h := leafL h hq20
  exact ⟨m0, Nat.lt_succ_self _, _, reb_lit [(0, .own 46 0), (3, .ptr 3 0 0), (5, .int .i64 (IntKind.i64.wrap (v5_0 + 1)))] [(68, 0), (3, 0)] [((46, 0), .arr 5 1 false (List.map enc5 x30)), ((3, 0), .box [.int .u64 a1.Trace.Hi, .int .u64 a1.Trace.Lo, .int .u64 a1.Id, .int .u64 a1.Parent, .str a1.Service, .str a1.Op, .int .i64 a1.Start, .int .i64 a1.Dur, .bool a1.Err, .sl 2 (List.map enc73 a1.Attrs)])] [(3, 1), (46, 1)] (ec (ec (ec envOk_nil))) (objOk_cons W_ W_ R_ (by simp) (objOk_cons W_ W_ R_ (by simp) objOk_nil)) (nodup_b rfl) (nodup_b rfl) rfl rfl, x30, (IntKind.i64.wrap (v5_0 + 1)), h, rfl⟩
 ·have h := ifF c23 h
  refine aw_cond_f D_ rfl ?_
  refine aw_exit ?_
  have h := leafR h hq20
  refine hK17 _ ?_
  refine sr fun K31 hK31 => ?_
  refine pm 69 (.own 46 0) ?_
  refine pa 4 (.own 46 0) ?_
  refine en hK31 ?_
  refine aw_ret ?_
  obtain rfl := Option.some.inj h
  exact ret_okR [(46, 0)] W_ W_ R_ (rowsOk_cons W_ R_ trivial) (nodup_b rfl) (.inr rfl) rfl
end Go.Proofs.Ytejimiedoibkcaa.Ab
namespace Go.Proofs.Ytejimiedoibkcaa.Ab
open Go Go.RowKit
set_option linter.unusedVariables false
set_option linter.unusedSimpArgs false
set_option maxRecDepth 100000
set_option maxHeartbeats 8000000
theorem ty70 : tyOf Try.prog 70 = some ⟨.int .u32, 1, 4, [.int .u32 0]⟩ := by kernel_rfl
theorem ent39 : Ent Try.prog 39 := ⟨_, Try.func39, by kernel_rfl, rfl⟩
theorem ent40 : Ent Try.prog 40 := ⟨_, Try.func40, by kernel_rfl, rfl⟩
theorem ent50 : Ent Try.prog 50 := ⟨_, Try.func50, by kernel_rfl, rfl⟩
theorem ent51 : Ent Try.prog 51 := ⟨_, Try.func51, by kernel_rfl, rfl⟩
theorem ent53 : Ent Try.prog 53 := ⟨_, Try.func53, by kernel_rfl, rfl⟩
theorem ent61 : Ent Try.prog 61 := ⟨_, Try.func61, by kernel_rfl, rfl⟩
def check_More_l1 (v12_0 : Int) (v5_1 : Int) (v20_1 : Int) : Option ((Int × Int) ⊕ ((Int × Int) ⊕ Int)) :=
 if (decide (v20_1 < 8)) = true then (some (Sum.inl ((bits .xor .u32 (Int.fdiv v5_1 (2 ^ (min (Int.toNat 1) (IntKind.bits .u32)))) (IntKind.u32.wrap (3988292384 * (bits .and .u32 v5_1 1)))), (IntKind.i64.wrap (v20_1 + 1))))) else (some (Sum.inr (Sum.inl (v5_1, (IntKind.i64.wrap (v12_0 + 1))))))
def check_More_l0 (a1 : List UInt8) (v5_0 : Int) (v12_0 : Int) : Option ((Int × Int) ⊕ Int) :=
 if (decide (v12_0 < (List.length a1 : Int))) = true then (gd (0 ≤ v12_0) (Option.bind (a1[(Int.toNat v12_0)]?) (fun (x13 : UInt8) => loopN (fun (s : Int × Int) => check_More_l1 v12_0 s.1 s.2) Fu ((bits .xor .u32 v5_0 (IntKind.u32.wrap (x13.toNat : Int))), 0)))) else (some (Sum.inr (bits .xor .u32 (if IntKind.signed .u32 then -1 else IntKind.max .u32) v5_0)))
def check_More (a0 : Int) (a1 : List UInt8) : Option Int :=
 loopN (fun (s : Int × Int) => check_More_l0 a1 s.1 s.2) Fu ((bits .xor .u32 (if IntKind.signed .u32 then -1 else IntKind.max .u32) a0), 0)
theorem check_More_ok (a0 : Int) (a1 : List UInt8) {r : Int} (h : check_More a0 a1 = some r) : Ok Try.prog 61 [.int .u32 a0, .sl 1 (List.map enc5 a1)] [] [] (.int .u32 r) [] [] := by
 unfold check_More at h
 refine ok_of_code Try.func61 rfl (by show (2 : Nat) ≤ _; decide) (Nat.le_refl _) fun X => ?_
 refine sr fun K1 hK1 => ?_
 refine pa 4 (.int .u32 0) ?_
 refine en hK1 ?_
 refine sr fun K2 hK2 => ?_
 refine pm 8 (.int .u32 a0) ?_
 refine pP 9 (does_un (v := .int .u32 (bits .xor .u32 (if IntKind.signed .u32 then -1 else IntKind.max .u32) a0)) W_ rfl) ?_
 refine pa 5 (.int .u32 (bits .xor .u32 (if IntKind.signed .u32 then -1 else IntKind.max .u32) a0)) ?_
 refine en hK2 ?_
 refine aw_seq_k (fun K3 hK3 => ?_)
 refine sr fun K4 hK4 => ?_
 refine pm 10 (.sl 1 (List.map enc5 a1)) ?_
 refine pP 11 ((does_len_sl W_ ty39).castp (v' := .int .i64 (List.length a1 : Int)) (by exact len_map _)) ?_
 refine pm 12 (.int .i64 0) ?_
 refine en hK4 ?_
 refine aw_block ?_
 refine aw_loop' (fun m s => ∃ (v5_0 : Int), ∃ (v12_0 : Int), loopN (fun (s : Int × Int) => check_More_l0 a1 s.1 s.2) m (v5_0, v12_0) = some r ∧ s = lit [(5, .int .u32 v5_0), (10, .sl 1 (List.map enc5 a1)), (11, .int .i64 (List.length a1 : Int)), (12, .int .i64 v12_0)] [] [] X) Fu
  ⟨_, reb_lit [(5, .int .u32 (bits .xor .u32 (if IntKind.signed .u32 then -1 else IntKind.max .u32) a0)), (10, .sl 1 (List.map enc5 a1)), (11, .int .i64 (List.length a1 : Int)), (12, .int .i64 (0))] [] [] [] (ec (ec (ec (ec envOk_nil)))) objOk_nil (nodup_b rfl) (nodup_b rfl) rfl rfl, (bits .xor .u32 (if IntKind.signed .u32 then -1 else IntKind.max .u32) a0), 0, h, rfl⟩ ?_
 rintro m s ⟨v5_0, v12_0, h, rfl⟩
 obtain ⟨m0, q5, rfl, h, hq6⟩ := loop_some h
 replace h : check_More_l0 a1 v5_0 v12_0 = some q5 := h
 unfold check_More_l0 at h
 refine sr fun K7 hK7 => ?_
 refine pb 13 (.bool (decide (v12_0 < (List.length a1 : Int)))) ?_
 refine en hK7 ?_
 refine aw_seq_k (fun K8 hK8 => ?_)
 refine aw_bool (b := (decide (v12_0 < (List.length a1 : Int)))) 13 rfl (fun c9 => ?_) (fun c9 => ?_)
 ·have h := ifT c9 h
  refine aw_cond_t D_ rfl ?_
  refine aw_skip ?_
  refine hK8 _ ?_
  refine aw_seq_k (fun K10 hK10 => ?_)
  refine aw_block ?_
  refine sr fun K11 hK11 => ?_
  obtain ⟨g12, h⟩ := gd_some h
  obtain ⟨x13, hx13, h⟩ := bnd_some h
  refine pP 14 (does_indexAddr_sl (el := .int .u8 (x13.toNat : Int)) W_ W_ ty39 ty5 g12 (by exact map_get hx13)) ?_
  refine pl 15 (.int .u8 (x13.toNat : Int)) ty5 ?_
  refine pa 7 (.int .u8 (x13.toNat : Int)) ?_
  refine en hK11 ?_
  refine sr fun K14 hK14 => ?_
  refine pm 16 (.int .u32 v5_0) ?_
  refine pm 17 (.int .u8 (x13.toNat : Int)) ?_
  refine pP 18 (does_conv_int (v := .int .u32 (IntKind.u32.wrap (x13.toNat : Int))) W_ (ty_some ty5) (ty_int ty70) rfl) ?_
  refine pb 19 (.int .u32 (bits .xor .u32 v5_0 (IntKind.u32.wrap (x13.toNat : Int)))) ?_
  refine pa 5 (.int .u32 (bits .xor .u32 v5_0 (IntKind.u32.wrap (x13.toNat : Int)))) ?_
  refine en hK14 ?_
  refine sr fun K15 hK15 => ?_
  refine pm 20 (.int .i64 0) ?_
  refine en hK15 ?_
  refine aw_block ?_
  refine aw_loop' (fun m s => ∃ (v5_1 : Int), ∃ (v20_1 : Int), loopN (fun (s : Int × Int) => check_More_l1 v12_0 s.1 s.2) m (v5_1, v20_1) = some q5 ∧ s = lit [(5, .int .u32 v5_1), (10, .sl 1 (List.map enc5 a1)), (11, .int .i64 (List.length a1 : Int)), (12, .int .i64 v12_0), (20, .int .i64 v20_1)] [] [] X) Fu
   ⟨_, reb_lit [(5, .int .u32 (bits .xor .u32 v5_0 (IntKind.u32.wrap (x13.toNat : Int)))), (10, .sl 1 (List.map enc5 a1)), (11, .int .i64 (List.length a1 : Int)), (12, .int .i64 v12_0), (20, .int .i64 (0))] [] [] [] (ec (ec (ec (ec (ec envOk_nil))))) objOk_nil (nodup_b rfl) (nodup_b rfl) rfl rfl, (bits .xor .u32 v5_0 (IntKind.u32.wrap (x13.toNat : Int))), 0, h, rfl⟩ ?_
  rintro m s ⟨v5_1, v20_1, h, rfl⟩
  obtain ⟨m1, q16, rfl, h, hq17⟩ := loop_some h
  replace h : check_More_l1 v12_0 v5_1 v20_1 = some q16 := h
  unfold check_More_l1 at h
  refine sr fun K18 hK18 => ?_
  refine pb 21 (.bool (decide (v20_1 < 8))) ?_
  refine en hK18 ?_
  refine aw_seq_k (fun K19 hK19 => ?_)
  refine aw_bool (b := (decide (v20_1 < 8))) 21 rfl (fun c20 => ?_) (fun c20 => ?_)
  ·have h := ifT c20 h
   refine aw_cond_t D_ rfl ?_
   refine aw_skip ?_
   refine hK19 _ ?_
   refine aw_seq_k (fun K21 hK21 => ?_)
   refine aw_block ?_
   refine aw_regL ?_
   refine pm 22 (.int .u32 v5_1) ?_
   refine pb 23 (.int .u32 (Int.fdiv v5_1 (2 ^ (min (Int.toNat 1) (IntKind.bits .u32))))) ?_
   refine pm 24 (.int .u32 v5_1) ?_
   refine pb 25 (.int .u32 (bits .and .u32 v5_1 1)) ?_
   refine pb 26 (.int .u32 (IntKind.u32.wrap (3988292384 * (bits .and .u32 v5_1 1)))) ?_
   refine pb 27 (.int .u32 (bits .xor .u32 (Int.fdiv v5_1 (2 ^ (min (Int.toNat 1) (IntKind.bits .u32)))) (IntKind.u32.wrap (3988292384 * (bits .and .u32 v5_1 1))))) ?_
   refine pa 5 (.int .u32 (bits .xor .u32 (Int.fdiv v5_1 (2 ^ (min (Int.toNat 1) (IntKind.bits .u32)))) (IntKind.u32.wrap (3988292384 * (bits .and .u32 v5_1 1))))) ?_
   refine en hK21 ?_
   refine aw_regL ?_
   refine pb 28 (.int .i64 (IntKind.i64.wrap (v20_1 + 1))) ?_
   refine pm 20 (.int .i64 (IntKind.i64.wrap (v20_1 + 1))) ?_
   refine al_nil ?_
   have h := leafL h hq17
   exact ⟨m1, Nat.lt_succ_self _, _, reb_lit [(5, .int .u32 (bits .xor .u32 (Int.fdiv v5_1 (2 ^ (min (Int.toNat 1) (IntKind.bits .u32)))) (IntKind.u32.wrap (3988292384 * (bits .and .u32 v5_1 1))))), (10, .sl 1 (List.map enc5 a1)), (11, .int .i64 (List.length a1 : Int)), (12, .int .i64 v12_0), (20, .int .i64 (IntKind.i64.wrap (v20_1 + 1)))] [] [] [] (ec (ec (ec (ec (ec envOk_nil))))) objOk_nil (nodup_b rfl) (nodup_b rfl) rfl rfl, (bits .xor .u32 (Int.fdiv v5_1 (2 ^ (min (Int.toNat 1) (IntKind.bits .u32)))) (IntKind.u32.wrap (3988292384 * (bits .and .u32 v5_1 1)))), (IntKind.i64.wrap (v20_1 + 1)), h, rfl⟩
  ·have h := ifF c20 h
   refine aw_cond_f D_ rfl ?_
   refine aw_exit ?_
   have h := leafR h hq17
   refine hK10 _ ?_
   refine aw_regL ?_
   refine pb 29 (.int .i64 (IntKind.i64.wrap (v12_0 + 1))) ?_
   refine pm 12 (.int .i64 (IntKind.i64.wrap (v12_0 + 1))) ?_
   refine al_nil ?_
   have h := leafL h hq6
   exact ⟨m0, Nat.lt_succ_self _, _, reb_lit [(5, .int .u32 v5_1), (10, .sl 1 (List.map enc5 a1)), (11, .int .i64 (List.length a1 : Int)), (12, .int .i64 (IntKind.i64.wrap (v12_0 + 1)))] [] [] [] (ec (ec (ec (ec envOk_nil)))) objOk_nil (nodup_b rfl) (nodup_b rfl) rfl rfl, v5_1, (IntKind.i64.wrap (v12_0 + 1)), h, rfl⟩
 ·have h := ifF c9 h
  refine aw_cond_f D_ rfl ?_
  refine aw_exit ?_
  have h := leafR h hq6
  refine hK3 _ ?_
  refine sr fun K22 hK22 => ?_
  refine pm 30 (.int .u32 v5_0) ?_
  refine pP 31 (does_un (v := .int .u32 (bits .xor .u32 (if IntKind.signed .u32 then -1 else IntKind.max .u32) v5_0)) W_ rfl) ?_
  refine pa 4 (.int .u32 (bits .xor .u32 (if IntKind.signed .u32 then -1 else IntKind.max .u32) v5_0)) ?_
  refine en hK22 ?_
  refine aw_ret ?_
  obtain rfl := Option.some.inj h
  exact ret_ok1 W_ W_ R_ (.inr rfl) rfl
def check_Sum (a0 : List UInt8) : Option Int :=
 Option.bind (check_More 0 a0) (fun (x3 : Int) => some x3)
theorem check_Sum_ok (a0 : List UInt8) {r : Int} (h : check_Sum a0 = some r) : Ok Try.prog 51 [.sl 1 (List.map enc5 a0)] [] [] (.int .u32 r) [] [] := by
 unfold check_Sum at h
 refine ok_of_code Try.func51 rfl (by show (1 : Nat) ≤ _; decide) (Nat.le_refl _) fun X => ?_
 refine sr fun K1 hK1 => ?_
 refine pa 2 (.int .u32 0) ?_
 refine en hK1 ?_
 refine sr fun K2 hK2 => ?_
 refine pm 3 (.sl 1 (List.map enc5 a0)) ?_
 obtain ⟨x3, hx3, h⟩ := bnd_some h
 refine pD 4 (do_call0 4 false (check_More_ok 0 a0 hx3) rfl ent61 rfl rfl) ?_
 refine pa 2 (.int .u32 x3) ?_
 refine en hK2 ?_
 refine aw_ret ?_
 obtain rfl := Option.some.inj h
 exact ret_ok1 W_ W_ R_ (.inr rfl) rfl
def check_Put_l0 (a1 : Int) (v0_s_0 : List UInt8) (v6_0 : Int) : Option ((List UInt8 × Int) ⊕ (List UInt8)) :=
 if (decide (v6_0 < 4)) = true then (gd (¬ (IntKind.i64.wrap (8 * v6_0)) < 0) (gd ((List.length (v0_s_0 ++ [(u8 (IntKind.u8.wrap (Int.fdiv a1 (2 ^ (min (Int.toNat (IntKind.i64.wrap (8 * v6_0))) (IntKind.bits .u32))))))])) * 1 ≤ 140737488355328 ∧ (List.length (v0_s_0 ++ [(u8 (IntKind.u8.wrap (Int.fdiv a1 (2 ^ (min (Int.toNat (IntKind.i64.wrap (8 * v6_0))) (IntKind.bits .u32))))))])) ≤ 140737488355328) (some (Sum.inl ((v0_s_0 ++ [(u8 (IntKind.u8.wrap (Int.fdiv a1 (2 ^ (min (Int.toNat (IntKind.i64.wrap (8 * v6_0))) (IntKind.bits .u32))))))]), (IntKind.i64.wrap (v6_0 + 1))))))) else (some (Sum.inr v0_s_0))
def check_Put (a0 : List UInt8) (a1 : Int) : Option (List UInt8) :=
 loopN (fun (s : List UInt8 × Int) => check_Put_l0 a1 s.1 s.2) Fu (a0, 0)
theorem check_Put_ok (a0 : List UInt8) (a1 : Int) {r : List UInt8} (h : check_Put a0 a1 = some r) : Ok Try.prog 50 [.own 1 0, .int .u32 a1] [] [(5, 1, List.map enc5 a0)] (.own 2 0) [] [(5, 1, List.map enc5 r)] := by
 unfold check_Put at h
 refine ok_of_code Try.func50 rfl (by show (2 : Nat) ≤ _; decide) (Nat.le_refl _) fun X => ?_
 refine sr fun K1 hK1 => ?_
 refine pa 4 (.nil) ?_
 refine en hK1 ?_
 refine aw_seq_k (fun K2 hK2 => ?_)
 refine sr fun K3 hK3 => ?_
 refine pm 6 (.int .i64 0) ?_
 refine en hK3 ?_
 refine aw_block ?_
 refine aw_loop' (fun m s => ∃ (v0_s_0 : List UInt8), ∃ (v6_0 : Int), loopN (fun (s : List UInt8 × Int) => check_Put_l0 a1 s.1 s.2) m (v0_s_0, v6_0) = some r ∧ s = lit [(0, .own 1 0), (1, .int .u32 a1), (6, .int .i64 v6_0)] [((1, 0), .arr 5 1 false (List.map enc5 v0_s_0))] [(1, 1)] X) Fu
  ⟨_, reb_lit [(0, .own 1 0), (1, .int .u32 a1), (6, .int .i64 (0))] [(1, 0)] [((1, 0), .arr 5 1 false (List.map enc5 a0))] [(1, 1)] (ec (ec (ec envOk_nil))) (objOk_cons W_ W_ R_ (by simp) objOk_nil) (nodup_b rfl) (nodup_b rfl) rfl rfl, a0, 0, h, rfl⟩ ?_
 rintro m s ⟨v0_s_0, v6_0, h, rfl⟩
 obtain ⟨m0, q4, rfl, h, hq5⟩ := loop_some h
 replace h : check_Put_l0 a1 v0_s_0 v6_0 = some q4 := h
 unfold check_Put_l0 at h
 refine sr fun K6 hK6 => ?_
 refine pb 7 (.bool (decide (v6_0 < 4))) ?_
 refine en hK6 ?_
 refine aw_seq_k (fun K7 hK7 => ?_)
 refine aw_bool (b := (decide (v6_0 < 4))) 7 rfl (fun c8 => ?_) (fun c8 => ?_)
 ·have h := ifT c8 h
  refine aw_cond_t D_ rfl ?_
  refine aw_skip ?_
  refine hK7 _ ?_
  refine aw_seq_k (fun K9 hK9 => ?_)
  refine aw_block ?_
  refine sr fun K10 hK10 => ?_
  refine pm 8 (.int .i64 v6_0) ?_
  refine pa 5 (.int .i64 v6_0) ?_
  refine en hK10 ?_
  refine aw_regL ?_
  refine pm 9 (.own 1 0) ?_
  refine pm 10 (.int .u32 a1) ?_
  refine pm 11 (.int .i64 v6_0) ?_
  refine pb 12 (.int .i64 (IntKind.i64.wrap (8 * v6_0))) ?_
  obtain ⟨g11, h⟩ := gd_some h
  refine pP 13 (does_bin (v := .int .u32 (Int.fdiv a1 (2 ^ (min (Int.toNat (IntKind.i64.wrap (8 * v6_0))) (IntKind.bits .u32))))) W_ W_ (shr_hv g11)) ?_
  refine pP 14 ((does_conv_int (v := .int .u8 (IntKind.u8.wrap (Int.fdiv a1 (2 ^ (min (Int.toNat (IntKind.i64.wrap (8 * v6_0))) (IntKind.bits .u32)))))) W_ (ty_some ty70) (ty_int ty5) rfl).castp (v' := .int .u8 ((u8 (IntKind.u8.wrap (Int.fdiv a1 (2 ^ (min (Int.toNat (IntKind.i64.wrap (8 * v6_0))) (IntKind.bits .u32)))))).toNat : Int)) (by exact congrArg _ (u8_eq (u8_wrap _)))) ?_
  refine pD 15 (do_buildSlice (xs := List.map enc5 [(u8 (IntKind.u8.wrap (Int.fdiv a1 (2 ^ (min (Int.toNat (IntKind.i64.wrap (8 * v6_0))) (IntKind.bits .u32))))))]) ty39 ty5 rfl rfl rfl rfl rfl rfl rfl rfl) ?_
  obtain ⟨g12, h⟩ := gd_some h
  refine pD 16 (do_append (v := List.map enc5 (v0_s_0 ++ [(u8 (IntKind.u8.wrap (Int.fdiv a1 (2 ^ (min (Int.toNat (IntKind.i64.wrap (8 * v6_0))) (IntKind.bits .u32))))))])) W_ W_ ty39 ty5 rfl rfl W_ (by first | exact .inl rfl | exact .inr ⟨rfl, rfl⟩) W_ (by first | exact .inr rfl | exact .inl rfl) (map_app _ _) (fit_map g12)) ?_
  refine pa 0 (.own 16 0) ?_
  refine en hK9 ?_
  refine aw_regL ?_
  refine pb 17 (.int .i64 (IntKind.i64.wrap (v6_0 + 1))) ?_
  refine pm 6 (.int .i64 (IntKind.i64.wrap (v6_0 + 1))) ?_
  refine al_nil ?_
  have h := leafL h hq5
  exact ⟨m0, Nat.lt_succ_self _, _, reb_lit [(0, .own 1 0), (1, .int .u32 a1), (6, .int .i64 (IntKind.i64.wrap (v6_0 + 1)))] [(16, 0)] [((1, 0), .arr 5 1 false (List.map enc5 (v0_s_0 ++ [(u8 (IntKind.u8.wrap (Int.fdiv a1 (2 ^ (min (Int.toNat (IntKind.i64.wrap (8 * v6_0))) (IntKind.bits .u32))))))])))] [(1, 1)] (ec (ec (ec envOk_nil))) (objOk_cons W_ W_ R_ (by simp) objOk_nil) (nodup_b rfl) (nodup_b rfl) rfl rfl, (v0_s_0 ++ [(u8 (IntKind.u8.wrap (Int.fdiv a1 (2 ^ (min (Int.toNat (IntKind.i64.wrap (8 * v6_0))) (IntKind.bits .u32))))))]), (IntKind.i64.wrap (v6_0 + 1)), h, rfl⟩
 ·have h := ifF c8 h
  refine aw_cond_f D_ rfl ?_
  refine aw_exit ?_
  have h := leafR h hq5
  refine hK2 _ ?_
  refine sr fun K13 hK13 => ?_
  refine pm 18 (.own 1 0) ?_
  refine pa 4 (.own 1 0) ?_
  refine en hK13 ?_
  refine aw_ret ?_
  obtain rfl := Option.some.inj h
  exact ret_okR [(1, 0)] W_ W_ R_ (rowsOk_cons W_ R_ trivial) (nodup_b rfl) (.inr rfl) rfl
def check_Seal (a0 : List UInt8) : Option (List UInt8) :=
 gd ((List.length a0) * 1 ≤ 140737488355328 ∧ (List.length a0) ≤ 140737488355328) (Option.bind (check_Sum a0) (fun (x4 : Int) => Option.bind (check_Put a0 x4) (fun (x5 : List UInt8) => some x5)))
theorem check_Seal_ok (a0 : List UInt8) {r : List UInt8} (h : check_Seal a0 = some r) : Ok Try.prog 36 [.sl 1 (List.map enc5 a0)] [] [] (.own 2 0) [] [(5, 1, List.map enc5 r)] := by
 unfold check_Seal at h
 refine ok_of_code Try.func36 rfl (by show (1 : Nat) ≤ _; decide) (Nat.le_refl _) fun X => ?_
 refine sr fun K1 hK1 => ?_
 refine pa 2 (.nil) ?_
 refine en hK1 ?_
 refine sr fun K2 hK2 => ?_
 refine pm 3 (.sl 1 (List.map enc5 a0)) ?_
 obtain ⟨g3, h⟩ := gd_some h
 refine pD 4 (do_append (v := List.map enc5 a0) W_ W_ ty39 ty5 rfl rfl W_ (by first | exact .inl rfl | exact .inr ⟨rfl, rfl⟩) W_ (by first | exact .inr rfl | exact .inl rfl) (List.nil_append _) (fit_map g3)) ?_
 refine pm 5 (.sl 1 (List.map enc5 a0)) ?_
 obtain ⟨x4, hx4, h⟩ := bnd_some h
 refine pD 6 (do_call0 6 false (check_Sum_ok a0 hx4) rfl ent51 rfl rfl) ?_
 obtain ⟨x5, hx5, h⟩ := bnd_some h
 refine pD 7 (do_callG (bcs := []) [] [(4, 0)] [] 7 false (check_Put_ok a0 x4 hx5) rfl ent50 trivial (rowsOk_cons W_ R_ trivial) rfl rfl rfl rfl rfl rfl rfl rfl (.inr ⟨rfl, rfl, ⟨plain_map (fun _ => rfl), trivial⟩⟩)) ?_
 refine pa 2 (.own 7 0) ?_
 refine en hK2 ?_
 refine aw_ret ?_
 obtain rfl := Option.some.inj h
 exact ret_okR [(7, 0)] W_ W_ R_ (rowsOk_cons W_ R_ trivial) (nodup_b rfl) (.inr rfl) rfl
def gleaningref1_More_l1 (v6_0 : Int) (v5_1 : Int) (v7_1 : Int) : Option ((Int × Int) ⊕ ((Int × Int) ⊕ Int)) :=
 if (decide (v7_1 < 8)) = true then (if ((bits .and .u32 v5_1 1) == 1) = true then (some (Sum.inl ((bits .xor .u32 (Int.fdiv v5_1 (2 ^ (min (Int.toNat 1) (IntKind.bits .u32)))) 3988292384), (IntKind.i64.wrap (v7_1 + 1))))) else (some (Sum.inl ((Int.fdiv v5_1 (2 ^ (min (Int.toNat 1) (IntKind.bits .u32)))), (IntKind.i64.wrap (v7_1 + 1)))))) else (some (Sum.inr (Sum.inl (v5_1, (IntKind.i64.wrap (v6_0 + 1))))))
def gleaningref1_More_l0 (a1 : List UInt8) (v5_0 : Int) (v6_0 : Int) : Option ((Int × Int) ⊕ Int) :=
 if (decide (v6_0 < (List.length a1 : Int))) = true then (gd (0 ≤ v6_0) (Option.bind (a1[(Int.toNat v6_0)]?) (fun (x13 : UInt8) => loopN (fun (s : Int × Int) => gleaningref1_More_l1 v6_0 s.1 s.2) Fu ((bits .xor .u32 v5_0 (IntKind.u32.wrap (x13.toNat : Int))), 0)))) else (some (Sum.inr (bits .xor .u32 (if IntKind.signed .u32 then -1 else IntKind.max .u32) v5_0)))
def gleaningref1_More (a0 : Int) (a1 : List UInt8) : Option Int :=
 loopN (fun (s : Int × Int) => gleaningref1_More_l0 a1 s.1 s.2) Fu ((bits .xor .u32 (if IntKind.signed .u32 then -1 else IntKind.max .u32) a0), 0)
theorem gleaningref1_More_ok (a0 : Int) (a1 : List UInt8) {r : Int} (h : gleaningref1_More a0 a1 = some r) : Ok Try.prog 53 [.int .u32 a0, .sl 1 (List.map enc5 a1)] [] [] (.int .u32 r) [] [] := by
 unfold gleaningref1_More at h
 refine ok_of_code Try.func53 rfl (by show (2 : Nat) ≤ _; decide) (Nat.le_refl _) fun X => ?_
 refine sr fun K1 hK1 => ?_
 refine pa 4 (.int .u32 0) ?_
 refine en hK1 ?_
 refine sr fun K2 hK2 => ?_
 refine pm 8 (.int .u32 a0) ?_
 refine pP 9 (does_un (v := .int .u32 (bits .xor .u32 (if IntKind.signed .u32 then -1 else IntKind.max .u32) a0)) W_ rfl) ?_
 refine pa 5 (.int .u32 (bits .xor .u32 (if IntKind.signed .u32 then -1 else IntKind.max .u32) a0)) ?_
 refine en hK2 ?_
 refine aw_seq_k (fun K3 hK3 => ?_)
 refine sr fun K4 hK4 => ?_
 refine pa 6 (.int .i64 0) ?_
 refine en hK4 ?_
 refine aw_block ?_
 refine aw_loop' (fun m s => ∃ (v5_0 : Int), ∃ (v6_0 : Int), loopN (fun (s : Int × Int) => gleaningref1_More_l0 a1 s.1 s.2) m (v5_0, v6_0) = some r ∧ s = lit [(1, .sl 1 (List.map enc5 a1)), (5, .int .u32 v5_0), (6, .int .i64 v6_0)] [] [] X) Fu
  ⟨_, reb_lit [(1, .sl 1 (List.map enc5 a1)), (5, .int .u32 (bits .xor .u32 (if IntKind.signed .u32 then -1 else IntKind.max .u32) a0)), (6, .int .i64 (0))] [] [] [] (ec (ec (ec envOk_nil))) objOk_nil (nodup_b rfl) (nodup_b rfl) rfl rfl, (bits .xor .u32 (if IntKind.signed .u32 then -1 else IntKind.max .u32) a0), 0, h, rfl⟩ ?_
 rintro m s ⟨v5_0, v6_0, h, rfl⟩
 obtain ⟨m0, q5, rfl, h, hq6⟩ := loop_some h
 replace h : gleaningref1_More_l0 a1 v5_0 v6_0 = some q5 := h
 unfold gleaningref1_More_l0 at h
 refine aw_seq_k (fun K7 hK7 => ?_)
 refine sr fun K8 hK8 => ?_
 refine pm 10 (.int .i64 v6_0) ?_
 refine pm 11 (.sl 1 (List.map enc5 a1)) ?_
 refine pP 12 ((does_len_sl W_ ty39).castp (v' := .int .i64 (List.length a1 : Int)) (by exact len_map _)) ?_
 refine pb 13 (.bool (decide (v6_0 < (List.length a1 : Int)))) ?_
 refine en hK8 ?_
 refine aw_bool (b := (decide (v6_0 < (List.length a1 : Int)))) 13 rfl (fun c9 => ?_) (fun c9 => ?_)
 ·have h := ifT c9 h
  refine aw_cond_t D_ rfl ?_
  refine aw_skip ?_
  refine hK7 _ ?_
  refine aw_seq_k (fun K10 hK10 => ?_)
  refine aw_block ?_
  refine sr fun K11 hK11 => ?_
  refine pm 16 (.int .u32 v5_0) ?_
  refine pm 17 (.sl 1 (List.map enc5 a1)) ?_
  refine pm 18 (.int .i64 v6_0) ?_
  obtain ⟨g12, h⟩ := gd_some h
  obtain ⟨x13, hx13, h⟩ := bnd_some h
  refine pP 19 (does_indexAddr_sl (el := .int .u8 (x13.toNat : Int)) W_ W_ ty39 ty5 g12 (by exact map_get hx13)) ?_
  refine pl 20 (.int .u8 (x13.toNat : Int)) ty5 ?_
  refine pP 21 (does_conv_int (v := .int .u32 (IntKind.u32.wrap (x13.toNat : Int))) W_ (ty_some ty5) (ty_int ty70) rfl) ?_
  refine pb 22 (.int .u32 (bits .xor .u32 v5_0 (IntKind.u32.wrap (x13.toNat : Int)))) ?_
  refine pa 5 (.int .u32 (bits .xor .u32 v5_0 (IntKind.u32.wrap (x13.toNat : Int)))) ?_
  refine en hK11 ?_
  refine sr fun K14 hK14 => ?_
  refine pa 7 (.int .i64 0) ?_
  refine en hK14 ?_
  refine aw_block ?_
  refine aw_loop' (fun m s => ∃ (v5_1 : Int), ∃ (v7_1 : Int), loopN (fun (s : Int × Int) => gleaningref1_More_l1 v6_0 s.1 s.2) m (v5_1, v7_1) = some q5 ∧ s = lit [(1, .sl 1 (List.map enc5 a1)), (5, .int .u32 v5_1), (6, .int .i64 v6_0), (7, .int .i64 v7_1)] [] [] X) Fu
   ⟨_, reb_lit [(1, .sl 1 (List.map enc5 a1)), (5, .int .u32 (bits .xor .u32 v5_0 (IntKind.u32.wrap (x13.toNat : Int)))), (6, .int .i64 v6_0), (7, .int .i64 (0))] [] [] [] (ec (ec (ec (ec envOk_nil)))) objOk_nil (nodup_b rfl) (nodup_b rfl) rfl rfl, (bits .xor .u32 v5_0 (IntKind.u32.wrap (x13.toNat : Int))), 0, h, rfl⟩ ?_
  rintro m s ⟨v5_1, v7_1, h, rfl⟩
  obtain ⟨m1, q15, rfl, h, hq16⟩ := loop_some h
  replace h : gleaningref1_More_l1 v6_0 v5_1 v7_1 = some q15 := h
  unfold gleaningref1_More_l1 at h
  refine aw_seq_k (fun K17 hK17 => ?_)
  refine sr fun K18 hK18 => ?_
  refine pm 23 (.int .i64 v7_1) ?_
  refine pb 24 (.bool (decide (v7_1 < 8))) ?_
  refine en hK18 ?_
  refine aw_bool (b := (decide (v7_1 < 8))) 24 rfl (fun c19 => ?_) (fun c19 => ?_)
  ·have h := ifT c19 h
   refine aw_cond_t D_ rfl ?_
   refine aw_skip ?_
   refine hK17 _ ?_
   refine aw_seq_k (fun K20 hK20 => ?_)
   refine aw_block ?_
   refine sr fun K21 hK21 => ?_
   refine pm 27 (.int .u32 v5_1) ?_
   refine pb 28 (.int .u32 (bits .and .u32 v5_1 1)) ?_
   refine pb 29 (.bool ((bits .and .u32 v5_1 1) == 1)) ?_
   refine en hK21 ?_
   refine aw_bool (b := ((bits .and .u32 v5_1 1) == 1)) 29 rfl (fun c22 => ?_) (fun c22 => ?_)
   ·have h := ifT c22 h
    refine aw_cond_t D_ rfl ?_
    refine aw_regL ?_
    refine pm 30 (.int .u32 v5_1) ?_
    refine pb 31 (.int .u32 (Int.fdiv v5_1 (2 ^ (min (Int.toNat 1) (IntKind.bits .u32))))) ?_
    refine pb 32 (.int .u32 (bits .xor .u32 (Int.fdiv v5_1 (2 ^ (min (Int.toNat 1) (IntKind.bits .u32)))) 3988292384)) ?_
    refine pa 5 (.int .u32 (bits .xor .u32 (Int.fdiv v5_1 (2 ^ (min (Int.toNat 1) (IntKind.bits .u32)))) 3988292384)) ?_
    refine en hK20 ?_
    refine aw_regL ?_
    refine pm 25 (.int .i64 v7_1) ?_
    refine pb 26 (.int .i64 (IntKind.i64.wrap (v7_1 + 1))) ?_
    refine pa 7 (.int .i64 (IntKind.i64.wrap (v7_1 + 1))) ?_
    refine al_nil ?_
    have h := leafL h hq16
    exact ⟨m1, Nat.lt_succ_self _, _, reb_lit [(1, .sl 1 (List.map enc5 a1)), (5, .int .u32 (bits .xor .u32 (Int.fdiv v5_1 (2 ^ (min (Int.toNat 1) (IntKind.bits .u32)))) 3988292384)), (6, .int .i64 v6_0), (7, .int .i64 (IntKind.i64.wrap (v7_1 + 1)))] [] [] [] (ec (ec (ec (ec envOk_nil)))) objOk_nil (nodup_b rfl) (nodup_b rfl) rfl rfl, (bits .xor .u32 (Int.fdiv v5_1 (2 ^ (min (Int.toNat 1) (IntKind.bits .u32)))) 3988292384), (IntKind.i64.wrap (v7_1 + 1)), h, rfl⟩
   ·have h := ifF c22 h
    refine aw_cond_f D_ rfl ?_
    refine aw_regL ?_
    refine pm 33 (.int .u32 v5_1) ?_
    refine pb 34 (.int .u32 (Int.fdiv v5_1 (2 ^ (min (Int.toNat 1) (IntKind.bits .u32))))) ?_
    refine pa 5 (.int .u32 (Int.fdiv v5_1 (2 ^ (min (Int.toNat 1) (IntKind.bits .u32))))) ?_
    refine en hK20 ?_
    refine aw_regL ?_
    refine pm 25 (.int .i64 v7_1) ?_
    refine pb 26 (.int .i64 (IntKind.i64.wrap (v7_1 + 1))) ?_
    refine pa 7 (.int .i64 (IntKind.i64.wrap (v7_1 + 1))) ?_
    refine al_nil ?_
    have h := leafL h hq16
    exact ⟨m1, Nat.lt_succ_self _, _, reb_lit [(1, .sl 1 (List.map enc5 a1)), (5, .int .u32 (Int.fdiv v5_1 (2 ^ (min (Int.toNat 1) (IntKind.bits .u32))))), (6, .int .i64 v6_0), (7, .int .i64 (IntKind.i64.wrap (v7_1 + 1)))] [] [] [] (ec (ec (ec (ec envOk_nil)))) objOk_nil (nodup_b rfl) (nodup_b rfl) rfl rfl, (Int.fdiv v5_1 (2 ^ (min (Int.toNat 1) (IntKind.bits .u32)))), (IntKind.i64.wrap (v7_1 + 1)), h, rfl⟩
  ·have h := ifF c19 h
   refine aw_cond_f D_ rfl ?_
   refine aw_exit ?_
   have h := leafR h hq16
   refine hK10 _ ?_
   refine aw_regL ?_
   refine pm 14 (.int .i64 v6_0) ?_
   refine pb 15 (.int .i64 (IntKind.i64.wrap (v6_0 + 1))) ?_
   refine pa 6 (.int .i64 (IntKind.i64.wrap (v6_0 + 1))) ?_
   refine al_nil ?_
   have h := leafL h hq6
   exact ⟨m0, Nat.lt_succ_self _, _, reb_lit [(1, .sl 1 (List.map enc5 a1)), (5, .int .u32 v5_1), (6, .int .i64 (IntKind.i64.wrap (v6_0 + 1)))] [] [] [] (ec (ec (ec envOk_nil))) objOk_nil (nodup_b rfl) (nodup_b rfl) rfl rfl, v5_1, (IntKind.i64.wrap (v6_0 + 1)), h, rfl⟩
 ·have h := ifF c9 h
  refine aw_cond_f D_ rfl ?_
  refine aw_exit ?_
  have h := leafR h hq6
  refine hK3 _ ?_
  refine sr fun K23 hK23 => ?_
  refine pm 35 (.int .u32 v5_0) ?_
  refine pP 36 (does_un (v := .int .u32 (bits .xor .u32 (if IntKind.signed .u32 then -1 else IntKind.max .u32) v5_0)) W_ rfl) ?_
  refine pa 4 (.int .u32 (bits .xor .u32 (if IntKind.signed .u32 then -1 else IntKind.max .u32) v5_0)) ?_
  refine en hK23 ?_
  refine aw_ret ?_
  obtain rfl := Option.some.inj h
  exact ret_ok1 W_ W_ R_ (.inr rfl) rfl
def gleaningref1_Sum (a0 : List UInt8) : Option Int :=
 Option.bind (gleaningref1_More 0 a0) (fun (x3 : Int) => some x3)
theorem gleaningref1_Sum_ok (a0 : List UInt8) {r : Int} (h : gleaningref1_Sum a0 = some r) : Ok Try.prog 40 [.sl 1 (List.map enc5 a0)] [] [] (.int .u32 r) [] [] := by
 unfold gleaningref1_Sum at h
 refine ok_of_code Try.func40 rfl (by show (1 : Nat) ≤ _; decide) (Nat.le_refl _) fun X => ?_
 refine sr fun K1 hK1 => ?_
 refine pa 2 (.int .u32 0) ?_
 refine en hK1 ?_
 refine sr fun K2 hK2 => ?_
 refine pm 3 (.sl 1 (List.map enc5 a0)) ?_
 obtain ⟨x3, hx3, h⟩ := bnd_some h
 refine pD 4 (do_call0 4 false (gleaningref1_More_ok 0 a0 hx3) rfl ent53 rfl rfl) ?_
 refine pa 2 (.int .u32 x3) ?_
 refine en hK2 ?_
 refine aw_ret ?_
 obtain rfl := Option.some.inj h
 exact ret_ok1 W_ W_ R_ (.inr rfl) rfl
def gleaningref1_four (a0 : Int) : Option (List UInt8) :=
 some [(u8 (IntKind.u8.wrap (bits .and .u32 a0 255))), (u8 (IntKind.u8.wrap (bits .and .u32 (Int.fdiv a0 (2 ^ (min (Int.toNat 8) (IntKind.bits .u32)))) 255))), (u8 (IntKind.u8.wrap (bits .and .u32 (Int.fdiv a0 (2 ^ (min (Int.toNat 16) (IntKind.bits .u32)))) 255))), (u8 (IntKind.u8.wrap (Int.fdiv a0 (2 ^ (min (Int.toNat 24) (IntKind.bits .u32))))))]
theorem gleaningref1_four_ok (a0 : Int) {r : List UInt8} (h : gleaningref1_four a0 = some r) : Ok Try.prog 39 [.int .u32 a0] [] [] (.own 2 0) [] [(5, 1, List.map enc5 r)] := by
 unfold gleaningref1_four at h
 refine ok_of_code Try.func39 rfl (by show (1 : Nat) ≤ _; decide) (Nat.le_refl _) fun X => ?_
 refine sr fun K1 hK1 => ?_
 refine pa 2 (.nil) ?_
 refine en hK1 ?_
 refine sr fun K2 hK2 => ?_
 refine pm 3 (.int .u32 a0) ?_
 refine pb 4 (.int .u32 (bits .and .u32 a0 255)) ?_
 refine pP 5 ((does_conv_int (v := .int .u8 (IntKind.u8.wrap (bits .and .u32 a0 255))) W_ (ty_some ty70) (ty_int ty5) rfl).castp (v' := .int .u8 ((u8 (IntKind.u8.wrap (bits .and .u32 a0 255))).toNat : Int)) (by exact congrArg _ (u8_eq (u8_wrap _)))) ?_
 refine pm 6 (.int .u32 a0) ?_
 refine pb 7 (.int .u32 (Int.fdiv a0 (2 ^ (min (Int.toNat 8) (IntKind.bits .u32))))) ?_
 refine pb 8 (.int .u32 (bits .and .u32 (Int.fdiv a0 (2 ^ (min (Int.toNat 8) (IntKind.bits .u32)))) 255)) ?_
 refine pP 9 ((does_conv_int (v := .int .u8 (IntKind.u8.wrap (bits .and .u32 (Int.fdiv a0 (2 ^ (min (Int.toNat 8) (IntKind.bits .u32)))) 255))) W_ (ty_some ty70) (ty_int ty5) rfl).castp (v' := .int .u8 ((u8 (IntKind.u8.wrap (bits .and .u32 (Int.fdiv a0 (2 ^ (min (Int.toNat 8) (IntKind.bits .u32)))) 255))).toNat : Int)) (by exact congrArg _ (u8_eq (u8_wrap _)))) ?_
 refine pm 10 (.int .u32 a0) ?_
 refine pb 11 (.int .u32 (Int.fdiv a0 (2 ^ (min (Int.toNat 16) (IntKind.bits .u32))))) ?_
 refine pb 12 (.int .u32 (bits .and .u32 (Int.fdiv a0 (2 ^ (min (Int.toNat 16) (IntKind.bits .u32)))) 255)) ?_
 refine pP 13 ((does_conv_int (v := .int .u8 (IntKind.u8.wrap (bits .and .u32 (Int.fdiv a0 (2 ^ (min (Int.toNat 16) (IntKind.bits .u32)))) 255))) W_ (ty_some ty70) (ty_int ty5) rfl).castp (v' := .int .u8 ((u8 (IntKind.u8.wrap (bits .and .u32 (Int.fdiv a0 (2 ^ (min (Int.toNat 16) (IntKind.bits .u32)))) 255))).toNat : Int)) (by exact congrArg _ (u8_eq (u8_wrap _)))) ?_
 refine pm 14 (.int .u32 a0) ?_
 refine pb 15 (.int .u32 (Int.fdiv a0 (2 ^ (min (Int.toNat 24) (IntKind.bits .u32))))) ?_
 refine pP 16 ((does_conv_int (v := .int .u8 (IntKind.u8.wrap (Int.fdiv a0 (2 ^ (min (Int.toNat 24) (IntKind.bits .u32)))))) W_ (ty_some ty70) (ty_int ty5) rfl).castp (v' := .int .u8 ((u8 (IntKind.u8.wrap (Int.fdiv a0 (2 ^ (min (Int.toNat 24) (IntKind.bits .u32)))))).toNat : Int)) (by exact congrArg _ (u8_eq (u8_wrap _)))) ?_
 refine pD 17 (do_buildSlice (xs := List.map enc5 [(u8 (IntKind.u8.wrap (bits .and .u32 a0 255))), (u8 (IntKind.u8.wrap (bits .and .u32 (Int.fdiv a0 (2 ^ (min (Int.toNat 8) (IntKind.bits .u32)))) 255))), (u8 (IntKind.u8.wrap (bits .and .u32 (Int.fdiv a0 (2 ^ (min (Int.toNat 16) (IntKind.bits .u32)))) 255))), (u8 (IntKind.u8.wrap (Int.fdiv a0 (2 ^ (min (Int.toNat 24) (IntKind.bits .u32))))))]) ty39 ty5 rfl rfl rfl rfl rfl rfl rfl rfl) ?_
 refine pa 2 (.own 17 0) ?_
 refine en hK2 ?_
 refine aw_ret ?_
 obtain rfl := Option.some.inj h
 exact ret_okR [(17, 0)] W_ W_ R_ (rowsOk_cons W_ R_ trivial) (nodup_b rfl) (.inr rfl) rfl
def gleaningref1_Sealed (a0 : List UInt8) : Option (List UInt8) :=
 gd ((List.length a0) * 1 ≤ 140737488355328 ∧ (List.length a0) ≤ 140737488355328) (Option.bind (gleaningref1_Sum a0) (fun (x4 : Int) => Option.bind (gleaningref1_four x4) (fun (x5 : List UInt8) => gd ((List.length (a0 ++ x5)) * 1 ≤ 140737488355328 ∧ (List.length (a0 ++ x5)) ≤ 140737488355328) (some (a0 ++ x5)))))
theorem gleaningref1_Sealed_ok (a0 : List UInt8) {r : List UInt8} (h : gleaningref1_Sealed a0 = some r) : Ok Try.prog 29 [.sl 1 (List.map enc5 a0)] [] [] (.own 2 0) [] [(5, 1, List.map enc5 r)] := by
 unfold gleaningref1_Sealed at h
 refine ok_of_code Try.func29 rfl (by show (1 : Nat) ≤ _; decide) (Nat.le_refl _) fun X => ?_
 refine sr fun K1 hK1 => ?_
 refine pa 2 (.nil) ?_
 refine en hK1 ?_
 refine sr fun K2 hK2 => ?_
 refine pm 3 (.sl 1 (List.map enc5 a0)) ?_
 obtain ⟨g3, h⟩ := gd_some h
 refine pD 4 (do_append (v := List.map enc5 a0) W_ W_ ty39 ty5 rfl rfl W_ (by first | exact .inl rfl | exact .inr ⟨rfl, rfl⟩) W_ (by first | exact .inr rfl | exact .inl rfl) (List.nil_append _) (fit_map g3)) ?_
 refine pm 5 (.sl 1 (List.map enc5 a0)) ?_
 obtain ⟨x4, hx4, h⟩ := bnd_some h
 refine pD 6 (do_call0 6 false (gleaningref1_Sum_ok a0 hx4) rfl ent40 rfl rfl) ?_
 obtain ⟨x5, hx5, h⟩ := bnd_some h
 refine pD 7 (do_call0 7 false (gleaningref1_four_ok x4 hx5) rfl ent39 rfl rfl) ?_
 obtain ⟨g6, h⟩ := gd_some h
 refine pD 8 (do_append (v := List.map enc5 (a0 ++ x5)) W_ W_ ty39 ty5 rfl rfl W_ (by first | exact .inl rfl | exact .inr ⟨rfl, rfl⟩) W_ (by first | exact .inr rfl | exact .inl rfl) (map_app _ _) (fit_map g6)) ?_
 refine pa 2 (.own 8 0) ?_
 refine en hK2 ?_
 refine aw_ret ?_
 obtain rfl := Option.some.inj h
 exact ret_okR [(8, 0)] W_ W_ R_ (rowsOk_cons W_ R_ trivial) (nodup_b rfl) (.inr rfl) rfl
end Go.Proofs.Ytejimiedoibkcaa.Ab
