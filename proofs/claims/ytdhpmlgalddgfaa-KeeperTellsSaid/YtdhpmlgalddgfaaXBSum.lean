/- The sum of bytes. -/
import Derived.Test.YtdhpmlgalddgfaaXSpan2
import Derived.Test.YtdhpmlgalddgfaaProg
namespace Go.Proofs.Ytdhpmlgalddgfaa.Ab
open Go Go.RowKit
set_option linter.unusedVariables false
set_option linter.unusedSimpArgs false
set_option maxRecDepth 100000
set_option maxHeartbeats 8000000
theorem ty101 : tyOf Try.prog 101 = some ⟨.int .u32, 1, 4, [.int .u32 0]⟩ := by kernel_rfl
theorem ent59 : Ent Try.prog 59 := ⟨_, Try.func59, by kernel_rfl, rfl⟩
theorem ent60 : Ent Try.prog 60 := ⟨_, Try.func60, by kernel_rfl, rfl⟩
theorem ent61 : Ent Try.prog 61 := ⟨_, Try.func61, by kernel_rfl, rfl⟩
theorem ent69 : Ent Try.prog 69 := ⟨_, Try.func69, by kernel_rfl, rfl⟩
theorem ent70 : Ent Try.prog 70 := ⟨_, Try.func70, by kernel_rfl, rfl⟩
theorem ent82 : Ent Try.prog 82 := ⟨_, Try.func82, by kernel_rfl, rfl⟩
theorem ent86 : Ent Try.prog 86 := ⟨_, Try.func86, by kernel_rfl, rfl⟩
def check_More_l1 (v12_0 : Int) (v5_1 : Int) (v20_1 : Int) : Option ((Int × Int) ⊕ ((Int × Int) ⊕ Int)) :=
 if (decide (v20_1 < 8)) = true then (some (Sum.inl ((bits .xor .u32 (Int.fdiv v5_1 (2 ^ (min (Int.toNat 1) (IntKind.bits .u32)))) (IntKind.u32.wrap (3988292384 * (bits .and .u32 v5_1 1)))), (IntKind.i64.wrap (v20_1 + 1))))) else (some (Sum.inr (Sum.inl (v5_1, (IntKind.i64.wrap (v12_0 + 1))))))
def check_More_l0 (a1 : List UInt8) (v5_0 : Int) (v12_0 : Int) : Option ((Int × Int) ⊕ Int) :=
 if (decide (v12_0 < (List.length a1 : Int))) = true then (gd (0 ≤ v12_0) (Option.bind (a1[(Int.toNat v12_0)]?) (fun (x13 : UInt8) => loopN (fun (s : Int × Int) => check_More_l1 v12_0 s.1 s.2) Fu ((bits .xor .u32 v5_0 (IntKind.u32.wrap (x13.toNat : Int))), 0)))) else (some (Sum.inr (bits .xor .u32 (if IntKind.signed .u32 then -1 else IntKind.max .u32) v5_0)))
def check_More (a0 : Int) (a1 : List UInt8) : Option Int :=
 loopN (fun (s : Int × Int) => check_More_l0 a1 s.1 s.2) Fu ((bits .xor .u32 (if IntKind.signed .u32 then -1 else IntKind.max .u32) a0), 0)
theorem check_More_ok (a0 : Int) (a1 : List UInt8) {r : Int} (h : check_More a0 a1 = some r) : Ok Try.prog 82 [.int .u32 a0, .sl 1 (List.map enc5 a1)] [] [] (.int .u32 r) [] [] := by
 unfold check_More at h
 refine ok_of_code Try.func82 rfl (by show (2 : Nat) ≤ _; decide) (Nat.le_refl _) fun X => ?_
 refine sr fun K1 hK1 => ?_
 refine pa 4 (.int .u32 0) ?_
 refine en hK1 ?_
 refine sr fun K2 hK2 => ?_
 refine pm 8 (.int .u32 a0) ?_
 refine pP 9 (does_un (v := .int .u32 (bits .xor .u32 (if IntKind.signed .u32 then -1 else IntKind.max .u32) a0)) W_ rfl) ?_
 refine pa 5 (.int .u32 (bits .xor .u32 (if IntKind.signed .u32 then -1 else IntKind.max .u32) a0)) ?_
 refine en hK2 ?_
 refine aw_seq_k (fun K3 hK3 => ?_)
 refine sr fun K4 hK4 => ?_
 refine pm 10 (.sl 1 (List.map enc5 a1)) ?_
 refine pP 11 ((does_len_sl W_ ty28).castp (v' := .int .i64 (List.length a1 : Int)) (by exact len_map _)) ?_
 refine pm 12 (.int .i64 0) ?_
 refine en hK4 ?_
 refine aw_block ?_
 refine aw_loop' (fun m s => ∃ (v5_0 : Int), ∃ (v12_0 : Int), loopN (fun (s : Int × Int) => check_More_l0 a1 s.1 s.2) m (v5_0, v12_0) = some r ∧ s = lit [(5, .int .u32 v5_0), (10, .sl 1 (List.map enc5 a1)), (11, .int .i64 (List.length a1 : Int)), (12, .int .i64 v12_0)] [] [] X) Fu
  ⟨_, reb_lit [(5, .int .u32 (bits .xor .u32 (if IntKind.signed .u32 then -1 else IntKind.max .u32) a0)), (10, .sl 1 (List.map enc5 a1)), (11, .int .i64 (List.length a1 : Int)), (12, .int .i64 (0))] [] [] [] (ec (ec (ec (ec envOk_nil)))) objOk_nil (nodup_b rfl) (nodup_b rfl) rfl rfl, (bits .xor .u32 (if IntKind.signed .u32 then -1 else IntKind.max .u32) a0), 0, h, rfl⟩ ?_
 rintro m s ⟨v5_0, v12_0, h, rfl⟩
 obtain ⟨m0, q5, rfl, h, hq6⟩ := loop_some h
 replace h : check_More_l0 a1 v5_0 v12_0 = some q5 := h
 unfold check_More_l0 at h
 refine sr fun K7 hK7 => ?_
 refine pb 13 (.bool (decide (v12_0 < (List.length a1 : Int)))) ?_
 refine en hK7 ?_
 refine aw_seq_k (fun K8 hK8 => ?_)
 refine aw_bool (b := (decide (v12_0 < (List.length a1 : Int)))) 13 rfl (fun c9 => ?_) (fun c9 => ?_)
 ·have h := ifT c9 h
  refine aw_cond_t D_ rfl ?_
  refine aw_skip ?_
  refine hK8 _ ?_
  refine aw_seq_k (fun K10 hK10 => ?_)
  refine aw_block ?_
  refine sr fun K11 hK11 => ?_
  obtain ⟨g12, h⟩ := gd_some h
  obtain ⟨x13, hx13, h⟩ := bnd_some h
  refine pP 14 (does_indexAddr_sl (el := .int .u8 (x13.toNat : Int)) W_ W_ ty28 ty5 g12 (by exact map_get hx13)) ?_
  refine pl 15 (.int .u8 (x13.toNat : Int)) ty5 ?_
  refine pa 7 (.int .u8 (x13.toNat : Int)) ?_
  refine en hK11 ?_
  refine sr fun K14 hK14 => ?_
  refine pm 16 (.int .u32 v5_0) ?_
  refine pm 17 (.int .u8 (x13.toNat : Int)) ?_
  refine pP 18 (does_conv_int (v := .int .u32 (IntKind.u32.wrap (x13.toNat : Int))) W_ (ty_some ty5) (ty_int ty101) rfl) ?_
  refine pb 19 (.int .u32 (bits .xor .u32 v5_0 (IntKind.u32.wrap (x13.toNat : Int)))) ?_
  refine pa 5 (.int .u32 (bits .xor .u32 v5_0 (IntKind.u32.wrap (x13.toNat : Int)))) ?_
  refine en hK14 ?_
  refine sr fun K15 hK15 => ?_
  refine pm 20 (.int .i64 0) ?_
  refine en hK15 ?_
  refine aw_block ?_
  refine aw_loop' (fun m s => ∃ (v5_1 : Int), ∃ (v20_1 : Int), loopN (fun (s : Int × Int) => check_More_l1 v12_0 s.1 s.2) m (v5_1, v20_1) = some q5 ∧ s = lit [(5, .int .u32 v5_1), (10, .sl 1 (List.map enc5 a1)), (11, .int .i64 (List.length a1 : Int)), (12, .int .i64 v12_0), (20, .int .i64 v20_1)] [] [] X) Fu
   ⟨_, reb_lit [(5, .int .u32 (bits .xor .u32 v5_0 (IntKind.u32.wrap (x13.toNat : Int)))), (10, .sl 1 (List.map enc5 a1)), (11, .int .i64 (List.length a1 : Int)), (12, .int .i64 v12_0), (20, .int .i64 (0))] [] [] [] (ec (ec (ec (ec (ec envOk_nil))))) objOk_nil (nodup_b rfl) (nodup_b rfl) rfl rfl, (bits .xor .u32 v5_0 (IntKind.u32.wrap (x13.toNat : Int))), 0, h, rfl⟩ ?_
  rintro m s ⟨v5_1, v20_1, h, rfl⟩
  obtain ⟨m1, q16, rfl, h, hq17⟩ := loop_some h
  replace h : check_More_l1 v12_0 v5_1 v20_1 = some q16 := h
  unfold check_More_l1 at h
  refine sr fun K18 hK18 => ?_
  refine pb 21 (.bool (decide (v20_1 < 8))) ?_
  refine en hK18 ?_
  refine aw_seq_k (fun K19 hK19 => ?_)
  refine aw_bool (b := (decide (v20_1 < 8))) 21 rfl (fun c20 => ?_) (fun c20 => ?_)
  ·have h := ifT c20 h
   refine aw_cond_t D_ rfl ?_
   refine aw_skip ?_
   refine hK19 _ ?_
   refine aw_seq_k (fun K21 hK21 => ?_)
   refine aw_block ?_
   refine aw_regL ?_
   refine pm 22 (.int .u32 v5_1) ?_
   refine pb 23 (.int .u32 (Int.fdiv v5_1 (2 ^ (min (Int.toNat 1) (IntKind.bits .u32))))) ?_
   refine pm 24 (.int .u32 v5_1) ?_
   refine pb 25 (.int .u32 (bits .and .u32 v5_1 1)) ?_
   refine pb 26 (.int .u32 (IntKind.u32.wrap (3988292384 * (bits .and .u32 v5_1 1)))) ?_
   refine pb 27 (.int .u32 (bits .xor .u32 (Int.fdiv v5_1 (2 ^ (min (Int.toNat 1) (IntKind.bits .u32)))) (IntKind.u32.wrap (3988292384 * (bits .and .u32 v5_1 1))))) ?_
   refine pa 5 (.int .u32 (bits .xor .u32 (Int.fdiv v5_1 (2 ^ (min (Int.toNat 1) (IntKind.bits .u32)))) (IntKind.u32.wrap (3988292384 * (bits .and .u32 v5_1 1))))) ?_
   refine en hK21 ?_
   refine aw_regL ?_
   refine pb 28 (.int .i64 (IntKind.i64.wrap (v20_1 + 1))) ?_
   refine pm 20 (.int .i64 (IntKind.i64.wrap (v20_1 + 1))) ?_
   refine al_nil ?_
   have h := leafL h hq17
   exact ⟨m1, Nat.lt_succ_self _, _, reb_lit [(5, .int .u32 (bits .xor .u32 (Int.fdiv v5_1 (2 ^ (min (Int.toNat 1) (IntKind.bits .u32)))) (IntKind.u32.wrap (3988292384 * (bits .and .u32 v5_1 1))))), (10, .sl 1 (List.map enc5 a1)), (11, .int .i64 (List.length a1 : Int)), (12, .int .i64 v12_0), (20, .int .i64 (IntKind.i64.wrap (v20_1 + 1)))] [] [] [] (ec (ec (ec (ec (ec envOk_nil))))) objOk_nil (nodup_b rfl) (nodup_b rfl) rfl rfl, (bits .xor .u32 (Int.fdiv v5_1 (2 ^ (min (Int.toNat 1) (IntKind.bits .u32)))) (IntKind.u32.wrap (3988292384 * (bits .and .u32 v5_1 1)))), (IntKind.i64.wrap (v20_1 + 1)), h, rfl⟩
  ·have h := ifF c20 h
   refine aw_cond_f D_ rfl ?_
   refine aw_exit ?_
   have h := leafR h hq17
   refine hK10 _ ?_
   refine aw_regL ?_
   refine pb 29 (.int .i64 (IntKind.i64.wrap (v12_0 + 1))) ?_
   refine pm 12 (.int .i64 (IntKind.i64.wrap (v12_0 + 1))) ?_
   refine al_nil ?_
   have h := leafL h hq6
   exact ⟨m0, Nat.lt_succ_self _, _, reb_lit [(5, .int .u32 v5_1), (10, .sl 1 (List.map enc5 a1)), (11, .int .i64 (List.length a1 : Int)), (12, .int .i64 (IntKind.i64.wrap (v12_0 + 1)))] [] [] [] (ec (ec (ec (ec envOk_nil)))) objOk_nil (nodup_b rfl) (nodup_b rfl) rfl rfl, v5_1, (IntKind.i64.wrap (v12_0 + 1)), h, rfl⟩
 ·have h := ifF c9 h
  refine aw_cond_f D_ rfl ?_
  refine aw_exit ?_
  have h := leafR h hq6
  refine hK3 _ ?_
  refine sr fun K22 hK22 => ?_
  refine pm 30 (.int .u32 v5_0) ?_
  refine pP 31 (does_un (v := .int .u32 (bits .xor .u32 (if IntKind.signed .u32 then -1 else IntKind.max .u32) v5_0)) W_ rfl) ?_
  refine pa 4 (.int .u32 (bits .xor .u32 (if IntKind.signed .u32 then -1 else IntKind.max .u32) v5_0)) ?_
  refine en hK22 ?_
  refine aw_ret ?_
  obtain rfl := Option.some.inj h
  exact ret_ok1 W_ W_ R_ (.inr rfl) rfl
def check_Sum (a0 : List UInt8) : Option Int :=
 Option.bind (check_More 0 a0) (fun (x3 : Int) => some x3)
theorem check_Sum_ok (a0 : List UInt8) {r : Int} (h : check_Sum a0 = some r) : Ok Try.prog 60 [.sl 1 (List.map enc5 a0)] [] [] (.int .u32 r) [] [] := by
 unfold check_Sum at h
 refine ok_of_code Try.func60 rfl (by show (1 : Nat) ≤ _; decide) (Nat.le_refl _) fun X => ?_
 refine sr fun K1 hK1 => ?_
 refine pa 2 (.int .u32 0) ?_
 refine en hK1 ?_
 refine sr fun K2 hK2 => ?_
 refine pm 3 (.sl 1 (List.map enc5 a0)) ?_
 obtain ⟨x3, hx3, h⟩ := bnd_some h
 refine pD 4 (do_call0 4 false (check_More_ok 0 a0 hx3) rfl ent82 rfl rfl) ?_
 refine pa 2 (.int .u32 x3) ?_
 refine en hK2 ?_
 refine aw_ret ?_
 obtain rfl := Option.some.inj h
 exact ret_ok1 W_ W_ R_ (.inr rfl) rfl
def check_Put_l0 (a1 : Int) (v0_s_0 : List UInt8) (v6_0 : Int) : Option ((List UInt8 × Int) ⊕ (List UInt8)) :=
 if (decide (v6_0 < 4)) = true then (gd (¬ (IntKind.i64.wrap (8 * v6_0)) < 0) (gd ((List.length (v0_s_0 ++ [(u8 (IntKind.u8.wrap (Int.fdiv a1 (2 ^ (min (Int.toNat (IntKind.i64.wrap (8 * v6_0))) (IntKind.bits .u32))))))])) * 1 ≤ 140737488355328 ∧ (List.length (v0_s_0 ++ [(u8 (IntKind.u8.wrap (Int.fdiv a1 (2 ^ (min (Int.toNat (IntKind.i64.wrap (8 * v6_0))) (IntKind.bits .u32))))))])) ≤ 140737488355328) (some (Sum.inl ((v0_s_0 ++ [(u8 (IntKind.u8.wrap (Int.fdiv a1 (2 ^ (min (Int.toNat (IntKind.i64.wrap (8 * v6_0))) (IntKind.bits .u32))))))]), (IntKind.i64.wrap (v6_0 + 1))))))) else (some (Sum.inr v0_s_0))
def check_Put (a0 : List UInt8) (a1 : Int) : Option (List UInt8) :=
 loopN (fun (s : List UInt8 × Int) => check_Put_l0 a1 s.1 s.2) Fu (a0, 0)
theorem check_Put_ok (a0 : List UInt8) (a1 : Int) {r : List UInt8} (h : check_Put a0 a1 = some r) : Ok Try.prog 59 [.own 1 0, .int .u32 a1] [] [(5, 1, List.map enc5 a0)] (.own 2 0) [] [(5, 1, List.map enc5 r)] := by
 unfold check_Put at h
 refine ok_of_code Try.func59 rfl (by show (2 : Nat) ≤ _; decide) (Nat.le_refl _) fun X => ?_
 refine sr fun K1 hK1 => ?_
 refine pa 4 (.nil) ?_
 refine en hK1 ?_
 refine aw_seq_k (fun K2 hK2 => ?_)
 refine sr fun K3 hK3 => ?_
 refine pm 6 (.int .i64 0) ?_
 refine en hK3 ?_
 refine aw_block ?_
 refine aw_loop' (fun m s => ∃ (v0_s_0 : List UInt8), ∃ (v6_0 : Int), loopN (fun (s : List UInt8 × Int) => check_Put_l0 a1 s.1 s.2) m (v0_s_0, v6_0) = some r ∧ s = lit [(0, .own 1 0), (1, .int .u32 a1), (6, .int .i64 v6_0)] [((1, 0), .arr 5 1 false (List.map enc5 v0_s_0))] [(1, 1)] X) Fu
  ⟨_, reb_lit [(0, .own 1 0), (1, .int .u32 a1), (6, .int .i64 (0))] [(1, 0)] [((1, 0), .arr 5 1 false (List.map enc5 a0))] [(1, 1)] (ec (ec (ec envOk_nil))) (objOk_cons W_ W_ R_ (by simp) objOk_nil) (nodup_b rfl) (nodup_b rfl) rfl rfl, a0, 0, h, rfl⟩ ?_
 rintro m s ⟨v0_s_0, v6_0, h, rfl⟩
 obtain ⟨m0, q4, rfl, h, hq5⟩ := loop_some h
 replace h : check_Put_l0 a1 v0_s_0 v6_0 = some q4 := h
 unfold check_Put_l0 at h
 refine sr fun K6 hK6 => ?_
 refine pb 7 (.bool (decide (v6_0 < 4))) ?_
 refine en hK6 ?_
 refine aw_seq_k (fun K7 hK7 => ?_)
 refine aw_bool (b := (decide (v6_0 < 4))) 7 rfl (fun c8 => ?_) (fun c8 => ?_)
 ·have h := ifT c8 h
  refine aw_cond_t D_ rfl ?_
  refine aw_skip ?_
  refine hK7 _ ?_
  refine aw_seq_k (fun K9 hK9 => ?_)
  refine aw_block ?_
  refine sr fun K10 hK10 => ?_
  refine pm 8 (.int .i64 v6_0) ?_
  refine pa 5 (.int .i64 v6_0) ?_
  refine en hK10 ?_
  refine aw_regL ?_
  refine pm 9 (.own 1 0) ?_
  refine pm 10 (.int .u32 a1) ?_
  refine pm 11 (.int .i64 v6_0) ?_
  refine pb 12 (.int .i64 (IntKind.i64.wrap (8 * v6_0))) ?_
  obtain ⟨g11, h⟩ := gd_some h
  refine pP 13 (does_bin (v := .int .u32 (Int.fdiv a1 (2 ^ (min (Int.toNat (IntKind.i64.wrap (8 * v6_0))) (IntKind.bits .u32))))) W_ W_ (shr_hv g11)) ?_
  refine pP 14 ((does_conv_int (v := .int .u8 (IntKind.u8.wrap (Int.fdiv a1 (2 ^ (min (Int.toNat (IntKind.i64.wrap (8 * v6_0))) (IntKind.bits .u32)))))) W_ (ty_some ty101) (ty_int ty5) rfl).castp (v' := .int .u8 ((u8 (IntKind.u8.wrap (Int.fdiv a1 (2 ^ (min (Int.toNat (IntKind.i64.wrap (8 * v6_0))) (IntKind.bits .u32)))))).toNat : Int)) (by exact congrArg _ (u8_eq (u8_wrap _)))) ?_
  refine pD 15 (do_buildSlice (xs := List.map enc5 [(u8 (IntKind.u8.wrap (Int.fdiv a1 (2 ^ (min (Int.toNat (IntKind.i64.wrap (8 * v6_0))) (IntKind.bits .u32))))))]) ty28 ty5 rfl rfl rfl rfl rfl rfl rfl rfl) ?_
  obtain ⟨g12, h⟩ := gd_some h
  refine pD 16 (do_append (v := List.map enc5 (v0_s_0 ++ [(u8 (IntKind.u8.wrap (Int.fdiv a1 (2 ^ (min (Int.toNat (IntKind.i64.wrap (8 * v6_0))) (IntKind.bits .u32))))))])) W_ W_ ty28 ty5 rfl rfl W_ (by first | exact .inl rfl | exact .inr ⟨rfl, rfl⟩) W_ (by first | exact .inr rfl | exact .inl rfl) (map_app _ _) (fit_map g12)) ?_
  refine pa 0 (.own 16 0) ?_
  refine en hK9 ?_
  refine aw_regL ?_
  refine pb 17 (.int .i64 (IntKind.i64.wrap (v6_0 + 1))) ?_
  refine pm 6 (.int .i64 (IntKind.i64.wrap (v6_0 + 1))) ?_
  refine al_nil ?_
  have h := leafL h hq5
  exact ⟨m0, Nat.lt_succ_self _, _, reb_lit [(0, .own 1 0), (1, .int .u32 a1), (6, .int .i64 (IntKind.i64.wrap (v6_0 + 1)))] [(16, 0)] [((1, 0), .arr 5 1 false (List.map enc5 (v0_s_0 ++ [(u8 (IntKind.u8.wrap (Int.fdiv a1 (2 ^ (min (Int.toNat (IntKind.i64.wrap (8 * v6_0))) (IntKind.bits .u32))))))])))] [(1, 1)] (ec (ec (ec envOk_nil))) (objOk_cons W_ W_ R_ (by simp) objOk_nil) (nodup_b rfl) (nodup_b rfl) rfl rfl, (v0_s_0 ++ [(u8 (IntKind.u8.wrap (Int.fdiv a1 (2 ^ (min (Int.toNat (IntKind.i64.wrap (8 * v6_0))) (IntKind.bits .u32))))))]), (IntKind.i64.wrap (v6_0 + 1)), h, rfl⟩
 ·have h := ifF c8 h
  refine aw_cond_f D_ rfl ?_
  refine aw_exit ?_
  have h := leafR h hq5
  refine hK2 _ ?_
  refine sr fun K13 hK13 => ?_
  refine pm 18 (.own 1 0) ?_
  refine pa 4 (.own 1 0) ?_
  refine en hK13 ?_
  refine aw_ret ?_
  obtain rfl := Option.some.inj h
  exact ret_okR [(1, 0)] W_ W_ R_ (rowsOk_cons W_ R_ trivial) (nodup_b rfl) (.inr rfl) rfl
def check_Seal (a0 : List UInt8) : Option (List UInt8) :=
 gd ((List.length a0) * 1 ≤ 140737488355328 ∧ (List.length a0) ≤ 140737488355328) (Option.bind (check_Sum a0) (fun (x4 : Int) => Option.bind (check_Put a0 x4) (fun (x5 : List UInt8) => some x5)))
theorem check_Seal_ok (a0 : List UInt8) {r : List UInt8} (h : check_Seal a0 = some r) : Ok Try.prog 36 [.sl 1 (List.map enc5 a0)] [] [] (.own 2 0) [] [(5, 1, List.map enc5 r)] := by
 unfold check_Seal at h
 refine ok_of_code Try.func36 rfl (by show (1 : Nat) ≤ _; decide) (Nat.le_refl _) fun X => ?_
 refine sr fun K1 hK1 => ?_
 refine pa 2 (.nil) ?_
 refine en hK1 ?_
 refine sr fun K2 hK2 => ?_
 refine pm 3 (.sl 1 (List.map enc5 a0)) ?_
 obtain ⟨g3, h⟩ := gd_some h
 refine pD 4 (do_append (v := List.map enc5 a0) W_ W_ ty28 ty5 rfl rfl W_ (by first | exact .inl rfl | exact .inr ⟨rfl, rfl⟩) W_ (by first | exact .inr rfl | exact .inl rfl) (List.nil_append _) (fit_map g3)) ?_
 refine pm 5 (.sl 1 (List.map enc5 a0)) ?_
 obtain ⟨x4, hx4, h⟩ := bnd_some h
 refine pD 6 (do_call0 6 false (check_Sum_ok a0 hx4) rfl ent60 rfl rfl) ?_
 obtain ⟨x5, hx5, h⟩ := bnd_some h
 refine pD 7 (do_callG (bcs := []) [] [(4, 0)] [] 7 false (check_Put_ok a0 x4 hx5) rfl ent59 trivial (rowsOk_cons W_ R_ trivial) rfl rfl rfl rfl rfl rfl rfl rfl (.inr ⟨rfl, rfl, ⟨plain_map (fun _ => rfl), trivial⟩⟩)) ?_
 refine pa 2 (.own 7 0) ?_
 refine en hK2 ?_
 refine aw_ret ?_
 obtain rfl := Option.some.inj h
 exact ret_okR [(7, 0)] W_ W_ R_ (rowsOk_cons W_ R_ trivial) (nodup_b rfl) (.inr rfl) rfl
def check_Get_l0 (a0 : List UInt8) (v4_0 : Int) (v9_0 : Int) : Option ((Int × Int) ⊕ (Int × Bool)) :=
 if (decide (v9_0 < 4)) = true then (gd (0 ≤ v9_0) (Option.bind (a0[(Int.toNat v9_0)]?) (fun (x17 : UInt8) => gd (¬ (IntKind.i64.wrap (8 * v9_0)) < 0) (some (Sum.inl ((bits .or .u32 v4_0 (IntKind.u32.wrap ((IntKind.u32.wrap (x17.toNat : Int)) * 2 ^ (min (Int.toNat (IntKind.i64.wrap (8 * v9_0))) (IntKind.bits .u32))))), (IntKind.i64.wrap (v9_0 + 1)))))))) else (some (Sum.inr (v4_0, true)))
def check_Get (a0 : List UInt8) : Option (Int × Bool) :=
 if (decide ((List.length a0 : Int) < 4)) = true then (some (0, false)) else (loopN (fun (s : Int × Int) => check_Get_l0 a0 s.1 s.2) Fu (0, 0))
theorem check_Get_ok (a0 : List UInt8) {r : Int × Bool} (h : check_Get a0 = some r) : Ok Try.prog 61 [.sl 1 (List.map enc5 a0)] [] [] (.tup [.int .u32 r.1, .bool r.2]) [] [] := by
 unfold check_Get at h
 refine ok_of_code Try.func61 rfl (by show (1 : Nat) ≤ _; decide) (Nat.le_refl _) fun X => ?_
 refine sr fun K1 hK1 => ?_
 refine pa 2 (.int .u32 0) ?_
 refine pa 3 (.bool false) ?_
 refine en hK1 ?_
 refine aw_seq_k (fun K2 hK2 => ?_)
 refine sr fun K3 hK3 => ?_
 refine pm 6 (.sl 1 (List.map enc5 a0)) ?_
 refine pP 7 ((does_len_sl W_ ty28).castp (v' := .int .i64 (List.length a0 : Int)) (by exact len_map _)) ?_
 refine pb 8 (.bool (decide ((List.length a0 : Int) < 4))) ?_
 refine en hK3 ?_
 refine aw_bool (b := (decide ((List.length a0 : Int) < 4))) 8 rfl (fun c4 => ?_) (fun c4 => ?_)
 ·have h := ifT c4 h
  refine aw_cond_t D_ rfl ?_
  refine sr fun K5 hK5 => ?_
  refine pa 2 (.int .u32 0) ?_
  refine pa 3 (.bool false) ?_
  refine en hK5 ?_
  refine aw_ret ?_
  obtain rfl := Option.some.inj h
  exact ret_ok1 W_ W_ R_ (.inr rfl) rfl
 ·have h := ifF c4 h
  refine aw_cond_f D_ rfl ?_
  refine aw_skip ?_
  refine hK2 _ ?_
  refine sr fun K6 hK6 => ?_
  refine pa 4 (.int .u32 0) ?_
  refine en hK6 ?_
  refine aw_seq_k (fun K7 hK7 => ?_)
  refine sr fun K8 hK8 => ?_
  refine pm 9 (.int .i64 0) ?_
  refine en hK8 ?_
  refine aw_block ?_
  refine aw_loop' (fun m s => ∃ (v4_0 : Int), ∃ (v9_0 : Int), loopN (fun (s : Int × Int) => check_Get_l0 a0 s.1 s.2) m (v4_0, v9_0) = some r ∧ s = lit [(0, .sl 1 (List.map enc5 a0)), (4, .int .u32 v4_0), (9, .int .i64 v9_0)] [] [] X) Fu
   ⟨_, reb_lit [(0, .sl 1 (List.map enc5 a0)), (4, .int .u32 (0)), (9, .int .i64 (0))] [] [] [] (ec (ec (ec envOk_nil))) objOk_nil (nodup_b rfl) (nodup_b rfl) rfl rfl, 0, 0, h, rfl⟩ ?_
  rintro m s ⟨v4_0, v9_0, h, rfl⟩
  obtain ⟨m0, q9, rfl, h, hq10⟩ := loop_some h
  replace h : check_Get_l0 a0 v4_0 v9_0 = some q9 := h
  unfold check_Get_l0 at h
  refine sr fun K11 hK11 => ?_
  refine pb 10 (.bool (decide (v9_0 < 4))) ?_
  refine en hK11 ?_
  refine aw_seq_k (fun K12 hK12 => ?_)
  refine aw_bool (b := (decide (v9_0 < 4))) 10 rfl (fun c13 => ?_) (fun c13 => ?_)
  ·have h := ifT c13 h
   refine aw_cond_t D_ rfl ?_
   refine aw_skip ?_
   refine hK12 _ ?_
   refine aw_seq_k (fun K14 hK14 => ?_)
   refine aw_block ?_
   refine sr fun K15 hK15 => ?_
   refine pm 11 (.int .i64 v9_0) ?_
   refine pa 5 (.int .i64 v9_0) ?_
   refine en hK15 ?_
   refine aw_regL ?_
   refine pm 12 (.int .u32 v4_0) ?_
   refine pm 13 (.sl 1 (List.map enc5 a0)) ?_
   refine pm 14 (.int .i64 v9_0) ?_
   obtain ⟨g16, h⟩ := gd_some h
   obtain ⟨x17, hx17, h⟩ := bnd_some h
   refine pP 15 (does_indexAddr_sl (el := .int .u8 (x17.toNat : Int)) W_ W_ ty28 ty5 g16 (by exact map_get hx17)) ?_
   refine pl 16 (.int .u8 (x17.toNat : Int)) ty5 ?_
   refine pP 17 (does_conv_int (v := .int .u32 (IntKind.u32.wrap (x17.toNat : Int))) W_ (ty_some ty5) (ty_int ty101) rfl) ?_
   refine pm 18 (.int .i64 v9_0) ?_
   refine pb 19 (.int .i64 (IntKind.i64.wrap (8 * v9_0))) ?_
   obtain ⟨g18, h⟩ := gd_some h
   refine pP 20 (does_bin (v := .int .u32 (IntKind.u32.wrap ((IntKind.u32.wrap (x17.toNat : Int)) * 2 ^ (min (Int.toNat (IntKind.i64.wrap (8 * v9_0))) (IntKind.bits .u32))))) W_ W_ (shl_hv g18)) ?_
   refine pb 21 (.int .u32 (bits .or .u32 v4_0 (IntKind.u32.wrap ((IntKind.u32.wrap (x17.toNat : Int)) * 2 ^ (min (Int.toNat (IntKind.i64.wrap (8 * v9_0))) (IntKind.bits .u32)))))) ?_
   refine pa 4 (.int .u32 (bits .or .u32 v4_0 (IntKind.u32.wrap ((IntKind.u32.wrap (x17.toNat : Int)) * 2 ^ (min (Int.toNat (IntKind.i64.wrap (8 * v9_0))) (IntKind.bits .u32)))))) ?_
   refine en hK14 ?_
   refine aw_regL ?_
   refine pb 22 (.int .i64 (IntKind.i64.wrap (v9_0 + 1))) ?_
   refine pm 9 (.int .i64 (IntKind.i64.wrap (v9_0 + 1))) ?_
   refine al_nil ?_
   have h := leafL h hq10
   exact ⟨m0, Nat.lt_succ_self _, _, reb_lit [(0, .sl 1 (List.map enc5 a0)), (4, .int .u32 (bits .or .u32 v4_0 (IntKind.u32.wrap ((IntKind.u32.wrap (x17.toNat : Int)) * 2 ^ (min (Int.toNat (IntKind.i64.wrap (8 * v9_0))) (IntKind.bits .u32)))))), (9, .int .i64 (IntKind.i64.wrap (v9_0 + 1)))] [] [] [] (ec (ec (ec envOk_nil))) objOk_nil (nodup_b rfl) (nodup_b rfl) rfl rfl, (bits .or .u32 v4_0 (IntKind.u32.wrap ((IntKind.u32.wrap (x17.toNat : Int)) * 2 ^ (min (Int.toNat (IntKind.i64.wrap (8 * v9_0))) (IntKind.bits .u32))))), (IntKind.i64.wrap (v9_0 + 1)), h, rfl⟩
  ·have h := ifF c13 h
   refine aw_cond_f D_ rfl ?_
   refine aw_exit ?_
   have h := leafR h hq10
   refine hK7 _ ?_
   refine sr fun K19 hK19 => ?_
   refine pm 23 (.int .u32 v4_0) ?_
   refine pa 2 (.int .u32 v4_0) ?_
   refine pa 3 (.bool true) ?_
   refine en hK19 ?_
   refine aw_ret ?_
   obtain rfl := Option.some.inj h
   exact ret_ok1 W_ W_ R_ (.inr rfl) rfl
def check_Open (a0 : List UInt8) : Option (List UInt8 × Bool) :=
 if (decide ((IntKind.i64.wrap ((List.length a0 : Int) - 4)) < 0)) = true then (some ([], false)) else (gd (0 ≤ (IntKind.i64.wrap ((List.length a0 : Int) - 4))) (gd ((IntKind.i64.wrap ((List.length a0 : Int) - 4)) ≤ (List.length a0 : Int)) (Option.bind (check_Get (List.drop (Int.toNat (IntKind.i64.wrap ((List.length a0 : Int) - 4))) a0)) (fun (x10 : Int × Bool) => gd (0 ≤ (IntKind.i64.wrap ((List.length a0 : Int) - 4))) (gd ((IntKind.i64.wrap ((List.length a0 : Int) - 4)) ≤ (List.length a0 : Int)) (if x10.2 = true then (gd (0 ≤ (IntKind.i64.wrap ((List.length a0 : Int) - 4))) (gd ((IntKind.i64.wrap ((List.length a0 : Int) - 4)) ≤ (List.length a0 : Int)) (Option.bind (check_Sum (List.take (Int.toNat (IntKind.i64.wrap ((List.length a0 : Int) - 4))) a0)) (fun (x17 : Int) => some ((List.take (Int.toNat (IntKind.i64.wrap ((List.length a0 : Int) - 4))) a0), (x10.1 == x17)))))) else (some ((List.take (Int.toNat (IntKind.i64.wrap ((List.length a0 : Int) - 4))) a0), false))))))))
theorem check_Open_ok (a0 : List UInt8) {r : List UInt8 × Bool} (h : check_Open a0 = some r) : Ok Try.prog 38 [.sl 1 (List.map enc5 a0)] [] [] (.tup [.sl 1 (List.map enc5 r.1), .bool r.2]) [] [] := by
 unfold check_Open at h
 refine ok_of_code Try.func38 rfl (by show (1 : Nat) ≤ _; decide) (Nat.le_refl _) fun X => ?_
 refine sr fun K1 hK1 => ?_
 refine pa 2 (.nil) ?_
 refine pa 3 (.bool false) ?_
 refine en hK1 ?_
 refine sr fun K2 hK2 => ?_
 refine pm 7 (.sl 1 (List.map enc5 a0)) ?_
 refine pP 8 ((does_len_sl W_ ty28).castp (v' := .int .i64 (List.length a0 : Int)) (by exact len_map _)) ?_
 refine pb 9 (.int .i64 (IntKind.i64.wrap ((List.length a0 : Int) - 4))) ?_
 refine pa 4 (.int .i64 (IntKind.i64.wrap ((List.length a0 : Int) - 4))) ?_
 refine en hK2 ?_
 refine aw_seq_k (fun K3 hK3 => ?_)
 refine sr fun K4 hK4 => ?_
 refine pm 10 (.int .i64 (IntKind.i64.wrap ((List.length a0 : Int) - 4))) ?_
 refine pb 11 (.bool (decide ((IntKind.i64.wrap ((List.length a0 : Int) - 4)) < 0))) ?_
 refine en hK4 ?_
 refine aw_bool (b := (decide ((IntKind.i64.wrap ((List.length a0 : Int) - 4)) < 0))) 11 rfl (fun c5 => ?_) (fun c5 => ?_)
 ·have h := ifT c5 h
  refine aw_cond_t D_ rfl ?_
  refine sr fun K6 hK6 => ?_
  refine pa 2 (.nil) ?_
  refine pa 3 (.bool false) ?_
  refine en hK6 ?_
  refine aw_reb (reb_w (tl' := [(2, .sl 1 (List.map enc5 [])), (3, .bool false)]) (ol' := []) (reb_lit [(2, .nil), (3, .bool false)] [] [] [] (ec (ec envOk_nil)) objOk_nil (nodup_b rfl) (nodup_b rfl) rfl rfl) ⟨rfl, (le_nil _), rfl, le_refl _, trivial⟩ trivial) ?_
  refine aw_ret ?_
  obtain rfl := Option.some.inj h
  exact ret_ok1 W_ W_ R_ (.inr rfl) rfl
 ·have h := ifF c5 h
  refine aw_cond_f D_ rfl ?_
  refine aw_skip ?_
  refine hK3 _ ?_
  refine sr fun K7 hK7 => ?_
  refine pm 13 (.sl 1 (List.map enc5 a0)) ?_
  refine pm 14 (.int .i64 (IntKind.i64.wrap ((List.length a0 : Int) - 4))) ?_
  obtain ⟨g8, h⟩ := gd_some h
  obtain ⟨g9, h⟩ := gd_some h
  refine pP 15 (does_slice_sl (l := (Int.toNat (IntKind.i64.wrap ((List.length a0 : Int) - 4)))) W_ ty28 ty5 (bd_some W_ (by exact (nat_of g8))) bd_none (by (try simp only [List.length_map]); omega) (by (try simp only [List.length_map]); omega) (by exact part_l _ _)) ?_
  obtain ⟨x10, hx10, h⟩ := bnd_some h
  refine pD 16 (do_call0 16 false (check_Get_ok (List.drop (Int.toNat (IntKind.i64.wrap ((List.length a0 : Int) - 4))) a0) hx10) rfl ent61 rfl rfl) ?_
  refine pm 12 (.tup [.int .u32 x10.1, .bool x10.2]) ?_
  refine pP 17 (does_extract (v := .int .u32 x10.1) W_ R_) ?_
  refine pP 18 (does_extract (v := .bool x10.2) W_ R_) ?_
  refine pa 5 (.int .u32 x10.1) ?_
  refine pa 6 (.bool x10.2) ?_
  refine en hK7 ?_
  refine aw_seq_k (fun K11 hK11 => ?_)
  refine aw_regd (by kernel_rfl) (by decide +kernel) ?_
  refine qP 19 (does_move (v := .sl 1 (List.map enc5 a0)) R_) ?_
  refine qP 20 (does_move (v := .int .i64 (IntKind.i64.wrap ((List.length a0 : Int) - 4))) R_) ?_
  obtain ⟨g12, h⟩ := gd_some h
  obtain ⟨g13, h⟩ := gd_some h
  refine qP 21 (does_slice_sl (l := 0) (k := (Int.toNat (IntKind.i64.wrap ((List.length a0 : Int) - 4)))) W_ ty28 ty5 bd_none (bd_some W_ (by exact (nat_of (by omega)))) (by (try simp only [List.length_map]); omega) (by (try simp only [List.length_map]); omega) (by exact part_h _ _)) ?_
  refine qP 22 (does_move (v := .bool x10.2) R_) ?_
  refine qP 23 (does_move (v := .bool x10.2) R_) ?_
  refine ao_bool (c := x10.2) 23 rfl (fun c14 => ?_) (fun c14 => ?_)
  ·have h := ifT c14 h
   refine qP 24 (does_move (v := .int .u32 x10.1) R_) ?_
   refine qP 25 (does_move (v := .sl 1 (List.map enc5 a0)) R_) ?_
   refine qP 26 (does_move (v := .int .i64 (IntKind.i64.wrap ((List.length a0 : Int) - 4))) R_) ?_
   obtain ⟨g15, h⟩ := gd_some h
   obtain ⟨g16, h⟩ := gd_some h
   refine qP 27 (does_slice_sl (l := 0) (k := (Int.toNat (IntKind.i64.wrap ((List.length a0 : Int) - 4)))) W_ ty28 ty5 bd_none (bd_some W_ (by exact (nat_of (by omega)))) (by (try simp only [List.length_map]); omega) (by (try simp only [List.length_map]); omega) (by exact part_h _ _)) ?_
   obtain ⟨x17, hx17, h⟩ := bnd_some h
   refine qD 28 (do_call0 28 false (check_Sum_ok (List.take (Int.toNat (IntKind.i64.wrap ((List.length a0 : Int) - 4))) a0) hx17) rfl ent60 rfl rfl) ?_
   refine qP 29 (does_bin (v := .bool (x10.1 == x17)) W_ W_ rfl) ?_
   refine qP 30 (does_pick (v := .bool (x10.1 == x17)) W_ R_) ?_
   refine qP 2 (does_assign (v := .sl 1 (List.map enc5 (List.take (Int.toNat (IntKind.i64.wrap ((List.length a0 : Int) - 4))) a0))) R_) ?_
   refine qP 3 (does_assign (v := .bool (x10.1 == x17)) R_) ?_
   refine ao_nil_d (by kernel_rfl) ?_
   refine hK11 _ ?_
   refine aw_ret ?_
   obtain rfl := Option.some.inj h
   exact ret_ok1 W_ W_ R_ (.inr rfl) rfl
  ·have h := ifF c14 h
   refine qS 24 ?_
   refine qS 25 ?_
   refine qS 26 ?_
   refine qS 27 ?_
   refine qS 28 ?_
   refine qS 29 ?_
   refine qP 30 (does_pick (v := .bool false) W_ R_) ?_
   refine qP 2 (does_assign (v := .sl 1 (List.map enc5 (List.take (Int.toNat (IntKind.i64.wrap ((List.length a0 : Int) - 4))) a0))) R_) ?_
   refine qP 3 (does_assign (v := .bool false) R_) ?_
   refine ao_nil_d (by kernel_rfl) ?_
   refine hK11 _ ?_
   refine aw_ret ?_
   obtain rfl := Option.some.inj h
   exact ret_ok1 W_ W_ R_ (.inr rfl) rfl
def gleaningref1_More_l1 (v6_0 : Int) (v5_1 : Int) (v7_1 : Int) : Option ((Int × Int) ⊕ ((Int × Int) ⊕ Int)) :=
 if (decide (v7_1 < 8)) = true then (if ((bits .and .u32 v5_1 1) == 1) = true then (some (Sum.inl ((bits .xor .u32 (Int.fdiv v5_1 (2 ^ (min (Int.toNat 1) (IntKind.bits .u32)))) 3988292384), (IntKind.i64.wrap (v7_1 + 1))))) else (some (Sum.inl ((Int.fdiv v5_1 (2 ^ (min (Int.toNat 1) (IntKind.bits .u32)))), (IntKind.i64.wrap (v7_1 + 1)))))) else (some (Sum.inr (Sum.inl (v5_1, (IntKind.i64.wrap (v6_0 + 1))))))
def gleaningref1_More_l0 (a1 : List UInt8) (v5_0 : Int) (v6_0 : Int) : Option ((Int × Int) ⊕ Int) :=
 if (decide (v6_0 < (List.length a1 : Int))) = true then (gd (0 ≤ v6_0) (Option.bind (a1[(Int.toNat v6_0)]?) (fun (x13 : UInt8) => loopN (fun (s : Int × Int) => gleaningref1_More_l1 v6_0 s.1 s.2) Fu ((bits .xor .u32 v5_0 (IntKind.u32.wrap (x13.toNat : Int))), 0)))) else (some (Sum.inr (bits .xor .u32 (if IntKind.signed .u32 then -1 else IntKind.max .u32) v5_0)))
def gleaningref1_More (a0 : Int) (a1 : List UInt8) : Option Int :=
 loopN (fun (s : Int × Int) => gleaningref1_More_l0 a1 s.1 s.2) Fu ((bits .xor .u32 (if IntKind.signed .u32 then -1 else IntKind.max .u32) a0), 0)
theorem gleaningref1_More_ok (a0 : Int) (a1 : List UInt8) {r : Int} (h : gleaningref1_More a0 a1 = some r) : Ok Try.prog 86 [.int .u32 a0, .sl 1 (List.map enc5 a1)] [] [] (.int .u32 r) [] [] := by
 unfold gleaningref1_More at h
 refine ok_of_code Try.func86 rfl (by show (2 : Nat) ≤ _; decide) (Nat.le_refl _) fun X => ?_
 refine sr fun K1 hK1 => ?_
 refine pa 4 (.int .u32 0) ?_
 refine en hK1 ?_
 refine sr fun K2 hK2 => ?_
 refine pm 8 (.int .u32 a0) ?_
 refine pP 9 (does_un (v := .int .u32 (bits .xor .u32 (if IntKind.signed .u32 then -1 else IntKind.max .u32) a0)) W_ rfl) ?_
 refine pa 5 (.int .u32 (bits .xor .u32 (if IntKind.signed .u32 then -1 else IntKind.max .u32) a0)) ?_
 refine en hK2 ?_
 refine aw_seq_k (fun K3 hK3 => ?_)
 refine sr fun K4 hK4 => ?_
 refine pa 6 (.int .i64 0) ?_
 refine en hK4 ?_
 refine aw_block ?_
 refine aw_loop' (fun m s => ∃ (v5_0 : Int), ∃ (v6_0 : Int), loopN (fun (s : Int × Int) => gleaningref1_More_l0 a1 s.1 s.2) m (v5_0, v6_0) = some r ∧ s = lit [(1, .sl 1 (List.map enc5 a1)), (5, .int .u32 v5_0), (6, .int .i64 v6_0)] [] [] X) Fu
  ⟨_, reb_lit [(1, .sl 1 (List.map enc5 a1)), (5, .int .u32 (bits .xor .u32 (if IntKind.signed .u32 then -1 else IntKind.max .u32) a0)), (6, .int .i64 (0))] [] [] [] (ec (ec (ec envOk_nil))) objOk_nil (nodup_b rfl) (nodup_b rfl) rfl rfl, (bits .xor .u32 (if IntKind.signed .u32 then -1 else IntKind.max .u32) a0), 0, h, rfl⟩ ?_
 rintro m s ⟨v5_0, v6_0, h, rfl⟩
 obtain ⟨m0, q5, rfl, h, hq6⟩ := loop_some h
 replace h : gleaningref1_More_l0 a1 v5_0 v6_0 = some q5 := h
 unfold gleaningref1_More_l0 at h
 refine aw_seq_k (fun K7 hK7 => ?_)
 refine sr fun K8 hK8 => ?_
 refine pm 10 (.int .i64 v6_0) ?_
 refine pm 11 (.sl 1 (List.map enc5 a1)) ?_
 refine pP 12 ((does_len_sl W_ ty28).castp (v' := .int .i64 (List.length a1 : Int)) (by exact len_map _)) ?_
 refine pb 13 (.bool (decide (v6_0 < (List.length a1 : Int)))) ?_
 refine en hK8 ?_
 refine aw_bool (b := (decide (v6_0 < (List.length a1 : Int)))) 13 rfl (fun c9 => ?_) (fun c9 => ?_)
 ·have h := ifT c9 h
  refine aw_cond_t D_ rfl ?_
  refine aw_skip ?_
  refine hK7 _ ?_
  refine aw_seq_k (fun K10 hK10 => ?_)
  refine aw_block ?_
  refine sr fun K11 hK11 => ?_
  refine pm 16 (.int .u32 v5_0) ?_
  refine pm 17 (.sl 1 (List.map enc5 a1)) ?_
  refine pm 18 (.int .i64 v6_0) ?_
  obtain ⟨g12, h⟩ := gd_some h
  obtain ⟨x13, hx13, h⟩ := bnd_some h
  refine pP 19 (does_indexAddr_sl (el := .int .u8 (x13.toNat : Int)) W_ W_ ty28 ty5 g12 (by exact map_get hx13)) ?_
  refine pl 20 (.int .u8 (x13.toNat : Int)) ty5 ?_
  refine pP 21 (does_conv_int (v := .int .u32 (IntKind.u32.wrap (x13.toNat : Int))) W_ (ty_some ty5) (ty_int ty101) rfl) ?_
  refine pb 22 (.int .u32 (bits .xor .u32 v5_0 (IntKind.u32.wrap (x13.toNat : Int)))) ?_
  refine pa 5 (.int .u32 (bits .xor .u32 v5_0 (IntKind.u32.wrap (x13.toNat : Int)))) ?_
  refine en hK11 ?_
  refine sr fun K14 hK14 => ?_
  refine pa 7 (.int .i64 0) ?_
  refine en hK14 ?_
  refine aw_block ?_
  refine aw_loop' (fun m s => ∃ (v5_1 : Int), ∃ (v7_1 : Int), loopN (fun (s : Int × Int) => gleaningref1_More_l1 v6_0 s.1 s.2) m (v5_1, v7_1) = some q5 ∧ s = lit [(1, .sl 1 (List.map enc5 a1)), (5, .int .u32 v5_1), (6, .int .i64 v6_0), (7, .int .i64 v7_1)] [] [] X) Fu
   ⟨_, reb_lit [(1, .sl 1 (List.map enc5 a1)), (5, .int .u32 (bits .xor .u32 v5_0 (IntKind.u32.wrap (x13.toNat : Int)))), (6, .int .i64 v6_0), (7, .int .i64 (0))] [] [] [] (ec (ec (ec (ec envOk_nil)))) objOk_nil (nodup_b rfl) (nodup_b rfl) rfl rfl, (bits .xor .u32 v5_0 (IntKind.u32.wrap (x13.toNat : Int))), 0, h, rfl⟩ ?_
  rintro m s ⟨v5_1, v7_1, h, rfl⟩
  obtain ⟨m1, q15, rfl, h, hq16⟩ := loop_some h
  replace h : gleaningref1_More_l1 v6_0 v5_1 v7_1 = some q15 := h
  unfold gleaningref1_More_l1 at h
  refine aw_seq_k (fun K17 hK17 => ?_)
  refine sr fun K18 hK18 => ?_
  refine pm 23 (.int .i64 v7_1) ?_
  refine pb 24 (.bool (decide (v7_1 < 8))) ?_
  refine en hK18 ?_
  refine aw_bool (b := (decide (v7_1 < 8))) 24 rfl (fun c19 => ?_) (fun c19 => ?_)
  ·have h := ifT c19 h
   refine aw_cond_t D_ rfl ?_
   refine aw_skip ?_
   refine hK17 _ ?_
   refine aw_seq_k (fun K20 hK20 => ?_)
   refine aw_block ?_
   refine sr fun K21 hK21 => ?_
   refine pm 27 (.int .u32 v5_1) ?_
   refine pb 28 (.int .u32 (bits .and .u32 v5_1 1)) ?_
   refine pb 29 (.bool ((bits .and .u32 v5_1 1) == 1)) ?_
   refine en hK21 ?_
   refine aw_bool (b := ((bits .and .u32 v5_1 1) == 1)) 29 rfl (fun c22 => ?_) (fun c22 => ?_)
   ·have h := ifT c22 h
    refine aw_cond_t D_ rfl ?_
    refine aw_regL ?_
    refine pm 30 (.int .u32 v5_1) ?_
    refine pb 31 (.int .u32 (Int.fdiv v5_1 (2 ^ (min (Int.toNat 1) (IntKind.bits .u32))))) ?_
    refine pb 32 (.int .u32 (bits .xor .u32 (Int.fdiv v5_1 (2 ^ (min (Int.toNat 1) (IntKind.bits .u32)))) 3988292384)) ?_
    refine pa 5 (.int .u32 (bits .xor .u32 (Int.fdiv v5_1 (2 ^ (min (Int.toNat 1) (IntKind.bits .u32)))) 3988292384)) ?_
    refine en hK20 ?_
    refine aw_regL ?_
    refine pm 25 (.int .i64 v7_1) ?_
    refine pb 26 (.int .i64 (IntKind.i64.wrap (v7_1 + 1))) ?_
    refine pa 7 (.int .i64 (IntKind.i64.wrap (v7_1 + 1))) ?_
    refine al_nil ?_
    have h := leafL h hq16
    exact ⟨m1, Nat.lt_succ_self _, _, reb_lit [(1, .sl 1 (List.map enc5 a1)), (5, .int .u32 (bits .xor .u32 (Int.fdiv v5_1 (2 ^ (min (Int.toNat 1) (IntKind.bits .u32)))) 3988292384)), (6, .int .i64 v6_0), (7, .int .i64 (IntKind.i64.wrap (v7_1 + 1)))] [] [] [] (ec (ec (ec (ec envOk_nil)))) objOk_nil (nodup_b rfl) (nodup_b rfl) rfl rfl, (bits .xor .u32 (Int.fdiv v5_1 (2 ^ (min (Int.toNat 1) (IntKind.bits .u32)))) 3988292384), (IntKind.i64.wrap (v7_1 + 1)), h, rfl⟩
   ·have h := ifF c22 h
    refine aw_cond_f D_ rfl ?_
    refine aw_regL ?_
    refine pm 33 (.int .u32 v5_1) ?_
    refine pb 34 (.int .u32 (Int.fdiv v5_1 (2 ^ (min (Int.toNat 1) (IntKind.bits .u32))))) ?_
    refine pa 5 (.int .u32 (Int.fdiv v5_1 (2 ^ (min (Int.toNat 1) (IntKind.bits .u32))))) ?_
    refine en hK20 ?_
    refine aw_regL ?_
    refine pm 25 (.int .i64 v7_1) ?_
    refine pb 26 (.int .i64 (IntKind.i64.wrap (v7_1 + 1))) ?_
    refine pa 7 (.int .i64 (IntKind.i64.wrap (v7_1 + 1))) ?_
    refine al_nil ?_
    have h := leafL h hq16
    exact ⟨m1, Nat.lt_succ_self _, _, reb_lit [(1, .sl 1 (List.map enc5 a1)), (5, .int .u32 (Int.fdiv v5_1 (2 ^ (min (Int.toNat 1) (IntKind.bits .u32))))), (6, .int .i64 v6_0), (7, .int .i64 (IntKind.i64.wrap (v7_1 + 1)))] [] [] [] (ec (ec (ec (ec envOk_nil)))) objOk_nil (nodup_b rfl) (nodup_b rfl) rfl rfl, (Int.fdiv v5_1 (2 ^ (min (Int.toNat 1) (IntKind.bits .u32)))), (IntKind.i64.wrap (v7_1 + 1)), h, rfl⟩
  ·have h := ifF c19 h
   refine aw_cond_f D_ rfl ?_
   refine aw_exit ?_
   have h := leafR h hq16
   refine hK10 _ ?_
   refine aw_regL ?_
   refine pm 14 (.int .i64 v6_0) ?_
   refine pb 15 (.int .i64 (IntKind.i64.wrap (v6_0 + 1))) ?_
   refine pa 6 (.int .i64 (IntKind.i64.wrap (v6_0 + 1))) ?_
   refine al_nil ?_
   have h := leafL h hq6
   exact ⟨m0, Nat.lt_succ_self _, _, reb_lit [(1, .sl 1 (List.map enc5 a1)), (5, .int .u32 v5_1), (6, .int .i64 (IntKind.i64.wrap (v6_0 + 1)))] [] [] [] (ec (ec (ec envOk_nil))) objOk_nil (nodup_b rfl) (nodup_b rfl) rfl rfl, v5_1, (IntKind.i64.wrap (v6_0 + 1)), h, rfl⟩
 ·have h := ifF c9 h
  refine aw_cond_f D_ rfl ?_
  refine aw_exit ?_
  have h := leafR h hq6
  refine hK3 _ ?_
  refine sr fun K23 hK23 => ?_
  refine pm 35 (.int .u32 v5_0) ?_
  refine pP 36 (does_un (v := .int .u32 (bits .xor .u32 (if IntKind.signed .u32 then -1 else IntKind.max .u32) v5_0)) W_ rfl) ?_
  refine pa 4 (.int .u32 (bits .xor .u32 (if IntKind.signed .u32 then -1 else IntKind.max .u32) v5_0)) ?_
  refine en hK23 ?_
  refine aw_ret ?_
  obtain rfl := Option.some.inj h
  exact ret_ok1 W_ W_ R_ (.inr rfl) rfl
def gleaningref1_Sum (a0 : List UInt8) : Option Int :=
 Option.bind (gleaningref1_More 0 a0) (fun (x3 : Int) => some x3)
theorem gleaningref1_Sum_ok (a0 : List UInt8) {r : Int} (h : gleaningref1_Sum a0 = some r) : Ok Try.prog 70 [.sl 1 (List.map enc5 a0)] [] [] (.int .u32 r) [] [] := by
 unfold gleaningref1_Sum at h
 refine ok_of_code Try.func70 rfl (by show (1 : Nat) ≤ _; decide) (Nat.le_refl _) fun X => ?_
 refine sr fun K1 hK1 => ?_
 refine pa 2 (.int .u32 0) ?_
 refine en hK1 ?_
 refine sr fun K2 hK2 => ?_
 refine pm 3 (.sl 1 (List.map enc5 a0)) ?_
 obtain ⟨x3, hx3, h⟩ := bnd_some h
 refine pD 4 (do_call0 4 false (gleaningref1_More_ok 0 a0 hx3) rfl ent86 rfl rfl) ?_
 refine pa 2 (.int .u32 x3) ?_
 refine en hK2 ?_
 refine aw_ret ?_
 obtain rfl := Option.some.inj h
 exact ret_ok1 W_ W_ R_ (.inr rfl) rfl
def gleaningref1_four (a0 : Int) : Option (List UInt8) :=
 some [(u8 (IntKind.u8.wrap (bits .and .u32 a0 255))), (u8 (IntKind.u8.wrap (bits .and .u32 (Int.fdiv a0 (2 ^ (min (Int.toNat 8) (IntKind.bits .u32)))) 255))), (u8 (IntKind.u8.wrap (bits .and .u32 (Int.fdiv a0 (2 ^ (min (Int.toNat 16) (IntKind.bits .u32)))) 255))), (u8 (IntKind.u8.wrap (Int.fdiv a0 (2 ^ (min (Int.toNat 24) (IntKind.bits .u32))))))]
theorem gleaningref1_four_ok (a0 : Int) {r : List UInt8} (h : gleaningref1_four a0 = some r) : Ok Try.prog 69 [.int .u32 a0] [] [] (.own 2 0) [] [(5, 1, List.map enc5 r)] := by
 unfold gleaningref1_four at h
 refine ok_of_code Try.func69 rfl (by show (1 : Nat) ≤ _; decide) (Nat.le_refl _) fun X => ?_
 refine sr fun K1 hK1 => ?_
 refine pa 2 (.nil) ?_
 refine en hK1 ?_
 refine sr fun K2 hK2 => ?_
 refine pm 3 (.int .u32 a0) ?_
 refine pb 4 (.int .u32 (bits .and .u32 a0 255)) ?_
 refine pP 5 ((does_conv_int (v := .int .u8 (IntKind.u8.wrap (bits .and .u32 a0 255))) W_ (ty_some ty101) (ty_int ty5) rfl).castp (v' := .int .u8 ((u8 (IntKind.u8.wrap (bits .and .u32 a0 255))).toNat : Int)) (by exact congrArg _ (u8_eq (u8_wrap _)))) ?_
 refine pm 6 (.int .u32 a0) ?_
 refine pb 7 (.int .u32 (Int.fdiv a0 (2 ^ (min (Int.toNat 8) (IntKind.bits .u32))))) ?_
 refine pb 8 (.int .u32 (bits .and .u32 (Int.fdiv a0 (2 ^ (min (Int.toNat 8) (IntKind.bits .u32)))) 255)) ?_
 refine pP 9 ((does_conv_int (v := .int .u8 (IntKind.u8.wrap (bits .and .u32 (Int.fdiv a0 (2 ^ (min (Int.toNat 8) (IntKind.bits .u32)))) 255))) W_ (ty_some ty101) (ty_int ty5) rfl).castp (v' := .int .u8 ((u8 (IntKind.u8.wrap (bits .and .u32 (Int.fdiv a0 (2 ^ (min (Int.toNat 8) (IntKind.bits .u32)))) 255))).toNat : Int)) (by exact congrArg _ (u8_eq (u8_wrap _)))) ?_
 refine pm 10 (.int .u32 a0) ?_
 refine pb 11 (.int .u32 (Int.fdiv a0 (2 ^ (min (Int.toNat 16) (IntKind.bits .u32))))) ?_
 refine pb 12 (.int .u32 (bits .and .u32 (Int.fdiv a0 (2 ^ (min (Int.toNat 16) (IntKind.bits .u32)))) 255)) ?_
 refine pP 13 ((does_conv_int (v := .int .u8 (IntKind.u8.wrap (bits .and .u32 (Int.fdiv a0 (2 ^ (min (Int.toNat 16) (IntKind.bits .u32)))) 255))) W_ (ty_some ty101) (ty_int ty5) rfl).castp (v' := .int .u8 ((u8 (IntKind.u8.wrap (bits .and .u32 (Int.fdiv a0 (2 ^ (min (Int.toNat 16) (IntKind.bits .u32)))) 255))).toNat : Int)) (by exact congrArg _ (u8_eq (u8_wrap _)))) ?_
 refine pm 14 (.int .u32 a0) ?_
 refine pb 15 (.int .u32 (Int.fdiv a0 (2 ^ (min (Int.toNat 24) (IntKind.bits .u32))))) ?_
 refine pP 16 ((does_conv_int (v := .int .u8 (IntKind.u8.wrap (Int.fdiv a0 (2 ^ (min (Int.toNat 24) (IntKind.bits .u32)))))) W_ (ty_some ty101) (ty_int ty5) rfl).castp (v' := .int .u8 ((u8 (IntKind.u8.wrap (Int.fdiv a0 (2 ^ (min (Int.toNat 24) (IntKind.bits .u32)))))).toNat : Int)) (by exact congrArg _ (u8_eq (u8_wrap _)))) ?_
 refine pD 17 (do_buildSlice (xs := List.map enc5 [(u8 (IntKind.u8.wrap (bits .and .u32 a0 255))), (u8 (IntKind.u8.wrap (bits .and .u32 (Int.fdiv a0 (2 ^ (min (Int.toNat 8) (IntKind.bits .u32)))) 255))), (u8 (IntKind.u8.wrap (bits .and .u32 (Int.fdiv a0 (2 ^ (min (Int.toNat 16) (IntKind.bits .u32)))) 255))), (u8 (IntKind.u8.wrap (Int.fdiv a0 (2 ^ (min (Int.toNat 24) (IntKind.bits .u32))))))]) ty28 ty5 rfl rfl rfl rfl rfl rfl rfl rfl) ?_
 refine pa 2 (.own 17 0) ?_
 refine en hK2 ?_
 refine aw_ret ?_
 obtain rfl := Option.some.inj h
 exact ret_okR [(17, 0)] W_ W_ R_ (rowsOk_cons W_ R_ trivial) (nodup_b rfl) (.inr rfl) rfl
def gleaningref1_Sealed (a0 : List UInt8) : Option (List UInt8) :=
 gd ((List.length a0) * 1 ≤ 140737488355328 ∧ (List.length a0) ≤ 140737488355328) (Option.bind (gleaningref1_Sum a0) (fun (x4 : Int) => Option.bind (gleaningref1_four x4) (fun (x5 : List UInt8) => gd ((List.length (a0 ++ x5)) * 1 ≤ 140737488355328 ∧ (List.length (a0 ++ x5)) ≤ 140737488355328) (some (a0 ++ x5)))))
theorem gleaningref1_Sealed_ok (a0 : List UInt8) {r : List UInt8} (h : gleaningref1_Sealed a0 = some r) : Ok Try.prog 49 [.sl 1 (List.map enc5 a0)] [] [] (.own 2 0) [] [(5, 1, List.map enc5 r)] := by
 unfold gleaningref1_Sealed at h
 refine ok_of_code Try.func49 rfl (by show (1 : Nat) ≤ _; decide) (Nat.le_refl _) fun X => ?_
 refine sr fun K1 hK1 => ?_
 refine pa 2 (.nil) ?_
 refine en hK1 ?_
 refine sr fun K2 hK2 => ?_
 refine pm 3 (.sl 1 (List.map enc5 a0)) ?_
 obtain ⟨g3, h⟩ := gd_some h
 refine pD 4 (do_append (v := List.map enc5 a0) W_ W_ ty28 ty5 rfl rfl W_ (by first | exact .inl rfl | exact .inr ⟨rfl, rfl⟩) W_ (by first | exact .inr rfl | exact .inl rfl) (List.nil_append _) (fit_map g3)) ?_
 refine pm 5 (.sl 1 (List.map enc5 a0)) ?_
 obtain ⟨x4, hx4, h⟩ := bnd_some h
 refine pD 6 (do_call0 6 false (gleaningref1_Sum_ok a0 hx4) rfl ent70 rfl rfl) ?_
 obtain ⟨x5, hx5, h⟩ := bnd_some h
 refine pD 7 (do_call0 7 false (gleaningref1_four_ok x4 hx5) rfl ent69 rfl rfl) ?_
 obtain ⟨g6, h⟩ := gd_some h
 refine pD 8 (do_append (v := List.map enc5 (a0 ++ x5)) W_ W_ ty28 ty5 rfl rfl W_ (by first | exact .inl rfl | exact .inr ⟨rfl, rfl⟩) W_ (by first | exact .inr rfl | exact .inl rfl) (map_app _ _) (fit_map g6)) ?_
 refine pa 2 (.own 8 0) ?_
 refine en hK2 ?_
 refine aw_ret ?_
 obtain rfl := Option.some.inj h
 exact ret_okR [(8, 0)] W_ W_ R_ (rowsOk_cons W_ R_ trivial) (nodup_b rfl) (.inr rfl) rfl
def gleaningref1_Open_k0 (a0 : List UInt8) : Option (List UInt8 × Bool) :=
 gd (0 ≤ (IntKind.i64.wrap ((List.length a0 : Int) - 4))) (gd ((IntKind.i64.wrap ((List.length a0 : Int) - 4)) ≤ (List.length a0 : Int)) (some ((List.take (Int.toNat (IntKind.i64.wrap ((List.length a0 : Int) - 4))) a0), true)))
def gleaningref1_Open (a0 : List UInt8) : Option (List UInt8 × Bool) :=
 Option.bind (if (decide ((IntKind.i64.wrap ((List.length a0 : Int) - 4)) < 0)) = true then (some (Sum.inr ([], false))) else (gd (0 ≤ (IntKind.i64.wrap ((List.length a0 : Int) - 4))) (gd ((IntKind.i64.wrap ((List.length a0 : Int) - 4)) ≤ (List.length a0 : Int)) (Option.bind (gleaningref1_Sum (List.take (Int.toNat (IntKind.i64.wrap ((List.length a0 : Int) - 4))) a0)) (fun (x10 : Int) => Option.bind (gleaningref1_four x10) (fun (x11 : List UInt8) => gd (0 ≤ (IntKind.i64.wrap ((List.length a0 : Int) - 4))) (gd ((IntKind.i64.wrap ((List.length a0 : Int) - 4)) ≤ (List.length a0 : Int)) (if (!(ByteArray.toList (strOf x11) == ByteArray.toList (strOf (List.drop (Int.toNat (IntKind.i64.wrap ((List.length a0 : Int) - 4))) a0)))) = true then (some (Sum.inr ([], false))) else (some (Sum.inl ())))))))))) (Sum.elim (fun (s : Unit) => gleaningref1_Open_k0 a0) some)
theorem gleaningref1_Open_ok (a0 : List UInt8) {r : List UInt8 × Bool} (h : gleaningref1_Open a0 = some r) : Ok Try.prog 42 [.sl 1 (List.map enc5 a0)] [] [] (.tup [.sl 1 (List.map enc5 r.1), .bool r.2]) [] [] := by
 unfold gleaningref1_Open at h
 refine ok_of_code Try.func42 rfl (by show (1 : Nat) ≤ _; decide) (Nat.le_refl _) fun X => ?_
 refine sr fun K1 hK1 => ?_
 refine pa 2 (.nil) ?_
 refine pa 3 (.bool false) ?_
 refine en hK1 ?_
 refine sr fun K2 hK2 => ?_
 refine pm 5 (.sl 1 (List.map enc5 a0)) ?_
 refine pP 6 ((does_len_sl W_ ty28).castp (v' := .int .i64 (List.length a0 : Int)) (by exact len_map _)) ?_
 refine pb 7 (.int .i64 (IntKind.i64.wrap ((List.length a0 : Int) - 4))) ?_
 refine pa 4 (.int .i64 (IntKind.i64.wrap ((List.length a0 : Int) - 4))) ?_
 refine en hK2 ?_
 obtain ⟨q3, h, hk4⟩ := bnd_some h
 refine aw_cut (fun s => gleaningref1_Open_k0 a0 = some r ∧ s = lit [(0, .sl 1 (List.map enc5 a0)), (4, .int .i64 (IntKind.i64.wrap ((List.length a0 : Int) - 4)))] [] [] X) ?_ ?_
 ·skip
  refine aw_seq_k (fun K5 hK5 => ?_)
  refine aw_regd (by kernel_rfl) (by decide +kernel) ?_
  refine qP 8 (does_move (v := .int .i64 (IntKind.i64.wrap ((List.length a0 : Int) - 4))) R_) ?_
  refine qP 9 (does_bin (v := .bool (decide ((IntKind.i64.wrap ((List.length a0 : Int) - 4)) < 0))) W_ W_ rfl) ?_
  refine qP 10 (does_move (v := .bool (decide ((IntKind.i64.wrap ((List.length a0 : Int) - 4)) < 0))) R_) ?_
  refine ao_bool (c := (decide ((IntKind.i64.wrap ((List.length a0 : Int) - 4)) < 0))) 10 rfl (fun c6 => ?_) (fun c6 => ?_)
  ·have h := ifT c6 h
   refine qS 11 ?_
   refine qS 12 ?_
   refine qS 13 ?_
   refine qS 14 ?_
   refine qS 15 ?_
   refine qS 16 ?_
   refine qS 17 ?_
   refine qS 18 ?_
   refine qS 19 ?_
   refine qS 20 ?_
   refine qS 21 ?_
   refine qP 22 (does_pick (v := .bool true) W_ R_) ?_
   refine ao_nil_d (by kernel_rfl) ?_
   refine hK5 _ ?_
   refine aw_cond_t D_ rfl ?_
   refine sr fun K7 hK7 => ?_
   refine pa 2 (.nil) ?_
   refine pa 3 (.bool false) ?_
   refine en hK7 ?_
   refine aw_reb (reb_w (tl' := [(2, .sl 1 (List.map enc5 [])), (3, .bool false)]) (ol' := []) (reb_lit [(2, .nil), (3, .bool false)] [] [] [] (ec (ec envOk_nil)) objOk_nil (nodup_b rfl) (nodup_b rfl) rfl rfl) ⟨rfl, (le_nil _), rfl, le_refl _, trivial⟩ trivial) ?_
   refine aw_ret ?_
   have h := leafR h hk4
   obtain rfl := Option.some.inj h
   exact ret_ok1 W_ W_ R_ (.inr rfl) rfl
  ·have h := ifF c6 h
   refine qP 11 (does_move (v := .sl 1 (List.map enc5 a0)) R_) ?_
   refine qP 12 (does_move (v := .int .i64 (IntKind.i64.wrap ((List.length a0 : Int) - 4))) R_) ?_
   obtain ⟨g8, h⟩ := gd_some h
   obtain ⟨g9, h⟩ := gd_some h
   refine qP 13 (does_slice_sl (l := 0) (k := (Int.toNat (IntKind.i64.wrap ((List.length a0 : Int) - 4)))) W_ ty28 ty5 bd_none (bd_some W_ (by exact (nat_of (by omega)))) (by (try simp only [List.length_map]); omega) (by (try simp only [List.length_map]); omega) (by exact part_h _ _)) ?_
   obtain ⟨x10, hx10, h⟩ := bnd_some h
   refine qD 14 (do_call0 14 false (gleaningref1_Sum_ok (List.take (Int.toNat (IntKind.i64.wrap ((List.length a0 : Int) - 4))) a0) hx10) rfl ent70 rfl rfl) ?_
   obtain ⟨x11, hx11, h⟩ := bnd_some h
   refine qD 15 (do_call0 15 false (gleaningref1_four_ok x10 hx11) rfl ent69 rfl rfl) ?_
   refine qR 16 (does_bytes_str (l := x11) (f := enc5) W_ W_ (Nat.le_refl 1) (ty_slice ty28) (ty_int ty5) (ty_str ty9) (fun _ => rfl)) ?_
   refine qP 17 (does_move (v := .sl 1 (List.map enc5 a0)) R_) ?_
   refine qP 18 (does_move (v := .int .i64 (IntKind.i64.wrap ((List.length a0 : Int) - 4))) R_) ?_
   obtain ⟨g12, h⟩ := gd_some h
   obtain ⟨g13, h⟩ := gd_some h
   refine qP 19 (does_slice_sl (l := (Int.toNat (IntKind.i64.wrap ((List.length a0 : Int) - 4)))) W_ ty28 ty5 (bd_some W_ (by exact (nat_of g12))) bd_none (by (try simp only [List.length_map]); omega) (by (try simp only [List.length_map]); omega) (by exact part_l _ _)) ?_
   refine qR 20 (does_bytes_str (l := (List.drop (Int.toNat (IntKind.i64.wrap ((List.length a0 : Int) - 4))) a0)) (f := enc5) W_ W_ (Nat.le_refl 1) (ty_slice ty28) (ty_int ty5) (ty_str ty9) (fun _ => rfl)) ?_
   refine qP 21 (does_bin (v := .bool (!(ByteArray.toList (strOf x11) == ByteArray.toList (strOf (List.drop (Int.toNat (IntKind.i64.wrap ((List.length a0 : Int) - 4))) a0))))) W_ W_ rfl) ?_
   refine qP 22 (does_pick (v := .bool (!(ByteArray.toList (strOf x11) == ByteArray.toList (strOf (List.drop (Int.toNat (IntKind.i64.wrap ((List.length a0 : Int) - 4))) a0))))) W_ R_) ?_
   refine ao_nil_d (by kernel_rfl) ?_
   refine hK5 _ ?_
   refine aw_bool (b := (!(ByteArray.toList (strOf x11) == ByteArray.toList (strOf (List.drop (Int.toNat (IntKind.i64.wrap ((List.length a0 : Int) - 4))) a0))))) 22 rfl (fun c14 => ?_) (fun c14 => ?_)
   ·have h := ifT c14 h
    refine aw_cond_t D_ rfl ?_
    refine sr fun K15 hK15 => ?_
    refine pa 2 (.nil) ?_
    refine pa 3 (.bool false) ?_
    refine en hK15 ?_
    refine aw_reb (reb_w (tl' := [(2, .sl 1 (List.map enc5 [])), (3, .bool false)]) (ol' := []) (reb_lit [(2, .nil), (3, .bool false)] [] [] [] (ec (ec envOk_nil)) objOk_nil (nodup_b rfl) (nodup_b rfl) rfl rfl) ⟨rfl, (le_nil _), rfl, le_refl _, trivial⟩ trivial) ?_
    refine aw_ret ?_
    have h := leafR h hk4
    obtain rfl := Option.some.inj h
    exact ret_ok1 W_ W_ R_ (.inr rfl) rfl
   ·have h := ifF c14 h
    refine aw_cond_f D_ rfl ?_
    refine aw_skip ?_
    have h := leafL h hk4
    exact ⟨_, reb_lit [(0, .sl 1 (List.map enc5 a0)), (4, .int .i64 (IntKind.i64.wrap ((List.length a0 : Int) - 4)))] [] [] [] (ec (ec envOk_nil)) objOk_nil (nodup_b rfl) (nodup_b rfl) rfl rfl, h, rfl⟩
 ·rintro s ⟨h, rfl⟩
  unfold gleaningref1_Open_k0 at h
  refine sr fun K16 hK16 => ?_
  refine pm 23 (.sl 1 (List.map enc5 a0)) ?_
  refine pm 24 (.int .i64 (IntKind.i64.wrap ((List.length a0 : Int) - 4))) ?_
  obtain ⟨g17, h⟩ := gd_some h
  obtain ⟨g18, h⟩ := gd_some h
  refine pP 25 (does_slice_sl (l := 0) (k := (Int.toNat (IntKind.i64.wrap ((List.length a0 : Int) - 4)))) W_ ty28 ty5 bd_none (bd_some W_ (by exact (nat_of (by omega)))) (by (try simp only [List.length_map]); omega) (by (try simp only [List.length_map]); omega) (by exact part_h _ _)) ?_
  refine pa 2 (.sl 1 (List.map enc5 (List.take (Int.toNat (IntKind.i64.wrap ((List.length a0 : Int) - 4))) a0))) ?_
  refine pa 3 (.bool true) ?_
  refine en hK16 ?_
  refine aw_ret ?_
  obtain rfl := Option.some.inj h
  exact ret_ok1 W_ W_ R_ (.inr rfl) rfl
end Go.Proofs.Ytdhpmlgalddgfaa.Ab
