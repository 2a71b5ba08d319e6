/- Numbers as bytes, told as pure functions, and that the code comes to them. -/
import Derived.Test.YtdhpmlgalddgfaaAbOps16
import Derived.Test.YtdhpmlgalddgfaaProg
namespace Go.Proofs.Ytdhpmlgalddgfaa.Ab
open Go Go.RowKit
set_option linter.unusedVariables false
set_option linter.unusedSimpArgs false
set_option maxRecDepth 100000
set_option maxHeartbeats 8000000
def enc5 (c : UInt8) : PV := .int .u8 (c.toNat : Int)
theorem ty3 : tyOf Try.prog 3 = some ⟨.int .i64, 1, 8, [.int .i64 0]⟩ := by kernel_rfl
theorem ty5 : tyOf Try.prog 5 = some ⟨.int .u8, 1, 1, [.int .u8 0]⟩ := by kernel_rfl
theorem ty28 : tyOf Try.prog 28 = some ⟨.slice 5, 1, 24, [.nil]⟩ := by kernel_rfl
theorem ty46 : tyOf Try.prog 46 = some ⟨.int .u64, 1, 8, [.int .u64 0]⟩ := by kernel_rfl
theorem ty78 : tyOf Try.prog 78 = some ⟨.int .u64, 1, 8, [.int .u64 0]⟩ := by kernel_rfl
def ints_Get_k3 (a0 : List UInt8) (v5_0 : Int) (v6_0 : Int) (x17 : UInt8) (v36_3 : Bool) : Option ((Int × Int) ⊕ (Int × Int × Bool)) :=
 if v36_3 = true then (some (Sum.inr (0, 0, false))) else (gd (0 ≤ v6_0) (Option.bind (a0[(Int.toNat v6_0)]?) (fun (x35 : UInt8) => if (decide ((x35.toNat : Int) < 128)) = true then (some (Sum.inr ((bits .or .u64 v5_0 (IntKind.u64.wrap ((IntKind.u64.wrap ((u8 (bits .andNot .u8 (x17.toNat : Int) 128)).toNat : Int)) * 2 ^ (min (Int.toNat (IntKind.i64.wrap (7 * v6_0))) (IntKind.bits .u64))))), (IntKind.i64.wrap (v6_0 + 1)), true))) else (some (Sum.inl ((bits .or .u64 v5_0 (IntKind.u64.wrap ((IntKind.u64.wrap ((u8 (bits .andNot .u8 (x17.toNat : Int) 128)).toNat : Int)) * 2 ^ (min (Int.toNat (IntKind.i64.wrap (7 * v6_0))) (IntKind.bits .u64))))), (IntKind.i64.wrap (v6_0 + 1))))))))
def ints_Get_k2 (a0 : List UInt8) (v5_0 : Int) (v6_0 : Int) (x17 : UInt8) : Option ((Int × Int) ⊕ (Int × Int × Bool)) :=
 gd (¬ (IntKind.i64.wrap (7 * v6_0)) < 0) (Option.bind (gd (0 ≤ v6_0) (Option.bind (a0[(Int.toNat v6_0)]?) (fun (x29 : UInt8) => if ((x29.toNat : Int) == 0) = true then (some (decide ((0 : Int) < v6_0))) else (some false)))) (fun (s : Bool) => ints_Get_k3 a0 v5_0 v6_0 x17 s))
def ints_Get_k1 (a0 : List UInt8) (v5_0 : Int) (v6_0 : Int) : Option ((Int × Int) ⊕ (Int × Int × Bool)) :=
 gd (0 ≤ v6_0) (Option.bind (a0[(Int.toNat v6_0)]?) (fun (x17 : UInt8) => Option.bind (if (v6_0 == 9) = true then (if (decide ((1 : Int) < (IntKind.u64.wrap ((u8 (bits .andNot .u8 (x17.toNat : Int) 128)).toNat : Int)))) = true then (some (Sum.inr (Sum.inr (0, 0, false)))) else (some (Sum.inl ()))) else (some (Sum.inl ()))) (Sum.elim (fun (s : Unit) => ints_Get_k2 a0 v5_0 v6_0 x17) some)))
def ints_Get_l0 (a0 : List UInt8) (v5_0 : Int) (v6_0 : Int) : Option ((Int × Int) ⊕ (Int × Int × Bool)) :=
 Option.bind (if (decide (v6_0 < (List.length a0 : Int))) = true then (if (decide (v6_0 < 10)) = true then (some (Sum.inl ())) else (some (Sum.inr (Sum.inr (0, 0, false))))) else (some (Sum.inr (Sum.inr (0, 0, false))))) (Sum.elim (fun (s : Unit) => ints_Get_k1 a0 v5_0 v6_0) some)
def ints_Get (a0 : List UInt8) : Option (Int × Int × Bool) :=
 loopN (fun (s : Int × Int) => ints_Get_l0 a0 s.1 s.2) Fu (0, 0)
theorem ints_Get_ok (a0 : List UInt8) {r : Int × Int × Bool} (h : ints_Get a0 = some r) : Ok Try.prog 68 [.sl 1 (List.map enc5 a0)] [] [] (.tup [.int .u64 r.1, .int .i64 r.2.1, .bool r.2.2]) [] [] := by
 unfold ints_Get at h
 refine ok_of_code Try.func68 rfl (by show (1 : Nat) ≤ _; decide) (Nat.le_refl _) fun X => ?_
 refine sr fun K1 hK1 => ?_
 refine pa 2 (.int .u64 0) ?_
 refine pa 3 (.int .i64 0) ?_
 refine pa 4 (.bool false) ?_
 refine en hK1 ?_
 refine sr fun K2 hK2 => ?_
 refine pa 5 (.int .u64 0) ?_
 refine en hK2 ?_
 refine aw_seq_k (fun K3 hK3 => ?_)
 refine sr fun K4 hK4 => ?_
 refine pa 6 (.int .i64 0) ?_
 refine en hK4 ?_
 refine aw_block ?_
 refine aw_loop' (fun m s => ∃ (v5_0 : Int), ∃ (v6_0 : Int), loopN (fun (s : Int × Int) => ints_Get_l0 a0 s.1 s.2) m (v5_0, v6_0) = some r ∧ s = lit [(0, .sl 1 (List.map enc5 a0)), (5, .int .u64 v5_0), (6, .int .i64 v6_0)] [] [] X) Fu
  ⟨_, reb_lit [(0, .sl 1 (List.map enc5 a0)), (5, .int .u64 (0)), (6, .int .i64 (0))] [] [] [] (ec (ec (ec envOk_nil))) objOk_nil (nodup_b rfl) (nodup_b rfl) rfl rfl, 0, 0, h, rfl⟩ ?_
 rintro m s ⟨v5_0, v6_0, h, rfl⟩
 obtain ⟨m0, q5, rfl, h, hq6⟩ := loop_some h
 replace h : ints_Get_l0 a0 v5_0 v6_0 = some q5 := h
 unfold ints_Get_l0 at h
 obtain ⟨q7, h, hk8⟩ := bnd_some h
 refine aw_cut (fun s => ints_Get_k1 a0 v5_0 v6_0 = some q5 ∧ s = lit [(0, .sl 1 (List.map enc5 a0)), (5, .int .u64 v5_0), (6, .int .i64 v6_0)] [] [] X) ?_ ?_
 ·skip
  refine sr fun K9 hK9 => ?_
  refine pm 8 (.int .i64 v6_0) ?_
  refine pm 9 (.sl 1 (List.map enc5 a0)) ?_
  refine pP 10 ((does_len_sl W_ ty28).castp (v' := .int .i64 (List.length a0 : Int)) (by exact len_map _)) ?_
  refine pb 11 (.bool (decide (v6_0 < (List.length a0 : Int)))) ?_
  refine pm 12 (.bool (decide (v6_0 < (List.length a0 : Int)))) ?_
  refine al_bool (c := (decide (v6_0 < (List.length a0 : Int)))) 12 rfl (fun c10 => ?_) (fun c10 => ?_)
  ·have h := ifT c10 h
   refine pm 13 (.int .i64 v6_0) ?_
   refine pb 14 (.bool (decide (v6_0 < 10))) ?_
   refine pk 15 (.bool (decide (v6_0 < 10))) ?_
   refine en hK9 ?_
   refine aw_bool (b := (decide (v6_0 < 10))) 15 rfl (fun c11 => ?_) (fun c11 => ?_)
   ·have h := ifT c11 h
    refine aw_cond_t D_ rfl ?_
    refine aw_skip ?_
    have h := leafL h hk8
    exact ⟨_, reb_lit [(0, .sl 1 (List.map enc5 a0)), (5, .int .u64 v5_0), (6, .int .i64 v6_0)] [] [] [] (ec (ec (ec envOk_nil))) objOk_nil (nodup_b rfl) (nodup_b rfl) rfl rfl, h, rfl⟩
   ·have h := ifF c11 h
    refine aw_cond_f D_ rfl ?_
    refine aw_exit ?_
    have h := leafR h hk8
    have h := leafR h hq6
    refine hK3 _ ?_
    refine sr fun K12 hK12 => ?_
    refine pa 2 (.int .u64 0) ?_
    refine pa 3 (.int .i64 0) ?_
    refine pa 4 (.bool false) ?_
    refine en hK12 ?_
    refine aw_ret ?_
    obtain rfl := Option.some.inj h
    exact ret_ok1 W_ W_ R_ (.inr rfl) rfl
  ·have h := ifF c10 h
   refine pS 13 ?_
   refine pS 14 ?_
   refine pk 15 (.bool false) ?_
   refine en hK9 ?_
   refine aw_cond_f D_ rfl ?_
   refine aw_exit ?_
   have h := leafR h hk8
   have h := leafR h hq6
   refine hK3 _ ?_
   refine sr fun K13 hK13 => ?_
   refine pa 2 (.int .u64 0) ?_
   refine pa 3 (.int .i64 0) ?_
   refine pa 4 (.bool false) ?_
   refine en hK13 ?_
   refine aw_ret ?_
   obtain rfl := Option.some.inj h
   exact ret_ok1 W_ W_ R_ (.inr rfl) rfl
 ·rintro s ⟨h, rfl⟩
  unfold ints_Get_k1 at h
  refine aw_seq_k (fun K14 hK14 => ?_)
  refine aw_block ?_
  refine sr fun K15 hK15 => ?_
  refine pm 18 (.sl 1 (List.map enc5 a0)) ?_
  refine pm 19 (.int .i64 v6_0) ?_
  obtain ⟨g16, h⟩ := gd_some h
  obtain ⟨x17, hx17, h⟩ := bnd_some h
  refine pP 20 (does_indexAddr_sl (el := .int .u8 (x17.toNat : Int)) W_ W_ ty28 ty5 g16 (by exact map_get hx17)) ?_
  refine pl 21 (.int .u8 (x17.toNat : Int)) ty5 ?_
  refine pP 22 ((does_bin (v := .int .u8 (bits .andNot .u8 (x17.toNat : Int) 128)) W_ W_ rfl).castp (v' := .int .u8 ((u8 (bits .andNot .u8 (x17.toNat : Int) 128)).toNat : Int)) (by exact congrArg _ (u8_eq (u8_bits _ _ _)))) ?_
  refine pP 23 (does_conv_int (v := .int .u64 (IntKind.u64.wrap ((u8 (bits .andNot .u8 (x17.toNat : Int) 128)).toNat : Int))) W_ (ty_some ty5) (ty_int ty46) rfl) ?_
  refine pa 7 (.int .u64 (IntKind.u64.wrap ((u8 (bits .andNot .u8 (x17.toNat : Int) 128)).toNat : Int))) ?_
  refine en hK15 ?_
  obtain ⟨q18, h, hk19⟩ := bnd_some h
  refine aw_cut (fun s => ints_Get_k2 a0 v5_0 v6_0 x17 = some q5 ∧ s = lit [(0, .sl 1 (List.map enc5 a0)), (5, .int .u64 v5_0), (6, .int .i64 v6_0), (7, .int .u64 (IntKind.u64.wrap ((u8 (bits .andNot .u8 (x17.toNat : Int) 128)).toNat : Int)))] [] [] X) ?_ ?_
  ·skip
   refine sr fun K20 hK20 => ?_
   refine pm 24 (.int .i64 v6_0) ?_
   refine pb 25 (.bool (v6_0 == 9)) ?_
   refine pm 26 (.bool (v6_0 == 9)) ?_
   refine al_bool (c := (v6_0 == 9)) 26 rfl (fun c21 => ?_) (fun c21 => ?_)
   ·have h := ifT c21 h
    refine pm 27 (.int .u64 (IntKind.u64.wrap ((u8 (bits .andNot .u8 (x17.toNat : Int) 128)).toNat : Int))) ?_
    refine pb 28 (.bool (decide ((1 : Int) < (IntKind.u64.wrap ((u8 (bits .andNot .u8 (x17.toNat : Int) 128)).toNat : Int))))) ?_
    refine pk 29 (.bool (decide ((1 : Int) < (IntKind.u64.wrap ((u8 (bits .andNot .u8 (x17.toNat : Int) 128)).toNat : Int))))) ?_
    refine en hK20 ?_
    refine aw_bool (b := (decide ((1 : Int) < (IntKind.u64.wrap ((u8 (bits .andNot .u8 (x17.toNat : Int) 128)).toNat : Int))))) 29 rfl (fun c22 => ?_) (fun c22 => ?_)
    ·have h := ifT c22 h
     refine aw_cond_t D_ rfl ?_
     refine sr fun K23 hK23 => ?_
     refine pa 2 (.int .u64 0) ?_
     refine pa 3 (.int .i64 0) ?_
     refine pa 4 (.bool false) ?_
     refine en hK23 ?_
     refine aw_ret ?_
     have h := leafR h hk19
     have h := leafR h hq6
     obtain rfl := Option.some.inj h
     exact ret_ok1 W_ W_ R_ (.inr rfl) rfl
    ·have h := ifF c22 h
     refine aw_cond_f D_ rfl ?_
     refine aw_skip ?_
     have h := leafL h hk19
     exact ⟨_, reb_lit [(0, .sl 1 (List.map enc5 a0)), (5, .int .u64 v5_0), (6, .int .i64 v6_0), (7, .int .u64 (IntKind.u64.wrap ((u8 (bits .andNot .u8 (x17.toNat : Int) 128)).toNat : Int)))] [] [] [] (ec (ec (ec (ec envOk_nil)))) objOk_nil (nodup_b rfl) (nodup_b rfl) rfl rfl, h, rfl⟩
   ·have h := ifF c21 h
    refine pS 27 ?_
    refine pS 28 ?_
    refine pk 29 (.bool false) ?_
    refine en hK20 ?_
    refine aw_cond_f D_ rfl ?_
    refine aw_skip ?_
    have h := leafL h hk19
    exact ⟨_, reb_lit [(0, .sl 1 (List.map enc5 a0)), (5, .int .u64 v5_0), (6, .int .i64 v6_0), (7, .int .u64 (IntKind.u64.wrap ((u8 (bits .andNot .u8 (x17.toNat : Int) 128)).toNat : Int)))] [] [] [] (ec (ec (ec (ec envOk_nil)))) objOk_nil (nodup_b rfl) (nodup_b rfl) rfl rfl, h, rfl⟩
  ·rintro s ⟨h, rfl⟩
   unfold ints_Get_k2 at h
   refine sr fun K24 hK24 => ?_
   refine pm 30 (.int .u64 v5_0) ?_
   refine pm 31 (.int .u64 (IntKind.u64.wrap ((u8 (bits .andNot .u8 (x17.toNat : Int) 128)).toNat : Int))) ?_
   refine pm 32 (.int .i64 v6_0) ?_
   refine pb 33 (.int .i64 (IntKind.i64.wrap (7 * v6_0))) ?_
   obtain ⟨g25, h⟩ := gd_some h
   refine pP 34 (does_bin (v := .int .u64 (IntKind.u64.wrap ((IntKind.u64.wrap ((u8 (bits .andNot .u8 (x17.toNat : Int) 128)).toNat : Int)) * 2 ^ (min (Int.toNat (IntKind.i64.wrap (7 * v6_0))) (IntKind.bits .u64))))) W_ W_ (shl_hv g25)) ?_
   refine pb 35 (.int .u64 (bits .or .u64 v5_0 (IntKind.u64.wrap ((IntKind.u64.wrap ((u8 (bits .andNot .u8 (x17.toNat : Int) 128)).toNat : Int)) * 2 ^ (min (Int.toNat (IntKind.i64.wrap (7 * v6_0))) (IntKind.bits .u64)))))) ?_
   refine pa 5 (.int .u64 (bits .or .u64 v5_0 (IntKind.u64.wrap ((IntKind.u64.wrap ((u8 (bits .andNot .u8 (x17.toNat : Int) 128)).toNat : Int)) * 2 ^ (min (Int.toNat (IntKind.i64.wrap (7 * v6_0))) (IntKind.bits .u64)))))) ?_
   refine en hK24 ?_
   refine aw_block ?_
   obtain ⟨q26, h, hk27⟩ := bnd_some h
   refine aw_cut (fun s => ∃ (v36_3 : Bool), ints_Get_k3 a0 v5_0 v6_0 x17 v36_3 = some q5 ∧ s = lit [(0, .sl 1 (List.map enc5 a0)), (5, .int .u64 (bits .or .u64 v5_0 (IntKind.u64.wrap ((IntKind.u64.wrap ((u8 (bits .andNot .u8 (x17.toNat : Int) 128)).toNat : Int)) * 2 ^ (min (Int.toNat (IntKind.i64.wrap (7 * v6_0))) (IntKind.bits .u64)))))), (6, .int .i64 v6_0), (36, .bool v36_3)] [] [] X) ?_ ?_
   ·skip
    refine aw_regL ?_
    refine pm 37 (.sl 1 (List.map enc5 a0)) ?_
    refine pm 38 (.int .i64 v6_0) ?_
    obtain ⟨g28, h⟩ := gd_some h
    obtain ⟨x29, hx29, h⟩ := bnd_some h
    refine pP 39 (does_indexAddr_sl (el := .int .u8 (x29.toNat : Int)) W_ W_ ty28 ty5 g28 (by exact map_get hx29)) ?_
    refine pl 40 (.int .u8 (x29.toNat : Int)) ty5 ?_
    refine pb 41 (.bool ((x29.toNat : Int) == 0)) ?_
    refine pm 42 (.bool ((x29.toNat : Int) == 0)) ?_
    refine al_bool (c := ((x29.toNat : Int) == 0)) 42 rfl (fun c30 => ?_) (fun c30 => ?_)
    ·have h := ifT c30 h
     refine pm 43 (.int .i64 v6_0) ?_
     refine pb 44 (.bool (decide ((0 : Int) < v6_0))) ?_
     refine pk 45 (.bool (decide ((0 : Int) < v6_0))) ?_
     refine pa 36 (.bool (decide ((0 : Int) < v6_0))) ?_
     refine al_nil ?_
     obtain rfl := Option.some.inj h
     have h := hk27
     exact ⟨_, reb_lit [(0, .sl 1 (List.map enc5 a0)), (5, .int .u64 (bits .or .u64 v5_0 (IntKind.u64.wrap ((IntKind.u64.wrap ((u8 (bits .andNot .u8 (x17.toNat : Int) 128)).toNat : Int)) * 2 ^ (min (Int.toNat (IntKind.i64.wrap (7 * v6_0))) (IntKind.bits .u64)))))), (6, .int .i64 v6_0), (36, .bool (decide ((0 : Int) < v6_0)))] [] [] [] (ec (ec (ec (ec envOk_nil)))) objOk_nil (nodup_b rfl) (nodup_b rfl) rfl rfl, (decide ((0 : Int) < v6_0)), h, rfl⟩
    ·have h := ifF c30 h
     refine pS 43 ?_
     refine pS 44 ?_
     refine pk 45 (.bool false) ?_
     refine pa 36 (.bool false) ?_
     refine al_nil ?_
     obtain rfl := Option.some.inj h
     have h := hk27
     exact ⟨_, reb_lit [(0, .sl 1 (List.map enc5 a0)), (5, .int .u64 (bits .or .u64 v5_0 (IntKind.u64.wrap ((IntKind.u64.wrap ((u8 (bits .andNot .u8 (x17.toNat : Int) 128)).toNat : Int)) * 2 ^ (min (Int.toNat (IntKind.i64.wrap (7 * v6_0))) (IntKind.bits .u64)))))), (6, .int .i64 v6_0), (36, .bool false)] [] [] [] (ec (ec (ec (ec envOk_nil)))) objOk_nil (nodup_b rfl) (nodup_b rfl) rfl rfl, false, h, rfl⟩
   ·rintro s ⟨v36_3, h, rfl⟩
    unfold ints_Get_k3 at h
    refine aw_bool (b := v36_3) 36 rfl (fun c31 => ?_) (fun c31 => ?_)
    ·have h := ifT c31 h
     refine aw_cond_t D_ rfl ?_
     refine sr fun K32 hK32 => ?_
     refine pa 2 (.int .u64 0) ?_
     refine pa 3 (.int .i64 0) ?_
     refine pa 4 (.bool false) ?_
     refine en hK32 ?_
     refine aw_ret ?_
     have h := leafR h hq6
     obtain rfl := Option.some.inj h
     exact ret_ok1 W_ W_ R_ (.inr rfl) rfl
    ·have h := ifF c31 h
     refine aw_cond_f D_ rfl ?_
     refine sr fun K33 hK33 => ?_
     refine pm 47 (.sl 1 (List.map enc5 a0)) ?_
     refine pm 48 (.int .i64 v6_0) ?_
     obtain ⟨g34, h⟩ := gd_some h
     obtain ⟨x35, hx35, h⟩ := bnd_some h
     refine pP 49 (does_indexAddr_sl (el := .int .u8 (x35.toNat : Int)) W_ W_ ty28 ty5 g34 (by exact map_get hx35)) ?_
     refine pl 50 (.int .u8 (x35.toNat : Int)) ty5 ?_
     refine pb 51 (.bool (decide ((x35.toNat : Int) < 128))) ?_
     refine pa 46 (.bool (decide ((x35.toNat : Int) < 128))) ?_
     refine en hK33 ?_
     refine aw_bool (b := (decide ((x35.toNat : Int) < 128))) 46 rfl (fun c36 => ?_) (fun c36 => ?_)
     ·have h := ifT c36 h
      refine aw_cond_t D_ rfl ?_
      refine sr fun K37 hK37 => ?_
      refine pm 52 (.int .u64 (bits .or .u64 v5_0 (IntKind.u64.wrap ((IntKind.u64.wrap ((u8 (bits .andNot .u8 (x17.toNat : Int) 128)).toNat : Int)) * 2 ^ (min (Int.toNat (IntKind.i64.wrap (7 * v6_0))) (IntKind.bits .u64)))))) ?_
      refine pm 53 (.int .i64 v6_0) ?_
      refine pb 54 (.int .i64 (IntKind.i64.wrap (v6_0 + 1))) ?_
      refine pa 2 (.int .u64 (bits .or .u64 v5_0 (IntKind.u64.wrap ((IntKind.u64.wrap ((u8 (bits .andNot .u8 (x17.toNat : Int) 128)).toNat : Int)) * 2 ^ (min (Int.toNat (IntKind.i64.wrap (7 * v6_0))) (IntKind.bits .u64)))))) ?_
      refine pa 3 (.int .i64 (IntKind.i64.wrap (v6_0 + 1))) ?_
      refine pa 4 (.bool true) ?_
      refine en hK37 ?_
      refine aw_ret ?_
      have h := leafR h hq6
      obtain rfl := Option.some.inj h
      exact ret_ok1 W_ W_ R_ (.inr rfl) rfl
     ·have h := ifF c36 h
      refine aw_cond_f D_ rfl ?_
      refine aw_skip ?_
      refine hK14 _ ?_
      refine aw_regL ?_
      refine pm 16 (.int .i64 v6_0) ?_
      refine pb 17 (.int .i64 (IntKind.i64.wrap (v6_0 + 1))) ?_
      refine pa 6 (.int .i64 (IntKind.i64.wrap (v6_0 + 1))) ?_
      refine al_nil ?_
      have h := leafL h hq6
      exact ⟨m0, Nat.lt_succ_self _, _, reb_lit [(0, .sl 1 (List.map enc5 a0)), (5, .int .u64 (bits .or .u64 v5_0 (IntKind.u64.wrap ((IntKind.u64.wrap ((u8 (bits .andNot .u8 (x17.toNat : Int) 128)).toNat : Int)) * 2 ^ (min (Int.toNat (IntKind.i64.wrap (7 * v6_0))) (IntKind.bits .u64)))))), (6, .int .i64 (IntKind.i64.wrap (v6_0 + 1)))] [] [] [] (ec (ec (ec envOk_nil))) objOk_nil (nodup_b rfl) (nodup_b rfl) rfl rfl, (bits .or .u64 v5_0 (IntKind.u64.wrap ((IntKind.u64.wrap ((u8 (bits .andNot .u8 (x17.toNat : Int) 128)).toNat : Int)) * 2 ^ (min (Int.toNat (IntKind.i64.wrap (7 * v6_0))) (IntKind.bits .u64))))), (IntKind.i64.wrap (v6_0 + 1)), h, rfl⟩
def gleaningref1_Put_l1 (v0_s_1 : List UInt8) (v1_1 : Int) : Option ((List UInt8 × Int) ⊕ (List UInt8 × Int)) :=
 if (decide ((127 : Int) < v1_1)) = true then (gd ((List.length (v0_s_1 ++ [(u8 (bits .or .u8 ((u8 (IntKind.u8.wrap (bits .and .u64 v1_1 127))).toNat : Int) 128))])) * 1 ≤ 140737488355328 ∧ (List.length (v0_s_1 ++ [(u8 (bits .or .u8 ((u8 (IntKind.u8.wrap (bits .and .u64 v1_1 127))).toNat : Int) 128))])) ≤ 140737488355328) (some (Sum.inl ((v0_s_1 ++ [(u8 (bits .or .u8 ((u8 (IntKind.u8.wrap (bits .and .u64 v1_1 127))).toNat : Int) 128))]), (Int.fdiv v1_1 (2 ^ (min (Int.toNat 7) (IntKind.bits .u64)))))))) else (some (Sum.inr (v0_s_1, v1_1)))
def gleaningref1_Put_k0 (v0_s_0 : List UInt8) (v1_0 : Int) : Option (List UInt8) :=
 gd ((List.length (v0_s_0 ++ [(u8 (IntKind.u8.wrap v1_0))])) * 1 ≤ 140737488355328 ∧ (List.length (v0_s_0 ++ [(u8 (IntKind.u8.wrap v1_0))])) ≤ 140737488355328) (some (v0_s_0 ++ [(u8 (IntKind.u8.wrap v1_0))]))
def gleaningref1_Put (a0 : List UInt8) (a1 : Int) : Option (List UInt8) :=
 Option.bind (loopN (fun (s : List UInt8 × Int) => gleaningref1_Put_l1 s.1 s.2) Fu (a0, a1)) (fun (s : List UInt8 × Int) => gleaningref1_Put_k0 s.1 s.2)
theorem gleaningref1_Put_ok (a0 : List UInt8) (a1 : Int) {r : List UInt8} (h : gleaningref1_Put a0 a1 = some r) : Ok Try.prog 25 [.own 1 0, .int .u64 a1] [] [(5, 1, List.map enc5 a0)] (.own 2 0) [] [(5, 1, List.map enc5 r)] := by
 unfold gleaningref1_Put at h
 refine ok_of_code Try.func25 rfl (by show (2 : Nat) ≤ _; decide) (Nat.le_refl _) fun X => ?_
 refine sr fun K1 hK1 => ?_
 refine pa 4 (.nil) ?_
 refine en hK1 ?_
 obtain ⟨q2, h, hk3⟩ := bnd_some h
 refine aw_cut (fun s => ∃ (v0_s_0 : List UInt8), ∃ (v1_0 : Int), gleaningref1_Put_k0 v0_s_0 v1_0 = some r ∧ s = lit [(0, .own 1 0), (1, .int .u64 v1_0)] [((1, 0), .arr 5 1 false (List.map enc5 v0_s_0))] [(1, 1)] X) ?_ ?_
 ·skip
  refine aw_block ?_
  refine aw_loop' (fun m s => ∃ (v0_s_1 : List UInt8), ∃ (v1_1 : Int), loopN (fun (s : List UInt8 × Int) => gleaningref1_Put_l1 s.1 s.2) m (v0_s_1, v1_1) = some q2 ∧ s = lit [(0, .own 1 0), (1, .int .u64 v1_1)] [((1, 0), .arr 5 1 false (List.map enc5 v0_s_1))] [(1, 1)] X) Fu
   ⟨_, reb_lit [(0, .own 1 0), (1, .int .u64 a1)] [(1, 0)] [((1, 0), .arr 5 1 false (List.map enc5 a0))] [(1, 1)] (ec (ec envOk_nil)) (objOk_cons W_ W_ R_ (by simp) objOk_nil) (nodup_b rfl) (nodup_b rfl) rfl rfl, a0, a1, h, rfl⟩ ?_
  rintro m s ⟨v0_s_1, v1_1, h, rfl⟩
  obtain ⟨m1, q4, rfl, h, hq5⟩ := loop_some h
  replace h : gleaningref1_Put_l1 v0_s_1 v1_1 = some q4 := h
  unfold gleaningref1_Put_l1 at h
  refine aw_seq_k (fun K6 hK6 => ?_)
  refine sr fun K7 hK7 => ?_
  refine pm 5 (.int .u64 v1_1) ?_
  refine pb 6 (.bool (decide ((127 : Int) < v1_1))) ?_
  refine en hK7 ?_
  refine aw_bool (b := (decide ((127 : Int) < v1_1))) 6 rfl (fun c8 => ?_) (fun c8 => ?_)
  ·have h := ifT c8 h
   refine aw_cond_t D_ rfl ?_
   refine aw_skip ?_
   refine hK6 _ ?_
   refine aw_block ?_
   refine sr fun K9 hK9 => ?_
   refine pm 7 (.own 1 0) ?_
   refine pm 8 (.int .u64 v1_1) ?_
   refine pb 9 (.int .u64 (bits .and .u64 v1_1 127)) ?_
   refine pP 10 ((does_conv_int (v := .int .u8 (IntKind.u8.wrap (bits .and .u64 v1_1 127))) W_ (ty_some ty46) (ty_int ty5) rfl).castp (v' := .int .u8 ((u8 (IntKind.u8.wrap (bits .and .u64 v1_1 127))).toNat : Int)) (by exact congrArg _ (u8_eq (u8_wrap _)))) ?_
   refine pP 11 ((does_bin (v := .int .u8 (bits .or .u8 ((u8 (IntKind.u8.wrap (bits .and .u64 v1_1 127))).toNat : Int) 128)) W_ W_ rfl).castp (v' := .int .u8 ((u8 (bits .or .u8 ((u8 (IntKind.u8.wrap (bits .and .u64 v1_1 127))).toNat : Int) 128)).toNat : Int)) (by exact congrArg _ (u8_eq (u8_bits _ _ _)))) ?_
   refine pD 12 (do_buildSlice (xs := List.map enc5 [(u8 (bits .or .u8 ((u8 (IntKind.u8.wrap (bits .and .u64 v1_1 127))).toNat : Int) 128))]) ty28 ty5 rfl rfl rfl rfl rfl rfl rfl rfl) ?_
   obtain ⟨g10, h⟩ := gd_some h
   refine pD 13 (do_append (v := List.map enc5 (v0_s_1 ++ [(u8 (bits .or .u8 ((u8 (IntKind.u8.wrap (bits .and .u64 v1_1 127))).toNat : Int) 128))])) W_ W_ ty28 ty5 rfl rfl W_ (by first | exact .inl rfl | exact .inr ⟨rfl, rfl⟩) W_ (by first | exact .inr rfl | exact .inl rfl) (map_app _ _) (fit_map g10)) ?_
   refine pa 0 (.own 13 0) ?_
   refine en hK9 ?_
   refine aw_regL ?_
   refine pm 14 (.int .u64 v1_1) ?_
   refine pb 15 (.int .u64 (Int.fdiv v1_1 (2 ^ (min (Int.toNat 7) (IntKind.bits .u64))))) ?_
   refine pa 1 (.int .u64 (Int.fdiv v1_1 (2 ^ (min (Int.toNat 7) (IntKind.bits .u64))))) ?_
   refine al_nil ?_
   have h := leafL h hq5
   exact ⟨m1, Nat.lt_succ_self _, _, reb_lit [(0, .own 1 0), (1, .int .u64 (Int.fdiv v1_1 (2 ^ (min (Int.toNat 7) (IntKind.bits .u64)))))] [(13, 0)] [((1, 0), .arr 5 1 false (List.map enc5 (v0_s_1 ++ [(u8 (bits .or .u8 ((u8 (IntKind.u8.wrap (bits .and .u64 v1_1 127))).toNat : Int) 128))])))] [(1, 1)] (ec (ec envOk_nil)) (objOk_cons W_ W_ R_ (by simp) objOk_nil) (nodup_b rfl) (nodup_b rfl) rfl rfl, (v0_s_1 ++ [(u8 (bits .or .u8 ((u8 (IntKind.u8.wrap (bits .and .u64 v1_1 127))).toNat : Int) 128))]), (Int.fdiv v1_1 (2 ^ (min (Int.toNat 7) (IntKind.bits .u64)))), h, rfl⟩
  ·have h := ifF c8 h
   refine aw_cond_f D_ rfl ?_
   refine aw_exit ?_
   have h := leafR h hq5
   obtain rfl := Option.some.inj h
   have h := hk3
   exact ⟨_, reb_lit [(0, .own 1 0), (1, .int .u64 v1_1)] [(1, 0)] [((1, 0), .arr 5 1 false (List.map enc5 v0_s_1))] [(1, 1)] (ec (ec envOk_nil)) (objOk_cons W_ W_ R_ (by simp) objOk_nil) (nodup_b rfl) (nodup_b rfl) rfl rfl, v0_s_1, v1_1, h, rfl⟩
 ·rintro s ⟨v0_s_0, v1_0, h, rfl⟩
  unfold gleaningref1_Put_k0 at h
  refine sr fun K11 hK11 => ?_
  refine pm 16 (.own 1 0) ?_
  refine pm 17 (.int .u64 v1_0) ?_
  refine pP 18 ((does_conv_int (v := .int .u8 (IntKind.u8.wrap v1_0)) W_ (ty_some ty46) (ty_int ty5) rfl).castp (v' := .int .u8 ((u8 (IntKind.u8.wrap v1_0)).toNat : Int)) (by exact congrArg _ (u8_eq (u8_wrap _)))) ?_
  refine pD 19 (do_buildSlice (xs := List.map enc5 [(u8 (IntKind.u8.wrap v1_0))]) ty28 ty5 rfl rfl rfl rfl rfl rfl rfl rfl) ?_
  obtain ⟨g12, h⟩ := gd_some h
  refine pD 20 (do_append (v := List.map enc5 (v0_s_0 ++ [(u8 (IntKind.u8.wrap v1_0))])) W_ W_ ty28 ty5 rfl rfl W_ (by first | exact .inl rfl | exact .inr ⟨rfl, rfl⟩) W_ (by first | exact .inr rfl | exact .inl rfl) (map_app _ _) (fit_map g12)) ?_
  refine pa 4 (.own 20 0) ?_
  refine en hK11 ?_
  refine aw_ret ?_
  obtain rfl := Option.some.inj h
  exact ret_okR [(20, 0)] W_ W_ R_ (rowsOk_cons W_ R_ trivial) (nodup_b rfl) (.inr rfl) rfl
def gleaningref1_Get_k3 (v5_0 : Int) (v6_0 : Int) (x25 : UInt8) : Option ((Int × Int) ⊕ (Int × Int × Bool)) :=
 some (Sum.inr ((bits .or .u64 v5_0 (IntKind.u64.wrap ((IntKind.u64.wrap ((u8 (bits .and .u8 (x25.toNat : Int) 127)).toNat : Int)) * 2 ^ (min (Int.toNat (IntKind.u64.wrap (IntKind.i64.wrap (7 * v6_0)))) (IntKind.bits .u64))))), (IntKind.i64.wrap (v6_0 + 1)), true))
def gleaningref1_Get_k2 (a0 : List UInt8) (v5_0 : Int) (v6_0 : Int) : Option ((Int × Int) ⊕ (Int × Int × Bool)) :=
 gd (0 ≤ v6_0) (Option.bind (a0[(Int.toNat v6_0)]?) (fun (x25 : UInt8) => gd (¬ (IntKind.u64.wrap (IntKind.i64.wrap (7 * v6_0))) < 0) (gd (0 ≤ v6_0) (Option.bind (a0[(Int.toNat v6_0)]?) (fun (x29 : UInt8) => if (decide ((x29.toNat : Int) < 128)) = true then (Option.bind (if (decide ((0 : Int) < v6_0)) = true then (gd (0 ≤ v6_0) (Option.bind (a0[(Int.toNat v6_0)]?) (fun (x36 : UInt8) => if ((x36.toNat : Int) == 0) = true then (some (Sum.inr (Sum.inr (0, 0, false)))) else (some (Sum.inl ()))))) else (some (Sum.inl ()))) (Sum.elim (fun (s : Unit) => gleaningref1_Get_k3 v5_0 v6_0 x25) some)) else (some (Sum.inl ((bits .or .u64 v5_0 (IntKind.u64.wrap ((IntKind.u64.wrap ((u8 (bits .and .u8 (x25.toNat : Int) 127)).toNat : Int)) * 2 ^ (min (Int.toNat (IntKind.u64.wrap (IntKind.i64.wrap (7 * v6_0)))) (IntKind.bits .u64))))), (IntKind.i64.wrap (v6_0 + 1))))))))))
def gleaningref1_Get_k1 (a0 : List UInt8) (v5_0 : Int) (v6_0 : Int) : Option ((Int × Int) ⊕ (Int × Int × Bool)) :=
 Option.bind (if (v6_0 == 9) = true then (gd (0 ≤ v6_0) (Option.bind (a0[(Int.toNat v6_0)]?) (fun (x20 : UInt8) => if (decide ((1 : Int) < (x20.toNat : Int))) = true then (some (Sum.inr (Sum.inr (0, 0, false)))) else (some (Sum.inl ()))))) else (some (Sum.inl ()))) (Sum.elim (fun (s : Unit) => gleaningref1_Get_k2 a0 v5_0 v6_0) some)
def gleaningref1_Get_l0 (a0 : List UInt8) (v5_0 : Int) (v6_0 : Int) : Option ((Int × Int) ⊕ (Int × Int × Bool)) :=
 Option.bind (if (decide (v6_0 < (List.length a0 : Int))) = true then (if (decide (v6_0 < 10)) = true then (some (Sum.inl ())) else (some (Sum.inr (Sum.inr (0, 0, false))))) else (some (Sum.inr (Sum.inr (0, 0, false))))) (Sum.elim (fun (s : Unit) => gleaningref1_Get_k1 a0 v5_0 v6_0) some)
def gleaningref1_Get (a0 : List UInt8) : Option (Int × Int × Bool) :=
 loopN (fun (s : Int × Int) => gleaningref1_Get_l0 a0 s.1 s.2) Fu (0, 0)
theorem gleaningref1_Get_ok (a0 : List UInt8) {r : Int × Int × Bool} (h : gleaningref1_Get a0 = some r) : Ok Try.prog 73 [.sl 1 (List.map enc5 a0)] [] [] (.tup [.int .u64 r.1, .int .i64 r.2.1, .bool r.2.2]) [] [] := by
 unfold gleaningref1_Get at h
 refine ok_of_code Try.func73 rfl (by show (1 : Nat) ≤ _; decide) (Nat.le_refl _) fun X => ?_
 refine sr fun K1 hK1 => ?_
 refine pa 2 (.int .u64 0) ?_
 refine pa 3 (.int .i64 0) ?_
 refine pa 4 (.bool false) ?_
 refine en hK1 ?_
 refine sr fun K2 hK2 => ?_
 refine pa 5 (.int .u64 0) ?_
 refine en hK2 ?_
 refine aw_seq_k (fun K3 hK3 => ?_)
 refine sr fun K4 hK4 => ?_
 refine pa 6 (.int .i64 0) ?_
 refine en hK4 ?_
 refine aw_block ?_
 refine aw_loop' (fun m s => ∃ (v5_0 : Int), ∃ (v6_0 : Int), loopN (fun (s : Int × Int) => gleaningref1_Get_l0 a0 s.1 s.2) m (v5_0, v6_0) = some r ∧ s = lit [(0, .sl 1 (List.map enc5 a0)), (5, .int .u64 v5_0), (6, .int .i64 v6_0)] [] [] X) Fu
  ⟨_, reb_lit [(0, .sl 1 (List.map enc5 a0)), (5, .int .u64 (0)), (6, .int .i64 (0))] [] [] [] (ec (ec (ec envOk_nil))) objOk_nil (nodup_b rfl) (nodup_b rfl) rfl rfl, 0, 0, h, rfl⟩ ?_
 rintro m s ⟨v5_0, v6_0, h, rfl⟩
 obtain ⟨m0, q5, rfl, h, hq6⟩ := loop_some h
 replace h : gleaningref1_Get_l0 a0 v5_0 v6_0 = some q5 := h
 unfold gleaningref1_Get_l0 at h
 obtain ⟨q7, h, hk8⟩ := bnd_some h
 refine aw_cut (fun s => gleaningref1_Get_k1 a0 v5_0 v6_0 = some q5 ∧ s = lit [(0, .sl 1 (List.map enc5 a0)), (5, .int .u64 v5_0), (6, .int .i64 v6_0)] [] [] X) ?_ ?_
 ·skip
  refine sr fun K9 hK9 => ?_
  refine pm 7 (.int .i64 v6_0) ?_
  refine pm 8 (.sl 1 (List.map enc5 a0)) ?_
  refine pP 9 ((does_len_sl W_ ty28).castp (v' := .int .i64 (List.length a0 : Int)) (by exact len_map _)) ?_
  refine pb 10 (.bool (decide (v6_0 < (List.length a0 : Int)))) ?_
  refine pm 11 (.bool (decide (v6_0 < (List.length a0 : Int)))) ?_
  refine al_bool (c := (decide (v6_0 < (List.length a0 : Int)))) 11 rfl (fun c10 => ?_) (fun c10 => ?_)
  ·have h := ifT c10 h
   refine pm 12 (.int .i64 v6_0) ?_
   refine pb 13 (.bool (decide (v6_0 < 10))) ?_
   refine pk 14 (.bool (decide (v6_0 < 10))) ?_
   refine en hK9 ?_
   refine aw_bool (b := (decide (v6_0 < 10))) 14 rfl (fun c11 => ?_) (fun c11 => ?_)
   ·have h := ifT c11 h
    refine aw_cond_t D_ rfl ?_
    refine aw_skip ?_
    have h := leafL h hk8
    exact ⟨_, reb_lit [(0, .sl 1 (List.map enc5 a0)), (5, .int .u64 v5_0), (6, .int .i64 v6_0)] [] [] [] (ec (ec (ec envOk_nil))) objOk_nil (nodup_b rfl) (nodup_b rfl) rfl rfl, h, rfl⟩
   ·have h := ifF c11 h
    refine aw_cond_f D_ rfl ?_
    refine aw_exit ?_
    have h := leafR h hk8
    have h := leafR h hq6
    refine hK3 _ ?_
    refine sr fun K12 hK12 => ?_
    refine pa 2 (.int .u64 0) ?_
    refine pa 3 (.int .i64 0) ?_
    refine pa 4 (.bool false) ?_
    refine en hK12 ?_
    refine aw_ret ?_
    obtain rfl := Option.some.inj h
    exact ret_ok1 W_ W_ R_ (.inr rfl) rfl
  ·have h := ifF c10 h
   refine pS 12 ?_
   refine pS 13 ?_
   refine pk 14 (.bool false) ?_
   refine en hK9 ?_
   refine aw_cond_f D_ rfl ?_
   refine aw_exit ?_
   have h := leafR h hk8
   have h := leafR h hq6
   refine hK3 _ ?_
   refine sr fun K13 hK13 => ?_
   refine pa 2 (.int .u64 0) ?_
   refine pa 3 (.int .i64 0) ?_
   refine pa 4 (.bool false) ?_
   refine en hK13 ?_
   refine aw_ret ?_
   obtain rfl := Option.some.inj h
   exact ret_ok1 W_ W_ R_ (.inr rfl) rfl
 ·rintro s ⟨h, rfl⟩
  unfold gleaningref1_Get_k1 at h
  refine aw_seq_k (fun K14 hK14 => ?_)
  refine aw_block ?_
  obtain ⟨q15, h, hk16⟩ := bnd_some h
  refine aw_cut (fun s => gleaningref1_Get_k2 a0 v5_0 v6_0 = some q5 ∧ s = lit [(0, .sl 1 (List.map enc5 a0)), (5, .int .u64 v5_0), (6, .int .i64 v6_0)] [] [] X) ?_ ?_
  ·skip
   refine sr fun K17 hK17 => ?_
   refine pm 17 (.int .i64 v6_0) ?_
   refine pb 18 (.bool (v6_0 == 9)) ?_
   refine pm 19 (.bool (v6_0 == 9)) ?_
   refine al_bool (c := (v6_0 == 9)) 19 rfl (fun c18 => ?_) (fun c18 => ?_)
   ·have h := ifT c18 h
    refine pm 20 (.sl 1 (List.map enc5 a0)) ?_
    refine pm 21 (.int .i64 v6_0) ?_
    obtain ⟨g19, h⟩ := gd_some h
    obtain ⟨x20, hx20, h⟩ := bnd_some h
    refine pP 22 (does_indexAddr_sl (el := .int .u8 (x20.toNat : Int)) W_ W_ ty28 ty5 g19 (by exact map_get hx20)) ?_
    refine pl 23 (.int .u8 (x20.toNat : Int)) ty5 ?_
    refine pb 24 (.bool (decide ((1 : Int) < (x20.toNat : Int)))) ?_
    refine pk 25 (.bool (decide ((1 : Int) < (x20.toNat : Int)))) ?_
    refine en hK17 ?_
    refine aw_bool (b := (decide ((1 : Int) < (x20.toNat : Int)))) 25 rfl (fun c21 => ?_) (fun c21 => ?_)
    ·have h := ifT c21 h
     refine aw_cond_t D_ rfl ?_
     refine sr fun K22 hK22 => ?_
     refine pa 2 (.int .u64 0) ?_
     refine pa 3 (.int .i64 0) ?_
     refine pa 4 (.bool false) ?_
     refine en hK22 ?_
     refine aw_ret ?_
     have h := leafR h hk16
     have h := leafR h hq6
     obtain rfl := Option.some.inj h
     exact ret_ok1 W_ W_ R_ (.inr rfl) rfl
    ·have h := ifF c21 h
     refine aw_cond_f D_ rfl ?_
     refine aw_skip ?_
     have h := leafL h hk16
     exact ⟨_, reb_lit [(0, .sl 1 (List.map enc5 a0)), (5, .int .u64 v5_0), (6, .int .i64 v6_0)] [] [] [] (ec (ec (ec envOk_nil))) objOk_nil (nodup_b rfl) (nodup_b rfl) rfl rfl, h, rfl⟩
   ·have h := ifF c18 h
    refine pS 20 ?_
    refine pS 21 ?_
    refine pS 22 ?_
    refine pS 23 ?_
    refine pS 24 ?_
    refine pk 25 (.bool false) ?_
    refine en hK17 ?_
    refine aw_cond_f D_ rfl ?_
    refine aw_skip ?_
    have h := leafL h hk16
    exact ⟨_, reb_lit [(0, .sl 1 (List.map enc5 a0)), (5, .int .u64 v5_0), (6, .int .i64 v6_0)] [] [] [] (ec (ec (ec envOk_nil))) objOk_nil (nodup_b rfl) (nodup_b rfl) rfl rfl, h, rfl⟩
  ·rintro s ⟨h, rfl⟩
   unfold gleaningref1_Get_k2 at h
   refine sr fun K23 hK23 => ?_
   refine pm 26 (.int .u64 v5_0) ?_
   refine pm 27 (.sl 1 (List.map enc5 a0)) ?_
   refine pm 28 (.int .i64 v6_0) ?_
   obtain ⟨g24, h⟩ := gd_some h
   obtain ⟨x25, hx25, h⟩ := bnd_some h
   refine pP 29 (does_indexAddr_sl (el := .int .u8 (x25.toNat : Int)) W_ W_ ty28 ty5 g24 (by exact map_get hx25)) ?_
   refine pl 30 (.int .u8 (x25.toNat : Int)) ty5 ?_
   refine pP 31 ((does_bin (v := .int .u8 (bits .and .u8 (x25.toNat : Int) 127)) W_ W_ rfl).castp (v' := .int .u8 ((u8 (bits .and .u8 (x25.toNat : Int) 127)).toNat : Int)) (by exact congrArg _ (u8_eq (u8_bits _ _ _)))) ?_
   refine pP 32 (does_conv_int (v := .int .u64 (IntKind.u64.wrap ((u8 (bits .and .u8 (x25.toNat : Int) 127)).toNat : Int))) W_ (ty_some ty5) (ty_int ty46) rfl) ?_
   refine pm 33 (.int .i64 v6_0) ?_
   refine pb 34 (.int .i64 (IntKind.i64.wrap (7 * v6_0))) ?_
   refine pP 35 (does_conv_int (v := .int .u64 (IntKind.u64.wrap (IntKind.i64.wrap (7 * v6_0)))) W_ (ty_some ty3) (ty_int ty78) rfl) ?_
   obtain ⟨g26, h⟩ := gd_some h
   refine pP 36 (does_bin (v := .int .u64 (IntKind.u64.wrap ((IntKind.u64.wrap ((u8 (bits .and .u8 (x25.toNat : Int) 127)).toNat : Int)) * 2 ^ (min (Int.toNat (IntKind.u64.wrap (IntKind.i64.wrap (7 * v6_0)))) (IntKind.bits .u64))))) W_ W_ (shl_hv g26)) ?_
   refine pb 37 (.int .u64 (bits .or .u64 v5_0 (IntKind.u64.wrap ((IntKind.u64.wrap ((u8 (bits .and .u8 (x25.toNat : Int) 127)).toNat : Int)) * 2 ^ (min (Int.toNat (IntKind.u64.wrap (IntKind.i64.wrap (7 * v6_0)))) (IntKind.bits .u64)))))) ?_
   refine pa 5 (.int .u64 (bits .or .u64 v5_0 (IntKind.u64.wrap ((IntKind.u64.wrap ((u8 (bits .and .u8 (x25.toNat : Int) 127)).toNat : Int)) * 2 ^ (min (Int.toNat (IntKind.u64.wrap (IntKind.i64.wrap (7 * v6_0)))) (IntKind.bits .u64)))))) ?_
   refine en hK23 ?_
   refine sr fun K27 hK27 => ?_
   refine pm 38 (.sl 1 (List.map enc5 a0)) ?_
   refine pm 39 (.int .i64 v6_0) ?_
   obtain ⟨g28, h⟩ := gd_some h
   obtain ⟨x29, hx29, h⟩ := bnd_some h
   refine pP 40 (does_indexAddr_sl (el := .int .u8 (x29.toNat : Int)) W_ W_ ty28 ty5 g28 (by exact map_get hx29)) ?_
   refine pl 41 (.int .u8 (x29.toNat : Int)) ty5 ?_
   refine pb 42 (.bool (decide ((x29.toNat : Int) < 128))) ?_
   refine en hK27 ?_
   refine aw_bool (b := (decide ((x29.toNat : Int) < 128))) 42 rfl (fun c30 => ?_) (fun c30 => ?_)
   ·have h := ifT c30 h
    refine aw_cond_t D_ rfl ?_
    obtain ⟨q31, h, hk32⟩ := bnd_some h
    refine aw_cut (fun s => gleaningref1_Get_k3 v5_0 v6_0 x25 = some q5 ∧ s = lit [(5, .int .u64 (bits .or .u64 v5_0 (IntKind.u64.wrap ((IntKind.u64.wrap ((u8 (bits .and .u8 (x25.toNat : Int) 127)).toNat : Int)) * 2 ^ (min (Int.toNat (IntKind.u64.wrap (IntKind.i64.wrap (7 * v6_0)))) (IntKind.bits .u64)))))), (6, .int .i64 v6_0)] [] [] X) ?_ ?_
    ·skip
     refine sr fun K33 hK33 => ?_
     refine pm 43 (.int .i64 v6_0) ?_
     refine pb 44 (.bool (decide ((0 : Int) < v6_0))) ?_
     refine pm 45 (.bool (decide ((0 : Int) < v6_0))) ?_
     refine al_bool (c := (decide ((0 : Int) < v6_0))) 45 rfl (fun c34 => ?_) (fun c34 => ?_)
     ·have h := ifT c34 h
      refine pm 46 (.sl 1 (List.map enc5 a0)) ?_
      refine pm 47 (.int .i64 v6_0) ?_
      obtain ⟨g35, h⟩ := gd_some h
      obtain ⟨x36, hx36, h⟩ := bnd_some h
      refine pP 48 (does_indexAddr_sl (el := .int .u8 (x36.toNat : Int)) W_ W_ ty28 ty5 g35 (by exact map_get hx36)) ?_
      refine pl 49 (.int .u8 (x36.toNat : Int)) ty5 ?_
      refine pb 50 (.bool ((x36.toNat : Int) == 0)) ?_
      refine pk 51 (.bool ((x36.toNat : Int) == 0)) ?_
      refine en hK33 ?_
      refine aw_bool (b := ((x36.toNat : Int) == 0)) 51 rfl (fun c37 => ?_) (fun c37 => ?_)
      ·have h := ifT c37 h
       refine aw_cond_t D_ rfl ?_
       refine sr fun K38 hK38 => ?_
       refine pa 2 (.int .u64 0) ?_
       refine pa 3 (.int .i64 0) ?_
       refine pa 4 (.bool false) ?_
       refine en hK38 ?_
       refine aw_ret ?_
       have h := leafR h hk32
       have h := leafR h hq6
       obtain rfl := Option.some.inj h
       exact ret_ok1 W_ W_ R_ (.inr rfl) rfl
      ·have h := ifF c37 h
       refine aw_cond_f D_ rfl ?_
       refine aw_skip ?_
       have h := leafL h hk32
       exact ⟨_, reb_lit [(5, .int .u64 (bits .or .u64 v5_0 (IntKind.u64.wrap ((IntKind.u64.wrap ((u8 (bits .and .u8 (x25.toNat : Int) 127)).toNat : Int)) * 2 ^ (min (Int.toNat (IntKind.u64.wrap (IntKind.i64.wrap (7 * v6_0)))) (IntKind.bits .u64)))))), (6, .int .i64 v6_0)] [] [] [] (ec (ec envOk_nil)) objOk_nil (nodup_b rfl) (nodup_b rfl) rfl rfl, h, rfl⟩
     ·have h := ifF c34 h
      refine pS 46 ?_
      refine pS 47 ?_
      refine pS 48 ?_
      refine pS 49 ?_
      refine pS 50 ?_
      refine pk 51 (.bool false) ?_
      refine en hK33 ?_
      refine aw_cond_f D_ rfl ?_
      refine aw_skip ?_
      have h := leafL h hk32
      exact ⟨_, reb_lit [(5, .int .u64 (bits .or .u64 v5_0 (IntKind.u64.wrap ((IntKind.u64.wrap ((u8 (bits .and .u8 (x25.toNat : Int) 127)).toNat : Int)) * 2 ^ (min (Int.toNat (IntKind.u64.wrap (IntKind.i64.wrap (7 * v6_0)))) (IntKind.bits .u64)))))), (6, .int .i64 v6_0)] [] [] [] (ec (ec envOk_nil)) objOk_nil (nodup_b rfl) (nodup_b rfl) rfl rfl, h, rfl⟩
    ·rintro s ⟨h, rfl⟩
     unfold gleaningref1_Get_k3 at h
     refine sr fun K39 hK39 => ?_
     refine pm 52 (.int .u64 (bits .or .u64 v5_0 (IntKind.u64.wrap ((IntKind.u64.wrap ((u8 (bits .and .u8 (x25.toNat : Int) 127)).toNat : Int)) * 2 ^ (min (Int.toNat (IntKind.u64.wrap (IntKind.i64.wrap (7 * v6_0)))) (IntKind.bits .u64)))))) ?_
     refine pm 53 (.int .i64 v6_0) ?_
     refine pb 54 (.int .i64 (IntKind.i64.wrap (v6_0 + 1))) ?_
     refine pa 2 (.int .u64 (bits .or .u64 v5_0 (IntKind.u64.wrap ((IntKind.u64.wrap ((u8 (bits .and .u8 (x25.toNat : Int) 127)).toNat : Int)) * 2 ^ (min (Int.toNat (IntKind.u64.wrap (IntKind.i64.wrap (7 * v6_0)))) (IntKind.bits .u64)))))) ?_
     refine pa 3 (.int .i64 (IntKind.i64.wrap (v6_0 + 1))) ?_
     refine pa 4 (.bool true) ?_
     refine en hK39 ?_
     refine aw_ret ?_
     have h := leafR h hq6
     obtain rfl := Option.some.inj h
     exact ret_ok1 W_ W_ R_ (.inr rfl) rfl
   ·have h := ifF c30 h
    refine aw_cond_f D_ rfl ?_
    refine aw_skip ?_
    refine hK14 _ ?_
    refine aw_regL ?_
    refine pm 15 (.int .i64 v6_0) ?_
    refine pb 16 (.int .i64 (IntKind.i64.wrap (v6_0 + 1))) ?_
    refine pa 6 (.int .i64 (IntKind.i64.wrap (v6_0 + 1))) ?_
    refine al_nil ?_
    have h := leafL h hq6
    exact ⟨m0, Nat.lt_succ_self _, _, reb_lit [(0, .sl 1 (List.map enc5 a0)), (5, .int .u64 (bits .or .u64 v5_0 (IntKind.u64.wrap ((IntKind.u64.wrap ((u8 (bits .and .u8 (x25.toNat : Int) 127)).toNat : Int)) * 2 ^ (min (Int.toNat (IntKind.u64.wrap (IntKind.i64.wrap (7 * v6_0)))) (IntKind.bits .u64)))))), (6, .int .i64 (IntKind.i64.wrap (v6_0 + 1)))] [] [] [] (ec (ec (ec envOk_nil))) objOk_nil (nodup_b rfl) (nodup_b rfl) rfl rfl, (bits .or .u64 v5_0 (IntKind.u64.wrap ((IntKind.u64.wrap ((u8 (bits .and .u8 (x25.toNat : Int) 127)).toNat : Int)) * 2 ^ (min (Int.toNat (IntKind.u64.wrap (IntKind.i64.wrap (7 * v6_0)))) (IntKind.bits .u64))))), (IntKind.i64.wrap (v6_0 + 1)), h, rfl⟩
end Go.Proofs.Ytdhpmlgalddgfaa.Ab
