/- Policies as bytes: the program. -/
import Derived.Test.YtdhpmlgalddgfaaXR0
import Derived.Test.YtdhpmlgalddgfaaProg
namespace Go.Proofs.Ytdhpmlgalddgfaa.Ab
open Go Go.RowKit
set_option linter.unusedVariables false
set_option linter.unusedSimpArgs false
set_option maxRecDepth 100000
set_option maxHeartbeats 8000000
theorem ent33 : Ent Try.prog 33 := ⟨_, Try.func33, by kernel_rfl, rfl⟩
theorem ent37 : Ent Try.prog 37 := ⟨_, Try.func37, by kernel_rfl, rfl⟩
theorem ent40 : Ent Try.prog 40 := ⟨_, Try.func40, by kernel_rfl, rfl⟩
theorem ent66 : Ent Try.prog 66 := ⟨_, Try.func66, by kernel_rfl, rfl⟩
def rule_put_b_l1 (K : Writer → Rule → Option Writer) (a1 : Rule) (vb0_s_0_s_1 : List UInt8) (v38_1 : Int) : Option ((List UInt8 × Int) ⊕ Writer) :=
 if (decide (v38_1 < (List.length a1.Kids : Int))) = true then (gd (0 ≤ v38_1) (Option.bind (a1.Kids[(Int.toNat v38_1)]?) (fun (x23 : Rule) => Option.bind (K (Writer.mk vb0_s_0_s_1) x23) (fun (x24 : Writer) => some (Sum.inl (x24.B, (IntKind.i64.wrap (v38_1 + 1)))))))) else (some (Sum.inr (Writer.mk vb0_s_0_s_1)))
def rule_put_b_k0 (K : Writer → Rule → Option Writer) (a0 : Writer) (a1 : Rule) (v25_0 : Bool) : Option Writer :=
 if v25_0 = true then (Option.bind (ints_Writer_Num (Writer.mk (a0.B ++ [(u8 (IntKind.u8.wrap a1.Kind))])) [(List.length a1.Kids : Int)]) (fun (x13 : Writer) => loopN (fun (s : List UInt8 × Int) => rule_put_b_l1 K a1 s.1 s.2) Fu (x13.B, 0))) else (if (a1.Kind == 6) = true then (Option.bind (ints_Writer_Text (Writer.mk (a0.B ++ [(u8 (IntKind.u8.wrap a1.Kind))])) [a1.Key, a1.Value]) (fun (x27 : Writer) => some x27)) else (if (a1.Kind == 5) = true then (some (Writer.mk (a0.B ++ [(u8 (IntKind.u8.wrap a1.Kind))]))) else (Option.bind (ints_Writer_Num (Writer.mk (a0.B ++ [(u8 (IntKind.u8.wrap a1.Kind))])) [a1.N]) (fun (x30 : Writer) => some x30))))
def rule_put_b (K : Writer → Rule → Option Writer) (a0 : Writer) (a1 : Rule) : Option Writer :=
 gd ((List.length (a0.B ++ [(u8 (IntKind.u8.wrap a1.Kind))])) * 1 ≤ 140737488355328 ∧ (List.length (a0.B ++ [(u8 (IntKind.u8.wrap a1.Kind))])) ≤ 140737488355328) (Option.bind (if (a1.Kind == 1) = true then (some true) else (if (a1.Kind == 2) = true then (some true) else (some (a1.Kind == 3)))) (fun (s : Bool) => rule_put_b_k0 K a0 a1 s))
theorem rule_put_b_ok (K : Writer → Rule → Option Writer) (hK : ∀ (a0 : Writer) (a1 : Rule) {r : Writer}, K a0 a1 = some r → Ok Try.prog 37 [.ptr 0 0 0, .agg [.int .i64 a1.Kind, .int .i64 a1.N, .str a1.Key, .str a1.Value, .sl 5 (List.map enc24 a1.Kids)]] [[.own 1 0]] [(5, 1, List.map enc5 a0.B)] (.tup []) [[.own 2 0]] [(5, 1, List.map enc5 r.B)]) (a0 : Writer) (a1 : Rule) {r : Writer} (h : rule_put_b K a0 a1 = some r) : Ok Try.prog 37 [.ptr 0 0 0, .agg [.int .i64 a1.Kind, .int .i64 a1.N, .str a1.Key, .str a1.Value, .sl 5 (List.map enc24 a1.Kids)]] [[.own 1 0]] [(5, 1, List.map enc5 a0.B)] (.tup []) [[.own 2 0]] [(5, 1, List.map enc5 r.B)] := by
 unfold rule_put_b at h
 refine ok_of_code Try.func37 rfl (by show (2 : Nat) ≤ _; decide) (Nat.le_refl _) fun X => ?_
 refine sr fun K1 hK1 => ?_
 refine pD 3 (do_box W_ rfl rfl) ?_
 refine en hK1 ?_
 refine aw_seq_k (fun K2 hK2 => ?_)
 refine aw_regd (by kernel_rfl) (by decide +kernel) ?_
 refine qP 6 (does_move (v := .ptr 0 0 0) R_) ?_
 refine qP 7 (does_move (v := .ptr 0 0 0) R_) ?_
 refine qP 8 (does_nilCheck (p := .ptr 0 0 0) W_ rfl) ?_
 refine qP 9 (does_fieldAddr (q := .ptr 0 0 0) W_ ty74 rfl ty28 D_ R_) ?_
 refine qR 10 (does_load (v := .own 1 0) W_ W_ ty28 R_) ?_
 refine qP 11 (does_fieldAddr (q := .ptr 3 0 0) W_ ty25 rfl ty3 D_ R_) ?_
 refine qR 12 (does_load (v := .int .i64 a1.Kind) W_ W_ ty3 R_) ?_
 refine qP 13 ((does_conv_int (v := .int .u8 (IntKind.u8.wrap a1.Kind)) W_ (ty_some ty3) (ty_int ty5) rfl).castp (v' := .int .u8 ((u8 (IntKind.u8.wrap a1.Kind)).toNat : Int)) (by exact congrArg _ (u8_eq (u8_wrap _)))) ?_
 refine qD 14 (do_buildSlice (xs := List.map enc5 [(u8 (IntKind.u8.wrap a1.Kind))]) ty28 ty5 rfl rfl rfl rfl rfl rfl rfl rfl) ?_
 obtain ⟨g3, h⟩ := gd_some h
 refine qD 15 (do_append (v := List.map enc5 (a0.B ++ [(u8 (IntKind.u8.wrap a1.Kind))])) W_ W_ ty28 ty5 rfl rfl W_ (by first | exact .inl rfl | exact .inr ⟨rfl, rfl⟩) W_ (by first | exact .inr rfl | exact .inl rfl) (map_app _ _) (fit_map g3)) ?_
 refine qP 16 (does_nilCheck (p := .ptr 0 0 0) W_ rfl) ?_
 refine qP 17 (does_fieldAddr (q := .ptr 0 0 0) W_ ty74 rfl ty28 D_ R_) ?_
 refine aoD none rfl rfl (do_store (cs' := [.own 15 0]) W_ W_ W_ ty28 rfl rfl rfl R_) D_ ?_
 refine ao_nil_d (by kernel_rfl) ?_
 refine hK2 _ ?_
 refine sr fun K4 hK4 => ?_
 refine pf 18 (.ptr 3 0 0) ty25 ty3 ?_
 refine pl 19 (.int .i64 a1.Kind) ty3 ?_
 refine en hK4 ?_
 refine aw_block ?_
 obtain ⟨q5, h, hk6⟩ := bnd_some h
 refine aw_cut (fun s => ∃ (v25_0 : Bool), rule_put_b_k0 K a0 a1 v25_0 = some r ∧ s = lit [(0, .ptr 0 0 0), (3, .ptr 3 0 0), (19, .int .i64 a1.Kind), (25, .bool v25_0)] [((0, 0), .box [.own 15 0]), ((15, 0), .arr 5 1 false (List.map enc5 (a0.B ++ [(u8 (IntKind.u8.wrap a1.Kind))]))), ((3, 0), .box [.int .i64 a1.Kind, .int .i64 a1.N, .str a1.Key, .str a1.Value, .sl 5 (List.map enc24 a1.Kids)])] [(0, 1), (3, 1), (15, 1)] X) ?_ ?_
 ·skip
  refine sr fun K7 hK7 => ?_
  refine pb 26 (.bool (a1.Kind == 1)) ?_
  refine pa 25 (.bool (a1.Kind == 1)) ?_
  refine en hK7 ?_
  refine aw_bool (b := (a1.Kind == 1)) 25 rfl (fun c8 => ?_) (fun c8 => ?_)
  ·have h := ifT c8 h
   refine aw_cond_t D_ rfl ?_
   refine aw_skip ?_
   obtain rfl := Option.some.inj h
   have h := hk6
   exact ⟨_, reb_lit [(0, .ptr 0 0 0), (3, .ptr 3 0 0), (19, .int .i64 a1.Kind), (25, .bool true)] [(0, 0), (15, 0), (3, 0)] [((0, 0), .box [.own 15 0]), ((15, 0), .arr 5 1 false (List.map enc5 (a0.B ++ [(u8 (IntKind.u8.wrap a1.Kind))]))), ((3, 0), .box [.int .i64 a1.Kind, .int .i64 a1.N, .str a1.Key, .str a1.Value, .sl 5 (List.map enc24 a1.Kids)])] [(0, 1), (3, 1), (15, 1)] (ec (ec (ec (ec envOk_nil)))) (objOk_cons W_ W_ R_ (by simp) (objOk_cons W_ W_ R_ (by simp) (objOk_cons W_ W_ R_ (by simp) objOk_nil))) (nodup_b rfl) (nodup_b rfl) rfl rfl, true, h, rfl⟩
  ·have h := ifF c8 h
   refine aw_cond_f D_ rfl ?_
   refine sr fun K9 hK9 => ?_
   refine pb 27 (.bool (a1.Kind == 2)) ?_
   refine pa 25 (.bool (a1.Kind == 2)) ?_
   refine en hK9 ?_
   refine aw_bool (b := (a1.Kind == 2)) 25 rfl (fun c10 => ?_) (fun c10 => ?_)
   ·have h := ifT c10 h
    refine aw_cond_t D_ rfl ?_
    refine aw_skip ?_
    obtain rfl := Option.some.inj h
    have h := hk6
    exact ⟨_, reb_lit [(0, .ptr 0 0 0), (3, .ptr 3 0 0), (19, .int .i64 a1.Kind), (25, .bool true)] [(0, 0), (15, 0), (3, 0)] [((0, 0), .box [.own 15 0]), ((15, 0), .arr 5 1 false (List.map enc5 (a0.B ++ [(u8 (IntKind.u8.wrap a1.Kind))]))), ((3, 0), .box [.int .i64 a1.Kind, .int .i64 a1.N, .str a1.Key, .str a1.Value, .sl 5 (List.map enc24 a1.Kids)])] [(0, 1), (3, 1), (15, 1)] (ec (ec (ec (ec envOk_nil)))) (objOk_cons W_ W_ R_ (by simp) (objOk_cons W_ W_ R_ (by simp) (objOk_cons W_ W_ R_ (by simp) objOk_nil))) (nodup_b rfl) (nodup_b rfl) rfl rfl, true, h, rfl⟩
   ·have h := ifF c10 h
    refine aw_cond_f D_ rfl ?_
    refine aw_regL ?_
    refine pb 28 (.bool (a1.Kind == 3)) ?_
    refine pa 25 (.bool (a1.Kind == 3)) ?_
    refine al_nil ?_
    obtain rfl := Option.some.inj h
    have h := hk6
    exact ⟨_, reb_lit [(0, .ptr 0 0 0), (3, .ptr 3 0 0), (19, .int .i64 a1.Kind), (25, .bool (a1.Kind == 3))] [(0, 0), (15, 0), (3, 0)] [((0, 0), .box [.own 15 0]), ((15, 0), .arr 5 1 false (List.map enc5 (a0.B ++ [(u8 (IntKind.u8.wrap a1.Kind))]))), ((3, 0), .box [.int .i64 a1.Kind, .int .i64 a1.N, .str a1.Key, .str a1.Value, .sl 5 (List.map enc24 a1.Kids)])] [(0, 1), (3, 1), (15, 1)] (ec (ec (ec (ec envOk_nil)))) (objOk_cons W_ W_ R_ (by simp) (objOk_cons W_ W_ R_ (by simp) (objOk_cons W_ W_ R_ (by simp) objOk_nil))) (nodup_b rfl) (nodup_b rfl) rfl rfl, (a1.Kind == 3), h, rfl⟩
 ·rintro s ⟨v25_0, h, rfl⟩
  unfold rule_put_b_k0 at h
  refine aw_bool (b := v25_0) 25 rfl (fun c11 => ?_) (fun c11 => ?_)
  ·have h := ifT c11 h
   refine aw_cond_t D_ rfl ?_
   refine sr fun K12 hK12 => ?_
   refine pm 29 (.ptr 0 0 0) ?_
   refine pf 30 (.ptr 3 0 4) ty25 ty23 ?_
   refine pl 31 (.sl 5 (List.map enc24 a1.Kids)) ty23 ?_
   refine pP 32 ((does_len_sl W_ ty23).castp (v' := .int .i64 (List.length a1.Kids : Int)) (by exact len_map _)) ?_
   refine pD 33 (do_buildSlice (xs := List.map enc2 [(List.length a1.Kids : Int)]) ty92 ty3 rfl rfl rfl rfl rfl rfl rfl rfl) ?_
   obtain ⟨x13, hx13, h⟩ := bnd_some h
   refine pD 34 (does_frz (d := 33) (n := 0) W_ (do_callG (bcs := [[.own 15 0]]) [(0, 0)] [(15, 0)] [(33, 0)] 34 false (ints_Writer_Num_ok (Writer.mk (a0.B ++ [(u8 (IntKind.u8.wrap a1.Kind))])) [(List.length a1.Kids : Int)] hx13) rfl ent34 ⟨R_, trivial⟩ (rowsOk_cons W_ R_ trivial) rfl rfl rfl rfl rfl rfl rfl rfl (.inl ⟨⟨_, _, _, rfl⟩, trivial⟩))) ?_
   refine en hK12 ?_
   refine sr fun K14 hK14 => ?_
   refine pf 35 (.ptr 3 0 4) ty25 ty23 ?_
   refine pl 36 (.sl 5 (List.map enc24 a1.Kids)) ty23 ?_
   refine pP 37 ((does_len_sl W_ ty23).castp (v' := .int .i64 (List.length a1.Kids : Int)) (by exact len_map _)) ?_
   refine pm 38 (.int .i64 0) ?_
   refine en hK14 ?_
   refine aw_block ?_
   refine aw_loop' (fun m s => ∃ (vb0_s_0_s_1 : List UInt8), ∃ (v38_1 : Int), loopN (fun (s : List UInt8 × Int) => rule_put_b_l1 K a1 s.1 s.2) m (vb0_s_0_s_1, v38_1) = some r ∧ s = lit [(0, .ptr 0 0 0), (36, .sl 5 (List.map enc24 a1.Kids)), (37, .int .i64 (List.length a1.Kids : Int)), (38, .int .i64 v38_1)] [((0, 0), .box [.own 34 0]), ((34, 0), .arr 5 1 false (List.map enc5 vb0_s_0_s_1))] [(0, 1), (34, 1)] X) Fu
    ⟨_, reb_lit [(0, .ptr 0 0 0), (36, .sl 5 (List.map enc24 a1.Kids)), (37, .int .i64 (List.length a1.Kids : Int)), (38, .int .i64 (0))] [(0, 0), (34, 0)] [((0, 0), .box [.own 34 0]), ((34, 0), .arr 5 1 false (List.map enc5 x13.B))] [(0, 1), (34, 1)] (ec (ec (ec (ec envOk_nil)))) (objOk_cons W_ W_ R_ (by simp) (objOk_cons W_ W_ R_ (by simp) objOk_nil)) (nodup_b rfl) (nodup_b rfl) rfl rfl, x13.B, 0, h, rfl⟩ ?_
   rintro m s ⟨vb0_s_0_s_1, v38_1, h, rfl⟩
   obtain ⟨m1, q15, rfl, h, hq16⟩ := loop_some h
   replace h : rule_put_b_l1 K a1 vb0_s_0_s_1 v38_1 = some q15 := h
   unfold rule_put_b_l1 at h
   refine sr fun K17 hK17 => ?_
   refine pb 39 (.bool (decide (v38_1 < (List.length a1.Kids : Int)))) ?_
   refine en hK17 ?_
   refine aw_seq_k (fun K18 hK18 => ?_)
   refine aw_bool (b := (decide (v38_1 < (List.length a1.Kids : Int)))) 39 rfl (fun c19 => ?_) (fun c19 => ?_)
   ·have h := ifT c19 h
    refine aw_cond_t D_ rfl ?_
    refine aw_skip ?_
    refine hK18 _ ?_
    refine aw_seq_k (fun K20 hK20 => ?_)
    refine aw_block ?_
    refine sr fun K21 hK21 => ?_
    obtain ⟨g22, h⟩ := gd_some h
    obtain ⟨x23, hx23, h⟩ := bnd_some h
    refine pP 40 (does_indexAddr_sl (el := .agg [.int .i64 x23.Kind, .int .i64 x23.N, .str x23.Key, .str x23.Value, .sl 5 (List.map enc24 x23.Kids)]) W_ W_ ty23 ty25 g22 (by exact map_getE (enc24_eq _) hx23)) ?_
    refine pl 41 (.agg [.int .i64 x23.Kind, .int .i64 x23.N, .str x23.Key, .str x23.Value, .sl 5 (List.map enc24 x23.Kids)]) ty25 ?_
    refine pD 5 (do_new ty25 rfl rfl) ?_
    refine alD none rfl rfl (do_store (cs' := [.int .i64 x23.Kind, .int .i64 x23.N, .str x23.Key, .str x23.Value, .sl 5 (List.map enc24 x23.Kids)]) W_ W_ W_ ty25 rfl rfl rfl R_) D_ ?_
    refine en hK21 ?_
    refine aw_regL ?_
    refine pm 42 (.ptr 0 0 0) ?_
    refine pl 43 (.agg [.int .i64 x23.Kind, .int .i64 x23.N, .str x23.Key, .str x23.Value, .sl 5 (List.map enc24 x23.Kids)]) ty25 ?_
    obtain ⟨x24, hx24, h⟩ := bnd_some h
    refine pD 44 (do_callG (bcs := [[.own 34 0]]) [(0, 0)] [(34, 0)] [] 44 false (hK (Writer.mk vb0_s_0_s_1) x23 hx24) rfl ent37 ⟨R_, trivial⟩ (rowsOk_cons W_ R_ trivial) rfl rfl rfl rfl rfl rfl rfl rfl (.inl trivial)) ?_
    refine en hK20 ?_
    refine aw_regL ?_
    refine pb 45 (.int .i64 (IntKind.i64.wrap (v38_1 + 1))) ?_
    refine pm 38 (.int .i64 (IntKind.i64.wrap (v38_1 + 1))) ?_
    refine al_nil ?_
    have h := leafL h hq16
    exact ⟨m1, Nat.lt_succ_self _, _, reb_lit [(0, .ptr 0 0 0), (36, .sl 5 (List.map enc24 a1.Kids)), (37, .int .i64 (List.length a1.Kids : Int)), (38, .int .i64 (IntKind.i64.wrap (v38_1 + 1)))] [(0, 0), (44, 0)] [((0, 0), .box [.own 34 0]), ((34, 0), .arr 5 1 false (List.map enc5 x24.B))] [(0, 1), (34, 1)] (ec (ec (ec (ec envOk_nil)))) (objOk_cons W_ W_ R_ (by simp) (objOk_cons W_ W_ R_ (by simp) objOk_nil)) (nodup_b rfl) (nodup_b rfl) rfl rfl, x24.B, (IntKind.i64.wrap (v38_1 + 1)), h, rfl⟩
   ·have h := ifF c19 h
    refine aw_cond_f D_ rfl ?_
    refine aw_exit ?_
    have h := leafR h hq16
    obtain rfl := Option.some.inj h
    exact ret_okB [(34, 0)] W_ W_ R_ (rowsOk_cons W_ R_ trivial) (boxesOk_cons W_ W_ R_ trivial) (nodup_b rfl) (.inl rfl) rfl
  ·have h := ifF c11 h
   refine aw_cond_f D_ rfl ?_
   refine sr fun K25 hK25 => ?_
   refine pb 47 (.bool (a1.Kind == 6)) ?_
   refine pa 46 (.bool (a1.Kind == 6)) ?_
   refine en hK25 ?_
   refine aw_bool (b := (a1.Kind == 6)) 46 rfl (fun c26 => ?_) (fun c26 => ?_)
   ·have h := ifT c26 h
    refine aw_cond_t D_ rfl ?_
    refine aw_regL ?_
    refine pm 48 (.ptr 0 0 0) ?_
    refine pf 49 (.ptr 3 0 2) ty25 ty9 ?_
    refine pl 50 (.str a1.Key) ty9 ?_
    refine pf 51 (.ptr 3 0 3) ty25 ty9 ?_
    refine pl 52 (.str a1.Value) ty9 ?_
    refine pD 53 (do_buildSlice (xs := List.map enc9 [a1.Key, a1.Value]) ty116 ty9 rfl rfl rfl rfl rfl rfl rfl rfl) ?_
    obtain ⟨x27, hx27, h⟩ := bnd_some h
    refine pD 54 (does_frz (d := 53) (n := 0) W_ (do_callG (bcs := [[.own 15 0]]) [(0, 0)] [(15, 0)] [(53, 0)] 54 false (ints_Writer_Text_ok (Writer.mk (a0.B ++ [(u8 (IntKind.u8.wrap a1.Kind))])) [a1.Key, a1.Value] hx27) rfl ent57 ⟨R_, trivial⟩ (rowsOk_cons W_ R_ trivial) rfl rfl rfl rfl rfl rfl rfl rfl (.inl ⟨⟨_, _, _, rfl⟩, trivial⟩))) ?_
    refine al_nil ?_
    obtain rfl := Option.some.inj h
    exact ret_okB [(54, 0)] W_ W_ R_ (rowsOk_cons W_ R_ trivial) (boxesOk_cons W_ W_ R_ trivial) (nodup_b rfl) (.inl rfl) rfl
   ·have h := ifF c26 h
    refine aw_cond_f D_ rfl ?_
    refine sr fun K28 hK28 => ?_
    refine pb 56 (.bool (a1.Kind == 5)) ?_
    refine pa 55 (.bool (a1.Kind == 5)) ?_
    refine en hK28 ?_
    refine aw_bool (b := (a1.Kind == 5)) 55 rfl (fun c29 => ?_) (fun c29 => ?_)
    ·have h := ifT c29 h
     refine aw_cond_t D_ rfl ?_
     refine aw_skip ?_
     obtain rfl := Option.some.inj h
     exact ret_okB [(15, 0)] W_ W_ R_ (rowsOk_cons W_ R_ trivial) (boxesOk_cons W_ W_ R_ trivial) (nodup_b rfl) (.inl rfl) rfl
    ·have h := ifF c29 h
     refine aw_cond_f D_ rfl ?_
     refine aw_regL ?_
     refine pm 20 (.ptr 0 0 0) ?_
     refine pf 21 (.ptr 3 0 1) ty25 ty3 ?_
     refine pl 22 (.int .i64 a1.N) ty3 ?_
     refine pD 23 (do_buildSlice (xs := List.map enc2 [a1.N]) ty92 ty3 rfl rfl rfl rfl rfl rfl rfl rfl) ?_
     obtain ⟨x30, hx30, h⟩ := bnd_some h
     refine pD 24 (does_frz (d := 23) (n := 0) W_ (do_callG (bcs := [[.own 15 0]]) [(0, 0)] [(15, 0)] [(23, 0)] 24 false (ints_Writer_Num_ok (Writer.mk (a0.B ++ [(u8 (IntKind.u8.wrap a1.Kind))])) [a1.N] hx30) rfl ent34 ⟨R_, trivial⟩ (rowsOk_cons W_ R_ trivial) rfl rfl rfl rfl rfl rfl rfl rfl (.inl ⟨⟨_, _, _, rfl⟩, trivial⟩))) ?_
     refine al_nil ?_
     obtain rfl := Option.some.inj h
     exact ret_okB [(24, 0)] W_ W_ R_ (rowsOk_cons W_ R_ trivial) (boxesOk_cons W_ W_ R_ trivial) (nodup_b rfl) (.inl rfl) rfl
def rule_putN : Nat → Writer → Rule → Option Writer
 | 0, _, _ => none
 | n + 1, a0, a1 => rule_put_b (rule_putN n) a0 a1
theorem rule_putN_ok : ∀ (n : Nat) (a0 : Writer) (a1 : Rule) {r : Writer}, rule_putN n a0 a1 = some r → Ok Try.prog 37 [.ptr 0 0 0, .agg [.int .i64 a1.Kind, .int .i64 a1.N, .str a1.Key, .str a1.Value, .sl 5 (List.map enc24 a1.Kids)]] [[.own 1 0]] [(5, 1, List.map enc5 a0.B)] (.tup []) [[.own 2 0]] [(5, 1, List.map enc5 r.B)]
 | 0, _, _, _, h => by simp [rule_putN] at h
 | n + 1, a0, a1, _, h => rule_put_b_ok (rule_putN n) (rule_putN_ok n) a0 a1 h
def rule_put (a0 : Writer) (a1 : Rule) : Option Writer := rule_putN Fu a0 a1
theorem rule_put_ok (a0 : Writer) (a1 : Rule) {r : Writer} (h : rule_put a0 a1 = some r) : Ok Try.prog 37 [.ptr 0 0 0, .agg [.int .i64 a1.Kind, .int .i64 a1.N, .str a1.Key, .str a1.Value, .sl 5 (List.map enc24 a1.Kids)]] [[.own 1 0]] [(5, 1, List.map enc5 a0.B)] (.tup []) [[.own 2 0]] [(5, 1, List.map enc5 r.B)] := rule_putN_ok Fu a0 a1 h
def rule_Bytes (a0 : Rule) : Option (List UInt8) :=
 Option.bind (rule_Right a0) (fun (x4 : Bool) => if (!x4) = true then (some []) else (Option.bind (rule_put (Writer.mk []) a0) (fun (x9 : Writer) => some x9.B)))
theorem rule_Bytes_ok (a0 : Rule) {r : List UInt8} (h : rule_Bytes a0 = some r) : Ok Try.prog 17 [.agg [.int .i64 a0.Kind, .int .i64 a0.N, .str a0.Key, .str a0.Value, .sl 5 (List.map enc24 a0.Kids)]] [] [] (.own 2 0) [] [(5, 1, List.map enc5 r)] := by
 unfold rule_Bytes at h
 refine ok_of_code Try.func17 rfl (by show (1 : Nat) ≤ _; decide) (Nat.le_refl _) fun X => ?_
 refine sr fun K1 hK1 => ?_
 refine pD 1 (do_box W_ rfl rfl) ?_
 refine pa 2 (.nil) ?_
 refine en hK1 ?_
 refine aw_seq_k (fun K2 hK2 => ?_)
 refine sr fun K3 hK3 => ?_
 refine pl 4 (.agg [.int .i64 a0.Kind, .int .i64 a0.N, .str a0.Key, .str a0.Value, .sl 5 (List.map enc24 a0.Kids)]) ty25 ?_
 obtain ⟨x4, hx4, h⟩ := bnd_some h
 refine pD 5 (do_call0 5 false (rule_Right_ok a0 hx4) rfl ent33 rfl rfl) ?_
 refine pP 6 (does_un (v := .bool (!x4)) W_ rfl) ?_
 refine en hK3 ?_
 refine aw_bool (b := (!x4)) 6 rfl (fun c5 => ?_) (fun c5 => ?_)
 ·have h := ifT c5 h
  refine aw_cond_t D_ rfl ?_
  refine sr fun K6 hK6 => ?_
  refine pa 2 (.nil) ?_
  refine en hK6 ?_
  refine aw_nilOwn 2 5 1 W_ D_ D_ ?_
  refine aw_ret ?_
  obtain rfl := Option.some.inj h
  exact ret_okR [(2, 0)] W_ W_ R_ (rowsOk_cons W_ R_ trivial) (nodup_b rfl) (.inr rfl) rfl
 ·have h := ifF c5 h
  refine aw_cond_f D_ rfl ?_
  refine aw_skip ?_
  refine hK2 _ ?_
  refine sr fun K7 hK7 => ?_
  refine pP 7 (do_build_struct (cs := [.nil]) ty74 rfl [⟨.slice 5, 1, 24, [.nil]⟩] (by simp only [List.map, ty28]) (by rfl) R_) ?_
  refine pD 8 (do_box W_ rfl rfl) ?_
  refine pa 3 (.ptr 8 0 0) ?_
  refine en hK7 ?_
  refine aw_seq_k (fun K8 hK8 => ?_)
  refine aw_nilOwnC 8 0 0 8 5 1 (cs := [.nil]) R_ rfl D_ ?_
  refine aw_regL ?_
  refine pm 9 (.ptr 8 0 0) ?_
  refine pl 10 (.agg [.int .i64 a0.Kind, .int .i64 a0.N, .str a0.Key, .str a0.Value, .sl 5 (List.map enc24 a0.Kids)]) ty25 ?_
  obtain ⟨x9, hx9, h⟩ := bnd_some h
  refine pD 11 (do_callG (bcs := [[.own 8 1]]) [(8, 0)] [(8, 1)] [] 11 false (rule_put_ok (Writer.mk []) a0 hx9) rfl ent37 ⟨R_, trivial⟩ (rowsOk_cons W_ R_ trivial) rfl rfl rfl rfl rfl rfl rfl rfl (.inl trivial)) ?_
  refine en hK8 ?_
  refine sr fun K10 hK10 => ?_
  refine pm 12 (.ptr 8 0 0) ?_
  refine pP 13 (does_nilCheck (p := .ptr 8 0 0) W_ rfl) ?_
  refine pf 14 (.ptr 8 0 0) ty74 ty28 ?_
  refine pl 15 (.own 11 0) ty28 ?_
  refine pa 2 (.own 11 0) ?_
  refine en hK10 ?_
  refine aw_ret ?_
  obtain rfl := Option.some.inj h
  exact ret_okR [(11, 0)] W_ W_ R_ (rowsOk_cons W_ R_ trivial) (nodup_b rfl) (.inr rfl) rfl
def rule_kids_l0 (K : Reader → Int → Option (Rule × Reader)) (a1 : Int) (x5 : Int × Reader) (vb0_s_0_0 : List UInt8) (vb0_s_1_0 : Bool) (v5_s_0 : List Rule) (v8_0 : Int) : Option ((List UInt8 × Bool × List Rule × Int) ⊕ (List Rule × Reader)) :=
 if (decide (v8_0 < x5.1)) = true then (if vb0_s_1_0 = true then (some (Sum.inr (v5_s_0, (Reader.mk vb0_s_0_0 vb0_s_1_0)))) else (Option.bind (K (Reader.mk vb0_s_0_0 vb0_s_1_0) (IntKind.i64.wrap (a1 - 1))) (fun (x16 : Rule × Reader) => gd ((List.length (v5_s_0 ++ [x16.1])) * 72 ≤ 140737488355328 ∧ (List.length (v5_s_0 ++ [x16.1])) ≤ 140737488355328) (some (Sum.inl (x16.2.B, x16.2.Bad, (v5_s_0 ++ [x16.1]), (IntKind.i64.wrap (v8_0 + 1)))))))) else (some (Sum.inr (v5_s_0, (Reader.mk vb0_s_0_0 vb0_s_1_0))))
def rule_kids (K : Reader → Int → Option (Rule × Reader)) (a0 : Reader) (a1 : Int) : Option (List Rule × Reader) :=
 Option.bind (ints_Reader_Num a0 20) (fun (x5 : Int × Reader) => loopN (fun (s : List UInt8 × Bool × List Rule × Int) => rule_kids_l0 K a1 x5 s.1 s.2.1 s.2.2.1 s.2.2.2) Fu (x5.2.B, x5.2.Bad, [], 0))
theorem rule_kids_ok (K : Reader → Int → Option (Rule × Reader)) (hK : ∀ (a0 : Reader) (a1 : Int) {r : Rule × Reader}, K a0 a1 = some r → Ok Try.prog 40 [.ptr 0 0 0, .int .i64 a1] [[.sl 1 (List.map enc5 a0.B), .bool a0.Bad]] [] (.agg [.int .i64 r.1.Kind, .int .i64 r.1.N, .str r.1.Key, .str r.1.Value, .sl 5 (List.map enc24 r.1.Kids)]) [[.sl 1 (List.map enc5 r.2.B), .bool r.2.Bad]] []) (a0 : Reader) (a1 : Int) {r : List Rule × Reader} (h : rule_kids K a0 a1 = some r) : Ok Try.prog 66 [.ptr 0 0 0, .int .i64 a1] [[.sl 1 (List.map enc5 a0.B), .bool a0.Bad]] [] (.own 2 0) [[.sl 1 (List.map enc5 r.2.B), .bool r.2.Bad]] [(25, 5, List.map enc24 r.1)] := by
 unfold rule_kids at h
 refine ok_of_code Try.func66 rfl (by show (2 : Nat) ≤ _; decide) (Nat.le_refl _) fun X => ?_
 refine sr fun K1 hK1 => ?_
 refine pa 4 (.nil) ?_
 refine en hK1 ?_
 refine sr fun K2 hK2 => ?_
 refine pa 5 (.nil) ?_
 refine en hK2 ?_
 refine aw_seq_k (fun K3 hK3 => ?_)
 refine sr fun K4 hK4 => ?_
 refine pm 6 (.ptr 0 0 0) ?_
 obtain ⟨x5, hx5, h⟩ := bnd_some h
 refine pD 7 (do_callG (bcs := [[.sl 1 (List.map enc5 a0.B), .bool a0.Bad]]) [(0, 0)] [] [] 7 false (ints_Reader_Num_ok a0 20 hx5) rfl ent20 ⟨R_, trivial⟩ trivial rfl rfl rfl rfl rfl rfl rfl rfl (.inl trivial)) ?_
 refine pm 8 (.int .i64 0) ?_
 refine en hK4 ?_
 refine aw_block ?_
 refine aw_nilOwn 5 25 5 W_ D_ D_ ?_
 refine aw_loop' (fun m s => ∃ (vb0_s_0_0 : List UInt8), ∃ (vb0_s_1_0 : Bool), ∃ (v5_s_0 : List Rule), ∃ (v8_0 : Int), loopN (fun (s : List UInt8 × Bool × List Rule × Int) => rule_kids_l0 K a1 x5 s.1 s.2.1 s.2.2.1 s.2.2.2) m (vb0_s_0_0, vb0_s_1_0, v5_s_0, v8_0) = some r ∧ s = lit [(0, .ptr 0 0 0), (1, .int .i64 a1), (5, .own 5 0), (7, .int .i64 x5.1), (8, .int .i64 v8_0)] [((0, 0), .box [.sl 1 (List.map enc5 vb0_s_0_0), .bool vb0_s_1_0]), ((5, 0), .arr 25 5 false (List.map enc24 v5_s_0))] [(0, 1), (5, 1)] X) Fu
  ⟨_, reb_lit [(0, .ptr 0 0 0), (1, .int .i64 a1), (5, .own 5 0), (7, .int .i64 x5.1), (8, .int .i64 (0))] [(0, 0), (5, 0)] [((0, 0), .box [.sl 1 (List.map enc5 x5.2.B), .bool x5.2.Bad]), ((5, 0), .arr 25 5 false (List.map enc24 []))] [(0, 1), (5, 1)] (ec (ec (ec (ec (ec envOk_nil))))) (objOk_cons W_ W_ R_ (by simp) (objOk_cons W_ W_ R_ (by simp) objOk_nil)) (nodup_b rfl) (nodup_b rfl) rfl rfl, x5.2.B, x5.2.Bad, [], 0, h, rfl⟩ ?_
 rintro m s ⟨vb0_s_0_0, vb0_s_1_0, v5_s_0, v8_0, h, rfl⟩
 obtain ⟨m0, q6, rfl, h, hq7⟩ := loop_some h
 replace h : rule_kids_l0 K a1 x5 vb0_s_0_0 vb0_s_1_0 v5_s_0 v8_0 = some q6 := h
 unfold rule_kids_l0 at h
 refine sr fun K8 hK8 => ?_
 refine pb 9 (.bool (decide (v8_0 < x5.1))) ?_
 refine en hK8 ?_
 refine aw_seq_k (fun K9 hK9 => ?_)
 refine aw_bool (b := (decide (v8_0 < x5.1))) 9 rfl (fun c10 => ?_) (fun c10 => ?_)
 ·have h := ifT c10 h
  refine aw_cond_t D_ rfl ?_
  refine aw_skip ?_
  refine hK9 _ ?_
  refine aw_seq_k (fun K11 hK11 => ?_)
  refine aw_block ?_
  refine aw_seq_k (fun K12 hK12 => ?_)
  refine sr fun K13 hK13 => ?_
  refine pm 10 (.ptr 0 0 0) ?_
  refine pP 11 (does_nilCheck (p := .ptr 0 0 0) W_ rfl) ?_
  refine pf 12 (.ptr 0 0 1) ty54 ty4 ?_
  refine pl 13 (.bool vb0_s_1_0) ty4 ?_
  refine en hK13 ?_
  refine aw_bool (b := vb0_s_1_0) 13 rfl (fun c14 => ?_) (fun c14 => ?_)
  ·have h := ifT c14 h
   refine aw_cond_t D_ rfl ?_
   refine aw_exit ?_
   have h := leafR h hq7
   refine hK3 _ ?_
   refine sr fun K15 hK15 => ?_
   refine pm 22 (.own 5 0) ?_
   refine pa 4 (.own 5 0) ?_
   refine en hK15 ?_
   refine aw_ret ?_
   obtain rfl := Option.some.inj h
   exact ret_okB [(5, 0)] W_ W_ R_ (rowsOk_cons W_ R_ trivial) (boxesOk_cons W_ W_ R_ trivial) (nodup_b rfl) (.inr rfl) rfl
  ·have h := ifF c14 h
   refine aw_cond_f D_ rfl ?_
   refine aw_skip ?_
   refine hK12 _ ?_
   refine aw_regL ?_
   refine pm 14 (.own 5 0) ?_
   refine pm 15 (.ptr 0 0 0) ?_
   refine pm 16 (.int .i64 a1) ?_
   refine pb 17 (.int .i64 (IntKind.i64.wrap (a1 - 1))) ?_
   obtain ⟨x16, hx16, h⟩ := bnd_some h
   refine pD 18 (do_callG (bcs := [[.sl 1 (List.map enc5 vb0_s_0_0), .bool vb0_s_1_0]]) [(0, 0)] [] [] 18 false (hK (Reader.mk vb0_s_0_0 vb0_s_1_0) (IntKind.i64.wrap (a1 - 1)) hx16) rfl ent40 ⟨R_, trivial⟩ trivial rfl rfl rfl rfl rfl rfl rfl rfl (.inl trivial)) ?_
   refine pD 19 (do_buildSliceE (f := enc24) (ls := [x16.1]) (xs := [.agg [.int .i64 x16.1.Kind, .int .i64 x16.1.N, .str x16.1.Key, .str x16.1.Value, .sl 5 (List.map enc24 x16.1.Kids)]]) (map_consE (enc24_eq _) rfl) ty23 ty25 rfl rfl rfl rfl rfl rfl rfl rfl) ?_
   obtain ⟨g17, h⟩ := gd_some h
   refine pD 20 (do_append (v := List.map enc24 (v5_s_0 ++ [x16.1])) W_ W_ ty23 ty25 rfl rfl W_ (by first | exact .inl rfl | exact .inr ⟨rfl, rfl⟩) W_ (by first | exact .inr rfl | exact .inl rfl) (map_app _ _) (fit_map g17)) ?_
   refine pa 5 (.own 20 0) ?_
   refine en hK11 ?_
   refine aw_regL ?_
   refine pb 21 (.int .i64 (IntKind.i64.wrap (v8_0 + 1))) ?_
   refine pm 8 (.int .i64 (IntKind.i64.wrap (v8_0 + 1))) ?_
   refine al_nil ?_
   have h := leafL h hq7
   exact ⟨m0, Nat.lt_succ_self _, _, reb_lit [(0, .ptr 0 0 0), (1, .int .i64 a1), (5, .own 5 0), (7, .int .i64 x5.1), (8, .int .i64 (IntKind.i64.wrap (v8_0 + 1)))] [(0, 0), (20, 0)] [((0, 0), .box [.sl 1 (List.map enc5 x16.2.B), .bool x16.2.Bad]), ((5, 0), .arr 25 5 false (List.map enc24 (v5_s_0 ++ [x16.1])))] [(0, 1), (5, 1)] (ec (ec (ec (ec (ec envOk_nil))))) (objOk_cons W_ W_ R_ (by simp) (objOk_cons W_ W_ R_ (by simp) objOk_nil)) (nodup_b rfl) (nodup_b rfl) rfl rfl, x16.2.B, x16.2.Bad, (v5_s_0 ++ [x16.1]), (IntKind.i64.wrap (v8_0 + 1)), h, rfl⟩
 ·have h := ifF c10 h
  refine aw_cond_f D_ rfl ?_
  refine aw_exit ?_
  have h := leafR h hq7
  refine hK3 _ ?_
  refine sr fun K18 hK18 => ?_
  refine pm 22 (.own 5 0) ?_
  refine pa 4 (.own 5 0) ?_
  refine en hK18 ?_
  refine aw_ret ?_
  obtain rfl := Option.some.inj h
  exact ret_okB [(5, 0)] W_ W_ R_ (rowsOk_cons W_ R_ trivial) (boxesOk_cons W_ W_ R_ trivial) (nodup_b rfl) (.inr rfl) rfl
def rule_get_b_k1 (x4 : List UInt8 × Reader) (v15_1 : Bool) : Option (Unit ⊕ (Rule × Reader)) :=
 if v15_1 = true then (some (Sum.inr ((Rule.mk 0 0 (strOf []) (strOf []) []), (Reader.mk x4.2.B true)))) else (some (Sum.inl ()))
def rule_get_b_k2 (K : Reader → Int → Option (Rule × Reader)) (a1 : Int) (x4 : List UInt8 × Reader) (x14 : UInt8) (v31_2 : Bool) : Option (Rule × Reader) :=
 if v31_2 = true then (Option.bind (rule_kids K x4.2 a1) (fun (x21 : List Rule × Reader) => some ((Rule.mk (IntKind.i64.wrap (x14.toNat : Int)) 0 (strOf []) (strOf []) x21.1), x21.2))) else (if ((IntKind.i64.wrap (x14.toNat : Int)) == 6) = true then (Option.bind (ints_Reader_Text x4.2) (fun (x26 : ByteArray × Reader) => Option.bind (ints_Reader_Text x26.2) (fun (x27 : ByteArray × Reader) => some ((Rule.mk (IntKind.i64.wrap (x14.toNat : Int)) 0 x26.1 x27.1 []), x27.2)))) else (if ((IntKind.i64.wrap (x14.toNat : Int)) == 5) = true then (some ((Rule.mk (IntKind.i64.wrap (x14.toNat : Int)) 0 (strOf []) (strOf []) []), x4.2)) else (Option.bind (rule_top (IntKind.i64.wrap (x14.toNat : Int))) (fun (x33 : Int) => if (decide (x33 < 0)) = true then (some ((Rule.mk (IntKind.i64.wrap (x14.toNat : Int)) 0 (strOf []) (strOf []) []), (Reader.mk x4.2.B true))) else (Option.bind (rule_top (IntKind.i64.wrap (x14.toNat : Int))) (fun (x36 : Int) => Option.bind (ints_Reader_Num x4.2 x36) (fun (x37 : Int × Reader) => some ((Rule.mk (IntKind.i64.wrap (x14.toNat : Int)) x37.1 (strOf []) (strOf []) []), x37.2))))))))
def rule_get_b_k0 (K : Reader → Int → Option (Rule × Reader)) (a1 : Int) (x4 : List UInt8 × Reader) : Option (Rule × Reader) :=
 Option.bind (x4.1[0]?) (fun (x14 : UInt8) => Option.bind (if ((IntKind.i64.wrap (x14.toNat : Int)) == 1) = true then (some true) else (if ((IntKind.i64.wrap (x14.toNat : Int)) == 2) = true then (some true) else (some ((IntKind.i64.wrap (x14.toNat : Int)) == 3)))) (fun (s : Bool) => rule_get_b_k2 K a1 x4 x14 s))
def rule_get_b (K : Reader → Int → Option (Rule × Reader)) (a0 : Reader) (a1 : Int) : Option (Rule × Reader) :=
 Option.bind (ints_Reader_Take a0 1) (fun (x4 : List UInt8 × Reader) => Option.bind (Option.bind (if (decide (a1 < 1)) = true then (some true) else (some ((List.length x4.1 : Int) == 0))) (fun (s : Bool) => rule_get_b_k1 x4 s)) (Sum.elim (fun (s : Unit) => rule_get_b_k0 K a1 x4) some))
theorem rule_get_b_ok (K : Reader → Int → Option (Rule × Reader)) (hK : ∀ (a0 : Reader) (a1 : Int) {r : Rule × Reader}, K a0 a1 = some r → Ok Try.prog 40 [.ptr 0 0 0, .int .i64 a1] [[.sl 1 (List.map enc5 a0.B), .bool a0.Bad]] [] (.agg [.int .i64 r.1.Kind, .int .i64 r.1.N, .str r.1.Key, .str r.1.Value, .sl 5 (List.map enc24 r.1.Kids)]) [[.sl 1 (List.map enc5 r.2.B), .bool r.2.Bad]] []) (a0 : Reader) (a1 : Int) {r : Rule × Reader} (h : rule_get_b K a0 a1 = some r) : Ok Try.prog 40 [.ptr 0 0 0, .int .i64 a1] [[.sl 1 (List.map enc5 a0.B), .bool a0.Bad]] [] (.agg [.int .i64 r.1.Kind, .int .i64 r.1.N, .str r.1.Key, .str r.1.Value, .sl 5 (List.map enc24 r.1.Kids)]) [[.sl 1 (List.map enc5 r.2.B), .bool r.2.Bad]] [] := by
 unfold rule_get_b at h
 refine ok_of_code Try.func40 rfl (by show (2 : Nat) ≤ _; decide) (Nat.le_refl _) fun X => ?_
 refine sr fun K1 hK1 => ?_
 refine pD 4 (do_new ty25 rfl rfl) ?_
 refine en hK1 ?_
 refine sr fun K2 hK2 => ?_
 refine pD 5 (do_new ty25 rfl rfl) ?_
 refine en hK2 ?_
 refine sr fun K3 hK3 => ?_
 refine pm 7 (.ptr 0 0 0) ?_
 obtain ⟨x4, hx4, h⟩ := bnd_some h
 refine pD 8 (do_callG (bcs := [[.sl 1 (List.map enc5 a0.B), .bool a0.Bad]]) [(0, 0)] [] [] 8 false (ints_Reader_Take_ok a0 1 hx4) rfl ent65 ⟨R_, trivial⟩ trivial rfl rfl rfl rfl rfl rfl rfl rfl (.inl trivial)) ?_
 refine pa 6 (.sl 1 (List.map enc5 x4.1)) ?_
 refine en hK3 ?_
 obtain ⟨q5, h, hk6⟩ := bnd_some h
 refine aw_cut (fun s => rule_get_b_k0 K a1 x4 = some r ∧ s = lit [(0, .ptr 0 0 0), (1, .int .i64 a1), (4, .ptr 4 0 0), (5, .ptr 5 0 0), (6, .sl 1 (List.map enc5 x4.1))] [((0, 0), .box [.sl 1 (List.map enc5 x4.2.B), .bool x4.2.Bad]), ((4, 0), .box [.int .i64 0, .int .i64 0, .str (strOf []), .str (strOf []), .nil]), ((5, 0), .box [.int .i64 0, .int .i64 0, .str (strOf []), .str (strOf []), .nil])] [(0, 1), (4, 1), (5, 1)] X) ?_ ?_
 ·skip
  obtain ⟨q7, h, hk8⟩ := bnd_some h
  refine aw_cut (fun s => ∃ (v15_1 : Bool), rule_get_b_k1 x4 v15_1 = some q5 ∧ s = lit [(0, .ptr 0 0 0), (1, .int .i64 a1), (4, .ptr 4 0 0), (5, .ptr 5 0 0), (6, .sl 1 (List.map enc5 x4.1)), (15, .bool v15_1)] [((0, 0), .box [.sl 1 (List.map enc5 x4.2.B), .bool x4.2.Bad]), ((4, 0), .box [.int .i64 0, .int .i64 0, .str (strOf []), .str (strOf []), .nil]), ((5, 0), .box [.int .i64 0, .int .i64 0, .str (strOf []), .str (strOf []), .nil])] [(0, 1), (4, 1), (5, 1)] X) ?_ ?_
  ·skip
   refine aw_regL ?_
   refine pm 9 (.int .i64 a1) ?_
   refine pb 10 (.bool (decide (a1 < 1))) ?_
   refine pm 11 (.bool (decide (a1 < 1))) ?_
   refine al_bool (c := (decide (a1 < 1))) 11 rfl (fun c9 => ?_) (fun c9 => ?_)
   ·have h := ifT c9 h
    refine pS 12 ?_
    refine pS 13 ?_
    refine pS 14 ?_
    refine pk 15 (.bool true) ?_
    refine al_nil ?_
    obtain rfl := Option.some.inj h
    have h := hk8
    exact ⟨_, reb_lit [(0, .ptr 0 0 0), (1, .int .i64 a1), (4, .ptr 4 0 0), (5, .ptr 5 0 0), (6, .sl 1 (List.map enc5 x4.1)), (15, .bool true)] [(0, 0), (4, 0), (5, 0)] [((0, 0), .box [.sl 1 (List.map enc5 x4.2.B), .bool x4.2.Bad]), ((4, 0), .box [.int .i64 0, .int .i64 0, .str (strOf []), .str (strOf []), .nil]), ((5, 0), .box [.int .i64 0, .int .i64 0, .str (strOf []), .str (strOf []), .nil])] [(0, 1), (4, 1), (5, 1)] (ec (ec (ec (ec (ec (ec envOk_nil)))))) (objOk_cons W_ W_ R_ (by simp) (objOk_cons W_ W_ R_ (by simp) (objOk_cons W_ W_ R_ (by simp) objOk_nil))) (nodup_b rfl) (nodup_b rfl) rfl rfl, true, h, rfl⟩
   ·have h := ifF c9 h
    refine pm 12 (.sl 1 (List.map enc5 x4.1)) ?_
    refine pP 13 ((does_len_sl W_ ty28).castp (v' := .int .i64 (List.length x4.1 : Int)) (by exact len_map _)) ?_
    refine pb 14 (.bool ((List.length x4.1 : Int) == 0)) ?_
    refine pk 15 (.bool ((List.length x4.1 : Int) == 0)) ?_
    refine al_nil ?_
    obtain rfl := Option.some.inj h
    have h := hk8
    exact ⟨_, reb_lit [(0, .ptr 0 0 0), (1, .int .i64 a1), (4, .ptr 4 0 0), (5, .ptr 5 0 0), (6, .sl 1 (List.map enc5 x4.1)), (15, .bool ((List.length x4.1 : Int) == 0))] [(0, 0), (4, 0), (5, 0)] [((0, 0), .box [.sl 1 (List.map enc5 x4.2.B), .bool x4.2.Bad]), ((4, 0), .box [.int .i64 0, .int .i64 0, .str (strOf []), .str (strOf []), .nil]), ((5, 0), .box [.int .i64 0, .int .i64 0, .str (strOf []), .str (strOf []), .nil])] [(0, 1), (4, 1), (5, 1)] (ec (ec (ec (ec (ec (ec envOk_nil)))))) (objOk_cons W_ W_ R_ (by simp) (objOk_cons W_ W_ R_ (by simp) (objOk_cons W_ W_ R_ (by simp) objOk_nil))) (nodup_b rfl) (nodup_b rfl) rfl rfl, ((List.length x4.1 : Int) == 0), h, rfl⟩
  ·rintro s ⟨v15_1, h, rfl⟩
   unfold rule_get_b_k1 at h
   refine aw_bool (b := v15_1) 15 rfl (fun c10 => ?_) (fun c10 => ?_)
   ·have h := ifT c10 h
    refine aw_cond_t D_ rfl ?_
    refine sr fun K11 hK11 => ?_
    refine pm 16 (.ptr 0 0 0) ?_
    refine pP 17 (does_nilCheck (p := .ptr 0 0 0) W_ rfl) ?_
    refine pf 18 (.ptr 0 0 1) ty54 ty4 ?_
    refine alD none rfl rfl (do_store (cs' := [.sl 1 (List.map enc5 x4.2.B), .bool true]) W_ W_ W_ ty4 rfl rfl rfl R_) D_ ?_
    refine en hK11 ?_
    refine sr fun K12 hK12 => ?_
    refine pl 19 (.agg [.int .i64 0, .int .i64 0, .str (strOf []), .str (strOf []), .nil]) ty25 ?_
    refine alD none rfl rfl (do_store (cs' := [.int .i64 0, .int .i64 0, .str (strOf []), .str (strOf []), .nil]) W_ W_ W_ ty25 rfl rfl rfl R_) D_ ?_
    refine en hK12 ?_
    refine aw_reb (reb_w (tl' := [(4, .ptr 4 0 0)]) (ol' := [((0, 0), .box [.sl 1 (List.map enc5 x4.2.B), .bool true]), ((4, 0), .box [.int .i64 0, .int .i64 0, .str (strOf []), .str (strOf []), .sl 5 (List.map enc24 [])])]) (reb_lit [(4, .ptr 4 0 0)] [(0, 0), (4, 0)] [((0, 0), .box [.sl 1 (List.map enc5 x4.2.B), .bool true]), ((4, 0), .box [.int .i64 0, .int .i64 0, .str (strOf []), .str (strOf []), .nil])] [(0, 1), (4, 1)] (ec envOk_nil) (objOk_cons W_ W_ R_ (by simp) (objOk_cons W_ W_ R_ (by simp) objOk_nil)) (nodup_b rfl) (nodup_b rfl) rfl rfl) ⟨rfl, le_refl _, trivial⟩ ⟨rfl, .rfl _, rfl, (.box ⟨le_refl _, le_refl _, le_refl _, le_refl _, le_nil _, trivial⟩), trivial⟩) ?_
    refine aw_ret ?_
    have h := leafR h hk6
    obtain rfl := Option.some.inj h
    exact ret_okB [] W_ W_ R_ trivial (boxesOk_cons W_ W_ R_ trivial) (nodup_b rfl) (.inr rfl) rfl
   ·have h := ifF c10 h
    refine aw_cond_f D_ rfl ?_
    refine aw_skip ?_
    have h := leafL h hk6
    exact ⟨_, reb_lit [(0, .ptr 0 0 0), (1, .int .i64 a1), (4, .ptr 4 0 0), (5, .ptr 5 0 0), (6, .sl 1 (List.map enc5 x4.1))] [(0, 0), (4, 0), (5, 0)] [((0, 0), .box [.sl 1 (List.map enc5 x4.2.B), .bool x4.2.Bad]), ((4, 0), .box [.int .i64 0, .int .i64 0, .str (strOf []), .str (strOf []), .nil]), ((5, 0), .box [.int .i64 0, .int .i64 0, .str (strOf []), .str (strOf []), .nil])] [(0, 1), (4, 1), (5, 1)] (ec (ec (ec (ec (ec envOk_nil))))) (objOk_cons W_ W_ R_ (by simp) (objOk_cons W_ W_ R_ (by simp) (objOk_cons W_ W_ R_ (by simp) objOk_nil))) (nodup_b rfl) (nodup_b rfl) rfl rfl, h, rfl⟩
 ·rintro s ⟨h, rfl⟩
  unfold rule_get_b_k0 at h
  refine sr fun K13 hK13 => ?_
  refine pm 20 (.sl 1 (List.map enc5 x4.1)) ?_
  obtain ⟨x14, hx14, h⟩ := bnd_some h
  refine pP 21 (does_indexAddr_sl (el := .int .u8 (x14.toNat : Int)) W_ W_ ty28 ty5 D_ (by exact map_get hx14)) ?_
  refine pl 22 (.int .u8 (x14.toNat : Int)) ty5 ?_
  refine pP 23 (does_conv_int (v := .int .i64 (IntKind.i64.wrap (x14.toNat : Int))) W_ (ty_some ty5) (ty_int ty3) rfl) ?_
  refine pf 24 (.ptr 5 0 0) ty25 ty3 ?_
  refine alD none rfl rfl (do_store (cs' := [.int .i64 (IntKind.i64.wrap (x14.toNat : Int)), .int .i64 0, .str (strOf []), .str (strOf []), .nil]) W_ W_ W_ ty3 rfl rfl rfl R_) D_ ?_
  refine en hK13 ?_
  refine aw_seq_k (fun K15 hK15 => ?_)
  refine aw_block ?_
  obtain ⟨q16, h, hk17⟩ := bnd_some h
  refine aw_cut (fun s => ∃ (v31_2 : Bool), rule_get_b_k2 K a1 x4 x14 v31_2 = some r ∧ s = lit [(0, .ptr 0 0 0), (1, .int .i64 a1), (4, .ptr 4 0 0), (5, .ptr 5 0 0), (31, .bool v31_2)] [((0, 0), .box [.sl 1 (List.map enc5 x4.2.B), .bool x4.2.Bad]), ((4, 0), .box [.int .i64 0, .int .i64 0, .str (strOf []), .str (strOf []), .nil]), ((5, 0), .box [.int .i64 (IntKind.i64.wrap (x14.toNat : Int)), .int .i64 0, .str (strOf []), .str (strOf []), .nil])] [(0, 1), (4, 1), (5, 1)] X) ?_ ?_
  ·skip
   refine aw_regL ?_
   refine pf 32 (.ptr 5 0 0) ty25 ty3 ?_
   refine pl 33 (.int .i64 (IntKind.i64.wrap (x14.toNat : Int))) ty3 ?_
   refine pb 34 (.bool ((IntKind.i64.wrap (x14.toNat : Int)) == 1)) ?_
   refine pm 35 (.bool ((IntKind.i64.wrap (x14.toNat : Int)) == 1)) ?_
   refine al_bool (c := ((IntKind.i64.wrap (x14.toNat : Int)) == 1)) 35 rfl (fun c18 => ?_) (fun c18 => ?_)
   ·have h := ifT c18 h
    refine pS 36 ?_
    refine pS 37 ?_
    refine pS 38 ?_
    refine pk 39 (.bool true) ?_
    refine pm 40 (.bool true) ?_
    refine pS 41 ?_
    refine pS 42 ?_
    refine pS 43 ?_
    refine pk 44 (.bool true) ?_
    refine pa 31 (.bool true) ?_
    refine al_nil ?_
    obtain rfl := Option.some.inj h
    have h := hk17
    exact ⟨_, reb_lit [(0, .ptr 0 0 0), (1, .int .i64 a1), (4, .ptr 4 0 0), (5, .ptr 5 0 0), (31, .bool true)] [(0, 0), (4, 0), (5, 0)] [((0, 0), .box [.sl 1 (List.map enc5 x4.2.B), .bool x4.2.Bad]), ((4, 0), .box [.int .i64 0, .int .i64 0, .str (strOf []), .str (strOf []), .nil]), ((5, 0), .box [.int .i64 (IntKind.i64.wrap (x14.toNat : Int)), .int .i64 0, .str (strOf []), .str (strOf []), .nil])] [(0, 1), (4, 1), (5, 1)] (ec (ec (ec (ec (ec envOk_nil))))) (objOk_cons W_ W_ R_ (by simp) (objOk_cons W_ W_ R_ (by simp) (objOk_cons W_ W_ R_ (by simp) objOk_nil))) (nodup_b rfl) (nodup_b rfl) rfl rfl, true, h, rfl⟩
   ·have h := ifF c18 h
    refine pf 36 (.ptr 5 0 0) ty25 ty3 ?_
    refine pl 37 (.int .i64 (IntKind.i64.wrap (x14.toNat : Int))) ty3 ?_
    refine pb 38 (.bool ((IntKind.i64.wrap (x14.toNat : Int)) == 2)) ?_
    refine pk 39 (.bool ((IntKind.i64.wrap (x14.toNat : Int)) == 2)) ?_
    refine pm 40 (.bool ((IntKind.i64.wrap (x14.toNat : Int)) == 2)) ?_
    refine al_bool (c := ((IntKind.i64.wrap (x14.toNat : Int)) == 2)) 40 rfl (fun c19 => ?_) (fun c19 => ?_)
    ·have h := ifT c19 h
     refine pS 41 ?_
     refine pS 42 ?_
     refine pS 43 ?_
     refine pk 44 (.bool true) ?_
     refine pa 31 (.bool true) ?_
     refine al_nil ?_
     obtain rfl := Option.some.inj h
     have h := hk17
     exact ⟨_, reb_lit [(0, .ptr 0 0 0), (1, .int .i64 a1), (4, .ptr 4 0 0), (5, .ptr 5 0 0), (31, .bool true)] [(0, 0), (4, 0), (5, 0)] [((0, 0), .box [.sl 1 (List.map enc5 x4.2.B), .bool x4.2.Bad]), ((4, 0), .box [.int .i64 0, .int .i64 0, .str (strOf []), .str (strOf []), .nil]), ((5, 0), .box [.int .i64 (IntKind.i64.wrap (x14.toNat : Int)), .int .i64 0, .str (strOf []), .str (strOf []), .nil])] [(0, 1), (4, 1), (5, 1)] (ec (ec (ec (ec (ec envOk_nil))))) (objOk_cons W_ W_ R_ (by simp) (objOk_cons W_ W_ R_ (by simp) (objOk_cons W_ W_ R_ (by simp) objOk_nil))) (nodup_b rfl) (nodup_b rfl) rfl rfl, true, h, rfl⟩
    ·have h := ifF c19 h
     refine pf 41 (.ptr 5 0 0) ty25 ty3 ?_
     refine pl 42 (.int .i64 (IntKind.i64.wrap (x14.toNat : Int))) ty3 ?_
     refine pb 43 (.bool ((IntKind.i64.wrap (x14.toNat : Int)) == 3)) ?_
     refine pk 44 (.bool ((IntKind.i64.wrap (x14.toNat : Int)) == 3)) ?_
     refine pa 31 (.bool ((IntKind.i64.wrap (x14.toNat : Int)) == 3)) ?_
     refine al_nil ?_
     obtain rfl := Option.some.inj h
     have h := hk17
     exact ⟨_, reb_lit [(0, .ptr 0 0 0), (1, .int .i64 a1), (4, .ptr 4 0 0), (5, .ptr 5 0 0), (31, .bool ((IntKind.i64.wrap (x14.toNat : Int)) == 3))] [(0, 0), (4, 0), (5, 0)] [((0, 0), .box [.sl 1 (List.map enc5 x4.2.B), .bool x4.2.Bad]), ((4, 0), .box [.int .i64 0, .int .i64 0, .str (strOf []), .str (strOf []), .nil]), ((5, 0), .box [.int .i64 (IntKind.i64.wrap (x14.toNat : Int)), .int .i64 0, .str (strOf []), .str (strOf []), .nil])] [(0, 1), (4, 1), (5, 1)] (ec (ec (ec (ec (ec envOk_nil))))) (objOk_cons W_ W_ R_ (by simp) (objOk_cons W_ W_ R_ (by simp) (objOk_cons W_ W_ R_ (by simp) objOk_nil))) (nodup_b rfl) (nodup_b rfl) rfl rfl, ((IntKind.i64.wrap (x14.toNat : Int)) == 3), h, rfl⟩
  ·rintro s ⟨v31_2, h, rfl⟩
   unfold rule_get_b_k2 at h
   refine aw_bool (b := v31_2) 31 rfl (fun c20 => ?_) (fun c20 => ?_)
   ·have h := ifT c20 h
    refine aw_cond_t D_ rfl ?_
    refine aw_regL ?_
    refine pm 45 (.ptr 0 0 0) ?_
    refine pm 46 (.int .i64 a1) ?_
    obtain ⟨x21, hx21, h⟩ := bnd_some h
    refine pD 47 (do_callG (bcs := [[.sl 1 (List.map enc5 x4.2.B), .bool x4.2.Bad]]) [(0, 0)] [] [] 47 false (rule_kids_ok K hK x4.2 a1 hx21) rfl ent66 ⟨R_, trivial⟩ trivial rfl rfl rfl rfl rfl rfl rfl rfl (.inl trivial)) ?_
    refine pf 48 (.ptr 5 0 4) ty25 ty23 ?_
    refine alD none rfl rfl (do_store (cs' := [.int .i64 (IntKind.i64.wrap (x14.toNat : Int)), .int .i64 0, .str (strOf []), .str (strOf []), .own 47 0]) W_ W_ W_ ty23 rfl rfl rfl R_) D_ ?_
    refine en hK15 ?_
    refine sr fun K22 hK22 => ?_
    refine pl 71 (.agg [.int .i64 (IntKind.i64.wrap (x14.toNat : Int)), .int .i64 0, .str (strOf []), .str (strOf []), .own 47 0]) ty25 ?_
    refine alD none rfl rfl (do_store (cs' := [.int .i64 (IntKind.i64.wrap (x14.toNat : Int)), .int .i64 0, .str (strOf []), .str (strOf []), .own 47 0]) W_ W_ W_ ty25 rfl rfl rfl R_) D_ ?_
    refine en hK22 ?_
    refine aw_ret ?_
    obtain rfl := Option.some.inj h
    exact ret_okB [] W_ W_ R_ trivial (boxesOk_cons W_ W_ R_ trivial) (nodup_b rfl) (.inr rfl) rfl
   ·have h := ifF c20 h
    refine aw_cond_f D_ rfl ?_
    refine sr fun K23 hK23 => ?_
    refine pf 50 (.ptr 5 0 0) ty25 ty3 ?_
    refine pl 51 (.int .i64 (IntKind.i64.wrap (x14.toNat : Int))) ty3 ?_
    refine pb 52 (.bool ((IntKind.i64.wrap (x14.toNat : Int)) == 6)) ?_
    refine pa 49 (.bool ((IntKind.i64.wrap (x14.toNat : Int)) == 6)) ?_
    refine en hK23 ?_
    refine aw_bool (b := ((IntKind.i64.wrap (x14.toNat : Int)) == 6)) 49 rfl (fun c24 => ?_) (fun c24 => ?_)
    ·have h := ifT c24 h
     refine aw_cond_t D_ rfl ?_
     refine sr fun K25 hK25 => ?_
     refine pm 53 (.ptr 0 0 0) ?_
     obtain ⟨x26, hx26, h⟩ := bnd_some h
     refine pD 54 (do_callG (bcs := [[.sl 1 (List.map enc5 x4.2.B), .bool x4.2.Bad]]) [(0, 0)] [] [] 54 false (ints_Reader_Text_ok x4.2 hx26) rfl ent62 ⟨R_, trivial⟩ trivial rfl rfl rfl rfl rfl rfl rfl rfl (.inl trivial)) ?_
     refine pf 55 (.ptr 5 0 2) ty25 ty9 ?_
     refine alD none rfl rfl (do_store (cs' := [.int .i64 (IntKind.i64.wrap (x14.toNat : Int)), .int .i64 0, .str x26.1, .str (strOf []), .nil]) W_ W_ W_ ty9 rfl rfl rfl R_) D_ ?_
     refine en hK25 ?_
     refine aw_regL ?_
     refine pm 56 (.ptr 0 0 0) ?_
     obtain ⟨x27, hx27, h⟩ := bnd_some h
     refine pD 57 (do_callG (bcs := [[.sl 1 (List.map enc5 x26.2.B), .bool x26.2.Bad]]) [(0, 0)] [] [] 57 false (ints_Reader_Text_ok x26.2 hx27) rfl ent62 ⟨R_, trivial⟩ trivial rfl rfl rfl rfl rfl rfl rfl rfl (.inl trivial)) ?_
     refine pf 58 (.ptr 5 0 3) ty25 ty9 ?_
     refine alD none rfl rfl (do_store (cs' := [.int .i64 (IntKind.i64.wrap (x14.toNat : Int)), .int .i64 0, .str x26.1, .str x27.1, .nil]) W_ W_ W_ ty9 rfl rfl rfl R_) D_ ?_
     refine en hK15 ?_
     refine sr fun K28 hK28 => ?_
     refine pl 71 (.agg [.int .i64 (IntKind.i64.wrap (x14.toNat : Int)), .int .i64 0, .str x26.1, .str x27.1, .nil]) ty25 ?_
     refine alD none rfl rfl (do_store (cs' := [.int .i64 (IntKind.i64.wrap (x14.toNat : Int)), .int .i64 0, .str x26.1, .str x27.1, .nil]) W_ W_ W_ ty25 rfl rfl rfl R_) D_ ?_
     refine en hK28 ?_
     refine aw_reb (reb_w (tl' := [(4, .ptr 4 0 0)]) (ol' := [((0, 0), .box [.sl 1 (List.map enc5 x27.2.B), .bool x27.2.Bad]), ((4, 0), .box [.int .i64 (IntKind.i64.wrap (x14.toNat : Int)), .int .i64 0, .str x26.1, .str x27.1, .sl 5 (List.map enc24 [])])]) (reb_lit [(4, .ptr 4 0 0)] [(0, 0), (4, 0)] [((0, 0), .box [.sl 1 (List.map enc5 x27.2.B), .bool x27.2.Bad]), ((4, 0), .box [.int .i64 (IntKind.i64.wrap (x14.toNat : Int)), .int .i64 0, .str x26.1, .str x27.1, .nil])] [(0, 1), (4, 1)] (ec envOk_nil) (objOk_cons W_ W_ R_ (by simp) (objOk_cons W_ W_ R_ (by simp) objOk_nil)) (nodup_b rfl) (nodup_b rfl) rfl rfl) ⟨rfl, le_refl _, trivial⟩ ⟨rfl, .rfl _, rfl, (.box ⟨le_refl _, le_refl _, le_refl _, le_refl _, le_nil _, trivial⟩), trivial⟩) ?_
     refine aw_ret ?_
     obtain rfl := Option.some.inj h
     exact ret_okB [] W_ W_ R_ trivial (boxesOk_cons W_ W_ R_ trivial) (nodup_b rfl) (.inr rfl) rfl
    ·have h := ifF c24 h
     refine aw_cond_f D_ rfl ?_
     refine sr fun K29 hK29 => ?_
     refine pf 60 (.ptr 5 0 0) ty25 ty3 ?_
     refine pl 61 (.int .i64 (IntKind.i64.wrap (x14.toNat : Int))) ty3 ?_
     refine pb 62 (.bool ((IntKind.i64.wrap (x14.toNat : Int)) == 5)) ?_
     refine pa 59 (.bool ((IntKind.i64.wrap (x14.toNat : Int)) == 5)) ?_
     refine en hK29 ?_
     refine aw_bool (b := ((IntKind.i64.wrap (x14.toNat : Int)) == 5)) 59 rfl (fun c30 => ?_) (fun c30 => ?_)
     ·have h := ifT c30 h
      refine aw_cond_t D_ rfl ?_
      refine aw_skip ?_
      refine hK15 _ ?_
      refine sr fun K31 hK31 => ?_
      refine pl 71 (.agg [.int .i64 (IntKind.i64.wrap (x14.toNat : Int)), .int .i64 0, .str (strOf []), .str (strOf []), .nil]) ty25 ?_
      refine alD none rfl rfl (do_store (cs' := [.int .i64 (IntKind.i64.wrap (x14.toNat : Int)), .int .i64 0, .str (strOf []), .str (strOf []), .nil]) W_ W_ W_ ty25 rfl rfl rfl R_) D_ ?_
      refine en hK31 ?_
      refine aw_reb (reb_w (tl' := [(4, .ptr 4 0 0)]) (ol' := [((0, 0), .box [.sl 1 (List.map enc5 x4.2.B), .bool x4.2.Bad]), ((4, 0), .box [.int .i64 (IntKind.i64.wrap (x14.toNat : Int)), .int .i64 0, .str (strOf []), .str (strOf []), .sl 5 (List.map enc24 [])])]) (reb_lit [(4, .ptr 4 0 0)] [(0, 0), (4, 0)] [((0, 0), .box [.sl 1 (List.map enc5 x4.2.B), .bool x4.2.Bad]), ((4, 0), .box [.int .i64 (IntKind.i64.wrap (x14.toNat : Int)), .int .i64 0, .str (strOf []), .str (strOf []), .nil])] [(0, 1), (4, 1)] (ec envOk_nil) (objOk_cons W_ W_ R_ (by simp) (objOk_cons W_ W_ R_ (by simp) objOk_nil)) (nodup_b rfl) (nodup_b rfl) rfl rfl) ⟨rfl, le_refl _, trivial⟩ ⟨rfl, .rfl _, rfl, (.box ⟨le_refl _, le_refl _, le_refl _, le_refl _, le_nil _, trivial⟩), trivial⟩) ?_
      refine aw_ret ?_
      obtain rfl := Option.some.inj h
      exact ret_okB [] W_ W_ R_ trivial (boxesOk_cons W_ W_ R_ trivial) (nodup_b rfl) (.inr rfl) rfl
     ·have h := ifF c30 h
      refine aw_cond_f D_ rfl ?_
      refine sr fun K32 hK32 => ?_
      refine pf 64 (.ptr 5 0 0) ty25 ty3 ?_
      refine pl 65 (.int .i64 (IntKind.i64.wrap (x14.toNat : Int))) ty3 ?_
      obtain ⟨x33, hx33, h⟩ := bnd_some h
      refine pD 66 (do_call0 66 false (rule_top_ok (IntKind.i64.wrap (x14.toNat : Int)) hx33) rfl ent67 rfl rfl) ?_
      refine pb 67 (.bool (decide (x33 < 0))) ?_
      refine pa 63 (.bool (decide (x33 < 0))) ?_
      refine en hK32 ?_
      refine aw_bool (b := (decide (x33 < 0))) 63 rfl (fun c34 => ?_) (fun c34 => ?_)
      ·have h := ifT c34 h
       refine aw_cond_t D_ rfl ?_
       refine aw_regL ?_
       refine pm 68 (.ptr 0 0 0) ?_
       refine pP 69 (does_nilCheck (p := .ptr 0 0 0) W_ rfl) ?_
       refine pf 70 (.ptr 0 0 1) ty54 ty4 ?_
       refine alD none rfl rfl (do_store (cs' := [.sl 1 (List.map enc5 x4.2.B), .bool true]) W_ W_ W_ ty4 rfl rfl rfl R_) D_ ?_
       refine en hK15 ?_
       refine sr fun K35 hK35 => ?_
       refine pl 71 (.agg [.int .i64 (IntKind.i64.wrap (x14.toNat : Int)), .int .i64 0, .str (strOf []), .str (strOf []), .nil]) ty25 ?_
       refine alD none rfl rfl (do_store (cs' := [.int .i64 (IntKind.i64.wrap (x14.toNat : Int)), .int .i64 0, .str (strOf []), .str (strOf []), .nil]) W_ W_ W_ ty25 rfl rfl rfl R_) D_ ?_
       refine en hK35 ?_
       refine aw_reb (reb_w (tl' := [(4, .ptr 4 0 0)]) (ol' := [((0, 0), .box [.sl 1 (List.map enc5 x4.2.B), .bool true]), ((4, 0), .box [.int .i64 (IntKind.i64.wrap (x14.toNat : Int)), .int .i64 0, .str (strOf []), .str (strOf []), .sl 5 (List.map enc24 [])])]) (reb_lit [(4, .ptr 4 0 0)] [(0, 0), (4, 0)] [((0, 0), .box [.sl 1 (List.map enc5 x4.2.B), .bool true]), ((4, 0), .box [.int .i64 (IntKind.i64.wrap (x14.toNat : Int)), .int .i64 0, .str (strOf []), .str (strOf []), .nil])] [(0, 1), (4, 1)] (ec envOk_nil) (objOk_cons W_ W_ R_ (by simp) (objOk_cons W_ W_ R_ (by simp) objOk_nil)) (nodup_b rfl) (nodup_b rfl) rfl rfl) ⟨rfl, le_refl _, trivial⟩ ⟨rfl, .rfl _, rfl, (.box ⟨le_refl _, le_refl _, le_refl _, le_refl _, le_nil _, trivial⟩), trivial⟩) ?_
       refine aw_ret ?_
       obtain rfl := Option.some.inj h
       exact ret_okB [] W_ W_ R_ trivial (boxesOk_cons W_ W_ R_ trivial) (nodup_b rfl) (.inr rfl) rfl
      ·have h := ifF c34 h
       refine aw_cond_f D_ rfl ?_
       refine aw_regL ?_
       refine pm 25 (.ptr 0 0 0) ?_
       refine pf 26 (.ptr 5 0 0) ty25 ty3 ?_
       refine pl 27 (.int .i64 (IntKind.i64.wrap (x14.toNat : Int))) ty3 ?_
       obtain ⟨x36, hx36, h⟩ := bnd_some h
       refine pD 28 (do_call0 28 false (rule_top_ok (IntKind.i64.wrap (x14.toNat : Int)) hx36) rfl ent67 rfl rfl) ?_
       obtain ⟨x37, hx37, h⟩ := bnd_some h
       refine pD 29 (do_callG (bcs := [[.sl 1 (List.map enc5 x4.2.B), .bool x4.2.Bad]]) [(0, 0)] [] [] 29 false (ints_Reader_Num_ok x4.2 x36 hx37) rfl ent20 ⟨R_, trivial⟩ trivial rfl rfl rfl rfl rfl rfl rfl rfl (.inl trivial)) ?_
       refine pf 30 (.ptr 5 0 1) ty25 ty3 ?_
       refine alD none rfl rfl (do_store (cs' := [.int .i64 (IntKind.i64.wrap (x14.toNat : Int)), .int .i64 x37.1, .str (strOf []), .str (strOf []), .nil]) W_ W_ W_ ty3 rfl rfl rfl R_) D_ ?_
       refine en hK15 ?_
       refine sr fun K38 hK38 => ?_
       refine pl 71 (.agg [.int .i64 (IntKind.i64.wrap (x14.toNat : Int)), .int .i64 x37.1, .str (strOf []), .str (strOf []), .nil]) ty25 ?_
       refine alD none rfl rfl (do_store (cs' := [.int .i64 (IntKind.i64.wrap (x14.toNat : Int)), .int .i64 x37.1, .str (strOf []), .str (strOf []), .nil]) W_ W_ W_ ty25 rfl rfl rfl R_) D_ ?_
       refine en hK38 ?_
       refine aw_reb (reb_w (tl' := [(4, .ptr 4 0 0)]) (ol' := [((0, 0), .box [.sl 1 (List.map enc5 x37.2.B), .bool x37.2.Bad]), ((4, 0), .box [.int .i64 (IntKind.i64.wrap (x14.toNat : Int)), .int .i64 x37.1, .str (strOf []), .str (strOf []), .sl 5 (List.map enc24 [])])]) (reb_lit [(4, .ptr 4 0 0)] [(0, 0), (4, 0)] [((0, 0), .box [.sl 1 (List.map enc5 x37.2.B), .bool x37.2.Bad]), ((4, 0), .box [.int .i64 (IntKind.i64.wrap (x14.toNat : Int)), .int .i64 x37.1, .str (strOf []), .str (strOf []), .nil])] [(0, 1), (4, 1)] (ec envOk_nil) (objOk_cons W_ W_ R_ (by simp) (objOk_cons W_ W_ R_ (by simp) objOk_nil)) (nodup_b rfl) (nodup_b rfl) rfl rfl) ⟨rfl, le_refl _, trivial⟩ ⟨rfl, .rfl _, rfl, (.box ⟨le_refl _, le_refl _, le_refl _, le_refl _, le_nil _, trivial⟩), trivial⟩) ?_
       refine aw_ret ?_
       obtain rfl := Option.some.inj h
       exact ret_okB [] W_ W_ R_ trivial (boxesOk_cons W_ W_ R_ trivial) (nodup_b rfl) (.inr rfl) rfl
def rule_getN : Nat → Reader → Int → Option (Rule × Reader)
 | 0, _, _ => none
 | n + 1, a0, a1 => rule_get_b (rule_getN n) a0 a1
theorem rule_getN_ok : ∀ (n : Nat) (a0 : Reader) (a1 : Int) {r : Rule × Reader}, rule_getN n a0 a1 = some r → Ok Try.prog 40 [.ptr 0 0 0, .int .i64 a1] [[.sl 1 (List.map enc5 a0.B), .bool a0.Bad]] [] (.agg [.int .i64 r.1.Kind, .int .i64 r.1.N, .str r.1.Key, .str r.1.Value, .sl 5 (List.map enc24 r.1.Kids)]) [[.sl 1 (List.map enc5 r.2.B), .bool r.2.Bad]] []
 | 0, _, _, _, h => by simp [rule_getN] at h
 | n + 1, a0, a1, _, h => rule_get_b_ok (rule_getN n) (rule_getN_ok n) a0 a1 h
def rule_get (a0 : Reader) (a1 : Int) : Option (Rule × Reader) := rule_getN Fu a0 a1
theorem rule_get_ok (a0 : Reader) (a1 : Int) {r : Rule × Reader} (h : rule_get a0 a1 = some r) : Ok Try.prog 40 [.ptr 0 0 0, .int .i64 a1] [[.sl 1 (List.map enc5 a0.B), .bool a0.Bad]] [] (.agg [.int .i64 r.1.Kind, .int .i64 r.1.N, .str r.1.Key, .str r.1.Value, .sl 5 (List.map enc24 r.1.Kids)]) [[.sl 1 (List.map enc5 r.2.B), .bool r.2.Bad]] [] := rule_getN_ok Fu a0 a1 h
def rule_Read (a0 : List UInt8) : Option (Rule × Int) :=
 Option.bind (rule_get (Reader.mk a0 false) 5) (fun (x4 : Rule × Reader) => if x4.2.Bad = true then (some ((Rule.mk 0 0 (strOf []) (strOf []) []), 2)) else (if (decide ((0 : Int) < (List.length x4.2.B : Int))) = true then (some ((Rule.mk 0 0 (strOf []) (strOf []) []), 2)) else (Option.bind (rule_Right x4.1) (fun (x11 : Bool) => if (!x11) = true then (some ((Rule.mk 0 0 (strOf []) (strOf []) []), 2)) else (some (x4.1, 0))))))
theorem rule_Read_ok (a0 : List UInt8) {r : Rule × Int} (h : rule_Read a0 = some r) : Ok Try.prog 19 [.sl 1 (List.map enc5 a0)] [] [] (.tup [.agg [.int .i64 r.1.Kind, .int .i64 r.1.N, .str r.1.Key, .str r.1.Value, .sl 5 (List.map enc24 r.1.Kids)], .int .i64 r.2]) [] [] := by
 unfold rule_Read at h
 refine ok_of_code Try.func19 rfl (by show (1 : Nat) ≤ _; decide) (Nat.le_refl _) fun X => ?_
 refine sr fun K1 hK1 => ?_
 refine pD 2 (do_new ty25 rfl rfl) ?_
 refine pa 3 (.int .i64 0) ?_
 refine en hK1 ?_
 refine sr fun K2 hK2 => ?_
 refine pm 6 (.sl 1 (List.map enc5 a0)) ?_
 refine pP 7 (do_build_struct (cs := [.sl 1 (List.map enc5 a0), .bool false]) ty54 rfl [⟨.slice 5, 1, 24, [.nil]⟩, ⟨.bool, 1, 1, [.bool false]⟩] (by simp only [List.map, ty28, ty4]) (by rfl) R_) ?_
 refine pD 8 (do_box W_ rfl rfl) ?_
 refine pa 4 (.ptr 8 0 0) ?_
 refine en hK2 ?_
 refine sr fun K3 hK3 => ?_
 refine pm 9 (.ptr 8 0 0) ?_
 obtain ⟨x4, hx4, h⟩ := bnd_some h
 refine pD 10 (do_callG (bcs := [[.sl 1 (List.map enc5 a0), .bool false]]) [(8, 0)] [] [] 10 false (rule_get_ok (Reader.mk a0 false) 5 hx4) rfl ent40 ⟨R_, trivial⟩ trivial rfl rfl rfl rfl rfl rfl rfl rfl (.inl trivial)) ?_
 refine pD 5 (do_new ty25 rfl rfl) ?_
 refine alD none rfl rfl (do_store (cs' := [.int .i64 x4.1.Kind, .int .i64 x4.1.N, .str x4.1.Key, .str x4.1.Value, .sl 5 (List.map enc24 x4.1.Kids)]) W_ W_ W_ ty25 rfl rfl rfl R_) D_ ?_
 refine en hK3 ?_
 refine aw_seq_k (fun K5 hK5 => ?_)
 refine sr fun K6 hK6 => ?_
 refine pm 11 (.ptr 8 0 0) ?_
 refine pP 12 (does_nilCheck (p := .ptr 8 0 0) W_ rfl) ?_
 refine pf 13 (.ptr 8 0 1) ty54 ty4 ?_
 refine pl 14 (.bool x4.2.Bad) ty4 ?_
 refine pm 15 (.bool x4.2.Bad) ?_
 refine al_bool (c := x4.2.Bad) 15 rfl (fun c7 => ?_) (fun c7 => ?_)
 ·have h := ifT c7 h
  refine pS 16 ?_
  refine pS 17 ?_
  refine pS 18 ?_
  refine pS 19 ?_
  refine pS 20 ?_
  refine pS 21 ?_
  refine pk 22 (.bool true) ?_
  refine pm 23 (.bool true) ?_
  refine pS 24 ?_
  refine pS 25 ?_
  refine pS 26 ?_
  refine pk 27 (.bool true) ?_
  refine en hK6 ?_
  refine aw_cond_t D_ rfl ?_
  refine sr fun K8 hK8 => ?_
  refine pP 28 (do_build_struct (cs := [.int .i64 0, .int .i64 0, .str (strOf []), .str (strOf []), .nil]) ty25 rfl [⟨.int .i64, 1, 8, [.int .i64 0]⟩, ⟨.int .i64, 1, 8, [.int .i64 0]⟩, ⟨.str, 1, 16, [.str ByteArray.empty]⟩, ⟨.str, 1, 16, [.str ByteArray.empty]⟩, ⟨.slice 25, 1, 24, [.nil]⟩] (by simp only [List.map, ty23, ty3, ty9]) (by rfl) R_) ?_
  refine alD none rfl rfl (do_store (cs' := [.int .i64 0, .int .i64 0, .str (strOf []), .str (strOf []), .nil]) W_ W_ W_ ty25 rfl rfl rfl R_) D_ ?_
  refine pa 3 (.int .i64 2) ?_
  refine en hK8 ?_
  refine aw_reb (reb_w (tl' := [(2, .ptr 2 0 0), (3, .int .i64 2)]) (ol' := [((2, 0), .box [.int .i64 0, .int .i64 0, .str (strOf []), .str (strOf []), .sl 5 (List.map enc24 [])])]) (reb_lit [(2, .ptr 2 0 0), (3, .int .i64 2)] [(2, 0)] [((2, 0), .box [.int .i64 0, .int .i64 0, .str (strOf []), .str (strOf []), .nil])] [(2, 1)] (ec (ec envOk_nil)) (objOk_cons W_ W_ R_ (by simp) objOk_nil) (nodup_b rfl) (nodup_b rfl) rfl rfl) ⟨rfl, le_refl _, rfl, le_refl _, trivial⟩ ⟨rfl, (.box ⟨le_refl _, le_refl _, le_refl _, le_refl _, le_nil _, trivial⟩), trivial⟩) ?_
  refine aw_ret ?_
  obtain rfl := Option.some.inj h
  exact ret_ok1 W_ W_ R_ (.inr rfl) rfl
 ·have h := ifF c7 h
  refine pm 16 (.ptr 8 0 0) ?_
  refine pP 17 (does_nilCheck (p := .ptr 8 0 0) W_ rfl) ?_
  refine pf 18 (.ptr 8 0 0) ty54 ty28 ?_
  refine pl 19 (.sl 1 (List.map enc5 x4.2.B)) ty28 ?_
  refine pP 20 ((does_len_sl W_ ty28).castp (v' := .int .i64 (List.length x4.2.B : Int)) (by exact len_map _)) ?_
  refine pb 21 (.bool (decide ((0 : Int) < (List.length x4.2.B : Int)))) ?_
  refine pk 22 (.bool (decide ((0 : Int) < (List.length x4.2.B : Int)))) ?_
  refine pm 23 (.bool (decide ((0 : Int) < (List.length x4.2.B : Int)))) ?_
  refine al_bool (c := (decide ((0 : Int) < (List.length x4.2.B : Int)))) 23 rfl (fun c9 => ?_) (fun c9 => ?_)
  ·have h := ifT c9 h
   refine pS 24 ?_
   refine pS 25 ?_
   refine pS 26 ?_
   refine pk 27 (.bool true) ?_
   refine en hK6 ?_
   refine aw_cond_t D_ rfl ?_
   refine sr fun K10 hK10 => ?_
   refine pP 28 (do_build_struct (cs := [.int .i64 0, .int .i64 0, .str (strOf []), .str (strOf []), .nil]) ty25 rfl [⟨.int .i64, 1, 8, [.int .i64 0]⟩, ⟨.int .i64, 1, 8, [.int .i64 0]⟩, ⟨.str, 1, 16, [.str ByteArray.empty]⟩, ⟨.str, 1, 16, [.str ByteArray.empty]⟩, ⟨.slice 25, 1, 24, [.nil]⟩] (by simp only [List.map, ty23, ty3, ty9]) (by rfl) R_) ?_
   refine alD none rfl rfl (do_store (cs' := [.int .i64 0, .int .i64 0, .str (strOf []), .str (strOf []), .nil]) W_ W_ W_ ty25 rfl rfl rfl R_) D_ ?_
   refine pa 3 (.int .i64 2) ?_
   refine en hK10 ?_
   refine aw_reb (reb_w (tl' := [(2, .ptr 2 0 0), (3, .int .i64 2)]) (ol' := [((2, 0), .box [.int .i64 0, .int .i64 0, .str (strOf []), .str (strOf []), .sl 5 (List.map enc24 [])])]) (reb_lit [(2, .ptr 2 0 0), (3, .int .i64 2)] [(2, 0)] [((2, 0), .box [.int .i64 0, .int .i64 0, .str (strOf []), .str (strOf []), .nil])] [(2, 1)] (ec (ec envOk_nil)) (objOk_cons W_ W_ R_ (by simp) objOk_nil) (nodup_b rfl) (nodup_b rfl) rfl rfl) ⟨rfl, le_refl _, rfl, le_refl _, trivial⟩ ⟨rfl, (.box ⟨le_refl _, le_refl _, le_refl _, le_refl _, le_nil _, trivial⟩), trivial⟩) ?_
   refine aw_ret ?_
   obtain rfl := Option.some.inj h
   exact ret_ok1 W_ W_ R_ (.inr rfl) rfl
  ·have h := ifF c9 h
   refine pl 24 (.agg [.int .i64 x4.1.Kind, .int .i64 x4.1.N, .str x4.1.Key, .str x4.1.Value, .sl 5 (List.map enc24 x4.1.Kids)]) ty25 ?_
   obtain ⟨x11, hx11, h⟩ := bnd_some h
   refine pD 25 (do_call0 25 false (rule_Right_ok x4.1 hx11) rfl ent33 rfl rfl) ?_
   refine pP 26 (does_un (v := .bool (!x11)) W_ rfl) ?_
   refine pk 27 (.bool (!x11)) ?_
   refine en hK6 ?_
   refine aw_bool (b := (!x11)) 27 rfl (fun c12 => ?_) (fun c12 => ?_)
   ·have h := ifT c12 h
    refine aw_cond_t D_ rfl ?_
    refine sr fun K13 hK13 => ?_
    refine pP 28 (do_build_struct (cs := [.int .i64 0, .int .i64 0, .str (strOf []), .str (strOf []), .nil]) ty25 rfl [⟨.int .i64, 1, 8, [.int .i64 0]⟩, ⟨.int .i64, 1, 8, [.int .i64 0]⟩, ⟨.str, 1, 16, [.str ByteArray.empty]⟩, ⟨.str, 1, 16, [.str ByteArray.empty]⟩, ⟨.slice 25, 1, 24, [.nil]⟩] (by simp only [List.map, ty23, ty3, ty9]) (by rfl) R_) ?_
    refine alD none rfl rfl (do_store (cs' := [.int .i64 0, .int .i64 0, .str (strOf []), .str (strOf []), .nil]) W_ W_ W_ ty25 rfl rfl rfl R_) D_ ?_
    refine pa 3 (.int .i64 2) ?_
    refine en hK13 ?_
    refine aw_reb (reb_w (tl' := [(2, .ptr 2 0 0), (3, .int .i64 2)]) (ol' := [((2, 0), .box [.int .i64 0, .int .i64 0, .str (strOf []), .str (strOf []), .sl 5 (List.map enc24 [])])]) (reb_lit [(2, .ptr 2 0 0), (3, .int .i64 2)] [(2, 0)] [((2, 0), .box [.int .i64 0, .int .i64 0, .str (strOf []), .str (strOf []), .nil])] [(2, 1)] (ec (ec envOk_nil)) (objOk_cons W_ W_ R_ (by simp) objOk_nil) (nodup_b rfl) (nodup_b rfl) rfl rfl) ⟨rfl, le_refl _, rfl, le_refl _, trivial⟩ ⟨rfl, (.box ⟨le_refl _, le_refl _, le_refl _, le_refl _, le_nil _, trivial⟩), trivial⟩) ?_
    refine aw_ret ?_
    obtain rfl := Option.some.inj h
    exact ret_ok1 W_ W_ R_ (.inr rfl) rfl
   ·have h := ifF c12 h
    refine aw_cond_f D_ rfl ?_
    refine aw_skip ?_
    refine hK5 _ ?_
    refine sr fun K14 hK14 => ?_
    refine pl 29 (.agg [.int .i64 x4.1.Kind, .int .i64 x4.1.N, .str x4.1.Key, .str x4.1.Value, .sl 5 (List.map enc24 x4.1.Kids)]) ty25 ?_
    refine alD none rfl rfl (do_store (cs' := [.int .i64 x4.1.Kind, .int .i64 x4.1.N, .str x4.1.Key, .str x4.1.Value, .sl 5 (List.map enc24 x4.1.Kids)]) W_ W_ W_ ty25 rfl rfl rfl R_) D_ ?_
    refine pa 3 (.int .i64 0) ?_
    refine en hK14 ?_
    refine aw_ret ?_
    obtain rfl := Option.some.inj h
    exact ret_ok1 W_ W_ R_ (.inr rfl) rfl
end Go.Proofs.Ytdhpmlgalddgfaa.Ab
