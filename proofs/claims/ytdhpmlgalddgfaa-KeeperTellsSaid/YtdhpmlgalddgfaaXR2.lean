/- Policies as bytes: the document. -/
import Derived.Test.YtdhpmlgalddgfaaXR1
import Derived.Test.YtdhpmlgalddgfaaProg
namespace Go.Proofs.Ytdhpmlgalddgfaa.Ab
open Go Go.RowKit
set_option linter.unusedVariables false
set_option linter.unusedSimpArgs false
set_option maxRecDepth 100000
set_option maxHeartbeats 8000000
theorem ent28 : Ent Try.prog 28 := ⟨_, Try.func28, by kernel_rfl, rfl⟩
theorem ent45 : Ent Try.prog 45 := ⟨_, Try.func45, by kernel_rfl, rfl⟩
theorem ent46 : Ent Try.prog 46 := ⟨_, Try.func46, by kernel_rfl, rfl⟩
theorem ent50 : Ent Try.prog 50 := ⟨_, Try.func50, by kernel_rfl, rfl⟩
def gleaningref1_addRule_b_l1 (K : List UInt8 → Rule → Option (List UInt8)) (a1 : Rule) (v0_s_1 : List UInt8) (v5_1 : Int) : Option ((List UInt8 × Int) ⊕ (List UInt8)) :=
 if (decide (v5_1 < (List.length a1.Kids : Int))) = true then (gd (0 ≤ v5_1) (Option.bind (a1.Kids[(Int.toNat v5_1)]?) (fun (x23 : Rule) => Option.bind (K v0_s_1 x23) (fun (x24 : List UInt8) => some (Sum.inl (x24, (IntKind.i64.wrap (v5_1 + 1)))))))) else (some (Sum.inr v0_s_1))
def gleaningref1_addRule_b_k0 (K : List UInt8 → Rule → Option (List UInt8)) (a0 : List UInt8) (a1 : Rule) (v19_0 : Bool) : Option (List UInt8) :=
 if v19_0 = true then (Option.bind (gleaningref1_Put (a0 ++ [(u8 (IntKind.u8.wrap a1.Kind))]) (IntKind.u64.wrap (List.length a1.Kids : Int))) (fun (x14 : List UInt8) => loopN (fun (s : List UInt8 × Int) => gleaningref1_addRule_b_l1 K a1 s.1 s.2) Fu (x14, 0))) else (if (a1.Kind == 6) = true then (Option.bind (gleaningref1_Text (a0 ++ [(u8 (IntKind.u8.wrap a1.Kind))]) a1.Key) (fun (x28 : List UInt8) => Option.bind (gleaningref1_Text x28 a1.Value) (fun (x29 : List UInt8) => some x29))) else (if (a1.Kind == 5) = true then (some (a0 ++ [(u8 (IntKind.u8.wrap a1.Kind))])) else (Option.bind (gleaningref1_Put (a0 ++ [(u8 (IntKind.u8.wrap a1.Kind))]) (IntKind.u64.wrap a1.N)) (fun (x34 : List UInt8) => some x34))))
def gleaningref1_addRule_b (K : List UInt8 → Rule → Option (List UInt8)) (a0 : List UInt8) (a1 : Rule) : Option (List UInt8) :=
 gd ((List.length (a0 ++ [(u8 (IntKind.u8.wrap a1.Kind))])) * 1 ≤ 140737488355328 ∧ (List.length (a0 ++ [(u8 (IntKind.u8.wrap a1.Kind))])) ≤ 140737488355328) (Option.bind (if (a1.Kind == 1) = true then (some true) else (if (a1.Kind == 2) = true then (some true) else (some (a1.Kind == 3)))) (fun (s : Bool) => gleaningref1_addRule_b_k0 K a0 a1 s))
theorem gleaningref1_addRule_b_ok (K : List UInt8 → Rule → Option (List UInt8)) (hK : ∀ (a0 : List UInt8) (a1 : Rule) {r : List UInt8}, K a0 a1 = some r → Ok Try.prog 50 [.own 1 0, .agg [.int .i64 a1.Kind, .int .i64 a1.N, .str a1.Key, .str a1.Value, .sl 5 (List.map enc24 a1.Kids)]] [] [(5, 1, List.map enc5 a0)] (.own 2 0) [] [(5, 1, List.map enc5 r)]) (a0 : List UInt8) (a1 : Rule) {r : List UInt8} (h : gleaningref1_addRule_b K a0 a1 = some r) : Ok Try.prog 50 [.own 1 0, .agg [.int .i64 a1.Kind, .int .i64 a1.N, .str a1.Key, .str a1.Value, .sl 5 (List.map enc24 a1.Kids)]] [] [(5, 1, List.map enc5 a0)] (.own 2 0) [] [(5, 1, List.map enc5 r)] := by
 unfold gleaningref1_addRule_b at h
 refine ok_of_code Try.func50 rfl (by show (2 : Nat) ≤ _; decide) (Nat.le_refl _) fun X => ?_
 refine sr fun K1 hK1 => ?_
 refine pD 3 (do_box W_ rfl rfl) ?_
 refine pa 4 (.nil) ?_
 refine en hK1 ?_
 refine sr fun K2 hK2 => ?_
 refine pm 6 (.own 1 0) ?_
 refine pf 7 (.ptr 3 0 0) ty25 ty3 ?_
 refine pl 8 (.int .i64 a1.Kind) ty3 ?_
 refine pP 9 ((does_conv_int (v := .int .u8 (IntKind.u8.wrap a1.Kind)) W_ (ty_some ty3) (ty_int ty5) rfl).castp (v' := .int .u8 ((u8 (IntKind.u8.wrap a1.Kind)).toNat : Int)) (by exact congrArg _ (u8_eq (u8_wrap _)))) ?_
 refine pD 10 (do_buildSlice (xs := List.map enc5 [(u8 (IntKind.u8.wrap a1.Kind))]) ty28 ty5 rfl rfl rfl rfl rfl rfl rfl rfl) ?_
 obtain ⟨g3, h⟩ := gd_some h
 refine pD 11 (do_append (v := List.map enc5 (a0 ++ [(u8 (IntKind.u8.wrap a1.Kind))])) W_ W_ ty28 ty5 rfl rfl W_ (by first | exact .inl rfl | exact .inr ⟨rfl, rfl⟩) W_ (by first | exact .inr rfl | exact .inl rfl) (map_app _ _) (fit_map g3)) ?_
 refine pa 0 (.own 11 0) ?_
 refine en hK2 ?_
 refine aw_seq_k (fun K4 hK4 => ?_)
 refine sr fun K5 hK5 => ?_
 refine pf 12 (.ptr 3 0 0) ty25 ty3 ?_
 refine pl 13 (.int .i64 a1.Kind) ty3 ?_
 refine en hK5 ?_
 refine aw_block ?_
 obtain ⟨q6, h, hk7⟩ := bnd_some h
 refine aw_cut (fun s => ∃ (v19_0 : Bool), gleaningref1_addRule_b_k0 K a0 a1 v19_0 = some r ∧ s = lit [(0, .own 11 0), (3, .ptr 3 0 0), (13, .int .i64 a1.Kind), (19, .bool v19_0)] [((11, 0), .arr 5 1 false (List.map enc5 (a0 ++ [(u8 (IntKind.u8.wrap a1.Kind))]))), ((3, 0), .box [.int .i64 a1.Kind, .int .i64 a1.N, .str a1.Key, .str a1.Value, .sl 5 (List.map enc24 a1.Kids)])] [(3, 1), (11, 1)] X) ?_ ?_
 ·skip
  refine sr fun K8 hK8 => ?_
  refine pb 20 (.bool (a1.Kind == 1)) ?_
  refine pa 19 (.bool (a1.Kind == 1)) ?_
  refine en hK8 ?_
  refine aw_bool (b := (a1.Kind == 1)) 19 rfl (fun c9 => ?_) (fun c9 => ?_)
  ·have h := ifT c9 h
   refine aw_cond_t D_ rfl ?_
   refine aw_skip ?_
   obtain rfl := Option.some.inj h
   have h := hk7
   exact ⟨_, reb_lit [(0, .own 11 0), (3, .ptr 3 0 0), (13, .int .i64 a1.Kind), (19, .bool true)] [(11, 0), (3, 0)] [((11, 0), .arr 5 1 false (List.map enc5 (a0 ++ [(u8 (IntKind.u8.wrap a1.Kind))]))), ((3, 0), .box [.int .i64 a1.Kind, .int .i64 a1.N, .str a1.Key, .str a1.Value, .sl 5 (List.map enc24 a1.Kids)])] [(3, 1), (11, 1)] (ec (ec (ec (ec envOk_nil)))) (objOk_cons W_ W_ R_ (by simp) (objOk_cons W_ W_ R_ (by simp) objOk_nil)) (nodup_b rfl) (nodup_b rfl) rfl rfl, true, h, rfl⟩
  ·have h := ifF c9 h
   refine aw_cond_f D_ rfl ?_
   refine sr fun K10 hK10 => ?_
   refine pb 21 (.bool (a1.Kind == 2)) ?_
   refine pa 19 (.bool (a1.Kind == 2)) ?_
   refine en hK10 ?_
   refine aw_bool (b := (a1.Kind == 2)) 19 rfl (fun c11 => ?_) (fun c11 => ?_)
   ·have h := ifT c11 h
    refine aw_cond_t D_ rfl ?_
    refine aw_skip ?_
    obtain rfl := Option.some.inj h
    have h := hk7
    exact ⟨_, reb_lit [(0, .own 11 0), (3, .ptr 3 0 0), (13, .int .i64 a1.Kind), (19, .bool true)] [(11, 0), (3, 0)] [((11, 0), .arr 5 1 false (List.map enc5 (a0 ++ [(u8 (IntKind.u8.wrap a1.Kind))]))), ((3, 0), .box [.int .i64 a1.Kind, .int .i64 a1.N, .str a1.Key, .str a1.Value, .sl 5 (List.map enc24 a1.Kids)])] [(3, 1), (11, 1)] (ec (ec (ec (ec envOk_nil)))) (objOk_cons W_ W_ R_ (by simp) (objOk_cons W_ W_ R_ (by simp) objOk_nil)) (nodup_b rfl) (nodup_b rfl) rfl rfl, true, h, rfl⟩
   ·have h := ifF c11 h
    refine aw_cond_f D_ rfl ?_
    refine aw_regL ?_
    refine pb 22 (.bool (a1.Kind == 3)) ?_
    refine pa 19 (.bool (a1.Kind == 3)) ?_
    refine al_nil ?_
    obtain rfl := Option.some.inj h
    have h := hk7
    exact ⟨_, reb_lit [(0, .own 11 0), (3, .ptr 3 0 0), (13, .int .i64 a1.Kind), (19, .bool (a1.Kind == 3))] [(11, 0), (3, 0)] [((11, 0), .arr 5 1 false (List.map enc5 (a0 ++ [(u8 (IntKind.u8.wrap a1.Kind))]))), ((3, 0), .box [.int .i64 a1.Kind, .int .i64 a1.N, .str a1.Key, .str a1.Value, .sl 5 (List.map enc24 a1.Kids)])] [(3, 1), (11, 1)] (ec (ec (ec (ec envOk_nil)))) (objOk_cons W_ W_ R_ (by simp) (objOk_cons W_ W_ R_ (by simp) objOk_nil)) (nodup_b rfl) (nodup_b rfl) rfl rfl, (a1.Kind == 3), h, rfl⟩
 ·rintro s ⟨v19_0, h, rfl⟩
  unfold gleaningref1_addRule_b_k0 at h
  refine aw_bool (b := v19_0) 19 rfl (fun c12 => ?_) (fun c12 => ?_)
  ·have h := ifT c12 h
   refine aw_cond_t D_ rfl ?_
   refine sr fun K13 hK13 => ?_
   refine pm 23 (.own 11 0) ?_
   refine pf 24 (.ptr 3 0 4) ty25 ty23 ?_
   refine pl 25 (.sl 5 (List.map enc24 a1.Kids)) ty23 ?_
   refine pP 26 ((does_len_sl W_ ty23).castp (v' := .int .i64 (List.length a1.Kids : Int)) (by exact len_map _)) ?_
   refine pP 27 (does_conv_int (v := .int .u64 (IntKind.u64.wrap (List.length a1.Kids : Int))) W_ (ty_some ty3) (ty_int ty46) rfl) ?_
   obtain ⟨x14, hx14, h⟩ := bnd_some h
   refine pD 28 (do_callG (bcs := []) [] [(11, 0)] [] 28 false (gleaningref1_Put_ok (a0 ++ [(u8 (IntKind.u8.wrap a1.Kind))]) (IntKind.u64.wrap (List.length a1.Kids : Int)) hx14) rfl ent25 trivial (rowsOk_cons W_ R_ trivial) rfl rfl rfl rfl rfl rfl rfl rfl (.inr ⟨rfl, rfl, ⟨plain_map (fun _ => rfl), trivial⟩⟩)) ?_
   refine pa 0 (.own 28 0) ?_
   refine en hK13 ?_
   refine sr fun K15 hK15 => ?_
   refine pa 5 (.int .i64 0) ?_
   refine en hK15 ?_
   refine aw_block ?_
   refine aw_loop' (fun m s => ∃ (v0_s_1 : List UInt8), ∃ (v5_1 : Int), loopN (fun (s : List UInt8 × Int) => gleaningref1_addRule_b_l1 K a1 s.1 s.2) m (v0_s_1, v5_1) = some r ∧ s = lit [(0, .own 28 0), (3, .ptr 3 0 0), (5, .int .i64 v5_1)] [((28, 0), .arr 5 1 false (List.map enc5 v0_s_1)), ((3, 0), .box [.int .i64 a1.Kind, .int .i64 a1.N, .str a1.Key, .str a1.Value, .sl 5 (List.map enc24 a1.Kids)])] [(3, 1), (28, 1)] X) Fu
    ⟨_, reb_lit [(0, .own 28 0), (3, .ptr 3 0 0), (5, .int .i64 (0))] [(28, 0), (3, 0)] [((28, 0), .arr 5 1 false (List.map enc5 x14)), ((3, 0), .box [.int .i64 a1.Kind, .int .i64 a1.N, .str a1.Key, .str a1.Value, .sl 5 (List.map enc24 a1.Kids)])] [(3, 1), (28, 1)] (ec (ec (ec envOk_nil))) (objOk_cons W_ W_ R_ (by simp) (objOk_cons W_ W_ R_ (by simp) objOk_nil)) (nodup_b rfl) (nodup_b rfl) rfl rfl, x14, 0, h, rfl⟩ ?_
   rintro m s ⟨v0_s_1, v5_1, h, rfl⟩
   obtain ⟨m1, q16, rfl, h, hq17⟩ := loop_some h
   replace h : gleaningref1_addRule_b_l1 K a1 v0_s_1 v5_1 = some q16 := h
   unfold gleaningref1_addRule_b_l1 at h
   refine aw_seq_k (fun K18 hK18 => ?_)
   refine sr fun K19 hK19 => ?_
   refine pm 29 (.int .i64 v5_1) ?_
   refine pf 30 (.ptr 3 0 4) ty25 ty23 ?_
   refine pl 31 (.sl 5 (List.map enc24 a1.Kids)) ty23 ?_
   refine pP 32 ((does_len_sl W_ ty23).castp (v' := .int .i64 (List.length a1.Kids : Int)) (by exact len_map _)) ?_
   refine pb 33 (.bool (decide (v5_1 < (List.length a1.Kids : Int)))) ?_
   refine en hK19 ?_
   refine aw_bool (b := (decide (v5_1 < (List.length a1.Kids : Int)))) 33 rfl (fun c20 => ?_) (fun c20 => ?_)
   ·have h := ifT c20 h
    refine aw_cond_t D_ rfl ?_
    refine aw_skip ?_
    refine hK18 _ ?_
    refine aw_seq_k (fun K21 hK21 => ?_)
    refine aw_block ?_
    refine aw_regL ?_
    refine pm 36 (.own 28 0) ?_
    refine pf 37 (.ptr 3 0 4) ty25 ty23 ?_
    refine pl 38 (.sl 5 (List.map enc24 a1.Kids)) ty23 ?_
    refine pm 39 (.int .i64 v5_1) ?_
    obtain ⟨g22, h⟩ := gd_some h
    obtain ⟨x23, hx23, h⟩ := bnd_some h
    refine pP 40 (does_indexAddr_sl (el := .agg [.int .i64 x23.Kind, .int .i64 x23.N, .str x23.Key, .str x23.Value, .sl 5 (List.map enc24 x23.Kids)]) W_ W_ ty23 ty25 g22 (by exact map_getE (enc24_eq _) hx23)) ?_
    refine pl 41 (.agg [.int .i64 x23.Kind, .int .i64 x23.N, .str x23.Key, .str x23.Value, .sl 5 (List.map enc24 x23.Kids)]) ty25 ?_
    obtain ⟨x24, hx24, h⟩ := bnd_some h
    refine pD 42 (do_callG (bcs := []) [] [(28, 0)] [] 42 false (hK v0_s_1 x23 hx24) rfl ent50 trivial (rowsOk_cons W_ R_ trivial) rfl rfl rfl rfl rfl rfl rfl rfl (.inr ⟨rfl, rfl, ⟨plain_map (fun _ => rfl), trivial⟩⟩)) ?_
    refine pa 0 (.own 42 0) ?_
    refine en hK21 ?_
    refine aw_regL ?_
    refine pm 34 (.int .i64 v5_1) ?_
    refine pb 35 (.int .i64 (IntKind.i64.wrap (v5_1 + 1))) ?_
    refine pa 5 (.int .i64 (IntKind.i64.wrap (v5_1 + 1))) ?_
    refine al_nil ?_
    have h := leafL h hq17
    exact ⟨m1, Nat.lt_succ_self _, _, reb_lit [(0, .own 28 0), (3, .ptr 3 0 0), (5, .int .i64 (IntKind.i64.wrap (v5_1 + 1)))] [(42, 0), (3, 0)] [((28, 0), .arr 5 1 false (List.map enc5 x24)), ((3, 0), .box [.int .i64 a1.Kind, .int .i64 a1.N, .str a1.Key, .str a1.Value, .sl 5 (List.map enc24 a1.Kids)])] [(3, 1), (28, 1)] (ec (ec (ec envOk_nil))) (objOk_cons W_ W_ R_ (by simp) (objOk_cons W_ W_ R_ (by simp) objOk_nil)) (nodup_b rfl) (nodup_b rfl) rfl rfl, x24, (IntKind.i64.wrap (v5_1 + 1)), h, rfl⟩
   ·have h := ifF c20 h
    refine aw_cond_f D_ rfl ?_
    refine aw_exit ?_
    have h := leafR h hq17
    refine hK4 _ ?_
    refine sr fun K25 hK25 => ?_
    refine pm 54 (.own 28 0) ?_
    refine pa 4 (.own 28 0) ?_
    refine en hK25 ?_
    refine aw_ret ?_
    obtain rfl := Option.some.inj h
    exact ret_okR [(28, 0)] W_ W_ R_ (rowsOk_cons W_ R_ trivial) (nodup_b rfl) (.inr rfl) rfl
  ·have h := ifF c12 h
   refine aw_cond_f D_ rfl ?_
   refine sr fun K26 hK26 => ?_
   refine pb 44 (.bool (a1.Kind == 6)) ?_
   refine pa 43 (.bool (a1.Kind == 6)) ?_
   refine en hK26 ?_
   refine aw_bool (b := (a1.Kind == 6)) 43 rfl (fun c27 => ?_) (fun c27 => ?_)
   ·have h := ifT c27 h
    refine aw_cond_t D_ rfl ?_
    refine aw_regd (by kernel_rfl) (by decide +kernel) ?_
    refine qP 45 (does_move (v := .own 11 0) R_) ?_
    refine qP 46 (does_fieldAddr (q := .ptr 3 0 2) W_ ty25 rfl ty9 D_ R_) ?_
    refine qR 47 (does_load (v := .str a1.Key) W_ W_ ty9 R_) ?_
    obtain ⟨x28, hx28, h⟩ := bnd_some h
    refine qD 48 (do_callG (bcs := []) [] [(11, 0)] [] 48 false (gleaningref1_Text_ok (a0 ++ [(u8 (IntKind.u8.wrap a1.Kind))]) a1.Key hx28) rfl ent76 trivial (rowsOk_cons W_ R_ trivial) rfl rfl rfl rfl rfl rfl rfl rfl (.inr ⟨rfl, rfl, ⟨plain_map (fun _ => rfl), trivial⟩⟩)) ?_
    refine qP 49 (does_fieldAddr (q := .ptr 3 0 3) W_ ty25 rfl ty9 D_ R_) ?_
    refine qR 50 (does_load (v := .str a1.Value) W_ W_ ty9 R_) ?_
    obtain ⟨x29, hx29, h⟩ := bnd_some h
    refine qD 51 (do_callG (bcs := []) [] [(48, 0)] [] 51 false (gleaningref1_Text_ok x28 a1.Value hx29) rfl ent76 trivial (rowsOk_cons W_ R_ trivial) rfl rfl rfl rfl rfl rfl rfl rfl (.inr ⟨rfl, rfl, ⟨plain_map (fun _ => rfl), trivial⟩⟩)) ?_
    refine qP 0 (does_assign (v := .own 51 0) R_) ?_
    refine ao_nil_d (by kernel_rfl) ?_
    refine hK4 _ ?_
    refine sr fun K30 hK30 => ?_
    refine pm 54 (.own 51 0) ?_
    refine pa 4 (.own 51 0) ?_
    refine en hK30 ?_
    refine aw_ret ?_
    obtain rfl := Option.some.inj h
    exact ret_okR [(51, 0)] W_ W_ R_ (rowsOk_cons W_ R_ trivial) (nodup_b rfl) (.inr rfl) rfl
   ·have h := ifF c27 h
    refine aw_cond_f D_ rfl ?_
    refine sr fun K31 hK31 => ?_
    refine pb 53 (.bool (a1.Kind == 5)) ?_
    refine pa 52 (.bool (a1.Kind == 5)) ?_
    refine en hK31 ?_
    refine aw_bool (b := (a1.Kind == 5)) 52 rfl (fun c32 => ?_) (fun c32 => ?_)
    ·have h := ifT c32 h
     refine aw_cond_t D_ rfl ?_
     refine aw_skip ?_
     refine hK4 _ ?_
     refine sr fun K33 hK33 => ?_
     refine pm 54 (.own 11 0) ?_
     refine pa 4 (.own 11 0) ?_
     refine en hK33 ?_
     refine aw_ret ?_
     obtain rfl := Option.some.inj h
     exact ret_okR [(11, 0)] W_ W_ R_ (rowsOk_cons W_ R_ trivial) (nodup_b rfl) (.inr rfl) rfl
    ·have h := ifF c32 h
     refine aw_cond_f D_ rfl ?_
     refine aw_regL ?_
     refine pm 14 (.own 11 0) ?_
     refine pf 15 (.ptr 3 0 1) ty25 ty3 ?_
     refine pl 16 (.int .i64 a1.N) ty3 ?_
     refine pP 17 (does_conv_int (v := .int .u64 (IntKind.u64.wrap a1.N)) W_ (ty_some ty3) (ty_int ty46) rfl) ?_
     obtain ⟨x34, hx34, h⟩ := bnd_some h
     refine pD 18 (do_callG (bcs := []) [] [(11, 0)] [] 18 false (gleaningref1_Put_ok (a0 ++ [(u8 (IntKind.u8.wrap a1.Kind))]) (IntKind.u64.wrap a1.N) hx34) rfl ent25 trivial (rowsOk_cons W_ R_ trivial) rfl rfl rfl rfl rfl rfl rfl rfl (.inr ⟨rfl, rfl, ⟨plain_map (fun _ => rfl), trivial⟩⟩)) ?_
     refine pa 0 (.own 18 0) ?_
     refine en hK4 ?_
     refine sr fun K35 hK35 => ?_
     refine pm 54 (.own 18 0) ?_
     refine pa 4 (.own 18 0) ?_
     refine en hK35 ?_
     refine aw_ret ?_
     obtain rfl := Option.some.inj h
     exact ret_okR [(18, 0)] W_ W_ R_ (rowsOk_cons W_ R_ trivial) (nodup_b rfl) (.inr rfl) rfl
def gleaningref1_addRuleN : Nat → List UInt8 → Rule → Option (List UInt8)
 | 0, _, _ => none
 | n + 1, a0, a1 => gleaningref1_addRule_b (gleaningref1_addRuleN n) a0 a1
theorem gleaningref1_addRuleN_ok : ∀ (n : Nat) (a0 : List UInt8) (a1 : Rule) {r : List UInt8}, gleaningref1_addRuleN n a0 a1 = some r → Ok Try.prog 50 [.own 1 0, .agg [.int .i64 a1.Kind, .int .i64 a1.N, .str a1.Key, .str a1.Value, .sl 5 (List.map enc24 a1.Kids)]] [] [(5, 1, List.map enc5 a0)] (.own 2 0) [] [(5, 1, List.map enc5 r)]
 | 0, _, _, _, h => by simp [gleaningref1_addRuleN] at h
 | n + 1, a0, a1, _, h => gleaningref1_addRule_b_ok (gleaningref1_addRuleN n) (gleaningref1_addRuleN_ok n) a0 a1 h
def gleaningref1_addRule (a0 : List UInt8) (a1 : Rule) : Option (List UInt8) := gleaningref1_addRuleN Fu a0 a1
theorem gleaningref1_addRule_ok (a0 : List UInt8) (a1 : Rule) {r : List UInt8} (h : gleaningref1_addRule a0 a1 = some r) : Ok Try.prog 50 [.own 1 0, .agg [.int .i64 a1.Kind, .int .i64 a1.N, .str a1.Key, .str a1.Value, .sl 5 (List.map enc24 a1.Kids)]] [] [(5, 1, List.map enc5 a0)] (.own 2 0) [] [(5, 1, List.map enc5 r)] := gleaningref1_addRuleN_ok Fu a0 a1 h
def gleaningref1_RuleBytes (a0 : Rule) : Option (List UInt8) :=
 Option.bind (gleaningref1_RightRule a0) (fun (x4 : Bool) => if (!x4) = true then (some []) else (Option.bind (gleaningref1_addRule [] a0) (fun (x8 : List UInt8) => some x8)))
theorem gleaningref1_RuleBytes_ok (a0 : Rule) {r : List UInt8} (h : gleaningref1_RuleBytes a0 = some r) : Ok Try.prog 26 [.agg [.int .i64 a0.Kind, .int .i64 a0.N, .str a0.Key, .str a0.Value, .sl 5 (List.map enc24 a0.Kids)]] [] [] (.own 2 0) [] [(5, 1, List.map enc5 r)] := by
 unfold gleaningref1_RuleBytes at h
 refine ok_of_code Try.func26 rfl (by show (1 : Nat) ≤ _; decide) (Nat.le_refl _) fun X => ?_
 refine sr fun K1 hK1 => ?_
 refine pD 1 (do_box W_ rfl rfl) ?_
 refine pa 2 (.nil) ?_
 refine en hK1 ?_
 refine aw_seq_k (fun K2 hK2 => ?_)
 refine sr fun K3 hK3 => ?_
 refine pl 3 (.agg [.int .i64 a0.Kind, .int .i64 a0.N, .str a0.Key, .str a0.Value, .sl 5 (List.map enc24 a0.Kids)]) ty25 ?_
 obtain ⟨x4, hx4, h⟩ := bnd_some h
 refine pD 4 (do_call0 4 false (gleaningref1_RightRule_ok a0 hx4) rfl ent46 rfl rfl) ?_
 refine pP 5 (does_un (v := .bool (!x4)) W_ rfl) ?_
 refine en hK3 ?_
 refine aw_bool (b := (!x4)) 5 rfl (fun c5 => ?_) (fun c5 => ?_)
 ·have h := ifT c5 h
  refine aw_cond_t D_ rfl ?_
  refine sr fun K6 hK6 => ?_
  refine pa 2 (.nil) ?_
  refine en hK6 ?_
  refine aw_nilOwn 2 5 1 W_ D_ D_ ?_
  refine aw_ret ?_
  obtain rfl := Option.some.inj h
  exact ret_okR [(2, 0)] W_ W_ R_ (rowsOk_cons W_ R_ trivial) (nodup_b rfl) (.inr rfl) rfl
 ·have h := ifF c5 h
  refine aw_cond_f D_ rfl ?_
  refine aw_skip ?_
  refine hK2 _ ?_
  refine sr fun K7 hK7 => ?_
  refine pl 6 (.agg [.int .i64 a0.Kind, .int .i64 a0.N, .str a0.Key, .str a0.Value, .sl 5 (List.map enc24 a0.Kids)]) ty25 ?_
  obtain ⟨x8, hx8, h⟩ := bnd_some h
  refine pD 7 (do_call0 7 false ((gleaningref1_addRule_ok [] a0 hx8).nilRow0) rfl ent50 rfl rfl) ?_
  refine pa 2 (.own 7 0) ?_
  refine en hK7 ?_
  refine aw_ret ?_
  obtain rfl := Option.some.inj h
  exact ret_okR [(7, 0)] W_ W_ R_ (rowsOk_cons W_ R_ trivial) (nodup_b rfl) (.inr rfl) rfl
def gleaningref1_Reader_rule_b_k1 (a0 : Reader) (v23_1 : Bool) : Option (Unit ⊕ (Rule × Reader)) :=
 if v23_1 = true then (some (Sum.inr ((Rule.mk 0 0 (strOf []) (strOf []) []), (Reader.mk a0.B true)))) else (some (Sum.inl ()))
def gleaningref1_Reader_rule_b_k4 (K : Reader → Int → Option (Rule × Reader)) (a1 : Int) (vb0_s_0_3 : List UInt8) (vb0_s_1_3 : Bool) (v5_s_4_s_3 : List Rule) (v7_3 : Int) : Option ((List UInt8 × Bool × List Rule × Int) ⊕ (Rule × Reader)) :=
 Option.bind (K (Reader.mk vb0_s_0_3 vb0_s_1_3) (IntKind.i64.wrap (a1 - 1))) (fun (x37 : Rule × Reader) => gd ((List.length (v5_s_4_s_3 ++ [x37.1])) * 72 ≤ 140737488355328 ∧ (List.length (v5_s_4_s_3 ++ [x37.1])) ≤ 140737488355328) (some (Sum.inl (x37.2.B, x37.2.Bad, (v5_s_4_s_3 ++ [x37.1]), (IntKind.i64.wrap (v7_3 + 1))))))
def gleaningref1_Reader_rule_b_l3 (K : Reader → Int → Option (Rule × Reader)) (a1 : Int) (x12 : UInt8) (x25 : Int × Reader) (vb0_s_0_3 : List UInt8) (vb0_s_1_3 : Bool) (v5_s_4_s_3 : List Rule) (v7_3 : Int) : Option ((List UInt8 × Bool × List Rule × Int) ⊕ (Rule × Reader)) :=
 Option.bind (if (decide (v7_3 < x25.1)) = true then (if (!vb0_s_1_3) = true then (some (Sum.inl ())) else (some (Sum.inr (Sum.inr ((Rule.mk (IntKind.i64.wrap (x12.toNat : Int)) 0 (strOf []) (strOf []) v5_s_4_s_3), (Reader.mk vb0_s_0_3 vb0_s_1_3)))))) else (some (Sum.inr (Sum.inr ((Rule.mk (IntKind.i64.wrap (x12.toNat : Int)) 0 (strOf []) (strOf []) v5_s_4_s_3), (Reader.mk vb0_s_0_3 vb0_s_1_3)))))) (Sum.elim (fun (s : Unit) => gleaningref1_Reader_rule_b_k4 K a1 vb0_s_0_3 vb0_s_1_3 v5_s_4_s_3 v7_3) some)
def gleaningref1_Reader_rule_b_k5 (a0 : Reader) (x12 : UInt8) (v86_5 : Bool) : Option (Rule × Reader) :=
 if v86_5 = true then (Option.bind (gleaningref1_Reader_Int (Reader.mk (List.drop 1 a0.B) a0.Bad) 1073741824) (fun (x57 : Int × Reader) => some ((Rule.mk (IntKind.i64.wrap (x12.toNat : Int)) x57.1 (strOf []) (strOf []) []), x57.2))) else (some ((Rule.mk (IntKind.i64.wrap (x12.toNat : Int)) 0 (strOf []) (strOf []) []), (Reader.mk (List.drop 1 a0.B) true)))
def gleaningref1_Reader_rule_b_k2 (K : Reader → Int → Option (Rule × Reader)) (a0 : Reader) (a1 : Int) (x12 : UInt8) (v49_2 : Bool) : Option (Rule × Reader) :=
 if v49_2 = true then (Option.bind (gleaningref1_Reader_Int (Reader.mk (List.drop 1 a0.B) a0.Bad) 20) (fun (x25 : Int × Reader) => loopN (fun (s : List UInt8 × Bool × List Rule × Int) => gleaningref1_Reader_rule_b_l3 K a1 x12 x25 s.1 s.2.1 s.2.2.1 s.2.2.2) Fu (x25.2.B, x25.2.Bad, [], 0))) else (if ((IntKind.i64.wrap (x12.toNat : Int)) == 6) = true then (Option.bind (gleaningref1_Reader_Text (Reader.mk (List.drop 1 a0.B) a0.Bad)) (fun (x42 : ByteArray × Reader) => Option.bind (gleaningref1_Reader_Text x42.2) (fun (x43 : ByteArray × Reader) => some ((Rule.mk (IntKind.i64.wrap (x12.toNat : Int)) 0 x42.1 x43.1 []), x43.2)))) else (if ((IntKind.i64.wrap (x12.toNat : Int)) == 5) = true then (some ((Rule.mk (IntKind.i64.wrap (x12.toNat : Int)) 0 (strOf []) (strOf []) []), (Reader.mk (List.drop 1 a0.B) a0.Bad))) else (Option.bind (if ((IntKind.i64.wrap (x12.toNat : Int)) == 4) = true then (some true) else (if ((IntKind.i64.wrap (x12.toNat : Int)) == 7) = true then (some true) else (if ((IntKind.i64.wrap (x12.toNat : Int)) == 8) = true then (some true) else (some ((IntKind.i64.wrap (x12.toNat : Int)) == 9))))) (fun (s : Bool) => gleaningref1_Reader_rule_b_k5 a0 x12 s))))
def gleaningref1_Reader_rule_b_k0 (K : Reader → Int → Option (Rule × Reader)) (a0 : Reader) (a1 : Int) : Option (Rule × Reader) :=
 Option.bind (a0.B[0]?) (fun (x12 : UInt8) => gd ((1 : Int) ≤ (List.length a0.B : Int)) (Option.bind (if ((IntKind.i64.wrap (x12.toNat : Int)) == 1) = true then (some true) else (if ((IntKind.i64.wrap (x12.toNat : Int)) == 2) = true then (some true) else (some ((IntKind.i64.wrap (x12.toNat : Int)) == 3)))) (fun (s : Bool) => gleaningref1_Reader_rule_b_k2 K a0 a1 x12 s)))
def gleaningref1_Reader_rule_b (K : Reader → Int → Option (Rule × Reader)) (a0 : Reader) (a1 : Int) : Option (Rule × Reader) :=
 Option.bind (Option.bind (if a0.Bad = true then (some true) else (if ((List.length a0.B : Int) == 0) = true then (some true) else (some (a1 == 0)))) (fun (s : Bool) => gleaningref1_Reader_rule_b_k1 a0 s)) (Sum.elim (fun (s : Unit) => gleaningref1_Reader_rule_b_k0 K a0 a1) some)
theorem gleaningref1_Reader_rule_b_ok (K : Reader → Int → Option (Rule × Reader)) (hK : ∀ (a0 : Reader) (a1 : Int) {r : Rule × Reader}, K a0 a1 = some r → Ok Try.prog 45 [.ptr 0 0 0, .int .i64 a1] [[.sl 1 (List.map enc5 a0.B), .bool a0.Bad]] [] (.agg [.int .i64 r.1.Kind, .int .i64 r.1.N, .str r.1.Key, .str r.1.Value, .sl 5 (List.map enc24 r.1.Kids)]) [[.sl 1 (List.map enc5 r.2.B), .bool r.2.Bad]] []) (a0 : Reader) (a1 : Int) {r : Rule × Reader} (h : gleaningref1_Reader_rule_b K a0 a1 = some r) : Ok Try.prog 45 [.ptr 0 0 0, .int .i64 a1] [[.sl 1 (List.map enc5 a0.B), .bool a0.Bad]] [] (.agg [.int .i64 r.1.Kind, .int .i64 r.1.N, .str r.1.Key, .str r.1.Value, .sl 5 (List.map enc24 r.1.Kids)]) [[.sl 1 (List.map enc5 r.2.B), .bool r.2.Bad]] [] := by
 unfold gleaningref1_Reader_rule_b at h
 refine ok_of_code Try.func45 rfl (by show (2 : Nat) ≤ _; decide) (Nat.le_refl _) fun X => ?_
 refine sr fun K1 hK1 => ?_
 refine pD 4 (do_new ty25 rfl rfl) ?_
 refine en hK1 ?_
 obtain ⟨q2, h, hk3⟩ := bnd_some h
 refine aw_cut (fun s => gleaningref1_Reader_rule_b_k0 K a0 a1 = some r ∧ s = lit [(0, .ptr 0 0 0), (1, .int .i64 a1), (4, .ptr 4 0 0)] [((0, 0), .box [.sl 1 (List.map enc5 a0.B), .bool a0.Bad]), ((4, 0), .box [.int .i64 0, .int .i64 0, .str (strOf []), .str (strOf []), .nil])] [(0, 1), (4, 1)] X) ?_ ?_
 ·skip
  obtain ⟨q4, h, hk5⟩ := bnd_some h
  refine aw_cut (fun s => ∃ (v23_1 : Bool), gleaningref1_Reader_rule_b_k1 a0 v23_1 = some q2 ∧ s = lit [(0, .ptr 0 0 0), (1, .int .i64 a1), (4, .ptr 4 0 0), (23, .bool v23_1)] [((0, 0), .box [.sl 1 (List.map enc5 a0.B), .bool a0.Bad]), ((4, 0), .box [.int .i64 0, .int .i64 0, .str (strOf []), .str (strOf []), .nil])] [(0, 1), (4, 1)] X) ?_ ?_
  ·skip
   refine aw_regL ?_
   refine pm 8 (.ptr 0 0 0) ?_
   refine pP 9 (does_nilCheck (p := .ptr 0 0 0) W_ rfl) ?_
   refine pf 10 (.ptr 0 0 1) ty59 ty4 ?_
   refine pl 11 (.bool a0.Bad) ty4 ?_
   refine pm 12 (.bool a0.Bad) ?_
   refine al_bool (c := a0.Bad) 12 rfl (fun c6 => ?_) (fun c6 => ?_)
   ·have h := ifT c6 h
    refine pS 13 ?_
    refine pS 14 ?_
    refine pS 15 ?_
    refine pS 16 ?_
    refine pS 17 ?_
    refine pS 18 ?_
    refine pk 19 (.bool true) ?_
    refine pm 20 (.bool true) ?_
    refine pS 21 ?_
    refine pS 22 ?_
    refine pk 23 (.bool true) ?_
    refine al_nil ?_
    obtain rfl := Option.some.inj h
    have h := hk5
    exact ⟨_, reb_lit [(0, .ptr 0 0 0), (1, .int .i64 a1), (4, .ptr 4 0 0), (23, .bool true)] [(0, 0), (4, 0)] [((0, 0), .box [.sl 1 (List.map enc5 a0.B), .bool a0.Bad]), ((4, 0), .box [.int .i64 0, .int .i64 0, .str (strOf []), .str (strOf []), .nil])] [(0, 1), (4, 1)] (ec (ec (ec (ec envOk_nil)))) (objOk_cons W_ W_ R_ (by simp) (objOk_cons W_ W_ R_ (by simp) objOk_nil)) (nodup_b rfl) (nodup_b rfl) rfl rfl, true, h, rfl⟩
   ·have h := ifF c6 h
    refine pm 13 (.ptr 0 0 0) ?_
    refine pP 14 (does_nilCheck (p := .ptr 0 0 0) W_ rfl) ?_
    refine pf 15 (.ptr 0 0 0) ty59 ty28 ?_
    refine pl 16 (.sl 1 (List.map enc5 a0.B)) ty28 ?_
    refine pP 17 ((does_len_sl W_ ty28).castp (v' := .int .i64 (List.length a0.B : Int)) (by exact len_map _)) ?_
    refine pb 18 (.bool ((List.length a0.B : Int) == 0)) ?_
    refine pk 19 (.bool ((List.length a0.B : Int) == 0)) ?_
    refine pm 20 (.bool ((List.length a0.B : Int) == 0)) ?_
    refine al_bool (c := ((List.length a0.B : Int) == 0)) 20 rfl (fun c7 => ?_) (fun c7 => ?_)
    ·have h := ifT c7 h
     refine pS 21 ?_
     refine pS 22 ?_
     refine pk 23 (.bool true) ?_
     refine al_nil ?_
     obtain rfl := Option.some.inj h
     have h := hk5
     exact ⟨_, reb_lit [(0, .ptr 0 0 0), (1, .int .i64 a1), (4, .ptr 4 0 0), (23, .bool true)] [(0, 0), (4, 0)] [((0, 0), .box [.sl 1 (List.map enc5 a0.B), .bool a0.Bad]), ((4, 0), .box [.int .i64 0, .int .i64 0, .str (strOf []), .str (strOf []), .nil])] [(0, 1), (4, 1)] (ec (ec (ec (ec envOk_nil)))) (objOk_cons W_ W_ R_ (by simp) (objOk_cons W_ W_ R_ (by simp) objOk_nil)) (nodup_b rfl) (nodup_b rfl) rfl rfl, true, h, rfl⟩
    ·have h := ifF c7 h
     refine pm 21 (.int .i64 a1) ?_
     refine pb 22 (.bool (a1 == 0)) ?_
     refine pk 23 (.bool (a1 == 0)) ?_
     refine al_nil ?_
     obtain rfl := Option.some.inj h
     have h := hk5
     exact ⟨_, reb_lit [(0, .ptr 0 0 0), (1, .int .i64 a1), (4, .ptr 4 0 0), (23, .bool (a1 == 0))] [(0, 0), (4, 0)] [((0, 0), .box [.sl 1 (List.map enc5 a0.B), .bool a0.Bad]), ((4, 0), .box [.int .i64 0, .int .i64 0, .str (strOf []), .str (strOf []), .nil])] [(0, 1), (4, 1)] (ec (ec (ec (ec envOk_nil)))) (objOk_cons W_ W_ R_ (by simp) (objOk_cons W_ W_ R_ (by simp) objOk_nil)) (nodup_b rfl) (nodup_b rfl) rfl rfl, (a1 == 0), h, rfl⟩
  ·rintro s ⟨v23_1, h, rfl⟩
   unfold gleaningref1_Reader_rule_b_k1 at h
   refine aw_bool (b := v23_1) 23 rfl (fun c8 => ?_) (fun c8 => ?_)
   ·have h := ifT c8 h
    refine aw_cond_t D_ rfl ?_
    refine sr fun K9 hK9 => ?_
    refine pm 24 (.ptr 0 0 0) ?_
    refine pP 25 (does_nilCheck (p := .ptr 0 0 0) W_ rfl) ?_
    refine pf 26 (.ptr 0 0 1) ty59 ty4 ?_
    refine alD none rfl rfl (do_store (cs' := [.sl 1 (List.map enc5 a0.B), .bool true]) W_ W_ W_ ty4 rfl rfl rfl R_) D_ ?_
    refine en hK9 ?_
    refine sr fun K10 hK10 => ?_
    refine pP 27 (do_build_struct (cs := [.int .i64 0, .int .i64 0, .str (strOf []), .str (strOf []), .nil]) ty25 rfl [⟨.int .i64, 1, 8, [.int .i64 0]⟩, ⟨.int .i64, 1, 8, [.int .i64 0]⟩, ⟨.str, 1, 16, [.str ByteArray.empty]⟩, ⟨.str, 1, 16, [.str ByteArray.empty]⟩, ⟨.slice 25, 1, 24, [.nil]⟩] (by simp only [List.map, ty23, ty3, ty9]) (by rfl) R_) ?_
    refine alD none rfl rfl (do_store (cs' := [.int .i64 0, .int .i64 0, .str (strOf []), .str (strOf []), .nil]) W_ W_ W_ ty25 rfl rfl rfl R_) D_ ?_
    refine en hK10 ?_
    refine aw_reb (reb_w (tl' := [(4, .ptr 4 0 0)]) (ol' := [((0, 0), .box [.sl 1 (List.map enc5 a0.B), .bool true]), ((4, 0), .box [.int .i64 0, .int .i64 0, .str (strOf []), .str (strOf []), .sl 5 (List.map enc24 [])])]) (reb_lit [(4, .ptr 4 0 0)] [(0, 0), (4, 0)] [((0, 0), .box [.sl 1 (List.map enc5 a0.B), .bool true]), ((4, 0), .box [.int .i64 0, .int .i64 0, .str (strOf []), .str (strOf []), .nil])] [(0, 1), (4, 1)] (ec envOk_nil) (objOk_cons W_ W_ R_ (by simp) (objOk_cons W_ W_ R_ (by simp) objOk_nil)) (nodup_b rfl) (nodup_b rfl) rfl rfl) ⟨rfl, le_refl _, trivial⟩ ⟨rfl, .rfl _, rfl, (.box ⟨le_refl _, le_refl _, le_refl _, le_refl _, le_nil _, trivial⟩), trivial⟩) ?_
    refine aw_ret ?_
    have h := leafR h hk3
    obtain rfl := Option.some.inj h
    exact ret_okB [] W_ W_ R_ trivial (boxesOk_cons W_ W_ R_ trivial) (nodup_b rfl) (.inr rfl) rfl
   ·have h := ifF c8 h
    refine aw_cond_f D_ rfl ?_
    refine aw_skip ?_
    have h := leafL h hk3
    exact ⟨_, reb_lit [(0, .ptr 0 0 0), (1, .int .i64 a1), (4, .ptr 4 0 0)] [(0, 0), (4, 0)] [((0, 0), .box [.sl 1 (List.map enc5 a0.B), .bool a0.Bad]), ((4, 0), .box [.int .i64 0, .int .i64 0, .str (strOf []), .str (strOf []), .nil])] [(0, 1), (4, 1)] (ec (ec (ec envOk_nil))) (objOk_cons W_ W_ R_ (by simp) (objOk_cons W_ W_ R_ (by simp) objOk_nil)) (nodup_b rfl) (nodup_b rfl) rfl rfl, h, rfl⟩
 ·rintro s ⟨h, rfl⟩
  unfold gleaningref1_Reader_rule_b_k0 at h
  refine sr fun K11 hK11 => ?_
  refine pm 28 (.ptr 0 0 0) ?_
  refine pP 29 (does_nilCheck (p := .ptr 0 0 0) W_ rfl) ?_
  refine pf 30 (.ptr 0 0 0) ty59 ty28 ?_
  refine pl 31 (.sl 1 (List.map enc5 a0.B)) ty28 ?_
  obtain ⟨x12, hx12, h⟩ := bnd_some h
  refine pP 32 (does_indexAddr_sl (el := .int .u8 (x12.toNat : Int)) W_ W_ ty28 ty5 D_ (by exact map_get hx12)) ?_
  refine pl 33 (.int .u8 (x12.toNat : Int)) ty5 ?_
  refine pP 34 (does_conv_int (v := .int .i64 (IntKind.i64.wrap (x12.toNat : Int))) W_ (ty_some ty5) (ty_int ty3) rfl) ?_
  refine pP 35 (do_build_struct (cs := [.int .i64 (IntKind.i64.wrap (x12.toNat : Int)), .int .i64 0, .str (strOf []), .str (strOf []), .nil]) ty25 rfl [⟨.int .i64, 1, 8, [.int .i64 0]⟩, ⟨.int .i64, 1, 8, [.int .i64 0]⟩, ⟨.str, 1, 16, [.str ByteArray.empty]⟩, ⟨.str, 1, 16, [.str ByteArray.empty]⟩, ⟨.slice 25, 1, 24, [.nil]⟩] (by simp only [List.map, ty23, ty3, ty9]) (by rfl) R_) ?_
  refine pD 5 (do_new ty25 rfl rfl) ?_
  refine alD none rfl rfl (do_store (cs' := [.int .i64 (IntKind.i64.wrap (x12.toNat : Int)), .int .i64 0, .str (strOf []), .str (strOf []), .nil]) W_ W_ W_ ty25 rfl rfl rfl R_) D_ ?_
  refine en hK11 ?_
  refine sr fun K13 hK13 => ?_
  refine pm 36 (.ptr 0 0 0) ?_
  refine pm 37 (.ptr 0 0 0) ?_
  refine pP 38 (does_nilCheck (p := .ptr 0 0 0) W_ rfl) ?_
  refine pf 39 (.ptr 0 0 0) ty59 ty28 ?_
  refine pl 40 (.sl 1 (List.map enc5 a0.B)) ty28 ?_
  obtain ⟨g14, h⟩ := gd_some h
  refine pP 41 (does_slice_sl (l := 1) W_ ty28 ty5 (bd_some W_ R_) bd_none (by (try simp only [List.length_map]); omega) (by (try simp only [List.length_map]); omega) (by exact part_l _ _)) ?_
  refine pP 42 (does_nilCheck (p := .ptr 0 0 0) W_ rfl) ?_
  refine pf 43 (.ptr 0 0 0) ty59 ty28 ?_
  refine alD none rfl rfl (do_store (cs' := [.sl 1 (List.map enc5 (List.drop 1 a0.B)), .bool a0.Bad]) W_ W_ W_ ty28 rfl rfl rfl R_) D_ ?_
  refine en hK13 ?_
  refine aw_seq_k (fun K15 hK15 => ?_)
  refine sr fun K16 hK16 => ?_
  refine pf 44 (.ptr 5 0 0) ty25 ty3 ?_
  refine pl 45 (.int .i64 (IntKind.i64.wrap (x12.toNat : Int))) ty3 ?_
  refine en hK16 ?_
  refine aw_block ?_
  obtain ⟨q17, h, hk18⟩ := bnd_some h
  refine aw_cut (fun s => ∃ (v49_2 : Bool), gleaningref1_Reader_rule_b_k2 K a0 a1 x12 v49_2 = some r ∧ s = lit [(0, .ptr 0 0 0), (1, .int .i64 a1), (4, .ptr 4 0 0), (5, .ptr 5 0 0), (45, .int .i64 (IntKind.i64.wrap (x12.toNat : Int))), (49, .bool v49_2)] [((0, 0), .box [.sl 1 (List.map enc5 (List.drop 1 a0.B)), .bool a0.Bad]), ((4, 0), .box [.int .i64 0, .int .i64 0, .str (strOf []), .str (strOf []), .nil]), ((5, 0), .box [.int .i64 (IntKind.i64.wrap (x12.toNat : Int)), .int .i64 0, .str (strOf []), .str (strOf []), .nil])] [(0, 1), (4, 1), (5, 1)] X) ?_ ?_
  ·skip
   refine sr fun K19 hK19 => ?_
   refine pb 50 (.bool ((IntKind.i64.wrap (x12.toNat : Int)) == 1)) ?_
   refine pa 49 (.bool ((IntKind.i64.wrap (x12.toNat : Int)) == 1)) ?_
   refine en hK19 ?_
   refine aw_bool (b := ((IntKind.i64.wrap (x12.toNat : Int)) == 1)) 49 rfl (fun c20 => ?_) (fun c20 => ?_)
   ·have h := ifT c20 h
    refine aw_cond_t D_ rfl ?_
    refine aw_skip ?_
    obtain rfl := Option.some.inj h
    have h := hk18
    exact ⟨_, reb_lit [(0, .ptr 0 0 0), (1, .int .i64 a1), (4, .ptr 4 0 0), (5, .ptr 5 0 0), (45, .int .i64 (IntKind.i64.wrap (x12.toNat : Int))), (49, .bool true)] [(0, 0), (4, 0), (5, 0)] [((0, 0), .box [.sl 1 (List.map enc5 (List.drop 1 a0.B)), .bool a0.Bad]), ((4, 0), .box [.int .i64 0, .int .i64 0, .str (strOf []), .str (strOf []), .nil]), ((5, 0), .box [.int .i64 (IntKind.i64.wrap (x12.toNat : Int)), .int .i64 0, .str (strOf []), .str (strOf []), .nil])] [(0, 1), (4, 1), (5, 1)] (ec (ec (ec (ec (ec (ec envOk_nil)))))) (objOk_cons W_ W_ R_ (by simp) (objOk_cons W_ W_ R_ (by simp) (objOk_cons W_ W_ R_ (by simp) objOk_nil))) (nodup_b rfl) (nodup_b rfl) rfl rfl, true, h, rfl⟩
   ·have h := ifF c20 h
    refine aw_cond_f D_ rfl ?_
    refine sr fun K21 hK21 => ?_
    refine pb 51 (.bool ((IntKind.i64.wrap (x12.toNat : Int)) == 2)) ?_
    refine pa 49 (.bool ((IntKind.i64.wrap (x12.toNat : Int)) == 2)) ?_
    refine en hK21 ?_
    refine aw_bool (b := ((IntKind.i64.wrap (x12.toNat : Int)) == 2)) 49 rfl (fun c22 => ?_) (fun c22 => ?_)
    ·have h := ifT c22 h
     refine aw_cond_t D_ rfl ?_
     refine aw_skip ?_
     obtain rfl := Option.some.inj h
     have h := hk18
     exact ⟨_, reb_lit [(0, .ptr 0 0 0), (1, .int .i64 a1), (4, .ptr 4 0 0), (5, .ptr 5 0 0), (45, .int .i64 (IntKind.i64.wrap (x12.toNat : Int))), (49, .bool true)] [(0, 0), (4, 0), (5, 0)] [((0, 0), .box [.sl 1 (List.map enc5 (List.drop 1 a0.B)), .bool a0.Bad]), ((4, 0), .box [.int .i64 0, .int .i64 0, .str (strOf []), .str (strOf []), .nil]), ((5, 0), .box [.int .i64 (IntKind.i64.wrap (x12.toNat : Int)), .int .i64 0, .str (strOf []), .str (strOf []), .nil])] [(0, 1), (4, 1), (5, 1)] (ec (ec (ec (ec (ec (ec envOk_nil)))))) (objOk_cons W_ W_ R_ (by simp) (objOk_cons W_ W_ R_ (by simp) (objOk_cons W_ W_ R_ (by simp) objOk_nil))) (nodup_b rfl) (nodup_b rfl) rfl rfl, true, h, rfl⟩
    ·have h := ifF c22 h
     refine aw_cond_f D_ rfl ?_
     refine aw_regL ?_
     refine pb 52 (.bool ((IntKind.i64.wrap (x12.toNat : Int)) == 3)) ?_
     refine pa 49 (.bool ((IntKind.i64.wrap (x12.toNat : Int)) == 3)) ?_
     refine al_nil ?_
     obtain rfl := Option.some.inj h
     have h := hk18
     exact ⟨_, reb_lit [(0, .ptr 0 0 0), (1, .int .i64 a1), (4, .ptr 4 0 0), (5, .ptr 5 0 0), (45, .int .i64 (IntKind.i64.wrap (x12.toNat : Int))), (49, .bool ((IntKind.i64.wrap (x12.toNat : Int)) == 3))] [(0, 0), (4, 0), (5, 0)] [((0, 0), .box [.sl 1 (List.map enc5 (List.drop 1 a0.B)), .bool a0.Bad]), ((4, 0), .box [.int .i64 0, .int .i64 0, .str (strOf []), .str (strOf []), .nil]), ((5, 0), .box [.int .i64 (IntKind.i64.wrap (x12.toNat : Int)), .int .i64 0, .str (strOf []), .str (strOf []), .nil])] [(0, 1), (4, 1), (5, 1)] (ec (ec (ec (ec (ec (ec envOk_nil)))))) (objOk_cons W_ W_ R_ (by simp) (objOk_cons W_ W_ R_ (by simp) (objOk_cons W_ W_ R_ (by simp) objOk_nil))) (nodup_b rfl) (nodup_b rfl) rfl rfl, ((IntKind.i64.wrap (x12.toNat : Int)) == 3), h, rfl⟩
  ·rintro s ⟨v49_2, h, rfl⟩
   unfold gleaningref1_Reader_rule_b_k2 at h
   refine aw_bool (b := v49_2) 49 rfl (fun c23 => ?_) (fun c23 => ?_)
   ·have h := ifT c23 h
    refine aw_cond_t D_ rfl ?_
    refine sr fun K24 hK24 => ?_
    refine pm 53 (.ptr 0 0 0) ?_
    obtain ⟨x25, hx25, h⟩ := bnd_some h
    refine pD 54 (do_callG (bcs := [[.sl 1 (List.map enc5 (List.drop 1 a0.B)), .bool a0.Bad]]) [(0, 0)] [] [] 54 false (gleaningref1_Reader_Int_ok (Reader.mk (List.drop 1 a0.B) a0.Bad) 20 hx25) rfl ent22 ⟨R_, trivial⟩ trivial rfl rfl rfl rfl rfl rfl rfl rfl (.inl trivial)) ?_
    refine pa 6 (.int .i64 x25.1) ?_
    refine en hK24 ?_
    refine sr fun K26 hK26 => ?_
    refine pa 7 (.int .i64 0) ?_
    refine en hK26 ?_
    refine aw_block ?_
    refine aw_nilOwnC 5 0 4 5 25 5 (cs := [.int .i64 (IntKind.i64.wrap (x12.toNat : Int)), .int .i64 0, .str (strOf []), .str (strOf []), .nil]) W_ rfl D_ ?_
    refine aw_loop' (fun m s => ∃ (vb0_s_0_3 : List UInt8), ∃ (vb0_s_1_3 : Bool), ∃ (v5_s_4_s_3 : List Rule), ∃ (v7_3 : Int), loopN (fun (s : List UInt8 × Bool × List Rule × Int) => gleaningref1_Reader_rule_b_l3 K a1 x12 x25 s.1 s.2.1 s.2.2.1 s.2.2.2) m (vb0_s_0_3, vb0_s_1_3, v5_s_4_s_3, v7_3) = some r ∧ s = lit [(0, .ptr 0 0 0), (1, .int .i64 a1), (4, .ptr 4 0 0), (5, .ptr 5 0 0), (6, .int .i64 x25.1), (7, .int .i64 v7_3)] [((0, 0), .box [.sl 1 (List.map enc5 vb0_s_0_3), .bool vb0_s_1_3]), ((4, 0), .box [.int .i64 0, .int .i64 0, .str (strOf []), .str (strOf []), .nil]), ((5, 0), .box [.int .i64 (IntKind.i64.wrap (x12.toNat : Int)), .int .i64 0, .str (strOf []), .str (strOf []), .own 5 1]), ((5, 1), .arr 25 5 false (List.map enc24 v5_s_4_s_3))] [(0, 1), (4, 1), (5, 2)] X) Fu
     ⟨_, reb_lit [(0, .ptr 0 0 0), (1, .int .i64 a1), (4, .ptr 4 0 0), (5, .ptr 5 0 0), (6, .int .i64 x25.1), (7, .int .i64 (0))] [(0, 0), (4, 0), (5, 0), (5, 1)] [((0, 0), .box [.sl 1 (List.map enc5 x25.2.B), .bool x25.2.Bad]), ((4, 0), .box [.int .i64 0, .int .i64 0, .str (strOf []), .str (strOf []), .nil]), ((5, 0), .box [.int .i64 (IntKind.i64.wrap (x12.toNat : Int)), .int .i64 0, .str (strOf []), .str (strOf []), .own 5 1]), ((5, 1), .arr 25 5 false (List.map enc24 []))] [(0, 1), (4, 1), (5, 2)] (ec (ec (ec (ec (ec (ec envOk_nil)))))) (objOk_cons W_ W_ R_ (by simp) (objOk_cons W_ W_ R_ (by simp) (objOk_cons W_ W_ R_ (by simp) (objOk_cons W_ W_ R_ (by simp) objOk_nil)))) (nodup_b rfl) (nodup_b rfl) rfl rfl, x25.2.B, x25.2.Bad, [], 0, h, rfl⟩ ?_
    rintro m s ⟨vb0_s_0_3, vb0_s_1_3, v5_s_4_s_3, v7_3, h, rfl⟩
    obtain ⟨m3, q27, rfl, h, hq28⟩ := loop_some h
    replace h : gleaningref1_Reader_rule_b_l3 K a1 x12 x25 vb0_s_0_3 vb0_s_1_3 v5_s_4_s_3 v7_3 = some q27 := h
    unfold gleaningref1_Reader_rule_b_l3 at h
    obtain ⟨q29, h, hk30⟩ := bnd_some h
    refine aw_cut (fun s => gleaningref1_Reader_rule_b_k4 K a1 vb0_s_0_3 vb0_s_1_3 v5_s_4_s_3 v7_3 = some q27 ∧ s = lit [(0, .ptr 0 0 0), (1, .int .i64 a1), (4, .ptr 4 0 0), (5, .ptr 5 0 0), (6, .int .i64 x25.1), (7, .int .i64 v7_3)] [((0, 0), .box [.sl 1 (List.map enc5 vb0_s_0_3), .bool vb0_s_1_3]), ((4, 0), .box [.int .i64 0, .int .i64 0, .str (strOf []), .str (strOf []), .nil]), ((5, 0), .box [.int .i64 (IntKind.i64.wrap (x12.toNat : Int)), .int .i64 0, .str (strOf []), .str (strOf []), .own 5 1]), ((5, 1), .arr 25 5 false (List.map enc24 v5_s_4_s_3))] [(0, 1), (4, 1), (5, 2)] X) ?_ ?_
    ·skip
     refine sr fun K31 hK31 => ?_
     refine pm 55 (.int .i64 v7_3) ?_
     refine pm 56 (.int .i64 x25.1) ?_
     refine pb 57 (.bool (decide (v7_3 < x25.1))) ?_
     refine pm 58 (.bool (decide (v7_3 < x25.1))) ?_
     refine al_bool (c := (decide (v7_3 < x25.1))) 58 rfl (fun c32 => ?_) (fun c32 => ?_)
     ·have h := ifT c32 h
      refine pm 59 (.ptr 0 0 0) ?_
      refine pP 60 (does_nilCheck (p := .ptr 0 0 0) W_ rfl) ?_
      refine pf 61 (.ptr 0 0 1) ty59 ty4 ?_
      refine pl 62 (.bool vb0_s_1_3) ty4 ?_
      refine pP 63 (does_un (v := .bool (!vb0_s_1_3)) W_ rfl) ?_
      refine pk 64 (.bool (!vb0_s_1_3)) ?_
      refine en hK31 ?_
      refine aw_bool (b := (!vb0_s_1_3)) 64 rfl (fun c33 => ?_) (fun c33 => ?_)
      ·have h := ifT c33 h
       refine aw_cond_t D_ rfl ?_
       refine aw_skip ?_
       have h := leafL h hk30
       exact ⟨_, reb_lit [(0, .ptr 0 0 0), (1, .int .i64 a1), (4, .ptr 4 0 0), (5, .ptr 5 0 0), (6, .int .i64 x25.1), (7, .int .i64 v7_3)] [(0, 0), (4, 0), (5, 0), (5, 1)] [((0, 0), .box [.sl 1 (List.map enc5 vb0_s_0_3), .bool vb0_s_1_3]), ((4, 0), .box [.int .i64 0, .int .i64 0, .str (strOf []), .str (strOf []), .nil]), ((5, 0), .box [.int .i64 (IntKind.i64.wrap (x12.toNat : Int)), .int .i64 0, .str (strOf []), .str (strOf []), .own 5 1]), ((5, 1), .arr 25 5 false (List.map enc24 v5_s_4_s_3))] [(0, 1), (4, 1), (5, 2)] (ec (ec (ec (ec (ec (ec envOk_nil)))))) (objOk_cons W_ W_ R_ (by simp) (objOk_cons W_ W_ R_ (by simp) (objOk_cons W_ W_ R_ (by simp) (objOk_cons W_ W_ R_ (by simp) objOk_nil)))) (nodup_b rfl) (nodup_b rfl) rfl rfl, h, rfl⟩
      ·have h := ifF c33 h
       refine aw_cond_f D_ rfl ?_
       refine aw_exit ?_
       have h := leafR h hk30
       have h := leafR h hq28
       refine hK15 _ ?_
       refine sr fun K34 hK34 => ?_
       refine pl 94 (.agg [.int .i64 (IntKind.i64.wrap (x12.toNat : Int)), .int .i64 0, .str (strOf []), .str (strOf []), .own 5 1]) ty25 ?_
       refine alD none rfl rfl (do_store (cs' := [.int .i64 (IntKind.i64.wrap (x12.toNat : Int)), .int .i64 0, .str (strOf []), .str (strOf []), .own 5 1]) W_ W_ W_ ty25 rfl rfl rfl R_) D_ ?_
       refine en hK34 ?_
       refine aw_ret ?_
       obtain rfl := Option.some.inj h
       exact ret_okB [] W_ W_ R_ trivial (boxesOk_cons W_ W_ R_ trivial) (nodup_b rfl) (.inr rfl) rfl
     ·have h := ifF c32 h
      refine pS 59 ?_
      refine pS 60 ?_
      refine pS 61 ?_
      refine pS 62 ?_
      refine pS 63 ?_
      refine pk 64 (.bool false) ?_
      refine en hK31 ?_
      refine aw_cond_f D_ rfl ?_
      refine aw_exit ?_
      have h := leafR h hk30
      have h := leafR h hq28
      refine hK15 _ ?_
      refine sr fun K35 hK35 => ?_
      refine pl 94 (.agg [.int .i64 (IntKind.i64.wrap (x12.toNat : Int)), .int .i64 0, .str (strOf []), .str (strOf []), .own 5 1]) ty25 ?_
      refine alD none rfl rfl (do_store (cs' := [.int .i64 (IntKind.i64.wrap (x12.toNat : Int)), .int .i64 0, .str (strOf []), .str (strOf []), .own 5 1]) W_ W_ W_ ty25 rfl rfl rfl R_) D_ ?_
      refine en hK35 ?_
      refine aw_ret ?_
      obtain rfl := Option.some.inj h
      exact ret_okB [] W_ W_ R_ trivial (boxesOk_cons W_ W_ R_ trivial) (nodup_b rfl) (.inr rfl) rfl
    ·rintro s ⟨h, rfl⟩
     unfold gleaningref1_Reader_rule_b_k4 at h
     refine aw_seq_k (fun K36 hK36 => ?_)
     refine aw_block ?_
     refine aw_regd (by kernel_rfl) (by decide +kernel) ?_
     refine qP 67 (does_fieldAddr (q := .ptr 5 0 4) W_ ty25 rfl ty23 D_ R_) ?_
     refine qR 68 (does_load (v := .own 5 1) W_ W_ ty23 R_) ?_
     refine qP 69 (does_move (v := .ptr 0 0 0) R_) ?_
     refine qP 70 (does_move (v := .int .i64 a1) R_) ?_
     refine qP 71 (does_bin (v := .int .i64 (IntKind.i64.wrap (a1 - 1))) W_ W_ rfl) ?_
     obtain ⟨x37, hx37, h⟩ := bnd_some h
     refine qD 72 (do_callG (bcs := [[.sl 1 (List.map enc5 vb0_s_0_3), .bool vb0_s_1_3]]) [(0, 0)] [] [] 72 false (hK (Reader.mk vb0_s_0_3 vb0_s_1_3) (IntKind.i64.wrap (a1 - 1)) hx37) rfl ent45 ⟨R_, trivial⟩ trivial rfl rfl rfl rfl rfl rfl rfl rfl (.inl trivial)) ?_
     refine qD 73 (do_buildSliceE (f := enc24) (ls := [x37.1]) (xs := [.agg [.int .i64 x37.1.Kind, .int .i64 x37.1.N, .str x37.1.Key, .str x37.1.Value, .sl 5 (List.map enc24 x37.1.Kids)]]) (map_consE (enc24_eq _) rfl) ty23 ty25 rfl rfl rfl rfl rfl rfl rfl rfl) ?_
     obtain ⟨g38, h⟩ := gd_some h
     refine qD 74 (do_append (v := List.map enc24 (v5_s_4_s_3 ++ [x37.1])) W_ W_ ty23 ty25 rfl rfl W_ (by first | exact .inl rfl | exact .inr ⟨rfl, rfl⟩) W_ (by first | exact .inr rfl | exact .inl rfl) (map_app _ _) (fit_map g38)) ?_
     refine qP 75 (does_fieldAddr (q := .ptr 5 0 4) W_ ty25 rfl ty23 D_ R_) ?_
     refine aoD none rfl rfl (do_store (cs' := [.int .i64 (IntKind.i64.wrap (x12.toNat : Int)), .int .i64 0, .str (strOf []), .str (strOf []), .own 74 0]) W_ W_ W_ ty23 rfl rfl rfl R_) D_ ?_
     refine ao_nil_d (by kernel_rfl) ?_
     refine hK36 _ ?_
     refine aw_regL ?_
     refine pm 65 (.int .i64 v7_3) ?_
     refine pb 66 (.int .i64 (IntKind.i64.wrap (v7_3 + 1))) ?_
     refine pa 7 (.int .i64 (IntKind.i64.wrap (v7_3 + 1))) ?_
     refine al_nil ?_
     have h := leafL h hq28
     exact ⟨m3, Nat.lt_succ_self _, _, reb_lit [(0, .ptr 0 0 0), (1, .int .i64 a1), (4, .ptr 4 0 0), (5, .ptr 5 0 0), (6, .int .i64 x25.1), (7, .int .i64 (IntKind.i64.wrap (v7_3 + 1)))] [(0, 0), (4, 0), (5, 0), (74, 0)] [((0, 0), .box [.sl 1 (List.map enc5 x37.2.B), .bool x37.2.Bad]), ((4, 0), .box [.int .i64 0, .int .i64 0, .str (strOf []), .str (strOf []), .nil]), ((5, 0), .box [.int .i64 (IntKind.i64.wrap (x12.toNat : Int)), .int .i64 0, .str (strOf []), .str (strOf []), .own 5 1]), ((5, 1), .arr 25 5 false (List.map enc24 (v5_s_4_s_3 ++ [x37.1])))] [(0, 1), (4, 1), (5, 2)] (ec (ec (ec (ec (ec (ec envOk_nil)))))) (objOk_cons W_ W_ R_ (by simp) (objOk_cons W_ W_ R_ (by simp) (objOk_cons W_ W_ R_ (by simp) (objOk_cons W_ W_ R_ (by simp) objOk_nil)))) (nodup_b rfl) (nodup_b rfl) rfl rfl, x37.2.B, x37.2.Bad, (v5_s_4_s_3 ++ [x37.1]), (IntKind.i64.wrap (v7_3 + 1)), h, rfl⟩
   ·have h := ifF c23 h
    refine aw_cond_f D_ rfl ?_
    refine sr fun K39 hK39 => ?_
    refine pb 77 (.bool ((IntKind.i64.wrap (x12.toNat : Int)) == 6)) ?_
    refine pa 76 (.bool ((IntKind.i64.wrap (x12.toNat : Int)) == 6)) ?_
    refine en hK39 ?_
    refine aw_bool (b := ((IntKind.i64.wrap (x12.toNat : Int)) == 6)) 76 rfl (fun c40 => ?_) (fun c40 => ?_)
    ·have h := ifT c40 h
     refine aw_cond_t D_ rfl ?_
     refine sr fun K41 hK41 => ?_
     refine pm 78 (.ptr 0 0 0) ?_
     obtain ⟨x42, hx42, h⟩ := bnd_some h
     refine pD 79 (do_callG (bcs := [[.sl 1 (List.map enc5 (List.drop 1 a0.B)), .bool a0.Bad]]) [(0, 0)] [] [] 79 false (gleaningref1_Reader_Text_ok (Reader.mk (List.drop 1 a0.B) a0.Bad) hx42) rfl ent71 ⟨R_, trivial⟩ trivial rfl rfl rfl rfl rfl rfl rfl rfl (.inl trivial)) ?_
     refine pf 80 (.ptr 5 0 2) ty25 ty9 ?_
     refine alD none rfl rfl (do_store (cs' := [.int .i64 (IntKind.i64.wrap (x12.toNat : Int)), .int .i64 0, .str x42.1, .str (strOf []), .nil]) W_ W_ W_ ty9 rfl rfl rfl R_) D_ ?_
     refine en hK41 ?_
     refine aw_regL ?_
     refine pm 81 (.ptr 0 0 0) ?_
     obtain ⟨x43, hx43, h⟩ := bnd_some h
     refine pD 82 (do_callG (bcs := [[.sl 1 (List.map enc5 x42.2.B), .bool x42.2.Bad]]) [(0, 0)] [] [] 82 false (gleaningref1_Reader_Text_ok x42.2 hx43) rfl ent71 ⟨R_, trivial⟩ trivial rfl rfl rfl rfl rfl rfl rfl rfl (.inl trivial)) ?_
     refine pf 83 (.ptr 5 0 3) ty25 ty9 ?_
     refine alD none rfl rfl (do_store (cs' := [.int .i64 (IntKind.i64.wrap (x12.toNat : Int)), .int .i64 0, .str x42.1, .str x43.1, .nil]) W_ W_ W_ ty9 rfl rfl rfl R_) D_ ?_
     refine en hK15 ?_
     refine sr fun K44 hK44 => ?_
     refine pl 94 (.agg [.int .i64 (IntKind.i64.wrap (x12.toNat : Int)), .int .i64 0, .str x42.1, .str x43.1, .nil]) ty25 ?_
     refine alD none rfl rfl (do_store (cs' := [.int .i64 (IntKind.i64.wrap (x12.toNat : Int)), .int .i64 0, .str x42.1, .str x43.1, .nil]) W_ W_ W_ ty25 rfl rfl rfl R_) D_ ?_
     refine en hK44 ?_
     refine aw_reb (reb_w (tl' := [(4, .ptr 4 0 0)]) (ol' := [((0, 0), .box [.sl 1 (List.map enc5 x43.2.B), .bool x43.2.Bad]), ((4, 0), .box [.int .i64 (IntKind.i64.wrap (x12.toNat : Int)), .int .i64 0, .str x42.1, .str x43.1, .sl 5 (List.map enc24 [])])]) (reb_lit [(4, .ptr 4 0 0)] [(0, 0), (4, 0)] [((0, 0), .box [.sl 1 (List.map enc5 x43.2.B), .bool x43.2.Bad]), ((4, 0), .box [.int .i64 (IntKind.i64.wrap (x12.toNat : Int)), .int .i64 0, .str x42.1, .str x43.1, .nil])] [(0, 1), (4, 1)] (ec envOk_nil) (objOk_cons W_ W_ R_ (by simp) (objOk_cons W_ W_ R_ (by simp) objOk_nil)) (nodup_b rfl) (nodup_b rfl) rfl rfl) ⟨rfl, le_refl _, trivial⟩ ⟨rfl, .rfl _, rfl, (.box ⟨le_refl _, le_refl _, le_refl _, le_refl _, le_nil _, trivial⟩), trivial⟩) ?_
     refine aw_ret ?_
     obtain rfl := Option.some.inj h
     exact ret_okB [] W_ W_ R_ trivial (boxesOk_cons W_ W_ R_ trivial) (nodup_b rfl) (.inr rfl) rfl
    ·have h := ifF c40 h
     refine aw_cond_f D_ rfl ?_
     refine sr fun K45 hK45 => ?_
     refine pb 85 (.bool ((IntKind.i64.wrap (x12.toNat : Int)) == 5)) ?_
     refine pa 84 (.bool ((IntKind.i64.wrap (x12.toNat : Int)) == 5)) ?_
     refine en hK45 ?_
     refine aw_bool (b := ((IntKind.i64.wrap (x12.toNat : Int)) == 5)) 84 rfl (fun c46 => ?_) (fun c46 => ?_)
     ·have h := ifT c46 h
      refine aw_cond_t D_ rfl ?_
      refine aw_skip ?_
      refine hK15 _ ?_
      refine sr fun K47 hK47 => ?_
      refine pl 94 (.agg [.int .i64 (IntKind.i64.wrap (x12.toNat : Int)), .int .i64 0, .str (strOf []), .str (strOf []), .nil]) ty25 ?_
      refine alD none rfl rfl (do_store (cs' := [.int .i64 (IntKind.i64.wrap (x12.toNat : Int)), .int .i64 0, .str (strOf []), .str (strOf []), .nil]) W_ W_ W_ ty25 rfl rfl rfl R_) D_ ?_
      refine en hK47 ?_
      refine aw_reb (reb_w (tl' := [(4, .ptr 4 0 0)]) (ol' := [((0, 0), .box [.sl 1 (List.map enc5 (List.drop 1 a0.B)), .bool a0.Bad]), ((4, 0), .box [.int .i64 (IntKind.i64.wrap (x12.toNat : Int)), .int .i64 0, .str (strOf []), .str (strOf []), .sl 5 (List.map enc24 [])])]) (reb_lit [(4, .ptr 4 0 0)] [(0, 0), (4, 0)] [((0, 0), .box [.sl 1 (List.map enc5 (List.drop 1 a0.B)), .bool a0.Bad]), ((4, 0), .box [.int .i64 (IntKind.i64.wrap (x12.toNat : Int)), .int .i64 0, .str (strOf []), .str (strOf []), .nil])] [(0, 1), (4, 1)] (ec envOk_nil) (objOk_cons W_ W_ R_ (by simp) (objOk_cons W_ W_ R_ (by simp) objOk_nil)) (nodup_b rfl) (nodup_b rfl) rfl rfl) ⟨rfl, le_refl _, trivial⟩ ⟨rfl, .rfl _, rfl, (.box ⟨le_refl _, le_refl _, le_refl _, le_refl _, le_nil _, trivial⟩), trivial⟩) ?_
      refine aw_ret ?_
      obtain rfl := Option.some.inj h
      exact ret_okB [] W_ W_ R_ trivial (boxesOk_cons W_ W_ R_ trivial) (nodup_b rfl) (.inr rfl) rfl
     ·have h := ifF c46 h
      refine aw_cond_f D_ rfl ?_
      obtain ⟨q48, h, hk49⟩ := bnd_some h
      refine aw_cut (fun s => ∃ (v86_5 : Bool), gleaningref1_Reader_rule_b_k5 a0 x12 v86_5 = some r ∧ s = lit [(0, .ptr 0 0 0), (4, .ptr 4 0 0), (5, .ptr 5 0 0), (86, .bool v86_5)] [((0, 0), .box [.sl 1 (List.map enc5 (List.drop 1 a0.B)), .bool a0.Bad]), ((4, 0), .box [.int .i64 0, .int .i64 0, .str (strOf []), .str (strOf []), .nil]), ((5, 0), .box [.int .i64 (IntKind.i64.wrap (x12.toNat : Int)), .int .i64 0, .str (strOf []), .str (strOf []), .nil])] [(0, 1), (4, 1), (5, 1)] X) ?_ ?_
      ·skip
       refine sr fun K50 hK50 => ?_
       refine pb 87 (.bool ((IntKind.i64.wrap (x12.toNat : Int)) == 4)) ?_
       refine pa 86 (.bool ((IntKind.i64.wrap (x12.toNat : Int)) == 4)) ?_
       refine en hK50 ?_
       refine aw_bool (b := ((IntKind.i64.wrap (x12.toNat : Int)) == 4)) 86 rfl (fun c51 => ?_) (fun c51 => ?_)
       ·have h := ifT c51 h
        refine aw_cond_t D_ rfl ?_
        refine aw_skip ?_
        obtain rfl := Option.some.inj h
        have h := hk49
        exact ⟨_, reb_lit [(0, .ptr 0 0 0), (4, .ptr 4 0 0), (5, .ptr 5 0 0), (86, .bool true)] [(0, 0), (4, 0), (5, 0)] [((0, 0), .box [.sl 1 (List.map enc5 (List.drop 1 a0.B)), .bool a0.Bad]), ((4, 0), .box [.int .i64 0, .int .i64 0, .str (strOf []), .str (strOf []), .nil]), ((5, 0), .box [.int .i64 (IntKind.i64.wrap (x12.toNat : Int)), .int .i64 0, .str (strOf []), .str (strOf []), .nil])] [(0, 1), (4, 1), (5, 1)] (ec (ec (ec (ec envOk_nil)))) (objOk_cons W_ W_ R_ (by simp) (objOk_cons W_ W_ R_ (by simp) (objOk_cons W_ W_ R_ (by simp) objOk_nil))) (nodup_b rfl) (nodup_b rfl) rfl rfl, true, h, rfl⟩
       ·have h := ifF c51 h
        refine aw_cond_f D_ rfl ?_
        refine sr fun K52 hK52 => ?_
        refine pb 88 (.bool ((IntKind.i64.wrap (x12.toNat : Int)) == 7)) ?_
        refine pa 86 (.bool ((IntKind.i64.wrap (x12.toNat : Int)) == 7)) ?_
        refine en hK52 ?_
        refine aw_bool (b := ((IntKind.i64.wrap (x12.toNat : Int)) == 7)) 86 rfl (fun c53 => ?_) (fun c53 => ?_)
        ·have h := ifT c53 h
         refine aw_cond_t D_ rfl ?_
         refine aw_skip ?_
         obtain rfl := Option.some.inj h
         have h := hk49
         exact ⟨_, reb_lit [(0, .ptr 0 0 0), (4, .ptr 4 0 0), (5, .ptr 5 0 0), (86, .bool true)] [(0, 0), (4, 0), (5, 0)] [((0, 0), .box [.sl 1 (List.map enc5 (List.drop 1 a0.B)), .bool a0.Bad]), ((4, 0), .box [.int .i64 0, .int .i64 0, .str (strOf []), .str (strOf []), .nil]), ((5, 0), .box [.int .i64 (IntKind.i64.wrap (x12.toNat : Int)), .int .i64 0, .str (strOf []), .str (strOf []), .nil])] [(0, 1), (4, 1), (5, 1)] (ec (ec (ec (ec envOk_nil)))) (objOk_cons W_ W_ R_ (by simp) (objOk_cons W_ W_ R_ (by simp) (objOk_cons W_ W_ R_ (by simp) objOk_nil))) (nodup_b rfl) (nodup_b rfl) rfl rfl, true, h, rfl⟩
        ·have h := ifF c53 h
         refine aw_cond_f D_ rfl ?_
         refine sr fun K54 hK54 => ?_
         refine pb 89 (.bool ((IntKind.i64.wrap (x12.toNat : Int)) == 8)) ?_
         refine pa 86 (.bool ((IntKind.i64.wrap (x12.toNat : Int)) == 8)) ?_
         refine en hK54 ?_
         refine aw_bool (b := ((IntKind.i64.wrap (x12.toNat : Int)) == 8)) 86 rfl (fun c55 => ?_) (fun c55 => ?_)
         ·have h := ifT c55 h
          refine aw_cond_t D_ rfl ?_
          refine aw_skip ?_
          obtain rfl := Option.some.inj h
          have h := hk49
          exact ⟨_, reb_lit [(0, .ptr 0 0 0), (4, .ptr 4 0 0), (5, .ptr 5 0 0), (86, .bool true)] [(0, 0), (4, 0), (5, 0)] [((0, 0), .box [.sl 1 (List.map enc5 (List.drop 1 a0.B)), .bool a0.Bad]), ((4, 0), .box [.int .i64 0, .int .i64 0, .str (strOf []), .str (strOf []), .nil]), ((5, 0), .box [.int .i64 (IntKind.i64.wrap (x12.toNat : Int)), .int .i64 0, .str (strOf []), .str (strOf []), .nil])] [(0, 1), (4, 1), (5, 1)] (ec (ec (ec (ec envOk_nil)))) (objOk_cons W_ W_ R_ (by simp) (objOk_cons W_ W_ R_ (by simp) (objOk_cons W_ W_ R_ (by simp) objOk_nil))) (nodup_b rfl) (nodup_b rfl) rfl rfl, true, h, rfl⟩
         ·have h := ifF c55 h
          refine aw_cond_f D_ rfl ?_
          refine aw_regL ?_
          refine pb 90 (.bool ((IntKind.i64.wrap (x12.toNat : Int)) == 9)) ?_
          refine pa 86 (.bool ((IntKind.i64.wrap (x12.toNat : Int)) == 9)) ?_
          refine al_nil ?_
          obtain rfl := Option.some.inj h
          have h := hk49
          exact ⟨_, reb_lit [(0, .ptr 0 0 0), (4, .ptr 4 0 0), (5, .ptr 5 0 0), (86, .bool ((IntKind.i64.wrap (x12.toNat : Int)) == 9))] [(0, 0), (4, 0), (5, 0)] [((0, 0), .box [.sl 1 (List.map enc5 (List.drop 1 a0.B)), .bool a0.Bad]), ((4, 0), .box [.int .i64 0, .int .i64 0, .str (strOf []), .str (strOf []), .nil]), ((5, 0), .box [.int .i64 (IntKind.i64.wrap (x12.toNat : Int)), .int .i64 0, .str (strOf []), .str (strOf []), .nil])] [(0, 1), (4, 1), (5, 1)] (ec (ec (ec (ec envOk_nil)))) (objOk_cons W_ W_ R_ (by simp) (objOk_cons W_ W_ R_ (by simp) (objOk_cons W_ W_ R_ (by simp) objOk_nil))) (nodup_b rfl) (nodup_b rfl) rfl rfl, ((IntKind.i64.wrap (x12.toNat : Int)) == 9), h, rfl⟩
      ·rintro s ⟨v86_5, h, rfl⟩
       unfold gleaningref1_Reader_rule_b_k5 at h
       refine aw_bool (b := v86_5) 86 rfl (fun c56 => ?_) (fun c56 => ?_)
       ·have h := ifT c56 h
        refine aw_cond_t D_ rfl ?_
        refine aw_regL ?_
        refine pm 91 (.ptr 0 0 0) ?_
        obtain ⟨x57, hx57, h⟩ := bnd_some h
        refine pD 92 (do_callG (bcs := [[.sl 1 (List.map enc5 (List.drop 1 a0.B)), .bool a0.Bad]]) [(0, 0)] [] [] 92 false (gleaningref1_Reader_Int_ok (Reader.mk (List.drop 1 a0.B) a0.Bad) 1073741824 hx57) rfl ent22 ⟨R_, trivial⟩ trivial rfl rfl rfl rfl rfl rfl rfl rfl (.inl trivial)) ?_
        refine pf 93 (.ptr 5 0 1) ty25 ty3 ?_
        refine alD none rfl rfl (do_store (cs' := [.int .i64 (IntKind.i64.wrap (x12.toNat : Int)), .int .i64 x57.1, .str (strOf []), .str (strOf []), .nil]) W_ W_ W_ ty3 rfl rfl rfl R_) D_ ?_
        refine en hK15 ?_
        refine sr fun K58 hK58 => ?_
        refine pl 94 (.agg [.int .i64 (IntKind.i64.wrap (x12.toNat : Int)), .int .i64 x57.1, .str (strOf []), .str (strOf []), .nil]) ty25 ?_
        refine alD none rfl rfl (do_store (cs' := [.int .i64 (IntKind.i64.wrap (x12.toNat : Int)), .int .i64 x57.1, .str (strOf []), .str (strOf []), .nil]) W_ W_ W_ ty25 rfl rfl rfl R_) D_ ?_
        refine en hK58 ?_
        refine aw_reb (reb_w (tl' := [(4, .ptr 4 0 0)]) (ol' := [((0, 0), .box [.sl 1 (List.map enc5 x57.2.B), .bool x57.2.Bad]), ((4, 0), .box [.int .i64 (IntKind.i64.wrap (x12.toNat : Int)), .int .i64 x57.1, .str (strOf []), .str (strOf []), .sl 5 (List.map enc24 [])])]) (reb_lit [(4, .ptr 4 0 0)] [(0, 0), (4, 0)] [((0, 0), .box [.sl 1 (List.map enc5 x57.2.B), .bool x57.2.Bad]), ((4, 0), .box [.int .i64 (IntKind.i64.wrap (x12.toNat : Int)), .int .i64 x57.1, .str (strOf []), .str (strOf []), .nil])] [(0, 1), (4, 1)] (ec envOk_nil) (objOk_cons W_ W_ R_ (by simp) (objOk_cons W_ W_ R_ (by simp) objOk_nil)) (nodup_b rfl) (nodup_b rfl) rfl rfl) ⟨rfl, le_refl _, trivial⟩ ⟨rfl, .rfl _, rfl, (.box ⟨le_refl _, le_refl _, le_refl _, le_refl _, le_nil _, trivial⟩), trivial⟩) ?_
        refine aw_ret ?_
        obtain rfl := Option.some.inj h
        exact ret_okB [] W_ W_ R_ trivial (boxesOk_cons W_ W_ R_ trivial) (nodup_b rfl) (.inr rfl) rfl
       ·have h := ifF c56 h
        refine aw_cond_f D_ rfl ?_
        refine aw_regL ?_
        refine pm 46 (.ptr 0 0 0) ?_
        refine pP 47 (does_nilCheck (p := .ptr 0 0 0) W_ rfl) ?_
        refine pf 48 (.ptr 0 0 1) ty59 ty4 ?_
        refine alD none rfl rfl (do_store (cs' := [.sl 1 (List.map enc5 (List.drop 1 a0.B)), .bool true]) W_ W_ W_ ty4 rfl rfl rfl R_) D_ ?_
        refine en hK15 ?_
        refine sr fun K59 hK59 => ?_
        refine pl 94 (.agg [.int .i64 (IntKind.i64.wrap (x12.toNat : Int)), .int .i64 0, .str (strOf []), .str (strOf []), .nil]) ty25 ?_
        refine alD none rfl rfl (do_store (cs' := [.int .i64 (IntKind.i64.wrap (x12.toNat : Int)), .int .i64 0, .str (strOf []), .str (strOf []), .nil]) W_ W_ W_ ty25 rfl rfl rfl R_) D_ ?_
        refine en hK59 ?_
        refine aw_reb (reb_w (tl' := [(4, .ptr 4 0 0)]) (ol' := [((0, 0), .box [.sl 1 (List.map enc5 (List.drop 1 a0.B)), .bool true]), ((4, 0), .box [.int .i64 (IntKind.i64.wrap (x12.toNat : Int)), .int .i64 0, .str (strOf []), .str (strOf []), .sl 5 (List.map enc24 [])])]) (reb_lit [(4, .ptr 4 0 0)] [(0, 0), (4, 0)] [((0, 0), .box [.sl 1 (List.map enc5 (List.drop 1 a0.B)), .bool true]), ((4, 0), .box [.int .i64 (IntKind.i64.wrap (x12.toNat : Int)), .int .i64 0, .str (strOf []), .str (strOf []), .nil])] [(0, 1), (4, 1)] (ec envOk_nil) (objOk_cons W_ W_ R_ (by simp) (objOk_cons W_ W_ R_ (by simp) objOk_nil)) (nodup_b rfl) (nodup_b rfl) rfl rfl) ⟨rfl, le_refl _, trivial⟩ ⟨rfl, .rfl _, rfl, (.box ⟨le_refl _, le_refl _, le_refl _, le_refl _, le_nil _, trivial⟩), trivial⟩) ?_
        refine aw_ret ?_
        obtain rfl := Option.some.inj h
        exact ret_okB [] W_ W_ R_ trivial (boxesOk_cons W_ W_ R_ trivial) (nodup_b rfl) (.inr rfl) rfl
def gleaningref1_Reader_ruleN : Nat → Reader → Int → Option (Rule × Reader)
 | 0, _, _ => none
 | n + 1, a0, a1 => gleaningref1_Reader_rule_b (gleaningref1_Reader_ruleN n) a0 a1
theorem gleaningref1_Reader_ruleN_ok : ∀ (n : Nat) (a0 : Reader) (a1 : Int) {r : Rule × Reader}, gleaningref1_Reader_ruleN n a0 a1 = some r → Ok Try.prog 45 [.ptr 0 0 0, .int .i64 a1] [[.sl 1 (List.map enc5 a0.B), .bool a0.Bad]] [] (.agg [.int .i64 r.1.Kind, .int .i64 r.1.N, .str r.1.Key, .str r.1.Value, .sl 5 (List.map enc24 r.1.Kids)]) [[.sl 1 (List.map enc5 r.2.B), .bool r.2.Bad]] []
 | 0, _, _, _, h => by simp [gleaningref1_Reader_ruleN] at h
 | n + 1, a0, a1, _, h => gleaningref1_Reader_rule_b_ok (gleaningref1_Reader_ruleN n) (gleaningref1_Reader_ruleN_ok n) a0 a1 h
def gleaningref1_Reader_rule (a0 : Reader) (a1 : Int) : Option (Rule × Reader) := gleaningref1_Reader_ruleN Fu a0 a1
theorem gleaningref1_Reader_rule_ok (a0 : Reader) (a1 : Int) {r : Rule × Reader} (h : gleaningref1_Reader_rule a0 a1 = some r) : Ok Try.prog 45 [.ptr 0 0 0, .int .i64 a1] [[.sl 1 (List.map enc5 a0.B), .bool a0.Bad]] [] (.agg [.int .i64 r.1.Kind, .int .i64 r.1.N, .str r.1.Key, .str r.1.Value, .sl 5 (List.map enc24 r.1.Kids)]) [[.sl 1 (List.map enc5 r.2.B), .bool r.2.Bad]] [] := gleaningref1_Reader_ruleN_ok Fu a0 a1 h
def gleaningref1_ReadRule (a0 : List UInt8) : Option (Rule × Int) :=
 Option.bind (gleaningref1_Reader_rule (Reader.mk a0 false) 5) (fun (x4 : Rule × Reader) => if x4.2.Bad = true then (some ((Rule.mk 0 0 (strOf []) (strOf []) []), 2)) else (if (decide ((0 : Int) < (List.length x4.2.B : Int))) = true then (some ((Rule.mk 0 0 (strOf []) (strOf []) []), 2)) else (Option.bind (gleaningref1_RightRule x4.1) (fun (x11 : Bool) => if (!x11) = true then (some ((Rule.mk 0 0 (strOf []) (strOf []) []), 2)) else (some (x4.1, 0))))))
theorem gleaningref1_ReadRule_ok (a0 : List UInt8) {r : Rule × Int} (h : gleaningref1_ReadRule a0 = some r) : Ok Try.prog 23 [.sl 1 (List.map enc5 a0)] [] [] (.tup [.agg [.int .i64 r.1.Kind, .int .i64 r.1.N, .str r.1.Key, .str r.1.Value, .sl 5 (List.map enc24 r.1.Kids)], .int .i64 r.2]) [] [] := by
 unfold gleaningref1_ReadRule at h
 refine ok_of_code Try.func23 rfl (by show (1 : Nat) ≤ _; decide) (Nat.le_refl _) fun X => ?_
 refine sr fun K1 hK1 => ?_
 refine pD 2 (do_new ty25 rfl rfl) ?_
 refine pa 3 (.int .i64 0) ?_
 refine en hK1 ?_
 refine sr fun K2 hK2 => ?_
 refine pm 6 (.sl 1 (List.map enc5 a0)) ?_
 refine pP 7 (do_build_struct (cs := [.sl 1 (List.map enc5 a0), .bool false]) ty59 rfl [⟨.slice 5, 1, 24, [.nil]⟩, ⟨.bool, 1, 1, [.bool false]⟩] (by simp only [List.map, ty28, ty4]) (by rfl) R_) ?_
 refine pD 8 (do_box W_ rfl rfl) ?_
 refine pa 4 (.ptr 8 0 0) ?_
 refine en hK2 ?_
 refine sr fun K3 hK3 => ?_
 refine pm 9 (.ptr 8 0 0) ?_
 obtain ⟨x4, hx4, h⟩ := bnd_some h
 refine pD 10 (do_callG (bcs := [[.sl 1 (List.map enc5 a0), .bool false]]) [(8, 0)] [] [] 10 false (gleaningref1_Reader_rule_ok (Reader.mk a0 false) 5 hx4) rfl ent45 ⟨R_, trivial⟩ trivial rfl rfl rfl rfl rfl rfl rfl rfl (.inl trivial)) ?_
 refine pD 5 (do_new ty25 rfl rfl) ?_
 refine alD none rfl rfl (do_store (cs' := [.int .i64 x4.1.Kind, .int .i64 x4.1.N, .str x4.1.Key, .str x4.1.Value, .sl 5 (List.map enc24 x4.1.Kids)]) W_ W_ W_ ty25 rfl rfl rfl R_) D_ ?_
 refine en hK3 ?_
 refine aw_seq_k (fun K5 hK5 => ?_)
 refine sr fun K6 hK6 => ?_
 refine pm 11 (.ptr 8 0 0) ?_
 refine pP 12 (does_nilCheck (p := .ptr 8 0 0) W_ rfl) ?_
 refine pf 13 (.ptr 8 0 1) ty59 ty4 ?_
 refine pl 14 (.bool x4.2.Bad) ty4 ?_
 refine pm 15 (.bool x4.2.Bad) ?_
 refine al_bool (c := x4.2.Bad) 15 rfl (fun c7 => ?_) (fun c7 => ?_)
 ·have h := ifT c7 h
  refine pS 16 ?_
  refine pS 17 ?_
  refine pS 18 ?_
  refine pS 19 ?_
  refine pS 20 ?_
  refine pS 21 ?_
  refine pk 22 (.bool true) ?_
  refine pm 23 (.bool true) ?_
  refine pS 24 ?_
  refine pS 25 ?_
  refine pS 26 ?_
  refine pk 27 (.bool true) ?_
  refine en hK6 ?_
  refine aw_cond_t D_ rfl ?_
  refine sr fun K8 hK8 => ?_
  refine pP 28 (do_build_struct (cs := [.int .i64 0, .int .i64 0, .str (strOf []), .str (strOf []), .nil]) ty25 rfl [⟨.int .i64, 1, 8, [.int .i64 0]⟩, ⟨.int .i64, 1, 8, [.int .i64 0]⟩, ⟨.str, 1, 16, [.str ByteArray.empty]⟩, ⟨.str, 1, 16, [.str ByteArray.empty]⟩, ⟨.slice 25, 1, 24, [.nil]⟩] (by simp only [List.map, ty23, ty3, ty9]) (by rfl) R_) ?_
  refine alD none rfl rfl (do_store (cs' := [.int .i64 0, .int .i64 0, .str (strOf []), .str (strOf []), .nil]) W_ W_ W_ ty25 rfl rfl rfl R_) D_ ?_
  refine pa 3 (.int .i64 2) ?_
  refine en hK8 ?_
  refine aw_reb (reb_w (tl' := [(2, .ptr 2 0 0), (3, .int .i64 2)]) (ol' := [((2, 0), .box [.int .i64 0, .int .i64 0, .str (strOf []), .str (strOf []), .sl 5 (List.map enc24 [])])]) (reb_lit [(2, .ptr 2 0 0), (3, .int .i64 2)] [(2, 0)] [((2, 0), .box [.int .i64 0, .int .i64 0, .str (strOf []), .str (strOf []), .nil])] [(2, 1)] (ec (ec envOk_nil)) (objOk_cons W_ W_ R_ (by simp) objOk_nil) (nodup_b rfl) (nodup_b rfl) rfl rfl) ⟨rfl, le_refl _, rfl, le_refl _, trivial⟩ ⟨rfl, (.box ⟨le_refl _, le_refl _, le_refl _, le_refl _, le_nil _, trivial⟩), trivial⟩) ?_
  refine aw_ret ?_
  obtain rfl := Option.some.inj h
  exact ret_ok1 W_ W_ R_ (.inr rfl) rfl
 ·have h := ifF c7 h
  refine pm 16 (.ptr 8 0 0) ?_
  refine pP 17 (does_nilCheck (p := .ptr 8 0 0) W_ rfl) ?_
  refine pf 18 (.ptr 8 0 0) ty59 ty28 ?_
  refine pl 19 (.sl 1 (List.map enc5 x4.2.B)) ty28 ?_
  refine pP 20 ((does_len_sl W_ ty28).castp (v' := .int .i64 (List.length x4.2.B : Int)) (by exact len_map _)) ?_
  refine pb 21 (.bool (decide ((0 : Int) < (List.length x4.2.B : Int)))) ?_
  refine pk 22 (.bool (decide ((0 : Int) < (List.length x4.2.B : Int)))) ?_
  refine pm 23 (.bool (decide ((0 : Int) < (List.length x4.2.B : Int)))) ?_
  refine al_bool (c := (decide ((0 : Int) < (List.length x4.2.B : Int)))) 23 rfl (fun c9 => ?_) (fun c9 => ?_)
  ·have h := ifT c9 h
   refine pS 24 ?_
   refine pS 25 ?_
   refine pS 26 ?_
   refine pk 27 (.bool true) ?_
   refine en hK6 ?_
   refine aw_cond_t D_ rfl ?_
   refine sr fun K10 hK10 => ?_
   refine pP 28 (do_build_struct (cs := [.int .i64 0, .int .i64 0, .str (strOf []), .str (strOf []), .nil]) ty25 rfl [⟨.int .i64, 1, 8, [.int .i64 0]⟩, ⟨.int .i64, 1, 8, [.int .i64 0]⟩, ⟨.str, 1, 16, [.str ByteArray.empty]⟩, ⟨.str, 1, 16, [.str ByteArray.empty]⟩, ⟨.slice 25, 1, 24, [.nil]⟩] (by simp only [List.map, ty23, ty3, ty9]) (by rfl) R_) ?_
   refine alD none rfl rfl (do_store (cs' := [.int .i64 0, .int .i64 0, .str (strOf []), .str (strOf []), .nil]) W_ W_ W_ ty25 rfl rfl rfl R_) D_ ?_
   refine pa 3 (.int .i64 2) ?_
   refine en hK10 ?_
   refine aw_reb (reb_w (tl' := [(2, .ptr 2 0 0), (3, .int .i64 2)]) (ol' := [((2, 0), .box [.int .i64 0, .int .i64 0, .str (strOf []), .str (strOf []), .sl 5 (List.map enc24 [])])]) (reb_lit [(2, .ptr 2 0 0), (3, .int .i64 2)] [(2, 0)] [((2, 0), .box [.int .i64 0, .int .i64 0, .str (strOf []), .str (strOf []), .nil])] [(2, 1)] (ec (ec envOk_nil)) (objOk_cons W_ W_ R_ (by simp) objOk_nil) (nodup_b rfl) (nodup_b rfl) rfl rfl) ⟨rfl, le_refl _, rfl, le_refl _, trivial⟩ ⟨rfl, (.box ⟨le_refl _, le_refl _, le_refl _, le_refl _, le_nil _, trivial⟩), trivial⟩) ?_
   refine aw_ret ?_
   obtain rfl := Option.some.inj h
   exact ret_ok1 W_ W_ R_ (.inr rfl) rfl
  ·have h := ifF c9 h
   refine pl 24 (.agg [.int .i64 x4.1.Kind, .int .i64 x4.1.N, .str x4.1.Key, .str x4.1.Value, .sl 5 (List.map enc24 x4.1.Kids)]) ty25 ?_
   obtain ⟨x11, hx11, h⟩ := bnd_some h
   refine pD 25 (do_call0 25 false (gleaningref1_RightRule_ok x4.1 hx11) rfl ent46 rfl rfl) ?_
   refine pP 26 (does_un (v := .bool (!x11)) W_ rfl) ?_
   refine pk 27 (.bool (!x11)) ?_
   refine en hK6 ?_
   refine aw_bool (b := (!x11)) 27 rfl (fun c12 => ?_) (fun c12 => ?_)
   ·have h := ifT c12 h
    refine aw_cond_t D_ rfl ?_
    refine sr fun K13 hK13 => ?_
    refine pP 28 (do_build_struct (cs := [.int .i64 0, .int .i64 0, .str (strOf []), .str (strOf []), .nil]) ty25 rfl [⟨.int .i64, 1, 8, [.int .i64 0]⟩, ⟨.int .i64, 1, 8, [.int .i64 0]⟩, ⟨.str, 1, 16, [.str ByteArray.empty]⟩, ⟨.str, 1, 16, [.str ByteArray.empty]⟩, ⟨.slice 25, 1, 24, [.nil]⟩] (by simp only [List.map, ty23, ty3, ty9]) (by rfl) R_) ?_
    refine alD none rfl rfl (do_store (cs' := [.int .i64 0, .int .i64 0, .str (strOf []), .str (strOf []), .nil]) W_ W_ W_ ty25 rfl rfl rfl R_) D_ ?_
    refine pa 3 (.int .i64 2) ?_
    refine en hK13 ?_
    refine aw_reb (reb_w (tl' := [(2, .ptr 2 0 0), (3, .int .i64 2)]) (ol' := [((2, 0), .box [.int .i64 0, .int .i64 0, .str (strOf []), .str (strOf []), .sl 5 (List.map enc24 [])])]) (reb_lit [(2, .ptr 2 0 0), (3, .int .i64 2)] [(2, 0)] [((2, 0), .box [.int .i64 0, .int .i64 0, .str (strOf []), .str (strOf []), .nil])] [(2, 1)] (ec (ec envOk_nil)) (objOk_cons W_ W_ R_ (by simp) objOk_nil) (nodup_b rfl) (nodup_b rfl) rfl rfl) ⟨rfl, le_refl _, rfl, le_refl _, trivial⟩ ⟨rfl, (.box ⟨le_refl _, le_refl _, le_refl _, le_refl _, le_nil _, trivial⟩), trivial⟩) ?_
    refine aw_ret ?_
    obtain rfl := Option.some.inj h
    exact ret_ok1 W_ W_ R_ (.inr rfl) rfl
   ·have h := ifF c12 h
    refine aw_cond_f D_ rfl ?_
    refine aw_skip ?_
    refine hK5 _ ?_
    refine sr fun K14 hK14 => ?_
    refine pl 29 (.agg [.int .i64 x4.1.Kind, .int .i64 x4.1.N, .str x4.1.Key, .str x4.1.Value, .sl 5 (List.map enc24 x4.1.Kids)]) ty25 ?_
    refine alD none rfl rfl (do_store (cs' := [.int .i64 x4.1.Kind, .int .i64 x4.1.N, .str x4.1.Key, .str x4.1.Value, .sl 5 (List.map enc24 x4.1.Kids)]) W_ W_ W_ ty25 rfl rfl rfl R_) D_ ?_
    refine pa 3 (.int .i64 0) ?_
    refine en hK14 ?_
    refine aw_ret ?_
    obtain rfl := Option.some.inj h
    exact ret_ok1 W_ W_ R_ (.inr rfl) rfl
def gleaningref1_SameRule_b_l1 (K : Rule → Rule → Option Bool) (a0 : Rule) (a1 : Rule) (v5_1 : Int) : Option (Int ⊕ Bool) :=
 if (decide (v5_1 < (List.length a0.Kids : Int))) = true then (gd (0 ≤ v5_1) (Option.bind (a0.Kids[(Int.toNat v5_1)]?) (fun (x25 : Rule) => gd (0 ≤ v5_1) (Option.bind (a1.Kids[(Int.toNat v5_1)]?) (fun (x27 : Rule) => Option.bind (K x25 x27) (fun (x28 : Bool) => if (!x28) = true then (some (Sum.inr false)) else (some (Sum.inl (IntKind.i64.wrap (v5_1 + 1)))))))))) else (some (Sum.inr true))
def gleaningref1_SameRule_b_k0 (K : Rule → Rule → Option Bool) (a0 : Rule) (a1 : Rule) : Option Bool :=
 loopN (fun (s : Int) => gleaningref1_SameRule_b_l1 K a0 a1 s) Fu 0
def gleaningref1_SameRule_b (K : Rule → Rule → Option Bool) (a0 : Rule) (a1 : Rule) : Option Bool :=
 Option.bind (if (a0.Kind != a1.Kind) = true then (some (Sum.inr false)) else (if (a0.N != a1.N) = true then (some (Sum.inr false)) else (if (!(ByteArray.toList a0.Key == ByteArray.toList a1.Key)) = true then (some (Sum.inr false)) else (if (!(ByteArray.toList a0.Value == ByteArray.toList a1.Value)) = true then (some (Sum.inr false)) else (if ((List.length a0.Kids : Int) != (List.length a1.Kids : Int)) = true then (some (Sum.inr false)) else (some (Sum.inl ()))))))) (Sum.elim (fun (s : Unit) => gleaningref1_SameRule_b_k0 K a0 a1) some)
theorem gleaningref1_SameRule_b_ok (K : Rule → Rule → Option Bool) (hK : ∀ (a0 : Rule) (a1 : Rule) {r : Bool}, K a0 a1 = some r → Ok Try.prog 28 [.agg [.int .i64 a0.Kind, .int .i64 a0.N, .str a0.Key, .str a0.Value, .sl 5 (List.map enc24 a0.Kids)], .agg [.int .i64 a1.Kind, .int .i64 a1.N, .str a1.Key, .str a1.Value, .sl 5 (List.map enc24 a1.Kids)]] [] [] (.bool r) [] []) (a0 : Rule) (a1 : Rule) {r : Bool} (h : gleaningref1_SameRule_b K a0 a1 = some r) : Ok Try.prog 28 [.agg [.int .i64 a0.Kind, .int .i64 a0.N, .str a0.Key, .str a0.Value, .sl 5 (List.map enc24 a0.Kids)], .agg [.int .i64 a1.Kind, .int .i64 a1.N, .str a1.Key, .str a1.Value, .sl 5 (List.map enc24 a1.Kids)]] [] [] (.bool r) [] [] := by
 unfold gleaningref1_SameRule_b at h
 refine ok_of_code Try.func28 rfl (by show (2 : Nat) ≤ _; decide) (Nat.le_refl _) fun X => ?_
 refine sr fun K1 hK1 => ?_
 refine pD 2 (do_box W_ rfl rfl) ?_
 refine pD 3 (do_box W_ rfl rfl) ?_
 refine pa 4 (.bool false) ?_
 refine en hK1 ?_
 obtain ⟨q2, h, hk3⟩ := bnd_some h
 refine aw_cut (fun s => gleaningref1_SameRule_b_k0 K a0 a1 = some r ∧ s = lit [(2, .ptr 2 0 0), (3, .ptr 3 0 0)] [((2, 0), .box [.int .i64 a0.Kind, .int .i64 a0.N, .str a0.Key, .str a0.Value, .sl 5 (List.map enc24 a0.Kids)]), ((3, 0), .box [.int .i64 a1.Kind, .int .i64 a1.N, .str a1.Key, .str a1.Value, .sl 5 (List.map enc24 a1.Kids)])] [(2, 1), (3, 1)] X) ?_ ?_
 ·skip
  refine sr fun K4 hK4 => ?_
  refine pf 6 (.ptr 2 0 0) ty25 ty3 ?_
  refine pl 7 (.int .i64 a0.Kind) ty3 ?_
  refine pf 8 (.ptr 3 0 0) ty25 ty3 ?_
  refine pl 9 (.int .i64 a1.Kind) ty3 ?_
  refine pb 10 (.bool (a0.Kind != a1.Kind)) ?_
  refine pm 11 (.bool (a0.Kind != a1.Kind)) ?_
  refine al_bool (c := (a0.Kind != a1.Kind)) 11 rfl (fun c5 => ?_) (fun c5 => ?_)
  ·have h := ifT c5 h
   refine pS 12 ?_
   refine pS 13 ?_
   refine pS 14 ?_
   refine pS 15 ?_
   refine pS 16 ?_
   refine pk 17 (.bool true) ?_
   refine pm 18 (.bool true) ?_
   refine pS 19 ?_
   refine pS 20 ?_
   refine pS 21 ?_
   refine pS 22 ?_
   refine pS 23 ?_
   refine pk 24 (.bool true) ?_
   refine pm 25 (.bool true) ?_
   refine pS 26 ?_
   refine pS 27 ?_
   refine pS 28 ?_
   refine pS 29 ?_
   refine pS 30 ?_
   refine pk 31 (.bool true) ?_
   refine pm 32 (.bool true) ?_
   refine pS 33 ?_
   refine pS 34 ?_
   refine pS 35 ?_
   refine pS 36 ?_
   refine pS 37 ?_
   refine pS 38 ?_
   refine pS 39 ?_
   refine pk 40 (.bool true) ?_
   refine en hK4 ?_
   refine aw_cond_t D_ rfl ?_
   refine sr fun K6 hK6 => ?_
   refine pa 4 (.bool false) ?_
   refine en hK6 ?_
   refine aw_ret ?_
   have h := leafR h hk3
   obtain rfl := Option.some.inj h
   exact ret_ok1 W_ W_ R_ (.inr rfl) rfl
  ·have h := ifF c5 h
   refine pf 12 (.ptr 2 0 1) ty25 ty3 ?_
   refine pl 13 (.int .i64 a0.N) ty3 ?_
   refine pf 14 (.ptr 3 0 1) ty25 ty3 ?_
   refine pl 15 (.int .i64 a1.N) ty3 ?_
   refine pb 16 (.bool (a0.N != a1.N)) ?_
   refine pk 17 (.bool (a0.N != a1.N)) ?_
   refine pm 18 (.bool (a0.N != a1.N)) ?_
   refine al_bool (c := (a0.N != a1.N)) 18 rfl (fun c7 => ?_) (fun c7 => ?_)
   ·have h := ifT c7 h
    refine pS 19 ?_
    refine pS 20 ?_
    refine pS 21 ?_
    refine pS 22 ?_
    refine pS 23 ?_
    refine pk 24 (.bool true) ?_
    refine pm 25 (.bool true) ?_
    refine pS 26 ?_
    refine pS 27 ?_
    refine pS 28 ?_
    refine pS 29 ?_
    refine pS 30 ?_
    refine pk 31 (.bool true) ?_
    refine pm 32 (.bool true) ?_
    refine pS 33 ?_
    refine pS 34 ?_
    refine pS 35 ?_
    refine pS 36 ?_
    refine pS 37 ?_
    refine pS 38 ?_
    refine pS 39 ?_
    refine pk 40 (.bool true) ?_
    refine en hK4 ?_
    refine aw_cond_t D_ rfl ?_
    refine sr fun K8 hK8 => ?_
    refine pa 4 (.bool false) ?_
    refine en hK8 ?_
    refine aw_ret ?_
    have h := leafR h hk3
    obtain rfl := Option.some.inj h
    exact ret_ok1 W_ W_ R_ (.inr rfl) rfl
   ·have h := ifF c7 h
    refine pf 19 (.ptr 2 0 2) ty25 ty9 ?_
    refine pl 20 (.str a0.Key) ty9 ?_
    refine pf 21 (.ptr 3 0 2) ty25 ty9 ?_
    refine pl 22 (.str a1.Key) ty9 ?_
    refine pb 23 (.bool (!(ByteArray.toList a0.Key == ByteArray.toList a1.Key))) ?_
    refine pk 24 (.bool (!(ByteArray.toList a0.Key == ByteArray.toList a1.Key))) ?_
    refine pm 25 (.bool (!(ByteArray.toList a0.Key == ByteArray.toList a1.Key))) ?_
    refine al_bool (c := (!(ByteArray.toList a0.Key == ByteArray.toList a1.Key))) 25 rfl (fun c9 => ?_) (fun c9 => ?_)
    ·have h := ifT c9 h
     refine pS 26 ?_
     refine pS 27 ?_
     refine pS 28 ?_
     refine pS 29 ?_
     refine pS 30 ?_
     refine pk 31 (.bool true) ?_
     refine pm 32 (.bool true) ?_
     refine pS 33 ?_
     refine pS 34 ?_
     refine pS 35 ?_
     refine pS 36 ?_
     refine pS 37 ?_
     refine pS 38 ?_
     refine pS 39 ?_
     refine pk 40 (.bool true) ?_
     refine en hK4 ?_
     refine aw_cond_t D_ rfl ?_
     refine sr fun K10 hK10 => ?_
     refine pa 4 (.bool false) ?_
     refine en hK10 ?_
     refine aw_ret ?_
     have h := leafR h hk3
     obtain rfl := Option.some.inj h
     exact ret_ok1 W_ W_ R_ (.inr rfl) rfl
    ·have h := ifF c9 h
     refine pf 26 (.ptr 2 0 3) ty25 ty9 ?_
     refine pl 27 (.str a0.Value) ty9 ?_
     refine pf 28 (.ptr 3 0 3) ty25 ty9 ?_
     refine pl 29 (.str a1.Value) ty9 ?_
     refine pb 30 (.bool (!(ByteArray.toList a0.Value == ByteArray.toList a1.Value))) ?_
     refine pk 31 (.bool (!(ByteArray.toList a0.Value == ByteArray.toList a1.Value))) ?_
     refine pm 32 (.bool (!(ByteArray.toList a0.Value == ByteArray.toList a1.Value))) ?_
     refine al_bool (c := (!(ByteArray.toList a0.Value == ByteArray.toList a1.Value))) 32 rfl (fun c11 => ?_) (fun c11 => ?_)
     ·have h := ifT c11 h
      refine pS 33 ?_
      refine pS 34 ?_
      refine pS 35 ?_
      refine pS 36 ?_
      refine pS 37 ?_
      refine pS 38 ?_
      refine pS 39 ?_
      refine pk 40 (.bool true) ?_
      refine en hK4 ?_
      refine aw_cond_t D_ rfl ?_
      refine sr fun K12 hK12 => ?_
      refine pa 4 (.bool false) ?_
      refine en hK12 ?_
      refine aw_ret ?_
      have h := leafR h hk3
      obtain rfl := Option.some.inj h
      exact ret_ok1 W_ W_ R_ (.inr rfl) rfl
     ·have h := ifF c11 h
      refine pf 33 (.ptr 2 0 4) ty25 ty23 ?_
      refine pl 34 (.sl 5 (List.map enc24 a0.Kids)) ty23 ?_
      refine pP 35 ((does_len_sl W_ ty23).castp (v' := .int .i64 (List.length a0.Kids : Int)) (by exact len_map _)) ?_
      refine pf 36 (.ptr 3 0 4) ty25 ty23 ?_
      refine pl 37 (.sl 5 (List.map enc24 a1.Kids)) ty23 ?_
      refine pP 38 ((does_len_sl W_ ty23).castp (v' := .int .i64 (List.length a1.Kids : Int)) (by exact len_map _)) ?_
      refine pb 39 (.bool ((List.length a0.Kids : Int) != (List.length a1.Kids : Int))) ?_
      refine pk 40 (.bool ((List.length a0.Kids : Int) != (List.length a1.Kids : Int))) ?_
      refine en hK4 ?_
      refine aw_bool (b := ((List.length a0.Kids : Int) != (List.length a1.Kids : Int))) 40 rfl (fun c13 => ?_) (fun c13 => ?_)
      ·have h := ifT c13 h
       refine aw_cond_t D_ rfl ?_
       refine sr fun K14 hK14 => ?_
       refine pa 4 (.bool false) ?_
       refine en hK14 ?_
       refine aw_ret ?_
       have h := leafR h hk3
       obtain rfl := Option.some.inj h
       exact ret_ok1 W_ W_ R_ (.inr rfl) rfl
      ·have h := ifF c13 h
       refine aw_cond_f D_ rfl ?_
       refine aw_skip ?_
       have h := leafL h hk3
       exact ⟨_, reb_lit [(2, .ptr 2 0 0), (3, .ptr 3 0 0)] [(2, 0), (3, 0)] [((2, 0), .box [.int .i64 a0.Kind, .int .i64 a0.N, .str a0.Key, .str a0.Value, .sl 5 (List.map enc24 a0.Kids)]), ((3, 0), .box [.int .i64 a1.Kind, .int .i64 a1.N, .str a1.Key, .str a1.Value, .sl 5 (List.map enc24 a1.Kids)])] [(2, 1), (3, 1)] (ec (ec envOk_nil)) (objOk_cons W_ W_ R_ (by simp) (objOk_cons W_ W_ R_ (by simp) objOk_nil)) (nodup_b rfl) (nodup_b rfl) rfl rfl, h, rfl⟩
 ·rintro s ⟨h, rfl⟩
  unfold gleaningref1_SameRule_b_k0 at h
  refine aw_seq_k (fun K15 hK15 => ?_)
  refine sr fun K16 hK16 => ?_
  refine pa 5 (.int .i64 0) ?_
  refine en hK16 ?_
  refine aw_block ?_
  refine aw_loop' (fun m s => ∃ (v5_1 : Int), loopN (fun (s : Int) => gleaningref1_SameRule_b_l1 K a0 a1 s) m v5_1 = some r ∧ s = lit [(2, .ptr 2 0 0), (3, .ptr 3 0 0), (5, .int .i64 v5_1)] [((2, 0), .box [.int .i64 a0.Kind, .int .i64 a0.N, .str a0.Key, .str a0.Value, .sl 5 (List.map enc24 a0.Kids)]), ((3, 0), .box [.int .i64 a1.Kind, .int .i64 a1.N, .str a1.Key, .str a1.Value, .sl 5 (List.map enc24 a1.Kids)])] [(2, 1), (3, 1)] X) Fu
   ⟨_, reb_lit [(2, .ptr 2 0 0), (3, .ptr 3 0 0), (5, .int .i64 (0))] [(2, 0), (3, 0)] [((2, 0), .box [.int .i64 a0.Kind, .int .i64 a0.N, .str a0.Key, .str a0.Value, .sl 5 (List.map enc24 a0.Kids)]), ((3, 0), .box [.int .i64 a1.Kind, .int .i64 a1.N, .str a1.Key, .str a1.Value, .sl 5 (List.map enc24 a1.Kids)])] [(2, 1), (3, 1)] (ec (ec (ec envOk_nil))) (objOk_cons W_ W_ R_ (by simp) (objOk_cons W_ W_ R_ (by simp) objOk_nil)) (nodup_b rfl) (nodup_b rfl) rfl rfl, 0, h, rfl⟩ ?_
  rintro m s ⟨v5_1, h, rfl⟩
  obtain ⟨m1, q17, rfl, h, hq18⟩ := loop_some h
  replace h : gleaningref1_SameRule_b_l1 K a0 a1 v5_1 = some q17 := h
  unfold gleaningref1_SameRule_b_l1 at h
  refine aw_seq_k (fun K19 hK19 => ?_)
  refine sr fun K20 hK20 => ?_
  refine pm 41 (.int .i64 v5_1) ?_
  refine pf 42 (.ptr 2 0 4) ty25 ty23 ?_
  refine pl 43 (.sl 5 (List.map enc24 a0.Kids)) ty23 ?_
  refine pP 44 ((does_len_sl W_ ty23).castp (v' := .int .i64 (List.length a0.Kids : Int)) (by exact len_map _)) ?_
  refine pb 45 (.bool (decide (v5_1 < (List.length a0.Kids : Int)))) ?_
  refine en hK20 ?_
  refine aw_bool (b := (decide (v5_1 < (List.length a0.Kids : Int)))) 45 rfl (fun c21 => ?_) (fun c21 => ?_)
  ·have h := ifT c21 h
   refine aw_cond_t D_ rfl ?_
   refine aw_skip ?_
   refine hK19 _ ?_
   refine aw_seq_k (fun K22 hK22 => ?_)
   refine aw_block ?_
   refine aw_seq_k (fun K23 hK23 => ?_)
   refine aw_regd (by kernel_rfl) (by decide +kernel) ?_
   refine qP 48 (does_fieldAddr (q := .ptr 2 0 4) W_ ty25 rfl ty23 D_ R_) ?_
   refine qR 49 (does_load (v := .sl 5 (List.map enc24 a0.Kids)) W_ W_ ty23 R_) ?_
   refine qP 50 (does_move (v := .int .i64 v5_1) R_) ?_
   obtain ⟨g24, h⟩ := gd_some h
   obtain ⟨x25, hx25, h⟩ := bnd_some h
   refine qP 51 (does_indexAddr_sl (el := .agg [.int .i64 x25.Kind, .int .i64 x25.N, .str x25.Key, .str x25.Value, .sl 5 (List.map enc24 x25.Kids)]) W_ W_ ty23 ty25 g24 (by exact map_getE (enc24_eq _) hx25)) ?_
   refine qR 52 (does_load (v := .agg [.int .i64 x25.Kind, .int .i64 x25.N, .str x25.Key, .str x25.Value, .sl 5 (List.map enc24 x25.Kids)]) W_ W_ ty25 R_) ?_
   refine qP 53 (does_fieldAddr (q := .ptr 3 0 4) W_ ty25 rfl ty23 D_ R_) ?_
   refine qR 54 (does_load (v := .sl 5 (List.map enc24 a1.Kids)) W_ W_ ty23 R_) ?_
   refine qP 55 (does_move (v := .int .i64 v5_1) R_) ?_
   obtain ⟨g26, h⟩ := gd_some h
   obtain ⟨x27, hx27, h⟩ := bnd_some h
   refine qP 56 (does_indexAddr_sl (el := .agg [.int .i64 x27.Kind, .int .i64 x27.N, .str x27.Key, .str x27.Value, .sl 5 (List.map enc24 x27.Kids)]) W_ W_ ty23 ty25 g26 (by exact map_getE (enc24_eq _) hx27)) ?_
   refine qR 57 (does_load (v := .agg [.int .i64 x27.Kind, .int .i64 x27.N, .str x27.Key, .str x27.Value, .sl 5 (List.map enc24 x27.Kids)]) W_ W_ ty25 R_) ?_
   obtain ⟨x28, hx28, h⟩ := bnd_some h
   refine qD 58 (do_call0 58 false (hK x25 x27 hx28) rfl ent28 rfl rfl) ?_
   refine qP 59 (does_un (v := .bool (!x28)) W_ rfl) ?_
   refine ao_nil_d (by kernel_rfl) ?_
   refine hK23 _ ?_
   refine aw_bool (b := (!x28)) 59 rfl (fun c29 => ?_) (fun c29 => ?_)
   ·have h := ifT c29 h
    refine aw_cond_t D_ rfl ?_
    refine sr fun K30 hK30 => ?_
    refine pa 4 (.bool false) ?_
    refine en hK30 ?_
    refine aw_ret ?_
    have h := leafR h hq18
    obtain rfl := Option.some.inj h
    exact ret_ok1 W_ W_ R_ (.inr rfl) rfl
   ·have h := ifF c29 h
    refine aw_cond_f D_ rfl ?_
    refine aw_skip ?_
    refine hK22 _ ?_
    refine aw_regL ?_
    refine pm 46 (.int .i64 v5_1) ?_
    refine pb 47 (.int .i64 (IntKind.i64.wrap (v5_1 + 1))) ?_
    refine pa 5 (.int .i64 (IntKind.i64.wrap (v5_1 + 1))) ?_
    refine al_nil ?_
    have h := leafL h hq18
    exact ⟨m1, Nat.lt_succ_self _, _, reb_lit [(2, .ptr 2 0 0), (3, .ptr 3 0 0), (5, .int .i64 (IntKind.i64.wrap (v5_1 + 1)))] [(2, 0), (3, 0)] [((2, 0), .box [.int .i64 a0.Kind, .int .i64 a0.N, .str a0.Key, .str a0.Value, .sl 5 (List.map enc24 a0.Kids)]), ((3, 0), .box [.int .i64 a1.Kind, .int .i64 a1.N, .str a1.Key, .str a1.Value, .sl 5 (List.map enc24 a1.Kids)])] [(2, 1), (3, 1)] (ec (ec (ec envOk_nil))) (objOk_cons W_ W_ R_ (by simp) (objOk_cons W_ W_ R_ (by simp) objOk_nil)) (nodup_b rfl) (nodup_b rfl) rfl rfl, (IntKind.i64.wrap (v5_1 + 1)), h, rfl⟩
  ·have h := ifF c21 h
   refine aw_cond_f D_ rfl ?_
   refine aw_exit ?_
   have h := leafR h hq18
   refine hK15 _ ?_
   refine sr fun K31 hK31 => ?_
   refine pa 4 (.bool true) ?_
   refine en hK31 ?_
   refine aw_ret ?_
   obtain rfl := Option.some.inj h
   exact ret_ok1 W_ W_ R_ (.inr rfl) rfl
def gleaningref1_SameRuleN : Nat → Rule → Rule → Option Bool
 | 0, _, _ => none
 | n + 1, a0, a1 => gleaningref1_SameRule_b (gleaningref1_SameRuleN n) a0 a1
theorem gleaningref1_SameRuleN_ok : ∀ (n : Nat) (a0 : Rule) (a1 : Rule) {r : Bool}, gleaningref1_SameRuleN n a0 a1 = some r → Ok Try.prog 28 [.agg [.int .i64 a0.Kind, .int .i64 a0.N, .str a0.Key, .str a0.Value, .sl 5 (List.map enc24 a0.Kids)], .agg [.int .i64 a1.Kind, .int .i64 a1.N, .str a1.Key, .str a1.Value, .sl 5 (List.map enc24 a1.Kids)]] [] [] (.bool r) [] []
 | 0, _, _, _, h => by simp [gleaningref1_SameRuleN] at h
 | n + 1, a0, a1, _, h => gleaningref1_SameRule_b_ok (gleaningref1_SameRuleN n) (gleaningref1_SameRuleN_ok n) a0 a1 h
def gleaningref1_SameRule (a0 : Rule) (a1 : Rule) : Option Bool := gleaningref1_SameRuleN Fu a0 a1
theorem gleaningref1_SameRule_ok (a0 : Rule) (a1 : Rule) {r : Bool} (h : gleaningref1_SameRule a0 a1 = some r) : Ok Try.prog 28 [.agg [.int .i64 a0.Kind, .int .i64 a0.N, .str a0.Key, .str a0.Value, .sl 5 (List.map enc24 a0.Kids)], .agg [.int .i64 a1.Kind, .int .i64 a1.N, .str a1.Key, .str a1.Value, .sl 5 (List.map enc24 a1.Kids)]] [] [] (.bool r) [] [] := gleaningref1_SameRuleN_ok Fu a0 a1 h
end Go.Proofs.Ytdhpmlgalddgfaa.Ab
