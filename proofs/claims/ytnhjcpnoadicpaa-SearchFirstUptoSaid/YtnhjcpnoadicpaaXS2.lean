/- Chapter 32: what all its laws ask. -/
import Derived.Test.YtnhjcpnoadicpaaXS1
import Derived.Test.YtnhjcpnoadicpaaProg
namespace Go.Proofs.Ytnhjcpnoadicpaa.Ab
open Go Go.RowKit
set_option linter.unusedVariables false
set_option linter.unusedSimpArgs false
theorem ent10 : Ent Try.prog 10 := ⟨_, Try.func10, by kernel_rfl, rfl⟩
theorem ent14 : Ent Try.prog 14 := ⟨_, Try.func14, by kernel_rfl, rfl⟩
theorem ent16 : Ent Try.prog 16 := ⟨_, Try.func16, by kernel_rfl, rfl⟩
theorem ent22 : Ent Try.prog 22 := ⟨_, Try.func22, by kernel_rfl, rfl⟩
theorem ent28 : Ent Try.prog 28 := ⟨_, Try.func28, by kernel_rfl, rfl⟩
def gleaninglaw3_Few_l1 (a0 : Span) (v3_1 : Int) : Option (Int ⊕ Bool) :=
  if (decide (v3_1 < (List.length a0.Attrs : Int))) = true then (gd (0 ≤ v3_1) (Option.bind (a0.Attrs[(Int.toNat v3_1)]?) (fun (x21 : Attr) => if (decide ((100 : Int) < (ByteArray.size x21.Key : Int))) = true then (some (Sum.inr false)) else (gd (0 ≤ v3_1) (Option.bind (a0.Attrs[(Int.toNat v3_1)]?) (fun (x25 : Attr) => if (decide ((100 : Int) < (ByteArray.size x25.Value : Int))) = true then (some (Sum.inr false)) else (some (Sum.inl (IntKind.i64.wrap (v3_1 + 1)))))))))) else (some (Sum.inr true))
def gleaninglaw3_Few_k0 (a0 : Span) : Option Bool :=
  loopN (fun (s : Int) => gleaninglaw3_Few_l1 a0 s) Fu 0
def gleaninglaw3_Few (a0 : Span) : Option Bool :=
  Option.bind (if (decide ((100 : Int) < (ByteArray.size a0.Service : Int))) = true then (some (Sum.inr false)) else (if (decide ((100 : Int) < (ByteArray.size a0.Op : Int))) = true then (some (Sum.inr false)) else (if (decide ((20 : Int) < (List.length a0.Attrs : Int))) = true then (some (Sum.inr false)) else (some (Sum.inl ()))))) (Sum.elim (fun (s : Unit) => gleaninglaw3_Few_k0 a0) some)
set_option maxRecDepth 100000 in
set_option maxHeartbeats 8000000 in
/-- gleaning/gleaninglaw3.Few -/
theorem gleaninglaw3_Few_ok (a0 : Span) {r : Bool} (h : gleaninglaw3_Few a0 = some r) : Ok Try.prog 10 [.agg [.int .u64 a0.Trace.Hi, .int .u64 a0.Trace.Lo, .int .u64 a0.Id, .int .u64 a0.Parent, .str a0.Service, .str a0.Op, .int .i64 a0.Start, .int .i64 a0.Dur, .bool a0.Err, .sl 2 (List.map enc53 a0.Attrs)]] [] [] (.bool r) [] [] := by
  unfold gleaninglaw3_Few at h
  refine ok_of_code Try.func10 rfl (by show (1 : Nat) ≤ _; decide) (Nat.le_refl _) fun X => ?_
  refine aw_seq_k (fun K1 hK1 => ?_)
  refine aw_regL ?_
  refine alD (some 1) rfl rfl (do_box (by conv => lhs; whnf) rfl rfl) (by decide) ?_
  refine alP (some 2) rfl rfl (does_assign (v := .bool false) (by exact rfl)) (by decide) ?_
  refine al_nil ?_
  refine hK1 _ ?_
  obtain ⟨q2, h, hk3⟩ := bnd_some h
  refine aw_cut (fun s => gleaninglaw3_Few_k0 a0 = some r ∧ s = lit [(1, .ptr 1 0 0)] [((1, 0), .box [.int .u64 a0.Trace.Hi, .int .u64 a0.Trace.Lo, .int .u64 a0.Id, .int .u64 a0.Parent, .str a0.Service, .str a0.Op, .int .i64 a0.Start, .int .i64 a0.Dur, .bool a0.Err, .sl 2 (List.map enc53 a0.Attrs)])] [(1, 1)] X) ?_ ?_
  · skip
    refine aw_seq_k (fun K4 hK4 => ?_)
    refine aw_regL ?_
    refine alP (some 4) rfl rfl (does_fieldAddr (q := .ptr 1 0 4) (by conv => lhs; whnf) ty30 rfl ty9 (by decide) (by exact rfl)) (by decide) ?_
    refine alR (some 5) rfl rfl (does_load (v := .str a0.Service) (by conv => lhs; whnf) (by conv => lhs; whnf) ty9 (by exact rfl)) (by decide) ?_
    refine alP (some 6) rfl rfl (does_len_str (by conv => lhs; whnf) ty9) (by decide) ?_
    refine alP (some 7) rfl rfl (does_bin (v := .bool (decide ((100 : Int) < (ByteArray.size a0.Service : Int)))) (by conv => lhs; whnf) (by conv => lhs; whnf) rfl) (by decide) ?_
    refine alP (some 8) rfl rfl (does_move (v := .bool (decide ((100 : Int) < (ByteArray.size a0.Service : Int)))) (by exact rfl)) (by decide) ?_
    refine al_bool (c := (decide ((100 : Int) < (ByteArray.size a0.Service : Int)))) 8 rfl (fun c5 => ?_) (fun c5 => ?_)
    · have h := ifT c5 h
      refine alS (some 9) rfl rfl (by decide) ?_
      refine alS (some 10) rfl rfl (by decide) ?_
      refine alS (some 11) rfl rfl (by decide) ?_
      refine alS (some 12) rfl rfl (by decide) ?_
      refine alP (some 13) rfl rfl (does_pick (v := .bool true) (by conv => lhs; whnf) (by exact rfl)) (by decide) ?_
      refine alP (some 14) rfl rfl (does_move (v := .bool true) (by exact rfl)) (by decide) ?_
      refine alS (some 15) rfl rfl (by decide) ?_
      refine alS (some 16) rfl rfl (by decide) ?_
      refine alS (some 17) rfl rfl (by decide) ?_
      refine alS (some 18) rfl rfl (by decide) ?_
      refine alP (some 19) rfl rfl (does_pick (v := .bool true) (by conv => lhs; whnf) (by exact rfl)) (by decide) ?_
      refine al_nil ?_
      refine hK4 _ ?_
      refine aw_cond_t (by decide) rfl ?_
      refine aw_seq_k (fun K6 hK6 => ?_)
      refine aw_regL ?_
      refine alP (some 2) rfl rfl (does_assign (v := .bool false) (by exact rfl)) (by decide) ?_
      refine al_nil ?_
      refine hK6 _ ?_
      refine aw_ret ?_
      have h := leafR h hk3
      obtain rfl := Option.some.inj h
      exact ret_ok1 (by conv => lhs; whnf) (by conv => lhs; whnf) (by exact rfl) (.inr rfl) rfl
    · have h := ifF c5 h
      refine alP (some 9) rfl rfl (does_fieldAddr (q := .ptr 1 0 5) (by conv => lhs; whnf) ty30 rfl ty9 (by decide) (by exact rfl)) (by decide) ?_
      refine alR (some 10) rfl rfl (does_load (v := .str a0.Op) (by conv => lhs; whnf) (by conv => lhs; whnf) ty9 (by exact rfl)) (by decide) ?_
      refine alP (some 11) rfl rfl (does_len_str (by conv => lhs; whnf) ty9) (by decide) ?_
      refine alP (some 12) rfl rfl (does_bin (v := .bool (decide ((100 : Int) < (ByteArray.size a0.Op : Int)))) (by conv => lhs; whnf) (by conv => lhs; whnf) rfl) (by decide) ?_
      refine alP (some 13) rfl rfl (does_pick (v := .bool (decide ((100 : Int) < (ByteArray.size a0.Op : Int)))) (by conv => lhs; whnf) (by exact rfl)) (by decide) ?_
      refine alP (some 14) rfl rfl (does_move (v := .bool (decide ((100 : Int) < (ByteArray.size a0.Op : Int)))) (by exact rfl)) (by decide) ?_
      refine al_bool (c := (decide ((100 : Int) < (ByteArray.size a0.Op : Int)))) 14 rfl (fun c7 => ?_) (fun c7 => ?_)
      · have h := ifT c7 h
        refine alS (some 15) rfl rfl (by decide) ?_
        refine alS (some 16) rfl rfl (by decide) ?_
        refine alS (some 17) rfl rfl (by decide) ?_
        refine alS (some 18) rfl rfl (by decide) ?_
        refine alP (some 19) rfl rfl (does_pick (v := .bool true) (by conv => lhs; whnf) (by exact rfl)) (by decide) ?_
        refine al_nil ?_
        refine hK4 _ ?_
        refine aw_cond_t (by decide) rfl ?_
        refine aw_seq_k (fun K8 hK8 => ?_)
        refine aw_regL ?_
        refine alP (some 2) rfl rfl (does_assign (v := .bool false) (by exact rfl)) (by decide) ?_
        refine al_nil ?_
        refine hK8 _ ?_
        refine aw_ret ?_
        have h := leafR h hk3
        obtain rfl := Option.some.inj h
        exact ret_ok1 (by conv => lhs; whnf) (by conv => lhs; whnf) (by exact rfl) (.inr rfl) rfl
      · have h := ifF c7 h
        refine alP (some 15) rfl rfl (does_fieldAddr (q := .ptr 1 0 9) (by conv => lhs; whnf) ty30 rfl ty28 (by decide) (by exact rfl)) (by decide) ?_
        refine alR (some 16) rfl rfl (does_load (v := .sl 2 (List.map enc53 a0.Attrs)) (by conv => lhs; whnf) (by conv => lhs; whnf) ty28 (by exact rfl)) (by decide) ?_
        refine alP (some 17) rfl rfl ((does_len_sl (by conv => lhs; whnf) ty28).castp (v' := .int .i64 (List.length a0.Attrs : Int)) (by exact len_map _)) (by decide) ?_
        refine alP (some 18) rfl rfl (does_bin (v := .bool (decide ((20 : Int) < (List.length a0.Attrs : Int)))) (by conv => lhs; whnf) (by conv => lhs; whnf) rfl) (by decide) ?_
        refine alP (some 19) rfl rfl (does_pick (v := .bool (decide ((20 : Int) < (List.length a0.Attrs : Int)))) (by conv => lhs; whnf) (by exact rfl)) (by decide) ?_
        refine al_nil ?_
        refine hK4 _ ?_
        refine aw_bool (b := (decide ((20 : Int) < (List.length a0.Attrs : Int)))) 19 rfl (fun c9 => ?_) (fun c9 => ?_)
        · have h := ifT c9 h
          refine aw_cond_t (by decide) rfl ?_
          refine aw_seq_k (fun K10 hK10 => ?_)
          refine aw_regL ?_
          refine alP (some 2) rfl rfl (does_assign (v := .bool false) (by exact rfl)) (by decide) ?_
          refine al_nil ?_
          refine hK10 _ ?_
          refine aw_ret ?_
          have h := leafR h hk3
          obtain rfl := Option.some.inj h
          exact ret_ok1 (by conv => lhs; whnf) (by conv => lhs; whnf) (by exact rfl) (.inr rfl) rfl
        · have h := ifF c9 h
          refine aw_cond_f (by decide) rfl ?_
          refine aw_skip ?_
          have h := leafL h hk3
          exact ⟨_, reb_lit [(1, .ptr 1 0 0)] [(1, 0)] [((1, 0), .box [.int .u64 a0.Trace.Hi, .int .u64 a0.Trace.Lo, .int .u64 a0.Id, .int .u64 a0.Parent, .str a0.Service, .str a0.Op, .int .i64 a0.Start, .int .i64 a0.Dur, .bool a0.Err, .sl 2 (List.map enc53 a0.Attrs)])] [(1, 1)] (envOk_cons (by conv => lhs; whnf) (by exact rfl) envOk_nil) (objOk_cons (by conv => lhs; whnf) (by conv => lhs; whnf) (by exact rfl) (by simp) objOk_nil) (nodup_b rfl) (nodup_b rfl) rfl rfl, h, rfl⟩
  · rintro s ⟨h, rfl⟩
    unfold gleaninglaw3_Few_k0 at h
    refine aw_seq_k (fun K11 hK11 => ?_)
    refine aw_seq_k (fun K12 hK12 => ?_)
    refine aw_regL ?_
    refine alP (some 3) rfl rfl (does_assign (v := .int .i64 0) (by exact rfl)) (by decide) ?_
    refine al_nil ?_
    refine hK12 _ ?_
    refine aw_block ?_
    refine aw_loop' (fun m s => ∃ (v3_1 : Int), loopN (fun (s : Int) => gleaninglaw3_Few_l1 a0 s) m v3_1 = some r ∧ s = lit [(1, .ptr 1 0 0), (3, .int .i64 v3_1)] [((1, 0), .box [.int .u64 a0.Trace.Hi, .int .u64 a0.Trace.Lo, .int .u64 a0.Id, .int .u64 a0.Parent, .str a0.Service, .str a0.Op, .int .i64 a0.Start, .int .i64 a0.Dur, .bool a0.Err, .sl 2 (List.map enc53 a0.Attrs)])] [(1, 1)] X) Fu
      ⟨_, reb_lit [(1, .ptr 1 0 0), (3, .int .i64 (0))] [(1, 0)] [((1, 0), .box [.int .u64 a0.Trace.Hi, .int .u64 a0.Trace.Lo, .int .u64 a0.Id, .int .u64 a0.Parent, .str a0.Service, .str a0.Op, .int .i64 a0.Start, .int .i64 a0.Dur, .bool a0.Err, .sl 2 (List.map enc53 a0.Attrs)])] [(1, 1)] (envOk_cons (by conv => lhs; whnf) (by exact rfl) (envOk_cons (by conv => lhs; whnf) (by exact rfl) envOk_nil)) (objOk_cons (by conv => lhs; whnf) (by conv => lhs; whnf) (by exact rfl) (by simp) objOk_nil) (nodup_b rfl) (nodup_b rfl) rfl rfl, 0, h, rfl⟩ ?_
    rintro m s ⟨v3_1, h, rfl⟩
    obtain ⟨m1, q13, rfl, h, hq14⟩ := loop_some h
    replace h : gleaninglaw3_Few_l1 a0 v3_1 = some q13 := h
    unfold gleaninglaw3_Few_l1 at h
    refine aw_seq_k (fun K15 hK15 => ?_)
    refine aw_seq_k (fun K16 hK16 => ?_)
    refine aw_regL ?_
    refine alP (some 20) rfl rfl (does_move (v := .int .i64 v3_1) (by exact rfl)) (by decide) ?_
    refine alP (some 21) rfl rfl (does_fieldAddr (q := .ptr 1 0 9) (by conv => lhs; whnf) ty30 rfl ty28 (by decide) (by exact rfl)) (by decide) ?_
    refine alR (some 22) rfl rfl (does_load (v := .sl 2 (List.map enc53 a0.Attrs)) (by conv => lhs; whnf) (by conv => lhs; whnf) ty28 (by exact rfl)) (by decide) ?_
    refine alP (some 23) rfl rfl ((does_len_sl (by conv => lhs; whnf) ty28).castp (v' := .int .i64 (List.length a0.Attrs : Int)) (by exact len_map _)) (by decide) ?_
    refine alP (some 24) rfl rfl (does_bin (v := .bool (decide (v3_1 < (List.length a0.Attrs : Int)))) (by conv => lhs; whnf) (by conv => lhs; whnf) rfl) (by decide) ?_
    refine al_nil ?_
    refine hK16 _ ?_
    refine aw_bool (b := (decide (v3_1 < (List.length a0.Attrs : Int)))) 24 rfl (fun c17 => ?_) (fun c17 => ?_)
    · have h := ifT c17 h
      refine aw_cond_t (by decide) rfl ?_
      refine aw_skip ?_
      refine hK15 _ ?_
      refine aw_seq_k (fun K18 hK18 => ?_)
      refine aw_block ?_
      refine aw_seq_k (fun K19 hK19 => ?_)
      refine aw_regL ?_
      refine alP (some 27) rfl rfl (does_fieldAddr (q := .ptr 1 0 9) (by conv => lhs; whnf) ty30 rfl ty28 (by decide) (by exact rfl)) (by decide) ?_
      refine alR (some 28) rfl rfl (does_load (v := .sl 2 (List.map enc53 a0.Attrs)) (by conv => lhs; whnf) (by conv => lhs; whnf) ty28 (by exact rfl)) (by decide) ?_
      refine alP (some 29) rfl rfl (does_move (v := .int .i64 v3_1) (by exact rfl)) (by decide) ?_
      obtain ⟨g20, h⟩ := gd_some h
      obtain ⟨x21, hx21, h⟩ := bnd_some h
      refine alP (some 30) rfl rfl (does_indexAddr_sl (el := .agg [.str x21.Key, .str x21.Value]) (by conv => lhs; whnf) (by conv => lhs; whnf) ty28 ty54 g20 (by exact map_get hx21)) (by decide) ?_
      refine alP (some 31) rfl rfl (does_fieldAddr (q := .rptr [.str x21.Key, .str x21.Value]) (by conv => lhs; whnf) ty54 rfl ty9 (by decide) (by exact rfl)) (by decide) ?_
      refine alR (some 32) rfl rfl (does_load (v := .str x21.Key) (by conv => lhs; whnf) (by conv => lhs; whnf) ty9 (by exact rfl)) (by decide) ?_
      refine alP (some 33) rfl rfl (does_len_str (by conv => lhs; whnf) ty9) (by decide) ?_
      refine alP (some 34) rfl rfl (does_bin (v := .bool (decide ((100 : Int) < (ByteArray.size x21.Key : Int)))) (by conv => lhs; whnf) (by conv => lhs; whnf) rfl) (by decide) ?_
      refine alP (some 35) rfl rfl (does_move (v := .bool (decide ((100 : Int) < (ByteArray.size x21.Key : Int)))) (by exact rfl)) (by decide) ?_
      refine al_bool (c := (decide ((100 : Int) < (ByteArray.size x21.Key : Int)))) 35 rfl (fun c22 => ?_) (fun c22 => ?_)
      · have h := ifT c22 h
        refine alS (some 36) rfl rfl (by decide) ?_
        refine alS (some 37) rfl rfl (by decide) ?_
        refine alS (some 38) rfl rfl (by decide) ?_
        refine alS (some 39) rfl rfl (by decide) ?_
        refine alS (some 40) rfl rfl (by decide) ?_
        refine alS (some 41) rfl rfl (by decide) ?_
        refine alS (some 42) rfl rfl (by decide) ?_
        refine alS (some 43) rfl rfl (by decide) ?_
        refine alP (some 44) rfl rfl (does_pick (v := .bool true) (by conv => lhs; whnf) (by exact rfl)) (by decide) ?_
        refine al_nil ?_
        refine hK19 _ ?_
        refine aw_cond_t (by decide) rfl ?_
        refine aw_seq_k (fun K23 hK23 => ?_)
        refine aw_regL ?_
        refine alP (some 2) rfl rfl (does_assign (v := .bool false) (by exact rfl)) (by decide) ?_
        refine al_nil ?_
        refine hK23 _ ?_
        refine aw_ret ?_
        have h := leafR h hq14
        obtain rfl := Option.some.inj h
        exact ret_ok1 (by conv => lhs; whnf) (by conv => lhs; whnf) (by exact rfl) (.inr rfl) rfl
      · have h := ifF c22 h
        refine alP (some 36) rfl rfl (does_fieldAddr (q := .ptr 1 0 9) (by conv => lhs; whnf) ty30 rfl ty28 (by decide) (by exact rfl)) (by decide) ?_
        refine alR (some 37) rfl rfl (does_load (v := .sl 2 (List.map enc53 a0.Attrs)) (by conv => lhs; whnf) (by conv => lhs; whnf) ty28 (by exact rfl)) (by decide) ?_
        refine alP (some 38) rfl rfl (does_move (v := .int .i64 v3_1) (by exact rfl)) (by decide) ?_
        obtain ⟨g24, h⟩ := gd_some h
        obtain ⟨x25, hx25, h⟩ := bnd_some h
        refine alP (some 39) rfl rfl (does_indexAddr_sl (el := .agg [.str x25.Key, .str x25.Value]) (by conv => lhs; whnf) (by conv => lhs; whnf) ty28 ty54 g24 (by exact map_get hx25)) (by decide) ?_
        refine alP (some 40) rfl rfl (does_fieldAddr (q := .rptr [.str x25.Value]) (by conv => lhs; whnf) ty54 rfl ty9 (by decide) (by exact rfl)) (by decide) ?_
        refine alR (some 41) rfl rfl (does_load (v := .str x25.Value) (by conv => lhs; whnf) (by conv => lhs; whnf) ty9 (by exact rfl)) (by decide) ?_
        refine alP (some 42) rfl rfl (does_len_str (by conv => lhs; whnf) ty9) (by decide) ?_
        refine alP (some 43) rfl rfl (does_bin (v := .bool (decide ((100 : Int) < (ByteArray.size x25.Value : Int)))) (by conv => lhs; whnf) (by conv => lhs; whnf) rfl) (by decide) ?_
        refine alP (some 44) rfl rfl (does_pick (v := .bool (decide ((100 : Int) < (ByteArray.size x25.Value : Int)))) (by conv => lhs; whnf) (by exact rfl)) (by decide) ?_
        refine al_nil ?_
        refine hK19 _ ?_
        refine aw_bool (b := (decide ((100 : Int) < (ByteArray.size x25.Value : Int)))) 44 rfl (fun c26 => ?_) (fun c26 => ?_)
        · have h := ifT c26 h
          refine aw_cond_t (by decide) rfl ?_
          refine aw_seq_k (fun K27 hK27 => ?_)
          refine aw_regL ?_
          refine alP (some 2) rfl rfl (does_assign (v := .bool false) (by exact rfl)) (by decide) ?_
          refine al_nil ?_
          refine hK27 _ ?_
          refine aw_ret ?_
          have h := leafR h hq14
          obtain rfl := Option.some.inj h
          exact ret_ok1 (by conv => lhs; whnf) (by conv => lhs; whnf) (by exact rfl) (.inr rfl) rfl
        · have h := ifF c26 h
          refine aw_cond_f (by decide) rfl ?_
          refine aw_skip ?_
          refine hK18 _ ?_
          refine aw_regL ?_
          refine alP (some 25) rfl rfl (does_move (v := .int .i64 v3_1) (by exact rfl)) (by decide) ?_
          refine alP (some 26) rfl rfl (does_bin (v := .int .i64 (IntKind.i64.wrap (v3_1 + 1))) (by conv => lhs; whnf) (by conv => lhs; whnf) rfl) (by decide) ?_
          refine alP (some 3) rfl rfl (does_assign (v := .int .i64 (IntKind.i64.wrap (v3_1 + 1))) (by exact rfl)) (by decide) ?_
          refine al_nil ?_
          have h := leafL h hq14
          exact ⟨m1, Nat.lt_succ_self _, _, reb_lit [(1, .ptr 1 0 0), (3, .int .i64 (IntKind.i64.wrap (v3_1 + 1)))] [(1, 0)] [((1, 0), .box [.int .u64 a0.Trace.Hi, .int .u64 a0.Trace.Lo, .int .u64 a0.Id, .int .u64 a0.Parent, .str a0.Service, .str a0.Op, .int .i64 a0.Start, .int .i64 a0.Dur, .bool a0.Err, .sl 2 (List.map enc53 a0.Attrs)])] [(1, 1)] (envOk_cons (by conv => lhs; whnf) (by exact rfl) (envOk_cons (by conv => lhs; whnf) (by exact rfl) envOk_nil)) (objOk_cons (by conv => lhs; whnf) (by conv => lhs; whnf) (by exact rfl) (by simp) objOk_nil) (nodup_b rfl) (nodup_b rfl) rfl rfl, (IntKind.i64.wrap (v3_1 + 1)), h, rfl⟩
    · have h := ifF c17 h
      refine aw_cond_f (by decide) rfl ?_
      refine aw_exit ?_
      have h := leafR h hq14
      refine hK11 _ ?_
      refine aw_seq_k (fun K28 hK28 => ?_)
      refine aw_regL ?_
      refine alP (some 2) rfl rfl (does_assign (v := .bool true) (by exact rfl)) (by decide) ?_
      refine al_nil ?_
      refine hK28 _ ?_
      refine aw_ret ?_
      obtain rfl := Option.some.inj h
      exact ret_ok1 (by conv => lhs; whnf) (by conv => lhs; whnf) (by exact rfl) (.inr rfl) rfl
theorem sh25 : ∀ (m : Nat) (cs : List PV), Shape Try.prog m 25 cs → ∃ a : Int, cs = [.int .u64 a] ∧ (inI .u64 a) := fun m cs h => shape_i h Try.underlying25
def Trace.wf (a : Trace) : Prop := (inI .u64 a.Hi) ∧ (inI .u64 a.Lo)
theorem sh27 : ∀ (m : Nat) (cs : List PV), Shape Try.prog m 27 cs → ∃ a : Trace, cs = [.int .u64 a.Hi, .int .u64 a.Lo] ∧ (Trace.wf a) := fun m cs h => by
  obtain ⟨hl, m, hf⟩ := shape_struct h Try.underlying27
  have f0 := hf 0 _ rfl
  obtain ⟨a0, e0, w0⟩ := sh25 m _ f0
  rw [show Try.prog.cellsOf _ = 1 by kernel_rfl] at e0
  have f1 := hf 1 _ rfl
  obtain ⟨a1, e1, w1⟩ := sh25 m _ f1
  rw [show Try.prog.cellsOf _ = 1 by kernel_rfl] at e1
  exact ⟨⟨a0, a1⟩, tile_all (l := [(1, [.int .u64 a0]), (1, [.int .u64 a1])]) ⟨e0, e1, trivial⟩ hl (by kernel_rfl), ⟨w0, w1⟩⟩
theorem sh9 : ∀ (m : Nat) (cs : List PV), Shape Try.prog m 9 cs → ∃ a : ByteArray, cs = [.str a] ∧ ((ByteArray.size a) ≤ maxLen) := fun m cs h => shape_str h Try.underlying9
theorem sh3 : ∀ (m : Nat) (cs : List PV), Shape Try.prog m 3 cs → ∃ a : Int, cs = [.int .i64 a] ∧ (inI .i64 a) := fun m cs h => shape_i h Try.underlying3
theorem sh4 : ∀ (m : Nat) (cs : List PV), Shape Try.prog m 4 cs → ∃ a : Bool, cs = [.bool a] ∧ True := fun m cs h => shape_b h Try.underlying4
def Attr.wf (a : Attr) : Prop := ((ByteArray.size a.Key) ≤ maxLen) ∧ ((ByteArray.size a.Value) ≤ maxLen)
theorem sh54 : ∀ (m : Nat) (cs : List PV), Shape Try.prog m 54 cs → ∃ a : Attr, cs = [.str a.Key, .str a.Value] ∧ (Attr.wf a) := fun m cs h => by
  obtain ⟨hl, m, hf⟩ := shape_struct h Try.underlying54
  have f0 := hf 0 _ rfl
  obtain ⟨a0, e0, w0⟩ := sh9 m _ f0
  rw [show Try.prog.cellsOf _ = 1 by kernel_rfl] at e0
  have f1 := hf 1 _ rfl
  obtain ⟨a1, e1, w1⟩ := sh9 m _ f1
  rw [show Try.prog.cellsOf _ = 1 by kernel_rfl] at e1
  exact ⟨⟨a0, a1⟩, tile_all (l := [(1, [.str a0]), (1, [.str a1])]) ⟨e0, e1, trivial⟩ hl (by kernel_rfl), ⟨w0, w1⟩⟩
theorem sh28 : ∀ (m : Nat) (cs : List PV), Shape Try.prog m 28 cs → ∃ a : List Attr, cs = [.sl 2 (List.map enc53 a)] ∧ ((List.length a) ≤ maxLen ∧ ∀ y ∈ a, Attr.wf y) := fun m cs h => by
  obtain ⟨l, h1, h2, h3⟩ := shape_rows (f := enc53) (Q := fun y => Attr.wf y) h Try.underlying28 (fun m ps hs => by
    obtain ⟨a, rfl, hw⟩ := sh54 m ps hs
    exact ⟨a, by rw [show aggT Try.prog 54 = true by kernel_rfl]; rfl, hw⟩)
  exact ⟨l, h1.trans (by rw [show Try.prog.cellsOf 54 = 2 by kernel_rfl]), h2, h3⟩
def Span.wf (a : Span) : Prop := (Trace.wf a.Trace) ∧ (inI .u64 a.Id) ∧ (inI .u64 a.Parent) ∧ ((ByteArray.size a.Service) ≤ maxLen) ∧ ((ByteArray.size a.Op) ≤ maxLen) ∧ (inI .i64 a.Start) ∧ (inI .i64 a.Dur) ∧ True ∧ ((List.length a.Attrs) ≤ maxLen ∧ ∀ y ∈ a.Attrs, Attr.wf y)
theorem sh30 : ∀ (m : Nat) (cs : List PV), Shape Try.prog m 30 cs → ∃ a : Span, cs = [.int .u64 a.Trace.Hi, .int .u64 a.Trace.Lo, .int .u64 a.Id, .int .u64 a.Parent, .str a.Service, .str a.Op, .int .i64 a.Start, .int .i64 a.Dur, .bool a.Err, .sl 2 (List.map enc53 a.Attrs)] ∧ (Span.wf a) := fun m cs h => by
  obtain ⟨hl, m, hf⟩ := shape_struct h Try.underlying30
  have f0 := hf 0 _ rfl
  obtain ⟨a0, e0, w0⟩ := sh27 m _ f0
  rw [show Try.prog.cellsOf _ = 2 by kernel_rfl] at e0
  have f1 := hf 1 _ rfl
  obtain ⟨a1, e1, w1⟩ := sh25 m _ f1
  rw [show Try.prog.cellsOf _ = 1 by kernel_rfl] at e1
  have f2 := hf 2 _ rfl
  obtain ⟨a2, e2, w2⟩ := sh25 m _ f2
  rw [show Try.prog.cellsOf _ = 1 by kernel_rfl] at e2
  have f3 := hf 3 _ rfl
  obtain ⟨a3, e3, w3⟩ := sh9 m _ f3
  rw [show Try.prog.cellsOf _ = 1 by kernel_rfl] at e3
  have f4 := hf 4 _ rfl
  obtain ⟨a4, e4, w4⟩ := sh9 m _ f4
  rw [show Try.prog.cellsOf _ = 1 by kernel_rfl] at e4
  have f5 := hf 5 _ rfl
  obtain ⟨a5, e5, w5⟩ := sh3 m _ f5
  rw [show Try.prog.cellsOf _ = 1 by kernel_rfl] at e5
  have f6 := hf 6 _ rfl
  obtain ⟨a6, e6, w6⟩ := sh3 m _ f6
  rw [show Try.prog.cellsOf _ = 1 by kernel_rfl] at e6
  have f7 := hf 7 _ rfl
  obtain ⟨a7, e7, w7⟩ := sh4 m _ f7
  rw [show Try.prog.cellsOf _ = 1 by kernel_rfl] at e7
  have f8 := hf 8 _ rfl
  obtain ⟨a8, e8, w8⟩ := sh28 m _ f8
  rw [show Try.prog.cellsOf _ = 1 by kernel_rfl] at e8
  exact ⟨⟨a0, a1, a2, a3, a4, a5, a6, a7, a8⟩, tile_all (l := [(2, [.int .u64 a0.Hi, .int .u64 a0.Lo]), (1, [.int .u64 a1]), (1, [.int .u64 a2]), (1, [.str a3]), (1, [.str a4]), (1, [.int .i64 a5]), (1, [.int .i64 a6]), (1, [.bool a7]), (1, [.sl 2 (List.map enc53 a8)])]) ⟨e0, e1, e2, e3, e4, e5, e6, e7, e8, trivial⟩ hl (by kernel_rfl), ⟨w0, w1, w2, w3, w4, w5, w6, w7, w8⟩⟩
def gleaninglaw3_FewAll_l0 (a0 : List Span) (v3_0 : Int) : Option (Int ⊕ Bool) :=
  if (decide (v3_0 < (List.length a0 : Int))) = true then (gd (0 ≤ v3_0) (Option.bind (a0[(Int.toNat v3_0)]?) (fun (x16 : Span) => Option.bind (gleaninglaw3_Few x16) (fun (x17 : Bool) => if (!x17) = true then (some (Sum.inr false)) else (some (Sum.inl (IntKind.i64.wrap (v3_0 + 1)))))))) else (some (Sum.inr true))
def gleaninglaw3_FewAll (a0 : List Span) : Option Bool :=
  if (decide ((60 : Int) < (List.length a0 : Int))) = true then (some false) else (loopN (fun (s : Int) => gleaninglaw3_FewAll_l0 a0 s) Fu 0)
set_option maxRecDepth 100000 in
set_option maxHeartbeats 8000000 in
/-- gleaning/gleaninglaw3.FewAll -/
theorem gleaninglaw3_FewAll_ok (a0 : List Span) {r : Bool} (h : gleaninglaw3_FewAll a0 = some r) : Ok Try.prog 28 [.sl 10 (List.map enc29 a0)] [] [] (.bool r) [] [] := by
  unfold gleaninglaw3_FewAll at h
  refine ok_of_code Try.func28 rfl (by show (1 : Nat) ≤ _; decide) (Nat.le_refl _) fun X => ?_
  refine aw_seq_k (fun K1 hK1 => ?_)
  refine aw_regL ?_
  refine alP (some 2) rfl rfl (does_assign (v := .bool false) (by exact rfl)) (by decide) ?_
  refine al_nil ?_
  refine hK1 _ ?_
  refine aw_seq_k (fun K2 hK2 => ?_)
  refine aw_seq_k (fun K3 hK3 => ?_)
  refine aw_regL ?_
  refine alP (some 4) rfl rfl (does_move (v := .sl 10 (List.map enc29 a0)) (by exact rfl)) (by decide) ?_
  refine alP (some 5) rfl rfl ((does_len_sl (by conv => lhs; whnf) ty49).castp (v' := .int .i64 (List.length a0 : Int)) (by exact len_map _)) (by decide) ?_
  refine alP (some 6) rfl rfl (does_bin (v := .bool (decide ((60 : Int) < (List.length a0 : Int)))) (by conv => lhs; whnf) (by conv => lhs; whnf) rfl) (by decide) ?_
  refine al_nil ?_
  refine hK3 _ ?_
  refine aw_bool (b := (decide ((60 : Int) < (List.length a0 : Int)))) 6 rfl (fun c4 => ?_) (fun c4 => ?_)
  · have h := ifT c4 h
    refine aw_cond_t (by decide) rfl ?_
    refine aw_seq_k (fun K5 hK5 => ?_)
    refine aw_regL ?_
    refine alP (some 2) rfl rfl (does_assign (v := .bool false) (by exact rfl)) (by decide) ?_
    refine al_nil ?_
    refine hK5 _ ?_
    refine aw_ret ?_
    obtain rfl := Option.some.inj h
    exact ret_ok1 (by conv => lhs; whnf) (by conv => lhs; whnf) (by exact rfl) (.inr rfl) rfl
  · have h := ifF c4 h
    refine aw_cond_f (by decide) rfl ?_
    refine aw_skip ?_
    refine hK2 _ ?_
    refine aw_seq_k (fun K6 hK6 => ?_)
    refine aw_seq_k (fun K7 hK7 => ?_)
    refine aw_regL ?_
    refine alP (some 3) rfl rfl (does_assign (v := .int .i64 0) (by exact rfl)) (by decide) ?_
    refine al_nil ?_
    refine hK7 _ ?_
    refine aw_block ?_
    refine aw_loop' (fun m s => ∃ (v3_0 : Int), loopN (fun (s : Int) => gleaninglaw3_FewAll_l0 a0 s) m v3_0 = some r ∧ s = lit [(0, .sl 10 (List.map enc29 a0)), (3, .int .i64 v3_0)] [] [] X) Fu
      ⟨_, reb_lit [(0, .sl 10 (List.map enc29 a0)), (3, .int .i64 (0))] [] [] [] (envOk_cons (by conv => lhs; whnf) (by exact rfl) (envOk_cons (by conv => lhs; whnf) (by exact rfl) envOk_nil)) objOk_nil (nodup_b rfl) (nodup_b rfl) rfl rfl, 0, h, rfl⟩ ?_
    rintro m s ⟨v3_0, h, rfl⟩
    obtain ⟨m0, q8, rfl, h, hq9⟩ := loop_some h
    replace h : gleaninglaw3_FewAll_l0 a0 v3_0 = some q8 := h
    unfold gleaninglaw3_FewAll_l0 at h
    refine aw_seq_k (fun K10 hK10 => ?_)
    refine aw_seq_k (fun K11 hK11 => ?_)
    refine aw_regL ?_
    refine alP (some 7) rfl rfl (does_move (v := .int .i64 v3_0) (by exact rfl)) (by decide) ?_
    refine alP (some 8) rfl rfl (does_move (v := .sl 10 (List.map enc29 a0)) (by exact rfl)) (by decide) ?_
    refine alP (some 9) rfl rfl ((does_len_sl (by conv => lhs; whnf) ty49).castp (v' := .int .i64 (List.length a0 : Int)) (by exact len_map _)) (by decide) ?_
    refine alP (some 10) rfl rfl (does_bin (v := .bool (decide (v3_0 < (List.length a0 : Int)))) (by conv => lhs; whnf) (by conv => lhs; whnf) rfl) (by decide) ?_
    refine al_nil ?_
    refine hK11 _ ?_
    refine aw_bool (b := (decide (v3_0 < (List.length a0 : Int)))) 10 rfl (fun c12 => ?_) (fun c12 => ?_)
    · have h := ifT c12 h
      refine aw_cond_t (by decide) rfl ?_
      refine aw_skip ?_
      refine hK10 _ ?_
      refine aw_seq_k (fun K13 hK13 => ?_)
      refine aw_block ?_
      refine aw_seq_k (fun K14 hK14 => ?_)
      refine aw_regL ?_
      refine alP (some 13) rfl rfl (does_move (v := .sl 10 (List.map enc29 a0)) (by exact rfl)) (by decide) ?_
      refine alP (some 14) rfl rfl (does_move (v := .int .i64 v3_0) (by exact rfl)) (by decide) ?_
      obtain ⟨g15, h⟩ := gd_some h
      obtain ⟨x16, hx16, h⟩ := bnd_some h
      refine alP (some 15) rfl rfl (does_indexAddr_sl (el := .agg [.int .u64 x16.Trace.Hi, .int .u64 x16.Trace.Lo, .int .u64 x16.Id, .int .u64 x16.Parent, .str x16.Service, .str x16.Op, .int .i64 x16.Start, .int .i64 x16.Dur, .bool x16.Err, .sl 2 (List.map enc53 x16.Attrs)]) (by conv => lhs; whnf) (by conv => lhs; whnf) ty49 ty30 g15 (by exact map_get hx16)) (by decide) ?_
      refine alR (some 16) rfl rfl (does_load (v := .agg [.int .u64 x16.Trace.Hi, .int .u64 x16.Trace.Lo, .int .u64 x16.Id, .int .u64 x16.Parent, .str x16.Service, .str x16.Op, .int .i64 x16.Start, .int .i64 x16.Dur, .bool x16.Err, .sl 2 (List.map enc53 x16.Attrs)]) (by conv => lhs; whnf) (by conv => lhs; whnf) ty30 (by exact rfl)) (by decide) ?_
      obtain ⟨x17, hx17, h⟩ := bnd_some h
      refine alD (some 17) rfl rfl (do_call0 17 false (gleaninglaw3_Few_ok x16 hx17) rfl ent10 rfl rfl) (by decide) ?_
      refine alP (some 18) rfl rfl (does_un (v := .bool (!x17)) (by conv => lhs; whnf) rfl) (by decide) ?_
      refine al_nil ?_
      refine hK14 _ ?_
      refine aw_bool (b := (!x17)) 18 rfl (fun c18 => ?_) (fun c18 => ?_)
      · have h := ifT c18 h
        refine aw_cond_t (by decide) rfl ?_
        refine aw_seq_k (fun K19 hK19 => ?_)
        refine aw_regL ?_
        refine alP (some 2) rfl rfl (does_assign (v := .bool false) (by exact rfl)) (by decide) ?_
        refine al_nil ?_
        refine hK19 _ ?_
        refine aw_ret ?_
        have h := leafR h hq9
        obtain rfl := Option.some.inj h
        exact ret_ok1 (by conv => lhs; whnf) (by conv => lhs; whnf) (by exact rfl) (.inr rfl) rfl
      · have h := ifF c18 h
        refine aw_cond_f (by decide) rfl ?_
        refine aw_skip ?_
        refine hK13 _ ?_
        refine aw_regL ?_
        refine alP (some 11) rfl rfl (does_move (v := .int .i64 v3_0) (by exact rfl)) (by decide) ?_
        refine alP (some 12) rfl rfl (does_bin (v := .int .i64 (IntKind.i64.wrap (v3_0 + 1))) (by conv => lhs; whnf) (by conv => lhs; whnf) rfl) (by decide) ?_
        refine alP (some 3) rfl rfl (does_assign (v := .int .i64 (IntKind.i64.wrap (v3_0 + 1))) (by exact rfl)) (by decide) ?_
        refine al_nil ?_
        have h := leafL h hq9
        exact ⟨m0, Nat.lt_succ_self _, _, reb_lit [(0, .sl 10 (List.map enc29 a0)), (3, .int .i64 (IntKind.i64.wrap (v3_0 + 1)))] [] [] [] (envOk_cons (by conv => lhs; whnf) (by exact rfl) (envOk_cons (by conv => lhs; whnf) (by exact rfl) envOk_nil)) objOk_nil (nodup_b rfl) (nodup_b rfl) rfl rfl, (IntKind.i64.wrap (v3_0 + 1)), h, rfl⟩
    · have h := ifF c12 h
      refine aw_cond_f (by decide) rfl ?_
      refine aw_exit ?_
      have h := leafR h hq9
      refine hK6 _ ?_
      refine aw_seq_k (fun K20 hK20 => ?_)
      refine aw_regL ?_
      refine alP (some 2) rfl rfl (does_assign (v := .bool true) (by exact rfl)) (by decide) ?_
      refine al_nil ?_
      refine hK20 _ ?_
      refine aw_ret ?_
      obtain rfl := Option.some.inj h
      exact ret_ok1 (by conv => lhs; whnf) (by conv => lhs; whnf) (by exact rfl) (.inr rfl) rfl
def gleaninglaw15_Few_k1 (a0 : List Episode) (v3_0 : Int) (v4_0 : Int) : Option ((Int × Int) ⊕ Bool) :=
  gd (0 ≤ v4_0) (Option.bind (a0[(Int.toNat v4_0)]?) (fun (x18 : Episode) => Option.bind (gleaninglaw3_FewAll x18.Spans) (fun (x19 : Bool) => if (!x19) = true then (some (Sum.inr false)) else (gd (0 ≤ v4_0) (Option.bind (a0[(Int.toNat v4_0)]?) (fun (x23 : Episode) => some (Sum.inl ((IntKind.i64.wrap ((IntKind.i64.wrap (v3_0 + 1)) + (List.length x23.Spans : Int))), (IntKind.i64.wrap (v4_0 + 1))))))))))
def gleaninglaw15_Few_l0 (a0 : List Episode) (v3_0 : Int) (v4_0 : Int) : Option ((Int × Int) ⊕ Bool) :=
  Option.bind (if (decide (v4_0 < (List.length a0 : Int))) = true then (if (decide (v3_0 < 1000)) = true then (some (Sum.inl ())) else (some (Sum.inr (Sum.inr (decide (v3_0 ≤ 120)))))) else (some (Sum.inr (Sum.inr (decide (v3_0 ≤ 120)))))) (Sum.elim (fun (s : Unit) => gleaninglaw15_Few_k1 a0 v3_0 v4_0) some)
def gleaninglaw15_Few (a0 : List Episode) : Option Bool :=
  loopN (fun (s : Int × Int) => gleaninglaw15_Few_l0 a0 s.1 s.2) Fu (0, 0)
set_option maxRecDepth 100000 in
set_option maxHeartbeats 8000000 in
/-- gleaning/gleaninglaw15.Few -/
theorem gleaninglaw15_Few_ok (a0 : List Episode) {r : Bool} (h : gleaninglaw15_Few a0 = some r) : Ok Try.prog 22 [.sl 6 (List.map enc50 a0)] [] [] (.bool r) [] [] := by
  unfold gleaninglaw15_Few at h
  refine ok_of_code Try.func22 rfl (by show (1 : Nat) ≤ _; decide) (Nat.le_refl _) fun X => ?_
  refine aw_seq_k (fun K1 hK1 => ?_)
  refine aw_regL ?_
  refine alP (some 2) rfl rfl (does_assign (v := .bool false) (by exact rfl)) (by decide) ?_
  refine al_nil ?_
  refine hK1 _ ?_
  refine aw_seq_k (fun K2 hK2 => ?_)
  refine aw_regL ?_
  refine alP (some 3) rfl rfl (does_assign (v := .int .i64 0) (by exact rfl)) (by decide) ?_
  refine al_nil ?_
  refine hK2 _ ?_
  refine aw_seq_k (fun K3 hK3 => ?_)
  refine aw_seq_k (fun K4 hK4 => ?_)
  refine aw_regL ?_
  refine alP (some 4) rfl rfl (does_assign (v := .int .i64 0) (by exact rfl)) (by decide) ?_
  refine al_nil ?_
  refine hK4 _ ?_
  refine aw_block ?_
  refine aw_loop' (fun m s => ∃ (v3_0 : Int), ∃ (v4_0 : Int), loopN (fun (s : Int × Int) => gleaninglaw15_Few_l0 a0 s.1 s.2) m (v3_0, v4_0) = some r ∧ s = lit [(0, .sl 6 (List.map enc50 a0)), (3, .int .i64 v3_0), (4, .int .i64 v4_0)] [] [] X) Fu
    ⟨_, reb_lit [(0, .sl 6 (List.map enc50 a0)), (3, .int .i64 (0)), (4, .int .i64 (0))] [] [] [] (envOk_cons (by conv => lhs; whnf) (by exact rfl) (envOk_cons (by conv => lhs; whnf) (by exact rfl) (envOk_cons (by conv => lhs; whnf) (by exact rfl) envOk_nil))) objOk_nil (nodup_b rfl) (nodup_b rfl) rfl rfl, 0, 0, h, rfl⟩ ?_
  rintro m s ⟨v3_0, v4_0, h, rfl⟩
  obtain ⟨m0, q5, rfl, h, hq6⟩ := loop_some h
  replace h : gleaninglaw15_Few_l0 a0 v3_0 v4_0 = some q5 := h
  unfold gleaninglaw15_Few_l0 at h
  obtain ⟨q7, h, hk8⟩ := bnd_some h
  refine aw_cut (fun s => gleaninglaw15_Few_k1 a0 v3_0 v4_0 = some q5 ∧ s = lit [(0, .sl 6 (List.map enc50 a0)), (3, .int .i64 v3_0), (4, .int .i64 v4_0)] [] [] X) ?_ ?_
  · skip
    refine aw_seq_k (fun K9 hK9 => ?_)
    refine aw_regL ?_
    refine alP (some 5) rfl rfl (does_move (v := .int .i64 v4_0) (by exact rfl)) (by decide) ?_
    refine alP (some 6) rfl rfl (does_move (v := .sl 6 (List.map enc50 a0)) (by exact rfl)) (by decide) ?_
    refine alP (some 7) rfl rfl ((does_len_sl (by conv => lhs; whnf) ty43).castp (v' := .int .i64 (List.length a0 : Int)) (by exact len_map _)) (by decide) ?_
    refine alP (some 8) rfl rfl (does_bin (v := .bool (decide (v4_0 < (List.length a0 : Int)))) (by conv => lhs; whnf) (by conv => lhs; whnf) rfl) (by decide) ?_
    refine alP (some 9) rfl rfl (does_move (v := .bool (decide (v4_0 < (List.length a0 : Int)))) (by exact rfl)) (by decide) ?_
    refine al_bool (c := (decide (v4_0 < (List.length a0 : Int)))) 9 rfl (fun c10 => ?_) (fun c10 => ?_)
    · have h := ifT c10 h
      refine alP (some 10) rfl rfl (does_move (v := .int .i64 v3_0) (by exact rfl)) (by decide) ?_
      refine alP (some 11) rfl rfl (does_bin (v := .bool (decide (v3_0 < 1000))) (by conv => lhs; whnf) (by conv => lhs; whnf) rfl) (by decide) ?_
      refine alP (some 12) rfl rfl (does_pick (v := .bool (decide (v3_0 < 1000))) (by conv => lhs; whnf) (by exact rfl)) (by decide) ?_
      refine al_nil ?_
      refine hK9 _ ?_
      refine aw_bool (b := (decide (v3_0 < 1000))) 12 rfl (fun c11 => ?_) (fun c11 => ?_)
      · have h := ifT c11 h
        refine aw_cond_t (by decide) rfl ?_
        refine aw_skip ?_
        have h := leafL h hk8
        exact ⟨_, reb_lit [(0, .sl 6 (List.map enc50 a0)), (3, .int .i64 v3_0), (4, .int .i64 v4_0)] [] [] [] (envOk_cons (by conv => lhs; whnf) (by exact rfl) (envOk_cons (by conv => lhs; whnf) (by exact rfl) (envOk_cons (by conv => lhs; whnf) (by exact rfl) envOk_nil))) objOk_nil (nodup_b rfl) (nodup_b rfl) rfl rfl, h, rfl⟩
      · have h := ifF c11 h
        refine aw_cond_f (by decide) rfl ?_
        refine aw_exit ?_
        have h := leafR h hk8
        have h := leafR h hq6
        refine hK3 _ ?_
        refine aw_seq_k (fun K12 hK12 => ?_)
        refine aw_regL ?_
        refine alP (some 31) rfl rfl (does_move (v := .int .i64 v3_0) (by exact rfl)) (by decide) ?_
        refine alP (some 32) rfl rfl (does_bin (v := .bool (decide (v3_0 ≤ 120))) (by conv => lhs; whnf) (by conv => lhs; whnf) rfl) (by decide) ?_
        refine alP (some 2) rfl rfl (does_assign (v := .bool (decide (v3_0 ≤ 120))) (by exact rfl)) (by decide) ?_
        refine al_nil ?_
        refine hK12 _ ?_
        refine aw_ret ?_
        obtain rfl := Option.some.inj h
        exact ret_ok1 (by conv => lhs; whnf) (by conv => lhs; whnf) (by exact rfl) (.inr rfl) rfl
    · have h := ifF c10 h
      refine alS (some 10) rfl rfl (by decide) ?_
      refine alS (some 11) rfl rfl (by decide) ?_
      refine alP (some 12) rfl rfl (does_pick (v := .bool false) (by conv => lhs; whnf) (by exact rfl)) (by decide) ?_
      refine al_nil ?_
      refine hK9 _ ?_
      refine aw_cond_f (by decide) rfl ?_
      refine aw_exit ?_
      have h := leafR h hk8
      have h := leafR h hq6
      refine hK3 _ ?_
      refine aw_seq_k (fun K13 hK13 => ?_)
      refine aw_regL ?_
      refine alP (some 31) rfl rfl (does_move (v := .int .i64 v3_0) (by exact rfl)) (by decide) ?_
      refine alP (some 32) rfl rfl (does_bin (v := .bool (decide (v3_0 ≤ 120))) (by conv => lhs; whnf) (by conv => lhs; whnf) rfl) (by decide) ?_
      refine alP (some 2) rfl rfl (does_assign (v := .bool (decide (v3_0 ≤ 120))) (by exact rfl)) (by decide) ?_
      refine al_nil ?_
      refine hK13 _ ?_
      refine aw_ret ?_
      obtain rfl := Option.some.inj h
      exact ret_ok1 (by conv => lhs; whnf) (by conv => lhs; whnf) (by exact rfl) (.inr rfl) rfl
  · rintro s ⟨h, rfl⟩
    unfold gleaninglaw15_Few_k1 at h
    refine aw_seq_k (fun K14 hK14 => ?_)
    refine aw_block ?_
    refine aw_seq_k (fun K15 hK15 => ?_)
    refine aw_seq_k (fun K16 hK16 => ?_)
    refine aw_regL ?_
    refine alP (some 15) rfl rfl (does_move (v := .sl 6 (List.map enc50 a0)) (by exact rfl)) (by decide) ?_
    refine alP (some 16) rfl rfl (does_move (v := .int .i64 v4_0) (by exact rfl)) (by decide) ?_
    obtain ⟨g17, h⟩ := gd_some h
    obtain ⟨x18, hx18, h⟩ := bnd_some h
    refine alP (some 17) rfl rfl (does_indexAddr_sl (el := .agg [.int .u64 x18.Trace.Hi, .int .u64 x18.Trace.Lo, .int .i64 x18.First, .int .i64 x18.Last, .bool x18.Sure, .sl 10 (List.map enc29 x18.Spans)]) (by conv => lhs; whnf) (by conv => lhs; whnf) ty43 ty51 g17 (by exact map_get hx18)) (by decide) ?_
    refine alP (some 18) rfl rfl (does_fieldAddr (q := .rptr [.sl 10 (List.map enc29 x18.Spans)]) (by conv => lhs; whnf) ty51 rfl ty49 (by decide) (by exact rfl)) (by decide) ?_
    refine alR (some 19) rfl rfl (does_load (v := .sl 10 (List.map enc29 x18.Spans)) (by conv => lhs; whnf) (by conv => lhs; whnf) ty49 (by exact rfl)) (by decide) ?_
    obtain ⟨x19, hx19, h⟩ := bnd_some h
    refine alD (some 20) rfl rfl (do_call0 20 false (gleaninglaw3_FewAll_ok x18.Spans hx19) rfl ent28 rfl rfl) (by decide) ?_
    refine alP (some 21) rfl rfl (does_un (v := .bool (!x19)) (by conv => lhs; whnf) rfl) (by decide) ?_
    refine al_nil ?_
    refine hK16 _ ?_
    refine aw_bool (b := (!x19)) 21 rfl (fun c20 => ?_) (fun c20 => ?_)
    · have h := ifT c20 h
      refine aw_cond_t (by decide) rfl ?_
      refine aw_seq_k (fun K21 hK21 => ?_)
      refine aw_regL ?_
      refine alP (some 2) rfl rfl (does_assign (v := .bool false) (by exact rfl)) (by decide) ?_
      refine al_nil ?_
      refine hK21 _ ?_
      refine aw_ret ?_
      have h := leafR h hq6
      obtain rfl := Option.some.inj h
      exact ret_ok1 (by conv => lhs; whnf) (by conv => lhs; whnf) (by exact rfl) (.inr rfl) rfl
    · have h := ifF c20 h
      refine aw_cond_f (by decide) rfl ?_
      refine aw_skip ?_
      refine hK15 _ ?_
      refine aw_regL ?_
      refine alP (some 22) rfl rfl (does_move (v := .int .i64 v3_0) (by exact rfl)) (by decide) ?_
      refine alP (some 23) rfl rfl (does_bin (v := .int .i64 (IntKind.i64.wrap (v3_0 + 1))) (by conv => lhs; whnf) (by conv => lhs; whnf) rfl) (by decide) ?_
      refine alP (some 24) rfl rfl (does_move (v := .sl 6 (List.map enc50 a0)) (by exact rfl)) (by decide) ?_
      refine alP (some 25) rfl rfl (does_move (v := .int .i64 v4_0) (by exact rfl)) (by decide) ?_
      obtain ⟨g22, h⟩ := gd_some h
      obtain ⟨x23, hx23, h⟩ := bnd_some h
      refine alP (some 26) rfl rfl (does_indexAddr_sl (el := .agg [.int .u64 x23.Trace.Hi, .int .u64 x23.Trace.Lo, .int .i64 x23.First, .int .i64 x23.Last, .bool x23.Sure, .sl 10 (List.map enc29 x23.Spans)]) (by conv => lhs; whnf) (by conv => lhs; whnf) ty43 ty51 g22 (by exact map_get hx23)) (by decide) ?_
      refine alP (some 27) rfl rfl (does_fieldAddr (q := .rptr [.sl 10 (List.map enc29 x23.Spans)]) (by conv => lhs; whnf) ty51 rfl ty49 (by decide) (by exact rfl)) (by decide) ?_
      refine alR (some 28) rfl rfl (does_load (v := .sl 10 (List.map enc29 x23.Spans)) (by conv => lhs; whnf) (by conv => lhs; whnf) ty49 (by exact rfl)) (by decide) ?_
      refine alP (some 29) rfl rfl ((does_len_sl (by conv => lhs; whnf) ty49).castp (v' := .int .i64 (List.length x23.Spans : Int)) (by exact len_map _)) (by decide) ?_
      refine alP (some 30) rfl rfl (does_bin (v := .int .i64 (IntKind.i64.wrap ((IntKind.i64.wrap (v3_0 + 1)) + (List.length x23.Spans : Int)))) (by conv => lhs; whnf) (by conv => lhs; whnf) rfl) (by decide) ?_
      refine alP (some 3) rfl rfl (does_assign (v := .int .i64 (IntKind.i64.wrap ((IntKind.i64.wrap (v3_0 + 1)) + (List.length x23.Spans : Int)))) (by exact rfl)) (by decide) ?_
      refine al_nil ?_
      refine hK14 _ ?_
      refine aw_regL ?_
      refine alP (some 13) rfl rfl (does_move (v := .int .i64 v4_0) (by exact rfl)) (by decide) ?_
      refine alP (some 14) rfl rfl (does_bin (v := .int .i64 (IntKind.i64.wrap (v4_0 + 1))) (by conv => lhs; whnf) (by conv => lhs; whnf) rfl) (by decide) ?_
      refine alP (some 4) rfl rfl (does_assign (v := .int .i64 (IntKind.i64.wrap (v4_0 + 1))) (by exact rfl)) (by decide) ?_
      refine al_nil ?_
      have h := leafL h hq6
      exact ⟨m0, Nat.lt_succ_self _, _, reb_lit [(0, .sl 6 (List.map enc50 a0)), (3, .int .i64 (IntKind.i64.wrap ((IntKind.i64.wrap (v3_0 + 1)) + (List.length x23.Spans : Int)))), (4, .int .i64 (IntKind.i64.wrap (v4_0 + 1)))] [] [] [] (envOk_cons (by conv => lhs; whnf) (by exact rfl) (envOk_cons (by conv => lhs; whnf) (by exact rfl) (envOk_cons (by conv => lhs; whnf) (by exact rfl) envOk_nil))) objOk_nil (nodup_b rfl) (nodup_b rfl) rfl rfl, (IntKind.i64.wrap ((IntKind.i64.wrap (v3_0 + 1)) + (List.length x23.Spans : Int))), (IntKind.i64.wrap (v4_0 + 1)), h, rfl⟩
theorem sh49 : ∀ (m : Nat) (cs : List PV), Shape Try.prog m 49 cs → ∃ a : List Span, cs = [.sl 10 (List.map enc29 a)] ∧ ((List.length a) ≤ maxLen ∧ ∀ y ∈ a, Span.wf y) := fun m cs h => by
  obtain ⟨l, h1, h2, h3⟩ := shape_rows (f := enc29) (Q := fun y => Span.wf y) h Try.underlying49 (fun m ps hs => by
    obtain ⟨a, rfl, hw⟩ := sh30 m ps hs
    exact ⟨a, by rw [show aggT Try.prog 30 = true by kernel_rfl]; rfl, hw⟩)
  exact ⟨l, h1.trans (by rw [show Try.prog.cellsOf 30 = 10 by kernel_rfl]), h2, h3⟩
def Episode.wf (a : Episode) : Prop := (Trace.wf a.Trace) ∧ (inI .i64 a.First) ∧ (inI .i64 a.Last) ∧ True ∧ ((List.length a.Spans) ≤ maxLen ∧ ∀ y ∈ a.Spans, Span.wf y)
theorem sh51 : ∀ (m : Nat) (cs : List PV), Shape Try.prog m 51 cs → ∃ a : Episode, cs = [.int .u64 a.Trace.Hi, .int .u64 a.Trace.Lo, .int .i64 a.First, .int .i64 a.Last, .bool a.Sure, .sl 10 (List.map enc29 a.Spans)] ∧ (Episode.wf a) := fun m cs h => by
  obtain ⟨hl, m, hf⟩ := shape_struct h Try.underlying51
  have f0 := hf 0 _ rfl
  obtain ⟨a0, e0, w0⟩ := sh27 m _ f0
  rw [show Try.prog.cellsOf _ = 2 by kernel_rfl] at e0
  have f1 := hf 1 _ rfl
  obtain ⟨a1, e1, w1⟩ := sh3 m _ f1
  rw [show Try.prog.cellsOf _ = 1 by kernel_rfl] at e1
  have f2 := hf 2 _ rfl
  obtain ⟨a2, e2, w2⟩ := sh3 m _ f2
  rw [show Try.prog.cellsOf _ = 1 by kernel_rfl] at e2
  have f3 := hf 3 _ rfl
  obtain ⟨a3, e3, w3⟩ := sh4 m _ f3
  rw [show Try.prog.cellsOf _ = 1 by kernel_rfl] at e3
  have f4 := hf 4 _ rfl
  obtain ⟨a4, e4, w4⟩ := sh49 m _ f4
  rw [show Try.prog.cellsOf _ = 1 by kernel_rfl] at e4
  exact ⟨⟨a0, a1, a2, a3, a4⟩, tile_all (l := [(2, [.int .u64 a0.Hi, .int .u64 a0.Lo]), (1, [.int .i64 a1]), (1, [.int .i64 a2]), (1, [.bool a3]), (1, [.sl 10 (List.map enc29 a4)])]) ⟨e0, e1, e2, e3, e4, trivial⟩ hl (by kernel_rfl), ⟨w0, w1, w2, w3, w4⟩⟩
theorem sh43 : ∀ (m : Nat) (cs : List PV), Shape Try.prog m 43 cs → ∃ a : List Episode, cs = [.sl 6 (List.map enc50 a)] ∧ ((List.length a) ≤ maxLen ∧ ∀ y ∈ a, Episode.wf y) := fun m cs h => by
  obtain ⟨l, h1, h2, h3⟩ := shape_rows (f := enc50) (Q := fun y => Episode.wf y) h Try.underlying43 (fun m ps hs => by
    obtain ⟨a, rfl, hw⟩ := sh51 m ps hs
    exact ⟨a, by rw [show aggT Try.prog 51 = true by kernel_rfl]; rfl, hw⟩)
  exact ⟨l, h1.trans (by rw [show Try.prog.cellsOf 51 = 6 by kernel_rfl]), h2, h3⟩
def gleaninglaw19_Few_k2 (a0 : List Block) (v3_s_1 : List Episode) (v4_1 : Int) : Option ((List Episode × Int) ⊕ (List Episode)) :=
  gd (0 ≤ v4_1) (Option.bind (a0[(Int.toNat v4_1)]?) (fun (x15 : Block) => gd ((List.length (v3_s_1 ++ x15.Episodes)) * 64 ≤ 140737488355328 ∧ (List.length (v3_s_1 ++ x15.Episodes)) ≤ 140737488355328) (some (Sum.inl ((v3_s_1 ++ x15.Episodes), (IntKind.i64.wrap (v4_1 + 1)))))))
def gleaninglaw19_Few_l1 (a0 : List Block) (v3_s_1 : List Episode) (v4_1 : Int) : Option ((List Episode × Int) ⊕ (List Episode)) :=
  Option.bind (if (decide (v4_1 < (List.length a0 : Int))) = true then (if (decide (v4_1 < 20)) = true then (some (Sum.inl ())) else (some (Sum.inr (Sum.inr v3_s_1)))) else (some (Sum.inr (Sum.inr v3_s_1)))) (Sum.elim (fun (s : Unit) => gleaninglaw19_Few_k2 a0 v3_s_1 v4_1) some)
def gleaninglaw19_Few_k0 (a0 : List Block) (v3_s_0 : List Episode) : Option Bool :=
  if (decide ((List.length a0 : Int) ≤ 12)) = true then (Option.bind (gleaninglaw15_Few v3_s_0) (fun (x19 : Bool) => some x19)) else (some false)
def gleaninglaw19_Few (a0 : List Block) : Option Bool :=
  Option.bind (loopN (fun (s : List Episode × Int) => gleaninglaw19_Few_l1 a0 s.1 s.2) Fu ([], 0)) (fun (s : List Episode) => gleaninglaw19_Few_k0 a0 s)
set_option maxRecDepth 100000 in
set_option maxHeartbeats 8000000 in
/-- gleaning/gleaninglaw19.Few -/
theorem gleaninglaw19_Few_ok (a0 : List Block) {r : Bool} (h : gleaninglaw19_Few a0 = some r) : Ok Try.prog 8 [.sl 4 (List.map enc44 a0)] [] [] (.bool r) [] [] := by
  unfold gleaninglaw19_Few at h
  refine ok_of_code Try.func8 rfl (by show (1 : Nat) ≤ _; decide) (Nat.le_refl _) fun X => ?_
  refine aw_seq_k (fun K1 hK1 => ?_)
  refine aw_regL ?_
  refine alP (some 2) rfl rfl (does_assign (v := .bool false) (by exact rfl)) (by decide) ?_
  refine al_nil ?_
  refine hK1 _ ?_
  refine aw_seq_k (fun K2 hK2 => ?_)
  refine aw_regL ?_
  refine alP (some 3) rfl rfl (does_assign (v := .nil) (by exact rfl)) (by decide) ?_
  refine al_nil ?_
  refine hK2 _ ?_
  obtain ⟨q3, h, hk4⟩ := bnd_some h
  refine aw_cut (fun s => ∃ (v3_s_0 : List Episode), gleaninglaw19_Few_k0 a0 v3_s_0 = some r ∧ s = lit [(0, .sl 4 (List.map enc44 a0)), (3, .own 3 0)] [((3, 0), .arr 51 6 false (List.map enc50 v3_s_0))] [(3, 1)] X) ?_ ?_
  · skip
    refine aw_seq_k (fun K5 hK5 => ?_)
    refine aw_regL ?_
    refine alP (some 4) rfl rfl (does_assign (v := .int .i64 0) (by exact rfl)) (by decide) ?_
    refine al_nil ?_
    refine hK5 _ ?_
    refine aw_block ?_
    refine aw_nilOwn 3 51 6 (by conv => lhs; whnf) (by decide) (by decide) ?_
    refine aw_loop' (fun m s => ∃ (v3_s_1 : List Episode), ∃ (v4_1 : Int), loopN (fun (s : List Episode × Int) => gleaninglaw19_Few_l1 a0 s.1 s.2) m (v3_s_1, v4_1) = some q3 ∧ s = lit [(0, .sl 4 (List.map enc44 a0)), (3, .own 3 0), (4, .int .i64 v4_1)] [((3, 0), .arr 51 6 false (List.map enc50 v3_s_1))] [(3, 1)] X) Fu
      ⟨_, reb_lit [(0, .sl 4 (List.map enc44 a0)), (3, .own 3 0), (4, .int .i64 (0))] [(3, 0)] [((3, 0), .arr 51 6 false (List.map enc50 []))] [(3, 1)] (envOk_cons (by conv => lhs; whnf) (by exact rfl) (envOk_cons (by conv => lhs; whnf) (by exact rfl) (envOk_cons (by conv => lhs; whnf) (by exact rfl) envOk_nil))) (objOk_cons (by conv => lhs; whnf) (by conv => lhs; whnf) (by exact rfl) (by simp) objOk_nil) (nodup_b rfl) (nodup_b rfl) rfl rfl, [], 0, h, rfl⟩ ?_
    rintro m s ⟨v3_s_1, v4_1, h, rfl⟩
    obtain ⟨m1, q6, rfl, h, hq7⟩ := loop_some h
    replace h : gleaninglaw19_Few_l1 a0 v3_s_1 v4_1 = some q6 := h
    unfold gleaninglaw19_Few_l1 at h
    obtain ⟨q8, h, hk9⟩ := bnd_some h
    refine aw_cut (fun s => gleaninglaw19_Few_k2 a0 v3_s_1 v4_1 = some q6 ∧ s = lit [(0, .sl 4 (List.map enc44 a0)), (3, .own 3 0), (4, .int .i64 v4_1)] [((3, 0), .arr 51 6 false (List.map enc50 v3_s_1))] [(3, 1)] X) ?_ ?_
    · skip
      refine aw_seq_k (fun K10 hK10 => ?_)
      refine aw_regL ?_
      refine alP (some 5) rfl rfl (does_move (v := .int .i64 v4_1) (by exact rfl)) (by decide) ?_
      refine alP (some 6) rfl rfl (does_move (v := .sl 4 (List.map enc44 a0)) (by exact rfl)) (by decide) ?_
      refine alP (some 7) rfl rfl ((does_len_sl (by conv => lhs; whnf) ty22).castp (v' := .int .i64 (List.length a0 : Int)) (by exact len_map _)) (by decide) ?_
      refine alP (some 8) rfl rfl (does_bin (v := .bool (decide (v4_1 < (List.length a0 : Int)))) (by conv => lhs; whnf) (by conv => lhs; whnf) rfl) (by decide) ?_
      refine alP (some 9) rfl rfl (does_move (v := .bool (decide (v4_1 < (List.length a0 : Int)))) (by exact rfl)) (by decide) ?_
      refine al_bool (c := (decide (v4_1 < (List.length a0 : Int)))) 9 rfl (fun c11 => ?_) (fun c11 => ?_)
      · have h := ifT c11 h
        refine alP (some 10) rfl rfl (does_move (v := .int .i64 v4_1) (by exact rfl)) (by decide) ?_
        refine alP (some 11) rfl rfl (does_bin (v := .bool (decide (v4_1 < 20))) (by conv => lhs; whnf) (by conv => lhs; whnf) rfl) (by decide) ?_
        refine alP (some 12) rfl rfl (does_pick (v := .bool (decide (v4_1 < 20))) (by conv => lhs; whnf) (by exact rfl)) (by decide) ?_
        refine al_nil ?_
        refine hK10 _ ?_
        refine aw_bool (b := (decide (v4_1 < 20))) 12 rfl (fun c12 => ?_) (fun c12 => ?_)
        · have h := ifT c12 h
          refine aw_cond_t (by decide) rfl ?_
          refine aw_skip ?_
          have h := leafL h hk9
          exact ⟨_, reb_lit [(0, .sl 4 (List.map enc44 a0)), (3, .own 3 0), (4, .int .i64 v4_1)] [(3, 0)] [((3, 0), .arr 51 6 false (List.map enc50 v3_s_1))] [(3, 1)] (envOk_cons (by conv => lhs; whnf) (by exact rfl) (envOk_cons (by conv => lhs; whnf) (by exact rfl) (envOk_cons (by conv => lhs; whnf) (by exact rfl) envOk_nil))) (objOk_cons (by conv => lhs; whnf) (by conv => lhs; whnf) (by exact rfl) (by simp) objOk_nil) (nodup_b rfl) (nodup_b rfl) rfl rfl, h, rfl⟩
        · have h := ifF c12 h
          refine aw_cond_f (by decide) rfl ?_
          refine aw_exit ?_
          have h := leafR h hk9
          have h := leafR h hq7
          obtain rfl := Option.some.inj h
          have h := hk4
          exact ⟨_, reb_lit [(0, .sl 4 (List.map enc44 a0)), (3, .own 3 0)] [(3, 0)] [((3, 0), .arr 51 6 false (List.map enc50 v3_s_1))] [(3, 1)] (envOk_cons (by conv => lhs; whnf) (by exact rfl) (envOk_cons (by conv => lhs; whnf) (by exact rfl) envOk_nil)) (objOk_cons (by conv => lhs; whnf) (by conv => lhs; whnf) (by exact rfl) (by simp) objOk_nil) (nodup_b rfl) (nodup_b rfl) rfl rfl, v3_s_1, h, rfl⟩
      · have h := ifF c11 h
        refine alS (some 10) rfl rfl (by decide) ?_
        refine alS (some 11) rfl rfl (by decide) ?_
        refine alP (some 12) rfl rfl (does_pick (v := .bool false) (by conv => lhs; whnf) (by exact rfl)) (by decide) ?_
        refine al_nil ?_
        refine hK10 _ ?_
        refine aw_cond_f (by decide) rfl ?_
        refine aw_exit ?_
        have h := leafR h hk9
        have h := leafR h hq7
        obtain rfl := Option.some.inj h
        have h := hk4
        exact ⟨_, reb_lit [(0, .sl 4 (List.map enc44 a0)), (3, .own 3 0)] [(3, 0)] [((3, 0), .arr 51 6 false (List.map enc50 v3_s_1))] [(3, 1)] (envOk_cons (by conv => lhs; whnf) (by exact rfl) (envOk_cons (by conv => lhs; whnf) (by exact rfl) envOk_nil)) (objOk_cons (by conv => lhs; whnf) (by conv => lhs; whnf) (by exact rfl) (by simp) objOk_nil) (nodup_b rfl) (nodup_b rfl) rfl rfl, v3_s_1, h, rfl⟩
    · rintro s ⟨h, rfl⟩
      unfold gleaninglaw19_Few_k2 at h
      refine aw_seq_k (fun K13 hK13 => ?_)
      refine aw_block ?_
      refine aw_regL ?_
      refine alP (some 15) rfl rfl (does_move (v := .own 3 0) (by exact rfl)) (by decide) ?_
      refine alP (some 16) rfl rfl (does_move (v := .sl 4 (List.map enc44 a0)) (by exact rfl)) (by decide) ?_
      refine alP (some 17) rfl rfl (does_move (v := .int .i64 v4_1) (by exact rfl)) (by decide) ?_
      obtain ⟨g14, h⟩ := gd_some h
      obtain ⟨x15, hx15, h⟩ := bnd_some h
      refine alP (some 18) rfl rfl (does_indexAddr_sl (el := .agg [.int .i64 x15.Number, .int .i64 x15.Born, .int .i64 x15.Tier, .sl 6 (List.map enc50 x15.Episodes)]) (by conv => lhs; whnf) (by conv => lhs; whnf) ty22 ty45 g14 (by exact map_get hx15)) (by decide) ?_
      refine alP (some 19) rfl rfl (does_fieldAddr (q := .rptr [.sl 6 (List.map enc50 x15.Episodes)]) (by conv => lhs; whnf) ty45 rfl ty43 (by decide) (by exact rfl)) (by decide) ?_
      refine alR (some 20) rfl rfl (does_load (v := .sl 6 (List.map enc50 x15.Episodes)) (by conv => lhs; whnf) (by conv => lhs; whnf) ty43 (by exact rfl)) (by decide) ?_
      obtain ⟨g16, h⟩ := gd_some h
      refine alD (some 21) rfl rfl (do_append (v := List.map enc50 (v3_s_1 ++ x15.Episodes)) (by conv => lhs; whnf) (by conv => lhs; whnf) ty43 ty51 rfl rfl (by conv => lhs; whnf) (by first | exact .inl rfl | exact .inr ⟨rfl, rfl⟩) (by conv => lhs; whnf) (by first | exact .inr rfl | exact .inl rfl) (map_app _ _) (fit_map g16)) (by decide) ?_
      refine alP (some 3) rfl rfl (does_assign (v := .own 21 0) (by exact rfl)) (by decide) ?_
      refine al_nil ?_
      refine hK13 _ ?_
      refine aw_regL ?_
      refine alP (some 13) rfl rfl (does_move (v := .int .i64 v4_1) (by exact rfl)) (by decide) ?_
      refine alP (some 14) rfl rfl (does_bin (v := .int .i64 (IntKind.i64.wrap (v4_1 + 1))) (by conv => lhs; whnf) (by conv => lhs; whnf) rfl) (by decide) ?_
      refine alP (some 4) rfl rfl (does_assign (v := .int .i64 (IntKind.i64.wrap (v4_1 + 1))) (by exact rfl)) (by decide) ?_
      refine al_nil ?_
      have h := leafL h hq7
      exact ⟨m1, Nat.lt_succ_self _, _, reb_lit [(0, .sl 4 (List.map enc44 a0)), (3, .own 3 0), (4, .int .i64 (IntKind.i64.wrap (v4_1 + 1)))] [(21, 0)] [((3, 0), .arr 51 6 false (List.map enc50 (v3_s_1 ++ x15.Episodes)))] [(3, 1)] (envOk_cons (by conv => lhs; whnf) (by exact rfl) (envOk_cons (by conv => lhs; whnf) (by exact rfl) (envOk_cons (by conv => lhs; whnf) (by exact rfl) envOk_nil))) (objOk_cons (by conv => lhs; whnf) (by conv => lhs; whnf) (by exact rfl) (by simp) objOk_nil) (nodup_b rfl) (nodup_b rfl) rfl rfl, (v3_s_1 ++ x15.Episodes), (IntKind.i64.wrap (v4_1 + 1)), h, rfl⟩
  · rintro s ⟨v3_s_0, h, rfl⟩
    unfold gleaninglaw19_Few_k0 at h
    refine aw_seq_k (fun K17 hK17 => ?_)
    refine aw_regL ?_
    refine alP (some 22) rfl rfl (does_move (v := .sl 4 (List.map enc44 a0)) (by exact rfl)) (by decide) ?_
    refine alP (some 23) rfl rfl ((does_len_sl (by conv => lhs; whnf) ty22).castp (v' := .int .i64 (List.length a0 : Int)) (by exact len_map _)) (by decide) ?_
    refine alP (some 24) rfl rfl (does_bin (v := .bool (decide ((List.length a0 : Int) ≤ 12))) (by conv => lhs; whnf) (by conv => lhs; whnf) rfl) (by decide) ?_
    refine alP (some 25) rfl rfl (does_move (v := .bool (decide ((List.length a0 : Int) ≤ 12))) (by exact rfl)) (by decide) ?_
    refine al_bool (c := (decide ((List.length a0 : Int) ≤ 12))) 25 rfl (fun c18 => ?_) (fun c18 => ?_)
    · have h := ifT c18 h
      refine alP (some 26) rfl rfl (does_move (v := .own 3 0) (by exact rfl)) (by decide) ?_
      obtain ⟨x19, hx19, h⟩ := bnd_some h
      refine alD (some 27) rfl rfl (do_callG (bcs := []) [] [] [(3, 0)] 27 false (gleaninglaw15_Few_ok v3_s_0 hx19) rfl ent22 trivial trivial rfl rfl rfl rfl rfl rfl rfl rfl (.inr ⟨rfl, rfl, trivial⟩)) (by decide) ?_
      refine alP (some 28) rfl rfl (does_pick (v := .bool x19) (by conv => lhs; whnf) (by exact rfl)) (by decide) ?_
      refine alP (some 2) rfl rfl (does_assign (v := .bool x19) (by exact rfl)) (by decide) ?_
      refine al_nil ?_
      refine hK17 _ ?_
      refine aw_ret ?_
      obtain rfl := Option.some.inj h
      exact ret_ok1 (by conv => lhs; whnf) (by conv => lhs; whnf) (by exact rfl) (.inr rfl) rfl
    · have h := ifF c18 h
      refine alS (some 26) rfl rfl (by decide) ?_
      refine alS (some 27) rfl rfl (by decide) ?_
      refine alP (some 28) rfl rfl (does_pick (v := .bool false) (by conv => lhs; whnf) (by exact rfl)) (by decide) ?_
      refine alP (some 2) rfl rfl (does_assign (v := .bool false) (by exact rfl)) (by decide) ?_
      refine al_nil ?_
      refine hK17 _ ?_
      refine aw_ret ?_
      obtain rfl := Option.some.inj h
      exact ret_ok1 (by conv => lhs; whnf) (by conv => lhs; whnf) (by exact rfl) (.inr rfl) rfl
def Block.wf (a : Block) : Prop := (inI .i64 a.Number) ∧ (inI .i64 a.Born) ∧ (inI .i64 a.Tier) ∧ ((List.length a.Episodes) ≤ maxLen ∧ ∀ y ∈ a.Episodes, Episode.wf y)
theorem sh45 : ∀ (m : Nat) (cs : List PV), Shape Try.prog m 45 cs → ∃ a : Block, cs = [.int .i64 a.Number, .int .i64 a.Born, .int .i64 a.Tier, .sl 6 (List.map enc50 a.Episodes)] ∧ (Block.wf a) := fun m cs h => by
  obtain ⟨hl, m, hf⟩ := shape_struct h Try.underlying45
  have f0 := hf 0 _ rfl
  obtain ⟨a0, e0, w0⟩ := sh3 m _ f0
  rw [show Try.prog.cellsOf _ = 1 by kernel_rfl] at e0
  have f1 := hf 1 _ rfl
  obtain ⟨a1, e1, w1⟩ := sh3 m _ f1
  rw [show Try.prog.cellsOf _ = 1 by kernel_rfl] at e1
  have f2 := hf 2 _ rfl
  obtain ⟨a2, e2, w2⟩ := sh3 m _ f2
  rw [show Try.prog.cellsOf _ = 1 by kernel_rfl] at e2
  have f3 := hf 3 _ rfl
  obtain ⟨a3, e3, w3⟩ := sh43 m _ f3
  rw [show Try.prog.cellsOf _ = 1 by kernel_rfl] at e3
  exact ⟨⟨a0, a1, a2, a3⟩, tile_all (l := [(1, [.int .i64 a0]), (1, [.int .i64 a1]), (1, [.int .i64 a2]), (1, [.sl 6 (List.map enc50 a3)])]) ⟨e0, e1, e2, e3, trivial⟩ hl (by kernel_rfl), ⟨w0, w1, w2, w3⟩⟩
theorem sh22 : ∀ (m : Nat) (cs : List PV), Shape Try.prog m 22 cs → ∃ a : List Block, cs = [.sl 4 (List.map enc44 a)] ∧ ((List.length a) ≤ maxLen ∧ ∀ y ∈ a, Block.wf y) := fun m cs h => by
  obtain ⟨l, h1, h2, h3⟩ := shape_rows (f := enc44) (Q := fun y => Block.wf y) h Try.underlying22 (fun m ps hs => by
    obtain ⟨a, rfl, hw⟩ := sh45 m ps hs
    exact ⟨a, by rw [show aggT Try.prog 45 = true by kernel_rfl]; rfl, hw⟩)
  exact ⟨l, h1.trans (by rw [show Try.prog.cellsOf 45 = 4 by kernel_rfl]), h2, h3⟩
def gleaninglaw32_Few (a0 : Query) : Option Bool :=
  if (decide ((ByteArray.size a0.Service : Int) ≤ 60)) = true then (if (decide ((ByteArray.size a0.Op : Int) ≤ 60)) = true then (if (decide ((ByteArray.size a0.Key : Int) ≤ 60)) = true then (some (decide ((ByteArray.size a0.Value : Int) ≤ 60))) else (some false)) else (some false)) else (some false)
set_option maxRecDepth 100000 in
set_option maxHeartbeats 8000000 in
/-- gleaning/gleaninglaw32.Few -/
theorem gleaninglaw32_Few_ok (a0 : Query) {r : Bool} (h : gleaninglaw32_Few a0 = some r) : Ok Try.prog 9 [.agg [.str a0.Service, .str a0.Op, .str a0.Key, .str a0.Value, .int .i64 a0.Dur, .bool a0.Err]] [] [] (.bool r) [] [] := by
  unfold gleaninglaw32_Few at h
  refine ok_of_code Try.func9 rfl (by show (1 : Nat) ≤ _; decide) (Nat.le_refl _) fun X => ?_
  refine aw_seq_k (fun K1 hK1 => ?_)
  refine aw_regL ?_
  refine alD (some 1) rfl rfl (do_box (by conv => lhs; whnf) rfl rfl) (by decide) ?_
  refine alP (some 2) rfl rfl (does_assign (v := .bool false) (by exact rfl)) (by decide) ?_
  refine al_nil ?_
  refine hK1 _ ?_
  refine aw_seq_k (fun K2 hK2 => ?_)
  refine aw_regL ?_
  refine alP (some 3) rfl rfl (does_fieldAddr (q := .ptr 1 0 0) (by conv => lhs; whnf) ty24 rfl ty9 (by decide) (by exact rfl)) (by decide) ?_
  refine alR (some 4) rfl rfl (does_load (v := .str a0.Service) (by conv => lhs; whnf) (by conv => lhs; whnf) ty9 (by exact rfl)) (by decide) ?_
  refine alP (some 5) rfl rfl (does_len_str (by conv => lhs; whnf) ty9) (by decide) ?_
  refine alP (some 6) rfl rfl (does_bin (v := .bool (decide ((ByteArray.size a0.Service : Int) ≤ 60))) (by conv => lhs; whnf) (by conv => lhs; whnf) rfl) (by decide) ?_
  refine alP (some 7) rfl rfl (does_move (v := .bool (decide ((ByteArray.size a0.Service : Int) ≤ 60))) (by exact rfl)) (by decide) ?_
  refine al_bool (c := (decide ((ByteArray.size a0.Service : Int) ≤ 60))) 7 rfl (fun c3 => ?_) (fun c3 => ?_)
  · have h := ifT c3 h
    refine alP (some 8) rfl rfl (does_fieldAddr (q := .ptr 1 0 1) (by conv => lhs; whnf) ty24 rfl ty9 (by decide) (by exact rfl)) (by decide) ?_
    refine alR (some 9) rfl rfl (does_load (v := .str a0.Op) (by conv => lhs; whnf) (by conv => lhs; whnf) ty9 (by exact rfl)) (by decide) ?_
    refine alP (some 10) rfl rfl (does_len_str (by conv => lhs; whnf) ty9) (by decide) ?_
    refine alP (some 11) rfl rfl (does_bin (v := .bool (decide ((ByteArray.size a0.Op : Int) ≤ 60))) (by conv => lhs; whnf) (by conv => lhs; whnf) rfl) (by decide) ?_
    refine alP (some 12) rfl rfl (does_pick (v := .bool (decide ((ByteArray.size a0.Op : Int) ≤ 60))) (by conv => lhs; whnf) (by exact rfl)) (by decide) ?_
    refine alP (some 13) rfl rfl (does_move (v := .bool (decide ((ByteArray.size a0.Op : Int) ≤ 60))) (by exact rfl)) (by decide) ?_
    refine al_bool (c := (decide ((ByteArray.size a0.Op : Int) ≤ 60))) 13 rfl (fun c4 => ?_) (fun c4 => ?_)
    · have h := ifT c4 h
      refine alP (some 14) rfl rfl (does_fieldAddr (q := .ptr 1 0 2) (by conv => lhs; whnf) ty24 rfl ty9 (by decide) (by exact rfl)) (by decide) ?_
      refine alR (some 15) rfl rfl (does_load (v := .str a0.Key) (by conv => lhs; whnf) (by conv => lhs; whnf) ty9 (by exact rfl)) (by decide) ?_
      refine alP (some 16) rfl rfl (does_len_str (by conv => lhs; whnf) ty9) (by decide) ?_
      refine alP (some 17) rfl rfl (does_bin (v := .bool (decide ((ByteArray.size a0.Key : Int) ≤ 60))) (by conv => lhs; whnf) (by conv => lhs; whnf) rfl) (by decide) ?_
      refine alP (some 18) rfl rfl (does_pick (v := .bool (decide ((ByteArray.size a0.Key : Int) ≤ 60))) (by conv => lhs; whnf) (by exact rfl)) (by decide) ?_
      refine alP (some 19) rfl rfl (does_move (v := .bool (decide ((ByteArray.size a0.Key : Int) ≤ 60))) (by exact rfl)) (by decide) ?_
      refine al_bool (c := (decide ((ByteArray.size a0.Key : Int) ≤ 60))) 19 rfl (fun c5 => ?_) (fun c5 => ?_)
      · have h := ifT c5 h
        refine alP (some 20) rfl rfl (does_fieldAddr (q := .ptr 1 0 3) (by conv => lhs; whnf) ty24 rfl ty9 (by decide) (by exact rfl)) (by decide) ?_
        refine alR (some 21) rfl rfl (does_load (v := .str a0.Value) (by conv => lhs; whnf) (by conv => lhs; whnf) ty9 (by exact rfl)) (by decide) ?_
        refine alP (some 22) rfl rfl (does_len_str (by conv => lhs; whnf) ty9) (by decide) ?_
        refine alP (some 23) rfl rfl (does_bin (v := .bool (decide ((ByteArray.size a0.Value : Int) ≤ 60))) (by conv => lhs; whnf) (by conv => lhs; whnf) rfl) (by decide) ?_
        refine alP (some 24) rfl rfl (does_pick (v := .bool (decide ((ByteArray.size a0.Value : Int) ≤ 60))) (by conv => lhs; whnf) (by exact rfl)) (by decide) ?_
        refine alP (some 2) rfl rfl (does_assign (v := .bool (decide ((ByteArray.size a0.Value : Int) ≤ 60))) (by exact rfl)) (by decide) ?_
        refine al_nil ?_
        refine hK2 _ ?_
        refine aw_ret ?_
        obtain rfl := Option.some.inj h
        exact ret_ok1 (by conv => lhs; whnf) (by conv => lhs; whnf) (by exact rfl) (.inr rfl) rfl
      · have h := ifF c5 h
        refine alS (some 20) rfl rfl (by decide) ?_
        refine alS (some 21) rfl rfl (by decide) ?_
        refine alS (some 22) rfl rfl (by decide) ?_
        refine alS (some 23) rfl rfl (by decide) ?_
        refine alP (some 24) rfl rfl (does_pick (v := .bool false) (by conv => lhs; whnf) (by exact rfl)) (by decide) ?_
        refine alP (some 2) rfl rfl (does_assign (v := .bool false) (by exact rfl)) (by decide) ?_
        refine al_nil ?_
        refine hK2 _ ?_
        refine aw_ret ?_
        obtain rfl := Option.some.inj h
        exact ret_ok1 (by conv => lhs; whnf) (by conv => lhs; whnf) (by exact rfl) (.inr rfl) rfl
    · have h := ifF c4 h
      refine alS (some 14) rfl rfl (by decide) ?_
      refine alS (some 15) rfl rfl (by decide) ?_
      refine alS (some 16) rfl rfl (by decide) ?_
      refine alS (some 17) rfl rfl (by decide) ?_
      refine alP (some 18) rfl rfl (does_pick (v := .bool false) (by conv => lhs; whnf) (by exact rfl)) (by decide) ?_
      refine alP (some 19) rfl rfl (does_move (v := .bool false) (by exact rfl)) (by decide) ?_
      refine alS (some 20) rfl rfl (by decide) ?_
      refine alS (some 21) rfl rfl (by decide) ?_
      refine alS (some 22) rfl rfl (by decide) ?_
      refine alS (some 23) rfl rfl (by decide) ?_
      refine alP (some 24) rfl rfl (does_pick (v := .bool false) (by conv => lhs; whnf) (by exact rfl)) (by decide) ?_
      refine alP (some 2) rfl rfl (does_assign (v := .bool false) (by exact rfl)) (by decide) ?_
      refine al_nil ?_
      refine hK2 _ ?_
      refine aw_ret ?_
      obtain rfl := Option.some.inj h
      exact ret_ok1 (by conv => lhs; whnf) (by conv => lhs; whnf) (by exact rfl) (.inr rfl) rfl
  · have h := ifF c3 h
    refine alS (some 8) rfl rfl (by decide) ?_
    refine alS (some 9) rfl rfl (by decide) ?_
    refine alS (some 10) rfl rfl (by decide) ?_
    refine alS (some 11) rfl rfl (by decide) ?_
    refine alP (some 12) rfl rfl (does_pick (v := .bool false) (by conv => lhs; whnf) (by exact rfl)) (by decide) ?_
    refine alP (some 13) rfl rfl (does_move (v := .bool false) (by exact rfl)) (by decide) ?_
    refine alS (some 14) rfl rfl (by decide) ?_
    refine alS (some 15) rfl rfl (by decide) ?_
    refine alS (some 16) rfl rfl (by decide) ?_
    refine alS (some 17) rfl rfl (by decide) ?_
    refine alP (some 18) rfl rfl (does_pick (v := .bool false) (by conv => lhs; whnf) (by exact rfl)) (by decide) ?_
    refine alP (some 19) rfl rfl (does_move (v := .bool false) (by exact rfl)) (by decide) ?_
    refine alS (some 20) rfl rfl (by decide) ?_
    refine alS (some 21) rfl rfl (by decide) ?_
    refine alS (some 22) rfl rfl (by decide) ?_
    refine alS (some 23) rfl rfl (by decide) ?_
    refine alP (some 24) rfl rfl (does_pick (v := .bool false) (by conv => lhs; whnf) (by exact rfl)) (by decide) ?_
    refine alP (some 2) rfl rfl (does_assign (v := .bool false) (by exact rfl)) (by decide) ?_
    refine al_nil ?_
    refine hK2 _ ?_
    refine aw_ret ?_
    obtain rfl := Option.some.inj h
    exact ret_ok1 (by conv => lhs; whnf) (by conv => lhs; whnf) (by exact rfl) (.inr rfl) rfl
def Query.wf (a : Query) : Prop := ((ByteArray.size a.Service) ≤ maxLen) ∧ ((ByteArray.size a.Op) ≤ maxLen) ∧ ((ByteArray.size a.Key) ≤ maxLen) ∧ ((ByteArray.size a.Value) ≤ maxLen) ∧ (inI .i64 a.Dur) ∧ True
theorem sh24 : ∀ (m : Nat) (cs : List PV), Shape Try.prog m 24 cs → ∃ a : Query, cs = [.str a.Service, .str a.Op, .str a.Key, .str a.Value, .int .i64 a.Dur, .bool a.Err] ∧ (Query.wf a) := fun m cs h => by
  obtain ⟨hl, m, hf⟩ := shape_struct h Try.underlying24
  have f0 := hf 0 _ rfl
  obtain ⟨a0, e0, w0⟩ := sh9 m _ f0
  rw [show Try.prog.cellsOf _ = 1 by kernel_rfl] at e0
  have f1 := hf 1 _ rfl
  obtain ⟨a1, e1, w1⟩ := sh9 m _ f1
  rw [show Try.prog.cellsOf _ = 1 by kernel_rfl] at e1
  have f2 := hf 2 _ rfl
  obtain ⟨a2, e2, w2⟩ := sh9 m _ f2
  rw [show Try.prog.cellsOf _ = 1 by kernel_rfl] at e2
  have f3 := hf 3 _ rfl
  obtain ⟨a3, e3, w3⟩ := sh9 m _ f3
  rw [show Try.prog.cellsOf _ = 1 by kernel_rfl] at e3
  have f4 := hf 4 _ rfl
  obtain ⟨a4, e4, w4⟩ := sh3 m _ f4
  rw [show Try.prog.cellsOf _ = 1 by kernel_rfl] at e4
  have f5 := hf 5 _ rfl
  obtain ⟨a5, e5, w5⟩ := sh4 m _ f5
  rw [show Try.prog.cellsOf _ = 1 by kernel_rfl] at e5
  exact ⟨⟨a0, a1, a2, a3, a4, a5⟩, tile_all (l := [(1, [.str a0]), (1, [.str a1]), (1, [.str a2]), (1, [.str a3]), (1, [.int .i64 a4]), (1, [.bool a5])]) ⟨e0, e1, e2, e3, e4, e5, trivial⟩ hl (by kernel_rfl), ⟨w0, w1, w2, w3, w4, w5⟩⟩
def gleaninglaw32_alive : Option Bool :=
  Option.bind (search_Find [] (Query.mk (strOf []) (strOf []) (strOf []) (strOf []) 0 false) 9) (fun (x4 : List Trace) => if ((List.length x4 : Int) == 0) = true then (Option.bind (search_Find [(Block.mk 0 0 0 [(Episode.mk (Trace.mk 0 4) 0 0 false [(Span.mk (Trace.mk 0 0) 0 0 (strOf []) (strOf []) 0 9 false [])])])] (Query.mk (strOf []) (strOf []) (strOf []) (strOf []) 9 false) 1) (fun (x6 : List Trace) => if ((List.length x6 : Int) == 1) = true then (Option.bind (search_Count [(Block.mk 0 0 0 [(Episode.mk (Trace.mk 0 4) 0 0 false [(Span.mk (Trace.mk 0 0) 0 0 (strOf []) (strOf []) 0 9 false [])])])] (Query.mk (strOf []) (strOf []) (strOf []) (strOf []) 10 false)) (fun (x8 : Int) => if (x8 == 0) = true then (Option.bind (search_Match (Query.mk (strOf []) (strOf []) (strOf []) (strOf []) 0 false) (Span.mk (Trace.mk 0 0) 0 0 (strOf []) (strOf []) 0 0 false [])) (fun (x10 : Bool) => some x10)) else (some false))) else (some false))) else (some false))
set_option maxRecDepth 100000 in
set_option maxHeartbeats 8000000 in
/-- gleaning/gleaninglaw32.alive -/
theorem gleaninglaw32_alive_ok {r : Bool} (h : gleaninglaw32_alive = some r) : Ok Try.prog 7 [] [] [] (.bool r) [] [] := by
  unfold gleaninglaw32_alive at h
  refine ok_of_code Try.func7 rfl (by show (0 : Nat) ≤ _; decide) (Nat.le_refl _) fun X => ?_
  refine aw_seq_k (fun K1 hK1 => ?_)
  refine aw_regL ?_
  refine alP (some 0) rfl rfl (does_assign (v := .bool false) (by exact rfl)) (by decide) ?_
  refine al_nil ?_
  refine hK1 _ ?_
  refine aw_seq_k (fun K2 hK2 => ?_)
  refine aw_regL ?_
  refine alP (some 2) rfl rfl (do_build_struct (cs := [.int .u64 0, .int .u64 4]) ty27 rfl [⟨.int .u64, 1, 8, [.int .u64 0]⟩, ⟨.int .u64, 1, 8, [.int .u64 0]⟩] (by simp only [List.map, ty25]) (by rfl) (by exact rfl)) (by decide) ?_
  refine alP (some 3) rfl rfl ((do_build_struct (cs := [.int .u64 0, .int .u64 0, .int .u64 0, .int .u64 0, .str (strOf []), .str (strOf []), .int .i64 0, .int .i64 9, .bool false, .nil]) ty30 rfl [⟨.struct [(0, 25), (1, 25)], 2, 16, [.int .u64 0, .int .u64 0]⟩, ⟨.int .u64, 1, 8, [.int .u64 0]⟩, ⟨.int .u64, 1, 8, [.int .u64 0]⟩, ⟨.str, 1, 16, [.str ByteArray.empty]⟩, ⟨.str, 1, 16, [.str ByteArray.empty]⟩, ⟨.int .i64, 1, 8, [.int .i64 0]⟩, ⟨.int .i64, 1, 8, [.int .i64 0]⟩, ⟨.bool, 1, 1, [.bool false]⟩, ⟨.slice 54, 1, 24, [.nil]⟩] (by simp only [List.map, ty25, ty27, ty28, ty3, ty4, ty9]) (by rfl) (by exact rfl)).weak (v' := .agg [.int .u64 0, .int .u64 0, .int .u64 0, .int .u64 0, .str (strOf []), .str (strOf []), .int .i64 0, .int .i64 9, .bool false, .sl 2 (List.map enc53 [])]) (le_agg ⟨le_refl _, le_refl _, le_refl _, le_refl _, le_refl _, le_refl _, le_refl _, le_refl _, le_refl _, le_nil _, trivial⟩)) (by decide) ?_
  refine alD (some 4) rfl rfl (do_buildSlice (xs := List.map enc29 [(Span.mk (Trace.mk 0 0) 0 0 (strOf []) (strOf []) 0 9 false [])]) ty49 ty30 rfl rfl rfl rfl rfl rfl rfl rfl) (by decide) ?_
  refine alP (some 5) rfl rfl (do_build_struct (cs := [.int .u64 0, .int .u64 4, .int .i64 0, .int .i64 0, .bool false, .own 4 0]) ty51 rfl [⟨.struct [(0, 25), (1, 25)], 2, 16, [.int .u64 0, .int .u64 0]⟩, ⟨.int .i64, 1, 8, [.int .i64 0]⟩, ⟨.int .i64, 1, 8, [.int .i64 0]⟩, ⟨.bool, 1, 1, [.bool false]⟩, ⟨.slice 30, 1, 24, [.nil]⟩] (by simp only [List.map, ty27, ty3, ty4, ty49]) (by rfl) (by exact rfl)) (by decide) ?_
  refine alD (some 6) rfl rfl (does_frz (d := 4) (n := 0) (by conv => lhs; whnf) (do_buildSlice (xs := List.map enc50 [(Episode.mk (Trace.mk 0 4) 0 0 false [(Span.mk (Trace.mk 0 0) 0 0 (strOf []) (strOf []) 0 9 false [])])]) ty43 ty51 rfl rfl rfl rfl rfl rfl rfl rfl)) (by decide) ?_
  refine alP (some 7) rfl rfl (do_build_struct (cs := [.int .i64 0, .int .i64 0, .int .i64 0, .own 6 0]) ty45 rfl [⟨.int .i64, 1, 8, [.int .i64 0]⟩, ⟨.int .i64, 1, 8, [.int .i64 0]⟩, ⟨.int .i64, 1, 8, [.int .i64 0]⟩, ⟨.slice 51, 1, 24, [.nil]⟩] (by simp only [List.map, ty3, ty43]) (by rfl) (by exact rfl)) (by decide) ?_
  refine alD (some 8) rfl rfl (does_frz (d := 6) (n := 0) (by conv => lhs; whnf) (do_buildSlice (xs := List.map enc44 [(Block.mk 0 0 0 [(Episode.mk (Trace.mk 0 4) 0 0 false [(Span.mk (Trace.mk 0 0) 0 0 (strOf []) (strOf []) 0 9 false [])])])]) ty22 ty45 rfl rfl rfl rfl rfl rfl rfl rfl)) (by decide) ?_
  refine alP (some 1) rfl rfl (does_assign (v := .own 8 0) (by exact rfl)) (by decide) ?_
  refine al_nil ?_
  refine hK2 _ ?_
  refine aw_seq_k (fun K3 hK3 => ?_)
  refine aw_regL ?_
  refine alP (some 9) rfl rfl (do_build_struct (cs := [.str (strOf []), .str (strOf []), .str (strOf []), .str (strOf []), .int .i64 0, .bool false]) ty24 rfl [⟨.str, 1, 16, [.str ByteArray.empty]⟩, ⟨.str, 1, 16, [.str ByteArray.empty]⟩, ⟨.str, 1, 16, [.str ByteArray.empty]⟩, ⟨.str, 1, 16, [.str ByteArray.empty]⟩, ⟨.int .i64, 1, 8, [.int .i64 0]⟩, ⟨.bool, 1, 1, [.bool false]⟩] (by simp only [List.map, ty3, ty4, ty9]) (by rfl) (by exact rfl)) (by decide) ?_
  obtain ⟨x4, hx4, h⟩ := bnd_some h
  refine alD (some 10) rfl rfl ((do_call0 10 false ((search_Find_ok [] (Query.mk (strOf []) (strOf []) (strOf []) (strOf []) 0 false) 9 hx4).weak (args' := [.nil, _, _]) ⟨le_nil _, le_refl _, le_refl _, trivial⟩) rfl ent14 rfl rfl).fx (y := ⟨[], .sl 2 (List.map enc26 x4), [], [10]⟩) rfl) (by decide) ?_
  refine alP (some 11) rfl rfl ((does_len_sl (by conv => lhs; whnf) ty37).castp (v' := .int .i64 (List.length x4 : Int)) (by exact len_map _)) (by decide) ?_
  refine alP (some 12) rfl rfl (does_bin (v := .bool ((List.length x4 : Int) == 0)) (by conv => lhs; whnf) (by conv => lhs; whnf) rfl) (by decide) ?_
  refine alP (some 13) rfl rfl (does_move (v := .bool ((List.length x4 : Int) == 0)) (by exact rfl)) (by decide) ?_
  refine al_bool (c := ((List.length x4 : Int) == 0)) 13 rfl (fun c5 => ?_) (fun c5 => ?_)
  · have h := ifT c5 h
    refine alP (some 14) rfl rfl (does_move (v := .own 8 0) (by exact rfl)) (by decide) ?_
    refine alP (some 15) rfl rfl (do_build_struct (cs := [.str (strOf []), .str (strOf []), .str (strOf []), .str (strOf []), .int .i64 9, .bool false]) ty24 rfl [⟨.str, 1, 16, [.str ByteArray.empty]⟩, ⟨.str, 1, 16, [.str ByteArray.empty]⟩, ⟨.str, 1, 16, [.str ByteArray.empty]⟩, ⟨.str, 1, 16, [.str ByteArray.empty]⟩, ⟨.int .i64, 1, 8, [.int .i64 0]⟩, ⟨.bool, 1, 1, [.bool false]⟩] (by simp only [List.map, ty3, ty4, ty9]) (by rfl) (by exact rfl)) (by decide) ?_
    obtain ⟨x6, hx6, h⟩ := bnd_some h
    refine alD (some 16) rfl rfl (does_frz (d := 8) (n := 0) (by conv => lhs; whnf) (do_callG (bcs := []) [] [] [(8, 0)] 16 false (search_Find_ok [(Block.mk 0 0 0 [(Episode.mk (Trace.mk 0 4) 0 0 false [(Span.mk (Trace.mk 0 0) 0 0 (strOf []) (strOf []) 0 9 false [])])])] (Query.mk (strOf []) (strOf []) (strOf []) (strOf []) 9 false) 1 hx6) rfl ent14 trivial trivial rfl rfl rfl rfl rfl rfl rfl rfl (.inl ⟨⟨_, _, _, rfl⟩, trivial⟩))) (by decide) ?_
    refine alP (some 17) rfl rfl ((does_len_sl (by conv => lhs; whnf) ty37).castp (v' := .int .i64 (List.length x6 : Int)) (by exact len_map _)) (by decide) ?_
    refine alP (some 18) rfl rfl (does_bin (v := .bool ((List.length x6 : Int) == 1)) (by conv => lhs; whnf) (by conv => lhs; whnf) rfl) (by decide) ?_
    refine alP (some 19) rfl rfl (does_pick (v := .bool ((List.length x6 : Int) == 1)) (by conv => lhs; whnf) (by exact rfl)) (by decide) ?_
    refine alP (some 20) rfl rfl (does_move (v := .bool ((List.length x6 : Int) == 1)) (by exact rfl)) (by decide) ?_
    refine al_bool (c := ((List.length x6 : Int) == 1)) 20 rfl (fun c7 => ?_) (fun c7 => ?_)
    · have h := ifT c7 h
      refine alP (some 21) rfl rfl (does_move (v := .own 8 0) (by exact rfl)) (by decide) ?_
      refine alP (some 22) rfl rfl (do_build_struct (cs := [.str (strOf []), .str (strOf []), .str (strOf []), .str (strOf []), .int .i64 10, .bool false]) ty24 rfl [⟨.str, 1, 16, [.str ByteArray.empty]⟩, ⟨.str, 1, 16, [.str ByteArray.empty]⟩, ⟨.str, 1, 16, [.str ByteArray.empty]⟩, ⟨.str, 1, 16, [.str ByteArray.empty]⟩, ⟨.int .i64, 1, 8, [.int .i64 0]⟩, ⟨.bool, 1, 1, [.bool false]⟩] (by simp only [List.map, ty3, ty4, ty9]) (by rfl) (by exact rfl)) (by decide) ?_
      obtain ⟨x8, hx8, h⟩ := bnd_some h
      refine alD (some 23) rfl rfl ((do_callG (bcs := []) [] [] [(8, 0)] 23 false (search_Count_ok [(Block.mk 0 0 0 [(Episode.mk (Trace.mk 0 4) 0 0 false [(Span.mk (Trace.mk 0 0) 0 0 (strOf []) (strOf []) 0 9 false [])])])] (Query.mk (strOf []) (strOf []) (strOf []) (strOf []) 10 false) hx8) rfl ent16 trivial trivial rfl rfl rfl rfl rfl rfl rfl rfl (.inr ⟨rfl, rfl, trivial⟩)).fx (y := ⟨[(8, 0)], .int .i64 x8, [], [23]⟩) rfl) (by decide) ?_
      refine alP (some 24) rfl rfl (does_bin (v := .bool (x8 == 0)) (by conv => lhs; whnf) (by conv => lhs; whnf) rfl) (by decide) ?_
      refine alP (some 25) rfl rfl (does_pick (v := .bool (x8 == 0)) (by conv => lhs; whnf) (by exact rfl)) (by decide) ?_
      refine alP (some 26) rfl rfl (does_move (v := .bool (x8 == 0)) (by exact rfl)) (by decide) ?_
      refine al_bool (c := (x8 == 0)) 26 rfl (fun c9 => ?_) (fun c9 => ?_)
      · have h := ifT c9 h
        refine alP (some 27) rfl rfl (do_build_struct (cs := [.str (strOf []), .str (strOf []), .str (strOf []), .str (strOf []), .int .i64 0, .bool false]) ty24 rfl [⟨.str, 1, 16, [.str ByteArray.empty]⟩, ⟨.str, 1, 16, [.str ByteArray.empty]⟩, ⟨.str, 1, 16, [.str ByteArray.empty]⟩, ⟨.str, 1, 16, [.str ByteArray.empty]⟩, ⟨.int .i64, 1, 8, [.int .i64 0]⟩, ⟨.bool, 1, 1, [.bool false]⟩] (by simp only [List.map, ty3, ty4, ty9]) (by rfl) (by exact rfl)) (by decide) ?_
        refine alP (some 28) rfl rfl ((do_build_struct (cs := [.int .u64 0, .int .u64 0, .int .u64 0, .int .u64 0, .str (strOf []), .str (strOf []), .int .i64 0, .int .i64 0, .bool false, .nil]) ty30 rfl [⟨.struct [(0, 25), (1, 25)], 2, 16, [.int .u64 0, .int .u64 0]⟩, ⟨.int .u64, 1, 8, [.int .u64 0]⟩, ⟨.int .u64, 1, 8, [.int .u64 0]⟩, ⟨.str, 1, 16, [.str ByteArray.empty]⟩, ⟨.str, 1, 16, [.str ByteArray.empty]⟩, ⟨.int .i64, 1, 8, [.int .i64 0]⟩, ⟨.int .i64, 1, 8, [.int .i64 0]⟩, ⟨.bool, 1, 1, [.bool false]⟩, ⟨.slice 54, 1, 24, [.nil]⟩] (by simp only [List.map, ty25, ty27, ty28, ty3, ty4, ty9]) (by rfl) (by exact rfl)).weak (v' := .agg [.int .u64 0, .int .u64 0, .int .u64 0, .int .u64 0, .str (strOf []), .str (strOf []), .int .i64 0, .int .i64 0, .bool false, .sl 2 (List.map enc53 [])]) (le_agg ⟨le_refl _, le_refl _, le_refl _, le_refl _, le_refl _, le_refl _, le_refl _, le_refl _, le_refl _, le_nil _, trivial⟩)) (by decide) ?_
        obtain ⟨x10, hx10, h⟩ := bnd_some h
        refine alD (some 29) rfl rfl ((do_call0 29 false (search_Match_ok (Query.mk (strOf []) (strOf []) (strOf []) (strOf []) 0 false) (Span.mk (Trace.mk 0 0) 0 0 (strOf []) (strOf []) 0 0 false []) hx10) rfl ent11 rfl rfl).fx (y := ⟨[], .bool x10, [], [29]⟩) rfl) (by decide) ?_
        refine alP (some 30) rfl rfl (does_pick (v := .bool x10) (by conv => lhs; whnf) (by exact rfl)) (by decide) ?_
        refine alP (some 0) rfl rfl (does_assign (v := .bool x10) (by exact rfl)) (by decide) ?_
        refine al_nil ?_
        refine hK3 _ ?_
        refine aw_ret ?_
        obtain rfl := Option.some.inj h
        exact ret_ok1 (by conv => lhs; whnf) (by conv => lhs; whnf) (by exact rfl) (.inr rfl) rfl
      · have h := ifF c9 h
        refine alS (some 27) rfl rfl (by decide) ?_
        refine alS (some 28) rfl rfl (by decide) ?_
        refine alS (some 29) rfl rfl (by decide) ?_
        refine alP (some 30) rfl rfl (does_pick (v := .bool false) (by conv => lhs; whnf) (by exact rfl)) (by decide) ?_
        refine alP (some 0) rfl rfl (does_assign (v := .bool false) (by exact rfl)) (by decide) ?_
        refine al_nil ?_
        refine hK3 _ ?_
        refine aw_ret ?_
        obtain rfl := Option.some.inj h
        exact ret_ok1 (by conv => lhs; whnf) (by conv => lhs; whnf) (by exact rfl) (.inr rfl) rfl
    · have h := ifF c7 h
      refine alS (some 21) rfl rfl (by decide) ?_
      refine alS (some 22) rfl rfl (by decide) ?_
      refine alS (some 23) rfl rfl (by decide) ?_
      refine alS (some 24) rfl rfl (by decide) ?_
      refine alP (some 25) rfl rfl (does_pick (v := .bool false) (by conv => lhs; whnf) (by exact rfl)) (by decide) ?_
      refine alP (some 26) rfl rfl (does_move (v := .bool false) (by exact rfl)) (by decide) ?_
      refine alS (some 27) rfl rfl (by decide) ?_
      refine alS (some 28) rfl rfl (by decide) ?_
      refine alS (some 29) rfl rfl (by decide) ?_
      refine alP (some 30) rfl rfl (does_pick (v := .bool false) (by conv => lhs; whnf) (by exact rfl)) (by decide) ?_
      refine alP (some 0) rfl rfl (does_assign (v := .bool false) (by exact rfl)) (by decide) ?_
      refine al_nil ?_
      refine hK3 _ ?_
      refine aw_ret ?_
      obtain rfl := Option.some.inj h
      exact ret_ok1 (by conv => lhs; whnf) (by conv => lhs; whnf) (by exact rfl) (.inr rfl) rfl
  · have h := ifF c5 h
    refine alS (some 14) rfl rfl (by decide) ?_
    refine alS (some 15) rfl rfl (by decide) ?_
    refine alS (some 16) rfl rfl (by decide) ?_
    refine alS (some 17) rfl rfl (by decide) ?_
    refine alS (some 18) rfl rfl (by decide) ?_
    refine alP (some 19) rfl rfl (does_pick (v := .bool false) (by conv => lhs; whnf) (by exact rfl)) (by decide) ?_
    refine alP (some 20) rfl rfl (does_move (v := .bool false) (by exact rfl)) (by decide) ?_
    refine alS (some 21) rfl rfl (by decide) ?_
    refine alS (some 22) rfl rfl (by decide) ?_
    refine alS (some 23) rfl rfl (by decide) ?_
    refine alS (some 24) rfl rfl (by decide) ?_
    refine alP (some 25) rfl rfl (does_pick (v := .bool false) (by conv => lhs; whnf) (by exact rfl)) (by decide) ?_
    refine alP (some 26) rfl rfl (does_move (v := .bool false) (by exact rfl)) (by decide) ?_
    refine alS (some 27) rfl rfl (by decide) ?_
    refine alS (some 28) rfl rfl (by decide) ?_
    refine alS (some 29) rfl rfl (by decide) ?_
    refine alP (some 30) rfl rfl (does_pick (v := .bool false) (by conv => lhs; whnf) (by exact rfl)) (by decide) ?_
    refine alP (some 0) rfl rfl (does_assign (v := .bool false) (by exact rfl)) (by decide) ?_
    refine al_nil ?_
    refine hK3 _ ?_
    refine aw_ret ?_
    obtain rfl := Option.some.inj h
    exact ret_ok1 (by conv => lhs; whnf) (by conv => lhs; whnf) (by exact rfl) (.inr rfl) rfl
end Go.Proofs.Ytnhjcpnoadicpaa.Ab
