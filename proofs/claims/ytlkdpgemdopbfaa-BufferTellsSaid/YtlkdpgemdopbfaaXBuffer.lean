/- Chapter 16: open traces. -/
import Derived.Test.YtlkdpgemdopbfaaXEpisode
import Derived.Test.YtlkdpgemdopbfaaProg
namespace Go.Proofs.Ytlkdpgemdopbfaa.Ab
open Go Go.RowKit
set_option linter.unusedVariables false
set_option linter.unusedSimpArgs false
theorem ent26 : Ent Try.prog 26 := ⟨_, Try.func26, by kernel_rfl, rfl⟩
theorem ent27 : Ent Try.prog 27 := ⟨_, Try.func27, by kernel_rfl, rfl⟩
theorem ent47 : Ent Try.prog 47 := ⟨_, Try.func47, by kernel_rfl, rfl⟩
theorem ent48 : Ent Try.prog 48 := ⟨_, Try.func48, by kernel_rfl, rfl⟩
theorem ent49 : Ent Try.prog 49 := ⟨_, Try.func49, by kernel_rfl, rfl⟩
theorem ent59 : Ent Try.prog 59 := ⟨_, Try.func59, by kernel_rfl, rfl⟩
def buffer_Count_l0 (a0 : List Episode) (v3_0 : Int) (v8_0 : Int) : Option ((Int × Int) ⊕ Int) :=
  if (decide (v8_0 < (List.length a0 : Int))) = true then (gd (0 ≤ v8_0) (Option.bind (a0[(Int.toNat v8_0)]?) (fun (x13 : Episode) => some (Sum.inl ((IntKind.i64.wrap (v3_0 + (List.length x13.Spans : Int))), (IntKind.i64.wrap (v8_0 + 1))))))) else (some (Sum.inr v3_0))
def buffer_Count (a0 : List Episode) : Option Int :=
  loopN (fun (s : Int × Int) => buffer_Count_l0 a0 s.1 s.2) Fu (0, 0)
set_option maxRecDepth 100000 in
set_option maxHeartbeats 8000000 in
/-- gleaning/buffer.Count -/
theorem buffer_Count_ok (a0 : List Episode) {r : Int} (h : buffer_Count a0 = some r) : Ok Try.prog 27 [.sl 6 (List.map enc27 a0)] [] [] (.int .i64 r) [] [] := by
  unfold buffer_Count at h
  refine ok_of_code Try.func27 rfl (by show (1 : Nat) ≤ _; decide) (Nat.le_refl _) fun X => ?_
  refine aw_seq_k (fun K1 hK1 => ?_)
  refine aw_regL ?_
  refine alP (some 2) rfl rfl (does_assign (v := .int .i64 0) (by exact rfl)) (by decide) ?_
  refine al_nil ?_
  refine hK1 _ ?_
  refine aw_seq_k (fun K2 hK2 => ?_)
  refine aw_regL ?_
  refine alP (some 3) rfl rfl (does_assign (v := .int .i64 0) (by exact rfl)) (by decide) ?_
  refine al_nil ?_
  refine hK2 _ ?_
  refine aw_seq_k (fun K3 hK3 => ?_)
  refine aw_seq_k (fun K4 hK4 => ?_)
  refine aw_regL ?_
  refine alP (some 6) rfl rfl (does_move (v := .sl 6 (List.map enc27 a0)) (by exact rfl)) (by decide) ?_
  refine alP (some 7) rfl rfl ((does_len_sl (by conv => lhs; whnf) ty22).castp (v' := .int .i64 (List.length a0 : Int)) (by exact len_map _)) (by decide) ?_
  refine alP (some 8) rfl rfl (does_move (v := .int .i64 0) (by exact rfl)) (by decide) ?_
  refine al_nil ?_
  refine hK4 _ ?_
  refine aw_block ?_
  refine aw_loop' (fun m s => ∃ (v3_0 : Int), ∃ (v8_0 : Int), loopN (fun (s : Int × Int) => buffer_Count_l0 a0 s.1 s.2) m (v3_0, v8_0) = some r ∧ s = lit [(3, .int .i64 v3_0), (6, .sl 6 (List.map enc27 a0)), (7, .int .i64 (List.length a0 : Int)), (8, .int .i64 v8_0)] [] [] X) Fu
    ⟨_, reb_lit [(3, .int .i64 (0)), (6, .sl 6 (List.map enc27 a0)), (7, .int .i64 (List.length a0 : Int)), (8, .int .i64 (0))] [] [] [] (envOk_cons (by conv => lhs; whnf) (by exact rfl) (envOk_cons (by conv => lhs; whnf) (by exact rfl) (envOk_cons (by conv => lhs; whnf) (by exact rfl) (envOk_cons (by conv => lhs; whnf) (by exact rfl) envOk_nil)))) objOk_nil (nodup_b rfl) (nodup_b rfl) rfl rfl, 0, 0, h, rfl⟩ ?_
  rintro m s ⟨v3_0, v8_0, h, rfl⟩
  obtain ⟨m0, q5, rfl, h, hq6⟩ := loop_some h
  replace h : buffer_Count_l0 a0 v3_0 v8_0 = some q5 := h
  unfold buffer_Count_l0 at h
  refine aw_seq_k (fun K7 hK7 => ?_)
  refine aw_regL ?_
  refine alP (some 9) rfl rfl (does_bin (v := .bool (decide (v8_0 < (List.length a0 : Int)))) (by conv => lhs; whnf) (by conv => lhs; whnf) rfl) (by decide) ?_
  refine al_nil ?_
  refine hK7 _ ?_
  refine aw_seq_k (fun K8 hK8 => ?_)
  refine aw_bool (b := (decide (v8_0 < (List.length a0 : Int)))) 9 rfl (fun c9 => ?_) (fun c9 => ?_)
  · have h := ifT c9 h
    refine aw_cond_t (by decide) rfl ?_
    refine aw_skip ?_
    refine hK8 _ ?_
    refine aw_seq_k (fun K10 hK10 => ?_)
    refine aw_block ?_
    refine aw_seq_k (fun K11 hK11 => ?_)
    refine aw_regL ?_
    obtain ⟨g12, h⟩ := gd_some h
    obtain ⟨x13, hx13, h⟩ := bnd_some h
    refine alP (some 10) rfl rfl (does_indexAddr_sl (el := .agg [.int .u64 x13.Trace.Hi, .int .u64 x13.Trace.Lo, .int .i64 x13.First, .int .i64 x13.Last, .bool x13.Sure, .sl 10 (List.map enc30 x13.Spans)]) (by conv => lhs; whnf) (by conv => lhs; whnf) ty22 ty28 g12 (by exact map_get hx13)) (by decide) ?_
    refine alR (some 11) rfl rfl (does_load (v := .agg [.int .u64 x13.Trace.Hi, .int .u64 x13.Trace.Lo, .int .i64 x13.First, .int .i64 x13.Last, .bool x13.Sure, .sl 10 (List.map enc30 x13.Spans)]) (by conv => lhs; whnf) (by conv => lhs; whnf) ty28 (by exact rfl)) (by decide) ?_
    refine alD (some 5) rfl rfl (do_new ty28 rfl rfl) (by decide) ?_
    refine alD none rfl rfl (do_store (cs' := [.int .u64 x13.Trace.Hi, .int .u64 x13.Trace.Lo, .int .i64 x13.First, .int .i64 x13.Last, .bool x13.Sure, .sl 10 (List.map enc30 x13.Spans)]) (by conv => lhs; whnf) (by conv => lhs; whnf) (by conv => lhs; whnf) ty28 rfl rfl rfl (by exact rfl)) (by decide) ?_
    refine al_nil ?_
    refine hK11 _ ?_
    refine aw_regL ?_
    refine alP (some 12) rfl rfl (does_move (v := .int .i64 v3_0) (by exact rfl)) (by decide) ?_
    refine alP (some 13) rfl rfl (does_fieldAddr (q := .ptr 5 0 5) (by conv => lhs; whnf) ty28 rfl ty26 (by decide) (by exact rfl)) (by decide) ?_
    refine alR (some 14) rfl rfl (does_load (v := .sl 10 (List.map enc30 x13.Spans)) (by conv => lhs; whnf) (by conv => lhs; whnf) ty26 (by exact rfl)) (by decide) ?_
    refine alP (some 15) rfl rfl ((does_len_sl (by conv => lhs; whnf) ty26).castp (v' := .int .i64 (List.length x13.Spans : Int)) (by exact len_map _)) (by decide) ?_
    refine alP (some 16) rfl rfl (does_bin (v := .int .i64 (IntKind.i64.wrap (v3_0 + (List.length x13.Spans : Int)))) (by conv => lhs; whnf) (by conv => lhs; whnf) rfl) (by decide) ?_
    refine alP (some 3) rfl rfl (does_assign (v := .int .i64 (IntKind.i64.wrap (v3_0 + (List.length x13.Spans : Int)))) (by exact rfl)) (by decide) ?_
    refine al_nil ?_
    refine hK10 _ ?_
    refine aw_regL ?_
    refine alP (some 17) rfl rfl (does_bin (v := .int .i64 (IntKind.i64.wrap (v8_0 + 1))) (by conv => lhs; whnf) (by conv => lhs; whnf) rfl) (by decide) ?_
    refine alP (some 8) rfl rfl (does_move (v := .int .i64 (IntKind.i64.wrap (v8_0 + 1))) (by exact rfl)) (by decide) ?_
    refine al_nil ?_
    have h := leafL h hq6
    exact ⟨m0, Nat.lt_succ_self _, _, reb_lit [(3, .int .i64 (IntKind.i64.wrap (v3_0 + (List.length x13.Spans : Int)))), (6, .sl 6 (List.map enc27 a0)), (7, .int .i64 (List.length a0 : Int)), (8, .int .i64 (IntKind.i64.wrap (v8_0 + 1)))] [] [] [] (envOk_cons (by conv => lhs; whnf) (by exact rfl) (envOk_cons (by conv => lhs; whnf) (by exact rfl) (envOk_cons (by conv => lhs; whnf) (by exact rfl) (envOk_cons (by conv => lhs; whnf) (by exact rfl) envOk_nil)))) objOk_nil (nodup_b rfl) (nodup_b rfl) rfl rfl, (IntKind.i64.wrap (v3_0 + (List.length x13.Spans : Int))), (IntKind.i64.wrap (v8_0 + 1)), h, rfl⟩
  · have h := ifF c9 h
    refine aw_cond_f (by decide) rfl ?_
    refine aw_exit ?_
    have h := leafR h hq6
    refine hK3 _ ?_
    refine aw_seq_k (fun K14 hK14 => ?_)
    refine aw_regL ?_
    refine alP (some 18) rfl rfl (does_move (v := .int .i64 v3_0) (by exact rfl)) (by decide) ?_
    refine alP (some 2) rfl rfl (does_assign (v := .int .i64 v3_0) (by exact rfl)) (by decide) ?_
    refine al_nil ?_
    refine hK14 _ ?_
    refine aw_ret ?_
    obtain rfl := Option.some.inj h
    exact ret_ok1 (by conv => lhs; whnf) (by conv => lhs; whnf) (by exact rfl) (.inr rfl) rfl
def buffer_Put_c1 (a0 : Episode) (a1 : Span) : Option Bool :=
  some ((a0.Trace.Hi == a1.Trace.Hi) && ((a0.Trace.Lo == a1.Trace.Lo) && true))
set_option maxRecDepth 100000 in
set_option maxHeartbeats 8000000 in
/-- gleaning/buffer.Put$1 -/
theorem buffer_Put_c1_ok (a0 : Episode) (a1 : Span) {r : Bool} (h : buffer_Put_c1 a0 a1 = some r) : Ok Try.prog 49 [.agg [.int .u64 a0.Trace.Hi, .int .u64 a0.Trace.Lo, .int .i64 a0.First, .int .i64 a0.Last, .bool a0.Sure, .sl 10 (List.map enc30 a0.Spans)], .rptr [.int .u64 a1.Trace.Hi, .int .u64 a1.Trace.Lo, .int .u64 a1.Id, .int .u64 a1.Parent, .str a1.Service, .str a1.Op, .int .i64 a1.Start, .int .i64 a1.Dur, .bool a1.Err, .sl 2 (List.map enc68 a1.Attrs)]] [] [] (.bool r) [] [] := by
  unfold buffer_Put_c1 at h
  refine ok_of_code Try.func49 rfl (by show (2 : Nat) ≤ _; decide) (Nat.le_refl _) fun X => ?_
  refine aw_seq_k (fun K1 hK1 => ?_)
  refine aw_regL ?_
  refine alD (some 2) rfl rfl (do_box (by conv => lhs; whnf) rfl rfl) (by decide) ?_
  refine alP (some 3) rfl rfl (does_assign (v := .bool false) (by exact rfl)) (by decide) ?_
  refine al_nil ?_
  refine hK1 _ ?_
  refine aw_seq_k (fun K2 hK2 => ?_)
  refine aw_regL ?_
  refine alP (some 4) rfl rfl (does_fieldAddr (q := .ptr 2 0 0) (by conv => lhs; whnf) ty28 rfl ty25 (by decide) (by exact rfl)) (by decide) ?_
  refine alR (some 5) rfl rfl (does_load (v := .agg [.int .u64 a0.Trace.Hi, .int .u64 a0.Trace.Lo]) (by conv => lhs; whnf) (by conv => lhs; whnf) ty25 (by exact rfl)) (by decide) ?_
  refine alP (some 6) rfl rfl (does_fieldAddr (q := .rptr [.int .u64 a1.Trace.Hi, .int .u64 a1.Trace.Lo, .int .u64 a1.Id, .int .u64 a1.Parent, .str a1.Service, .str a1.Op, .int .i64 a1.Start, .int .i64 a1.Dur, .bool a1.Err, .sl 2 (List.map enc68 a1.Attrs)]) (by conv => lhs; whnf) ty31 rfl ty25 (by decide) (by exact rfl)) (by decide) ?_
  refine alR (some 7) rfl rfl (does_load (v := .agg [.int .u64 a1.Trace.Hi, .int .u64 a1.Trace.Lo]) (by conv => lhs; whnf) (by conv => lhs; whnf) ty25 (by exact rfl)) (by decide) ?_
  refine alP (some 8) rfl rfl (does_eq_struct (v := .bool ((a0.Trace.Hi == a1.Trace.Hi) && ((a0.Trace.Lo == a1.Trace.Lo) && true))) (by conv => lhs; whnf) (by conv => lhs; whnf) fk25 rfl ag25 eg25 (by conv => lhs; whnf) rfl) (by decide) ?_
  refine alP (some 3) rfl rfl (does_assign (v := .bool ((a0.Trace.Hi == a1.Trace.Hi) && ((a0.Trace.Lo == a1.Trace.Lo) && true))) (by exact rfl)) (by decide) ?_
  refine al_nil ?_
  refine hK2 _ ?_
  refine aw_ret ?_
  obtain rfl := Option.some.inj h
  exact ret_ok1 (by conv => lhs; whnf) (by conv => lhs; whnf) (by exact rfl) (.inr rfl) rfl
def slices_IndexFunc_Episode_buffer_Put_c1_l0 (a0 : List Episode) (a1_0 : Span) (v8_0 : Int) : Option (Int ⊕ Int) :=
  if (decide (v8_0 < (List.length a0 : Int))) = true then (gd (0 ≤ v8_0) (Option.bind (a0[(Int.toNat v8_0)]?) (fun (x13 : Episode) => Option.bind (buffer_Put_c1 x13 a1_0) (fun (x14 : Bool) => if x14 = true then (some (Sum.inr v8_0)) else (some (Sum.inl (IntKind.i64.wrap (v8_0 + 1)))))))) else (some (Sum.inr (-1)))
def slices_IndexFunc_Episode_buffer_Put_c1 (a0 : List Episode) (a1_0 : Span) : Option Int :=
  loopN (fun (s : Int) => slices_IndexFunc_Episode_buffer_Put_c1_l0 a0 a1_0 s) Fu 0
set_option maxRecDepth 100000 in
set_option maxHeartbeats 8000000 in
/-- slices.IndexFunc[[]gleaning/api.Episode,gleaning/api.Episode] -/
theorem slices_IndexFunc_Episode_buffer_Put_c1_ok (a0 : List Episode) (a1_0 : Span) {r : Int} (h : slices_IndexFunc_Episode_buffer_Put_c1 a0 a1_0 = some r) : Ok Try.prog 48 [.sl 6 (List.map enc27 a0), .fn 49 [.rptr [.int .u64 a1_0.Trace.Hi, .int .u64 a1_0.Trace.Lo, .int .u64 a1_0.Id, .int .u64 a1_0.Parent, .str a1_0.Service, .str a1_0.Op, .int .i64 a1_0.Start, .int .i64 a1_0.Dur, .bool a1_0.Err, .sl 2 (List.map enc68 a1_0.Attrs)]]] [] [] (.int .i64 r) [] [] := by
  unfold slices_IndexFunc_Episode_buffer_Put_c1 at h
  refine ok_of_code Try.func48 rfl (by show (2 : Nat) ≤ _; decide) (Nat.le_refl _) fun X => ?_
  refine aw_seq_k (fun K1 hK1 => ?_)
  refine aw_regL ?_
  refine alP (some 4) rfl rfl (does_assign (v := .int .i64 0) (by exact rfl)) (by decide) ?_
  refine al_nil ?_
  refine hK1 _ ?_
  refine aw_seq_k (fun K2 hK2 => ?_)
  refine aw_seq_k (fun K3 hK3 => ?_)
  refine aw_regL ?_
  refine alP (some 6) rfl rfl (does_move (v := .sl 6 (List.map enc27 a0)) (by exact rfl)) (by decide) ?_
  refine alP (some 7) rfl rfl ((does_len_sl (by conv => lhs; whnf) ty22).castp (v' := .int .i64 (List.length a0 : Int)) (by exact len_map _)) (by decide) ?_
  refine alP (some 8) rfl rfl (does_move (v := .int .i64 0) (by exact rfl)) (by decide) ?_
  refine al_nil ?_
  refine hK3 _ ?_
  refine aw_block ?_
  refine aw_loop' (fun m s => ∃ (v8_0 : Int), loopN (fun (s : Int) => slices_IndexFunc_Episode_buffer_Put_c1_l0 a0 a1_0 s) m v8_0 = some r ∧ s = lit [(0, .sl 6 (List.map enc27 a0)), (1, .fn 49 [.rptr [.int .u64 a1_0.Trace.Hi, .int .u64 a1_0.Trace.Lo, .int .u64 a1_0.Id, .int .u64 a1_0.Parent, .str a1_0.Service, .str a1_0.Op, .int .i64 a1_0.Start, .int .i64 a1_0.Dur, .bool a1_0.Err, .sl 2 (List.map enc68 a1_0.Attrs)]]), (7, .int .i64 (List.length a0 : Int)), (8, .int .i64 v8_0)] [] [] X) Fu
    ⟨_, reb_lit [(0, .sl 6 (List.map enc27 a0)), (1, .fn 49 [.rptr [.int .u64 a1_0.Trace.Hi, .int .u64 a1_0.Trace.Lo, .int .u64 a1_0.Id, .int .u64 a1_0.Parent, .str a1_0.Service, .str a1_0.Op, .int .i64 a1_0.Start, .int .i64 a1_0.Dur, .bool a1_0.Err, .sl 2 (List.map enc68 a1_0.Attrs)]]), (7, .int .i64 (List.length a0 : Int)), (8, .int .i64 (0))] [] [] [] (envOk_cons (by conv => lhs; whnf) (by exact rfl) (envOk_cons (by conv => lhs; whnf) (by exact rfl) (envOk_cons (by conv => lhs; whnf) (by exact rfl) (envOk_cons (by conv => lhs; whnf) (by exact rfl) envOk_nil)))) objOk_nil (nodup_b rfl) (nodup_b rfl) rfl rfl, 0, h, rfl⟩ ?_
  rintro m s ⟨v8_0, h, rfl⟩
  obtain ⟨m0, q4, rfl, h, hq5⟩ := loop_some h
  replace h : slices_IndexFunc_Episode_buffer_Put_c1_l0 a0 a1_0 v8_0 = some q4 := h
  unfold slices_IndexFunc_Episode_buffer_Put_c1_l0 at h
  refine aw_seq_k (fun K6 hK6 => ?_)
  refine aw_regL ?_
  refine alP (some 9) rfl rfl (does_bin (v := .bool (decide (v8_0 < (List.length a0 : Int)))) (by conv => lhs; whnf) (by conv => lhs; whnf) rfl) (by decide) ?_
  refine al_nil ?_
  refine hK6 _ ?_
  refine aw_seq_k (fun K7 hK7 => ?_)
  refine aw_bool (b := (decide (v8_0 < (List.length a0 : Int)))) 9 rfl (fun c8 => ?_) (fun c8 => ?_)
  · have h := ifT c8 h
    refine aw_cond_t (by decide) rfl ?_
    refine aw_skip ?_
    refine hK7 _ ?_
    refine aw_seq_k (fun K9 hK9 => ?_)
    refine aw_block ?_
    refine aw_seq_k (fun K10 hK10 => ?_)
    refine aw_regL ?_
    refine alP (some 10) rfl rfl (does_move (v := .int .i64 v8_0) (by exact rfl)) (by decide) ?_
    refine alP (some 5) rfl rfl (does_assign (v := .int .i64 v8_0) (by exact rfl)) (by decide) ?_
    refine al_nil ?_
    refine hK10 _ ?_
    refine aw_seq_k (fun K11 hK11 => ?_)
    refine aw_regL ?_
    refine alP (some 11) rfl rfl (does_move (v := .fn 49 [.rptr [.int .u64 a1_0.Trace.Hi, .int .u64 a1_0.Trace.Lo, .int .u64 a1_0.Id, .int .u64 a1_0.Parent, .str a1_0.Service, .str a1_0.Op, .int .i64 a1_0.Start, .int .i64 a1_0.Dur, .bool a1_0.Err, .sl 2 (List.map enc68 a1_0.Attrs)]]) (by exact rfl)) (by decide) ?_
    refine alP (some 12) rfl rfl (does_move (v := .sl 6 (List.map enc27 a0)) (by exact rfl)) (by decide) ?_
    refine alP (some 13) rfl rfl (does_move (v := .int .i64 v8_0) (by exact rfl)) (by decide) ?_
    obtain ⟨g12, h⟩ := gd_some h
    obtain ⟨x13, hx13, h⟩ := bnd_some h
    refine alP (some 14) rfl rfl (does_indexAddr_sl (el := .agg [.int .u64 x13.Trace.Hi, .int .u64 x13.Trace.Lo, .int .i64 x13.First, .int .i64 x13.Last, .bool x13.Sure, .sl 10 (List.map enc30 x13.Spans)]) (by conv => lhs; whnf) (by conv => lhs; whnf) ty22 ty28 g12 (by exact map_get hx13)) (by decide) ?_
    refine alR (some 15) rfl rfl (does_load (v := .agg [.int .u64 x13.Trace.Hi, .int .u64 x13.Trace.Lo, .int .i64 x13.First, .int .i64 x13.Last, .bool x13.Sure, .sl 10 (List.map enc30 x13.Spans)]) (by conv => lhs; whnf) (by conv => lhs; whnf) ty28 (by exact rfl)) (by decide) ?_
    obtain ⟨x14, hx14, h⟩ := bnd_some h
    refine alD (some 16) rfl rfl (do_call0 16 false (buffer_Put_c1_ok x13 a1_0 hx14) rfl ent49 rfl rfl) (by decide) ?_
    refine al_nil ?_
    refine hK11 _ ?_
    refine aw_bool (b := x14) 16 rfl (fun c15 => ?_) (fun c15 => ?_)
    · have h := ifT c15 h
      refine aw_cond_t (by decide) rfl ?_
      refine aw_seq_k (fun K16 hK16 => ?_)
      refine aw_regL ?_
      refine alP (some 17) rfl rfl (does_move (v := .int .i64 v8_0) (by exact rfl)) (by decide) ?_
      refine alP (some 4) rfl rfl (does_assign (v := .int .i64 v8_0) (by exact rfl)) (by decide) ?_
      refine al_nil ?_
      refine hK16 _ ?_
      refine aw_ret ?_
      have h := leafR h hq5
      obtain rfl := Option.some.inj h
      exact ret_ok1 (by conv => lhs; whnf) (by conv => lhs; whnf) (by exact rfl) (.inr rfl) rfl
    · have h := ifF c15 h
      refine aw_cond_f (by decide) rfl ?_
      refine aw_skip ?_
      refine hK9 _ ?_
      refine aw_regL ?_
      refine alP (some 18) rfl rfl (does_bin (v := .int .i64 (IntKind.i64.wrap (v8_0 + 1))) (by conv => lhs; whnf) (by conv => lhs; whnf) rfl) (by decide) ?_
      refine alP (some 8) rfl rfl (does_move (v := .int .i64 (IntKind.i64.wrap (v8_0 + 1))) (by exact rfl)) (by decide) ?_
      refine al_nil ?_
      have h := leafL h hq5
      exact ⟨m0, Nat.lt_succ_self _, _, reb_lit [(0, .sl 6 (List.map enc27 a0)), (1, .fn 49 [.rptr [.int .u64 a1_0.Trace.Hi, .int .u64 a1_0.Trace.Lo, .int .u64 a1_0.Id, .int .u64 a1_0.Parent, .str a1_0.Service, .str a1_0.Op, .int .i64 a1_0.Start, .int .i64 a1_0.Dur, .bool a1_0.Err, .sl 2 (List.map enc68 a1_0.Attrs)]]), (7, .int .i64 (List.length a0 : Int)), (8, .int .i64 (IntKind.i64.wrap (v8_0 + 1)))] [] [] [] (envOk_cons (by conv => lhs; whnf) (by exact rfl) (envOk_cons (by conv => lhs; whnf) (by exact rfl) (envOk_cons (by conv => lhs; whnf) (by exact rfl) (envOk_cons (by conv => lhs; whnf) (by exact rfl) envOk_nil)))) objOk_nil (nodup_b rfl) (nodup_b rfl) rfl rfl, (IntKind.i64.wrap (v8_0 + 1)), h, rfl⟩
  · have h := ifF c8 h
    refine aw_cond_f (by decide) rfl ?_
    refine aw_exit ?_
    have h := leafR h hq5
    refine hK2 _ ?_
    refine aw_seq_k (fun K17 hK17 => ?_)
    refine aw_regL ?_
    refine alP (some 4) rfl rfl (does_assign (v := .int .i64 (-1)) (by exact rfl)) (by decide) ?_
    refine al_nil ?_
    refine hK17 _ ?_
    refine aw_ret ?_
    obtain rfl := Option.some.inj h
    exact ret_ok1 (by conv => lhs; whnf) (by conv => lhs; whnf) (by exact rfl) (.inr rfl) rfl
def buffer_Put_k1 (v9_s_0 : List Episode) (v10_0 : Int) (x15 : Episode × Bool) (v11_s_4_1 : Bool) : Option (List Episode) :=
  gd (0 ≤ v10_0) (Option.bind (v9_s_0[(Int.toNat v10_0)]?) (fun (x21 : Episode) => some (List.set v9_s_0 (Int.toNat v10_0) (Episode.mk x15.1.Trace x15.1.First x15.1.Last v11_s_4_1 x15.1.Spans))))
def buffer_Put_k0 (a1 : Span) (a2 : Int) (a3 : Bool) (v9_s_0 : List Episode) (v10_0 : Int) : Option (List Episode) :=
  gd (0 ≤ v10_0) (Option.bind (v9_s_0[(Int.toNat v10_0)]?) (fun (x14 : Episode) => Option.bind (episode_Add x14 a1 a2) (fun (x15 : Episode × Bool) => Option.bind (if x15.1.Sure = true then (some true) else (some a3)) (fun (s : Bool) => buffer_Put_k1 v9_s_0 v10_0 x15 s))))
def buffer_Put (a0 : List Episode) (a1 : Span) (a2 : Int) (a3 : Bool) : Option (List Episode) :=
  Option.bind (episode_Copies a0) (fun (x3 : List Episode) => Option.bind (slices_IndexFunc_Episode_buffer_Put_c1 x3 a1) (fun (x5 : Int) => Option.bind (if (decide (x5 < 0)) = true then (gd ((List.length (x3 ++ [(Episode.mk a1.Trace a2 0 false [])])) * 64 ≤ 140737488355328 ∧ (List.length (x3 ++ [(Episode.mk a1.Trace a2 0 false [])])) ≤ 140737488355328) (some ((x3 ++ [(Episode.mk a1.Trace a2 0 false [])]), (List.length x3 : Int)))) else (some (x3, x5))) (fun (s : List Episode × Int) => buffer_Put_k0 a1 a2 a3 s.1 s.2)))
set_option maxRecDepth 100000 in
set_option maxHeartbeats 8000000 in
/-- gleaning/buffer.Put -/
theorem buffer_Put_ok (a0 : List Episode) (a1 : Span) (a2 : Int) (a3 : Bool) {r : List Episode} (h : buffer_Put a0 a1 a2 a3 = some r) : Ok Try.prog 26 [.sl 6 (List.map enc27 a0), .agg [.int .u64 a1.Trace.Hi, .int .u64 a1.Trace.Lo, .int .u64 a1.Id, .int .u64 a1.Parent, .str a1.Service, .str a1.Op, .int .i64 a1.Start, .int .i64 a1.Dur, .bool a1.Err, .sl 2 (List.map enc68 a1.Attrs)], .int .i64 a2, .bool a3] [] [] (.own 2 0) [] [(28, 6, List.map enc27 r)] := by
  unfold buffer_Put at h
  refine ok_of_code Try.func26 rfl (by show (4 : Nat) ≤ _; decide) (Nat.le_refl _) fun X => ?_
  refine aw_seq_k (fun K1 hK1 => ?_)
  refine aw_regL ?_
  refine alD (some 5) rfl rfl (do_box (by conv => lhs; whnf) rfl rfl) (by decide) ?_
  refine alP (some 8) rfl rfl (does_assign (v := .nil) (by exact rfl)) (by decide) ?_
  refine al_nil ?_
  refine hK1 _ ?_
  refine aw_seq_k (fun K2 hK2 => ?_)
  refine aw_regL ?_
  refine alP (some 13) rfl rfl (does_move (v := .sl 6 (List.map enc27 a0)) (by exact rfl)) (by decide) ?_
  obtain ⟨x3, hx3, h⟩ := bnd_some h
  refine alD (some 14) rfl rfl (do_call0 14 false (episode_Copies_ok a0 hx3) rfl ent47 rfl rfl) (by decide) ?_
  refine alP (some 9) rfl rfl (does_assign (v := .own 14 0) (by exact rfl)) (by decide) ?_
  refine al_nil ?_
  refine hK2 _ ?_
  refine aw_seq_k (fun K4 hK4 => ?_)
  refine aw_regL ?_
  refine alP (some 15) rfl rfl (does_move (v := .own 14 0) (by exact rfl)) (by decide) ?_
  refine alP (some 16) rfl rfl (does_makeFunc (vs := [.ptr 5 0 0]) rfl) (by decide) ?_
  obtain ⟨x5, hx5, h⟩ := bnd_some h
  refine alD (some 17) rfl rfl (do_callG (bcs := []) [] [] [(14, 0), (5, 0)] 17 false (slices_IndexFunc_Episode_buffer_Put_c1_ok x3 a1 hx5) rfl ent48 trivial trivial rfl rfl rfl rfl rfl rfl rfl rfl (.inr ⟨rfl, rfl, trivial⟩)) (by decide) ?_
  refine alP (some 10) rfl rfl (does_assign (v := .int .i64 x5) (by exact rfl)) (by decide) ?_
  refine al_nil ?_
  refine hK4 _ ?_
  obtain ⟨q6, h, hk7⟩ := bnd_some h
  refine aw_cut (fun s => ∃ (v9_s_0 : List Episode), ∃ (v10_0 : Int), buffer_Put_k0 a1 a2 a3 v9_s_0 v10_0 = some r ∧ s = lit [(2, .int .i64 a2), (3, .bool a3), (5, .ptr 5 0 0), (9, .own 28 0), (10, .int .i64 v10_0)] [((5, 0), .box [.int .u64 a1.Trace.Hi, .int .u64 a1.Trace.Lo, .int .u64 a1.Id, .int .u64 a1.Parent, .str a1.Service, .str a1.Op, .int .i64 a1.Start, .int .i64 a1.Dur, .bool a1.Err, .sl 2 (List.map enc68 a1.Attrs)]), ((28, 0), .arr 28 6 false (List.map enc27 v9_s_0))] [(5, 1), (28, 1)] X) ?_ ?_
  · skip
    refine aw_seq_k (fun K8 hK8 => ?_)
    refine aw_regL ?_
    refine alP (some 18) rfl rfl (does_move (v := .int .i64 x5) (by exact rfl)) (by decide) ?_
    refine alP (some 19) rfl rfl (does_bin (v := .bool (decide (x5 < 0))) (by conv => lhs; whnf) (by conv => lhs; whnf) rfl) (by decide) ?_
    refine al_nil ?_
    refine hK8 _ ?_
    refine aw_bool (b := (decide (x5 < 0))) 19 rfl (fun c9 => ?_) (fun c9 => ?_)
    · have h := ifT c9 h
      refine aw_cond_t (by decide) rfl ?_
      refine aw_seq_k (fun K10 hK10 => ?_)
      refine aw_regL ?_
      refine alP (some 20) rfl rfl (does_move (v := .own 14 0) (by exact rfl)) (by decide) ?_
      refine alR (some 21) rfl rfl ((does_len_own (by conv => lhs; whnf) (by conv => lhs; whnf) ty22).cast (v' := .int .i64 (List.length x3 : Int)) (by exact len_map _)) (by decide) ?_
      refine alP (some 10) rfl rfl (does_assign (v := .int .i64 (List.length x3 : Int)) (by exact rfl)) (by decide) ?_
      refine al_nil ?_
      refine hK10 _ ?_
      refine aw_regL ?_
      refine alP (some 22) rfl rfl (does_move (v := .own 14 0) (by exact rfl)) (by decide) ?_
      refine alP (some 23) rfl rfl (does_fieldAddr (q := .ptr 5 0 0) (by conv => lhs; whnf) ty31 rfl ty25 (by decide) (by exact rfl)) (by decide) ?_
      refine alR (some 24) rfl rfl (does_load (v := .agg [.int .u64 a1.Trace.Hi, .int .u64 a1.Trace.Lo]) (by conv => lhs; whnf) (by conv => lhs; whnf) ty25 (by exact rfl)) (by decide) ?_
      refine alP (some 25) rfl rfl (does_move (v := .int .i64 a2) (by exact rfl)) (by decide) ?_
      refine alP (some 26) rfl rfl ((do_build_struct (cs := [.int .u64 a1.Trace.Hi, .int .u64 a1.Trace.Lo, .int .i64 a2, .int .i64 0, .bool false, .nil]) ty28 rfl [⟨.struct [(0, 23), (1, 23)], 2, 16, [.int .u64 0, .int .u64 0]⟩, ⟨.int .i64, 1, 8, [.int .i64 0]⟩, ⟨.int .i64, 1, 8, [.int .i64 0]⟩, ⟨.bool, 1, 1, [.bool false]⟩, ⟨.slice 31, 1, 24, [.nil]⟩] (by simp only [List.map, ty25, ty26, ty3, ty4]) (by rfl) (by exact rfl)).weak (v' := .agg [.int .u64 a1.Trace.Hi, .int .u64 a1.Trace.Lo, .int .i64 a2, .int .i64 0, .bool false, .sl 10 (List.map enc30 [])]) (le_agg ⟨le_refl _, le_refl _, le_refl _, le_refl _, le_refl _, le_nil _, trivial⟩)) (by decide) ?_
      refine alD (some 27) rfl rfl (do_buildSlice (xs := List.map enc27 [(Episode.mk a1.Trace a2 0 false [])]) ty22 ty28 rfl rfl rfl rfl rfl rfl rfl rfl) (by decide) ?_
      obtain ⟨g11, h⟩ := gd_some h
      refine alD (some 28) rfl rfl (do_append (v := List.map enc27 (x3 ++ [(Episode.mk a1.Trace a2 0 false [])])) (by conv => lhs; whnf) (by conv => lhs; whnf) ty22 ty28 rfl rfl (by conv => lhs; whnf) (by first | exact .inl rfl | exact .inr ⟨rfl, rfl⟩) (by conv => lhs; whnf) (by first | exact .inr rfl | exact .inl rfl) (map_app _ _) (fit_map g11)) (by decide) ?_
      refine alP (some 9) rfl rfl (does_assign (v := .own 28 0) (by exact rfl)) (by decide) ?_
      refine al_nil ?_
      obtain rfl := Option.some.inj h
      have h := hk7
      exact ⟨_, reb_lit [(2, .int .i64 a2), (3, .bool a3), (5, .ptr 5 0 0), (9, .own 28 0), (10, .int .i64 (List.length x3 : Int))] [(5, 0), (28, 0)] [((5, 0), .box [.int .u64 a1.Trace.Hi, .int .u64 a1.Trace.Lo, .int .u64 a1.Id, .int .u64 a1.Parent, .str a1.Service, .str a1.Op, .int .i64 a1.Start, .int .i64 a1.Dur, .bool a1.Err, .sl 2 (List.map enc68 a1.Attrs)]), ((28, 0), .arr 28 6 false (List.map enc27 (x3 ++ [(Episode.mk a1.Trace a2 0 false [])])))] [(5, 1), (28, 1)] (envOk_cons (by conv => lhs; whnf) (by exact rfl) (envOk_cons (by conv => lhs; whnf) (by exact rfl) (envOk_cons (by conv => lhs; whnf) (by exact rfl) (envOk_cons (by conv => lhs; whnf) (by exact rfl) (envOk_cons (by conv => lhs; whnf) (by exact rfl) envOk_nil))))) (objOk_cons (by conv => lhs; whnf) (by conv => lhs; whnf) (by exact rfl) (by simp) (objOk_cons (by conv => lhs; whnf) (by conv => lhs; whnf) (by exact rfl) (by simp) objOk_nil)) (nodup_b rfl) (nodup_b rfl) rfl rfl, (x3 ++ [(Episode.mk a1.Trace a2 0 false [])]), (List.length x3 : Int), h, rfl⟩
    · have h := ifF c9 h
      refine aw_cond_f (by decide) rfl ?_
      refine aw_skip ?_
      obtain rfl := Option.some.inj h
      have h := hk7
      exact ⟨_, reb_lit [(2, .int .i64 a2), (3, .bool a3), (5, .ptr 5 0 0), (9, .own 28 0), (10, .int .i64 x5)] [(5, 0), (14, 0)] [((5, 0), .box [.int .u64 a1.Trace.Hi, .int .u64 a1.Trace.Lo, .int .u64 a1.Id, .int .u64 a1.Parent, .str a1.Service, .str a1.Op, .int .i64 a1.Start, .int .i64 a1.Dur, .bool a1.Err, .sl 2 (List.map enc68 a1.Attrs)]), ((28, 0), .arr 28 6 false (List.map enc27 x3))] [(5, 1), (28, 1)] (envOk_cons (by conv => lhs; whnf) (by exact rfl) (envOk_cons (by conv => lhs; whnf) (by exact rfl) (envOk_cons (by conv => lhs; whnf) (by exact rfl) (envOk_cons (by conv => lhs; whnf) (by exact rfl) (envOk_cons (by conv => lhs; whnf) (by exact rfl) envOk_nil))))) (objOk_cons (by conv => lhs; whnf) (by conv => lhs; whnf) (by exact rfl) (by simp) (objOk_cons (by conv => lhs; whnf) (by conv => lhs; whnf) (by exact rfl) (by simp) objOk_nil)) (nodup_b rfl) (nodup_b rfl) rfl rfl, x3, x5, h, rfl⟩
  · rintro s ⟨v9_s_0, v10_0, h, rfl⟩
    unfold buffer_Put_k0 at h
    refine aw_seq_k (fun K12 hK12 => ?_)
    refine aw_regd (by kernel_rfl) (by decide +kernel) ?_
    refine aoP (some 30) rfl rfl (does_move (v := .own 28 0) (by exact rfl)) (by decide) ?_
    refine aoP (some 31) rfl rfl (does_move (v := .int .i64 v10_0) (by exact rfl)) (by decide) ?_
    obtain ⟨g13, h⟩ := gd_some h
    obtain ⟨x14, hx14, h⟩ := bnd_some h
    refine aoR (some 32) rfl rfl (does_indexAddr_own (by conv => lhs; whnf) (by conv => lhs; whnf) (by conv => lhs; whnf) ty22 ty28 g13 (by exact own_lt hx14)) (by decide) ?_
    refine aoR (some 33) rfl rfl (does_load (v := .agg [.int .u64 x14.Trace.Hi, .int .u64 x14.Trace.Lo, .int .i64 x14.First, .int .i64 x14.Last, .bool x14.Sure, .sl 10 (List.map enc30 x14.Spans)]) (by conv => lhs; whnf) (cellsAt_eptr (by conv => lhs; whnf) (by exact map_get hx14)) ty28 (by exact rfl)) (by decide) ?_
    refine aoR (some 34) rfl rfl (does_load (v := .agg [.int .u64 a1.Trace.Hi, .int .u64 a1.Trace.Lo, .int .u64 a1.Id, .int .u64 a1.Parent, .str a1.Service, .str a1.Op, .int .i64 a1.Start, .int .i64 a1.Dur, .bool a1.Err, .sl 2 (List.map enc68 a1.Attrs)]) (by conv => lhs; whnf) (by conv => lhs; whnf) ty31 (by exact rfl)) (by decide) ?_
    refine aoP (some 35) rfl rfl (does_move (v := .int .i64 a2) (by exact rfl)) (by decide) ?_
    obtain ⟨x15, hx15, h⟩ := bnd_some h
    refine aoD (some 36) rfl rfl (do_call0 36 false (episode_Add_ok x14 a1 a2 hx15) rfl ent18 rfl rfl) (by decide) ?_
    refine aoP (some 29) rfl rfl (does_move (v := .tup [.agg [.int .u64 x15.1.Trace.Hi, .int .u64 x15.1.Trace.Lo, .int .i64 x15.1.First, .int .i64 x15.1.Last, .bool x15.1.Sure, .own 36 0], .bool x15.2]) (by exact rfl)) (by decide) ?_
    refine aoP (some 37) rfl rfl (does_extract (v := .agg [.int .u64 x15.1.Trace.Hi, .int .u64 x15.1.Trace.Lo, .int .i64 x15.1.First, .int .i64 x15.1.Last, .bool x15.1.Sure, .own 36 0]) (by conv => lhs; whnf) (by exact rfl)) (by decide) ?_
    refine aoP (some 38) rfl rfl (does_extract (v := .bool x15.2) (by conv => lhs; whnf) (by exact rfl)) (by decide) ?_
    refine aoD (some 11) rfl rfl (do_new ty28 rfl rfl) (by decide) ?_
    refine aoD none rfl rfl (do_store (cs' := [.int .u64 x15.1.Trace.Hi, .int .u64 x15.1.Trace.Lo, .int .i64 x15.1.First, .int .i64 x15.1.Last, .bool x15.1.Sure, .own 36 0]) (by conv => lhs; whnf) (by conv => lhs; whnf) (by conv => lhs; whnf) ty28 rfl rfl rfl (by exact rfl)) (by decide) ?_
    refine aoP (some 12) rfl rfl (does_assign (v := .bool x15.2) (by exact rfl)) (by decide) ?_
    refine ao_nil_d (by kernel_rfl) ?_
    refine hK12 _ ?_
    obtain ⟨q16, h, hk17⟩ := bnd_some h
    refine aw_cut (fun s => ∃ (v11_s_4_1 : Bool), buffer_Put_k1 v9_s_0 v10_0 x15 v11_s_4_1 = some r ∧ s = lit [(9, .own 28 0), (10, .int .i64 v10_0), (11, .ptr 11 0 0)] [((28, 0), .arr 28 6 false (List.map enc27 v9_s_0)), ((11, 0), .box [.int .u64 x15.1.Trace.Hi, .int .u64 x15.1.Trace.Lo, .int .i64 x15.1.First, .int .i64 x15.1.Last, .bool v11_s_4_1, .own 36 0]), ((36, 0), .arr 31 10 false (List.map enc30 x15.1.Spans))] [(11, 1), (28, 1), (36, 1)] X) ?_ ?_
    · skip
      refine aw_regL ?_
      refine alP (some 39) rfl rfl (does_fieldAddr (q := .ptr 11 0 4) (by conv => lhs; whnf) ty28 rfl ty4 (by decide) (by exact rfl)) (by decide) ?_
      refine alR (some 40) rfl rfl (does_load (v := .bool x15.1.Sure) (by conv => lhs; whnf) (by conv => lhs; whnf) ty4 (by exact rfl)) (by decide) ?_
      refine alP (some 41) rfl rfl (does_move (v := .bool x15.1.Sure) (by exact rfl)) (by decide) ?_
      refine al_bool (c := x15.1.Sure) 41 rfl (fun c18 => ?_) (fun c18 => ?_)
      · have h := ifT c18 h
        refine alS (some 42) rfl rfl (by decide) ?_
        refine alP (some 43) rfl rfl (does_pick (v := .bool true) (by conv => lhs; whnf) (by exact rfl)) (by decide) ?_
        refine alP (some 44) rfl rfl (does_fieldAddr (q := .ptr 11 0 4) (by conv => lhs; whnf) ty28 rfl ty4 (by decide) (by exact rfl)) (by decide) ?_
        refine alD none rfl rfl (do_store (cs' := [.int .u64 x15.1.Trace.Hi, .int .u64 x15.1.Trace.Lo, .int .i64 x15.1.First, .int .i64 x15.1.Last, .bool true, .own 36 0]) (by conv => lhs; whnf) (by conv => lhs; whnf) (by conv => lhs; whnf) ty4 rfl rfl rfl (by exact rfl)) (by decide) ?_
        refine al_nil ?_
        obtain rfl := Option.some.inj h
        have h := hk17
        exact ⟨_, reb_lit [(9, .own 28 0), (10, .int .i64 v10_0), (11, .ptr 11 0 0)] [(28, 0), (11, 0), (36, 0)] [((28, 0), .arr 28 6 false (List.map enc27 v9_s_0)), ((11, 0), .box [.int .u64 x15.1.Trace.Hi, .int .u64 x15.1.Trace.Lo, .int .i64 x15.1.First, .int .i64 x15.1.Last, .bool true, .own 36 0]), ((36, 0), .arr 31 10 false (List.map enc30 x15.1.Spans))] [(11, 1), (28, 1), (36, 1)] (envOk_cons (by conv => lhs; whnf) (by exact rfl) (envOk_cons (by conv => lhs; whnf) (by exact rfl) (envOk_cons (by conv => lhs; whnf) (by exact rfl) envOk_nil))) (objOk_cons (by conv => lhs; whnf) (by conv => lhs; whnf) (by exact rfl) (by simp) (objOk_cons (by conv => lhs; whnf) (by conv => lhs; whnf) (by exact rfl) (by simp) (objOk_cons (by conv => lhs; whnf) (by conv => lhs; whnf) (by exact rfl) (by simp) objOk_nil))) (nodup_b rfl) (nodup_b rfl) rfl rfl, true, h, rfl⟩
      · have h := ifF c18 h
        refine alP (some 42) rfl rfl (does_move (v := .bool a3) (by exact rfl)) (by decide) ?_
        refine alP (some 43) rfl rfl (does_pick (v := .bool a3) (by conv => lhs; whnf) (by exact rfl)) (by decide) ?_
        refine alP (some 44) rfl rfl (does_fieldAddr (q := .ptr 11 0 4) (by conv => lhs; whnf) ty28 rfl ty4 (by decide) (by exact rfl)) (by decide) ?_
        refine alD none rfl rfl (do_store (cs' := [.int .u64 x15.1.Trace.Hi, .int .u64 x15.1.Trace.Lo, .int .i64 x15.1.First, .int .i64 x15.1.Last, .bool a3, .own 36 0]) (by conv => lhs; whnf) (by conv => lhs; whnf) (by conv => lhs; whnf) ty4 rfl rfl rfl (by exact rfl)) (by decide) ?_
        refine al_nil ?_
        obtain rfl := Option.some.inj h
        have h := hk17
        exact ⟨_, reb_lit [(9, .own 28 0), (10, .int .i64 v10_0), (11, .ptr 11 0 0)] [(28, 0), (11, 0), (36, 0)] [((28, 0), .arr 28 6 false (List.map enc27 v9_s_0)), ((11, 0), .box [.int .u64 x15.1.Trace.Hi, .int .u64 x15.1.Trace.Lo, .int .i64 x15.1.First, .int .i64 x15.1.Last, .bool a3, .own 36 0]), ((36, 0), .arr 31 10 false (List.map enc30 x15.1.Spans))] [(11, 1), (28, 1), (36, 1)] (envOk_cons (by conv => lhs; whnf) (by exact rfl) (envOk_cons (by conv => lhs; whnf) (by exact rfl) (envOk_cons (by conv => lhs; whnf) (by exact rfl) envOk_nil))) (objOk_cons (by conv => lhs; whnf) (by conv => lhs; whnf) (by exact rfl) (by simp) (objOk_cons (by conv => lhs; whnf) (by conv => lhs; whnf) (by exact rfl) (by simp) (objOk_cons (by conv => lhs; whnf) (by conv => lhs; whnf) (by exact rfl) (by simp) objOk_nil))) (nodup_b rfl) (nodup_b rfl) rfl rfl, a3, h, rfl⟩
    · rintro s ⟨v11_s_4_1, h, rfl⟩
      unfold buffer_Put_k1 at h
      refine aw_seq_k (fun K19 hK19 => ?_)
      refine aw_regL ?_
      refine alP (some 45) rfl rfl (does_move (v := .own 28 0) (by exact rfl)) (by decide) ?_
      refine alP (some 46) rfl rfl (does_move (v := .int .i64 v10_0) (by exact rfl)) (by decide) ?_
      refine alR (some 47) rfl rfl (does_load (v := .agg [.int .u64 x15.1.Trace.Hi, .int .u64 x15.1.Trace.Lo, .int .i64 x15.1.First, .int .i64 x15.1.Last, .bool v11_s_4_1, .own 36 0]) (by conv => lhs; whnf) (by conv => lhs; whnf) ty28 (by exact rfl)) (by decide) ?_
      obtain ⟨g20, h⟩ := gd_some h
      obtain ⟨x21, hx21, h⟩ := bnd_some h
      refine alR (some 48) rfl rfl (does_indexAddr_own (by conv => lhs; whnf) (by conv => lhs; whnf) (by conv => lhs; whnf) ty22 ty28 g20 (by exact own_lt hx21)) (by decide) ?_
      refine alD none rfl rfl (does_frz (d := 36) (n := 0) (by conv => lhs; whnf) (does_storeZ (pv := .agg [.int .u64 x15.1.Trace.Hi, .int .u64 x15.1.Trace.Lo, .int .i64 x15.1.First, .int .i64 x15.1.Last, .bool v11_s_4_1, .sl 10 (List.map enc30 x15.1.Spans)]) (old := .agg [.int .u64 x21.Trace.Hi, .int .u64 x21.Trace.Lo, .int .i64 x21.First, .int .i64 x21.Last, .bool x21.Sure, .sl 10 (List.map enc30 x21.Spans)]) (el := .agg [.int .u64 x15.1.Trace.Hi, .int .u64 x15.1.Trace.Lo, .int .i64 x15.1.First, .int .i64 x15.1.Last, .bool v11_s_4_1, .sl 10 (List.map enc30 x15.1.Spans)]) (xs' := List.map enc27 (List.set v9_s_0 (Int.toNat v10_0) (Episode.mk x15.1.Trace x15.1.First x15.1.Last v11_s_4_1 x15.1.Spans))) (by conv => lhs; whnf) (by exact rfl) (by conv => lhs; whnf) ty28 (by rfl) (by rfl) (by exact map_get hx21) (by rfl) (by exact rfl) (by exact map_set' _ _ (Episode.mk x15.1.Trace x15.1.First x15.1.Last v11_s_4_1 x15.1.Spans)))) (by decide) ?_
      refine al_nil ?_
      refine hK19 _ ?_
      refine aw_seq_k (fun K22 hK22 => ?_)
      refine aw_regL ?_
      refine alP (some 49) rfl rfl (does_move (v := .own 28 0) (by exact rfl)) (by decide) ?_
      refine alP (some 8) rfl rfl (does_assign (v := .own 28 0) (by exact rfl)) (by decide) ?_
      refine al_nil ?_
      refine hK22 _ ?_
      refine aw_ret ?_
      obtain rfl := Option.some.inj h
      exact ret_okR [(28, 0)] (by conv => lhs; whnf) (by conv => lhs; whnf) (by exact rfl) (rowsOk_cons (by conv => lhs; whnf) (by exact rfl) trivial) (nodup_b rfl) (.inr rfl) rfl
def rollup_Less_k0 (a0 : Int) (a1 : Int) (v9_0 : Bool) : Option Int :=
  if v9_0 = true then (some (-9223372036854775808)) else (if (decide (a1 < 0)) = true then (if (decide ((IntKind.i64.wrap (a0 - a1)) < a0)) = true then (some 9223372036854775807) else (some (IntKind.i64.wrap (a0 - a1)))) else (some (IntKind.i64.wrap (a0 - a1))))
def rollup_Less (a0 : Int) (a1 : Int) : Option Int :=
  Option.bind (if (decide ((0 : Int) < a1)) = true then (some (decide (a0 < (IntKind.i64.wrap (a0 - a1))))) else (some false)) (fun (s : Bool) => rollup_Less_k0 a0 a1 s)
set_option maxRecDepth 100000 in
set_option maxHeartbeats 8000000 in
/-- gleaning/rollup.Less -/
theorem rollup_Less_ok (a0 : Int) (a1 : Int) {r : Int} (h : rollup_Less a0 a1 = some r) : Ok Try.prog 59 [.int .i64 a0, .int .i64 a1] [] [] (.int .i64 r) [] [] := by
  unfold rollup_Less at h
  refine ok_of_code Try.func59 rfl (by show (2 : Nat) ≤ _; decide) (Nat.le_refl _) fun X => ?_
  refine aw_seq_k (fun K1 hK1 => ?_)
  refine aw_regL ?_
  refine alP (some 4) rfl rfl (does_assign (v := .int .i64 0) (by exact rfl)) (by decide) ?_
  refine al_nil ?_
  refine hK1 _ ?_
  refine aw_seq_k (fun K2 hK2 => ?_)
  refine aw_regL ?_
  refine alP (some 6) rfl rfl (does_move (v := .int .i64 a0) (by exact rfl)) (by decide) ?_
  refine alP (some 7) rfl rfl (does_move (v := .int .i64 a1) (by exact rfl)) (by decide) ?_
  refine alP (some 8) rfl rfl (does_bin (v := .int .i64 (IntKind.i64.wrap (a0 - a1))) (by conv => lhs; whnf) (by conv => lhs; whnf) rfl) (by decide) ?_
  refine alP (some 5) rfl rfl (does_assign (v := .int .i64 (IntKind.i64.wrap (a0 - a1))) (by exact rfl)) (by decide) ?_
  refine al_nil ?_
  refine hK2 _ ?_
  refine aw_seq_k (fun K3 hK3 => ?_)
  refine aw_block ?_
  obtain ⟨q4, h, hk5⟩ := bnd_some h
  refine aw_cut (fun s => ∃ (v9_0 : Bool), rollup_Less_k0 a0 a1 v9_0 = some r ∧ s = lit [(0, .int .i64 a0), (1, .int .i64 a1), (5, .int .i64 (IntKind.i64.wrap (a0 - a1))), (9, .bool v9_0)] [] [] X) ?_ ?_
  · skip
    refine aw_regL ?_
    refine alP (some 10) rfl rfl (does_move (v := .int .i64 a1) (by exact rfl)) (by decide) ?_
    refine alP (some 11) rfl rfl (does_bin (v := .bool (decide ((0 : Int) < a1))) (by conv => lhs; whnf) (by conv => lhs; whnf) rfl) (by decide) ?_
    refine alP (some 12) rfl rfl (does_move (v := .bool (decide ((0 : Int) < a1))) (by exact rfl)) (by decide) ?_
    refine al_bool (c := (decide ((0 : Int) < a1))) 12 rfl (fun c6 => ?_) (fun c6 => ?_)
    · have h := ifT c6 h
      refine alP (some 13) rfl rfl (does_move (v := .int .i64 (IntKind.i64.wrap (a0 - a1))) (by exact rfl)) (by decide) ?_
      refine alP (some 14) rfl rfl (does_move (v := .int .i64 a0) (by exact rfl)) (by decide) ?_
      refine alP (some 15) rfl rfl (does_bin (v := .bool (decide (a0 < (IntKind.i64.wrap (a0 - a1))))) (by conv => lhs; whnf) (by conv => lhs; whnf) rfl) (by decide) ?_
      refine alP (some 16) rfl rfl (does_pick (v := .bool (decide (a0 < (IntKind.i64.wrap (a0 - a1))))) (by conv => lhs; whnf) (by exact rfl)) (by decide) ?_
      refine alP (some 9) rfl rfl (does_assign (v := .bool (decide (a0 < (IntKind.i64.wrap (a0 - a1))))) (by exact rfl)) (by decide) ?_
      refine al_nil ?_
      obtain rfl := Option.some.inj h
      have h := hk5
      exact ⟨_, reb_lit [(0, .int .i64 a0), (1, .int .i64 a1), (5, .int .i64 (IntKind.i64.wrap (a0 - a1))), (9, .bool (decide (a0 < (IntKind.i64.wrap (a0 - a1)))))] [] [] [] (envOk_cons (by conv => lhs; whnf) (by exact rfl) (envOk_cons (by conv => lhs; whnf) (by exact rfl) (envOk_cons (by conv => lhs; whnf) (by exact rfl) (envOk_cons (by conv => lhs; whnf) (by exact rfl) envOk_nil)))) objOk_nil (nodup_b rfl) (nodup_b rfl) rfl rfl, (decide (a0 < (IntKind.i64.wrap (a0 - a1)))), h, rfl⟩
    · have h := ifF c6 h
      refine alS (some 13) rfl rfl (by decide) ?_
      refine alS (some 14) rfl rfl (by decide) ?_
      refine alS (some 15) rfl rfl (by decide) ?_
      refine alP (some 16) rfl rfl (does_pick (v := .bool false) (by conv => lhs; whnf) (by exact rfl)) (by decide) ?_
      refine alP (some 9) rfl rfl (does_assign (v := .bool false) (by exact rfl)) (by decide) ?_
      refine al_nil ?_
      obtain rfl := Option.some.inj h
      have h := hk5
      exact ⟨_, reb_lit [(0, .int .i64 a0), (1, .int .i64 a1), (5, .int .i64 (IntKind.i64.wrap (a0 - a1))), (9, .bool false)] [] [] [] (envOk_cons (by conv => lhs; whnf) (by exact rfl) (envOk_cons (by conv => lhs; whnf) (by exact rfl) (envOk_cons (by conv => lhs; whnf) (by exact rfl) (envOk_cons (by conv => lhs; whnf) (by exact rfl) envOk_nil)))) objOk_nil (nodup_b rfl) (nodup_b rfl) rfl rfl, false, h, rfl⟩
  · rintro s ⟨v9_0, h, rfl⟩
    unfold rollup_Less_k0 at h
    refine aw_bool (b := v9_0) 9 rfl (fun c7 => ?_) (fun c7 => ?_)
    · have h := ifT c7 h
      refine aw_cond_t (by decide) rfl ?_
      refine aw_seq_k (fun K8 hK8 => ?_)
      refine aw_regL ?_
      refine alP (some 4) rfl rfl (does_assign (v := .int .i64 (-9223372036854775808)) (by exact rfl)) (by decide) ?_
      refine al_nil ?_
      refine hK8 _ ?_
      refine aw_ret ?_
      obtain rfl := Option.some.inj h
      exact ret_ok1 (by conv => lhs; whnf) (by conv => lhs; whnf) (by exact rfl) (.inr rfl) rfl
    · have h := ifF c7 h
      refine aw_cond_f (by decide) rfl ?_
      refine aw_seq_k (fun K9 hK9 => ?_)
      refine aw_regL ?_
      refine alP (some 18) rfl rfl (does_move (v := .int .i64 a1) (by exact rfl)) (by decide) ?_
      refine alP (some 19) rfl rfl (does_bin (v := .bool (decide (a1 < 0))) (by conv => lhs; whnf) (by conv => lhs; whnf) rfl) (by decide) ?_
      refine alP (some 20) rfl rfl (does_move (v := .bool (decide (a1 < 0))) (by exact rfl)) (by decide) ?_
      refine al_bool (c := (decide (a1 < 0))) 20 rfl (fun c10 => ?_) (fun c10 => ?_)
      · have h := ifT c10 h
        refine alP (some 21) rfl rfl (does_move (v := .int .i64 (IntKind.i64.wrap (a0 - a1))) (by exact rfl)) (by decide) ?_
        refine alP (some 22) rfl rfl (does_move (v := .int .i64 a0) (by exact rfl)) (by decide) ?_
        refine alP (some 23) rfl rfl (does_bin (v := .bool (decide ((IntKind.i64.wrap (a0 - a1)) < a0))) (by conv => lhs; whnf) (by conv => lhs; whnf) rfl) (by decide) ?_
        refine alP (some 24) rfl rfl (does_pick (v := .bool (decide ((IntKind.i64.wrap (a0 - a1)) < a0))) (by conv => lhs; whnf) (by exact rfl)) (by decide) ?_
        refine alP (some 17) rfl rfl (does_assign (v := .bool (decide ((IntKind.i64.wrap (a0 - a1)) < a0))) (by exact rfl)) (by decide) ?_
        refine al_nil ?_
        refine hK9 _ ?_
        refine aw_bool (b := (decide ((IntKind.i64.wrap (a0 - a1)) < a0))) 17 rfl (fun c11 => ?_) (fun c11 => ?_)
        · have h := ifT c11 h
          refine aw_cond_t (by decide) rfl ?_
          refine aw_seq_k (fun K12 hK12 => ?_)
          refine aw_regL ?_
          refine alP (some 4) rfl rfl (does_assign (v := .int .i64 9223372036854775807) (by exact rfl)) (by decide) ?_
          refine al_nil ?_
          refine hK12 _ ?_
          refine aw_ret ?_
          obtain rfl := Option.some.inj h
          exact ret_ok1 (by conv => lhs; whnf) (by conv => lhs; whnf) (by exact rfl) (.inr rfl) rfl
        · have h := ifF c11 h
          refine aw_cond_f (by decide) rfl ?_
          refine aw_skip ?_
          refine hK3 _ ?_
          refine aw_seq_k (fun K13 hK13 => ?_)
          refine aw_regL ?_
          refine alP (some 25) rfl rfl (does_move (v := .int .i64 (IntKind.i64.wrap (a0 - a1))) (by exact rfl)) (by decide) ?_
          refine alP (some 4) rfl rfl (does_assign (v := .int .i64 (IntKind.i64.wrap (a0 - a1))) (by exact rfl)) (by decide) ?_
          refine al_nil ?_
          refine hK13 _ ?_
          refine aw_ret ?_
          obtain rfl := Option.some.inj h
          exact ret_ok1 (by conv => lhs; whnf) (by conv => lhs; whnf) (by exact rfl) (.inr rfl) rfl
      · have h := ifF c10 h
        refine alS (some 21) rfl rfl (by decide) ?_
        refine alS (some 22) rfl rfl (by decide) ?_
        refine alS (some 23) rfl rfl (by decide) ?_
        refine alP (some 24) rfl rfl (does_pick (v := .bool false) (by conv => lhs; whnf) (by exact rfl)) (by decide) ?_
        refine alP (some 17) rfl rfl (does_assign (v := .bool false) (by exact rfl)) (by decide) ?_
        refine al_nil ?_
        refine hK9 _ ?_
        refine aw_cond_f (by decide) rfl ?_
        refine aw_skip ?_
        refine hK3 _ ?_
        refine aw_seq_k (fun K14 hK14 => ?_)
        refine aw_regL ?_
        refine alP (some 25) rfl rfl (does_move (v := .int .i64 (IntKind.i64.wrap (a0 - a1))) (by exact rfl)) (by decide) ?_
        refine alP (some 4) rfl rfl (does_assign (v := .int .i64 (IntKind.i64.wrap (a0 - a1))) (by exact rfl)) (by decide) ?_
        refine al_nil ?_
        refine hK14 _ ?_
        refine aw_ret ?_
        obtain rfl := Option.some.inj h
        exact ret_ok1 (by conv => lhs; whnf) (by conv => lhs; whnf) (by exact rfl) (.inr rfl) rfl
def buffer_Close_k2 (v10_s_1 : List Episode) (v11_s_1 : List Episode) (v17_1 : Int) (x15 : Episode) (v34_2 : Bool) : Option ((List Episode × List Episode × Int) ⊕ (List Episode × List Episode)) :=
  if v34_2 = true then (gd ((List.length (v11_s_1 ++ [x15])) * 64 ≤ 140737488355328 ∧ (List.length (v11_s_1 ++ [x15])) ≤ 140737488355328) (some (Sum.inl (v10_s_1, (v11_s_1 ++ [x15]), (IntKind.i64.wrap (v17_1 + 1)))))) else (gd ((List.length (v10_s_1 ++ [x15])) * 64 ≤ 140737488355328 ∧ (List.length (v10_s_1 ++ [x15])) ≤ 140737488355328) (some (Sum.inl ((v10_s_1 ++ [x15]), v11_s_1, (IntKind.i64.wrap (v17_1 + 1))))))
def buffer_Close_l1 (a1 : Int) (a2 : Int) (a3 : Int) (x6 : List Episode) (v10_s_1 : List Episode) (v11_s_1 : List Episode) (v17_1 : Int) : Option ((List Episode × List Episode × Int) ⊕ (List Episode × List Episode)) :=
  if (decide (v17_1 < (List.length x6 : Int))) = true then (gd (0 ≤ v17_1) (Option.bind (x6[(Int.toNat v17_1)]?) (fun (x15 : Episode) => Option.bind (Option.bind (rollup_Less a1 x15.Last) (fun (x18 : Int) => if (decide (a2 ≤ x18)) = true then (some true) else (Option.bind (rollup_Less a1 x15.First) (fun (x20 : Int) => some (decide (a3 ≤ x20)))))) (fun (s : Bool) => buffer_Close_k2 v10_s_1 v11_s_1 v17_1 x15 s)))) else (some (Sum.inr (v10_s_1, v11_s_1)))
def buffer_Close_k0 (v10_s_0 : List Episode) (v11_s_0 : List Episode) : Option (List Episode × List Episode) :=
  some (v10_s_0, v11_s_0)
def buffer_Close (a0 : List Episode) (a1 : Int) (a2 : Int) (a3 : Int) : Option (List Episode × List Episode) :=
  Option.bind (Option.bind (episode_Copies a0) (fun (x6 : List Episode) => loopN (fun (s : List Episode × List Episode × Int) => buffer_Close_l1 a1 a2 a3 x6 s.1 s.2.1 s.2.2) Fu ([], [], 0))) (fun (s : List Episode × List Episode) => buffer_Close_k0 s.1 s.2)
set_option maxRecDepth 100000 in
set_option maxHeartbeats 8000000 in
/-- gleaning/buffer.Close -/
theorem buffer_Close_ok (a0 : List Episode) (a1 : Int) (a2 : Int) (a3 : Int) {r : List Episode × List Episode} (h : buffer_Close a0 a1 a2 a3 = some r) : Ok Try.prog 37 [.sl 6 (List.map enc27 a0), .int .i64 a1, .int .i64 a2, .int .i64 a3] [] [] (.tup [.own 2 0, .own 2 1]) [] [(28, 6, List.map enc27 r.1), (28, 6, List.map enc27 r.2)] := by
  unfold buffer_Close at h
  refine ok_of_code Try.func37 rfl (by show (4 : Nat) ≤ _; decide) (Nat.le_refl _) fun X => ?_
  refine aw_seq_k (fun K1 hK1 => ?_)
  refine aw_regL ?_
  refine alP (some 8) rfl rfl (does_assign (v := .nil) (by exact rfl)) (by decide) ?_
  refine alP (some 9) rfl rfl (does_assign (v := .nil) (by exact rfl)) (by decide) ?_
  refine al_nil ?_
  refine hK1 _ ?_
  refine aw_seq_k (fun K2 hK2 => ?_)
  refine aw_regL ?_
  refine alP (some 10) rfl rfl (does_assign (v := .nil) (by exact rfl)) (by decide) ?_
  refine alP (some 11) rfl rfl (does_assign (v := .nil) (by exact rfl)) (by decide) ?_
  refine al_nil ?_
  refine hK2 _ ?_
  obtain ⟨q3, h, hk4⟩ := bnd_some h
  refine aw_cut (fun s => ∃ (v10_s_0 : List Episode), ∃ (v11_s_0 : List Episode), buffer_Close_k0 v10_s_0 v11_s_0 = some r ∧ s = lit [(10, .own 10 0), (11, .own 11 0)] [((10, 0), .arr 28 6 false (List.map enc27 v10_s_0)), ((11, 0), .arr 28 6 false (List.map enc27 v11_s_0))] [(10, 1), (11, 1)] X) ?_ ?_
  · skip
    refine aw_seq_k (fun K5 hK5 => ?_)
    refine aw_regL ?_
    refine alP (some 14) rfl rfl (does_move (v := .sl 6 (List.map enc27 a0)) (by exact rfl)) (by decide) ?_
    obtain ⟨x6, hx6, h⟩ := bnd_some h
    refine alD (some 15) rfl rfl (do_call0 15 false (episode_Copies_ok a0 hx6) rfl ent47 rfl rfl) (by decide) ?_
    refine alR (some 16) rfl rfl ((does_len_own (by conv => lhs; whnf) (by conv => lhs; whnf) ty22).cast (v' := .int .i64 (List.length x6 : Int)) (by exact len_map _)) (by decide) ?_
    refine alP (some 17) rfl rfl (does_move (v := .int .i64 0) (by exact rfl)) (by decide) ?_
    refine al_nil ?_
    refine hK5 _ ?_
    refine aw_block ?_
    refine aw_nilOwn 10 28 6 (by conv => lhs; whnf) (by decide) (by decide) ?_
    refine aw_nilOwn 11 28 6 (by conv => lhs; whnf) (by decide) (by decide) ?_
    refine aw_loop' (fun m s => ∃ (v10_s_1 : List Episode), ∃ (v11_s_1 : List Episode), ∃ (v17_1 : Int), loopN (fun (s : List Episode × List Episode × Int) => buffer_Close_l1 a1 a2 a3 x6 s.1 s.2.1 s.2.2) m (v10_s_1, v11_s_1, v17_1) = some q3 ∧ s = lit [(1, .int .i64 a1), (2, .int .i64 a2), (3, .int .i64 a3), (10, .own 10 0), (11, .own 11 0), (15, .own 15 0), (16, .int .i64 (List.length x6 : Int)), (17, .int .i64 v17_1)] [((10, 0), .arr 28 6 false (List.map enc27 v10_s_1)), ((11, 0), .arr 28 6 false (List.map enc27 v11_s_1)), ((15, 0), .arr 28 6 false (List.map enc27 x6))] [(10, 1), (11, 1), (15, 1)] X) Fu
      ⟨_, reb_lit [(1, .int .i64 a1), (2, .int .i64 a2), (3, .int .i64 a3), (10, .own 10 0), (11, .own 11 0), (15, .own 15 0), (16, .int .i64 (List.length x6 : Int)), (17, .int .i64 (0))] [(10, 0), (11, 0), (15, 0)] [((10, 0), .arr 28 6 false (List.map enc27 [])), ((11, 0), .arr 28 6 false (List.map enc27 [])), ((15, 0), .arr 28 6 false (List.map enc27 x6))] [(10, 1), (11, 1), (15, 1)] (envOk_cons (by conv => lhs; whnf) (by exact rfl) (envOk_cons (by conv => lhs; whnf) (by exact rfl) (envOk_cons (by conv => lhs; whnf) (by exact rfl) (envOk_cons (by conv => lhs; whnf) (by exact rfl) (envOk_cons (by conv => lhs; whnf) (by exact rfl) (envOk_cons (by conv => lhs; whnf) (by exact rfl) (envOk_cons (by conv => lhs; whnf) (by exact rfl) (envOk_cons (by conv => lhs; whnf) (by exact rfl) envOk_nil)))))))) (objOk_cons (by conv => lhs; whnf) (by conv => lhs; whnf) (by exact rfl) (by simp) (objOk_cons (by conv => lhs; whnf) (by conv => lhs; whnf) (by exact rfl) (by simp) (objOk_cons (by conv => lhs; whnf) (by conv => lhs; whnf) (by exact rfl) (by simp) objOk_nil))) (nodup_b rfl) (nodup_b rfl) rfl rfl, [], [], 0, h, rfl⟩ ?_
    rintro m s ⟨v10_s_1, v11_s_1, v17_1, h, rfl⟩
    obtain ⟨m1, q7, rfl, h, hq8⟩ := loop_some h
    replace h : buffer_Close_l1 a1 a2 a3 x6 v10_s_1 v11_s_1 v17_1 = some q7 := h
    unfold buffer_Close_l1 at h
    refine aw_seq_k (fun K9 hK9 => ?_)
    refine aw_regL ?_
    refine alP (some 18) rfl rfl (does_bin (v := .bool (decide (v17_1 < (List.length x6 : Int)))) (by conv => lhs; whnf) (by conv => lhs; whnf) rfl) (by decide) ?_
    refine al_nil ?_
    refine hK9 _ ?_
    refine aw_seq_k (fun K10 hK10 => ?_)
    refine aw_bool (b := (decide (v17_1 < (List.length x6 : Int)))) 18 rfl (fun c11 => ?_) (fun c11 => ?_)
    · have h := ifT c11 h
      refine aw_cond_t (by decide) rfl ?_
      refine aw_skip ?_
      refine hK10 _ ?_
      refine aw_seq_k (fun K12 hK12 => ?_)
      refine aw_block ?_
      refine aw_seq_k (fun K13 hK13 => ?_)
      refine aw_regL ?_
      obtain ⟨g14, h⟩ := gd_some h
      obtain ⟨x15, hx15, h⟩ := bnd_some h
      refine alR (some 19) rfl rfl (does_indexAddr_own (by conv => lhs; whnf) (by conv => lhs; whnf) (by conv => lhs; whnf) ty22 ty28 g14 (by exact own_lt hx15)) (by decide) ?_
      refine alR (some 20) rfl rfl (does_load (v := .agg [.int .u64 x15.Trace.Hi, .int .u64 x15.Trace.Lo, .int .i64 x15.First, .int .i64 x15.Last, .bool x15.Sure, .sl 10 (List.map enc30 x15.Spans)]) (by conv => lhs; whnf) (cellsAt_eptr (by conv => lhs; whnf) (by exact map_get hx15)) ty28 (by exact rfl)) (by decide) ?_
      refine alD (some 13) rfl rfl (do_new ty28 rfl rfl) (by decide) ?_
      refine alD none rfl rfl (do_store (cs' := [.int .u64 x15.Trace.Hi, .int .u64 x15.Trace.Lo, .int .i64 x15.First, .int .i64 x15.Last, .bool x15.Sure, .sl 10 (List.map enc30 x15.Spans)]) (by conv => lhs; whnf) (by conv => lhs; whnf) (by conv => lhs; whnf) ty28 rfl rfl rfl (by exact rfl)) (by decide) ?_
      refine al_nil ?_
      refine hK13 _ ?_
      obtain ⟨q16, h, hk17⟩ := bnd_some h
      refine aw_cut (fun s => ∃ (v34_2 : Bool), buffer_Close_k2 v10_s_1 v11_s_1 v17_1 x15 v34_2 = some q7 ∧ s = lit [(1, .int .i64 a1), (2, .int .i64 a2), (3, .int .i64 a3), (10, .own 10 0), (11, .own 11 0), (13, .ptr 13 0 0), (15, .own 15 0), (16, .int .i64 (List.length x6 : Int)), (17, .int .i64 v17_1), (34, .bool v34_2)] [((10, 0), .arr 28 6 false (List.map enc27 v10_s_1)), ((11, 0), .arr 28 6 false (List.map enc27 v11_s_1)), ((13, 0), .box [.int .u64 x15.Trace.Hi, .int .u64 x15.Trace.Lo, .int .i64 x15.First, .int .i64 x15.Last, .bool x15.Sure, .sl 10 (List.map enc30 x15.Spans)]), ((15, 0), .arr 28 6 false (List.map enc27 x6))] [(10, 1), (11, 1), (13, 1), (15, 1)] X) ?_ ?_
      · skip
        refine aw_regL ?_
        refine alP (some 21) rfl rfl (does_move (v := .int .i64 a1) (by exact rfl)) (by decide) ?_
        refine alP (some 22) rfl rfl (does_fieldAddr (q := .ptr 13 0 3) (by conv => lhs; whnf) ty28 rfl ty3 (by decide) (by exact rfl)) (by decide) ?_
        refine alR (some 23) rfl rfl (does_load (v := .int .i64 x15.Last) (by conv => lhs; whnf) (by conv => lhs; whnf) ty3 (by exact rfl)) (by decide) ?_
        obtain ⟨x18, hx18, h⟩ := bnd_some h
        refine alD (some 24) rfl rfl (do_call0 24 false (rollup_Less_ok a1 x15.Last hx18) rfl ent59 rfl rfl) (by decide) ?_
        refine alP (some 25) rfl rfl (does_move (v := .int .i64 a2) (by exact rfl)) (by decide) ?_
        refine alP (some 26) rfl rfl (does_bin (v := .bool (decide (a2 ≤ x18))) (by conv => lhs; whnf) (by conv => lhs; whnf) rfl) (by decide) ?_
        refine alP (some 27) rfl rfl (does_move (v := .bool (decide (a2 ≤ x18))) (by exact rfl)) (by decide) ?_
        refine al_bool (c := (decide (a2 ≤ x18))) 27 rfl (fun c19 => ?_) (fun c19 => ?_)
        · have h := ifT c19 h
          refine alS (some 28) rfl rfl (by decide) ?_
          refine alS (some 29) rfl rfl (by decide) ?_
          refine alS (some 30) rfl rfl (by decide) ?_
          refine alS (some 31) rfl rfl (by decide) ?_
          refine alS (some 32) rfl rfl (by decide) ?_
          refine alS (some 33) rfl rfl (by decide) ?_
          refine alP (some 34) rfl rfl (does_pick (v := .bool true) (by conv => lhs; whnf) (by exact rfl)) (by decide) ?_
          refine al_nil ?_
          obtain rfl := Option.some.inj h
          have h := hk17
          exact ⟨_, reb_lit [(1, .int .i64 a1), (2, .int .i64 a2), (3, .int .i64 a3), (10, .own 10 0), (11, .own 11 0), (13, .ptr 13 0 0), (15, .own 15 0), (16, .int .i64 (List.length x6 : Int)), (17, .int .i64 v17_1), (34, .bool true)] [(10, 0), (11, 0), (13, 0), (15, 0)] [((10, 0), .arr 28 6 false (List.map enc27 v10_s_1)), ((11, 0), .arr 28 6 false (List.map enc27 v11_s_1)), ((13, 0), .box [.int .u64 x15.Trace.Hi, .int .u64 x15.Trace.Lo, .int .i64 x15.First, .int .i64 x15.Last, .bool x15.Sure, .sl 10 (List.map enc30 x15.Spans)]), ((15, 0), .arr 28 6 false (List.map enc27 x6))] [(10, 1), (11, 1), (13, 1), (15, 1)] (envOk_cons (by conv => lhs; whnf) (by exact rfl) (envOk_cons (by conv => lhs; whnf) (by exact rfl) (envOk_cons (by conv => lhs; whnf) (by exact rfl) (envOk_cons (by conv => lhs; whnf) (by exact rfl) (envOk_cons (by conv => lhs; whnf) (by exact rfl) (envOk_cons (by conv => lhs; whnf) (by exact rfl) (envOk_cons (by conv => lhs; whnf) (by exact rfl) (envOk_cons (by conv => lhs; whnf) (by exact rfl) (envOk_cons (by conv => lhs; whnf) (by exact rfl) (envOk_cons (by conv => lhs; whnf) (by exact rfl) envOk_nil)))))))))) (objOk_cons (by conv => lhs; whnf) (by conv => lhs; whnf) (by exact rfl) (by simp) (objOk_cons (by conv => lhs; whnf) (by conv => lhs; whnf) (by exact rfl) (by simp) (objOk_cons (by conv => lhs; whnf) (by conv => lhs; whnf) (by exact rfl) (by simp) (objOk_cons (by conv => lhs; whnf) (by conv => lhs; whnf) (by exact rfl) (by simp) objOk_nil)))) (nodup_b rfl) (nodup_b rfl) rfl rfl, true, h, rfl⟩
        · have h := ifF c19 h
          refine alP (some 28) rfl rfl (does_move (v := .int .i64 a1) (by exact rfl)) (by decide) ?_
          refine alP (some 29) rfl rfl (does_fieldAddr (q := .ptr 13 0 2) (by conv => lhs; whnf) ty28 rfl ty3 (by decide) (by exact rfl)) (by decide) ?_
          refine alR (some 30) rfl rfl (does_load (v := .int .i64 x15.First) (by conv => lhs; whnf) (by conv => lhs; whnf) ty3 (by exact rfl)) (by decide) ?_
          obtain ⟨x20, hx20, h⟩ := bnd_some h
          refine alD (some 31) rfl rfl (do_call0 31 false (rollup_Less_ok a1 x15.First hx20) rfl ent59 rfl rfl) (by decide) ?_
          refine alP (some 32) rfl rfl (does_move (v := .int .i64 a3) (by exact rfl)) (by decide) ?_
          refine alP (some 33) rfl rfl (does_bin (v := .bool (decide (a3 ≤ x20))) (by conv => lhs; whnf) (by conv => lhs; whnf) rfl) (by decide) ?_
          refine alP (some 34) rfl rfl (does_pick (v := .bool (decide (a3 ≤ x20))) (by conv => lhs; whnf) (by exact rfl)) (by decide) ?_
          refine al_nil ?_
          obtain rfl := Option.some.inj h
          have h := hk17
          exact ⟨_, reb_lit [(1, .int .i64 a1), (2, .int .i64 a2), (3, .int .i64 a3), (10, .own 10 0), (11, .own 11 0), (13, .ptr 13 0 0), (15, .own 15 0), (16, .int .i64 (List.length x6 : Int)), (17, .int .i64 v17_1), (34, .bool (decide (a3 ≤ x20)))] [(10, 0), (11, 0), (13, 0), (15, 0)] [((10, 0), .arr 28 6 false (List.map enc27 v10_s_1)), ((11, 0), .arr 28 6 false (List.map enc27 v11_s_1)), ((13, 0), .box [.int .u64 x15.Trace.Hi, .int .u64 x15.Trace.Lo, .int .i64 x15.First, .int .i64 x15.Last, .bool x15.Sure, .sl 10 (List.map enc30 x15.Spans)]), ((15, 0), .arr 28 6 false (List.map enc27 x6))] [(10, 1), (11, 1), (13, 1), (15, 1)] (envOk_cons (by conv => lhs; whnf) (by exact rfl) (envOk_cons (by conv => lhs; whnf) (by exact rfl) (envOk_cons (by conv => lhs; whnf) (by exact rfl) (envOk_cons (by conv => lhs; whnf) (by exact rfl) (envOk_cons (by conv => lhs; whnf) (by exact rfl) (envOk_cons (by conv => lhs; whnf) (by exact rfl) (envOk_cons (by conv => lhs; whnf) (by exact rfl) (envOk_cons (by conv => lhs; whnf) (by exact rfl) (envOk_cons (by conv => lhs; whnf) (by exact rfl) (envOk_cons (by conv => lhs; whnf) (by exact rfl) envOk_nil)))))))))) (objOk_cons (by conv => lhs; whnf) (by conv => lhs; whnf) (by exact rfl) (by simp) (objOk_cons (by conv => lhs; whnf) (by conv => lhs; whnf) (by exact rfl) (by simp) (objOk_cons (by conv => lhs; whnf) (by conv => lhs; whnf) (by exact rfl) (by simp) (objOk_cons (by conv => lhs; whnf) (by conv => lhs; whnf) (by exact rfl) (by simp) objOk_nil)))) (nodup_b rfl) (nodup_b rfl) rfl rfl, (decide (a3 ≤ x20)), h, rfl⟩
      · rintro s ⟨v34_2, h, rfl⟩
        unfold buffer_Close_k2 at h
        refine aw_bool (b := v34_2) 34 rfl (fun c21 => ?_) (fun c21 => ?_)
        · have h := ifT c21 h
          refine aw_cond_t (by decide) rfl ?_
          refine aw_regL ?_
          refine alP (some 35) rfl rfl (does_move (v := .own 11 0) (by exact rfl)) (by decide) ?_
          refine alR (some 36) rfl rfl (does_load (v := .agg [.int .u64 x15.Trace.Hi, .int .u64 x15.Trace.Lo, .int .i64 x15.First, .int .i64 x15.Last, .bool x15.Sure, .sl 10 (List.map enc30 x15.Spans)]) (by conv => lhs; whnf) (by conv => lhs; whnf) ty28 (by exact rfl)) (by decide) ?_
          refine alD (some 37) rfl rfl (do_buildSlice (xs := List.map enc27 [x15]) ty22 ty28 rfl rfl rfl rfl rfl rfl rfl rfl) (by decide) ?_
          obtain ⟨g22, h⟩ := gd_some h
          refine alD (some 38) rfl rfl (do_append (v := List.map enc27 (v11_s_1 ++ [x15])) (by conv => lhs; whnf) (by conv => lhs; whnf) ty22 ty28 rfl rfl (by conv => lhs; whnf) (by first | exact .inl rfl | exact .inr ⟨rfl, rfl⟩) (by conv => lhs; whnf) (by first | exact .inr rfl | exact .inl rfl) (map_app _ _) (fit_map g22)) (by decide) ?_
          refine alP (some 11) rfl rfl (does_assign (v := .own 38 0) (by exact rfl)) (by decide) ?_
          refine al_nil ?_
          refine hK12 _ ?_
          refine aw_regL ?_
          refine alP (some 43) rfl rfl (does_bin (v := .int .i64 (IntKind.i64.wrap (v17_1 + 1))) (by conv => lhs; whnf) (by conv => lhs; whnf) rfl) (by decide) ?_
          refine alP (some 17) rfl rfl (does_move (v := .int .i64 (IntKind.i64.wrap (v17_1 + 1))) (by exact rfl)) (by decide) ?_
          refine al_nil ?_
          have h := leafL h hq8
          exact ⟨m1, Nat.lt_succ_self _, _, reb_lit [(1, .int .i64 a1), (2, .int .i64 a2), (3, .int .i64 a3), (10, .own 10 0), (11, .own 11 0), (15, .own 15 0), (16, .int .i64 (List.length x6 : Int)), (17, .int .i64 (IntKind.i64.wrap (v17_1 + 1)))] [(10, 0), (38, 0), (15, 0)] [((10, 0), .arr 28 6 false (List.map enc27 v10_s_1)), ((11, 0), .arr 28 6 false (List.map enc27 (v11_s_1 ++ [x15]))), ((15, 0), .arr 28 6 false (List.map enc27 x6))] [(10, 1), (11, 1), (15, 1)] (envOk_cons (by conv => lhs; whnf) (by exact rfl) (envOk_cons (by conv => lhs; whnf) (by exact rfl) (envOk_cons (by conv => lhs; whnf) (by exact rfl) (envOk_cons (by conv => lhs; whnf) (by exact rfl) (envOk_cons (by conv => lhs; whnf) (by exact rfl) (envOk_cons (by conv => lhs; whnf) (by exact rfl) (envOk_cons (by conv => lhs; whnf) (by exact rfl) (envOk_cons (by conv => lhs; whnf) (by exact rfl) envOk_nil)))))))) (objOk_cons (by conv => lhs; whnf) (by conv => lhs; whnf) (by exact rfl) (by simp) (objOk_cons (by conv => lhs; whnf) (by conv => lhs; whnf) (by exact rfl) (by simp) (objOk_cons (by conv => lhs; whnf) (by conv => lhs; whnf) (by exact rfl) (by simp) objOk_nil))) (nodup_b rfl) (nodup_b rfl) rfl rfl, v10_s_1, (v11_s_1 ++ [x15]), (IntKind.i64.wrap (v17_1 + 1)), h, rfl⟩
        · have h := ifF c21 h
          refine aw_cond_f (by decide) rfl ?_
          refine aw_regL ?_
          refine alP (some 39) rfl rfl (does_move (v := .own 10 0) (by exact rfl)) (by decide) ?_
          refine alR (some 40) rfl rfl (does_load (v := .agg [.int .u64 x15.Trace.Hi, .int .u64 x15.Trace.Lo, .int .i64 x15.First, .int .i64 x15.Last, .bool x15.Sure, .sl 10 (List.map enc30 x15.Spans)]) (by conv => lhs; whnf) (by conv => lhs; whnf) ty28 (by exact rfl)) (by decide) ?_
          refine alD (some 41) rfl rfl (do_buildSlice (xs := List.map enc27 [x15]) ty22 ty28 rfl rfl rfl rfl rfl rfl rfl rfl) (by decide) ?_
          obtain ⟨g23, h⟩ := gd_some h
          refine alD (some 42) rfl rfl (do_append (v := List.map enc27 (v10_s_1 ++ [x15])) (by conv => lhs; whnf) (by conv => lhs; whnf) ty22 ty28 rfl rfl (by conv => lhs; whnf) (by first | exact .inl rfl | exact .inr ⟨rfl, rfl⟩) (by conv => lhs; whnf) (by first | exact .inr rfl | exact .inl rfl) (map_app _ _) (fit_map g23)) (by decide) ?_
          refine alP (some 10) rfl rfl (does_assign (v := .own 42 0) (by exact rfl)) (by decide) ?_
          refine al_nil ?_
          refine hK12 _ ?_
          refine aw_regL ?_
          refine alP (some 43) rfl rfl (does_bin (v := .int .i64 (IntKind.i64.wrap (v17_1 + 1))) (by conv => lhs; whnf) (by conv => lhs; whnf) rfl) (by decide) ?_
          refine alP (some 17) rfl rfl (does_move (v := .int .i64 (IntKind.i64.wrap (v17_1 + 1))) (by exact rfl)) (by decide) ?_
          refine al_nil ?_
          have h := leafL h hq8
          exact ⟨m1, Nat.lt_succ_self _, _, reb_lit [(1, .int .i64 a1), (2, .int .i64 a2), (3, .int .i64 a3), (10, .own 10 0), (11, .own 11 0), (15, .own 15 0), (16, .int .i64 (List.length x6 : Int)), (17, .int .i64 (IntKind.i64.wrap (v17_1 + 1)))] [(42, 0), (11, 0), (15, 0)] [((10, 0), .arr 28 6 false (List.map enc27 (v10_s_1 ++ [x15]))), ((11, 0), .arr 28 6 false (List.map enc27 v11_s_1)), ((15, 0), .arr 28 6 false (List.map enc27 x6))] [(10, 1), (11, 1), (15, 1)] (envOk_cons (by conv => lhs; whnf) (by exact rfl) (envOk_cons (by conv => lhs; whnf) (by exact rfl) (envOk_cons (by conv => lhs; whnf) (by exact rfl) (envOk_cons (by conv => lhs; whnf) (by exact rfl) (envOk_cons (by conv => lhs; whnf) (by exact rfl) (envOk_cons (by conv => lhs; whnf) (by exact rfl) (envOk_cons (by conv => lhs; whnf) (by exact rfl) (envOk_cons (by conv => lhs; whnf) (by exact rfl) envOk_nil)))))))) (objOk_cons (by conv => lhs; whnf) (by conv => lhs; whnf) (by exact rfl) (by simp) (objOk_cons (by conv => lhs; whnf) (by conv => lhs; whnf) (by exact rfl) (by simp) (objOk_cons (by conv => lhs; whnf) (by conv => lhs; whnf) (by exact rfl) (by simp) objOk_nil))) (nodup_b rfl) (nodup_b rfl) rfl rfl, (v10_s_1 ++ [x15]), v11_s_1, (IntKind.i64.wrap (v17_1 + 1)), h, rfl⟩
    · have h := ifF c11 h
      refine aw_cond_f (by decide) rfl ?_
      refine aw_exit ?_
      have h := leafR h hq8
      obtain rfl := Option.some.inj h
      have h := hk4
      exact ⟨_, reb_lit [(10, .own 10 0), (11, .own 11 0)] [(10, 0), (11, 0)] [((10, 0), .arr 28 6 false (List.map enc27 v10_s_1)), ((11, 0), .arr 28 6 false (List.map enc27 v11_s_1))] [(10, 1), (11, 1)] (envOk_cons (by conv => lhs; whnf) (by exact rfl) (envOk_cons (by conv => lhs; whnf) (by exact rfl) envOk_nil)) (objOk_cons (by conv => lhs; whnf) (by conv => lhs; whnf) (by exact rfl) (by simp) (objOk_cons (by conv => lhs; whnf) (by conv => lhs; whnf) (by exact rfl) (by simp) objOk_nil)) (nodup_b rfl) (nodup_b rfl) rfl rfl, v10_s_1, v11_s_1, h, rfl⟩
  · rintro s ⟨v10_s_0, v11_s_0, h, rfl⟩
    unfold buffer_Close_k0 at h
    refine aw_seq_k (fun K24 hK24 => ?_)
    refine aw_regL ?_
    refine alP (some 44) rfl rfl (does_move (v := .own 10 0) (by exact rfl)) (by decide) ?_
    refine alP (some 45) rfl rfl (does_move (v := .own 11 0) (by exact rfl)) (by decide) ?_
    refine alP (some 8) rfl rfl (does_assign (v := .own 10 0) (by exact rfl)) (by decide) ?_
    refine alP (some 9) rfl rfl (does_assign (v := .own 11 0) (by exact rfl)) (by decide) ?_
    refine al_nil ?_
    refine hK24 _ ?_
    refine aw_ret ?_
    obtain rfl := Option.some.inj h
    exact ret_okR [(10, 0), (11, 0)] (by conv => lhs; whnf) (by conv => lhs; whnf) (by exact rfl) (rowsOk_cons (by conv => lhs; whnf) (by exact rfl) (rowsOk_cons (by conv => lhs; whnf) (by exact rfl) trivial)) (nodup_b rfl) (.inr rfl) rfl
def gleaninglaw16_alive : Option Bool :=
  Option.bind (buffer_Put [] (Span.mk (Trace.mk 0 0) 5 0 (strOf []) (strOf []) 0 0 false []) 3 true) (fun (x3 : List Episode) => Option.bind (buffer_Count []) (fun (x5 : Int) => if (x5 == 0) = true then (Option.bind (buffer_Count x3) (fun (x7 : Int) => if (x7 == 1) = true then (if ((List.length x3 : Int) == 1) = true then (Option.bind (x3[0]?) (fun (x10 : Episode) => if x10.Sure = true then (Option.bind (x3[0]?) (fun (x12 : Episode) => some (x12.First == 3))) else (some false))) else (some false)) else (some false))) else (some false)))
set_option maxRecDepth 100000 in
set_option maxHeartbeats 8000000 in
/-- gleaning/gleaninglaw16.alive -/
theorem gleaninglaw16_alive_ok {r : Bool} (h : gleaninglaw16_alive = some r) : Ok Try.prog 24 [] [] [] (.bool r) [] [] := by
  unfold gleaninglaw16_alive at h
  refine ok_of_code Try.func24 rfl (by show (0 : Nat) ≤ _; decide) (Nat.le_refl _) fun X => ?_
  refine aw_seq_k (fun K1 hK1 => ?_)
  refine aw_regL ?_
  refine alP (some 0) rfl rfl (does_assign (v := .bool false) (by exact rfl)) (by decide) ?_
  refine al_nil ?_
  refine hK1 _ ?_
  refine aw_seq_k (fun K2 hK2 => ?_)
  refine aw_regL ?_
  refine alP (some 2) rfl rfl ((do_build_struct (cs := [.int .u64 0, .int .u64 0, .int .u64 5, .int .u64 0, .str (strOf []), .str (strOf []), .int .i64 0, .int .i64 0, .bool false, .nil]) ty31 rfl [⟨.struct [(0, 23), (1, 23)], 2, 16, [.int .u64 0, .int .u64 0]⟩, ⟨.int .u64, 1, 8, [.int .u64 0]⟩, ⟨.int .u64, 1, 8, [.int .u64 0]⟩, ⟨.str, 1, 16, [.str ByteArray.empty]⟩, ⟨.str, 1, 16, [.str ByteArray.empty]⟩, ⟨.int .i64, 1, 8, [.int .i64 0]⟩, ⟨.int .i64, 1, 8, [.int .i64 0]⟩, ⟨.bool, 1, 1, [.bool false]⟩, ⟨.slice 69, 1, 24, [.nil]⟩] (by simp only [List.map, ty23, ty25, ty29, ty3, ty4, ty9]) (by rfl) (by exact rfl)).weak (v' := .agg [.int .u64 0, .int .u64 0, .int .u64 5, .int .u64 0, .str (strOf []), .str (strOf []), .int .i64 0, .int .i64 0, .bool false, .sl 2 (List.map enc68 [])]) (le_agg ⟨le_refl _, le_refl _, le_refl _, le_refl _, le_refl _, le_refl _, le_refl _, le_refl _, le_refl _, le_nil _, trivial⟩)) (by decide) ?_
  obtain ⟨x3, hx3, h⟩ := bnd_some h
  refine alD (some 3) rfl rfl (do_call0 3 false ((buffer_Put_ok [] (Span.mk (Trace.mk 0 0) 5 0 (strOf []) (strOf []) 0 0 false []) 3 true hx3).weak (args' := [.nil, _, _, _]) ⟨le_nil _, le_refl _, le_refl _, le_refl _, trivial⟩) rfl ent26 rfl rfl) (by decide) ?_
  refine alP (some 1) rfl rfl (does_assign (v := .own 3 0) (by exact rfl)) (by decide) ?_
  refine al_nil ?_
  refine hK2 _ ?_
  refine aw_seq_k (fun K4 hK4 => ?_)
  refine aw_regL ?_
  obtain ⟨x5, hx5, h⟩ := bnd_some h
  refine alD (some 4) rfl rfl ((do_call0 4 false ((buffer_Count_ok [] hx5).weak (args' := [.nil]) ⟨le_nil _, trivial⟩) rfl ent27 rfl rfl).fx (y := ⟨[], .int .i64 x5, [], [4]⟩) rfl) (by decide) ?_
  refine alP (some 5) rfl rfl (does_bin (v := .bool (x5 == 0)) (by conv => lhs; whnf) (by conv => lhs; whnf) rfl) (by decide) ?_
  refine alP (some 6) rfl rfl (does_move (v := .bool (x5 == 0)) (by exact rfl)) (by decide) ?_
  refine al_bool (c := (x5 == 0)) 6 rfl (fun c6 => ?_) (fun c6 => ?_)
  · have h := ifT c6 h
    refine alP (some 7) rfl rfl (does_move (v := .own 3 0) (by exact rfl)) (by decide) ?_
    obtain ⟨x7, hx7, h⟩ := bnd_some h
    refine alD (some 8) rfl rfl ((do_callG (bcs := []) [] [] [(3, 0)] 8 false (buffer_Count_ok x3 hx7) rfl ent27 trivial trivial rfl rfl rfl rfl rfl rfl rfl rfl (.inr ⟨rfl, rfl, trivial⟩)).fx (y := ⟨[(3, 0)], .int .i64 x7, [], [8]⟩) rfl) (by decide) ?_
    refine alP (some 9) rfl rfl (does_bin (v := .bool (x7 == 1)) (by conv => lhs; whnf) (by conv => lhs; whnf) rfl) (by decide) ?_
    refine alP (some 10) rfl rfl (does_pick (v := .bool (x7 == 1)) (by conv => lhs; whnf) (by exact rfl)) (by decide) ?_
    refine alP (some 11) rfl rfl (does_move (v := .bool (x7 == 1)) (by exact rfl)) (by decide) ?_
    refine al_bool (c := (x7 == 1)) 11 rfl (fun c8 => ?_) (fun c8 => ?_)
    · have h := ifT c8 h
      refine alP (some 12) rfl rfl (does_move (v := .own 3 0) (by exact rfl)) (by decide) ?_
      refine alR (some 13) rfl rfl ((does_len_own (by conv => lhs; whnf) (by conv => lhs; whnf) ty22).cast (v' := .int .i64 (List.length x3 : Int)) (by exact len_map _)) (by decide) ?_
      refine alP (some 14) rfl rfl (does_bin (v := .bool ((List.length x3 : Int) == 1)) (by conv => lhs; whnf) (by conv => lhs; whnf) rfl) (by decide) ?_
      refine alP (some 15) rfl rfl (does_pick (v := .bool ((List.length x3 : Int) == 1)) (by conv => lhs; whnf) (by exact rfl)) (by decide) ?_
      refine alP (some 16) rfl rfl (does_move (v := .bool ((List.length x3 : Int) == 1)) (by exact rfl)) (by decide) ?_
      refine al_bool (c := ((List.length x3 : Int) == 1)) 16 rfl (fun c9 => ?_) (fun c9 => ?_)
      · have h := ifT c9 h
        refine alP (some 17) rfl rfl (does_move (v := .own 3 0) (by exact rfl)) (by decide) ?_
        obtain ⟨x10, hx10, h⟩ := bnd_some h
        refine alR (some 18) rfl rfl (does_indexAddr_own (by conv => lhs; whnf) (by conv => lhs; whnf) (by conv => lhs; whnf) ty22 ty28 (by decide) (by exact own_lt hx10)) (by decide) ?_
        refine alP (some 19) rfl rfl (does_fieldAddr (q := .eptr 3 0 6 0 4) (by conv => lhs; whnf) ty28 rfl ty4 (by decide) (by exact rfl)) (by decide) ?_
        refine alR (some 20) rfl rfl (does_load (v := .bool x10.Sure) (by conv => lhs; whnf) (cellsAt_eptr (by conv => lhs; whnf) (by exact map_get hx10)) ty4 (by exact rfl)) (by decide) ?_
        refine alP (some 21) rfl rfl (does_pick (v := .bool x10.Sure) (by conv => lhs; whnf) (by exact rfl)) (by decide) ?_
        refine alP (some 22) rfl rfl (does_move (v := .bool x10.Sure) (by exact rfl)) (by decide) ?_
        refine al_bool (c := x10.Sure) 22 rfl (fun c11 => ?_) (fun c11 => ?_)
        · have h := ifT c11 h
          refine alP (some 23) rfl rfl (does_move (v := .own 3 0) (by exact rfl)) (by decide) ?_
          obtain ⟨x12, hx12, h⟩ := bnd_some h
          refine alR (some 24) rfl rfl (does_indexAddr_own (by conv => lhs; whnf) (by conv => lhs; whnf) (by conv => lhs; whnf) ty22 ty28 (by decide) (by exact own_lt hx12)) (by decide) ?_
          refine alP (some 25) rfl rfl (does_fieldAddr (q := .eptr 3 0 6 0 2) (by conv => lhs; whnf) ty28 rfl ty3 (by decide) (by exact rfl)) (by decide) ?_
          refine alR (some 26) rfl rfl (does_load (v := .int .i64 x12.First) (by conv => lhs; whnf) (cellsAt_eptr (by conv => lhs; whnf) (by exact map_get hx12)) ty3 (by exact rfl)) (by decide) ?_
          refine alP (some 27) rfl rfl (does_bin (v := .bool (x12.First == 3)) (by conv => lhs; whnf) (by conv => lhs; whnf) rfl) (by decide) ?_
          refine alP (some 28) rfl rfl (does_pick (v := .bool (x12.First == 3)) (by conv => lhs; whnf) (by exact rfl)) (by decide) ?_
          refine alP (some 0) rfl rfl (does_assign (v := .bool (x12.First == 3)) (by exact rfl)) (by decide) ?_
          refine al_nil ?_
          refine hK4 _ ?_
          refine aw_ret ?_
          obtain rfl := Option.some.inj h
          exact ret_ok1 (by conv => lhs; whnf) (by conv => lhs; whnf) (by exact rfl) (.inr rfl) rfl
        · have h := ifF c11 h
          refine alS (some 23) rfl rfl (by decide) ?_
          refine alS (some 24) rfl rfl (by decide) ?_
          refine alS (some 25) rfl rfl (by decide) ?_
          refine alS (some 26) rfl rfl (by decide) ?_
          refine alS (some 27) rfl rfl (by decide) ?_
          refine alP (some 28) rfl rfl (does_pick (v := .bool false) (by conv => lhs; whnf) (by exact rfl)) (by decide) ?_
          refine alP (some 0) rfl rfl (does_assign (v := .bool false) (by exact rfl)) (by decide) ?_
          refine al_nil ?_
          refine hK4 _ ?_
          refine aw_ret ?_
          obtain rfl := Option.some.inj h
          exact ret_ok1 (by conv => lhs; whnf) (by conv => lhs; whnf) (by exact rfl) (.inr rfl) rfl
      · have h := ifF c9 h
        refine alS (some 17) rfl rfl (by decide) ?_
        refine alS (some 18) rfl rfl (by decide) ?_
        refine alS (some 19) rfl rfl (by decide) ?_
        refine alS (some 20) rfl rfl (by decide) ?_
        refine alP (some 21) rfl rfl (does_pick (v := .bool false) (by conv => lhs; whnf) (by exact rfl)) (by decide) ?_
        refine alP (some 22) rfl rfl (does_move (v := .bool false) (by exact rfl)) (by decide) ?_
        refine alS (some 23) rfl rfl (by decide) ?_
        refine alS (some 24) rfl rfl (by decide) ?_
        refine alS (some 25) rfl rfl (by decide) ?_
        refine alS (some 26) rfl rfl (by decide) ?_
        refine alS (some 27) rfl rfl (by decide) ?_
        refine alP (some 28) rfl rfl (does_pick (v := .bool false) (by conv => lhs; whnf) (by exact rfl)) (by decide) ?_
        refine alP (some 0) rfl rfl (does_assign (v := .bool false) (by exact rfl)) (by decide) ?_
        refine al_nil ?_
        refine hK4 _ ?_
        refine aw_ret ?_
        obtain rfl := Option.some.inj h
        exact ret_ok1 (by conv => lhs; whnf) (by conv => lhs; whnf) (by exact rfl) (.inr rfl) rfl
    · have h := ifF c8 h
      refine alS (some 12) rfl rfl (by decide) ?_
      refine alS (some 13) rfl rfl (by decide) ?_
      refine alS (some 14) rfl rfl (by decide) ?_
      refine alP (some 15) rfl rfl (does_pick (v := .bool false) (by conv => lhs; whnf) (by exact rfl)) (by decide) ?_
      refine alP (some 16) rfl rfl (does_move (v := .bool false) (by exact rfl)) (by decide) ?_
      refine alS (some 17) rfl rfl (by decide) ?_
      refine alS (some 18) rfl rfl (by decide) ?_
      refine alS (some 19) rfl rfl (by decide) ?_
      refine alS (some 20) rfl rfl (by decide) ?_
      refine alP (some 21) rfl rfl (does_pick (v := .bool false) (by conv => lhs; whnf) (by exact rfl)) (by decide) ?_
      refine alP (some 22) rfl rfl (does_move (v := .bool false) (by exact rfl)) (by decide) ?_
      refine alS (some 23) rfl rfl (by decide) ?_
      refine alS (some 24) rfl rfl (by decide) ?_
      refine alS (some 25) rfl rfl (by decide) ?_
      refine alS (some 26) rfl rfl (by decide) ?_
      refine alS (some 27) rfl rfl (by decide) ?_
      refine alP (some 28) rfl rfl (does_pick (v := .bool false) (by conv => lhs; whnf) (by exact rfl)) (by decide) ?_
      refine alP (some 0) rfl rfl (does_assign (v := .bool false) (by exact rfl)) (by decide) ?_
      refine al_nil ?_
      refine hK4 _ ?_
      refine aw_ret ?_
      obtain rfl := Option.some.inj h
      exact ret_ok1 (by conv => lhs; whnf) (by conv => lhs; whnf) (by exact rfl) (.inr rfl) rfl
  · have h := ifF c6 h
    refine alS (some 7) rfl rfl (by decide) ?_
    refine alS (some 8) rfl rfl (by decide) ?_
    refine alS (some 9) rfl rfl (by decide) ?_
    refine alP (some 10) rfl rfl (does_pick (v := .bool false) (by conv => lhs; whnf) (by exact rfl)) (by decide) ?_
    refine alP (some 11) rfl rfl (does_move (v := .bool false) (by exact rfl)) (by decide) ?_
    refine alS (some 12) rfl rfl (by decide) ?_
    refine alS (some 13) rfl rfl (by decide) ?_
    refine alS (some 14) rfl rfl (by decide) ?_
    refine alP (some 15) rfl rfl (does_pick (v := .bool false) (by conv => lhs; whnf) (by exact rfl)) (by decide) ?_
    refine alP (some 16) rfl rfl (does_move (v := .bool false) (by exact rfl)) (by decide) ?_
    refine alS (some 17) rfl rfl (by decide) ?_
    refine alS (some 18) rfl rfl (by decide) ?_
    refine alS (some 19) rfl rfl (by decide) ?_
    refine alS (some 20) rfl rfl (by decide) ?_
    refine alP (some 21) rfl rfl (does_pick (v := .bool false) (by conv => lhs; whnf) (by exact rfl)) (by decide) ?_
    refine alP (some 22) rfl rfl (does_move (v := .bool false) (by exact rfl)) (by decide) ?_
    refine alS (some 23) rfl rfl (by decide) ?_
    refine alS (some 24) rfl rfl (by decide) ?_
    refine alS (some 25) rfl rfl (by decide) ?_
    refine alS (some 26) rfl rfl (by decide) ?_
    refine alS (some 27) rfl rfl (by decide) ?_
    refine alP (some 28) rfl rfl (does_pick (v := .bool false) (by conv => lhs; whnf) (by exact rfl)) (by decide) ?_
    refine alP (some 0) rfl rfl (does_assign (v := .bool false) (by exact rfl)) (by decide) ?_
    refine al_nil ?_
    refine hK4 _ ?_
    refine aw_ret ?_
    obtain rfl := Option.some.inj h
    exact ret_ok1 (by conv => lhs; whnf) (by conv => lhs; whnf) (by exact rfl) (.inr rfl) rfl
end Go.Proofs.Ytlkdpgemdopbfaa.Ab
