/- Chapter 16: open traces. -/
import Derived.Test.YtlkdpgemdopbfaaXEpisode
import Derived.Test.YtlkdpgemdopbfaaProg
namespace Go.Proofs.Ytlkdpgemdopbfaa.Ab
open Go Go.RowKit
set_option linter.unusedVariables false
set_option linter.unusedSimpArgs false
def enc4 (x : Bool) : PV := .bool x
def enc24 (x : Trace) : PV := .agg [.int .u64 x.Hi, .int .u64 x.Lo]
theorem ty45 : tyOf Try.prog 45 = some ⟨.slice 4, 1, 24, [.nil]⟩ := by kernel_rfl
theorem ty47 : tyOf Try.prog 47 = some ⟨.slice 25, 1, 24, [.nil]⟩ := by kernel_rfl
theorem ent24 : Ent Try.prog 24 := ⟨_, Try.func24, by kernel_rfl, rfl⟩
theorem ent26 : Ent Try.prog 26 := ⟨_, Try.func26, by kernel_rfl, rfl⟩
theorem ent27 : Ent Try.prog 27 := ⟨_, Try.func27, by kernel_rfl, rfl⟩
theorem ent37 : Ent Try.prog 37 := ⟨_, Try.func37, by kernel_rfl, rfl⟩
theorem ent47 : Ent Try.prog 47 := ⟨_, Try.func47, by kernel_rfl, rfl⟩
theorem ent48 : Ent Try.prog 48 := ⟨_, Try.func48, by kernel_rfl, rfl⟩
theorem ent49 : Ent Try.prog 49 := ⟨_, Try.func49, by kernel_rfl, rfl⟩
theorem ent59 : Ent Try.prog 59 := ⟨_, Try.func59, by kernel_rfl, rfl⟩
def episode_Copies_l0 (a0 : List Episode) (v3_s_0 : List Episode) (v8_0 : Int) : Option ((List Episode × Int) ⊕ (List Episode)) :=
  if (decide (v8_0 < (List.length a0 : Int))) = true then (gd (0 ≤ v8_0) (Option.bind (a0[(Int.toNat v8_0)]?) (fun (x13 : Episode) => Option.bind (episode_Copy x13) (fun (x14 : Episode) => gd ((List.length (v3_s_0 ++ [x14])) * 64 ≤ 140737488355328 ∧ (List.length (v3_s_0 ++ [x14])) ≤ 140737488355328) (some (Sum.inl ((v3_s_0 ++ [x14]), (IntKind.i64.wrap (v8_0 + 1))))))))) else (some (Sum.inr v3_s_0))
def episode_Copies (a0 : List Episode) : Option (List Episode) :=
  loopN (fun (s : List Episode × Int) => episode_Copies_l0 a0 s.1 s.2) Fu ([], 0)
set_option maxRecDepth 100000 in
set_option maxHeartbeats 8000000 in
/-- gleaning/episode.Copies -/
theorem episode_Copies_ok (a0 : List Episode) {r : List Episode} (h : episode_Copies a0 = some r) : Ok Try.prog 47 [.sl 6 (List.map enc27 a0)] [] [] (.own 2 0) [] [(28, 6, List.map enc27 r)] := by
  unfold episode_Copies at h
  refine ok_of_code Try.func47 rfl (by show (1 : Nat) ≤ _; decide) (Nat.le_refl _) fun X => ?_
  refine aw_seq_k (fun K1 hK1 => ?_)
  refine aw_reg ?_
  refine ao_cons (acts_of rfl (does_assign (v := .nil) (by exact rfl))) (by decide) ?_
  refine ao_nil_n ?_
  refine hK1 _ ?_
  refine aw_seq_k (fun K2 hK2 => ?_)
  refine aw_reg ?_
  refine ao_cons (acts_of rfl (does_assign (v := .nil) (by exact rfl))) (by decide) ?_
  refine ao_nil_n ?_
  refine hK2 _ ?_
  refine aw_seq_k (fun K3 hK3 => ?_)
  refine aw_seq_k (fun K4 hK4 => ?_)
  refine aw_reg ?_
  refine ao_cons (acts_of rfl (does_move (v := .sl 6 (List.map enc27 a0)) (by exact rfl))) (by decide) ?_
  refine ao_cons (acts_of rfl ((does_len_sl (by conv => lhs; whnf) ty22).castp (v' := .int .i64 (List.length a0 : Int)) (by exact len_map _))) (by decide) ?_
  refine ao_cons (acts_of rfl (does_move (v := .int .i64 0) (by exact rfl))) (by decide) ?_
  refine ao_nil_n ?_
  refine hK4 _ ?_
  refine aw_block ?_
  refine aw_nilOwn 3 28 6 (by conv => lhs; whnf) (by decide) (by decide) ?_
  refine aw_loop' (fun m s => ∃ (v3_s_0 : List Episode), ∃ (v8_0 : Int), loopN (fun (s : List Episode × Int) => episode_Copies_l0 a0 s.1 s.2) m (v3_s_0, v8_0) = some r ∧ s = lit [(3, .own 3 0), (6, .sl 6 (List.map enc27 a0)), (7, .int .i64 (List.length a0 : Int)), (8, .int .i64 v8_0)] [((3, 0), .arr 28 6 false (List.map enc27 v3_s_0))] [(3, 1)] X) Fu
    ⟨_, reb_lit [(3, .own 3 0), (6, .sl 6 (List.map enc27 a0)), (7, .int .i64 (List.length a0 : Int)), (8, .int .i64 (0))] [(3, 0)] [((3, 0), .arr 28 6 false (List.map enc27 []))] [(3, 1)] (envOk_cons (by conv => lhs; whnf) (by exact rfl) (envOk_cons (by conv => lhs; whnf) (by exact rfl) (envOk_cons (by conv => lhs; whnf) (by exact rfl) (envOk_cons (by conv => lhs; whnf) (by exact rfl) envOk_nil)))) (objOk_cons (by conv => lhs; whnf) (by conv => lhs; whnf) (by exact rfl) (by simp) objOk_nil) (nodup_b rfl) (nodup_b rfl) rfl rfl, [], 0, h, rfl⟩ ?_
  rintro m s ⟨v3_s_0, v8_0, h, rfl⟩
  obtain ⟨m0, q5, rfl, h, hq6⟩ := loop_some h
  replace h : episode_Copies_l0 a0 v3_s_0 v8_0 = some q5 := h
  unfold episode_Copies_l0 at h
  refine aw_seq_k (fun K7 hK7 => ?_)
  refine aw_reg ?_
  refine ao_cons (acts_of rfl (does_bin (v := .bool (decide (v8_0 < (List.length a0 : Int)))) (by conv => lhs; whnf) (by conv => lhs; whnf) rfl)) (by decide) ?_
  refine ao_nil_n ?_
  refine hK7 _ ?_
  refine aw_seq_k (fun K8 hK8 => ?_)
  refine aw_bool (b := (decide (v8_0 < (List.length a0 : Int)))) 9 rfl (fun c9 => ?_) (fun c9 => ?_)
  · have h := ifT c9 h
    refine aw_cond_t (by decide) rfl ?_
    refine aw_skip ?_
    refine hK8 _ ?_
    refine aw_seq_k (fun K10 hK10 => ?_)
    refine aw_block ?_
    refine aw_seq_k (fun K11 hK11 => ?_)
    refine aw_reg ?_
    obtain ⟨g12, h⟩ := gd_some h
    obtain ⟨x13, hx13, h⟩ := bnd_some h
    refine ao_cons (acts_of rfl (does_indexAddr_sl (el := .agg [.int .u64 x13.Trace.Hi, .int .u64 x13.Trace.Lo, .int .i64 x13.First, .int .i64 x13.Last, .bool x13.Sure, .sl 10 (List.map enc30 x13.Spans)]) (by conv => lhs; whnf) (by conv => lhs; whnf) ty22 ty28 g12 (by exact map_get hx13))) (by decide) ?_
    refine ao_cons (acts_of rfl (does_load (v := .agg [.int .u64 x13.Trace.Hi, .int .u64 x13.Trace.Lo, .int .i64 x13.First, .int .i64 x13.Last, .bool x13.Sure, .sl 10 (List.map enc30 x13.Spans)]) (by conv => lhs; whnf) (by conv => lhs; whnf) ty28 (by exact rfl))) (by decide) ?_
    refine ao_cons (acts_of rfl (do_new ty28 rfl rfl)) (by decide) ?_
    refine ao_cons (acts_of rfl (do_store (cs' := [.int .u64 x13.Trace.Hi, .int .u64 x13.Trace.Lo, .int .i64 x13.First, .int .i64 x13.Last, .bool x13.Sure, .sl 10 (List.map enc30 x13.Spans)]) (by conv => lhs; whnf) (by conv => lhs; whnf) (by conv => lhs; whnf) ty28 rfl rfl rfl (by exact rfl))) (by decide) ?_
    refine ao_nil_n ?_
    refine hK11 _ ?_
    refine aw_reg ?_
    refine ao_cons (acts_of rfl (does_move (v := .own 3 0) (by exact rfl))) (by decide) ?_
    refine ao_cons (acts_of rfl (does_load (v := .agg [.int .u64 x13.Trace.Hi, .int .u64 x13.Trace.Lo, .int .i64 x13.First, .int .i64 x13.Last, .bool x13.Sure, .sl 10 (List.map enc30 x13.Spans)]) (by conv => lhs; whnf) (by conv => lhs; whnf) ty28 (by exact rfl))) (by decide) ?_
    obtain ⟨x14, hx14, h⟩ := bnd_some h
    refine ao_cons (acts_of rfl (do_call0 14 false (episode_Copy_ok x13 hx14) rfl ent43 rfl rfl)) (by decide) ?_
    refine ao_cons (acts_of rfl (does_frz (d := 14) (n := 0) (by conv => lhs; whnf) (do_buildSlice (xs := List.map enc27 [x14]) ty22 ty28 rfl rfl rfl rfl rfl rfl rfl rfl))) (by decide) ?_
    obtain ⟨g15, h⟩ := gd_some h
    refine ao_cons (acts_of rfl (do_append (v := List.map enc27 (v3_s_0 ++ [x14])) (by conv => lhs; whnf) (by conv => lhs; whnf) ty22 ty28 rfl rfl (by conv => lhs; whnf) (by first | exact .inl rfl | exact .inr ⟨rfl, rfl⟩) (by conv => lhs; whnf) (by first | exact .inr rfl | exact .inl rfl) (map_app _ _) (fit_map g15))) (by decide) ?_
    refine ao_cons (acts_of rfl (does_assign (v := .own 16 0) (by exact rfl))) (by decide) ?_
    refine ao_nil_n ?_
    refine hK10 _ ?_
    refine aw_reg ?_
    refine ao_cons (acts_of rfl (does_bin (v := .int .i64 (IntKind.i64.wrap (v8_0 + 1))) (by conv => lhs; whnf) (by conv => lhs; whnf) rfl)) (by decide) ?_
    refine ao_cons (acts_of rfl (does_move (v := .int .i64 (IntKind.i64.wrap (v8_0 + 1))) (by exact rfl))) (by decide) ?_
    refine ao_nil_n ?_
    have h := leafL h hq6
    exact ⟨m0, Nat.lt_succ_self _, _, reb_lit [(3, .own 3 0), (6, .sl 6 (List.map enc27 a0)), (7, .int .i64 (List.length a0 : Int)), (8, .int .i64 (IntKind.i64.wrap (v8_0 + 1)))] [(16, 0)] [((3, 0), .arr 28 6 false (List.map enc27 (v3_s_0 ++ [x14])))] [(3, 1)] (envOk_cons (by conv => lhs; whnf) (by exact rfl) (envOk_cons (by conv => lhs; whnf) (by exact rfl) (envOk_cons (by conv => lhs; whnf) (by exact rfl) (envOk_cons (by conv => lhs; whnf) (by exact rfl) envOk_nil)))) (objOk_cons (by conv => lhs; whnf) (by conv => lhs; whnf) (by exact rfl) (by simp) objOk_nil) (nodup_b rfl) (nodup_b rfl) rfl rfl, (v3_s_0 ++ [x14]), (IntKind.i64.wrap (v8_0 + 1)), h, rfl⟩
  · have h := ifF c9 h
    refine aw_cond_f (by decide) rfl ?_
    refine aw_exit ?_
    have h := leafR h hq6
    refine hK3 _ ?_
    refine aw_seq_k (fun K16 hK16 => ?_)
    refine aw_reg ?_
    refine ao_cons (acts_of rfl (does_move (v := .own 3 0) (by exact rfl))) (by decide) ?_
    refine ao_cons (acts_of rfl (does_assign (v := .own 3 0) (by exact rfl))) (by decide) ?_
    refine ao_nil_n ?_
    refine hK16 _ ?_
    refine aw_ret ?_
    obtain rfl := Option.some.inj h
    exact ret_okR [(3, 0)] (by conv => lhs; whnf) (by conv => lhs; whnf) (by exact rfl) (rowsOk_cons (by conv => lhs; whnf) (by exact rfl) trivial) (nodup_b rfl) (.inr rfl) rfl
def buffer_Put_c1 (a0 : Episode) (a1 : Span) : Option Bool :=
  some ((a0.Trace.Hi == a1.Trace.Hi) && ((a0.Trace.Lo == a1.Trace.Lo) && true))
set_option maxRecDepth 100000 in
set_option maxHeartbeats 8000000 in
/-- gleaning/buffer.Put$1 -/
theorem buffer_Put_c1_ok (a0 : Episode) (a1 : Span) {r : Bool} (h : buffer_Put_c1 a0 a1 = some r) : Ok Try.prog 49 [.agg [.int .u64 a0.Trace.Hi, .int .u64 a0.Trace.Lo, .int .i64 a0.First, .int .i64 a0.Last, .bool a0.Sure, .sl 10 (List.map enc30 a0.Spans)], .rptr [.int .u64 a1.Trace.Hi, .int .u64 a1.Trace.Lo, .int .u64 a1.Id, .int .u64 a1.Parent, .str a1.Service, .str a1.Op, .int .i64 a1.Start, .int .i64 a1.Dur, .bool a1.Err, .sl 2 (List.map enc68 a1.Attrs)]] [] [] (.bool r) [] [] := by
  unfold buffer_Put_c1 at h
  refine ok_of_code Try.func49 rfl (by show (2 : Nat) ≤ _; decide) (Nat.le_refl _) fun X => ?_
  refine aw_seq_k (fun K1 hK1 => ?_)
  refine aw_reg ?_
  refine ao_cons (acts_of rfl (do_box (by conv => lhs; whnf) rfl rfl)) (by decide) ?_
  refine ao_cons (acts_of rfl (does_assign (v := .bool false) (by exact rfl))) (by decide) ?_
  refine ao_nil_n ?_
  refine hK1 _ ?_
  refine aw_seq_k (fun K2 hK2 => ?_)
  refine aw_reg ?_
  refine ao_cons (acts_of rfl (does_fieldAddr (q := .ptr 2 0 0) (by conv => lhs; whnf) ty28 rfl ty25 (by decide) (by exact rfl))) (by decide) ?_
  refine ao_cons (acts_of rfl (does_load (v := .agg [.int .u64 a0.Trace.Hi, .int .u64 a0.Trace.Lo]) (by conv => lhs; whnf) (by conv => lhs; whnf) ty25 (by exact rfl))) (by decide) ?_
  refine ao_cons (acts_of rfl (does_fieldAddr (q := .rptr [.int .u64 a1.Trace.Hi, .int .u64 a1.Trace.Lo, .int .u64 a1.Id, .int .u64 a1.Parent, .str a1.Service, .str a1.Op, .int .i64 a1.Start, .int .i64 a1.Dur, .bool a1.Err, .sl 2 (List.map enc68 a1.Attrs)]) (by conv => lhs; whnf) ty31 rfl ty25 (by decide) (by exact rfl))) (by decide) ?_
  refine ao_cons (acts_of rfl (does_load (v := .agg [.int .u64 a1.Trace.Hi, .int .u64 a1.Trace.Lo]) (by conv => lhs; whnf) (by conv => lhs; whnf) ty25 (by exact rfl))) (by decide) ?_
  refine ao_cons (acts_of rfl (does_eq_struct (v := .bool ((a0.Trace.Hi == a1.Trace.Hi) && ((a0.Trace.Lo == a1.Trace.Lo) && true))) (by conv => lhs; whnf) (by conv => lhs; whnf) fk25 rfl ag25 eg25 (by conv => lhs; whnf) rfl)) (by decide) ?_
  refine ao_cons (acts_of rfl (does_assign (v := .bool ((a0.Trace.Hi == a1.Trace.Hi) && ((a0.Trace.Lo == a1.Trace.Lo) && true))) (by exact rfl))) (by decide) ?_
  refine ao_nil_n ?_
  refine hK2 _ ?_
  refine aw_ret ?_
  obtain rfl := Option.some.inj h
  exact ret_ok1 (by conv => lhs; whnf) (by conv => lhs; whnf) (by exact rfl) (.inr rfl) rfl
def slices_IndexFunc_Episode_buffer_Put_c1_l0 (a0 : List Episode) (a1_0 : Span) (v8_0 : Int) : Option (Int ⊕ Int) :=
  if (decide (v8_0 < (List.length a0 : Int))) = true then (gd (0 ≤ v8_0) (Option.bind (a0[(Int.toNat v8_0)]?) (fun (x13 : Episode) => Option.bind (buffer_Put_c1 x13 a1_0) (fun (x14 : Bool) => if x14 = true then (some (Sum.inr v8_0)) else (some (Sum.inl (IntKind.i64.wrap (v8_0 + 1)))))))) else (some (Sum.inr (-1)))
def slices_IndexFunc_Episode_buffer_Put_c1 (a0 : List Episode) (a1_0 : Span) : Option Int :=
  loopN (fun (s : Int) => slices_IndexFunc_Episode_buffer_Put_c1_l0 a0 a1_0 s) Fu 0
set_option maxRecDepth 100000 in
set_option maxHeartbeats 8000000 in
/-- slices.IndexFunc[[]gleaning/api.Episode,gleaning/api.Episode] -/
theorem slices_IndexFunc_Episode_buffer_Put_c1_ok (a0 : List Episode) (a1_0 : Span) {r : Int} (h : slices_IndexFunc_Episode_buffer_Put_c1 a0 a1_0 = some r) : Ok Try.prog 48 [.sl 6 (List.map enc27 a0), .fn 49 [.rptr [.int .u64 a1_0.Trace.Hi, .int .u64 a1_0.Trace.Lo, .int .u64 a1_0.Id, .int .u64 a1_0.Parent, .str a1_0.Service, .str a1_0.Op, .int .i64 a1_0.Start, .int .i64 a1_0.Dur, .bool a1_0.Err, .sl 2 (List.map enc68 a1_0.Attrs)]]] [] [] (.int .i64 r) [] [] := by
  unfold slices_IndexFunc_Episode_buffer_Put_c1 at h
  refine ok_of_code Try.func48 rfl (by show (2 : Nat) ≤ _; decide) (Nat.le_refl _) fun X => ?_
  refine aw_seq_k (fun K1 hK1 => ?_)
  refine aw_reg ?_
  refine ao_cons (acts_of rfl (does_assign (v := .int .i64 0) (by exact rfl))) (by decide) ?_
  refine ao_nil_n ?_
  refine hK1 _ ?_
  refine aw_seq_k (fun K2 hK2 => ?_)
  refine aw_seq_k (fun K3 hK3 => ?_)
  refine aw_reg ?_
  refine ao_cons (acts_of rfl (does_move (v := .sl 6 (List.map enc27 a0)) (by exact rfl))) (by decide) ?_
  refine ao_cons (acts_of rfl ((does_len_sl (by conv => lhs; whnf) ty22).castp (v' := .int .i64 (List.length a0 : Int)) (by exact len_map _))) (by decide) ?_
  refine ao_cons (acts_of rfl (does_move (v := .int .i64 0) (by exact rfl))) (by decide) ?_
  refine ao_nil_n ?_
  refine hK3 _ ?_
  refine aw_block ?_
  refine aw_loop' (fun m s => ∃ (v8_0 : Int), loopN (fun (s : Int) => slices_IndexFunc_Episode_buffer_Put_c1_l0 a0 a1_0 s) m v8_0 = some r ∧ s = lit [(0, .sl 6 (List.map enc27 a0)), (1, .fn 49 [.rptr [.int .u64 a1_0.Trace.Hi, .int .u64 a1_0.Trace.Lo, .int .u64 a1_0.Id, .int .u64 a1_0.Parent, .str a1_0.Service, .str a1_0.Op, .int .i64 a1_0.Start, .int .i64 a1_0.Dur, .bool a1_0.Err, .sl 2 (List.map enc68 a1_0.Attrs)]]), (7, .int .i64 (List.length a0 : Int)), (8, .int .i64 v8_0)] [] [] X) Fu
    ⟨_, reb_lit [(0, .sl 6 (List.map enc27 a0)), (1, .fn 49 [.rptr [.int .u64 a1_0.Trace.Hi, .int .u64 a1_0.Trace.Lo, .int .u64 a1_0.Id, .int .u64 a1_0.Parent, .str a1_0.Service, .str a1_0.Op, .int .i64 a1_0.Start, .int .i64 a1_0.Dur, .bool a1_0.Err, .sl 2 (List.map enc68 a1_0.Attrs)]]), (7, .int .i64 (List.length a0 : Int)), (8, .int .i64 (0))] [] [] [] (envOk_cons (by conv => lhs; whnf) (by exact rfl) (envOk_cons (by conv => lhs; whnf) (by exact rfl) (envOk_cons (by conv => lhs; whnf) (by exact rfl) (envOk_cons (by conv => lhs; whnf) (by exact rfl) envOk_nil)))) objOk_nil (nodup_b rfl) (nodup_b rfl) rfl rfl, 0, h, rfl⟩ ?_
  rintro m s ⟨v8_0, h, rfl⟩
  obtain ⟨m0, q4, rfl, h, hq5⟩ := loop_some h
  replace h : slices_IndexFunc_Episode_buffer_Put_c1_l0 a0 a1_0 v8_0 = some q4 := h
  unfold slices_IndexFunc_Episode_buffer_Put_c1_l0 at h
  refine aw_seq_k (fun K6 hK6 => ?_)
  refine aw_reg ?_
  refine ao_cons (acts_of rfl (does_bin (v := .bool (decide (v8_0 < (List.length a0 : Int)))) (by conv => lhs; whnf) (by conv => lhs; whnf) rfl)) (by decide) ?_
  refine ao_nil_n ?_
  refine hK6 _ ?_
  refine aw_seq_k (fun K7 hK7 => ?_)
  refine aw_bool (b := (decide (v8_0 < (List.length a0 : Int)))) 9 rfl (fun c8 => ?_) (fun c8 => ?_)
  · have h := ifT c8 h
    refine aw_cond_t (by decide) rfl ?_
    refine aw_skip ?_
    refine hK7 _ ?_
    refine aw_seq_k (fun K9 hK9 => ?_)
    refine aw_block ?_
    refine aw_seq_k (fun K10 hK10 => ?_)
    refine aw_reg ?_
    refine ao_cons (acts_of rfl (does_move (v := .int .i64 v8_0) (by exact rfl))) (by decide) ?_
    refine ao_cons (acts_of rfl (does_assign (v := .int .i64 v8_0) (by exact rfl))) (by decide) ?_
    refine ao_nil_n ?_
    refine hK10 _ ?_
    refine aw_seq_k (fun K11 hK11 => ?_)
    refine aw_reg ?_
    refine ao_cons (acts_of rfl (does_move (v := .fn 49 [.rptr [.int .u64 a1_0.Trace.Hi, .int .u64 a1_0.Trace.Lo, .int .u64 a1_0.Id, .int .u64 a1_0.Parent, .str a1_0.Service, .str a1_0.Op, .int .i64 a1_0.Start, .int .i64 a1_0.Dur, .bool a1_0.Err, .sl 2 (List.map enc68 a1_0.Attrs)]]) (by exact rfl))) (by decide) ?_
    refine ao_cons (acts_of rfl (does_move (v := .sl 6 (List.map enc27 a0)) (by exact rfl))) (by decide) ?_
    refine ao_cons (acts_of rfl (does_move (v := .int .i64 v8_0) (by exact rfl))) (by decide) ?_
    obtain ⟨g12, h⟩ := gd_some h
    obtain ⟨x13, hx13, h⟩ := bnd_some h
    refine ao_cons (acts_of rfl (does_indexAddr_sl (el := .agg [.int .u64 x13.Trace.Hi, .int .u64 x13.Trace.Lo, .int .i64 x13.First, .int .i64 x13.Last, .bool x13.Sure, .sl 10 (List.map enc30 x13.Spans)]) (by conv => lhs; whnf) (by conv => lhs; whnf) ty22 ty28 g12 (by exact map_get hx13))) (by decide) ?_
    refine ao_cons (acts_of rfl (does_load (v := .agg [.int .u64 x13.Trace.Hi, .int .u64 x13.Trace.Lo, .int .i64 x13.First, .int .i64 x13.Last, .bool x13.Sure, .sl 10 (List.map enc30 x13.Spans)]) (by conv => lhs; whnf) (by conv => lhs; whnf) ty28 (by exact rfl))) (by decide) ?_
    obtain ⟨x14, hx14, h⟩ := bnd_some h
    refine ao_cons (acts_of rfl (do_call0 16 false (buffer_Put_c1_ok x13 a1_0 hx14) rfl ent49 rfl rfl)) (by decide) ?_
    refine ao_nil_n ?_
    refine hK11 _ ?_
    refine aw_bool (b := x14) 16 rfl (fun c15 => ?_) (fun c15 => ?_)
    · have h := ifT c15 h
      refine aw_cond_t (by decide) rfl ?_
      refine aw_seq_k (fun K16 hK16 => ?_)
      refine aw_reg ?_
      refine ao_cons (acts_of rfl (does_move (v := .int .i64 v8_0) (by exact rfl))) (by decide) ?_
      refine ao_cons (acts_of rfl (does_assign (v := .int .i64 v8_0) (by exact rfl))) (by decide) ?_
      refine ao_nil_n ?_
      refine hK16 _ ?_
      refine aw_ret ?_
      have h := leafR h hq5
      obtain rfl := Option.some.inj h
      exact ret_ok1 (by conv => lhs; whnf) (by conv => lhs; whnf) (by exact rfl) (.inr rfl) rfl
    · have h := ifF c15 h
      refine aw_cond_f (by decide) rfl ?_
      refine aw_skip ?_
      refine hK9 _ ?_
      refine aw_reg ?_
      refine ao_cons (acts_of rfl (does_bin (v := .int .i64 (IntKind.i64.wrap (v8_0 + 1))) (by conv => lhs; whnf) (by conv => lhs; whnf) rfl)) (by decide) ?_
      refine ao_cons (acts_of rfl (does_move (v := .int .i64 (IntKind.i64.wrap (v8_0 + 1))) (by exact rfl))) (by decide) ?_
      refine ao_nil_n ?_
      have h := leafL h hq5
      exact ⟨m0, Nat.lt_succ_self _, _, reb_lit [(0, .sl 6 (List.map enc27 a0)), (1, .fn 49 [.rptr [.int .u64 a1_0.Trace.Hi, .int .u64 a1_0.Trace.Lo, .int .u64 a1_0.Id, .int .u64 a1_0.Parent, .str a1_0.Service, .str a1_0.Op, .int .i64 a1_0.Start, .int .i64 a1_0.Dur, .bool a1_0.Err, .sl 2 (List.map enc68 a1_0.Attrs)]]), (7, .int .i64 (List.length a0 : Int)), (8, .int .i64 (IntKind.i64.wrap (v8_0 + 1)))] [] [] [] (envOk_cons (by conv => lhs; whnf) (by exact rfl) (envOk_cons (by conv => lhs; whnf) (by exact rfl) (envOk_cons (by conv => lhs; whnf) (by exact rfl) (envOk_cons (by conv => lhs; whnf) (by exact rfl) envOk_nil)))) objOk_nil (nodup_b rfl) (nodup_b rfl) rfl rfl, (IntKind.i64.wrap (v8_0 + 1)), h, rfl⟩
  · have h := ifF c8 h
    refine aw_cond_f (by decide) rfl ?_
    refine aw_exit ?_
    have h := leafR h hq5
    refine hK2 _ ?_
    refine aw_seq_k (fun K17 hK17 => ?_)
    refine aw_reg ?_
    refine ao_cons (acts_of rfl (does_assign (v := .int .i64 (-1)) (by exact rfl))) (by decide) ?_
    refine ao_nil_n ?_
    refine hK17 _ ?_
    refine aw_ret ?_
    obtain rfl := Option.some.inj h
    exact ret_ok1 (by conv => lhs; whnf) (by conv => lhs; whnf) (by exact rfl) (.inr rfl) rfl
def buffer_Put_k1 (v9_s_0 : List Episode) (v10_0 : Int) (x15 : Episode × Bool) (v11_s_4_1 : Bool) : Option (List Episode) :=
  gd (0 ≤ v10_0) (Option.bind (v9_s_0[(Int.toNat v10_0)]?) (fun (x21 : Episode) => some (List.set v9_s_0 (Int.toNat v10_0) (Episode.mk x15.1.Trace x15.1.First x15.1.Last v11_s_4_1 x15.1.Spans))))
def buffer_Put_k0 (a1 : Span) (a2 : Int) (a3 : Bool) (v9_s_0 : List Episode) (v10_0 : Int) : Option (List Episode) :=
  gd (0 ≤ v10_0) (Option.bind (v9_s_0[(Int.toNat v10_0)]?) (fun (x14 : Episode) => Option.bind (episode_Add x14 a1 a2) (fun (x15 : Episode × Bool) => Option.bind (if x15.1.Sure = true then (some true) else (some a3)) (fun (s : Bool) => buffer_Put_k1 v9_s_0 v10_0 x15 s))))
def buffer_Put (a0 : List Episode) (a1 : Span) (a2 : Int) (a3 : Bool) : Option (List Episode) :=
  Option.bind (episode_Copies a0) (fun (x3 : List Episode) => Option.bind (slices_IndexFunc_Episode_buffer_Put_c1 x3 a1) (fun (x5 : Int) => Option.bind (if (decide (x5 < 0)) = true then (gd ((List.length (x3 ++ [(Episode.mk a1.Trace a2 0 false [])])) * 64 ≤ 140737488355328 ∧ (List.length (x3 ++ [(Episode.mk a1.Trace a2 0 false [])])) ≤ 140737488355328) (some ((x3 ++ [(Episode.mk a1.Trace a2 0 false [])]), (List.length x3 : Int)))) else (some (x3, x5))) (fun (s : List Episode × Int) => buffer_Put_k0 a1 a2 a3 s.1 s.2)))
set_option maxRecDepth 100000 in
set_option maxHeartbeats 8000000 in
/-- gleaning/buffer.Put -/
theorem buffer_Put_ok (a0 : List Episode) (a1 : Span) (a2 : Int) (a3 : Bool) {r : List Episode} (h : buffer_Put a0 a1 a2 a3 = some r) : Ok Try.prog 26 [.sl 6 (List.map enc27 a0), .agg [.int .u64 a1.Trace.Hi, .int .u64 a1.Trace.Lo, .int .u64 a1.Id, .int .u64 a1.Parent, .str a1.Service, .str a1.Op, .int .i64 a1.Start, .int .i64 a1.Dur, .bool a1.Err, .sl 2 (List.map enc68 a1.Attrs)], .int .i64 a2, .bool a3] [] [] (.own 2 0) [] [(28, 6, List.map enc27 r)] := by
  unfold buffer_Put at h
  refine ok_of_code Try.func26 rfl (by show (4 : Nat) ≤ _; decide) (Nat.le_refl _) fun X => ?_
  refine aw_seq_k (fun K1 hK1 => ?_)
  refine aw_reg ?_
  refine ao_cons (acts_of rfl (do_box (by conv => lhs; whnf) rfl rfl)) (by decide) ?_
  refine ao_cons (acts_of rfl (does_assign (v := .nil) (by exact rfl))) (by decide) ?_
  refine ao_nil_n ?_
  refine hK1 _ ?_
  refine aw_seq_k (fun K2 hK2 => ?_)
  refine aw_reg ?_
  refine ao_cons (acts_of rfl (does_move (v := .sl 6 (List.map enc27 a0)) (by exact rfl))) (by decide) ?_
  obtain ⟨x3, hx3, h⟩ := bnd_some h
  refine ao_cons (acts_of rfl (do_call0 14 false (episode_Copies_ok a0 hx3) rfl ent47 rfl rfl)) (by decide) ?_
  refine ao_cons (acts_of rfl (does_assign (v := .own 14 0) (by exact rfl))) (by decide) ?_
  refine ao_nil_n ?_
  refine hK2 _ ?_
  refine aw_seq_k (fun K4 hK4 => ?_)
  refine aw_reg ?_
  refine ao_cons (acts_of rfl (does_move (v := .own 14 0) (by exact rfl))) (by decide) ?_
  refine ao_cons (acts_of rfl (does_makeFunc (vs := [.ptr 5 0 0]) rfl)) (by decide) ?_
  obtain ⟨x5, hx5, h⟩ := bnd_some h
  refine ao_cons (acts_of rfl (do_callG (bcs := []) [] [] [(14, 0), (5, 0)] 17 false (slices_IndexFunc_Episode_buffer_Put_c1_ok x3 a1 hx5) rfl ent48 trivial trivial rfl rfl rfl rfl rfl rfl rfl rfl (.inr ⟨rfl, rfl, trivial⟩))) (by decide) ?_
  refine ao_cons (acts_of rfl (does_assign (v := .int .i64 x5) (by exact rfl))) (by decide) ?_
  refine ao_nil_n ?_
  refine hK4 _ ?_
  obtain ⟨q6, h, hk7⟩ := bnd_some h
  refine aw_cut (fun s => ∃ (v9_s_0 : List Episode), ∃ (v10_0 : Int), buffer_Put_k0 a1 a2 a3 v9_s_0 v10_0 = some r ∧ s = lit [(2, .int .i64 a2), (3, .bool a3), (5, .ptr 5 0 0), (9, .own 28 0), (10, .int .i64 v10_0)] [((5, 0), .box [.int .u64 a1.Trace.Hi, .int .u64 a1.Trace.Lo, .int .u64 a1.Id, .int .u64 a1.Parent, .str a1.Service, .str a1.Op, .int .i64 a1.Start, .int .i64 a1.Dur, .bool a1.Err, .sl 2 (List.map enc68 a1.Attrs)]), ((28, 0), .arr 28 6 false (List.map enc27 v9_s_0))] [(5, 1), (28, 1)] X) ?_ ?_
  · skip
    refine aw_seq_k (fun K8 hK8 => ?_)
    refine aw_reg ?_
    refine ao_cons (acts_of rfl (does_move (v := .int .i64 x5) (by exact rfl))) (by decide) ?_
    refine ao_cons (acts_of rfl (does_bin (v := .bool (decide (x5 < 0))) (by conv => lhs; whnf) (by conv => lhs; whnf) rfl)) (by decide) ?_
    refine ao_nil_n ?_
    refine hK8 _ ?_
    refine aw_bool (b := (decide (x5 < 0))) 19 rfl (fun c9 => ?_) (fun c9 => ?_)
    · have h := ifT c9 h
      refine aw_cond_t (by decide) rfl ?_
      refine aw_seq_k (fun K10 hK10 => ?_)
      refine aw_reg ?_
      refine ao_cons (acts_of rfl (does_move (v := .own 14 0) (by exact rfl))) (by decide) ?_
      refine ao_cons (acts_of rfl ((does_len_own (by conv => lhs; whnf) (by conv => lhs; whnf) ty22).cast (v' := .int .i64 (List.length x3 : Int)) (by exact len_map _))) (by decide) ?_
      refine ao_cons (acts_of rfl (does_assign (v := .int .i64 (List.length x3 : Int)) (by exact rfl))) (by decide) ?_
      refine ao_nil_n ?_
      refine hK10 _ ?_
      refine aw_reg ?_
      refine ao_cons (acts_of rfl (does_move (v := .own 14 0) (by exact rfl))) (by decide) ?_
      refine ao_cons (acts_of rfl (does_fieldAddr (q := .ptr 5 0 0) (by conv => lhs; whnf) ty31 rfl ty25 (by decide) (by exact rfl))) (by decide) ?_
      refine ao_cons (acts_of rfl (does_load (v := .agg [.int .u64 a1.Trace.Hi, .int .u64 a1.Trace.Lo]) (by conv => lhs; whnf) (by conv => lhs; whnf) ty25 (by exact rfl))) (by decide) ?_
      refine ao_cons (acts_of rfl (does_move (v := .int .i64 a2) (by exact rfl))) (by decide) ?_
      refine ao_cons (acts_of rfl ((do_build_struct (cs := [.int .u64 a1.Trace.Hi, .int .u64 a1.Trace.Lo, .int .i64 a2, .int .i64 0, .bool false, .nil]) ty28 rfl [⟨.struct [(0, 23), (1, 23)], 2, 16, [.int .u64 0, .int .u64 0]⟩, ⟨.int .i64, 1, 8, [.int .i64 0]⟩, ⟨.int .i64, 1, 8, [.int .i64 0]⟩, ⟨.bool, 1, 1, [.bool false]⟩, ⟨.slice 31, 1, 24, [.nil]⟩] (by simp only [List.map, ty25, ty26, ty3, ty4]) (by rfl) (by exact rfl)).weak (v' := .agg [.int .u64 a1.Trace.Hi, .int .u64 a1.Trace.Lo, .int .i64 a2, .int .i64 0, .bool false, .sl 10 (List.map enc30 [])]) (le_agg ⟨le_refl _, le_refl _, le_refl _, le_refl _, le_refl _, le_nil _, trivial⟩))) (by decide) ?_
      refine ao_cons (acts_of rfl (do_buildSlice (xs := List.map enc27 [(Episode.mk a1.Trace a2 0 false [])]) ty22 ty28 rfl rfl rfl rfl rfl rfl rfl rfl)) (by decide) ?_
      obtain ⟨g11, h⟩ := gd_some h
      refine ao_cons (acts_of rfl (do_append (v := List.map enc27 (x3 ++ [(Episode.mk a1.Trace a2 0 false [])])) (by conv => lhs; whnf) (by conv => lhs; whnf) ty22 ty28 rfl rfl (by conv => lhs; whnf) (by first | exact .inl rfl | exact .inr ⟨rfl, rfl⟩) (by conv => lhs; whnf) (by first | exact .inr rfl | exact .inl rfl) (map_app _ _) (fit_map g11))) (by decide) ?_
      refine ao_cons (acts_of rfl (does_assign (v := .own 28 0) (by exact rfl))) (by decide) ?_
      refine ao_nil_n ?_
      obtain rfl := Option.some.inj h
      have h := hk7
      exact ⟨_, reb_lit [(2, .int .i64 a2), (3, .bool a3), (5, .ptr 5 0 0), (9, .own 28 0), (10, .int .i64 (List.length x3 : Int))] [(5, 0), (28, 0)] [((5, 0), .box [.int .u64 a1.Trace.Hi, .int .u64 a1.Trace.Lo, .int .u64 a1.Id, .int .u64 a1.Parent, .str a1.Service, .str a1.Op, .int .i64 a1.Start, .int .i64 a1.Dur, .bool a1.Err, .sl 2 (List.map enc68 a1.Attrs)]), ((28, 0), .arr 28 6 false (List.map enc27 (x3 ++ [(Episode.mk a1.Trace a2 0 false [])])))] [(5, 1), (28, 1)] (envOk_cons (by conv => lhs; whnf) (by exact rfl) (envOk_cons (by conv => lhs; whnf) (by exact rfl) (envOk_cons (by conv => lhs; whnf) (by exact rfl) (envOk_cons (by conv => lhs; whnf) (by exact rfl) (envOk_cons (by conv => lhs; whnf) (by exact rfl) envOk_nil))))) (objOk_cons (by conv => lhs; whnf) (by conv => lhs; whnf) (by exact rfl) (by simp) (objOk_cons (by conv => lhs; whnf) (by conv => lhs; whnf) (by exact rfl) (by simp) objOk_nil)) (nodup_b rfl) (nodup_b rfl) rfl rfl, (x3 ++ [(Episode.mk a1.Trace a2 0 false [])]), (List.length x3 : Int), h, rfl⟩
    · have h := ifF c9 h
      refine aw_cond_f (by decide) rfl ?_
      refine aw_skip ?_
      obtain rfl := Option.some.inj h
      have h := hk7
      exact ⟨_, reb_lit [(2, .int .i64 a2), (3, .bool a3), (5, .ptr 5 0 0), (9, .own 28 0), (10, .int .i64 x5)] [(5, 0), (14, 0)] [((5, 0), .box [.int .u64 a1.Trace.Hi, .int .u64 a1.Trace.Lo, .int .u64 a1.Id, .int .u64 a1.Parent, .str a1.Service, .str a1.Op, .int .i64 a1.Start, .int .i64 a1.Dur, .bool a1.Err, .sl 2 (List.map enc68 a1.Attrs)]), ((28, 0), .arr 28 6 false (List.map enc27 x3))] [(5, 1), (28, 1)] (envOk_cons (by conv => lhs; whnf) (by exact rfl) (envOk_cons (by conv => lhs; whnf) (by exact rfl) (envOk_cons (by conv => lhs; whnf) (by exact rfl) (envOk_cons (by conv => lhs; whnf) (by exact rfl) (envOk_cons (by conv => lhs; whnf) (by exact rfl) envOk_nil))))) (objOk_cons (by conv => lhs; whnf) (by conv => lhs; whnf) (by exact rfl) (by simp) (objOk_cons (by conv => lhs; whnf) (by conv => lhs; whnf) (by exact rfl) (by simp) objOk_nil)) (nodup_b rfl) (nodup_b rfl) rfl rfl, x3, x5, h, rfl⟩
  · rintro s ⟨v9_s_0, v10_0, h, rfl⟩
    unfold buffer_Put_k0 at h
    refine aw_seq_k (fun K12 hK12 => ?_)
    refine aw_regd (by kernel_rfl) (by decide +kernel) ?_
    refine ao_cons (acts_of rfl (does_move (v := .own 28 0) (by exact rfl))) (by decide) ?_
    refine ao_cons (acts_of rfl (does_move (v := .int .i64 v10_0) (by exact rfl))) (by decide) ?_
    obtain ⟨g13, h⟩ := gd_some h
    obtain ⟨x14, hx14, h⟩ := bnd_some h
    refine ao_cons (acts_of rfl (does_indexAddr_own (by conv => lhs; whnf) (by conv => lhs; whnf) (by conv => lhs; whnf) ty22 ty28 g13 (by exact own_lt hx14))) (by decide) ?_
    refine ao_cons (acts_of rfl (does_load (v := .agg [.int .u64 x14.Trace.Hi, .int .u64 x14.Trace.Lo, .int .i64 x14.First, .int .i64 x14.Last, .bool x14.Sure, .sl 10 (List.map enc30 x14.Spans)]) (by conv => lhs; whnf) (cellsAt_eptr (by conv => lhs; whnf) (by exact map_get hx14)) ty28 (by exact rfl))) (by decide) ?_
    refine ao_cons (acts_of rfl (does_load (v := .agg [.int .u64 a1.Trace.Hi, .int .u64 a1.Trace.Lo, .int .u64 a1.Id, .int .u64 a1.Parent, .str a1.Service, .str a1.Op, .int .i64 a1.Start, .int .i64 a1.Dur, .bool a1.Err, .sl 2 (List.map enc68 a1.Attrs)]) (by conv => lhs; whnf) (by conv => lhs; whnf) ty31 (by exact rfl))) (by decide) ?_
    refine ao_cons (acts_of rfl (does_move (v := .int .i64 a2) (by exact rfl))) (by decide) ?_
    obtain ⟨x15, hx15, h⟩ := bnd_some h
    refine ao_cons (acts_of rfl (do_call0 36 false (episode_Add_ok x14 a1 a2 hx15) rfl ent18 rfl rfl)) (by decide) ?_
    refine ao_cons (acts_of rfl (does_move (v := .tup [.agg [.int .u64 x15.1.Trace.Hi, .int .u64 x15.1.Trace.Lo, .int .i64 x15.1.First, .int .i64 x15.1.Last, .bool x15.1.Sure, .own 36 0], .bool x15.2]) (by exact rfl))) (by decide) ?_
    refine ao_cons (acts_of rfl (does_extract (v := .agg [.int .u64 x15.1.Trace.Hi, .int .u64 x15.1.Trace.Lo, .int .i64 x15.1.First, .int .i64 x15.1.Last, .bool x15.1.Sure, .own 36 0]) (by conv => lhs; whnf) (by exact rfl))) (by decide) ?_
    refine ao_cons (acts_of rfl (does_extract (v := .bool x15.2) (by conv => lhs; whnf) (by exact rfl))) (by decide) ?_
    refine ao_cons (acts_of rfl (do_new ty28 rfl rfl)) (by decide) ?_
    refine ao_cons (acts_of rfl (do_store (cs' := [.int .u64 x15.1.Trace.Hi, .int .u64 x15.1.Trace.Lo, .int .i64 x15.1.First, .int .i64 x15.1.Last, .bool x15.1.Sure, .own 36 0]) (by conv => lhs; whnf) (by conv => lhs; whnf) (by conv => lhs; whnf) ty28 rfl rfl rfl (by exact rfl))) (by decide) ?_
    refine ao_cons (acts_of rfl (does_assign (v := .bool x15.2) (by exact rfl))) (by decide) ?_
    refine ao_nil_d (by kernel_rfl) ?_
    refine hK12 _ ?_
    obtain ⟨q16, h, hk17⟩ := bnd_some h
    refine aw_cut (fun s => ∃ (v11_s_4_1 : Bool), buffer_Put_k1 v9_s_0 v10_0 x15 v11_s_4_1 = some r ∧ s = lit [(9, .own 28 0), (10, .int .i64 v10_0), (11, .ptr 11 0 0)] [((28, 0), .arr 28 6 false (List.map enc27 v9_s_0)), ((11, 0), .box [.int .u64 x15.1.Trace.Hi, .int .u64 x15.1.Trace.Lo, .int .i64 x15.1.First, .int .i64 x15.1.Last, .bool v11_s_4_1, .own 36 0]), ((36, 0), .arr 31 10 false (List.map enc30 x15.1.Spans))] [(11, 1), (28, 1), (36, 1)] X) ?_ ?_
    · skip
      refine aw_reg ?_
      refine ao_cons (acts_of rfl (does_fieldAddr (q := .ptr 11 0 4) (by conv => lhs; whnf) ty28 rfl ty4 (by decide) (by exact rfl))) (by decide) ?_
      refine ao_cons (acts_of rfl (does_load (v := .bool x15.1.Sure) (by conv => lhs; whnf) (by conv => lhs; whnf) ty4 (by exact rfl))) (by decide) ?_
      refine ao_cons (acts_of rfl (does_move (v := .bool x15.1.Sure) (by exact rfl))) (by decide) ?_
      refine ao_bool (c := x15.1.Sure) 41 rfl (fun c18 => ?_) (fun c18 => ?_)
      · have h := ifT c18 h
        refine ao_cons (acts_skip rfl) (by decide) ?_
        refine ao_cons (acts_of rfl (does_pick (v := .bool true) (by conv => lhs; whnf) (by exact rfl))) (by decide) ?_
        refine ao_cons (acts_of rfl (does_fieldAddr (q := .ptr 11 0 4) (by conv => lhs; whnf) ty28 rfl ty4 (by decide) (by exact rfl))) (by decide) ?_
        refine ao_cons (acts_of rfl (do_store (cs' := [.int .u64 x15.1.Trace.Hi, .int .u64 x15.1.Trace.Lo, .int .i64 x15.1.First, .int .i64 x15.1.Last, .bool true, .own 36 0]) (by conv => lhs; whnf) (by conv => lhs; whnf) (by conv => lhs; whnf) ty4 rfl rfl rfl (by exact rfl))) (by decide) ?_
        refine ao_nil_n ?_
        obtain rfl := Option.some.inj h
        have h := hk17
        exact ⟨_, reb_lit [(9, .own 28 0), (10, .int .i64 v10_0), (11, .ptr 11 0 0)] [(28, 0), (11, 0), (36, 0)] [((28, 0), .arr 28 6 false (List.map enc27 v9_s_0)), ((11, 0), .box [.int .u64 x15.1.Trace.Hi, .int .u64 x15.1.Trace.Lo, .int .i64 x15.1.First, .int .i64 x15.1.Last, .bool true, .own 36 0]), ((36, 0), .arr 31 10 false (List.map enc30 x15.1.Spans))] [(11, 1), (28, 1), (36, 1)] (envOk_cons (by conv => lhs; whnf) (by exact rfl) (envOk_cons (by conv => lhs; whnf) (by exact rfl) (envOk_cons (by conv => lhs; whnf) (by exact rfl) envOk_nil))) (objOk_cons (by conv => lhs; whnf) (by conv => lhs; whnf) (by exact rfl) (by simp) (objOk_cons (by conv => lhs; whnf) (by conv => lhs; whnf) (by exact rfl) (by simp) (objOk_cons (by conv => lhs; whnf) (by conv => lhs; whnf) (by exact rfl) (by simp) objOk_nil))) (nodup_b rfl) (nodup_b rfl) rfl rfl, true, h, rfl⟩
      · have h := ifF c18 h
        refine ao_cons (acts_of rfl (does_move (v := .bool a3) (by exact rfl))) (by decide) ?_
        refine ao_cons (acts_of rfl (does_pick (v := .bool a3) (by conv => lhs; whnf) (by exact rfl))) (by decide) ?_
        refine ao_cons (acts_of rfl (does_fieldAddr (q := .ptr 11 0 4) (by conv => lhs; whnf) ty28 rfl ty4 (by decide) (by exact rfl))) (by decide) ?_
        refine ao_cons (acts_of rfl (do_store (cs' := [.int .u64 x15.1.Trace.Hi, .int .u64 x15.1.Trace.Lo, .int .i64 x15.1.First, .int .i64 x15.1.Last, .bool a3, .own 36 0]) (by conv => lhs; whnf) (by conv => lhs; whnf) (by conv => lhs; whnf) ty4 rfl rfl rfl (by exact rfl))) (by decide) ?_
        refine ao_nil_n ?_
        obtain rfl := Option.some.inj h
        have h := hk17
        exact ⟨_, reb_lit [(9, .own 28 0), (10, .int .i64 v10_0), (11, .ptr 11 0 0)] [(28, 0), (11, 0), (36, 0)] [((28, 0), .arr 28 6 false (List.map enc27 v9_s_0)), ((11, 0), .box [.int .u64 x15.1.Trace.Hi, .int .u64 x15.1.Trace.Lo, .int .i64 x15.1.First, .int .i64 x15.1.Last, .bool a3, .own 36 0]), ((36, 0), .arr 31 10 false (List.map enc30 x15.1.Spans))] [(11, 1), (28, 1), (36, 1)] (envOk_cons (by conv => lhs; whnf) (by exact rfl) (envOk_cons (by conv => lhs; whnf) (by exact rfl) (envOk_cons (by conv => lhs; whnf) (by exact rfl) envOk_nil))) (objOk_cons (by conv => lhs; whnf) (by conv => lhs; whnf) (by exact rfl) (by simp) (objOk_cons (by conv => lhs; whnf) (by conv => lhs; whnf) (by exact rfl) (by simp) (objOk_cons (by conv => lhs; whnf) (by conv => lhs; whnf) (by exact rfl) (by simp) objOk_nil))) (nodup_b rfl) (nodup_b rfl) rfl rfl, a3, h, rfl⟩
    · rintro s ⟨v11_s_4_1, h, rfl⟩
      unfold buffer_Put_k1 at h
      refine aw_seq_k (fun K19 hK19 => ?_)
      refine aw_reg ?_
      refine ao_cons (acts_of rfl (does_move (v := .own 28 0) (by exact rfl))) (by decide) ?_
      refine ao_cons (acts_of rfl (does_move (v := .int .i64 v10_0) (by exact rfl))) (by decide) ?_
      refine ao_cons (acts_of rfl (does_load (v := .agg [.int .u64 x15.1.Trace.Hi, .int .u64 x15.1.Trace.Lo, .int .i64 x15.1.First, .int .i64 x15.1.Last, .bool v11_s_4_1, .own 36 0]) (by conv => lhs; whnf) (by conv => lhs; whnf) ty28 (by exact rfl))) (by decide) ?_
      obtain ⟨g20, h⟩ := gd_some h
      obtain ⟨x21, hx21, h⟩ := bnd_some h
      refine ao_cons (acts_of rfl (does_indexAddr_own (by conv => lhs; whnf) (by conv => lhs; whnf) (by conv => lhs; whnf) ty22 ty28 g20 (by exact own_lt hx21))) (by decide) ?_
      refine ao_cons (acts_of rfl (does_frz (d := 36) (n := 0) (by conv => lhs; whnf) (does_storeZ (pv := .agg [.int .u64 x15.1.Trace.Hi, .int .u64 x15.1.Trace.Lo, .int .i64 x15.1.First, .int .i64 x15.1.Last, .bool v11_s_4_1, .sl 10 (List.map enc30 x15.1.Spans)]) (old := .agg [.int .u64 x21.Trace.Hi, .int .u64 x21.Trace.Lo, .int .i64 x21.First, .int .i64 x21.Last, .bool x21.Sure, .sl 10 (List.map enc30 x21.Spans)]) (el := .agg [.int .u64 x15.1.Trace.Hi, .int .u64 x15.1.Trace.Lo, .int .i64 x15.1.First, .int .i64 x15.1.Last, .bool v11_s_4_1, .sl 10 (List.map enc30 x15.1.Spans)]) (xs' := List.map enc27 (List.set v9_s_0 (Int.toNat v10_0) (Episode.mk x15.1.Trace x15.1.First x15.1.Last v11_s_4_1 x15.1.Spans))) (by conv => lhs; whnf) (by exact rfl) (by conv => lhs; whnf) ty28 (by rfl) (by rfl) (by exact map_get hx21) (by rfl) (by exact rfl) (by exact map_set' _ _ (Episode.mk x15.1.Trace x15.1.First x15.1.Last v11_s_4_1 x15.1.Spans))))) (by decide) ?_
      refine ao_nil_n ?_
      refine hK19 _ ?_
      refine aw_seq_k (fun K22 hK22 => ?_)
      refine aw_reg ?_
      refine ao_cons (acts_of rfl (does_move (v := .own 28 0) (by exact rfl))) (by decide) ?_
      refine ao_cons (acts_of rfl (does_assign (v := .own 28 0) (by exact rfl))) (by decide) ?_
      refine ao_nil_n ?_
      refine hK22 _ ?_
      refine aw_ret ?_
      obtain rfl := Option.some.inj h
      exact ret_okR [(28, 0)] (by conv => lhs; whnf) (by conv => lhs; whnf) (by exact rfl) (rowsOk_cons (by conv => lhs; whnf) (by exact rfl) trivial) (nodup_b rfl) (.inr rfl) rfl
def buffer_Count_l0 (a0 : List Episode) (v3_0 : Int) (v8_0 : Int) : Option ((Int × Int) ⊕ Int) :=
  if (decide (v8_0 < (List.length a0 : Int))) = true then (gd (0 ≤ v8_0) (Option.bind (a0[(Int.toNat v8_0)]?) (fun (x13 : Episode) => some (Sum.inl ((IntKind.i64.wrap (v3_0 + (List.length x13.Spans : Int))), (IntKind.i64.wrap (v8_0 + 1))))))) else (some (Sum.inr v3_0))
def buffer_Count (a0 : List Episode) : Option Int :=
  loopN (fun (s : Int × Int) => buffer_Count_l0 a0 s.1 s.2) Fu (0, 0)
set_option maxRecDepth 100000 in
set_option maxHeartbeats 8000000 in
/-- gleaning/buffer.Count -/
theorem buffer_Count_ok (a0 : List Episode) {r : Int} (h : buffer_Count a0 = some r) : Ok Try.prog 27 [.sl 6 (List.map enc27 a0)] [] [] (.int .i64 r) [] [] := by
  unfold buffer_Count at h
  refine ok_of_code Try.func27 rfl (by show (1 : Nat) ≤ _; decide) (Nat.le_refl _) fun X => ?_
  refine aw_seq_k (fun K1 hK1 => ?_)
  refine aw_reg ?_
  refine ao_cons (acts_of rfl (does_assign (v := .int .i64 0) (by exact rfl))) (by decide) ?_
  refine ao_nil_n ?_
  refine hK1 _ ?_
  refine aw_seq_k (fun K2 hK2 => ?_)
  refine aw_reg ?_
  refine ao_cons (acts_of rfl (does_assign (v := .int .i64 0) (by exact rfl))) (by decide) ?_
  refine ao_nil_n ?_
  refine hK2 _ ?_
  refine aw_seq_k (fun K3 hK3 => ?_)
  refine aw_seq_k (fun K4 hK4 => ?_)
  refine aw_reg ?_
  refine ao_cons (acts_of rfl (does_move (v := .sl 6 (List.map enc27 a0)) (by exact rfl))) (by decide) ?_
  refine ao_cons (acts_of rfl ((does_len_sl (by conv => lhs; whnf) ty22).castp (v' := .int .i64 (List.length a0 : Int)) (by exact len_map _))) (by decide) ?_
  refine ao_cons (acts_of rfl (does_move (v := .int .i64 0) (by exact rfl))) (by decide) ?_
  refine ao_nil_n ?_
  refine hK4 _ ?_
  refine aw_block ?_
  refine aw_loop' (fun m s => ∃ (v3_0 : Int), ∃ (v8_0 : Int), loopN (fun (s : Int × Int) => buffer_Count_l0 a0 s.1 s.2) m (v3_0, v8_0) = some r ∧ s = lit [(3, .int .i64 v3_0), (6, .sl 6 (List.map enc27 a0)), (7, .int .i64 (List.length a0 : Int)), (8, .int .i64 v8_0)] [] [] X) Fu
    ⟨_, reb_lit [(3, .int .i64 (0)), (6, .sl 6 (List.map enc27 a0)), (7, .int .i64 (List.length a0 : Int)), (8, .int .i64 (0))] [] [] [] (envOk_cons (by conv => lhs; whnf) (by exact rfl) (envOk_cons (by conv => lhs; whnf) (by exact rfl) (envOk_cons (by conv => lhs; whnf) (by exact rfl) (envOk_cons (by conv => lhs; whnf) (by exact rfl) envOk_nil)))) objOk_nil (nodup_b rfl) (nodup_b rfl) rfl rfl, 0, 0, h, rfl⟩ ?_
  rintro m s ⟨v3_0, v8_0, h, rfl⟩
  obtain ⟨m0, q5, rfl, h, hq6⟩ := loop_some h
  replace h : buffer_Count_l0 a0 v3_0 v8_0 = some q5 := h
  unfold buffer_Count_l0 at h
  refine aw_seq_k (fun K7 hK7 => ?_)
  refine aw_reg ?_
  refine ao_cons (acts_of rfl (does_bin (v := .bool (decide (v8_0 < (List.length a0 : Int)))) (by conv => lhs; whnf) (by conv => lhs; whnf) rfl)) (by decide) ?_
  refine ao_nil_n ?_
  refine hK7 _ ?_
  refine aw_seq_k (fun K8 hK8 => ?_)
  refine aw_bool (b := (decide (v8_0 < (List.length a0 : Int)))) 9 rfl (fun c9 => ?_) (fun c9 => ?_)
  · have h := ifT c9 h
    refine aw_cond_t (by decide) rfl ?_
    refine aw_skip ?_
    refine hK8 _ ?_
    refine aw_seq_k (fun K10 hK10 => ?_)
    refine aw_block ?_
    refine aw_seq_k (fun K11 hK11 => ?_)
    refine aw_reg ?_
    obtain ⟨g12, h⟩ := gd_some h
    obtain ⟨x13, hx13, h⟩ := bnd_some h
    refine ao_cons (acts_of rfl (does_indexAddr_sl (el := .agg [.int .u64 x13.Trace.Hi, .int .u64 x13.Trace.Lo, .int .i64 x13.First, .int .i64 x13.Last, .bool x13.Sure, .sl 10 (List.map enc30 x13.Spans)]) (by conv => lhs; whnf) (by conv => lhs; whnf) ty22 ty28 g12 (by exact map_get hx13))) (by decide) ?_
    refine ao_cons (acts_of rfl (does_load (v := .agg [.int .u64 x13.Trace.Hi, .int .u64 x13.Trace.Lo, .int .i64 x13.First, .int .i64 x13.Last, .bool x13.Sure, .sl 10 (List.map enc30 x13.Spans)]) (by conv => lhs; whnf) (by conv => lhs; whnf) ty28 (by exact rfl))) (by decide) ?_
    refine ao_cons (acts_of rfl (do_new ty28 rfl rfl)) (by decide) ?_
    refine ao_cons (acts_of rfl (do_store (cs' := [.int .u64 x13.Trace.Hi, .int .u64 x13.Trace.Lo, .int .i64 x13.First, .int .i64 x13.Last, .bool x13.Sure, .sl 10 (List.map enc30 x13.Spans)]) (by conv => lhs; whnf) (by conv => lhs; whnf) (by conv => lhs; whnf) ty28 rfl rfl rfl (by exact rfl))) (by decide) ?_
    refine ao_nil_n ?_
    refine hK11 _ ?_
    refine aw_reg ?_
    refine ao_cons (acts_of rfl (does_move (v := .int .i64 v3_0) (by exact rfl))) (by decide) ?_
    refine ao_cons (acts_of rfl (does_fieldAddr (q := .ptr 5 0 5) (by conv => lhs; whnf) ty28 rfl ty26 (by decide) (by exact rfl))) (by decide) ?_
    refine ao_cons (acts_of rfl (does_load (v := .sl 10 (List.map enc30 x13.Spans)) (by conv => lhs; whnf) (by conv => lhs; whnf) ty26 (by exact rfl))) (by decide) ?_
    refine ao_cons (acts_of rfl ((does_len_sl (by conv => lhs; whnf) ty26).castp (v' := .int .i64 (List.length x13.Spans : Int)) (by exact len_map _))) (by decide) ?_
    refine ao_cons (acts_of rfl (does_bin (v := .int .i64 (IntKind.i64.wrap (v3_0 + (List.length x13.Spans : Int)))) (by conv => lhs; whnf) (by conv => lhs; whnf) rfl)) (by decide) ?_
    refine ao_cons (acts_of rfl (does_assign (v := .int .i64 (IntKind.i64.wrap (v3_0 + (List.length x13.Spans : Int)))) (by exact rfl))) (by decide) ?_
    refine ao_nil_n ?_
    refine hK10 _ ?_
    refine aw_reg ?_
    refine ao_cons (acts_of rfl (does_bin (v := .int .i64 (IntKind.i64.wrap (v8_0 + 1))) (by conv => lhs; whnf) (by conv => lhs; whnf) rfl)) (by decide) ?_
    refine ao_cons (acts_of rfl (does_move (v := .int .i64 (IntKind.i64.wrap (v8_0 + 1))) (by exact rfl))) (by decide) ?_
    refine ao_nil_n ?_
    have h := leafL h hq6
    exact ⟨m0, Nat.lt_succ_self _, _, reb_lit [(3, .int .i64 (IntKind.i64.wrap (v3_0 + (List.length x13.Spans : Int)))), (6, .sl 6 (List.map enc27 a0)), (7, .int .i64 (List.length a0 : Int)), (8, .int .i64 (IntKind.i64.wrap (v8_0 + 1)))] [] [] [] (envOk_cons (by conv => lhs; whnf) (by exact rfl) (envOk_cons (by conv => lhs; whnf) (by exact rfl) (envOk_cons (by conv => lhs; whnf) (by exact rfl) (envOk_cons (by conv => lhs; whnf) (by exact rfl) envOk_nil)))) objOk_nil (nodup_b rfl) (nodup_b rfl) rfl rfl, (IntKind.i64.wrap (v3_0 + (List.length x13.Spans : Int))), (IntKind.i64.wrap (v8_0 + 1)), h, rfl⟩
  · have h := ifF c9 h
    refine aw_cond_f (by decide) rfl ?_
    refine aw_exit ?_
    have h := leafR h hq6
    refine hK3 _ ?_
    refine aw_seq_k (fun K14 hK14 => ?_)
    refine aw_reg ?_
    refine ao_cons (acts_of rfl (does_move (v := .int .i64 v3_0) (by exact rfl))) (by decide) ?_
    refine ao_cons (acts_of rfl (does_assign (v := .int .i64 v3_0) (by exact rfl))) (by decide) ?_
    refine ao_nil_n ?_
    refine hK14 _ ?_
    refine aw_ret ?_
    obtain rfl := Option.some.inj h
    exact ret_ok1 (by conv => lhs; whnf) (by conv => lhs; whnf) (by exact rfl) (.inr rfl) rfl
def gleaninglaw16_alive : Option Bool :=
  Option.bind (buffer_Put [] (Span.mk (Trace.mk 0 0) 5 0 (strOf []) (strOf []) 0 0 false []) 3 true) (fun (x3 : List Episode) => Option.bind (buffer_Count []) (fun (x5 : Int) => if (x5 == 0) = true then (Option.bind (buffer_Count x3) (fun (x7 : Int) => if (x7 == 1) = true then (if ((List.length x3 : Int) == 1) = true then (Option.bind (x3[0]?) (fun (x10 : Episode) => if x10.Sure = true then (Option.bind (x3[0]?) (fun (x12 : Episode) => some (x12.First == 3))) else (some false))) else (some false)) else (some false))) else (some false)))
set_option maxRecDepth 100000 in
set_option maxHeartbeats 8000000 in
/-- gleaning/gleaninglaw16.alive -/
theorem gleaninglaw16_alive_ok {r : Bool} (h : gleaninglaw16_alive = some r) : Ok Try.prog 24 [] [] [] (.bool r) [] [] := by
  unfold gleaninglaw16_alive at h
  refine ok_of_code Try.func24 rfl (by show (0 : Nat) ≤ _; decide) (Nat.le_refl _) fun X => ?_
  refine aw_seq_k (fun K1 hK1 => ?_)
  refine aw_reg ?_
  refine ao_cons (acts_of rfl (does_assign (v := .bool false) (by exact rfl))) (by decide) ?_
  refine ao_nil_n ?_
  refine hK1 _ ?_
  refine aw_seq_k (fun K2 hK2 => ?_)
  refine aw_reg ?_
  refine ao_cons (acts_of rfl ((do_build_struct (cs := [.int .u64 0, .int .u64 0, .int .u64 5, .int .u64 0, .str (strOf []), .str (strOf []), .int .i64 0, .int .i64 0, .bool false, .nil]) ty31 rfl [⟨.struct [(0, 23), (1, 23)], 2, 16, [.int .u64 0, .int .u64 0]⟩, ⟨.int .u64, 1, 8, [.int .u64 0]⟩, ⟨.int .u64, 1, 8, [.int .u64 0]⟩, ⟨.str, 1, 16, [.str ByteArray.empty]⟩, ⟨.str, 1, 16, [.str ByteArray.empty]⟩, ⟨.int .i64, 1, 8, [.int .i64 0]⟩, ⟨.int .i64, 1, 8, [.int .i64 0]⟩, ⟨.bool, 1, 1, [.bool false]⟩, ⟨.slice 69, 1, 24, [.nil]⟩] (by simp only [List.map, ty23, ty25, ty29, ty3, ty4, ty9]) (by rfl) (by exact rfl)).weak (v' := .agg [.int .u64 0, .int .u64 0, .int .u64 5, .int .u64 0, .str (strOf []), .str (strOf []), .int .i64 0, .int .i64 0, .bool false, .sl 2 (List.map enc68 [])]) (le_agg ⟨le_refl _, le_refl _, le_refl _, le_refl _, le_refl _, le_refl _, le_refl _, le_refl _, le_refl _, le_nil _, trivial⟩))) (by decide) ?_
  obtain ⟨x3, hx3, h⟩ := bnd_some h
  refine ao_cons (acts_of rfl (do_call0 3 false ((buffer_Put_ok [] (Span.mk (Trace.mk 0 0) 5 0 (strOf []) (strOf []) 0 0 false []) 3 true hx3).weak (args' := [.nil, _, _, _]) ⟨le_nil _, le_refl _, le_refl _, le_refl _, trivial⟩) rfl ent26 rfl rfl)) (by decide) ?_
  refine ao_cons (acts_of rfl (does_assign (v := .own 3 0) (by exact rfl))) (by decide) ?_
  refine ao_nil_n ?_
  refine hK2 _ ?_
  refine aw_seq_k (fun K4 hK4 => ?_)
  refine aw_reg ?_
  obtain ⟨x5, hx5, h⟩ := bnd_some h
  refine ao_cons (acts_of rfl (do_call0 4 false ((buffer_Count_ok [] hx5).weak (args' := [.nil]) ⟨le_nil _, trivial⟩) rfl ent27 rfl rfl)) (by decide) ?_
  refine ao_cons (acts_of rfl (does_bin (v := .bool (x5 == 0)) (by conv => lhs; whnf) (by conv => lhs; whnf) rfl)) (by decide) ?_
  refine ao_cons (acts_of rfl (does_move (v := .bool (x5 == 0)) (by exact rfl))) (by decide) ?_
  refine ao_bool (c := (x5 == 0)) 6 rfl (fun c6 => ?_) (fun c6 => ?_)
  · have h := ifT c6 h
    refine ao_cons (acts_of rfl (does_move (v := .own 3 0) (by exact rfl))) (by decide) ?_
    obtain ⟨x7, hx7, h⟩ := bnd_some h
    refine ao_cons (acts_of rfl (do_callG (bcs := []) [] [] [(3, 0)] 8 false (buffer_Count_ok x3 hx7) rfl ent27 trivial trivial rfl rfl rfl rfl rfl rfl rfl rfl (.inr ⟨rfl, rfl, trivial⟩))) (by decide) ?_
    refine ao_cons (acts_of rfl (does_bin (v := .bool (x7 == 1)) (by conv => lhs; whnf) (by conv => lhs; whnf) rfl)) (by decide) ?_
    refine ao_cons (acts_of rfl (does_pick (v := .bool (x7 == 1)) (by conv => lhs; whnf) (by exact rfl))) (by decide) ?_
    refine ao_cons (acts_of rfl (does_move (v := .bool (x7 == 1)) (by exact rfl))) (by decide) ?_
    refine ao_bool (c := (x7 == 1)) 11 rfl (fun c8 => ?_) (fun c8 => ?_)
    · have h := ifT c8 h
      refine ao_cons (acts_of rfl (does_move (v := .own 3 0) (by exact rfl))) (by decide) ?_
      refine ao_cons (acts_of rfl ((does_len_own (by conv => lhs; whnf) (by conv => lhs; whnf) ty22).cast (v' := .int .i64 (List.length x3 : Int)) (by exact len_map _))) (by decide) ?_
      refine ao_cons (acts_of rfl (does_bin (v := .bool ((List.length x3 : Int) == 1)) (by conv => lhs; whnf) (by conv => lhs; whnf) rfl)) (by decide) ?_
      refine ao_cons (acts_of rfl (does_pick (v := .bool ((List.length x3 : Int) == 1)) (by conv => lhs; whnf) (by exact rfl))) (by decide) ?_
      refine ao_cons (acts_of rfl (does_move (v := .bool ((List.length x3 : Int) == 1)) (by exact rfl))) (by decide) ?_
      refine ao_bool (c := ((List.length x3 : Int) == 1)) 16 rfl (fun c9 => ?_) (fun c9 => ?_)
      · have h := ifT c9 h
        refine ao_cons (acts_of rfl (does_move (v := .own 3 0) (by exact rfl))) (by decide) ?_
        obtain ⟨x10, hx10, h⟩ := bnd_some h
        refine ao_cons (acts_of rfl (does_indexAddr_own (by conv => lhs; whnf) (by conv => lhs; whnf) (by conv => lhs; whnf) ty22 ty28 (by decide) (by exact own_lt hx10))) (by decide) ?_
        refine ao_cons (acts_of rfl (does_fieldAddr (q := .eptr 3 0 6 0 4) (by conv => lhs; whnf) ty28 rfl ty4 (by decide) (by exact rfl))) (by decide) ?_
        refine ao_cons (acts_of rfl (does_load (v := .bool x10.Sure) (by conv => lhs; whnf) (cellsAt_eptr (by conv => lhs; whnf) (by exact map_get hx10)) ty4 (by exact rfl))) (by decide) ?_
        refine ao_cons (acts_of rfl (does_pick (v := .bool x10.Sure) (by conv => lhs; whnf) (by exact rfl))) (by decide) ?_
        refine ao_cons (acts_of rfl (does_move (v := .bool x10.Sure) (by exact rfl))) (by decide) ?_
        refine ao_bool (c := x10.Sure) 22 rfl (fun c11 => ?_) (fun c11 => ?_)
        · have h := ifT c11 h
          refine ao_cons (acts_of rfl (does_move (v := .own 3 0) (by exact rfl))) (by decide) ?_
          obtain ⟨x12, hx12, h⟩ := bnd_some h
          refine ao_cons (acts_of rfl (does_indexAddr_own (by conv => lhs; whnf) (by conv => lhs; whnf) (by conv => lhs; whnf) ty22 ty28 (by decide) (by exact own_lt hx12))) (by decide) ?_
          refine ao_cons (acts_of rfl (does_fieldAddr (q := .eptr 3 0 6 0 2) (by conv => lhs; whnf) ty28 rfl ty3 (by decide) (by exact rfl))) (by decide) ?_
          refine ao_cons (acts_of rfl (does_load (v := .int .i64 x12.First) (by conv => lhs; whnf) (cellsAt_eptr (by conv => lhs; whnf) (by exact map_get hx12)) ty3 (by exact rfl))) (by decide) ?_
          refine ao_cons (acts_of rfl (does_bin (v := .bool (x12.First == 3)) (by conv => lhs; whnf) (by conv => lhs; whnf) rfl)) (by decide) ?_
          refine ao_cons (acts_of rfl (does_pick (v := .bool (x12.First == 3)) (by conv => lhs; whnf) (by exact rfl))) (by decide) ?_
          refine ao_cons (acts_of rfl (does_assign (v := .bool (x12.First == 3)) (by exact rfl))) (by decide) ?_
          refine ao_nil_n ?_
          refine hK4 _ ?_
          refine aw_ret ?_
          obtain rfl := Option.some.inj h
          exact ret_ok1 (by conv => lhs; whnf) (by conv => lhs; whnf) (by exact rfl) (.inr rfl) rfl
        · have h := ifF c11 h
          refine ao_cons (acts_skip rfl) (by decide) ?_
          refine ao_cons (acts_skip rfl) (by decide) ?_
          refine ao_cons (acts_skip rfl) (by decide) ?_
          refine ao_cons (acts_skip rfl) (by decide) ?_
          refine ao_cons (acts_skip rfl) (by decide) ?_
          refine ao_cons (acts_of rfl (does_pick (v := .bool false) (by conv => lhs; whnf) (by exact rfl))) (by decide) ?_
          refine ao_cons (acts_of rfl (does_assign (v := .bool false) (by exact rfl))) (by decide) ?_
          refine ao_nil_n ?_
          refine hK4 _ ?_
          refine aw_ret ?_
          obtain rfl := Option.some.inj h
          exact ret_ok1 (by conv => lhs; whnf) (by conv => lhs; whnf) (by exact rfl) (.inr rfl) rfl
      · have h := ifF c9 h
        refine ao_cons (acts_skip rfl) (by decide) ?_
        refine ao_cons (acts_skip rfl) (by decide) ?_
        refine ao_cons (acts_skip rfl) (by decide) ?_
        refine ao_cons (acts_skip rfl) (by decide) ?_
        refine ao_cons (acts_of rfl (does_pick (v := .bool false) (by conv => lhs; whnf) (by exact rfl))) (by decide) ?_
        refine ao_cons (acts_of rfl (does_move (v := .bool false) (by exact rfl))) (by decide) ?_
        refine ao_cons (acts_skip rfl) (by decide) ?_
        refine ao_cons (acts_skip rfl) (by decide) ?_
        refine ao_cons (acts_skip rfl) (by decide) ?_
        refine ao_cons (acts_skip rfl) (by decide) ?_
        refine ao_cons (acts_skip rfl) (by decide) ?_
        refine ao_cons (acts_of rfl (does_pick (v := .bool false) (by conv => lhs; whnf) (by exact rfl))) (by decide) ?_
        refine ao_cons (acts_of rfl (does_assign (v := .bool false) (by exact rfl))) (by decide) ?_
        refine ao_nil_n ?_
        refine hK4 _ ?_
        refine aw_ret ?_
        obtain rfl := Option.some.inj h
        exact ret_ok1 (by conv => lhs; whnf) (by conv => lhs; whnf) (by exact rfl) (.inr rfl) rfl
    · have h := ifF c8 h
      refine ao_cons (acts_skip rfl) (by decide) ?_
      refine ao_cons (acts_skip rfl) (by decide) ?_
      refine ao_cons (acts_skip rfl) (by decide) ?_
      refine ao_cons (acts_of rfl (does_pick (v := .bool false) (by conv => lhs; whnf) (by exact rfl))) (by decide) ?_
      refine ao_cons (acts_of rfl (does_move (v := .bool false) (by exact rfl))) (by decide) ?_
      refine ao_cons (acts_skip rfl) (by decide) ?_
      refine ao_cons (acts_skip rfl) (by decide) ?_
      refine ao_cons (acts_skip rfl) (by decide) ?_
      refine ao_cons (acts_skip rfl) (by decide) ?_
      refine ao_cons (acts_of rfl (does_pick (v := .bool false) (by conv => lhs; whnf) (by exact rfl))) (by decide) ?_
      refine ao_cons (acts_of rfl (does_move (v := .bool false) (by exact rfl))) (by decide) ?_
      refine ao_cons (acts_skip rfl) (by decide) ?_
      refine ao_cons (acts_skip rfl) (by decide) ?_
      refine ao_cons (acts_skip rfl) (by decide) ?_
      refine ao_cons (acts_skip rfl) (by decide) ?_
      refine ao_cons (acts_skip rfl) (by decide) ?_
      refine ao_cons (acts_of rfl (does_pick (v := .bool false) (by conv => lhs; whnf) (by exact rfl))) (by decide) ?_
      refine ao_cons (acts_of rfl (does_assign (v := .bool false) (by exact rfl))) (by decide) ?_
      refine ao_nil_n ?_
      refine hK4 _ ?_
      refine aw_ret ?_
      obtain rfl := Option.some.inj h
      exact ret_ok1 (by conv => lhs; whnf) (by conv => lhs; whnf) (by exact rfl) (.inr rfl) rfl
  · have h := ifF c6 h
    refine ao_cons (acts_skip rfl) (by decide) ?_
    refine ao_cons (acts_skip rfl) (by decide) ?_
    refine ao_cons (acts_skip rfl) (by decide) ?_
    refine ao_cons (acts_of rfl (does_pick (v := .bool false) (by conv => lhs; whnf) (by exact rfl))) (by decide) ?_
    refine ao_cons (acts_of rfl (does_move (v := .bool false) (by exact rfl))) (by decide) ?_
    refine ao_cons (acts_skip rfl) (by decide) ?_
    refine ao_cons (acts_skip rfl) (by decide) ?_
    refine ao_cons (acts_skip rfl) (by decide) ?_
    refine ao_cons (acts_of rfl (does_pick (v := .bool false) (by conv => lhs; whnf) (by exact rfl))) (by decide) ?_
    refine ao_cons (acts_of rfl (does_move (v := .bool false) (by exact rfl))) (by decide) ?_
    refine ao_cons (acts_skip rfl) (by decide) ?_
    refine ao_cons (acts_skip rfl) (by decide) ?_
    refine ao_cons (acts_skip rfl) (by decide) ?_
    refine ao_cons (acts_skip rfl) (by decide) ?_
    refine ao_cons (acts_of rfl (does_pick (v := .bool false) (by conv => lhs; whnf) (by exact rfl))) (by decide) ?_
    refine ao_cons (acts_of rfl (does_move (v := .bool false) (by exact rfl))) (by decide) ?_
    refine ao_cons (acts_skip rfl) (by decide) ?_
    refine ao_cons (acts_skip rfl) (by decide) ?_
    refine ao_cons (acts_skip rfl) (by decide) ?_
    refine ao_cons (acts_skip rfl) (by decide) ?_
    refine ao_cons (acts_skip rfl) (by decide) ?_
    refine ao_cons (acts_of rfl (does_pick (v := .bool false) (by conv => lhs; whnf) (by exact rfl))) (by decide) ?_
    refine ao_cons (acts_of rfl (does_assign (v := .bool false) (by exact rfl))) (by decide) ?_
    refine ao_nil_n ?_
    refine hK4 _ ?_
    refine aw_ret ?_
    obtain rfl := Option.some.inj h
    exact ret_ok1 (by conv => lhs; whnf) (by conv => lhs; whnf) (by exact rfl) (.inr rfl) rfl
def gleaninglaw16_BufferOnce_k5 (a0 : List Span) (v9_2 : Int) (v10_4 : Bool) (v12_4 : Int) (v11_5 : Bool) : Option ((Bool × Bool × Int) ⊕ (Bool × Bool)) :=
  if v10_4 = true then (some (Sum.inl (true, v11_5, (IntKind.i64.wrap (v12_4 + 1))))) else (gd (0 ≤ v12_4) (Option.bind (a0[(Int.toNat v12_4)]?) (fun (x52 : Span) => gd (0 ≤ v9_2) (Option.bind (a0[(Int.toNat v9_2)]?) (fun (x54 : Span) => if ((x52.Trace.Hi == x54.Trace.Hi) && ((x52.Trace.Lo == x54.Trace.Lo) && true)) = true then (gd (0 ≤ v12_4) (Option.bind (a0[(Int.toNat v12_4)]?) (fun (x57 : Span) => gd (0 ≤ v9_2) (Option.bind (a0[(Int.toNat v9_2)]?) (fun (x59 : Span) => some (Sum.inl ((x57.Id == x59.Id), v11_5, (IntKind.i64.wrap (v12_4 + 1))))))))) else (some (Sum.inl (false, v11_5, (IntKind.i64.wrap (v12_4 + 1))))))))))
def gleaninglaw16_BufferOnce_l4 (a0 : List Span) (v9_2 : Int) (v10_4 : Bool) (v11_4 : Bool) (v12_4 : Int) : Option ((Bool × Bool × Int) ⊕ (Bool × Bool)) :=
  if (decide (v12_4 < v9_2)) = true then (Option.bind (if v11_4 = true then (some true) else (gd (0 ≤ v12_4) (Option.bind (a0[(Int.toNat v12_4)]?) (fun (x47 : Span) => gd (0 ≤ v9_2) (Option.bind (a0[(Int.toNat v9_2)]?) (fun (x49 : Span) => some ((x47.Trace.Hi == x49.Trace.Hi) && ((x47.Trace.Lo == x49.Trace.Lo) && true)))))))) (fun (s : Bool) => gleaninglaw16_BufferOnce_k5 a0 v9_2 v10_4 v12_4 s)) else (some (Sum.inr (v10_4, v11_4)))
def gleaninglaw16_BufferOnce_k7 (v9_2 : Int) (x31 : List Episode) (v8_s_6 : List Trace) (v7_7 : Int) : Option ((List Episode × Int × List Trace × Int) ⊕ ((List Episode × List Trace) ⊕ Bool)) :=
  Option.bind (buffer_Count x31) (fun (x72 : Int) => if (x72 != v7_7) = true then (some (Sum.inr (Sum.inr false))) else (if ((List.length x31 : Int) != (List.length v8_s_6 : Int)) = true then (some (Sum.inr (Sum.inr false))) else (some (Sum.inl (x31, v7_7, v8_s_6, (IntKind.i64.wrap (v9_2 + 1)))))))
def gleaninglaw16_BufferOnce_k6 (v7_2 : Int) (v9_2 : Int) (x31 : List Episode) (v10_3 : Bool) (v8_s_6 : List Trace) : Option ((List Episode × Int × List Trace × Int) ⊕ ((List Episode × List Trace) ⊕ Bool)) :=
  Option.bind (if (!v10_3) = true then (some (IntKind.i64.wrap (v7_2 + 1))) else (some v7_2)) (fun (s : Int) => gleaninglaw16_BufferOnce_k7 v9_2 x31 v8_s_6 s)
def gleaninglaw16_BufferOnce_k3 (a0 : List Span) (v7_2 : Int) (v8_s_2 : List Trace) (v9_2 : Int) (x31 : List Episode) (v10_3 : Bool) (v11_3 : Bool) : Option ((List Episode × Int × List Trace × Int) ⊕ ((List Episode × List Trace) ⊕ Bool)) :=
  Option.bind (if (!v11_3) = true then (gd (0 ≤ v9_2) (Option.bind (a0[(Int.toNat v9_2)]?) (fun (x65 : Span) => gd ((List.length (v8_s_2 ++ [x65.Trace])) * 16 ≤ 140737488355328 ∧ (List.length (v8_s_2 ++ [x65.Trace])) ≤ 140737488355328) (some (v8_s_2 ++ [x65.Trace]))))) else (some v8_s_2)) (fun (s : List Trace) => gleaninglaw16_BufferOnce_k6 v7_2 v9_2 x31 v10_3 s)
def gleaninglaw16_BufferOnce_l2 (a0 : List Span) (a1 : List Bool) (v6_s_2 : List Episode) (v7_2 : Int) (v8_s_2 : List Trace) (v9_2 : Int) : Option ((List Episode × Int × List Trace × Int) ⊕ ((List Episode × List Trace) ⊕ Bool)) :=
  if (decide (v9_2 < (List.length a0 : Int))) = true then (gd (0 ≤ v9_2) (Option.bind (a0[(Int.toNat v9_2)]?) (fun (x28 : Span) => gd (0 ≤ v9_2) (Option.bind (a1[(Int.toNat v9_2)]?) (fun (x30 : Bool) => Option.bind (buffer_Put v6_s_2 x28 v9_2 x30) (fun (x31 : List Episode) => Option.bind (loopN (fun (s : Bool × Bool × Int) => gleaninglaw16_BufferOnce_l4 a0 v9_2 s.1 s.2.1 s.2.2) Fu (false, false, 0)) (fun (s : Bool × Bool) => gleaninglaw16_BufferOnce_k3 a0 v7_2 v8_s_2 v9_2 x31 s.1 s.2))))))) else (some (Sum.inr (Sum.inl (v6_s_2, v8_s_2))))
def gleaninglaw16_BufferOnce_k11 (a1 : List Bool) (v16_10 : Bool) (v17_10 : Int) (v14_11 : Int) : Option ((Int × Int × Bool × Int) ⊕ (Int × Int × Bool)) :=
  if v16_10 = true then (some (Sum.inl (v14_11, v17_10, true, (IntKind.i64.wrap (v17_10 + 1))))) else (gd (0 ≤ v17_10) (Option.bind (a1[(Int.toNat v17_10)]?) (fun (x110 : Bool) => some (Sum.inl (v14_11, v17_10, x110, (IntKind.i64.wrap (v17_10 + 1)))))))
def gleaninglaw16_BufferOnce_l10 (a0 : List Span) (a1 : List Bool) (v8_s_1 : List Trace) (v13_8 : Int) (v14_10 : Int) (v15_10 : Int) (v16_10 : Bool) (v17_10 : Int) : Option ((Int × Int × Bool × Int) ⊕ (Int × Int × Bool)) :=
  if (decide (v17_10 < (List.length a0 : Int))) = true then (gd (0 ≤ v17_10) (Option.bind (a0[(Int.toNat v17_10)]?) (fun (x99 : Span) => gd (0 ≤ v13_8) (Option.bind (v8_s_1[(Int.toNat v13_8)]?) (fun (x101 : Trace) => if ((x99.Trace.Hi == x101.Hi) && ((x99.Trace.Lo == x101.Lo) && true)) = true then (Option.bind (if (decide (v14_10 < 0)) = true then (some v17_10) else (some v14_10)) (fun (s : Int) => gleaninglaw16_BufferOnce_k11 a1 v16_10 v17_10 s)) else (some (Sum.inl (v14_10, v15_10, v16_10, (IntKind.i64.wrap (v17_10 + 1)))))))))) else (some (Sum.inr (v14_10, v15_10, v16_10)))
def gleaninglaw16_BufferOnce_k9 (v6_s_1 : List Episode) (v8_s_1 : List Trace) (v13_8 : Int) (v14_9 : Int) (v15_9 : Int) (v16_9 : Bool) : Option (Int ⊕ Bool) :=
  gd (0 ≤ v13_8) (Option.bind (v6_s_1[(Int.toNat v13_8)]?) (fun (x113 : Episode) => gd (0 ≤ v13_8) (Option.bind (v8_s_1[(Int.toNat v13_8)]?) (fun (x115 : Trace) => if (!((x113.Trace.Hi == x115.Hi) && ((x113.Trace.Lo == x115.Lo) && true))) = true then (some (Sum.inr false)) else (gd (0 ≤ v13_8) (Option.bind (v6_s_1[(Int.toNat v13_8)]?) (fun (x119 : Episode) => if (x119.First != v14_9) = true then (some (Sum.inr false)) else (gd (0 ≤ v13_8) (Option.bind (v6_s_1[(Int.toNat v13_8)]?) (fun (x123 : Episode) => if (x123.Last != v15_9) = true then (some (Sum.inr false)) else (gd (0 ≤ v13_8) (Option.bind (v6_s_1[(Int.toNat v13_8)]?) (fun (x127 : Episode) => if (!(x127.Sure == v16_9)) = true then (some (Sum.inr false)) else (some (Sum.inl (IntKind.i64.wrap (v13_8 + 1)))))))))))))))))
def gleaninglaw16_BufferOnce_l8 (a0 : List Span) (a1 : List Bool) (v6_s_1 : List Episode) (v8_s_1 : List Trace) (v13_8 : Int) : Option (Int ⊕ Bool) :=
  if (decide (v13_8 < (List.length v6_s_1 : Int))) = true then (Option.bind (loopN (fun (s : Int × Int × Bool × Int) => gleaninglaw16_BufferOnce_l10 a0 a1 v8_s_1 v13_8 s.1 s.2.1 s.2.2.1 s.2.2.2) Fu (-1, -1, false, 0)) (fun (s : Int × Int × Bool) => gleaninglaw16_BufferOnce_k9 v6_s_1 v8_s_1 v13_8 s.1 s.2.1 s.2.2)) else (some (Sum.inr true))
def gleaninglaw16_BufferOnce_k1 (a0 : List Span) (a1 : List Bool) (v6_s_1 : List Episode) (v8_s_1 : List Trace) : Option Bool :=
  loopN (fun (s : Int) => gleaninglaw16_BufferOnce_l8 a0 a1 v6_s_1 v8_s_1 s) Fu 0
def gleaninglaw16_BufferOnce_k0 (a0 : List Span) (a1 : List Bool) : Option Bool :=
  Option.bind (loopN (fun (s : List Episode × Int × List Trace × Int) => gleaninglaw16_BufferOnce_l2 a0 a1 s.1 s.2.1 s.2.2.1 s.2.2.2) Fu ([], 0, [], 0)) (Sum.elim (fun (s : List Episode × List Trace) => gleaninglaw16_BufferOnce_k1 a0 a1 s.1 s.2) some)
def gleaninglaw16_BufferOnce (a0 : List Span) (a1 : List Bool) : Option Bool :=
  Option.bind (gleaninglaw16_alive) (fun (x3 : Bool) => Option.bind (if (!x3) = true then (some (Sum.inr x3)) else (Option.bind (gleaninglaw3_FewAll a0) (fun (x9 : Bool) => if (!x9) = true then (some (Sum.inr x3)) else (if (decide ((List.length a1 : Int) < (List.length a0 : Int))) = true then (some (Sum.inr x3)) else (some (Sum.inl ())))))) (Sum.elim (fun (s : Unit) => gleaninglaw16_BufferOnce_k0 a0 a1) some))
set_option maxRecDepth 100000 in
set_option maxHeartbeats 8000000 in
/-- gleaning/gleaninglaw16.BufferOnce -/
theorem gleaninglaw16_BufferOnce_ok (a0 : List Span) (a1 : List Bool) {r : Bool} (h : gleaninglaw16_BufferOnce a0 a1 = some r) : Ok Try.prog 6 [.sl 10 (List.map enc30 a0), .sl 1 (List.map enc4 a1)] [] [] (.bool r) [] [] := by
  unfold gleaninglaw16_BufferOnce at h
  refine ok_of_code Try.func6 rfl (by show (2 : Nat) ≤ _; decide) (Nat.le_refl _) fun X => ?_
  refine aw_seq_k (fun K1 hK1 => ?_)
  refine aw_reg ?_
  refine ao_cons (acts_of rfl (does_assign (v := .bool false) (by exact rfl))) (by decide) ?_
  refine ao_nil_n ?_
  refine hK1 _ ?_
  refine aw_seq_k (fun K2 hK2 => ?_)
  refine aw_reg ?_
  obtain ⟨x3, hx3, h⟩ := bnd_some h
  refine ao_cons (acts_of rfl (do_call0 18 false (gleaninglaw16_alive_ok hx3) rfl ent24 rfl rfl)) (by decide) ?_
  refine ao_cons (acts_of rfl (does_assign (v := .bool x3) (by exact rfl))) (by decide) ?_
  refine ao_nil_n ?_
  refine hK2 _ ?_
  obtain ⟨q4, h, hk5⟩ := bnd_some h
  refine aw_cut (fun s => gleaninglaw16_BufferOnce_k0 a0 a1 = some r ∧ s = lit [(0, .sl 10 (List.map enc30 a0)), (1, .sl 1 (List.map enc4 a1))] [] [] X) ?_ ?_
  · skip
    refine aw_seq_k (fun K6 hK6 => ?_)
    refine aw_reg ?_
    refine ao_cons (acts_of rfl (does_move (v := .bool x3) (by exact rfl))) (by decide) ?_
    refine ao_cons (acts_of rfl (does_un (v := .bool (!x3)) (by conv => lhs; whnf) rfl)) (by decide) ?_
    refine ao_cons (acts_of rfl (does_move (v := .bool (!x3)) (by exact rfl))) (by decide) ?_
    refine ao_bool (c := (!x3)) 21 rfl (fun c7 => ?_) (fun c7 => ?_)
    · have h := ifT c7 h
      refine ao_cons (acts_skip rfl) (by decide) ?_
      refine ao_cons (acts_skip rfl) (by decide) ?_
      refine ao_cons (acts_skip rfl) (by decide) ?_
      refine ao_cons (acts_of rfl (does_pick (v := .bool true) (by conv => lhs; whnf) (by exact rfl))) (by decide) ?_
      refine ao_cons (acts_of rfl (does_move (v := .bool true) (by exact rfl))) (by decide) ?_
      refine ao_cons (acts_skip rfl) (by decide) ?_
      refine ao_cons (acts_skip rfl) (by decide) ?_
      refine ao_cons (acts_skip rfl) (by decide) ?_
      refine ao_cons (acts_skip rfl) (by decide) ?_
      refine ao_cons (acts_skip rfl) (by decide) ?_
      refine ao_cons (acts_of rfl (does_pick (v := .bool true) (by conv => lhs; whnf) (by exact rfl))) (by decide) ?_
      refine ao_nil_n ?_
      refine hK6 _ ?_
      refine aw_cond_t (by decide) rfl ?_
      refine aw_seq_k (fun K8 hK8 => ?_)
      refine aw_reg ?_
      refine ao_cons (acts_of rfl (does_move (v := .bool x3) (by exact rfl))) (by decide) ?_
      refine ao_cons (acts_of rfl (does_assign (v := .bool x3) (by exact rfl))) (by decide) ?_
      refine ao_nil_n ?_
      refine hK8 _ ?_
      refine aw_ret ?_
      have h := leafR h hk5
      obtain rfl := Option.some.inj h
      exact ret_ok1 (by conv => lhs; whnf) (by conv => lhs; whnf) (by exact rfl) (.inr rfl) rfl
    · have h := ifF c7 h
      refine ao_cons (acts_of rfl (does_move (v := .sl 10 (List.map enc30 a0)) (by exact rfl))) (by decide) ?_
      obtain ⟨x9, hx9, h⟩ := bnd_some h
      refine ao_cons (acts_of rfl (do_call0 23 false (gleaninglaw3_FewAll_ok a0 hx9) rfl ent25 rfl rfl)) (by decide) ?_
      refine ao_cons (acts_of rfl (does_un (v := .bool (!x9)) (by conv => lhs; whnf) rfl)) (by decide) ?_
      refine ao_cons (acts_of rfl (does_pick (v := .bool (!x9)) (by conv => lhs; whnf) (by exact rfl))) (by decide) ?_
      refine ao_cons (acts_of rfl (does_move (v := .bool (!x9)) (by exact rfl))) (by decide) ?_
      refine ao_bool (c := (!x9)) 26 rfl (fun c10 => ?_) (fun c10 => ?_)
      · have h := ifT c10 h
        refine ao_cons (acts_skip rfl) (by decide) ?_
        refine ao_cons (acts_skip rfl) (by decide) ?_
        refine ao_cons (acts_skip rfl) (by decide) ?_
        refine ao_cons (acts_skip rfl) (by decide) ?_
        refine ao_cons (acts_skip rfl) (by decide) ?_
        refine ao_cons (acts_of rfl (does_pick (v := .bool true) (by conv => lhs; whnf) (by exact rfl))) (by decide) ?_
        refine ao_nil_n ?_
        refine hK6 _ ?_
        refine aw_cond_t (by decide) rfl ?_
        refine aw_seq_k (fun K11 hK11 => ?_)
        refine aw_reg ?_
        refine ao_cons (acts_of rfl (does_move (v := .bool x3) (by exact rfl))) (by decide) ?_
        refine ao_cons (acts_of rfl (does_assign (v := .bool x3) (by exact rfl))) (by decide) ?_
        refine ao_nil_n ?_
        refine hK11 _ ?_
        refine aw_ret ?_
        have h := leafR h hk5
        obtain rfl := Option.some.inj h
        exact ret_ok1 (by conv => lhs; whnf) (by conv => lhs; whnf) (by exact rfl) (.inr rfl) rfl
      · have h := ifF c10 h
        refine ao_cons (acts_of rfl (does_move (v := .sl 1 (List.map enc4 a1)) (by exact rfl))) (by decide) ?_
        refine ao_cons (acts_of rfl ((does_len_sl (by conv => lhs; whnf) ty45).castp (v' := .int .i64 (List.length a1 : Int)) (by exact len_map _))) (by decide) ?_
        refine ao_cons (acts_of rfl (does_move (v := .sl 10 (List.map enc30 a0)) (by exact rfl))) (by decide) ?_
        refine ao_cons (acts_of rfl ((does_len_sl (by conv => lhs; whnf) ty26).castp (v' := .int .i64 (List.length a0 : Int)) (by exact len_map _))) (by decide) ?_
        refine ao_cons (acts_of rfl (does_bin (v := .bool (decide ((List.length a1 : Int) < (List.length a0 : Int)))) (by conv => lhs; whnf) (by conv => lhs; whnf) rfl)) (by decide) ?_
        refine ao_cons (acts_of rfl (does_pick (v := .bool (decide ((List.length a1 : Int) < (List.length a0 : Int)))) (by conv => lhs; whnf) (by exact rfl))) (by decide) ?_
        refine ao_nil_n ?_
        refine hK6 _ ?_
        refine aw_bool (b := (decide ((List.length a1 : Int) < (List.length a0 : Int)))) 32 rfl (fun c12 => ?_) (fun c12 => ?_)
        · have h := ifT c12 h
          refine aw_cond_t (by decide) rfl ?_
          refine aw_seq_k (fun K13 hK13 => ?_)
          refine aw_reg ?_
          refine ao_cons (acts_of rfl (does_move (v := .bool x3) (by exact rfl))) (by decide) ?_
          refine ao_cons (acts_of rfl (does_assign (v := .bool x3) (by exact rfl))) (by decide) ?_
          refine ao_nil_n ?_
          refine hK13 _ ?_
          refine aw_ret ?_
          have h := leafR h hk5
          obtain rfl := Option.some.inj h
          exact ret_ok1 (by conv => lhs; whnf) (by conv => lhs; whnf) (by exact rfl) (.inr rfl) rfl
        · have h := ifF c12 h
          refine aw_cond_f (by decide) rfl ?_
          refine aw_skip ?_
          have h := leafL h hk5
          exact ⟨_, reb_lit [(0, .sl 10 (List.map enc30 a0)), (1, .sl 1 (List.map enc4 a1))] [] [] [] (envOk_cons (by conv => lhs; whnf) (by exact rfl) (envOk_cons (by conv => lhs; whnf) (by exact rfl) envOk_nil)) objOk_nil (nodup_b rfl) (nodup_b rfl) rfl rfl, h, rfl⟩
  · rintro s ⟨h, rfl⟩
    unfold gleaninglaw16_BufferOnce_k0 at h
    refine aw_seq_k (fun K14 hK14 => ?_)
    refine aw_reg ?_
    refine ao_cons (acts_of rfl (does_assign (v := .nil) (by exact rfl))) (by decide) ?_
    refine ao_nil_n ?_
    refine hK14 _ ?_
    refine aw_seq_k (fun K15 hK15 => ?_)
    refine aw_reg ?_
    refine ao_cons (acts_of rfl (does_assign (v := .int .i64 0) (by exact rfl))) (by decide) ?_
    refine ao_nil_n ?_
    refine hK15 _ ?_
    refine aw_seq_k (fun K16 hK16 => ?_)
    refine aw_reg ?_
    refine ao_cons (acts_of rfl (does_assign (v := .nil) (by exact rfl))) (by decide) ?_
    refine ao_nil_n ?_
    refine hK16 _ ?_
    obtain ⟨q17, h, hk18⟩ := bnd_some h
    refine aw_cut (fun s => ∃ (v6_s_1 : List Episode), ∃ (v8_s_1 : List Trace), gleaninglaw16_BufferOnce_k1 a0 a1 v6_s_1 v8_s_1 = some r ∧ s = lit [(0, .sl 10 (List.map enc30 a0)), (1, .sl 1 (List.map enc4 a1)), (6, .own 6 0), (8, .own 8 0)] [((6, 0), .arr 28 6 false (List.map enc27 v6_s_1)), ((8, 0), .arr 25 2 false (List.map enc24 v8_s_1))] [(6, 1), (8, 1)] X) ?_ ?_
    · skip
      refine aw_seq_k (fun K19 hK19 => ?_)
      refine aw_reg ?_
      refine ao_cons (acts_of rfl (does_assign (v := .int .i64 0) (by exact rfl))) (by decide) ?_
      refine ao_nil_n ?_
      refine hK19 _ ?_
      refine aw_block ?_
      refine aw_nilOwn 6 28 6 (by conv => lhs; whnf) (by decide) (by decide) ?_
      refine aw_nilOwn 8 25 2 (by conv => lhs; whnf) (by decide) (by decide) ?_
      refine aw_loop' (fun m s => ∃ (v6_s_2 : List Episode), ∃ (v7_2 : Int), ∃ (v8_s_2 : List Trace), ∃ (v9_2 : Int), loopN (fun (s : List Episode × Int × List Trace × Int) => gleaninglaw16_BufferOnce_l2 a0 a1 s.1 s.2.1 s.2.2.1 s.2.2.2) m (v6_s_2, v7_2, v8_s_2, v9_2) = some q17 ∧ s = lit [(0, .sl 10 (List.map enc30 a0)), (1, .sl 1 (List.map enc4 a1)), (6, .own 6 0), (7, .int .i64 v7_2), (8, .own 8 0), (9, .int .i64 v9_2)] [((6, 0), .arr 28 6 false (List.map enc27 v6_s_2)), ((8, 0), .arr 25 2 false (List.map enc24 v8_s_2))] [(6, 1), (8, 1)] X) Fu
        ⟨_, reb_lit [(0, .sl 10 (List.map enc30 a0)), (1, .sl 1 (List.map enc4 a1)), (6, .own 6 0), (7, .int .i64 (0)), (8, .own 8 0), (9, .int .i64 (0))] [(6, 0), (8, 0)] [((6, 0), .arr 28 6 false (List.map enc27 [])), ((8, 0), .arr 25 2 false (List.map enc24 []))] [(6, 1), (8, 1)] (envOk_cons (by conv => lhs; whnf) (by exact rfl) (envOk_cons (by conv => lhs; whnf) (by exact rfl) (envOk_cons (by conv => lhs; whnf) (by exact rfl) (envOk_cons (by conv => lhs; whnf) (by exact rfl) (envOk_cons (by conv => lhs; whnf) (by exact rfl) (envOk_cons (by conv => lhs; whnf) (by exact rfl) envOk_nil)))))) (objOk_cons (by conv => lhs; whnf) (by conv => lhs; whnf) (by exact rfl) (by simp) (objOk_cons (by conv => lhs; whnf) (by conv => lhs; whnf) (by exact rfl) (by simp) objOk_nil)) (nodup_b rfl) (nodup_b rfl) rfl rfl, [], 0, [], 0, h, rfl⟩ ?_
      rintro m s ⟨v6_s_2, v7_2, v8_s_2, v9_2, h, rfl⟩
      obtain ⟨m2, q20, rfl, h, hq21⟩ := loop_some h
      replace h : gleaninglaw16_BufferOnce_l2 a0 a1 v6_s_2 v7_2 v8_s_2 v9_2 = some q20 := h
      unfold gleaninglaw16_BufferOnce_l2 at h
      refine aw_seq_k (fun K22 hK22 => ?_)
      refine aw_seq_k (fun K23 hK23 => ?_)
      refine aw_reg ?_
      refine ao_cons (acts_of rfl (does_move (v := .int .i64 v9_2) (by exact rfl))) (by decide) ?_
      refine ao_cons (acts_of rfl (does_move (v := .sl 10 (List.map enc30 a0)) (by exact rfl))) (by decide) ?_
      refine ao_cons (acts_of rfl ((does_len_sl (by conv => lhs; whnf) ty26).castp (v' := .int .i64 (List.length a0 : Int)) (by exact len_map _))) (by decide) ?_
      refine ao_cons (acts_of rfl (does_bin (v := .bool (decide (v9_2 < (List.length a0 : Int)))) (by conv => lhs; whnf) (by conv => lhs; whnf) rfl)) (by decide) ?_
      refine ao_nil_n ?_
      refine hK23 _ ?_
      refine aw_bool (b := (decide (v9_2 < (List.length a0 : Int)))) 37 rfl (fun c24 => ?_) (fun c24 => ?_)
      · have h := ifT c24 h
        refine aw_cond_t (by decide) rfl ?_
        refine aw_skip ?_
        refine hK22 _ ?_
        refine aw_seq_k (fun K25 hK25 => ?_)
        refine aw_block ?_
        refine aw_seq_k (fun K26 hK26 => ?_)
        refine aw_regd (by kernel_rfl) (by decide +kernel) ?_
        refine ao_cons (acts_of rfl (does_move (v := .own 6 0) (by exact rfl))) (by decide) ?_
        refine ao_cons (acts_of rfl (does_move (v := .sl 10 (List.map enc30 a0)) (by exact rfl))) (by decide) ?_
        refine ao_cons (acts_of rfl (does_move (v := .int .i64 v9_2) (by exact rfl))) (by decide) ?_
        obtain ⟨g27, h⟩ := gd_some h
        obtain ⟨x28, hx28, h⟩ := bnd_some h
        refine ao_cons (acts_of rfl (does_indexAddr_sl (el := .agg [.int .u64 x28.Trace.Hi, .int .u64 x28.Trace.Lo, .int .u64 x28.Id, .int .u64 x28.Parent, .str x28.Service, .str x28.Op, .int .i64 x28.Start, .int .i64 x28.Dur, .bool x28.Err, .sl 2 (List.map enc68 x28.Attrs)]) (by conv => lhs; whnf) (by conv => lhs; whnf) ty26 ty31 g27 (by exact map_get hx28))) (by decide) ?_
        refine ao_cons (acts_of rfl (does_load (v := .agg [.int .u64 x28.Trace.Hi, .int .u64 x28.Trace.Lo, .int .u64 x28.Id, .int .u64 x28.Parent, .str x28.Service, .str x28.Op, .int .i64 x28.Start, .int .i64 x28.Dur, .bool x28.Err, .sl 2 (List.map enc68 x28.Attrs)]) (by conv => lhs; whnf) (by conv => lhs; whnf) ty31 (by exact rfl))) (by decide) ?_
        refine ao_cons (acts_of rfl (does_move (v := .int .i64 v9_2) (by exact rfl))) (by decide) ?_
        refine ao_cons (acts_of rfl (does_move (v := .sl 1 (List.map enc4 a1)) (by exact rfl))) (by decide) ?_
        refine ao_cons (acts_of rfl (does_move (v := .int .i64 v9_2) (by exact rfl))) (by decide) ?_
        obtain ⟨g29, h⟩ := gd_some h
        obtain ⟨x30, hx30, h⟩ := bnd_some h
        refine ao_cons (acts_of rfl (does_indexAddr_sl (el := .bool x30) (by conv => lhs; whnf) (by conv => lhs; whnf) ty45 ty4 g29 (by exact map_get hx30))) (by decide) ?_
        refine ao_cons (acts_of rfl (does_load (v := .bool x30) (by conv => lhs; whnf) (by conv => lhs; whnf) ty4 (by exact rfl))) (by decide) ?_
        obtain ⟨x31, hx31, h⟩ := bnd_some h
        refine ao_cons (acts_of rfl (does_frz (d := 6) (n := 0) (by conv => lhs; whnf) (do_callG (bcs := []) [] [] [(6, 0)] 50 false (buffer_Put_ok v6_s_2 x28 v9_2 x30 hx31) rfl ent26 trivial trivial rfl rfl rfl rfl rfl rfl rfl rfl (.inl ⟨⟨_, _, _, rfl⟩, trivial⟩)))) (by decide) ?_
        refine ao_cons (acts_of rfl (does_assign (v := .own 50 0) (by exact rfl))) (by decide) ?_
        refine ao_nil_d (by kernel_rfl) ?_
        refine hK26 _ ?_
        refine aw_seq_k (fun K32 hK32 => ?_)
        refine aw_reg ?_
        refine ao_cons (acts_of rfl (does_assign (v := .bool false) (by exact rfl))) (by decide) ?_
        refine ao_nil_n ?_
        refine hK32 _ ?_
        refine aw_seq_k (fun K33 hK33 => ?_)
        refine aw_reg ?_
        refine ao_cons (acts_of rfl (does_assign (v := .bool false) (by exact rfl))) (by decide) ?_
        refine ao_nil_n ?_
        refine hK33 _ ?_
        obtain ⟨q34, h, hk35⟩ := bnd_some h
        refine aw_cut (fun s => ∃ (v10_3 : Bool), ∃ (v11_3 : Bool), gleaninglaw16_BufferOnce_k3 a0 v7_2 v8_s_2 v9_2 x31 v10_3 v11_3 = some q20 ∧ s = lit [(0, .sl 10 (List.map enc30 a0)), (1, .sl 1 (List.map enc4 a1)), (6, .own 50 0), (7, .int .i64 v7_2), (8, .own 8 0), (9, .int .i64 v9_2), (10, .bool v10_3), (11, .bool v11_3)] [((50, 0), .arr 28 6 false (List.map enc27 x31)), ((8, 0), .arr 25 2 false (List.map enc24 v8_s_2))] [(8, 1), (50, 1)] X) ?_ ?_
        · skip
          refine aw_seq_k (fun K36 hK36 => ?_)
          refine aw_reg ?_
          refine ao_cons (acts_of rfl (does_assign (v := .int .i64 0) (by exact rfl))) (by decide) ?_
          refine ao_nil_n ?_
          refine hK36 _ ?_
          refine aw_block ?_
          refine aw_loop' (fun m s => ∃ (v10_4 : Bool), ∃ (v11_4 : Bool), ∃ (v12_4 : Int), loopN (fun (s : Bool × Bool × Int) => gleaninglaw16_BufferOnce_l4 a0 v9_2 s.1 s.2.1 s.2.2) m (v10_4, v11_4, v12_4) = some q34 ∧ s = lit [(0, .sl 10 (List.map enc30 a0)), (1, .sl 1 (List.map enc4 a1)), (6, .own 50 0), (7, .int .i64 v7_2), (8, .own 8 0), (9, .int .i64 v9_2), (10, .bool v10_4), (11, .bool v11_4), (12, .int .i64 v12_4)] [((50, 0), .arr 28 6 false (List.map enc27 x31)), ((8, 0), .arr 25 2 false (List.map enc24 v8_s_2))] [(8, 1), (50, 1)] X) Fu
            ⟨_, reb_lit [(0, .sl 10 (List.map enc30 a0)), (1, .sl 1 (List.map enc4 a1)), (6, .own 50 0), (7, .int .i64 v7_2), (8, .own 8 0), (9, .int .i64 v9_2), (10, .bool false), (11, .bool false), (12, .int .i64 (0))] [(50, 0), (8, 0)] [((50, 0), .arr 28 6 false (List.map enc27 x31)), ((8, 0), .arr 25 2 false (List.map enc24 v8_s_2))] [(8, 1), (50, 1)] (envOk_cons (by conv => lhs; whnf) (by exact rfl) (envOk_cons (by conv => lhs; whnf) (by exact rfl) (envOk_cons (by conv => lhs; whnf) (by exact rfl) (envOk_cons (by conv => lhs; whnf) (by exact rfl) (envOk_cons (by conv => lhs; whnf) (by exact rfl) (envOk_cons (by conv => lhs; whnf) (by exact rfl) (envOk_cons (by conv => lhs; whnf) (by exact rfl) (envOk_cons (by conv => lhs; whnf) (by exact rfl) (envOk_cons (by conv => lhs; whnf) (by exact rfl) envOk_nil))))))))) (objOk_cons (by conv => lhs; whnf) (by conv => lhs; whnf) (by exact rfl) (by simp) (objOk_cons (by conv => lhs; whnf) (by conv => lhs; whnf) (by exact rfl) (by simp) objOk_nil)) (nodup_b rfl) (nodup_b rfl) rfl rfl, false, false, 0, h, rfl⟩ ?_
          rintro m s ⟨v10_4, v11_4, v12_4, h, rfl⟩
          obtain ⟨m4, q37, rfl, h, hq38⟩ := loop_some h
          replace h : gleaninglaw16_BufferOnce_l4 a0 v9_2 v10_4 v11_4 v12_4 = some q37 := h
          unfold gleaninglaw16_BufferOnce_l4 at h
          refine aw_seq_k (fun K39 hK39 => ?_)
          refine aw_seq_k (fun K40 hK40 => ?_)
          refine aw_reg ?_
          refine ao_cons (acts_of rfl (does_move (v := .int .i64 v12_4) (by exact rfl))) (by decide) ?_
          refine ao_cons (acts_of rfl (does_move (v := .int .i64 v9_2) (by exact rfl))) (by decide) ?_
          refine ao_cons (acts_of rfl (does_bin (v := .bool (decide (v12_4 < v9_2))) (by conv => lhs; whnf) (by conv => lhs; whnf) rfl)) (by decide) ?_
          refine ao_nil_n ?_
          refine hK40 _ ?_
          refine aw_bool (b := (decide (v12_4 < v9_2))) 53 rfl (fun c41 => ?_) (fun c41 => ?_)
          · have h := ifT c41 h
            refine aw_cond_t (by decide) rfl ?_
            refine aw_skip ?_
            refine hK39 _ ?_
            refine aw_seq_k (fun K42 hK42 => ?_)
            refine aw_block ?_
            obtain ⟨q43, h, hk44⟩ := bnd_some h
            refine aw_cut (fun s => ∃ (v11_5 : Bool), gleaninglaw16_BufferOnce_k5 a0 v9_2 v10_4 v12_4 v11_5 = some q37 ∧ s = lit [(0, .sl 10 (List.map enc30 a0)), (1, .sl 1 (List.map enc4 a1)), (6, .own 50 0), (7, .int .i64 v7_2), (8, .own 8 0), (9, .int .i64 v9_2), (10, .bool v10_4), (11, .bool v11_5), (12, .int .i64 v12_4)] [((50, 0), .arr 28 6 false (List.map enc27 x31)), ((8, 0), .arr 25 2 false (List.map enc24 v8_s_2))] [(8, 1), (50, 1)] X) ?_ ?_
            · skip
              refine aw_regd (by kernel_rfl) (by decide +kernel) ?_
              refine ao_cons (acts_of rfl (does_move (v := .bool v11_4) (by exact rfl))) (by decide) ?_
              refine ao_cons (acts_of rfl (does_move (v := .bool v11_4) (by exact rfl))) (by decide) ?_
              refine ao_bool (c := v11_4) 57 rfl (fun c45 => ?_) (fun c45 => ?_)
              · have h := ifT c45 h
                refine ao_cons (acts_skip rfl) (by decide) ?_
                refine ao_cons (acts_skip rfl) (by decide) ?_
                refine ao_cons (acts_skip rfl) (by decide) ?_
                refine ao_cons (acts_skip rfl) (by decide) ?_
                refine ao_cons (acts_skip rfl) (by decide) ?_
                refine ao_cons (acts_skip rfl) (by decide) ?_
                refine ao_cons (acts_skip rfl) (by decide) ?_
                refine ao_cons (acts_skip rfl) (by decide) ?_
                refine ao_cons (acts_skip rfl) (by decide) ?_
                refine ao_cons (acts_skip rfl) (by decide) ?_
                refine ao_cons (acts_skip rfl) (by decide) ?_
                refine ao_cons (acts_of rfl (does_pick (v := .bool true) (by conv => lhs; whnf) (by exact rfl))) (by decide) ?_
                refine ao_cons (acts_of rfl (does_assign (v := .bool true) (by exact rfl))) (by decide) ?_
                refine ao_nil_d (by kernel_rfl) ?_
                obtain rfl := Option.some.inj h
                have h := hk44
                exact ⟨_, reb_lit [(0, .sl 10 (List.map enc30 a0)), (1, .sl 1 (List.map enc4 a1)), (6, .own 50 0), (7, .int .i64 v7_2), (8, .own 8 0), (9, .int .i64 v9_2), (10, .bool v10_4), (11, .bool true), (12, .int .i64 v12_4)] [(50, 0), (8, 0)] [((50, 0), .arr 28 6 false (List.map enc27 x31)), ((8, 0), .arr 25 2 false (List.map enc24 v8_s_2))] [(8, 1), (50, 1)] (envOk_cons (by conv => lhs; whnf) (by exact rfl) (envOk_cons (by conv => lhs; whnf) (by exact rfl) (envOk_cons (by conv => lhs; whnf) (by exact rfl) (envOk_cons (by conv => lhs; whnf) (by exact rfl) (envOk_cons (by conv => lhs; whnf) (by exact rfl) (envOk_cons (by conv => lhs; whnf) (by exact rfl) (envOk_cons (by conv => lhs; whnf) (by exact rfl) (envOk_cons (by conv => lhs; whnf) (by exact rfl) (envOk_cons (by conv => lhs; whnf) (by exact rfl) envOk_nil))))))))) (objOk_cons (by conv => lhs; whnf) (by conv => lhs; whnf) (by exact rfl) (by simp) (objOk_cons (by conv => lhs; whnf) (by conv => lhs; whnf) (by exact rfl) (by simp) objOk_nil)) (nodup_b rfl) (nodup_b rfl) rfl rfl, true, h, rfl⟩
              · have h := ifF c45 h
                refine ao_cons (acts_of rfl (does_move (v := .sl 10 (List.map enc30 a0)) (by exact rfl))) (by decide) ?_
                refine ao_cons (acts_of rfl (does_move (v := .int .i64 v12_4) (by exact rfl))) (by decide) ?_
                obtain ⟨g46, h⟩ := gd_some h
                obtain ⟨x47, hx47, h⟩ := bnd_some h
                refine ao_cons (acts_of rfl (does_indexAddr_sl (el := .agg [.int .u64 x47.Trace.Hi, .int .u64 x47.Trace.Lo, .int .u64 x47.Id, .int .u64 x47.Parent, .str x47.Service, .str x47.Op, .int .i64 x47.Start, .int .i64 x47.Dur, .bool x47.Err, .sl 2 (List.map enc68 x47.Attrs)]) (by conv => lhs; whnf) (by conv => lhs; whnf) ty26 ty31 g46 (by exact map_get hx47))) (by decide) ?_
                refine ao_cons (acts_of rfl (does_fieldAddr (q := .rptr [.int .u64 x47.Trace.Hi, .int .u64 x47.Trace.Lo, .int .u64 x47.Id, .int .u64 x47.Parent, .str x47.Service, .str x47.Op, .int .i64 x47.Start, .int .i64 x47.Dur, .bool x47.Err, .sl 2 (List.map enc68 x47.Attrs)]) (by conv => lhs; whnf) ty31 rfl ty25 (by decide) (by exact rfl))) (by decide) ?_
                refine ao_cons (acts_of rfl (does_load (v := .agg [.int .u64 x47.Trace.Hi, .int .u64 x47.Trace.Lo]) (by conv => lhs; whnf) (by conv => lhs; whnf) ty25 (by exact rfl))) (by decide) ?_
                refine ao_cons (acts_of rfl (does_move (v := .sl 10 (List.map enc30 a0)) (by exact rfl))) (by decide) ?_
                refine ao_cons (acts_of rfl (does_move (v := .int .i64 v9_2) (by exact rfl))) (by decide) ?_
                obtain ⟨g48, h⟩ := gd_some h
                obtain ⟨x49, hx49, h⟩ := bnd_some h
                refine ao_cons (acts_of rfl (does_indexAddr_sl (el := .agg [.int .u64 x49.Trace.Hi, .int .u64 x49.Trace.Lo, .int .u64 x49.Id, .int .u64 x49.Parent, .str x49.Service, .str x49.Op, .int .i64 x49.Start, .int .i64 x49.Dur, .bool x49.Err, .sl 2 (List.map enc68 x49.Attrs)]) (by conv => lhs; whnf) (by conv => lhs; whnf) ty26 ty31 g48 (by exact map_get hx49))) (by decide) ?_
                refine ao_cons (acts_of rfl (does_fieldAddr (q := .rptr [.int .u64 x49.Trace.Hi, .int .u64 x49.Trace.Lo, .int .u64 x49.Id, .int .u64 x49.Parent, .str x49.Service, .str x49.Op, .int .i64 x49.Start, .int .i64 x49.Dur, .bool x49.Err, .sl 2 (List.map enc68 x49.Attrs)]) (by conv => lhs; whnf) ty31 rfl ty25 (by decide) (by exact rfl))) (by decide) ?_
                refine ao_cons (acts_of rfl (does_load (v := .agg [.int .u64 x49.Trace.Hi, .int .u64 x49.Trace.Lo]) (by conv => lhs; whnf) (by conv => lhs; whnf) ty25 (by exact rfl))) (by decide) ?_
                refine ao_cons (acts_of rfl (does_eq_struct (v := .bool ((x47.Trace.Hi == x49.Trace.Hi) && ((x47.Trace.Lo == x49.Trace.Lo) && true))) (by conv => lhs; whnf) (by conv => lhs; whnf) fk25 rfl ag25 eg25 (by conv => lhs; whnf) rfl)) (by decide) ?_
                refine ao_cons (acts_of rfl (does_pick (v := .bool ((x47.Trace.Hi == x49.Trace.Hi) && ((x47.Trace.Lo == x49.Trace.Lo) && true))) (by conv => lhs; whnf) (by exact rfl))) (by decide) ?_
                refine ao_cons (acts_of rfl (does_assign (v := .bool ((x47.Trace.Hi == x49.Trace.Hi) && ((x47.Trace.Lo == x49.Trace.Lo) && true))) (by exact rfl))) (by decide) ?_
                refine ao_nil_d (by kernel_rfl) ?_
                obtain rfl := Option.some.inj h
                have h := hk44
                exact ⟨_, reb_lit [(0, .sl 10 (List.map enc30 a0)), (1, .sl 1 (List.map enc4 a1)), (6, .own 50 0), (7, .int .i64 v7_2), (8, .own 8 0), (9, .int .i64 v9_2), (10, .bool v10_4), (11, .bool ((x47.Trace.Hi == x49.Trace.Hi) && ((x47.Trace.Lo == x49.Trace.Lo) && true))), (12, .int .i64 v12_4)] [(50, 0), (8, 0)] [((50, 0), .arr 28 6 false (List.map enc27 x31)), ((8, 0), .arr 25 2 false (List.map enc24 v8_s_2))] [(8, 1), (50, 1)] (envOk_cons (by conv => lhs; whnf) (by exact rfl) (envOk_cons (by conv => lhs; whnf) (by exact rfl) (envOk_cons (by conv => lhs; whnf) (by exact rfl) (envOk_cons (by conv => lhs; whnf) (by exact rfl) (envOk_cons (by conv => lhs; whnf) (by exact rfl) (envOk_cons (by conv => lhs; whnf) (by exact rfl) (envOk_cons (by conv => lhs; whnf) (by exact rfl) (envOk_cons (by conv => lhs; whnf) (by exact rfl) (envOk_cons (by conv => lhs; whnf) (by exact rfl) envOk_nil))))))))) (objOk_cons (by conv => lhs; whnf) (by conv => lhs; whnf) (by exact rfl) (by simp) (objOk_cons (by conv => lhs; whnf) (by conv => lhs; whnf) (by exact rfl) (by simp) objOk_nil)) (nodup_b rfl) (nodup_b rfl) rfl rfl, ((x47.Trace.Hi == x49.Trace.Hi) && ((x47.Trace.Lo == x49.Trace.Lo) && true)), h, rfl⟩
            · rintro s ⟨v11_5, h, rfl⟩
              unfold gleaninglaw16_BufferOnce_k5 at h
              refine aw_regd (by kernel_rfl) (by decide +kernel) ?_
              refine ao_cons (acts_of rfl (does_move (v := .bool v10_4) (by exact rfl))) (by decide) ?_
              refine ao_cons (acts_of rfl (does_move (v := .bool v10_4) (by exact rfl))) (by decide) ?_
              refine ao_bool (c := v10_4) 71 rfl (fun c50 => ?_) (fun c50 => ?_)
              · have h := ifT c50 h
                refine ao_cons (acts_skip rfl) (by decide) ?_
                refine ao_cons (acts_skip rfl) (by decide) ?_
                refine ao_cons (acts_skip rfl) (by decide) ?_
                refine ao_cons (acts_skip rfl) (by decide) ?_
                refine ao_cons (acts_skip rfl) (by decide) ?_
                refine ao_cons (acts_skip rfl) (by decide) ?_
                refine ao_cons (acts_skip rfl) (by decide) ?_
                refine ao_cons (acts_skip rfl) (by decide) ?_
                refine ao_cons (acts_skip rfl) (by decide) ?_
                refine ao_cons (acts_skip rfl) (by decide) ?_
                refine ao_cons (acts_skip rfl) (by decide) ?_
                refine ao_cons (acts_skip rfl) (by decide) ?_
                refine ao_cons (acts_skip rfl) (by decide) ?_
                refine ao_cons (acts_skip rfl) (by decide) ?_
                refine ao_cons (acts_skip rfl) (by decide) ?_
                refine ao_cons (acts_skip rfl) (by decide) ?_
                refine ao_cons (acts_skip rfl) (by decide) ?_
                refine ao_cons (acts_skip rfl) (by decide) ?_
                refine ao_cons (acts_skip rfl) (by decide) ?_
                refine ao_cons (acts_skip rfl) (by decide) ?_
                refine ao_cons (acts_skip rfl) (by decide) ?_
                refine ao_cons (acts_skip rfl) (by decide) ?_
                refine ao_cons (acts_skip rfl) (by decide) ?_
                refine ao_cons (acts_skip rfl) (by decide) ?_
                refine ao_cons (acts_of rfl (does_pick (v := .bool true) (by conv => lhs; whnf) (by exact rfl))) (by decide) ?_
                refine ao_cons (acts_of rfl (does_assign (v := .bool true) (by exact rfl))) (by decide) ?_
                refine ao_nil_d (by kernel_rfl) ?_
                refine hK42 _ ?_
                refine aw_reg ?_
                refine ao_cons (acts_of rfl (does_move (v := .int .i64 v12_4) (by exact rfl))) (by decide) ?_
                refine ao_cons (acts_of rfl (does_bin (v := .int .i64 (IntKind.i64.wrap (v12_4 + 1))) (by conv => lhs; whnf) (by conv => lhs; whnf) rfl)) (by decide) ?_
                refine ao_cons (acts_of rfl (does_assign (v := .int .i64 (IntKind.i64.wrap (v12_4 + 1))) (by exact rfl))) (by decide) ?_
                refine ao_nil_n ?_
                have h := leafL h hq38
                exact ⟨m4, Nat.lt_succ_self _, _, reb_lit [(0, .sl 10 (List.map enc30 a0)), (1, .sl 1 (List.map enc4 a1)), (6, .own 50 0), (7, .int .i64 v7_2), (8, .own 8 0), (9, .int .i64 v9_2), (10, .bool true), (11, .bool v11_5), (12, .int .i64 (IntKind.i64.wrap (v12_4 + 1)))] [(50, 0), (8, 0)] [((50, 0), .arr 28 6 false (List.map enc27 x31)), ((8, 0), .arr 25 2 false (List.map enc24 v8_s_2))] [(8, 1), (50, 1)] (envOk_cons (by conv => lhs; whnf) (by exact rfl) (envOk_cons (by conv => lhs; whnf) (by exact rfl) (envOk_cons (by conv => lhs; whnf) (by exact rfl) (envOk_cons (by conv => lhs; whnf) (by exact rfl) (envOk_cons (by conv => lhs; whnf) (by exact rfl) (envOk_cons (by conv => lhs; whnf) (by exact rfl) (envOk_cons (by conv => lhs; whnf) (by exact rfl) (envOk_cons (by conv => lhs; whnf) (by exact rfl) (envOk_cons (by conv => lhs; whnf) (by exact rfl) envOk_nil))))))))) (objOk_cons (by conv => lhs; whnf) (by conv => lhs; whnf) (by exact rfl) (by simp) (objOk_cons (by conv => lhs; whnf) (by conv => lhs; whnf) (by exact rfl) (by simp) objOk_nil)) (nodup_b rfl) (nodup_b rfl) rfl rfl, true, v11_5, (IntKind.i64.wrap (v12_4 + 1)), h, rfl⟩
              · have h := ifF c50 h
                refine ao_cons (acts_of rfl (does_move (v := .sl 10 (List.map enc30 a0)) (by exact rfl))) (by decide) ?_
                refine ao_cons (acts_of rfl (does_move (v := .int .i64 v12_4) (by exact rfl))) (by decide) ?_
                obtain ⟨g51, h⟩ := gd_some h
                obtain ⟨x52, hx52, h⟩ := bnd_some h
                refine ao_cons (acts_of rfl (does_indexAddr_sl (el := .agg [.int .u64 x52.Trace.Hi, .int .u64 x52.Trace.Lo, .int .u64 x52.Id, .int .u64 x52.Parent, .str x52.Service, .str x52.Op, .int .i64 x52.Start, .int .i64 x52.Dur, .bool x52.Err, .sl 2 (List.map enc68 x52.Attrs)]) (by conv => lhs; whnf) (by conv => lhs; whnf) ty26 ty31 g51 (by exact map_get hx52))) (by decide) ?_
                refine ao_cons (acts_of rfl (does_fieldAddr (q := .rptr [.int .u64 x52.Trace.Hi, .int .u64 x52.Trace.Lo, .int .u64 x52.Id, .int .u64 x52.Parent, .str x52.Service, .str x52.Op, .int .i64 x52.Start, .int .i64 x52.Dur, .bool x52.Err, .sl 2 (List.map enc68 x52.Attrs)]) (by conv => lhs; whnf) ty31 rfl ty25 (by decide) (by exact rfl))) (by decide) ?_
                refine ao_cons (acts_of rfl (does_load (v := .agg [.int .u64 x52.Trace.Hi, .int .u64 x52.Trace.Lo]) (by conv => lhs; whnf) (by conv => lhs; whnf) ty25 (by exact rfl))) (by decide) ?_
                refine ao_cons (acts_of rfl (does_move (v := .sl 10 (List.map enc30 a0)) (by exact rfl))) (by decide) ?_
                refine ao_cons (acts_of rfl (does_move (v := .int .i64 v9_2) (by exact rfl))) (by decide) ?_
                obtain ⟨g53, h⟩ := gd_some h
                obtain ⟨x54, hx54, h⟩ := bnd_some h
                refine ao_cons (acts_of rfl (does_indexAddr_sl (el := .agg [.int .u64 x54.Trace.Hi, .int .u64 x54.Trace.Lo, .int .u64 x54.Id, .int .u64 x54.Parent, .str x54.Service, .str x54.Op, .int .i64 x54.Start, .int .i64 x54.Dur, .bool x54.Err, .sl 2 (List.map enc68 x54.Attrs)]) (by conv => lhs; whnf) (by conv => lhs; whnf) ty26 ty31 g53 (by exact map_get hx54))) (by decide) ?_
                refine ao_cons (acts_of rfl (does_fieldAddr (q := .rptr [.int .u64 x54.Trace.Hi, .int .u64 x54.Trace.Lo, .int .u64 x54.Id, .int .u64 x54.Parent, .str x54.Service, .str x54.Op, .int .i64 x54.Start, .int .i64 x54.Dur, .bool x54.Err, .sl 2 (List.map enc68 x54.Attrs)]) (by conv => lhs; whnf) ty31 rfl ty25 (by decide) (by exact rfl))) (by decide) ?_
                refine ao_cons (acts_of rfl (does_load (v := .agg [.int .u64 x54.Trace.Hi, .int .u64 x54.Trace.Lo]) (by conv => lhs; whnf) (by conv => lhs; whnf) ty25 (by exact rfl))) (by decide) ?_
                refine ao_cons (acts_of rfl (does_eq_struct (v := .bool ((x52.Trace.Hi == x54.Trace.Hi) && ((x52.Trace.Lo == x54.Trace.Lo) && true))) (by conv => lhs; whnf) (by conv => lhs; whnf) fk25 rfl ag25 eg25 (by conv => lhs; whnf) rfl)) (by decide) ?_
                refine ao_cons (acts_of rfl (does_move (v := .bool ((x52.Trace.Hi == x54.Trace.Hi) && ((x52.Trace.Lo == x54.Trace.Lo) && true))) (by exact rfl))) (by decide) ?_
                refine ao_bool (c := ((x52.Trace.Hi == x54.Trace.Hi) && ((x52.Trace.Lo == x54.Trace.Lo) && true))) 83 rfl (fun c55 => ?_) (fun c55 => ?_)
                · have h := ifT c55 h
                  refine ao_cons (acts_of rfl (does_move (v := .sl 10 (List.map enc30 a0)) (by exact rfl))) (by decide) ?_
                  refine ao_cons (acts_of rfl (does_move (v := .int .i64 v12_4) (by exact rfl))) (by decide) ?_
                  obtain ⟨g56, h⟩ := gd_some h
                  obtain ⟨x57, hx57, h⟩ := bnd_some h
                  refine ao_cons (acts_of rfl (does_indexAddr_sl (el := .agg [.int .u64 x57.Trace.Hi, .int .u64 x57.Trace.Lo, .int .u64 x57.Id, .int .u64 x57.Parent, .str x57.Service, .str x57.Op, .int .i64 x57.Start, .int .i64 x57.Dur, .bool x57.Err, .sl 2 (List.map enc68 x57.Attrs)]) (by conv => lhs; whnf) (by conv => lhs; whnf) ty26 ty31 g56 (by exact map_get hx57))) (by decide) ?_
                  refine ao_cons (acts_of rfl (does_fieldAddr (q := .rptr [.int .u64 x57.Id, .int .u64 x57.Parent, .str x57.Service, .str x57.Op, .int .i64 x57.Start, .int .i64 x57.Dur, .bool x57.Err, .sl 2 (List.map enc68 x57.Attrs)]) (by conv => lhs; whnf) ty31 rfl ty23 (by decide) (by exact rfl))) (by decide) ?_
                  refine ao_cons (acts_of rfl (does_load (v := .int .u64 x57.Id) (by conv => lhs; whnf) (by conv => lhs; whnf) ty23 (by exact rfl))) (by decide) ?_
                  refine ao_cons (acts_of rfl (does_move (v := .sl 10 (List.map enc30 a0)) (by exact rfl))) (by decide) ?_
                  refine ao_cons (acts_of rfl (does_move (v := .int .i64 v9_2) (by exact rfl))) (by decide) ?_
                  obtain ⟨g58, h⟩ := gd_some h
                  obtain ⟨x59, hx59, h⟩ := bnd_some h
                  refine ao_cons (acts_of rfl (does_indexAddr_sl (el := .agg [.int .u64 x59.Trace.Hi, .int .u64 x59.Trace.Lo, .int .u64 x59.Id, .int .u64 x59.Parent, .str x59.Service, .str x59.Op, .int .i64 x59.Start, .int .i64 x59.Dur, .bool x59.Err, .sl 2 (List.map enc68 x59.Attrs)]) (by conv => lhs; whnf) (by conv => lhs; whnf) ty26 ty31 g58 (by exact map_get hx59))) (by decide) ?_
                  refine ao_cons (acts_of rfl (does_fieldAddr (q := .rptr [.int .u64 x59.Id, .int .u64 x59.Parent, .str x59.Service, .str x59.Op, .int .i64 x59.Start, .int .i64 x59.Dur, .bool x59.Err, .sl 2 (List.map enc68 x59.Attrs)]) (by conv => lhs; whnf) ty31 rfl ty23 (by decide) (by exact rfl))) (by decide) ?_
                  refine ao_cons (acts_of rfl (does_load (v := .int .u64 x59.Id) (by conv => lhs; whnf) (by conv => lhs; whnf) ty23 (by exact rfl))) (by decide) ?_
                  refine ao_cons (acts_of rfl (does_bin (v := .bool (x57.Id == x59.Id)) (by conv => lhs; whnf) (by conv => lhs; whnf) rfl)) (by decide) ?_
                  refine ao_cons (acts_of rfl (does_pick (v := .bool (x57.Id == x59.Id)) (by conv => lhs; whnf) (by exact rfl))) (by decide) ?_
                  refine ao_cons (acts_of rfl (does_pick (v := .bool (x57.Id == x59.Id)) (by conv => lhs; whnf) (by exact rfl))) (by decide) ?_
                  refine ao_cons (acts_of rfl (does_assign (v := .bool (x57.Id == x59.Id)) (by exact rfl))) (by decide) ?_
                  refine ao_nil_d (by kernel_rfl) ?_
                  refine hK42 _ ?_
                  refine aw_reg ?_
                  refine ao_cons (acts_of rfl (does_move (v := .int .i64 v12_4) (by exact rfl))) (by decide) ?_
                  refine ao_cons (acts_of rfl (does_bin (v := .int .i64 (IntKind.i64.wrap (v12_4 + 1))) (by conv => lhs; whnf) (by conv => lhs; whnf) rfl)) (by decide) ?_
                  refine ao_cons (acts_of rfl (does_assign (v := .int .i64 (IntKind.i64.wrap (v12_4 + 1))) (by exact rfl))) (by decide) ?_
                  refine ao_nil_n ?_
                  have h := leafL h hq38
                  exact ⟨m4, Nat.lt_succ_self _, _, reb_lit [(0, .sl 10 (List.map enc30 a0)), (1, .sl 1 (List.map enc4 a1)), (6, .own 50 0), (7, .int .i64 v7_2), (8, .own 8 0), (9, .int .i64 v9_2), (10, .bool (x57.Id == x59.Id)), (11, .bool v11_5), (12, .int .i64 (IntKind.i64.wrap (v12_4 + 1)))] [(50, 0), (8, 0)] [((50, 0), .arr 28 6 false (List.map enc27 x31)), ((8, 0), .arr 25 2 false (List.map enc24 v8_s_2))] [(8, 1), (50, 1)] (envOk_cons (by conv => lhs; whnf) (by exact rfl) (envOk_cons (by conv => lhs; whnf) (by exact rfl) (envOk_cons (by conv => lhs; whnf) (by exact rfl) (envOk_cons (by conv => lhs; whnf) (by exact rfl) (envOk_cons (by conv => lhs; whnf) (by exact rfl) (envOk_cons (by conv => lhs; whnf) (by exact rfl) (envOk_cons (by conv => lhs; whnf) (by exact rfl) (envOk_cons (by conv => lhs; whnf) (by exact rfl) (envOk_cons (by conv => lhs; whnf) (by exact rfl) envOk_nil))))))))) (objOk_cons (by conv => lhs; whnf) (by conv => lhs; whnf) (by exact rfl) (by simp) (objOk_cons (by conv => lhs; whnf) (by conv => lhs; whnf) (by exact rfl) (by simp) objOk_nil)) (nodup_b rfl) (nodup_b rfl) rfl rfl, (x57.Id == x59.Id), v11_5, (IntKind.i64.wrap (v12_4 + 1)), h, rfl⟩
                · have h := ifF c55 h
                  refine ao_cons (acts_skip rfl) (by decide) ?_
                  refine ao_cons (acts_skip rfl) (by decide) ?_
                  refine ao_cons (acts_skip rfl) (by decide) ?_
                  refine ao_cons (acts_skip rfl) (by decide) ?_
                  refine ao_cons (acts_skip rfl) (by decide) ?_
                  refine ao_cons (acts_skip rfl) (by decide) ?_
                  refine ao_cons (acts_skip rfl) (by decide) ?_
                  refine ao_cons (acts_skip rfl) (by decide) ?_
                  refine ao_cons (acts_skip rfl) (by decide) ?_
                  refine ao_cons (acts_skip rfl) (by decide) ?_
                  refine ao_cons (acts_skip rfl) (by decide) ?_
                  refine ao_cons (acts_of rfl (does_pick (v := .bool false) (by conv => lhs; whnf) (by exact rfl))) (by decide) ?_
                  refine ao_cons (acts_of rfl (does_pick (v := .bool false) (by conv => lhs; whnf) (by exact rfl))) (by decide) ?_
                  refine ao_cons (acts_of rfl (does_assign (v := .bool false) (by exact rfl))) (by decide) ?_
                  refine ao_nil_d (by kernel_rfl) ?_
                  refine hK42 _ ?_
                  refine aw_reg ?_
                  refine ao_cons (acts_of rfl (does_move (v := .int .i64 v12_4) (by exact rfl))) (by decide) ?_
                  refine ao_cons (acts_of rfl (does_bin (v := .int .i64 (IntKind.i64.wrap (v12_4 + 1))) (by conv => lhs; whnf) (by conv => lhs; whnf) rfl)) (by decide) ?_
                  refine ao_cons (acts_of rfl (does_assign (v := .int .i64 (IntKind.i64.wrap (v12_4 + 1))) (by exact rfl))) (by decide) ?_
                  refine ao_nil_n ?_
                  have h := leafL h hq38
                  exact ⟨m4, Nat.lt_succ_self _, _, reb_lit [(0, .sl 10 (List.map enc30 a0)), (1, .sl 1 (List.map enc4 a1)), (6, .own 50 0), (7, .int .i64 v7_2), (8, .own 8 0), (9, .int .i64 v9_2), (10, .bool false), (11, .bool v11_5), (12, .int .i64 (IntKind.i64.wrap (v12_4 + 1)))] [(50, 0), (8, 0)] [((50, 0), .arr 28 6 false (List.map enc27 x31)), ((8, 0), .arr 25 2 false (List.map enc24 v8_s_2))] [(8, 1), (50, 1)] (envOk_cons (by conv => lhs; whnf) (by exact rfl) (envOk_cons (by conv => lhs; whnf) (by exact rfl) (envOk_cons (by conv => lhs; whnf) (by exact rfl) (envOk_cons (by conv => lhs; whnf) (by exact rfl) (envOk_cons (by conv => lhs; whnf) (by exact rfl) (envOk_cons (by conv => lhs; whnf) (by exact rfl) (envOk_cons (by conv => lhs; whnf) (by exact rfl) (envOk_cons (by conv => lhs; whnf) (by exact rfl) (envOk_cons (by conv => lhs; whnf) (by exact rfl) envOk_nil))))))))) (objOk_cons (by conv => lhs; whnf) (by conv => lhs; whnf) (by exact rfl) (by simp) (objOk_cons (by conv => lhs; whnf) (by conv => lhs; whnf) (by exact rfl) (by simp) objOk_nil)) (nodup_b rfl) (nodup_b rfl) rfl rfl, false, v11_5, (IntKind.i64.wrap (v12_4 + 1)), h, rfl⟩
          · have h := ifF c41 h
            refine aw_cond_f (by decide) rfl ?_
            refine aw_exit ?_
            have h := leafR h hq38
            obtain rfl := Option.some.inj h
            have h := hk35
            exact ⟨_, reb_lit [(0, .sl 10 (List.map enc30 a0)), (1, .sl 1 (List.map enc4 a1)), (6, .own 50 0), (7, .int .i64 v7_2), (8, .own 8 0), (9, .int .i64 v9_2), (10, .bool v10_4), (11, .bool v11_4)] [(50, 0), (8, 0)] [((50, 0), .arr 28 6 false (List.map enc27 x31)), ((8, 0), .arr 25 2 false (List.map enc24 v8_s_2))] [(8, 1), (50, 1)] (envOk_cons (by conv => lhs; whnf) (by exact rfl) (envOk_cons (by conv => lhs; whnf) (by exact rfl) (envOk_cons (by conv => lhs; whnf) (by exact rfl) (envOk_cons (by conv => lhs; whnf) (by exact rfl) (envOk_cons (by conv => lhs; whnf) (by exact rfl) (envOk_cons (by conv => lhs; whnf) (by exact rfl) (envOk_cons (by conv => lhs; whnf) (by exact rfl) (envOk_cons (by conv => lhs; whnf) (by exact rfl) envOk_nil)))))))) (objOk_cons (by conv => lhs; whnf) (by conv => lhs; whnf) (by exact rfl) (by simp) (objOk_cons (by conv => lhs; whnf) (by conv => lhs; whnf) (by exact rfl) (by simp) objOk_nil)) (nodup_b rfl) (nodup_b rfl) rfl rfl, v10_4, v11_4, h, rfl⟩
        · rintro s ⟨v10_3, v11_3, h, rfl⟩
          unfold gleaninglaw16_BufferOnce_k3 at h
          obtain ⟨q60, h, hk61⟩ := bnd_some h
          refine aw_cut (fun s => ∃ (v8_s_6 : List Trace), gleaninglaw16_BufferOnce_k6 v7_2 v9_2 x31 v10_3 v8_s_6 = some q20 ∧ s = lit [(0, .sl 10 (List.map enc30 a0)), (1, .sl 1 (List.map enc4 a1)), (6, .own 50 0), (7, .int .i64 v7_2), (8, .own 106 0), (9, .int .i64 v9_2), (10, .bool v10_3)] [((50, 0), .arr 28 6 false (List.map enc27 x31)), ((106, 0), .arr 25 2 false (List.map enc24 v8_s_6))] [(50, 1), (106, 1)] X) ?_ ?_
          · skip
            refine aw_seq_k (fun K62 hK62 => ?_)
            refine aw_reg ?_
            refine ao_cons (acts_of rfl (does_move (v := .bool v11_3) (by exact rfl))) (by decide) ?_
            refine ao_cons (acts_of rfl (does_un (v := .bool (!v11_3)) (by conv => lhs; whnf) rfl)) (by decide) ?_
            refine ao_nil_n ?_
            refine hK62 _ ?_
            refine aw_bool (b := (!v11_3)) 98 rfl (fun c63 => ?_) (fun c63 => ?_)
            · have h := ifT c63 h
              refine aw_cond_t (by decide) rfl ?_
              refine aw_reg ?_
              refine ao_cons (acts_of rfl (does_move (v := .own 8 0) (by exact rfl))) (by decide) ?_
              refine ao_cons (acts_of rfl (does_move (v := .sl 10 (List.map enc30 a0)) (by exact rfl))) (by decide) ?_
              refine ao_cons (acts_of rfl (does_move (v := .int .i64 v9_2) (by exact rfl))) (by decide) ?_
              obtain ⟨g64, h⟩ := gd_some h
              obtain ⟨x65, hx65, h⟩ := bnd_some h
              refine ao_cons (acts_of rfl (does_indexAddr_sl (el := .agg [.int .u64 x65.Trace.Hi, .int .u64 x65.Trace.Lo, .int .u64 x65.Id, .int .u64 x65.Parent, .str x65.Service, .str x65.Op, .int .i64 x65.Start, .int .i64 x65.Dur, .bool x65.Err, .sl 2 (List.map enc68 x65.Attrs)]) (by conv => lhs; whnf) (by conv => lhs; whnf) ty26 ty31 g64 (by exact map_get hx65))) (by decide) ?_
              refine ao_cons (acts_of rfl (does_fieldAddr (q := .rptr [.int .u64 x65.Trace.Hi, .int .u64 x65.Trace.Lo, .int .u64 x65.Id, .int .u64 x65.Parent, .str x65.Service, .str x65.Op, .int .i64 x65.Start, .int .i64 x65.Dur, .bool x65.Err, .sl 2 (List.map enc68 x65.Attrs)]) (by conv => lhs; whnf) ty31 rfl ty25 (by decide) (by exact rfl))) (by decide) ?_
              refine ao_cons (acts_of rfl (does_load (v := .agg [.int .u64 x65.Trace.Hi, .int .u64 x65.Trace.Lo]) (by conv => lhs; whnf) (by conv => lhs; whnf) ty25 (by exact rfl))) (by decide) ?_
              refine ao_cons (acts_of rfl (do_buildSlice (xs := List.map enc24 [x65.Trace]) ty47 ty25 rfl rfl rfl rfl rfl rfl rfl rfl)) (by decide) ?_
              obtain ⟨g66, h⟩ := gd_some h
              refine ao_cons (acts_of rfl (do_append (v := List.map enc24 (v8_s_2 ++ [x65.Trace])) (by conv => lhs; whnf) (by conv => lhs; whnf) ty47 ty25 rfl rfl (by conv => lhs; whnf) (by first | exact .inl rfl | exact .inr ⟨rfl, rfl⟩) (by conv => lhs; whnf) (by first | exact .inr rfl | exact .inl rfl) (map_app _ _) (fit_map g66))) (by decide) ?_
              refine ao_cons (acts_of rfl (does_assign (v := .own 106 0) (by exact rfl))) (by decide) ?_
              refine ao_nil_n ?_
              obtain rfl := Option.some.inj h
              have h := hk61
              exact ⟨_, reb_lit [(0, .sl 10 (List.map enc30 a0)), (1, .sl 1 (List.map enc4 a1)), (6, .own 50 0), (7, .int .i64 v7_2), (8, .own 106 0), (9, .int .i64 v9_2), (10, .bool v10_3)] [(50, 0), (106, 0)] [((50, 0), .arr 28 6 false (List.map enc27 x31)), ((106, 0), .arr 25 2 false (List.map enc24 (v8_s_2 ++ [x65.Trace])))] [(50, 1), (106, 1)] (envOk_cons (by conv => lhs; whnf) (by exact rfl) (envOk_cons (by conv => lhs; whnf) (by exact rfl) (envOk_cons (by conv => lhs; whnf) (by exact rfl) (envOk_cons (by conv => lhs; whnf) (by exact rfl) (envOk_cons (by conv => lhs; whnf) (by exact rfl) (envOk_cons (by conv => lhs; whnf) (by exact rfl) (envOk_cons (by conv => lhs; whnf) (by exact rfl) envOk_nil))))))) (objOk_cons (by conv => lhs; whnf) (by conv => lhs; whnf) (by exact rfl) (by simp) (objOk_cons (by conv => lhs; whnf) (by conv => lhs; whnf) (by exact rfl) (by simp) objOk_nil)) (nodup_b rfl) (nodup_b rfl) rfl rfl, (v8_s_2 ++ [x65.Trace]), h, rfl⟩
            · have h := ifF c63 h
              refine aw_cond_f (by decide) rfl ?_
              refine aw_skip ?_
              obtain rfl := Option.some.inj h
              have h := hk61
              exact ⟨_, reb_lit [(0, .sl 10 (List.map enc30 a0)), (1, .sl 1 (List.map enc4 a1)), (6, .own 50 0), (7, .int .i64 v7_2), (8, .own 106 0), (9, .int .i64 v9_2), (10, .bool v10_3)] [(50, 0), (8, 0)] [((50, 0), .arr 28 6 false (List.map enc27 x31)), ((106, 0), .arr 25 2 false (List.map enc24 v8_s_2))] [(50, 1), (106, 1)] (envOk_cons (by conv => lhs; whnf) (by exact rfl) (envOk_cons (by conv => lhs; whnf) (by exact rfl) (envOk_cons (by conv => lhs; whnf) (by exact rfl) (envOk_cons (by conv => lhs; whnf) (by exact rfl) (envOk_cons (by conv => lhs; whnf) (by exact rfl) (envOk_cons (by conv => lhs; whnf) (by exact rfl) (envOk_cons (by conv => lhs; whnf) (by exact rfl) envOk_nil))))))) (objOk_cons (by conv => lhs; whnf) (by conv => lhs; whnf) (by exact rfl) (by simp) (objOk_cons (by conv => lhs; whnf) (by conv => lhs; whnf) (by exact rfl) (by simp) objOk_nil)) (nodup_b rfl) (nodup_b rfl) rfl rfl, v8_s_2, h, rfl⟩
          · rintro s ⟨v8_s_6, h, rfl⟩
            unfold gleaninglaw16_BufferOnce_k6 at h
            obtain ⟨q67, h, hk68⟩ := bnd_some h
            refine aw_cut (fun s => ∃ (v7_7 : Int), gleaninglaw16_BufferOnce_k7 v9_2 x31 v8_s_6 v7_7 = some q20 ∧ s = lit [(0, .sl 10 (List.map enc30 a0)), (1, .sl 1 (List.map enc4 a1)), (6, .own 50 0), (7, .int .i64 v7_7), (8, .own 106 0), (9, .int .i64 v9_2)] [((50, 0), .arr 28 6 false (List.map enc27 x31)), ((106, 0), .arr 25 2 false (List.map enc24 v8_s_6))] [(50, 1), (106, 1)] X) ?_ ?_
            · skip
              refine aw_seq_k (fun K69 hK69 => ?_)
              refine aw_reg ?_
              refine ao_cons (acts_of rfl (does_move (v := .bool v10_3) (by exact rfl))) (by decide) ?_
              refine ao_cons (acts_of rfl (does_un (v := .bool (!v10_3)) (by conv => lhs; whnf) rfl)) (by decide) ?_
              refine ao_nil_n ?_
              refine hK69 _ ?_
              refine aw_bool (b := (!v10_3)) 108 rfl (fun c70 => ?_) (fun c70 => ?_)
              · have h := ifT c70 h
                refine aw_cond_t (by decide) rfl ?_
                refine aw_reg ?_
                refine ao_cons (acts_of rfl (does_move (v := .int .i64 v7_2) (by exact rfl))) (by decide) ?_
                refine ao_cons (acts_of rfl (does_bin (v := .int .i64 (IntKind.i64.wrap (v7_2 + 1))) (by conv => lhs; whnf) (by conv => lhs; whnf) rfl)) (by decide) ?_
                refine ao_cons (acts_of rfl (does_assign (v := .int .i64 (IntKind.i64.wrap (v7_2 + 1))) (by exact rfl))) (by decide) ?_
                refine ao_nil_n ?_
                obtain rfl := Option.some.inj h
                have h := hk68
                exact ⟨_, reb_lit [(0, .sl 10 (List.map enc30 a0)), (1, .sl 1 (List.map enc4 a1)), (6, .own 50 0), (7, .int .i64 (IntKind.i64.wrap (v7_2 + 1))), (8, .own 106 0), (9, .int .i64 v9_2)] [(50, 0), (106, 0)] [((50, 0), .arr 28 6 false (List.map enc27 x31)), ((106, 0), .arr 25 2 false (List.map enc24 v8_s_6))] [(50, 1), (106, 1)] (envOk_cons (by conv => lhs; whnf) (by exact rfl) (envOk_cons (by conv => lhs; whnf) (by exact rfl) (envOk_cons (by conv => lhs; whnf) (by exact rfl) (envOk_cons (by conv => lhs; whnf) (by exact rfl) (envOk_cons (by conv => lhs; whnf) (by exact rfl) (envOk_cons (by conv => lhs; whnf) (by exact rfl) envOk_nil)))))) (objOk_cons (by conv => lhs; whnf) (by conv => lhs; whnf) (by exact rfl) (by simp) (objOk_cons (by conv => lhs; whnf) (by conv => lhs; whnf) (by exact rfl) (by simp) objOk_nil)) (nodup_b rfl) (nodup_b rfl) rfl rfl, (IntKind.i64.wrap (v7_2 + 1)), h, rfl⟩
              · have h := ifF c70 h
                refine aw_cond_f (by decide) rfl ?_
                refine aw_skip ?_
                obtain rfl := Option.some.inj h
                have h := hk68
                exact ⟨_, reb_lit [(0, .sl 10 (List.map enc30 a0)), (1, .sl 1 (List.map enc4 a1)), (6, .own 50 0), (7, .int .i64 v7_2), (8, .own 106 0), (9, .int .i64 v9_2)] [(50, 0), (106, 0)] [((50, 0), .arr 28 6 false (List.map enc27 x31)), ((106, 0), .arr 25 2 false (List.map enc24 v8_s_6))] [(50, 1), (106, 1)] (envOk_cons (by conv => lhs; whnf) (by exact rfl) (envOk_cons (by conv => lhs; whnf) (by exact rfl) (envOk_cons (by conv => lhs; whnf) (by exact rfl) (envOk_cons (by conv => lhs; whnf) (by exact rfl) (envOk_cons (by conv => lhs; whnf) (by exact rfl) (envOk_cons (by conv => lhs; whnf) (by exact rfl) envOk_nil)))))) (objOk_cons (by conv => lhs; whnf) (by conv => lhs; whnf) (by exact rfl) (by simp) (objOk_cons (by conv => lhs; whnf) (by conv => lhs; whnf) (by exact rfl) (by simp) objOk_nil)) (nodup_b rfl) (nodup_b rfl) rfl rfl, v7_2, h, rfl⟩
            · rintro s ⟨v7_7, h, rfl⟩
              unfold gleaninglaw16_BufferOnce_k7 at h
              refine aw_seq_k (fun K71 hK71 => ?_)
              refine aw_reg ?_
              refine ao_cons (acts_of rfl (does_move (v := .own 50 0) (by exact rfl))) (by decide) ?_
              obtain ⟨x72, hx72, h⟩ := bnd_some h
              refine ao_cons (acts_of rfl (do_callG (bcs := []) [] [] [(50, 0)] 112 false (buffer_Count_ok x31 hx72) rfl ent27 trivial trivial rfl rfl rfl rfl rfl rfl rfl rfl (.inr ⟨rfl, rfl, trivial⟩))) (by decide) ?_
              refine ao_cons (acts_of rfl (does_move (v := .int .i64 v7_7) (by exact rfl))) (by decide) ?_
              refine ao_cons (acts_of rfl (does_bin (v := .bool (x72 != v7_7)) (by conv => lhs; whnf) (by conv => lhs; whnf) rfl)) (by decide) ?_
              refine ao_cons (acts_of rfl (does_move (v := .bool (x72 != v7_7)) (by exact rfl))) (by decide) ?_
              refine ao_bool (c := (x72 != v7_7)) 115 rfl (fun c73 => ?_) (fun c73 => ?_)
              · have h := ifT c73 h
                refine ao_cons (acts_skip rfl) (by decide) ?_
                refine ao_cons (acts_skip rfl) (by decide) ?_
                refine ao_cons (acts_skip rfl) (by decide) ?_
                refine ao_cons (acts_skip rfl) (by decide) ?_
                refine ao_cons (acts_skip rfl) (by decide) ?_
                refine ao_cons (acts_of rfl (does_pick (v := .bool true) (by conv => lhs; whnf) (by exact rfl))) (by decide) ?_
                refine ao_nil_n ?_
                refine hK71 _ ?_
                refine aw_cond_t (by decide) rfl ?_
                refine aw_seq_k (fun K74 hK74 => ?_)
                refine aw_reg ?_
                refine ao_cons (acts_of rfl (does_assign (v := .bool false) (by exact rfl))) (by decide) ?_
                refine ao_nil_n ?_
                refine hK74 _ ?_
                refine aw_ret ?_
                have h := leafR h hq21
                have h := leafR h hk18
                obtain rfl := Option.some.inj h
                exact ret_ok1 (by conv => lhs; whnf) (by conv => lhs; whnf) (by exact rfl) (.inr rfl) rfl
              · have h := ifF c73 h
                refine ao_cons (acts_of rfl (does_move (v := .own 50 0) (by exact rfl))) (by decide) ?_
                refine ao_cons (acts_of rfl ((does_len_own (by conv => lhs; whnf) (by conv => lhs; whnf) ty22).cast (v' := .int .i64 (List.length x31 : Int)) (by exact len_map _))) (by decide) ?_
                refine ao_cons (acts_of rfl (does_move (v := .own 106 0) (by exact rfl))) (by decide) ?_
                refine ao_cons (acts_of rfl ((does_len_own (by conv => lhs; whnf) (by conv => lhs; whnf) ty47).cast (v' := .int .i64 (List.length v8_s_6 : Int)) (by exact len_map _))) (by decide) ?_
                refine ao_cons (acts_of rfl (does_bin (v := .bool ((List.length x31 : Int) != (List.length v8_s_6 : Int))) (by conv => lhs; whnf) (by conv => lhs; whnf) rfl)) (by decide) ?_
                refine ao_cons (acts_of rfl (does_pick (v := .bool ((List.length x31 : Int) != (List.length v8_s_6 : Int))) (by conv => lhs; whnf) (by exact rfl))) (by decide) ?_
                refine ao_nil_n ?_
                refine hK71 _ ?_
                refine aw_bool (b := ((List.length x31 : Int) != (List.length v8_s_6 : Int))) 121 rfl (fun c75 => ?_) (fun c75 => ?_)
                · have h := ifT c75 h
                  refine aw_cond_t (by decide) rfl ?_
                  refine aw_seq_k (fun K76 hK76 => ?_)
                  refine aw_reg ?_
                  refine ao_cons (acts_of rfl (does_assign (v := .bool false) (by exact rfl))) (by decide) ?_
                  refine ao_nil_n ?_
                  refine hK76 _ ?_
                  refine aw_ret ?_
                  have h := leafR h hq21
                  have h := leafR h hk18
                  obtain rfl := Option.some.inj h
                  exact ret_ok1 (by conv => lhs; whnf) (by conv => lhs; whnf) (by exact rfl) (.inr rfl) rfl
                · have h := ifF c75 h
                  refine aw_cond_f (by decide) rfl ?_
                  refine aw_skip ?_
                  refine hK25 _ ?_
                  refine aw_reg ?_
                  refine ao_cons (acts_of rfl (does_move (v := .int .i64 v9_2) (by exact rfl))) (by decide) ?_
                  refine ao_cons (acts_of rfl (does_bin (v := .int .i64 (IntKind.i64.wrap (v9_2 + 1))) (by conv => lhs; whnf) (by conv => lhs; whnf) rfl)) (by decide) ?_
                  refine ao_cons (acts_of rfl (does_assign (v := .int .i64 (IntKind.i64.wrap (v9_2 + 1))) (by exact rfl))) (by decide) ?_
                  refine ao_nil_n ?_
                  have h := leafL h hq21
                  exact ⟨m2, Nat.lt_succ_self _, _, reb_lit [(0, .sl 10 (List.map enc30 a0)), (1, .sl 1 (List.map enc4 a1)), (6, .own 6 0), (7, .int .i64 v7_7), (8, .own 8 0), (9, .int .i64 (IntKind.i64.wrap (v9_2 + 1)))] [(50, 0), (106, 0)] [((6, 0), .arr 28 6 false (List.map enc27 x31)), ((8, 0), .arr 25 2 false (List.map enc24 v8_s_6))] [(6, 1), (8, 1)] (envOk_cons (by conv => lhs; whnf) (by exact rfl) (envOk_cons (by conv => lhs; whnf) (by exact rfl) (envOk_cons (by conv => lhs; whnf) (by exact rfl) (envOk_cons (by conv => lhs; whnf) (by exact rfl) (envOk_cons (by conv => lhs; whnf) (by exact rfl) (envOk_cons (by conv => lhs; whnf) (by exact rfl) envOk_nil)))))) (objOk_cons (by conv => lhs; whnf) (by conv => lhs; whnf) (by exact rfl) (by simp) (objOk_cons (by conv => lhs; whnf) (by conv => lhs; whnf) (by exact rfl) (by simp) objOk_nil)) (nodup_b rfl) (nodup_b rfl) rfl rfl, x31, v7_7, v8_s_6, (IntKind.i64.wrap (v9_2 + 1)), h, rfl⟩
      · have h := ifF c24 h
        refine aw_cond_f (by decide) rfl ?_
        refine aw_exit ?_
        have h := leafR h hq21
        have h := leafL h hk18
        exact ⟨_, reb_lit [(0, .sl 10 (List.map enc30 a0)), (1, .sl 1 (List.map enc4 a1)), (6, .own 6 0), (8, .own 8 0)] [(6, 0), (8, 0)] [((6, 0), .arr 28 6 false (List.map enc27 v6_s_2)), ((8, 0), .arr 25 2 false (List.map enc24 v8_s_2))] [(6, 1), (8, 1)] (envOk_cons (by conv => lhs; whnf) (by exact rfl) (envOk_cons (by conv => lhs; whnf) (by exact rfl) (envOk_cons (by conv => lhs; whnf) (by exact rfl) (envOk_cons (by conv => lhs; whnf) (by exact rfl) envOk_nil)))) (objOk_cons (by conv => lhs; whnf) (by conv => lhs; whnf) (by exact rfl) (by simp) (objOk_cons (by conv => lhs; whnf) (by conv => lhs; whnf) (by exact rfl) (by simp) objOk_nil)) (nodup_b rfl) (nodup_b rfl) rfl rfl, v6_s_2, v8_s_2, h, rfl⟩
    · rintro s ⟨v6_s_1, v8_s_1, h, rfl⟩
      unfold gleaninglaw16_BufferOnce_k1 at h
      refine aw_seq_k (fun K77 hK77 => ?_)
      refine aw_seq_k (fun K78 hK78 => ?_)
      refine aw_reg ?_
      refine ao_cons (acts_of rfl (does_assign (v := .int .i64 0) (by exact rfl))) (by decide) ?_
      refine ao_nil_n ?_
      refine hK78 _ ?_
      refine aw_block ?_
      refine aw_loop' (fun m s => ∃ (v13_8 : Int), loopN (fun (s : Int) => gleaninglaw16_BufferOnce_l8 a0 a1 v6_s_1 v8_s_1 s) m v13_8 = some r ∧ s = lit [(0, .sl 10 (List.map enc30 a0)), (1, .sl 1 (List.map enc4 a1)), (6, .own 6 0), (8, .own 8 0), (13, .int .i64 v13_8)] [((6, 0), .arr 28 6 false (List.map enc27 v6_s_1)), ((8, 0), .arr 25 2 false (List.map enc24 v8_s_1))] [(6, 1), (8, 1)] X) Fu
        ⟨_, reb_lit [(0, .sl 10 (List.map enc30 a0)), (1, .sl 1 (List.map enc4 a1)), (6, .own 6 0), (8, .own 8 0), (13, .int .i64 (0))] [(6, 0), (8, 0)] [((6, 0), .arr 28 6 false (List.map enc27 v6_s_1)), ((8, 0), .arr 25 2 false (List.map enc24 v8_s_1))] [(6, 1), (8, 1)] (envOk_cons (by conv => lhs; whnf) (by exact rfl) (envOk_cons (by conv => lhs; whnf) (by exact rfl) (envOk_cons (by conv => lhs; whnf) (by exact rfl) (envOk_cons (by conv => lhs; whnf) (by exact rfl) (envOk_cons (by conv => lhs; whnf) (by exact rfl) envOk_nil))))) (objOk_cons (by conv => lhs; whnf) (by conv => lhs; whnf) (by exact rfl) (by simp) (objOk_cons (by conv => lhs; whnf) (by conv => lhs; whnf) (by exact rfl) (by simp) objOk_nil)) (nodup_b rfl) (nodup_b rfl) rfl rfl, 0, h, rfl⟩ ?_
      rintro m s ⟨v13_8, h, rfl⟩
      obtain ⟨m8, q79, rfl, h, hq80⟩ := loop_some h
      replace h : gleaninglaw16_BufferOnce_l8 a0 a1 v6_s_1 v8_s_1 v13_8 = some q79 := h
      unfold gleaninglaw16_BufferOnce_l8 at h
      refine aw_seq_k (fun K81 hK81 => ?_)
      refine aw_seq_k (fun K82 hK82 => ?_)
      refine aw_reg ?_
      refine ao_cons (acts_of rfl (does_move (v := .int .i64 v13_8) (by exact rfl))) (by decide) ?_
      refine ao_cons (acts_of rfl (does_move (v := .own 6 0) (by exact rfl))) (by decide) ?_
      refine ao_cons (acts_of rfl ((does_len_own (by conv => lhs; whnf) (by conv => lhs; whnf) ty22).cast (v' := .int .i64 (List.length v6_s_1 : Int)) (by exact len_map _))) (by decide) ?_
      refine ao_cons (acts_of rfl (does_bin (v := .bool (decide (v13_8 < (List.length v6_s_1 : Int)))) (by conv => lhs; whnf) (by conv => lhs; whnf) rfl)) (by decide) ?_
      refine ao_nil_n ?_
      refine hK82 _ ?_
      refine aw_bool (b := (decide (v13_8 < (List.length v6_s_1 : Int)))) 125 rfl (fun c83 => ?_) (fun c83 => ?_)
      · have h := ifT c83 h
        refine aw_cond_t (by decide) rfl ?_
        refine aw_skip ?_
        refine hK81 _ ?_
        refine aw_seq_k (fun K84 hK84 => ?_)
        refine aw_block ?_
        refine aw_seq_k (fun K85 hK85 => ?_)
        refine aw_reg ?_
        refine ao_cons (acts_of rfl (does_assign (v := .int .i64 (-1)) (by exact rfl))) (by decide) ?_
        refine ao_nil_n ?_
        refine hK85 _ ?_
        refine aw_seq_k (fun K86 hK86 => ?_)
        refine aw_reg ?_
        refine ao_cons (acts_of rfl (does_assign (v := .int .i64 (-1)) (by exact rfl))) (by decide) ?_
        refine ao_nil_n ?_
        refine hK86 _ ?_
        refine aw_seq_k (fun K87 hK87 => ?_)
        refine aw_reg ?_
        refine ao_cons (acts_of rfl (does_assign (v := .bool false) (by exact rfl))) (by decide) ?_
        refine ao_nil_n ?_
        refine hK87 _ ?_
        obtain ⟨q88, h, hk89⟩ := bnd_some h
        refine aw_cut (fun s => ∃ (v14_9 : Int), ∃ (v15_9 : Int), ∃ (v16_9 : Bool), gleaninglaw16_BufferOnce_k9 v6_s_1 v8_s_1 v13_8 v14_9 v15_9 v16_9 = some q79 ∧ s = lit [(0, .sl 10 (List.map enc30 a0)), (1, .sl 1 (List.map enc4 a1)), (6, .own 6 0), (8, .own 8 0), (13, .int .i64 v13_8), (14, .int .i64 v14_9), (15, .int .i64 v15_9), (16, .bool v16_9)] [((6, 0), .arr 28 6 false (List.map enc27 v6_s_1)), ((8, 0), .arr 25 2 false (List.map enc24 v8_s_1))] [(6, 1), (8, 1)] X) ?_ ?_
        · skip
          refine aw_seq_k (fun K90 hK90 => ?_)
          refine aw_reg ?_
          refine ao_cons (acts_of rfl (does_assign (v := .int .i64 0) (by exact rfl))) (by decide) ?_
          refine ao_nil_n ?_
          refine hK90 _ ?_
          refine aw_block ?_
          refine aw_loop' (fun m s => ∃ (v14_10 : Int), ∃ (v15_10 : Int), ∃ (v16_10 : Bool), ∃ (v17_10 : Int), loopN (fun (s : Int × Int × Bool × Int) => gleaninglaw16_BufferOnce_l10 a0 a1 v8_s_1 v13_8 s.1 s.2.1 s.2.2.1 s.2.2.2) m (v14_10, v15_10, v16_10, v17_10) = some q88 ∧ s = lit [(0, .sl 10 (List.map enc30 a0)), (1, .sl 1 (List.map enc4 a1)), (6, .own 6 0), (8, .own 8 0), (13, .int .i64 v13_8), (14, .int .i64 v14_10), (15, .int .i64 v15_10), (16, .bool v16_10), (17, .int .i64 v17_10)] [((6, 0), .arr 28 6 false (List.map enc27 v6_s_1)), ((8, 0), .arr 25 2 false (List.map enc24 v8_s_1))] [(6, 1), (8, 1)] X) Fu
            ⟨_, reb_lit [(0, .sl 10 (List.map enc30 a0)), (1, .sl 1 (List.map enc4 a1)), (6, .own 6 0), (8, .own 8 0), (13, .int .i64 v13_8), (14, .int .i64 (-1)), (15, .int .i64 (-1)), (16, .bool false), (17, .int .i64 (0))] [(6, 0), (8, 0)] [((6, 0), .arr 28 6 false (List.map enc27 v6_s_1)), ((8, 0), .arr 25 2 false (List.map enc24 v8_s_1))] [(6, 1), (8, 1)] (envOk_cons (by conv => lhs; whnf) (by exact rfl) (envOk_cons (by conv => lhs; whnf) (by exact rfl) (envOk_cons (by conv => lhs; whnf) (by exact rfl) (envOk_cons (by conv => lhs; whnf) (by exact rfl) (envOk_cons (by conv => lhs; whnf) (by exact rfl) (envOk_cons (by conv => lhs; whnf) (by exact rfl) (envOk_cons (by conv => lhs; whnf) (by exact rfl) (envOk_cons (by conv => lhs; whnf) (by exact rfl) (envOk_cons (by conv => lhs; whnf) (by exact rfl) envOk_nil))))))))) (objOk_cons (by conv => lhs; whnf) (by conv => lhs; whnf) (by exact rfl) (by simp) (objOk_cons (by conv => lhs; whnf) (by conv => lhs; whnf) (by exact rfl) (by simp) objOk_nil)) (nodup_b rfl) (nodup_b rfl) rfl rfl, -1, -1, false, 0, h, rfl⟩ ?_
          rintro m s ⟨v14_10, v15_10, v16_10, v17_10, h, rfl⟩
          obtain ⟨m10, q91, rfl, h, hq92⟩ := loop_some h
          replace h : gleaninglaw16_BufferOnce_l10 a0 a1 v8_s_1 v13_8 v14_10 v15_10 v16_10 v17_10 = some q91 := h
          unfold gleaninglaw16_BufferOnce_l10 at h
          refine aw_seq_k (fun K93 hK93 => ?_)
          refine aw_seq_k (fun K94 hK94 => ?_)
          refine aw_reg ?_
          refine ao_cons (acts_of rfl (does_move (v := .int .i64 v17_10) (by exact rfl))) (by decide) ?_
          refine ao_cons (acts_of rfl (does_move (v := .sl 10 (List.map enc30 a0)) (by exact rfl))) (by decide) ?_
          refine ao_cons (acts_of rfl ((does_len_sl (by conv => lhs; whnf) ty26).castp (v' := .int .i64 (List.length a0 : Int)) (by exact len_map _))) (by decide) ?_
          refine ao_cons (acts_of rfl (does_bin (v := .bool (decide (v17_10 < (List.length a0 : Int)))) (by conv => lhs; whnf) (by conv => lhs; whnf) rfl)) (by decide) ?_
          refine ao_nil_n ?_
          refine hK94 _ ?_
          refine aw_bool (b := (decide (v17_10 < (List.length a0 : Int)))) 131 rfl (fun c95 => ?_) (fun c95 => ?_)
          · have h := ifT c95 h
            refine aw_cond_t (by decide) rfl ?_
            refine aw_skip ?_
            refine hK93 _ ?_
            refine aw_seq_k (fun K96 hK96 => ?_)
            refine aw_block ?_
            refine aw_seq_k (fun K97 hK97 => ?_)
            refine aw_regd (by kernel_rfl) (by decide +kernel) ?_
            refine ao_cons (acts_of rfl (does_move (v := .sl 10 (List.map enc30 a0)) (by exact rfl))) (by decide) ?_
            refine ao_cons (acts_of rfl (does_move (v := .int .i64 v17_10) (by exact rfl))) (by decide) ?_
            obtain ⟨g98, h⟩ := gd_some h
            obtain ⟨x99, hx99, h⟩ := bnd_some h
            refine ao_cons (acts_of rfl (does_indexAddr_sl (el := .agg [.int .u64 x99.Trace.Hi, .int .u64 x99.Trace.Lo, .int .u64 x99.Id, .int .u64 x99.Parent, .str x99.Service, .str x99.Op, .int .i64 x99.Start, .int .i64 x99.Dur, .bool x99.Err, .sl 2 (List.map enc68 x99.Attrs)]) (by conv => lhs; whnf) (by conv => lhs; whnf) ty26 ty31 g98 (by exact map_get hx99))) (by decide) ?_
            refine ao_cons (acts_of rfl (does_fieldAddr (q := .rptr [.int .u64 x99.Trace.Hi, .int .u64 x99.Trace.Lo, .int .u64 x99.Id, .int .u64 x99.Parent, .str x99.Service, .str x99.Op, .int .i64 x99.Start, .int .i64 x99.Dur, .bool x99.Err, .sl 2 (List.map enc68 x99.Attrs)]) (by conv => lhs; whnf) ty31 rfl ty25 (by decide) (by exact rfl))) (by decide) ?_
            refine ao_cons (acts_of rfl (does_load (v := .agg [.int .u64 x99.Trace.Hi, .int .u64 x99.Trace.Lo]) (by conv => lhs; whnf) (by conv => lhs; whnf) ty25 (by exact rfl))) (by decide) ?_
            refine ao_cons (acts_of rfl (does_move (v := .own 8 0) (by exact rfl))) (by decide) ?_
            refine ao_cons (acts_of rfl (does_move (v := .int .i64 v13_8) (by exact rfl))) (by decide) ?_
            obtain ⟨g100, h⟩ := gd_some h
            obtain ⟨x101, hx101, h⟩ := bnd_some h
            refine ao_cons (acts_of rfl (does_indexAddr_own (by conv => lhs; whnf) (by conv => lhs; whnf) (by conv => lhs; whnf) ty47 ty25 g100 (by exact own_lt hx101))) (by decide) ?_
            refine ao_cons (acts_of rfl (does_load (v := .agg [.int .u64 x101.Hi, .int .u64 x101.Lo]) (by conv => lhs; whnf) (cellsAt_eptr (by conv => lhs; whnf) (by exact map_get hx101)) ty25 (by exact rfl))) (by decide) ?_
            refine ao_cons (acts_of rfl (does_eq_struct (v := .bool ((x99.Trace.Hi == x101.Hi) && ((x99.Trace.Lo == x101.Lo) && true))) (by conv => lhs; whnf) (by conv => lhs; whnf) fk25 rfl ag25 eg25 (by conv => lhs; whnf) rfl)) (by decide) ?_
            refine ao_nil_d (by kernel_rfl) ?_
            refine hK97 _ ?_
            refine aw_bool (b := ((x99.Trace.Hi == x101.Hi) && ((x99.Trace.Lo == x101.Lo) && true))) 143 rfl (fun c102 => ?_) (fun c102 => ?_)
            · have h := ifT c102 h
              refine aw_cond_t (by decide) rfl ?_
              obtain ⟨q103, h, hk104⟩ := bnd_some h
              refine aw_cut (fun s => ∃ (v14_11 : Int), gleaninglaw16_BufferOnce_k11 a1 v16_10 v17_10 v14_11 = some q91 ∧ s = lit [(0, .sl 10 (List.map enc30 a0)), (1, .sl 1 (List.map enc4 a1)), (6, .own 6 0), (8, .own 8 0), (13, .int .i64 v13_8), (14, .int .i64 v14_11), (16, .bool v16_10), (17, .int .i64 v17_10)] [((6, 0), .arr 28 6 false (List.map enc27 v6_s_1)), ((8, 0), .arr 25 2 false (List.map enc24 v8_s_1))] [(6, 1), (8, 1)] X) ?_ ?_
              · skip
                refine aw_seq_k (fun K105 hK105 => ?_)
                refine aw_reg ?_
                refine ao_cons (acts_of rfl (does_move (v := .int .i64 v14_10) (by exact rfl))) (by decide) ?_
                refine ao_cons (acts_of rfl (does_bin (v := .bool (decide (v14_10 < 0))) (by conv => lhs; whnf) (by conv => lhs; whnf) rfl)) (by decide) ?_
                refine ao_nil_n ?_
                refine hK105 _ ?_
                refine aw_bool (b := (decide (v14_10 < 0))) 145 rfl (fun c106 => ?_) (fun c106 => ?_)
                · have h := ifT c106 h
                  refine aw_cond_t (by decide) rfl ?_
                  refine aw_reg ?_
                  refine ao_cons (acts_of rfl (does_move (v := .int .i64 v17_10) (by exact rfl))) (by decide) ?_
                  refine ao_cons (acts_of rfl (does_assign (v := .int .i64 v17_10) (by exact rfl))) (by decide) ?_
                  refine ao_nil_n ?_
                  obtain rfl := Option.some.inj h
                  have h := hk104
                  exact ⟨_, reb_lit [(0, .sl 10 (List.map enc30 a0)), (1, .sl 1 (List.map enc4 a1)), (6, .own 6 0), (8, .own 8 0), (13, .int .i64 v13_8), (14, .int .i64 v17_10), (16, .bool v16_10), (17, .int .i64 v17_10)] [(6, 0), (8, 0)] [((6, 0), .arr 28 6 false (List.map enc27 v6_s_1)), ((8, 0), .arr 25 2 false (List.map enc24 v8_s_1))] [(6, 1), (8, 1)] (envOk_cons (by conv => lhs; whnf) (by exact rfl) (envOk_cons (by conv => lhs; whnf) (by exact rfl) (envOk_cons (by conv => lhs; whnf) (by exact rfl) (envOk_cons (by conv => lhs; whnf) (by exact rfl) (envOk_cons (by conv => lhs; whnf) (by exact rfl) (envOk_cons (by conv => lhs; whnf) (by exact rfl) (envOk_cons (by conv => lhs; whnf) (by exact rfl) (envOk_cons (by conv => lhs; whnf) (by exact rfl) envOk_nil)))))))) (objOk_cons (by conv => lhs; whnf) (by conv => lhs; whnf) (by exact rfl) (by simp) (objOk_cons (by conv => lhs; whnf) (by conv => lhs; whnf) (by exact rfl) (by simp) objOk_nil)) (nodup_b rfl) (nodup_b rfl) rfl rfl, v17_10, h, rfl⟩
                · have h := ifF c106 h
                  refine aw_cond_f (by decide) rfl ?_
                  refine aw_skip ?_
                  obtain rfl := Option.some.inj h
                  have h := hk104
                  exact ⟨_, reb_lit [(0, .sl 10 (List.map enc30 a0)), (1, .sl 1 (List.map enc4 a1)), (6, .own 6 0), (8, .own 8 0), (13, .int .i64 v13_8), (14, .int .i64 v14_10), (16, .bool v16_10), (17, .int .i64 v17_10)] [(6, 0), (8, 0)] [((6, 0), .arr 28 6 false (List.map enc27 v6_s_1)), ((8, 0), .arr 25 2 false (List.map enc24 v8_s_1))] [(6, 1), (8, 1)] (envOk_cons (by conv => lhs; whnf) (by exact rfl) (envOk_cons (by conv => lhs; whnf) (by exact rfl) (envOk_cons (by conv => lhs; whnf) (by exact rfl) (envOk_cons (by conv => lhs; whnf) (by exact rfl) (envOk_cons (by conv => lhs; whnf) (by exact rfl) (envOk_cons (by conv => lhs; whnf) (by exact rfl) (envOk_cons (by conv => lhs; whnf) (by exact rfl) (envOk_cons (by conv => lhs; whnf) (by exact rfl) envOk_nil)))))))) (objOk_cons (by conv => lhs; whnf) (by conv => lhs; whnf) (by exact rfl) (by simp) (objOk_cons (by conv => lhs; whnf) (by conv => lhs; whnf) (by exact rfl) (by simp) objOk_nil)) (nodup_b rfl) (nodup_b rfl) rfl rfl, v14_10, h, rfl⟩
              · rintro s ⟨v14_11, h, rfl⟩
                unfold gleaninglaw16_BufferOnce_k11 at h
                refine aw_seq_k (fun K107 hK107 => ?_)
                refine aw_reg ?_
                refine ao_cons (acts_of rfl (does_move (v := .int .i64 v17_10) (by exact rfl))) (by decide) ?_
                refine ao_cons (acts_of rfl (does_assign (v := .int .i64 v17_10) (by exact rfl))) (by decide) ?_
                refine ao_nil_n ?_
                refine hK107 _ ?_
                refine aw_reg ?_
                refine ao_cons (acts_of rfl (does_move (v := .bool v16_10) (by exact rfl))) (by decide) ?_
                refine ao_cons (acts_of rfl (does_move (v := .bool v16_10) (by exact rfl))) (by decide) ?_
                refine ao_bool (c := v16_10) 149 rfl (fun c108 => ?_) (fun c108 => ?_)
                · have h := ifT c108 h
                  refine ao_cons (acts_skip rfl) (by decide) ?_
                  refine ao_cons (acts_skip rfl) (by decide) ?_
                  refine ao_cons (acts_skip rfl) (by decide) ?_
                  refine ao_cons (acts_skip rfl) (by decide) ?_
                  refine ao_cons (acts_of rfl (does_pick (v := .bool true) (by conv => lhs; whnf) (by exact rfl))) (by decide) ?_
                  refine ao_cons (acts_of rfl (does_assign (v := .bool true) (by exact rfl))) (by decide) ?_
                  refine ao_nil_n ?_
                  refine hK96 _ ?_
                  refine aw_reg ?_
                  refine ao_cons (acts_of rfl (does_move (v := .int .i64 v17_10) (by exact rfl))) (by decide) ?_
                  refine ao_cons (acts_of rfl (does_bin (v := .int .i64 (IntKind.i64.wrap (v17_10 + 1))) (by conv => lhs; whnf) (by conv => lhs; whnf) rfl)) (by decide) ?_
                  refine ao_cons (acts_of rfl (does_assign (v := .int .i64 (IntKind.i64.wrap (v17_10 + 1))) (by exact rfl))) (by decide) ?_
                  refine ao_nil_n ?_
                  have h := leafL h hq92
                  exact ⟨m10, Nat.lt_succ_self _, _, reb_lit [(0, .sl 10 (List.map enc30 a0)), (1, .sl 1 (List.map enc4 a1)), (6, .own 6 0), (8, .own 8 0), (13, .int .i64 v13_8), (14, .int .i64 v14_11), (15, .int .i64 v17_10), (16, .bool true), (17, .int .i64 (IntKind.i64.wrap (v17_10 + 1)))] [(6, 0), (8, 0)] [((6, 0), .arr 28 6 false (List.map enc27 v6_s_1)), ((8, 0), .arr 25 2 false (List.map enc24 v8_s_1))] [(6, 1), (8, 1)] (envOk_cons (by conv => lhs; whnf) (by exact rfl) (envOk_cons (by conv => lhs; whnf) (by exact rfl) (envOk_cons (by conv => lhs; whnf) (by exact rfl) (envOk_cons (by conv => lhs; whnf) (by exact rfl) (envOk_cons (by conv => lhs; whnf) (by exact rfl) (envOk_cons (by conv => lhs; whnf) (by exact rfl) (envOk_cons (by conv => lhs; whnf) (by exact rfl) (envOk_cons (by conv => lhs; whnf) (by exact rfl) (envOk_cons (by conv => lhs; whnf) (by exact rfl) envOk_nil))))))))) (objOk_cons (by conv => lhs; whnf) (by conv => lhs; whnf) (by exact rfl) (by simp) (objOk_cons (by conv => lhs; whnf) (by conv => lhs; whnf) (by exact rfl) (by simp) objOk_nil)) (nodup_b rfl) (nodup_b rfl) rfl rfl, v14_11, v17_10, true, (IntKind.i64.wrap (v17_10 + 1)), h, rfl⟩
                · have h := ifF c108 h
                  refine ao_cons (acts_of rfl (does_move (v := .sl 1 (List.map enc4 a1)) (by exact rfl))) (by decide) ?_
                  refine ao_cons (acts_of rfl (does_move (v := .int .i64 v17_10) (by exact rfl))) (by decide) ?_
                  obtain ⟨g109, h⟩ := gd_some h
                  obtain ⟨x110, hx110, h⟩ := bnd_some h
                  refine ao_cons (acts_of rfl (does_indexAddr_sl (el := .bool x110) (by conv => lhs; whnf) (by conv => lhs; whnf) ty45 ty4 g109 (by exact map_get hx110))) (by decide) ?_
                  refine ao_cons (acts_of rfl (does_load (v := .bool x110) (by conv => lhs; whnf) (by conv => lhs; whnf) ty4 (by exact rfl))) (by decide) ?_
                  refine ao_cons (acts_of rfl (does_pick (v := .bool x110) (by conv => lhs; whnf) (by exact rfl))) (by decide) ?_
                  refine ao_cons (acts_of rfl (does_assign (v := .bool x110) (by exact rfl))) (by decide) ?_
                  refine ao_nil_n ?_
                  refine hK96 _ ?_
                  refine aw_reg ?_
                  refine ao_cons (acts_of rfl (does_move (v := .int .i64 v17_10) (by exact rfl))) (by decide) ?_
                  refine ao_cons (acts_of rfl (does_bin (v := .int .i64 (IntKind.i64.wrap (v17_10 + 1))) (by conv => lhs; whnf) (by conv => lhs; whnf) rfl)) (by decide) ?_
                  refine ao_cons (acts_of rfl (does_assign (v := .int .i64 (IntKind.i64.wrap (v17_10 + 1))) (by exact rfl))) (by decide) ?_
                  refine ao_nil_n ?_
                  have h := leafL h hq92
                  exact ⟨m10, Nat.lt_succ_self _, _, reb_lit [(0, .sl 10 (List.map enc30 a0)), (1, .sl 1 (List.map enc4 a1)), (6, .own 6 0), (8, .own 8 0), (13, .int .i64 v13_8), (14, .int .i64 v14_11), (15, .int .i64 v17_10), (16, .bool x110), (17, .int .i64 (IntKind.i64.wrap (v17_10 + 1)))] [(6, 0), (8, 0)] [((6, 0), .arr 28 6 false (List.map enc27 v6_s_1)), ((8, 0), .arr 25 2 false (List.map enc24 v8_s_1))] [(6, 1), (8, 1)] (envOk_cons (by conv => lhs; whnf) (by exact rfl) (envOk_cons (by conv => lhs; whnf) (by exact rfl) (envOk_cons (by conv => lhs; whnf) (by exact rfl) (envOk_cons (by conv => lhs; whnf) (by exact rfl) (envOk_cons (by conv => lhs; whnf) (by exact rfl) (envOk_cons (by conv => lhs; whnf) (by exact rfl) (envOk_cons (by conv => lhs; whnf) (by exact rfl) (envOk_cons (by conv => lhs; whnf) (by exact rfl) (envOk_cons (by conv => lhs; whnf) (by exact rfl) envOk_nil))))))))) (objOk_cons (by conv => lhs; whnf) (by conv => lhs; whnf) (by exact rfl) (by simp) (objOk_cons (by conv => lhs; whnf) (by conv => lhs; whnf) (by exact rfl) (by simp) objOk_nil)) (nodup_b rfl) (nodup_b rfl) rfl rfl, v14_11, v17_10, x110, (IntKind.i64.wrap (v17_10 + 1)), h, rfl⟩
            · have h := ifF c102 h
              refine aw_cond_f (by decide) rfl ?_
              refine aw_skip ?_
              refine hK96 _ ?_
              refine aw_reg ?_
              refine ao_cons (acts_of rfl (does_move (v := .int .i64 v17_10) (by exact rfl))) (by decide) ?_
              refine ao_cons (acts_of rfl (does_bin (v := .int .i64 (IntKind.i64.wrap (v17_10 + 1))) (by conv => lhs; whnf) (by conv => lhs; whnf) rfl)) (by decide) ?_
              refine ao_cons (acts_of rfl (does_assign (v := .int .i64 (IntKind.i64.wrap (v17_10 + 1))) (by exact rfl))) (by decide) ?_
              refine ao_nil_n ?_
              have h := leafL h hq92
              exact ⟨m10, Nat.lt_succ_self _, _, reb_lit [(0, .sl 10 (List.map enc30 a0)), (1, .sl 1 (List.map enc4 a1)), (6, .own 6 0), (8, .own 8 0), (13, .int .i64 v13_8), (14, .int .i64 v14_10), (15, .int .i64 v15_10), (16, .bool v16_10), (17, .int .i64 (IntKind.i64.wrap (v17_10 + 1)))] [(6, 0), (8, 0)] [((6, 0), .arr 28 6 false (List.map enc27 v6_s_1)), ((8, 0), .arr 25 2 false (List.map enc24 v8_s_1))] [(6, 1), (8, 1)] (envOk_cons (by conv => lhs; whnf) (by exact rfl) (envOk_cons (by conv => lhs; whnf) (by exact rfl) (envOk_cons (by conv => lhs; whnf) (by exact rfl) (envOk_cons (by conv => lhs; whnf) (by exact rfl) (envOk_cons (by conv => lhs; whnf) (by exact rfl) (envOk_cons (by conv => lhs; whnf) (by exact rfl) (envOk_cons (by conv => lhs; whnf) (by exact rfl) (envOk_cons (by conv => lhs; whnf) (by exact rfl) (envOk_cons (by conv => lhs; whnf) (by exact rfl) envOk_nil))))))))) (objOk_cons (by conv => lhs; whnf) (by conv => lhs; whnf) (by exact rfl) (by simp) (objOk_cons (by conv => lhs; whnf) (by conv => lhs; whnf) (by exact rfl) (by simp) objOk_nil)) (nodup_b rfl) (nodup_b rfl) rfl rfl, v14_10, v15_10, v16_10, (IntKind.i64.wrap (v17_10 + 1)), h, rfl⟩
          · have h := ifF c95 h
            refine aw_cond_f (by decide) rfl ?_
            refine aw_exit ?_
            have h := leafR h hq92
            obtain rfl := Option.some.inj h
            have h := hk89
            exact ⟨_, reb_lit [(0, .sl 10 (List.map enc30 a0)), (1, .sl 1 (List.map enc4 a1)), (6, .own 6 0), (8, .own 8 0), (13, .int .i64 v13_8), (14, .int .i64 v14_10), (15, .int .i64 v15_10), (16, .bool v16_10)] [(6, 0), (8, 0)] [((6, 0), .arr 28 6 false (List.map enc27 v6_s_1)), ((8, 0), .arr 25 2 false (List.map enc24 v8_s_1))] [(6, 1), (8, 1)] (envOk_cons (by conv => lhs; whnf) (by exact rfl) (envOk_cons (by conv => lhs; whnf) (by exact rfl) (envOk_cons (by conv => lhs; whnf) (by exact rfl) (envOk_cons (by conv => lhs; whnf) (by exact rfl) (envOk_cons (by conv => lhs; whnf) (by exact rfl) (envOk_cons (by conv => lhs; whnf) (by exact rfl) (envOk_cons (by conv => lhs; whnf) (by exact rfl) (envOk_cons (by conv => lhs; whnf) (by exact rfl) envOk_nil)))))))) (objOk_cons (by conv => lhs; whnf) (by conv => lhs; whnf) (by exact rfl) (by simp) (objOk_cons (by conv => lhs; whnf) (by conv => lhs; whnf) (by exact rfl) (by simp) objOk_nil)) (nodup_b rfl) (nodup_b rfl) rfl rfl, v14_10, v15_10, v16_10, h, rfl⟩
        · rintro s ⟨v14_9, v15_9, v16_9, h, rfl⟩
          unfold gleaninglaw16_BufferOnce_k9 at h
          refine aw_seq_k (fun K111 hK111 => ?_)
          refine aw_regd (by kernel_rfl) (by decide +kernel) ?_
          refine ao_cons (acts_of rfl (does_move (v := .own 6 0) (by exact rfl))) (by decide) ?_
          refine ao_cons (acts_of rfl (does_move (v := .int .i64 v13_8) (by exact rfl))) (by decide) ?_
          obtain ⟨g112, h⟩ := gd_some h
          obtain ⟨x113, hx113, h⟩ := bnd_some h
          refine ao_cons (acts_of rfl (does_indexAddr_own (by conv => lhs; whnf) (by conv => lhs; whnf) (by conv => lhs; whnf) ty22 ty28 g112 (by exact own_lt hx113))) (by decide) ?_
          refine ao_cons (acts_of rfl (does_fieldAddr (q := .eptr 6 0 6 (Int.toNat v13_8) 0) (by conv => lhs; whnf) ty28 rfl ty25 (by decide) (by exact rfl))) (by decide) ?_
          refine ao_cons (acts_of rfl (does_load (v := .agg [.int .u64 x113.Trace.Hi, .int .u64 x113.Trace.Lo]) (by conv => lhs; whnf) (cellsAt_eptr (by conv => lhs; whnf) (by exact map_get hx113)) ty25 (by exact rfl))) (by decide) ?_
          refine ao_cons (acts_of rfl (does_move (v := .own 8 0) (by exact rfl))) (by decide) ?_
          refine ao_cons (acts_of rfl (does_move (v := .int .i64 v13_8) (by exact rfl))) (by decide) ?_
          obtain ⟨g114, h⟩ := gd_some h
          obtain ⟨x115, hx115, h⟩ := bnd_some h
          refine ao_cons (acts_of rfl (does_indexAddr_own (by conv => lhs; whnf) (by conv => lhs; whnf) (by conv => lhs; whnf) ty47 ty25 g114 (by exact own_lt hx115))) (by decide) ?_
          refine ao_cons (acts_of rfl (does_load (v := .agg [.int .u64 x115.Hi, .int .u64 x115.Lo]) (by conv => lhs; whnf) (cellsAt_eptr (by conv => lhs; whnf) (by exact map_get hx115)) ty25 (by exact rfl))) (by decide) ?_
          refine ao_cons (acts_of rfl (does_eq_struct (v := .bool (!((x113.Trace.Hi == x115.Hi) && ((x113.Trace.Lo == x115.Lo) && true)))) (by conv => lhs; whnf) (by conv => lhs; whnf) fk25 rfl ag25 eg25 (by conv => lhs; whnf) rfl)) (by decide) ?_
          refine ao_cons (acts_of rfl (does_move (v := .bool (!((x113.Trace.Hi == x115.Hi) && ((x113.Trace.Lo == x115.Lo) && true)))) (by exact rfl))) (by decide) ?_
          refine ao_bool (c := (!((x113.Trace.Hi == x115.Hi) && ((x113.Trace.Lo == x115.Lo) && true)))) 165 rfl (fun c116 => ?_) (fun c116 => ?_)
          · have h := ifT c116 h
            refine ao_cons (acts_skip rfl) (by decide) ?_
            refine ao_cons (acts_skip rfl) (by decide) ?_
            refine ao_cons (acts_skip rfl) (by decide) ?_
            refine ao_cons (acts_skip rfl) (by decide) ?_
            refine ao_cons (acts_skip rfl) (by decide) ?_
            refine ao_cons (acts_skip rfl) (by decide) ?_
            refine ao_cons (acts_skip rfl) (by decide) ?_
            refine ao_cons (acts_of rfl (does_pick (v := .bool true) (by conv => lhs; whnf) (by exact rfl))) (by decide) ?_
            refine ao_cons (acts_of rfl (does_move (v := .bool true) (by exact rfl))) (by decide) ?_
            refine ao_cons (acts_skip rfl) (by decide) ?_
            refine ao_cons (acts_skip rfl) (by decide) ?_
            refine ao_cons (acts_skip rfl) (by decide) ?_
            refine ao_cons (acts_skip rfl) (by decide) ?_
            refine ao_cons (acts_skip rfl) (by decide) ?_
            refine ao_cons (acts_skip rfl) (by decide) ?_
            refine ao_cons (acts_skip rfl) (by decide) ?_
            refine ao_cons (acts_of rfl (does_pick (v := .bool true) (by conv => lhs; whnf) (by exact rfl))) (by decide) ?_
            refine ao_cons (acts_of rfl (does_move (v := .bool true) (by exact rfl))) (by decide) ?_
            refine ao_cons (acts_skip rfl) (by decide) ?_
            refine ao_cons (acts_skip rfl) (by decide) ?_
            refine ao_cons (acts_skip rfl) (by decide) ?_
            refine ao_cons (acts_skip rfl) (by decide) ?_
            refine ao_cons (acts_skip rfl) (by decide) ?_
            refine ao_cons (acts_skip rfl) (by decide) ?_
            refine ao_cons (acts_skip rfl) (by decide) ?_
            refine ao_cons (acts_of rfl (does_pick (v := .bool true) (by conv => lhs; whnf) (by exact rfl))) (by decide) ?_
            refine ao_nil_d (by kernel_rfl) ?_
            refine hK111 _ ?_
            refine aw_cond_t (by decide) rfl ?_
            refine aw_seq_k (fun K117 hK117 => ?_)
            refine aw_reg ?_
            refine ao_cons (acts_of rfl (does_assign (v := .bool false) (by exact rfl))) (by decide) ?_
            refine ao_nil_n ?_
            refine hK117 _ ?_
            refine aw_ret ?_
            have h := leafR h hq80
            obtain rfl := Option.some.inj h
            exact ret_ok1 (by conv => lhs; whnf) (by conv => lhs; whnf) (by exact rfl) (.inr rfl) rfl
          · have h := ifF c116 h
            refine ao_cons (acts_of rfl (does_move (v := .own 6 0) (by exact rfl))) (by decide) ?_
            refine ao_cons (acts_of rfl (does_move (v := .int .i64 v13_8) (by exact rfl))) (by decide) ?_
            obtain ⟨g118, h⟩ := gd_some h
            obtain ⟨x119, hx119, h⟩ := bnd_some h
            refine ao_cons (acts_of rfl (does_indexAddr_own (by conv => lhs; whnf) (by conv => lhs; whnf) (by conv => lhs; whnf) ty22 ty28 g118 (by exact own_lt hx119))) (by decide) ?_
            refine ao_cons (acts_of rfl (does_fieldAddr (q := .eptr 6 0 6 (Int.toNat v13_8) 2) (by conv => lhs; whnf) ty28 rfl ty3 (by decide) (by exact rfl))) (by decide) ?_
            refine ao_cons (acts_of rfl (does_load (v := .int .i64 x119.First) (by conv => lhs; whnf) (cellsAt_eptr (by conv => lhs; whnf) (by exact map_get hx119)) ty3 (by exact rfl))) (by decide) ?_
            refine ao_cons (acts_of rfl (does_move (v := .int .i64 v14_9) (by exact rfl))) (by decide) ?_
            refine ao_cons (acts_of rfl (does_bin (v := .bool (x119.First != v14_9)) (by conv => lhs; whnf) (by conv => lhs; whnf) rfl)) (by decide) ?_
            refine ao_cons (acts_of rfl (does_pick (v := .bool (x119.First != v14_9)) (by conv => lhs; whnf) (by exact rfl))) (by decide) ?_
            refine ao_cons (acts_of rfl (does_move (v := .bool (x119.First != v14_9)) (by exact rfl))) (by decide) ?_
            refine ao_bool (c := (x119.First != v14_9)) 174 rfl (fun c120 => ?_) (fun c120 => ?_)
            · have h := ifT c120 h
              refine ao_cons (acts_skip rfl) (by decide) ?_
              refine ao_cons (acts_skip rfl) (by decide) ?_
              refine ao_cons (acts_skip rfl) (by decide) ?_
              refine ao_cons (acts_skip rfl) (by decide) ?_
              refine ao_cons (acts_skip rfl) (by decide) ?_
              refine ao_cons (acts_skip rfl) (by decide) ?_
              refine ao_cons (acts_skip rfl) (by decide) ?_
              refine ao_cons (acts_of rfl (does_pick (v := .bool true) (by conv => lhs; whnf) (by exact rfl))) (by decide) ?_
              refine ao_cons (acts_of rfl (does_move (v := .bool true) (by exact rfl))) (by decide) ?_
              refine ao_cons (acts_skip rfl) (by decide) ?_
              refine ao_cons (acts_skip rfl) (by decide) ?_
              refine ao_cons (acts_skip rfl) (by decide) ?_
              refine ao_cons (acts_skip rfl) (by decide) ?_
              refine ao_cons (acts_skip rfl) (by decide) ?_
              refine ao_cons (acts_skip rfl) (by decide) ?_
              refine ao_cons (acts_skip rfl) (by decide) ?_
              refine ao_cons (acts_of rfl (does_pick (v := .bool true) (by conv => lhs; whnf) (by exact rfl))) (by decide) ?_
              refine ao_nil_d (by kernel_rfl) ?_
              refine hK111 _ ?_
              refine aw_cond_t (by decide) rfl ?_
              refine aw_seq_k (fun K121 hK121 => ?_)
              refine aw_reg ?_
              refine ao_cons (acts_of rfl (does_assign (v := .bool false) (by exact rfl))) (by decide) ?_
              refine ao_nil_n ?_
              refine hK121 _ ?_
              refine aw_ret ?_
              have h := leafR h hq80
              obtain rfl := Option.some.inj h
              exact ret_ok1 (by conv => lhs; whnf) (by conv => lhs; whnf) (by exact rfl) (.inr rfl) rfl
            · have h := ifF c120 h
              refine ao_cons (acts_of rfl (does_move (v := .own 6 0) (by exact rfl))) (by decide) ?_
              refine ao_cons (acts_of rfl (does_move (v := .int .i64 v13_8) (by exact rfl))) (by decide) ?_
              obtain ⟨g122, h⟩ := gd_some h
              obtain ⟨x123, hx123, h⟩ := bnd_some h
              refine ao_cons (acts_of rfl (does_indexAddr_own (by conv => lhs; whnf) (by conv => lhs; whnf) (by conv => lhs; whnf) ty22 ty28 g122 (by exact own_lt hx123))) (by decide) ?_
              refine ao_cons (acts_of rfl (does_fieldAddr (q := .eptr 6 0 6 (Int.toNat v13_8) 3) (by conv => lhs; whnf) ty28 rfl ty3 (by decide) (by exact rfl))) (by decide) ?_
              refine ao_cons (acts_of rfl (does_load (v := .int .i64 x123.Last) (by conv => lhs; whnf) (cellsAt_eptr (by conv => lhs; whnf) (by exact map_get hx123)) ty3 (by exact rfl))) (by decide) ?_
              refine ao_cons (acts_of rfl (does_move (v := .int .i64 v15_9) (by exact rfl))) (by decide) ?_
              refine ao_cons (acts_of rfl (does_bin (v := .bool (x123.Last != v15_9)) (by conv => lhs; whnf) (by conv => lhs; whnf) rfl)) (by decide) ?_
              refine ao_cons (acts_of rfl (does_pick (v := .bool (x123.Last != v15_9)) (by conv => lhs; whnf) (by exact rfl))) (by decide) ?_
              refine ao_cons (acts_of rfl (does_move (v := .bool (x123.Last != v15_9)) (by exact rfl))) (by decide) ?_
              refine ao_bool (c := (x123.Last != v15_9)) 183 rfl (fun c124 => ?_) (fun c124 => ?_)
              · have h := ifT c124 h
                refine ao_cons (acts_skip rfl) (by decide) ?_
                refine ao_cons (acts_skip rfl) (by decide) ?_
                refine ao_cons (acts_skip rfl) (by decide) ?_
                refine ao_cons (acts_skip rfl) (by decide) ?_
                refine ao_cons (acts_skip rfl) (by decide) ?_
                refine ao_cons (acts_skip rfl) (by decide) ?_
                refine ao_cons (acts_skip rfl) (by decide) ?_
                refine ao_cons (acts_of rfl (does_pick (v := .bool true) (by conv => lhs; whnf) (by exact rfl))) (by decide) ?_
                refine ao_nil_d (by kernel_rfl) ?_
                refine hK111 _ ?_
                refine aw_cond_t (by decide) rfl ?_
                refine aw_seq_k (fun K125 hK125 => ?_)
                refine aw_reg ?_
                refine ao_cons (acts_of rfl (does_assign (v := .bool false) (by exact rfl))) (by decide) ?_
                refine ao_nil_n ?_
                refine hK125 _ ?_
                refine aw_ret ?_
                have h := leafR h hq80
                obtain rfl := Option.some.inj h
                exact ret_ok1 (by conv => lhs; whnf) (by conv => lhs; whnf) (by exact rfl) (.inr rfl) rfl
              · have h := ifF c124 h
                refine ao_cons (acts_of rfl (does_move (v := .own 6 0) (by exact rfl))) (by decide) ?_
                refine ao_cons (acts_of rfl (does_move (v := .int .i64 v13_8) (by exact rfl))) (by decide) ?_
                obtain ⟨g126, h⟩ := gd_some h
                obtain ⟨x127, hx127, h⟩ := bnd_some h
                refine ao_cons (acts_of rfl (does_indexAddr_own (by conv => lhs; whnf) (by conv => lhs; whnf) (by conv => lhs; whnf) ty22 ty28 g126 (by exact own_lt hx127))) (by decide) ?_
                refine ao_cons (acts_of rfl (does_fieldAddr (q := .eptr 6 0 6 (Int.toNat v13_8) 4) (by conv => lhs; whnf) ty28 rfl ty4 (by decide) (by exact rfl))) (by decide) ?_
                refine ao_cons (acts_of rfl (does_load (v := .bool x127.Sure) (by conv => lhs; whnf) (cellsAt_eptr (by conv => lhs; whnf) (by exact map_get hx127)) ty4 (by exact rfl))) (by decide) ?_
                refine ao_cons (acts_of rfl (does_move (v := .bool v16_9) (by exact rfl))) (by decide) ?_
                refine ao_cons (acts_of rfl (does_eq_bool (v := .bool (!(x127.Sure == v16_9))) (by conv => lhs; whnf) (by conv => lhs; whnf) (ty_bool ty4) rfl)) (by decide) ?_
                refine ao_cons (acts_of rfl (does_pick (v := .bool (!(x127.Sure == v16_9))) (by conv => lhs; whnf) (by exact rfl))) (by decide) ?_
                refine ao_nil_d (by kernel_rfl) ?_
                refine hK111 _ ?_
                refine aw_bool (b := (!(x127.Sure == v16_9))) 191 rfl (fun c128 => ?_) (fun c128 => ?_)
                · have h := ifT c128 h
                  refine aw_cond_t (by decide) rfl ?_
                  refine aw_seq_k (fun K129 hK129 => ?_)
                  refine aw_reg ?_
                  refine ao_cons (acts_of rfl (does_assign (v := .bool false) (by exact rfl))) (by decide) ?_
                  refine ao_nil_n ?_
                  refine hK129 _ ?_
                  refine aw_ret ?_
                  have h := leafR h hq80
                  obtain rfl := Option.some.inj h
                  exact ret_ok1 (by conv => lhs; whnf) (by conv => lhs; whnf) (by exact rfl) (.inr rfl) rfl
                · have h := ifF c128 h
                  refine aw_cond_f (by decide) rfl ?_
                  refine aw_skip ?_
                  refine hK84 _ ?_
                  refine aw_reg ?_
                  refine ao_cons (acts_of rfl (does_move (v := .int .i64 v13_8) (by exact rfl))) (by decide) ?_
                  refine ao_cons (acts_of rfl (does_bin (v := .int .i64 (IntKind.i64.wrap (v13_8 + 1))) (by conv => lhs; whnf) (by conv => lhs; whnf) rfl)) (by decide) ?_
                  refine ao_cons (acts_of rfl (does_assign (v := .int .i64 (IntKind.i64.wrap (v13_8 + 1))) (by exact rfl))) (by decide) ?_
                  refine ao_nil_n ?_
                  have h := leafL h hq80
                  exact ⟨m8, Nat.lt_succ_self _, _, reb_lit [(0, .sl 10 (List.map enc30 a0)), (1, .sl 1 (List.map enc4 a1)), (6, .own 6 0), (8, .own 8 0), (13, .int .i64 (IntKind.i64.wrap (v13_8 + 1)))] [(6, 0), (8, 0)] [((6, 0), .arr 28 6 false (List.map enc27 v6_s_1)), ((8, 0), .arr 25 2 false (List.map enc24 v8_s_1))] [(6, 1), (8, 1)] (envOk_cons (by conv => lhs; whnf) (by exact rfl) (envOk_cons (by conv => lhs; whnf) (by exact rfl) (envOk_cons (by conv => lhs; whnf) (by exact rfl) (envOk_cons (by conv => lhs; whnf) (by exact rfl) (envOk_cons (by conv => lhs; whnf) (by exact rfl) envOk_nil))))) (objOk_cons (by conv => lhs; whnf) (by conv => lhs; whnf) (by exact rfl) (by simp) (objOk_cons (by conv => lhs; whnf) (by conv => lhs; whnf) (by exact rfl) (by simp) objOk_nil)) (nodup_b rfl) (nodup_b rfl) rfl rfl, (IntKind.i64.wrap (v13_8 + 1)), h, rfl⟩
      · have h := ifF c83 h
        refine aw_cond_f (by decide) rfl ?_
        refine aw_exit ?_
        have h := leafR h hq80
        refine hK77 _ ?_
        refine aw_seq_k (fun K130 hK130 => ?_)
        refine aw_reg ?_
        refine ao_cons (acts_of rfl (does_assign (v := .bool true) (by exact rfl))) (by decide) ?_
        refine ao_nil_n ?_
        refine hK130 _ ?_
        refine aw_ret ?_
        obtain rfl := Option.some.inj h
        exact ret_ok1 (by conv => lhs; whnf) (by conv => lhs; whnf) (by exact rfl) (.inr rfl) rfl
theorem sh45 : ∀ (m : Nat) (cs : List PV), Shape Try.prog m 45 cs → ∃ a : List Bool, cs = [.sl 1 (List.map enc4 a)] ∧ ((List.length a) ≤ maxLen ∧ ∀ y ∈ a, True) := fun m cs h => by
  obtain ⟨l, h1, h2, h3⟩ := shape_rows (f := enc4) (Q := fun y => True) h Try.underlying45 (fun m ps hs => by
    obtain ⟨a, rfl, hw⟩ := sh4 m ps hs
    exact ⟨a, by rw [show aggT Try.prog 4 = false by kernel_rfl]; rfl, hw⟩)
  exact ⟨l, h1.trans (by rw [show Try.prog.cellsOf 4 = 1 by kernel_rfl]), h2, h3⟩
def rollup_Less_k0 (a0 : Int) (a1 : Int) (v9_0 : Bool) : Option Int :=
  if v9_0 = true then (some (-9223372036854775808)) else (if (decide (a1 < 0)) = true then (if (decide ((IntKind.i64.wrap (a0 - a1)) < a0)) = true then (some 9223372036854775807) else (some (IntKind.i64.wrap (a0 - a1)))) else (some (IntKind.i64.wrap (a0 - a1))))
def rollup_Less (a0 : Int) (a1 : Int) : Option Int :=
  Option.bind (if (decide ((0 : Int) < a1)) = true then (some (decide (a0 < (IntKind.i64.wrap (a0 - a1))))) else (some false)) (fun (s : Bool) => rollup_Less_k0 a0 a1 s)
set_option maxRecDepth 100000 in
set_option maxHeartbeats 8000000 in
/-- gleaning/rollup.Less -/
theorem rollup_Less_ok (a0 : Int) (a1 : Int) {r : Int} (h : rollup_Less a0 a1 = some r) : Ok Try.prog 59 [.int .i64 a0, .int .i64 a1] [] [] (.int .i64 r) [] [] := by
  unfold rollup_Less at h
  refine ok_of_code Try.func59 rfl (by show (2 : Nat) ≤ _; decide) (Nat.le_refl _) fun X => ?_
  refine aw_seq_k (fun K1 hK1 => ?_)
  refine aw_reg ?_
  refine ao_cons (acts_of rfl (does_assign (v := .int .i64 0) (by exact rfl))) (by decide) ?_
  refine ao_nil_n ?_
  refine hK1 _ ?_
  refine aw_seq_k (fun K2 hK2 => ?_)
  refine aw_reg ?_
  refine ao_cons (acts_of rfl (does_move (v := .int .i64 a0) (by exact rfl))) (by decide) ?_
  refine ao_cons (acts_of rfl (does_move (v := .int .i64 a1) (by exact rfl))) (by decide) ?_
  refine ao_cons (acts_of rfl (does_bin (v := .int .i64 (IntKind.i64.wrap (a0 - a1))) (by conv => lhs; whnf) (by conv => lhs; whnf) rfl)) (by decide) ?_
  refine ao_cons (acts_of rfl (does_assign (v := .int .i64 (IntKind.i64.wrap (a0 - a1))) (by exact rfl))) (by decide) ?_
  refine ao_nil_n ?_
  refine hK2 _ ?_
  refine aw_seq_k (fun K3 hK3 => ?_)
  refine aw_block ?_
  obtain ⟨q4, h, hk5⟩ := bnd_some h
  refine aw_cut (fun s => ∃ (v9_0 : Bool), rollup_Less_k0 a0 a1 v9_0 = some r ∧ s = lit [(0, .int .i64 a0), (1, .int .i64 a1), (5, .int .i64 (IntKind.i64.wrap (a0 - a1))), (9, .bool v9_0)] [] [] X) ?_ ?_
  · skip
    refine aw_reg ?_
    refine ao_cons (acts_of rfl (does_move (v := .int .i64 a1) (by exact rfl))) (by decide) ?_
    refine ao_cons (acts_of rfl (does_bin (v := .bool (decide ((0 : Int) < a1))) (by conv => lhs; whnf) (by conv => lhs; whnf) rfl)) (by decide) ?_
    refine ao_cons (acts_of rfl (does_move (v := .bool (decide ((0 : Int) < a1))) (by exact rfl))) (by decide) ?_
    refine ao_bool (c := (decide ((0 : Int) < a1))) 12 rfl (fun c6 => ?_) (fun c6 => ?_)
    · have h := ifT c6 h
      refine ao_cons (acts_of rfl (does_move (v := .int .i64 (IntKind.i64.wrap (a0 - a1))) (by exact rfl))) (by decide) ?_
      refine ao_cons (acts_of rfl (does_move (v := .int .i64 a0) (by exact rfl))) (by decide) ?_
      refine ao_cons (acts_of rfl (does_bin (v := .bool (decide (a0 < (IntKind.i64.wrap (a0 - a1))))) (by conv => lhs; whnf) (by conv => lhs; whnf) rfl)) (by decide) ?_
      refine ao_cons (acts_of rfl (does_pick (v := .bool (decide (a0 < (IntKind.i64.wrap (a0 - a1))))) (by conv => lhs; whnf) (by exact rfl))) (by decide) ?_
      refine ao_cons (acts_of rfl (does_assign (v := .bool (decide (a0 < (IntKind.i64.wrap (a0 - a1))))) (by exact rfl))) (by decide) ?_
      refine ao_nil_n ?_
      obtain rfl := Option.some.inj h
      have h := hk5
      exact ⟨_, reb_lit [(0, .int .i64 a0), (1, .int .i64 a1), (5, .int .i64 (IntKind.i64.wrap (a0 - a1))), (9, .bool (decide (a0 < (IntKind.i64.wrap (a0 - a1)))))] [] [] [] (envOk_cons (by conv => lhs; whnf) (by exact rfl) (envOk_cons (by conv => lhs; whnf) (by exact rfl) (envOk_cons (by conv => lhs; whnf) (by exact rfl) (envOk_cons (by conv => lhs; whnf) (by exact rfl) envOk_nil)))) objOk_nil (nodup_b rfl) (nodup_b rfl) rfl rfl, (decide (a0 < (IntKind.i64.wrap (a0 - a1)))), h, rfl⟩
    · have h := ifF c6 h
      refine ao_cons (acts_skip rfl) (by decide) ?_
      refine ao_cons (acts_skip rfl) (by decide) ?_
      refine ao_cons (acts_skip rfl) (by decide) ?_
      refine ao_cons (acts_of rfl (does_pick (v := .bool false) (by conv => lhs; whnf) (by exact rfl))) (by decide) ?_
      refine ao_cons (acts_of rfl (does_assign (v := .bool false) (by exact rfl))) (by decide) ?_
      refine ao_nil_n ?_
      obtain rfl := Option.some.inj h
      have h := hk5
      exact ⟨_, reb_lit [(0, .int .i64 a0), (1, .int .i64 a1), (5, .int .i64 (IntKind.i64.wrap (a0 - a1))), (9, .bool false)] [] [] [] (envOk_cons (by conv => lhs; whnf) (by exact rfl) (envOk_cons (by conv => lhs; whnf) (by exact rfl) (envOk_cons (by conv => lhs; whnf) (by exact rfl) (envOk_cons (by conv => lhs; whnf) (by exact rfl) envOk_nil)))) objOk_nil (nodup_b rfl) (nodup_b rfl) rfl rfl, false, h, rfl⟩
  · rintro s ⟨v9_0, h, rfl⟩
    unfold rollup_Less_k0 at h
    refine aw_bool (b := v9_0) 9 rfl (fun c7 => ?_) (fun c7 => ?_)
    · have h := ifT c7 h
      refine aw_cond_t (by decide) rfl ?_
      refine aw_seq_k (fun K8 hK8 => ?_)
      refine aw_reg ?_
      refine ao_cons (acts_of rfl (does_assign (v := .int .i64 (-9223372036854775808)) (by exact rfl))) (by decide) ?_
      refine ao_nil_n ?_
      refine hK8 _ ?_
      refine aw_ret ?_
      obtain rfl := Option.some.inj h
      exact ret_ok1 (by conv => lhs; whnf) (by conv => lhs; whnf) (by exact rfl) (.inr rfl) rfl
    · have h := ifF c7 h
      refine aw_cond_f (by decide) rfl ?_
      refine aw_seq_k (fun K9 hK9 => ?_)
      refine aw_reg ?_
      refine ao_cons (acts_of rfl (does_move (v := .int .i64 a1) (by exact rfl))) (by decide) ?_
      refine ao_cons (acts_of rfl (does_bin (v := .bool (decide (a1 < 0))) (by conv => lhs; whnf) (by conv => lhs; whnf) rfl)) (by decide) ?_
      refine ao_cons (acts_of rfl (does_move (v := .bool (decide (a1 < 0))) (by exact rfl))) (by decide) ?_
      refine ao_bool (c := (decide (a1 < 0))) 20 rfl (fun c10 => ?_) (fun c10 => ?_)
      · have h := ifT c10 h
        refine ao_cons (acts_of rfl (does_move (v := .int .i64 (IntKind.i64.wrap (a0 - a1))) (by exact rfl))) (by decide) ?_
        refine ao_cons (acts_of rfl (does_move (v := .int .i64 a0) (by exact rfl))) (by decide) ?_
        refine ao_cons (acts_of rfl (does_bin (v := .bool (decide ((IntKind.i64.wrap (a0 - a1)) < a0))) (by conv => lhs; whnf) (by conv => lhs; whnf) rfl)) (by decide) ?_
        refine ao_cons (acts_of rfl (does_pick (v := .bool (decide ((IntKind.i64.wrap (a0 - a1)) < a0))) (by conv => lhs; whnf) (by exact rfl))) (by decide) ?_
        refine ao_cons (acts_of rfl (does_assign (v := .bool (decide ((IntKind.i64.wrap (a0 - a1)) < a0))) (by exact rfl))) (by decide) ?_
        refine ao_nil_n ?_
        refine hK9 _ ?_
        refine aw_bool (b := (decide ((IntKind.i64.wrap (a0 - a1)) < a0))) 17 rfl (fun c11 => ?_) (fun c11 => ?_)
        · have h := ifT c11 h
          refine aw_cond_t (by decide) rfl ?_
          refine aw_seq_k (fun K12 hK12 => ?_)
          refine aw_reg ?_
          refine ao_cons (acts_of rfl (does_assign (v := .int .i64 9223372036854775807) (by exact rfl))) (by decide) ?_
          refine ao_nil_n ?_
          refine hK12 _ ?_
          refine aw_ret ?_
          obtain rfl := Option.some.inj h
          exact ret_ok1 (by conv => lhs; whnf) (by conv => lhs; whnf) (by exact rfl) (.inr rfl) rfl
        · have h := ifF c11 h
          refine aw_cond_f (by decide) rfl ?_
          refine aw_skip ?_
          refine hK3 _ ?_
          refine aw_seq_k (fun K13 hK13 => ?_)
          refine aw_reg ?_
          refine ao_cons (acts_of rfl (does_move (v := .int .i64 (IntKind.i64.wrap (a0 - a1))) (by exact rfl))) (by decide) ?_
          refine ao_cons (acts_of rfl (does_assign (v := .int .i64 (IntKind.i64.wrap (a0 - a1))) (by exact rfl))) (by decide) ?_
          refine ao_nil_n ?_
          refine hK13 _ ?_
          refine aw_ret ?_
          obtain rfl := Option.some.inj h
          exact ret_ok1 (by conv => lhs; whnf) (by conv => lhs; whnf) (by exact rfl) (.inr rfl) rfl
      · have h := ifF c10 h
        refine ao_cons (acts_skip rfl) (by decide) ?_
        refine ao_cons (acts_skip rfl) (by decide) ?_
        refine ao_cons (acts_skip rfl) (by decide) ?_
        refine ao_cons (acts_of rfl (does_pick (v := .bool false) (by conv => lhs; whnf) (by exact rfl))) (by decide) ?_
        refine ao_cons (acts_of rfl (does_assign (v := .bool false) (by exact rfl))) (by decide) ?_
        refine ao_nil_n ?_
        refine hK9 _ ?_
        refine aw_cond_f (by decide) rfl ?_
        refine aw_skip ?_
        refine hK3 _ ?_
        refine aw_seq_k (fun K14 hK14 => ?_)
        refine aw_reg ?_
        refine ao_cons (acts_of rfl (does_move (v := .int .i64 (IntKind.i64.wrap (a0 - a1))) (by exact rfl))) (by decide) ?_
        refine ao_cons (acts_of rfl (does_assign (v := .int .i64 (IntKind.i64.wrap (a0 - a1))) (by exact rfl))) (by decide) ?_
        refine ao_nil_n ?_
        refine hK14 _ ?_
        refine aw_ret ?_
        obtain rfl := Option.some.inj h
        exact ret_ok1 (by conv => lhs; whnf) (by conv => lhs; whnf) (by exact rfl) (.inr rfl) rfl
def buffer_Close_k2 (v10_s_1 : List Episode) (v11_s_1 : List Episode) (v17_1 : Int) (x15 : Episode) (v34_2 : Bool) : Option ((List Episode × List Episode × Int) ⊕ (List Episode × List Episode)) :=
  if v34_2 = true then (gd ((List.length (v11_s_1 ++ [x15])) * 64 ≤ 140737488355328 ∧ (List.length (v11_s_1 ++ [x15])) ≤ 140737488355328) (some (Sum.inl (v10_s_1, (v11_s_1 ++ [x15]), (IntKind.i64.wrap (v17_1 + 1)))))) else (gd ((List.length (v10_s_1 ++ [x15])) * 64 ≤ 140737488355328 ∧ (List.length (v10_s_1 ++ [x15])) ≤ 140737488355328) (some (Sum.inl ((v10_s_1 ++ [x15]), v11_s_1, (IntKind.i64.wrap (v17_1 + 1))))))
def buffer_Close_l1 (a1 : Int) (a2 : Int) (a3 : Int) (x6 : List Episode) (v10_s_1 : List Episode) (v11_s_1 : List Episode) (v17_1 : Int) : Option ((List Episode × List Episode × Int) ⊕ (List Episode × List Episode)) :=
  if (decide (v17_1 < (List.length x6 : Int))) = true then (gd (0 ≤ v17_1) (Option.bind (x6[(Int.toNat v17_1)]?) (fun (x15 : Episode) => Option.bind (Option.bind (rollup_Less a1 x15.Last) (fun (x18 : Int) => if (decide (a2 ≤ x18)) = true then (some true) else (Option.bind (rollup_Less a1 x15.First) (fun (x20 : Int) => some (decide (a3 ≤ x20)))))) (fun (s : Bool) => buffer_Close_k2 v10_s_1 v11_s_1 v17_1 x15 s)))) else (some (Sum.inr (v10_s_1, v11_s_1)))
def buffer_Close_k0 (v10_s_0 : List Episode) (v11_s_0 : List Episode) : Option (List Episode × List Episode) :=
  some (v10_s_0, v11_s_0)
def buffer_Close (a0 : List Episode) (a1 : Int) (a2 : Int) (a3 : Int) : Option (List Episode × List Episode) :=
  Option.bind (Option.bind (episode_Copies a0) (fun (x6 : List Episode) => loopN (fun (s : List Episode × List Episode × Int) => buffer_Close_l1 a1 a2 a3 x6 s.1 s.2.1 s.2.2) Fu ([], [], 0))) (fun (s : List Episode × List Episode) => buffer_Close_k0 s.1 s.2)
set_option maxRecDepth 100000 in
set_option maxHeartbeats 8000000 in
/-- gleaning/buffer.Close -/
theorem buffer_Close_ok (a0 : List Episode) (a1 : Int) (a2 : Int) (a3 : Int) {r : List Episode × List Episode} (h : buffer_Close a0 a1 a2 a3 = some r) : Ok Try.prog 37 [.sl 6 (List.map enc27 a0), .int .i64 a1, .int .i64 a2, .int .i64 a3] [] [] (.tup [.own 2 0, .own 2 1]) [] [(28, 6, List.map enc27 r.1), (28, 6, List.map enc27 r.2)] := by
  unfold buffer_Close at h
  refine ok_of_code Try.func37 rfl (by show (4 : Nat) ≤ _; decide) (Nat.le_refl _) fun X => ?_
  refine aw_seq_k (fun K1 hK1 => ?_)
  refine aw_reg ?_
  refine ao_cons (acts_of rfl (does_assign (v := .nil) (by exact rfl))) (by decide) ?_
  refine ao_cons (acts_of rfl (does_assign (v := .nil) (by exact rfl))) (by decide) ?_
  refine ao_nil_n ?_
  refine hK1 _ ?_
  refine aw_seq_k (fun K2 hK2 => ?_)
  refine aw_reg ?_
  refine ao_cons (acts_of rfl (does_assign (v := .nil) (by exact rfl))) (by decide) ?_
  refine ao_cons (acts_of rfl (does_assign (v := .nil) (by exact rfl))) (by decide) ?_
  refine ao_nil_n ?_
  refine hK2 _ ?_
  obtain ⟨q3, h, hk4⟩ := bnd_some h
  refine aw_cut (fun s => ∃ (v10_s_0 : List Episode), ∃ (v11_s_0 : List Episode), buffer_Close_k0 v10_s_0 v11_s_0 = some r ∧ s = lit [(10, .own 10 0), (11, .own 11 0)] [((10, 0), .arr 28 6 false (List.map enc27 v10_s_0)), ((11, 0), .arr 28 6 false (List.map enc27 v11_s_0))] [(10, 1), (11, 1)] X) ?_ ?_
  · skip
    refine aw_seq_k (fun K5 hK5 => ?_)
    refine aw_reg ?_
    refine ao_cons (acts_of rfl (does_move (v := .sl 6 (List.map enc27 a0)) (by exact rfl))) (by decide) ?_
    obtain ⟨x6, hx6, h⟩ := bnd_some h
    refine ao_cons (acts_of rfl (do_call0 15 false (episode_Copies_ok a0 hx6) rfl ent47 rfl rfl)) (by decide) ?_
    refine ao_cons (acts_of rfl ((does_len_own (by conv => lhs; whnf) (by conv => lhs; whnf) ty22).cast (v' := .int .i64 (List.length x6 : Int)) (by exact len_map _))) (by decide) ?_
    refine ao_cons (acts_of rfl (does_move (v := .int .i64 0) (by exact rfl))) (by decide) ?_
    refine ao_nil_n ?_
    refine hK5 _ ?_
    refine aw_block ?_
    refine aw_nilOwn 10 28 6 (by conv => lhs; whnf) (by decide) (by decide) ?_
    refine aw_nilOwn 11 28 6 (by conv => lhs; whnf) (by decide) (by decide) ?_
    refine aw_loop' (fun m s => ∃ (v10_s_1 : List Episode), ∃ (v11_s_1 : List Episode), ∃ (v17_1 : Int), loopN (fun (s : List Episode × List Episode × Int) => buffer_Close_l1 a1 a2 a3 x6 s.1 s.2.1 s.2.2) m (v10_s_1, v11_s_1, v17_1) = some q3 ∧ s = lit [(1, .int .i64 a1), (2, .int .i64 a2), (3, .int .i64 a3), (10, .own 10 0), (11, .own 11 0), (15, .own 15 0), (16, .int .i64 (List.length x6 : Int)), (17, .int .i64 v17_1)] [((10, 0), .arr 28 6 false (List.map enc27 v10_s_1)), ((11, 0), .arr 28 6 false (List.map enc27 v11_s_1)), ((15, 0), .arr 28 6 false (List.map enc27 x6))] [(10, 1), (11, 1), (15, 1)] X) Fu
      ⟨_, reb_lit [(1, .int .i64 a1), (2, .int .i64 a2), (3, .int .i64 a3), (10, .own 10 0), (11, .own 11 0), (15, .own 15 0), (16, .int .i64 (List.length x6 : Int)), (17, .int .i64 (0))] [(10, 0), (11, 0), (15, 0)] [((10, 0), .arr 28 6 false (List.map enc27 [])), ((11, 0), .arr 28 6 false (List.map enc27 [])), ((15, 0), .arr 28 6 false (List.map enc27 x6))] [(10, 1), (11, 1), (15, 1)] (envOk_cons (by conv => lhs; whnf) (by exact rfl) (envOk_cons (by conv => lhs; whnf) (by exact rfl) (envOk_cons (by conv => lhs; whnf) (by exact rfl) (envOk_cons (by conv => lhs; whnf) (by exact rfl) (envOk_cons (by conv => lhs; whnf) (by exact rfl) (envOk_cons (by conv => lhs; whnf) (by exact rfl) (envOk_cons (by conv => lhs; whnf) (by exact rfl) (envOk_cons (by conv => lhs; whnf) (by exact rfl) envOk_nil)))))))) (objOk_cons (by conv => lhs; whnf) (by conv => lhs; whnf) (by exact rfl) (by simp) (objOk_cons (by conv => lhs; whnf) (by conv => lhs; whnf) (by exact rfl) (by simp) (objOk_cons (by conv => lhs; whnf) (by conv => lhs; whnf) (by exact rfl) (by simp) objOk_nil))) (nodup_b rfl) (nodup_b rfl) rfl rfl, [], [], 0, h, rfl⟩ ?_
    rintro m s ⟨v10_s_1, v11_s_1, v17_1, h, rfl⟩
    obtain ⟨m1, q7, rfl, h, hq8⟩ := loop_some h
    replace h : buffer_Close_l1 a1 a2 a3 x6 v10_s_1 v11_s_1 v17_1 = some q7 := h
    unfold buffer_Close_l1 at h
    refine aw_seq_k (fun K9 hK9 => ?_)
    refine aw_reg ?_
    refine ao_cons (acts_of rfl (does_bin (v := .bool (decide (v17_1 < (List.length x6 : Int)))) (by conv => lhs; whnf) (by conv => lhs; whnf) rfl)) (by decide) ?_
    refine ao_nil_n ?_
    refine hK9 _ ?_
    refine aw_seq_k (fun K10 hK10 => ?_)
    refine aw_bool (b := (decide (v17_1 < (List.length x6 : Int)))) 18 rfl (fun c11 => ?_) (fun c11 => ?_)
    · have h := ifT c11 h
      refine aw_cond_t (by decide) rfl ?_
      refine aw_skip ?_
      refine hK10 _ ?_
      refine aw_seq_k (fun K12 hK12 => ?_)
      refine aw_block ?_
      refine aw_seq_k (fun K13 hK13 => ?_)
      refine aw_reg ?_
      obtain ⟨g14, h⟩ := gd_some h
      obtain ⟨x15, hx15, h⟩ := bnd_some h
      refine ao_cons (acts_of rfl (does_indexAddr_own (by conv => lhs; whnf) (by conv => lhs; whnf) (by conv => lhs; whnf) ty22 ty28 g14 (by exact own_lt hx15))) (by decide) ?_
      refine ao_cons (acts_of rfl (does_load (v := .agg [.int .u64 x15.Trace.Hi, .int .u64 x15.Trace.Lo, .int .i64 x15.First, .int .i64 x15.Last, .bool x15.Sure, .sl 10 (List.map enc30 x15.Spans)]) (by conv => lhs; whnf) (cellsAt_eptr (by conv => lhs; whnf) (by exact map_get hx15)) ty28 (by exact rfl))) (by decide) ?_
      refine ao_cons (acts_of rfl (do_new ty28 rfl rfl)) (by decide) ?_
      refine ao_cons (acts_of rfl (do_store (cs' := [.int .u64 x15.Trace.Hi, .int .u64 x15.Trace.Lo, .int .i64 x15.First, .int .i64 x15.Last, .bool x15.Sure, .sl 10 (List.map enc30 x15.Spans)]) (by conv => lhs; whnf) (by conv => lhs; whnf) (by conv => lhs; whnf) ty28 rfl rfl rfl (by exact rfl))) (by decide) ?_
      refine ao_nil_n ?_
      refine hK13 _ ?_
      obtain ⟨q16, h, hk17⟩ := bnd_some h
      refine aw_cut (fun s => ∃ (v34_2 : Bool), buffer_Close_k2 v10_s_1 v11_s_1 v17_1 x15 v34_2 = some q7 ∧ s = lit [(1, .int .i64 a1), (2, .int .i64 a2), (3, .int .i64 a3), (10, .own 10 0), (11, .own 11 0), (13, .ptr 13 0 0), (15, .own 15 0), (16, .int .i64 (List.length x6 : Int)), (17, .int .i64 v17_1), (34, .bool v34_2)] [((10, 0), .arr 28 6 false (List.map enc27 v10_s_1)), ((11, 0), .arr 28 6 false (List.map enc27 v11_s_1)), ((13, 0), .box [.int .u64 x15.Trace.Hi, .int .u64 x15.Trace.Lo, .int .i64 x15.First, .int .i64 x15.Last, .bool x15.Sure, .sl 10 (List.map enc30 x15.Spans)]), ((15, 0), .arr 28 6 false (List.map enc27 x6))] [(10, 1), (11, 1), (13, 1), (15, 1)] X) ?_ ?_
      · skip
        refine aw_reg ?_
        refine ao_cons (acts_of rfl (does_move (v := .int .i64 a1) (by exact rfl))) (by decide) ?_
        refine ao_cons (acts_of rfl (does_fieldAddr (q := .ptr 13 0 3) (by conv => lhs; whnf) ty28 rfl ty3 (by decide) (by exact rfl))) (by decide) ?_
        refine ao_cons (acts_of rfl (does_load (v := .int .i64 x15.Last) (by conv => lhs; whnf) (by conv => lhs; whnf) ty3 (by exact rfl))) (by decide) ?_
        obtain ⟨x18, hx18, h⟩ := bnd_some h
        refine ao_cons (acts_of rfl (do_call0 24 false (rollup_Less_ok a1 x15.Last hx18) rfl ent59 rfl rfl)) (by decide) ?_
        refine ao_cons (acts_of rfl (does_move (v := .int .i64 a2) (by exact rfl))) (by decide) ?_
        refine ao_cons (acts_of rfl (does_bin (v := .bool (decide (a2 ≤ x18))) (by conv => lhs; whnf) (by conv => lhs; whnf) rfl)) (by decide) ?_
        refine ao_cons (acts_of rfl (does_move (v := .bool (decide (a2 ≤ x18))) (by exact rfl))) (by decide) ?_
        refine ao_bool (c := (decide (a2 ≤ x18))) 27 rfl (fun c19 => ?_) (fun c19 => ?_)
        · have h := ifT c19 h
          refine ao_cons (acts_skip rfl) (by decide) ?_
          refine ao_cons (acts_skip rfl) (by decide) ?_
          refine ao_cons (acts_skip rfl) (by decide) ?_
          refine ao_cons (acts_skip rfl) (by decide) ?_
          refine ao_cons (acts_skip rfl) (by decide) ?_
          refine ao_cons (acts_skip rfl) (by decide) ?_
          refine ao_cons (acts_of rfl (does_pick (v := .bool true) (by conv => lhs; whnf) (by exact rfl))) (by decide) ?_
          refine ao_nil_n ?_
          obtain rfl := Option.some.inj h
          have h := hk17
          exact ⟨_, reb_lit [(1, .int .i64 a1), (2, .int .i64 a2), (3, .int .i64 a3), (10, .own 10 0), (11, .own 11 0), (13, .ptr 13 0 0), (15, .own 15 0), (16, .int .i64 (List.length x6 : Int)), (17, .int .i64 v17_1), (34, .bool true)] [(10, 0), (11, 0), (13, 0), (15, 0)] [((10, 0), .arr 28 6 false (List.map enc27 v10_s_1)), ((11, 0), .arr 28 6 false (List.map enc27 v11_s_1)), ((13, 0), .box [.int .u64 x15.Trace.Hi, .int .u64 x15.Trace.Lo, .int .i64 x15.First, .int .i64 x15.Last, .bool x15.Sure, .sl 10 (List.map enc30 x15.Spans)]), ((15, 0), .arr 28 6 false (List.map enc27 x6))] [(10, 1), (11, 1), (13, 1), (15, 1)] (envOk_cons (by conv => lhs; whnf) (by exact rfl) (envOk_cons (by conv => lhs; whnf) (by exact rfl) (envOk_cons (by conv => lhs; whnf) (by exact rfl) (envOk_cons (by conv => lhs; whnf) (by exact rfl) (envOk_cons (by conv => lhs; whnf) (by exact rfl) (envOk_cons (by conv => lhs; whnf) (by exact rfl) (envOk_cons (by conv => lhs; whnf) (by exact rfl) (envOk_cons (by conv => lhs; whnf) (by exact rfl) (envOk_cons (by conv => lhs; whnf) (by exact rfl) (envOk_cons (by conv => lhs; whnf) (by exact rfl) envOk_nil)))))))))) (objOk_cons (by conv => lhs; whnf) (by conv => lhs; whnf) (by exact rfl) (by simp) (objOk_cons (by conv => lhs; whnf) (by conv => lhs; whnf) (by exact rfl) (by simp) (objOk_cons (by conv => lhs; whnf) (by conv => lhs; whnf) (by exact rfl) (by simp) (objOk_cons (by conv => lhs; whnf) (by conv => lhs; whnf) (by exact rfl) (by simp) objOk_nil)))) (nodup_b rfl) (nodup_b rfl) rfl rfl, true, h, rfl⟩
        · have h := ifF c19 h
          refine ao_cons (acts_of rfl (does_move (v := .int .i64 a1) (by exact rfl))) (by decide) ?_
          refine ao_cons (acts_of rfl (does_fieldAddr (q := .ptr 13 0 2) (by conv => lhs; whnf) ty28 rfl ty3 (by decide) (by exact rfl))) (by decide) ?_
          refine ao_cons (acts_of rfl (does_load (v := .int .i64 x15.First) (by conv => lhs; whnf) (by conv => lhs; whnf) ty3 (by exact rfl))) (by decide) ?_
          obtain ⟨x20, hx20, h⟩ := bnd_some h
          refine ao_cons (acts_of rfl (do_call0 31 false (rollup_Less_ok a1 x15.First hx20) rfl ent59 rfl rfl)) (by decide) ?_
          refine ao_cons (acts_of rfl (does_move (v := .int .i64 a3) (by exact rfl))) (by decide) ?_
          refine ao_cons (acts_of rfl (does_bin (v := .bool (decide (a3 ≤ x20))) (by conv => lhs; whnf) (by conv => lhs; whnf) rfl)) (by decide) ?_
          refine ao_cons (acts_of rfl (does_pick (v := .bool (decide (a3 ≤ x20))) (by conv => lhs; whnf) (by exact rfl))) (by decide) ?_
          refine ao_nil_n ?_
          obtain rfl := Option.some.inj h
          have h := hk17
          exact ⟨_, reb_lit [(1, .int .i64 a1), (2, .int .i64 a2), (3, .int .i64 a3), (10, .own 10 0), (11, .own 11 0), (13, .ptr 13 0 0), (15, .own 15 0), (16, .int .i64 (List.length x6 : Int)), (17, .int .i64 v17_1), (34, .bool (decide (a3 ≤ x20)))] [(10, 0), (11, 0), (13, 0), (15, 0)] [((10, 0), .arr 28 6 false (List.map enc27 v10_s_1)), ((11, 0), .arr 28 6 false (List.map enc27 v11_s_1)), ((13, 0), .box [.int .u64 x15.Trace.Hi, .int .u64 x15.Trace.Lo, .int .i64 x15.First, .int .i64 x15.Last, .bool x15.Sure, .sl 10 (List.map enc30 x15.Spans)]), ((15, 0), .arr 28 6 false (List.map enc27 x6))] [(10, 1), (11, 1), (13, 1), (15, 1)] (envOk_cons (by conv => lhs; whnf) (by exact rfl) (envOk_cons (by conv => lhs; whnf) (by exact rfl) (envOk_cons (by conv => lhs; whnf) (by exact rfl) (envOk_cons (by conv => lhs; whnf) (by exact rfl) (envOk_cons (by conv => lhs; whnf) (by exact rfl) (envOk_cons (by conv => lhs; whnf) (by exact rfl) (envOk_cons (by conv => lhs; whnf) (by exact rfl) (envOk_cons (by conv => lhs; whnf) (by exact rfl) (envOk_cons (by conv => lhs; whnf) (by exact rfl) (envOk_cons (by conv => lhs; whnf) (by exact rfl) envOk_nil)))))))))) (objOk_cons (by conv => lhs; whnf) (by conv => lhs; whnf) (by exact rfl) (by simp) (objOk_cons (by conv => lhs; whnf) (by conv => lhs; whnf) (by exact rfl) (by simp) (objOk_cons (by conv => lhs; whnf) (by conv => lhs; whnf) (by exact rfl) (by simp) (objOk_cons (by conv => lhs; whnf) (by conv => lhs; whnf) (by exact rfl) (by simp) objOk_nil)))) (nodup_b rfl) (nodup_b rfl) rfl rfl, (decide (a3 ≤ x20)), h, rfl⟩
      · rintro s ⟨v34_2, h, rfl⟩
        unfold buffer_Close_k2 at h
        refine aw_bool (b := v34_2) 34 rfl (fun c21 => ?_) (fun c21 => ?_)
        · have h := ifT c21 h
          refine aw_cond_t (by decide) rfl ?_
          refine aw_reg ?_
          refine ao_cons (acts_of rfl (does_move (v := .own 11 0) (by exact rfl))) (by decide) ?_
          refine ao_cons (acts_of rfl (does_load (v := .agg [.int .u64 x15.Trace.Hi, .int .u64 x15.Trace.Lo, .int .i64 x15.First, .int .i64 x15.Last, .bool x15.Sure, .sl 10 (List.map enc30 x15.Spans)]) (by conv => lhs; whnf) (by conv => lhs; whnf) ty28 (by exact rfl))) (by decide) ?_
          refine ao_cons (acts_of rfl (do_buildSlice (xs := List.map enc27 [x15]) ty22 ty28 rfl rfl rfl rfl rfl rfl rfl rfl)) (by decide) ?_
          obtain ⟨g22, h⟩ := gd_some h
          refine ao_cons (acts_of rfl (do_append (v := List.map enc27 (v11_s_1 ++ [x15])) (by conv => lhs; whnf) (by conv => lhs; whnf) ty22 ty28 rfl rfl (by conv => lhs; whnf) (by first | exact .inl rfl | exact .inr ⟨rfl, rfl⟩) (by conv => lhs; whnf) (by first | exact .inr rfl | exact .inl rfl) (map_app _ _) (fit_map g22))) (by decide) ?_
          refine ao_cons (acts_of rfl (does_assign (v := .own 38 0) (by exact rfl))) (by decide) ?_
          refine ao_nil_n ?_
          refine hK12 _ ?_
          refine aw_reg ?_
          refine ao_cons (acts_of rfl (does_bin (v := .int .i64 (IntKind.i64.wrap (v17_1 + 1))) (by conv => lhs; whnf) (by conv => lhs; whnf) rfl)) (by decide) ?_
          refine ao_cons (acts_of rfl (does_move (v := .int .i64 (IntKind.i64.wrap (v17_1 + 1))) (by exact rfl))) (by decide) ?_
          refine ao_nil_n ?_
          have h := leafL h hq8
          exact ⟨m1, Nat.lt_succ_self _, _, reb_lit [(1, .int .i64 a1), (2, .int .i64 a2), (3, .int .i64 a3), (10, .own 10 0), (11, .own 11 0), (15, .own 15 0), (16, .int .i64 (List.length x6 : Int)), (17, .int .i64 (IntKind.i64.wrap (v17_1 + 1)))] [(10, 0), (38, 0), (15, 0)] [((10, 0), .arr 28 6 false (List.map enc27 v10_s_1)), ((11, 0), .arr 28 6 false (List.map enc27 (v11_s_1 ++ [x15]))), ((15, 0), .arr 28 6 false (List.map enc27 x6))] [(10, 1), (11, 1), (15, 1)] (envOk_cons (by conv => lhs; whnf) (by exact rfl) (envOk_cons (by conv => lhs; whnf) (by exact rfl) (envOk_cons (by conv => lhs; whnf) (by exact rfl) (envOk_cons (by conv => lhs; whnf) (by exact rfl) (envOk_cons (by conv => lhs; whnf) (by exact rfl) (envOk_cons (by conv => lhs; whnf) (by exact rfl) (envOk_cons (by conv => lhs; whnf) (by exact rfl) (envOk_cons (by conv => lhs; whnf) (by exact rfl) envOk_nil)))))))) (objOk_cons (by conv => lhs; whnf) (by conv => lhs; whnf) (by exact rfl) (by simp) (objOk_cons (by conv => lhs; whnf) (by conv => lhs; whnf) (by exact rfl) (by simp) (objOk_cons (by conv => lhs; whnf) (by conv => lhs; whnf) (by exact rfl) (by simp) objOk_nil))) (nodup_b rfl) (nodup_b rfl) rfl rfl, v10_s_1, (v11_s_1 ++ [x15]), (IntKind.i64.wrap (v17_1 + 1)), h, rfl⟩
        · have h := ifF c21 h
          refine aw_cond_f (by decide) rfl ?_
          refine aw_reg ?_
          refine ao_cons (acts_of rfl (does_move (v := .own 10 0) (by exact rfl))) (by decide) ?_
          refine ao_cons (acts_of rfl (does_load (v := .agg [.int .u64 x15.Trace.Hi, .int .u64 x15.Trace.Lo, .int .i64 x15.First, .int .i64 x15.Last, .bool x15.Sure, .sl 10 (List.map enc30 x15.Spans)]) (by conv => lhs; whnf) (by conv => lhs; whnf) ty28 (by exact rfl))) (by decide) ?_
          refine ao_cons (acts_of rfl (do_buildSlice (xs := List.map enc27 [x15]) ty22 ty28 rfl rfl rfl rfl rfl rfl rfl rfl)) (by decide) ?_
          obtain ⟨g23, h⟩ := gd_some h
          refine ao_cons (acts_of rfl (do_append (v := List.map enc27 (v10_s_1 ++ [x15])) (by conv => lhs; whnf) (by conv => lhs; whnf) ty22 ty28 rfl rfl (by conv => lhs; whnf) (by first | exact .inl rfl | exact .inr ⟨rfl, rfl⟩) (by conv => lhs; whnf) (by first | exact .inr rfl | exact .inl rfl) (map_app _ _) (fit_map g23))) (by decide) ?_
          refine ao_cons (acts_of rfl (does_assign (v := .own 42 0) (by exact rfl))) (by decide) ?_
          refine ao_nil_n ?_
          refine hK12 _ ?_
          refine aw_reg ?_
          refine ao_cons (acts_of rfl (does_bin (v := .int .i64 (IntKind.i64.wrap (v17_1 + 1))) (by conv => lhs; whnf) (by conv => lhs; whnf) rfl)) (by decide) ?_
          refine ao_cons (acts_of rfl (does_move (v := .int .i64 (IntKind.i64.wrap (v17_1 + 1))) (by exact rfl))) (by decide) ?_
          refine ao_nil_n ?_
          have h := leafL h hq8
          exact ⟨m1, Nat.lt_succ_self _, _, reb_lit [(1, .int .i64 a1), (2, .int .i64 a2), (3, .int .i64 a3), (10, .own 10 0), (11, .own 11 0), (15, .own 15 0), (16, .int .i64 (List.length x6 : Int)), (17, .int .i64 (IntKind.i64.wrap (v17_1 + 1)))] [(42, 0), (11, 0), (15, 0)] [((10, 0), .arr 28 6 false (List.map enc27 (v10_s_1 ++ [x15]))), ((11, 0), .arr 28 6 false (List.map enc27 v11_s_1)), ((15, 0), .arr 28 6 false (List.map enc27 x6))] [(10, 1), (11, 1), (15, 1)] (envOk_cons (by conv => lhs; whnf) (by exact rfl) (envOk_cons (by conv => lhs; whnf) (by exact rfl) (envOk_cons (by conv => lhs; whnf) (by exact rfl) (envOk_cons (by conv => lhs; whnf) (by exact rfl) (envOk_cons (by conv => lhs; whnf) (by exact rfl) (envOk_cons (by conv => lhs; whnf) (by exact rfl) (envOk_cons (by conv => lhs; whnf) (by exact rfl) (envOk_cons (by conv => lhs; whnf) (by exact rfl) envOk_nil)))))))) (objOk_cons (by conv => lhs; whnf) (by conv => lhs; whnf) (by exact rfl) (by simp) (objOk_cons (by conv => lhs; whnf) (by conv => lhs; whnf) (by exact rfl) (by simp) (objOk_cons (by conv => lhs; whnf) (by conv => lhs; whnf) (by exact rfl) (by simp) objOk_nil))) (nodup_b rfl) (nodup_b rfl) rfl rfl, (v10_s_1 ++ [x15]), v11_s_1, (IntKind.i64.wrap (v17_1 + 1)), h, rfl⟩
    · have h := ifF c11 h
      refine aw_cond_f (by decide) rfl ?_
      refine aw_exit ?_
      have h := leafR h hq8
      obtain rfl := Option.some.inj h
      have h := hk4
      exact ⟨_, reb_lit [(10, .own 10 0), (11, .own 11 0)] [(10, 0), (11, 0)] [((10, 0), .arr 28 6 false (List.map enc27 v10_s_1)), ((11, 0), .arr 28 6 false (List.map enc27 v11_s_1))] [(10, 1), (11, 1)] (envOk_cons (by conv => lhs; whnf) (by exact rfl) (envOk_cons (by conv => lhs; whnf) (by exact rfl) envOk_nil)) (objOk_cons (by conv => lhs; whnf) (by conv => lhs; whnf) (by exact rfl) (by simp) (objOk_cons (by conv => lhs; whnf) (by conv => lhs; whnf) (by exact rfl) (by simp) objOk_nil)) (nodup_b rfl) (nodup_b rfl) rfl rfl, v10_s_1, v11_s_1, h, rfl⟩
  · rintro s ⟨v10_s_0, v11_s_0, h, rfl⟩
    unfold buffer_Close_k0 at h
    refine aw_seq_k (fun K24 hK24 => ?_)
    refine aw_reg ?_
    refine ao_cons (acts_of rfl (does_move (v := .own 10 0) (by exact rfl))) (by decide) ?_
    refine ao_cons (acts_of rfl (does_move (v := .own 11 0) (by exact rfl))) (by decide) ?_
    refine ao_cons (acts_of rfl (does_assign (v := .own 10 0) (by exact rfl))) (by decide) ?_
    refine ao_cons (acts_of rfl (does_assign (v := .own 11 0) (by exact rfl))) (by decide) ?_
    refine ao_nil_n ?_
    refine hK24 _ ?_
    refine aw_ret ?_
    obtain rfl := Option.some.inj h
    exact ret_okR [(10, 0), (11, 0)] (by conv => lhs; whnf) (by conv => lhs; whnf) (by exact rfl) (rowsOk_cons (by conv => lhs; whnf) (by exact rfl) (rowsOk_cons (by conv => lhs; whnf) (by exact rfl) trivial)) (nodup_b rfl) (.inr rfl) rfl
def gleaninglaw16_BufferClose_k4 (a0 : List Episode) (x25 : List Episode × List Episode) (v12_2 : Int) (v13_2 : Int) (v14_2 : Int) (v111_4 : Bool) : Option ((Int × Int × Int) ⊕ ((Int × Int) ⊕ Bool)) :=
  if v111_4 = true then (if (decide ((List.length x25.2 : Int) ≤ v13_2)) = true then (some (Sum.inr (Sum.inr false))) else (gd (0 ≤ v13_2) (gd (v13_2 ≤ (IntKind.i64.wrap (v13_2 + 1))) (gd ((IntKind.i64.wrap (v13_2 + 1)) ≤ (List.length x25.2 : Int)) (gd (0 ≤ v14_2) (gd (v14_2 ≤ (IntKind.i64.wrap (v14_2 + 1))) (gd ((IntKind.i64.wrap (v14_2 + 1)) ≤ (List.length a0 : Int)) (Option.bind (gleaningref15_SameEpisodes (List.drop (Int.toNat v13_2) (List.take (Int.toNat (IntKind.i64.wrap (v13_2 + 1))) x25.2)) (List.drop (Int.toNat v14_2) (List.take (Int.toNat (IntKind.i64.wrap (v14_2 + 1))) a0))) (fun (x74 : Bool) => if (!x74) = true then (some (Sum.inr (Sum.inr false))) else (some (Sum.inl (v12_2, (IntKind.i64.wrap (v13_2 + 1)), (IntKind.i64.wrap (v14_2 + 1)))))))))))))) else (if (decide ((List.length x25.1 : Int) ≤ v12_2)) = true then (some (Sum.inr (Sum.inr false))) else (gd (0 ≤ v12_2) (gd (v12_2 ≤ (IntKind.i64.wrap (v12_2 + 1))) (gd ((IntKind.i64.wrap (v12_2 + 1)) ≤ (List.length x25.1 : Int)) (gd (0 ≤ v14_2) (gd (v14_2 ≤ (IntKind.i64.wrap (v14_2 + 1))) (gd ((IntKind.i64.wrap (v14_2 + 1)) ≤ (List.length a0 : Int)) (Option.bind (gleaningref15_SameEpisodes (List.drop (Int.toNat v12_2) (List.take (Int.toNat (IntKind.i64.wrap (v12_2 + 1))) x25.1)) (List.drop (Int.toNat v14_2) (List.take (Int.toNat (IntKind.i64.wrap (v14_2 + 1))) a0))) (fun (x87 : Bool) => if (!x87) = true then (some (Sum.inr (Sum.inr false))) else (some (Sum.inl ((IntKind.i64.wrap (v12_2 + 1)), v13_2, (IntKind.i64.wrap (v14_2 + 1))))))))))))))
def gleaninglaw16_BufferClose_k3 (a0 : List Episode) (a1 : Int) (a2 : Int) (a3 : Int) (x25 : List Episode × List Episode) (v12_2 : Int) (v13_2 : Int) (v14_2 : Int) : Option ((Int × Int × Int) ⊕ ((Int × Int) ⊕ Bool)) :=
  Option.bind (gd (0 ≤ v14_2) (Option.bind (a0[(Int.toNat v14_2)]?) (fun (x59 : Episode) => if (decide (a2 ≤ (IntKind.i64.wrap (a1 - x59.Last)))) = true then (some true) else (gd (0 ≤ v14_2) (Option.bind (a0[(Int.toNat v14_2)]?) (fun (x62 : Episode) => some (decide (a3 ≤ (IntKind.i64.wrap (a1 - x62.First)))))))))) (fun (s : Bool) => gleaninglaw16_BufferClose_k4 a0 x25 v12_2 v13_2 v14_2 s)
def gleaninglaw16_BufferClose_l2 (a0 : List Episode) (a1 : Int) (a2 : Int) (a3 : Int) (x25 : List Episode × List Episode) (v12_2 : Int) (v13_2 : Int) (v14_2 : Int) : Option ((Int × Int × Int) ⊕ ((Int × Int) ⊕ Bool)) :=
  if (decide (v14_2 < (List.length a0 : Int))) = true then (Option.bind (gd (0 ≤ v14_2) (Option.bind (a0[(Int.toNat v14_2)]?) (fun (x41 : Episode) => if (decide (x41.First < 0)) = true then (some (Sum.inr (Sum.inr (Sum.inr true)))) else (gd (0 ≤ v14_2) (Option.bind (a0[(Int.toNat v14_2)]?) (fun (x45 : Episode) => if (decide ((1099511627776 : Int) < x45.First)) = true then (some (Sum.inr (Sum.inr (Sum.inr true)))) else (gd (0 ≤ v14_2) (Option.bind (a0[(Int.toNat v14_2)]?) (fun (x49 : Episode) => if (decide (x49.Last < 0)) = true then (some (Sum.inr (Sum.inr (Sum.inr true)))) else (gd (0 ≤ v14_2) (Option.bind (a0[(Int.toNat v14_2)]?) (fun (x53 : Episode) => if (decide ((1099511627776 : Int) < x53.Last)) = true then (some (Sum.inr (Sum.inr (Sum.inr true)))) else (some (Sum.inl ())))))))))))))) (Sum.elim (fun (s : Unit) => gleaninglaw16_BufferClose_k3 a0 a1 a2 a3 x25 v12_2 v13_2 v14_2) some)) else (some (Sum.inr (Sum.inl (v12_2, v13_2))))
def gleaninglaw16_BufferClose_k1 (x25 : List Episode × List Episode) (v12_1 : Int) (v13_1 : Int) : Option Bool :=
  if (v12_1 == (List.length x25.1 : Int)) = true then (some (v13_1 == (List.length x25.2 : Int))) else (some false)
def gleaninglaw16_BufferClose_k0 (a0 : List Episode) (a1 : Int) (a2 : Int) (a3 : Int) : Option Bool :=
  Option.bind (buffer_Close a0 a1 a2 a3) (fun (x25 : List Episode × List Episode) => Option.bind (loopN (fun (s : Int × Int × Int) => gleaninglaw16_BufferClose_l2 a0 a1 a2 a3 x25 s.1 s.2.1 s.2.2) Fu (0, 0, 0)) (Sum.elim (fun (s : Int × Int) => gleaninglaw16_BufferClose_k1 x25 s.1 s.2) some))
def gleaninglaw16_BufferClose (a0 : List Episode) (a1 : Int) (a2 : Int) (a3 : Int) : Option Bool :=
  Option.bind (gleaninglaw16_alive) (fun (x3 : Bool) => Option.bind (if (!x3) = true then (some (Sum.inr x3)) else (Option.bind (gleaninglaw15_Few a0) (fun (x9 : Bool) => if (!x9) = true then (some (Sum.inr x3)) else (if (decide (a1 < 0)) = true then (some (Sum.inr x3)) else (if (decide ((1099511627776 : Int) < a1)) = true then (some (Sum.inr x3)) else (if (decide (a2 < 1)) = true then (some (Sum.inr x3)) else (if (decide ((1073741824 : Int) < a2)) = true then (some (Sum.inr x3)) else (if (decide (a3 < 1)) = true then (some (Sum.inr x3)) else (if (decide ((1073741824 : Int) < a3)) = true then (some (Sum.inr x3)) else (some (Sum.inl ()))))))))))) (Sum.elim (fun (s : Unit) => gleaninglaw16_BufferClose_k0 a0 a1 a2 a3) some))
set_option maxRecDepth 100000 in
set_option maxHeartbeats 8000000 in
/-- gleaning/gleaninglaw16.BufferClose -/
theorem gleaninglaw16_BufferClose_ok (a0 : List Episode) (a1 : Int) (a2 : Int) (a3 : Int) {r : Bool} (h : gleaninglaw16_BufferClose a0 a1 a2 a3 = some r) : Ok Try.prog 12 [.sl 6 (List.map enc27 a0), .int .i64 a1, .int .i64 a2, .int .i64 a3] [] [] (.bool r) [] [] := by
  unfold gleaninglaw16_BufferClose at h
  refine ok_of_code Try.func12 rfl (by show (4 : Nat) ≤ _; decide) (Nat.le_refl _) fun X => ?_
  refine aw_seq_k (fun K1 hK1 => ?_)
  refine aw_reg ?_
  refine ao_cons (acts_of rfl (does_assign (v := .bool false) (by exact rfl))) (by decide) ?_
  refine ao_nil_n ?_
  refine hK1 _ ?_
  refine aw_seq_k (fun K2 hK2 => ?_)
  refine aw_reg ?_
  obtain ⟨x3, hx3, h⟩ := bnd_some h
  refine ao_cons (acts_of rfl (do_call0 15 false (gleaninglaw16_alive_ok hx3) rfl ent24 rfl rfl)) (by decide) ?_
  refine ao_cons (acts_of rfl (does_assign (v := .bool x3) (by exact rfl))) (by decide) ?_
  refine ao_nil_n ?_
  refine hK2 _ ?_
  obtain ⟨q4, h, hk5⟩ := bnd_some h
  refine aw_cut (fun s => gleaninglaw16_BufferClose_k0 a0 a1 a2 a3 = some r ∧ s = lit [(0, .sl 6 (List.map enc27 a0)), (1, .int .i64 a1), (2, .int .i64 a2), (3, .int .i64 a3)] [] [] X) ?_ ?_
  · skip
    refine aw_seq_k (fun K6 hK6 => ?_)
    refine aw_reg ?_
    refine ao_cons (acts_of rfl (does_move (v := .bool x3) (by exact rfl))) (by decide) ?_
    refine ao_cons (acts_of rfl (does_un (v := .bool (!x3)) (by conv => lhs; whnf) rfl)) (by decide) ?_
    refine ao_cons (acts_of rfl (does_move (v := .bool (!x3)) (by exact rfl))) (by decide) ?_
    refine ao_bool (c := (!x3)) 18 rfl (fun c7 => ?_) (fun c7 => ?_)
    · have h := ifT c7 h
      refine ao_cons (acts_skip rfl) (by decide) ?_
      refine ao_cons (acts_skip rfl) (by decide) ?_
      refine ao_cons (acts_skip rfl) (by decide) ?_
      refine ao_cons (acts_of rfl (does_pick (v := .bool true) (by conv => lhs; whnf) (by exact rfl))) (by decide) ?_
      refine ao_cons (acts_of rfl (does_move (v := .bool true) (by exact rfl))) (by decide) ?_
      refine ao_cons (acts_skip rfl) (by decide) ?_
      refine ao_cons (acts_skip rfl) (by decide) ?_
      refine ao_cons (acts_of rfl (does_pick (v := .bool true) (by conv => lhs; whnf) (by exact rfl))) (by decide) ?_
      refine ao_cons (acts_of rfl (does_move (v := .bool true) (by exact rfl))) (by decide) ?_
      refine ao_cons (acts_skip rfl) (by decide) ?_
      refine ao_cons (acts_skip rfl) (by decide) ?_
      refine ao_cons (acts_of rfl (does_pick (v := .bool true) (by conv => lhs; whnf) (by exact rfl))) (by decide) ?_
      refine ao_cons (acts_of rfl (does_move (v := .bool true) (by exact rfl))) (by decide) ?_
      refine ao_cons (acts_skip rfl) (by decide) ?_
      refine ao_cons (acts_skip rfl) (by decide) ?_
      refine ao_cons (acts_of rfl (does_pick (v := .bool true) (by conv => lhs; whnf) (by exact rfl))) (by decide) ?_
      refine ao_cons (acts_of rfl (does_move (v := .bool true) (by exact rfl))) (by decide) ?_
      refine ao_cons (acts_skip rfl) (by decide) ?_
      refine ao_cons (acts_skip rfl) (by decide) ?_
      refine ao_cons (acts_of rfl (does_pick (v := .bool true) (by conv => lhs; whnf) (by exact rfl))) (by decide) ?_
      refine ao_cons (acts_of rfl (does_move (v := .bool true) (by exact rfl))) (by decide) ?_
      refine ao_cons (acts_skip rfl) (by decide) ?_
      refine ao_cons (acts_skip rfl) (by decide) ?_
      refine ao_cons (acts_of rfl (does_pick (v := .bool true) (by conv => lhs; whnf) (by exact rfl))) (by decide) ?_
      refine ao_cons (acts_of rfl (does_move (v := .bool true) (by exact rfl))) (by decide) ?_
      refine ao_cons (acts_skip rfl) (by decide) ?_
      refine ao_cons (acts_skip rfl) (by decide) ?_
      refine ao_cons (acts_of rfl (does_pick (v := .bool true) (by conv => lhs; whnf) (by exact rfl))) (by decide) ?_
      refine ao_nil_n ?_
      refine hK6 _ ?_
      refine aw_cond_t (by decide) rfl ?_
      refine aw_seq_k (fun K8 hK8 => ?_)
      refine aw_reg ?_
      refine ao_cons (acts_of rfl (does_move (v := .bool x3) (by exact rfl))) (by decide) ?_
      refine ao_cons (acts_of rfl (does_assign (v := .bool x3) (by exact rfl))) (by decide) ?_
      refine ao_nil_n ?_
      refine hK8 _ ?_
      refine aw_ret ?_
      have h := leafR h hk5
      obtain rfl := Option.some.inj h
      exact ret_ok1 (by conv => lhs; whnf) (by conv => lhs; whnf) (by exact rfl) (.inr rfl) rfl
    · have h := ifF c7 h
      refine ao_cons (acts_of rfl (does_move (v := .sl 6 (List.map enc27 a0)) (by exact rfl))) (by decide) ?_
      obtain ⟨x9, hx9, h⟩ := bnd_some h
      refine ao_cons (acts_of rfl (do_call0 20 false (gleaninglaw15_Few_ok a0 hx9) rfl ent16 rfl rfl)) (by decide) ?_
      refine ao_cons (acts_of rfl (does_un (v := .bool (!x9)) (by conv => lhs; whnf) rfl)) (by decide) ?_
      refine ao_cons (acts_of rfl (does_pick (v := .bool (!x9)) (by conv => lhs; whnf) (by exact rfl))) (by decide) ?_
      refine ao_cons (acts_of rfl (does_move (v := .bool (!x9)) (by exact rfl))) (by decide) ?_
      refine ao_bool (c := (!x9)) 23 rfl (fun c10 => ?_) (fun c10 => ?_)
      · have h := ifT c10 h
        refine ao_cons (acts_skip rfl) (by decide) ?_
        refine ao_cons (acts_skip rfl) (by decide) ?_
        refine ao_cons (acts_of rfl (does_pick (v := .bool true) (by conv => lhs; whnf) (by exact rfl))) (by decide) ?_
        refine ao_cons (acts_of rfl (does_move (v := .bool true) (by exact rfl))) (by decide) ?_
        refine ao_cons (acts_skip rfl) (by decide) ?_
        refine ao_cons (acts_skip rfl) (by decide) ?_
        refine ao_cons (acts_of rfl (does_pick (v := .bool true) (by conv => lhs; whnf) (by exact rfl))) (by decide) ?_
        refine ao_cons (acts_of rfl (does_move (v := .bool true) (by exact rfl))) (by decide) ?_
        refine ao_cons (acts_skip rfl) (by decide) ?_
        refine ao_cons (acts_skip rfl) (by decide) ?_
        refine ao_cons (acts_of rfl (does_pick (v := .bool true) (by conv => lhs; whnf) (by exact rfl))) (by decide) ?_
        refine ao_cons (acts_of rfl (does_move (v := .bool true) (by exact rfl))) (by decide) ?_
        refine ao_cons (acts_skip rfl) (by decide) ?_
        refine ao_cons (acts_skip rfl) (by decide) ?_
        refine ao_cons (acts_of rfl (does_pick (v := .bool true) (by conv => lhs; whnf) (by exact rfl))) (by decide) ?_
        refine ao_cons (acts_of rfl (does_move (v := .bool true) (by exact rfl))) (by decide) ?_
        refine ao_cons (acts_skip rfl) (by decide) ?_
        refine ao_cons (acts_skip rfl) (by decide) ?_
        refine ao_cons (acts_of rfl (does_pick (v := .bool true) (by conv => lhs; whnf) (by exact rfl))) (by decide) ?_
        refine ao_cons (acts_of rfl (does_move (v := .bool true) (by exact rfl))) (by decide) ?_
        refine ao_cons (acts_skip rfl) (by decide) ?_
        refine ao_cons (acts_skip rfl) (by decide) ?_
        refine ao_cons (acts_of rfl (does_pick (v := .bool true) (by conv => lhs; whnf) (by exact rfl))) (by decide) ?_
        refine ao_nil_n ?_
        refine hK6 _ ?_
        refine aw_cond_t (by decide) rfl ?_
        refine aw_seq_k (fun K11 hK11 => ?_)
        refine aw_reg ?_
        refine ao_cons (acts_of rfl (does_move (v := .bool x3) (by exact rfl))) (by decide) ?_
        refine ao_cons (acts_of rfl (does_assign (v := .bool x3) (by exact rfl))) (by decide) ?_
        refine ao_nil_n ?_
        refine hK11 _ ?_
        refine aw_ret ?_
        have h := leafR h hk5
        obtain rfl := Option.some.inj h
        exact ret_ok1 (by conv => lhs; whnf) (by conv => lhs; whnf) (by exact rfl) (.inr rfl) rfl
      · have h := ifF c10 h
        refine ao_cons (acts_of rfl (does_move (v := .int .i64 a1) (by exact rfl))) (by decide) ?_
        refine ao_cons (acts_of rfl (does_bin (v := .bool (decide (a1 < 0))) (by conv => lhs; whnf) (by conv => lhs; whnf) rfl)) (by decide) ?_
        refine ao_cons (acts_of rfl (does_pick (v := .bool (decide (a1 < 0))) (by conv => lhs; whnf) (by exact rfl))) (by decide) ?_
        refine ao_cons (acts_of rfl (does_move (v := .bool (decide (a1 < 0))) (by exact rfl))) (by decide) ?_
        refine ao_bool (c := (decide (a1 < 0))) 27 rfl (fun c12 => ?_) (fun c12 => ?_)
        · have h := ifT c12 h
          refine ao_cons (acts_skip rfl) (by decide) ?_
          refine ao_cons (acts_skip rfl) (by decide) ?_
          refine ao_cons (acts_of rfl (does_pick (v := .bool true) (by conv => lhs; whnf) (by exact rfl))) (by decide) ?_
          refine ao_cons (acts_of rfl (does_move (v := .bool true) (by exact rfl))) (by decide) ?_
          refine ao_cons (acts_skip rfl) (by decide) ?_
          refine ao_cons (acts_skip rfl) (by decide) ?_
          refine ao_cons (acts_of rfl (does_pick (v := .bool true) (by conv => lhs; whnf) (by exact rfl))) (by decide) ?_
          refine ao_cons (acts_of rfl (does_move (v := .bool true) (by exact rfl))) (by decide) ?_
          refine ao_cons (acts_skip rfl) (by decide) ?_
          refine ao_cons (acts_skip rfl) (by decide) ?_
          refine ao_cons (acts_of rfl (does_pick (v := .bool true) (by conv => lhs; whnf) (by exact rfl))) (by decide) ?_
          refine ao_cons (acts_of rfl (does_move (v := .bool true) (by exact rfl))) (by decide) ?_
          refine ao_cons (acts_skip rfl) (by decide) ?_
          refine ao_cons (acts_skip rfl) (by decide) ?_
          refine ao_cons (acts_of rfl (does_pick (v := .bool true) (by conv => lhs; whnf) (by exact rfl))) (by decide) ?_
          refine ao_cons (acts_of rfl (does_move (v := .bool true) (by exact rfl))) (by decide) ?_
          refine ao_cons (acts_skip rfl) (by decide) ?_
          refine ao_cons (acts_skip rfl) (by decide) ?_
          refine ao_cons (acts_of rfl (does_pick (v := .bool true) (by conv => lhs; whnf) (by exact rfl))) (by decide) ?_
          refine ao_nil_n ?_
          refine hK6 _ ?_
          refine aw_cond_t (by decide) rfl ?_
          refine aw_seq_k (fun K13 hK13 => ?_)
          refine aw_reg ?_
          refine ao_cons (acts_of rfl (does_move (v := .bool x3) (by exact rfl))) (by decide) ?_
          refine ao_cons (acts_of rfl (does_assign (v := .bool x3) (by exact rfl))) (by decide) ?_
          refine ao_nil_n ?_
          refine hK13 _ ?_
          refine aw_ret ?_
          have h := leafR h hk5
          obtain rfl := Option.some.inj h
          exact ret_ok1 (by conv => lhs; whnf) (by conv => lhs; whnf) (by exact rfl) (.inr rfl) rfl
        · have h := ifF c12 h
          refine ao_cons (acts_of rfl (does_move (v := .int .i64 a1) (by exact rfl))) (by decide) ?_
          refine ao_cons (acts_of rfl (does_bin (v := .bool (decide ((1099511627776 : Int) < a1))) (by conv => lhs; whnf) (by conv => lhs; whnf) rfl)) (by decide) ?_
          refine ao_cons (acts_of rfl (does_pick (v := .bool (decide ((1099511627776 : Int) < a1))) (by conv => lhs; whnf) (by exact rfl))) (by decide) ?_
          refine ao_cons (acts_of rfl (does_move (v := .bool (decide ((1099511627776 : Int) < a1))) (by exact rfl))) (by decide) ?_
          refine ao_bool (c := (decide ((1099511627776 : Int) < a1))) 31 rfl (fun c14 => ?_) (fun c14 => ?_)
          · have h := ifT c14 h
            refine ao_cons (acts_skip rfl) (by decide) ?_
            refine ao_cons (acts_skip rfl) (by decide) ?_
            refine ao_cons (acts_of rfl (does_pick (v := .bool true) (by conv => lhs; whnf) (by exact rfl))) (by decide) ?_
            refine ao_cons (acts_of rfl (does_move (v := .bool true) (by exact rfl))) (by decide) ?_
            refine ao_cons (acts_skip rfl) (by decide) ?_
            refine ao_cons (acts_skip rfl) (by decide) ?_
            refine ao_cons (acts_of rfl (does_pick (v := .bool true) (by conv => lhs; whnf) (by exact rfl))) (by decide) ?_
            refine ao_cons (acts_of rfl (does_move (v := .bool true) (by exact rfl))) (by decide) ?_
            refine ao_cons (acts_skip rfl) (by decide) ?_
            refine ao_cons (acts_skip rfl) (by decide) ?_
            refine ao_cons (acts_of rfl (does_pick (v := .bool true) (by conv => lhs; whnf) (by exact rfl))) (by decide) ?_
            refine ao_cons (acts_of rfl (does_move (v := .bool true) (by exact rfl))) (by decide) ?_
            refine ao_cons (acts_skip rfl) (by decide) ?_
            refine ao_cons (acts_skip rfl) (by decide) ?_
            refine ao_cons (acts_of rfl (does_pick (v := .bool true) (by conv => lhs; whnf) (by exact rfl))) (by decide) ?_
            refine ao_nil_n ?_
            refine hK6 _ ?_
            refine aw_cond_t (by decide) rfl ?_
            refine aw_seq_k (fun K15 hK15 => ?_)
            refine aw_reg ?_
            refine ao_cons (acts_of rfl (does_move (v := .bool x3) (by exact rfl))) (by decide) ?_
            refine ao_cons (acts_of rfl (does_assign (v := .bool x3) (by exact rfl))) (by decide) ?_
            refine ao_nil_n ?_
            refine hK15 _ ?_
            refine aw_ret ?_
            have h := leafR h hk5
            obtain rfl := Option.some.inj h
            exact ret_ok1 (by conv => lhs; whnf) (by conv => lhs; whnf) (by exact rfl) (.inr rfl) rfl
          · have h := ifF c14 h
            refine ao_cons (acts_of rfl (does_move (v := .int .i64 a2) (by exact rfl))) (by decide) ?_
            refine ao_cons (acts_of rfl (does_bin (v := .bool (decide (a2 < 1))) (by conv => lhs; whnf) (by conv => lhs; whnf) rfl)) (by decide) ?_
            refine ao_cons (acts_of rfl (does_pick (v := .bool (decide (a2 < 1))) (by conv => lhs; whnf) (by exact rfl))) (by decide) ?_
            refine ao_cons (acts_of rfl (does_move (v := .bool (decide (a2 < 1))) (by exact rfl))) (by decide) ?_
            refine ao_bool (c := (decide (a2 < 1))) 35 rfl (fun c16 => ?_) (fun c16 => ?_)
            · have h := ifT c16 h
              refine ao_cons (acts_skip rfl) (by decide) ?_
              refine ao_cons (acts_skip rfl) (by decide) ?_
              refine ao_cons (acts_of rfl (does_pick (v := .bool true) (by conv => lhs; whnf) (by exact rfl))) (by decide) ?_
              refine ao_cons (acts_of rfl (does_move (v := .bool true) (by exact rfl))) (by decide) ?_
              refine ao_cons (acts_skip rfl) (by decide) ?_
              refine ao_cons (acts_skip rfl) (by decide) ?_
              refine ao_cons (acts_of rfl (does_pick (v := .bool true) (by conv => lhs; whnf) (by exact rfl))) (by decide) ?_
              refine ao_cons (acts_of rfl (does_move (v := .bool true) (by exact rfl))) (by decide) ?_
              refine ao_cons (acts_skip rfl) (by decide) ?_
              refine ao_cons (acts_skip rfl) (by decide) ?_
              refine ao_cons (acts_of rfl (does_pick (v := .bool true) (by conv => lhs; whnf) (by exact rfl))) (by decide) ?_
              refine ao_nil_n ?_
              refine hK6 _ ?_
              refine aw_cond_t (by decide) rfl ?_
              refine aw_seq_k (fun K17 hK17 => ?_)
              refine aw_reg ?_
              refine ao_cons (acts_of rfl (does_move (v := .bool x3) (by exact rfl))) (by decide) ?_
              refine ao_cons (acts_of rfl (does_assign (v := .bool x3) (by exact rfl))) (by decide) ?_
              refine ao_nil_n ?_
              refine hK17 _ ?_
              refine aw_ret ?_
              have h := leafR h hk5
              obtain rfl := Option.some.inj h
              exact ret_ok1 (by conv => lhs; whnf) (by conv => lhs; whnf) (by exact rfl) (.inr rfl) rfl
            · have h := ifF c16 h
              refine ao_cons (acts_of rfl (does_move (v := .int .i64 a2) (by exact rfl))) (by decide) ?_
              refine ao_cons (acts_of rfl (does_bin (v := .bool (decide ((1073741824 : Int) < a2))) (by conv => lhs; whnf) (by conv => lhs; whnf) rfl)) (by decide) ?_
              refine ao_cons (acts_of rfl (does_pick (v := .bool (decide ((1073741824 : Int) < a2))) (by conv => lhs; whnf) (by exact rfl))) (by decide) ?_
              refine ao_cons (acts_of rfl (does_move (v := .bool (decide ((1073741824 : Int) < a2))) (by exact rfl))) (by decide) ?_
              refine ao_bool (c := (decide ((1073741824 : Int) < a2))) 39 rfl (fun c18 => ?_) (fun c18 => ?_)
              · have h := ifT c18 h
                refine ao_cons (acts_skip rfl) (by decide) ?_
                refine ao_cons (acts_skip rfl) (by decide) ?_
                refine ao_cons (acts_of rfl (does_pick (v := .bool true) (by conv => lhs; whnf) (by exact rfl))) (by decide) ?_
                refine ao_cons (acts_of rfl (does_move (v := .bool true) (by exact rfl))) (by decide) ?_
                refine ao_cons (acts_skip rfl) (by decide) ?_
                refine ao_cons (acts_skip rfl) (by decide) ?_
                refine ao_cons (acts_of rfl (does_pick (v := .bool true) (by conv => lhs; whnf) (by exact rfl))) (by decide) ?_
                refine ao_nil_n ?_
                refine hK6 _ ?_
                refine aw_cond_t (by decide) rfl ?_
                refine aw_seq_k (fun K19 hK19 => ?_)
                refine aw_reg ?_
                refine ao_cons (acts_of rfl (does_move (v := .bool x3) (by exact rfl))) (by decide) ?_
                refine ao_cons (acts_of rfl (does_assign (v := .bool x3) (by exact rfl))) (by decide) ?_
                refine ao_nil_n ?_
                refine hK19 _ ?_
                refine aw_ret ?_
                have h := leafR h hk5
                obtain rfl := Option.some.inj h
                exact ret_ok1 (by conv => lhs; whnf) (by conv => lhs; whnf) (by exact rfl) (.inr rfl) rfl
              · have h := ifF c18 h
                refine ao_cons (acts_of rfl (does_move (v := .int .i64 a3) (by exact rfl))) (by decide) ?_
                refine ao_cons (acts_of rfl (does_bin (v := .bool (decide (a3 < 1))) (by conv => lhs; whnf) (by conv => lhs; whnf) rfl)) (by decide) ?_
                refine ao_cons (acts_of rfl (does_pick (v := .bool (decide (a3 < 1))) (by conv => lhs; whnf) (by exact rfl))) (by decide) ?_
                refine ao_cons (acts_of rfl (does_move (v := .bool (decide (a3 < 1))) (by exact rfl))) (by decide) ?_
                refine ao_bool (c := (decide (a3 < 1))) 43 rfl (fun c20 => ?_) (fun c20 => ?_)
                · have h := ifT c20 h
                  refine ao_cons (acts_skip rfl) (by decide) ?_
                  refine ao_cons (acts_skip rfl) (by decide) ?_
                  refine ao_cons (acts_of rfl (does_pick (v := .bool true) (by conv => lhs; whnf) (by exact rfl))) (by decide) ?_
                  refine ao_nil_n ?_
                  refine hK6 _ ?_
                  refine aw_cond_t (by decide) rfl ?_
                  refine aw_seq_k (fun K21 hK21 => ?_)
                  refine aw_reg ?_
                  refine ao_cons (acts_of rfl (does_move (v := .bool x3) (by exact rfl))) (by decide) ?_
                  refine ao_cons (acts_of rfl (does_assign (v := .bool x3) (by exact rfl))) (by decide) ?_
                  refine ao_nil_n ?_
                  refine hK21 _ ?_
                  refine aw_ret ?_
                  have h := leafR h hk5
                  obtain rfl := Option.some.inj h
                  exact ret_ok1 (by conv => lhs; whnf) (by conv => lhs; whnf) (by exact rfl) (.inr rfl) rfl
                · have h := ifF c20 h
                  refine ao_cons (acts_of rfl (does_move (v := .int .i64 a3) (by exact rfl))) (by decide) ?_
                  refine ao_cons (acts_of rfl (does_bin (v := .bool (decide ((1073741824 : Int) < a3))) (by conv => lhs; whnf) (by conv => lhs; whnf) rfl)) (by decide) ?_
                  refine ao_cons (acts_of rfl (does_pick (v := .bool (decide ((1073741824 : Int) < a3))) (by conv => lhs; whnf) (by exact rfl))) (by decide) ?_
                  refine ao_nil_n ?_
                  refine hK6 _ ?_
                  refine aw_bool (b := (decide ((1073741824 : Int) < a3))) 46 rfl (fun c22 => ?_) (fun c22 => ?_)
                  · have h := ifT c22 h
                    refine aw_cond_t (by decide) rfl ?_
                    refine aw_seq_k (fun K23 hK23 => ?_)
                    refine aw_reg ?_
                    refine ao_cons (acts_of rfl (does_move (v := .bool x3) (by exact rfl))) (by decide) ?_
                    refine ao_cons (acts_of rfl (does_assign (v := .bool x3) (by exact rfl))) (by decide) ?_
                    refine ao_nil_n ?_
                    refine hK23 _ ?_
                    refine aw_ret ?_
                    have h := leafR h hk5
                    obtain rfl := Option.some.inj h
                    exact ret_ok1 (by conv => lhs; whnf) (by conv => lhs; whnf) (by exact rfl) (.inr rfl) rfl
                  · have h := ifF c22 h
                    refine aw_cond_f (by decide) rfl ?_
                    refine aw_skip ?_
                    have h := leafL h hk5
                    exact ⟨_, reb_lit [(0, .sl 6 (List.map enc27 a0)), (1, .int .i64 a1), (2, .int .i64 a2), (3, .int .i64 a3)] [] [] [] (envOk_cons (by conv => lhs; whnf) (by exact rfl) (envOk_cons (by conv => lhs; whnf) (by exact rfl) (envOk_cons (by conv => lhs; whnf) (by exact rfl) (envOk_cons (by conv => lhs; whnf) (by exact rfl) envOk_nil)))) objOk_nil (nodup_b rfl) (nodup_b rfl) rfl rfl, h, rfl⟩
  · rintro s ⟨h, rfl⟩
    unfold gleaninglaw16_BufferClose_k0 at h
    refine aw_seq_k (fun K24 hK24 => ?_)
    refine aw_reg ?_
    refine ao_cons (acts_of rfl (does_move (v := .sl 6 (List.map enc27 a0)) (by exact rfl))) (by decide) ?_
    refine ao_cons (acts_of rfl (does_move (v := .int .i64 a1) (by exact rfl))) (by decide) ?_
    refine ao_cons (acts_of rfl (does_move (v := .int .i64 a2) (by exact rfl))) (by decide) ?_
    refine ao_cons (acts_of rfl (does_move (v := .int .i64 a3) (by exact rfl))) (by decide) ?_
    obtain ⟨x25, hx25, h⟩ := bnd_some h
    refine ao_cons (acts_of rfl (do_call0 53 false (buffer_Close_ok a0 a1 a2 a3 hx25) rfl ent37 rfl rfl)) (by decide) ?_
    refine ao_cons (acts_of rfl (does_move (v := .tup [.own 53 0, .own 53 1]) (by exact rfl))) (by decide) ?_
    refine ao_cons (acts_of rfl (does_extract (v := .own 53 0) (by conv => lhs; whnf) (by exact rfl))) (by decide) ?_
    refine ao_cons (acts_of rfl (does_extract (v := .own 53 1) (by conv => lhs; whnf) (by exact rfl))) (by decide) ?_
    refine ao_cons (acts_of rfl (does_assign (v := .own 53 0) (by exact rfl))) (by decide) ?_
    refine ao_cons (acts_of rfl (does_assign (v := .own 53 1) (by exact rfl))) (by decide) ?_
    refine ao_nil_n ?_
    refine hK24 _ ?_
    refine aw_seq_k (fun K26 hK26 => ?_)
    refine aw_reg ?_
    refine ao_cons (acts_of rfl (does_assign (v := .int .i64 0) (by exact rfl))) (by decide) ?_
    refine ao_nil_n ?_
    refine hK26 _ ?_
    refine aw_seq_k (fun K27 hK27 => ?_)
    refine aw_reg ?_
    refine ao_cons (acts_of rfl (does_assign (v := .int .i64 0) (by exact rfl))) (by decide) ?_
    refine ao_nil_n ?_
    refine hK27 _ ?_
    obtain ⟨q28, h, hk29⟩ := bnd_some h
    refine aw_cut (fun s => ∃ (v12_1 : Int), ∃ (v13_1 : Int), gleaninglaw16_BufferClose_k1 x25 v12_1 v13_1 = some r ∧ s = lit [(10, .own 53 0), (11, .own 53 1), (12, .int .i64 v12_1), (13, .int .i64 v13_1)] [((53, 0), .arr 28 6 true (List.map enc27 x25.1)), ((53, 1), .arr 28 6 true (List.map enc27 x25.2))] [(53, 2)] X) ?_ ?_
    · skip
      refine aw_seq_k (fun K30 hK30 => ?_)
      refine aw_reg ?_
      refine ao_cons (acts_of rfl (does_assign (v := .int .i64 0) (by exact rfl))) (by decide) ?_
      refine ao_nil_n ?_
      refine hK30 _ ?_
      refine aw_block ?_
      refine aw_loop' (fun m s => ∃ (v12_2 : Int), ∃ (v13_2 : Int), ∃ (v14_2 : Int), loopN (fun (s : Int × Int × Int) => gleaninglaw16_BufferClose_l2 a0 a1 a2 a3 x25 s.1 s.2.1 s.2.2) m (v12_2, v13_2, v14_2) = some q28 ∧ s = lit [(0, .sl 6 (List.map enc27 a0)), (1, .int .i64 a1), (2, .int .i64 a2), (3, .int .i64 a3), (10, .own 53 0), (11, .own 53 1), (12, .int .i64 v12_2), (13, .int .i64 v13_2), (14, .int .i64 v14_2)] [((53, 0), .arr 28 6 true (List.map enc27 x25.1)), ((53, 1), .arr 28 6 true (List.map enc27 x25.2))] [(53, 2)] X) Fu
        ⟨_, (reb_freeze (d := 53) (n := 0) (by conv => lhs; whnf)).trans ((reb_freeze (d := 53) (n := 1) (by conv => lhs; whnf)).trans (reb_lit [(0, .sl 6 (List.map enc27 a0)), (1, .int .i64 a1), (2, .int .i64 a2), (3, .int .i64 a3), (10, .own 53 0), (11, .own 53 1), (12, .int .i64 (0)), (13, .int .i64 (0)), (14, .int .i64 (0))] [(53, 0), (53, 1)] [((53, 0), .arr 28 6 true (List.map enc27 x25.1)), ((53, 1), .arr 28 6 true (List.map enc27 x25.2))] [(53, 2)] (envOk_cons (by conv => lhs; whnf) (by exact rfl) (envOk_cons (by conv => lhs; whnf) (by exact rfl) (envOk_cons (by conv => lhs; whnf) (by exact rfl) (envOk_cons (by conv => lhs; whnf) (by exact rfl) (envOk_cons (by conv => lhs; whnf) (by exact rfl) (envOk_cons (by conv => lhs; whnf) (by exact rfl) (envOk_cons (by conv => lhs; whnf) (by exact rfl) (envOk_cons (by conv => lhs; whnf) (by exact rfl) (envOk_cons (by conv => lhs; whnf) (by exact rfl) envOk_nil))))))))) (objOk_cons (by conv => lhs; whnf) (by conv => lhs; whnf) (by exact rfl) (by simp) (objOk_cons (by conv => lhs; whnf) (by conv => lhs; whnf) (by exact rfl) (by simp) objOk_nil)) (nodup_b rfl) (nodup_b rfl) rfl rfl)), 0, 0, 0, h, rfl⟩ ?_
      rintro m s ⟨v12_2, v13_2, v14_2, h, rfl⟩
      obtain ⟨m2, q31, rfl, h, hq32⟩ := loop_some h
      replace h : gleaninglaw16_BufferClose_l2 a0 a1 a2 a3 x25 v12_2 v13_2 v14_2 = some q31 := h
      unfold gleaninglaw16_BufferClose_l2 at h
      refine aw_seq_k (fun K33 hK33 => ?_)
      refine aw_seq_k (fun K34 hK34 => ?_)
      refine aw_reg ?_
      refine ao_cons (acts_of rfl (does_move (v := .int .i64 v14_2) (by exact rfl))) (by decide) ?_
      refine ao_cons (acts_of rfl (does_move (v := .sl 6 (List.map enc27 a0)) (by exact rfl))) (by decide) ?_
      refine ao_cons (acts_of rfl ((does_len_sl (by conv => lhs; whnf) ty22).castp (v' := .int .i64 (List.length a0 : Int)) (by exact len_map _))) (by decide) ?_
      refine ao_cons (acts_of rfl (does_bin (v := .bool (decide (v14_2 < (List.length a0 : Int)))) (by conv => lhs; whnf) (by conv => lhs; whnf) rfl)) (by decide) ?_
      refine ao_nil_n ?_
      refine hK34 _ ?_
      refine aw_bool (b := (decide (v14_2 < (List.length a0 : Int)))) 59 rfl (fun c35 => ?_) (fun c35 => ?_)
      · have h := ifT c35 h
        refine aw_cond_t (by decide) rfl ?_
        refine aw_skip ?_
        refine hK33 _ ?_
        refine aw_seq_k (fun K36 hK36 => ?_)
        refine aw_block ?_
        obtain ⟨q37, h, hk38⟩ := bnd_some h
        refine aw_cut (fun s => gleaninglaw16_BufferClose_k3 a0 a1 a2 a3 x25 v12_2 v13_2 v14_2 = some q31 ∧ s = lit [(0, .sl 6 (List.map enc27 a0)), (1, .int .i64 a1), (2, .int .i64 a2), (3, .int .i64 a3), (10, .own 53 0), (11, .own 53 1), (12, .int .i64 v12_2), (13, .int .i64 v13_2), (14, .int .i64 v14_2)] [((53, 0), .arr 28 6 true (List.map enc27 x25.1)), ((53, 1), .arr 28 6 true (List.map enc27 x25.2))] [(53, 2)] X) ?_ ?_
        · skip
          refine aw_seq_k (fun K39 hK39 => ?_)
          refine aw_reg ?_
          refine ao_cons (acts_of rfl (does_move (v := .sl 6 (List.map enc27 a0)) (by exact rfl))) (by decide) ?_
          refine ao_cons (acts_of rfl (does_move (v := .int .i64 v14_2) (by exact rfl))) (by decide) ?_
          obtain ⟨g40, h⟩ := gd_some h
          obtain ⟨x41, hx41, h⟩ := bnd_some h
          refine ao_cons (acts_of rfl (does_indexAddr_sl (el := .agg [.int .u64 x41.Trace.Hi, .int .u64 x41.Trace.Lo, .int .i64 x41.First, .int .i64 x41.Last, .bool x41.Sure, .sl 10 (List.map enc30 x41.Spans)]) (by conv => lhs; whnf) (by conv => lhs; whnf) ty22 ty28 g40 (by exact map_get hx41))) (by decide) ?_
          refine ao_cons (acts_of rfl (does_fieldAddr (q := .rptr [.int .i64 x41.First, .int .i64 x41.Last, .bool x41.Sure, .sl 10 (List.map enc30 x41.Spans)]) (by conv => lhs; whnf) ty28 rfl ty3 (by decide) (by exact rfl))) (by decide) ?_
          refine ao_cons (acts_of rfl (does_load (v := .int .i64 x41.First) (by conv => lhs; whnf) (by conv => lhs; whnf) ty3 (by exact rfl))) (by decide) ?_
          refine ao_cons (acts_of rfl (does_bin (v := .bool (decide (x41.First < 0))) (by conv => lhs; whnf) (by conv => lhs; whnf) rfl)) (by decide) ?_
          refine ao_cons (acts_of rfl (does_move (v := .bool (decide (x41.First < 0))) (by exact rfl))) (by decide) ?_
          refine ao_bool (c := (decide (x41.First < 0))) 68 rfl (fun c42 => ?_) (fun c42 => ?_)
          · have h := ifT c42 h
            refine ao_cons (acts_skip rfl) (by decide) ?_
            refine ao_cons (acts_skip rfl) (by decide) ?_
            refine ao_cons (acts_skip rfl) (by decide) ?_
            refine ao_cons (acts_skip rfl) (by decide) ?_
            refine ao_cons (acts_skip rfl) (by decide) ?_
            refine ao_cons (acts_skip rfl) (by decide) ?_
            refine ao_cons (acts_of rfl (does_pick (v := .bool true) (by conv => lhs; whnf) (by exact rfl))) (by decide) ?_
            refine ao_cons (acts_of rfl (does_move (v := .bool true) (by exact rfl))) (by decide) ?_
            refine ao_cons (acts_skip rfl) (by decide) ?_
            refine ao_cons (acts_skip rfl) (by decide) ?_
            refine ao_cons (acts_skip rfl) (by decide) ?_
            refine ao_cons (acts_skip rfl) (by decide) ?_
            refine ao_cons (acts_skip rfl) (by decide) ?_
            refine ao_cons (acts_skip rfl) (by decide) ?_
            refine ao_cons (acts_of rfl (does_pick (v := .bool true) (by conv => lhs; whnf) (by exact rfl))) (by decide) ?_
            refine ao_cons (acts_of rfl (does_move (v := .bool true) (by exact rfl))) (by decide) ?_
            refine ao_cons (acts_skip rfl) (by decide) ?_
            refine ao_cons (acts_skip rfl) (by decide) ?_
            refine ao_cons (acts_skip rfl) (by decide) ?_
            refine ao_cons (acts_skip rfl) (by decide) ?_
            refine ao_cons (acts_skip rfl) (by decide) ?_
            refine ao_cons (acts_skip rfl) (by decide) ?_
            refine ao_cons (acts_of rfl (does_pick (v := .bool true) (by conv => lhs; whnf) (by exact rfl))) (by decide) ?_
            refine ao_nil_n ?_
            refine hK39 _ ?_
            refine aw_cond_t (by decide) rfl ?_
            refine aw_seq_k (fun K43 hK43 => ?_)
            refine aw_reg ?_
            refine ao_cons (acts_of rfl (does_assign (v := .bool true) (by exact rfl))) (by decide) ?_
            refine ao_nil_n ?_
            refine hK43 _ ?_
            refine aw_ret ?_
            have h := leafR h hk38
            have h := leafR h hq32
            have h := leafR h hk29
            obtain rfl := Option.some.inj h
            exact ret_ok1 (by conv => lhs; whnf) (by conv => lhs; whnf) (by exact rfl) (.inr rfl) rfl
          · have h := ifF c42 h
            refine ao_cons (acts_of rfl (does_move (v := .sl 6 (List.map enc27 a0)) (by exact rfl))) (by decide) ?_
            refine ao_cons (acts_of rfl (does_move (v := .int .i64 v14_2) (by exact rfl))) (by decide) ?_
            obtain ⟨g44, h⟩ := gd_some h
            obtain ⟨x45, hx45, h⟩ := bnd_some h
            refine ao_cons (acts_of rfl (does_indexAddr_sl (el := .agg [.int .u64 x45.Trace.Hi, .int .u64 x45.Trace.Lo, .int .i64 x45.First, .int .i64 x45.Last, .bool x45.Sure, .sl 10 (List.map enc30 x45.Spans)]) (by conv => lhs; whnf) (by conv => lhs; whnf) ty22 ty28 g44 (by exact map_get hx45))) (by decide) ?_
            refine ao_cons (acts_of rfl (does_fieldAddr (q := .rptr [.int .i64 x45.First, .int .i64 x45.Last, .bool x45.Sure, .sl 10 (List.map enc30 x45.Spans)]) (by conv => lhs; whnf) ty28 rfl ty3 (by decide) (by exact rfl))) (by decide) ?_
            refine ao_cons (acts_of rfl (does_load (v := .int .i64 x45.First) (by conv => lhs; whnf) (by conv => lhs; whnf) ty3 (by exact rfl))) (by decide) ?_
            refine ao_cons (acts_of rfl (does_bin (v := .bool (decide ((1099511627776 : Int) < x45.First))) (by conv => lhs; whnf) (by conv => lhs; whnf) rfl)) (by decide) ?_
            refine ao_cons (acts_of rfl (does_pick (v := .bool (decide ((1099511627776 : Int) < x45.First))) (by conv => lhs; whnf) (by exact rfl))) (by decide) ?_
            refine ao_cons (acts_of rfl (does_move (v := .bool (decide ((1099511627776 : Int) < x45.First))) (by exact rfl))) (by decide) ?_
            refine ao_bool (c := (decide ((1099511627776 : Int) < x45.First))) 76 rfl (fun c46 => ?_) (fun c46 => ?_)
            · have h := ifT c46 h
              refine ao_cons (acts_skip rfl) (by decide) ?_
              refine ao_cons (acts_skip rfl) (by decide) ?_
              refine ao_cons (acts_skip rfl) (by decide) ?_
              refine ao_cons (acts_skip rfl) (by decide) ?_
              refine ao_cons (acts_skip rfl) (by decide) ?_
              refine ao_cons (acts_skip rfl) (by decide) ?_
              refine ao_cons (acts_of rfl (does_pick (v := .bool true) (by conv => lhs; whnf) (by exact rfl))) (by decide) ?_
              refine ao_cons (acts_of rfl (does_move (v := .bool true) (by exact rfl))) (by decide) ?_
              refine ao_cons (acts_skip rfl) (by decide) ?_
              refine ao_cons (acts_skip rfl) (by decide) ?_
              refine ao_cons (acts_skip rfl) (by decide) ?_
              refine ao_cons (acts_skip rfl) (by decide) ?_
              refine ao_cons (acts_skip rfl) (by decide) ?_
              refine ao_cons (acts_skip rfl) (by decide) ?_
              refine ao_cons (acts_of rfl (does_pick (v := .bool true) (by conv => lhs; whnf) (by exact rfl))) (by decide) ?_
              refine ao_nil_n ?_
              refine hK39 _ ?_
              refine aw_cond_t (by decide) rfl ?_
              refine aw_seq_k (fun K47 hK47 => ?_)
              refine aw_reg ?_
              refine ao_cons (acts_of rfl (does_assign (v := .bool true) (by exact rfl))) (by decide) ?_
              refine ao_nil_n ?_
              refine hK47 _ ?_
              refine aw_ret ?_
              have h := leafR h hk38
              have h := leafR h hq32
              have h := leafR h hk29
              obtain rfl := Option.some.inj h
              exact ret_ok1 (by conv => lhs; whnf) (by conv => lhs; whnf) (by exact rfl) (.inr rfl) rfl
            · have h := ifF c46 h
              refine ao_cons (acts_of rfl (does_move (v := .sl 6 (List.map enc27 a0)) (by exact rfl))) (by decide) ?_
              refine ao_cons (acts_of rfl (does_move (v := .int .i64 v14_2) (by exact rfl))) (by decide) ?_
              obtain ⟨g48, h⟩ := gd_some h
              obtain ⟨x49, hx49, h⟩ := bnd_some h
              refine ao_cons (acts_of rfl (does_indexAddr_sl (el := .agg [.int .u64 x49.Trace.Hi, .int .u64 x49.Trace.Lo, .int .i64 x49.First, .int .i64 x49.Last, .bool x49.Sure, .sl 10 (List.map enc30 x49.Spans)]) (by conv => lhs; whnf) (by conv => lhs; whnf) ty22 ty28 g48 (by exact map_get hx49))) (by decide) ?_
              refine ao_cons (acts_of rfl (does_fieldAddr (q := .rptr [.int .i64 x49.Last, .bool x49.Sure, .sl 10 (List.map enc30 x49.Spans)]) (by conv => lhs; whnf) ty28 rfl ty3 (by decide) (by exact rfl))) (by decide) ?_
              refine ao_cons (acts_of rfl (does_load (v := .int .i64 x49.Last) (by conv => lhs; whnf) (by conv => lhs; whnf) ty3 (by exact rfl))) (by decide) ?_
              refine ao_cons (acts_of rfl (does_bin (v := .bool (decide (x49.Last < 0))) (by conv => lhs; whnf) (by conv => lhs; whnf) rfl)) (by decide) ?_
              refine ao_cons (acts_of rfl (does_pick (v := .bool (decide (x49.Last < 0))) (by conv => lhs; whnf) (by exact rfl))) (by decide) ?_
              refine ao_cons (acts_of rfl (does_move (v := .bool (decide (x49.Last < 0))) (by exact rfl))) (by decide) ?_
              refine ao_bool (c := (decide (x49.Last < 0))) 84 rfl (fun c50 => ?_) (fun c50 => ?_)
              · have h := ifT c50 h
                refine ao_cons (acts_skip rfl) (by decide) ?_
                refine ao_cons (acts_skip rfl) (by decide) ?_
                refine ao_cons (acts_skip rfl) (by decide) ?_
                refine ao_cons (acts_skip rfl) (by decide) ?_
                refine ao_cons (acts_skip rfl) (by decide) ?_
                refine ao_cons (acts_skip rfl) (by decide) ?_
                refine ao_cons (acts_of rfl (does_pick (v := .bool true) (by conv => lhs; whnf) (by exact rfl))) (by decide) ?_
                refine ao_nil_n ?_
                refine hK39 _ ?_
                refine aw_cond_t (by decide) rfl ?_
                refine aw_seq_k (fun K51 hK51 => ?_)
                refine aw_reg ?_
                refine ao_cons (acts_of rfl (does_assign (v := .bool true) (by exact rfl))) (by decide) ?_
                refine ao_nil_n ?_
                refine hK51 _ ?_
                refine aw_ret ?_
                have h := leafR h hk38
                have h := leafR h hq32
                have h := leafR h hk29
                obtain rfl := Option.some.inj h
                exact ret_ok1 (by conv => lhs; whnf) (by conv => lhs; whnf) (by exact rfl) (.inr rfl) rfl
              · have h := ifF c50 h
                refine ao_cons (acts_of rfl (does_move (v := .sl 6 (List.map enc27 a0)) (by exact rfl))) (by decide) ?_
                refine ao_cons (acts_of rfl (does_move (v := .int .i64 v14_2) (by exact rfl))) (by decide) ?_
                obtain ⟨g52, h⟩ := gd_some h
                obtain ⟨x53, hx53, h⟩ := bnd_some h
                refine ao_cons (acts_of rfl (does_indexAddr_sl (el := .agg [.int .u64 x53.Trace.Hi, .int .u64 x53.Trace.Lo, .int .i64 x53.First, .int .i64 x53.Last, .bool x53.Sure, .sl 10 (List.map enc30 x53.Spans)]) (by conv => lhs; whnf) (by conv => lhs; whnf) ty22 ty28 g52 (by exact map_get hx53))) (by decide) ?_
                refine ao_cons (acts_of rfl (does_fieldAddr (q := .rptr [.int .i64 x53.Last, .bool x53.Sure, .sl 10 (List.map enc30 x53.Spans)]) (by conv => lhs; whnf) ty28 rfl ty3 (by decide) (by exact rfl))) (by decide) ?_
                refine ao_cons (acts_of rfl (does_load (v := .int .i64 x53.Last) (by conv => lhs; whnf) (by conv => lhs; whnf) ty3 (by exact rfl))) (by decide) ?_
                refine ao_cons (acts_of rfl (does_bin (v := .bool (decide ((1099511627776 : Int) < x53.Last))) (by conv => lhs; whnf) (by conv => lhs; whnf) rfl)) (by decide) ?_
                refine ao_cons (acts_of rfl (does_pick (v := .bool (decide ((1099511627776 : Int) < x53.Last))) (by conv => lhs; whnf) (by exact rfl))) (by decide) ?_
                refine ao_nil_n ?_
                refine hK39 _ ?_
                refine aw_bool (b := (decide ((1099511627776 : Int) < x53.Last))) 91 rfl (fun c54 => ?_) (fun c54 => ?_)
                · have h := ifT c54 h
                  refine aw_cond_t (by decide) rfl ?_
                  refine aw_seq_k (fun K55 hK55 => ?_)
                  refine aw_reg ?_
                  refine ao_cons (acts_of rfl (does_assign (v := .bool true) (by exact rfl))) (by decide) ?_
                  refine ao_nil_n ?_
                  refine hK55 _ ?_
                  refine aw_ret ?_
                  have h := leafR h hk38
                  have h := leafR h hq32
                  have h := leafR h hk29
                  obtain rfl := Option.some.inj h
                  exact ret_ok1 (by conv => lhs; whnf) (by conv => lhs; whnf) (by exact rfl) (.inr rfl) rfl
                · have h := ifF c54 h
                  refine aw_cond_f (by decide) rfl ?_
                  refine aw_skip ?_
                  have h := leafL h hk38
                  exact ⟨_, reb_lit [(0, .sl 6 (List.map enc27 a0)), (1, .int .i64 a1), (2, .int .i64 a2), (3, .int .i64 a3), (10, .own 53 0), (11, .own 53 1), (12, .int .i64 v12_2), (13, .int .i64 v13_2), (14, .int .i64 v14_2)] [(53, 0), (53, 1)] [((53, 0), .arr 28 6 true (List.map enc27 x25.1)), ((53, 1), .arr 28 6 true (List.map enc27 x25.2))] [(53, 2)] (envOk_cons (by conv => lhs; whnf) (by exact rfl) (envOk_cons (by conv => lhs; whnf) (by exact rfl) (envOk_cons (by conv => lhs; whnf) (by exact rfl) (envOk_cons (by conv => lhs; whnf) (by exact rfl) (envOk_cons (by conv => lhs; whnf) (by exact rfl) (envOk_cons (by conv => lhs; whnf) (by exact rfl) (envOk_cons (by conv => lhs; whnf) (by exact rfl) (envOk_cons (by conv => lhs; whnf) (by exact rfl) (envOk_cons (by conv => lhs; whnf) (by exact rfl) envOk_nil))))))))) (objOk_cons (by conv => lhs; whnf) (by conv => lhs; whnf) (by exact rfl) (by simp) (objOk_cons (by conv => lhs; whnf) (by conv => lhs; whnf) (by exact rfl) (by simp) objOk_nil)) (nodup_b rfl) (nodup_b rfl) rfl rfl, h, rfl⟩
        · rintro s ⟨h, rfl⟩
          unfold gleaninglaw16_BufferClose_k3 at h
          obtain ⟨q56, h, hk57⟩ := bnd_some h
          refine aw_cut (fun s => ∃ (v111_4 : Bool), gleaninglaw16_BufferClose_k4 a0 x25 v12_2 v13_2 v14_2 v111_4 = some q31 ∧ s = lit [(0, .sl 6 (List.map enc27 a0)), (1, .int .i64 a1), (2, .int .i64 a2), (3, .int .i64 a3), (10, .own 53 0), (11, .own 53 1), (12, .int .i64 v12_2), (13, .int .i64 v13_2), (14, .int .i64 v14_2), (111, .bool v111_4)] [((53, 0), .arr 28 6 true (List.map enc27 x25.1)), ((53, 1), .arr 28 6 true (List.map enc27 x25.2))] [(53, 2)] X) ?_ ?_
          · skip
            refine aw_reg ?_
            refine ao_cons (acts_of rfl (does_move (v := .int .i64 a1) (by exact rfl))) (by decide) ?_
            refine ao_cons (acts_of rfl (does_move (v := .sl 6 (List.map enc27 a0)) (by exact rfl))) (by decide) ?_
            refine ao_cons (acts_of rfl (does_move (v := .int .i64 v14_2) (by exact rfl))) (by decide) ?_
            obtain ⟨g58, h⟩ := gd_some h
            obtain ⟨x59, hx59, h⟩ := bnd_some h
            refine ao_cons (acts_of rfl (does_indexAddr_sl (el := .agg [.int .u64 x59.Trace.Hi, .int .u64 x59.Trace.Lo, .int .i64 x59.First, .int .i64 x59.Last, .bool x59.Sure, .sl 10 (List.map enc30 x59.Spans)]) (by conv => lhs; whnf) (by conv => lhs; whnf) ty22 ty28 g58 (by exact map_get hx59))) (by decide) ?_
            refine ao_cons (acts_of rfl (does_fieldAddr (q := .rptr [.int .i64 x59.Last, .bool x59.Sure, .sl 10 (List.map enc30 x59.Spans)]) (by conv => lhs; whnf) ty28 rfl ty3 (by decide) (by exact rfl))) (by decide) ?_
            refine ao_cons (acts_of rfl (does_load (v := .int .i64 x59.Last) (by conv => lhs; whnf) (by conv => lhs; whnf) ty3 (by exact rfl))) (by decide) ?_
            refine ao_cons (acts_of rfl (does_bin (v := .int .i64 (IntKind.i64.wrap (a1 - x59.Last))) (by conv => lhs; whnf) (by conv => lhs; whnf) rfl)) (by decide) ?_
            refine ao_cons (acts_of rfl (does_move (v := .int .i64 a2) (by exact rfl))) (by decide) ?_
            refine ao_cons (acts_of rfl (does_bin (v := .bool (decide (a2 ≤ (IntKind.i64.wrap (a1 - x59.Last))))) (by conv => lhs; whnf) (by conv => lhs; whnf) rfl)) (by decide) ?_
            refine ao_cons (acts_of rfl (does_move (v := .bool (decide (a2 ≤ (IntKind.i64.wrap (a1 - x59.Last))))) (by exact rfl))) (by decide) ?_
            refine ao_bool (c := (decide (a2 ≤ (IntKind.i64.wrap (a1 - x59.Last))))) 101 rfl (fun c60 => ?_) (fun c60 => ?_)
            · have h := ifT c60 h
              refine ao_cons (acts_skip rfl) (by decide) ?_
              refine ao_cons (acts_skip rfl) (by decide) ?_
              refine ao_cons (acts_skip rfl) (by decide) ?_
              refine ao_cons (acts_skip rfl) (by decide) ?_
              refine ao_cons (acts_skip rfl) (by decide) ?_
              refine ao_cons (acts_skip rfl) (by decide) ?_
              refine ao_cons (acts_skip rfl) (by decide) ?_
              refine ao_cons (acts_skip rfl) (by decide) ?_
              refine ao_cons (acts_skip rfl) (by decide) ?_
              refine ao_cons (acts_of rfl (does_pick (v := .bool true) (by conv => lhs; whnf) (by exact rfl))) (by decide) ?_
              refine ao_nil_n ?_
              obtain rfl := Option.some.inj h
              have h := hk57
              exact ⟨_, reb_lit [(0, .sl 6 (List.map enc27 a0)), (1, .int .i64 a1), (2, .int .i64 a2), (3, .int .i64 a3), (10, .own 53 0), (11, .own 53 1), (12, .int .i64 v12_2), (13, .int .i64 v13_2), (14, .int .i64 v14_2), (111, .bool true)] [(53, 0), (53, 1)] [((53, 0), .arr 28 6 true (List.map enc27 x25.1)), ((53, 1), .arr 28 6 true (List.map enc27 x25.2))] [(53, 2)] (envOk_cons (by conv => lhs; whnf) (by exact rfl) (envOk_cons (by conv => lhs; whnf) (by exact rfl) (envOk_cons (by conv => lhs; whnf) (by exact rfl) (envOk_cons (by conv => lhs; whnf) (by exact rfl) (envOk_cons (by conv => lhs; whnf) (by exact rfl) (envOk_cons (by conv => lhs; whnf) (by exact rfl) (envOk_cons (by conv => lhs; whnf) (by exact rfl) (envOk_cons (by conv => lhs; whnf) (by exact rfl) (envOk_cons (by conv => lhs; whnf) (by exact rfl) (envOk_cons (by conv => lhs; whnf) (by exact rfl) envOk_nil)))))))))) (objOk_cons (by conv => lhs; whnf) (by conv => lhs; whnf) (by exact rfl) (by simp) (objOk_cons (by conv => lhs; whnf) (by conv => lhs; whnf) (by exact rfl) (by simp) objOk_nil)) (nodup_b rfl) (nodup_b rfl) rfl rfl, true, h, rfl⟩
            · have h := ifF c60 h
              refine ao_cons (acts_of rfl (does_move (v := .int .i64 a1) (by exact rfl))) (by decide) ?_
              refine ao_cons (acts_of rfl (does_move (v := .sl 6 (List.map enc27 a0)) (by exact rfl))) (by decide) ?_
              refine ao_cons (acts_of rfl (does_move (v := .int .i64 v14_2) (by exact rfl))) (by decide) ?_
              obtain ⟨g61, h⟩ := gd_some h
              obtain ⟨x62, hx62, h⟩ := bnd_some h
              refine ao_cons (acts_of rfl (does_indexAddr_sl (el := .agg [.int .u64 x62.Trace.Hi, .int .u64 x62.Trace.Lo, .int .i64 x62.First, .int .i64 x62.Last, .bool x62.Sure, .sl 10 (List.map enc30 x62.Spans)]) (by conv => lhs; whnf) (by conv => lhs; whnf) ty22 ty28 g61 (by exact map_get hx62))) (by decide) ?_
              refine ao_cons (acts_of rfl (does_fieldAddr (q := .rptr [.int .i64 x62.First, .int .i64 x62.Last, .bool x62.Sure, .sl 10 (List.map enc30 x62.Spans)]) (by conv => lhs; whnf) ty28 rfl ty3 (by decide) (by exact rfl))) (by decide) ?_
              refine ao_cons (acts_of rfl (does_load (v := .int .i64 x62.First) (by conv => lhs; whnf) (by conv => lhs; whnf) ty3 (by exact rfl))) (by decide) ?_
              refine ao_cons (acts_of rfl (does_bin (v := .int .i64 (IntKind.i64.wrap (a1 - x62.First))) (by conv => lhs; whnf) (by conv => lhs; whnf) rfl)) (by decide) ?_
              refine ao_cons (acts_of rfl (does_move (v := .int .i64 a3) (by exact rfl))) (by decide) ?_
              refine ao_cons (acts_of rfl (does_bin (v := .bool (decide (a3 ≤ (IntKind.i64.wrap (a1 - x62.First))))) (by conv => lhs; whnf) (by conv => lhs; whnf) rfl)) (by decide) ?_
              refine ao_cons (acts_of rfl (does_pick (v := .bool (decide (a3 ≤ (IntKind.i64.wrap (a1 - x62.First))))) (by conv => lhs; whnf) (by exact rfl))) (by decide) ?_
              refine ao_nil_n ?_
              obtain rfl := Option.some.inj h
              have h := hk57
              exact ⟨_, reb_lit [(0, .sl 6 (List.map enc27 a0)), (1, .int .i64 a1), (2, .int .i64 a2), (3, .int .i64 a3), (10, .own 53 0), (11, .own 53 1), (12, .int .i64 v12_2), (13, .int .i64 v13_2), (14, .int .i64 v14_2), (111, .bool (decide (a3 ≤ (IntKind.i64.wrap (a1 - x62.First)))))] [(53, 0), (53, 1)] [((53, 0), .arr 28 6 true (List.map enc27 x25.1)), ((53, 1), .arr 28 6 true (List.map enc27 x25.2))] [(53, 2)] (envOk_cons (by conv => lhs; whnf) (by exact rfl) (envOk_cons (by conv => lhs; whnf) (by exact rfl) (envOk_cons (by conv => lhs; whnf) (by exact rfl) (envOk_cons (by conv => lhs; whnf) (by exact rfl) (envOk_cons (by conv => lhs; whnf) (by exact rfl) (envOk_cons (by conv => lhs; whnf) (by exact rfl) (envOk_cons (by conv => lhs; whnf) (by exact rfl) (envOk_cons (by conv => lhs; whnf) (by exact rfl) (envOk_cons (by conv => lhs; whnf) (by exact rfl) (envOk_cons (by conv => lhs; whnf) (by exact rfl) envOk_nil)))))))))) (objOk_cons (by conv => lhs; whnf) (by conv => lhs; whnf) (by exact rfl) (by simp) (objOk_cons (by conv => lhs; whnf) (by conv => lhs; whnf) (by exact rfl) (by simp) objOk_nil)) (nodup_b rfl) (nodup_b rfl) rfl rfl, (decide (a3 ≤ (IntKind.i64.wrap (a1 - x62.First)))), h, rfl⟩
          · rintro s ⟨v111_4, h, rfl⟩
            unfold gleaninglaw16_BufferClose_k4 at h
            refine aw_bool (b := v111_4) 111 rfl (fun c63 => ?_) (fun c63 => ?_)
            · have h := ifT c63 h
              refine aw_cond_t (by decide) rfl ?_
              refine aw_seq_k (fun K64 hK64 => ?_)
              refine aw_seq_k (fun K65 hK65 => ?_)
              refine aw_regd (by kernel_rfl) (by decide +kernel) ?_
              refine ao_cons (acts_of rfl (does_move (v := .int .i64 v13_2) (by exact rfl))) (by decide) ?_
              refine ao_cons (acts_of rfl (does_move (v := .own 53 1) (by exact rfl))) (by decide) ?_
              refine ao_cons (acts_of rfl ((does_len_own (by conv => lhs; whnf) (by conv => lhs; whnf) ty22).cast (v' := .int .i64 (List.length x25.2 : Int)) (by exact len_map _))) (by decide) ?_
              refine ao_cons (acts_of rfl (does_bin (v := .bool (decide ((List.length x25.2 : Int) ≤ v13_2))) (by conv => lhs; whnf) (by conv => lhs; whnf) rfl)) (by decide) ?_
              refine ao_cons (acts_of rfl (does_move (v := .bool (decide ((List.length x25.2 : Int) ≤ v13_2))) (by exact rfl))) (by decide) ?_
              refine ao_bool (c := (decide ((List.length x25.2 : Int) ≤ v13_2))) 116 rfl (fun c66 => ?_) (fun c66 => ?_)
              · have h := ifT c66 h
                refine ao_cons (acts_skip rfl) (by decide) ?_
                refine ao_cons (acts_skip rfl) (by decide) ?_
                refine ao_cons (acts_skip rfl) (by decide) ?_
                refine ao_cons (acts_skip rfl) (by decide) ?_
                refine ao_cons (acts_skip rfl) (by decide) ?_
                refine ao_cons (acts_skip rfl) (by decide) ?_
                refine ao_cons (acts_skip rfl) (by decide) ?_
                refine ao_cons (acts_skip rfl) (by decide) ?_
                refine ao_cons (acts_skip rfl) (by decide) ?_
                refine ao_cons (acts_skip rfl) (by decide) ?_
                refine ao_cons (acts_skip rfl) (by decide) ?_
                refine ao_cons (acts_skip rfl) (by decide) ?_
                refine ao_cons (acts_of rfl (does_pick (v := .bool true) (by conv => lhs; whnf) (by exact rfl))) (by decide) ?_
                refine ao_nil_d (by kernel_rfl) ?_
                refine hK65 _ ?_
                refine aw_cond_t (by decide) rfl ?_
                refine aw_seq_k (fun K67 hK67 => ?_)
                refine aw_reg ?_
                refine ao_cons (acts_of rfl (does_assign (v := .bool false) (by exact rfl))) (by decide) ?_
                refine ao_nil_n ?_
                refine hK67 _ ?_
                refine aw_ret ?_
                have h := leafR h hq32
                have h := leafR h hk29
                obtain rfl := Option.some.inj h
                exact ret_ok1 (by conv => lhs; whnf) (by conv => lhs; whnf) (by exact rfl) (.inr rfl) rfl
              · have h := ifF c66 h
                refine ao_cons (acts_of rfl (does_move (v := .own 53 1) (by exact rfl))) (by decide) ?_
                refine ao_cons (acts_of rfl (does_move (v := .int .i64 v13_2) (by exact rfl))) (by decide) ?_
                refine ao_cons (acts_of rfl (does_move (v := .int .i64 v13_2) (by exact rfl))) (by decide) ?_
                refine ao_cons (acts_of rfl (does_bin (v := .int .i64 (IntKind.i64.wrap (v13_2 + 1))) (by conv => lhs; whnf) (by conv => lhs; whnf) rfl)) (by decide) ?_
                obtain ⟨g68, h⟩ := gd_some h
                obtain ⟨g69, h⟩ := gd_some h
                obtain ⟨g70, h⟩ := gd_some h
                refine ao_cons (acts_of rfl (does_slice_own (l := (Int.toNat v13_2)) (k := (Int.toNat (IntKind.i64.wrap (v13_2 + 1)))) (by conv => lhs; whnf) (by conv => lhs; whnf) ty22 ty28 (bd_some (by conv => lhs; whnf) (by exact (nat_of g68))) (bd_some (by conv => lhs; whnf) (by exact (nat_of (by omega)))) (by (try simp only [List.length_map]); omega) (by (try simp only [List.length_map]); omega) (by exact map_part _ _ _))) (by decide) ?_
                refine ao_cons (acts_of rfl (does_move (v := .sl 6 (List.map enc27 a0)) (by exact rfl))) (by decide) ?_
                refine ao_cons (acts_of rfl (does_move (v := .int .i64 v14_2) (by exact rfl))) (by decide) ?_
                refine ao_cons (acts_of rfl (does_move (v := .int .i64 v14_2) (by exact rfl))) (by decide) ?_
                refine ao_cons (acts_of rfl (does_bin (v := .int .i64 (IntKind.i64.wrap (v14_2 + 1))) (by conv => lhs; whnf) (by conv => lhs; whnf) rfl)) (by decide) ?_
                obtain ⟨g71, h⟩ := gd_some h
                obtain ⟨g72, h⟩ := gd_some h
                obtain ⟨g73, h⟩ := gd_some h
                refine ao_cons (acts_of rfl (does_slice_sl (l := (Int.toNat v14_2)) (k := (Int.toNat (IntKind.i64.wrap (v14_2 + 1)))) (by conv => lhs; whnf) ty22 ty28 (bd_some (by conv => lhs; whnf) (by exact (nat_of g71))) (bd_some (by conv => lhs; whnf) (by exact (nat_of (by omega)))) (by (try simp only [List.length_map]); omega) (by (try simp only [List.length_map]); omega) (by exact map_part _ _ _))) (by decide) ?_
                obtain ⟨x74, hx74, h⟩ := bnd_some h
                refine ao_cons (acts_of rfl (do_call0 127 false (gleaningref15_SameEpisodes_ok (List.drop (Int.toNat v13_2) (List.take (Int.toNat (IntKind.i64.wrap (v13_2 + 1))) x25.2)) (List.drop (Int.toNat v14_2) (List.take (Int.toNat (IntKind.i64.wrap (v14_2 + 1))) a0)) hx74) rfl ent20 rfl rfl)) (by decide) ?_
                refine ao_cons (acts_of rfl (does_un (v := .bool (!x74)) (by conv => lhs; whnf) rfl)) (by decide) ?_
                refine ao_cons (acts_of rfl (does_pick (v := .bool (!x74)) (by conv => lhs; whnf) (by exact rfl))) (by decide) ?_
                refine ao_nil_d (by kernel_rfl) ?_
                refine hK65 _ ?_
                refine aw_bool (b := (!x74)) 129 rfl (fun c75 => ?_) (fun c75 => ?_)
                · have h := ifT c75 h
                  refine aw_cond_t (by decide) rfl ?_
                  refine aw_seq_k (fun K76 hK76 => ?_)
                  refine aw_reg ?_
                  refine ao_cons (acts_of rfl (does_assign (v := .bool false) (by exact rfl))) (by decide) ?_
                  refine ao_nil_n ?_
                  refine hK76 _ ?_
                  refine aw_ret ?_
                  have h := leafR h hq32
                  have h := leafR h hk29
                  obtain rfl := Option.some.inj h
                  exact ret_ok1 (by conv => lhs; whnf) (by conv => lhs; whnf) (by exact rfl) (.inr rfl) rfl
                · have h := ifF c75 h
                  refine aw_cond_f (by decide) rfl ?_
                  refine aw_skip ?_
                  refine hK64 _ ?_
                  refine aw_reg ?_
                  refine ao_cons (acts_of rfl (does_move (v := .int .i64 v13_2) (by exact rfl))) (by decide) ?_
                  refine ao_cons (acts_of rfl (does_bin (v := .int .i64 (IntKind.i64.wrap (v13_2 + 1))) (by conv => lhs; whnf) (by conv => lhs; whnf) rfl)) (by decide) ?_
                  refine ao_cons (acts_of rfl (does_assign (v := .int .i64 (IntKind.i64.wrap (v13_2 + 1))) (by exact rfl))) (by decide) ?_
                  refine ao_nil_n ?_
                  refine hK36 _ ?_
                  refine aw_reg ?_
                  refine ao_cons (acts_of rfl (does_move (v := .int .i64 v14_2) (by exact rfl))) (by decide) ?_
                  refine ao_cons (acts_of rfl (does_bin (v := .int .i64 (IntKind.i64.wrap (v14_2 + 1))) (by conv => lhs; whnf) (by conv => lhs; whnf) rfl)) (by decide) ?_
                  refine ao_cons (acts_of rfl (does_assign (v := .int .i64 (IntKind.i64.wrap (v14_2 + 1))) (by exact rfl))) (by decide) ?_
                  refine ao_nil_n ?_
                  have h := leafL h hq32
                  exact ⟨m2, Nat.lt_succ_self _, _, reb_lit [(0, .sl 6 (List.map enc27 a0)), (1, .int .i64 a1), (2, .int .i64 a2), (3, .int .i64 a3), (10, .own 53 0), (11, .own 53 1), (12, .int .i64 v12_2), (13, .int .i64 (IntKind.i64.wrap (v13_2 + 1))), (14, .int .i64 (IntKind.i64.wrap (v14_2 + 1)))] [(53, 0), (53, 1)] [((53, 0), .arr 28 6 true (List.map enc27 x25.1)), ((53, 1), .arr 28 6 true (List.map enc27 x25.2))] [(53, 2)] (envOk_cons (by conv => lhs; whnf) (by exact rfl) (envOk_cons (by conv => lhs; whnf) (by exact rfl) (envOk_cons (by conv => lhs; whnf) (by exact rfl) (envOk_cons (by conv => lhs; whnf) (by exact rfl) (envOk_cons (by conv => lhs; whnf) (by exact rfl) (envOk_cons (by conv => lhs; whnf) (by exact rfl) (envOk_cons (by conv => lhs; whnf) (by exact rfl) (envOk_cons (by conv => lhs; whnf) (by exact rfl) (envOk_cons (by conv => lhs; whnf) (by exact rfl) envOk_nil))))))))) (objOk_cons (by conv => lhs; whnf) (by conv => lhs; whnf) (by exact rfl) (by simp) (objOk_cons (by conv => lhs; whnf) (by conv => lhs; whnf) (by exact rfl) (by simp) objOk_nil)) (nodup_b rfl) (nodup_b rfl) rfl rfl, v12_2, (IntKind.i64.wrap (v13_2 + 1)), (IntKind.i64.wrap (v14_2 + 1)), h, rfl⟩
            · have h := ifF c63 h
              refine aw_cond_f (by decide) rfl ?_
              refine aw_seq_k (fun K77 hK77 => ?_)
              refine aw_seq_k (fun K78 hK78 => ?_)
              refine aw_regd (by kernel_rfl) (by decide +kernel) ?_
              refine ao_cons (acts_of rfl (does_move (v := .int .i64 v12_2) (by exact rfl))) (by decide) ?_
              refine ao_cons (acts_of rfl (does_move (v := .own 53 0) (by exact rfl))) (by decide) ?_
              refine ao_cons (acts_of rfl ((does_len_own (by conv => lhs; whnf) (by conv => lhs; whnf) ty22).cast (v' := .int .i64 (List.length x25.1 : Int)) (by exact len_map _))) (by decide) ?_
              refine ao_cons (acts_of rfl (does_bin (v := .bool (decide ((List.length x25.1 : Int) ≤ v12_2))) (by conv => lhs; whnf) (by conv => lhs; whnf) rfl)) (by decide) ?_
              refine ao_cons (acts_of rfl (does_move (v := .bool (decide ((List.length x25.1 : Int) ≤ v12_2))) (by exact rfl))) (by decide) ?_
              refine ao_bool (c := (decide ((List.length x25.1 : Int) ≤ v12_2))) 136 rfl (fun c79 => ?_) (fun c79 => ?_)
              · have h := ifT c79 h
                refine ao_cons (acts_skip rfl) (by decide) ?_
                refine ao_cons (acts_skip rfl) (by decide) ?_
                refine ao_cons (acts_skip rfl) (by decide) ?_
                refine ao_cons (acts_skip rfl) (by decide) ?_
                refine ao_cons (acts_skip rfl) (by decide) ?_
                refine ao_cons (acts_skip rfl) (by decide) ?_
                refine ao_cons (acts_skip rfl) (by decide) ?_
                refine ao_cons (acts_skip rfl) (by decide) ?_
                refine ao_cons (acts_skip rfl) (by decide) ?_
                refine ao_cons (acts_skip rfl) (by decide) ?_
                refine ao_cons (acts_skip rfl) (by decide) ?_
                refine ao_cons (acts_skip rfl) (by decide) ?_
                refine ao_cons (acts_of rfl (does_pick (v := .bool true) (by conv => lhs; whnf) (by exact rfl))) (by decide) ?_
                refine ao_nil_d (by kernel_rfl) ?_
                refine hK78 _ ?_
                refine aw_cond_t (by decide) rfl ?_
                refine aw_seq_k (fun K80 hK80 => ?_)
                refine aw_reg ?_
                refine ao_cons (acts_of rfl (does_assign (v := .bool false) (by exact rfl))) (by decide) ?_
                refine ao_nil_n ?_
                refine hK80 _ ?_
                refine aw_ret ?_
                have h := leafR h hq32
                have h := leafR h hk29
                obtain rfl := Option.some.inj h
                exact ret_ok1 (by conv => lhs; whnf) (by conv => lhs; whnf) (by exact rfl) (.inr rfl) rfl
              · have h := ifF c79 h
                refine ao_cons (acts_of rfl (does_move (v := .own 53 0) (by exact rfl))) (by decide) ?_
                refine ao_cons (acts_of rfl (does_move (v := .int .i64 v12_2) (by exact rfl))) (by decide) ?_
                refine ao_cons (acts_of rfl (does_move (v := .int .i64 v12_2) (by exact rfl))) (by decide) ?_
                refine ao_cons (acts_of rfl (does_bin (v := .int .i64 (IntKind.i64.wrap (v12_2 + 1))) (by conv => lhs; whnf) (by conv => lhs; whnf) rfl)) (by decide) ?_
                obtain ⟨g81, h⟩ := gd_some h
                obtain ⟨g82, h⟩ := gd_some h
                obtain ⟨g83, h⟩ := gd_some h
                refine ao_cons (acts_of rfl (does_slice_own (l := (Int.toNat v12_2)) (k := (Int.toNat (IntKind.i64.wrap (v12_2 + 1)))) (by conv => lhs; whnf) (by conv => lhs; whnf) ty22 ty28 (bd_some (by conv => lhs; whnf) (by exact (nat_of g81))) (bd_some (by conv => lhs; whnf) (by exact (nat_of (by omega)))) (by (try simp only [List.length_map]); omega) (by (try simp only [List.length_map]); omega) (by exact map_part _ _ _))) (by decide) ?_
                refine ao_cons (acts_of rfl (does_move (v := .sl 6 (List.map enc27 a0)) (by exact rfl))) (by decide) ?_
                refine ao_cons (acts_of rfl (does_move (v := .int .i64 v14_2) (by exact rfl))) (by decide) ?_
                refine ao_cons (acts_of rfl (does_move (v := .int .i64 v14_2) (by exact rfl))) (by decide) ?_
                refine ao_cons (acts_of rfl (does_bin (v := .int .i64 (IntKind.i64.wrap (v14_2 + 1))) (by conv => lhs; whnf) (by conv => lhs; whnf) rfl)) (by decide) ?_
                obtain ⟨g84, h⟩ := gd_some h
                obtain ⟨g85, h⟩ := gd_some h
                obtain ⟨g86, h⟩ := gd_some h
                refine ao_cons (acts_of rfl (does_slice_sl (l := (Int.toNat v14_2)) (k := (Int.toNat (IntKind.i64.wrap (v14_2 + 1)))) (by conv => lhs; whnf) ty22 ty28 (bd_some (by conv => lhs; whnf) (by exact (nat_of g84))) (bd_some (by conv => lhs; whnf) (by exact (nat_of (by omega)))) (by (try simp only [List.length_map]); omega) (by (try simp only [List.length_map]); omega) (by exact map_part _ _ _))) (by decide) ?_
                obtain ⟨x87, hx87, h⟩ := bnd_some h
                refine ao_cons (acts_of rfl (do_call0 147 false (gleaningref15_SameEpisodes_ok (List.drop (Int.toNat v12_2) (List.take (Int.toNat (IntKind.i64.wrap (v12_2 + 1))) x25.1)) (List.drop (Int.toNat v14_2) (List.take (Int.toNat (IntKind.i64.wrap (v14_2 + 1))) a0)) hx87) rfl ent20 rfl rfl)) (by decide) ?_
                refine ao_cons (acts_of rfl (does_un (v := .bool (!x87)) (by conv => lhs; whnf) rfl)) (by decide) ?_
                refine ao_cons (acts_of rfl (does_pick (v := .bool (!x87)) (by conv => lhs; whnf) (by exact rfl))) (by decide) ?_
                refine ao_nil_d (by kernel_rfl) ?_
                refine hK78 _ ?_
                refine aw_bool (b := (!x87)) 149 rfl (fun c88 => ?_) (fun c88 => ?_)
                · have h := ifT c88 h
                  refine aw_cond_t (by decide) rfl ?_
                  refine aw_seq_k (fun K89 hK89 => ?_)
                  refine aw_reg ?_
                  refine ao_cons (acts_of rfl (does_assign (v := .bool false) (by exact rfl))) (by decide) ?_
                  refine ao_nil_n ?_
                  refine hK89 _ ?_
                  refine aw_ret ?_
                  have h := leafR h hq32
                  have h := leafR h hk29
                  obtain rfl := Option.some.inj h
                  exact ret_ok1 (by conv => lhs; whnf) (by conv => lhs; whnf) (by exact rfl) (.inr rfl) rfl
                · have h := ifF c88 h
                  refine aw_cond_f (by decide) rfl ?_
                  refine aw_skip ?_
                  refine hK77 _ ?_
                  refine aw_reg ?_
                  refine ao_cons (acts_of rfl (does_move (v := .int .i64 v12_2) (by exact rfl))) (by decide) ?_
                  refine ao_cons (acts_of rfl (does_bin (v := .int .i64 (IntKind.i64.wrap (v12_2 + 1))) (by conv => lhs; whnf) (by conv => lhs; whnf) rfl)) (by decide) ?_
                  refine ao_cons (acts_of rfl (does_assign (v := .int .i64 (IntKind.i64.wrap (v12_2 + 1))) (by exact rfl))) (by decide) ?_
                  refine ao_nil_n ?_
                  refine hK36 _ ?_
                  refine aw_reg ?_
                  refine ao_cons (acts_of rfl (does_move (v := .int .i64 v14_2) (by exact rfl))) (by decide) ?_
                  refine ao_cons (acts_of rfl (does_bin (v := .int .i64 (IntKind.i64.wrap (v14_2 + 1))) (by conv => lhs; whnf) (by conv => lhs; whnf) rfl)) (by decide) ?_
                  refine ao_cons (acts_of rfl (does_assign (v := .int .i64 (IntKind.i64.wrap (v14_2 + 1))) (by exact rfl))) (by decide) ?_
                  refine ao_nil_n ?_
                  have h := leafL h hq32
                  exact ⟨m2, Nat.lt_succ_self _, _, reb_lit [(0, .sl 6 (List.map enc27 a0)), (1, .int .i64 a1), (2, .int .i64 a2), (3, .int .i64 a3), (10, .own 53 0), (11, .own 53 1), (12, .int .i64 (IntKind.i64.wrap (v12_2 + 1))), (13, .int .i64 v13_2), (14, .int .i64 (IntKind.i64.wrap (v14_2 + 1)))] [(53, 0), (53, 1)] [((53, 0), .arr 28 6 true (List.map enc27 x25.1)), ((53, 1), .arr 28 6 true (List.map enc27 x25.2))] [(53, 2)] (envOk_cons (by conv => lhs; whnf) (by exact rfl) (envOk_cons (by conv => lhs; whnf) (by exact rfl) (envOk_cons (by conv => lhs; whnf) (by exact rfl) (envOk_cons (by conv => lhs; whnf) (by exact rfl) (envOk_cons (by conv => lhs; whnf) (by exact rfl) (envOk_cons (by conv => lhs; whnf) (by exact rfl) (envOk_cons (by conv => lhs; whnf) (by exact rfl) (envOk_cons (by conv => lhs; whnf) (by exact rfl) (envOk_cons (by conv => lhs; whnf) (by exact rfl) envOk_nil))))))))) (objOk_cons (by conv => lhs; whnf) (by conv => lhs; whnf) (by exact rfl) (by simp) (objOk_cons (by conv => lhs; whnf) (by conv => lhs; whnf) (by exact rfl) (by simp) objOk_nil)) (nodup_b rfl) (nodup_b rfl) rfl rfl, (IntKind.i64.wrap (v12_2 + 1)), v13_2, (IntKind.i64.wrap (v14_2 + 1)), h, rfl⟩
      · have h := ifF c35 h
        refine aw_cond_f (by decide) rfl ?_
        refine aw_exit ?_
        have h := leafR h hq32
        have h := leafL h hk29
        exact ⟨_, reb_lit [(10, .own 53 0), (11, .own 53 1), (12, .int .i64 v12_2), (13, .int .i64 v13_2)] [(53, 0), (53, 1)] [((53, 0), .arr 28 6 true (List.map enc27 x25.1)), ((53, 1), .arr 28 6 true (List.map enc27 x25.2))] [(53, 2)] (envOk_cons (by conv => lhs; whnf) (by exact rfl) (envOk_cons (by conv => lhs; whnf) (by exact rfl) (envOk_cons (by conv => lhs; whnf) (by exact rfl) (envOk_cons (by conv => lhs; whnf) (by exact rfl) envOk_nil)))) (objOk_cons (by conv => lhs; whnf) (by conv => lhs; whnf) (by exact rfl) (by simp) (objOk_cons (by conv => lhs; whnf) (by conv => lhs; whnf) (by exact rfl) (by simp) objOk_nil)) (nodup_b rfl) (nodup_b rfl) rfl rfl, v12_2, v13_2, h, rfl⟩
    · rintro s ⟨v12_1, v13_1, h, rfl⟩
      unfold gleaninglaw16_BufferClose_k1 at h
      refine aw_seq_k (fun K90 hK90 => ?_)
      refine aw_reg ?_
      refine ao_cons (acts_of rfl (does_move (v := .int .i64 v12_1) (by exact rfl))) (by decide) ?_
      refine ao_cons (acts_of rfl (does_move (v := .own 53 0) (by exact rfl))) (by decide) ?_
      refine ao_cons (acts_of rfl ((does_len_own (by conv => lhs; whnf) (by conv => lhs; whnf) ty22).cast (v' := .int .i64 (List.length x25.1 : Int)) (by exact len_map _))) (by decide) ?_
      refine ao_cons (acts_of rfl (does_bin (v := .bool (v12_1 == (List.length x25.1 : Int))) (by conv => lhs; whnf) (by conv => lhs; whnf) rfl)) (by decide) ?_
      refine ao_cons (acts_of rfl (does_move (v := .bool (v12_1 == (List.length x25.1 : Int))) (by exact rfl))) (by decide) ?_
      refine ao_bool (c := (v12_1 == (List.length x25.1 : Int))) 156 rfl (fun c91 => ?_) (fun c91 => ?_)
      · have h := ifT c91 h
        refine ao_cons (acts_of rfl (does_move (v := .int .i64 v13_1) (by exact rfl))) (by decide) ?_
        refine ao_cons (acts_of rfl (does_move (v := .own 53 1) (by exact rfl))) (by decide) ?_
        refine ao_cons (acts_of rfl ((does_len_own (by conv => lhs; whnf) (by conv => lhs; whnf) ty22).cast (v' := .int .i64 (List.length x25.2 : Int)) (by exact len_map _))) (by decide) ?_
        refine ao_cons (acts_of rfl (does_bin (v := .bool (v13_1 == (List.length x25.2 : Int))) (by conv => lhs; whnf) (by conv => lhs; whnf) rfl)) (by decide) ?_
        refine ao_cons (acts_of rfl (does_pick (v := .bool (v13_1 == (List.length x25.2 : Int))) (by conv => lhs; whnf) (by exact rfl))) (by decide) ?_
        refine ao_cons (acts_of rfl (does_assign (v := .bool (v13_1 == (List.length x25.2 : Int))) (by exact rfl))) (by decide) ?_
        refine ao_nil_n ?_
        refine hK90 _ ?_
        refine aw_ret ?_
        obtain rfl := Option.some.inj h
        exact ret_ok1 (by conv => lhs; whnf) (by conv => lhs; whnf) (by exact rfl) (.inr rfl) rfl
      · have h := ifF c91 h
        refine ao_cons (acts_skip rfl) (by decide) ?_
        refine ao_cons (acts_skip rfl) (by decide) ?_
        refine ao_cons (acts_skip rfl) (by decide) ?_
        refine ao_cons (acts_skip rfl) (by decide) ?_
        refine ao_cons (acts_of rfl (does_pick (v := .bool false) (by conv => lhs; whnf) (by exact rfl))) (by decide) ?_
        refine ao_cons (acts_of rfl (does_assign (v := .bool false) (by exact rfl))) (by decide) ?_
        refine ao_nil_n ?_
        refine hK90 _ ?_
        refine aw_ret ?_
        obtain rfl := Option.some.inj h
        exact ret_ok1 (by conv => lhs; whnf) (by conv => lhs; whnf) (by exact rfl) (.inr rfl) rfl
end Go.Proofs.Ytlkdpgemdopbfaa.Ab
