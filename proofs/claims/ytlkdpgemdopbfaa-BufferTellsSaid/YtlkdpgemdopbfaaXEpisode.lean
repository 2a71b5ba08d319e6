/- Chapter 15: episodes. -/
import Derived.Test.YtlkdpgemdopbfaaXSpan0
import Derived.Test.YtlkdpgemdopbfaaProg
namespace Go.Proofs.Ytlkdpgemdopbfaa.Ab
open Go Go.RowKit
set_option linter.unusedVariables false
set_option linter.unusedSimpArgs false
structure Episode where
  Trace : Trace
  First : Int
  Last : Int
  Sure : Bool
  Spans : List Span
  deriving DecidableEq
def enc27 (x : Episode) : PV := .agg [.int .u64 x.Trace.Hi, .int .u64 x.Trace.Lo, .int .i64 x.First, .int .i64 x.Last, .bool x.Sure, .sl 10 (List.map enc30 x.Spans)]
theorem ty22 : tyOf Try.prog 22 = some ⟨.slice 28, 1, 24, [.nil]⟩ := by kernel_rfl
theorem ty28 : tyOf Try.prog 28 = some ⟨.struct [(0, 25), (2, 3), (3, 3), (4, 4), (5, 26)], 6, 64, [.int .u64 0, .int .u64 0, .int .i64 0, .int .i64 0, .bool false, .nil]⟩ := by kernel_rfl
theorem ent18 : Ent Try.prog 18 := ⟨_, Try.func18, by kernel_rfl, rfl⟩
theorem ent19 : Ent Try.prog 19 := ⟨_, Try.func19, by kernel_rfl, rfl⟩
theorem ent21 : Ent Try.prog 21 := ⟨_, Try.func21, by kernel_rfl, rfl⟩
theorem ent22 : Ent Try.prog 22 := ⟨_, Try.func22, by kernel_rfl, rfl⟩
theorem ent25 : Ent Try.prog 25 := ⟨_, Try.func25, by kernel_rfl, rfl⟩
theorem ent43 : Ent Try.prog 43 := ⟨_, Try.func43, by kernel_rfl, rfl⟩
theorem ent44 : Ent Try.prog 44 := ⟨_, Try.func44, by kernel_rfl, rfl⟩
theorem ent45 : Ent Try.prog 45 := ⟨_, Try.func45, by kernel_rfl, rfl⟩
theorem ent62 : Ent Try.prog 62 := ⟨_, Try.func62, by kernel_rfl, rfl⟩
theorem ent63 : Ent Try.prog 63 := ⟨_, Try.func63, by kernel_rfl, rfl⟩
theorem ent72 : Ent Try.prog 72 := ⟨_, Try.func72, by kernel_rfl, rfl⟩
def episode_Copy (a0 : Episode) : Option Episode :=
  Option.bind (span_Copy a0.Spans) (fun (x3 : List Span) => some (Episode.mk a0.Trace a0.First a0.Last a0.Sure x3))
set_option maxRecDepth 100000 in
set_option maxHeartbeats 8000000 in
/-- gleaning/episode.Copy -/
theorem episode_Copy_ok (a0 : Episode) {r : Episode} (h : episode_Copy a0 = some r) : Ok Try.prog 43 [.agg [.int .u64 a0.Trace.Hi, .int .u64 a0.Trace.Lo, .int .i64 a0.First, .int .i64 a0.Last, .bool a0.Sure, .sl 10 (List.map enc30 a0.Spans)]] [] [] (.agg [.int .u64 r.Trace.Hi, .int .u64 r.Trace.Lo, .int .i64 r.First, .int .i64 r.Last, .bool r.Sure, .own 2 0]) [] [(31, 10, List.map enc30 r.Spans)] := by
  unfold episode_Copy at h
  refine ok_of_code Try.func43 rfl (by show (1 : Nat) ≤ _; decide) (Nat.le_refl _) fun X => ?_
  refine aw_seq_k (fun K1 hK1 => ?_)
  refine aw_regL ?_
  refine alD (some 1) rfl rfl (do_box (by conv => lhs; whnf) rfl rfl) (by decide) ?_
  refine alD (some 2) rfl rfl (do_new ty28 rfl rfl) (by decide) ?_
  refine al_nil ?_
  refine hK1 _ ?_
  refine aw_seq_k (fun K2 hK2 => ?_)
  refine aw_regL ?_
  refine alP (some 3) rfl rfl (does_fieldAddr (q := .ptr 1 0 5) (by conv => lhs; whnf) ty28 rfl ty26 (by decide) (by exact rfl)) (by decide) ?_
  refine alR (some 4) rfl rfl (does_load (v := .sl 10 (List.map enc30 a0.Spans)) (by conv => lhs; whnf) (by conv => lhs; whnf) ty26 (by exact rfl)) (by decide) ?_
  obtain ⟨x3, hx3, h⟩ := bnd_some h
  refine alD (some 5) rfl rfl (do_call0 5 false (span_Copy_ok a0.Spans hx3) rfl ent45 rfl rfl) (by decide) ?_
  refine alP (some 6) rfl rfl (does_fieldAddr (q := .ptr 1 0 5) (by conv => lhs; whnf) ty28 rfl ty26 (by decide) (by exact rfl)) (by decide) ?_
  refine alD none rfl rfl (do_store (cs' := [.int .u64 a0.Trace.Hi, .int .u64 a0.Trace.Lo, .int .i64 a0.First, .int .i64 a0.Last, .bool a0.Sure, .own 5 0]) (by conv => lhs; whnf) (by conv => lhs; whnf) (by conv => lhs; whnf) ty26 rfl rfl rfl (by exact rfl)) (by decide) ?_
  refine al_nil ?_
  refine hK2 _ ?_
  refine aw_seq_k (fun K4 hK4 => ?_)
  refine aw_regL ?_
  refine alR (some 7) rfl rfl (does_load (v := .agg [.int .u64 a0.Trace.Hi, .int .u64 a0.Trace.Lo, .int .i64 a0.First, .int .i64 a0.Last, .bool a0.Sure, .own 5 0]) (by conv => lhs; whnf) (by conv => lhs; whnf) ty28 (by exact rfl)) (by decide) ?_
  refine alD none rfl rfl (do_store (cs' := [.int .u64 a0.Trace.Hi, .int .u64 a0.Trace.Lo, .int .i64 a0.First, .int .i64 a0.Last, .bool a0.Sure, .own 5 0]) (by conv => lhs; whnf) (by conv => lhs; whnf) (by conv => lhs; whnf) ty28 rfl rfl rfl (by exact rfl)) (by decide) ?_
  refine al_nil ?_
  refine hK4 _ ?_
  refine aw_ret ?_
  obtain rfl := Option.some.inj h
  exact ret_okR [(5, 0)] (by conv => lhs; whnf) (by conv => lhs; whnf) (by exact rfl) (rowsOk_cons (by conv => lhs; whnf) (by exact rfl) trivial) (nodup_b rfl) (.inr rfl) rfl
def episode_Copies_l0 (a0 : List Episode) (v3_s_0 : List Episode) (v8_0 : Int) : Option ((List Episode × Int) ⊕ (List Episode)) :=
  if (decide (v8_0 < (List.length a0 : Int))) = true then (gd (0 ≤ v8_0) (Option.bind (a0[(Int.toNat v8_0)]?) (fun (x13 : Episode) => Option.bind (episode_Copy x13) (fun (x14 : Episode) => gd ((List.length (v3_s_0 ++ [x14])) * 64 ≤ 140737488355328 ∧ (List.length (v3_s_0 ++ [x14])) ≤ 140737488355328) (some (Sum.inl ((v3_s_0 ++ [x14]), (IntKind.i64.wrap (v8_0 + 1))))))))) else (some (Sum.inr v3_s_0))
def episode_Copies (a0 : List Episode) : Option (List Episode) :=
  loopN (fun (s : List Episode × Int) => episode_Copies_l0 a0 s.1 s.2) Fu ([], 0)
set_option maxRecDepth 100000 in
set_option maxHeartbeats 8000000 in
/-- gleaning/episode.Copies -/
theorem episode_Copies_ok (a0 : List Episode) {r : List Episode} (h : episode_Copies a0 = some r) : Ok Try.prog 47 [.sl 6 (List.map enc27 a0)] [] [] (.own 2 0) [] [(28, 6, List.map enc27 r)] := by
  unfold episode_Copies at h
  refine ok_of_code Try.func47 rfl (by show (1 : Nat) ≤ _; decide) (Nat.le_refl _) fun X => ?_
  refine aw_seq_k (fun K1 hK1 => ?_)
  refine aw_regL ?_
  refine alP (some 2) rfl rfl (does_assign (v := .nil) (by exact rfl)) (by decide) ?_
  refine al_nil ?_
  refine hK1 _ ?_
  refine aw_seq_k (fun K2 hK2 => ?_)
  refine aw_regL ?_
  refine alP (some 3) rfl rfl (does_assign (v := .nil) (by exact rfl)) (by decide) ?_
  refine al_nil ?_
  refine hK2 _ ?_
  refine aw_seq_k (fun K3 hK3 => ?_)
  refine aw_seq_k (fun K4 hK4 => ?_)
  refine aw_regL ?_
  refine alP (some 6) rfl rfl (does_move (v := .sl 6 (List.map enc27 a0)) (by exact rfl)) (by decide) ?_
  refine alP (some 7) rfl rfl ((does_len_sl (by conv => lhs; whnf) ty22).castp (v' := .int .i64 (List.length a0 : Int)) (by exact len_map _)) (by decide) ?_
  refine alP (some 8) rfl rfl (does_move (v := .int .i64 0) (by exact rfl)) (by decide) ?_
  refine al_nil ?_
  refine hK4 _ ?_
  refine aw_block ?_
  refine aw_nilOwn 3 28 6 (by conv => lhs; whnf) (by decide) (by decide) ?_
  refine aw_loop' (fun m s => ∃ (v3_s_0 : List Episode), ∃ (v8_0 : Int), loopN (fun (s : List Episode × Int) => episode_Copies_l0 a0 s.1 s.2) m (v3_s_0, v8_0) = some r ∧ s = lit [(3, .own 3 0), (6, .sl 6 (List.map enc27 a0)), (7, .int .i64 (List.length a0 : Int)), (8, .int .i64 v8_0)] [((3, 0), .arr 28 6 false (List.map enc27 v3_s_0))] [(3, 1)] X) Fu
    ⟨_, reb_lit [(3, .own 3 0), (6, .sl 6 (List.map enc27 a0)), (7, .int .i64 (List.length a0 : Int)), (8, .int .i64 (0))] [(3, 0)] [((3, 0), .arr 28 6 false (List.map enc27 []))] [(3, 1)] (envOk_cons (by conv => lhs; whnf) (by exact rfl) (envOk_cons (by conv => lhs; whnf) (by exact rfl) (envOk_cons (by conv => lhs; whnf) (by exact rfl) (envOk_cons (by conv => lhs; whnf) (by exact rfl) envOk_nil)))) (objOk_cons (by conv => lhs; whnf) (by conv => lhs; whnf) (by exact rfl) (by simp) objOk_nil) (nodup_b rfl) (nodup_b rfl) rfl rfl, [], 0, h, rfl⟩ ?_
  rintro m s ⟨v3_s_0, v8_0, h, rfl⟩
  obtain ⟨m0, q5, rfl, h, hq6⟩ := loop_some h
  replace h : episode_Copies_l0 a0 v3_s_0 v8_0 = some q5 := h
  unfold episode_Copies_l0 at h
  refine aw_seq_k (fun K7 hK7 => ?_)
  refine aw_regL ?_
  refine alP (some 9) rfl rfl (does_bin (v := .bool (decide (v8_0 < (List.length a0 : Int)))) (by conv => lhs; whnf) (by conv => lhs; whnf) rfl) (by decide) ?_
  refine al_nil ?_
  refine hK7 _ ?_
  refine aw_seq_k (fun K8 hK8 => ?_)
  refine aw_bool (b := (decide (v8_0 < (List.length a0 : Int)))) 9 rfl (fun c9 => ?_) (fun c9 => ?_)
  · have h := ifT c9 h
    refine aw_cond_t (by decide) rfl ?_
    refine aw_skip ?_
    refine hK8 _ ?_
    refine aw_seq_k (fun K10 hK10 => ?_)
    refine aw_block ?_
    refine aw_seq_k (fun K11 hK11 => ?_)
    refine aw_regL ?_
    obtain ⟨g12, h⟩ := gd_some h
    obtain ⟨x13, hx13, h⟩ := bnd_some h
    refine alP (some 10) rfl rfl (does_indexAddr_sl (el := .agg [.int .u64 x13.Trace.Hi, .int .u64 x13.Trace.Lo, .int .i64 x13.First, .int .i64 x13.Last, .bool x13.Sure, .sl 10 (List.map enc30 x13.Spans)]) (by conv => lhs; whnf) (by conv => lhs; whnf) ty22 ty28 g12 (by exact map_get hx13)) (by decide) ?_
    refine alR (some 11) rfl rfl (does_load (v := .agg [.int .u64 x13.Trace.Hi, .int .u64 x13.Trace.Lo, .int .i64 x13.First, .int .i64 x13.Last, .bool x13.Sure, .sl 10 (List.map enc30 x13.Spans)]) (by conv => lhs; whnf) (by conv => lhs; whnf) ty28 (by exact rfl)) (by decide) ?_
    refine alD (some 5) rfl rfl (do_new ty28 rfl rfl) (by decide) ?_
    refine alD none rfl rfl (do_store (cs' := [.int .u64 x13.Trace.Hi, .int .u64 x13.Trace.Lo, .int .i64 x13.First, .int .i64 x13.Last, .bool x13.Sure, .sl 10 (List.map enc30 x13.Spans)]) (by conv => lhs; whnf) (by conv => lhs; whnf) (by conv => lhs; whnf) ty28 rfl rfl rfl (by exact rfl)) (by decide) ?_
    refine al_nil ?_
    refine hK11 _ ?_
    refine aw_regL ?_
    refine alP (some 12) rfl rfl (does_move (v := .own 3 0) (by exact rfl)) (by decide) ?_
    refine alR (some 13) rfl rfl (does_load (v := .agg [.int .u64 x13.Trace.Hi, .int .u64 x13.Trace.Lo, .int .i64 x13.First, .int .i64 x13.Last, .bool x13.Sure, .sl 10 (List.map enc30 x13.Spans)]) (by conv => lhs; whnf) (by conv => lhs; whnf) ty28 (by exact rfl)) (by decide) ?_
    obtain ⟨x14, hx14, h⟩ := bnd_some h
    refine alD (some 14) rfl rfl (do_call0 14 false (episode_Copy_ok x13 hx14) rfl ent43 rfl rfl) (by decide) ?_
    refine alD (some 15) rfl rfl (does_frz (d := 14) (n := 0) (by conv => lhs; whnf) (do_buildSlice (xs := List.map enc27 [x14]) ty22 ty28 rfl rfl rfl rfl rfl rfl rfl rfl)) (by decide) ?_
    obtain ⟨g15, h⟩ := gd_some h
    refine alD (some 16) rfl rfl (do_append (v := List.map enc27 (v3_s_0 ++ [x14])) (by conv => lhs; whnf) (by conv => lhs; whnf) ty22 ty28 rfl rfl (by conv => lhs; whnf) (by first | exact .inl rfl | exact .inr ⟨rfl, rfl⟩) (by conv => lhs; whnf) (by first | exact .inr rfl | exact .inl rfl) (map_app _ _) (fit_map g15)) (by decide) ?_
    refine alP (some 3) rfl rfl (does_assign (v := .own 16 0) (by exact rfl)) (by decide) ?_
    refine al_nil ?_
    refine hK10 _ ?_
    refine aw_regL ?_
    refine alP (some 17) rfl rfl (does_bin (v := .int .i64 (IntKind.i64.wrap (v8_0 + 1))) (by conv => lhs; whnf) (by conv => lhs; whnf) rfl) (by decide) ?_
    refine alP (some 8) rfl rfl (does_move (v := .int .i64 (IntKind.i64.wrap (v8_0 + 1))) (by exact rfl)) (by decide) ?_
    refine al_nil ?_
    have h := leafL h hq6
    exact ⟨m0, Nat.lt_succ_self _, _, reb_lit [(3, .own 3 0), (6, .sl 6 (List.map enc27 a0)), (7, .int .i64 (List.length a0 : Int)), (8, .int .i64 (IntKind.i64.wrap (v8_0 + 1)))] [(16, 0)] [((3, 0), .arr 28 6 false (List.map enc27 (v3_s_0 ++ [x14])))] [(3, 1)] (envOk_cons (by conv => lhs; whnf) (by exact rfl) (envOk_cons (by conv => lhs; whnf) (by exact rfl) (envOk_cons (by conv => lhs; whnf) (by exact rfl) (envOk_cons (by conv => lhs; whnf) (by exact rfl) envOk_nil)))) (objOk_cons (by conv => lhs; whnf) (by conv => lhs; whnf) (by exact rfl) (by simp) objOk_nil) (nodup_b rfl) (nodup_b rfl) rfl rfl, (v3_s_0 ++ [x14]), (IntKind.i64.wrap (v8_0 + 1)), h, rfl⟩
  · have h := ifF c9 h
    refine aw_cond_f (by decide) rfl ?_
    refine aw_exit ?_
    have h := leafR h hq6
    refine hK3 _ ?_
    refine aw_seq_k (fun K16 hK16 => ?_)
    refine aw_regL ?_
    refine alP (some 18) rfl rfl (does_move (v := .own 3 0) (by exact rfl)) (by decide) ?_
    refine alP (some 2) rfl rfl (does_assign (v := .own 3 0) (by exact rfl)) (by decide) ?_
    refine al_nil ?_
    refine hK16 _ ?_
    refine aw_ret ?_
    obtain rfl := Option.some.inj h
    exact ret_okR [(3, 0)] (by conv => lhs; whnf) (by conv => lhs; whnf) (by exact rfl) (rowsOk_cons (by conv => lhs; whnf) (by exact rfl) trivial) (nodup_b rfl) (.inr rfl) rfl
def episode_there_c1 (a0 : Span) (a1 : Span) : Option Bool :=
  some (a0.Id == a1.Id)
set_option maxRecDepth 100000 in
set_option maxHeartbeats 8000000 in
/-- gleaning/episode.there$1 -/
theorem episode_there_c1_ok (a0 : Span) (a1 : Span) {r : Bool} (h : episode_there_c1 a0 a1 = some r) : Ok Try.prog 63 [.agg [.int .u64 a0.Trace.Hi, .int .u64 a0.Trace.Lo, .int .u64 a0.Id, .int .u64 a0.Parent, .str a0.Service, .str a0.Op, .int .i64 a0.Start, .int .i64 a0.Dur, .bool a0.Err, .sl 2 (List.map enc68 a0.Attrs)], .rptr [.int .u64 a1.Trace.Hi, .int .u64 a1.Trace.Lo, .int .u64 a1.Id, .int .u64 a1.Parent, .str a1.Service, .str a1.Op, .int .i64 a1.Start, .int .i64 a1.Dur, .bool a1.Err, .sl 2 (List.map enc68 a1.Attrs)]] [] [] (.bool r) [] [] := by
  unfold episode_there_c1 at h
  refine ok_of_code Try.func63 rfl (by show (2 : Nat) ≤ _; decide) (Nat.le_refl _) fun X => ?_
  refine aw_seq_k (fun K1 hK1 => ?_)
  refine aw_regL ?_
  refine alD (some 2) rfl rfl (do_box (by conv => lhs; whnf) rfl rfl) (by decide) ?_
  refine alP (some 3) rfl rfl (does_assign (v := .bool false) (by exact rfl)) (by decide) ?_
  refine al_nil ?_
  refine hK1 _ ?_
  refine aw_seq_k (fun K2 hK2 => ?_)
  refine aw_regL ?_
  refine alP (some 4) rfl rfl (does_fieldAddr (q := .ptr 2 0 2) (by conv => lhs; whnf) ty31 rfl ty23 (by decide) (by exact rfl)) (by decide) ?_
  refine alR (some 5) rfl rfl (does_load (v := .int .u64 a0.Id) (by conv => lhs; whnf) (by conv => lhs; whnf) ty23 (by exact rfl)) (by decide) ?_
  refine alP (some 6) rfl rfl (does_fieldAddr (q := .rptr [.int .u64 a1.Id, .int .u64 a1.Parent, .str a1.Service, .str a1.Op, .int .i64 a1.Start, .int .i64 a1.Dur, .bool a1.Err, .sl 2 (List.map enc68 a1.Attrs)]) (by conv => lhs; whnf) ty31 rfl ty23 (by decide) (by exact rfl)) (by decide) ?_
  refine alR (some 7) rfl rfl (does_load (v := .int .u64 a1.Id) (by conv => lhs; whnf) (by conv => lhs; whnf) ty23 (by exact rfl)) (by decide) ?_
  refine alP (some 8) rfl rfl (does_bin (v := .bool (a0.Id == a1.Id)) (by conv => lhs; whnf) (by conv => lhs; whnf) rfl) (by decide) ?_
  refine alP (some 3) rfl rfl (does_assign (v := .bool (a0.Id == a1.Id)) (by exact rfl)) (by decide) ?_
  refine al_nil ?_
  refine hK2 _ ?_
  refine aw_ret ?_
  obtain rfl := Option.some.inj h
  exact ret_ok1 (by conv => lhs; whnf) (by conv => lhs; whnf) (by exact rfl) (.inr rfl) rfl
def slices_IndexFunc_Span_episode_there_c1_l0 (a0 : List Span) (a1_0 : Span) (v8_0 : Int) : Option (Int ⊕ Int) :=
  if (decide (v8_0 < (List.length a0 : Int))) = true then (gd (0 ≤ v8_0) (Option.bind (a0[(Int.toNat v8_0)]?) (fun (x13 : Span) => Option.bind (episode_there_c1 x13 a1_0) (fun (x14 : Bool) => if x14 = true then (some (Sum.inr v8_0)) else (some (Sum.inl (IntKind.i64.wrap (v8_0 + 1)))))))) else (some (Sum.inr (-1)))
def slices_IndexFunc_Span_episode_there_c1 (a0 : List Span) (a1_0 : Span) : Option Int :=
  loopN (fun (s : Int) => slices_IndexFunc_Span_episode_there_c1_l0 a0 a1_0 s) Fu 0
set_option maxRecDepth 100000 in
set_option maxHeartbeats 8000000 in
/-- slices.IndexFunc[[]gleaning/api.Span,gleaning/api.Span] -/
theorem slices_IndexFunc_Span_episode_there_c1_ok (a0 : List Span) (a1_0 : Span) {r : Int} (h : slices_IndexFunc_Span_episode_there_c1 a0 a1_0 = some r) : Ok Try.prog 72 [.sl 10 (List.map enc30 a0), .fn 63 [.rptr [.int .u64 a1_0.Trace.Hi, .int .u64 a1_0.Trace.Lo, .int .u64 a1_0.Id, .int .u64 a1_0.Parent, .str a1_0.Service, .str a1_0.Op, .int .i64 a1_0.Start, .int .i64 a1_0.Dur, .bool a1_0.Err, .sl 2 (List.map enc68 a1_0.Attrs)]]] [] [] (.int .i64 r) [] [] := by
  unfold slices_IndexFunc_Span_episode_there_c1 at h
  refine ok_of_code Try.func72 rfl (by show (2 : Nat) ≤ _; decide) (Nat.le_refl _) fun X => ?_
  refine aw_seq_k (fun K1 hK1 => ?_)
  refine aw_regL ?_
  refine alP (some 4) rfl rfl (does_assign (v := .int .i64 0) (by exact rfl)) (by decide) ?_
  refine al_nil ?_
  refine hK1 _ ?_
  refine aw_seq_k (fun K2 hK2 => ?_)
  refine aw_seq_k (fun K3 hK3 => ?_)
  refine aw_regL ?_
  refine alP (some 6) rfl rfl (does_move (v := .sl 10 (List.map enc30 a0)) (by exact rfl)) (by decide) ?_
  refine alP (some 7) rfl rfl ((does_len_sl (by conv => lhs; whnf) ty26).castp (v' := .int .i64 (List.length a0 : Int)) (by exact len_map _)) (by decide) ?_
  refine alP (some 8) rfl rfl (does_move (v := .int .i64 0) (by exact rfl)) (by decide) ?_
  refine al_nil ?_
  refine hK3 _ ?_
  refine aw_block ?_
  refine aw_loop' (fun m s => ∃ (v8_0 : Int), loopN (fun (s : Int) => slices_IndexFunc_Span_episode_there_c1_l0 a0 a1_0 s) m v8_0 = some r ∧ s = lit [(0, .sl 10 (List.map enc30 a0)), (1, .fn 63 [.rptr [.int .u64 a1_0.Trace.Hi, .int .u64 a1_0.Trace.Lo, .int .u64 a1_0.Id, .int .u64 a1_0.Parent, .str a1_0.Service, .str a1_0.Op, .int .i64 a1_0.Start, .int .i64 a1_0.Dur, .bool a1_0.Err, .sl 2 (List.map enc68 a1_0.Attrs)]]), (7, .int .i64 (List.length a0 : Int)), (8, .int .i64 v8_0)] [] [] X) Fu
    ⟨_, reb_lit [(0, .sl 10 (List.map enc30 a0)), (1, .fn 63 [.rptr [.int .u64 a1_0.Trace.Hi, .int .u64 a1_0.Trace.Lo, .int .u64 a1_0.Id, .int .u64 a1_0.Parent, .str a1_0.Service, .str a1_0.Op, .int .i64 a1_0.Start, .int .i64 a1_0.Dur, .bool a1_0.Err, .sl 2 (List.map enc68 a1_0.Attrs)]]), (7, .int .i64 (List.length a0 : Int)), (8, .int .i64 (0))] [] [] [] (envOk_cons (by conv => lhs; whnf) (by exact rfl) (envOk_cons (by conv => lhs; whnf) (by exact rfl) (envOk_cons (by conv => lhs; whnf) (by exact rfl) (envOk_cons (by conv => lhs; whnf) (by exact rfl) envOk_nil)))) objOk_nil (nodup_b rfl) (nodup_b rfl) rfl rfl, 0, h, rfl⟩ ?_
  rintro m s ⟨v8_0, h, rfl⟩
  obtain ⟨m0, q4, rfl, h, hq5⟩ := loop_some h
  replace h : slices_IndexFunc_Span_episode_there_c1_l0 a0 a1_0 v8_0 = some q4 := h
  unfold slices_IndexFunc_Span_episode_there_c1_l0 at h
  refine aw_seq_k (fun K6 hK6 => ?_)
  refine aw_regL ?_
  refine alP (some 9) rfl rfl (does_bin (v := .bool (decide (v8_0 < (List.length a0 : Int)))) (by conv => lhs; whnf) (by conv => lhs; whnf) rfl) (by decide) ?_
  refine al_nil ?_
  refine hK6 _ ?_
  refine aw_seq_k (fun K7 hK7 => ?_)
  refine aw_bool (b := (decide (v8_0 < (List.length a0 : Int)))) 9 rfl (fun c8 => ?_) (fun c8 => ?_)
  · have h := ifT c8 h
    refine aw_cond_t (by decide) rfl ?_
    refine aw_skip ?_
    refine hK7 _ ?_
    refine aw_seq_k (fun K9 hK9 => ?_)
    refine aw_block ?_
    refine aw_seq_k (fun K10 hK10 => ?_)
    refine aw_regL ?_
    refine alP (some 10) rfl rfl (does_move (v := .int .i64 v8_0) (by exact rfl)) (by decide) ?_
    refine alP (some 5) rfl rfl (does_assign (v := .int .i64 v8_0) (by exact rfl)) (by decide) ?_
    refine al_nil ?_
    refine hK10 _ ?_
    refine aw_seq_k (fun K11 hK11 => ?_)
    refine aw_regL ?_
    refine alP (some 11) rfl rfl (does_move (v := .fn 63 [.rptr [.int .u64 a1_0.Trace.Hi, .int .u64 a1_0.Trace.Lo, .int .u64 a1_0.Id, .int .u64 a1_0.Parent, .str a1_0.Service, .str a1_0.Op, .int .i64 a1_0.Start, .int .i64 a1_0.Dur, .bool a1_0.Err, .sl 2 (List.map enc68 a1_0.Attrs)]]) (by exact rfl)) (by decide) ?_
    refine alP (some 12) rfl rfl (does_move (v := .sl 10 (List.map enc30 a0)) (by exact rfl)) (by decide) ?_
    refine alP (some 13) rfl rfl (does_move (v := .int .i64 v8_0) (by exact rfl)) (by decide) ?_
    obtain ⟨g12, h⟩ := gd_some h
    obtain ⟨x13, hx13, h⟩ := bnd_some h
    refine alP (some 14) rfl rfl (does_indexAddr_sl (el := .agg [.int .u64 x13.Trace.Hi, .int .u64 x13.Trace.Lo, .int .u64 x13.Id, .int .u64 x13.Parent, .str x13.Service, .str x13.Op, .int .i64 x13.Start, .int .i64 x13.Dur, .bool x13.Err, .sl 2 (List.map enc68 x13.Attrs)]) (by conv => lhs; whnf) (by conv => lhs; whnf) ty26 ty31 g12 (by exact map_get hx13)) (by decide) ?_
    refine alR (some 15) rfl rfl (does_load (v := .agg [.int .u64 x13.Trace.Hi, .int .u64 x13.Trace.Lo, .int .u64 x13.Id, .int .u64 x13.Parent, .str x13.Service, .str x13.Op, .int .i64 x13.Start, .int .i64 x13.Dur, .bool x13.Err, .sl 2 (List.map enc68 x13.Attrs)]) (by conv => lhs; whnf) (by conv => lhs; whnf) ty31 (by exact rfl)) (by decide) ?_
    obtain ⟨x14, hx14, h⟩ := bnd_some h
    refine alD (some 16) rfl rfl (do_call0 16 false (episode_there_c1_ok x13 a1_0 hx14) rfl ent63 rfl rfl) (by decide) ?_
    refine al_nil ?_
    refine hK11 _ ?_
    refine aw_bool (b := x14) 16 rfl (fun c15 => ?_) (fun c15 => ?_)
    · have h := ifT c15 h
      refine aw_cond_t (by decide) rfl ?_
      refine aw_seq_k (fun K16 hK16 => ?_)
      refine aw_regL ?_
      refine alP (some 17) rfl rfl (does_move (v := .int .i64 v8_0) (by exact rfl)) (by decide) ?_
      refine alP (some 4) rfl rfl (does_assign (v := .int .i64 v8_0) (by exact rfl)) (by decide) ?_
      refine al_nil ?_
      refine hK16 _ ?_
      refine aw_ret ?_
      have h := leafR h hq5
      obtain rfl := Option.some.inj h
      exact ret_ok1 (by conv => lhs; whnf) (by conv => lhs; whnf) (by exact rfl) (.inr rfl) rfl
    · have h := ifF c15 h
      refine aw_cond_f (by decide) rfl ?_
      refine aw_skip ?_
      refine hK9 _ ?_
      refine aw_regL ?_
      refine alP (some 18) rfl rfl (does_bin (v := .int .i64 (IntKind.i64.wrap (v8_0 + 1))) (by conv => lhs; whnf) (by conv => lhs; whnf) rfl) (by decide) ?_
      refine alP (some 8) rfl rfl (does_move (v := .int .i64 (IntKind.i64.wrap (v8_0 + 1))) (by exact rfl)) (by decide) ?_
      refine al_nil ?_
      have h := leafL h hq5
      exact ⟨m0, Nat.lt_succ_self _, _, reb_lit [(0, .sl 10 (List.map enc30 a0)), (1, .fn 63 [.rptr [.int .u64 a1_0.Trace.Hi, .int .u64 a1_0.Trace.Lo, .int .u64 a1_0.Id, .int .u64 a1_0.Parent, .str a1_0.Service, .str a1_0.Op, .int .i64 a1_0.Start, .int .i64 a1_0.Dur, .bool a1_0.Err, .sl 2 (List.map enc68 a1_0.Attrs)]]), (7, .int .i64 (List.length a0 : Int)), (8, .int .i64 (IntKind.i64.wrap (v8_0 + 1)))] [] [] [] (envOk_cons (by conv => lhs; whnf) (by exact rfl) (envOk_cons (by conv => lhs; whnf) (by exact rfl) (envOk_cons (by conv => lhs; whnf) (by exact rfl) (envOk_cons (by conv => lhs; whnf) (by exact rfl) envOk_nil)))) objOk_nil (nodup_b rfl) (nodup_b rfl) rfl rfl, (IntKind.i64.wrap (v8_0 + 1)), h, rfl⟩
  · have h := ifF c8 h
    refine aw_cond_f (by decide) rfl ?_
    refine aw_exit ?_
    have h := leafR h hq5
    refine hK2 _ ?_
    refine aw_seq_k (fun K17 hK17 => ?_)
    refine aw_regL ?_
    refine alP (some 4) rfl rfl (does_assign (v := .int .i64 (-1)) (by exact rfl)) (by decide) ?_
    refine al_nil ?_
    refine hK17 _ ?_
    refine aw_ret ?_
    obtain rfl := Option.some.inj h
    exact ret_ok1 (by conv => lhs; whnf) (by conv => lhs; whnf) (by exact rfl) (.inr rfl) rfl
def slices_ContainsFunc_Span_episode_there_c1 (a0 : List Span) (a1_0 : Span) : Option Bool :=
  Option.bind (slices_IndexFunc_Span_episode_there_c1 a0 a1_0) (fun (x3 : Int) => some (decide ((0 : Int) ≤ x3)))
set_option maxRecDepth 100000 in
set_option maxHeartbeats 8000000 in
/-- slices.ContainsFunc[[]gleaning/api.Span,gleaning/api.Span] -/
theorem slices_ContainsFunc_Span_episode_there_c1_ok (a0 : List Span) (a1_0 : Span) {r : Bool} (h : slices_ContainsFunc_Span_episode_there_c1 a0 a1_0 = some r) : Ok Try.prog 62 [.sl 10 (List.map enc30 a0), .fn 63 [.rptr [.int .u64 a1_0.Trace.Hi, .int .u64 a1_0.Trace.Lo, .int .u64 a1_0.Id, .int .u64 a1_0.Parent, .str a1_0.Service, .str a1_0.Op, .int .i64 a1_0.Start, .int .i64 a1_0.Dur, .bool a1_0.Err, .sl 2 (List.map enc68 a1_0.Attrs)]]] [] [] (.bool r) [] [] := by
  unfold slices_ContainsFunc_Span_episode_there_c1 at h
  refine ok_of_code Try.func62 rfl (by show (2 : Nat) ≤ _; decide) (Nat.le_refl _) fun X => ?_
  refine aw_seq_k (fun K1 hK1 => ?_)
  refine aw_regL ?_
  refine alP (some 4) rfl rfl (does_assign (v := .bool false) (by exact rfl)) (by decide) ?_
  refine al_nil ?_
  refine hK1 _ ?_
  refine aw_seq_k (fun K2 hK2 => ?_)
  refine aw_regL ?_
  refine alP (some 5) rfl rfl (does_move (v := .sl 10 (List.map enc30 a0)) (by exact rfl)) (by decide) ?_
  refine alP (some 6) rfl rfl (does_move (v := .fn 63 [.rptr [.int .u64 a1_0.Trace.Hi, .int .u64 a1_0.Trace.Lo, .int .u64 a1_0.Id, .int .u64 a1_0.Parent, .str a1_0.Service, .str a1_0.Op, .int .i64 a1_0.Start, .int .i64 a1_0.Dur, .bool a1_0.Err, .sl 2 (List.map enc68 a1_0.Attrs)]]) (by exact rfl)) (by decide) ?_
  obtain ⟨x3, hx3, h⟩ := bnd_some h
  refine alD (some 7) rfl rfl (do_call0 7 false (slices_IndexFunc_Span_episode_there_c1_ok a0 a1_0 hx3) rfl ent72 rfl rfl) (by decide) ?_
  refine alP (some 8) rfl rfl (does_bin (v := .bool (decide ((0 : Int) ≤ x3))) (by conv => lhs; whnf) (by conv => lhs; whnf) rfl) (by decide) ?_
  refine alP (some 4) rfl rfl (does_assign (v := .bool (decide ((0 : Int) ≤ x3))) (by exact rfl)) (by decide) ?_
  refine al_nil ?_
  refine hK2 _ ?_
  refine aw_ret ?_
  obtain rfl := Option.some.inj h
  exact ret_ok1 (by conv => lhs; whnf) (by conv => lhs; whnf) (by exact rfl) (.inr rfl) rfl
def episode_there (a0 : List Span) (a1 : Span) : Option Bool :=
  Option.bind (slices_ContainsFunc_Span_episode_there_c1 a0 a1) (fun (x3 : Bool) => some x3)
set_option maxRecDepth 100000 in
set_option maxHeartbeats 8000000 in
/-- gleaning/episode.there -/
theorem episode_there_ok (a0 : List Span) (a1 : Span) {r : Bool} (h : episode_there a0 a1 = some r) : Ok Try.prog 44 [.sl 10 (List.map enc30 a0), .agg [.int .u64 a1.Trace.Hi, .int .u64 a1.Trace.Lo, .int .u64 a1.Id, .int .u64 a1.Parent, .str a1.Service, .str a1.Op, .int .i64 a1.Start, .int .i64 a1.Dur, .bool a1.Err, .sl 2 (List.map enc68 a1.Attrs)]] [] [] (.bool r) [] [] := by
  unfold episode_there at h
  refine ok_of_code Try.func44 rfl (by show (2 : Nat) ≤ _; decide) (Nat.le_refl _) fun X => ?_
  refine aw_seq_k (fun K1 hK1 => ?_)
  refine aw_regL ?_
  refine alD (some 3) rfl rfl (do_box (by conv => lhs; whnf) rfl rfl) (by decide) ?_
  refine alP (some 4) rfl rfl (does_assign (v := .bool false) (by exact rfl)) (by decide) ?_
  refine al_nil ?_
  refine hK1 _ ?_
  refine aw_seq_k (fun K2 hK2 => ?_)
  refine aw_regL ?_
  refine alP (some 5) rfl rfl (does_move (v := .sl 10 (List.map enc30 a0)) (by exact rfl)) (by decide) ?_
  refine alP (some 6) rfl rfl (does_makeFunc (vs := [.ptr 3 0 0]) rfl) (by decide) ?_
  obtain ⟨x3, hx3, h⟩ := bnd_some h
  refine alD (some 7) rfl rfl (do_callG (bcs := []) [] [] [(3, 0)] 7 false (slices_ContainsFunc_Span_episode_there_c1_ok a0 a1 hx3) rfl ent62 trivial trivial rfl rfl rfl rfl rfl rfl rfl rfl (.inr ⟨rfl, rfl, trivial⟩)) (by decide) ?_
  refine alP (some 4) rfl rfl (does_assign (v := .bool x3) (by exact rfl)) (by decide) ?_
  refine al_nil ?_
  refine hK2 _ ?_
  refine aw_ret ?_
  obtain rfl := Option.some.inj h
  exact ret_ok1 (by conv => lhs; whnf) (by conv => lhs; whnf) (by exact rfl) (.inr rfl) rfl
def episode_Add (a0 : Episode) (a1 : Span) (a2 : Int) : Option (Episode × Bool) :=
  Option.bind (episode_Copy a0) (fun (x3 : Episode) => if (!((a1.Trace.Hi == x3.Trace.Hi) && ((a1.Trace.Lo == x3.Trace.Lo) && true))) = true then (some (x3, false)) else (Option.bind (episode_there x3.Spans a1) (fun (x11 : Bool) => if x11 = true then (some ((Episode.mk x3.Trace x3.First a2 x3.Sure x3.Spans), false)) else (Option.bind (span_Copy [a1]) (fun (x15 : List Span) => gd ((List.length (x3.Spans ++ x15)) * 112 ≤ 140737488355328 ∧ (List.length (x3.Spans ++ x15)) ≤ 140737488355328) (some ((Episode.mk x3.Trace x3.First a2 x3.Sure (x3.Spans ++ x15)), true)))))))
set_option maxRecDepth 100000 in
set_option maxHeartbeats 8000000 in
/-- gleaning/episode.Add -/
theorem episode_Add_ok (a0 : Episode) (a1 : Span) (a2 : Int) {r : Episode × Bool} (h : episode_Add a0 a1 a2 = some r) : Ok Try.prog 18 [.agg [.int .u64 a0.Trace.Hi, .int .u64 a0.Trace.Lo, .int .i64 a0.First, .int .i64 a0.Last, .bool a0.Sure, .sl 10 (List.map enc30 a0.Spans)], .agg [.int .u64 a1.Trace.Hi, .int .u64 a1.Trace.Lo, .int .u64 a1.Id, .int .u64 a1.Parent, .str a1.Service, .str a1.Op, .int .i64 a1.Start, .int .i64 a1.Dur, .bool a1.Err, .sl 2 (List.map enc68 a1.Attrs)], .int .i64 a2] [] [] (.tup [.agg [.int .u64 r.1.Trace.Hi, .int .u64 r.1.Trace.Lo, .int .i64 r.1.First, .int .i64 r.1.Last, .bool r.1.Sure, .own 2 0], .bool r.2]) [] [(31, 10, List.map enc30 r.1.Spans)] := by
  unfold episode_Add at h
  refine ok_of_code Try.func18 rfl (by show (3 : Nat) ≤ _; decide) (Nat.le_refl _) fun X => ?_
  refine aw_seq_k (fun K1 hK1 => ?_)
  refine aw_regL ?_
  refine alD (some 3) rfl rfl (do_box (by conv => lhs; whnf) rfl rfl) (by decide) ?_
  refine alD (some 4) rfl rfl (do_box (by conv => lhs; whnf) rfl rfl) (by decide) ?_
  refine alD (some 6) rfl rfl (do_new ty28 rfl rfl) (by decide) ?_
  refine alP (some 7) rfl rfl (does_assign (v := .bool false) (by exact rfl)) (by decide) ?_
  refine al_nil ?_
  refine hK1 _ ?_
  refine aw_seq_k (fun K2 hK2 => ?_)
  refine aw_regL ?_
  refine alR (some 8) rfl rfl (does_load (v := .agg [.int .u64 a0.Trace.Hi, .int .u64 a0.Trace.Lo, .int .i64 a0.First, .int .i64 a0.Last, .bool a0.Sure, .sl 10 (List.map enc30 a0.Spans)]) (by conv => lhs; whnf) (by conv => lhs; whnf) ty28 (by exact rfl)) (by decide) ?_
  obtain ⟨x3, hx3, h⟩ := bnd_some h
  refine alD (some 9) rfl rfl (do_call0 9 false (episode_Copy_ok a0 hx3) rfl ent43 rfl rfl) (by decide) ?_
  refine alD none rfl rfl (do_store (cs' := [.int .u64 x3.Trace.Hi, .int .u64 x3.Trace.Lo, .int .i64 x3.First, .int .i64 x3.Last, .bool x3.Sure, .own 9 0]) (by conv => lhs; whnf) (by conv => lhs; whnf) (by conv => lhs; whnf) ty28 rfl rfl rfl (by exact rfl)) (by decide) ?_
  refine al_nil ?_
  refine hK2 _ ?_
  refine aw_seq_k (fun K4 hK4 => ?_)
  refine aw_seq_k (fun K5 hK5 => ?_)
  refine aw_regL ?_
  refine alP (some 10) rfl rfl (does_fieldAddr (q := .ptr 4 0 0) (by conv => lhs; whnf) ty31 rfl ty25 (by decide) (by exact rfl)) (by decide) ?_
  refine alR (some 11) rfl rfl (does_load (v := .agg [.int .u64 a1.Trace.Hi, .int .u64 a1.Trace.Lo]) (by conv => lhs; whnf) (by conv => lhs; whnf) ty25 (by exact rfl)) (by decide) ?_
  refine alP (some 12) rfl rfl (does_fieldAddr (q := .ptr 3 0 0) (by conv => lhs; whnf) ty28 rfl ty25 (by decide) (by exact rfl)) (by decide) ?_
  refine alR (some 13) rfl rfl (does_load (v := .agg [.int .u64 x3.Trace.Hi, .int .u64 x3.Trace.Lo]) (by conv => lhs; whnf) (by conv => lhs; whnf) ty25 (by exact rfl)) (by decide) ?_
  refine alP (some 14) rfl rfl (does_eq_struct (v := .bool (!((a1.Trace.Hi == x3.Trace.Hi) && ((a1.Trace.Lo == x3.Trace.Lo) && true)))) (by conv => lhs; whnf) (by conv => lhs; whnf) fk25 rfl ag25 eg25 (by conv => lhs; whnf) rfl) (by decide) ?_
  refine al_nil ?_
  refine hK5 _ ?_
  refine aw_bool (b := (!((a1.Trace.Hi == x3.Trace.Hi) && ((a1.Trace.Lo == x3.Trace.Lo) && true)))) 14 rfl (fun c6 => ?_) (fun c6 => ?_)
  · have h := ifT c6 h
    refine aw_cond_t (by decide) rfl ?_
    refine aw_seq_k (fun K7 hK7 => ?_)
    refine aw_regL ?_
    refine alR (some 15) rfl rfl (does_load (v := .agg [.int .u64 x3.Trace.Hi, .int .u64 x3.Trace.Lo, .int .i64 x3.First, .int .i64 x3.Last, .bool x3.Sure, .own 9 0]) (by conv => lhs; whnf) (by conv => lhs; whnf) ty28 (by exact rfl)) (by decide) ?_
    refine alD none rfl rfl (do_store (cs' := [.int .u64 x3.Trace.Hi, .int .u64 x3.Trace.Lo, .int .i64 x3.First, .int .i64 x3.Last, .bool x3.Sure, .own 9 0]) (by conv => lhs; whnf) (by conv => lhs; whnf) (by conv => lhs; whnf) ty28 rfl rfl rfl (by exact rfl)) (by decide) ?_
    refine alP (some 7) rfl rfl (does_assign (v := .bool false) (by exact rfl)) (by decide) ?_
    refine al_nil ?_
    refine hK7 _ ?_
    refine aw_ret ?_
    obtain rfl := Option.some.inj h
    exact ret_okR [(9, 0)] (by conv => lhs; whnf) (by conv => lhs; whnf) (by exact rfl) (rowsOk_cons (by conv => lhs; whnf) (by exact rfl) trivial) (nodup_b rfl) (.inr rfl) rfl
  · have h := ifF c6 h
    refine aw_cond_f (by decide) rfl ?_
    refine aw_skip ?_
    refine hK4 _ ?_
    refine aw_seq_k (fun K8 hK8 => ?_)
    refine aw_regL ?_
    refine alP (some 16) rfl rfl (does_move (v := .int .i64 a2) (by exact rfl)) (by decide) ?_
    refine alP (some 17) rfl rfl (does_fieldAddr (q := .ptr 3 0 3) (by conv => lhs; whnf) ty28 rfl ty3 (by decide) (by exact rfl)) (by decide) ?_
    refine alD none rfl rfl (do_store (cs' := [.int .u64 x3.Trace.Hi, .int .u64 x3.Trace.Lo, .int .i64 x3.First, .int .i64 a2, .bool x3.Sure, .own 9 0]) (by conv => lhs; whnf) (by conv => lhs; whnf) (by conv => lhs; whnf) ty3 rfl rfl rfl (by exact rfl)) (by decide) ?_
    refine al_nil ?_
    refine hK8 _ ?_
    refine aw_seq_k (fun K9 hK9 => ?_)
    refine aw_seq_k (fun K10 hK10 => ?_)
    refine aw_regL ?_
    refine alP (some 18) rfl rfl (does_fieldAddr (q := .ptr 3 0 5) (by conv => lhs; whnf) ty28 rfl ty26 (by decide) (by exact rfl)) (by decide) ?_
    refine alR (some 19) rfl rfl (does_load (v := .own 9 0) (by conv => lhs; whnf) (by conv => lhs; whnf) ty26 (by exact rfl)) (by decide) ?_
    refine alR (some 20) rfl rfl (does_load (v := .agg [.int .u64 a1.Trace.Hi, .int .u64 a1.Trace.Lo, .int .u64 a1.Id, .int .u64 a1.Parent, .str a1.Service, .str a1.Op, .int .i64 a1.Start, .int .i64 a1.Dur, .bool a1.Err, .sl 2 (List.map enc68 a1.Attrs)]) (by conv => lhs; whnf) (by conv => lhs; whnf) ty31 (by exact rfl)) (by decide) ?_
    obtain ⟨x11, hx11, h⟩ := bnd_some h
    refine alD (some 21) rfl rfl (do_callG (bcs := []) [] [] [(9, 0)] 21 false (episode_there_ok x3.Spans a1 hx11) rfl ent44 trivial trivial rfl rfl rfl rfl rfl rfl rfl rfl (.inr ⟨rfl, rfl, trivial⟩)) (by decide) ?_
    refine al_nil ?_
    refine hK10 _ ?_
    refine aw_bool (b := x11) 21 rfl (fun c12 => ?_) (fun c12 => ?_)
    · have h := ifT c12 h
      refine aw_cond_t (by decide) rfl ?_
      refine aw_seq_k (fun K13 hK13 => ?_)
      refine aw_regL ?_
      refine alR (some 22) rfl rfl (does_load (v := .agg [.int .u64 x3.Trace.Hi, .int .u64 x3.Trace.Lo, .int .i64 x3.First, .int .i64 a2, .bool x3.Sure, .own 9 0]) (by conv => lhs; whnf) (by conv => lhs; whnf) ty28 (by exact rfl)) (by decide) ?_
      refine alD none rfl rfl (do_store (cs' := [.int .u64 x3.Trace.Hi, .int .u64 x3.Trace.Lo, .int .i64 x3.First, .int .i64 a2, .bool x3.Sure, .own 9 0]) (by conv => lhs; whnf) (by conv => lhs; whnf) (by conv => lhs; whnf) ty28 rfl rfl rfl (by exact rfl)) (by decide) ?_
      refine alP (some 7) rfl rfl (does_assign (v := .bool false) (by exact rfl)) (by decide) ?_
      refine al_nil ?_
      refine hK13 _ ?_
      refine aw_ret ?_
      obtain rfl := Option.some.inj h
      exact ret_okR [(9, 0)] (by conv => lhs; whnf) (by conv => lhs; whnf) (by exact rfl) (rowsOk_cons (by conv => lhs; whnf) (by exact rfl) trivial) (nodup_b rfl) (.inr rfl) rfl
    · have h := ifF c12 h
      refine aw_cond_f (by decide) rfl ?_
      refine aw_skip ?_
      refine hK9 _ ?_
      refine aw_seq_k (fun K14 hK14 => ?_)
      refine aw_regd (by kernel_rfl) (by decide +kernel) ?_
      refine aoP (some 23) rfl rfl (does_fieldAddr (q := .ptr 3 0 5) (by conv => lhs; whnf) ty28 rfl ty26 (by decide) (by exact rfl)) (by decide) ?_
      refine aoR (some 24) rfl rfl (does_load (v := .own 9 0) (by conv => lhs; whnf) (by conv => lhs; whnf) ty26 (by exact rfl)) (by decide) ?_
      refine aoR (some 25) rfl rfl (does_load (v := .agg [.int .u64 a1.Trace.Hi, .int .u64 a1.Trace.Lo, .int .u64 a1.Id, .int .u64 a1.Parent, .str a1.Service, .str a1.Op, .int .i64 a1.Start, .int .i64 a1.Dur, .bool a1.Err, .sl 2 (List.map enc68 a1.Attrs)]) (by conv => lhs; whnf) (by conv => lhs; whnf) ty31 (by exact rfl)) (by decide) ?_
      refine aoD (some 26) rfl rfl (do_buildSlice (xs := List.map enc30 [a1]) ty26 ty31 rfl rfl rfl rfl rfl rfl rfl rfl) (by decide) ?_
      obtain ⟨x15, hx15, h⟩ := bnd_some h
      refine aoD (some 27) rfl rfl (does_frz (d := 26) (n := 0) (by conv => lhs; whnf) (do_callG (bcs := []) [] [] [(26, 0)] 27 false (span_Copy_ok [a1] hx15) rfl ent45 trivial trivial rfl rfl rfl rfl rfl rfl rfl rfl (.inl ⟨⟨_, _, _, rfl⟩, trivial⟩))) (by decide) ?_
      obtain ⟨g16, h⟩ := gd_some h
      refine aoD (some 28) rfl rfl (do_append (v := List.map enc30 (x3.Spans ++ x15)) (by conv => lhs; whnf) (by conv => lhs; whnf) ty26 ty31 rfl rfl (by conv => lhs; whnf) (by first | exact .inl rfl | exact .inr ⟨rfl, rfl⟩) (by conv => lhs; whnf) (by first | exact .inr rfl | exact .inl rfl) (map_app _ _) (fit_map g16)) (by decide) ?_
      refine aoP (some 29) rfl rfl (does_fieldAddr (q := .ptr 3 0 5) (by conv => lhs; whnf) ty28 rfl ty26 (by decide) (by exact rfl)) (by decide) ?_
      refine aoD none rfl rfl (do_store (cs' := [.int .u64 x3.Trace.Hi, .int .u64 x3.Trace.Lo, .int .i64 x3.First, .int .i64 a2, .bool x3.Sure, .own 28 0]) (by conv => lhs; whnf) (by conv => lhs; whnf) (by conv => lhs; whnf) ty26 rfl rfl rfl (by exact rfl)) (by decide) ?_
      refine ao_nil_d (by kernel_rfl) ?_
      refine hK14 _ ?_
      refine aw_seq_k (fun K17 hK17 => ?_)
      refine aw_regL ?_
      refine alR (some 30) rfl rfl (does_load (v := .agg [.int .u64 x3.Trace.Hi, .int .u64 x3.Trace.Lo, .int .i64 x3.First, .int .i64 a2, .bool x3.Sure, .own 28 0]) (by conv => lhs; whnf) (by conv => lhs; whnf) ty28 (by exact rfl)) (by decide) ?_
      refine alD none rfl rfl (do_store (cs' := [.int .u64 x3.Trace.Hi, .int .u64 x3.Trace.Lo, .int .i64 x3.First, .int .i64 a2, .bool x3.Sure, .own 28 0]) (by conv => lhs; whnf) (by conv => lhs; whnf) (by conv => lhs; whnf) ty28 rfl rfl rfl (by exact rfl)) (by decide) ?_
      refine alP (some 7) rfl rfl (does_assign (v := .bool true) (by exact rfl)) (by decide) ?_
      refine al_nil ?_
      refine hK17 _ ?_
      refine aw_ret ?_
      obtain rfl := Option.some.inj h
      exact ret_okR [(28, 0)] (by conv => lhs; whnf) (by conv => lhs; whnf) (by exact rfl) (rowsOk_cons (by conv => lhs; whnf) (by exact rfl) trivial) (nodup_b rfl) (.inr rfl) rfl
def episode_Spans_l2 (v12_1 : Int) (x14 : Episode) (v5_s_2 : List Span) (v23_2 : Int) : Option ((List Span × Int) ⊕ ((List Span × Int) ⊕ (List Span))) :=
  if (decide (v23_2 < (List.length x14.Spans : Int))) = true then (gd (0 ≤ v23_2) (Option.bind (x14.Spans[(Int.toNat v23_2)]?) (fun (x27 : Span) => Option.bind (episode_there v5_s_2 x27) (fun (x29 : Bool) => if (!x29) = true then (gd ((List.length (v5_s_2 ++ [x27])) * 112 ≤ 140737488355328 ∧ (List.length (v5_s_2 ++ [x27])) ≤ 140737488355328) (some (Sum.inl ((v5_s_2 ++ [x27]), (IntKind.i64.wrap (v23_2 + 1)))))) else (some (Sum.inl (v5_s_2, (IntKind.i64.wrap (v23_2 + 1))))))))) else (some (Sum.inr (Sum.inl (v5_s_2, (IntKind.i64.wrap (v12_1 + 1))))))
def episode_Spans_l1 (a0 : List Episode) (a1 : Trace) (v5_s_1 : List Span) (v12_1 : Int) : Option ((List Span × Int) ⊕ (List Span)) :=
  if (decide (v12_1 < (List.length a0 : Int))) = true then (gd (0 ≤ v12_1) (Option.bind (a0[(Int.toNat v12_1)]?) (fun (x14 : Episode) => if (!((x14.Trace.Hi == a1.Hi) && ((x14.Trace.Lo == a1.Lo) && true))) = true then (some (Sum.inl (v5_s_1, (IntKind.i64.wrap (v12_1 + 1))))) else (loopN (fun (s : List Span × Int) => episode_Spans_l2 v12_1 x14 s.1 s.2) Fu (v5_s_1, 0))))) else (some (Sum.inr v5_s_1))
def episode_Spans_k0 (v5_s_0 : List Span) : Option (List Span) :=
  Option.bind (span_Copy v5_s_0) (fun (x33 : List Span) => some x33)
def episode_Spans (a0 : List Episode) (a1 : Trace) : Option (List Span) :=
  Option.bind (loopN (fun (s : List Span × Int) => episode_Spans_l1 a0 a1 s.1 s.2) Fu ([], 0)) (fun (s : List Span) => episode_Spans_k0 s)
set_option maxRecDepth 100000 in
set_option maxHeartbeats 8000000 in
/-- gleaning/episode.Spans -/
theorem episode_Spans_ok (a0 : List Episode) (a1 : Trace) {r : List Span} (h : episode_Spans a0 a1 = some r) : Ok Try.prog 22 [.sl 6 (List.map enc27 a0), .agg [.int .u64 a1.Hi, .int .u64 a1.Lo]] [] [] (.own 2 0) [] [(31, 10, List.map enc30 r)] := by
  unfold episode_Spans at h
  refine ok_of_code Try.func22 rfl (by show (2 : Nat) ≤ _; decide) (Nat.le_refl _) fun X => ?_
  refine aw_seq_k (fun K1 hK1 => ?_)
  refine aw_regL ?_
  refine alD (some 3) rfl rfl (do_box (by conv => lhs; whnf) rfl rfl) (by decide) ?_
  refine alP (some 4) rfl rfl (does_assign (v := .nil) (by exact rfl)) (by decide) ?_
  refine al_nil ?_
  refine hK1 _ ?_
  refine aw_seq_k (fun K2 hK2 => ?_)
  refine aw_regL ?_
  refine alP (some 5) rfl rfl (does_assign (v := .nil) (by exact rfl)) (by decide) ?_
  refine al_nil ?_
  refine hK2 _ ?_
  obtain ⟨q3, h, hk4⟩ := bnd_some h
  refine aw_cut (fun s => ∃ (v5_s_0 : List Span), episode_Spans_k0 v5_s_0 = some r ∧ s = lit [(5, .own 5 0)] [((5, 0), .arr 31 10 false (List.map enc30 v5_s_0))] [(5, 1)] X) ?_ ?_
  · skip
    refine aw_seq_k (fun K5 hK5 => ?_)
    refine aw_regL ?_
    refine alP (some 10) rfl rfl (does_move (v := .sl 6 (List.map enc27 a0)) (by exact rfl)) (by decide) ?_
    refine alP (some 11) rfl rfl ((does_len_sl (by conv => lhs; whnf) ty22).castp (v' := .int .i64 (List.length a0 : Int)) (by exact len_map _)) (by decide) ?_
    refine alP (some 12) rfl rfl (does_move (v := .int .i64 0) (by exact rfl)) (by decide) ?_
    refine al_nil ?_
    refine hK5 _ ?_
    refine aw_block ?_
    refine aw_nilOwn 5 31 10 (by conv => lhs; whnf) (by decide) (by decide) ?_
    refine aw_loop' (fun m s => ∃ (v5_s_1 : List Span), ∃ (v12_1 : Int), loopN (fun (s : List Span × Int) => episode_Spans_l1 a0 a1 s.1 s.2) m (v5_s_1, v12_1) = some q3 ∧ s = lit [(3, .ptr 3 0 0), (5, .own 5 0), (10, .sl 6 (List.map enc27 a0)), (11, .int .i64 (List.length a0 : Int)), (12, .int .i64 v12_1)] [((3, 0), .box [.int .u64 a1.Hi, .int .u64 a1.Lo]), ((5, 0), .arr 31 10 false (List.map enc30 v5_s_1))] [(3, 1), (5, 1)] X) Fu
      ⟨_, reb_lit [(3, .ptr 3 0 0), (5, .own 5 0), (10, .sl 6 (List.map enc27 a0)), (11, .int .i64 (List.length a0 : Int)), (12, .int .i64 (0))] [(3, 0), (5, 0)] [((3, 0), .box [.int .u64 a1.Hi, .int .u64 a1.Lo]), ((5, 0), .arr 31 10 false (List.map enc30 []))] [(3, 1), (5, 1)] (envOk_cons (by conv => lhs; whnf) (by exact rfl) (envOk_cons (by conv => lhs; whnf) (by exact rfl) (envOk_cons (by conv => lhs; whnf) (by exact rfl) (envOk_cons (by conv => lhs; whnf) (by exact rfl) (envOk_cons (by conv => lhs; whnf) (by exact rfl) envOk_nil))))) (objOk_cons (by conv => lhs; whnf) (by conv => lhs; whnf) (by exact rfl) (by simp) (objOk_cons (by conv => lhs; whnf) (by conv => lhs; whnf) (by exact rfl) (by simp) objOk_nil)) (nodup_b rfl) (nodup_b rfl) rfl rfl, [], 0, h, rfl⟩ ?_
    rintro m s ⟨v5_s_1, v12_1, h, rfl⟩
    obtain ⟨m1, q6, rfl, h, hq7⟩ := loop_some h
    replace h : episode_Spans_l1 a0 a1 v5_s_1 v12_1 = some q6 := h
    unfold episode_Spans_l1 at h
    refine aw_seq_k (fun K8 hK8 => ?_)
    refine aw_regL ?_
    refine alP (some 13) rfl rfl (does_bin (v := .bool (decide (v12_1 < (List.length a0 : Int)))) (by conv => lhs; whnf) (by conv => lhs; whnf) rfl) (by decide) ?_
    refine al_nil ?_
    refine hK8 _ ?_
    refine aw_seq_k (fun K9 hK9 => ?_)
    refine aw_bool (b := (decide (v12_1 < (List.length a0 : Int)))) 13 rfl (fun c10 => ?_) (fun c10 => ?_)
    · have h := ifT c10 h
      refine aw_cond_t (by decide) rfl ?_
      refine aw_skip ?_
      refine hK9 _ ?_
      refine aw_seq_k (fun K11 hK11 => ?_)
      refine aw_block ?_
      refine aw_seq_k (fun K12 hK12 => ?_)
      refine aw_regL ?_
      obtain ⟨g13, h⟩ := gd_some h
      obtain ⟨x14, hx14, h⟩ := bnd_some h
      refine alP (some 14) rfl rfl (does_indexAddr_sl (el := .agg [.int .u64 x14.Trace.Hi, .int .u64 x14.Trace.Lo, .int .i64 x14.First, .int .i64 x14.Last, .bool x14.Sure, .sl 10 (List.map enc30 x14.Spans)]) (by conv => lhs; whnf) (by conv => lhs; whnf) ty22 ty28 g13 (by exact map_get hx14)) (by decide) ?_
      refine alR (some 15) rfl rfl (does_load (v := .agg [.int .u64 x14.Trace.Hi, .int .u64 x14.Trace.Lo, .int .i64 x14.First, .int .i64 x14.Last, .bool x14.Sure, .sl 10 (List.map enc30 x14.Spans)]) (by conv => lhs; whnf) (by conv => lhs; whnf) ty28 (by exact rfl)) (by decide) ?_
      refine alD (some 7) rfl rfl (do_new ty28 rfl rfl) (by decide) ?_
      refine alD none rfl rfl (do_store (cs' := [.int .u64 x14.Trace.Hi, .int .u64 x14.Trace.Lo, .int .i64 x14.First, .int .i64 x14.Last, .bool x14.Sure, .sl 10 (List.map enc30 x14.Spans)]) (by conv => lhs; whnf) (by conv => lhs; whnf) (by conv => lhs; whnf) ty28 rfl rfl rfl (by exact rfl)) (by decide) ?_
      refine al_nil ?_
      refine hK12 _ ?_
      refine aw_seq_k (fun K15 hK15 => ?_)
      refine aw_seq_k (fun K16 hK16 => ?_)
      refine aw_regL ?_
      refine alP (some 16) rfl rfl (does_fieldAddr (q := .ptr 7 0 0) (by conv => lhs; whnf) ty28 rfl ty25 (by decide) (by exact rfl)) (by decide) ?_
      refine alR (some 17) rfl rfl (does_load (v := .agg [.int .u64 x14.Trace.Hi, .int .u64 x14.Trace.Lo]) (by conv => lhs; whnf) (by conv => lhs; whnf) ty25 (by exact rfl)) (by decide) ?_
      refine alR (some 18) rfl rfl (does_load (v := .agg [.int .u64 a1.Hi, .int .u64 a1.Lo]) (by conv => lhs; whnf) (by conv => lhs; whnf) ty25 (by exact rfl)) (by decide) ?_
      refine alP (some 19) rfl rfl (does_eq_struct (v := .bool (!((x14.Trace.Hi == a1.Hi) && ((x14.Trace.Lo == a1.Lo) && true)))) (by conv => lhs; whnf) (by conv => lhs; whnf) fk25 rfl ag25 eg25 (by conv => lhs; whnf) rfl) (by decide) ?_
      refine al_nil ?_
      refine hK16 _ ?_
      refine aw_bool (b := (!((x14.Trace.Hi == a1.Hi) && ((x14.Trace.Lo == a1.Lo) && true)))) 19 rfl (fun c17 => ?_) (fun c17 => ?_)
      · have h := ifT c17 h
        refine aw_cond_t (by decide) rfl ?_
        refine aw_exit ?_
        refine hK11 _ ?_
        refine aw_regL ?_
        refine alP (some 36) rfl rfl (does_bin (v := .int .i64 (IntKind.i64.wrap (v12_1 + 1))) (by conv => lhs; whnf) (by conv => lhs; whnf) rfl) (by decide) ?_
        refine alP (some 12) rfl rfl (does_move (v := .int .i64 (IntKind.i64.wrap (v12_1 + 1))) (by exact rfl)) (by decide) ?_
        refine al_nil ?_
        have h := leafL h hq7
        exact ⟨m1, Nat.lt_succ_self _, _, reb_lit [(3, .ptr 3 0 0), (5, .own 5 0), (10, .sl 6 (List.map enc27 a0)), (11, .int .i64 (List.length a0 : Int)), (12, .int .i64 (IntKind.i64.wrap (v12_1 + 1)))] [(3, 0), (5, 0)] [((3, 0), .box [.int .u64 a1.Hi, .int .u64 a1.Lo]), ((5, 0), .arr 31 10 false (List.map enc30 v5_s_1))] [(3, 1), (5, 1)] (envOk_cons (by conv => lhs; whnf) (by exact rfl) (envOk_cons (by conv => lhs; whnf) (by exact rfl) (envOk_cons (by conv => lhs; whnf) (by exact rfl) (envOk_cons (by conv => lhs; whnf) (by exact rfl) (envOk_cons (by conv => lhs; whnf) (by exact rfl) envOk_nil))))) (objOk_cons (by conv => lhs; whnf) (by conv => lhs; whnf) (by exact rfl) (by simp) (objOk_cons (by conv => lhs; whnf) (by conv => lhs; whnf) (by exact rfl) (by simp) objOk_nil)) (nodup_b rfl) (nodup_b rfl) rfl rfl, v5_s_1, (IntKind.i64.wrap (v12_1 + 1)), h, rfl⟩
      · have h := ifF c17 h
        refine aw_cond_f (by decide) rfl ?_
        refine aw_skip ?_
        refine hK15 _ ?_
        refine aw_seq_k (fun K18 hK18 => ?_)
        refine aw_regL ?_
        refine alP (some 20) rfl rfl (does_fieldAddr (q := .ptr 7 0 5) (by conv => lhs; whnf) ty28 rfl ty26 (by decide) (by exact rfl)) (by decide) ?_
        refine alR (some 21) rfl rfl (does_load (v := .sl 10 (List.map enc30 x14.Spans)) (by conv => lhs; whnf) (by conv => lhs; whnf) ty26 (by exact rfl)) (by decide) ?_
        refine alP (some 22) rfl rfl ((does_len_sl (by conv => lhs; whnf) ty26).castp (v' := .int .i64 (List.length x14.Spans : Int)) (by exact len_map _)) (by decide) ?_
        refine alP (some 23) rfl rfl (does_move (v := .int .i64 0) (by exact rfl)) (by decide) ?_
        refine al_nil ?_
        refine hK18 _ ?_
        refine aw_block ?_
        refine aw_loop' (fun m s => ∃ (v5_s_2 : List Span), ∃ (v23_2 : Int), loopN (fun (s : List Span × Int) => episode_Spans_l2 v12_1 x14 s.1 s.2) m (v5_s_2, v23_2) = some q6 ∧ s = lit [(3, .ptr 3 0 0), (5, .own 5 0), (10, .sl 6 (List.map enc27 a0)), (11, .int .i64 (List.length a0 : Int)), (12, .int .i64 v12_1), (21, .sl 10 (List.map enc30 x14.Spans)), (22, .int .i64 (List.length x14.Spans : Int)), (23, .int .i64 v23_2)] [((3, 0), .box [.int .u64 a1.Hi, .int .u64 a1.Lo]), ((5, 0), .arr 31 10 false (List.map enc30 v5_s_2))] [(3, 1), (5, 1)] X) Fu
          ⟨_, reb_lit [(3, .ptr 3 0 0), (5, .own 5 0), (10, .sl 6 (List.map enc27 a0)), (11, .int .i64 (List.length a0 : Int)), (12, .int .i64 v12_1), (21, .sl 10 (List.map enc30 x14.Spans)), (22, .int .i64 (List.length x14.Spans : Int)), (23, .int .i64 (0))] [(3, 0), (5, 0)] [((3, 0), .box [.int .u64 a1.Hi, .int .u64 a1.Lo]), ((5, 0), .arr 31 10 false (List.map enc30 v5_s_1))] [(3, 1), (5, 1)] (envOk_cons (by conv => lhs; whnf) (by exact rfl) (envOk_cons (by conv => lhs; whnf) (by exact rfl) (envOk_cons (by conv => lhs; whnf) (by exact rfl) (envOk_cons (by conv => lhs; whnf) (by exact rfl) (envOk_cons (by conv => lhs; whnf) (by exact rfl) (envOk_cons (by conv => lhs; whnf) (by exact rfl) (envOk_cons (by conv => lhs; whnf) (by exact rfl) (envOk_cons (by conv => lhs; whnf) (by exact rfl) envOk_nil)))))))) (objOk_cons (by conv => lhs; whnf) (by conv => lhs; whnf) (by exact rfl) (by simp) (objOk_cons (by conv => lhs; whnf) (by conv => lhs; whnf) (by exact rfl) (by simp) objOk_nil)) (nodup_b rfl) (nodup_b rfl) rfl rfl, v5_s_1, 0, h, rfl⟩ ?_
        rintro m s ⟨v5_s_2, v23_2, h, rfl⟩
        obtain ⟨m2, q19, rfl, h, hq20⟩ := loop_some h
        replace h : episode_Spans_l2 v12_1 x14 v5_s_2 v23_2 = some q19 := h
        unfold episode_Spans_l2 at h
        refine aw_seq_k (fun K21 hK21 => ?_)
        refine aw_regL ?_
        refine alP (some 24) rfl rfl (does_bin (v := .bool (decide (v23_2 < (List.length x14.Spans : Int)))) (by conv => lhs; whnf) (by conv => lhs; whnf) rfl) (by decide) ?_
        refine al_nil ?_
        refine hK21 _ ?_
        refine aw_seq_k (fun K22 hK22 => ?_)
        refine aw_bool (b := (decide (v23_2 < (List.length x14.Spans : Int)))) 24 rfl (fun c23 => ?_) (fun c23 => ?_)
        · have h := ifT c23 h
          refine aw_cond_t (by decide) rfl ?_
          refine aw_skip ?_
          refine hK22 _ ?_
          refine aw_seq_k (fun K24 hK24 => ?_)
          refine aw_block ?_
          refine aw_seq_k (fun K25 hK25 => ?_)
          refine aw_regL ?_
          obtain ⟨g26, h⟩ := gd_some h
          obtain ⟨x27, hx27, h⟩ := bnd_some h
          refine alP (some 25) rfl rfl (does_indexAddr_sl (el := .agg [.int .u64 x27.Trace.Hi, .int .u64 x27.Trace.Lo, .int .u64 x27.Id, .int .u64 x27.Parent, .str x27.Service, .str x27.Op, .int .i64 x27.Start, .int .i64 x27.Dur, .bool x27.Err, .sl 2 (List.map enc68 x27.Attrs)]) (by conv => lhs; whnf) (by conv => lhs; whnf) ty26 ty31 g26 (by exact map_get hx27)) (by decide) ?_
          refine alR (some 26) rfl rfl (does_load (v := .agg [.int .u64 x27.Trace.Hi, .int .u64 x27.Trace.Lo, .int .u64 x27.Id, .int .u64 x27.Parent, .str x27.Service, .str x27.Op, .int .i64 x27.Start, .int .i64 x27.Dur, .bool x27.Err, .sl 2 (List.map enc68 x27.Attrs)]) (by conv => lhs; whnf) (by conv => lhs; whnf) ty31 (by exact rfl)) (by decide) ?_
          refine alD (some 9) rfl rfl (do_new ty31 rfl rfl) (by decide) ?_
          refine alD none rfl rfl (do_store (cs' := [.int .u64 x27.Trace.Hi, .int .u64 x27.Trace.Lo, .int .u64 x27.Id, .int .u64 x27.Parent, .str x27.Service, .str x27.Op, .int .i64 x27.Start, .int .i64 x27.Dur, .bool x27.Err, .sl 2 (List.map enc68 x27.Attrs)]) (by conv => lhs; whnf) (by conv => lhs; whnf) (by conv => lhs; whnf) ty31 rfl rfl rfl (by exact rfl)) (by decide) ?_
          refine al_nil ?_
          refine hK25 _ ?_
          refine aw_seq_k (fun K28 hK28 => ?_)
          refine aw_regL ?_
          refine alP (some 27) rfl rfl (does_move (v := .own 5 0) (by exact rfl)) (by decide) ?_
          refine alR (some 28) rfl rfl (does_load (v := .agg [.int .u64 x27.Trace.Hi, .int .u64 x27.Trace.Lo, .int .u64 x27.Id, .int .u64 x27.Parent, .str x27.Service, .str x27.Op, .int .i64 x27.Start, .int .i64 x27.Dur, .bool x27.Err, .sl 2 (List.map enc68 x27.Attrs)]) (by conv => lhs; whnf) (by conv => lhs; whnf) ty31 (by exact rfl)) (by decide) ?_
          obtain ⟨x29, hx29, h⟩ := bnd_some h
          refine alD (some 29) rfl rfl (do_callG (bcs := []) [] [] [(5, 0)] 29 false (episode_there_ok v5_s_2 x27 hx29) rfl ent44 trivial trivial rfl rfl rfl rfl rfl rfl rfl rfl (.inr ⟨rfl, rfl, trivial⟩)) (by decide) ?_
          refine alP (some 30) rfl rfl (does_un (v := .bool (!x29)) (by conv => lhs; whnf) rfl) (by decide) ?_
          refine al_nil ?_
          refine hK28 _ ?_
          refine aw_bool (b := (!x29)) 30 rfl (fun c30 => ?_) (fun c30 => ?_)
          · have h := ifT c30 h
            refine aw_cond_t (by decide) rfl ?_
            refine aw_regL ?_
            refine alP (some 31) rfl rfl (does_move (v := .own 5 0) (by exact rfl)) (by decide) ?_
            refine alR (some 32) rfl rfl (does_load (v := .agg [.int .u64 x27.Trace.Hi, .int .u64 x27.Trace.Lo, .int .u64 x27.Id, .int .u64 x27.Parent, .str x27.Service, .str x27.Op, .int .i64 x27.Start, .int .i64 x27.Dur, .bool x27.Err, .sl 2 (List.map enc68 x27.Attrs)]) (by conv => lhs; whnf) (by conv => lhs; whnf) ty31 (by exact rfl)) (by decide) ?_
            refine alD (some 33) rfl rfl (do_buildSlice (xs := List.map enc30 [x27]) ty26 ty31 rfl rfl rfl rfl rfl rfl rfl rfl) (by decide) ?_
            obtain ⟨g31, h⟩ := gd_some h
            refine alD (some 34) rfl rfl (do_append (v := List.map enc30 (v5_s_2 ++ [x27])) (by conv => lhs; whnf) (by conv => lhs; whnf) ty26 ty31 rfl rfl (by conv => lhs; whnf) (by first | exact .inl rfl | exact .inr ⟨rfl, rfl⟩) (by conv => lhs; whnf) (by first | exact .inr rfl | exact .inl rfl) (map_app _ _) (fit_map g31)) (by decide) ?_
            refine alP (some 5) rfl rfl (does_assign (v := .own 34 0) (by exact rfl)) (by decide) ?_
            refine al_nil ?_
            refine hK24 _ ?_
            refine aw_regL ?_
            refine alP (some 35) rfl rfl (does_bin (v := .int .i64 (IntKind.i64.wrap (v23_2 + 1))) (by conv => lhs; whnf) (by conv => lhs; whnf) rfl) (by decide) ?_
            refine alP (some 23) rfl rfl (does_move (v := .int .i64 (IntKind.i64.wrap (v23_2 + 1))) (by exact rfl)) (by decide) ?_
            refine al_nil ?_
            have h := leafL h hq20
            exact ⟨m2, Nat.lt_succ_self _, _, reb_lit [(3, .ptr 3 0 0), (5, .own 5 0), (10, .sl 6 (List.map enc27 a0)), (11, .int .i64 (List.length a0 : Int)), (12, .int .i64 v12_1), (21, .sl 10 (List.map enc30 x14.Spans)), (22, .int .i64 (List.length x14.Spans : Int)), (23, .int .i64 (IntKind.i64.wrap (v23_2 + 1)))] [(3, 0), (34, 0)] [((3, 0), .box [.int .u64 a1.Hi, .int .u64 a1.Lo]), ((5, 0), .arr 31 10 false (List.map enc30 (v5_s_2 ++ [x27])))] [(3, 1), (5, 1)] (envOk_cons (by conv => lhs; whnf) (by exact rfl) (envOk_cons (by conv => lhs; whnf) (by exact rfl) (envOk_cons (by conv => lhs; whnf) (by exact rfl) (envOk_cons (by conv => lhs; whnf) (by exact rfl) (envOk_cons (by conv => lhs; whnf) (by exact rfl) (envOk_cons (by conv => lhs; whnf) (by exact rfl) (envOk_cons (by conv => lhs; whnf) (by exact rfl) (envOk_cons (by conv => lhs; whnf) (by exact rfl) envOk_nil)))))))) (objOk_cons (by conv => lhs; whnf) (by conv => lhs; whnf) (by exact rfl) (by simp) (objOk_cons (by conv => lhs; whnf) (by conv => lhs; whnf) (by exact rfl) (by simp) objOk_nil)) (nodup_b rfl) (nodup_b rfl) rfl rfl, (v5_s_2 ++ [x27]), (IntKind.i64.wrap (v23_2 + 1)), h, rfl⟩
          · have h := ifF c30 h
            refine aw_cond_f (by decide) rfl ?_
            refine aw_skip ?_
            refine hK24 _ ?_
            refine aw_regL ?_
            refine alP (some 35) rfl rfl (does_bin (v := .int .i64 (IntKind.i64.wrap (v23_2 + 1))) (by conv => lhs; whnf) (by conv => lhs; whnf) rfl) (by decide) ?_
            refine alP (some 23) rfl rfl (does_move (v := .int .i64 (IntKind.i64.wrap (v23_2 + 1))) (by exact rfl)) (by decide) ?_
            refine al_nil ?_
            have h := leafL h hq20
            exact ⟨m2, Nat.lt_succ_self _, _, reb_lit [(3, .ptr 3 0 0), (5, .own 5 0), (10, .sl 6 (List.map enc27 a0)), (11, .int .i64 (List.length a0 : Int)), (12, .int .i64 v12_1), (21, .sl 10 (List.map enc30 x14.Spans)), (22, .int .i64 (List.length x14.Spans : Int)), (23, .int .i64 (IntKind.i64.wrap (v23_2 + 1)))] [(3, 0), (5, 0)] [((3, 0), .box [.int .u64 a1.Hi, .int .u64 a1.Lo]), ((5, 0), .arr 31 10 false (List.map enc30 v5_s_2))] [(3, 1), (5, 1)] (envOk_cons (by conv => lhs; whnf) (by exact rfl) (envOk_cons (by conv => lhs; whnf) (by exact rfl) (envOk_cons (by conv => lhs; whnf) (by exact rfl) (envOk_cons (by conv => lhs; whnf) (by exact rfl) (envOk_cons (by conv => lhs; whnf) (by exact rfl) (envOk_cons (by conv => lhs; whnf) (by exact rfl) (envOk_cons (by conv => lhs; whnf) (by exact rfl) (envOk_cons (by conv => lhs; whnf) (by exact rfl) envOk_nil)))))))) (objOk_cons (by conv => lhs; whnf) (by conv => lhs; whnf) (by exact rfl) (by simp) (objOk_cons (by conv => lhs; whnf) (by conv => lhs; whnf) (by exact rfl) (by simp) objOk_nil)) (nodup_b rfl) (nodup_b rfl) rfl rfl, v5_s_2, (IntKind.i64.wrap (v23_2 + 1)), h, rfl⟩
        · have h := ifF c23 h
          refine aw_cond_f (by decide) rfl ?_
          refine aw_exit ?_
          have h := leafR h hq20
          refine hK11 _ ?_
          refine aw_regL ?_
          refine alP (some 36) rfl rfl (does_bin (v := .int .i64 (IntKind.i64.wrap (v12_1 + 1))) (by conv => lhs; whnf) (by conv => lhs; whnf) rfl) (by decide) ?_
          refine alP (some 12) rfl rfl (does_move (v := .int .i64 (IntKind.i64.wrap (v12_1 + 1))) (by exact rfl)) (by decide) ?_
          refine al_nil ?_
          have h := leafL h hq7
          exact ⟨m1, Nat.lt_succ_self _, _, reb_lit [(3, .ptr 3 0 0), (5, .own 5 0), (10, .sl 6 (List.map enc27 a0)), (11, .int .i64 (List.length a0 : Int)), (12, .int .i64 (IntKind.i64.wrap (v12_1 + 1)))] [(3, 0), (5, 0)] [((3, 0), .box [.int .u64 a1.Hi, .int .u64 a1.Lo]), ((5, 0), .arr 31 10 false (List.map enc30 v5_s_2))] [(3, 1), (5, 1)] (envOk_cons (by conv => lhs; whnf) (by exact rfl) (envOk_cons (by conv => lhs; whnf) (by exact rfl) (envOk_cons (by conv => lhs; whnf) (by exact rfl) (envOk_cons (by conv => lhs; whnf) (by exact rfl) (envOk_cons (by conv => lhs; whnf) (by exact rfl) envOk_nil))))) (objOk_cons (by conv => lhs; whnf) (by conv => lhs; whnf) (by exact rfl) (by simp) (objOk_cons (by conv => lhs; whnf) (by conv => lhs; whnf) (by exact rfl) (by simp) objOk_nil)) (nodup_b rfl) (nodup_b rfl) rfl rfl, v5_s_2, (IntKind.i64.wrap (v12_1 + 1)), h, rfl⟩
    · have h := ifF c10 h
      refine aw_cond_f (by decide) rfl ?_
      refine aw_exit ?_
      have h := leafR h hq7
      obtain rfl := Option.some.inj h
      have h := hk4
      exact ⟨_, reb_lit [(5, .own 5 0)] [(5, 0)] [((5, 0), .arr 31 10 false (List.map enc30 v5_s_1))] [(5, 1)] (envOk_cons (by conv => lhs; whnf) (by exact rfl) envOk_nil) (objOk_cons (by conv => lhs; whnf) (by conv => lhs; whnf) (by exact rfl) (by simp) objOk_nil) (nodup_b rfl) (nodup_b rfl) rfl rfl, v5_s_1, h, rfl⟩
  · rintro s ⟨v5_s_0, h, rfl⟩
    unfold episode_Spans_k0 at h
    refine aw_seq_k (fun K32 hK32 => ?_)
    refine aw_regL ?_
    refine alP (some 37) rfl rfl (does_move (v := .own 5 0) (by exact rfl)) (by decide) ?_
    obtain ⟨x33, hx33, h⟩ := bnd_some h
    refine alD (some 38) rfl rfl (does_frz (d := 5) (n := 0) (by conv => lhs; whnf) (do_callG (bcs := []) [] [] [(5, 0)] 38 false (span_Copy_ok v5_s_0 hx33) rfl ent45 trivial trivial rfl rfl rfl rfl rfl rfl rfl rfl (.inl ⟨⟨_, _, _, rfl⟩, trivial⟩))) (by decide) ?_
    refine alP (some 4) rfl rfl (does_assign (v := .own 38 0) (by exact rfl)) (by decide) ?_
    refine al_nil ?_
    refine hK32 _ ?_
    refine aw_ret ?_
    obtain rfl := Option.some.inj h
    exact ret_okR [(38, 0)] (by conv => lhs; whnf) (by conv => lhs; whnf) (by exact rfl) (rowsOk_cons (by conv => lhs; whnf) (by exact rfl) trivial) (nodup_b rfl) (.inr rfl) rfl
def gleaningref15_Add_l1 (a0 : Episode) (a1 : Span) (a2 : Int) (v8_1 : Int) : Option (Int ⊕ (Unit ⊕ (Episode × Bool))) :=
  if (decide (v8_1 < (List.length a0.Spans : Int))) = true then (gd (0 ≤ v8_1) (Option.bind (a0.Spans[(Int.toNat v8_1)]?) (fun (x18 : Span) => if (x18.Id == a1.Id) = true then (some (Sum.inr (Sum.inr ((Episode.mk a0.Trace a0.First a2 a0.Sure a0.Spans), false)))) else (some (Sum.inl (IntKind.i64.wrap (v8_1 + 1))))))) else (some (Sum.inr (Sum.inl ())))
def gleaningref15_Add_k0 (a0 : Episode) (a1 : Span) (a2 : Int) : Option (Episode × Bool) :=
  gd ((List.length a0.Spans) * 112 ≤ 140737488355328 ∧ (List.length a0.Spans) ≤ 140737488355328) (gd ((List.length (a0.Spans ++ [a1])) * 112 ≤ 140737488355328 ∧ (List.length (a0.Spans ++ [a1])) ≤ 140737488355328) (some ((Episode.mk a0.Trace a0.First a2 a0.Sure (a0.Spans ++ [a1])), true)))
def gleaningref15_Add (a0 : Episode) (a1 : Span) (a2 : Int) : Option (Episode × Bool) :=
  if (!((a0.Trace.Hi == a1.Trace.Hi) && ((a0.Trace.Lo == a1.Trace.Lo) && true))) = true then (some (a0, false)) else (Option.bind (loopN (fun (s : Int) => gleaningref15_Add_l1 a0 a1 a2 s) Fu 0) (Sum.elim (fun (s : Unit) => gleaningref15_Add_k0 a0 a1 a2) some))
set_option maxRecDepth 100000 in
set_option maxHeartbeats 8000000 in
/-- gleaning/gleaningref15.Add -/
theorem gleaningref15_Add_t_ok (a0 : Episode) (a1 : Span) (a2 : Int) {r : Episode × Bool} (h : gleaningref15_Add a0 a1 a2 = some r) (hb : r.2 = true) : Ok Try.prog 19 [.agg [.int .u64 a0.Trace.Hi, .int .u64 a0.Trace.Lo, .int .i64 a0.First, .int .i64 a0.Last, .bool a0.Sure, .sl 10 (List.map enc30 a0.Spans)], .agg [.int .u64 a1.Trace.Hi, .int .u64 a1.Trace.Lo, .int .u64 a1.Id, .int .u64 a1.Parent, .str a1.Service, .str a1.Op, .int .i64 a1.Start, .int .i64 a1.Dur, .bool a1.Err, .sl 2 (List.map enc68 a1.Attrs)], .int .i64 a2] [] [] (.tup [.agg [.int .u64 r.1.Trace.Hi, .int .u64 r.1.Trace.Lo, .int .i64 r.1.First, .int .i64 r.1.Last, .bool r.1.Sure, .own 2 0], .bool true]) [] [(31, 10, List.map enc30 r.1.Spans)] := by
  unfold gleaningref15_Add at h
  refine ok_of_code Try.func19 rfl (by show (3 : Nat) ≤ _; decide) (Nat.le_refl _) fun X => ?_
  refine aw_seq_k (fun K1 hK1 => ?_)
  refine aw_regL ?_
  refine alD (some 3) rfl rfl (do_box (by conv => lhs; whnf) rfl rfl) (by decide) ?_
  refine alD (some 4) rfl rfl (do_box (by conv => lhs; whnf) rfl rfl) (by decide) ?_
  refine alD (some 6) rfl rfl (do_new ty28 rfl rfl) (by decide) ?_
  refine alP (some 7) rfl rfl (does_assign (v := .bool false) (by exact rfl)) (by decide) ?_
  refine al_nil ?_
  refine hK1 _ ?_
  refine aw_seq_k (fun K2 hK2 => ?_)
  refine aw_seq_k (fun K3 hK3 => ?_)
  refine aw_regL ?_
  refine alP (some 9) rfl rfl (does_fieldAddr (q := .ptr 3 0 0) (by conv => lhs; whnf) ty28 rfl ty25 (by decide) (by exact rfl)) (by decide) ?_
  refine alR (some 10) rfl rfl (does_load (v := .agg [.int .u64 a0.Trace.Hi, .int .u64 a0.Trace.Lo]) (by conv => lhs; whnf) (by conv => lhs; whnf) ty25 (by exact rfl)) (by decide) ?_
  refine alP (some 11) rfl rfl (does_fieldAddr (q := .ptr 4 0 0) (by conv => lhs; whnf) ty31 rfl ty25 (by decide) (by exact rfl)) (by decide) ?_
  refine alR (some 12) rfl rfl (does_load (v := .agg [.int .u64 a1.Trace.Hi, .int .u64 a1.Trace.Lo]) (by conv => lhs; whnf) (by conv => lhs; whnf) ty25 (by exact rfl)) (by decide) ?_
  refine alP (some 13) rfl rfl (does_eq_struct (v := .bool (!((a0.Trace.Hi == a1.Trace.Hi) && ((a0.Trace.Lo == a1.Trace.Lo) && true)))) (by conv => lhs; whnf) (by conv => lhs; whnf) fk25 rfl ag25 eg25 (by conv => lhs; whnf) rfl) (by decide) ?_
  refine al_nil ?_
  refine hK3 _ ?_
  refine aw_bool (b := (!((a0.Trace.Hi == a1.Trace.Hi) && ((a0.Trace.Lo == a1.Trace.Lo) && true)))) 13 rfl (fun c4 => ?_) (fun c4 => ?_)
  · have h := ifT c4 h
    refine aw_cond_t (by decide) rfl ?_
    refine aw_seq_k (fun K5 hK5 => ?_)
    refine aw_regL ?_
    refine alR (some 14) rfl rfl (does_load (v := .agg [.int .u64 a0.Trace.Hi, .int .u64 a0.Trace.Lo, .int .i64 a0.First, .int .i64 a0.Last, .bool a0.Sure, .sl 10 (List.map enc30 a0.Spans)]) (by conv => lhs; whnf) (by conv => lhs; whnf) ty28 (by exact rfl)) (by decide) ?_
    refine alD none rfl rfl (do_store (cs' := [.int .u64 a0.Trace.Hi, .int .u64 a0.Trace.Lo, .int .i64 a0.First, .int .i64 a0.Last, .bool a0.Sure, .sl 10 (List.map enc30 a0.Spans)]) (by conv => lhs; whnf) (by conv => lhs; whnf) (by conv => lhs; whnf) ty28 rfl rfl rfl (by exact rfl)) (by decide) ?_
    refine alP (some 7) rfl rfl (does_assign (v := .bool false) (by exact rfl)) (by decide) ?_
    refine al_nil ?_
    refine hK5 _ ?_
    refine aw_ret ?_
    obtain rfl := Option.some.inj h
    cases hb
  · have h := ifF c4 h
    refine aw_cond_f (by decide) rfl ?_
    refine aw_skip ?_
    refine hK2 _ ?_
    refine aw_seq_k (fun K6 hK6 => ?_)
    refine aw_regL ?_
    refine alP (some 15) rfl rfl (does_move (v := .int .i64 a2) (by exact rfl)) (by decide) ?_
    refine alP (some 16) rfl rfl (does_fieldAddr (q := .ptr 3 0 3) (by conv => lhs; whnf) ty28 rfl ty3 (by decide) (by exact rfl)) (by decide) ?_
    refine alD none rfl rfl (do_store (cs' := [.int .u64 a0.Trace.Hi, .int .u64 a0.Trace.Lo, .int .i64 a0.First, .int .i64 a2, .bool a0.Sure, .sl 10 (List.map enc30 a0.Spans)]) (by conv => lhs; whnf) (by conv => lhs; whnf) (by conv => lhs; whnf) ty3 rfl rfl rfl (by exact rfl)) (by decide) ?_
    refine al_nil ?_
    refine hK6 _ ?_
    obtain ⟨q7, h, hk8⟩ := bnd_some h
    refine aw_cut (fun s => gleaningref15_Add_k0 a0 a1 a2 = some r ∧ s = lit [(3, .ptr 3 0 0), (4, .ptr 4 0 0), (6, .ptr 6 0 0)] [((3, 0), .box [.int .u64 a0.Trace.Hi, .int .u64 a0.Trace.Lo, .int .i64 a0.First, .int .i64 a2, .bool a0.Sure, .sl 10 (List.map enc30 a0.Spans)]), ((4, 0), .box [.int .u64 a1.Trace.Hi, .int .u64 a1.Trace.Lo, .int .u64 a1.Id, .int .u64 a1.Parent, .str a1.Service, .str a1.Op, .int .i64 a1.Start, .int .i64 a1.Dur, .bool a1.Err, .sl 2 (List.map enc68 a1.Attrs)]), ((6, 0), .box [.int .u64 0, .int .u64 0, .int .i64 0, .int .i64 0, .bool false, .nil])] [(3, 1), (4, 1), (6, 1)] X) ?_ ?_
    · skip
      refine aw_seq_k (fun K9 hK9 => ?_)
      refine aw_regL ?_
      refine alP (some 8) rfl rfl (does_assign (v := .int .i64 0) (by exact rfl)) (by decide) ?_
      refine al_nil ?_
      refine hK9 _ ?_
      refine aw_block ?_
      refine aw_loop' (fun m s => ∃ (v8_1 : Int), loopN (fun (s : Int) => gleaningref15_Add_l1 a0 a1 a2 s) m v8_1 = some q7 ∧ s = lit [(3, .ptr 3 0 0), (4, .ptr 4 0 0), (6, .ptr 6 0 0), (8, .int .i64 v8_1)] [((3, 0), .box [.int .u64 a0.Trace.Hi, .int .u64 a0.Trace.Lo, .int .i64 a0.First, .int .i64 a2, .bool a0.Sure, .sl 10 (List.map enc30 a0.Spans)]), ((4, 0), .box [.int .u64 a1.Trace.Hi, .int .u64 a1.Trace.Lo, .int .u64 a1.Id, .int .u64 a1.Parent, .str a1.Service, .str a1.Op, .int .i64 a1.Start, .int .i64 a1.Dur, .bool a1.Err, .sl 2 (List.map enc68 a1.Attrs)]), ((6, 0), .box [.int .u64 0, .int .u64 0, .int .i64 0, .int .i64 0, .bool false, .nil])] [(3, 1), (4, 1), (6, 1)] X) Fu
        ⟨_, reb_lit [(3, .ptr 3 0 0), (4, .ptr 4 0 0), (6, .ptr 6 0 0), (8, .int .i64 (0))] [(3, 0), (4, 0), (6, 0)] [((3, 0), .box [.int .u64 a0.Trace.Hi, .int .u64 a0.Trace.Lo, .int .i64 a0.First, .int .i64 a2, .bool a0.Sure, .sl 10 (List.map enc30 a0.Spans)]), ((4, 0), .box [.int .u64 a1.Trace.Hi, .int .u64 a1.Trace.Lo, .int .u64 a1.Id, .int .u64 a1.Parent, .str a1.Service, .str a1.Op, .int .i64 a1.Start, .int .i64 a1.Dur, .bool a1.Err, .sl 2 (List.map enc68 a1.Attrs)]), ((6, 0), .box [.int .u64 0, .int .u64 0, .int .i64 0, .int .i64 0, .bool false, .nil])] [(3, 1), (4, 1), (6, 1)] (envOk_cons (by conv => lhs; whnf) (by exact rfl) (envOk_cons (by conv => lhs; whnf) (by exact rfl) (envOk_cons (by conv => lhs; whnf) (by exact rfl) (envOk_cons (by conv => lhs; whnf) (by exact rfl) envOk_nil)))) (objOk_cons (by conv => lhs; whnf) (by conv => lhs; whnf) (by exact rfl) (by simp) (objOk_cons (by conv => lhs; whnf) (by conv => lhs; whnf) (by exact rfl) (by simp) (objOk_cons (by conv => lhs; whnf) (by conv => lhs; whnf) (by exact rfl) (by simp) objOk_nil))) (nodup_b rfl) (nodup_b rfl) rfl rfl, 0, h, rfl⟩ ?_
      rintro m s ⟨v8_1, h, rfl⟩
      obtain ⟨m1, q10, rfl, h, hq11⟩ := loop_some h
      replace h : gleaningref15_Add_l1 a0 a1 a2 v8_1 = some q10 := h
      unfold gleaningref15_Add_l1 at h
      refine aw_seq_k (fun K12 hK12 => ?_)
      refine aw_seq_k (fun K13 hK13 => ?_)
      refine aw_regL ?_
      refine alP (some 17) rfl rfl (does_move (v := .int .i64 v8_1) (by exact rfl)) (by decide) ?_
      refine alP (some 18) rfl rfl (does_fieldAddr (q := .ptr 3 0 5) (by conv => lhs; whnf) ty28 rfl ty26 (by decide) (by exact rfl)) (by decide) ?_
      refine alR (some 19) rfl rfl (does_load (v := .sl 10 (List.map enc30 a0.Spans)) (by conv => lhs; whnf) (by conv => lhs; whnf) ty26 (by exact rfl)) (by decide) ?_
      refine alP (some 20) rfl rfl ((does_len_sl (by conv => lhs; whnf) ty26).castp (v' := .int .i64 (List.length a0.Spans : Int)) (by exact len_map _)) (by decide) ?_
      refine alP (some 21) rfl rfl (does_bin (v := .bool (decide (v8_1 < (List.length a0.Spans : Int)))) (by conv => lhs; whnf) (by conv => lhs; whnf) rfl) (by decide) ?_
      refine al_nil ?_
      refine hK13 _ ?_
      refine aw_bool (b := (decide (v8_1 < (List.length a0.Spans : Int)))) 21 rfl (fun c14 => ?_) (fun c14 => ?_)
      · have h := ifT c14 h
        refine aw_cond_t (by decide) rfl ?_
        refine aw_skip ?_
        refine hK12 _ ?_
        refine aw_seq_k (fun K15 hK15 => ?_)
        refine aw_block ?_
        refine aw_seq_k (fun K16 hK16 => ?_)
        refine aw_regd (by kernel_rfl) (by decide +kernel) ?_
        refine aoP (some 24) rfl rfl (does_fieldAddr (q := .ptr 3 0 5) (by conv => lhs; whnf) ty28 rfl ty26 (by decide) (by exact rfl)) (by decide) ?_
        refine aoR (some 25) rfl rfl (does_load (v := .sl 10 (List.map enc30 a0.Spans)) (by conv => lhs; whnf) (by conv => lhs; whnf) ty26 (by exact rfl)) (by decide) ?_
        refine aoP (some 26) rfl rfl (does_move (v := .int .i64 v8_1) (by exact rfl)) (by decide) ?_
        obtain ⟨g17, h⟩ := gd_some h
        obtain ⟨x18, hx18, h⟩ := bnd_some h
        refine aoP (some 27) rfl rfl (does_indexAddr_sl (el := .agg [.int .u64 x18.Trace.Hi, .int .u64 x18.Trace.Lo, .int .u64 x18.Id, .int .u64 x18.Parent, .str x18.Service, .str x18.Op, .int .i64 x18.Start, .int .i64 x18.Dur, .bool x18.Err, .sl 2 (List.map enc68 x18.Attrs)]) (by conv => lhs; whnf) (by conv => lhs; whnf) ty26 ty31 g17 (by exact map_get hx18)) (by decide) ?_
        refine aoP (some 28) rfl rfl (does_fieldAddr (q := .rptr [.int .u64 x18.Id, .int .u64 x18.Parent, .str x18.Service, .str x18.Op, .int .i64 x18.Start, .int .i64 x18.Dur, .bool x18.Err, .sl 2 (List.map enc68 x18.Attrs)]) (by conv => lhs; whnf) ty31 rfl ty23 (by decide) (by exact rfl)) (by decide) ?_
        refine aoR (some 29) rfl rfl (does_load (v := .int .u64 x18.Id) (by conv => lhs; whnf) (by conv => lhs; whnf) ty23 (by exact rfl)) (by decide) ?_
        refine aoP (some 30) rfl rfl (does_fieldAddr (q := .ptr 4 0 2) (by conv => lhs; whnf) ty31 rfl ty23 (by decide) (by exact rfl)) (by decide) ?_
        refine aoR (some 31) rfl rfl (does_load (v := .int .u64 a1.Id) (by conv => lhs; whnf) (by conv => lhs; whnf) ty23 (by exact rfl)) (by decide) ?_
        refine aoP (some 32) rfl rfl (does_bin (v := .bool (x18.Id == a1.Id)) (by conv => lhs; whnf) (by conv => lhs; whnf) rfl) (by decide) ?_
        refine ao_nil_d (by kernel_rfl) ?_
        refine hK16 _ ?_
        refine aw_bool (b := (x18.Id == a1.Id)) 32 rfl (fun c19 => ?_) (fun c19 => ?_)
        · have h := ifT c19 h
          refine aw_cond_t (by decide) rfl ?_
          refine aw_seq_k (fun K20 hK20 => ?_)
          refine aw_regL ?_
          refine alR (some 33) rfl rfl (does_load (v := .agg [.int .u64 a0.Trace.Hi, .int .u64 a0.Trace.Lo, .int .i64 a0.First, .int .i64 a2, .bool a0.Sure, .sl 10 (List.map enc30 a0.Spans)]) (by conv => lhs; whnf) (by conv => lhs; whnf) ty28 (by exact rfl)) (by decide) ?_
          refine alD none rfl rfl (do_store (cs' := [.int .u64 a0.Trace.Hi, .int .u64 a0.Trace.Lo, .int .i64 a0.First, .int .i64 a2, .bool a0.Sure, .sl 10 (List.map enc30 a0.Spans)]) (by conv => lhs; whnf) (by conv => lhs; whnf) (by conv => lhs; whnf) ty28 rfl rfl rfl (by exact rfl)) (by decide) ?_
          refine alP (some 7) rfl rfl (does_assign (v := .bool false) (by exact rfl)) (by decide) ?_
          refine al_nil ?_
          refine hK20 _ ?_
          refine aw_ret ?_
          have h := leafR h hq11
          have h := leafR h hk8
          obtain rfl := Option.some.inj h
          cases hb
        · have h := ifF c19 h
          refine aw_cond_f (by decide) rfl ?_
          refine aw_skip ?_
          refine hK15 _ ?_
          refine aw_regL ?_
          refine alP (some 22) rfl rfl (does_move (v := .int .i64 v8_1) (by exact rfl)) (by decide) ?_
          refine alP (some 23) rfl rfl (does_bin (v := .int .i64 (IntKind.i64.wrap (v8_1 + 1))) (by conv => lhs; whnf) (by conv => lhs; whnf) rfl) (by decide) ?_
          refine alP (some 8) rfl rfl (does_assign (v := .int .i64 (IntKind.i64.wrap (v8_1 + 1))) (by exact rfl)) (by decide) ?_
          refine al_nil ?_
          have h := leafL h hq11
          exact ⟨m1, Nat.lt_succ_self _, _, reb_lit [(3, .ptr 3 0 0), (4, .ptr 4 0 0), (6, .ptr 6 0 0), (8, .int .i64 (IntKind.i64.wrap (v8_1 + 1)))] [(3, 0), (4, 0), (6, 0)] [((3, 0), .box [.int .u64 a0.Trace.Hi, .int .u64 a0.Trace.Lo, .int .i64 a0.First, .int .i64 a2, .bool a0.Sure, .sl 10 (List.map enc30 a0.Spans)]), ((4, 0), .box [.int .u64 a1.Trace.Hi, .int .u64 a1.Trace.Lo, .int .u64 a1.Id, .int .u64 a1.Parent, .str a1.Service, .str a1.Op, .int .i64 a1.Start, .int .i64 a1.Dur, .bool a1.Err, .sl 2 (List.map enc68 a1.Attrs)]), ((6, 0), .box [.int .u64 0, .int .u64 0, .int .i64 0, .int .i64 0, .bool false, .nil])] [(3, 1), (4, 1), (6, 1)] (envOk_cons (by conv => lhs; whnf) (by exact rfl) (envOk_cons (by conv => lhs; whnf) (by exact rfl) (envOk_cons (by conv => lhs; whnf) (by exact rfl) (envOk_cons (by conv => lhs; whnf) (by exact rfl) envOk_nil)))) (objOk_cons (by conv => lhs; whnf) (by conv => lhs; whnf) (by exact rfl) (by simp) (objOk_cons (by conv => lhs; whnf) (by conv => lhs; whnf) (by exact rfl) (by simp) (objOk_cons (by conv => lhs; whnf) (by conv => lhs; whnf) (by exact rfl) (by simp) objOk_nil))) (nodup_b rfl) (nodup_b rfl) rfl rfl, (IntKind.i64.wrap (v8_1 + 1)), h, rfl⟩
      · have h := ifF c14 h
        refine aw_cond_f (by decide) rfl ?_
        refine aw_exit ?_
        have h := leafR h hq11
        have h := leafL h hk8
        exact ⟨_, reb_lit [(3, .ptr 3 0 0), (4, .ptr 4 0 0), (6, .ptr 6 0 0)] [(3, 0), (4, 0), (6, 0)] [((3, 0), .box [.int .u64 a0.Trace.Hi, .int .u64 a0.Trace.Lo, .int .i64 a0.First, .int .i64 a2, .bool a0.Sure, .sl 10 (List.map enc30 a0.Spans)]), ((4, 0), .box [.int .u64 a1.Trace.Hi, .int .u64 a1.Trace.Lo, .int .u64 a1.Id, .int .u64 a1.Parent, .str a1.Service, .str a1.Op, .int .i64 a1.Start, .int .i64 a1.Dur, .bool a1.Err, .sl 2 (List.map enc68 a1.Attrs)]), ((6, 0), .box [.int .u64 0, .int .u64 0, .int .i64 0, .int .i64 0, .bool false, .nil])] [(3, 1), (4, 1), (6, 1)] (envOk_cons (by conv => lhs; whnf) (by exact rfl) (envOk_cons (by conv => lhs; whnf) (by exact rfl) (envOk_cons (by conv => lhs; whnf) (by exact rfl) envOk_nil))) (objOk_cons (by conv => lhs; whnf) (by conv => lhs; whnf) (by exact rfl) (by simp) (objOk_cons (by conv => lhs; whnf) (by conv => lhs; whnf) (by exact rfl) (by simp) (objOk_cons (by conv => lhs; whnf) (by conv => lhs; whnf) (by exact rfl) (by simp) objOk_nil))) (nodup_b rfl) (nodup_b rfl) rfl rfl, h, rfl⟩
    · rintro s ⟨h, rfl⟩
      unfold gleaningref15_Add_k0 at h
      refine aw_seq_k (fun K21 hK21 => ?_)
      refine aw_regd (by kernel_rfl) (by decide +kernel) ?_
      refine aoP (some 34) rfl rfl (does_fieldAddr (q := .ptr 3 0 5) (by conv => lhs; whnf) ty28 rfl ty26 (by decide) (by exact rfl)) (by decide) ?_
      refine aoR (some 35) rfl rfl (does_load (v := .sl 10 (List.map enc30 a0.Spans)) (by conv => lhs; whnf) (by conv => lhs; whnf) ty26 (by exact rfl)) (by decide) ?_
      obtain ⟨g22, h⟩ := gd_some h
      refine aoD (some 36) rfl rfl (do_append (v := List.map enc30 a0.Spans) (by conv => lhs; whnf) (by conv => lhs; whnf) ty26 ty31 rfl rfl (by conv => lhs; whnf) (by first | exact .inl rfl | exact .inr ⟨rfl, rfl⟩) (by conv => lhs; whnf) (by first | exact .inr rfl | exact .inl rfl) (List.nil_append _) (fit_map g22)) (by decide) ?_
      refine aoR (some 37) rfl rfl (does_load (v := .agg [.int .u64 a1.Trace.Hi, .int .u64 a1.Trace.Lo, .int .u64 a1.Id, .int .u64 a1.Parent, .str a1.Service, .str a1.Op, .int .i64 a1.Start, .int .i64 a1.Dur, .bool a1.Err, .sl 2 (List.map enc68 a1.Attrs)]) (by conv => lhs; whnf) (by conv => lhs; whnf) ty31 (by exact rfl)) (by decide) ?_
      refine aoD (some 38) rfl rfl (do_buildSlice (xs := List.map enc30 [a1]) ty26 ty31 rfl rfl rfl rfl rfl rfl rfl rfl) (by decide) ?_
      obtain ⟨g23, h⟩ := gd_some h
      refine aoD (some 39) rfl rfl (do_append (v := List.map enc30 (a0.Spans ++ [a1])) (by conv => lhs; whnf) (by conv => lhs; whnf) ty26 ty31 rfl rfl (by conv => lhs; whnf) (by first | exact .inl rfl | exact .inr ⟨rfl, rfl⟩) (by conv => lhs; whnf) (by first | exact .inr rfl | exact .inl rfl) (map_app _ _) (fit_map g23)) (by decide) ?_
      refine aoP (some 40) rfl rfl (does_fieldAddr (q := .ptr 3 0 5) (by conv => lhs; whnf) ty28 rfl ty26 (by decide) (by exact rfl)) (by decide) ?_
      refine aoD none rfl rfl (do_store (cs' := [.int .u64 a0.Trace.Hi, .int .u64 a0.Trace.Lo, .int .i64 a0.First, .int .i64 a2, .bool a0.Sure, .own 39 0]) (by conv => lhs; whnf) (by conv => lhs; whnf) (by conv => lhs; whnf) ty26 rfl rfl rfl (by exact rfl)) (by decide) ?_
      refine ao_nil_d (by kernel_rfl) ?_
      refine hK21 _ ?_
      refine aw_seq_k (fun K24 hK24 => ?_)
      refine aw_regL ?_
      refine alR (some 41) rfl rfl (does_load (v := .agg [.int .u64 a0.Trace.Hi, .int .u64 a0.Trace.Lo, .int .i64 a0.First, .int .i64 a2, .bool a0.Sure, .own 39 0]) (by conv => lhs; whnf) (by conv => lhs; whnf) ty28 (by exact rfl)) (by decide) ?_
      refine alD none rfl rfl (do_store (cs' := [.int .u64 a0.Trace.Hi, .int .u64 a0.Trace.Lo, .int .i64 a0.First, .int .i64 a2, .bool a0.Sure, .own 39 0]) (by conv => lhs; whnf) (by conv => lhs; whnf) (by conv => lhs; whnf) ty28 rfl rfl rfl (by exact rfl)) (by decide) ?_
      refine alP (some 7) rfl rfl (does_assign (v := .bool true) (by exact rfl)) (by decide) ?_
      refine al_nil ?_
      refine hK24 _ ?_
      refine aw_ret ?_
      obtain rfl := Option.some.inj h
      exact ret_okR [(39, 0)] (by conv => lhs; whnf) (by conv => lhs; whnf) (by exact rfl) (rowsOk_cons (by conv => lhs; whnf) (by exact rfl) trivial) (nodup_b rfl) (.inr rfl) rfl
set_option maxRecDepth 100000 in
set_option maxHeartbeats 8000000 in
/-- gleaning/gleaningref15.Add -/
theorem gleaningref15_Add_f_ok (a0 : Episode) (a1 : Span) (a2 : Int) {r : Episode × Bool} (h : gleaningref15_Add a0 a1 a2 = some r) (hb : r.2 = false) : Ok Try.prog 19 [.agg [.int .u64 a0.Trace.Hi, .int .u64 a0.Trace.Lo, .int .i64 a0.First, .int .i64 a0.Last, .bool a0.Sure, .sl 10 (List.map enc30 a0.Spans)], .agg [.int .u64 a1.Trace.Hi, .int .u64 a1.Trace.Lo, .int .u64 a1.Id, .int .u64 a1.Parent, .str a1.Service, .str a1.Op, .int .i64 a1.Start, .int .i64 a1.Dur, .bool a1.Err, .sl 2 (List.map enc68 a1.Attrs)], .int .i64 a2] [] [] (.tup [.agg [.int .u64 r.1.Trace.Hi, .int .u64 r.1.Trace.Lo, .int .i64 r.1.First, .int .i64 r.1.Last, .bool r.1.Sure, .sl 10 (List.map enc30 r.1.Spans)], .bool false]) [] [] := by
  unfold gleaningref15_Add at h
  refine ok_of_code Try.func19 rfl (by show (3 : Nat) ≤ _; decide) (Nat.le_refl _) fun X => ?_
  refine aw_seq_k (fun K1 hK1 => ?_)
  refine aw_regL ?_
  refine alD (some 3) rfl rfl (do_box (by conv => lhs; whnf) rfl rfl) (by decide) ?_
  refine alD (some 4) rfl rfl (do_box (by conv => lhs; whnf) rfl rfl) (by decide) ?_
  refine alD (some 6) rfl rfl (do_new ty28 rfl rfl) (by decide) ?_
  refine alP (some 7) rfl rfl (does_assign (v := .bool false) (by exact rfl)) (by decide) ?_
  refine al_nil ?_
  refine hK1 _ ?_
  refine aw_seq_k (fun K2 hK2 => ?_)
  refine aw_seq_k (fun K3 hK3 => ?_)
  refine aw_regL ?_
  refine alP (some 9) rfl rfl (does_fieldAddr (q := .ptr 3 0 0) (by conv => lhs; whnf) ty28 rfl ty25 (by decide) (by exact rfl)) (by decide) ?_
  refine alR (some 10) rfl rfl (does_load (v := .agg [.int .u64 a0.Trace.Hi, .int .u64 a0.Trace.Lo]) (by conv => lhs; whnf) (by conv => lhs; whnf) ty25 (by exact rfl)) (by decide) ?_
  refine alP (some 11) rfl rfl (does_fieldAddr (q := .ptr 4 0 0) (by conv => lhs; whnf) ty31 rfl ty25 (by decide) (by exact rfl)) (by decide) ?_
  refine alR (some 12) rfl rfl (does_load (v := .agg [.int .u64 a1.Trace.Hi, .int .u64 a1.Trace.Lo]) (by conv => lhs; whnf) (by conv => lhs; whnf) ty25 (by exact rfl)) (by decide) ?_
  refine alP (some 13) rfl rfl (does_eq_struct (v := .bool (!((a0.Trace.Hi == a1.Trace.Hi) && ((a0.Trace.Lo == a1.Trace.Lo) && true)))) (by conv => lhs; whnf) (by conv => lhs; whnf) fk25 rfl ag25 eg25 (by conv => lhs; whnf) rfl) (by decide) ?_
  refine al_nil ?_
  refine hK3 _ ?_
  refine aw_bool (b := (!((a0.Trace.Hi == a1.Trace.Hi) && ((a0.Trace.Lo == a1.Trace.Lo) && true)))) 13 rfl (fun c4 => ?_) (fun c4 => ?_)
  · have h := ifT c4 h
    refine aw_cond_t (by decide) rfl ?_
    refine aw_seq_k (fun K5 hK5 => ?_)
    refine aw_regL ?_
    refine alR (some 14) rfl rfl (does_load (v := .agg [.int .u64 a0.Trace.Hi, .int .u64 a0.Trace.Lo, .int .i64 a0.First, .int .i64 a0.Last, .bool a0.Sure, .sl 10 (List.map enc30 a0.Spans)]) (by conv => lhs; whnf) (by conv => lhs; whnf) ty28 (by exact rfl)) (by decide) ?_
    refine alD none rfl rfl (do_store (cs' := [.int .u64 a0.Trace.Hi, .int .u64 a0.Trace.Lo, .int .i64 a0.First, .int .i64 a0.Last, .bool a0.Sure, .sl 10 (List.map enc30 a0.Spans)]) (by conv => lhs; whnf) (by conv => lhs; whnf) (by conv => lhs; whnf) ty28 rfl rfl rfl (by exact rfl)) (by decide) ?_
    refine alP (some 7) rfl rfl (does_assign (v := .bool false) (by exact rfl)) (by decide) ?_
    refine al_nil ?_
    refine hK5 _ ?_
    refine aw_ret ?_
    obtain rfl := Option.some.inj h
    exact ret_ok1 (by conv => lhs; whnf) (by conv => lhs; whnf) (by exact rfl) (.inr rfl) rfl
  · have h := ifF c4 h
    refine aw_cond_f (by decide) rfl ?_
    refine aw_skip ?_
    refine hK2 _ ?_
    refine aw_seq_k (fun K6 hK6 => ?_)
    refine aw_regL ?_
    refine alP (some 15) rfl rfl (does_move (v := .int .i64 a2) (by exact rfl)) (by decide) ?_
    refine alP (some 16) rfl rfl (does_fieldAddr (q := .ptr 3 0 3) (by conv => lhs; whnf) ty28 rfl ty3 (by decide) (by exact rfl)) (by decide) ?_
    refine alD none rfl rfl (do_store (cs' := [.int .u64 a0.Trace.Hi, .int .u64 a0.Trace.Lo, .int .i64 a0.First, .int .i64 a2, .bool a0.Sure, .sl 10 (List.map enc30 a0.Spans)]) (by conv => lhs; whnf) (by conv => lhs; whnf) (by conv => lhs; whnf) ty3 rfl rfl rfl (by exact rfl)) (by decide) ?_
    refine al_nil ?_
    refine hK6 _ ?_
    obtain ⟨q7, h, hk8⟩ := bnd_some h
    refine aw_cut (fun s => gleaningref15_Add_k0 a0 a1 a2 = some r ∧ s = lit [(3, .ptr 3 0 0), (4, .ptr 4 0 0), (6, .ptr 6 0 0)] [((3, 0), .box [.int .u64 a0.Trace.Hi, .int .u64 a0.Trace.Lo, .int .i64 a0.First, .int .i64 a2, .bool a0.Sure, .sl 10 (List.map enc30 a0.Spans)]), ((4, 0), .box [.int .u64 a1.Trace.Hi, .int .u64 a1.Trace.Lo, .int .u64 a1.Id, .int .u64 a1.Parent, .str a1.Service, .str a1.Op, .int .i64 a1.Start, .int .i64 a1.Dur, .bool a1.Err, .sl 2 (List.map enc68 a1.Attrs)]), ((6, 0), .box [.int .u64 0, .int .u64 0, .int .i64 0, .int .i64 0, .bool false, .nil])] [(3, 1), (4, 1), (6, 1)] X) ?_ ?_
    · skip
      refine aw_seq_k (fun K9 hK9 => ?_)
      refine aw_regL ?_
      refine alP (some 8) rfl rfl (does_assign (v := .int .i64 0) (by exact rfl)) (by decide) ?_
      refine al_nil ?_
      refine hK9 _ ?_
      refine aw_block ?_
      refine aw_loop' (fun m s => ∃ (v8_1 : Int), loopN (fun (s : Int) => gleaningref15_Add_l1 a0 a1 a2 s) m v8_1 = some q7 ∧ s = lit [(3, .ptr 3 0 0), (4, .ptr 4 0 0), (6, .ptr 6 0 0), (8, .int .i64 v8_1)] [((3, 0), .box [.int .u64 a0.Trace.Hi, .int .u64 a0.Trace.Lo, .int .i64 a0.First, .int .i64 a2, .bool a0.Sure, .sl 10 (List.map enc30 a0.Spans)]), ((4, 0), .box [.int .u64 a1.Trace.Hi, .int .u64 a1.Trace.Lo, .int .u64 a1.Id, .int .u64 a1.Parent, .str a1.Service, .str a1.Op, .int .i64 a1.Start, .int .i64 a1.Dur, .bool a1.Err, .sl 2 (List.map enc68 a1.Attrs)]), ((6, 0), .box [.int .u64 0, .int .u64 0, .int .i64 0, .int .i64 0, .bool false, .nil])] [(3, 1), (4, 1), (6, 1)] X) Fu
        ⟨_, reb_lit [(3, .ptr 3 0 0), (4, .ptr 4 0 0), (6, .ptr 6 0 0), (8, .int .i64 (0))] [(3, 0), (4, 0), (6, 0)] [((3, 0), .box [.int .u64 a0.Trace.Hi, .int .u64 a0.Trace.Lo, .int .i64 a0.First, .int .i64 a2, .bool a0.Sure, .sl 10 (List.map enc30 a0.Spans)]), ((4, 0), .box [.int .u64 a1.Trace.Hi, .int .u64 a1.Trace.Lo, .int .u64 a1.Id, .int .u64 a1.Parent, .str a1.Service, .str a1.Op, .int .i64 a1.Start, .int .i64 a1.Dur, .bool a1.Err, .sl 2 (List.map enc68 a1.Attrs)]), ((6, 0), .box [.int .u64 0, .int .u64 0, .int .i64 0, .int .i64 0, .bool false, .nil])] [(3, 1), (4, 1), (6, 1)] (envOk_cons (by conv => lhs; whnf) (by exact rfl) (envOk_cons (by conv => lhs; whnf) (by exact rfl) (envOk_cons (by conv => lhs; whnf) (by exact rfl) (envOk_cons (by conv => lhs; whnf) (by exact rfl) envOk_nil)))) (objOk_cons (by conv => lhs; whnf) (by conv => lhs; whnf) (by exact rfl) (by simp) (objOk_cons (by conv => lhs; whnf) (by conv => lhs; whnf) (by exact rfl) (by simp) (objOk_cons (by conv => lhs; whnf) (by conv => lhs; whnf) (by exact rfl) (by simp) objOk_nil))) (nodup_b rfl) (nodup_b rfl) rfl rfl, 0, h, rfl⟩ ?_
      rintro m s ⟨v8_1, h, rfl⟩
      obtain ⟨m1, q10, rfl, h, hq11⟩ := loop_some h
      replace h : gleaningref15_Add_l1 a0 a1 a2 v8_1 = some q10 := h
      unfold gleaningref15_Add_l1 at h
      refine aw_seq_k (fun K12 hK12 => ?_)
      refine aw_seq_k (fun K13 hK13 => ?_)
      refine aw_regL ?_
      refine alP (some 17) rfl rfl (does_move (v := .int .i64 v8_1) (by exact rfl)) (by decide) ?_
      refine alP (some 18) rfl rfl (does_fieldAddr (q := .ptr 3 0 5) (by conv => lhs; whnf) ty28 rfl ty26 (by decide) (by exact rfl)) (by decide) ?_
      refine alR (some 19) rfl rfl (does_load (v := .sl 10 (List.map enc30 a0.Spans)) (by conv => lhs; whnf) (by conv => lhs; whnf) ty26 (by exact rfl)) (by decide) ?_
      refine alP (some 20) rfl rfl ((does_len_sl (by conv => lhs; whnf) ty26).castp (v' := .int .i64 (List.length a0.Spans : Int)) (by exact len_map _)) (by decide) ?_
      refine alP (some 21) rfl rfl (does_bin (v := .bool (decide (v8_1 < (List.length a0.Spans : Int)))) (by conv => lhs; whnf) (by conv => lhs; whnf) rfl) (by decide) ?_
      refine al_nil ?_
      refine hK13 _ ?_
      refine aw_bool (b := (decide (v8_1 < (List.length a0.Spans : Int)))) 21 rfl (fun c14 => ?_) (fun c14 => ?_)
      · have h := ifT c14 h
        refine aw_cond_t (by decide) rfl ?_
        refine aw_skip ?_
        refine hK12 _ ?_
        refine aw_seq_k (fun K15 hK15 => ?_)
        refine aw_block ?_
        refine aw_seq_k (fun K16 hK16 => ?_)
        refine aw_regd (by kernel_rfl) (by decide +kernel) ?_
        refine aoP (some 24) rfl rfl (does_fieldAddr (q := .ptr 3 0 5) (by conv => lhs; whnf) ty28 rfl ty26 (by decide) (by exact rfl)) (by decide) ?_
        refine aoR (some 25) rfl rfl (does_load (v := .sl 10 (List.map enc30 a0.Spans)) (by conv => lhs; whnf) (by conv => lhs; whnf) ty26 (by exact rfl)) (by decide) ?_
        refine aoP (some 26) rfl rfl (does_move (v := .int .i64 v8_1) (by exact rfl)) (by decide) ?_
        obtain ⟨g17, h⟩ := gd_some h
        obtain ⟨x18, hx18, h⟩ := bnd_some h
        refine aoP (some 27) rfl rfl (does_indexAddr_sl (el := .agg [.int .u64 x18.Trace.Hi, .int .u64 x18.Trace.Lo, .int .u64 x18.Id, .int .u64 x18.Parent, .str x18.Service, .str x18.Op, .int .i64 x18.Start, .int .i64 x18.Dur, .bool x18.Err, .sl 2 (List.map enc68 x18.Attrs)]) (by conv => lhs; whnf) (by conv => lhs; whnf) ty26 ty31 g17 (by exact map_get hx18)) (by decide) ?_
        refine aoP (some 28) rfl rfl (does_fieldAddr (q := .rptr [.int .u64 x18.Id, .int .u64 x18.Parent, .str x18.Service, .str x18.Op, .int .i64 x18.Start, .int .i64 x18.Dur, .bool x18.Err, .sl 2 (List.map enc68 x18.Attrs)]) (by conv => lhs; whnf) ty31 rfl ty23 (by decide) (by exact rfl)) (by decide) ?_
        refine aoR (some 29) rfl rfl (does_load (v := .int .u64 x18.Id) (by conv => lhs; whnf) (by conv => lhs; whnf) ty23 (by exact rfl)) (by decide) ?_
        refine aoP (some 30) rfl rfl (does_fieldAddr (q := .ptr 4 0 2) (by conv => lhs; whnf) ty31 rfl ty23 (by decide) (by exact rfl)) (by decide) ?_
        refine aoR (some 31) rfl rfl (does_load (v := .int .u64 a1.Id) (by conv => lhs; whnf) (by conv => lhs; whnf) ty23 (by exact rfl)) (by decide) ?_
        refine aoP (some 32) rfl rfl (does_bin (v := .bool (x18.Id == a1.Id)) (by conv => lhs; whnf) (by conv => lhs; whnf) rfl) (by decide) ?_
        refine ao_nil_d (by kernel_rfl) ?_
        refine hK16 _ ?_
        refine aw_bool (b := (x18.Id == a1.Id)) 32 rfl (fun c19 => ?_) (fun c19 => ?_)
        · have h := ifT c19 h
          refine aw_cond_t (by decide) rfl ?_
          refine aw_seq_k (fun K20 hK20 => ?_)
          refine aw_regL ?_
          refine alR (some 33) rfl rfl (does_load (v := .agg [.int .u64 a0.Trace.Hi, .int .u64 a0.Trace.Lo, .int .i64 a0.First, .int .i64 a2, .bool a0.Sure, .sl 10 (List.map enc30 a0.Spans)]) (by conv => lhs; whnf) (by conv => lhs; whnf) ty28 (by exact rfl)) (by decide) ?_
          refine alD none rfl rfl (do_store (cs' := [.int .u64 a0.Trace.Hi, .int .u64 a0.Trace.Lo, .int .i64 a0.First, .int .i64 a2, .bool a0.Sure, .sl 10 (List.map enc30 a0.Spans)]) (by conv => lhs; whnf) (by conv => lhs; whnf) (by conv => lhs; whnf) ty28 rfl rfl rfl (by exact rfl)) (by decide) ?_
          refine alP (some 7) rfl rfl (does_assign (v := .bool false) (by exact rfl)) (by decide) ?_
          refine al_nil ?_
          refine hK20 _ ?_
          refine aw_ret ?_
          have h := leafR h hq11
          have h := leafR h hk8
          obtain rfl := Option.some.inj h
          exact ret_ok1 (by conv => lhs; whnf) (by conv => lhs; whnf) (by exact rfl) (.inr rfl) rfl
        · have h := ifF c19 h
          refine aw_cond_f (by decide) rfl ?_
          refine aw_skip ?_
          refine hK15 _ ?_
          refine aw_regL ?_
          refine alP (some 22) rfl rfl (does_move (v := .int .i64 v8_1) (by exact rfl)) (by decide) ?_
          refine alP (some 23) rfl rfl (does_bin (v := .int .i64 (IntKind.i64.wrap (v8_1 + 1))) (by conv => lhs; whnf) (by conv => lhs; whnf) rfl) (by decide) ?_
          refine alP (some 8) rfl rfl (does_assign (v := .int .i64 (IntKind.i64.wrap (v8_1 + 1))) (by exact rfl)) (by decide) ?_
          refine al_nil ?_
          have h := leafL h hq11
          exact ⟨m1, Nat.lt_succ_self _, _, reb_lit [(3, .ptr 3 0 0), (4, .ptr 4 0 0), (6, .ptr 6 0 0), (8, .int .i64 (IntKind.i64.wrap (v8_1 + 1)))] [(3, 0), (4, 0), (6, 0)] [((3, 0), .box [.int .u64 a0.Trace.Hi, .int .u64 a0.Trace.Lo, .int .i64 a0.First, .int .i64 a2, .bool a0.Sure, .sl 10 (List.map enc30 a0.Spans)]), ((4, 0), .box [.int .u64 a1.Trace.Hi, .int .u64 a1.Trace.Lo, .int .u64 a1.Id, .int .u64 a1.Parent, .str a1.Service, .str a1.Op, .int .i64 a1.Start, .int .i64 a1.Dur, .bool a1.Err, .sl 2 (List.map enc68 a1.Attrs)]), ((6, 0), .box [.int .u64 0, .int .u64 0, .int .i64 0, .int .i64 0, .bool false, .nil])] [(3, 1), (4, 1), (6, 1)] (envOk_cons (by conv => lhs; whnf) (by exact rfl) (envOk_cons (by conv => lhs; whnf) (by exact rfl) (envOk_cons (by conv => lhs; whnf) (by exact rfl) (envOk_cons (by conv => lhs; whnf) (by exact rfl) envOk_nil)))) (objOk_cons (by conv => lhs; whnf) (by conv => lhs; whnf) (by exact rfl) (by simp) (objOk_cons (by conv => lhs; whnf) (by conv => lhs; whnf) (by exact rfl) (by simp) (objOk_cons (by conv => lhs; whnf) (by conv => lhs; whnf) (by exact rfl) (by simp) objOk_nil))) (nodup_b rfl) (nodup_b rfl) rfl rfl, (IntKind.i64.wrap (v8_1 + 1)), h, rfl⟩
      · have h := ifF c14 h
        refine aw_cond_f (by decide) rfl ?_
        refine aw_exit ?_
        have h := leafR h hq11
        have h := leafL h hk8
        exact ⟨_, reb_lit [(3, .ptr 3 0 0), (4, .ptr 4 0 0), (6, .ptr 6 0 0)] [(3, 0), (4, 0), (6, 0)] [((3, 0), .box [.int .u64 a0.Trace.Hi, .int .u64 a0.Trace.Lo, .int .i64 a0.First, .int .i64 a2, .bool a0.Sure, .sl 10 (List.map enc30 a0.Spans)]), ((4, 0), .box [.int .u64 a1.Trace.Hi, .int .u64 a1.Trace.Lo, .int .u64 a1.Id, .int .u64 a1.Parent, .str a1.Service, .str a1.Op, .int .i64 a1.Start, .int .i64 a1.Dur, .bool a1.Err, .sl 2 (List.map enc68 a1.Attrs)]), ((6, 0), .box [.int .u64 0, .int .u64 0, .int .i64 0, .int .i64 0, .bool false, .nil])] [(3, 1), (4, 1), (6, 1)] (envOk_cons (by conv => lhs; whnf) (by exact rfl) (envOk_cons (by conv => lhs; whnf) (by exact rfl) (envOk_cons (by conv => lhs; whnf) (by exact rfl) envOk_nil))) (objOk_cons (by conv => lhs; whnf) (by conv => lhs; whnf) (by exact rfl) (by simp) (objOk_cons (by conv => lhs; whnf) (by conv => lhs; whnf) (by exact rfl) (by simp) (objOk_cons (by conv => lhs; whnf) (by conv => lhs; whnf) (by exact rfl) (by simp) objOk_nil))) (nodup_b rfl) (nodup_b rfl) rfl rfl, h, rfl⟩
    · rintro s ⟨h, rfl⟩
      unfold gleaningref15_Add_k0 at h
      refine aw_seq_k (fun K21 hK21 => ?_)
      refine aw_regd (by kernel_rfl) (by decide +kernel) ?_
      refine aoP (some 34) rfl rfl (does_fieldAddr (q := .ptr 3 0 5) (by conv => lhs; whnf) ty28 rfl ty26 (by decide) (by exact rfl)) (by decide) ?_
      refine aoR (some 35) rfl rfl (does_load (v := .sl 10 (List.map enc30 a0.Spans)) (by conv => lhs; whnf) (by conv => lhs; whnf) ty26 (by exact rfl)) (by decide) ?_
      obtain ⟨g22, h⟩ := gd_some h
      refine aoD (some 36) rfl rfl (do_append (v := List.map enc30 a0.Spans) (by conv => lhs; whnf) (by conv => lhs; whnf) ty26 ty31 rfl rfl (by conv => lhs; whnf) (by first | exact .inl rfl | exact .inr ⟨rfl, rfl⟩) (by conv => lhs; whnf) (by first | exact .inr rfl | exact .inl rfl) (List.nil_append _) (fit_map g22)) (by decide) ?_
      refine aoR (some 37) rfl rfl (does_load (v := .agg [.int .u64 a1.Trace.Hi, .int .u64 a1.Trace.Lo, .int .u64 a1.Id, .int .u64 a1.Parent, .str a1.Service, .str a1.Op, .int .i64 a1.Start, .int .i64 a1.Dur, .bool a1.Err, .sl 2 (List.map enc68 a1.Attrs)]) (by conv => lhs; whnf) (by conv => lhs; whnf) ty31 (by exact rfl)) (by decide) ?_
      refine aoD (some 38) rfl rfl (do_buildSlice (xs := List.map enc30 [a1]) ty26 ty31 rfl rfl rfl rfl rfl rfl rfl rfl) (by decide) ?_
      obtain ⟨g23, h⟩ := gd_some h
      refine aoD (some 39) rfl rfl (do_append (v := List.map enc30 (a0.Spans ++ [a1])) (by conv => lhs; whnf) (by conv => lhs; whnf) ty26 ty31 rfl rfl (by conv => lhs; whnf) (by first | exact .inl rfl | exact .inr ⟨rfl, rfl⟩) (by conv => lhs; whnf) (by first | exact .inr rfl | exact .inl rfl) (map_app _ _) (fit_map g23)) (by decide) ?_
      refine aoP (some 40) rfl rfl (does_fieldAddr (q := .ptr 3 0 5) (by conv => lhs; whnf) ty28 rfl ty26 (by decide) (by exact rfl)) (by decide) ?_
      refine aoD none rfl rfl (do_store (cs' := [.int .u64 a0.Trace.Hi, .int .u64 a0.Trace.Lo, .int .i64 a0.First, .int .i64 a2, .bool a0.Sure, .own 39 0]) (by conv => lhs; whnf) (by conv => lhs; whnf) (by conv => lhs; whnf) ty26 rfl rfl rfl (by exact rfl)) (by decide) ?_
      refine ao_nil_d (by kernel_rfl) ?_
      refine hK21 _ ?_
      refine aw_seq_k (fun K24 hK24 => ?_)
      refine aw_regL ?_
      refine alR (some 41) rfl rfl (does_load (v := .agg [.int .u64 a0.Trace.Hi, .int .u64 a0.Trace.Lo, .int .i64 a0.First, .int .i64 a2, .bool a0.Sure, .own 39 0]) (by conv => lhs; whnf) (by conv => lhs; whnf) ty28 (by exact rfl)) (by decide) ?_
      refine alD none rfl rfl (do_store (cs' := [.int .u64 a0.Trace.Hi, .int .u64 a0.Trace.Lo, .int .i64 a0.First, .int .i64 a2, .bool a0.Sure, .own 39 0]) (by conv => lhs; whnf) (by conv => lhs; whnf) (by conv => lhs; whnf) ty28 rfl rfl rfl (by exact rfl)) (by decide) ?_
      refine alP (some 7) rfl rfl (does_assign (v := .bool true) (by exact rfl)) (by decide) ?_
      refine al_nil ?_
      refine hK24 _ ?_
      refine aw_ret ?_
      obtain rfl := Option.some.inj h
      cases hb
def gleaningref15_Spans_k2 (a0 : List Episode) (a1 : Trace) (v6_0 : Int) (v5_s_0_1 : Int) (v5_s_1_1 : Int) (v5_s_2_1 : Int) (v5_s_3_1 : Int) (v5_s_4_1 : Bool) (v5_s_5_1 : List Span) (v7_1 : Int) : Option ((Int × Int × Int × Int × Bool × List Span × Int) ⊕ ((Int × Int × Int × Int × Bool × List Span × Int) ⊕ (List Span))) :=
  gd (0 ≤ v6_0) (Option.bind (a0[(Int.toNat v6_0)]?) (fun (x26 : Episode) => gd (0 ≤ v7_1) (Option.bind (x26.Spans[(Int.toNat v7_1)]?) (fun (x28 : Span) => Option.bind (gleaningref15_Add (Episode.mk (Trace.mk v5_s_0_1 v5_s_1_1) v5_s_2_1 v5_s_3_1 v5_s_4_1 v5_s_5_1) (Span.mk a1 x28.Id x28.Parent x28.Service x28.Op x28.Start x28.Dur x28.Err x28.Attrs) 0) (fun (x31 : Episode × Bool) => if x31.2 = true then (gd (0 ≤ v6_0) (Option.bind (a0[(Int.toNat v6_0)]?) (fun (x36 : Episode) => gd (0 ≤ v7_1) (Option.bind (x36.Spans[(Int.toNat v7_1)]?) (fun (x38 : Span) => gd (0 ≤ (IntKind.i64.wrap ((List.length x31.1.Spans : Int) - 1))) (Option.bind (x31.1.Spans[(Int.toNat (IntKind.i64.wrap ((List.length x31.1.Spans : Int) - 1)))]?) (fun (x40 : Span) => some (Sum.inl (x31.1.Trace.Hi, x31.1.Trace.Lo, x31.1.First, x31.1.Last, x31.1.Sure, (List.set x31.1.Spans (Int.toNat (IntKind.i64.wrap ((List.length x31.1.Spans : Int) - 1))) x38), (IntKind.i64.wrap (v7_1 + 1))))))))))) else (some (Sum.inl (x31.1.Trace.Hi, x31.1.Trace.Lo, x31.1.First, x31.1.Last, x31.1.Sure, x31.1.Spans, (IntKind.i64.wrap (v7_1 + 1))))))))))
def gleaningref15_Spans_l1 (a0 : List Episode) (a1 : Trace) (v6_0 : Int) (v5_s_0_1 : Int) (v5_s_1_1 : Int) (v5_s_2_1 : Int) (v5_s_3_1 : Int) (v5_s_4_1 : Bool) (v5_s_5_1 : List Span) (v7_1 : Int) : Option ((Int × Int × Int × Int × Bool × List Span × Int) ⊕ ((Int × Int × Int × Int × Bool × List Span × Int) ⊕ (List Span))) :=
  Option.bind (gd (0 ≤ v6_0) (Option.bind (a0[(Int.toNat v6_0)]?) (fun (x18 : Episode) => if (decide (v7_1 < (List.length x18.Spans : Int))) = true then (gd (0 ≤ v6_0) (Option.bind (a0[(Int.toNat v6_0)]?) (fun (x21 : Episode) => if ((x21.Trace.Hi == a1.Hi) && ((x21.Trace.Lo == a1.Lo) && true)) = true then (some (Sum.inl ())) else (some (Sum.inr (Sum.inr (Sum.inl (v5_s_0_1, v5_s_1_1, v5_s_2_1, v5_s_3_1, v5_s_4_1, v5_s_5_1, (IntKind.i64.wrap (v6_0 + 1)))))))))) else (some (Sum.inr (Sum.inr (Sum.inl (v5_s_0_1, v5_s_1_1, v5_s_2_1, v5_s_3_1, v5_s_4_1, v5_s_5_1, (IntKind.i64.wrap (v6_0 + 1)))))))))) (Sum.elim (fun (s : Unit) => gleaningref15_Spans_k2 a0 a1 v6_0 v5_s_0_1 v5_s_1_1 v5_s_2_1 v5_s_3_1 v5_s_4_1 v5_s_5_1 v7_1) some)
def gleaningref15_Spans_l0 (a0 : List Episode) (a1 : Trace) (v5_s_0_0 : Int) (v5_s_1_0 : Int) (v5_s_2_0 : Int) (v5_s_3_0 : Int) (v5_s_4_0 : Bool) (v5_s_5_0 : List Span) (v6_0 : Int) : Option ((Int × Int × Int × Int × Bool × List Span × Int) ⊕ (List Span)) :=
  if (decide (v6_0 < (List.length a0 : Int))) = true then (loopN (fun (s : Int × Int × Int × Int × Bool × List Span × Int) => gleaningref15_Spans_l1 a0 a1 v6_0 s.1 s.2.1 s.2.2.1 s.2.2.2.1 s.2.2.2.2.1 s.2.2.2.2.2.1 s.2.2.2.2.2.2) Fu (v5_s_0_0, v5_s_1_0, v5_s_2_0, v5_s_3_0, v5_s_4_0, v5_s_5_0, 0)) else (some (Sum.inr v5_s_5_0))
def gleaningref15_Spans (a0 : List Episode) (a1 : Trace) : Option (List Span) :=
  loopN (fun (s : Int × Int × Int × Int × Bool × List Span × Int) => gleaningref15_Spans_l0 a0 a1 s.1 s.2.1 s.2.2.1 s.2.2.2.1 s.2.2.2.2.1 s.2.2.2.2.2.1 s.2.2.2.2.2.2) Fu (a1.Hi, a1.Lo, 0, 0, false, [], 0)
set_option maxRecDepth 100000 in
set_option maxHeartbeats 8000000 in
/-- gleaning/gleaningref15.Spans -/
theorem gleaningref15_Spans_ok (a0 : List Episode) (a1 : Trace) {r : List Span} (h : gleaningref15_Spans a0 a1 = some r) : Ok Try.prog 23 [.sl 6 (List.map enc27 a0), .agg [.int .u64 a1.Hi, .int .u64 a1.Lo]] [] [] (.sl 10 (List.map enc30 r)) [] [] := by
  unfold gleaningref15_Spans at h
  refine ok_of_code Try.func23 rfl (by show (2 : Nat) ≤ _; decide) (Nat.le_refl _) fun X => ?_
  refine aw_seq_k (fun K1 hK1 => ?_)
  refine aw_regL ?_
  refine alD (some 3) rfl rfl (do_box (by conv => lhs; whnf) rfl rfl) (by decide) ?_
  refine alP (some 4) rfl rfl (does_assign (v := .nil) (by exact rfl)) (by decide) ?_
  refine al_nil ?_
  refine hK1 _ ?_
  refine aw_seq_k (fun K2 hK2 => ?_)
  refine aw_regL ?_
  refine alR (some 11) rfl rfl (does_load (v := .agg [.int .u64 a1.Hi, .int .u64 a1.Lo]) (by conv => lhs; whnf) (by conv => lhs; whnf) ty25 (by exact rfl)) (by decide) ?_
  refine alP (some 12) rfl rfl (do_build_struct (cs := [.int .u64 a1.Hi, .int .u64 a1.Lo, .int .i64 0, .int .i64 0, .bool false, .nil]) ty28 rfl [⟨.struct [(0, 23), (1, 23)], 2, 16, [.int .u64 0, .int .u64 0]⟩, ⟨.int .i64, 1, 8, [.int .i64 0]⟩, ⟨.int .i64, 1, 8, [.int .i64 0]⟩, ⟨.bool, 1, 1, [.bool false]⟩, ⟨.slice 31, 1, 24, [.nil]⟩] (by simp only [List.map, ty25, ty26, ty3, ty4]) (by rfl) (by exact rfl)) (by decide) ?_
  refine alD (some 5) rfl rfl (do_new ty28 rfl rfl) (by decide) ?_
  refine alD none rfl rfl (do_store (cs' := [.int .u64 a1.Hi, .int .u64 a1.Lo, .int .i64 0, .int .i64 0, .bool false, .nil]) (by conv => lhs; whnf) (by conv => lhs; whnf) (by conv => lhs; whnf) ty28 rfl rfl rfl (by exact rfl)) (by decide) ?_
  refine al_nil ?_
  refine hK2 _ ?_
  refine aw_seq_k (fun K3 hK3 => ?_)
  refine aw_seq_k (fun K4 hK4 => ?_)
  refine aw_regL ?_
  refine alP (some 6) rfl rfl (does_assign (v := .int .i64 0) (by exact rfl)) (by decide) ?_
  refine al_nil ?_
  refine hK4 _ ?_
  refine aw_block ?_
  refine aw_loop' (fun m s => ∃ (v5_s_0_0 : Int), ∃ (v5_s_1_0 : Int), ∃ (v5_s_2_0 : Int), ∃ (v5_s_3_0 : Int), ∃ (v5_s_4_0 : Bool), ∃ (v5_s_5_0 : List Span), ∃ (v6_0 : Int), loopN (fun (s : Int × Int × Int × Int × Bool × List Span × Int) => gleaningref15_Spans_l0 a0 a1 s.1 s.2.1 s.2.2.1 s.2.2.2.1 s.2.2.2.2.1 s.2.2.2.2.2.1 s.2.2.2.2.2.2) m (v5_s_0_0, v5_s_1_0, v5_s_2_0, v5_s_3_0, v5_s_4_0, v5_s_5_0, v6_0) = some r ∧ s = lit [(0, .sl 6 (List.map enc27 a0)), (3, .ptr 3 0 0), (5, .ptr 5 0 0), (6, .int .i64 v6_0)] [((3, 0), .box [.int .u64 a1.Hi, .int .u64 a1.Lo]), ((5, 0), .box [.int .u64 v5_s_0_0, .int .u64 v5_s_1_0, .int .i64 v5_s_2_0, .int .i64 v5_s_3_0, .bool v5_s_4_0, .sl 10 (List.map enc30 v5_s_5_0)])] [(3, 1), (5, 1)] X) Fu
    ⟨_, reb_w (tl' := [(0, .sl 6 (List.map enc27 a0)), (3, .ptr 3 0 0), (5, .ptr 5 0 0), (6, .int .i64 (0))]) (ol' := [((3, 0), .box [.int .u64 a1.Hi, .int .u64 a1.Lo]), ((5, 0), .box [.int .u64 a1.Hi, .int .u64 a1.Lo, .int .i64 (0), .int .i64 (0), .bool false, .sl 10 (List.map enc30 [])])]) (reb_lit [(0, .sl 6 (List.map enc27 a0)), (3, .ptr 3 0 0), (5, .ptr 5 0 0), (6, .int .i64 (0))] [(3, 0), (5, 0)] [((3, 0), .box [.int .u64 a1.Hi, .int .u64 a1.Lo]), ((5, 0), .box [.int .u64 a1.Hi, .int .u64 a1.Lo, .int .i64 (0), .int .i64 (0), .bool false, .nil])] [(3, 1), (5, 1)] (envOk_cons (by conv => lhs; whnf) (by exact rfl) (envOk_cons (by conv => lhs; whnf) (by exact rfl) (envOk_cons (by conv => lhs; whnf) (by exact rfl) (envOk_cons (by conv => lhs; whnf) (by exact rfl) envOk_nil)))) (objOk_cons (by conv => lhs; whnf) (by conv => lhs; whnf) (by exact rfl) (by simp) (objOk_cons (by conv => lhs; whnf) (by conv => lhs; whnf) (by exact rfl) (by simp) objOk_nil)) (nodup_b rfl) (nodup_b rfl) rfl rfl) ⟨rfl, le_refl _, rfl, le_refl _, rfl, le_refl _, rfl, le_refl _, trivial⟩ ⟨rfl, .rfl _, rfl, (.box ⟨le_refl _, le_refl _, le_refl _, le_refl _, le_refl _, le_nil _, trivial⟩), trivial⟩, a1.Hi, a1.Lo, 0, 0, false, [], 0, h, rfl⟩ ?_
  rintro m s ⟨v5_s_0_0, v5_s_1_0, v5_s_2_0, v5_s_3_0, v5_s_4_0, v5_s_5_0, v6_0, h, rfl⟩
  obtain ⟨m0, q5, rfl, h, hq6⟩ := loop_some h
  replace h : gleaningref15_Spans_l0 a0 a1 v5_s_0_0 v5_s_1_0 v5_s_2_0 v5_s_3_0 v5_s_4_0 v5_s_5_0 v6_0 = some q5 := h
  unfold gleaningref15_Spans_l0 at h
  refine aw_seq_k (fun K7 hK7 => ?_)
  refine aw_seq_k (fun K8 hK8 => ?_)
  refine aw_regL ?_
  refine alP (some 13) rfl rfl (does_move (v := .int .i64 v6_0) (by exact rfl)) (by decide) ?_
  refine alP (some 14) rfl rfl (does_move (v := .sl 6 (List.map enc27 a0)) (by exact rfl)) (by decide) ?_
  refine alP (some 15) rfl rfl ((does_len_sl (by conv => lhs; whnf) ty22).castp (v' := .int .i64 (List.length a0 : Int)) (by exact len_map _)) (by decide) ?_
  refine alP (some 16) rfl rfl (does_bin (v := .bool (decide (v6_0 < (List.length a0 : Int)))) (by conv => lhs; whnf) (by conv => lhs; whnf) rfl) (by decide) ?_
  refine al_nil ?_
  refine hK8 _ ?_
  refine aw_bool (b := (decide (v6_0 < (List.length a0 : Int)))) 16 rfl (fun c9 => ?_) (fun c9 => ?_)
  · have h := ifT c9 h
    refine aw_cond_t (by decide) rfl ?_
    refine aw_skip ?_
    refine hK7 _ ?_
    refine aw_seq_k (fun K10 hK10 => ?_)
    refine aw_block ?_
    refine aw_seq_k (fun K11 hK11 => ?_)
    refine aw_regL ?_
    refine alP (some 7) rfl rfl (does_assign (v := .int .i64 0) (by exact rfl)) (by decide) ?_
    refine al_nil ?_
    refine hK11 _ ?_
    refine aw_block ?_
    refine aw_loop' (fun m s => ∃ (v5_s_0_1 : Int), ∃ (v5_s_1_1 : Int), ∃ (v5_s_2_1 : Int), ∃ (v5_s_3_1 : Int), ∃ (v5_s_4_1 : Bool), ∃ (v5_s_5_1 : List Span), ∃ (v7_1 : Int), loopN (fun (s : Int × Int × Int × Int × Bool × List Span × Int) => gleaningref15_Spans_l1 a0 a1 v6_0 s.1 s.2.1 s.2.2.1 s.2.2.2.1 s.2.2.2.2.1 s.2.2.2.2.2.1 s.2.2.2.2.2.2) m (v5_s_0_1, v5_s_1_1, v5_s_2_1, v5_s_3_1, v5_s_4_1, v5_s_5_1, v7_1) = some q5 ∧ s = lit [(0, .sl 6 (List.map enc27 a0)), (3, .ptr 3 0 0), (5, .ptr 5 0 0), (6, .int .i64 v6_0), (7, .int .i64 v7_1)] [((3, 0), .box [.int .u64 a1.Hi, .int .u64 a1.Lo]), ((5, 0), .box [.int .u64 v5_s_0_1, .int .u64 v5_s_1_1, .int .i64 v5_s_2_1, .int .i64 v5_s_3_1, .bool v5_s_4_1, .sl 10 (List.map enc30 v5_s_5_1)])] [(3, 1), (5, 1)] X) Fu
      ⟨_, reb_lit [(0, .sl 6 (List.map enc27 a0)), (3, .ptr 3 0 0), (5, .ptr 5 0 0), (6, .int .i64 v6_0), (7, .int .i64 (0))] [(3, 0), (5, 0)] [((3, 0), .box [.int .u64 a1.Hi, .int .u64 a1.Lo]), ((5, 0), .box [.int .u64 v5_s_0_0, .int .u64 v5_s_1_0, .int .i64 v5_s_2_0, .int .i64 v5_s_3_0, .bool v5_s_4_0, .sl 10 (List.map enc30 v5_s_5_0)])] [(3, 1), (5, 1)] (envOk_cons (by conv => lhs; whnf) (by exact rfl) (envOk_cons (by conv => lhs; whnf) (by exact rfl) (envOk_cons (by conv => lhs; whnf) (by exact rfl) (envOk_cons (by conv => lhs; whnf) (by exact rfl) (envOk_cons (by conv => lhs; whnf) (by exact rfl) envOk_nil))))) (objOk_cons (by conv => lhs; whnf) (by conv => lhs; whnf) (by exact rfl) (by simp) (objOk_cons (by conv => lhs; whnf) (by conv => lhs; whnf) (by exact rfl) (by simp) objOk_nil)) (nodup_b rfl) (nodup_b rfl) rfl rfl, v5_s_0_0, v5_s_1_0, v5_s_2_0, v5_s_3_0, v5_s_4_0, v5_s_5_0, 0, h, rfl⟩ ?_
    rintro m s ⟨v5_s_0_1, v5_s_1_1, v5_s_2_1, v5_s_3_1, v5_s_4_1, v5_s_5_1, v7_1, h, rfl⟩
    obtain ⟨m1, q12, rfl, h, hq13⟩ := loop_some h
    replace h : gleaningref15_Spans_l1 a0 a1 v6_0 v5_s_0_1 v5_s_1_1 v5_s_2_1 v5_s_3_1 v5_s_4_1 v5_s_5_1 v7_1 = some q12 := h
    unfold gleaningref15_Spans_l1 at h
    obtain ⟨q14, h, hk15⟩ := bnd_some h
    refine aw_cut (fun s => gleaningref15_Spans_k2 a0 a1 v6_0 v5_s_0_1 v5_s_1_1 v5_s_2_1 v5_s_3_1 v5_s_4_1 v5_s_5_1 v7_1 = some q12 ∧ s = lit [(0, .sl 6 (List.map enc27 a0)), (3, .ptr 3 0 0), (5, .ptr 5 0 0), (6, .int .i64 v6_0), (7, .int .i64 v7_1)] [((3, 0), .box [.int .u64 a1.Hi, .int .u64 a1.Lo]), ((5, 0), .box [.int .u64 v5_s_0_1, .int .u64 v5_s_1_1, .int .i64 v5_s_2_1, .int .i64 v5_s_3_1, .bool v5_s_4_1, .sl 10 (List.map enc30 v5_s_5_1)])] [(3, 1), (5, 1)] X) ?_ ?_
    · skip
      refine aw_seq_k (fun K16 hK16 => ?_)
      refine aw_regd (by kernel_rfl) (by decide +kernel) ?_
      refine aoP (some 19) rfl rfl (does_move (v := .int .i64 v7_1) (by exact rfl)) (by decide) ?_
      refine aoP (some 20) rfl rfl (does_move (v := .sl 6 (List.map enc27 a0)) (by exact rfl)) (by decide) ?_
      refine aoP (some 21) rfl rfl (does_move (v := .int .i64 v6_0) (by exact rfl)) (by decide) ?_
      obtain ⟨g17, h⟩ := gd_some h
      obtain ⟨x18, hx18, h⟩ := bnd_some h
      refine aoP (some 22) rfl rfl (does_indexAddr_sl (el := .agg [.int .u64 x18.Trace.Hi, .int .u64 x18.Trace.Lo, .int .i64 x18.First, .int .i64 x18.Last, .bool x18.Sure, .sl 10 (List.map enc30 x18.Spans)]) (by conv => lhs; whnf) (by conv => lhs; whnf) ty22 ty28 g17 (by exact map_get hx18)) (by decide) ?_
      refine aoP (some 23) rfl rfl (does_fieldAddr (q := .rptr [.sl 10 (List.map enc30 x18.Spans)]) (by conv => lhs; whnf) ty28 rfl ty26 (by decide) (by exact rfl)) (by decide) ?_
      refine aoR (some 24) rfl rfl (does_load (v := .sl 10 (List.map enc30 x18.Spans)) (by conv => lhs; whnf) (by conv => lhs; whnf) ty26 (by exact rfl)) (by decide) ?_
      refine aoP (some 25) rfl rfl ((does_len_sl (by conv => lhs; whnf) ty26).castp (v' := .int .i64 (List.length x18.Spans : Int)) (by exact len_map _)) (by decide) ?_
      refine aoP (some 26) rfl rfl (does_bin (v := .bool (decide (v7_1 < (List.length x18.Spans : Int)))) (by conv => lhs; whnf) (by conv => lhs; whnf) rfl) (by decide) ?_
      refine aoP (some 27) rfl rfl (does_move (v := .bool (decide (v7_1 < (List.length x18.Spans : Int)))) (by exact rfl)) (by decide) ?_
      refine ao_bool (c := (decide (v7_1 < (List.length x18.Spans : Int)))) 27 rfl (fun c19 => ?_) (fun c19 => ?_)
      · have h := ifT c19 h
        refine aoP (some 28) rfl rfl (does_move (v := .sl 6 (List.map enc27 a0)) (by exact rfl)) (by decide) ?_
        refine aoP (some 29) rfl rfl (does_move (v := .int .i64 v6_0) (by exact rfl)) (by decide) ?_
        obtain ⟨g20, h⟩ := gd_some h
        obtain ⟨x21, hx21, h⟩ := bnd_some h
        refine aoP (some 30) rfl rfl (does_indexAddr_sl (el := .agg [.int .u64 x21.Trace.Hi, .int .u64 x21.Trace.Lo, .int .i64 x21.First, .int .i64 x21.Last, .bool x21.Sure, .sl 10 (List.map enc30 x21.Spans)]) (by conv => lhs; whnf) (by conv => lhs; whnf) ty22 ty28 g20 (by exact map_get hx21)) (by decide) ?_
        refine aoP (some 31) rfl rfl (does_fieldAddr (q := .rptr [.int .u64 x21.Trace.Hi, .int .u64 x21.Trace.Lo, .int .i64 x21.First, .int .i64 x21.Last, .bool x21.Sure, .sl 10 (List.map enc30 x21.Spans)]) (by conv => lhs; whnf) ty28 rfl ty25 (by decide) (by exact rfl)) (by decide) ?_
        refine aoR (some 32) rfl rfl (does_load (v := .agg [.int .u64 x21.Trace.Hi, .int .u64 x21.Trace.Lo]) (by conv => lhs; whnf) (by conv => lhs; whnf) ty25 (by exact rfl)) (by decide) ?_
        refine aoR (some 33) rfl rfl (does_load (v := .agg [.int .u64 a1.Hi, .int .u64 a1.Lo]) (by conv => lhs; whnf) (by conv => lhs; whnf) ty25 (by exact rfl)) (by decide) ?_
        refine aoP (some 34) rfl rfl (does_eq_struct (v := .bool ((x21.Trace.Hi == a1.Hi) && ((x21.Trace.Lo == a1.Lo) && true))) (by conv => lhs; whnf) (by conv => lhs; whnf) fk25 rfl ag25 eg25 (by conv => lhs; whnf) rfl) (by decide) ?_
        refine aoP (some 35) rfl rfl (does_pick (v := .bool ((x21.Trace.Hi == a1.Hi) && ((x21.Trace.Lo == a1.Lo) && true))) (by conv => lhs; whnf) (by exact rfl)) (by decide) ?_
        refine ao_nil_d (by kernel_rfl) ?_
        refine hK16 _ ?_
        refine aw_bool (b := ((x21.Trace.Hi == a1.Hi) && ((x21.Trace.Lo == a1.Lo) && true))) 35 rfl (fun c22 => ?_) (fun c22 => ?_)
        · have h := ifT c22 h
          refine aw_cond_t (by decide) rfl ?_
          refine aw_skip ?_
          have h := leafL h hk15
          exact ⟨_, reb_lit [(0, .sl 6 (List.map enc27 a0)), (3, .ptr 3 0 0), (5, .ptr 5 0 0), (6, .int .i64 v6_0), (7, .int .i64 v7_1)] [(3, 0), (5, 0)] [((3, 0), .box [.int .u64 a1.Hi, .int .u64 a1.Lo]), ((5, 0), .box [.int .u64 v5_s_0_1, .int .u64 v5_s_1_1, .int .i64 v5_s_2_1, .int .i64 v5_s_3_1, .bool v5_s_4_1, .sl 10 (List.map enc30 v5_s_5_1)])] [(3, 1), (5, 1)] (envOk_cons (by conv => lhs; whnf) (by exact rfl) (envOk_cons (by conv => lhs; whnf) (by exact rfl) (envOk_cons (by conv => lhs; whnf) (by exact rfl) (envOk_cons (by conv => lhs; whnf) (by exact rfl) (envOk_cons (by conv => lhs; whnf) (by exact rfl) envOk_nil))))) (objOk_cons (by conv => lhs; whnf) (by conv => lhs; whnf) (by exact rfl) (by simp) (objOk_cons (by conv => lhs; whnf) (by conv => lhs; whnf) (by exact rfl) (by simp) objOk_nil)) (nodup_b rfl) (nodup_b rfl) rfl rfl, h, rfl⟩
        · have h := ifF c22 h
          refine aw_cond_f (by decide) rfl ?_
          refine aw_exit ?_
          have h := leafR h hk15
          have h := leafR h hq13
          refine hK10 _ ?_
          refine aw_regL ?_
          refine alP (some 17) rfl rfl (does_move (v := .int .i64 v6_0) (by exact rfl)) (by decide) ?_
          refine alP (some 18) rfl rfl (does_bin (v := .int .i64 (IntKind.i64.wrap (v6_0 + 1))) (by conv => lhs; whnf) (by conv => lhs; whnf) rfl) (by decide) ?_
          refine alP (some 6) rfl rfl (does_assign (v := .int .i64 (IntKind.i64.wrap (v6_0 + 1))) (by exact rfl)) (by decide) ?_
          refine al_nil ?_
          have h := leafL h hq6
          exact ⟨m0, Nat.lt_succ_self _, _, reb_lit [(0, .sl 6 (List.map enc27 a0)), (3, .ptr 3 0 0), (5, .ptr 5 0 0), (6, .int .i64 (IntKind.i64.wrap (v6_0 + 1)))] [(3, 0), (5, 0)] [((3, 0), .box [.int .u64 a1.Hi, .int .u64 a1.Lo]), ((5, 0), .box [.int .u64 v5_s_0_1, .int .u64 v5_s_1_1, .int .i64 v5_s_2_1, .int .i64 v5_s_3_1, .bool v5_s_4_1, .sl 10 (List.map enc30 v5_s_5_1)])] [(3, 1), (5, 1)] (envOk_cons (by conv => lhs; whnf) (by exact rfl) (envOk_cons (by conv => lhs; whnf) (by exact rfl) (envOk_cons (by conv => lhs; whnf) (by exact rfl) (envOk_cons (by conv => lhs; whnf) (by exact rfl) envOk_nil)))) (objOk_cons (by conv => lhs; whnf) (by conv => lhs; whnf) (by exact rfl) (by simp) (objOk_cons (by conv => lhs; whnf) (by conv => lhs; whnf) (by exact rfl) (by simp) objOk_nil)) (nodup_b rfl) (nodup_b rfl) rfl rfl, v5_s_0_1, v5_s_1_1, v5_s_2_1, v5_s_3_1, v5_s_4_1, v5_s_5_1, (IntKind.i64.wrap (v6_0 + 1)), h, rfl⟩
      · have h := ifF c19 h
        refine aoS (some 28) rfl rfl (by decide) ?_
        refine aoS (some 29) rfl rfl (by decide) ?_
        refine aoS (some 30) rfl rfl (by decide) ?_
        refine aoS (some 31) rfl rfl (by decide) ?_
        refine aoS (some 32) rfl rfl (by decide) ?_
        refine aoS (some 33) rfl rfl (by decide) ?_
        refine aoS (some 34) rfl rfl (by decide) ?_
        refine aoP (some 35) rfl rfl (does_pick (v := .bool false) (by conv => lhs; whnf) (by exact rfl)) (by decide) ?_
        refine ao_nil_d (by kernel_rfl) ?_
        refine hK16 _ ?_
        refine aw_cond_f (by decide) rfl ?_
        refine aw_exit ?_
        have h := leafR h hk15
        have h := leafR h hq13
        refine hK10 _ ?_
        refine aw_regL ?_
        refine alP (some 17) rfl rfl (does_move (v := .int .i64 v6_0) (by exact rfl)) (by decide) ?_
        refine alP (some 18) rfl rfl (does_bin (v := .int .i64 (IntKind.i64.wrap (v6_0 + 1))) (by conv => lhs; whnf) (by conv => lhs; whnf) rfl) (by decide) ?_
        refine alP (some 6) rfl rfl (does_assign (v := .int .i64 (IntKind.i64.wrap (v6_0 + 1))) (by exact rfl)) (by decide) ?_
        refine al_nil ?_
        have h := leafL h hq6
        exact ⟨m0, Nat.lt_succ_self _, _, reb_lit [(0, .sl 6 (List.map enc27 a0)), (3, .ptr 3 0 0), (5, .ptr 5 0 0), (6, .int .i64 (IntKind.i64.wrap (v6_0 + 1)))] [(3, 0), (5, 0)] [((3, 0), .box [.int .u64 a1.Hi, .int .u64 a1.Lo]), ((5, 0), .box [.int .u64 v5_s_0_1, .int .u64 v5_s_1_1, .int .i64 v5_s_2_1, .int .i64 v5_s_3_1, .bool v5_s_4_1, .sl 10 (List.map enc30 v5_s_5_1)])] [(3, 1), (5, 1)] (envOk_cons (by conv => lhs; whnf) (by exact rfl) (envOk_cons (by conv => lhs; whnf) (by exact rfl) (envOk_cons (by conv => lhs; whnf) (by exact rfl) (envOk_cons (by conv => lhs; whnf) (by exact rfl) envOk_nil)))) (objOk_cons (by conv => lhs; whnf) (by conv => lhs; whnf) (by exact rfl) (by simp) (objOk_cons (by conv => lhs; whnf) (by conv => lhs; whnf) (by exact rfl) (by simp) objOk_nil)) (nodup_b rfl) (nodup_b rfl) rfl rfl, v5_s_0_1, v5_s_1_1, v5_s_2_1, v5_s_3_1, v5_s_4_1, v5_s_5_1, (IntKind.i64.wrap (v6_0 + 1)), h, rfl⟩
    · rintro s ⟨h, rfl⟩
      unfold gleaningref15_Spans_k2 at h
      refine aw_seq_k (fun K23 hK23 => ?_)
      refine aw_block ?_
      refine aw_seq_k (fun K24 hK24 => ?_)
      refine aw_regL ?_
      refine alP (some 38) rfl rfl (does_move (v := .sl 6 (List.map enc27 a0)) (by exact rfl)) (by decide) ?_
      refine alP (some 39) rfl rfl (does_move (v := .int .i64 v6_0) (by exact rfl)) (by decide) ?_
      obtain ⟨g25, h⟩ := gd_some h
      obtain ⟨x26, hx26, h⟩ := bnd_some h
      refine alP (some 40) rfl rfl (does_indexAddr_sl (el := .agg [.int .u64 x26.Trace.Hi, .int .u64 x26.Trace.Lo, .int .i64 x26.First, .int .i64 x26.Last, .bool x26.Sure, .sl 10 (List.map enc30 x26.Spans)]) (by conv => lhs; whnf) (by conv => lhs; whnf) ty22 ty28 g25 (by exact map_get hx26)) (by decide) ?_
      refine alP (some 41) rfl rfl (does_fieldAddr (q := .rptr [.sl 10 (List.map enc30 x26.Spans)]) (by conv => lhs; whnf) ty28 rfl ty26 (by decide) (by exact rfl)) (by decide) ?_
      refine alR (some 42) rfl rfl (does_load (v := .sl 10 (List.map enc30 x26.Spans)) (by conv => lhs; whnf) (by conv => lhs; whnf) ty26 (by exact rfl)) (by decide) ?_
      refine alP (some 43) rfl rfl (does_move (v := .int .i64 v7_1) (by exact rfl)) (by decide) ?_
      obtain ⟨g27, h⟩ := gd_some h
      obtain ⟨x28, hx28, h⟩ := bnd_some h
      refine alP (some 44) rfl rfl (does_indexAddr_sl (el := .agg [.int .u64 x28.Trace.Hi, .int .u64 x28.Trace.Lo, .int .u64 x28.Id, .int .u64 x28.Parent, .str x28.Service, .str x28.Op, .int .i64 x28.Start, .int .i64 x28.Dur, .bool x28.Err, .sl 2 (List.map enc68 x28.Attrs)]) (by conv => lhs; whnf) (by conv => lhs; whnf) ty26 ty31 g27 (by exact map_get hx28)) (by decide) ?_
      refine alR (some 45) rfl rfl (does_load (v := .agg [.int .u64 x28.Trace.Hi, .int .u64 x28.Trace.Lo, .int .u64 x28.Id, .int .u64 x28.Parent, .str x28.Service, .str x28.Op, .int .i64 x28.Start, .int .i64 x28.Dur, .bool x28.Err, .sl 2 (List.map enc68 x28.Attrs)]) (by conv => lhs; whnf) (by conv => lhs; whnf) ty31 (by exact rfl)) (by decide) ?_
      refine alD (some 8) rfl rfl (do_new ty31 rfl rfl) (by decide) ?_
      refine alD none rfl rfl (do_store (cs' := [.int .u64 x28.Trace.Hi, .int .u64 x28.Trace.Lo, .int .u64 x28.Id, .int .u64 x28.Parent, .str x28.Service, .str x28.Op, .int .i64 x28.Start, .int .i64 x28.Dur, .bool x28.Err, .sl 2 (List.map enc68 x28.Attrs)]) (by conv => lhs; whnf) (by conv => lhs; whnf) (by conv => lhs; whnf) ty31 rfl rfl rfl (by exact rfl)) (by decide) ?_
      refine al_nil ?_
      refine hK24 _ ?_
      refine aw_seq_k (fun K29 hK29 => ?_)
      refine aw_regL ?_
      refine alR (some 46) rfl rfl (does_load (v := .agg [.int .u64 a1.Hi, .int .u64 a1.Lo]) (by conv => lhs; whnf) (by conv => lhs; whnf) ty25 (by exact rfl)) (by decide) ?_
      refine alP (some 47) rfl rfl (does_fieldAddr (q := .ptr 8 0 0) (by conv => lhs; whnf) ty31 rfl ty25 (by decide) (by exact rfl)) (by decide) ?_
      refine alD none rfl rfl (do_store (cs' := [.int .u64 a1.Hi, .int .u64 a1.Lo, .int .u64 x28.Id, .int .u64 x28.Parent, .str x28.Service, .str x28.Op, .int .i64 x28.Start, .int .i64 x28.Dur, .bool x28.Err, .sl 2 (List.map enc68 x28.Attrs)]) (by conv => lhs; whnf) (by conv => lhs; whnf) (by conv => lhs; whnf) ty25 rfl rfl rfl (by exact rfl)) (by decide) ?_
      refine al_nil ?_
      refine hK29 _ ?_
      refine aw_seq_k (fun K30 hK30 => ?_)
      refine aw_regL ?_
      refine alR (some 49) rfl rfl (does_load (v := .agg [.int .u64 v5_s_0_1, .int .u64 v5_s_1_1, .int .i64 v5_s_2_1, .int .i64 v5_s_3_1, .bool v5_s_4_1, .sl 10 (List.map enc30 v5_s_5_1)]) (by conv => lhs; whnf) (by conv => lhs; whnf) ty28 (by exact rfl)) (by decide) ?_
      refine alR (some 50) rfl rfl (does_load (v := .agg [.int .u64 a1.Hi, .int .u64 a1.Lo, .int .u64 x28.Id, .int .u64 x28.Parent, .str x28.Service, .str x28.Op, .int .i64 x28.Start, .int .i64 x28.Dur, .bool x28.Err, .sl 2 (List.map enc68 x28.Attrs)]) (by conv => lhs; whnf) (by conv => lhs; whnf) ty31 (by exact rfl)) (by decide) ?_
      obtain ⟨x31, hx31, h⟩ := bnd_some h
      refine boolc (b := x31.2) (fun hv32 => ?_) (fun hv32 => ?_)
      · have h := ifT hv32 h
        refine alD (some 51) rfl rfl (do_call0 51 false (gleaningref15_Add_t_ok (Episode.mk (Trace.mk v5_s_0_1 v5_s_1_1) v5_s_2_1 v5_s_3_1 v5_s_4_1 v5_s_5_1) (Span.mk a1 x28.Id x28.Parent x28.Service x28.Op x28.Start x28.Dur x28.Err x28.Attrs) 0 hx31 hv32) rfl ent19 rfl rfl) (by decide) ?_
        refine alP (some 48) rfl rfl (does_move (v := .tup [.agg [.int .u64 x31.1.Trace.Hi, .int .u64 x31.1.Trace.Lo, .int .i64 x31.1.First, .int .i64 x31.1.Last, .bool x31.1.Sure, .own 51 0], .bool true]) (by exact rfl)) (by decide) ?_
        refine alP (some 52) rfl rfl (does_extract (v := .agg [.int .u64 x31.1.Trace.Hi, .int .u64 x31.1.Trace.Lo, .int .i64 x31.1.First, .int .i64 x31.1.Last, .bool x31.1.Sure, .own 51 0]) (by conv => lhs; whnf) (by exact rfl)) (by decide) ?_
        refine alP (some 53) rfl rfl (does_extract (v := .bool true) (by conv => lhs; whnf) (by exact rfl)) (by decide) ?_
        refine alD (some 9) rfl rfl (do_new ty28 rfl rfl) (by decide) ?_
        refine alD none rfl rfl (do_store (cs' := [.int .u64 x31.1.Trace.Hi, .int .u64 x31.1.Trace.Lo, .int .i64 x31.1.First, .int .i64 x31.1.Last, .bool x31.1.Sure, .own 51 0]) (by conv => lhs; whnf) (by conv => lhs; whnf) (by conv => lhs; whnf) ty28 rfl rfl rfl (by exact rfl)) (by decide) ?_
        refine alP (some 10) rfl rfl (does_assign (v := .bool true) (by exact rfl)) (by decide) ?_
        refine al_nil ?_
        refine hK30 _ ?_
        refine aw_seq_k (fun K33 hK33 => ?_)
        refine aw_seq_k (fun K34 hK34 => ?_)
        refine aw_regL ?_
        refine alP (some 54) rfl rfl (does_move (v := .bool true) (by exact rfl)) (by decide) ?_
        refine al_nil ?_
        refine hK34 _ ?_
        refine aw_cond_t (by decide) rfl ?_
        refine aw_regd (by kernel_rfl) (by decide +kernel) ?_
        refine aoP (some 55) rfl rfl (does_fieldAddr (q := .ptr 9 0 5) (by conv => lhs; whnf) ty28 rfl ty26 (by decide) (by exact rfl)) (by decide) ?_
        refine aoR (some 56) rfl rfl (does_load (v := .own 51 0) (by conv => lhs; whnf) (by conv => lhs; whnf) ty26 (by exact rfl)) (by decide) ?_
        refine aoP (some 57) rfl rfl (does_fieldAddr (q := .ptr 9 0 5) (by conv => lhs; whnf) ty28 rfl ty26 (by decide) (by exact rfl)) (by decide) ?_
        refine aoR (some 58) rfl rfl (does_load (v := .own 51 0) (by conv => lhs; whnf) (by conv => lhs; whnf) ty26 (by exact rfl)) (by decide) ?_
        refine aoR (some 59) rfl rfl ((does_len_own (by conv => lhs; whnf) (by conv => lhs; whnf) ty26).cast (v' := .int .i64 (List.length x31.1.Spans : Int)) (by exact len_map _)) (by decide) ?_
        refine aoP (some 60) rfl rfl (does_bin (v := .int .i64 (IntKind.i64.wrap ((List.length x31.1.Spans : Int) - 1))) (by conv => lhs; whnf) (by conv => lhs; whnf) rfl) (by decide) ?_
        refine aoP (some 61) rfl rfl (does_move (v := .sl 6 (List.map enc27 a0)) (by exact rfl)) (by decide) ?_
        refine aoP (some 62) rfl rfl (does_move (v := .int .i64 v6_0) (by exact rfl)) (by decide) ?_
        obtain ⟨g35, h⟩ := gd_some h
        obtain ⟨x36, hx36, h⟩ := bnd_some h
        refine aoP (some 63) rfl rfl (does_indexAddr_sl (el := .agg [.int .u64 x36.Trace.Hi, .int .u64 x36.Trace.Lo, .int .i64 x36.First, .int .i64 x36.Last, .bool x36.Sure, .sl 10 (List.map enc30 x36.Spans)]) (by conv => lhs; whnf) (by conv => lhs; whnf) ty22 ty28 g35 (by exact map_get hx36)) (by decide) ?_
        refine aoP (some 64) rfl rfl (does_fieldAddr (q := .rptr [.sl 10 (List.map enc30 x36.Spans)]) (by conv => lhs; whnf) ty28 rfl ty26 (by decide) (by exact rfl)) (by decide) ?_
        refine aoR (some 65) rfl rfl (does_load (v := .sl 10 (List.map enc30 x36.Spans)) (by conv => lhs; whnf) (by conv => lhs; whnf) ty26 (by exact rfl)) (by decide) ?_
        refine aoP (some 66) rfl rfl (does_move (v := .int .i64 v7_1) (by exact rfl)) (by decide) ?_
        obtain ⟨g37, h⟩ := gd_some h
        obtain ⟨x38, hx38, h⟩ := bnd_some h
        refine aoP (some 67) rfl rfl (does_indexAddr_sl (el := .agg [.int .u64 x38.Trace.Hi, .int .u64 x38.Trace.Lo, .int .u64 x38.Id, .int .u64 x38.Parent, .str x38.Service, .str x38.Op, .int .i64 x38.Start, .int .i64 x38.Dur, .bool x38.Err, .sl 2 (List.map enc68 x38.Attrs)]) (by conv => lhs; whnf) (by conv => lhs; whnf) ty26 ty31 g37 (by exact map_get hx38)) (by decide) ?_
        refine aoR (some 68) rfl rfl (does_load (v := .agg [.int .u64 x38.Trace.Hi, .int .u64 x38.Trace.Lo, .int .u64 x38.Id, .int .u64 x38.Parent, .str x38.Service, .str x38.Op, .int .i64 x38.Start, .int .i64 x38.Dur, .bool x38.Err, .sl 2 (List.map enc68 x38.Attrs)]) (by conv => lhs; whnf) (by conv => lhs; whnf) ty31 (by exact rfl)) (by decide) ?_
        obtain ⟨g39, h⟩ := gd_some h
        obtain ⟨x40, hx40, h⟩ := bnd_some h
        refine aoR (some 69) rfl rfl (does_indexAddr_own (by conv => lhs; whnf) (by conv => lhs; whnf) (by conv => lhs; whnf) ty26 ty31 g39 (by exact own_lt hx40)) (by decide) ?_
        refine aoD none rfl rfl (does_storeE (old := .agg [.int .u64 x40.Trace.Hi, .int .u64 x40.Trace.Lo, .int .u64 x40.Id, .int .u64 x40.Parent, .str x40.Service, .str x40.Op, .int .i64 x40.Start, .int .i64 x40.Dur, .bool x40.Err, .sl 2 (List.map enc68 x40.Attrs)]) (el := .agg [.int .u64 x38.Trace.Hi, .int .u64 x38.Trace.Lo, .int .u64 x38.Id, .int .u64 x38.Parent, .str x38.Service, .str x38.Op, .int .i64 x38.Start, .int .i64 x38.Dur, .bool x38.Err, .sl 2 (List.map enc68 x38.Attrs)]) (xs' := List.map enc30 (List.set x31.1.Spans (Int.toNat (IntKind.i64.wrap ((List.length x31.1.Spans : Int) - 1))) x38)) (by conv => lhs; whnf) (by conv => lhs; whnf) (by conv => lhs; whnf) ty31 (by rfl) (by rfl) (by exact map_get hx40) (by rfl) (by exact rfl) (by exact map_set' _ _ x38) (by rfl)) (by decide) ?_
        refine ao_nil_d (by kernel_rfl) ?_
        refine hK33 _ ?_
        refine aw_regL ?_
        refine alR (some 70) rfl rfl (does_load (v := .agg [.int .u64 x31.1.Trace.Hi, .int .u64 x31.1.Trace.Lo, .int .i64 x31.1.First, .int .i64 x31.1.Last, .bool x31.1.Sure, .own 51 0]) (by conv => lhs; whnf) (by conv => lhs; whnf) ty28 (by exact rfl)) (by decide) ?_
        refine alD none rfl rfl (do_store (cs' := [.int .u64 x31.1.Trace.Hi, .int .u64 x31.1.Trace.Lo, .int .i64 x31.1.First, .int .i64 x31.1.Last, .bool x31.1.Sure, .own 51 0]) (by conv => lhs; whnf) (by conv => lhs; whnf) (by conv => lhs; whnf) ty28 rfl rfl rfl (by exact rfl)) (by decide) ?_
        refine al_nil ?_
        refine hK23 _ ?_
        refine aw_regL ?_
        refine alP (some 36) rfl rfl (does_move (v := .int .i64 v7_1) (by exact rfl)) (by decide) ?_
        refine alP (some 37) rfl rfl (does_bin (v := .int .i64 (IntKind.i64.wrap (v7_1 + 1))) (by conv => lhs; whnf) (by conv => lhs; whnf) rfl) (by decide) ?_
        refine alP (some 7) rfl rfl (does_assign (v := .int .i64 (IntKind.i64.wrap (v7_1 + 1))) (by exact rfl)) (by decide) ?_
        refine al_nil ?_
        have h := leafL h hq13
        exact ⟨m1, Nat.lt_succ_self _, _, reb_lit [(0, .sl 6 (List.map enc27 a0)), (3, .ptr 3 0 0), (5, .ptr 5 0 0), (6, .int .i64 v6_0), (7, .int .i64 (IntKind.i64.wrap (v7_1 + 1)))] [(3, 0), (5, 0)] [((3, 0), .box [.int .u64 a1.Hi, .int .u64 a1.Lo]), ((5, 0), .box [.int .u64 x31.1.Trace.Hi, .int .u64 x31.1.Trace.Lo, .int .i64 x31.1.First, .int .i64 x31.1.Last, .bool x31.1.Sure, .sl 10 (List.map enc30 (List.set x31.1.Spans (Int.toNat (IntKind.i64.wrap ((List.length x31.1.Spans : Int) - 1))) x38))])] [(3, 1), (5, 1)] (envOk_cons (by conv => lhs; whnf) (by exact rfl) (envOk_cons (by conv => lhs; whnf) (by exact rfl) (envOk_cons (by conv => lhs; whnf) (by exact rfl) (envOk_cons (by conv => lhs; whnf) (by exact rfl) (envOk_cons (by conv => lhs; whnf) (by exact rfl) envOk_nil))))) (objOk_cons (by conv => lhs; whnf) (by conv => lhs; whnf) (by exact rfl) (by simp) (objOk_cons (by conv => lhs; whnf) (by conv => lhs; whnf) (by exact rfl) (by simp) objOk_nil)) (nodup_b rfl) (nodup_b rfl) rfl rfl, x31.1.Trace.Hi, x31.1.Trace.Lo, x31.1.First, x31.1.Last, x31.1.Sure, (List.set x31.1.Spans (Int.toNat (IntKind.i64.wrap ((List.length x31.1.Spans : Int) - 1))) x38), (IntKind.i64.wrap (v7_1 + 1)), h, rfl⟩
      · have h := ifF hv32 h
        refine alD (some 51) rfl rfl (do_call0 51 false (gleaningref15_Add_f_ok (Episode.mk (Trace.mk v5_s_0_1 v5_s_1_1) v5_s_2_1 v5_s_3_1 v5_s_4_1 v5_s_5_1) (Span.mk a1 x28.Id x28.Parent x28.Service x28.Op x28.Start x28.Dur x28.Err x28.Attrs) 0 hx31 hv32) rfl ent19 rfl rfl) (by decide) ?_
        refine alP (some 48) rfl rfl (does_move (v := .tup [.agg [.int .u64 x31.1.Trace.Hi, .int .u64 x31.1.Trace.Lo, .int .i64 x31.1.First, .int .i64 x31.1.Last, .bool x31.1.Sure, .sl 10 (List.map enc30 x31.1.Spans)], .bool false]) (by exact rfl)) (by decide) ?_
        refine alP (some 52) rfl rfl (does_extract (v := .agg [.int .u64 x31.1.Trace.Hi, .int .u64 x31.1.Trace.Lo, .int .i64 x31.1.First, .int .i64 x31.1.Last, .bool x31.1.Sure, .sl 10 (List.map enc30 x31.1.Spans)]) (by conv => lhs; whnf) (by exact rfl)) (by decide) ?_
        refine alP (some 53) rfl rfl (does_extract (v := .bool false) (by conv => lhs; whnf) (by exact rfl)) (by decide) ?_
        refine alD (some 9) rfl rfl (do_new ty28 rfl rfl) (by decide) ?_
        refine alD none rfl rfl (do_store (cs' := [.int .u64 x31.1.Trace.Hi, .int .u64 x31.1.Trace.Lo, .int .i64 x31.1.First, .int .i64 x31.1.Last, .bool x31.1.Sure, .sl 10 (List.map enc30 x31.1.Spans)]) (by conv => lhs; whnf) (by conv => lhs; whnf) (by conv => lhs; whnf) ty28 rfl rfl rfl (by exact rfl)) (by decide) ?_
        refine alP (some 10) rfl rfl (does_assign (v := .bool false) (by exact rfl)) (by decide) ?_
        refine al_nil ?_
        refine hK30 _ ?_
        refine aw_seq_k (fun K41 hK41 => ?_)
        refine aw_seq_k (fun K42 hK42 => ?_)
        refine aw_regL ?_
        refine alP (some 54) rfl rfl (does_move (v := .bool false) (by exact rfl)) (by decide) ?_
        refine al_nil ?_
        refine hK42 _ ?_
        refine aw_cond_f (by decide) rfl ?_
        refine aw_skip ?_
        refine hK41 _ ?_
        refine aw_regL ?_
        refine alR (some 70) rfl rfl (does_load (v := .agg [.int .u64 x31.1.Trace.Hi, .int .u64 x31.1.Trace.Lo, .int .i64 x31.1.First, .int .i64 x31.1.Last, .bool x31.1.Sure, .sl 10 (List.map enc30 x31.1.Spans)]) (by conv => lhs; whnf) (by conv => lhs; whnf) ty28 (by exact rfl)) (by decide) ?_
        refine alD none rfl rfl (do_store (cs' := [.int .u64 x31.1.Trace.Hi, .int .u64 x31.1.Trace.Lo, .int .i64 x31.1.First, .int .i64 x31.1.Last, .bool x31.1.Sure, .sl 10 (List.map enc30 x31.1.Spans)]) (by conv => lhs; whnf) (by conv => lhs; whnf) (by conv => lhs; whnf) ty28 rfl rfl rfl (by exact rfl)) (by decide) ?_
        refine al_nil ?_
        refine hK23 _ ?_
        refine aw_regL ?_
        refine alP (some 36) rfl rfl (does_move (v := .int .i64 v7_1) (by exact rfl)) (by decide) ?_
        refine alP (some 37) rfl rfl (does_bin (v := .int .i64 (IntKind.i64.wrap (v7_1 + 1))) (by conv => lhs; whnf) (by conv => lhs; whnf) rfl) (by decide) ?_
        refine alP (some 7) rfl rfl (does_assign (v := .int .i64 (IntKind.i64.wrap (v7_1 + 1))) (by exact rfl)) (by decide) ?_
        refine al_nil ?_
        have h := leafL h hq13
        exact ⟨m1, Nat.lt_succ_self _, _, reb_lit [(0, .sl 6 (List.map enc27 a0)), (3, .ptr 3 0 0), (5, .ptr 5 0 0), (6, .int .i64 v6_0), (7, .int .i64 (IntKind.i64.wrap (v7_1 + 1)))] [(3, 0), (5, 0)] [((3, 0), .box [.int .u64 a1.Hi, .int .u64 a1.Lo]), ((5, 0), .box [.int .u64 x31.1.Trace.Hi, .int .u64 x31.1.Trace.Lo, .int .i64 x31.1.First, .int .i64 x31.1.Last, .bool x31.1.Sure, .sl 10 (List.map enc30 x31.1.Spans)])] [(3, 1), (5, 1)] (envOk_cons (by conv => lhs; whnf) (by exact rfl) (envOk_cons (by conv => lhs; whnf) (by exact rfl) (envOk_cons (by conv => lhs; whnf) (by exact rfl) (envOk_cons (by conv => lhs; whnf) (by exact rfl) (envOk_cons (by conv => lhs; whnf) (by exact rfl) envOk_nil))))) (objOk_cons (by conv => lhs; whnf) (by conv => lhs; whnf) (by exact rfl) (by simp) (objOk_cons (by conv => lhs; whnf) (by conv => lhs; whnf) (by exact rfl) (by simp) objOk_nil)) (nodup_b rfl) (nodup_b rfl) rfl rfl, x31.1.Trace.Hi, x31.1.Trace.Lo, x31.1.First, x31.1.Last, x31.1.Sure, x31.1.Spans, (IntKind.i64.wrap (v7_1 + 1)), h, rfl⟩
  · have h := ifF c9 h
    refine aw_cond_f (by decide) rfl ?_
    refine aw_exit ?_
    have h := leafR h hq6
    refine hK3 _ ?_
    refine aw_seq_k (fun K43 hK43 => ?_)
    refine aw_regL ?_
    refine alP (some 71) rfl rfl (does_fieldAddr (q := .ptr 5 0 5) (by conv => lhs; whnf) ty28 rfl ty26 (by decide) (by exact rfl)) (by decide) ?_
    refine alR (some 72) rfl rfl (does_load (v := .sl 10 (List.map enc30 v5_s_5_0)) (by conv => lhs; whnf) (by conv => lhs; whnf) ty26 (by exact rfl)) (by decide) ?_
    refine alP (some 4) rfl rfl (does_assign (v := .sl 10 (List.map enc30 v5_s_5_0)) (by exact rfl)) (by decide) ?_
    refine al_nil ?_
    refine hK43 _ ?_
    refine aw_ret ?_
    obtain rfl := Option.some.inj h
    exact ret_ok1 (by conv => lhs; whnf) (by conv => lhs; whnf) (by exact rfl) (.inr rfl) rfl
def gleaningref15_SameEpisodes_l0 (a0 : List Episode) (a1 : List Episode) (v5_0 : Int) : Option (Int ⊕ Bool) :=
  if (decide (v5_0 < (List.length a0 : Int))) = true then (gd (0 ≤ v5_0) (Option.bind (a0[(Int.toNat v5_0)]?) (fun (x16 : Episode) => gd (0 ≤ v5_0) (Option.bind (a1[(Int.toNat v5_0)]?) (fun (x18 : Episode) => if (!((x16.Trace.Hi == x18.Trace.Hi) && ((x16.Trace.Lo == x18.Trace.Lo) && true))) = true then (some (Sum.inr false)) else (gd (0 ≤ v5_0) (Option.bind (a0[(Int.toNat v5_0)]?) (fun (x22 : Episode) => gd (0 ≤ v5_0) (Option.bind (a1[(Int.toNat v5_0)]?) (fun (x24 : Episode) => if (x22.First != x24.First) = true then (some (Sum.inr false)) else (gd (0 ≤ v5_0) (Option.bind (a0[(Int.toNat v5_0)]?) (fun (x28 : Episode) => gd (0 ≤ v5_0) (Option.bind (a1[(Int.toNat v5_0)]?) (fun (x30 : Episode) => if (x28.Last != x30.Last) = true then (some (Sum.inr false)) else (gd (0 ≤ v5_0) (Option.bind (a0[(Int.toNat v5_0)]?) (fun (x34 : Episode) => gd (0 ≤ v5_0) (Option.bind (a1[(Int.toNat v5_0)]?) (fun (x36 : Episode) => if (!(x34.Sure == x36.Sure)) = true then (some (Sum.inr false)) else (gd (0 ≤ v5_0) (Option.bind (a0[(Int.toNat v5_0)]?) (fun (x40 : Episode) => gd (0 ≤ v5_0) (Option.bind (a1[(Int.toNat v5_0)]?) (fun (x42 : Episode) => Option.bind (gleaningref1_SameSpans x40.Spans x42.Spans) (fun (x43 : Bool) => if (!x43) = true then (some (Sum.inr false)) else (some (Sum.inl (IntKind.i64.wrap (v5_0 + 1)))))))))))))))))))))))))))))) else (some (Sum.inr true))
def gleaningref15_SameEpisodes (a0 : List Episode) (a1 : List Episode) : Option Bool :=
  if ((List.length a0 : Int) != (List.length a1 : Int)) = true then (some false) else (loopN (fun (s : Int) => gleaningref15_SameEpisodes_l0 a0 a1 s) Fu 0)
set_option maxRecDepth 100000 in
set_option maxHeartbeats 8000000 in
/-- gleaning/gleaningref15.SameEpisodes -/
theorem gleaningref15_SameEpisodes_ok (a0 : List Episode) (a1 : List Episode) {r : Bool} (h : gleaningref15_SameEpisodes a0 a1 = some r) : Ok Try.prog 20 [.sl 6 (List.map enc27 a0), .sl 6 (List.map enc27 a1)] [] [] (.bool r) [] [] := by
  unfold gleaningref15_SameEpisodes at h
  refine ok_of_code Try.func20 rfl (by show (2 : Nat) ≤ _; decide) (Nat.le_refl _) fun X => ?_
  refine aw_seq_k (fun K1 hK1 => ?_)
  refine aw_regL ?_
  refine alP (some 4) rfl rfl (does_assign (v := .bool false) (by exact rfl)) (by decide) ?_
  refine al_nil ?_
  refine hK1 _ ?_
  refine aw_seq_k (fun K2 hK2 => ?_)
  refine aw_seq_k (fun K3 hK3 => ?_)
  refine aw_regL ?_
  refine alP (some 6) rfl rfl (does_move (v := .sl 6 (List.map enc27 a0)) (by exact rfl)) (by decide) ?_
  refine alP (some 7) rfl rfl ((does_len_sl (by conv => lhs; whnf) ty22).castp (v' := .int .i64 (List.length a0 : Int)) (by exact len_map _)) (by decide) ?_
  refine alP (some 8) rfl rfl (does_move (v := .sl 6 (List.map enc27 a1)) (by exact rfl)) (by decide) ?_
  refine alP (some 9) rfl rfl ((does_len_sl (by conv => lhs; whnf) ty22).castp (v' := .int .i64 (List.length a1 : Int)) (by exact len_map _)) (by decide) ?_
  refine alP (some 10) rfl rfl (does_bin (v := .bool ((List.length a0 : Int) != (List.length a1 : Int))) (by conv => lhs; whnf) (by conv => lhs; whnf) rfl) (by decide) ?_
  refine al_nil ?_
  refine hK3 _ ?_
  refine aw_bool (b := ((List.length a0 : Int) != (List.length a1 : Int))) 10 rfl (fun c4 => ?_) (fun c4 => ?_)
  · have h := ifT c4 h
    refine aw_cond_t (by decide) rfl ?_
    refine aw_seq_k (fun K5 hK5 => ?_)
    refine aw_regL ?_
    refine alP (some 4) rfl rfl (does_assign (v := .bool false) (by exact rfl)) (by decide) ?_
    refine al_nil ?_
    refine hK5 _ ?_
    refine aw_ret ?_
    obtain rfl := Option.some.inj h
    exact ret_ok1 (by conv => lhs; whnf) (by conv => lhs; whnf) (by exact rfl) (.inr rfl) rfl
  · have h := ifF c4 h
    refine aw_cond_f (by decide) rfl ?_
    refine aw_skip ?_
    refine hK2 _ ?_
    refine aw_seq_k (fun K6 hK6 => ?_)
    refine aw_seq_k (fun K7 hK7 => ?_)
    refine aw_regL ?_
    refine alP (some 5) rfl rfl (does_assign (v := .int .i64 0) (by exact rfl)) (by decide) ?_
    refine al_nil ?_
    refine hK7 _ ?_
    refine aw_block ?_
    refine aw_loop' (fun m s => ∃ (v5_0 : Int), loopN (fun (s : Int) => gleaningref15_SameEpisodes_l0 a0 a1 s) m v5_0 = some r ∧ s = lit [(0, .sl 6 (List.map enc27 a0)), (1, .sl 6 (List.map enc27 a1)), (5, .int .i64 v5_0)] [] [] X) Fu
      ⟨_, reb_lit [(0, .sl 6 (List.map enc27 a0)), (1, .sl 6 (List.map enc27 a1)), (5, .int .i64 (0))] [] [] [] (envOk_cons (by conv => lhs; whnf) (by exact rfl) (envOk_cons (by conv => lhs; whnf) (by exact rfl) (envOk_cons (by conv => lhs; whnf) (by exact rfl) envOk_nil))) objOk_nil (nodup_b rfl) (nodup_b rfl) rfl rfl, 0, h, rfl⟩ ?_
    rintro m s ⟨v5_0, h, rfl⟩
    obtain ⟨m0, q8, rfl, h, hq9⟩ := loop_some h
    replace h : gleaningref15_SameEpisodes_l0 a0 a1 v5_0 = some q8 := h
    unfold gleaningref15_SameEpisodes_l0 at h
    refine aw_seq_k (fun K10 hK10 => ?_)
    refine aw_seq_k (fun K11 hK11 => ?_)
    refine aw_regL ?_
    refine alP (some 11) rfl rfl (does_move (v := .int .i64 v5_0) (by exact rfl)) (by decide) ?_
    refine alP (some 12) rfl rfl (does_move (v := .sl 6 (List.map enc27 a0)) (by exact rfl)) (by decide) ?_
    refine alP (some 13) rfl rfl ((does_len_sl (by conv => lhs; whnf) ty22).castp (v' := .int .i64 (List.length a0 : Int)) (by exact len_map _)) (by decide) ?_
    refine alP (some 14) rfl rfl (does_bin (v := .bool (decide (v5_0 < (List.length a0 : Int)))) (by conv => lhs; whnf) (by conv => lhs; whnf) rfl) (by decide) ?_
    refine al_nil ?_
    refine hK11 _ ?_
    refine aw_bool (b := (decide (v5_0 < (List.length a0 : Int)))) 14 rfl (fun c12 => ?_) (fun c12 => ?_)
    · have h := ifT c12 h
      refine aw_cond_t (by decide) rfl ?_
      refine aw_skip ?_
      refine hK10 _ ?_
      refine aw_seq_k (fun K13 hK13 => ?_)
      refine aw_block ?_
      refine aw_seq_k (fun K14 hK14 => ?_)
      refine aw_regd (by kernel_rfl) (by decide +kernel) ?_
      refine aoP (some 17) rfl rfl (does_move (v := .sl 6 (List.map enc27 a0)) (by exact rfl)) (by decide) ?_
      refine aoP (some 18) rfl rfl (does_move (v := .int .i64 v5_0) (by exact rfl)) (by decide) ?_
      obtain ⟨g15, h⟩ := gd_some h
      obtain ⟨x16, hx16, h⟩ := bnd_some h
      refine aoP (some 19) rfl rfl (does_indexAddr_sl (el := .agg [.int .u64 x16.Trace.Hi, .int .u64 x16.Trace.Lo, .int .i64 x16.First, .int .i64 x16.Last, .bool x16.Sure, .sl 10 (List.map enc30 x16.Spans)]) (by conv => lhs; whnf) (by conv => lhs; whnf) ty22 ty28 g15 (by exact map_get hx16)) (by decide) ?_
      refine aoP (some 20) rfl rfl (does_fieldAddr (q := .rptr [.int .u64 x16.Trace.Hi, .int .u64 x16.Trace.Lo, .int .i64 x16.First, .int .i64 x16.Last, .bool x16.Sure, .sl 10 (List.map enc30 x16.Spans)]) (by conv => lhs; whnf) ty28 rfl ty25 (by decide) (by exact rfl)) (by decide) ?_
      refine aoR (some 21) rfl rfl (does_load (v := .agg [.int .u64 x16.Trace.Hi, .int .u64 x16.Trace.Lo]) (by conv => lhs; whnf) (by conv => lhs; whnf) ty25 (by exact rfl)) (by decide) ?_
      refine aoP (some 22) rfl rfl (does_move (v := .sl 6 (List.map enc27 a1)) (by exact rfl)) (by decide) ?_
      refine aoP (some 23) rfl rfl (does_move (v := .int .i64 v5_0) (by exact rfl)) (by decide) ?_
      obtain ⟨g17, h⟩ := gd_some h
      obtain ⟨x18, hx18, h⟩ := bnd_some h
      refine aoP (some 24) rfl rfl (does_indexAddr_sl (el := .agg [.int .u64 x18.Trace.Hi, .int .u64 x18.Trace.Lo, .int .i64 x18.First, .int .i64 x18.Last, .bool x18.Sure, .sl 10 (List.map enc30 x18.Spans)]) (by conv => lhs; whnf) (by conv => lhs; whnf) ty22 ty28 g17 (by exact map_get hx18)) (by decide) ?_
      refine aoP (some 25) rfl rfl (does_fieldAddr (q := .rptr [.int .u64 x18.Trace.Hi, .int .u64 x18.Trace.Lo, .int .i64 x18.First, .int .i64 x18.Last, .bool x18.Sure, .sl 10 (List.map enc30 x18.Spans)]) (by conv => lhs; whnf) ty28 rfl ty25 (by decide) (by exact rfl)) (by decide) ?_
      refine aoR (some 26) rfl rfl (does_load (v := .agg [.int .u64 x18.Trace.Hi, .int .u64 x18.Trace.Lo]) (by conv => lhs; whnf) (by conv => lhs; whnf) ty25 (by exact rfl)) (by decide) ?_
      refine aoP (some 27) rfl rfl (does_eq_struct (v := .bool (!((x16.Trace.Hi == x18.Trace.Hi) && ((x16.Trace.Lo == x18.Trace.Lo) && true)))) (by conv => lhs; whnf) (by conv => lhs; whnf) fk25 rfl ag25 eg25 (by conv => lhs; whnf) rfl) (by decide) ?_
      refine aoP (some 28) rfl rfl (does_move (v := .bool (!((x16.Trace.Hi == x18.Trace.Hi) && ((x16.Trace.Lo == x18.Trace.Lo) && true)))) (by exact rfl)) (by decide) ?_
      refine ao_bool (c := (!((x16.Trace.Hi == x18.Trace.Hi) && ((x16.Trace.Lo == x18.Trace.Lo) && true)))) 28 rfl (fun c19 => ?_) (fun c19 => ?_)
      · have h := ifT c19 h
        refine aoS (some 29) rfl rfl (by decide) ?_
        refine aoS (some 30) rfl rfl (by decide) ?_
        refine aoS (some 31) rfl rfl (by decide) ?_
        refine aoS (some 32) rfl rfl (by decide) ?_
        refine aoS (some 33) rfl rfl (by decide) ?_
        refine aoS (some 34) rfl rfl (by decide) ?_
        refine aoS (some 35) rfl rfl (by decide) ?_
        refine aoS (some 36) rfl rfl (by decide) ?_
        refine aoS (some 37) rfl rfl (by decide) ?_
        refine aoS (some 38) rfl rfl (by decide) ?_
        refine aoS (some 39) rfl rfl (by decide) ?_
        refine aoP (some 40) rfl rfl (does_pick (v := .bool true) (by conv => lhs; whnf) (by exact rfl)) (by decide) ?_
        refine aoP (some 41) rfl rfl (does_move (v := .bool true) (by exact rfl)) (by decide) ?_
        refine aoS (some 42) rfl rfl (by decide) ?_
        refine aoS (some 43) rfl rfl (by decide) ?_
        refine aoS (some 44) rfl rfl (by decide) ?_
        refine aoS (some 45) rfl rfl (by decide) ?_
        refine aoS (some 46) rfl rfl (by decide) ?_
        refine aoS (some 47) rfl rfl (by decide) ?_
        refine aoS (some 48) rfl rfl (by decide) ?_
        refine aoS (some 49) rfl rfl (by decide) ?_
        refine aoS (some 50) rfl rfl (by decide) ?_
        refine aoS (some 51) rfl rfl (by decide) ?_
        refine aoS (some 52) rfl rfl (by decide) ?_
        refine aoP (some 53) rfl rfl (does_pick (v := .bool true) (by conv => lhs; whnf) (by exact rfl)) (by decide) ?_
        refine aoP (some 54) rfl rfl (does_move (v := .bool true) (by exact rfl)) (by decide) ?_
        refine aoS (some 55) rfl rfl (by decide) ?_
        refine aoS (some 56) rfl rfl (by decide) ?_
        refine aoS (some 57) rfl rfl (by decide) ?_
        refine aoS (some 58) rfl rfl (by decide) ?_
        refine aoS (some 59) rfl rfl (by decide) ?_
        refine aoS (some 60) rfl rfl (by decide) ?_
        refine aoS (some 61) rfl rfl (by decide) ?_
        refine aoS (some 62) rfl rfl (by decide) ?_
        refine aoS (some 63) rfl rfl (by decide) ?_
        refine aoS (some 64) rfl rfl (by decide) ?_
        refine aoS (some 65) rfl rfl (by decide) ?_
        refine aoP (some 66) rfl rfl (does_pick (v := .bool true) (by conv => lhs; whnf) (by exact rfl)) (by decide) ?_
        refine aoP (some 67) rfl rfl (does_move (v := .bool true) (by exact rfl)) (by decide) ?_
        refine aoS (some 68) rfl rfl (by decide) ?_
        refine aoS (some 69) rfl rfl (by decide) ?_
        refine aoS (some 70) rfl rfl (by decide) ?_
        refine aoS (some 71) rfl rfl (by decide) ?_
        refine aoS (some 72) rfl rfl (by decide) ?_
        refine aoS (some 73) rfl rfl (by decide) ?_
        refine aoS (some 74) rfl rfl (by decide) ?_
        refine aoS (some 75) rfl rfl (by decide) ?_
        refine aoS (some 76) rfl rfl (by decide) ?_
        refine aoS (some 77) rfl rfl (by decide) ?_
        refine aoS (some 78) rfl rfl (by decide) ?_
        refine aoS (some 79) rfl rfl (by decide) ?_
        refine aoP (some 80) rfl rfl (does_pick (v := .bool true) (by conv => lhs; whnf) (by exact rfl)) (by decide) ?_
        refine ao_nil_d (by kernel_rfl) ?_
        refine hK14 _ ?_
        refine aw_cond_t (by decide) rfl ?_
        refine aw_seq_k (fun K20 hK20 => ?_)
        refine aw_regL ?_
        refine alP (some 4) rfl rfl (does_assign (v := .bool false) (by exact rfl)) (by decide) ?_
        refine al_nil ?_
        refine hK20 _ ?_
        refine aw_ret ?_
        have h := leafR h hq9
        obtain rfl := Option.some.inj h
        exact ret_ok1 (by conv => lhs; whnf) (by conv => lhs; whnf) (by exact rfl) (.inr rfl) rfl
      · have h := ifF c19 h
        refine aoP (some 29) rfl rfl (does_move (v := .sl 6 (List.map enc27 a0)) (by exact rfl)) (by decide) ?_
        refine aoP (some 30) rfl rfl (does_move (v := .int .i64 v5_0) (by exact rfl)) (by decide) ?_
        obtain ⟨g21, h⟩ := gd_some h
        obtain ⟨x22, hx22, h⟩ := bnd_some h
        refine aoP (some 31) rfl rfl (does_indexAddr_sl (el := .agg [.int .u64 x22.Trace.Hi, .int .u64 x22.Trace.Lo, .int .i64 x22.First, .int .i64 x22.Last, .bool x22.Sure, .sl 10 (List.map enc30 x22.Spans)]) (by conv => lhs; whnf) (by conv => lhs; whnf) ty22 ty28 g21 (by exact map_get hx22)) (by decide) ?_
        refine aoP (some 32) rfl rfl (does_fieldAddr (q := .rptr [.int .i64 x22.First, .int .i64 x22.Last, .bool x22.Sure, .sl 10 (List.map enc30 x22.Spans)]) (by conv => lhs; whnf) ty28 rfl ty3 (by decide) (by exact rfl)) (by decide) ?_
        refine aoR (some 33) rfl rfl (does_load (v := .int .i64 x22.First) (by conv => lhs; whnf) (by conv => lhs; whnf) ty3 (by exact rfl)) (by decide) ?_
        refine aoP (some 34) rfl rfl (does_move (v := .sl 6 (List.map enc27 a1)) (by exact rfl)) (by decide) ?_
        refine aoP (some 35) rfl rfl (does_move (v := .int .i64 v5_0) (by exact rfl)) (by decide) ?_
        obtain ⟨g23, h⟩ := gd_some h
        obtain ⟨x24, hx24, h⟩ := bnd_some h
        refine aoP (some 36) rfl rfl (does_indexAddr_sl (el := .agg [.int .u64 x24.Trace.Hi, .int .u64 x24.Trace.Lo, .int .i64 x24.First, .int .i64 x24.Last, .bool x24.Sure, .sl 10 (List.map enc30 x24.Spans)]) (by conv => lhs; whnf) (by conv => lhs; whnf) ty22 ty28 g23 (by exact map_get hx24)) (by decide) ?_
        refine aoP (some 37) rfl rfl (does_fieldAddr (q := .rptr [.int .i64 x24.First, .int .i64 x24.Last, .bool x24.Sure, .sl 10 (List.map enc30 x24.Spans)]) (by conv => lhs; whnf) ty28 rfl ty3 (by decide) (by exact rfl)) (by decide) ?_
        refine aoR (some 38) rfl rfl (does_load (v := .int .i64 x24.First) (by conv => lhs; whnf) (by conv => lhs; whnf) ty3 (by exact rfl)) (by decide) ?_
        refine aoP (some 39) rfl rfl (does_bin (v := .bool (x22.First != x24.First)) (by conv => lhs; whnf) (by conv => lhs; whnf) rfl) (by decide) ?_
        refine aoP (some 40) rfl rfl (does_pick (v := .bool (x22.First != x24.First)) (by conv => lhs; whnf) (by exact rfl)) (by decide) ?_
        refine aoP (some 41) rfl rfl (does_move (v := .bool (x22.First != x24.First)) (by exact rfl)) (by decide) ?_
        refine ao_bool (c := (x22.First != x24.First)) 41 rfl (fun c25 => ?_) (fun c25 => ?_)
        · have h := ifT c25 h
          refine aoS (some 42) rfl rfl (by decide) ?_
          refine aoS (some 43) rfl rfl (by decide) ?_
          refine aoS (some 44) rfl rfl (by decide) ?_
          refine aoS (some 45) rfl rfl (by decide) ?_
          refine aoS (some 46) rfl rfl (by decide) ?_
          refine aoS (some 47) rfl rfl (by decide) ?_
          refine aoS (some 48) rfl rfl (by decide) ?_
          refine aoS (some 49) rfl rfl (by decide) ?_
          refine aoS (some 50) rfl rfl (by decide) ?_
          refine aoS (some 51) rfl rfl (by decide) ?_
          refine aoS (some 52) rfl rfl (by decide) ?_
          refine aoP (some 53) rfl rfl (does_pick (v := .bool true) (by conv => lhs; whnf) (by exact rfl)) (by decide) ?_
          refine aoP (some 54) rfl rfl (does_move (v := .bool true) (by exact rfl)) (by decide) ?_
          refine aoS (some 55) rfl rfl (by decide) ?_
          refine aoS (some 56) rfl rfl (by decide) ?_
          refine aoS (some 57) rfl rfl (by decide) ?_
          refine aoS (some 58) rfl rfl (by decide) ?_
          refine aoS (some 59) rfl rfl (by decide) ?_
          refine aoS (some 60) rfl rfl (by decide) ?_
          refine aoS (some 61) rfl rfl (by decide) ?_
          refine aoS (some 62) rfl rfl (by decide) ?_
          refine aoS (some 63) rfl rfl (by decide) ?_
          refine aoS (some 64) rfl rfl (by decide) ?_
          refine aoS (some 65) rfl rfl (by decide) ?_
          refine aoP (some 66) rfl rfl (does_pick (v := .bool true) (by conv => lhs; whnf) (by exact rfl)) (by decide) ?_
          refine aoP (some 67) rfl rfl (does_move (v := .bool true) (by exact rfl)) (by decide) ?_
          refine aoS (some 68) rfl rfl (by decide) ?_
          refine aoS (some 69) rfl rfl (by decide) ?_
          refine aoS (some 70) rfl rfl (by decide) ?_
          refine aoS (some 71) rfl rfl (by decide) ?_
          refine aoS (some 72) rfl rfl (by decide) ?_
          refine aoS (some 73) rfl rfl (by decide) ?_
          refine aoS (some 74) rfl rfl (by decide) ?_
          refine aoS (some 75) rfl rfl (by decide) ?_
          refine aoS (some 76) rfl rfl (by decide) ?_
          refine aoS (some 77) rfl rfl (by decide) ?_
          refine aoS (some 78) rfl rfl (by decide) ?_
          refine aoS (some 79) rfl rfl (by decide) ?_
          refine aoP (some 80) rfl rfl (does_pick (v := .bool true) (by conv => lhs; whnf) (by exact rfl)) (by decide) ?_
          refine ao_nil_d (by kernel_rfl) ?_
          refine hK14 _ ?_
          refine aw_cond_t (by decide) rfl ?_
          refine aw_seq_k (fun K26 hK26 => ?_)
          refine aw_regL ?_
          refine alP (some 4) rfl rfl (does_assign (v := .bool false) (by exact rfl)) (by decide) ?_
          refine al_nil ?_
          refine hK26 _ ?_
          refine aw_ret ?_
          have h := leafR h hq9
          obtain rfl := Option.some.inj h
          exact ret_ok1 (by conv => lhs; whnf) (by conv => lhs; whnf) (by exact rfl) (.inr rfl) rfl
        · have h := ifF c25 h
          refine aoP (some 42) rfl rfl (does_move (v := .sl 6 (List.map enc27 a0)) (by exact rfl)) (by decide) ?_
          refine aoP (some 43) rfl rfl (does_move (v := .int .i64 v5_0) (by exact rfl)) (by decide) ?_
          obtain ⟨g27, h⟩ := gd_some h
          obtain ⟨x28, hx28, h⟩ := bnd_some h
          refine aoP (some 44) rfl rfl (does_indexAddr_sl (el := .agg [.int .u64 x28.Trace.Hi, .int .u64 x28.Trace.Lo, .int .i64 x28.First, .int .i64 x28.Last, .bool x28.Sure, .sl 10 (List.map enc30 x28.Spans)]) (by conv => lhs; whnf) (by conv => lhs; whnf) ty22 ty28 g27 (by exact map_get hx28)) (by decide) ?_
          refine aoP (some 45) rfl rfl (does_fieldAddr (q := .rptr [.int .i64 x28.Last, .bool x28.Sure, .sl 10 (List.map enc30 x28.Spans)]) (by conv => lhs; whnf) ty28 rfl ty3 (by decide) (by exact rfl)) (by decide) ?_
          refine aoR (some 46) rfl rfl (does_load (v := .int .i64 x28.Last) (by conv => lhs; whnf) (by conv => lhs; whnf) ty3 (by exact rfl)) (by decide) ?_
          refine aoP (some 47) rfl rfl (does_move (v := .sl 6 (List.map enc27 a1)) (by exact rfl)) (by decide) ?_
          refine aoP (some 48) rfl rfl (does_move (v := .int .i64 v5_0) (by exact rfl)) (by decide) ?_
          obtain ⟨g29, h⟩ := gd_some h
          obtain ⟨x30, hx30, h⟩ := bnd_some h
          refine aoP (some 49) rfl rfl (does_indexAddr_sl (el := .agg [.int .u64 x30.Trace.Hi, .int .u64 x30.Trace.Lo, .int .i64 x30.First, .int .i64 x30.Last, .bool x30.Sure, .sl 10 (List.map enc30 x30.Spans)]) (by conv => lhs; whnf) (by conv => lhs; whnf) ty22 ty28 g29 (by exact map_get hx30)) (by decide) ?_
          refine aoP (some 50) rfl rfl (does_fieldAddr (q := .rptr [.int .i64 x30.Last, .bool x30.Sure, .sl 10 (List.map enc30 x30.Spans)]) (by conv => lhs; whnf) ty28 rfl ty3 (by decide) (by exact rfl)) (by decide) ?_
          refine aoR (some 51) rfl rfl (does_load (v := .int .i64 x30.Last) (by conv => lhs; whnf) (by conv => lhs; whnf) ty3 (by exact rfl)) (by decide) ?_
          refine aoP (some 52) rfl rfl (does_bin (v := .bool (x28.Last != x30.Last)) (by conv => lhs; whnf) (by conv => lhs; whnf) rfl) (by decide) ?_
          refine aoP (some 53) rfl rfl (does_pick (v := .bool (x28.Last != x30.Last)) (by conv => lhs; whnf) (by exact rfl)) (by decide) ?_
          refine aoP (some 54) rfl rfl (does_move (v := .bool (x28.Last != x30.Last)) (by exact rfl)) (by decide) ?_
          refine ao_bool (c := (x28.Last != x30.Last)) 54 rfl (fun c31 => ?_) (fun c31 => ?_)
          · have h := ifT c31 h
            refine aoS (some 55) rfl rfl (by decide) ?_
            refine aoS (some 56) rfl rfl (by decide) ?_
            refine aoS (some 57) rfl rfl (by decide) ?_
            refine aoS (some 58) rfl rfl (by decide) ?_
            refine aoS (some 59) rfl rfl (by decide) ?_
            refine aoS (some 60) rfl rfl (by decide) ?_
            refine aoS (some 61) rfl rfl (by decide) ?_
            refine aoS (some 62) rfl rfl (by decide) ?_
            refine aoS (some 63) rfl rfl (by decide) ?_
            refine aoS (some 64) rfl rfl (by decide) ?_
            refine aoS (some 65) rfl rfl (by decide) ?_
            refine aoP (some 66) rfl rfl (does_pick (v := .bool true) (by conv => lhs; whnf) (by exact rfl)) (by decide) ?_
            refine aoP (some 67) rfl rfl (does_move (v := .bool true) (by exact rfl)) (by decide) ?_
            refine aoS (some 68) rfl rfl (by decide) ?_
            refine aoS (some 69) rfl rfl (by decide) ?_
            refine aoS (some 70) rfl rfl (by decide) ?_
            refine aoS (some 71) rfl rfl (by decide) ?_
            refine aoS (some 72) rfl rfl (by decide) ?_
            refine aoS (some 73) rfl rfl (by decide) ?_
            refine aoS (some 74) rfl rfl (by decide) ?_
            refine aoS (some 75) rfl rfl (by decide) ?_
            refine aoS (some 76) rfl rfl (by decide) ?_
            refine aoS (some 77) rfl rfl (by decide) ?_
            refine aoS (some 78) rfl rfl (by decide) ?_
            refine aoS (some 79) rfl rfl (by decide) ?_
            refine aoP (some 80) rfl rfl (does_pick (v := .bool true) (by conv => lhs; whnf) (by exact rfl)) (by decide) ?_
            refine ao_nil_d (by kernel_rfl) ?_
            refine hK14 _ ?_
            refine aw_cond_t (by decide) rfl ?_
            refine aw_seq_k (fun K32 hK32 => ?_)
            refine aw_regL ?_
            refine alP (some 4) rfl rfl (does_assign (v := .bool false) (by exact rfl)) (by decide) ?_
            refine al_nil ?_
            refine hK32 _ ?_
            refine aw_ret ?_
            have h := leafR h hq9
            obtain rfl := Option.some.inj h
            exact ret_ok1 (by conv => lhs; whnf) (by conv => lhs; whnf) (by exact rfl) (.inr rfl) rfl
          · have h := ifF c31 h
            refine aoP (some 55) rfl rfl (does_move (v := .sl 6 (List.map enc27 a0)) (by exact rfl)) (by decide) ?_
            refine aoP (some 56) rfl rfl (does_move (v := .int .i64 v5_0) (by exact rfl)) (by decide) ?_
            obtain ⟨g33, h⟩ := gd_some h
            obtain ⟨x34, hx34, h⟩ := bnd_some h
            refine aoP (some 57) rfl rfl (does_indexAddr_sl (el := .agg [.int .u64 x34.Trace.Hi, .int .u64 x34.Trace.Lo, .int .i64 x34.First, .int .i64 x34.Last, .bool x34.Sure, .sl 10 (List.map enc30 x34.Spans)]) (by conv => lhs; whnf) (by conv => lhs; whnf) ty22 ty28 g33 (by exact map_get hx34)) (by decide) ?_
            refine aoP (some 58) rfl rfl (does_fieldAddr (q := .rptr [.bool x34.Sure, .sl 10 (List.map enc30 x34.Spans)]) (by conv => lhs; whnf) ty28 rfl ty4 (by decide) (by exact rfl)) (by decide) ?_
            refine aoR (some 59) rfl rfl (does_load (v := .bool x34.Sure) (by conv => lhs; whnf) (by conv => lhs; whnf) ty4 (by exact rfl)) (by decide) ?_
            refine aoP (some 60) rfl rfl (does_move (v := .sl 6 (List.map enc27 a1)) (by exact rfl)) (by decide) ?_
            refine aoP (some 61) rfl rfl (does_move (v := .int .i64 v5_0) (by exact rfl)) (by decide) ?_
            obtain ⟨g35, h⟩ := gd_some h
            obtain ⟨x36, hx36, h⟩ := bnd_some h
            refine aoP (some 62) rfl rfl (does_indexAddr_sl (el := .agg [.int .u64 x36.Trace.Hi, .int .u64 x36.Trace.Lo, .int .i64 x36.First, .int .i64 x36.Last, .bool x36.Sure, .sl 10 (List.map enc30 x36.Spans)]) (by conv => lhs; whnf) (by conv => lhs; whnf) ty22 ty28 g35 (by exact map_get hx36)) (by decide) ?_
            refine aoP (some 63) rfl rfl (does_fieldAddr (q := .rptr [.bool x36.Sure, .sl 10 (List.map enc30 x36.Spans)]) (by conv => lhs; whnf) ty28 rfl ty4 (by decide) (by exact rfl)) (by decide) ?_
            refine aoR (some 64) rfl rfl (does_load (v := .bool x36.Sure) (by conv => lhs; whnf) (by conv => lhs; whnf) ty4 (by exact rfl)) (by decide) ?_
            refine aoP (some 65) rfl rfl (does_eq_bool (v := .bool (!(x34.Sure == x36.Sure))) (by conv => lhs; whnf) (by conv => lhs; whnf) (ty_bool ty4) rfl) (by decide) ?_
            refine aoP (some 66) rfl rfl (does_pick (v := .bool (!(x34.Sure == x36.Sure))) (by conv => lhs; whnf) (by exact rfl)) (by decide) ?_
            refine aoP (some 67) rfl rfl (does_move (v := .bool (!(x34.Sure == x36.Sure))) (by exact rfl)) (by decide) ?_
            refine ao_bool (c := (!(x34.Sure == x36.Sure))) 67 rfl (fun c37 => ?_) (fun c37 => ?_)
            · have h := ifT c37 h
              refine aoS (some 68) rfl rfl (by decide) ?_
              refine aoS (some 69) rfl rfl (by decide) ?_
              refine aoS (some 70) rfl rfl (by decide) ?_
              refine aoS (some 71) rfl rfl (by decide) ?_
              refine aoS (some 72) rfl rfl (by decide) ?_
              refine aoS (some 73) rfl rfl (by decide) ?_
              refine aoS (some 74) rfl rfl (by decide) ?_
              refine aoS (some 75) rfl rfl (by decide) ?_
              refine aoS (some 76) rfl rfl (by decide) ?_
              refine aoS (some 77) rfl rfl (by decide) ?_
              refine aoS (some 78) rfl rfl (by decide) ?_
              refine aoS (some 79) rfl rfl (by decide) ?_
              refine aoP (some 80) rfl rfl (does_pick (v := .bool true) (by conv => lhs; whnf) (by exact rfl)) (by decide) ?_
              refine ao_nil_d (by kernel_rfl) ?_
              refine hK14 _ ?_
              refine aw_cond_t (by decide) rfl ?_
              refine aw_seq_k (fun K38 hK38 => ?_)
              refine aw_regL ?_
              refine alP (some 4) rfl rfl (does_assign (v := .bool false) (by exact rfl)) (by decide) ?_
              refine al_nil ?_
              refine hK38 _ ?_
              refine aw_ret ?_
              have h := leafR h hq9
              obtain rfl := Option.some.inj h
              exact ret_ok1 (by conv => lhs; whnf) (by conv => lhs; whnf) (by exact rfl) (.inr rfl) rfl
            · have h := ifF c37 h
              refine aoP (some 68) rfl rfl (does_move (v := .sl 6 (List.map enc27 a0)) (by exact rfl)) (by decide) ?_
              refine aoP (some 69) rfl rfl (does_move (v := .int .i64 v5_0) (by exact rfl)) (by decide) ?_
              obtain ⟨g39, h⟩ := gd_some h
              obtain ⟨x40, hx40, h⟩ := bnd_some h
              refine aoP (some 70) rfl rfl (does_indexAddr_sl (el := .agg [.int .u64 x40.Trace.Hi, .int .u64 x40.Trace.Lo, .int .i64 x40.First, .int .i64 x40.Last, .bool x40.Sure, .sl 10 (List.map enc30 x40.Spans)]) (by conv => lhs; whnf) (by conv => lhs; whnf) ty22 ty28 g39 (by exact map_get hx40)) (by decide) ?_
              refine aoP (some 71) rfl rfl (does_fieldAddr (q := .rptr [.sl 10 (List.map enc30 x40.Spans)]) (by conv => lhs; whnf) ty28 rfl ty26 (by decide) (by exact rfl)) (by decide) ?_
              refine aoR (some 72) rfl rfl (does_load (v := .sl 10 (List.map enc30 x40.Spans)) (by conv => lhs; whnf) (by conv => lhs; whnf) ty26 (by exact rfl)) (by decide) ?_
              refine aoP (some 73) rfl rfl (does_move (v := .sl 6 (List.map enc27 a1)) (by exact rfl)) (by decide) ?_
              refine aoP (some 74) rfl rfl (does_move (v := .int .i64 v5_0) (by exact rfl)) (by decide) ?_
              obtain ⟨g41, h⟩ := gd_some h
              obtain ⟨x42, hx42, h⟩ := bnd_some h
              refine aoP (some 75) rfl rfl (does_indexAddr_sl (el := .agg [.int .u64 x42.Trace.Hi, .int .u64 x42.Trace.Lo, .int .i64 x42.First, .int .i64 x42.Last, .bool x42.Sure, .sl 10 (List.map enc30 x42.Spans)]) (by conv => lhs; whnf) (by conv => lhs; whnf) ty22 ty28 g41 (by exact map_get hx42)) (by decide) ?_
              refine aoP (some 76) rfl rfl (does_fieldAddr (q := .rptr [.sl 10 (List.map enc30 x42.Spans)]) (by conv => lhs; whnf) ty28 rfl ty26 (by decide) (by exact rfl)) (by decide) ?_
              refine aoR (some 77) rfl rfl (does_load (v := .sl 10 (List.map enc30 x42.Spans)) (by conv => lhs; whnf) (by conv => lhs; whnf) ty26 (by exact rfl)) (by decide) ?_
              obtain ⟨x43, hx43, h⟩ := bnd_some h
              refine aoD (some 78) rfl rfl ((do_call0 78 false (gleaningref1_SameSpans_ok x40.Spans x42.Spans hx43) rfl ent21 rfl rfl).fx (y := ⟨[], .bool x43, [], [78]⟩) rfl) (by decide) ?_
              refine aoP (some 79) rfl rfl (does_un (v := .bool (!x43)) (by conv => lhs; whnf) rfl) (by decide) ?_
              refine aoP (some 80) rfl rfl (does_pick (v := .bool (!x43)) (by conv => lhs; whnf) (by exact rfl)) (by decide) ?_
              refine ao_nil_d (by kernel_rfl) ?_
              refine hK14 _ ?_
              refine aw_bool (b := (!x43)) 80 rfl (fun c44 => ?_) (fun c44 => ?_)
              · have h := ifT c44 h
                refine aw_cond_t (by decide) rfl ?_
                refine aw_seq_k (fun K45 hK45 => ?_)
                refine aw_regL ?_
                refine alP (some 4) rfl rfl (does_assign (v := .bool false) (by exact rfl)) (by decide) ?_
                refine al_nil ?_
                refine hK45 _ ?_
                refine aw_ret ?_
                have h := leafR h hq9
                obtain rfl := Option.some.inj h
                exact ret_ok1 (by conv => lhs; whnf) (by conv => lhs; whnf) (by exact rfl) (.inr rfl) rfl
              · have h := ifF c44 h
                refine aw_cond_f (by decide) rfl ?_
                refine aw_skip ?_
                refine hK13 _ ?_
                refine aw_regL ?_
                refine alP (some 15) rfl rfl (does_move (v := .int .i64 v5_0) (by exact rfl)) (by decide) ?_
                refine alP (some 16) rfl rfl (does_bin (v := .int .i64 (IntKind.i64.wrap (v5_0 + 1))) (by conv => lhs; whnf) (by conv => lhs; whnf) rfl) (by decide) ?_
                refine alP (some 5) rfl rfl (does_assign (v := .int .i64 (IntKind.i64.wrap (v5_0 + 1))) (by exact rfl)) (by decide) ?_
                refine al_nil ?_
                have h := leafL h hq9
                exact ⟨m0, Nat.lt_succ_self _, _, reb_lit [(0, .sl 6 (List.map enc27 a0)), (1, .sl 6 (List.map enc27 a1)), (5, .int .i64 (IntKind.i64.wrap (v5_0 + 1)))] [] [] [] (envOk_cons (by conv => lhs; whnf) (by exact rfl) (envOk_cons (by conv => lhs; whnf) (by exact rfl) (envOk_cons (by conv => lhs; whnf) (by exact rfl) envOk_nil))) objOk_nil (nodup_b rfl) (nodup_b rfl) rfl rfl, (IntKind.i64.wrap (v5_0 + 1)), h, rfl⟩
    · have h := ifF c12 h
      refine aw_cond_f (by decide) rfl ?_
      refine aw_exit ?_
      have h := leafR h hq9
      refine hK6 _ ?_
      refine aw_seq_k (fun K46 hK46 => ?_)
      refine aw_regL ?_
      refine alP (some 4) rfl rfl (does_assign (v := .bool true) (by exact rfl)) (by decide) ?_
      refine al_nil ?_
      refine hK46 _ ?_
      refine aw_ret ?_
      obtain rfl := Option.some.inj h
      exact ret_ok1 (by conv => lhs; whnf) (by conv => lhs; whnf) (by exact rfl) (.inr rfl) rfl
def gleaninglaw15_Few_k1 (a0 : List Episode) (v3_0 : Int) (v4_0 : Int) : Option ((Int × Int) ⊕ Bool) :=
  gd (0 ≤ v4_0) (Option.bind (a0[(Int.toNat v4_0)]?) (fun (x18 : Episode) => Option.bind (gleaninglaw3_FewAll x18.Spans) (fun (x19 : Bool) => if (!x19) = true then (some (Sum.inr false)) else (gd (0 ≤ v4_0) (Option.bind (a0[(Int.toNat v4_0)]?) (fun (x23 : Episode) => some (Sum.inl ((IntKind.i64.wrap ((IntKind.i64.wrap (v3_0 + 1)) + (List.length x23.Spans : Int))), (IntKind.i64.wrap (v4_0 + 1))))))))))
def gleaninglaw15_Few_l0 (a0 : List Episode) (v3_0 : Int) (v4_0 : Int) : Option ((Int × Int) ⊕ Bool) :=
  Option.bind (if (decide (v4_0 < (List.length a0 : Int))) = true then (if (decide (v3_0 < 1000)) = true then (some (Sum.inl ())) else (some (Sum.inr (Sum.inr (decide (v3_0 ≤ 120)))))) else (some (Sum.inr (Sum.inr (decide (v3_0 ≤ 120)))))) (Sum.elim (fun (s : Unit) => gleaninglaw15_Few_k1 a0 v3_0 v4_0) some)
def gleaninglaw15_Few (a0 : List Episode) : Option Bool :=
  loopN (fun (s : Int × Int) => gleaninglaw15_Few_l0 a0 s.1 s.2) Fu (0, 0)
set_option maxRecDepth 100000 in
set_option maxHeartbeats 8000000 in
/-- gleaning/gleaninglaw15.Few -/
theorem gleaninglaw15_Few_ok (a0 : List Episode) {r : Bool} (h : gleaninglaw15_Few a0 = some r) : Ok Try.prog 16 [.sl 6 (List.map enc27 a0)] [] [] (.bool r) [] [] := by
  unfold gleaninglaw15_Few at h
  refine ok_of_code Try.func16 rfl (by show (1 : Nat) ≤ _; decide) (Nat.le_refl _) fun X => ?_
  refine aw_seq_k (fun K1 hK1 => ?_)
  refine aw_regL ?_
  refine alP (some 2) rfl rfl (does_assign (v := .bool false) (by exact rfl)) (by decide) ?_
  refine al_nil ?_
  refine hK1 _ ?_
  refine aw_seq_k (fun K2 hK2 => ?_)
  refine aw_regL ?_
  refine alP (some 3) rfl rfl (does_assign (v := .int .i64 0) (by exact rfl)) (by decide) ?_
  refine al_nil ?_
  refine hK2 _ ?_
  refine aw_seq_k (fun K3 hK3 => ?_)
  refine aw_seq_k (fun K4 hK4 => ?_)
  refine aw_regL ?_
  refine alP (some 4) rfl rfl (does_assign (v := .int .i64 0) (by exact rfl)) (by decide) ?_
  refine al_nil ?_
  refine hK4 _ ?_
  refine aw_block ?_
  refine aw_loop' (fun m s => ∃ (v3_0 : Int), ∃ (v4_0 : Int), loopN (fun (s : Int × Int) => gleaninglaw15_Few_l0 a0 s.1 s.2) m (v3_0, v4_0) = some r ∧ s = lit [(0, .sl 6 (List.map enc27 a0)), (3, .int .i64 v3_0), (4, .int .i64 v4_0)] [] [] X) Fu
    ⟨_, reb_lit [(0, .sl 6 (List.map enc27 a0)), (3, .int .i64 (0)), (4, .int .i64 (0))] [] [] [] (envOk_cons (by conv => lhs; whnf) (by exact rfl) (envOk_cons (by conv => lhs; whnf) (by exact rfl) (envOk_cons (by conv => lhs; whnf) (by exact rfl) envOk_nil))) objOk_nil (nodup_b rfl) (nodup_b rfl) rfl rfl, 0, 0, h, rfl⟩ ?_
  rintro m s ⟨v3_0, v4_0, h, rfl⟩
  obtain ⟨m0, q5, rfl, h, hq6⟩ := loop_some h
  replace h : gleaninglaw15_Few_l0 a0 v3_0 v4_0 = some q5 := h
  unfold gleaninglaw15_Few_l0 at h
  obtain ⟨q7, h, hk8⟩ := bnd_some h
  refine aw_cut (fun s => gleaninglaw15_Few_k1 a0 v3_0 v4_0 = some q5 ∧ s = lit [(0, .sl 6 (List.map enc27 a0)), (3, .int .i64 v3_0), (4, .int .i64 v4_0)] [] [] X) ?_ ?_
  · skip
    refine aw_seq_k (fun K9 hK9 => ?_)
    refine aw_regL ?_
    refine alP (some 5) rfl rfl (does_move (v := .int .i64 v4_0) (by exact rfl)) (by decide) ?_
    refine alP (some 6) rfl rfl (does_move (v := .sl 6 (List.map enc27 a0)) (by exact rfl)) (by decide) ?_
    refine alP (some 7) rfl rfl ((does_len_sl (by conv => lhs; whnf) ty22).castp (v' := .int .i64 (List.length a0 : Int)) (by exact len_map _)) (by decide) ?_
    refine alP (some 8) rfl rfl (does_bin (v := .bool (decide (v4_0 < (List.length a0 : Int)))) (by conv => lhs; whnf) (by conv => lhs; whnf) rfl) (by decide) ?_
    refine alP (some 9) rfl rfl (does_move (v := .bool (decide (v4_0 < (List.length a0 : Int)))) (by exact rfl)) (by decide) ?_
    refine al_bool (c := (decide (v4_0 < (List.length a0 : Int)))) 9 rfl (fun c10 => ?_) (fun c10 => ?_)
    · have h := ifT c10 h
      refine alP (some 10) rfl rfl (does_move (v := .int .i64 v3_0) (by exact rfl)) (by decide) ?_
      refine alP (some 11) rfl rfl (does_bin (v := .bool (decide (v3_0 < 1000))) (by conv => lhs; whnf) (by conv => lhs; whnf) rfl) (by decide) ?_
      refine alP (some 12) rfl rfl (does_pick (v := .bool (decide (v3_0 < 1000))) (by conv => lhs; whnf) (by exact rfl)) (by decide) ?_
      refine al_nil ?_
      refine hK9 _ ?_
      refine aw_bool (b := (decide (v3_0 < 1000))) 12 rfl (fun c11 => ?_) (fun c11 => ?_)
      · have h := ifT c11 h
        refine aw_cond_t (by decide) rfl ?_
        refine aw_skip ?_
        have h := leafL h hk8
        exact ⟨_, reb_lit [(0, .sl 6 (List.map enc27 a0)), (3, .int .i64 v3_0), (4, .int .i64 v4_0)] [] [] [] (envOk_cons (by conv => lhs; whnf) (by exact rfl) (envOk_cons (by conv => lhs; whnf) (by exact rfl) (envOk_cons (by conv => lhs; whnf) (by exact rfl) envOk_nil))) objOk_nil (nodup_b rfl) (nodup_b rfl) rfl rfl, h, rfl⟩
      · have h := ifF c11 h
        refine aw_cond_f (by decide) rfl ?_
        refine aw_exit ?_
        have h := leafR h hk8
        have h := leafR h hq6
        refine hK3 _ ?_
        refine aw_seq_k (fun K12 hK12 => ?_)
        refine aw_regL ?_
        refine alP (some 31) rfl rfl (does_move (v := .int .i64 v3_0) (by exact rfl)) (by decide) ?_
        refine alP (some 32) rfl rfl (does_bin (v := .bool (decide (v3_0 ≤ 120))) (by conv => lhs; whnf) (by conv => lhs; whnf) rfl) (by decide) ?_
        refine alP (some 2) rfl rfl (does_assign (v := .bool (decide (v3_0 ≤ 120))) (by exact rfl)) (by decide) ?_
        refine al_nil ?_
        refine hK12 _ ?_
        refine aw_ret ?_
        obtain rfl := Option.some.inj h
        exact ret_ok1 (by conv => lhs; whnf) (by conv => lhs; whnf) (by exact rfl) (.inr rfl) rfl
    · have h := ifF c10 h
      refine alS (some 10) rfl rfl (by decide) ?_
      refine alS (some 11) rfl rfl (by decide) ?_
      refine alP (some 12) rfl rfl (does_pick (v := .bool false) (by conv => lhs; whnf) (by exact rfl)) (by decide) ?_
      refine al_nil ?_
      refine hK9 _ ?_
      refine aw_cond_f (by decide) rfl ?_
      refine aw_exit ?_
      have h := leafR h hk8
      have h := leafR h hq6
      refine hK3 _ ?_
      refine aw_seq_k (fun K13 hK13 => ?_)
      refine aw_regL ?_
      refine alP (some 31) rfl rfl (does_move (v := .int .i64 v3_0) (by exact rfl)) (by decide) ?_
      refine alP (some 32) rfl rfl (does_bin (v := .bool (decide (v3_0 ≤ 120))) (by conv => lhs; whnf) (by conv => lhs; whnf) rfl) (by decide) ?_
      refine alP (some 2) rfl rfl (does_assign (v := .bool (decide (v3_0 ≤ 120))) (by exact rfl)) (by decide) ?_
      refine al_nil ?_
      refine hK13 _ ?_
      refine aw_ret ?_
      obtain rfl := Option.some.inj h
      exact ret_ok1 (by conv => lhs; whnf) (by conv => lhs; whnf) (by exact rfl) (.inr rfl) rfl
  · rintro s ⟨h, rfl⟩
    unfold gleaninglaw15_Few_k1 at h
    refine aw_seq_k (fun K14 hK14 => ?_)
    refine aw_block ?_
    refine aw_seq_k (fun K15 hK15 => ?_)
    refine aw_seq_k (fun K16 hK16 => ?_)
    refine aw_regL ?_
    refine alP (some 15) rfl rfl (does_move (v := .sl 6 (List.map enc27 a0)) (by exact rfl)) (by decide) ?_
    refine alP (some 16) rfl rfl (does_move (v := .int .i64 v4_0) (by exact rfl)) (by decide) ?_
    obtain ⟨g17, h⟩ := gd_some h
    obtain ⟨x18, hx18, h⟩ := bnd_some h
    refine alP (some 17) rfl rfl (does_indexAddr_sl (el := .agg [.int .u64 x18.Trace.Hi, .int .u64 x18.Trace.Lo, .int .i64 x18.First, .int .i64 x18.Last, .bool x18.Sure, .sl 10 (List.map enc30 x18.Spans)]) (by conv => lhs; whnf) (by conv => lhs; whnf) ty22 ty28 g17 (by exact map_get hx18)) (by decide) ?_
    refine alP (some 18) rfl rfl (does_fieldAddr (q := .rptr [.sl 10 (List.map enc30 x18.Spans)]) (by conv => lhs; whnf) ty28 rfl ty26 (by decide) (by exact rfl)) (by decide) ?_
    refine alR (some 19) rfl rfl (does_load (v := .sl 10 (List.map enc30 x18.Spans)) (by conv => lhs; whnf) (by conv => lhs; whnf) ty26 (by exact rfl)) (by decide) ?_
    obtain ⟨x19, hx19, h⟩ := bnd_some h
    refine alD (some 20) rfl rfl (do_call0 20 false (gleaninglaw3_FewAll_ok x18.Spans hx19) rfl ent25 rfl rfl) (by decide) ?_
    refine alP (some 21) rfl rfl (does_un (v := .bool (!x19)) (by conv => lhs; whnf) rfl) (by decide) ?_
    refine al_nil ?_
    refine hK16 _ ?_
    refine aw_bool (b := (!x19)) 21 rfl (fun c20 => ?_) (fun c20 => ?_)
    · have h := ifT c20 h
      refine aw_cond_t (by decide) rfl ?_
      refine aw_seq_k (fun K21 hK21 => ?_)
      refine aw_regL ?_
      refine alP (some 2) rfl rfl (does_assign (v := .bool false) (by exact rfl)) (by decide) ?_
      refine al_nil ?_
      refine hK21 _ ?_
      refine aw_ret ?_
      have h := leafR h hq6
      obtain rfl := Option.some.inj h
      exact ret_ok1 (by conv => lhs; whnf) (by conv => lhs; whnf) (by exact rfl) (.inr rfl) rfl
    · have h := ifF c20 h
      refine aw_cond_f (by decide) rfl ?_
      refine aw_skip ?_
      refine hK15 _ ?_
      refine aw_regL ?_
      refine alP (some 22) rfl rfl (does_move (v := .int .i64 v3_0) (by exact rfl)) (by decide) ?_
      refine alP (some 23) rfl rfl (does_bin (v := .int .i64 (IntKind.i64.wrap (v3_0 + 1))) (by conv => lhs; whnf) (by conv => lhs; whnf) rfl) (by decide) ?_
      refine alP (some 24) rfl rfl (does_move (v := .sl 6 (List.map enc27 a0)) (by exact rfl)) (by decide) ?_
      refine alP (some 25) rfl rfl (does_move (v := .int .i64 v4_0) (by exact rfl)) (by decide) ?_
      obtain ⟨g22, h⟩ := gd_some h
      obtain ⟨x23, hx23, h⟩ := bnd_some h
      refine alP (some 26) rfl rfl (does_indexAddr_sl (el := .agg [.int .u64 x23.Trace.Hi, .int .u64 x23.Trace.Lo, .int .i64 x23.First, .int .i64 x23.Last, .bool x23.Sure, .sl 10 (List.map enc30 x23.Spans)]) (by conv => lhs; whnf) (by conv => lhs; whnf) ty22 ty28 g22 (by exact map_get hx23)) (by decide) ?_
      refine alP (some 27) rfl rfl (does_fieldAddr (q := .rptr [.sl 10 (List.map enc30 x23.Spans)]) (by conv => lhs; whnf) ty28 rfl ty26 (by decide) (by exact rfl)) (by decide) ?_
      refine alR (some 28) rfl rfl (does_load (v := .sl 10 (List.map enc30 x23.Spans)) (by conv => lhs; whnf) (by conv => lhs; whnf) ty26 (by exact rfl)) (by decide) ?_
      refine alP (some 29) rfl rfl ((does_len_sl (by conv => lhs; whnf) ty26).castp (v' := .int .i64 (List.length x23.Spans : Int)) (by exact len_map _)) (by decide) ?_
      refine alP (some 30) rfl rfl (does_bin (v := .int .i64 (IntKind.i64.wrap ((IntKind.i64.wrap (v3_0 + 1)) + (List.length x23.Spans : Int)))) (by conv => lhs; whnf) (by conv => lhs; whnf) rfl) (by decide) ?_
      refine alP (some 3) rfl rfl (does_assign (v := .int .i64 (IntKind.i64.wrap ((IntKind.i64.wrap (v3_0 + 1)) + (List.length x23.Spans : Int)))) (by exact rfl)) (by decide) ?_
      refine al_nil ?_
      refine hK14 _ ?_
      refine aw_regL ?_
      refine alP (some 13) rfl rfl (does_move (v := .int .i64 v4_0) (by exact rfl)) (by decide) ?_
      refine alP (some 14) rfl rfl (does_bin (v := .int .i64 (IntKind.i64.wrap (v4_0 + 1))) (by conv => lhs; whnf) (by conv => lhs; whnf) rfl) (by decide) ?_
      refine alP (some 4) rfl rfl (does_assign (v := .int .i64 (IntKind.i64.wrap (v4_0 + 1))) (by exact rfl)) (by decide) ?_
      refine al_nil ?_
      have h := leafL h hq6
      exact ⟨m0, Nat.lt_succ_self _, _, reb_lit [(0, .sl 6 (List.map enc27 a0)), (3, .int .i64 (IntKind.i64.wrap ((IntKind.i64.wrap (v3_0 + 1)) + (List.length x23.Spans : Int)))), (4, .int .i64 (IntKind.i64.wrap (v4_0 + 1)))] [] [] [] (envOk_cons (by conv => lhs; whnf) (by exact rfl) (envOk_cons (by conv => lhs; whnf) (by exact rfl) (envOk_cons (by conv => lhs; whnf) (by exact rfl) envOk_nil))) objOk_nil (nodup_b rfl) (nodup_b rfl) rfl rfl, (IntKind.i64.wrap ((IntKind.i64.wrap (v3_0 + 1)) + (List.length x23.Spans : Int))), (IntKind.i64.wrap (v4_0 + 1)), h, rfl⟩
def Episode.wf (a : Episode) : Prop := (Trace.wf a.Trace) ∧ (inI .i64 a.First) ∧ (inI .i64 a.Last) ∧ True ∧ ((List.length a.Spans) ≤ maxLen ∧ ∀ y ∈ a.Spans, Span.wf y)
theorem sh28 : ∀ (m : Nat) (cs : List PV), Shape Try.prog m 28 cs → ∃ a : Episode, cs = [.int .u64 a.Trace.Hi, .int .u64 a.Trace.Lo, .int .i64 a.First, .int .i64 a.Last, .bool a.Sure, .sl 10 (List.map enc30 a.Spans)] ∧ (Episode.wf a) := fun m cs h => by
  obtain ⟨hl, m, hf⟩ := shape_struct h Try.underlying28
  have f0 := hf 0 _ rfl
  obtain ⟨a0, e0, w0⟩ := sh25 m _ f0
  rw [show Try.prog.cellsOf _ = 2 by kernel_rfl] at e0
  have f1 := hf 1 _ rfl
  obtain ⟨a1, e1, w1⟩ := sh3 m _ f1
  rw [show Try.prog.cellsOf _ = 1 by kernel_rfl] at e1
  have f2 := hf 2 _ rfl
  obtain ⟨a2, e2, w2⟩ := sh3 m _ f2
  rw [show Try.prog.cellsOf _ = 1 by kernel_rfl] at e2
  have f3 := hf 3 _ rfl
  obtain ⟨a3, e3, w3⟩ := sh4 m _ f3
  rw [show Try.prog.cellsOf _ = 1 by kernel_rfl] at e3
  have f4 := hf 4 _ rfl
  obtain ⟨a4, e4, w4⟩ := sh26 m _ f4
  rw [show Try.prog.cellsOf _ = 1 by kernel_rfl] at e4
  exact ⟨⟨a0, a1, a2, a3, a4⟩, tile_all (l := [(2, [.int .u64 a0.Hi, .int .u64 a0.Lo]), (1, [.int .i64 a1]), (1, [.int .i64 a2]), (1, [.bool a3]), (1, [.sl 10 (List.map enc30 a4)])]) ⟨e0, e1, e2, e3, e4, trivial⟩ hl (by kernel_rfl), ⟨w0, w1, w2, w3, w4⟩⟩
theorem sh22 : ∀ (m : Nat) (cs : List PV), Shape Try.prog m 22 cs → ∃ a : List Episode, cs = [.sl 6 (List.map enc27 a)] ∧ ((List.length a) ≤ maxLen ∧ ∀ y ∈ a, Episode.wf y) := fun m cs h => by
  obtain ⟨l, h1, h2, h3⟩ := shape_rows (f := enc27) (Q := fun y => Episode.wf y) h Try.underlying22 (fun m ps hs => by
    obtain ⟨a, rfl, hw⟩ := sh28 m ps hs
    exact ⟨a, by rw [show aggT Try.prog 28 = true by kernel_rfl]; rfl, hw⟩)
  exact ⟨l, h1.trans (by rw [show Try.prog.cellsOf 28 = 6 by kernel_rfl]), h2, h3⟩
def gleaninglaw15_alive : Option Bool :=
  Option.bind (episode_Add (Episode.mk (Trace.mk 0 0) 0 0 false []) (Span.mk (Trace.mk 0 0) 5 0 (strOf []) (strOf []) 0 0 false []) 3) (fun (x3 : Episode × Bool) => Option.bind (episode_Spans [] (Trace.mk 0 0)) (fun (x5 : List Span) => if ((List.length x5 : Int) == 0) = true then (if x3.2 = true then (if ((List.length x3.1.Spans : Int) == 1) = true then (some (x3.1.Last == 3)) else (some false)) else (some false)) else (some false)))
set_option maxRecDepth 100000 in
set_option maxHeartbeats 8000000 in
/-- gleaning/gleaninglaw15.alive -/
theorem gleaninglaw15_alive_ok {r : Bool} (h : gleaninglaw15_alive = some r) : Ok Try.prog 15 [] [] [] (.bool r) [] [] := by
  unfold gleaninglaw15_alive at h
  refine ok_of_code Try.func15 rfl (by show (0 : Nat) ≤ _; decide) (Nat.le_refl _) fun X => ?_
  refine aw_seq_k (fun K1 hK1 => ?_)
  refine aw_regL ?_
  refine alP (some 0) rfl rfl (does_assign (v := .bool false) (by exact rfl)) (by decide) ?_
  refine al_nil ?_
  refine hK1 _ ?_
  refine aw_seq_k (fun K2 hK2 => ?_)
  refine aw_regL ?_
  refine alP (some 4) rfl rfl ((do_build_struct (cs := [.int .u64 0, .int .u64 0, .int .i64 0, .int .i64 0, .bool false, .nil]) ty28 rfl [⟨.struct [(0, 23), (1, 23)], 2, 16, [.int .u64 0, .int .u64 0]⟩, ⟨.int .i64, 1, 8, [.int .i64 0]⟩, ⟨.int .i64, 1, 8, [.int .i64 0]⟩, ⟨.bool, 1, 1, [.bool false]⟩, ⟨.slice 31, 1, 24, [.nil]⟩] (by simp only [List.map, ty25, ty26, ty3, ty4]) (by rfl) (by exact rfl)).weak (v' := .agg [.int .u64 0, .int .u64 0, .int .i64 0, .int .i64 0, .bool false, .sl 10 (List.map enc30 [])]) (le_agg ⟨le_refl _, le_refl _, le_refl _, le_refl _, le_refl _, le_nil _, trivial⟩)) (by decide) ?_
  refine alP (some 5) rfl rfl ((do_build_struct (cs := [.int .u64 0, .int .u64 0, .int .u64 5, .int .u64 0, .str (strOf []), .str (strOf []), .int .i64 0, .int .i64 0, .bool false, .nil]) ty31 rfl [⟨.struct [(0, 23), (1, 23)], 2, 16, [.int .u64 0, .int .u64 0]⟩, ⟨.int .u64, 1, 8, [.int .u64 0]⟩, ⟨.int .u64, 1, 8, [.int .u64 0]⟩, ⟨.str, 1, 16, [.str ByteArray.empty]⟩, ⟨.str, 1, 16, [.str ByteArray.empty]⟩, ⟨.int .i64, 1, 8, [.int .i64 0]⟩, ⟨.int .i64, 1, 8, [.int .i64 0]⟩, ⟨.bool, 1, 1, [.bool false]⟩, ⟨.slice 69, 1, 24, [.nil]⟩] (by simp only [List.map, ty23, ty25, ty29, ty3, ty4, ty9]) (by rfl) (by exact rfl)).weak (v' := .agg [.int .u64 0, .int .u64 0, .int .u64 5, .int .u64 0, .str (strOf []), .str (strOf []), .int .i64 0, .int .i64 0, .bool false, .sl 2 (List.map enc68 [])]) (le_agg ⟨le_refl _, le_refl _, le_refl _, le_refl _, le_refl _, le_refl _, le_refl _, le_refl _, le_refl _, le_nil _, trivial⟩)) (by decide) ?_
  obtain ⟨x3, hx3, h⟩ := bnd_some h
  refine alD (some 6) rfl rfl (do_call0 6 false (episode_Add_ok (Episode.mk (Trace.mk 0 0) 0 0 false []) (Span.mk (Trace.mk 0 0) 5 0 (strOf []) (strOf []) 0 0 false []) 3 hx3) rfl ent18 rfl rfl) (by decide) ?_
  refine alP (some 3) rfl rfl (does_move (v := .tup [.agg [.int .u64 x3.1.Trace.Hi, .int .u64 x3.1.Trace.Lo, .int .i64 x3.1.First, .int .i64 x3.1.Last, .bool x3.1.Sure, .own 6 0], .bool x3.2]) (by exact rfl)) (by decide) ?_
  refine alP (some 7) rfl rfl (does_extract (v := .agg [.int .u64 x3.1.Trace.Hi, .int .u64 x3.1.Trace.Lo, .int .i64 x3.1.First, .int .i64 x3.1.Last, .bool x3.1.Sure, .own 6 0]) (by conv => lhs; whnf) (by exact rfl)) (by decide) ?_
  refine alP (some 8) rfl rfl (does_extract (v := .bool x3.2) (by conv => lhs; whnf) (by exact rfl)) (by decide) ?_
  refine alD (some 1) rfl rfl (do_new ty28 rfl rfl) (by decide) ?_
  refine alD none rfl rfl (do_store (cs' := [.int .u64 x3.1.Trace.Hi, .int .u64 x3.1.Trace.Lo, .int .i64 x3.1.First, .int .i64 x3.1.Last, .bool x3.1.Sure, .own 6 0]) (by conv => lhs; whnf) (by conv => lhs; whnf) (by conv => lhs; whnf) ty28 rfl rfl rfl (by exact rfl)) (by decide) ?_
  refine alP (some 2) rfl rfl (does_assign (v := .bool x3.2) (by exact rfl)) (by decide) ?_
  refine al_nil ?_
  refine hK2 _ ?_
  refine aw_seq_k (fun K4 hK4 => ?_)
  refine aw_regL ?_
  refine alP (some 9) rfl rfl (do_build_struct (cs := [.int .u64 0, .int .u64 0]) ty25 rfl [⟨.int .u64, 1, 8, [.int .u64 0]⟩, ⟨.int .u64, 1, 8, [.int .u64 0]⟩] (by simp only [List.map, ty23]) (by rfl) (by exact rfl)) (by decide) ?_
  obtain ⟨x5, hx5, h⟩ := bnd_some h
  refine alD (some 10) rfl rfl (do_call0 10 false ((episode_Spans_ok [] (Trace.mk 0 0) hx5).weak (args' := [.nil, _]) ⟨le_nil _, le_refl _, trivial⟩) rfl ent22 rfl rfl) (by decide) ?_
  refine alR (some 11) rfl rfl ((does_len_own (by conv => lhs; whnf) (by conv => lhs; whnf) ty26).cast (v' := .int .i64 (List.length x5 : Int)) (by exact len_map _)) (by decide) ?_
  refine alP (some 12) rfl rfl (does_bin (v := .bool ((List.length x5 : Int) == 0)) (by conv => lhs; whnf) (by conv => lhs; whnf) rfl) (by decide) ?_
  refine alP (some 13) rfl rfl (does_move (v := .bool ((List.length x5 : Int) == 0)) (by exact rfl)) (by decide) ?_
  refine al_bool (c := ((List.length x5 : Int) == 0)) 13 rfl (fun c6 => ?_) (fun c6 => ?_)
  · have h := ifT c6 h
    refine alP (some 14) rfl rfl (does_move (v := .bool x3.2) (by exact rfl)) (by decide) ?_
    refine alP (some 15) rfl rfl (does_pick (v := .bool x3.2) (by conv => lhs; whnf) (by exact rfl)) (by decide) ?_
    refine alP (some 16) rfl rfl (does_move (v := .bool x3.2) (by exact rfl)) (by decide) ?_
    refine al_bool (c := x3.2) 16 rfl (fun c7 => ?_) (fun c7 => ?_)
    · have h := ifT c7 h
      refine alP (some 17) rfl rfl (does_fieldAddr (q := .ptr 1 0 5) (by conv => lhs; whnf) ty28 rfl ty26 (by decide) (by exact rfl)) (by decide) ?_
      refine alR (some 18) rfl rfl (does_load (v := .own 6 0) (by conv => lhs; whnf) (by conv => lhs; whnf) ty26 (by exact rfl)) (by decide) ?_
      refine alR (some 19) rfl rfl ((does_len_own (by conv => lhs; whnf) (by conv => lhs; whnf) ty26).cast (v' := .int .i64 (List.length x3.1.Spans : Int)) (by exact len_map _)) (by decide) ?_
      refine alP (some 20) rfl rfl (does_bin (v := .bool ((List.length x3.1.Spans : Int) == 1)) (by conv => lhs; whnf) (by conv => lhs; whnf) rfl) (by decide) ?_
      refine alP (some 21) rfl rfl (does_pick (v := .bool ((List.length x3.1.Spans : Int) == 1)) (by conv => lhs; whnf) (by exact rfl)) (by decide) ?_
      refine alP (some 22) rfl rfl (does_move (v := .bool ((List.length x3.1.Spans : Int) == 1)) (by exact rfl)) (by decide) ?_
      refine al_bool (c := ((List.length x3.1.Spans : Int) == 1)) 22 rfl (fun c8 => ?_) (fun c8 => ?_)
      · have h := ifT c8 h
        refine alP (some 23) rfl rfl (does_fieldAddr (q := .ptr 1 0 3) (by conv => lhs; whnf) ty28 rfl ty3 (by decide) (by exact rfl)) (by decide) ?_
        refine alR (some 24) rfl rfl (does_load (v := .int .i64 x3.1.Last) (by conv => lhs; whnf) (by conv => lhs; whnf) ty3 (by exact rfl)) (by decide) ?_
        refine alP (some 25) rfl rfl (does_bin (v := .bool (x3.1.Last == 3)) (by conv => lhs; whnf) (by conv => lhs; whnf) rfl) (by decide) ?_
        refine alP (some 26) rfl rfl (does_pick (v := .bool (x3.1.Last == 3)) (by conv => lhs; whnf) (by exact rfl)) (by decide) ?_
        refine alP (some 0) rfl rfl (does_assign (v := .bool (x3.1.Last == 3)) (by exact rfl)) (by decide) ?_
        refine al_nil ?_
        refine hK4 _ ?_
        refine aw_ret ?_
        obtain rfl := Option.some.inj h
        exact ret_ok1 (by conv => lhs; whnf) (by conv => lhs; whnf) (by exact rfl) (.inr rfl) rfl
      · have h := ifF c8 h
        refine alS (some 23) rfl rfl (by decide) ?_
        refine alS (some 24) rfl rfl (by decide) ?_
        refine alS (some 25) rfl rfl (by decide) ?_
        refine alP (some 26) rfl rfl (does_pick (v := .bool false) (by conv => lhs; whnf) (by exact rfl)) (by decide) ?_
        refine alP (some 0) rfl rfl (does_assign (v := .bool false) (by exact rfl)) (by decide) ?_
        refine al_nil ?_
        refine hK4 _ ?_
        refine aw_ret ?_
        obtain rfl := Option.some.inj h
        exact ret_ok1 (by conv => lhs; whnf) (by conv => lhs; whnf) (by exact rfl) (.inr rfl) rfl
    · have h := ifF c7 h
      refine alS (some 17) rfl rfl (by decide) ?_
      refine alS (some 18) rfl rfl (by decide) ?_
      refine alS (some 19) rfl rfl (by decide) ?_
      refine alS (some 20) rfl rfl (by decide) ?_
      refine alP (some 21) rfl rfl (does_pick (v := .bool false) (by conv => lhs; whnf) (by exact rfl)) (by decide) ?_
      refine alP (some 22) rfl rfl (does_move (v := .bool false) (by exact rfl)) (by decide) ?_
      refine alS (some 23) rfl rfl (by decide) ?_
      refine alS (some 24) rfl rfl (by decide) ?_
      refine alS (some 25) rfl rfl (by decide) ?_
      refine alP (some 26) rfl rfl (does_pick (v := .bool false) (by conv => lhs; whnf) (by exact rfl)) (by decide) ?_
      refine alP (some 0) rfl rfl (does_assign (v := .bool false) (by exact rfl)) (by decide) ?_
      refine al_nil ?_
      refine hK4 _ ?_
      refine aw_ret ?_
      obtain rfl := Option.some.inj h
      exact ret_ok1 (by conv => lhs; whnf) (by conv => lhs; whnf) (by exact rfl) (.inr rfl) rfl
  · have h := ifF c6 h
    refine alS (some 14) rfl rfl (by decide) ?_
    refine alP (some 15) rfl rfl (does_pick (v := .bool false) (by conv => lhs; whnf) (by exact rfl)) (by decide) ?_
    refine alP (some 16) rfl rfl (does_move (v := .bool false) (by exact rfl)) (by decide) ?_
    refine alS (some 17) rfl rfl (by decide) ?_
    refine alS (some 18) rfl rfl (by decide) ?_
    refine alS (some 19) rfl rfl (by decide) ?_
    refine alS (some 20) rfl rfl (by decide) ?_
    refine alP (some 21) rfl rfl (does_pick (v := .bool false) (by conv => lhs; whnf) (by exact rfl)) (by decide) ?_
    refine alP (some 22) rfl rfl (does_move (v := .bool false) (by exact rfl)) (by decide) ?_
    refine alS (some 23) rfl rfl (by decide) ?_
    refine alS (some 24) rfl rfl (by decide) ?_
    refine alS (some 25) rfl rfl (by decide) ?_
    refine alP (some 26) rfl rfl (does_pick (v := .bool false) (by conv => lhs; whnf) (by exact rfl)) (by decide) ?_
    refine alP (some 0) rfl rfl (does_assign (v := .bool false) (by exact rfl)) (by decide) ?_
    refine al_nil ?_
    refine hK4 _ ?_
    refine aw_ret ?_
    obtain rfl := Option.some.inj h
    exact ret_ok1 (by conv => lhs; whnf) (by conv => lhs; whnf) (by exact rfl) (.inr rfl) rfl
end Go.Proofs.Ytlkdpgemdopbfaa.Ab
