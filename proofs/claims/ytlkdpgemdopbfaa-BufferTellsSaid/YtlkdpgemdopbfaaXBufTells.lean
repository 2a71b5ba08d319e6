/- Chapter 16: the oldest, and all of it. -/
import Derived.Test.YtlkdpgemdopbfaaXBuffer
import Derived.Test.YtlkdpgemdopbfaaProg
namespace Go.Proofs.Ytlkdpgemdopbfaa.Ab
open Go Go.RowKit
set_option linter.unusedVariables false
set_option linter.unusedSimpArgs false
theorem ent16 : Ent Try.prog 16 := ⟨_, Try.func16, by kernel_rfl, rfl⟩
theorem ent20 : Ent Try.prog 20 := ⟨_, Try.func20, by kernel_rfl, rfl⟩
theorem ent24 : Ent Try.prog 24 := ⟨_, Try.func24, by kernel_rfl, rfl⟩
theorem ent37 : Ent Try.prog 37 := ⟨_, Try.func37, by kernel_rfl, rfl⟩
theorem ent38 : Ent Try.prog 38 := ⟨_, Try.func38, by kernel_rfl, rfl⟩
theorem ent39 : Ent Try.prog 39 := ⟨_, Try.func39, by kernel_rfl, rfl⟩
theorem ent40 : Ent Try.prog 40 := ⟨_, Try.func40, by kernel_rfl, rfl⟩
theorem ent41 : Ent Try.prog 41 := ⟨_, Try.func41, by kernel_rfl, rfl⟩
theorem ent42 : Ent Try.prog 42 := ⟨_, Try.func42, by kernel_rfl, rfl⟩
theorem ent60 : Ent Try.prog 60 := ⟨_, Try.func60, by kernel_rfl, rfl⟩
theorem ent61 : Ent Try.prog 61 := ⟨_, Try.func61, by kernel_rfl, rfl⟩
theorem ent71 : Ent Try.prog 71 := ⟨_, Try.func71, by kernel_rfl, rfl⟩
def slices_Delete_Episode (a0 : List Episode) (a1 : Int) (a2 : Int) : Option (List Episode) :=
  gd (0 ≤ a1) (gd (a1 < a2) (gd (a2 ≤ (a0.length : Int)) (some (a0.take a1.toNat ++ a0.drop a2.toNat))))
theorem slices_Delete_Episode_ok (a0 : List Episode) (a1 : Int) (a2 : Int) {r : List Episode} (h : slices_Delete_Episode a0 a1 a2 = some r) : Ok Try.prog 60 [.own 1 0, .int .i64 a1, .int .i64 a2] [] [(28, 6, List.map enc27 a0)] (.own 2 0) [] [(28, 6, List.map enc27 r)] :=
  delete_okT (tu := 0) (ti := 3) (tb := 4) (sl := 22) (by kernel_rfl) ⟨"slices.Delete[[]gleaning/api.Episode,gleaning/api.Episode]", by decide, Try.func60⟩ ⟨by kernel_rfl, by kernel_rfl⟩ ⟨by kernel_rfl, by kernel_rfl⟩ ⟨by kernel_rfl, by kernel_rfl⟩ ⟨by kernel_rfl, by kernel_rfl⟩ (by kernel_rfl) enc27 a0 a1 a2 h
def buffer_Oldest_l1 (x3 : List Episode) (v6_1 : Int) (v18_1 : Int) : Option ((Int × Int) ⊕ Int) :=
  if (decide (v18_1 < (List.length x3 : Int))) = true then (gd (0 ≤ v18_1) (Option.bind (x3[(Int.toNat v18_1)]?) (fun (x20 : Episode) => gd (0 ≤ v6_1) (Option.bind (x3[(Int.toNat v6_1)]?) (fun (x23 : Episode) => if (decide (x20.First < x23.First)) = true then (some (Sum.inl (v18_1, (IntKind.i64.wrap (v18_1 + 1))))) else (some (Sum.inl (v6_1, (IntKind.i64.wrap (v18_1 + 1)))))))))) else (some (Sum.inr v6_1))
def buffer_Oldest_k0 (x3 : List Episode) (v6_0 : Int) : Option (List Episode × Episode × Bool) :=
  gd (0 ≤ v6_0) (Option.bind (x3[(Int.toNat v6_0)]?) (fun (x27 : Episode) => Option.bind (slices_Delete_Episode x3 v6_0 (IntKind.i64.wrap (v6_0 + 1))) (fun (x29 : List Episode) => some (x29, x27, true))))
def buffer_Oldest (a0 : List Episode) : Option (List Episode × Episode × Bool) :=
  Option.bind (episode_Copies a0) (fun (x3 : List Episode) => if ((List.length x3 : Int) == 0) = true then (some ([], (Episode.mk (Trace.mk 0 0) 0 0 false []), false)) else (Option.bind (loopN (fun (s : Int × Int) => buffer_Oldest_l1 x3 s.1 s.2) Fu (0, 0)) (fun (s : Int) => buffer_Oldest_k0 x3 s)))
set_option maxRecDepth 100000 in
set_option maxHeartbeats 8000000 in
/-- gleaning/buffer.Oldest -/
theorem buffer_Oldest_ok (a0 : List Episode) {r : List Episode × Episode × Bool} (h : buffer_Oldest a0 = some r) : Ok Try.prog 38 [.sl 6 (List.map enc27 a0)] [] [] (.tup [.own 2 0, .agg [.int .u64 r.2.1.Trace.Hi, .int .u64 r.2.1.Trace.Lo, .int .i64 r.2.1.First, .int .i64 r.2.1.Last, .bool r.2.1.Sure, .sl 10 (List.map enc30 r.2.1.Spans)], .bool r.2.2]) [] [(28, 6, List.map enc27 r.1)] := by
  unfold buffer_Oldest at h
  refine ok_of_code Try.func38 rfl (by show (1 : Nat) ≤ _; decide) (Nat.le_refl _) fun X => ?_
  refine aw_seq_k (fun K1 hK1 => ?_)
  refine aw_regL ?_
  refine alP (some 2) rfl rfl (does_assign (v := .nil) (by exact rfl)) (by decide) ?_
  refine alD (some 3) rfl rfl (do_new ty28 rfl rfl) (by decide) ?_
  refine alP (some 4) rfl rfl (does_assign (v := .bool false) (by exact rfl)) (by decide) ?_
  refine al_nil ?_
  refine hK1 _ ?_
  refine aw_seq_k (fun K2 hK2 => ?_)
  refine aw_regL ?_
  refine alP (some 10) rfl rfl (does_move (v := .sl 6 (List.map enc27 a0)) (by exact rfl)) (by decide) ?_
  obtain ⟨x3, hx3, h⟩ := bnd_some h
  refine alD (some 11) rfl rfl (do_call0 11 false (episode_Copies_ok a0 hx3) rfl ent47 rfl rfl) (by decide) ?_
  refine alP (some 5) rfl rfl (does_assign (v := .own 11 0) (by exact rfl)) (by decide) ?_
  refine al_nil ?_
  refine hK2 _ ?_
  refine aw_seq_k (fun K4 hK4 => ?_)
  refine aw_seq_k (fun K5 hK5 => ?_)
  refine aw_regL ?_
  refine alP (some 12) rfl rfl (does_move (v := .own 11 0) (by exact rfl)) (by decide) ?_
  refine alR (some 13) rfl rfl ((does_len_own (by conv => lhs; whnf) (by conv => lhs; whnf) ty22).cast (v' := .int .i64 (List.length x3 : Int)) (by exact len_map _)) (by decide) ?_
  refine alP (some 14) rfl rfl (does_bin (v := .bool ((List.length x3 : Int) == 0)) (by conv => lhs; whnf) (by conv => lhs; whnf) rfl) (by decide) ?_
  refine al_nil ?_
  refine hK5 _ ?_
  refine aw_bool (b := ((List.length x3 : Int) == 0)) 14 rfl (fun c6 => ?_) (fun c6 => ?_)
  · have h := ifT c6 h
    refine aw_cond_t (by decide) rfl ?_
    refine aw_seq_k (fun K7 hK7 => ?_)
    refine aw_regL ?_
    refine alP (some 15) rfl rfl (do_build_struct (cs := [.int .u64 0, .int .u64 0, .int .i64 0, .int .i64 0, .bool false, .nil]) ty28 rfl [⟨.struct [(0, 23), (1, 23)], 2, 16, [.int .u64 0, .int .u64 0]⟩, ⟨.int .i64, 1, 8, [.int .i64 0]⟩, ⟨.int .i64, 1, 8, [.int .i64 0]⟩, ⟨.bool, 1, 1, [.bool false]⟩, ⟨.slice 31, 1, 24, [.nil]⟩] (by simp only [List.map, ty25, ty26, ty3, ty4]) (by rfl) (by exact rfl)) (by decide) ?_
    refine alP (some 2) rfl rfl (does_assign (v := .nil) (by exact rfl)) (by decide) ?_
    refine alD none rfl rfl (do_store (cs' := [.int .u64 0, .int .u64 0, .int .i64 0, .int .i64 0, .bool false, .nil]) (by conv => lhs; whnf) (by conv => lhs; whnf) (by conv => lhs; whnf) ty28 rfl rfl rfl (by exact rfl)) (by decide) ?_
    refine alP (some 4) rfl rfl (does_assign (v := .bool false) (by exact rfl)) (by decide) ?_
    refine al_nil ?_
    refine hK7 _ ?_
    refine aw_nilOwn 2 28 6 (by conv => lhs; whnf) (by decide) (by decide) ?_
    refine aw_reb (reb_w (tl' := [(2, .own 2 0), (3, .ptr 3 0 0), (4, .bool false)]) (ol' := [((2, 0), .arr 28 6 false (List.map enc27 [])), ((3, 0), .box [.int .u64 0, .int .u64 0, .int .i64 0, .int .i64 0, .bool false, .sl 10 (List.map enc30 [])])]) (reb_lit [(2, .own 2 0), (3, .ptr 3 0 0), (4, .bool false)] [(2, 0), (3, 0)] [((2, 0), .arr 28 6 false (List.map enc27 [])), ((3, 0), .box [.int .u64 0, .int .u64 0, .int .i64 0, .int .i64 0, .bool false, .nil])] [(2, 1), (3, 1)] (envOk_cons (by conv => lhs; whnf) (by exact rfl) (envOk_cons (by conv => lhs; whnf) (by exact rfl) (envOk_cons (by conv => lhs; whnf) (by exact rfl) envOk_nil))) (objOk_cons (by conv => lhs; whnf) (by conv => lhs; whnf) (by exact rfl) (by simp) (objOk_cons (by conv => lhs; whnf) (by conv => lhs; whnf) (by exact rfl) (by simp) objOk_nil)) (nodup_b rfl) (nodup_b rfl) rfl rfl) ⟨rfl, le_refl _, rfl, le_refl _, rfl, le_refl _, trivial⟩ ⟨rfl, .rfl _, rfl, (.box ⟨le_refl _, le_refl _, le_refl _, le_refl _, le_refl _, le_nil _, trivial⟩), trivial⟩) ?_
    refine aw_ret ?_
    obtain rfl := Option.some.inj h
    exact ret_okR [(2, 0)] (by conv => lhs; whnf) (by conv => lhs; whnf) (by exact rfl) (rowsOk_cons (by conv => lhs; whnf) (by exact rfl) trivial) (nodup_b rfl) (.inr rfl) rfl
  · have h := ifF c6 h
    refine aw_cond_f (by decide) rfl ?_
    refine aw_skip ?_
    refine hK4 _ ?_
    refine aw_seq_k (fun K8 hK8 => ?_)
    refine aw_regL ?_
    refine alP (some 6) rfl rfl (does_assign (v := .int .i64 0) (by exact rfl)) (by decide) ?_
    refine al_nil ?_
    refine hK8 _ ?_
    obtain ⟨q9, h, hk10⟩ := bnd_some h
    refine aw_cut (fun s => ∃ (v6_0 : Int), buffer_Oldest_k0 x3 v6_0 = some r ∧ s = lit [(3, .ptr 3 0 0), (5, .own 11 0), (6, .int .i64 v6_0)] [((3, 0), .box [.int .u64 0, .int .u64 0, .int .i64 0, .int .i64 0, .bool false, .nil]), ((11, 0), .arr 28 6 false (List.map enc27 x3))] [(3, 1), (11, 1)] X) ?_ ?_
    · skip
      refine aw_seq_k (fun K11 hK11 => ?_)
      refine aw_regL ?_
      refine alP (some 16) rfl rfl (does_move (v := .own 11 0) (by exact rfl)) (by decide) ?_
      refine alR (some 17) rfl rfl ((does_len_own (by conv => lhs; whnf) (by conv => lhs; whnf) ty22).cast (v' := .int .i64 (List.length x3 : Int)) (by exact len_map _)) (by decide) ?_
      refine alP (some 18) rfl rfl (does_move (v := .int .i64 0) (by exact rfl)) (by decide) ?_
      refine al_nil ?_
      refine hK11 _ ?_
      refine aw_block ?_
      refine aw_loop' (fun m s => ∃ (v6_1 : Int), ∃ (v18_1 : Int), loopN (fun (s : Int × Int) => buffer_Oldest_l1 x3 s.1 s.2) m (v6_1, v18_1) = some q9 ∧ s = lit [(3, .ptr 3 0 0), (5, .own 11 0), (6, .int .i64 v6_1), (16, .own 11 0), (17, .int .i64 (List.length x3 : Int)), (18, .int .i64 v18_1)] [((3, 0), .box [.int .u64 0, .int .u64 0, .int .i64 0, .int .i64 0, .bool false, .nil]), ((11, 0), .arr 28 6 false (List.map enc27 x3))] [(3, 1), (11, 1)] X) Fu
        ⟨_, reb_lit [(3, .ptr 3 0 0), (5, .own 11 0), (6, .int .i64 (0)), (16, .own 11 0), (17, .int .i64 (List.length x3 : Int)), (18, .int .i64 (0))] [(3, 0), (11, 0)] [((3, 0), .box [.int .u64 0, .int .u64 0, .int .i64 0, .int .i64 0, .bool false, .nil]), ((11, 0), .arr 28 6 false (List.map enc27 x3))] [(3, 1), (11, 1)] (envOk_cons (by conv => lhs; whnf) (by exact rfl) (envOk_cons (by conv => lhs; whnf) (by exact rfl) (envOk_cons (by conv => lhs; whnf) (by exact rfl) (envOk_cons (by conv => lhs; whnf) (by exact rfl) (envOk_cons (by conv => lhs; whnf) (by exact rfl) (envOk_cons (by conv => lhs; whnf) (by exact rfl) envOk_nil)))))) (objOk_cons (by conv => lhs; whnf) (by conv => lhs; whnf) (by exact rfl) (by simp) (objOk_cons (by conv => lhs; whnf) (by conv => lhs; whnf) (by exact rfl) (by simp) objOk_nil)) (nodup_b rfl) (nodup_b rfl) rfl rfl, 0, 0, h, rfl⟩ ?_
      rintro m s ⟨v6_1, v18_1, h, rfl⟩
      obtain ⟨m1, q12, rfl, h, hq13⟩ := loop_some h
      replace h : buffer_Oldest_l1 x3 v6_1 v18_1 = some q12 := h
      unfold buffer_Oldest_l1 at h
      refine aw_seq_k (fun K14 hK14 => ?_)
      refine aw_regL ?_
      refine alP (some 19) rfl rfl (does_bin (v := .bool (decide (v18_1 < (List.length x3 : Int)))) (by conv => lhs; whnf) (by conv => lhs; whnf) rfl) (by decide) ?_
      refine al_nil ?_
      refine hK14 _ ?_
      refine aw_seq_k (fun K15 hK15 => ?_)
      refine aw_bool (b := (decide (v18_1 < (List.length x3 : Int)))) 19 rfl (fun c16 => ?_) (fun c16 => ?_)
      · have h := ifT c16 h
        refine aw_cond_t (by decide) rfl ?_
        refine aw_skip ?_
        refine hK15 _ ?_
        refine aw_seq_k (fun K17 hK17 => ?_)
        refine aw_block ?_
        refine aw_seq_k (fun K18 hK18 => ?_)
        refine aw_regL ?_
        refine alP (some 20) rfl rfl (does_move (v := .int .i64 v18_1) (by exact rfl)) (by decide) ?_
        obtain ⟨g19, h⟩ := gd_some h
        obtain ⟨x20, hx20, h⟩ := bnd_some h
        refine alR (some 21) rfl rfl (does_indexAddr_own (by conv => lhs; whnf) (by conv => lhs; whnf) (by conv => lhs; whnf) ty22 ty28 g19 (by exact own_lt hx20)) (by decide) ?_
        refine alR (some 22) rfl rfl (does_load (v := .agg [.int .u64 x20.Trace.Hi, .int .u64 x20.Trace.Lo, .int .i64 x20.First, .int .i64 x20.Last, .bool x20.Sure, .sl 10 (List.map enc30 x20.Spans)]) (by conv => lhs; whnf) (cellsAt_eptr (by conv => lhs; whnf) (by exact map_get hx20)) ty28 (by exact rfl)) (by decide) ?_
        refine alD (some 8) rfl rfl (do_new ty28 rfl rfl) (by decide) ?_
        refine alP (some 7) rfl rfl (does_assign (v := .int .i64 v18_1) (by exact rfl)) (by decide) ?_
        refine alD none rfl rfl (do_store (cs' := [.int .u64 x20.Trace.Hi, .int .u64 x20.Trace.Lo, .int .i64 x20.First, .int .i64 x20.Last, .bool x20.Sure, .sl 10 (List.map enc30 x20.Spans)]) (by conv => lhs; whnf) (by conv => lhs; whnf) (by conv => lhs; whnf) ty28 rfl rfl rfl (by exact rfl)) (by decide) ?_
        refine al_nil ?_
        refine hK18 _ ?_
        refine aw_seq_k (fun K21 hK21 => ?_)
        refine aw_regd (by kernel_rfl) (by decide +kernel) ?_
        refine aoP (some 23) rfl rfl (does_fieldAddr (q := .ptr 8 0 2) (by conv => lhs; whnf) ty28 rfl ty3 (by decide) (by exact rfl)) (by decide) ?_
        refine aoR (some 24) rfl rfl (does_load (v := .int .i64 x20.First) (by conv => lhs; whnf) (by conv => lhs; whnf) ty3 (by exact rfl)) (by decide) ?_
        refine aoP (some 25) rfl rfl (does_move (v := .own 11 0) (by exact rfl)) (by decide) ?_
        refine aoP (some 26) rfl rfl (does_move (v := .int .i64 v6_1) (by exact rfl)) (by decide) ?_
        obtain ⟨g22, h⟩ := gd_some h
        obtain ⟨x23, hx23, h⟩ := bnd_some h
        refine aoR (some 27) rfl rfl (does_indexAddr_own (by conv => lhs; whnf) (by conv => lhs; whnf) (by conv => lhs; whnf) ty22 ty28 g22 (by exact own_lt hx23)) (by decide) ?_
        refine aoP (some 28) rfl rfl (does_fieldAddr (q := .eptr 11 0 6 (Int.toNat v6_1) 2) (by conv => lhs; whnf) ty28 rfl ty3 (by decide) (by exact rfl)) (by decide) ?_
        refine aoR (some 29) rfl rfl (does_load (v := .int .i64 x23.First) (by conv => lhs; whnf) (cellsAt_eptr (by conv => lhs; whnf) (by exact map_get hx23)) ty3 (by exact rfl)) (by decide) ?_
        refine aoP (some 30) rfl rfl (does_bin (v := .bool (decide (x20.First < x23.First))) (by conv => lhs; whnf) (by conv => lhs; whnf) rfl) (by decide) ?_
        refine ao_nil_d (by kernel_rfl) ?_
        refine hK21 _ ?_
        refine aw_bool (b := (decide (x20.First < x23.First))) 30 rfl (fun c24 => ?_) (fun c24 => ?_)
        · have h := ifT c24 h
          refine aw_cond_t (by decide) rfl ?_
          refine aw_regL ?_
          refine alP (some 31) rfl rfl (does_move (v := .int .i64 v18_1) (by exact rfl)) (by decide) ?_
          refine alP (some 6) rfl rfl (does_assign (v := .int .i64 v18_1) (by exact rfl)) (by decide) ?_
          refine al_nil ?_
          refine hK17 _ ?_
          refine aw_regL ?_
          refine alP (some 32) rfl rfl (does_bin (v := .int .i64 (IntKind.i64.wrap (v18_1 + 1))) (by conv => lhs; whnf) (by conv => lhs; whnf) rfl) (by decide) ?_
          refine alP (some 18) rfl rfl (does_move (v := .int .i64 (IntKind.i64.wrap (v18_1 + 1))) (by exact rfl)) (by decide) ?_
          refine al_nil ?_
          have h := leafL h hq13
          exact ⟨m1, Nat.lt_succ_self _, _, reb_lit [(3, .ptr 3 0 0), (5, .own 11 0), (6, .int .i64 v18_1), (16, .own 11 0), (17, .int .i64 (List.length x3 : Int)), (18, .int .i64 (IntKind.i64.wrap (v18_1 + 1)))] [(3, 0), (11, 0)] [((3, 0), .box [.int .u64 0, .int .u64 0, .int .i64 0, .int .i64 0, .bool false, .nil]), ((11, 0), .arr 28 6 false (List.map enc27 x3))] [(3, 1), (11, 1)] (envOk_cons (by conv => lhs; whnf) (by exact rfl) (envOk_cons (by conv => lhs; whnf) (by exact rfl) (envOk_cons (by conv => lhs; whnf) (by exact rfl) (envOk_cons (by conv => lhs; whnf) (by exact rfl) (envOk_cons (by conv => lhs; whnf) (by exact rfl) (envOk_cons (by conv => lhs; whnf) (by exact rfl) envOk_nil)))))) (objOk_cons (by conv => lhs; whnf) (by conv => lhs; whnf) (by exact rfl) (by simp) (objOk_cons (by conv => lhs; whnf) (by conv => lhs; whnf) (by exact rfl) (by simp) objOk_nil)) (nodup_b rfl) (nodup_b rfl) rfl rfl, v18_1, (IntKind.i64.wrap (v18_1 + 1)), h, rfl⟩
        · have h := ifF c24 h
          refine aw_cond_f (by decide) rfl ?_
          refine aw_skip ?_
          refine hK17 _ ?_
          refine aw_regL ?_
          refine alP (some 32) rfl rfl (does_bin (v := .int .i64 (IntKind.i64.wrap (v18_1 + 1))) (by conv => lhs; whnf) (by conv => lhs; whnf) rfl) (by decide) ?_
          refine alP (some 18) rfl rfl (does_move (v := .int .i64 (IntKind.i64.wrap (v18_1 + 1))) (by exact rfl)) (by decide) ?_
          refine al_nil ?_
          have h := leafL h hq13
          exact ⟨m1, Nat.lt_succ_self _, _, reb_lit [(3, .ptr 3 0 0), (5, .own 11 0), (6, .int .i64 v6_1), (16, .own 11 0), (17, .int .i64 (List.length x3 : Int)), (18, .int .i64 (IntKind.i64.wrap (v18_1 + 1)))] [(3, 0), (11, 0)] [((3, 0), .box [.int .u64 0, .int .u64 0, .int .i64 0, .int .i64 0, .bool false, .nil]), ((11, 0), .arr 28 6 false (List.map enc27 x3))] [(3, 1), (11, 1)] (envOk_cons (by conv => lhs; whnf) (by exact rfl) (envOk_cons (by conv => lhs; whnf) (by exact rfl) (envOk_cons (by conv => lhs; whnf) (by exact rfl) (envOk_cons (by conv => lhs; whnf) (by exact rfl) (envOk_cons (by conv => lhs; whnf) (by exact rfl) (envOk_cons (by conv => lhs; whnf) (by exact rfl) envOk_nil)))))) (objOk_cons (by conv => lhs; whnf) (by conv => lhs; whnf) (by exact rfl) (by simp) (objOk_cons (by conv => lhs; whnf) (by conv => lhs; whnf) (by exact rfl) (by simp) objOk_nil)) (nodup_b rfl) (nodup_b rfl) rfl rfl, v6_1, (IntKind.i64.wrap (v18_1 + 1)), h, rfl⟩
      · have h := ifF c16 h
        refine aw_cond_f (by decide) rfl ?_
        refine aw_exit ?_
        have h := leafR h hq13
        obtain rfl := Option.some.inj h
        have h := hk10
        exact ⟨_, reb_lit [(3, .ptr 3 0 0), (5, .own 11 0), (6, .int .i64 v6_1)] [(3, 0), (11, 0)] [((3, 0), .box [.int .u64 0, .int .u64 0, .int .i64 0, .int .i64 0, .bool false, .nil]), ((11, 0), .arr 28 6 false (List.map enc27 x3))] [(3, 1), (11, 1)] (envOk_cons (by conv => lhs; whnf) (by exact rfl) (envOk_cons (by conv => lhs; whnf) (by exact rfl) (envOk_cons (by conv => lhs; whnf) (by exact rfl) envOk_nil))) (objOk_cons (by conv => lhs; whnf) (by conv => lhs; whnf) (by exact rfl) (by simp) (objOk_cons (by conv => lhs; whnf) (by conv => lhs; whnf) (by exact rfl) (by simp) objOk_nil)) (nodup_b rfl) (nodup_b rfl) rfl rfl, v6_1, h, rfl⟩
    · rintro s ⟨v6_0, h, rfl⟩
      unfold buffer_Oldest_k0 at h
      refine aw_seq_k (fun K25 hK25 => ?_)
      refine aw_regL ?_
      refine alP (some 33) rfl rfl (does_move (v := .own 11 0) (by exact rfl)) (by decide) ?_
      refine alP (some 34) rfl rfl (does_move (v := .int .i64 v6_0) (by exact rfl)) (by decide) ?_
      obtain ⟨g26, h⟩ := gd_some h
      obtain ⟨x27, hx27, h⟩ := bnd_some h
      refine alR (some 35) rfl rfl (does_indexAddr_own (by conv => lhs; whnf) (by conv => lhs; whnf) (by conv => lhs; whnf) ty22 ty28 g26 (by exact own_lt hx27)) (by decide) ?_
      refine alR (some 36) rfl rfl (does_load (v := .agg [.int .u64 x27.Trace.Hi, .int .u64 x27.Trace.Lo, .int .i64 x27.First, .int .i64 x27.Last, .bool x27.Sure, .sl 10 (List.map enc30 x27.Spans)]) (by conv => lhs; whnf) (cellsAt_eptr (by conv => lhs; whnf) (by exact map_get hx27)) ty28 (by exact rfl)) (by decide) ?_
      refine alD (some 9) rfl rfl (do_new ty28 rfl rfl) (by decide) ?_
      refine alD none rfl rfl (do_store (cs' := [.int .u64 x27.Trace.Hi, .int .u64 x27.Trace.Lo, .int .i64 x27.First, .int .i64 x27.Last, .bool x27.Sure, .sl 10 (List.map enc30 x27.Spans)]) (by conv => lhs; whnf) (by conv => lhs; whnf) (by conv => lhs; whnf) ty28 rfl rfl rfl (by exact rfl)) (by decide) ?_
      refine al_nil ?_
      refine hK25 _ ?_
      refine aw_seq_k (fun K28 hK28 => ?_)
      refine aw_regd (by kernel_rfl) (by decide +kernel) ?_
      refine aoP (some 37) rfl rfl (does_move (v := .own 11 0) (by exact rfl)) (by decide) ?_
      refine aoP (some 38) rfl rfl (does_move (v := .int .i64 v6_0) (by exact rfl)) (by decide) ?_
      refine aoP (some 39) rfl rfl (does_move (v := .int .i64 v6_0) (by exact rfl)) (by decide) ?_
      refine aoP (some 40) rfl rfl (does_bin (v := .int .i64 (IntKind.i64.wrap (v6_0 + 1))) (by conv => lhs; whnf) (by conv => lhs; whnf) rfl) (by decide) ?_
      obtain ⟨x29, hx29, h⟩ := bnd_some h
      refine aoD (some 41) rfl rfl (do_callG (bcs := []) [] [(11, 0)] [] 41 false (slices_Delete_Episode_ok x3 v6_0 (IntKind.i64.wrap (v6_0 + 1)) hx29) rfl ent60 trivial (rowsOk_cons (by conv => lhs; whnf) (by exact rfl) trivial) rfl rfl rfl rfl rfl rfl rfl rfl (.inl trivial)) (by decide) ?_
      refine aoR (some 42) rfl rfl (does_load (v := .agg [.int .u64 x27.Trace.Hi, .int .u64 x27.Trace.Lo, .int .i64 x27.First, .int .i64 x27.Last, .bool x27.Sure, .sl 10 (List.map enc30 x27.Spans)]) (by conv => lhs; whnf) (by conv => lhs; whnf) ty28 (by exact rfl)) (by decide) ?_
      refine aoP (some 2) rfl rfl (does_assign (v := .own 41 0) (by exact rfl)) (by decide) ?_
      refine aoD none rfl rfl (do_store (cs' := [.int .u64 x27.Trace.Hi, .int .u64 x27.Trace.Lo, .int .i64 x27.First, .int .i64 x27.Last, .bool x27.Sure, .sl 10 (List.map enc30 x27.Spans)]) (by conv => lhs; whnf) (by conv => lhs; whnf) (by conv => lhs; whnf) ty28 rfl rfl rfl (by exact rfl)) (by decide) ?_
      refine aoP (some 4) rfl rfl (does_assign (v := .bool true) (by exact rfl)) (by decide) ?_
      refine ao_nil_d (by kernel_rfl) ?_
      refine hK28 _ ?_
      refine aw_ret ?_
      obtain rfl := Option.some.inj h
      exact ret_okR [(41, 0)] (by conv => lhs; whnf) (by conv => lhs; whnf) (by exact rfl) (rowsOk_cons (by conv => lhs; whnf) (by exact rfl) trivial) (nodup_b rfl) (.inr rfl) rfl
def gleaninglaw16_BufferOldest_l2 (a0 : List Episode) (x13 : List Episode × Episode × Bool) (v7_2 : Int) (v8_2 : Int) : Option ((Int × Int) ⊕ (Int ⊕ Bool)) :=
  if (decide ((0 : Int) ≤ v8_2)) = true then (gd (0 ≤ v8_2) (Option.bind (a0[(Int.toNat v8_2)]?) (fun (x32 : Episode) => if (decide (x32.First < x13.2.1.First)) = true then (some (Sum.inr (Sum.inr false))) else (gd (0 ≤ v8_2) (Option.bind (a0[(Int.toNat v8_2)]?) (fun (x37 : Episode) => if (x37.First == x13.2.1.First) = true then (some (Sum.inl (v8_2, (IntKind.i64.wrap (v8_2 - 1))))) else (some (Sum.inl (v7_2, (IntKind.i64.wrap (v8_2 - 1))))))))))) else (some (Sum.inr (Sum.inl v7_2)))
def gleaninglaw16_BufferOldest_k3 (a0 : List Episode) (x13 : List Episode × Episode × Bool) (v7_1 : Int) : Option Bool :=
  gd (0 ≤ v7_1) (gd (v7_1 ≤ (IntKind.i64.wrap (v7_1 + 1))) (gd ((IntKind.i64.wrap (v7_1 + 1)) ≤ (List.length a0 : Int)) (Option.bind (gleaningref15_SameEpisodes (List.drop (Int.toNat v7_1) (List.take (Int.toNat (IntKind.i64.wrap (v7_1 + 1))) a0)) [x13.2.1]) (fun (x52 : Bool) => if x52 = true then (gd (0 ≤ v7_1) (gd (v7_1 ≤ (List.length x13.1 : Int)) (gd (0 ≤ v7_1) (gd (v7_1 ≤ (List.length a0 : Int)) (Option.bind (gleaningref15_SameEpisodes (List.take (Int.toNat v7_1) x13.1) (List.take (Int.toNat v7_1) a0)) (fun (x58 : Bool) => if x58 = true then (gd (0 ≤ v7_1) (gd (v7_1 ≤ (List.length x13.1 : Int)) (gd (0 ≤ (IntKind.i64.wrap (v7_1 + 1))) (gd ((IntKind.i64.wrap (v7_1 + 1)) ≤ (List.length a0 : Int)) (Option.bind (gleaningref15_SameEpisodes (List.drop (Int.toNat v7_1) x13.1) (List.drop (Int.toNat (IntKind.i64.wrap (v7_1 + 1))) a0)) (fun (x64 : Bool) => some x64)))))) else (some false))))))) else (some false)))))
def gleaninglaw16_BufferOldest_k1 (a0 : List Episode) (x13 : List Episode × Episode × Bool) (v7_1 : Int) : Option Bool :=
  Option.bind (if (!x13.2.2) = true then (some (Sum.inr false)) else (if (decide (v7_1 < 0)) = true then (some (Sum.inr false)) else (if ((List.length x13.1 : Int) != (IntKind.i64.wrap ((List.length a0 : Int) - 1))) = true then (some (Sum.inr false)) else (some (Sum.inl ()))))) (Sum.elim (fun (s : Unit) => gleaninglaw16_BufferOldest_k3 a0 x13 v7_1) some)
def gleaninglaw16_BufferOldest_k0 (a0 : List Episode) : Option Bool :=
  Option.bind (buffer_Oldest a0) (fun (x13 : List Episode × Episode × Bool) => if ((List.length a0 : Int) == 0) = true then (if (!x13.2.2) = true then (some ((List.length x13.1 : Int) == 0)) else (some false)) else (Option.bind (loopN (fun (s : Int × Int) => gleaninglaw16_BufferOldest_l2 a0 x13 s.1 s.2) Fu (-1, (IntKind.i64.wrap ((List.length a0 : Int) - 1)))) (Sum.elim (fun (s : Int) => gleaninglaw16_BufferOldest_k1 a0 x13 s) some)))
def gleaninglaw16_BufferOldest (a0 : List Episode) : Option Bool :=
  Option.bind (gleaninglaw16_alive) (fun (x3 : Bool) => Option.bind (if (!x3) = true then (some (Sum.inr x3)) else (Option.bind (gleaninglaw15_Few a0) (fun (x9 : Bool) => if (!x9) = true then (some (Sum.inr x3)) else (some (Sum.inl ()))))) (Sum.elim (fun (s : Unit) => gleaninglaw16_BufferOldest_k0 a0) some))
set_option maxRecDepth 100000 in
set_option maxHeartbeats 8000000 in
/-- gleaning/gleaninglaw16.BufferOldest -/
theorem gleaninglaw16_BufferOldest_ok (a0 : List Episode) {r : Bool} (h : gleaninglaw16_BufferOldest a0 = some r) : Ok Try.prog 13 [.sl 6 (List.map enc27 a0)] [] [] (.bool r) [] [] := by
  unfold gleaninglaw16_BufferOldest at h
  refine ok_of_code Try.func13 rfl (by show (1 : Nat) ≤ _; decide) (Nat.le_refl _) fun X => ?_
  refine aw_seq_k (fun K1 hK1 => ?_)
  refine aw_regL ?_
  refine alP (some 2) rfl rfl (does_assign (v := .bool false) (by exact rfl)) (by decide) ?_
  refine al_nil ?_
  refine hK1 _ ?_
  refine aw_seq_k (fun K2 hK2 => ?_)
  refine aw_regL ?_
  obtain ⟨x3, hx3, h⟩ := bnd_some h
  refine alD (some 9) rfl rfl (do_call0 9 false (gleaninglaw16_alive_ok hx3) rfl ent24 rfl rfl) (by decide) ?_
  refine alP (some 3) rfl rfl (does_assign (v := .bool x3) (by exact rfl)) (by decide) ?_
  refine al_nil ?_
  refine hK2 _ ?_
  obtain ⟨q4, h, hk5⟩ := bnd_some h
  refine aw_cut (fun s => gleaninglaw16_BufferOldest_k0 a0 = some r ∧ s = lit [(0, .sl 6 (List.map enc27 a0))] [] [] X) ?_ ?_
  · skip
    refine aw_seq_k (fun K6 hK6 => ?_)
    refine aw_regL ?_
    refine alP (some 10) rfl rfl (does_move (v := .bool x3) (by exact rfl)) (by decide) ?_
    refine alP (some 11) rfl rfl (does_un (v := .bool (!x3)) (by conv => lhs; whnf) rfl) (by decide) ?_
    refine alP (some 12) rfl rfl (does_move (v := .bool (!x3)) (by exact rfl)) (by decide) ?_
    refine al_bool (c := (!x3)) 12 rfl (fun c7 => ?_) (fun c7 => ?_)
    · have h := ifT c7 h
      refine alS (some 13) rfl rfl (by decide) ?_
      refine alS (some 14) rfl rfl (by decide) ?_
      refine alS (some 15) rfl rfl (by decide) ?_
      refine alP (some 16) rfl rfl (does_pick (v := .bool true) (by conv => lhs; whnf) (by exact rfl)) (by decide) ?_
      refine al_nil ?_
      refine hK6 _ ?_
      refine aw_cond_t (by decide) rfl ?_
      refine aw_seq_k (fun K8 hK8 => ?_)
      refine aw_regL ?_
      refine alP (some 17) rfl rfl (does_move (v := .bool x3) (by exact rfl)) (by decide) ?_
      refine alP (some 2) rfl rfl (does_assign (v := .bool x3) (by exact rfl)) (by decide) ?_
      refine al_nil ?_
      refine hK8 _ ?_
      refine aw_ret ?_
      have h := leafR h hk5
      obtain rfl := Option.some.inj h
      exact ret_ok1 (by conv => lhs; whnf) (by conv => lhs; whnf) (by exact rfl) (.inr rfl) rfl
    · have h := ifF c7 h
      refine alP (some 13) rfl rfl (does_move (v := .sl 6 (List.map enc27 a0)) (by exact rfl)) (by decide) ?_
      obtain ⟨x9, hx9, h⟩ := bnd_some h
      refine alD (some 14) rfl rfl (do_call0 14 false (gleaninglaw15_Few_ok a0 hx9) rfl ent16 rfl rfl) (by decide) ?_
      refine alP (some 15) rfl rfl (does_un (v := .bool (!x9)) (by conv => lhs; whnf) rfl) (by decide) ?_
      refine alP (some 16) rfl rfl (does_pick (v := .bool (!x9)) (by conv => lhs; whnf) (by exact rfl)) (by decide) ?_
      refine al_nil ?_
      refine hK6 _ ?_
      refine aw_bool (b := (!x9)) 16 rfl (fun c10 => ?_) (fun c10 => ?_)
      · have h := ifT c10 h
        refine aw_cond_t (by decide) rfl ?_
        refine aw_seq_k (fun K11 hK11 => ?_)
        refine aw_regL ?_
        refine alP (some 17) rfl rfl (does_move (v := .bool x3) (by exact rfl)) (by decide) ?_
        refine alP (some 2) rfl rfl (does_assign (v := .bool x3) (by exact rfl)) (by decide) ?_
        refine al_nil ?_
        refine hK11 _ ?_
        refine aw_ret ?_
        have h := leafR h hk5
        obtain rfl := Option.some.inj h
        exact ret_ok1 (by conv => lhs; whnf) (by conv => lhs; whnf) (by exact rfl) (.inr rfl) rfl
      · have h := ifF c10 h
        refine aw_cond_f (by decide) rfl ?_
        refine aw_skip ?_
        have h := leafL h hk5
        exact ⟨_, reb_lit [(0, .sl 6 (List.map enc27 a0))] [] [] [] (envOk_cons (by conv => lhs; whnf) (by exact rfl) envOk_nil) objOk_nil (nodup_b rfl) (nodup_b rfl) rfl rfl, h, rfl⟩
  · rintro s ⟨h, rfl⟩
    unfold gleaninglaw16_BufferOldest_k0 at h
    refine aw_seq_k (fun K12 hK12 => ?_)
    refine aw_regL ?_
    refine alP (some 19) rfl rfl (does_move (v := .sl 6 (List.map enc27 a0)) (by exact rfl)) (by decide) ?_
    obtain ⟨x13, hx13, h⟩ := bnd_some h
    refine alD (some 20) rfl rfl (do_call0 20 false (buffer_Oldest_ok a0 hx13) rfl ent38 rfl rfl) (by decide) ?_
    refine alP (some 18) rfl rfl (does_move (v := .tup [.own 20 0, .agg [.int .u64 x13.2.1.Trace.Hi, .int .u64 x13.2.1.Trace.Lo, .int .i64 x13.2.1.First, .int .i64 x13.2.1.Last, .bool x13.2.1.Sure, .sl 10 (List.map enc30 x13.2.1.Spans)], .bool x13.2.2]) (by exact rfl)) (by decide) ?_
    refine alP (some 21) rfl rfl (does_extract (v := .own 20 0) (by conv => lhs; whnf) (by exact rfl)) (by decide) ?_
    refine alP (some 22) rfl rfl (does_extract (v := .agg [.int .u64 x13.2.1.Trace.Hi, .int .u64 x13.2.1.Trace.Lo, .int .i64 x13.2.1.First, .int .i64 x13.2.1.Last, .bool x13.2.1.Sure, .sl 10 (List.map enc30 x13.2.1.Spans)]) (by conv => lhs; whnf) (by exact rfl)) (by decide) ?_
    refine alP (some 23) rfl rfl (does_extract (v := .bool x13.2.2) (by conv => lhs; whnf) (by exact rfl)) (by decide) ?_
    refine alD (some 5) rfl rfl (do_new ty28 rfl rfl) (by decide) ?_
    refine alP (some 4) rfl rfl (does_assign (v := .own 20 0) (by exact rfl)) (by decide) ?_
    refine alD none rfl rfl (do_store (cs' := [.int .u64 x13.2.1.Trace.Hi, .int .u64 x13.2.1.Trace.Lo, .int .i64 x13.2.1.First, .int .i64 x13.2.1.Last, .bool x13.2.1.Sure, .sl 10 (List.map enc30 x13.2.1.Spans)]) (by conv => lhs; whnf) (by conv => lhs; whnf) (by conv => lhs; whnf) ty28 rfl rfl rfl (by exact rfl)) (by decide) ?_
    refine alP (some 6) rfl rfl (does_assign (v := .bool x13.2.2) (by exact rfl)) (by decide) ?_
    refine al_nil ?_
    refine hK12 _ ?_
    refine aw_seq_k (fun K14 hK14 => ?_)
    refine aw_seq_k (fun K15 hK15 => ?_)
    refine aw_regL ?_
    refine alP (some 24) rfl rfl (does_move (v := .sl 6 (List.map enc27 a0)) (by exact rfl)) (by decide) ?_
    refine alP (some 25) rfl rfl ((does_len_sl (by conv => lhs; whnf) ty22).castp (v' := .int .i64 (List.length a0 : Int)) (by exact len_map _)) (by decide) ?_
    refine alP (some 26) rfl rfl (does_bin (v := .bool ((List.length a0 : Int) == 0)) (by conv => lhs; whnf) (by conv => lhs; whnf) rfl) (by decide) ?_
    refine al_nil ?_
    refine hK15 _ ?_
    refine aw_bool (b := ((List.length a0 : Int) == 0)) 26 rfl (fun c16 => ?_) (fun c16 => ?_)
    · have h := ifT c16 h
      refine aw_cond_t (by decide) rfl ?_
      refine aw_seq_k (fun K17 hK17 => ?_)
      refine aw_regL ?_
      refine alP (some 27) rfl rfl (does_move (v := .bool x13.2.2) (by exact rfl)) (by decide) ?_
      refine alP (some 28) rfl rfl (does_un (v := .bool (!x13.2.2)) (by conv => lhs; whnf) rfl) (by decide) ?_
      refine alP (some 29) rfl rfl (does_move (v := .bool (!x13.2.2)) (by exact rfl)) (by decide) ?_
      refine al_bool (c := (!x13.2.2)) 29 rfl (fun c18 => ?_) (fun c18 => ?_)
      · have h := ifT c18 h
        refine alP (some 30) rfl rfl (does_move (v := .own 20 0) (by exact rfl)) (by decide) ?_
        refine alR (some 31) rfl rfl ((does_len_own (by conv => lhs; whnf) (by conv => lhs; whnf) ty22).cast (v' := .int .i64 (List.length x13.1 : Int)) (by exact len_map _)) (by decide) ?_
        refine alP (some 32) rfl rfl (does_bin (v := .bool ((List.length x13.1 : Int) == 0)) (by conv => lhs; whnf) (by conv => lhs; whnf) rfl) (by decide) ?_
        refine alP (some 33) rfl rfl (does_pick (v := .bool ((List.length x13.1 : Int) == 0)) (by conv => lhs; whnf) (by exact rfl)) (by decide) ?_
        refine alP (some 2) rfl rfl (does_assign (v := .bool ((List.length x13.1 : Int) == 0)) (by exact rfl)) (by decide) ?_
        refine al_nil ?_
        refine hK17 _ ?_
        refine aw_ret ?_
        obtain rfl := Option.some.inj h
        exact ret_ok1 (by conv => lhs; whnf) (by conv => lhs; whnf) (by exact rfl) (.inr rfl) rfl
      · have h := ifF c18 h
        refine alS (some 30) rfl rfl (by decide) ?_
        refine alS (some 31) rfl rfl (by decide) ?_
        refine alS (some 32) rfl rfl (by decide) ?_
        refine alP (some 33) rfl rfl (does_pick (v := .bool false) (by conv => lhs; whnf) (by exact rfl)) (by decide) ?_
        refine alP (some 2) rfl rfl (does_assign (v := .bool false) (by exact rfl)) (by decide) ?_
        refine al_nil ?_
        refine hK17 _ ?_
        refine aw_ret ?_
        obtain rfl := Option.some.inj h
        exact ret_ok1 (by conv => lhs; whnf) (by conv => lhs; whnf) (by exact rfl) (.inr rfl) rfl
    · have h := ifF c16 h
      refine aw_cond_f (by decide) rfl ?_
      refine aw_skip ?_
      refine hK14 _ ?_
      refine aw_seq_k (fun K19 hK19 => ?_)
      refine aw_regL ?_
      refine alP (some 7) rfl rfl (does_assign (v := .int .i64 (-1)) (by exact rfl)) (by decide) ?_
      refine al_nil ?_
      refine hK19 _ ?_
      obtain ⟨q20, h, hk21⟩ := bnd_some h
      refine aw_cut (fun s => ∃ (v7_1 : Int), gleaninglaw16_BufferOldest_k1 a0 x13 v7_1 = some r ∧ s = lit [(0, .sl 6 (List.map enc27 a0)), (4, .own 20 0), (5, .ptr 5 0 0), (6, .bool x13.2.2), (7, .int .i64 v7_1)] [((20, 0), .arr 28 6 false (List.map enc27 x13.1)), ((5, 0), .box [.int .u64 x13.2.1.Trace.Hi, .int .u64 x13.2.1.Trace.Lo, .int .i64 x13.2.1.First, .int .i64 x13.2.1.Last, .bool x13.2.1.Sure, .sl 10 (List.map enc30 x13.2.1.Spans)])] [(5, 1), (20, 1)] X) ?_ ?_
      · skip
        refine aw_seq_k (fun K22 hK22 => ?_)
        refine aw_regL ?_
        refine alP (some 34) rfl rfl (does_move (v := .sl 6 (List.map enc27 a0)) (by exact rfl)) (by decide) ?_
        refine alP (some 35) rfl rfl ((does_len_sl (by conv => lhs; whnf) ty22).castp (v' := .int .i64 (List.length a0 : Int)) (by exact len_map _)) (by decide) ?_
        refine alP (some 36) rfl rfl (does_bin (v := .int .i64 (IntKind.i64.wrap ((List.length a0 : Int) - 1))) (by conv => lhs; whnf) (by conv => lhs; whnf) rfl) (by decide) ?_
        refine alP (some 8) rfl rfl (does_assign (v := .int .i64 (IntKind.i64.wrap ((List.length a0 : Int) - 1))) (by exact rfl)) (by decide) ?_
        refine al_nil ?_
        refine hK22 _ ?_
        refine aw_block ?_
        refine aw_loop' (fun m s => ∃ (v7_2 : Int), ∃ (v8_2 : Int), loopN (fun (s : Int × Int) => gleaninglaw16_BufferOldest_l2 a0 x13 s.1 s.2) m (v7_2, v8_2) = some q20 ∧ s = lit [(0, .sl 6 (List.map enc27 a0)), (4, .own 20 0), (5, .ptr 5 0 0), (6, .bool x13.2.2), (7, .int .i64 v7_2), (8, .int .i64 v8_2)] [((20, 0), .arr 28 6 false (List.map enc27 x13.1)), ((5, 0), .box [.int .u64 x13.2.1.Trace.Hi, .int .u64 x13.2.1.Trace.Lo, .int .i64 x13.2.1.First, .int .i64 x13.2.1.Last, .bool x13.2.1.Sure, .sl 10 (List.map enc30 x13.2.1.Spans)])] [(5, 1), (20, 1)] X) Fu
          ⟨_, reb_lit [(0, .sl 6 (List.map enc27 a0)), (4, .own 20 0), (5, .ptr 5 0 0), (6, .bool x13.2.2), (7, .int .i64 (-1)), (8, .int .i64 (IntKind.i64.wrap ((List.length a0 : Int) - 1)))] [(20, 0), (5, 0)] [((20, 0), .arr 28 6 false (List.map enc27 x13.1)), ((5, 0), .box [.int .u64 x13.2.1.Trace.Hi, .int .u64 x13.2.1.Trace.Lo, .int .i64 x13.2.1.First, .int .i64 x13.2.1.Last, .bool x13.2.1.Sure, .sl 10 (List.map enc30 x13.2.1.Spans)])] [(5, 1), (20, 1)] (envOk_cons (by conv => lhs; whnf) (by exact rfl) (envOk_cons (by conv => lhs; whnf) (by exact rfl) (envOk_cons (by conv => lhs; whnf) (by exact rfl) (envOk_cons (by conv => lhs; whnf) (by exact rfl) (envOk_cons (by conv => lhs; whnf) (by exact rfl) (envOk_cons (by conv => lhs; whnf) (by exact rfl) envOk_nil)))))) (objOk_cons (by conv => lhs; whnf) (by conv => lhs; whnf) (by exact rfl) (by simp) (objOk_cons (by conv => lhs; whnf) (by conv => lhs; whnf) (by exact rfl) (by simp) objOk_nil)) (nodup_b rfl) (nodup_b rfl) rfl rfl, -1, (IntKind.i64.wrap ((List.length a0 : Int) - 1)), h, rfl⟩ ?_
        rintro m s ⟨v7_2, v8_2, h, rfl⟩
        obtain ⟨m2, q23, rfl, h, hq24⟩ := loop_some h
        replace h : gleaninglaw16_BufferOldest_l2 a0 x13 v7_2 v8_2 = some q23 := h
        unfold gleaninglaw16_BufferOldest_l2 at h
        refine aw_seq_k (fun K25 hK25 => ?_)
        refine aw_seq_k (fun K26 hK26 => ?_)
        refine aw_regL ?_
        refine alP (some 37) rfl rfl (does_move (v := .int .i64 v8_2) (by exact rfl)) (by decide) ?_
        refine alP (some 38) rfl rfl (does_bin (v := .bool (decide ((0 : Int) ≤ v8_2))) (by conv => lhs; whnf) (by conv => lhs; whnf) rfl) (by decide) ?_
        refine al_nil ?_
        refine hK26 _ ?_
        refine aw_bool (b := (decide ((0 : Int) ≤ v8_2))) 38 rfl (fun c27 => ?_) (fun c27 => ?_)
        · have h := ifT c27 h
          refine aw_cond_t (by decide) rfl ?_
          refine aw_skip ?_
          refine hK25 _ ?_
          refine aw_seq_k (fun K28 hK28 => ?_)
          refine aw_block ?_
          refine aw_seq_k (fun K29 hK29 => ?_)
          refine aw_seq_k (fun K30 hK30 => ?_)
          refine aw_regd (by kernel_rfl) (by decide +kernel) ?_
          refine aoP (some 41) rfl rfl (does_move (v := .sl 6 (List.map enc27 a0)) (by exact rfl)) (by decide) ?_
          refine aoP (some 42) rfl rfl (does_move (v := .int .i64 v8_2) (by exact rfl)) (by decide) ?_
          obtain ⟨g31, h⟩ := gd_some h
          obtain ⟨x32, hx32, h⟩ := bnd_some h
          refine aoP (some 43) rfl rfl (does_indexAddr_sl (el := .agg [.int .u64 x32.Trace.Hi, .int .u64 x32.Trace.Lo, .int .i64 x32.First, .int .i64 x32.Last, .bool x32.Sure, .sl 10 (List.map enc30 x32.Spans)]) (by conv => lhs; whnf) (by conv => lhs; whnf) ty22 ty28 g31 (by exact map_get hx32)) (by decide) ?_
          refine aoP (some 44) rfl rfl (does_fieldAddr (q := .rptr [.int .i64 x32.First, .int .i64 x32.Last, .bool x32.Sure, .sl 10 (List.map enc30 x32.Spans)]) (by conv => lhs; whnf) ty28 rfl ty3 (by decide) (by exact rfl)) (by decide) ?_
          refine aoR (some 45) rfl rfl (does_load (v := .int .i64 x32.First) (by conv => lhs; whnf) (by conv => lhs; whnf) ty3 (by exact rfl)) (by decide) ?_
          refine aoP (some 46) rfl rfl (does_fieldAddr (q := .ptr 5 0 2) (by conv => lhs; whnf) ty28 rfl ty3 (by decide) (by exact rfl)) (by decide) ?_
          refine aoR (some 47) rfl rfl (does_load (v := .int .i64 x13.2.1.First) (by conv => lhs; whnf) (by conv => lhs; whnf) ty3 (by exact rfl)) (by decide) ?_
          refine aoP (some 48) rfl rfl (does_bin (v := .bool (decide (x32.First < x13.2.1.First))) (by conv => lhs; whnf) (by conv => lhs; whnf) rfl) (by decide) ?_
          refine ao_nil_d (by kernel_rfl) ?_
          refine hK30 _ ?_
          refine aw_bool (b := (decide (x32.First < x13.2.1.First))) 48 rfl (fun c33 => ?_) (fun c33 => ?_)
          · have h := ifT c33 h
            refine aw_cond_t (by decide) rfl ?_
            refine aw_seq_k (fun K34 hK34 => ?_)
            refine aw_regL ?_
            refine alP (some 2) rfl rfl (does_assign (v := .bool false) (by exact rfl)) (by decide) ?_
            refine al_nil ?_
            refine hK34 _ ?_
            refine aw_ret ?_
            have h := leafR h hq24
            have h := leafR h hk21
            obtain rfl := Option.some.inj h
            exact ret_ok1 (by conv => lhs; whnf) (by conv => lhs; whnf) (by exact rfl) (.inr rfl) rfl
          · have h := ifF c33 h
            refine aw_cond_f (by decide) rfl ?_
            refine aw_skip ?_
            refine hK29 _ ?_
            refine aw_seq_k (fun K35 hK35 => ?_)
            refine aw_regd (by kernel_rfl) (by decide +kernel) ?_
            refine aoP (some 49) rfl rfl (does_move (v := .sl 6 (List.map enc27 a0)) (by exact rfl)) (by decide) ?_
            refine aoP (some 50) rfl rfl (does_move (v := .int .i64 v8_2) (by exact rfl)) (by decide) ?_
            obtain ⟨g36, h⟩ := gd_some h
            obtain ⟨x37, hx37, h⟩ := bnd_some h
            refine aoP (some 51) rfl rfl (does_indexAddr_sl (el := .agg [.int .u64 x37.Trace.Hi, .int .u64 x37.Trace.Lo, .int .i64 x37.First, .int .i64 x37.Last, .bool x37.Sure, .sl 10 (List.map enc30 x37.Spans)]) (by conv => lhs; whnf) (by conv => lhs; whnf) ty22 ty28 g36 (by exact map_get hx37)) (by decide) ?_
            refine aoP (some 52) rfl rfl (does_fieldAddr (q := .rptr [.int .i64 x37.First, .int .i64 x37.Last, .bool x37.Sure, .sl 10 (List.map enc30 x37.Spans)]) (by conv => lhs; whnf) ty28 rfl ty3 (by decide) (by exact rfl)) (by decide) ?_
            refine aoR (some 53) rfl rfl (does_load (v := .int .i64 x37.First) (by conv => lhs; whnf) (by conv => lhs; whnf) ty3 (by exact rfl)) (by decide) ?_
            refine aoP (some 54) rfl rfl (does_fieldAddr (q := .ptr 5 0 2) (by conv => lhs; whnf) ty28 rfl ty3 (by decide) (by exact rfl)) (by decide) ?_
            refine aoR (some 55) rfl rfl (does_load (v := .int .i64 x13.2.1.First) (by conv => lhs; whnf) (by conv => lhs; whnf) ty3 (by exact rfl)) (by decide) ?_
            refine aoP (some 56) rfl rfl (does_bin (v := .bool (x37.First == x13.2.1.First)) (by conv => lhs; whnf) (by conv => lhs; whnf) rfl) (by decide) ?_
            refine ao_nil_d (by kernel_rfl) ?_
            refine hK35 _ ?_
            refine aw_bool (b := (x37.First == x13.2.1.First)) 56 rfl (fun c38 => ?_) (fun c38 => ?_)
            · have h := ifT c38 h
              refine aw_cond_t (by decide) rfl ?_
              refine aw_regL ?_
              refine alP (some 57) rfl rfl (does_move (v := .int .i64 v8_2) (by exact rfl)) (by decide) ?_
              refine alP (some 7) rfl rfl (does_assign (v := .int .i64 v8_2) (by exact rfl)) (by decide) ?_
              refine al_nil ?_
              refine hK28 _ ?_
              refine aw_regL ?_
              refine alP (some 39) rfl rfl (does_move (v := .int .i64 v8_2) (by exact rfl)) (by decide) ?_
              refine alP (some 40) rfl rfl (does_bin (v := .int .i64 (IntKind.i64.wrap (v8_2 - 1))) (by conv => lhs; whnf) (by conv => lhs; whnf) rfl) (by decide) ?_
              refine alP (some 8) rfl rfl (does_assign (v := .int .i64 (IntKind.i64.wrap (v8_2 - 1))) (by exact rfl)) (by decide) ?_
              refine al_nil ?_
              have h := leafL h hq24
              exact ⟨m2, Nat.lt_succ_self _, _, reb_lit [(0, .sl 6 (List.map enc27 a0)), (4, .own 20 0), (5, .ptr 5 0 0), (6, .bool x13.2.2), (7, .int .i64 v8_2), (8, .int .i64 (IntKind.i64.wrap (v8_2 - 1)))] [(20, 0), (5, 0)] [((20, 0), .arr 28 6 false (List.map enc27 x13.1)), ((5, 0), .box [.int .u64 x13.2.1.Trace.Hi, .int .u64 x13.2.1.Trace.Lo, .int .i64 x13.2.1.First, .int .i64 x13.2.1.Last, .bool x13.2.1.Sure, .sl 10 (List.map enc30 x13.2.1.Spans)])] [(5, 1), (20, 1)] (envOk_cons (by conv => lhs; whnf) (by exact rfl) (envOk_cons (by conv => lhs; whnf) (by exact rfl) (envOk_cons (by conv => lhs; whnf) (by exact rfl) (envOk_cons (by conv => lhs; whnf) (by exact rfl) (envOk_cons (by conv => lhs; whnf) (by exact rfl) (envOk_cons (by conv => lhs; whnf) (by exact rfl) envOk_nil)))))) (objOk_cons (by conv => lhs; whnf) (by conv => lhs; whnf) (by exact rfl) (by simp) (objOk_cons (by conv => lhs; whnf) (by conv => lhs; whnf) (by exact rfl) (by simp) objOk_nil)) (nodup_b rfl) (nodup_b rfl) rfl rfl, v8_2, (IntKind.i64.wrap (v8_2 - 1)), h, rfl⟩
            · have h := ifF c38 h
              refine aw_cond_f (by decide) rfl ?_
              refine aw_skip ?_
              refine hK28 _ ?_
              refine aw_regL ?_
              refine alP (some 39) rfl rfl (does_move (v := .int .i64 v8_2) (by exact rfl)) (by decide) ?_
              refine alP (some 40) rfl rfl (does_bin (v := .int .i64 (IntKind.i64.wrap (v8_2 - 1))) (by conv => lhs; whnf) (by conv => lhs; whnf) rfl) (by decide) ?_
              refine alP (some 8) rfl rfl (does_assign (v := .int .i64 (IntKind.i64.wrap (v8_2 - 1))) (by exact rfl)) (by decide) ?_
              refine al_nil ?_
              have h := leafL h hq24
              exact ⟨m2, Nat.lt_succ_self _, _, reb_lit [(0, .sl 6 (List.map enc27 a0)), (4, .own 20 0), (5, .ptr 5 0 0), (6, .bool x13.2.2), (7, .int .i64 v7_2), (8, .int .i64 (IntKind.i64.wrap (v8_2 - 1)))] [(20, 0), (5, 0)] [((20, 0), .arr 28 6 false (List.map enc27 x13.1)), ((5, 0), .box [.int .u64 x13.2.1.Trace.Hi, .int .u64 x13.2.1.Trace.Lo, .int .i64 x13.2.1.First, .int .i64 x13.2.1.Last, .bool x13.2.1.Sure, .sl 10 (List.map enc30 x13.2.1.Spans)])] [(5, 1), (20, 1)] (envOk_cons (by conv => lhs; whnf) (by exact rfl) (envOk_cons (by conv => lhs; whnf) (by exact rfl) (envOk_cons (by conv => lhs; whnf) (by exact rfl) (envOk_cons (by conv => lhs; whnf) (by exact rfl) (envOk_cons (by conv => lhs; whnf) (by exact rfl) (envOk_cons (by conv => lhs; whnf) (by exact rfl) envOk_nil)))))) (objOk_cons (by conv => lhs; whnf) (by conv => lhs; whnf) (by exact rfl) (by simp) (objOk_cons (by conv => lhs; whnf) (by conv => lhs; whnf) (by exact rfl) (by simp) objOk_nil)) (nodup_b rfl) (nodup_b rfl) rfl rfl, v7_2, (IntKind.i64.wrap (v8_2 - 1)), h, rfl⟩
        · have h := ifF c27 h
          refine aw_cond_f (by decide) rfl ?_
          refine aw_exit ?_
          have h := leafR h hq24
          have h := leafL h hk21
          exact ⟨_, reb_lit [(0, .sl 6 (List.map enc27 a0)), (4, .own 20 0), (5, .ptr 5 0 0), (6, .bool x13.2.2), (7, .int .i64 v7_2)] [(20, 0), (5, 0)] [((20, 0), .arr 28 6 false (List.map enc27 x13.1)), ((5, 0), .box [.int .u64 x13.2.1.Trace.Hi, .int .u64 x13.2.1.Trace.Lo, .int .i64 x13.2.1.First, .int .i64 x13.2.1.Last, .bool x13.2.1.Sure, .sl 10 (List.map enc30 x13.2.1.Spans)])] [(5, 1), (20, 1)] (envOk_cons (by conv => lhs; whnf) (by exact rfl) (envOk_cons (by conv => lhs; whnf) (by exact rfl) (envOk_cons (by conv => lhs; whnf) (by exact rfl) (envOk_cons (by conv => lhs; whnf) (by exact rfl) (envOk_cons (by conv => lhs; whnf) (by exact rfl) envOk_nil))))) (objOk_cons (by conv => lhs; whnf) (by conv => lhs; whnf) (by exact rfl) (by simp) (objOk_cons (by conv => lhs; whnf) (by conv => lhs; whnf) (by exact rfl) (by simp) objOk_nil)) (nodup_b rfl) (nodup_b rfl) rfl rfl, v7_2, h, rfl⟩
      · rintro s ⟨v7_1, h, rfl⟩
        unfold gleaninglaw16_BufferOldest_k1 at h
        obtain ⟨q39, h, hk40⟩ := bnd_some h
        refine aw_cut (fun s => gleaninglaw16_BufferOldest_k3 a0 x13 v7_1 = some r ∧ s = lit [(0, .sl 6 (List.map enc27 a0)), (4, .own 20 0), (5, .ptr 5 0 0), (7, .int .i64 v7_1)] [((20, 0), .arr 28 6 false (List.map enc27 x13.1)), ((5, 0), .box [.int .u64 x13.2.1.Trace.Hi, .int .u64 x13.2.1.Trace.Lo, .int .i64 x13.2.1.First, .int .i64 x13.2.1.Last, .bool x13.2.1.Sure, .sl 10 (List.map enc30 x13.2.1.Spans)])] [(5, 1), (20, 1)] X) ?_ ?_
        · skip
          refine aw_seq_k (fun K41 hK41 => ?_)
          refine aw_regL ?_
          refine alP (some 58) rfl rfl (does_move (v := .bool x13.2.2) (by exact rfl)) (by decide) ?_
          refine alP (some 59) rfl rfl (does_un (v := .bool (!x13.2.2)) (by conv => lhs; whnf) rfl) (by decide) ?_
          refine alP (some 60) rfl rfl (does_move (v := .bool (!x13.2.2)) (by exact rfl)) (by decide) ?_
          refine al_bool (c := (!x13.2.2)) 60 rfl (fun c42 => ?_) (fun c42 => ?_)
          · have h := ifT c42 h
            refine alS (some 61) rfl rfl (by decide) ?_
            refine alS (some 62) rfl rfl (by decide) ?_
            refine alP (some 63) rfl rfl (does_pick (v := .bool true) (by conv => lhs; whnf) (by exact rfl)) (by decide) ?_
            refine alP (some 64) rfl rfl (does_move (v := .bool true) (by exact rfl)) (by decide) ?_
            refine alS (some 65) rfl rfl (by decide) ?_
            refine alS (some 66) rfl rfl (by decide) ?_
            refine alS (some 67) rfl rfl (by decide) ?_
            refine alS (some 68) rfl rfl (by decide) ?_
            refine alS (some 69) rfl rfl (by decide) ?_
            refine alS (some 70) rfl rfl (by decide) ?_
            refine alP (some 71) rfl rfl (does_pick (v := .bool true) (by conv => lhs; whnf) (by exact rfl)) (by decide) ?_
            refine al_nil ?_
            refine hK41 _ ?_
            refine aw_cond_t (by decide) rfl ?_
            refine aw_seq_k (fun K43 hK43 => ?_)
            refine aw_regL ?_
            refine alP (some 2) rfl rfl (does_assign (v := .bool false) (by exact rfl)) (by decide) ?_
            refine al_nil ?_
            refine hK43 _ ?_
            refine aw_ret ?_
            have h := leafR h hk40
            obtain rfl := Option.some.inj h
            exact ret_ok1 (by conv => lhs; whnf) (by conv => lhs; whnf) (by exact rfl) (.inr rfl) rfl
          · have h := ifF c42 h
            refine alP (some 61) rfl rfl (does_move (v := .int .i64 v7_1) (by exact rfl)) (by decide) ?_
            refine alP (some 62) rfl rfl (does_bin (v := .bool (decide (v7_1 < 0))) (by conv => lhs; whnf) (by conv => lhs; whnf) rfl) (by decide) ?_
            refine alP (some 63) rfl rfl (does_pick (v := .bool (decide (v7_1 < 0))) (by conv => lhs; whnf) (by exact rfl)) (by decide) ?_
            refine alP (some 64) rfl rfl (does_move (v := .bool (decide (v7_1 < 0))) (by exact rfl)) (by decide) ?_
            refine al_bool (c := (decide (v7_1 < 0))) 64 rfl (fun c44 => ?_) (fun c44 => ?_)
            · have h := ifT c44 h
              refine alS (some 65) rfl rfl (by decide) ?_
              refine alS (some 66) rfl rfl (by decide) ?_
              refine alS (some 67) rfl rfl (by decide) ?_
              refine alS (some 68) rfl rfl (by decide) ?_
              refine alS (some 69) rfl rfl (by decide) ?_
              refine alS (some 70) rfl rfl (by decide) ?_
              refine alP (some 71) rfl rfl (does_pick (v := .bool true) (by conv => lhs; whnf) (by exact rfl)) (by decide) ?_
              refine al_nil ?_
              refine hK41 _ ?_
              refine aw_cond_t (by decide) rfl ?_
              refine aw_seq_k (fun K45 hK45 => ?_)
              refine aw_regL ?_
              refine alP (some 2) rfl rfl (does_assign (v := .bool false) (by exact rfl)) (by decide) ?_
              refine al_nil ?_
              refine hK45 _ ?_
              refine aw_ret ?_
              have h := leafR h hk40
              obtain rfl := Option.some.inj h
              exact ret_ok1 (by conv => lhs; whnf) (by conv => lhs; whnf) (by exact rfl) (.inr rfl) rfl
            · have h := ifF c44 h
              refine alP (some 65) rfl rfl (does_move (v := .own 20 0) (by exact rfl)) (by decide) ?_
              refine alR (some 66) rfl rfl ((does_len_own (by conv => lhs; whnf) (by conv => lhs; whnf) ty22).cast (v' := .int .i64 (List.length x13.1 : Int)) (by exact len_map _)) (by decide) ?_
              refine alP (some 67) rfl rfl (does_move (v := .sl 6 (List.map enc27 a0)) (by exact rfl)) (by decide) ?_
              refine alP (some 68) rfl rfl ((does_len_sl (by conv => lhs; whnf) ty22).castp (v' := .int .i64 (List.length a0 : Int)) (by exact len_map _)) (by decide) ?_
              refine alP (some 69) rfl rfl (does_bin (v := .int .i64 (IntKind.i64.wrap ((List.length a0 : Int) - 1))) (by conv => lhs; whnf) (by conv => lhs; whnf) rfl) (by decide) ?_
              refine alP (some 70) rfl rfl (does_bin (v := .bool ((List.length x13.1 : Int) != (IntKind.i64.wrap ((List.length a0 : Int) - 1)))) (by conv => lhs; whnf) (by conv => lhs; whnf) rfl) (by decide) ?_
              refine alP (some 71) rfl rfl (does_pick (v := .bool ((List.length x13.1 : Int) != (IntKind.i64.wrap ((List.length a0 : Int) - 1)))) (by conv => lhs; whnf) (by exact rfl)) (by decide) ?_
              refine al_nil ?_
              refine hK41 _ ?_
              refine aw_bool (b := ((List.length x13.1 : Int) != (IntKind.i64.wrap ((List.length a0 : Int) - 1)))) 71 rfl (fun c46 => ?_) (fun c46 => ?_)
              · have h := ifT c46 h
                refine aw_cond_t (by decide) rfl ?_
                refine aw_seq_k (fun K47 hK47 => ?_)
                refine aw_regL ?_
                refine alP (some 2) rfl rfl (does_assign (v := .bool false) (by exact rfl)) (by decide) ?_
                refine al_nil ?_
                refine hK47 _ ?_
                refine aw_ret ?_
                have h := leafR h hk40
                obtain rfl := Option.some.inj h
                exact ret_ok1 (by conv => lhs; whnf) (by conv => lhs; whnf) (by exact rfl) (.inr rfl) rfl
              · have h := ifF c46 h
                refine aw_cond_f (by decide) rfl ?_
                refine aw_skip ?_
                have h := leafL h hk40
                exact ⟨_, reb_lit [(0, .sl 6 (List.map enc27 a0)), (4, .own 20 0), (5, .ptr 5 0 0), (7, .int .i64 v7_1)] [(20, 0), (5, 0)] [((20, 0), .arr 28 6 false (List.map enc27 x13.1)), ((5, 0), .box [.int .u64 x13.2.1.Trace.Hi, .int .u64 x13.2.1.Trace.Lo, .int .i64 x13.2.1.First, .int .i64 x13.2.1.Last, .bool x13.2.1.Sure, .sl 10 (List.map enc30 x13.2.1.Spans)])] [(5, 1), (20, 1)] (envOk_cons (by conv => lhs; whnf) (by exact rfl) (envOk_cons (by conv => lhs; whnf) (by exact rfl) (envOk_cons (by conv => lhs; whnf) (by exact rfl) (envOk_cons (by conv => lhs; whnf) (by exact rfl) envOk_nil)))) (objOk_cons (by conv => lhs; whnf) (by conv => lhs; whnf) (by exact rfl) (by simp) (objOk_cons (by conv => lhs; whnf) (by conv => lhs; whnf) (by exact rfl) (by simp) objOk_nil)) (nodup_b rfl) (nodup_b rfl) rfl rfl, h, rfl⟩
        · rintro s ⟨h, rfl⟩
          unfold gleaninglaw16_BufferOldest_k3 at h
          refine aw_seq_k (fun K48 hK48 => ?_)
          refine aw_regd (by kernel_rfl) (by decide +kernel) ?_
          refine aoP (some 72) rfl rfl (does_move (v := .sl 6 (List.map enc27 a0)) (by exact rfl)) (by decide) ?_
          refine aoP (some 73) rfl rfl (does_move (v := .int .i64 v7_1) (by exact rfl)) (by decide) ?_
          refine aoP (some 74) rfl rfl (does_move (v := .int .i64 v7_1) (by exact rfl)) (by decide) ?_
          refine aoP (some 75) rfl rfl (does_bin (v := .int .i64 (IntKind.i64.wrap (v7_1 + 1))) (by conv => lhs; whnf) (by conv => lhs; whnf) rfl) (by decide) ?_
          obtain ⟨g49, h⟩ := gd_some h
          obtain ⟨g50, h⟩ := gd_some h
          obtain ⟨g51, h⟩ := gd_some h
          refine aoP (some 76) rfl rfl (does_slice_sl (l := (Int.toNat v7_1)) (k := (Int.toNat (IntKind.i64.wrap (v7_1 + 1)))) (by conv => lhs; whnf) ty22 ty28 (bd_some (by conv => lhs; whnf) (by exact (nat_of g49))) (bd_some (by conv => lhs; whnf) (by exact (nat_of (by omega)))) (by (try simp only [List.length_map]); omega) (by (try simp only [List.length_map]); omega) (by exact map_part _ _ _)) (by decide) ?_
          refine aoR (some 77) rfl rfl (does_load (v := .agg [.int .u64 x13.2.1.Trace.Hi, .int .u64 x13.2.1.Trace.Lo, .int .i64 x13.2.1.First, .int .i64 x13.2.1.Last, .bool x13.2.1.Sure, .sl 10 (List.map enc30 x13.2.1.Spans)]) (by conv => lhs; whnf) (by conv => lhs; whnf) ty28 (by exact rfl)) (by decide) ?_
          refine aoD (some 78) rfl rfl ((do_buildSlice (xs := List.map enc27 [x13.2.1]) ty22 ty28 rfl rfl rfl rfl rfl rfl rfl rfl).fx (y := ⟨_, .own 78 0, [((78, 0), some (.arr 28 6 false (List.map enc27 [x13.2.1])))], [78]⟩) rfl) (by decide) ?_
          obtain ⟨x52, hx52, h⟩ := bnd_some h
          refine aoD (some 79) rfl rfl ((do_callG (bcs := []) [] [] [(78, 0)] 79 false (gleaningref15_SameEpisodes_ok (List.drop (Int.toNat v7_1) (List.take (Int.toNat (IntKind.i64.wrap (v7_1 + 1))) a0)) [x13.2.1] hx52) rfl ent20 trivial trivial rfl rfl rfl rfl rfl rfl rfl rfl (.inr ⟨rfl, rfl, trivial⟩)).fx (y := ⟨[(78, 0)], .bool x52, [], [79]⟩) rfl) (by decide) ?_
          refine aoP (some 80) rfl rfl (does_move (v := .bool x52) (by exact rfl)) (by decide) ?_
          refine ao_bool (c := x52) 80 rfl (fun c53 => ?_) (fun c53 => ?_)
          · have h := ifT c53 h
            refine aoP (some 81) rfl rfl (does_move (v := .own 20 0) (by exact rfl)) (by decide) ?_
            refine aoP (some 82) rfl rfl (does_move (v := .int .i64 v7_1) (by exact rfl)) (by decide) ?_
            obtain ⟨g54, h⟩ := gd_some h
            obtain ⟨g55, h⟩ := gd_some h
            refine aoD (some 83) rfl rfl (does_frz (d := 20) (n := 0) (by conv => lhs; whnf) (does_slice_own (l := 0) (k := (Int.toNat v7_1)) (by conv => lhs; whnf) (by conv => lhs; whnf) ty22 ty28 bd_none (bd_some (by conv => lhs; whnf) (by exact (nat_of (by omega)))) (by (try simp only [List.length_map]); omega) (by (try simp only [List.length_map]); omega) (by exact part_h _ _))) (by decide) ?_
            refine aoP (some 84) rfl rfl (does_move (v := .sl 6 (List.map enc27 a0)) (by exact rfl)) (by decide) ?_
            refine aoP (some 85) rfl rfl (does_move (v := .int .i64 v7_1) (by exact rfl)) (by decide) ?_
            obtain ⟨g56, h⟩ := gd_some h
            obtain ⟨g57, h⟩ := gd_some h
            refine aoP (some 86) rfl rfl (does_slice_sl (l := 0) (k := (Int.toNat v7_1)) (by conv => lhs; whnf) ty22 ty28 bd_none (bd_some (by conv => lhs; whnf) (by exact (nat_of (by omega)))) (by (try simp only [List.length_map]); omega) (by (try simp only [List.length_map]); omega) (by exact part_h _ _)) (by decide) ?_
            obtain ⟨x58, hx58, h⟩ := bnd_some h
            refine aoD (some 87) rfl rfl ((do_call0 87 false (gleaningref15_SameEpisodes_ok (List.take (Int.toNat v7_1) x13.1) (List.take (Int.toNat v7_1) a0) hx58) rfl ent20 rfl rfl).fx (y := ⟨[], .bool x58, [], [87]⟩) rfl) (by decide) ?_
            refine aoP (some 88) rfl rfl (does_pick (v := .bool x58) (by conv => lhs; whnf) (by exact rfl)) (by decide) ?_
            refine aoP (some 89) rfl rfl (does_move (v := .bool x58) (by exact rfl)) (by decide) ?_
            refine ao_bool (c := x58) 89 rfl (fun c59 => ?_) (fun c59 => ?_)
            · have h := ifT c59 h
              refine aoP (some 90) rfl rfl (does_move (v := .own 20 0) (by exact rfl)) (by decide) ?_
              refine aoP (some 91) rfl rfl (does_move (v := .int .i64 v7_1) (by exact rfl)) (by decide) ?_
              obtain ⟨g60, h⟩ := gd_some h
              obtain ⟨g61, h⟩ := gd_some h
              refine aoD (some 92) rfl rfl (does_slice_own (l := (Int.toNat v7_1)) (by conv => lhs; whnf) (by conv => lhs; whnf) ty22 ty28 (bd_some (by conv => lhs; whnf) (by exact (nat_of g60))) bd_none (by (try simp only [List.length_map]); omega) (by (try simp only [List.length_map]); omega) (by exact part_l _ _)) (by decide) ?_
              refine aoP (some 93) rfl rfl (does_move (v := .sl 6 (List.map enc27 a0)) (by exact rfl)) (by decide) ?_
              refine aoP (some 94) rfl rfl (does_move (v := .int .i64 v7_1) (by exact rfl)) (by decide) ?_
              refine aoP (some 95) rfl rfl (does_bin (v := .int .i64 (IntKind.i64.wrap (v7_1 + 1))) (by conv => lhs; whnf) (by conv => lhs; whnf) rfl) (by decide) ?_
              obtain ⟨g62, h⟩ := gd_some h
              obtain ⟨g63, h⟩ := gd_some h
              refine aoP (some 96) rfl rfl (does_slice_sl (l := (Int.toNat (IntKind.i64.wrap (v7_1 + 1)))) (by conv => lhs; whnf) ty22 ty28 (bd_some (by conv => lhs; whnf) (by exact (nat_of g62))) bd_none (by (try simp only [List.length_map]); omega) (by (try simp only [List.length_map]); omega) (by exact part_l _ _)) (by decide) ?_
              obtain ⟨x64, hx64, h⟩ := bnd_some h
              refine aoD (some 97) rfl rfl ((do_call0 97 false (gleaningref15_SameEpisodes_ok (List.drop (Int.toNat v7_1) x13.1) (List.drop (Int.toNat (IntKind.i64.wrap (v7_1 + 1))) a0) hx64) rfl ent20 rfl rfl).fx (y := ⟨[], .bool x64, [], [97]⟩) rfl) (by decide) ?_
              refine aoP (some 98) rfl rfl (does_pick (v := .bool x64) (by conv => lhs; whnf) (by exact rfl)) (by decide) ?_
              refine aoP (some 2) rfl rfl (does_assign (v := .bool x64) (by exact rfl)) (by decide) ?_
              refine ao_nil_d (by kernel_rfl) ?_
              refine hK48 _ ?_
              refine aw_ret ?_
              obtain rfl := Option.some.inj h
              exact ret_ok1 (by conv => lhs; whnf) (by conv => lhs; whnf) (by exact rfl) (.inr rfl) rfl
            · have h := ifF c59 h
              refine aoS (some 90) rfl rfl (by decide) ?_
              refine aoS (some 91) rfl rfl (by decide) ?_
              refine aoS (some 92) rfl rfl (by decide) ?_
              refine aoS (some 93) rfl rfl (by decide) ?_
              refine aoS (some 94) rfl rfl (by decide) ?_
              refine aoS (some 95) rfl rfl (by decide) ?_
              refine aoS (some 96) rfl rfl (by decide) ?_
              refine aoS (some 97) rfl rfl (by decide) ?_
              refine aoP (some 98) rfl rfl (does_pick (v := .bool false) (by conv => lhs; whnf) (by exact rfl)) (by decide) ?_
              refine aoP (some 2) rfl rfl (does_assign (v := .bool false) (by exact rfl)) (by decide) ?_
              refine ao_nil_d (by kernel_rfl) ?_
              refine hK48 _ ?_
              refine aw_ret ?_
              obtain rfl := Option.some.inj h
              exact ret_ok1 (by conv => lhs; whnf) (by conv => lhs; whnf) (by exact rfl) (.inr rfl) rfl
          · have h := ifF c53 h
            refine aoS (some 81) rfl rfl (by decide) ?_
            refine aoS (some 82) rfl rfl (by decide) ?_
            refine aoS (some 83) rfl rfl (by decide) ?_
            refine aoS (some 84) rfl rfl (by decide) ?_
            refine aoS (some 85) rfl rfl (by decide) ?_
            refine aoS (some 86) rfl rfl (by decide) ?_
            refine aoS (some 87) rfl rfl (by decide) ?_
            refine aoP (some 88) rfl rfl (does_pick (v := .bool false) (by conv => lhs; whnf) (by exact rfl)) (by decide) ?_
            refine aoP (some 89) rfl rfl (does_move (v := .bool false) (by exact rfl)) (by decide) ?_
            refine aoS (some 90) rfl rfl (by decide) ?_
            refine aoS (some 91) rfl rfl (by decide) ?_
            refine aoS (some 92) rfl rfl (by decide) ?_
            refine aoS (some 93) rfl rfl (by decide) ?_
            refine aoS (some 94) rfl rfl (by decide) ?_
            refine aoS (some 95) rfl rfl (by decide) ?_
            refine aoS (some 96) rfl rfl (by decide) ?_
            refine aoS (some 97) rfl rfl (by decide) ?_
            refine aoP (some 98) rfl rfl (does_pick (v := .bool false) (by conv => lhs; whnf) (by exact rfl)) (by decide) ?_
            refine aoP (some 2) rfl rfl (does_assign (v := .bool false) (by exact rfl)) (by decide) ?_
            refine ao_nil_d (by kernel_rfl) ?_
            refine hK48 _ ?_
            refine aw_ret ?_
            obtain rfl := Option.some.inj h
            exact ret_ok1 (by conv => lhs; whnf) (by conv => lhs; whnf) (by exact rfl) (.inr rfl) rfl
def gleaningref15_Oldest_l1 (a0 : List Episode) (v5_1 : Int) (v6_1 : Int) : Option ((Int × Int) ⊕ Int) :=
  if (decide (v6_1 < (List.length a0 : Int))) = true then (gd (0 ≤ v6_1) (Option.bind (a0[(Int.toNat v6_1)]?) (fun (x18 : Episode) => gd (0 ≤ v5_1) (Option.bind (a0[(Int.toNat v5_1)]?) (fun (x20 : Episode) => if (decide (x18.First < x20.First)) = true then (some (Sum.inl (v6_1, (IntKind.i64.wrap (v6_1 + 1))))) else (some (Sum.inl (v5_1, (IntKind.i64.wrap (v6_1 + 1)))))))))) else (some (Sum.inr v5_1))
def gleaningref15_Oldest_k0 (a0 : List Episode) (v5_0 : Int) : Option (List Episode × Episode × Bool) :=
  gd (0 ≤ v5_0) (gd (v5_0 ≤ (List.length a0 : Int)) (gd ((List.length (List.take (Int.toNat v5_0) a0)) * 64 ≤ 140737488355328 ∧ (List.length (List.take (Int.toNat v5_0) a0)) ≤ 140737488355328) (gd (0 ≤ (IntKind.i64.wrap (v5_0 + 1))) (gd ((IntKind.i64.wrap (v5_0 + 1)) ≤ (List.length a0 : Int)) (gd ((List.length ((List.take (Int.toNat v5_0) a0) ++ (List.drop (Int.toNat (IntKind.i64.wrap (v5_0 + 1))) a0))) * 64 ≤ 140737488355328 ∧ (List.length ((List.take (Int.toNat v5_0) a0) ++ (List.drop (Int.toNat (IntKind.i64.wrap (v5_0 + 1))) a0))) ≤ 140737488355328) (gd (0 ≤ v5_0) (Option.bind (a0[(Int.toNat v5_0)]?) (fun (x30 : Episode) => some (((List.take (Int.toNat v5_0) a0) ++ (List.drop (Int.toNat (IntKind.i64.wrap (v5_0 + 1))) a0)), x30, true)))))))))
def gleaningref15_Oldest (a0 : List Episode) : Option (List Episode × Episode × Bool) :=
  if ((List.length a0 : Int) == 0) = true then (some ([], (Episode.mk (Trace.mk 0 0) 0 0 false []), false)) else (Option.bind (loopN (fun (s : Int × Int) => gleaningref15_Oldest_l1 a0 s.1 s.2) Fu (0, 0)) (fun (s : Int) => gleaningref15_Oldest_k0 a0 s))
set_option maxRecDepth 100000 in
set_option maxHeartbeats 8000000 in
/-- gleaning/gleaningref15.Oldest -/
theorem gleaningref15_Oldest_ok (a0 : List Episode) {r : List Episode × Episode × Bool} (h : gleaningref15_Oldest a0 = some r) : Ok Try.prog 39 [.sl 6 (List.map enc27 a0)] [] [] (.tup [.own 2 0, .agg [.int .u64 r.2.1.Trace.Hi, .int .u64 r.2.1.Trace.Lo, .int .i64 r.2.1.First, .int .i64 r.2.1.Last, .bool r.2.1.Sure, .sl 10 (List.map enc30 r.2.1.Spans)], .bool r.2.2]) [] [(28, 6, List.map enc27 r.1)] := by
  unfold gleaningref15_Oldest at h
  refine ok_of_code Try.func39 rfl (by show (1 : Nat) ≤ _; decide) (Nat.le_refl _) fun X => ?_
  refine aw_seq_k (fun K1 hK1 => ?_)
  refine aw_regL ?_
  refine alP (some 2) rfl rfl (does_assign (v := .nil) (by exact rfl)) (by decide) ?_
  refine alD (some 3) rfl rfl (do_new ty28 rfl rfl) (by decide) ?_
  refine alP (some 4) rfl rfl (does_assign (v := .bool false) (by exact rfl)) (by decide) ?_
  refine al_nil ?_
  refine hK1 _ ?_
  refine aw_seq_k (fun K2 hK2 => ?_)
  refine aw_seq_k (fun K3 hK3 => ?_)
  refine aw_regL ?_
  refine alP (some 7) rfl rfl (does_move (v := .sl 6 (List.map enc27 a0)) (by exact rfl)) (by decide) ?_
  refine alP (some 8) rfl rfl ((does_len_sl (by conv => lhs; whnf) ty22).castp (v' := .int .i64 (List.length a0 : Int)) (by exact len_map _)) (by decide) ?_
  refine alP (some 9) rfl rfl (does_bin (v := .bool ((List.length a0 : Int) == 0)) (by conv => lhs; whnf) (by conv => lhs; whnf) rfl) (by decide) ?_
  refine al_nil ?_
  refine hK3 _ ?_
  refine aw_bool (b := ((List.length a0 : Int) == 0)) 9 rfl (fun c4 => ?_) (fun c4 => ?_)
  · have h := ifT c4 h
    refine aw_cond_t (by decide) rfl ?_
    refine aw_seq_k (fun K5 hK5 => ?_)
    refine aw_regL ?_
    refine alP (some 10) rfl rfl (do_build_struct (cs := [.int .u64 0, .int .u64 0, .int .i64 0, .int .i64 0, .bool false, .nil]) ty28 rfl [⟨.struct [(0, 23), (1, 23)], 2, 16, [.int .u64 0, .int .u64 0]⟩, ⟨.int .i64, 1, 8, [.int .i64 0]⟩, ⟨.int .i64, 1, 8, [.int .i64 0]⟩, ⟨.bool, 1, 1, [.bool false]⟩, ⟨.slice 31, 1, 24, [.nil]⟩] (by simp only [List.map, ty25, ty26, ty3, ty4]) (by rfl) (by exact rfl)) (by decide) ?_
    refine alP (some 2) rfl rfl (does_assign (v := .nil) (by exact rfl)) (by decide) ?_
    refine alD none rfl rfl (do_store (cs' := [.int .u64 0, .int .u64 0, .int .i64 0, .int .i64 0, .bool false, .nil]) (by conv => lhs; whnf) (by conv => lhs; whnf) (by conv => lhs; whnf) ty28 rfl rfl rfl (by exact rfl)) (by decide) ?_
    refine alP (some 4) rfl rfl (does_assign (v := .bool false) (by exact rfl)) (by decide) ?_
    refine al_nil ?_
    refine hK5 _ ?_
    refine aw_nilOwn 2 28 6 (by conv => lhs; whnf) (by decide) (by decide) ?_
    refine aw_reb (reb_w (tl' := [(2, .own 2 0), (3, .ptr 3 0 0), (4, .bool false)]) (ol' := [((2, 0), .arr 28 6 false (List.map enc27 [])), ((3, 0), .box [.int .u64 0, .int .u64 0, .int .i64 0, .int .i64 0, .bool false, .sl 10 (List.map enc30 [])])]) (reb_lit [(2, .own 2 0), (3, .ptr 3 0 0), (4, .bool false)] [(2, 0), (3, 0)] [((2, 0), .arr 28 6 false (List.map enc27 [])), ((3, 0), .box [.int .u64 0, .int .u64 0, .int .i64 0, .int .i64 0, .bool false, .nil])] [(2, 1), (3, 1)] (envOk_cons (by conv => lhs; whnf) (by exact rfl) (envOk_cons (by conv => lhs; whnf) (by exact rfl) (envOk_cons (by conv => lhs; whnf) (by exact rfl) envOk_nil))) (objOk_cons (by conv => lhs; whnf) (by conv => lhs; whnf) (by exact rfl) (by simp) (objOk_cons (by conv => lhs; whnf) (by conv => lhs; whnf) (by exact rfl) (by simp) objOk_nil)) (nodup_b rfl) (nodup_b rfl) rfl rfl) ⟨rfl, le_refl _, rfl, le_refl _, rfl, le_refl _, trivial⟩ ⟨rfl, .rfl _, rfl, (.box ⟨le_refl _, le_refl _, le_refl _, le_refl _, le_refl _, le_nil _, trivial⟩), trivial⟩) ?_
    refine aw_ret ?_
    obtain rfl := Option.some.inj h
    exact ret_okR [(2, 0)] (by conv => lhs; whnf) (by conv => lhs; whnf) (by exact rfl) (rowsOk_cons (by conv => lhs; whnf) (by exact rfl) trivial) (nodup_b rfl) (.inr rfl) rfl
  · have h := ifF c4 h
    refine aw_cond_f (by decide) rfl ?_
    refine aw_skip ?_
    refine hK2 _ ?_
    refine aw_seq_k (fun K6 hK6 => ?_)
    refine aw_regL ?_
    refine alP (some 5) rfl rfl (does_assign (v := .int .i64 0) (by exact rfl)) (by decide) ?_
    refine al_nil ?_
    refine hK6 _ ?_
    obtain ⟨q7, h, hk8⟩ := bnd_some h
    refine aw_cut (fun s => ∃ (v5_0 : Int), gleaningref15_Oldest_k0 a0 v5_0 = some r ∧ s = lit [(0, .sl 6 (List.map enc27 a0)), (3, .ptr 3 0 0), (5, .int .i64 v5_0)] [((3, 0), .box [.int .u64 0, .int .u64 0, .int .i64 0, .int .i64 0, .bool false, .nil])] [(3, 1)] X) ?_ ?_
    · skip
      refine aw_seq_k (fun K9 hK9 => ?_)
      refine aw_regL ?_
      refine alP (some 6) rfl rfl (does_assign (v := .int .i64 0) (by exact rfl)) (by decide) ?_
      refine al_nil ?_
      refine hK9 _ ?_
      refine aw_block ?_
      refine aw_loop' (fun m s => ∃ (v5_1 : Int), ∃ (v6_1 : Int), loopN (fun (s : Int × Int) => gleaningref15_Oldest_l1 a0 s.1 s.2) m (v5_1, v6_1) = some q7 ∧ s = lit [(0, .sl 6 (List.map enc27 a0)), (3, .ptr 3 0 0), (5, .int .i64 v5_1), (6, .int .i64 v6_1)] [((3, 0), .box [.int .u64 0, .int .u64 0, .int .i64 0, .int .i64 0, .bool false, .nil])] [(3, 1)] X) Fu
        ⟨_, reb_lit [(0, .sl 6 (List.map enc27 a0)), (3, .ptr 3 0 0), (5, .int .i64 (0)), (6, .int .i64 (0))] [(3, 0)] [((3, 0), .box [.int .u64 0, .int .u64 0, .int .i64 0, .int .i64 0, .bool false, .nil])] [(3, 1)] (envOk_cons (by conv => lhs; whnf) (by exact rfl) (envOk_cons (by conv => lhs; whnf) (by exact rfl) (envOk_cons (by conv => lhs; whnf) (by exact rfl) (envOk_cons (by conv => lhs; whnf) (by exact rfl) envOk_nil)))) (objOk_cons (by conv => lhs; whnf) (by conv => lhs; whnf) (by exact rfl) (by simp) objOk_nil) (nodup_b rfl) (nodup_b rfl) rfl rfl, 0, 0, h, rfl⟩ ?_
      rintro m s ⟨v5_1, v6_1, h, rfl⟩
      obtain ⟨m1, q10, rfl, h, hq11⟩ := loop_some h
      replace h : gleaningref15_Oldest_l1 a0 v5_1 v6_1 = some q10 := h
      unfold gleaningref15_Oldest_l1 at h
      refine aw_seq_k (fun K12 hK12 => ?_)
      refine aw_seq_k (fun K13 hK13 => ?_)
      refine aw_regL ?_
      refine alP (some 11) rfl rfl (does_move (v := .int .i64 v6_1) (by exact rfl)) (by decide) ?_
      refine alP (some 12) rfl rfl (does_move (v := .sl 6 (List.map enc27 a0)) (by exact rfl)) (by decide) ?_
      refine alP (some 13) rfl rfl ((does_len_sl (by conv => lhs; whnf) ty22).castp (v' := .int .i64 (List.length a0 : Int)) (by exact len_map _)) (by decide) ?_
      refine alP (some 14) rfl rfl (does_bin (v := .bool (decide (v6_1 < (List.length a0 : Int)))) (by conv => lhs; whnf) (by conv => lhs; whnf) rfl) (by decide) ?_
      refine al_nil ?_
      refine hK13 _ ?_
      refine aw_bool (b := (decide (v6_1 < (List.length a0 : Int)))) 14 rfl (fun c14 => ?_) (fun c14 => ?_)
      · have h := ifT c14 h
        refine aw_cond_t (by decide) rfl ?_
        refine aw_skip ?_
        refine hK12 _ ?_
        refine aw_seq_k (fun K15 hK15 => ?_)
        refine aw_block ?_
        refine aw_seq_k (fun K16 hK16 => ?_)
        refine aw_regd (by kernel_rfl) (by decide +kernel) ?_
        refine aoP (some 17) rfl rfl (does_move (v := .sl 6 (List.map enc27 a0)) (by exact rfl)) (by decide) ?_
        refine aoP (some 18) rfl rfl (does_move (v := .int .i64 v6_1) (by exact rfl)) (by decide) ?_
        obtain ⟨g17, h⟩ := gd_some h
        obtain ⟨x18, hx18, h⟩ := bnd_some h
        refine aoP (some 19) rfl rfl (does_indexAddr_sl (el := .agg [.int .u64 x18.Trace.Hi, .int .u64 x18.Trace.Lo, .int .i64 x18.First, .int .i64 x18.Last, .bool x18.Sure, .sl 10 (List.map enc30 x18.Spans)]) (by conv => lhs; whnf) (by conv => lhs; whnf) ty22 ty28 g17 (by exact map_get hx18)) (by decide) ?_
        refine aoP (some 20) rfl rfl (does_fieldAddr (q := .rptr [.int .i64 x18.First, .int .i64 x18.Last, .bool x18.Sure, .sl 10 (List.map enc30 x18.Spans)]) (by conv => lhs; whnf) ty28 rfl ty3 (by decide) (by exact rfl)) (by decide) ?_
        refine aoR (some 21) rfl rfl (does_load (v := .int .i64 x18.First) (by conv => lhs; whnf) (by conv => lhs; whnf) ty3 (by exact rfl)) (by decide) ?_
        refine aoP (some 22) rfl rfl (does_move (v := .sl 6 (List.map enc27 a0)) (by exact rfl)) (by decide) ?_
        refine aoP (some 23) rfl rfl (does_move (v := .int .i64 v5_1) (by exact rfl)) (by decide) ?_
        obtain ⟨g19, h⟩ := gd_some h
        obtain ⟨x20, hx20, h⟩ := bnd_some h
        refine aoP (some 24) rfl rfl (does_indexAddr_sl (el := .agg [.int .u64 x20.Trace.Hi, .int .u64 x20.Trace.Lo, .int .i64 x20.First, .int .i64 x20.Last, .bool x20.Sure, .sl 10 (List.map enc30 x20.Spans)]) (by conv => lhs; whnf) (by conv => lhs; whnf) ty22 ty28 g19 (by exact map_get hx20)) (by decide) ?_
        refine aoP (some 25) rfl rfl (does_fieldAddr (q := .rptr [.int .i64 x20.First, .int .i64 x20.Last, .bool x20.Sure, .sl 10 (List.map enc30 x20.Spans)]) (by conv => lhs; whnf) ty28 rfl ty3 (by decide) (by exact rfl)) (by decide) ?_
        refine aoR (some 26) rfl rfl (does_load (v := .int .i64 x20.First) (by conv => lhs; whnf) (by conv => lhs; whnf) ty3 (by exact rfl)) (by decide) ?_
        refine aoP (some 27) rfl rfl (does_bin (v := .bool (decide (x18.First < x20.First))) (by conv => lhs; whnf) (by conv => lhs; whnf) rfl) (by decide) ?_
        refine ao_nil_d (by kernel_rfl) ?_
        refine hK16 _ ?_
        refine aw_bool (b := (decide (x18.First < x20.First))) 27 rfl (fun c21 => ?_) (fun c21 => ?_)
        · have h := ifT c21 h
          refine aw_cond_t (by decide) rfl ?_
          refine aw_regL ?_
          refine alP (some 28) rfl rfl (does_move (v := .int .i64 v6_1) (by exact rfl)) (by decide) ?_
          refine alP (some 5) rfl rfl (does_assign (v := .int .i64 v6_1) (by exact rfl)) (by decide) ?_
          refine al_nil ?_
          refine hK15 _ ?_
          refine aw_regL ?_
          refine alP (some 15) rfl rfl (does_move (v := .int .i64 v6_1) (by exact rfl)) (by decide) ?_
          refine alP (some 16) rfl rfl (does_bin (v := .int .i64 (IntKind.i64.wrap (v6_1 + 1))) (by conv => lhs; whnf) (by conv => lhs; whnf) rfl) (by decide) ?_
          refine alP (some 6) rfl rfl (does_assign (v := .int .i64 (IntKind.i64.wrap (v6_1 + 1))) (by exact rfl)) (by decide) ?_
          refine al_nil ?_
          have h := leafL h hq11
          exact ⟨m1, Nat.lt_succ_self _, _, reb_lit [(0, .sl 6 (List.map enc27 a0)), (3, .ptr 3 0 0), (5, .int .i64 v6_1), (6, .int .i64 (IntKind.i64.wrap (v6_1 + 1)))] [(3, 0)] [((3, 0), .box [.int .u64 0, .int .u64 0, .int .i64 0, .int .i64 0, .bool false, .nil])] [(3, 1)] (envOk_cons (by conv => lhs; whnf) (by exact rfl) (envOk_cons (by conv => lhs; whnf) (by exact rfl) (envOk_cons (by conv => lhs; whnf) (by exact rfl) (envOk_cons (by conv => lhs; whnf) (by exact rfl) envOk_nil)))) (objOk_cons (by conv => lhs; whnf) (by conv => lhs; whnf) (by exact rfl) (by simp) objOk_nil) (nodup_b rfl) (nodup_b rfl) rfl rfl, v6_1, (IntKind.i64.wrap (v6_1 + 1)), h, rfl⟩
        · have h := ifF c21 h
          refine aw_cond_f (by decide) rfl ?_
          refine aw_skip ?_
          refine hK15 _ ?_
          refine aw_regL ?_
          refine alP (some 15) rfl rfl (does_move (v := .int .i64 v6_1) (by exact rfl)) (by decide) ?_
          refine alP (some 16) rfl rfl (does_bin (v := .int .i64 (IntKind.i64.wrap (v6_1 + 1))) (by conv => lhs; whnf) (by conv => lhs; whnf) rfl) (by decide) ?_
          refine alP (some 6) rfl rfl (does_assign (v := .int .i64 (IntKind.i64.wrap (v6_1 + 1))) (by exact rfl)) (by decide) ?_
          refine al_nil ?_
          have h := leafL h hq11
          exact ⟨m1, Nat.lt_succ_self _, _, reb_lit [(0, .sl 6 (List.map enc27 a0)), (3, .ptr 3 0 0), (5, .int .i64 v5_1), (6, .int .i64 (IntKind.i64.wrap (v6_1 + 1)))] [(3, 0)] [((3, 0), .box [.int .u64 0, .int .u64 0, .int .i64 0, .int .i64 0, .bool false, .nil])] [(3, 1)] (envOk_cons (by conv => lhs; whnf) (by exact rfl) (envOk_cons (by conv => lhs; whnf) (by exact rfl) (envOk_cons (by conv => lhs; whnf) (by exact rfl) (envOk_cons (by conv => lhs; whnf) (by exact rfl) envOk_nil)))) (objOk_cons (by conv => lhs; whnf) (by conv => lhs; whnf) (by exact rfl) (by simp) objOk_nil) (nodup_b rfl) (nodup_b rfl) rfl rfl, v5_1, (IntKind.i64.wrap (v6_1 + 1)), h, rfl⟩
      · have h := ifF c14 h
        refine aw_cond_f (by decide) rfl ?_
        refine aw_exit ?_
        have h := leafR h hq11
        obtain rfl := Option.some.inj h
        have h := hk8
        exact ⟨_, reb_lit [(0, .sl 6 (List.map enc27 a0)), (3, .ptr 3 0 0), (5, .int .i64 v5_1)] [(3, 0)] [((3, 0), .box [.int .u64 0, .int .u64 0, .int .i64 0, .int .i64 0, .bool false, .nil])] [(3, 1)] (envOk_cons (by conv => lhs; whnf) (by exact rfl) (envOk_cons (by conv => lhs; whnf) (by exact rfl) (envOk_cons (by conv => lhs; whnf) (by exact rfl) envOk_nil))) (objOk_cons (by conv => lhs; whnf) (by conv => lhs; whnf) (by exact rfl) (by simp) objOk_nil) (nodup_b rfl) (nodup_b rfl) rfl rfl, v5_1, h, rfl⟩
    · rintro s ⟨v5_0, h, rfl⟩
      unfold gleaningref15_Oldest_k0 at h
      refine aw_seq_k (fun K22 hK22 => ?_)
      refine aw_regd (by kernel_rfl) (by decide +kernel) ?_
      refine aoP (some 29) rfl rfl (does_move (v := .sl 6 (List.map enc27 a0)) (by exact rfl)) (by decide) ?_
      refine aoP (some 30) rfl rfl (does_move (v := .int .i64 v5_0) (by exact rfl)) (by decide) ?_
      obtain ⟨g23, h⟩ := gd_some h
      obtain ⟨g24, h⟩ := gd_some h
      refine aoP (some 31) rfl rfl (does_slice_sl (l := 0) (k := (Int.toNat v5_0)) (by conv => lhs; whnf) ty22 ty28 bd_none (bd_some (by conv => lhs; whnf) (by exact (nat_of (by omega)))) (by (try simp only [List.length_map]); omega) (by (try simp only [List.length_map]); omega) (by exact part_h _ _)) (by decide) ?_
      obtain ⟨g25, h⟩ := gd_some h
      refine aoD (some 32) rfl rfl (do_append (v := List.map enc27 (List.take (Int.toNat v5_0) a0)) (by conv => lhs; whnf) (by conv => lhs; whnf) ty22 ty28 rfl rfl (by conv => lhs; whnf) (by first | exact .inl rfl | exact .inr ⟨rfl, rfl⟩) (by conv => lhs; whnf) (by first | exact .inr rfl | exact .inl rfl) (List.nil_append _) (fit_map g25)) (by decide) ?_
      refine aoP (some 33) rfl rfl (does_move (v := .sl 6 (List.map enc27 a0)) (by exact rfl)) (by decide) ?_
      refine aoP (some 34) rfl rfl (does_move (v := .int .i64 v5_0) (by exact rfl)) (by decide) ?_
      refine aoP (some 35) rfl rfl (does_bin (v := .int .i64 (IntKind.i64.wrap (v5_0 + 1))) (by conv => lhs; whnf) (by conv => lhs; whnf) rfl) (by decide) ?_
      obtain ⟨g26, h⟩ := gd_some h
      obtain ⟨g27, h⟩ := gd_some h
      refine aoP (some 36) rfl rfl (does_slice_sl (l := (Int.toNat (IntKind.i64.wrap (v5_0 + 1)))) (by conv => lhs; whnf) ty22 ty28 (bd_some (by conv => lhs; whnf) (by exact (nat_of g26))) bd_none (by (try simp only [List.length_map]); omega) (by (try simp only [List.length_map]); omega) (by exact part_l _ _)) (by decide) ?_
      obtain ⟨g28, h⟩ := gd_some h
      refine aoD (some 37) rfl rfl (do_append (v := List.map enc27 ((List.take (Int.toNat v5_0) a0) ++ (List.drop (Int.toNat (IntKind.i64.wrap (v5_0 + 1))) a0))) (by conv => lhs; whnf) (by conv => lhs; whnf) ty22 ty28 rfl rfl (by conv => lhs; whnf) (by first | exact .inl rfl | exact .inr ⟨rfl, rfl⟩) (by conv => lhs; whnf) (by first | exact .inr rfl | exact .inl rfl) (map_app _ _) (fit_map g28)) (by decide) ?_
      refine aoP (some 38) rfl rfl (does_move (v := .sl 6 (List.map enc27 a0)) (by exact rfl)) (by decide) ?_
      refine aoP (some 39) rfl rfl (does_move (v := .int .i64 v5_0) (by exact rfl)) (by decide) ?_
      obtain ⟨g29, h⟩ := gd_some h
      obtain ⟨x30, hx30, h⟩ := bnd_some h
      refine aoP (some 40) rfl rfl (does_indexAddr_sl (el := .agg [.int .u64 x30.Trace.Hi, .int .u64 x30.Trace.Lo, .int .i64 x30.First, .int .i64 x30.Last, .bool x30.Sure, .sl 10 (List.map enc30 x30.Spans)]) (by conv => lhs; whnf) (by conv => lhs; whnf) ty22 ty28 g29 (by exact map_get hx30)) (by decide) ?_
      refine aoR (some 41) rfl rfl (does_load (v := .agg [.int .u64 x30.Trace.Hi, .int .u64 x30.Trace.Lo, .int .i64 x30.First, .int .i64 x30.Last, .bool x30.Sure, .sl 10 (List.map enc30 x30.Spans)]) (by conv => lhs; whnf) (by conv => lhs; whnf) ty28 (by exact rfl)) (by decide) ?_
      refine aoP (some 2) rfl rfl (does_assign (v := .own 37 0) (by exact rfl)) (by decide) ?_
      refine aoD none rfl rfl (do_store (cs' := [.int .u64 x30.Trace.Hi, .int .u64 x30.Trace.Lo, .int .i64 x30.First, .int .i64 x30.Last, .bool x30.Sure, .sl 10 (List.map enc30 x30.Spans)]) (by conv => lhs; whnf) (by conv => lhs; whnf) (by conv => lhs; whnf) ty28 rfl rfl rfl (by exact rfl)) (by decide) ?_
      refine aoP (some 4) rfl rfl (does_assign (v := .bool true) (by exact rfl)) (by decide) ?_
      refine ao_nil_d (by kernel_rfl) ?_
      refine hK22 _ ?_
      refine aw_ret ?_
      obtain rfl := Option.some.inj h
      exact ret_okR [(37, 0)] (by conv => lhs; whnf) (by conv => lhs; whnf) (by exact rfl) (rowsOk_cons (by conv => lhs; whnf) (by exact rfl) trivial) (nodup_b rfl) (.inr rfl) rfl
def gleaningref15_less_k1 (a0 : Int) (a1 : Int) (v5_1 : Bool) : Option (Unit ⊕ Int) :=
  if v5_1 = true then (some (Sum.inr 9223372036854775807)) else (if (decide ((0 : Int) < a1)) = true then (if (decide (a0 < (IntKind.i64.wrap ((-9223372036854775808) + a1)))) = true then (some (Sum.inr (-9223372036854775808))) else (some (Sum.inl ()))) else (some (Sum.inl ())))
def gleaningref15_less_k0 (a0 : Int) (a1 : Int) : Option Int :=
  some (IntKind.i64.wrap (a0 - a1))
def gleaningref15_less (a0 : Int) (a1 : Int) : Option Int :=
  Option.bind (Option.bind (if (decide (a1 < 0)) = true then (some (decide ((IntKind.i64.wrap (9223372036854775807 + a1)) < a0))) else (some false)) (fun (s : Bool) => gleaningref15_less_k1 a0 a1 s)) (Sum.elim (fun (s : Unit) => gleaningref15_less_k0 a0 a1) some)
set_option maxRecDepth 100000 in
set_option maxHeartbeats 8000000 in
/-- gleaning/gleaningref15.less -/
theorem gleaningref15_less_ok (a0 : Int) (a1 : Int) {r : Int} (h : gleaningref15_less a0 a1 = some r) : Ok Try.prog 71 [.int .i64 a0, .int .i64 a1] [] [] (.int .i64 r) [] [] := by
  unfold gleaningref15_less at h
  refine ok_of_code Try.func71 rfl (by show (2 : Nat) ≤ _; decide) (Nat.le_refl _) fun X => ?_
  refine aw_seq_k (fun K1 hK1 => ?_)
  refine aw_regL ?_
  refine alP (some 4) rfl rfl (does_assign (v := .int .i64 0) (by exact rfl)) (by decide) ?_
  refine al_nil ?_
  refine hK1 _ ?_
  obtain ⟨q2, h, hk3⟩ := bnd_some h
  refine aw_cut (fun s => gleaningref15_less_k0 a0 a1 = some r ∧ s = lit [(0, .int .i64 a0), (1, .int .i64 a1)] [] [] X) ?_ ?_
  · skip
    refine aw_block ?_
    obtain ⟨q4, h, hk5⟩ := bnd_some h
    refine aw_cut (fun s => ∃ (v5_1 : Bool), gleaningref15_less_k1 a0 a1 v5_1 = some q2 ∧ s = lit [(0, .int .i64 a0), (1, .int .i64 a1), (5, .bool v5_1)] [] [] X) ?_ ?_
    · skip
      refine aw_regL ?_
      refine alP (some 6) rfl rfl (does_move (v := .int .i64 a1) (by exact rfl)) (by decide) ?_
      refine alP (some 7) rfl rfl (does_bin (v := .bool (decide (a1 < 0))) (by conv => lhs; whnf) (by conv => lhs; whnf) rfl) (by decide) ?_
      refine alP (some 8) rfl rfl (does_move (v := .bool (decide (a1 < 0))) (by exact rfl)) (by decide) ?_
      refine al_bool (c := (decide (a1 < 0))) 8 rfl (fun c6 => ?_) (fun c6 => ?_)
      · have h := ifT c6 h
        refine alP (some 9) rfl rfl (does_move (v := .int .i64 a0) (by exact rfl)) (by decide) ?_
        refine alP (some 10) rfl rfl (does_move (v := .int .i64 a1) (by exact rfl)) (by decide) ?_
        refine alP (some 11) rfl rfl (does_bin (v := .int .i64 (IntKind.i64.wrap (9223372036854775807 + a1))) (by conv => lhs; whnf) (by conv => lhs; whnf) rfl) (by decide) ?_
        refine alP (some 12) rfl rfl (does_bin (v := .bool (decide ((IntKind.i64.wrap (9223372036854775807 + a1)) < a0))) (by conv => lhs; whnf) (by conv => lhs; whnf) rfl) (by decide) ?_
        refine alP (some 13) rfl rfl (does_pick (v := .bool (decide ((IntKind.i64.wrap (9223372036854775807 + a1)) < a0))) (by conv => lhs; whnf) (by exact rfl)) (by decide) ?_
        refine alP (some 5) rfl rfl (does_assign (v := .bool (decide ((IntKind.i64.wrap (9223372036854775807 + a1)) < a0))) (by exact rfl)) (by decide) ?_
        refine al_nil ?_
        obtain rfl := Option.some.inj h
        have h := hk5
        exact ⟨_, reb_lit [(0, .int .i64 a0), (1, .int .i64 a1), (5, .bool (decide ((IntKind.i64.wrap (9223372036854775807 + a1)) < a0)))] [] [] [] (envOk_cons (by conv => lhs; whnf) (by exact rfl) (envOk_cons (by conv => lhs; whnf) (by exact rfl) (envOk_cons (by conv => lhs; whnf) (by exact rfl) envOk_nil))) objOk_nil (nodup_b rfl) (nodup_b rfl) rfl rfl, (decide ((IntKind.i64.wrap (9223372036854775807 + a1)) < a0)), h, rfl⟩
      · have h := ifF c6 h
        refine alS (some 9) rfl rfl (by decide) ?_
        refine alS (some 10) rfl rfl (by decide) ?_
        refine alS (some 11) rfl rfl (by decide) ?_
        refine alS (some 12) rfl rfl (by decide) ?_
        refine alP (some 13) rfl rfl (does_pick (v := .bool false) (by conv => lhs; whnf) (by exact rfl)) (by decide) ?_
        refine alP (some 5) rfl rfl (does_assign (v := .bool false) (by exact rfl)) (by decide) ?_
        refine al_nil ?_
        obtain rfl := Option.some.inj h
        have h := hk5
        exact ⟨_, reb_lit [(0, .int .i64 a0), (1, .int .i64 a1), (5, .bool false)] [] [] [] (envOk_cons (by conv => lhs; whnf) (by exact rfl) (envOk_cons (by conv => lhs; whnf) (by exact rfl) (envOk_cons (by conv => lhs; whnf) (by exact rfl) envOk_nil))) objOk_nil (nodup_b rfl) (nodup_b rfl) rfl rfl, false, h, rfl⟩
    · rintro s ⟨v5_1, h, rfl⟩
      unfold gleaningref15_less_k1 at h
      refine aw_bool (b := v5_1) 5 rfl (fun c7 => ?_) (fun c7 => ?_)
      · have h := ifT c7 h
        refine aw_cond_t (by decide) rfl ?_
        refine aw_seq_k (fun K8 hK8 => ?_)
        refine aw_regL ?_
        refine alP (some 4) rfl rfl (does_assign (v := .int .i64 9223372036854775807) (by exact rfl)) (by decide) ?_
        refine al_nil ?_
        refine hK8 _ ?_
        refine aw_ret ?_
        have h := leafR h hk3
        obtain rfl := Option.some.inj h
        exact ret_ok1 (by conv => lhs; whnf) (by conv => lhs; whnf) (by exact rfl) (.inr rfl) rfl
      · have h := ifF c7 h
        refine aw_cond_f (by decide) rfl ?_
        refine aw_seq_k (fun K9 hK9 => ?_)
        refine aw_regL ?_
        refine alP (some 15) rfl rfl (does_move (v := .int .i64 a1) (by exact rfl)) (by decide) ?_
        refine alP (some 16) rfl rfl (does_bin (v := .bool (decide ((0 : Int) < a1))) (by conv => lhs; whnf) (by conv => lhs; whnf) rfl) (by decide) ?_
        refine alP (some 17) rfl rfl (does_move (v := .bool (decide ((0 : Int) < a1))) (by exact rfl)) (by decide) ?_
        refine al_bool (c := (decide ((0 : Int) < a1))) 17 rfl (fun c10 => ?_) (fun c10 => ?_)
        · have h := ifT c10 h
          refine alP (some 18) rfl rfl (does_move (v := .int .i64 a0) (by exact rfl)) (by decide) ?_
          refine alP (some 19) rfl rfl (does_move (v := .int .i64 a1) (by exact rfl)) (by decide) ?_
          refine alP (some 20) rfl rfl (does_bin (v := .int .i64 (IntKind.i64.wrap ((-9223372036854775808) + a1))) (by conv => lhs; whnf) (by conv => lhs; whnf) rfl) (by decide) ?_
          refine alP (some 21) rfl rfl (does_bin (v := .bool (decide (a0 < (IntKind.i64.wrap ((-9223372036854775808) + a1))))) (by conv => lhs; whnf) (by conv => lhs; whnf) rfl) (by decide) ?_
          refine alP (some 22) rfl rfl (does_pick (v := .bool (decide (a0 < (IntKind.i64.wrap ((-9223372036854775808) + a1))))) (by conv => lhs; whnf) (by exact rfl)) (by decide) ?_
          refine alP (some 14) rfl rfl (does_assign (v := .bool (decide (a0 < (IntKind.i64.wrap ((-9223372036854775808) + a1))))) (by exact rfl)) (by decide) ?_
          refine al_nil ?_
          refine hK9 _ ?_
          refine aw_bool (b := (decide (a0 < (IntKind.i64.wrap ((-9223372036854775808) + a1))))) 14 rfl (fun c11 => ?_) (fun c11 => ?_)
          · have h := ifT c11 h
            refine aw_cond_t (by decide) rfl ?_
            refine aw_seq_k (fun K12 hK12 => ?_)
            refine aw_regL ?_
            refine alP (some 4) rfl rfl (does_assign (v := .int .i64 (-9223372036854775808)) (by exact rfl)) (by decide) ?_
            refine al_nil ?_
            refine hK12 _ ?_
            refine aw_ret ?_
            have h := leafR h hk3
            obtain rfl := Option.some.inj h
            exact ret_ok1 (by conv => lhs; whnf) (by conv => lhs; whnf) (by exact rfl) (.inr rfl) rfl
          · have h := ifF c11 h
            refine aw_cond_f (by decide) rfl ?_
            refine aw_skip ?_
            have h := leafL h hk3
            exact ⟨_, reb_lit [(0, .int .i64 a0), (1, .int .i64 a1)] [] [] [] (envOk_cons (by conv => lhs; whnf) (by exact rfl) (envOk_cons (by conv => lhs; whnf) (by exact rfl) envOk_nil)) objOk_nil (nodup_b rfl) (nodup_b rfl) rfl rfl, h, rfl⟩
        · have h := ifF c10 h
          refine alS (some 18) rfl rfl (by decide) ?_
          refine alS (some 19) rfl rfl (by decide) ?_
          refine alS (some 20) rfl rfl (by decide) ?_
          refine alS (some 21) rfl rfl (by decide) ?_
          refine alP (some 22) rfl rfl (does_pick (v := .bool false) (by conv => lhs; whnf) (by exact rfl)) (by decide) ?_
          refine alP (some 14) rfl rfl (does_assign (v := .bool false) (by exact rfl)) (by decide) ?_
          refine al_nil ?_
          refine hK9 _ ?_
          refine aw_cond_f (by decide) rfl ?_
          refine aw_skip ?_
          have h := leafL h hk3
          exact ⟨_, reb_lit [(0, .int .i64 a0), (1, .int .i64 a1)] [] [] [] (envOk_cons (by conv => lhs; whnf) (by exact rfl) (envOk_cons (by conv => lhs; whnf) (by exact rfl) envOk_nil)) objOk_nil (nodup_b rfl) (nodup_b rfl) rfl rfl, h, rfl⟩
  · rintro s ⟨h, rfl⟩
    unfold gleaningref15_less_k0 at h
    refine aw_seq_k (fun K13 hK13 => ?_)
    refine aw_regL ?_
    refine alP (some 23) rfl rfl (does_move (v := .int .i64 a0) (by exact rfl)) (by decide) ?_
    refine alP (some 24) rfl rfl (does_move (v := .int .i64 a1) (by exact rfl)) (by decide) ?_
    refine alP (some 25) rfl rfl (does_bin (v := .int .i64 (IntKind.i64.wrap (a0 - a1))) (by conv => lhs; whnf) (by conv => lhs; whnf) rfl) (by decide) ?_
    refine alP (some 4) rfl rfl (does_assign (v := .int .i64 (IntKind.i64.wrap (a0 - a1))) (by exact rfl)) (by decide) ?_
    refine al_nil ?_
    refine hK13 _ ?_
    refine aw_ret ?_
    obtain rfl := Option.some.inj h
    exact ret_ok1 (by conv => lhs; whnf) (by conv => lhs; whnf) (by exact rfl) (.inr rfl) rfl
def gleaningref15_long (a0 : Int) (a1 : Int) (a2 : Int) : Option Bool :=
  Option.bind (gleaningref15_less a1 a0) (fun (x3 : Int) => some (decide (a2 ≤ x3)))
set_option maxRecDepth 100000 in
set_option maxHeartbeats 8000000 in
/-- gleaning/gleaningref15.long -/
theorem gleaningref15_long_ok (a0 : Int) (a1 : Int) (a2 : Int) {r : Bool} (h : gleaningref15_long a0 a1 a2 = some r) : Ok Try.prog 61 [.int .i64 a0, .int .i64 a1, .int .i64 a2] [] [] (.bool r) [] [] := by
  unfold gleaningref15_long at h
  refine ok_of_code Try.func61 rfl (by show (3 : Nat) ≤ _; decide) (Nat.le_refl _) fun X => ?_
  refine aw_seq_k (fun K1 hK1 => ?_)
  refine aw_regL ?_
  refine alP (some 6) rfl rfl (does_assign (v := .bool false) (by exact rfl)) (by decide) ?_
  refine al_nil ?_
  refine hK1 _ ?_
  refine aw_seq_k (fun K2 hK2 => ?_)
  refine aw_regL ?_
  refine alP (some 7) rfl rfl (does_move (v := .int .i64 a1) (by exact rfl)) (by decide) ?_
  refine alP (some 8) rfl rfl (does_move (v := .int .i64 a0) (by exact rfl)) (by decide) ?_
  obtain ⟨x3, hx3, h⟩ := bnd_some h
  refine alD (some 9) rfl rfl (do_call0 9 false (gleaningref15_less_ok a1 a0 hx3) rfl ent71 rfl rfl) (by decide) ?_
  refine alP (some 10) rfl rfl (does_move (v := .int .i64 a2) (by exact rfl)) (by decide) ?_
  refine alP (some 11) rfl rfl (does_bin (v := .bool (decide (a2 ≤ x3))) (by conv => lhs; whnf) (by conv => lhs; whnf) rfl) (by decide) ?_
  refine alP (some 6) rfl rfl (does_assign (v := .bool (decide (a2 ≤ x3))) (by exact rfl)) (by decide) ?_
  refine al_nil ?_
  refine hK2 _ ?_
  refine aw_ret ?_
  obtain rfl := Option.some.inj h
  exact ret_ok1 (by conv => lhs; whnf) (by conv => lhs; whnf) (by exact rfl) (.inr rfl) rfl
def gleaningref15_Close_k2 (a0 : List Episode) (v10_s_1 : List Episode) (v11_s_1 : List Episode) (v12_1 : Int) (v36_2 : Bool) : Option ((List Episode × List Episode × Int) ⊕ (List Episode × List Episode)) :=
  if v36_2 = true then (gd (0 ≤ v12_1) (Option.bind (a0[(Int.toNat v12_1)]?) (fun (x23 : Episode) => gd ((List.length (v11_s_1 ++ [x23])) * 64 ≤ 140737488355328 ∧ (List.length (v11_s_1 ++ [x23])) ≤ 140737488355328) (some (Sum.inl (v10_s_1, (v11_s_1 ++ [x23]), (IntKind.i64.wrap (v12_1 + 1)))))))) else (gd (0 ≤ v12_1) (Option.bind (a0[(Int.toNat v12_1)]?) (fun (x26 : Episode) => gd ((List.length (v10_s_1 ++ [x26])) * 64 ≤ 140737488355328 ∧ (List.length (v10_s_1 ++ [x26])) ≤ 140737488355328) (some (Sum.inl ((v10_s_1 ++ [x26]), v11_s_1, (IntKind.i64.wrap (v12_1 + 1))))))))
def gleaningref15_Close_l1 (a0 : List Episode) (a1 : Int) (a2 : Int) (a3 : Int) (v10_s_1 : List Episode) (v11_s_1 : List Episode) (v12_1 : Int) : Option ((List Episode × List Episode × Int) ⊕ (List Episode × List Episode)) :=
  if (decide (v12_1 < (List.length a0 : Int))) = true then (Option.bind (gd (0 ≤ v12_1) (Option.bind (a0[(Int.toNat v12_1)]?) (fun (x15 : Episode) => Option.bind (gleaningref15_long x15.Last a1 a2) (fun (x16 : Bool) => if x16 = true then (some true) else (gd (0 ≤ v12_1) (Option.bind (a0[(Int.toNat v12_1)]?) (fun (x19 : Episode) => Option.bind (gleaningref15_long x19.First a1 a3) (fun (x20 : Bool) => some x20)))))))) (fun (s : Bool) => gleaningref15_Close_k2 a0 v10_s_1 v11_s_1 v12_1 s)) else (some (Sum.inr (v10_s_1, v11_s_1)))
def gleaningref15_Close_k0 (v10_s_0 : List Episode) (v11_s_0 : List Episode) : Option (List Episode × List Episode) :=
  some (v10_s_0, v11_s_0)
def gleaningref15_Close (a0 : List Episode) (a1 : Int) (a2 : Int) (a3 : Int) : Option (List Episode × List Episode) :=
  Option.bind (loopN (fun (s : List Episode × List Episode × Int) => gleaningref15_Close_l1 a0 a1 a2 a3 s.1 s.2.1 s.2.2) Fu ([], [], 0)) (fun (s : List Episode × List Episode) => gleaningref15_Close_k0 s.1 s.2)
set_option maxRecDepth 100000 in
set_option maxHeartbeats 8000000 in
/-- gleaning/gleaningref15.Close -/
theorem gleaningref15_Close_ok (a0 : List Episode) (a1 : Int) (a2 : Int) (a3 : Int) {r : List Episode × List Episode} (h : gleaningref15_Close a0 a1 a2 a3 = some r) : Ok Try.prog 40 [.sl 6 (List.map enc27 a0), .int .i64 a1, .int .i64 a2, .int .i64 a3] [] [] (.tup [.own 2 0, .own 2 1]) [] [(28, 6, List.map enc27 r.1), (28, 6, List.map enc27 r.2)] := by
  unfold gleaningref15_Close at h
  refine ok_of_code Try.func40 rfl (by show (4 : Nat) ≤ _; decide) (Nat.le_refl _) fun X => ?_
  refine aw_seq_k (fun K1 hK1 => ?_)
  refine aw_regL ?_
  refine alP (some 8) rfl rfl (does_assign (v := .nil) (by exact rfl)) (by decide) ?_
  refine alP (some 9) rfl rfl (does_assign (v := .nil) (by exact rfl)) (by decide) ?_
  refine al_nil ?_
  refine hK1 _ ?_
  refine aw_seq_k (fun K2 hK2 => ?_)
  refine aw_regL ?_
  refine alP (some 10) rfl rfl (does_assign (v := .nil) (by exact rfl)) (by decide) ?_
  refine alP (some 11) rfl rfl (does_assign (v := .nil) (by exact rfl)) (by decide) ?_
  refine al_nil ?_
  refine hK2 _ ?_
  obtain ⟨q3, h, hk4⟩ := bnd_some h
  refine aw_cut (fun s => ∃ (v10_s_0 : List Episode), ∃ (v11_s_0 : List Episode), gleaningref15_Close_k0 v10_s_0 v11_s_0 = some r ∧ s = lit [(10, .own 10 0), (11, .own 11 0)] [((10, 0), .arr 28 6 false (List.map enc27 v10_s_0)), ((11, 0), .arr 28 6 false (List.map enc27 v11_s_0))] [(10, 1), (11, 1)] X) ?_ ?_
  · skip
    refine aw_seq_k (fun K5 hK5 => ?_)
    refine aw_regL ?_
    refine alP (some 12) rfl rfl (does_assign (v := .int .i64 0) (by exact rfl)) (by decide) ?_
    refine al_nil ?_
    refine hK5 _ ?_
    refine aw_block ?_
    refine aw_nilOwn 10 28 6 (by conv => lhs; whnf) (by decide) (by decide) ?_
    refine aw_nilOwn 11 28 6 (by conv => lhs; whnf) (by decide) (by decide) ?_
    refine aw_loop' (fun m s => ∃ (v10_s_1 : List Episode), ∃ (v11_s_1 : List Episode), ∃ (v12_1 : Int), loopN (fun (s : List Episode × List Episode × Int) => gleaningref15_Close_l1 a0 a1 a2 a3 s.1 s.2.1 s.2.2) m (v10_s_1, v11_s_1, v12_1) = some q3 ∧ s = lit [(0, .sl 6 (List.map enc27 a0)), (1, .int .i64 a1), (2, .int .i64 a2), (3, .int .i64 a3), (10, .own 10 0), (11, .own 11 0), (12, .int .i64 v12_1)] [((10, 0), .arr 28 6 false (List.map enc27 v10_s_1)), ((11, 0), .arr 28 6 false (List.map enc27 v11_s_1))] [(10, 1), (11, 1)] X) Fu
      ⟨_, reb_lit [(0, .sl 6 (List.map enc27 a0)), (1, .int .i64 a1), (2, .int .i64 a2), (3, .int .i64 a3), (10, .own 10 0), (11, .own 11 0), (12, .int .i64 (0))] [(10, 0), (11, 0)] [((10, 0), .arr 28 6 false (List.map enc27 [])), ((11, 0), .arr 28 6 false (List.map enc27 []))] [(10, 1), (11, 1)] (envOk_cons (by conv => lhs; whnf) (by exact rfl) (envOk_cons (by conv => lhs; whnf) (by exact rfl) (envOk_cons (by conv => lhs; whnf) (by exact rfl) (envOk_cons (by conv => lhs; whnf) (by exact rfl) (envOk_cons (by conv => lhs; whnf) (by exact rfl) (envOk_cons (by conv => lhs; whnf) (by exact rfl) (envOk_cons (by conv => lhs; whnf) (by exact rfl) envOk_nil))))))) (objOk_cons (by conv => lhs; whnf) (by conv => lhs; whnf) (by exact rfl) (by simp) (objOk_cons (by conv => lhs; whnf) (by conv => lhs; whnf) (by exact rfl) (by simp) objOk_nil)) (nodup_b rfl) (nodup_b rfl) rfl rfl, [], [], 0, h, rfl⟩ ?_
    rintro m s ⟨v10_s_1, v11_s_1, v12_1, h, rfl⟩
    obtain ⟨m1, q6, rfl, h, hq7⟩ := loop_some h
    replace h : gleaningref15_Close_l1 a0 a1 a2 a3 v10_s_1 v11_s_1 v12_1 = some q6 := h
    unfold gleaningref15_Close_l1 at h
    refine aw_seq_k (fun K8 hK8 => ?_)
    refine aw_seq_k (fun K9 hK9 => ?_)
    refine aw_regL ?_
    refine alP (some 13) rfl rfl (does_move (v := .int .i64 v12_1) (by exact rfl)) (by decide) ?_
    refine alP (some 14) rfl rfl (does_move (v := .sl 6 (List.map enc27 a0)) (by exact rfl)) (by decide) ?_
    refine alP (some 15) rfl rfl ((does_len_sl (by conv => lhs; whnf) ty22).castp (v' := .int .i64 (List.length a0 : Int)) (by exact len_map _)) (by decide) ?_
    refine alP (some 16) rfl rfl (does_bin (v := .bool (decide (v12_1 < (List.length a0 : Int)))) (by conv => lhs; whnf) (by conv => lhs; whnf) rfl) (by decide) ?_
    refine al_nil ?_
    refine hK9 _ ?_
    refine aw_bool (b := (decide (v12_1 < (List.length a0 : Int)))) 16 rfl (fun c10 => ?_) (fun c10 => ?_)
    · have h := ifT c10 h
      refine aw_cond_t (by decide) rfl ?_
      refine aw_skip ?_
      refine hK8 _ ?_
      refine aw_seq_k (fun K11 hK11 => ?_)
      refine aw_block ?_
      obtain ⟨q12, h, hk13⟩ := bnd_some h
      refine aw_cut (fun s => ∃ (v36_2 : Bool), gleaningref15_Close_k2 a0 v10_s_1 v11_s_1 v12_1 v36_2 = some q6 ∧ s = lit [(0, .sl 6 (List.map enc27 a0)), (1, .int .i64 a1), (2, .int .i64 a2), (3, .int .i64 a3), (10, .own 10 0), (11, .own 11 0), (12, .int .i64 v12_1), (36, .bool v36_2)] [((10, 0), .arr 28 6 false (List.map enc27 v10_s_1)), ((11, 0), .arr 28 6 false (List.map enc27 v11_s_1))] [(10, 1), (11, 1)] X) ?_ ?_
      · skip
        refine aw_regL ?_
        refine alP (some 19) rfl rfl (does_move (v := .sl 6 (List.map enc27 a0)) (by exact rfl)) (by decide) ?_
        refine alP (some 20) rfl rfl (does_move (v := .int .i64 v12_1) (by exact rfl)) (by decide) ?_
        obtain ⟨g14, h⟩ := gd_some h
        obtain ⟨x15, hx15, h⟩ := bnd_some h
        refine alP (some 21) rfl rfl (does_indexAddr_sl (el := .agg [.int .u64 x15.Trace.Hi, .int .u64 x15.Trace.Lo, .int .i64 x15.First, .int .i64 x15.Last, .bool x15.Sure, .sl 10 (List.map enc30 x15.Spans)]) (by conv => lhs; whnf) (by conv => lhs; whnf) ty22 ty28 g14 (by exact map_get hx15)) (by decide) ?_
        refine alP (some 22) rfl rfl (does_fieldAddr (q := .rptr [.int .i64 x15.Last, .bool x15.Sure, .sl 10 (List.map enc30 x15.Spans)]) (by conv => lhs; whnf) ty28 rfl ty3 (by decide) (by exact rfl)) (by decide) ?_
        refine alR (some 23) rfl rfl (does_load (v := .int .i64 x15.Last) (by conv => lhs; whnf) (by conv => lhs; whnf) ty3 (by exact rfl)) (by decide) ?_
        refine alP (some 24) rfl rfl (does_move (v := .int .i64 a1) (by exact rfl)) (by decide) ?_
        refine alP (some 25) rfl rfl (does_move (v := .int .i64 a2) (by exact rfl)) (by decide) ?_
        obtain ⟨x16, hx16, h⟩ := bnd_some h
        refine alD (some 26) rfl rfl (do_call0 26 false (gleaningref15_long_ok x15.Last a1 a2 hx16) rfl ent61 rfl rfl) (by decide) ?_
        refine alP (some 27) rfl rfl (does_move (v := .bool x16) (by exact rfl)) (by decide) ?_
        refine al_bool (c := x16) 27 rfl (fun c17 => ?_) (fun c17 => ?_)
        · have h := ifT c17 h
          refine alS (some 28) rfl rfl (by decide) ?_
          refine alS (some 29) rfl rfl (by decide) ?_
          refine alS (some 30) rfl rfl (by decide) ?_
          refine alS (some 31) rfl rfl (by decide) ?_
          refine alS (some 32) rfl rfl (by decide) ?_
          refine alS (some 33) rfl rfl (by decide) ?_
          refine alS (some 34) rfl rfl (by decide) ?_
          refine alS (some 35) rfl rfl (by decide) ?_
          refine alP (some 36) rfl rfl (does_pick (v := .bool true) (by conv => lhs; whnf) (by exact rfl)) (by decide) ?_
          refine al_nil ?_
          obtain rfl := Option.some.inj h
          have h := hk13
          exact ⟨_, reb_lit [(0, .sl 6 (List.map enc27 a0)), (1, .int .i64 a1), (2, .int .i64 a2), (3, .int .i64 a3), (10, .own 10 0), (11, .own 11 0), (12, .int .i64 v12_1), (36, .bool true)] [(10, 0), (11, 0)] [((10, 0), .arr 28 6 false (List.map enc27 v10_s_1)), ((11, 0), .arr 28 6 false (List.map enc27 v11_s_1))] [(10, 1), (11, 1)] (envOk_cons (by conv => lhs; whnf) (by exact rfl) (envOk_cons (by conv => lhs; whnf) (by exact rfl) (envOk_cons (by conv => lhs; whnf) (by exact rfl) (envOk_cons (by conv => lhs; whnf) (by exact rfl) (envOk_cons (by conv => lhs; whnf) (by exact rfl) (envOk_cons (by conv => lhs; whnf) (by exact rfl) (envOk_cons (by conv => lhs; whnf) (by exact rfl) (envOk_cons (by conv => lhs; whnf) (by exact rfl) envOk_nil)))))))) (objOk_cons (by conv => lhs; whnf) (by conv => lhs; whnf) (by exact rfl) (by simp) (objOk_cons (by conv => lhs; whnf) (by conv => lhs; whnf) (by exact rfl) (by simp) objOk_nil)) (nodup_b rfl) (nodup_b rfl) rfl rfl, true, h, rfl⟩
        · have h := ifF c17 h
          refine alP (some 28) rfl rfl (does_move (v := .sl 6 (List.map enc27 a0)) (by exact rfl)) (by decide) ?_
          refine alP (some 29) rfl rfl (does_move (v := .int .i64 v12_1) (by exact rfl)) (by decide) ?_
          obtain ⟨g18, h⟩ := gd_some h
          obtain ⟨x19, hx19, h⟩ := bnd_some h
          refine alP (some 30) rfl rfl (does_indexAddr_sl (el := .agg [.int .u64 x19.Trace.Hi, .int .u64 x19.Trace.Lo, .int .i64 x19.First, .int .i64 x19.Last, .bool x19.Sure, .sl 10 (List.map enc30 x19.Spans)]) (by conv => lhs; whnf) (by conv => lhs; whnf) ty22 ty28 g18 (by exact map_get hx19)) (by decide) ?_
          refine alP (some 31) rfl rfl (does_fieldAddr (q := .rptr [.int .i64 x19.First, .int .i64 x19.Last, .bool x19.Sure, .sl 10 (List.map enc30 x19.Spans)]) (by conv => lhs; whnf) ty28 rfl ty3 (by decide) (by exact rfl)) (by decide) ?_
          refine alR (some 32) rfl rfl (does_load (v := .int .i64 x19.First) (by conv => lhs; whnf) (by conv => lhs; whnf) ty3 (by exact rfl)) (by decide) ?_
          refine alP (some 33) rfl rfl (does_move (v := .int .i64 a1) (by exact rfl)) (by decide) ?_
          refine alP (some 34) rfl rfl (does_move (v := .int .i64 a3) (by exact rfl)) (by decide) ?_
          obtain ⟨x20, hx20, h⟩ := bnd_some h
          refine alD (some 35) rfl rfl (do_call0 35 false (gleaningref15_long_ok x19.First a1 a3 hx20) rfl ent61 rfl rfl) (by decide) ?_
          refine alP (some 36) rfl rfl (does_pick (v := .bool x20) (by conv => lhs; whnf) (by exact rfl)) (by decide) ?_
          refine al_nil ?_
          obtain rfl := Option.some.inj h
          have h := hk13
          exact ⟨_, reb_lit [(0, .sl 6 (List.map enc27 a0)), (1, .int .i64 a1), (2, .int .i64 a2), (3, .int .i64 a3), (10, .own 10 0), (11, .own 11 0), (12, .int .i64 v12_1), (36, .bool x20)] [(10, 0), (11, 0)] [((10, 0), .arr 28 6 false (List.map enc27 v10_s_1)), ((11, 0), .arr 28 6 false (List.map enc27 v11_s_1))] [(10, 1), (11, 1)] (envOk_cons (by conv => lhs; whnf) (by exact rfl) (envOk_cons (by conv => lhs; whnf) (by exact rfl) (envOk_cons (by conv => lhs; whnf) (by exact rfl) (envOk_cons (by conv => lhs; whnf) (by exact rfl) (envOk_cons (by conv => lhs; whnf) (by exact rfl) (envOk_cons (by conv => lhs; whnf) (by exact rfl) (envOk_cons (by conv => lhs; whnf) (by exact rfl) (envOk_cons (by conv => lhs; whnf) (by exact rfl) envOk_nil)))))))) (objOk_cons (by conv => lhs; whnf) (by conv => lhs; whnf) (by exact rfl) (by simp) (objOk_cons (by conv => lhs; whnf) (by conv => lhs; whnf) (by exact rfl) (by simp) objOk_nil)) (nodup_b rfl) (nodup_b rfl) rfl rfl, x20, h, rfl⟩
      · rintro s ⟨v36_2, h, rfl⟩
        unfold gleaningref15_Close_k2 at h
        refine aw_bool (b := v36_2) 36 rfl (fun c21 => ?_) (fun c21 => ?_)
        · have h := ifT c21 h
          refine aw_cond_t (by decide) rfl ?_
          refine aw_regL ?_
          refine alP (some 37) rfl rfl (does_move (v := .own 11 0) (by exact rfl)) (by decide) ?_
          refine alP (some 38) rfl rfl (does_move (v := .sl 6 (List.map enc27 a0)) (by exact rfl)) (by decide) ?_
          refine alP (some 39) rfl rfl (does_move (v := .int .i64 v12_1) (by exact rfl)) (by decide) ?_
          obtain ⟨g22, h⟩ := gd_some h
          obtain ⟨x23, hx23, h⟩ := bnd_some h
          refine alP (some 40) rfl rfl (does_indexAddr_sl (el := .agg [.int .u64 x23.Trace.Hi, .int .u64 x23.Trace.Lo, .int .i64 x23.First, .int .i64 x23.Last, .bool x23.Sure, .sl 10 (List.map enc30 x23.Spans)]) (by conv => lhs; whnf) (by conv => lhs; whnf) ty22 ty28 g22 (by exact map_get hx23)) (by decide) ?_
          refine alR (some 41) rfl rfl (does_load (v := .agg [.int .u64 x23.Trace.Hi, .int .u64 x23.Trace.Lo, .int .i64 x23.First, .int .i64 x23.Last, .bool x23.Sure, .sl 10 (List.map enc30 x23.Spans)]) (by conv => lhs; whnf) (by conv => lhs; whnf) ty28 (by exact rfl)) (by decide) ?_
          refine alD (some 42) rfl rfl (do_buildSlice (xs := List.map enc27 [x23]) ty22 ty28 rfl rfl rfl rfl rfl rfl rfl rfl) (by decide) ?_
          obtain ⟨g24, h⟩ := gd_some h
          refine alD (some 43) rfl rfl (do_append (v := List.map enc27 (v11_s_1 ++ [x23])) (by conv => lhs; whnf) (by conv => lhs; whnf) ty22 ty28 rfl rfl (by conv => lhs; whnf) (by first | exact .inl rfl | exact .inr ⟨rfl, rfl⟩) (by conv => lhs; whnf) (by first | exact .inr rfl | exact .inl rfl) (map_app _ _) (fit_map g24)) (by decide) ?_
          refine alP (some 11) rfl rfl (does_assign (v := .own 43 0) (by exact rfl)) (by decide) ?_
          refine al_nil ?_
          refine hK11 _ ?_
          refine aw_regL ?_
          refine alP (some 17) rfl rfl (does_move (v := .int .i64 v12_1) (by exact rfl)) (by decide) ?_
          refine alP (some 18) rfl rfl (does_bin (v := .int .i64 (IntKind.i64.wrap (v12_1 + 1))) (by conv => lhs; whnf) (by conv => lhs; whnf) rfl) (by decide) ?_
          refine alP (some 12) rfl rfl (does_assign (v := .int .i64 (IntKind.i64.wrap (v12_1 + 1))) (by exact rfl)) (by decide) ?_
          refine al_nil ?_
          have h := leafL h hq7
          exact ⟨m1, Nat.lt_succ_self _, _, reb_lit [(0, .sl 6 (List.map enc27 a0)), (1, .int .i64 a1), (2, .int .i64 a2), (3, .int .i64 a3), (10, .own 10 0), (11, .own 11 0), (12, .int .i64 (IntKind.i64.wrap (v12_1 + 1)))] [(10, 0), (43, 0)] [((10, 0), .arr 28 6 false (List.map enc27 v10_s_1)), ((11, 0), .arr 28 6 false (List.map enc27 (v11_s_1 ++ [x23])))] [(10, 1), (11, 1)] (envOk_cons (by conv => lhs; whnf) (by exact rfl) (envOk_cons (by conv => lhs; whnf) (by exact rfl) (envOk_cons (by conv => lhs; whnf) (by exact rfl) (envOk_cons (by conv => lhs; whnf) (by exact rfl) (envOk_cons (by conv => lhs; whnf) (by exact rfl) (envOk_cons (by conv => lhs; whnf) (by exact rfl) (envOk_cons (by conv => lhs; whnf) (by exact rfl) envOk_nil))))))) (objOk_cons (by conv => lhs; whnf) (by conv => lhs; whnf) (by exact rfl) (by simp) (objOk_cons (by conv => lhs; whnf) (by conv => lhs; whnf) (by exact rfl) (by simp) objOk_nil)) (nodup_b rfl) (nodup_b rfl) rfl rfl, v10_s_1, (v11_s_1 ++ [x23]), (IntKind.i64.wrap (v12_1 + 1)), h, rfl⟩
        · have h := ifF c21 h
          refine aw_cond_f (by decide) rfl ?_
          refine aw_regL ?_
          refine alP (some 44) rfl rfl (does_move (v := .own 10 0) (by exact rfl)) (by decide) ?_
          refine alP (some 45) rfl rfl (does_move (v := .sl 6 (List.map enc27 a0)) (by exact rfl)) (by decide) ?_
          refine alP (some 46) rfl rfl (does_move (v := .int .i64 v12_1) (by exact rfl)) (by decide) ?_
          obtain ⟨g25, h⟩ := gd_some h
          obtain ⟨x26, hx26, h⟩ := bnd_some h
          refine alP (some 47) rfl rfl (does_indexAddr_sl (el := .agg [.int .u64 x26.Trace.Hi, .int .u64 x26.Trace.Lo, .int .i64 x26.First, .int .i64 x26.Last, .bool x26.Sure, .sl 10 (List.map enc30 x26.Spans)]) (by conv => lhs; whnf) (by conv => lhs; whnf) ty22 ty28 g25 (by exact map_get hx26)) (by decide) ?_
          refine alR (some 48) rfl rfl (does_load (v := .agg [.int .u64 x26.Trace.Hi, .int .u64 x26.Trace.Lo, .int .i64 x26.First, .int .i64 x26.Last, .bool x26.Sure, .sl 10 (List.map enc30 x26.Spans)]) (by conv => lhs; whnf) (by conv => lhs; whnf) ty28 (by exact rfl)) (by decide) ?_
          refine alD (some 49) rfl rfl (do_buildSlice (xs := List.map enc27 [x26]) ty22 ty28 rfl rfl rfl rfl rfl rfl rfl rfl) (by decide) ?_
          obtain ⟨g27, h⟩ := gd_some h
          refine alD (some 50) rfl rfl (do_append (v := List.map enc27 (v10_s_1 ++ [x26])) (by conv => lhs; whnf) (by conv => lhs; whnf) ty22 ty28 rfl rfl (by conv => lhs; whnf) (by first | exact .inl rfl | exact .inr ⟨rfl, rfl⟩) (by conv => lhs; whnf) (by first | exact .inr rfl | exact .inl rfl) (map_app _ _) (fit_map g27)) (by decide) ?_
          refine alP (some 10) rfl rfl (does_assign (v := .own 50 0) (by exact rfl)) (by decide) ?_
          refine al_nil ?_
          refine hK11 _ ?_
          refine aw_regL ?_
          refine alP (some 17) rfl rfl (does_move (v := .int .i64 v12_1) (by exact rfl)) (by decide) ?_
          refine alP (some 18) rfl rfl (does_bin (v := .int .i64 (IntKind.i64.wrap (v12_1 + 1))) (by conv => lhs; whnf) (by conv => lhs; whnf) rfl) (by decide) ?_
          refine alP (some 12) rfl rfl (does_assign (v := .int .i64 (IntKind.i64.wrap (v12_1 + 1))) (by exact rfl)) (by decide) ?_
          refine al_nil ?_
          have h := leafL h hq7
          exact ⟨m1, Nat.lt_succ_self _, _, reb_lit [(0, .sl 6 (List.map enc27 a0)), (1, .int .i64 a1), (2, .int .i64 a2), (3, .int .i64 a3), (10, .own 10 0), (11, .own 11 0), (12, .int .i64 (IntKind.i64.wrap (v12_1 + 1)))] [(50, 0), (11, 0)] [((10, 0), .arr 28 6 false (List.map enc27 (v10_s_1 ++ [x26]))), ((11, 0), .arr 28 6 false (List.map enc27 v11_s_1))] [(10, 1), (11, 1)] (envOk_cons (by conv => lhs; whnf) (by exact rfl) (envOk_cons (by conv => lhs; whnf) (by exact rfl) (envOk_cons (by conv => lhs; whnf) (by exact rfl) (envOk_cons (by conv => lhs; whnf) (by exact rfl) (envOk_cons (by conv => lhs; whnf) (by exact rfl) (envOk_cons (by conv => lhs; whnf) (by exact rfl) (envOk_cons (by conv => lhs; whnf) (by exact rfl) envOk_nil))))))) (objOk_cons (by conv => lhs; whnf) (by conv => lhs; whnf) (by exact rfl) (by simp) (objOk_cons (by conv => lhs; whnf) (by conv => lhs; whnf) (by exact rfl) (by simp) objOk_nil)) (nodup_b rfl) (nodup_b rfl) rfl rfl, (v10_s_1 ++ [x26]), v11_s_1, (IntKind.i64.wrap (v12_1 + 1)), h, rfl⟩
    · have h := ifF c10 h
      refine aw_cond_f (by decide) rfl ?_
      refine aw_exit ?_
      have h := leafR h hq7
      obtain rfl := Option.some.inj h
      have h := hk4
      exact ⟨_, reb_lit [(10, .own 10 0), (11, .own 11 0)] [(10, 0), (11, 0)] [((10, 0), .arr 28 6 false (List.map enc27 v10_s_1)), ((11, 0), .arr 28 6 false (List.map enc27 v11_s_1))] [(10, 1), (11, 1)] (envOk_cons (by conv => lhs; whnf) (by exact rfl) (envOk_cons (by conv => lhs; whnf) (by exact rfl) envOk_nil)) (objOk_cons (by conv => lhs; whnf) (by conv => lhs; whnf) (by exact rfl) (by simp) (objOk_cons (by conv => lhs; whnf) (by conv => lhs; whnf) (by exact rfl) (by simp) objOk_nil)) (nodup_b rfl) (nodup_b rfl) rfl rfl, v10_s_1, v11_s_1, h, rfl⟩
  · rintro s ⟨v10_s_0, v11_s_0, h, rfl⟩
    unfold gleaningref15_Close_k0 at h
    refine aw_seq_k (fun K28 hK28 => ?_)
    refine aw_regL ?_
    refine alP (some 51) rfl rfl (does_move (v := .own 10 0) (by exact rfl)) (by decide) ?_
    refine alP (some 52) rfl rfl (does_move (v := .own 11 0) (by exact rfl)) (by decide) ?_
    refine alP (some 8) rfl rfl (does_assign (v := .own 10 0) (by exact rfl)) (by decide) ?_
    refine alP (some 9) rfl rfl (does_assign (v := .own 11 0) (by exact rfl)) (by decide) ?_
    refine al_nil ?_
    refine hK28 _ ?_
    refine aw_ret ?_
    obtain rfl := Option.some.inj h
    exact ret_okR [(10, 0), (11, 0)] (by conv => lhs; whnf) (by conv => lhs; whnf) (by exact rfl) (rowsOk_cons (by conv => lhs; whnf) (by exact rfl) (rowsOk_cons (by conv => lhs; whnf) (by exact rfl) trivial)) (nodup_b rfl) (.inr rfl) rfl
def gleaningref15_Count_l0 (a0 : List Episode) (v3_0 : Int) (v4_0 : Int) : Option ((Int × Int) ⊕ Int) :=
  if (decide (v4_0 < (List.length a0 : Int))) = true then (gd (0 ≤ v4_0) (Option.bind (a0[(Int.toNat v4_0)]?) (fun (x12 : Episode) => some (Sum.inl ((IntKind.i64.wrap (v3_0 + (List.length x12.Spans : Int))), (IntKind.i64.wrap (v4_0 + 1))))))) else (some (Sum.inr v3_0))
def gleaningref15_Count (a0 : List Episode) : Option Int :=
  loopN (fun (s : Int × Int) => gleaningref15_Count_l0 a0 s.1 s.2) Fu (0, 0)
set_option maxRecDepth 100000 in
set_option maxHeartbeats 8000000 in
/-- gleaning/gleaningref15.Count -/
theorem gleaningref15_Count_ok (a0 : List Episode) {r : Int} (h : gleaningref15_Count a0 = some r) : Ok Try.prog 41 [.sl 6 (List.map enc27 a0)] [] [] (.int .i64 r) [] [] := by
  unfold gleaningref15_Count at h
  refine ok_of_code Try.func41 rfl (by show (1 : Nat) ≤ _; decide) (Nat.le_refl _) fun X => ?_
  refine aw_seq_k (fun K1 hK1 => ?_)
  refine aw_regL ?_
  refine alP (some 2) rfl rfl (does_assign (v := .int .i64 0) (by exact rfl)) (by decide) ?_
  refine al_nil ?_
  refine hK1 _ ?_
  refine aw_seq_k (fun K2 hK2 => ?_)
  refine aw_regL ?_
  refine alP (some 3) rfl rfl (does_assign (v := .int .i64 0) (by exact rfl)) (by decide) ?_
  refine al_nil ?_
  refine hK2 _ ?_
  refine aw_seq_k (fun K3 hK3 => ?_)
  refine aw_seq_k (fun K4 hK4 => ?_)
  refine aw_regL ?_
  refine alP (some 4) rfl rfl (does_assign (v := .int .i64 0) (by exact rfl)) (by decide) ?_
  refine al_nil ?_
  refine hK4 _ ?_
  refine aw_block ?_
  refine aw_loop' (fun m s => ∃ (v3_0 : Int), ∃ (v4_0 : Int), loopN (fun (s : Int × Int) => gleaningref15_Count_l0 a0 s.1 s.2) m (v3_0, v4_0) = some r ∧ s = lit [(0, .sl 6 (List.map enc27 a0)), (3, .int .i64 v3_0), (4, .int .i64 v4_0)] [] [] X) Fu
    ⟨_, reb_lit [(0, .sl 6 (List.map enc27 a0)), (3, .int .i64 (0)), (4, .int .i64 (0))] [] [] [] (envOk_cons (by conv => lhs; whnf) (by exact rfl) (envOk_cons (by conv => lhs; whnf) (by exact rfl) (envOk_cons (by conv => lhs; whnf) (by exact rfl) envOk_nil))) objOk_nil (nodup_b rfl) (nodup_b rfl) rfl rfl, 0, 0, h, rfl⟩ ?_
  rintro m s ⟨v3_0, v4_0, h, rfl⟩
  obtain ⟨m0, q5, rfl, h, hq6⟩ := loop_some h
  replace h : gleaningref15_Count_l0 a0 v3_0 v4_0 = some q5 := h
  unfold gleaningref15_Count_l0 at h
  refine aw_seq_k (fun K7 hK7 => ?_)
  refine aw_seq_k (fun K8 hK8 => ?_)
  refine aw_regL ?_
  refine alP (some 5) rfl rfl (does_move (v := .int .i64 v4_0) (by exact rfl)) (by decide) ?_
  refine alP (some 6) rfl rfl (does_move (v := .sl 6 (List.map enc27 a0)) (by exact rfl)) (by decide) ?_
  refine alP (some 7) rfl rfl ((does_len_sl (by conv => lhs; whnf) ty22).castp (v' := .int .i64 (List.length a0 : Int)) (by exact len_map _)) (by decide) ?_
  refine alP (some 8) rfl rfl (does_bin (v := .bool (decide (v4_0 < (List.length a0 : Int)))) (by conv => lhs; whnf) (by conv => lhs; whnf) rfl) (by decide) ?_
  refine al_nil ?_
  refine hK8 _ ?_
  refine aw_bool (b := (decide (v4_0 < (List.length a0 : Int)))) 8 rfl (fun c9 => ?_) (fun c9 => ?_)
  · have h := ifT c9 h
    refine aw_cond_t (by decide) rfl ?_
    refine aw_skip ?_
    refine hK7 _ ?_
    refine aw_seq_k (fun K10 hK10 => ?_)
    refine aw_block ?_
    refine aw_regL ?_
    refine alP (some 11) rfl rfl (does_move (v := .int .i64 v3_0) (by exact rfl)) (by decide) ?_
    refine alP (some 12) rfl rfl (does_move (v := .sl 6 (List.map enc27 a0)) (by exact rfl)) (by decide) ?_
    refine alP (some 13) rfl rfl (does_move (v := .int .i64 v4_0) (by exact rfl)) (by decide) ?_
    obtain ⟨g11, h⟩ := gd_some h
    obtain ⟨x12, hx12, h⟩ := bnd_some h
    refine alP (some 14) rfl rfl (does_indexAddr_sl (el := .agg [.int .u64 x12.Trace.Hi, .int .u64 x12.Trace.Lo, .int .i64 x12.First, .int .i64 x12.Last, .bool x12.Sure, .sl 10 (List.map enc30 x12.Spans)]) (by conv => lhs; whnf) (by conv => lhs; whnf) ty22 ty28 g11 (by exact map_get hx12)) (by decide) ?_
    refine alP (some 15) rfl rfl (does_fieldAddr (q := .rptr [.sl 10 (List.map enc30 x12.Spans)]) (by conv => lhs; whnf) ty28 rfl ty26 (by decide) (by exact rfl)) (by decide) ?_
    refine alR (some 16) rfl rfl (does_load (v := .sl 10 (List.map enc30 x12.Spans)) (by conv => lhs; whnf) (by conv => lhs; whnf) ty26 (by exact rfl)) (by decide) ?_
    refine alP (some 17) rfl rfl ((does_len_sl (by conv => lhs; whnf) ty26).castp (v' := .int .i64 (List.length x12.Spans : Int)) (by exact len_map _)) (by decide) ?_
    refine alP (some 18) rfl rfl (does_bin (v := .int .i64 (IntKind.i64.wrap (v3_0 + (List.length x12.Spans : Int)))) (by conv => lhs; whnf) (by conv => lhs; whnf) rfl) (by decide) ?_
    refine alP (some 3) rfl rfl (does_assign (v := .int .i64 (IntKind.i64.wrap (v3_0 + (List.length x12.Spans : Int)))) (by exact rfl)) (by decide) ?_
    refine al_nil ?_
    refine hK10 _ ?_
    refine aw_regL ?_
    refine alP (some 9) rfl rfl (does_move (v := .int .i64 v4_0) (by exact rfl)) (by decide) ?_
    refine alP (some 10) rfl rfl (does_bin (v := .int .i64 (IntKind.i64.wrap (v4_0 + 1))) (by conv => lhs; whnf) (by conv => lhs; whnf) rfl) (by decide) ?_
    refine alP (some 4) rfl rfl (does_assign (v := .int .i64 (IntKind.i64.wrap (v4_0 + 1))) (by exact rfl)) (by decide) ?_
    refine al_nil ?_
    have h := leafL h hq6
    exact ⟨m0, Nat.lt_succ_self _, _, reb_lit [(0, .sl 6 (List.map enc27 a0)), (3, .int .i64 (IntKind.i64.wrap (v3_0 + (List.length x12.Spans : Int)))), (4, .int .i64 (IntKind.i64.wrap (v4_0 + 1)))] [] [] [] (envOk_cons (by conv => lhs; whnf) (by exact rfl) (envOk_cons (by conv => lhs; whnf) (by exact rfl) (envOk_cons (by conv => lhs; whnf) (by exact rfl) envOk_nil))) objOk_nil (nodup_b rfl) (nodup_b rfl) rfl rfl, (IntKind.i64.wrap (v3_0 + (List.length x12.Spans : Int))), (IntKind.i64.wrap (v4_0 + 1)), h, rfl⟩
  · have h := ifF c9 h
    refine aw_cond_f (by decide) rfl ?_
    refine aw_exit ?_
    have h := leafR h hq6
    refine hK3 _ ?_
    refine aw_seq_k (fun K13 hK13 => ?_)
    refine aw_regL ?_
    refine alP (some 19) rfl rfl (does_move (v := .int .i64 v3_0) (by exact rfl)) (by decide) ?_
    refine alP (some 2) rfl rfl (does_assign (v := .int .i64 v3_0) (by exact rfl)) (by decide) ?_
    refine al_nil ?_
    refine hK13 _ ?_
    refine aw_ret ?_
    obtain rfl := Option.some.inj h
    exact ret_ok1 (by conv => lhs; whnf) (by conv => lhs; whnf) (by exact rfl) (.inr rfl) rfl
def gleaningref15_Put_k2 (a0 : List Episode) (v10_1 : Int) (x20 : Episode × Bool) (v11_s_4_2 : Bool) : Option (Int ⊕ (Unit ⊕ (List Episode))) :=
  gd (0 ≤ v10_1) (Option.bind (a0[(Int.toNat v10_1)]?) (fun (x27 : Episode) => some (Sum.inr (Sum.inr (List.set a0 (Int.toNat v10_1) (Episode.mk x20.1.Trace x20.1.First x20.1.Last v11_s_4_2 x20.1.Spans))))))
def gleaningref15_Put_k3 (a0 : List Episode) (v10_1 : Int) (x20 : Episode × Bool) (v11_s_4_3 : Bool) : Option (Int ⊕ (Unit ⊕ (List Episode))) :=
  gd (0 ≤ v10_1) (Option.bind (a0[(Int.toNat v10_1)]?) (fun (x34 : Episode) => some (Sum.inr (Sum.inr (List.set a0 (Int.toNat v10_1) (Episode.mk x20.1.Trace x20.1.First x20.1.Last v11_s_4_3 x20.1.Spans))))))
def gleaningref15_Put_l1 (a0 : List Episode) (a1 : Span) (a2 : Int) (a3 : Bool) (v10_1 : Int) : Option (Int ⊕ (Unit ⊕ (List Episode))) :=
  if (decide (v10_1 < (List.length a0 : Int))) = true then (gd (0 ≤ v10_1) (Option.bind (a0[(Int.toNat v10_1)]?) (fun (x15 : Episode) => if ((x15.Trace.Hi == a1.Trace.Hi) && ((x15.Trace.Lo == a1.Trace.Lo) && true)) = true then (gd (0 ≤ v10_1) (Option.bind (a0[(Int.toNat v10_1)]?) (fun (x19 : Episode) => Option.bind (gleaningref15_Add x19 a1 a2) (fun (x20 : Episode × Bool) => if x20.2 = true then (Option.bind (if x20.1.Sure = true then (some true) else (some a3)) (fun (s : Bool) => gleaningref15_Put_k2 a0 v10_1 x20 s)) else (Option.bind (if x20.1.Sure = true then (some true) else (some a3)) (fun (s : Bool) => gleaningref15_Put_k3 a0 v10_1 x20 s)))))) else (some (Sum.inl (IntKind.i64.wrap (v10_1 + 1))))))) else (some (Sum.inr (Sum.inl ())))
def gleaningref15_Put_k0 (a0 : List Episode) (a1 : Span) (a2 : Int) (a3 : Bool) : Option (List Episode) :=
  gd ((List.length (a0 ++ [(Episode.mk a1.Trace a2 a2 a3 [a1])])) * 64 ≤ 140737488355328 ∧ (List.length (a0 ++ [(Episode.mk a1.Trace a2 a2 a3 [a1])])) ≤ 140737488355328) (some (a0 ++ [(Episode.mk a1.Trace a2 a2 a3 [a1])]))
def gleaningref15_Put (a0 : List Episode) (a1 : Span) (a2 : Int) (a3 : Bool) : Option (List Episode) :=
  gd ((List.length a0) * 64 ≤ 140737488355328 ∧ (List.length a0) ≤ 140737488355328) (Option.bind (loopN (fun (s : Int) => gleaningref15_Put_l1 a0 a1 a2 a3 s) Fu 0) (Sum.elim (fun (s : Unit) => gleaningref15_Put_k0 a0 a1 a2 a3) some))
set_option maxRecDepth 100000 in
set_option maxHeartbeats 8000000 in
/-- gleaning/gleaningref15.Put -/
theorem gleaningref15_Put_ok (a0 : List Episode) (a1 : Span) (a2 : Int) (a3 : Bool) {r : List Episode} (h : gleaningref15_Put a0 a1 a2 a3 = some r) : Ok Try.prog 42 [.sl 6 (List.map enc27 a0), .agg [.int .u64 a1.Trace.Hi, .int .u64 a1.Trace.Lo, .int .u64 a1.Id, .int .u64 a1.Parent, .str a1.Service, .str a1.Op, .int .i64 a1.Start, .int .i64 a1.Dur, .bool a1.Err, .sl 2 (List.map enc68 a1.Attrs)], .int .i64 a2, .bool a3] [] [] (.own 2 0) [] [(28, 6, List.map enc27 r)] := by
  unfold gleaningref15_Put at h
  refine ok_of_code Try.func42 rfl (by show (4 : Nat) ≤ _; decide) (Nat.le_refl _) fun X => ?_
  refine aw_seq_k (fun K1 hK1 => ?_)
  refine aw_regL ?_
  refine alD (some 5) rfl rfl (do_box (by conv => lhs; whnf) rfl rfl) (by decide) ?_
  refine alP (some 8) rfl rfl (does_assign (v := .nil) (by exact rfl)) (by decide) ?_
  refine al_nil ?_
  refine hK1 _ ?_
  refine aw_seq_k (fun K2 hK2 => ?_)
  refine aw_regL ?_
  refine alP (some 13) rfl rfl (does_move (v := .sl 6 (List.map enc27 a0)) (by exact rfl)) (by decide) ?_
  obtain ⟨g3, h⟩ := gd_some h
  refine alD (some 14) rfl rfl (do_append (v := List.map enc27 a0) (by conv => lhs; whnf) (by conv => lhs; whnf) ty22 ty28 rfl rfl (by conv => lhs; whnf) (by first | exact .inl rfl | exact .inr ⟨rfl, rfl⟩) (by conv => lhs; whnf) (by first | exact .inr rfl | exact .inl rfl) (List.nil_append _) (fit_map g3)) (by decide) ?_
  refine alP (some 9) rfl rfl (does_assign (v := .own 14 0) (by exact rfl)) (by decide) ?_
  refine al_nil ?_
  refine hK2 _ ?_
  obtain ⟨q4, h, hk5⟩ := bnd_some h
  refine aw_cut (fun s => gleaningref15_Put_k0 a0 a1 a2 a3 = some r ∧ s = lit [(2, .int .i64 a2), (3, .bool a3), (5, .ptr 5 0 0), (9, .own 14 0)] [((5, 0), .box [.int .u64 a1.Trace.Hi, .int .u64 a1.Trace.Lo, .int .u64 a1.Id, .int .u64 a1.Parent, .str a1.Service, .str a1.Op, .int .i64 a1.Start, .int .i64 a1.Dur, .bool a1.Err, .sl 2 (List.map enc68 a1.Attrs)]), ((14, 0), .arr 28 6 false (List.map enc27 a0))] [(5, 1), (14, 1)] X) ?_ ?_
  · skip
    refine aw_seq_k (fun K6 hK6 => ?_)
    refine aw_regL ?_
    refine alP (some 10) rfl rfl (does_assign (v := .int .i64 0) (by exact rfl)) (by decide) ?_
    refine al_nil ?_
    refine hK6 _ ?_
    refine aw_block ?_
    refine aw_loop' (fun m s => ∃ (v10_1 : Int), loopN (fun (s : Int) => gleaningref15_Put_l1 a0 a1 a2 a3 s) m v10_1 = some q4 ∧ s = lit [(2, .int .i64 a2), (3, .bool a3), (5, .ptr 5 0 0), (9, .own 14 0), (10, .int .i64 v10_1)] [((5, 0), .box [.int .u64 a1.Trace.Hi, .int .u64 a1.Trace.Lo, .int .u64 a1.Id, .int .u64 a1.Parent, .str a1.Service, .str a1.Op, .int .i64 a1.Start, .int .i64 a1.Dur, .bool a1.Err, .sl 2 (List.map enc68 a1.Attrs)]), ((14, 0), .arr 28 6 false (List.map enc27 a0))] [(5, 1), (14, 1)] X) Fu
      ⟨_, reb_lit [(2, .int .i64 a2), (3, .bool a3), (5, .ptr 5 0 0), (9, .own 14 0), (10, .int .i64 (0))] [(5, 0), (14, 0)] [((5, 0), .box [.int .u64 a1.Trace.Hi, .int .u64 a1.Trace.Lo, .int .u64 a1.Id, .int .u64 a1.Parent, .str a1.Service, .str a1.Op, .int .i64 a1.Start, .int .i64 a1.Dur, .bool a1.Err, .sl 2 (List.map enc68 a1.Attrs)]), ((14, 0), .arr 28 6 false (List.map enc27 a0))] [(5, 1), (14, 1)] (envOk_cons (by conv => lhs; whnf) (by exact rfl) (envOk_cons (by conv => lhs; whnf) (by exact rfl) (envOk_cons (by conv => lhs; whnf) (by exact rfl) (envOk_cons (by conv => lhs; whnf) (by exact rfl) (envOk_cons (by conv => lhs; whnf) (by exact rfl) envOk_nil))))) (objOk_cons (by conv => lhs; whnf) (by conv => lhs; whnf) (by exact rfl) (by simp) (objOk_cons (by conv => lhs; whnf) (by conv => lhs; whnf) (by exact rfl) (by simp) objOk_nil)) (nodup_b rfl) (nodup_b rfl) rfl rfl, 0, h, rfl⟩ ?_
    rintro m s ⟨v10_1, h, rfl⟩
    obtain ⟨m1, q7, rfl, h, hq8⟩ := loop_some h
    replace h : gleaningref15_Put_l1 a0 a1 a2 a3 v10_1 = some q7 := h
    unfold gleaningref15_Put_l1 at h
    refine aw_seq_k (fun K9 hK9 => ?_)
    refine aw_seq_k (fun K10 hK10 => ?_)
    refine aw_regL ?_
    refine alP (some 15) rfl rfl (does_move (v := .int .i64 v10_1) (by exact rfl)) (by decide) ?_
    refine alP (some 16) rfl rfl (does_move (v := .own 14 0) (by exact rfl)) (by decide) ?_
    refine alR (some 17) rfl rfl ((does_len_own (by conv => lhs; whnf) (by conv => lhs; whnf) ty22).cast (v' := .int .i64 (List.length a0 : Int)) (by exact len_map _)) (by decide) ?_
    refine alP (some 18) rfl rfl (does_bin (v := .bool (decide (v10_1 < (List.length a0 : Int)))) (by conv => lhs; whnf) (by conv => lhs; whnf) rfl) (by decide) ?_
    refine al_nil ?_
    refine hK10 _ ?_
    refine aw_bool (b := (decide (v10_1 < (List.length a0 : Int)))) 18 rfl (fun c11 => ?_) (fun c11 => ?_)
    · have h := ifT c11 h
      refine aw_cond_t (by decide) rfl ?_
      refine aw_skip ?_
      refine hK9 _ ?_
      refine aw_seq_k (fun K12 hK12 => ?_)
      refine aw_block ?_
      refine aw_seq_k (fun K13 hK13 => ?_)
      refine aw_regd (by kernel_rfl) (by decide +kernel) ?_
      refine aoP (some 21) rfl rfl (does_move (v := .own 14 0) (by exact rfl)) (by decide) ?_
      refine aoP (some 22) rfl rfl (does_move (v := .int .i64 v10_1) (by exact rfl)) (by decide) ?_
      obtain ⟨g14, h⟩ := gd_some h
      obtain ⟨x15, hx15, h⟩ := bnd_some h
      refine aoR (some 23) rfl rfl (does_indexAddr_own (by conv => lhs; whnf) (by conv => lhs; whnf) (by conv => lhs; whnf) ty22 ty28 g14 (by exact own_lt hx15)) (by decide) ?_
      refine aoP (some 24) rfl rfl (does_fieldAddr (q := .eptr 14 0 6 (Int.toNat v10_1) 0) (by conv => lhs; whnf) ty28 rfl ty25 (by decide) (by exact rfl)) (by decide) ?_
      refine aoR (some 25) rfl rfl (does_load (v := .agg [.int .u64 x15.Trace.Hi, .int .u64 x15.Trace.Lo]) (by conv => lhs; whnf) (cellsAt_eptr (by conv => lhs; whnf) (by exact map_get hx15)) ty25 (by exact rfl)) (by decide) ?_
      refine aoP (some 26) rfl rfl (does_fieldAddr (q := .ptr 5 0 0) (by conv => lhs; whnf) ty31 rfl ty25 (by decide) (by exact rfl)) (by decide) ?_
      refine aoR (some 27) rfl rfl (does_load (v := .agg [.int .u64 a1.Trace.Hi, .int .u64 a1.Trace.Lo]) (by conv => lhs; whnf) (by conv => lhs; whnf) ty25 (by exact rfl)) (by decide) ?_
      refine aoP (some 28) rfl rfl (does_eq_struct (v := .bool ((x15.Trace.Hi == a1.Trace.Hi) && ((x15.Trace.Lo == a1.Trace.Lo) && true))) (by conv => lhs; whnf) (by conv => lhs; whnf) fk25 rfl ag25 eg25 (by conv => lhs; whnf) rfl) (by decide) ?_
      refine ao_nil_d (by kernel_rfl) ?_
      refine hK13 _ ?_
      refine aw_bool (b := ((x15.Trace.Hi == a1.Trace.Hi) && ((x15.Trace.Lo == a1.Trace.Lo) && true))) 28 rfl (fun c16 => ?_) (fun c16 => ?_)
      · have h := ifT c16 h
        refine aw_cond_t (by decide) rfl ?_
        refine aw_seq_k (fun K17 hK17 => ?_)
        refine aw_regd (by kernel_rfl) (by decide +kernel) ?_
        refine aoP (some 30) rfl rfl (does_move (v := .own 14 0) (by exact rfl)) (by decide) ?_
        refine aoP (some 31) rfl rfl (does_move (v := .int .i64 v10_1) (by exact rfl)) (by decide) ?_
        obtain ⟨g18, h⟩ := gd_some h
        obtain ⟨x19, hx19, h⟩ := bnd_some h
        refine aoR (some 32) rfl rfl (does_indexAddr_own (by conv => lhs; whnf) (by conv => lhs; whnf) (by conv => lhs; whnf) ty22 ty28 g18 (by exact own_lt hx19)) (by decide) ?_
        refine aoR (some 33) rfl rfl (does_load (v := .agg [.int .u64 x19.Trace.Hi, .int .u64 x19.Trace.Lo, .int .i64 x19.First, .int .i64 x19.Last, .bool x19.Sure, .sl 10 (List.map enc30 x19.Spans)]) (by conv => lhs; whnf) (cellsAt_eptr (by conv => lhs; whnf) (by exact map_get hx19)) ty28 (by exact rfl)) (by decide) ?_
        refine aoR (some 34) rfl rfl (does_load (v := .agg [.int .u64 a1.Trace.Hi, .int .u64 a1.Trace.Lo, .int .u64 a1.Id, .int .u64 a1.Parent, .str a1.Service, .str a1.Op, .int .i64 a1.Start, .int .i64 a1.Dur, .bool a1.Err, .sl 2 (List.map enc68 a1.Attrs)]) (by conv => lhs; whnf) (by conv => lhs; whnf) ty31 (by exact rfl)) (by decide) ?_
        refine aoP (some 35) rfl rfl (does_move (v := .int .i64 a2) (by exact rfl)) (by decide) ?_
        obtain ⟨x20, hx20, h⟩ := bnd_some h
        refine boolc (b := x20.2) (fun hv21 => ?_) (fun hv21 => ?_)
        · have h := ifT hv21 h
          refine aoD (some 36) rfl rfl (do_call0 36 false (gleaningref15_Add_t_ok x19 a1 a2 hx20 hv21) rfl ent19 rfl rfl) (by decide) ?_
          refine aoP (some 29) rfl rfl (does_move (v := .tup [.agg [.int .u64 x20.1.Trace.Hi, .int .u64 x20.1.Trace.Lo, .int .i64 x20.1.First, .int .i64 x20.1.Last, .bool x20.1.Sure, .own 36 0], .bool true]) (by exact rfl)) (by decide) ?_
          refine aoP (some 37) rfl rfl (does_extract (v := .agg [.int .u64 x20.1.Trace.Hi, .int .u64 x20.1.Trace.Lo, .int .i64 x20.1.First, .int .i64 x20.1.Last, .bool x20.1.Sure, .own 36 0]) (by conv => lhs; whnf) (by exact rfl)) (by decide) ?_
          refine aoP (some 38) rfl rfl (does_extract (v := .bool true) (by conv => lhs; whnf) (by exact rfl)) (by decide) ?_
          refine aoD (some 11) rfl rfl (do_new ty28 rfl rfl) (by decide) ?_
          refine aoD none rfl rfl (do_store (cs' := [.int .u64 x20.1.Trace.Hi, .int .u64 x20.1.Trace.Lo, .int .i64 x20.1.First, .int .i64 x20.1.Last, .bool x20.1.Sure, .own 36 0]) (by conv => lhs; whnf) (by conv => lhs; whnf) (by conv => lhs; whnf) ty28 rfl rfl rfl (by exact rfl)) (by decide) ?_
          refine aoP (some 12) rfl rfl (does_assign (v := .bool true) (by exact rfl)) (by decide) ?_
          refine ao_nil_d (by kernel_rfl) ?_
          refine hK17 _ ?_
          obtain ⟨q22, h, hk23⟩ := bnd_some h
          refine aw_cut (fun s => ∃ (v11_s_4_2 : Bool), gleaningref15_Put_k2 a0 v10_1 x20 v11_s_4_2 = some q7 ∧ s = lit [(9, .own 14 0), (10, .int .i64 v10_1), (11, .ptr 11 0 0)] [((14, 0), .arr 28 6 false (List.map enc27 a0)), ((11, 0), .box [.int .u64 x20.1.Trace.Hi, .int .u64 x20.1.Trace.Lo, .int .i64 x20.1.First, .int .i64 x20.1.Last, .bool v11_s_4_2, .own 36 0]), ((36, 0), .arr 31 10 false (List.map enc30 x20.1.Spans))] [(11, 1), (14, 1), (36, 1)] X) ?_ ?_
          · skip
            refine aw_regL ?_
            refine alP (some 39) rfl rfl (does_fieldAddr (q := .ptr 11 0 4) (by conv => lhs; whnf) ty28 rfl ty4 (by decide) (by exact rfl)) (by decide) ?_
            refine alR (some 40) rfl rfl (does_load (v := .bool x20.1.Sure) (by conv => lhs; whnf) (by conv => lhs; whnf) ty4 (by exact rfl)) (by decide) ?_
            refine alP (some 41) rfl rfl (does_move (v := .bool x20.1.Sure) (by exact rfl)) (by decide) ?_
            refine al_bool (c := x20.1.Sure) 41 rfl (fun c24 => ?_) (fun c24 => ?_)
            · have h := ifT c24 h
              refine alS (some 42) rfl rfl (by decide) ?_
              refine alP (some 43) rfl rfl (does_pick (v := .bool true) (by conv => lhs; whnf) (by exact rfl)) (by decide) ?_
              refine alP (some 44) rfl rfl (does_fieldAddr (q := .ptr 11 0 4) (by conv => lhs; whnf) ty28 rfl ty4 (by decide) (by exact rfl)) (by decide) ?_
              refine alD none rfl rfl (do_store (cs' := [.int .u64 x20.1.Trace.Hi, .int .u64 x20.1.Trace.Lo, .int .i64 x20.1.First, .int .i64 x20.1.Last, .bool true, .own 36 0]) (by conv => lhs; whnf) (by conv => lhs; whnf) (by conv => lhs; whnf) ty4 rfl rfl rfl (by exact rfl)) (by decide) ?_
              refine al_nil ?_
              obtain rfl := Option.some.inj h
              have h := hk23
              exact ⟨_, reb_lit [(9, .own 14 0), (10, .int .i64 v10_1), (11, .ptr 11 0 0)] [(14, 0), (11, 0), (36, 0)] [((14, 0), .arr 28 6 false (List.map enc27 a0)), ((11, 0), .box [.int .u64 x20.1.Trace.Hi, .int .u64 x20.1.Trace.Lo, .int .i64 x20.1.First, .int .i64 x20.1.Last, .bool true, .own 36 0]), ((36, 0), .arr 31 10 false (List.map enc30 x20.1.Spans))] [(11, 1), (14, 1), (36, 1)] (envOk_cons (by conv => lhs; whnf) (by exact rfl) (envOk_cons (by conv => lhs; whnf) (by exact rfl) (envOk_cons (by conv => lhs; whnf) (by exact rfl) envOk_nil))) (objOk_cons (by conv => lhs; whnf) (by conv => lhs; whnf) (by exact rfl) (by simp) (objOk_cons (by conv => lhs; whnf) (by conv => lhs; whnf) (by exact rfl) (by simp) (objOk_cons (by conv => lhs; whnf) (by conv => lhs; whnf) (by exact rfl) (by simp) objOk_nil))) (nodup_b rfl) (nodup_b rfl) rfl rfl, true, h, rfl⟩
            · have h := ifF c24 h
              refine alP (some 42) rfl rfl (does_move (v := .bool a3) (by exact rfl)) (by decide) ?_
              refine alP (some 43) rfl rfl (does_pick (v := .bool a3) (by conv => lhs; whnf) (by exact rfl)) (by decide) ?_
              refine alP (some 44) rfl rfl (does_fieldAddr (q := .ptr 11 0 4) (by conv => lhs; whnf) ty28 rfl ty4 (by decide) (by exact rfl)) (by decide) ?_
              refine alD none rfl rfl (do_store (cs' := [.int .u64 x20.1.Trace.Hi, .int .u64 x20.1.Trace.Lo, .int .i64 x20.1.First, .int .i64 x20.1.Last, .bool a3, .own 36 0]) (by conv => lhs; whnf) (by conv => lhs; whnf) (by conv => lhs; whnf) ty4 rfl rfl rfl (by exact rfl)) (by decide) ?_
              refine al_nil ?_
              obtain rfl := Option.some.inj h
              have h := hk23
              exact ⟨_, reb_lit [(9, .own 14 0), (10, .int .i64 v10_1), (11, .ptr 11 0 0)] [(14, 0), (11, 0), (36, 0)] [((14, 0), .arr 28 6 false (List.map enc27 a0)), ((11, 0), .box [.int .u64 x20.1.Trace.Hi, .int .u64 x20.1.Trace.Lo, .int .i64 x20.1.First, .int .i64 x20.1.Last, .bool a3, .own 36 0]), ((36, 0), .arr 31 10 false (List.map enc30 x20.1.Spans))] [(11, 1), (14, 1), (36, 1)] (envOk_cons (by conv => lhs; whnf) (by exact rfl) (envOk_cons (by conv => lhs; whnf) (by exact rfl) (envOk_cons (by conv => lhs; whnf) (by exact rfl) envOk_nil))) (objOk_cons (by conv => lhs; whnf) (by conv => lhs; whnf) (by exact rfl) (by simp) (objOk_cons (by conv => lhs; whnf) (by conv => lhs; whnf) (by exact rfl) (by simp) (objOk_cons (by conv => lhs; whnf) (by conv => lhs; whnf) (by exact rfl) (by simp) objOk_nil))) (nodup_b rfl) (nodup_b rfl) rfl rfl, a3, h, rfl⟩
          · rintro s ⟨v11_s_4_2, h, rfl⟩
            unfold gleaningref15_Put_k2 at h
            refine aw_seq_k (fun K25 hK25 => ?_)
            refine aw_regL ?_
            refine alP (some 45) rfl rfl (does_move (v := .own 14 0) (by exact rfl)) (by decide) ?_
            refine alP (some 46) rfl rfl (does_move (v := .int .i64 v10_1) (by exact rfl)) (by decide) ?_
            refine alR (some 47) rfl rfl (does_load (v := .agg [.int .u64 x20.1.Trace.Hi, .int .u64 x20.1.Trace.Lo, .int .i64 x20.1.First, .int .i64 x20.1.Last, .bool v11_s_4_2, .own 36 0]) (by conv => lhs; whnf) (by conv => lhs; whnf) ty28 (by exact rfl)) (by decide) ?_
            obtain ⟨g26, h⟩ := gd_some h
            obtain ⟨x27, hx27, h⟩ := bnd_some h
            refine alR (some 48) rfl rfl (does_indexAddr_own (by conv => lhs; whnf) (by conv => lhs; whnf) (by conv => lhs; whnf) ty22 ty28 g26 (by exact own_lt hx27)) (by decide) ?_
            refine alD none rfl rfl (does_frz (d := 36) (n := 0) (by conv => lhs; whnf) (does_storeZ (pv := .agg [.int .u64 x20.1.Trace.Hi, .int .u64 x20.1.Trace.Lo, .int .i64 x20.1.First, .int .i64 x20.1.Last, .bool v11_s_4_2, .sl 10 (List.map enc30 x20.1.Spans)]) (old := .agg [.int .u64 x27.Trace.Hi, .int .u64 x27.Trace.Lo, .int .i64 x27.First, .int .i64 x27.Last, .bool x27.Sure, .sl 10 (List.map enc30 x27.Spans)]) (el := .agg [.int .u64 x20.1.Trace.Hi, .int .u64 x20.1.Trace.Lo, .int .i64 x20.1.First, .int .i64 x20.1.Last, .bool v11_s_4_2, .sl 10 (List.map enc30 x20.1.Spans)]) (xs' := List.map enc27 (List.set a0 (Int.toNat v10_1) (Episode.mk x20.1.Trace x20.1.First x20.1.Last v11_s_4_2 x20.1.Spans))) (by conv => lhs; whnf) (by exact rfl) (by conv => lhs; whnf) ty28 (by rfl) (by rfl) (by exact map_get hx27) (by rfl) (by exact rfl) (by exact map_set' _ _ (Episode.mk x20.1.Trace x20.1.First x20.1.Last v11_s_4_2 x20.1.Spans)))) (by decide) ?_
            refine al_nil ?_
            refine hK25 _ ?_
            refine aw_seq_k (fun K28 hK28 => ?_)
            refine aw_regL ?_
            refine alP (some 49) rfl rfl (does_move (v := .own 14 0) (by exact rfl)) (by decide) ?_
            refine alP (some 8) rfl rfl (does_assign (v := .own 14 0) (by exact rfl)) (by decide) ?_
            refine al_nil ?_
            refine hK28 _ ?_
            refine aw_ret ?_
            have h := leafR h hq8
            have h := leafR h hk5
            obtain rfl := Option.some.inj h
            exact ret_okR [(14, 0)] (by conv => lhs; whnf) (by conv => lhs; whnf) (by exact rfl) (rowsOk_cons (by conv => lhs; whnf) (by exact rfl) trivial) (nodup_b rfl) (.inr rfl) rfl
        · have h := ifF hv21 h
          refine aoD (some 36) rfl rfl (do_call0 36 false (gleaningref15_Add_f_ok x19 a1 a2 hx20 hv21) rfl ent19 rfl rfl) (by decide) ?_
          refine aoP (some 29) rfl rfl (does_move (v := .tup [.agg [.int .u64 x20.1.Trace.Hi, .int .u64 x20.1.Trace.Lo, .int .i64 x20.1.First, .int .i64 x20.1.Last, .bool x20.1.Sure, .sl 10 (List.map enc30 x20.1.Spans)], .bool false]) (by exact rfl)) (by decide) ?_
          refine aoP (some 37) rfl rfl (does_extract (v := .agg [.int .u64 x20.1.Trace.Hi, .int .u64 x20.1.Trace.Lo, .int .i64 x20.1.First, .int .i64 x20.1.Last, .bool x20.1.Sure, .sl 10 (List.map enc30 x20.1.Spans)]) (by conv => lhs; whnf) (by exact rfl)) (by decide) ?_
          refine aoP (some 38) rfl rfl (does_extract (v := .bool false) (by conv => lhs; whnf) (by exact rfl)) (by decide) ?_
          refine aoD (some 11) rfl rfl (do_new ty28 rfl rfl) (by decide) ?_
          refine aoD none rfl rfl (do_store (cs' := [.int .u64 x20.1.Trace.Hi, .int .u64 x20.1.Trace.Lo, .int .i64 x20.1.First, .int .i64 x20.1.Last, .bool x20.1.Sure, .sl 10 (List.map enc30 x20.1.Spans)]) (by conv => lhs; whnf) (by conv => lhs; whnf) (by conv => lhs; whnf) ty28 rfl rfl rfl (by exact rfl)) (by decide) ?_
          refine aoP (some 12) rfl rfl (does_assign (v := .bool false) (by exact rfl)) (by decide) ?_
          refine ao_nil_d (by kernel_rfl) ?_
          refine hK17 _ ?_
          obtain ⟨q29, h, hk30⟩ := bnd_some h
          refine aw_cut (fun s => ∃ (v11_s_4_3 : Bool), gleaningref15_Put_k3 a0 v10_1 x20 v11_s_4_3 = some q7 ∧ s = lit [(9, .own 14 0), (10, .int .i64 v10_1), (11, .ptr 11 0 0)] [((14, 0), .arr 28 6 false (List.map enc27 a0)), ((11, 0), .box [.int .u64 x20.1.Trace.Hi, .int .u64 x20.1.Trace.Lo, .int .i64 x20.1.First, .int .i64 x20.1.Last, .bool v11_s_4_3, .sl 10 (List.map enc30 x20.1.Spans)])] [(11, 1), (14, 1)] X) ?_ ?_
          · skip
            refine aw_regL ?_
            refine alP (some 39) rfl rfl (does_fieldAddr (q := .ptr 11 0 4) (by conv => lhs; whnf) ty28 rfl ty4 (by decide) (by exact rfl)) (by decide) ?_
            refine alR (some 40) rfl rfl (does_load (v := .bool x20.1.Sure) (by conv => lhs; whnf) (by conv => lhs; whnf) ty4 (by exact rfl)) (by decide) ?_
            refine alP (some 41) rfl rfl (does_move (v := .bool x20.1.Sure) (by exact rfl)) (by decide) ?_
            refine al_bool (c := x20.1.Sure) 41 rfl (fun c31 => ?_) (fun c31 => ?_)
            · have h := ifT c31 h
              refine alS (some 42) rfl rfl (by decide) ?_
              refine alP (some 43) rfl rfl (does_pick (v := .bool true) (by conv => lhs; whnf) (by exact rfl)) (by decide) ?_
              refine alP (some 44) rfl rfl (does_fieldAddr (q := .ptr 11 0 4) (by conv => lhs; whnf) ty28 rfl ty4 (by decide) (by exact rfl)) (by decide) ?_
              refine alD none rfl rfl (do_store (cs' := [.int .u64 x20.1.Trace.Hi, .int .u64 x20.1.Trace.Lo, .int .i64 x20.1.First, .int .i64 x20.1.Last, .bool true, .sl 10 (List.map enc30 x20.1.Spans)]) (by conv => lhs; whnf) (by conv => lhs; whnf) (by conv => lhs; whnf) ty4 rfl rfl rfl (by exact rfl)) (by decide) ?_
              refine al_nil ?_
              obtain rfl := Option.some.inj h
              have h := hk30
              exact ⟨_, reb_lit [(9, .own 14 0), (10, .int .i64 v10_1), (11, .ptr 11 0 0)] [(14, 0), (11, 0)] [((14, 0), .arr 28 6 false (List.map enc27 a0)), ((11, 0), .box [.int .u64 x20.1.Trace.Hi, .int .u64 x20.1.Trace.Lo, .int .i64 x20.1.First, .int .i64 x20.1.Last, .bool true, .sl 10 (List.map enc30 x20.1.Spans)])] [(11, 1), (14, 1)] (envOk_cons (by conv => lhs; whnf) (by exact rfl) (envOk_cons (by conv => lhs; whnf) (by exact rfl) (envOk_cons (by conv => lhs; whnf) (by exact rfl) envOk_nil))) (objOk_cons (by conv => lhs; whnf) (by conv => lhs; whnf) (by exact rfl) (by simp) (objOk_cons (by conv => lhs; whnf) (by conv => lhs; whnf) (by exact rfl) (by simp) objOk_nil)) (nodup_b rfl) (nodup_b rfl) rfl rfl, true, h, rfl⟩
            · have h := ifF c31 h
              refine alP (some 42) rfl rfl (does_move (v := .bool a3) (by exact rfl)) (by decide) ?_
              refine alP (some 43) rfl rfl (does_pick (v := .bool a3) (by conv => lhs; whnf) (by exact rfl)) (by decide) ?_
              refine alP (some 44) rfl rfl (does_fieldAddr (q := .ptr 11 0 4) (by conv => lhs; whnf) ty28 rfl ty4 (by decide) (by exact rfl)) (by decide) ?_
              refine alD none rfl rfl (do_store (cs' := [.int .u64 x20.1.Trace.Hi, .int .u64 x20.1.Trace.Lo, .int .i64 x20.1.First, .int .i64 x20.1.Last, .bool a3, .sl 10 (List.map enc30 x20.1.Spans)]) (by conv => lhs; whnf) (by conv => lhs; whnf) (by conv => lhs; whnf) ty4 rfl rfl rfl (by exact rfl)) (by decide) ?_
              refine al_nil ?_
              obtain rfl := Option.some.inj h
              have h := hk30
              exact ⟨_, reb_lit [(9, .own 14 0), (10, .int .i64 v10_1), (11, .ptr 11 0 0)] [(14, 0), (11, 0)] [((14, 0), .arr 28 6 false (List.map enc27 a0)), ((11, 0), .box [.int .u64 x20.1.Trace.Hi, .int .u64 x20.1.Trace.Lo, .int .i64 x20.1.First, .int .i64 x20.1.Last, .bool a3, .sl 10 (List.map enc30 x20.1.Spans)])] [(11, 1), (14, 1)] (envOk_cons (by conv => lhs; whnf) (by exact rfl) (envOk_cons (by conv => lhs; whnf) (by exact rfl) (envOk_cons (by conv => lhs; whnf) (by exact rfl) envOk_nil))) (objOk_cons (by conv => lhs; whnf) (by conv => lhs; whnf) (by exact rfl) (by simp) (objOk_cons (by conv => lhs; whnf) (by conv => lhs; whnf) (by exact rfl) (by simp) objOk_nil)) (nodup_b rfl) (nodup_b rfl) rfl rfl, a3, h, rfl⟩
          · rintro s ⟨v11_s_4_3, h, rfl⟩
            unfold gleaningref15_Put_k3 at h
            refine aw_seq_k (fun K32 hK32 => ?_)
            refine aw_regL ?_
            refine alP (some 45) rfl rfl (does_move (v := .own 14 0) (by exact rfl)) (by decide) ?_
            refine alP (some 46) rfl rfl (does_move (v := .int .i64 v10_1) (by exact rfl)) (by decide) ?_
            refine alR (some 47) rfl rfl (does_load (v := .agg [.int .u64 x20.1.Trace.Hi, .int .u64 x20.1.Trace.Lo, .int .i64 x20.1.First, .int .i64 x20.1.Last, .bool v11_s_4_3, .sl 10 (List.map enc30 x20.1.Spans)]) (by conv => lhs; whnf) (by conv => lhs; whnf) ty28 (by exact rfl)) (by decide) ?_
            obtain ⟨g33, h⟩ := gd_some h
            obtain ⟨x34, hx34, h⟩ := bnd_some h
            refine alR (some 48) rfl rfl (does_indexAddr_own (by conv => lhs; whnf) (by conv => lhs; whnf) (by conv => lhs; whnf) ty22 ty28 g33 (by exact own_lt hx34)) (by decide) ?_
            refine alD none rfl rfl (does_storeE (old := .agg [.int .u64 x34.Trace.Hi, .int .u64 x34.Trace.Lo, .int .i64 x34.First, .int .i64 x34.Last, .bool x34.Sure, .sl 10 (List.map enc30 x34.Spans)]) (el := .agg [.int .u64 x20.1.Trace.Hi, .int .u64 x20.1.Trace.Lo, .int .i64 x20.1.First, .int .i64 x20.1.Last, .bool v11_s_4_3, .sl 10 (List.map enc30 x20.1.Spans)]) (xs' := List.map enc27 (List.set a0 (Int.toNat v10_1) (Episode.mk x20.1.Trace x20.1.First x20.1.Last v11_s_4_3 x20.1.Spans))) (by conv => lhs; whnf) (by conv => lhs; whnf) (by conv => lhs; whnf) ty28 (by rfl) (by rfl) (by exact map_get hx34) (by rfl) (by exact rfl) (by exact map_set' _ _ (Episode.mk x20.1.Trace x20.1.First x20.1.Last v11_s_4_3 x20.1.Spans)) (by rfl)) (by decide) ?_
            refine al_nil ?_
            refine hK32 _ ?_
            refine aw_seq_k (fun K35 hK35 => ?_)
            refine aw_regL ?_
            refine alP (some 49) rfl rfl (does_move (v := .own 14 0) (by exact rfl)) (by decide) ?_
            refine alP (some 8) rfl rfl (does_assign (v := .own 14 0) (by exact rfl)) (by decide) ?_
            refine al_nil ?_
            refine hK35 _ ?_
            refine aw_ret ?_
            have h := leafR h hq8
            have h := leafR h hk5
            obtain rfl := Option.some.inj h
            exact ret_okR [(14, 0)] (by conv => lhs; whnf) (by conv => lhs; whnf) (by exact rfl) (rowsOk_cons (by conv => lhs; whnf) (by exact rfl) trivial) (nodup_b rfl) (.inr rfl) rfl
      · have h := ifF c16 h
        refine aw_cond_f (by decide) rfl ?_
        refine aw_skip ?_
        refine hK12 _ ?_
        refine aw_regL ?_
        refine alP (some 19) rfl rfl (does_move (v := .int .i64 v10_1) (by exact rfl)) (by decide) ?_
        refine alP (some 20) rfl rfl (does_bin (v := .int .i64 (IntKind.i64.wrap (v10_1 + 1))) (by conv => lhs; whnf) (by conv => lhs; whnf) rfl) (by decide) ?_
        refine alP (some 10) rfl rfl (does_assign (v := .int .i64 (IntKind.i64.wrap (v10_1 + 1))) (by exact rfl)) (by decide) ?_
        refine al_nil ?_
        have h := leafL h hq8
        exact ⟨m1, Nat.lt_succ_self _, _, reb_lit [(2, .int .i64 a2), (3, .bool a3), (5, .ptr 5 0 0), (9, .own 14 0), (10, .int .i64 (IntKind.i64.wrap (v10_1 + 1)))] [(5, 0), (14, 0)] [((5, 0), .box [.int .u64 a1.Trace.Hi, .int .u64 a1.Trace.Lo, .int .u64 a1.Id, .int .u64 a1.Parent, .str a1.Service, .str a1.Op, .int .i64 a1.Start, .int .i64 a1.Dur, .bool a1.Err, .sl 2 (List.map enc68 a1.Attrs)]), ((14, 0), .arr 28 6 false (List.map enc27 a0))] [(5, 1), (14, 1)] (envOk_cons (by conv => lhs; whnf) (by exact rfl) (envOk_cons (by conv => lhs; whnf) (by exact rfl) (envOk_cons (by conv => lhs; whnf) (by exact rfl) (envOk_cons (by conv => lhs; whnf) (by exact rfl) (envOk_cons (by conv => lhs; whnf) (by exact rfl) envOk_nil))))) (objOk_cons (by conv => lhs; whnf) (by conv => lhs; whnf) (by exact rfl) (by simp) (objOk_cons (by conv => lhs; whnf) (by conv => lhs; whnf) (by exact rfl) (by simp) objOk_nil)) (nodup_b rfl) (nodup_b rfl) rfl rfl, (IntKind.i64.wrap (v10_1 + 1)), h, rfl⟩
    · have h := ifF c11 h
      refine aw_cond_f (by decide) rfl ?_
      refine aw_exit ?_
      have h := leafR h hq8
      have h := leafL h hk5
      exact ⟨_, reb_lit [(2, .int .i64 a2), (3, .bool a3), (5, .ptr 5 0 0), (9, .own 14 0)] [(5, 0), (14, 0)] [((5, 0), .box [.int .u64 a1.Trace.Hi, .int .u64 a1.Trace.Lo, .int .u64 a1.Id, .int .u64 a1.Parent, .str a1.Service, .str a1.Op, .int .i64 a1.Start, .int .i64 a1.Dur, .bool a1.Err, .sl 2 (List.map enc68 a1.Attrs)]), ((14, 0), .arr 28 6 false (List.map enc27 a0))] [(5, 1), (14, 1)] (envOk_cons (by conv => lhs; whnf) (by exact rfl) (envOk_cons (by conv => lhs; whnf) (by exact rfl) (envOk_cons (by conv => lhs; whnf) (by exact rfl) (envOk_cons (by conv => lhs; whnf) (by exact rfl) envOk_nil)))) (objOk_cons (by conv => lhs; whnf) (by conv => lhs; whnf) (by exact rfl) (by simp) (objOk_cons (by conv => lhs; whnf) (by conv => lhs; whnf) (by exact rfl) (by simp) objOk_nil)) (nodup_b rfl) (nodup_b rfl) rfl rfl, h, rfl⟩
  · rintro s ⟨h, rfl⟩
    unfold gleaningref15_Put_k0 at h
    refine aw_seq_k (fun K36 hK36 => ?_)
    refine aw_regL ?_
    refine alP (some 50) rfl rfl (does_move (v := .own 14 0) (by exact rfl)) (by decide) ?_
    refine alP (some 51) rfl rfl (does_fieldAddr (q := .ptr 5 0 0) (by conv => lhs; whnf) ty31 rfl ty25 (by decide) (by exact rfl)) (by decide) ?_
    refine alR (some 52) rfl rfl (does_load (v := .agg [.int .u64 a1.Trace.Hi, .int .u64 a1.Trace.Lo]) (by conv => lhs; whnf) (by conv => lhs; whnf) ty25 (by exact rfl)) (by decide) ?_
    refine alP (some 53) rfl rfl (does_move (v := .int .i64 a2) (by exact rfl)) (by decide) ?_
    refine alP (some 54) rfl rfl (does_move (v := .int .i64 a2) (by exact rfl)) (by decide) ?_
    refine alP (some 55) rfl rfl (does_move (v := .bool a3) (by exact rfl)) (by decide) ?_
    refine alR (some 56) rfl rfl (does_load (v := .agg [.int .u64 a1.Trace.Hi, .int .u64 a1.Trace.Lo, .int .u64 a1.Id, .int .u64 a1.Parent, .str a1.Service, .str a1.Op, .int .i64 a1.Start, .int .i64 a1.Dur, .bool a1.Err, .sl 2 (List.map enc68 a1.Attrs)]) (by conv => lhs; whnf) (by conv => lhs; whnf) ty31 (by exact rfl)) (by decide) ?_
    refine alD (some 57) rfl rfl (do_buildSlice (xs := List.map enc30 [a1]) ty26 ty31 rfl rfl rfl rfl rfl rfl rfl rfl) (by decide) ?_
    refine alP (some 58) rfl rfl (do_build_struct (cs := [.int .u64 a1.Trace.Hi, .int .u64 a1.Trace.Lo, .int .i64 a2, .int .i64 a2, .bool a3, .own 57 0]) ty28 rfl [⟨.struct [(0, 23), (1, 23)], 2, 16, [.int .u64 0, .int .u64 0]⟩, ⟨.int .i64, 1, 8, [.int .i64 0]⟩, ⟨.int .i64, 1, 8, [.int .i64 0]⟩, ⟨.bool, 1, 1, [.bool false]⟩, ⟨.slice 31, 1, 24, [.nil]⟩] (by simp only [List.map, ty25, ty26, ty3, ty4]) (by rfl) (by exact rfl)) (by decide) ?_
    refine alD (some 59) rfl rfl (does_frz (d := 57) (n := 0) (by conv => lhs; whnf) (do_buildSlice (xs := List.map enc27 [(Episode.mk a1.Trace a2 a2 a3 [a1])]) ty22 ty28 rfl rfl rfl rfl rfl rfl rfl rfl)) (by decide) ?_
    obtain ⟨g37, h⟩ := gd_some h
    refine alD (some 60) rfl rfl (do_append (v := List.map enc27 (a0 ++ [(Episode.mk a1.Trace a2 a2 a3 [a1])])) (by conv => lhs; whnf) (by conv => lhs; whnf) ty22 ty28 rfl rfl (by conv => lhs; whnf) (by first | exact .inl rfl | exact .inr ⟨rfl, rfl⟩) (by conv => lhs; whnf) (by first | exact .inr rfl | exact .inl rfl) (map_app _ _) (fit_map g37)) (by decide) ?_
    refine alP (some 8) rfl rfl (does_assign (v := .own 60 0) (by exact rfl)) (by decide) ?_
    refine al_nil ?_
    refine hK36 _ ?_
    refine aw_ret ?_
    obtain rfl := Option.some.inj h
    exact ret_okR [(60, 0)] (by conv => lhs; whnf) (by conv => lhs; whnf) (by exact rfl) (rowsOk_cons (by conv => lhs; whnf) (by exact rfl) trivial) (nodup_b rfl) (.inr rfl) rfl
def gleaninglaw16_BufferTells_k0 (a0 : List Episode) (a1 : Span) (a2 : Int) (a3 : Bool) (a4 : Int) (a5 : Int) : Option Bool :=
  Option.bind (buffer_Oldest a0) (fun (x16 : List Episode × Episode × Bool) => Option.bind (gleaningref15_Oldest a0) (fun (x18 : List Episode × Episode × Bool) => Option.bind (buffer_Close a0 a2 a4 a5) (fun (x20 : List Episode × List Episode) => Option.bind (gleaningref15_Close a0 a2 a4 a5) (fun (x22 : List Episode × List Episode) => Option.bind (buffer_Count a0) (fun (x24 : Int) => Option.bind (gleaningref15_Count a0) (fun (x25 : Int) => if (x24 == x25) = true then (gd ((List.length a0) * 64 ≤ 140737488355328 ∧ (List.length a0) ≤ 140737488355328) (Option.bind (buffer_Put a0 a1 a2 a3) (fun (x28 : List Episode) => Option.bind (gleaningref15_Put a0 a1 a2 a3) (fun (x29 : List Episode) => Option.bind (gleaningref15_SameEpisodes x28 x29) (fun (x30 : Bool) => if x30 = true then (if (x16.2.2 == x18.2.2) = true then (Option.bind (gleaningref15_SameEpisodes x16.1 x18.1) (fun (x33 : Bool) => if x33 = true then (Option.bind (gleaningref15_SameEpisodes [x16.2.1] [x18.2.1]) (fun (x35 : Bool) => if x35 = true then (Option.bind (gleaningref15_SameEpisodes x20.1 x22.1) (fun (x37 : Bool) => if x37 = true then (Option.bind (gleaningref15_SameEpisodes x20.2 x22.2) (fun (x39 : Bool) => some x39)) else (some false))) else (some false))) else (some false))) else (some false)) else (some false)))))) else (some false)))))))
def gleaninglaw16_BufferTells (a0 : List Episode) (a1 : Span) (a2 : Int) (a3 : Bool) (a4 : Int) (a5 : Int) : Option Bool :=
  Option.bind (gleaninglaw16_alive) (fun (x3 : Bool) => Option.bind (if (!x3) = true then (some (Sum.inr x3)) else (Option.bind (gleaninglaw15_Few a0) (fun (x9 : Bool) => if (!x9) = true then (some (Sum.inr x3)) else (Option.bind (gleaninglaw3_Few a1) (fun (x12 : Bool) => if (!x12) = true then (some (Sum.inr x3)) else (some (Sum.inl ()))))))) (Sum.elim (fun (s : Unit) => gleaninglaw16_BufferTells_k0 a0 a1 a2 a3 a4 a5) some))
set_option maxRecDepth 100000 in
set_option maxHeartbeats 8000000 in
/-- gleaning/gleaninglaw16.BufferTells -/
theorem gleaninglaw16_BufferTells_ok (a0 : List Episode) (a1 : Span) (a2 : Int) (a3 : Bool) (a4 : Int) (a5 : Int) {r : Bool} (h : gleaninglaw16_BufferTells a0 a1 a2 a3 a4 a5 = some r) : Ok Try.prog 14 [.sl 6 (List.map enc27 a0), .agg [.int .u64 a1.Trace.Hi, .int .u64 a1.Trace.Lo, .int .u64 a1.Id, .int .u64 a1.Parent, .str a1.Service, .str a1.Op, .int .i64 a1.Start, .int .i64 a1.Dur, .bool a1.Err, .sl 2 (List.map enc68 a1.Attrs)], .int .i64 a2, .bool a3, .int .i64 a4, .int .i64 a5] [] [] (.bool r) [] [] := by
  unfold gleaninglaw16_BufferTells at h
  refine ok_of_code Try.func14 rfl (by show (6 : Nat) ≤ _; decide) (Nat.le_refl _) fun X => ?_
  refine aw_seq_k (fun K1 hK1 => ?_)
  refine aw_regL ?_
  refine alD (some 7) rfl rfl (do_box (by conv => lhs; whnf) rfl rfl) (by decide) ?_
  refine alP (some 12) rfl rfl (does_assign (v := .bool false) (by exact rfl)) (by decide) ?_
  refine al_nil ?_
  refine hK1 _ ?_
  refine aw_seq_k (fun K2 hK2 => ?_)
  refine aw_regL ?_
  obtain ⟨x3, hx3, h⟩ := bnd_some h
  refine alD (some 24) rfl rfl (do_call0 24 false (gleaninglaw16_alive_ok hx3) rfl ent24 rfl rfl) (by decide) ?_
  refine alP (some 13) rfl rfl (does_assign (v := .bool x3) (by exact rfl)) (by decide) ?_
  refine al_nil ?_
  refine hK2 _ ?_
  obtain ⟨q4, h, hk5⟩ := bnd_some h
  refine aw_cut (fun s => gleaninglaw16_BufferTells_k0 a0 a1 a2 a3 a4 a5 = some r ∧ s = lit [(0, .sl 6 (List.map enc27 a0)), (2, .int .i64 a2), (3, .bool a3), (4, .int .i64 a4), (5, .int .i64 a5), (7, .ptr 7 0 0)] [((7, 0), .box [.int .u64 a1.Trace.Hi, .int .u64 a1.Trace.Lo, .int .u64 a1.Id, .int .u64 a1.Parent, .str a1.Service, .str a1.Op, .int .i64 a1.Start, .int .i64 a1.Dur, .bool a1.Err, .sl 2 (List.map enc68 a1.Attrs)])] [(7, 1)] X) ?_ ?_
  · skip
    refine aw_seq_k (fun K6 hK6 => ?_)
    refine aw_regL ?_
    refine alP (some 25) rfl rfl (does_move (v := .bool x3) (by exact rfl)) (by decide) ?_
    refine alP (some 26) rfl rfl (does_un (v := .bool (!x3)) (by conv => lhs; whnf) rfl) (by decide) ?_
    refine alP (some 27) rfl rfl (does_move (v := .bool (!x3)) (by exact rfl)) (by decide) ?_
    refine al_bool (c := (!x3)) 27 rfl (fun c7 => ?_) (fun c7 => ?_)
    · have h := ifT c7 h
      refine alS (some 28) rfl rfl (by decide) ?_
      refine alS (some 29) rfl rfl (by decide) ?_
      refine alS (some 30) rfl rfl (by decide) ?_
      refine alP (some 31) rfl rfl (does_pick (v := .bool true) (by conv => lhs; whnf) (by exact rfl)) (by decide) ?_
      refine alP (some 32) rfl rfl (does_move (v := .bool true) (by exact rfl)) (by decide) ?_
      refine alS (some 33) rfl rfl (by decide) ?_
      refine alS (some 34) rfl rfl (by decide) ?_
      refine alS (some 35) rfl rfl (by decide) ?_
      refine alP (some 36) rfl rfl (does_pick (v := .bool true) (by conv => lhs; whnf) (by exact rfl)) (by decide) ?_
      refine al_nil ?_
      refine hK6 _ ?_
      refine aw_cond_t (by decide) rfl ?_
      refine aw_seq_k (fun K8 hK8 => ?_)
      refine aw_regL ?_
      refine alP (some 37) rfl rfl (does_move (v := .bool x3) (by exact rfl)) (by decide) ?_
      refine alP (some 12) rfl rfl (does_assign (v := .bool x3) (by exact rfl)) (by decide) ?_
      refine al_nil ?_
      refine hK8 _ ?_
      refine aw_ret ?_
      have h := leafR h hk5
      obtain rfl := Option.some.inj h
      exact ret_ok1 (by conv => lhs; whnf) (by conv => lhs; whnf) (by exact rfl) (.inr rfl) rfl
    · have h := ifF c7 h
      refine alP (some 28) rfl rfl (does_move (v := .sl 6 (List.map enc27 a0)) (by exact rfl)) (by decide) ?_
      obtain ⟨x9, hx9, h⟩ := bnd_some h
      refine alD (some 29) rfl rfl (do_call0 29 false (gleaninglaw15_Few_ok a0 hx9) rfl ent16 rfl rfl) (by decide) ?_
      refine alP (some 30) rfl rfl (does_un (v := .bool (!x9)) (by conv => lhs; whnf) rfl) (by decide) ?_
      refine alP (some 31) rfl rfl (does_pick (v := .bool (!x9)) (by conv => lhs; whnf) (by exact rfl)) (by decide) ?_
      refine alP (some 32) rfl rfl (does_move (v := .bool (!x9)) (by exact rfl)) (by decide) ?_
      refine al_bool (c := (!x9)) 32 rfl (fun c10 => ?_) (fun c10 => ?_)
      · have h := ifT c10 h
        refine alS (some 33) rfl rfl (by decide) ?_
        refine alS (some 34) rfl rfl (by decide) ?_
        refine alS (some 35) rfl rfl (by decide) ?_
        refine alP (some 36) rfl rfl (does_pick (v := .bool true) (by conv => lhs; whnf) (by exact rfl)) (by decide) ?_
        refine al_nil ?_
        refine hK6 _ ?_
        refine aw_cond_t (by decide) rfl ?_
        refine aw_seq_k (fun K11 hK11 => ?_)
        refine aw_regL ?_
        refine alP (some 37) rfl rfl (does_move (v := .bool x3) (by exact rfl)) (by decide) ?_
        refine alP (some 12) rfl rfl (does_assign (v := .bool x3) (by exact rfl)) (by decide) ?_
        refine al_nil ?_
        refine hK11 _ ?_
        refine aw_ret ?_
        have h := leafR h hk5
        obtain rfl := Option.some.inj h
        exact ret_ok1 (by conv => lhs; whnf) (by conv => lhs; whnf) (by exact rfl) (.inr rfl) rfl
      · have h := ifF c10 h
        refine alR (some 33) rfl rfl (does_load (v := .agg [.int .u64 a1.Trace.Hi, .int .u64 a1.Trace.Lo, .int .u64 a1.Id, .int .u64 a1.Parent, .str a1.Service, .str a1.Op, .int .i64 a1.Start, .int .i64 a1.Dur, .bool a1.Err, .sl 2 (List.map enc68 a1.Attrs)]) (by conv => lhs; whnf) (by conv => lhs; whnf) ty31 (by exact rfl)) (by decide) ?_
        obtain ⟨x12, hx12, h⟩ := bnd_some h
        refine alD (some 34) rfl rfl (do_call0 34 false (gleaninglaw3_Few_ok a1 hx12) rfl ent17 rfl rfl) (by decide) ?_
        refine alP (some 35) rfl rfl (does_un (v := .bool (!x12)) (by conv => lhs; whnf) rfl) (by decide) ?_
        refine alP (some 36) rfl rfl (does_pick (v := .bool (!x12)) (by conv => lhs; whnf) (by exact rfl)) (by decide) ?_
        refine al_nil ?_
        refine hK6 _ ?_
        refine aw_bool (b := (!x12)) 36 rfl (fun c13 => ?_) (fun c13 => ?_)
        · have h := ifT c13 h
          refine aw_cond_t (by decide) rfl ?_
          refine aw_seq_k (fun K14 hK14 => ?_)
          refine aw_regL ?_
          refine alP (some 37) rfl rfl (does_move (v := .bool x3) (by exact rfl)) (by decide) ?_
          refine alP (some 12) rfl rfl (does_assign (v := .bool x3) (by exact rfl)) (by decide) ?_
          refine al_nil ?_
          refine hK14 _ ?_
          refine aw_ret ?_
          have h := leafR h hk5
          obtain rfl := Option.some.inj h
          exact ret_ok1 (by conv => lhs; whnf) (by conv => lhs; whnf) (by exact rfl) (.inr rfl) rfl
        · have h := ifF c13 h
          refine aw_cond_f (by decide) rfl ?_
          refine aw_skip ?_
          have h := leafL h hk5
          exact ⟨_, reb_lit [(0, .sl 6 (List.map enc27 a0)), (2, .int .i64 a2), (3, .bool a3), (4, .int .i64 a4), (5, .int .i64 a5), (7, .ptr 7 0 0)] [(7, 0)] [((7, 0), .box [.int .u64 a1.Trace.Hi, .int .u64 a1.Trace.Lo, .int .u64 a1.Id, .int .u64 a1.Parent, .str a1.Service, .str a1.Op, .int .i64 a1.Start, .int .i64 a1.Dur, .bool a1.Err, .sl 2 (List.map enc68 a1.Attrs)])] [(7, 1)] (envOk_cons (by conv => lhs; whnf) (by exact rfl) (envOk_cons (by conv => lhs; whnf) (by exact rfl) (envOk_cons (by conv => lhs; whnf) (by exact rfl) (envOk_cons (by conv => lhs; whnf) (by exact rfl) (envOk_cons (by conv => lhs; whnf) (by exact rfl) (envOk_cons (by conv => lhs; whnf) (by exact rfl) envOk_nil)))))) (objOk_cons (by conv => lhs; whnf) (by conv => lhs; whnf) (by exact rfl) (by simp) objOk_nil) (nodup_b rfl) (nodup_b rfl) rfl rfl, h, rfl⟩
  · rintro s ⟨h, rfl⟩
    unfold gleaninglaw16_BufferTells_k0 at h
    refine aw_seq_k (fun K15 hK15 => ?_)
    refine aw_regL ?_
    refine alP (some 39) rfl rfl (does_move (v := .sl 6 (List.map enc27 a0)) (by exact rfl)) (by decide) ?_
    obtain ⟨x16, hx16, h⟩ := bnd_some h
    refine alD (some 40) rfl rfl (do_call0 40 false (buffer_Oldest_ok a0 hx16) rfl ent38 rfl rfl) (by decide) ?_
    refine alP (some 38) rfl rfl (does_move (v := .tup [.own 40 0, .agg [.int .u64 x16.2.1.Trace.Hi, .int .u64 x16.2.1.Trace.Lo, .int .i64 x16.2.1.First, .int .i64 x16.2.1.Last, .bool x16.2.1.Sure, .sl 10 (List.map enc30 x16.2.1.Spans)], .bool x16.2.2]) (by exact rfl)) (by decide) ?_
    refine alP (some 41) rfl rfl (does_extract (v := .own 40 0) (by conv => lhs; whnf) (by exact rfl)) (by decide) ?_
    refine alP (some 42) rfl rfl (does_extract (v := .agg [.int .u64 x16.2.1.Trace.Hi, .int .u64 x16.2.1.Trace.Lo, .int .i64 x16.2.1.First, .int .i64 x16.2.1.Last, .bool x16.2.1.Sure, .sl 10 (List.map enc30 x16.2.1.Spans)]) (by conv => lhs; whnf) (by exact rfl)) (by decide) ?_
    refine alP (some 43) rfl rfl (does_extract (v := .bool x16.2.2) (by conv => lhs; whnf) (by exact rfl)) (by decide) ?_
    refine alD (some 15) rfl rfl (do_new ty28 rfl rfl) (by decide) ?_
    refine alP (some 14) rfl rfl (does_assign (v := .own 40 0) (by exact rfl)) (by decide) ?_
    refine alD none rfl rfl (do_store (cs' := [.int .u64 x16.2.1.Trace.Hi, .int .u64 x16.2.1.Trace.Lo, .int .i64 x16.2.1.First, .int .i64 x16.2.1.Last, .bool x16.2.1.Sure, .sl 10 (List.map enc30 x16.2.1.Spans)]) (by conv => lhs; whnf) (by conv => lhs; whnf) (by conv => lhs; whnf) ty28 rfl rfl rfl (by exact rfl)) (by decide) ?_
    refine alP (some 16) rfl rfl (does_assign (v := .bool x16.2.2) (by exact rfl)) (by decide) ?_
    refine al_nil ?_
    refine hK15 _ ?_
    refine aw_seq_k (fun K17 hK17 => ?_)
    refine aw_regL ?_
    refine alP (some 45) rfl rfl (does_move (v := .sl 6 (List.map enc27 a0)) (by exact rfl)) (by decide) ?_
    obtain ⟨x18, hx18, h⟩ := bnd_some h
    refine alD (some 46) rfl rfl (do_call0 46 false (gleaningref15_Oldest_ok a0 hx18) rfl ent39 rfl rfl) (by decide) ?_
    refine alP (some 44) rfl rfl (does_move (v := .tup [.own 46 0, .agg [.int .u64 x18.2.1.Trace.Hi, .int .u64 x18.2.1.Trace.Lo, .int .i64 x18.2.1.First, .int .i64 x18.2.1.Last, .bool x18.2.1.Sure, .sl 10 (List.map enc30 x18.2.1.Spans)], .bool x18.2.2]) (by exact rfl)) (by decide) ?_
    refine alP (some 47) rfl rfl (does_extract (v := .own 46 0) (by conv => lhs; whnf) (by exact rfl)) (by decide) ?_
    refine alP (some 48) rfl rfl (does_extract (v := .agg [.int .u64 x18.2.1.Trace.Hi, .int .u64 x18.2.1.Trace.Lo, .int .i64 x18.2.1.First, .int .i64 x18.2.1.Last, .bool x18.2.1.Sure, .sl 10 (List.map enc30 x18.2.1.Spans)]) (by conv => lhs; whnf) (by exact rfl)) (by decide) ?_
    refine alP (some 49) rfl rfl (does_extract (v := .bool x18.2.2) (by conv => lhs; whnf) (by exact rfl)) (by decide) ?_
    refine alD (some 18) rfl rfl (do_new ty28 rfl rfl) (by decide) ?_
    refine alP (some 17) rfl rfl (does_assign (v := .own 46 0) (by exact rfl)) (by decide) ?_
    refine alD none rfl rfl (do_store (cs' := [.int .u64 x18.2.1.Trace.Hi, .int .u64 x18.2.1.Trace.Lo, .int .i64 x18.2.1.First, .int .i64 x18.2.1.Last, .bool x18.2.1.Sure, .sl 10 (List.map enc30 x18.2.1.Spans)]) (by conv => lhs; whnf) (by conv => lhs; whnf) (by conv => lhs; whnf) ty28 rfl rfl rfl (by exact rfl)) (by decide) ?_
    refine alP (some 19) rfl rfl (does_assign (v := .bool x18.2.2) (by exact rfl)) (by decide) ?_
    refine al_nil ?_
    refine hK17 _ ?_
    refine aw_seq_k (fun K19 hK19 => ?_)
    refine aw_regL ?_
    refine alP (some 51) rfl rfl (does_move (v := .sl 6 (List.map enc27 a0)) (by exact rfl)) (by decide) ?_
    refine alP (some 52) rfl rfl (does_move (v := .int .i64 a2) (by exact rfl)) (by decide) ?_
    refine alP (some 53) rfl rfl (does_move (v := .int .i64 a4) (by exact rfl)) (by decide) ?_
    refine alP (some 54) rfl rfl (does_move (v := .int .i64 a5) (by exact rfl)) (by decide) ?_
    obtain ⟨x20, hx20, h⟩ := bnd_some h
    refine alD (some 55) rfl rfl (do_call0 55 false (buffer_Close_ok a0 a2 a4 a5 hx20) rfl ent37 rfl rfl) (by decide) ?_
    refine alP (some 50) rfl rfl (does_move (v := .tup [.own 55 0, .own 55 1]) (by exact rfl)) (by decide) ?_
    refine alP (some 56) rfl rfl (does_extract (v := .own 55 0) (by conv => lhs; whnf) (by exact rfl)) (by decide) ?_
    refine alP (some 57) rfl rfl (does_extract (v := .own 55 1) (by conv => lhs; whnf) (by exact rfl)) (by decide) ?_
    refine alP (some 20) rfl rfl (does_assign (v := .own 55 0) (by exact rfl)) (by decide) ?_
    refine alP (some 21) rfl rfl (does_assign (v := .own 55 1) (by exact rfl)) (by decide) ?_
    refine al_nil ?_
    refine hK19 _ ?_
    refine aw_seq_k (fun K21 hK21 => ?_)
    refine aw_regL ?_
    refine alP (some 59) rfl rfl (does_move (v := .sl 6 (List.map enc27 a0)) (by exact rfl)) (by decide) ?_
    refine alP (some 60) rfl rfl (does_move (v := .int .i64 a2) (by exact rfl)) (by decide) ?_
    refine alP (some 61) rfl rfl (does_move (v := .int .i64 a4) (by exact rfl)) (by decide) ?_
    refine alP (some 62) rfl rfl (does_move (v := .int .i64 a5) (by exact rfl)) (by decide) ?_
    obtain ⟨x22, hx22, h⟩ := bnd_some h
    refine alD (some 63) rfl rfl (do_call0 63 false (gleaningref15_Close_ok a0 a2 a4 a5 hx22) rfl ent40 rfl rfl) (by decide) ?_
    refine alP (some 58) rfl rfl (does_move (v := .tup [.own 63 0, .own 63 1]) (by exact rfl)) (by decide) ?_
    refine alP (some 64) rfl rfl (does_extract (v := .own 63 0) (by conv => lhs; whnf) (by exact rfl)) (by decide) ?_
    refine alP (some 65) rfl rfl (does_extract (v := .own 63 1) (by conv => lhs; whnf) (by exact rfl)) (by decide) ?_
    refine alP (some 22) rfl rfl (does_assign (v := .own 63 0) (by exact rfl)) (by decide) ?_
    refine alP (some 23) rfl rfl (does_assign (v := .own 63 1) (by exact rfl)) (by decide) ?_
    refine al_nil ?_
    refine hK21 _ ?_
    refine aw_seq_k (fun K23 hK23 => ?_)
    refine aw_regd (by kernel_rfl) (by decide +kernel) ?_
    refine aoP (some 66) rfl rfl (does_move (v := .sl 6 (List.map enc27 a0)) (by exact rfl)) (by decide) ?_
    obtain ⟨x24, hx24, h⟩ := bnd_some h
    refine aoD (some 67) rfl rfl ((do_call0 67 false (buffer_Count_ok a0 hx24) rfl ent27 rfl rfl).fx (y := ⟨[], .int .i64 x24, [], [67]⟩) rfl) (by decide) ?_
    refine aoP (some 68) rfl rfl (does_move (v := .sl 6 (List.map enc27 a0)) (by exact rfl)) (by decide) ?_
    obtain ⟨x25, hx25, h⟩ := bnd_some h
    refine aoD (some 69) rfl rfl ((do_call0 69 false (gleaningref15_Count_ok a0 hx25) rfl ent41 rfl rfl).fx (y := ⟨[], .int .i64 x25, [], [69]⟩) rfl) (by decide) ?_
    refine aoP (some 70) rfl rfl (does_bin (v := .bool (x24 == x25)) (by conv => lhs; whnf) (by conv => lhs; whnf) rfl) (by decide) ?_
    refine aoP (some 71) rfl rfl (does_move (v := .bool (x24 == x25)) (by exact rfl)) (by decide) ?_
    refine ao_bool (c := (x24 == x25)) 71 rfl (fun c26 => ?_) (fun c26 => ?_)
    · have h := ifT c26 h
      refine aoP (some 72) rfl rfl (does_move (v := .sl 6 (List.map enc27 a0)) (by exact rfl)) (by decide) ?_
      obtain ⟨g27, h⟩ := gd_some h
      refine aoD (some 73) rfl rfl ((do_append (v := List.map enc27 a0) (by conv => lhs; whnf) (by conv => lhs; whnf) ty22 ty28 rfl rfl (by conv => lhs; whnf) (by first | exact .inl rfl | exact .inr ⟨rfl, rfl⟩) (by conv => lhs; whnf) (by first | exact .inr rfl | exact .inl rfl) (List.nil_append _) (fit_map g27)).fx (y := ⟨_, .own 73 0, [((73, 0), some (.arr 28 6 false (List.map enc27 a0)))], [73]⟩) rfl) (by decide) ?_
      refine aoR (some 74) rfl rfl (does_load (v := .agg [.int .u64 a1.Trace.Hi, .int .u64 a1.Trace.Lo, .int .u64 a1.Id, .int .u64 a1.Parent, .str a1.Service, .str a1.Op, .int .i64 a1.Start, .int .i64 a1.Dur, .bool a1.Err, .sl 2 (List.map enc68 a1.Attrs)]) (by conv => lhs; whnf) (by conv => lhs; whnf) ty31 (by exact rfl)) (by decide) ?_
      refine aoP (some 75) rfl rfl (does_move (v := .int .i64 a2) (by exact rfl)) (by decide) ?_
      refine aoP (some 76) rfl rfl (does_move (v := .bool a3) (by exact rfl)) (by decide) ?_
      obtain ⟨x28, hx28, h⟩ := bnd_some h
      refine aoD (some 77) rfl rfl (does_frz (d := 73) (n := 0) (by conv => lhs; whnf) (do_callG (bcs := []) [] [] [(73, 0)] 77 false (buffer_Put_ok a0 a1 a2 a3 hx28) rfl ent26 trivial trivial rfl rfl rfl rfl rfl rfl rfl rfl (.inl ⟨⟨_, _, _, rfl⟩, trivial⟩))) (by decide) ?_
      refine aoP (some 78) rfl rfl (does_move (v := .sl 6 (List.map enc27 a0)) (by exact rfl)) (by decide) ?_
      refine aoR (some 79) rfl rfl (does_load (v := .agg [.int .u64 a1.Trace.Hi, .int .u64 a1.Trace.Lo, .int .u64 a1.Id, .int .u64 a1.Parent, .str a1.Service, .str a1.Op, .int .i64 a1.Start, .int .i64 a1.Dur, .bool a1.Err, .sl 2 (List.map enc68 a1.Attrs)]) (by conv => lhs; whnf) (by conv => lhs; whnf) ty31 (by exact rfl)) (by decide) ?_
      refine aoP (some 80) rfl rfl (does_move (v := .int .i64 a2) (by exact rfl)) (by decide) ?_
      refine aoP (some 81) rfl rfl (does_move (v := .bool a3) (by exact rfl)) (by decide) ?_
      obtain ⟨x29, hx29, h⟩ := bnd_some h
      refine aoD (some 82) rfl rfl ((do_call0 82 false (gleaningref15_Put_ok a0 a1 a2 a3 hx29) rfl ent42 rfl rfl).fx (y := ⟨[], .own 82 0, [((82, 0), some (.arr 28 6 false (List.map enc27 x29)))], [82, 82]⟩) rfl) (by decide) ?_
      obtain ⟨x30, hx30, h⟩ := bnd_some h
      refine aoD (some 83) rfl rfl ((do_callG (bcs := []) [] [] [(77, 0), (82, 0)] 83 false (gleaningref15_SameEpisodes_ok x28 x29 hx30) rfl ent20 trivial trivial rfl rfl rfl rfl rfl rfl rfl rfl (.inr ⟨rfl, rfl, trivial⟩)).fx (y := ⟨[(77, 0), (82, 0)], .bool x30, [], [83]⟩) rfl) (by decide) ?_
      refine aoP (some 84) rfl rfl (does_pick (v := .bool x30) (by conv => lhs; whnf) (by exact rfl)) (by decide) ?_
      refine aoP (some 85) rfl rfl (does_move (v := .bool x30) (by exact rfl)) (by decide) ?_
      refine ao_bool (c := x30) 85 rfl (fun c31 => ?_) (fun c31 => ?_)
      · have h := ifT c31 h
        refine aoP (some 86) rfl rfl (does_move (v := .bool x16.2.2) (by exact rfl)) (by decide) ?_
        refine aoP (some 87) rfl rfl (does_move (v := .bool x18.2.2) (by exact rfl)) (by decide) ?_
        refine aoP (some 88) rfl rfl (does_eq_bool (v := .bool (x16.2.2 == x18.2.2)) (by conv => lhs; whnf) (by conv => lhs; whnf) (ty_bool ty4) rfl) (by decide) ?_
        refine aoP (some 89) rfl rfl (does_pick (v := .bool (x16.2.2 == x18.2.2)) (by conv => lhs; whnf) (by exact rfl)) (by decide) ?_
        refine aoP (some 90) rfl rfl (does_move (v := .bool (x16.2.2 == x18.2.2)) (by exact rfl)) (by decide) ?_
        refine ao_bool (c := (x16.2.2 == x18.2.2)) 90 rfl (fun c32 => ?_) (fun c32 => ?_)
        · have h := ifT c32 h
          refine aoP (some 91) rfl rfl (does_move (v := .own 40 0) (by exact rfl)) (by decide) ?_
          refine aoP (some 92) rfl rfl (does_move (v := .own 46 0) (by exact rfl)) (by decide) ?_
          obtain ⟨x33, hx33, h⟩ := bnd_some h
          refine aoD (some 93) rfl rfl ((do_callG (bcs := []) [] [] [(40, 0), (46, 0)] 93 false (gleaningref15_SameEpisodes_ok x16.1 x18.1 hx33) rfl ent20 trivial trivial rfl rfl rfl rfl rfl rfl rfl rfl (.inr ⟨rfl, rfl, trivial⟩)).fx (y := ⟨[(40, 0), (46, 0)], .bool x33, [], [93]⟩) rfl) (by decide) ?_
          refine aoP (some 94) rfl rfl (does_pick (v := .bool x33) (by conv => lhs; whnf) (by exact rfl)) (by decide) ?_
          refine aoP (some 95) rfl rfl (does_move (v := .bool x33) (by exact rfl)) (by decide) ?_
          refine ao_bool (c := x33) 95 rfl (fun c34 => ?_) (fun c34 => ?_)
          · have h := ifT c34 h
            refine aoR (some 96) rfl rfl (does_load (v := .agg [.int .u64 x16.2.1.Trace.Hi, .int .u64 x16.2.1.Trace.Lo, .int .i64 x16.2.1.First, .int .i64 x16.2.1.Last, .bool x16.2.1.Sure, .sl 10 (List.map enc30 x16.2.1.Spans)]) (by conv => lhs; whnf) (by conv => lhs; whnf) ty28 (by exact rfl)) (by decide) ?_
            refine aoD (some 97) rfl rfl ((do_buildSlice (xs := List.map enc27 [x16.2.1]) ty22 ty28 rfl rfl rfl rfl rfl rfl rfl rfl).fx (y := ⟨_, .own 97 0, [((97, 0), some (.arr 28 6 false (List.map enc27 [x16.2.1])))], [97]⟩) rfl) (by decide) ?_
            refine aoR (some 98) rfl rfl (does_load (v := .agg [.int .u64 x18.2.1.Trace.Hi, .int .u64 x18.2.1.Trace.Lo, .int .i64 x18.2.1.First, .int .i64 x18.2.1.Last, .bool x18.2.1.Sure, .sl 10 (List.map enc30 x18.2.1.Spans)]) (by conv => lhs; whnf) (by conv => lhs; whnf) ty28 (by exact rfl)) (by decide) ?_
            refine aoD (some 99) rfl rfl ((do_buildSlice (xs := List.map enc27 [x18.2.1]) ty22 ty28 rfl rfl rfl rfl rfl rfl rfl rfl).fx (y := ⟨_, .own 99 0, [((99, 0), some (.arr 28 6 false (List.map enc27 [x18.2.1])))], [99]⟩) rfl) (by decide) ?_
            obtain ⟨x35, hx35, h⟩ := bnd_some h
            refine aoD (some 100) rfl rfl ((do_callG (bcs := []) [] [] [(97, 0), (99, 0)] 100 false (gleaningref15_SameEpisodes_ok [x16.2.1] [x18.2.1] hx35) rfl ent20 trivial trivial rfl rfl rfl rfl rfl rfl rfl rfl (.inr ⟨rfl, rfl, trivial⟩)).fx (y := ⟨[(97, 0), (99, 0)], .bool x35, [], [100]⟩) rfl) (by decide) ?_
            refine aoP (some 101) rfl rfl (does_pick (v := .bool x35) (by conv => lhs; whnf) (by exact rfl)) (by decide) ?_
            refine aoP (some 102) rfl rfl (does_move (v := .bool x35) (by exact rfl)) (by decide) ?_
            refine ao_bool (c := x35) 102 rfl (fun c36 => ?_) (fun c36 => ?_)
            · have h := ifT c36 h
              refine aoP (some 103) rfl rfl (does_move (v := .own 55 0) (by exact rfl)) (by decide) ?_
              refine aoP (some 104) rfl rfl (does_move (v := .own 63 0) (by exact rfl)) (by decide) ?_
              obtain ⟨x37, hx37, h⟩ := bnd_some h
              refine aoD (some 105) rfl rfl ((do_callG (bcs := []) [] [] [(55, 0), (63, 0)] 105 false (gleaningref15_SameEpisodes_ok x20.1 x22.1 hx37) rfl ent20 trivial trivial rfl rfl rfl rfl rfl rfl rfl rfl (.inr ⟨rfl, rfl, trivial⟩)).fx (y := ⟨[(55, 0), (63, 0)], .bool x37, [], [105]⟩) rfl) (by decide) ?_
              refine aoP (some 106) rfl rfl (does_pick (v := .bool x37) (by conv => lhs; whnf) (by exact rfl)) (by decide) ?_
              refine aoP (some 107) rfl rfl (does_move (v := .bool x37) (by exact rfl)) (by decide) ?_
              refine ao_bool (c := x37) 107 rfl (fun c38 => ?_) (fun c38 => ?_)
              · have h := ifT c38 h
                refine aoP (some 108) rfl rfl (does_move (v := .own 55 1) (by exact rfl)) (by decide) ?_
                refine aoP (some 109) rfl rfl (does_move (v := .own 63 1) (by exact rfl)) (by decide) ?_
                obtain ⟨x39, hx39, h⟩ := bnd_some h
                refine aoD (some 110) rfl rfl ((do_callG (bcs := []) [] [] [(55, 1), (63, 1)] 110 false (gleaningref15_SameEpisodes_ok x20.2 x22.2 hx39) rfl ent20 trivial trivial rfl rfl rfl rfl rfl rfl rfl rfl (.inr ⟨rfl, rfl, trivial⟩)).fx (y := ⟨[(55, 1), (63, 1)], .bool x39, [], [110]⟩) rfl) (by decide) ?_
                refine aoP (some 111) rfl rfl (does_pick (v := .bool x39) (by conv => lhs; whnf) (by exact rfl)) (by decide) ?_
                refine aoP (some 12) rfl rfl (does_assign (v := .bool x39) (by exact rfl)) (by decide) ?_
                refine ao_nil_d (by kernel_rfl) ?_
                refine hK23 _ ?_
                refine aw_ret ?_
                obtain rfl := Option.some.inj h
                exact ret_ok1 (by conv => lhs; whnf) (by conv => lhs; whnf) (by exact rfl) (.inr rfl) rfl
              · have h := ifF c38 h
                refine aoS (some 108) rfl rfl (by decide) ?_
                refine aoS (some 109) rfl rfl (by decide) ?_
                refine aoS (some 110) rfl rfl (by decide) ?_
                refine aoP (some 111) rfl rfl (does_pick (v := .bool false) (by conv => lhs; whnf) (by exact rfl)) (by decide) ?_
                refine aoP (some 12) rfl rfl (does_assign (v := .bool false) (by exact rfl)) (by decide) ?_
                refine ao_nil_d (by kernel_rfl) ?_
                refine hK23 _ ?_
                refine aw_ret ?_
                obtain rfl := Option.some.inj h
                exact ret_ok1 (by conv => lhs; whnf) (by conv => lhs; whnf) (by exact rfl) (.inr rfl) rfl
            · have h := ifF c36 h
              refine aoS (some 103) rfl rfl (by decide) ?_
              refine aoS (some 104) rfl rfl (by decide) ?_
              refine aoS (some 105) rfl rfl (by decide) ?_
              refine aoP (some 106) rfl rfl (does_pick (v := .bool false) (by conv => lhs; whnf) (by exact rfl)) (by decide) ?_
              refine aoP (some 107) rfl rfl (does_move (v := .bool false) (by exact rfl)) (by decide) ?_
              refine aoS (some 108) rfl rfl (by decide) ?_
              refine aoS (some 109) rfl rfl (by decide) ?_
              refine aoS (some 110) rfl rfl (by decide) ?_
              refine aoP (some 111) rfl rfl (does_pick (v := .bool false) (by conv => lhs; whnf) (by exact rfl)) (by decide) ?_
              refine aoP (some 12) rfl rfl (does_assign (v := .bool false) (by exact rfl)) (by decide) ?_
              refine ao_nil_d (by kernel_rfl) ?_
              refine hK23 _ ?_
              refine aw_ret ?_
              obtain rfl := Option.some.inj h
              exact ret_ok1 (by conv => lhs; whnf) (by conv => lhs; whnf) (by exact rfl) (.inr rfl) rfl
          · have h := ifF c34 h
            refine aoS (some 96) rfl rfl (by decide) ?_
            refine aoS (some 97) rfl rfl (by decide) ?_
            refine aoS (some 98) rfl rfl (by decide) ?_
            refine aoS (some 99) rfl rfl (by decide) ?_
            refine aoS (some 100) rfl rfl (by decide) ?_
            refine aoP (some 101) rfl rfl (does_pick (v := .bool false) (by conv => lhs; whnf) (by exact rfl)) (by decide) ?_
            refine aoP (some 102) rfl rfl (does_move (v := .bool false) (by exact rfl)) (by decide) ?_
            refine aoS (some 103) rfl rfl (by decide) ?_
            refine aoS (some 104) rfl rfl (by decide) ?_
            refine aoS (some 105) rfl rfl (by decide) ?_
            refine aoP (some 106) rfl rfl (does_pick (v := .bool false) (by conv => lhs; whnf) (by exact rfl)) (by decide) ?_
            refine aoP (some 107) rfl rfl (does_move (v := .bool false) (by exact rfl)) (by decide) ?_
            refine aoS (some 108) rfl rfl (by decide) ?_
            refine aoS (some 109) rfl rfl (by decide) ?_
            refine aoS (some 110) rfl rfl (by decide) ?_
            refine aoP (some 111) rfl rfl (does_pick (v := .bool false) (by conv => lhs; whnf) (by exact rfl)) (by decide) ?_
            refine aoP (some 12) rfl rfl (does_assign (v := .bool false) (by exact rfl)) (by decide) ?_
            refine ao_nil_d (by kernel_rfl) ?_
            refine hK23 _ ?_
            refine aw_ret ?_
            obtain rfl := Option.some.inj h
            exact ret_ok1 (by conv => lhs; whnf) (by conv => lhs; whnf) (by exact rfl) (.inr rfl) rfl
        · have h := ifF c32 h
          refine aoS (some 91) rfl rfl (by decide) ?_
          refine aoS (some 92) rfl rfl (by decide) ?_
          refine aoS (some 93) rfl rfl (by decide) ?_
          refine aoP (some 94) rfl rfl (does_pick (v := .bool false) (by conv => lhs; whnf) (by exact rfl)) (by decide) ?_
          refine aoP (some 95) rfl rfl (does_move (v := .bool false) (by exact rfl)) (by decide) ?_
          refine aoS (some 96) rfl rfl (by decide) ?_
          refine aoS (some 97) rfl rfl (by decide) ?_
          refine aoS (some 98) rfl rfl (by decide) ?_
          refine aoS (some 99) rfl rfl (by decide) ?_
          refine aoS (some 100) rfl rfl (by decide) ?_
          refine aoP (some 101) rfl rfl (does_pick (v := .bool false) (by conv => lhs; whnf) (by exact rfl)) (by decide) ?_
          refine aoP (some 102) rfl rfl (does_move (v := .bool false) (by exact rfl)) (by decide) ?_
          refine aoS (some 103) rfl rfl (by decide) ?_
          refine aoS (some 104) rfl rfl (by decide) ?_
          refine aoS (some 105) rfl rfl (by decide) ?_
          refine aoP (some 106) rfl rfl (does_pick (v := .bool false) (by conv => lhs; whnf) (by exact rfl)) (by decide) ?_
          refine aoP (some 107) rfl rfl (does_move (v := .bool false) (by exact rfl)) (by decide) ?_
          refine aoS (some 108) rfl rfl (by decide) ?_
          refine aoS (some 109) rfl rfl (by decide) ?_
          refine aoS (some 110) rfl rfl (by decide) ?_
          refine aoP (some 111) rfl rfl (does_pick (v := .bool false) (by conv => lhs; whnf) (by exact rfl)) (by decide) ?_
          refine aoP (some 12) rfl rfl (does_assign (v := .bool false) (by exact rfl)) (by decide) ?_
          refine ao_nil_d (by kernel_rfl) ?_
          refine hK23 _ ?_
          refine aw_ret ?_
          obtain rfl := Option.some.inj h
          exact ret_ok1 (by conv => lhs; whnf) (by conv => lhs; whnf) (by exact rfl) (.inr rfl) rfl
      · have h := ifF c31 h
        refine aoS (some 86) rfl rfl (by decide) ?_
        refine aoS (some 87) rfl rfl (by decide) ?_
        refine aoS (some 88) rfl rfl (by decide) ?_
        refine aoP (some 89) rfl rfl (does_pick (v := .bool false) (by conv => lhs; whnf) (by exact rfl)) (by decide) ?_
        refine aoP (some 90) rfl rfl (does_move (v := .bool false) (by exact rfl)) (by decide) ?_
        refine aoS (some 91) rfl rfl (by decide) ?_
        refine aoS (some 92) rfl rfl (by decide) ?_
        refine aoS (some 93) rfl rfl (by decide) ?_
        refine aoP (some 94) rfl rfl (does_pick (v := .bool false) (by conv => lhs; whnf) (by exact rfl)) (by decide) ?_
        refine aoP (some 95) rfl rfl (does_move (v := .bool false) (by exact rfl)) (by decide) ?_
        refine aoS (some 96) rfl rfl (by decide) ?_
        refine aoS (some 97) rfl rfl (by decide) ?_
        refine aoS (some 98) rfl rfl (by decide) ?_
        refine aoS (some 99) rfl rfl (by decide) ?_
        refine aoS (some 100) rfl rfl (by decide) ?_
        refine aoP (some 101) rfl rfl (does_pick (v := .bool false) (by conv => lhs; whnf) (by exact rfl)) (by decide) ?_
        refine aoP (some 102) rfl rfl (does_move (v := .bool false) (by exact rfl)) (by decide) ?_
        refine aoS (some 103) rfl rfl (by decide) ?_
        refine aoS (some 104) rfl rfl (by decide) ?_
        refine aoS (some 105) rfl rfl (by decide) ?_
        refine aoP (some 106) rfl rfl (does_pick (v := .bool false) (by conv => lhs; whnf) (by exact rfl)) (by decide) ?_
        refine aoP (some 107) rfl rfl (does_move (v := .bool false) (by exact rfl)) (by decide) ?_
        refine aoS (some 108) rfl rfl (by decide) ?_
        refine aoS (some 109) rfl rfl (by decide) ?_
        refine aoS (some 110) rfl rfl (by decide) ?_
        refine aoP (some 111) rfl rfl (does_pick (v := .bool false) (by conv => lhs; whnf) (by exact rfl)) (by decide) ?_
        refine aoP (some 12) rfl rfl (does_assign (v := .bool false) (by exact rfl)) (by decide) ?_
        refine ao_nil_d (by kernel_rfl) ?_
        refine hK23 _ ?_
        refine aw_ret ?_
        obtain rfl := Option.some.inj h
        exact ret_ok1 (by conv => lhs; whnf) (by conv => lhs; whnf) (by exact rfl) (.inr rfl) rfl
    · have h := ifF c26 h
      refine aoS (some 72) rfl rfl (by decide) ?_
      refine aoS (some 73) rfl rfl (by decide) ?_
      refine aoS (some 74) rfl rfl (by decide) ?_
      refine aoS (some 75) rfl rfl (by decide) ?_
      refine aoS (some 76) rfl rfl (by decide) ?_
      refine aoS (some 77) rfl rfl (by decide) ?_
      refine aoS (some 78) rfl rfl (by decide) ?_
      refine aoS (some 79) rfl rfl (by decide) ?_
      refine aoS (some 80) rfl rfl (by decide) ?_
      refine aoS (some 81) rfl rfl (by decide) ?_
      refine aoS (some 82) rfl rfl (by decide) ?_
      refine aoS (some 83) rfl rfl (by decide) ?_
      refine aoP (some 84) rfl rfl (does_pick (v := .bool false) (by conv => lhs; whnf) (by exact rfl)) (by decide) ?_
      refine aoP (some 85) rfl rfl (does_move (v := .bool false) (by exact rfl)) (by decide) ?_
      refine aoS (some 86) rfl rfl (by decide) ?_
      refine aoS (some 87) rfl rfl (by decide) ?_
      refine aoS (some 88) rfl rfl (by decide) ?_
      refine aoP (some 89) rfl rfl (does_pick (v := .bool false) (by conv => lhs; whnf) (by exact rfl)) (by decide) ?_
      refine aoP (some 90) rfl rfl (does_move (v := .bool false) (by exact rfl)) (by decide) ?_
      refine aoS (some 91) rfl rfl (by decide) ?_
      refine aoS (some 92) rfl rfl (by decide) ?_
      refine aoS (some 93) rfl rfl (by decide) ?_
      refine aoP (some 94) rfl rfl (does_pick (v := .bool false) (by conv => lhs; whnf) (by exact rfl)) (by decide) ?_
      refine aoP (some 95) rfl rfl (does_move (v := .bool false) (by exact rfl)) (by decide) ?_
      refine aoS (some 96) rfl rfl (by decide) ?_
      refine aoS (some 97) rfl rfl (by decide) ?_
      refine aoS (some 98) rfl rfl (by decide) ?_
      refine aoS (some 99) rfl rfl (by decide) ?_
      refine aoS (some 100) rfl rfl (by decide) ?_
      refine aoP (some 101) rfl rfl (does_pick (v := .bool false) (by conv => lhs; whnf) (by exact rfl)) (by decide) ?_
      refine aoP (some 102) rfl rfl (does_move (v := .bool false) (by exact rfl)) (by decide) ?_
      refine aoS (some 103) rfl rfl (by decide) ?_
      refine aoS (some 104) rfl rfl (by decide) ?_
      refine aoS (some 105) rfl rfl (by decide) ?_
      refine aoP (some 106) rfl rfl (does_pick (v := .bool false) (by conv => lhs; whnf) (by exact rfl)) (by decide) ?_
      refine aoP (some 107) rfl rfl (does_move (v := .bool false) (by exact rfl)) (by decide) ?_
      refine aoS (some 108) rfl rfl (by decide) ?_
      refine aoS (some 109) rfl rfl (by decide) ?_
      refine aoS (some 110) rfl rfl (by decide) ?_
      refine aoP (some 111) rfl rfl (does_pick (v := .bool false) (by conv => lhs; whnf) (by exact rfl)) (by decide) ?_
      refine aoP (some 12) rfl rfl (does_assign (v := .bool false) (by exact rfl)) (by decide) ?_
      refine ao_nil_d (by kernel_rfl) ?_
      refine hK23 _ ?_
      refine aw_ret ?_
      obtain rfl := Option.some.inj h
      exact ret_ok1 (by conv => lhs; whnf) (by conv => lhs; whnf) (by exact rfl) (.inr rfl) rfl
end Go.Proofs.Ytlkdpgemdopbfaa.Ab
