/- Chapter 15: more laws. -/
import Derived.Test.YtlkdpgemdopbfaaXEpisode0
import Derived.Test.YtlkdpgemdopbfaaProg
namespace Go.Proofs.Ytlkdpgemdopbfaa.Ab
open Go Go.RowKit
set_option linter.unusedVariables false
set_option linter.unusedSimpArgs false
def enc2 (x : Int) : PV := .int .i64 x
def enc12 (x : Int) : PV := .int .u64 x
theorem ty41 : tyOf Try.prog 41 = some ⟨.slice 3, 1, 24, [.nil]⟩ := by kernel_rfl
theorem ty42 : tyOf Try.prog 42 = some ⟨.slice 23, 1, 24, [.nil]⟩ := by kernel_rfl
def gleaninglaw15_EpisodeOnce_l4 (v10_s_2 : List Int) (x29 : Int) (v13_4 : Bool) (v14_4 : Int) : Option ((Bool × Int) ⊕ Bool) :=
  if (decide (v14_4 < (List.length v10_s_2 : Int))) = true then (if v13_4 = true then (some (Sum.inl (true, (IntKind.i64.wrap (v14_4 + 1))))) else (gd (0 ≤ v14_4) (Option.bind (v10_s_2[(Int.toNat v14_4)]?) (fun (x44 : Int) => some (Sum.inl ((x44 == (IntKind.u64.wrap (bits .and .i64 x29 15))), (IntKind.i64.wrap (v14_4 + 1)))))))) else (some (Sum.inr v13_4))
def gleaninglaw15_EpisodeOnce_k5 (a1 : Int) (a2 : Trace) (v8_s_2 : List Episode) (v11_2 : Int) (x31 : Episode × Bool) (v10_s_5 : List Int) : Option ((List Episode × Int × Int × Int × Int × Bool × List Span × List Int × Int) ⊕ (List Episode × Int × Int × Int × Int × Bool × List Span × List Int)) :=
  gd (¬ a1 = 0) (if ((Int.tmod (IntKind.i64.wrap (v11_2 + 1)) a1) == 0) = true then (gd ((List.length (v8_s_2 ++ [x31.1, (Episode.mk (Trace.mk a2.Hi (IntKind.u64.wrap (a2.Lo + 1))) 0 0 false [(Span.mk (Trace.mk 0 0) 99 0 (strOf []) (strOf []) 0 0 false [])])])) * 64 ≤ 140737488355328 ∧ (List.length (v8_s_2 ++ [x31.1, (Episode.mk (Trace.mk a2.Hi (IntKind.u64.wrap (a2.Lo + 1))) 0 0 false [(Span.mk (Trace.mk 0 0) 99 0 (strOf []) (strOf []) 0 0 false [])])])) ≤ 140737488355328) (some (Sum.inl ((v8_s_2 ++ [x31.1, (Episode.mk (Trace.mk a2.Hi (IntKind.u64.wrap (a2.Lo + 1))) 0 0 false [(Span.mk (Trace.mk 0 0) 99 0 (strOf []) (strOf []) 0 0 false [])])]), a2.Hi, a2.Lo, 0, 0, false, [], v10_s_5, (IntKind.i64.wrap (v11_2 + 1)))))) else (some (Sum.inl (v8_s_2, x31.1.Trace.Hi, x31.1.Trace.Lo, x31.1.First, x31.1.Last, x31.1.Sure, x31.1.Spans, v10_s_5, (IntKind.i64.wrap (v11_2 + 1))))))
def gleaninglaw15_EpisodeOnce_k3 (a1 : Int) (a2 : Trace) (v8_s_2 : List Episode) (v10_s_2 : List Int) (v11_2 : Int) (x29 : Int) (x31 : Episode × Bool) (v13_3 : Bool) : Option ((List Episode × Int × Int × Int × Int × Bool × List Span × List Int × Int) ⊕ (List Episode × Int × Int × Int × Int × Bool × List Span × List Int)) :=
  Option.bind (if (!v13_3) = true then (gd ((List.length (v10_s_2 ++ [(IntKind.u64.wrap (bits .and .i64 x29 15))])) * 8 ≤ 140737488355328 ∧ (List.length (v10_s_2 ++ [(IntKind.u64.wrap (bits .and .i64 x29 15))])) ≤ 140737488355328) (some (v10_s_2 ++ [(IntKind.u64.wrap (bits .and .i64 x29 15))]))) else (some v10_s_2)) (fun (s : List Int) => gleaninglaw15_EpisodeOnce_k5 a1 a2 v8_s_2 v11_2 x31 s)
def gleaninglaw15_EpisodeOnce_l2 (a0 : List Int) (a1 : Int) (a2 : Trace) (v8_s_2 : List Episode) (v9_s_0_2 : Int) (v9_s_1_2 : Int) (v9_s_2_2 : Int) (v9_s_3_2 : Int) (v9_s_4_2 : Bool) (v9_s_5_2 : List Span) (v10_s_2 : List Int) (v11_2 : Int) : Option ((List Episode × Int × Int × Int × Int × Bool × List Span × List Int × Int) ⊕ (List Episode × Int × Int × Int × Int × Bool × List Span × List Int)) :=
  if (decide (v11_2 < (List.length a0 : Int))) = true then (gd (0 ≤ v11_2) (Option.bind (a0[(Int.toNat v11_2)]?) (fun (x29 : Int) => Option.bind (episode_Add (Episode.mk (Trace.mk v9_s_0_2 v9_s_1_2) v9_s_2_2 v9_s_3_2 v9_s_4_2 v9_s_5_2) (Span.mk a2 (IntKind.u64.wrap (bits .and .i64 x29 15)) 0 (strOf []) (strOf []) v11_2 0 false []) v11_2) (fun (x31 : Episode × Bool) => Option.bind (loopN (fun (s : Bool × Int) => gleaninglaw15_EpisodeOnce_l4 v10_s_2 x29 s.1 s.2) Fu (false, 0)) (fun (s : Bool) => gleaninglaw15_EpisodeOnce_k3 a1 a2 v8_s_2 v10_s_2 v11_2 x29 x31 s))))) else (some (Sum.inr (v8_s_2, v9_s_0_2, v9_s_1_2, v9_s_2_2, v9_s_3_2, v9_s_4_2, v9_s_5_2, v10_s_2)))
def gleaninglaw15_EpisodeOnce_l6 (a0 : List Int) (v10_s_1 : List Int) (x57 : List Span) (v16_6 : Int) : Option (Int ⊕ Bool) :=
  if (decide (v16_6 < (List.length x57 : Int))) = true then (gd (0 ≤ v16_6) (Option.bind (x57[(Int.toNat v16_6)]?) (fun (x72 : Span) => gd (0 ≤ v16_6) (Option.bind (v10_s_1[(Int.toNat v16_6)]?) (fun (x74 : Int) => if (x72.Id != x74) = true then (some (Sum.inr false)) else (gd (0 ≤ v16_6) (Option.bind (x57[(Int.toNat v16_6)]?) (fun (x78 : Span) => gd (0 ≤ x78.Start) (Option.bind (a0[(Int.toNat x78.Start)]?) (fun (x80 : Int) => gd (0 ≤ v16_6) (Option.bind (v10_s_1[(Int.toNat v16_6)]?) (fun (x82 : Int) => if ((bits .and .i64 x80 15) != (IntKind.i64.wrap x82)) = true then (some (Sum.inr false)) else (some (Sum.inl (IntKind.i64.wrap (v16_6 + 1)))))))))))))))) else (some (Sum.inr true))
def gleaninglaw15_EpisodeOnce_k1 (a0 : List Int) (a2 : Trace) (v8_s_1 : List Episode) (v9_s_0_1 : Int) (v9_s_1_1 : Int) (v9_s_2_1 : Int) (v9_s_3_1 : Int) (v9_s_4_1 : Bool) (v9_s_5_1 : List Span) (v10_s_1 : List Int) : Option Bool :=
  gd ((List.length (v8_s_1 ++ [(Episode.mk (Trace.mk v9_s_0_1 v9_s_1_1) v9_s_2_1 v9_s_3_1 v9_s_4_1 v9_s_5_1)])) * 64 ≤ 140737488355328 ∧ (List.length (v8_s_1 ++ [(Episode.mk (Trace.mk v9_s_0_1 v9_s_1_1) v9_s_2_1 v9_s_3_1 v9_s_4_1 v9_s_5_1)])) ≤ 140737488355328) (Option.bind (episode_Spans (v8_s_1 ++ [(Episode.mk (Trace.mk v9_s_0_1 v9_s_1_1) v9_s_2_1 v9_s_3_1 v9_s_4_1 v9_s_5_1)]) a2) (fun (x57 : List Span) => if ((List.length x57 : Int) != (List.length v10_s_1 : Int)) = true then (some false) else (loopN (fun (s : Int) => gleaninglaw15_EpisodeOnce_l6 a0 v10_s_1 x57 s) Fu 0)))
def gleaninglaw15_EpisodeOnce_k0 (a0 : List Int) (a1 : Int) (a2 : Trace) : Option Bool :=
  Option.bind (loopN (fun (s : List Episode × Int × Int × Int × Int × Bool × List Span × List Int × Int) => gleaninglaw15_EpisodeOnce_l2 a0 a1 a2 s.1 s.2.1 s.2.2.1 s.2.2.2.1 s.2.2.2.2.1 s.2.2.2.2.2.1 s.2.2.2.2.2.2.1 s.2.2.2.2.2.2.2.1 s.2.2.2.2.2.2.2.2) Fu ([], a2.Hi, a2.Lo, 0, 0, false, [], [], 0)) (fun (s : List Episode × Int × Int × Int × Int × Bool × List Span × List Int) => gleaninglaw15_EpisodeOnce_k1 a0 a2 s.1 s.2.1 s.2.2.1 s.2.2.2.1 s.2.2.2.2.1 s.2.2.2.2.2.1 s.2.2.2.2.2.2.1 s.2.2.2.2.2.2.2)
def gleaninglaw15_EpisodeOnce (a0 : List Int) (a1 : Int) (a2 : Trace) : Option Bool :=
  Option.bind (gleaninglaw15_alive) (fun (x3 : Bool) => Option.bind (if (!x3) = true then (some (Sum.inr x3)) else (if (decide ((60 : Int) < (List.length a0 : Int))) = true then (some (Sum.inr x3)) else (if (decide (a1 < 1)) = true then (some (Sum.inr x3)) else (if (decide ((20 : Int) < a1)) = true then (some (Sum.inr x3)) else (some (Sum.inl ())))))) (Sum.elim (fun (s : Unit) => gleaninglaw15_EpisodeOnce_k0 a0 a1 a2) some))
set_option maxRecDepth 100000 in
set_option maxHeartbeats 8000000 in
/-- gleaning/gleaninglaw15.EpisodeOnce -/
theorem gleaninglaw15_EpisodeOnce_ok (a0 : List Int) (a1 : Int) (a2 : Trace) {r : Bool} (h : gleaninglaw15_EpisodeOnce a0 a1 a2 = some r) : Ok Try.prog 4 [.sl 1 (List.map enc2 a0), .int .i64 a1, .agg [.int .u64 a2.Hi, .int .u64 a2.Lo]] [] [] (.bool r) [] [] := by
  unfold gleaninglaw15_EpisodeOnce at h
  refine ok_of_code Try.func4 rfl (by show (3 : Nat) ≤ _; decide) (Nat.le_refl _) fun X => ?_
  refine aw_seq_k (fun K1 hK1 => ?_)
  refine aw_reg ?_
  refine ao_cons (acts_of rfl (do_box (by conv => lhs; whnf) rfl rfl)) (by decide) ?_
  refine ao_cons (acts_of rfl (does_assign (v := .bool false) (by exact rfl))) (by decide) ?_
  refine ao_nil_n ?_
  refine hK1 _ ?_
  refine aw_seq_k (fun K2 hK2 => ?_)
  refine aw_reg ?_
  obtain ⟨x3, hx3, h⟩ := bnd_some h
  refine ao_cons (acts_of rfl (do_call0 17 false (gleaninglaw15_alive_ok hx3) rfl ent15 rfl rfl)) (by decide) ?_
  refine ao_cons (acts_of rfl (does_assign (v := .bool x3) (by exact rfl))) (by decide) ?_
  refine ao_nil_n ?_
  refine hK2 _ ?_
  obtain ⟨q4, h, hk5⟩ := bnd_some h
  refine aw_cut (fun s => gleaninglaw15_EpisodeOnce_k0 a0 a1 a2 = some r ∧ s = lit [(0, .sl 1 (List.map enc2 a0)), (1, .int .i64 a1), (5, .ptr 5 0 0)] [((5, 0), .box [.int .u64 a2.Hi, .int .u64 a2.Lo])] [(5, 1)] X) ?_ ?_
  · skip
    refine aw_seq_k (fun K6 hK6 => ?_)
    refine aw_reg ?_
    refine ao_cons (acts_of rfl (does_move (v := .bool x3) (by exact rfl))) (by decide) ?_
    refine ao_cons (acts_of rfl (does_un (v := .bool (!x3)) (by conv => lhs; whnf) rfl)) (by decide) ?_
    refine ao_cons (acts_of rfl (does_move (v := .bool (!x3)) (by exact rfl))) (by decide) ?_
    refine ao_bool (c := (!x3)) 20 rfl (fun c7 => ?_) (fun c7 => ?_)
    · have h := ifT c7 h
      refine ao_cons (acts_skip rfl) (by decide) ?_
      refine ao_cons (acts_skip rfl) (by decide) ?_
      refine ao_cons (acts_skip rfl) (by decide) ?_
      refine ao_cons (acts_of rfl (does_pick (v := .bool true) (by conv => lhs; whnf) (by exact rfl))) (by decide) ?_
      refine ao_cons (acts_of rfl (does_move (v := .bool true) (by exact rfl))) (by decide) ?_
      refine ao_cons (acts_skip rfl) (by decide) ?_
      refine ao_cons (acts_skip rfl) (by decide) ?_
      refine ao_cons (acts_of rfl (does_pick (v := .bool true) (by conv => lhs; whnf) (by exact rfl))) (by decide) ?_
      refine ao_cons (acts_of rfl (does_move (v := .bool true) (by exact rfl))) (by decide) ?_
      refine ao_cons (acts_skip rfl) (by decide) ?_
      refine ao_cons (acts_skip rfl) (by decide) ?_
      refine ao_cons (acts_of rfl (does_pick (v := .bool true) (by conv => lhs; whnf) (by exact rfl))) (by decide) ?_
      refine ao_nil_n ?_
      refine hK6 _ ?_
      refine aw_cond_t (by decide) rfl ?_
      refine aw_seq_k (fun K8 hK8 => ?_)
      refine aw_reg ?_
      refine ao_cons (acts_of rfl (does_move (v := .bool x3) (by exact rfl))) (by decide) ?_
      refine ao_cons (acts_of rfl (does_assign (v := .bool x3) (by exact rfl))) (by decide) ?_
      refine ao_nil_n ?_
      refine hK8 _ ?_
      refine aw_ret ?_
      have h := leafR h hk5
      obtain rfl := Option.some.inj h
      exact ret_ok1 (by conv => lhs; whnf) (by conv => lhs; whnf) (by exact rfl) (.inr rfl) rfl
    · have h := ifF c7 h
      refine ao_cons (acts_of rfl (does_move (v := .sl 1 (List.map enc2 a0)) (by exact rfl))) (by decide) ?_
      refine ao_cons (acts_of rfl ((does_len_sl (by conv => lhs; whnf) ty41).castp (v' := .int .i64 (List.length a0 : Int)) (by exact len_map _))) (by decide) ?_
      refine ao_cons (acts_of rfl (does_bin (v := .bool (decide ((60 : Int) < (List.length a0 : Int)))) (by conv => lhs; whnf) (by conv => lhs; whnf) rfl)) (by decide) ?_
      refine ao_cons (acts_of rfl (does_pick (v := .bool (decide ((60 : Int) < (List.length a0 : Int)))) (by conv => lhs; whnf) (by exact rfl))) (by decide) ?_
      refine ao_cons (acts_of rfl (does_move (v := .bool (decide ((60 : Int) < (List.length a0 : Int)))) (by exact rfl))) (by decide) ?_
      refine ao_bool (c := (decide ((60 : Int) < (List.length a0 : Int)))) 25 rfl (fun c9 => ?_) (fun c9 => ?_)
      · have h := ifT c9 h
        refine ao_cons (acts_skip rfl) (by decide) ?_
        refine ao_cons (acts_skip rfl) (by decide) ?_
        refine ao_cons (acts_of rfl (does_pick (v := .bool true) (by conv => lhs; whnf) (by exact rfl))) (by decide) ?_
        refine ao_cons (acts_of rfl (does_move (v := .bool true) (by exact rfl))) (by decide) ?_
        refine ao_cons (acts_skip rfl) (by decide) ?_
        refine ao_cons (acts_skip rfl) (by decide) ?_
        refine ao_cons (acts_of rfl (does_pick (v := .bool true) (by conv => lhs; whnf) (by exact rfl))) (by decide) ?_
        refine ao_nil_n ?_
        refine hK6 _ ?_
        refine aw_cond_t (by decide) rfl ?_
        refine aw_seq_k (fun K10 hK10 => ?_)
        refine aw_reg ?_
        refine ao_cons (acts_of rfl (does_move (v := .bool x3) (by exact rfl))) (by decide) ?_
        refine ao_cons (acts_of rfl (does_assign (v := .bool x3) (by exact rfl))) (by decide) ?_
        refine ao_nil_n ?_
        refine hK10 _ ?_
        refine aw_ret ?_
        have h := leafR h hk5
        obtain rfl := Option.some.inj h
        exact ret_ok1 (by conv => lhs; whnf) (by conv => lhs; whnf) (by exact rfl) (.inr rfl) rfl
      · have h := ifF c9 h
        refine ao_cons (acts_of rfl (does_move (v := .int .i64 a1) (by exact rfl))) (by decide) ?_
        refine ao_cons (acts_of rfl (does_bin (v := .bool (decide (a1 < 1))) (by conv => lhs; whnf) (by conv => lhs; whnf) rfl)) (by decide) ?_
        refine ao_cons (acts_of rfl (does_pick (v := .bool (decide (a1 < 1))) (by conv => lhs; whnf) (by exact rfl))) (by decide) ?_
        refine ao_cons (acts_of rfl (does_move (v := .bool (decide (a1 < 1))) (by exact rfl))) (by decide) ?_
        refine ao_bool (c := (decide (a1 < 1))) 29 rfl (fun c11 => ?_) (fun c11 => ?_)
        · have h := ifT c11 h
          refine ao_cons (acts_skip rfl) (by decide) ?_
          refine ao_cons (acts_skip rfl) (by decide) ?_
          refine ao_cons (acts_of rfl (does_pick (v := .bool true) (by conv => lhs; whnf) (by exact rfl))) (by decide) ?_
          refine ao_nil_n ?_
          refine hK6 _ ?_
          refine aw_cond_t (by decide) rfl ?_
          refine aw_seq_k (fun K12 hK12 => ?_)
          refine aw_reg ?_
          refine ao_cons (acts_of rfl (does_move (v := .bool x3) (by exact rfl))) (by decide) ?_
          refine ao_cons (acts_of rfl (does_assign (v := .bool x3) (by exact rfl))) (by decide) ?_
          refine ao_nil_n ?_
          refine hK12 _ ?_
          refine aw_ret ?_
          have h := leafR h hk5
          obtain rfl := Option.some.inj h
          exact ret_ok1 (by conv => lhs; whnf) (by conv => lhs; whnf) (by exact rfl) (.inr rfl) rfl
        · have h := ifF c11 h
          refine ao_cons (acts_of rfl (does_move (v := .int .i64 a1) (by exact rfl))) (by decide) ?_
          refine ao_cons (acts_of rfl (does_bin (v := .bool (decide ((20 : Int) < a1))) (by conv => lhs; whnf) (by conv => lhs; whnf) rfl)) (by decide) ?_
          refine ao_cons (acts_of rfl (does_pick (v := .bool (decide ((20 : Int) < a1))) (by conv => lhs; whnf) (by exact rfl))) (by decide) ?_
          refine ao_nil_n ?_
          refine hK6 _ ?_
          refine aw_bool (b := (decide ((20 : Int) < a1))) 32 rfl (fun c13 => ?_) (fun c13 => ?_)
          · have h := ifT c13 h
            refine aw_cond_t (by decide) rfl ?_
            refine aw_seq_k (fun K14 hK14 => ?_)
            refine aw_reg ?_
            refine ao_cons (acts_of rfl (does_move (v := .bool x3) (by exact rfl))) (by decide) ?_
            refine ao_cons (acts_of rfl (does_assign (v := .bool x3) (by exact rfl))) (by decide) ?_
            refine ao_nil_n ?_
            refine hK14 _ ?_
            refine aw_ret ?_
            have h := leafR h hk5
            obtain rfl := Option.some.inj h
            exact ret_ok1 (by conv => lhs; whnf) (by conv => lhs; whnf) (by exact rfl) (.inr rfl) rfl
          · have h := ifF c13 h
            refine aw_cond_f (by decide) rfl ?_
            refine aw_skip ?_
            have h := leafL h hk5
            exact ⟨_, reb_lit [(0, .sl 1 (List.map enc2 a0)), (1, .int .i64 a1), (5, .ptr 5 0 0)] [(5, 0)] [((5, 0), .box [.int .u64 a2.Hi, .int .u64 a2.Lo])] [(5, 1)] (envOk_cons (by conv => lhs; whnf) (by exact rfl) (envOk_cons (by conv => lhs; whnf) (by exact rfl) (envOk_cons (by conv => lhs; whnf) (by exact rfl) envOk_nil))) (objOk_cons (by conv => lhs; whnf) (by conv => lhs; whnf) (by exact rfl) (by simp) objOk_nil) (nodup_b rfl) (nodup_b rfl) rfl rfl, h, rfl⟩
  · rintro s ⟨h, rfl⟩
    unfold gleaninglaw15_EpisodeOnce_k0 at h
    refine aw_seq_k (fun K15 hK15 => ?_)
    refine aw_reg ?_
    refine ao_cons (acts_of rfl (does_assign (v := .nil) (by exact rfl))) (by decide) ?_
    refine ao_nil_n ?_
    refine hK15 _ ?_
    refine aw_seq_k (fun K16 hK16 => ?_)
    refine aw_reg ?_
    refine ao_cons (acts_of rfl (does_load (v := .agg [.int .u64 a2.Hi, .int .u64 a2.Lo]) (by conv => lhs; whnf) (by conv => lhs; whnf) ty25 (by exact rfl))) (by decide) ?_
    refine ao_cons (acts_of rfl (do_build_struct (cs := [.int .u64 a2.Hi, .int .u64 a2.Lo, .int .i64 0, .int .i64 0, .bool false, .nil]) ty28 rfl [⟨.struct [(0, 23), (1, 23)], 2, 16, [.int .u64 0, .int .u64 0]⟩, ⟨.int .i64, 1, 8, [.int .i64 0]⟩, ⟨.int .i64, 1, 8, [.int .i64 0]⟩, ⟨.bool, 1, 1, [.bool false]⟩, ⟨.slice 31, 1, 24, [.nil]⟩] (by simp only [List.map, ty25, ty26, ty3, ty4]) (by rfl) (by exact rfl))) (by decide) ?_
    refine ao_cons (acts_of rfl (do_new ty28 rfl rfl)) (by decide) ?_
    refine ao_cons (acts_of rfl (do_store (cs' := [.int .u64 a2.Hi, .int .u64 a2.Lo, .int .i64 0, .int .i64 0, .bool false, .nil]) (by conv => lhs; whnf) (by conv => lhs; whnf) (by conv => lhs; whnf) ty28 rfl rfl rfl (by exact rfl))) (by decide) ?_
    refine ao_nil_n ?_
    refine hK16 _ ?_
    refine aw_seq_k (fun K17 hK17 => ?_)
    refine aw_reg ?_
    refine ao_cons (acts_of rfl (does_assign (v := .nil) (by exact rfl))) (by decide) ?_
    refine ao_nil_n ?_
    refine hK17 _ ?_
    obtain ⟨q18, h, hk19⟩ := bnd_some h
    refine aw_cut (fun s => ∃ (v8_s_1 : List Episode), ∃ (v9_s_0_1 : Int), ∃ (v9_s_1_1 : Int), ∃ (v9_s_2_1 : Int), ∃ (v9_s_3_1 : Int), ∃ (v9_s_4_1 : Bool), ∃ (v9_s_5_1 : List Span), ∃ (v10_s_1 : List Int), gleaninglaw15_EpisodeOnce_k1 a0 a2 v8_s_1 v9_s_0_1 v9_s_1_1 v9_s_2_1 v9_s_3_1 v9_s_4_1 v9_s_5_1 v10_s_1 = some r ∧ s = lit [(0, .sl 1 (List.map enc2 a0)), (5, .ptr 5 0 0), (8, .own 8 0), (9, .ptr 9 0 0), (10, .own 10 0)] [((5, 0), .box [.int .u64 a2.Hi, .int .u64 a2.Lo]), ((8, 0), .arr 28 6 false (List.map enc27 v8_s_1)), ((9, 0), .box [.int .u64 v9_s_0_1, .int .u64 v9_s_1_1, .int .i64 v9_s_2_1, .int .i64 v9_s_3_1, .bool v9_s_4_1, .sl 10 (List.map enc30 v9_s_5_1)]), ((10, 0), .arr 23 1 false (List.map enc12 v10_s_1))] [(5, 1), (8, 1), (9, 1), (10, 1)] X) ?_ ?_
    · skip
      refine aw_seq_k (fun K20 hK20 => ?_)
      refine aw_reg ?_
      refine ao_cons (acts_of rfl (does_assign (v := .int .i64 0) (by exact rfl))) (by decide) ?_
      refine ao_nil_n ?_
      refine hK20 _ ?_
      refine aw_block ?_
      refine aw_nilOwn 8 28 6 (by conv => lhs; whnf) (by decide) (by decide) ?_
      refine aw_nilOwn 10 23 1 (by conv => lhs; whnf) (by decide) (by decide) ?_
      refine aw_loop' (fun m s => ∃ (v8_s_2 : List Episode), ∃ (v9_s_0_2 : Int), ∃ (v9_s_1_2 : Int), ∃ (v9_s_2_2 : Int), ∃ (v9_s_3_2 : Int), ∃ (v9_s_4_2 : Bool), ∃ (v9_s_5_2 : List Span), ∃ (v10_s_2 : List Int), ∃ (v11_2 : Int), loopN (fun (s : List Episode × Int × Int × Int × Int × Bool × List Span × List Int × Int) => gleaninglaw15_EpisodeOnce_l2 a0 a1 a2 s.1 s.2.1 s.2.2.1 s.2.2.2.1 s.2.2.2.2.1 s.2.2.2.2.2.1 s.2.2.2.2.2.2.1 s.2.2.2.2.2.2.2.1 s.2.2.2.2.2.2.2.2) m (v8_s_2, v9_s_0_2, v9_s_1_2, v9_s_2_2, v9_s_3_2, v9_s_4_2, v9_s_5_2, v10_s_2, v11_2) = some q18 ∧ s = lit [(0, .sl 1 (List.map enc2 a0)), (1, .int .i64 a1), (5, .ptr 5 0 0), (8, .own 8 0), (9, .ptr 9 0 0), (10, .own 10 0), (11, .int .i64 v11_2)] [((5, 0), .box [.int .u64 a2.Hi, .int .u64 a2.Lo]), ((8, 0), .arr 28 6 false (List.map enc27 v8_s_2)), ((9, 0), .box [.int .u64 v9_s_0_2, .int .u64 v9_s_1_2, .int .i64 v9_s_2_2, .int .i64 v9_s_3_2, .bool v9_s_4_2, .sl 10 (List.map enc30 v9_s_5_2)]), ((10, 0), .arr 23 1 false (List.map enc12 v10_s_2))] [(5, 1), (8, 1), (9, 1), (10, 1)] X) Fu
        ⟨_, reb_w (tl' := [(0, .sl 1 (List.map enc2 a0)), (1, .int .i64 a1), (5, .ptr 5 0 0), (8, .own 8 0), (9, .ptr 9 0 0), (10, .own 10 0), (11, .int .i64 (0))]) (ol' := [((5, 0), .box [.int .u64 a2.Hi, .int .u64 a2.Lo]), ((8, 0), .arr 28 6 false (List.map enc27 [])), ((9, 0), .box [.int .u64 a2.Hi, .int .u64 a2.Lo, .int .i64 (0), .int .i64 (0), .bool false, .sl 10 (List.map enc30 [])]), ((10, 0), .arr 23 1 false (List.map enc12 []))]) (reb_lit [(0, .sl 1 (List.map enc2 a0)), (1, .int .i64 a1), (5, .ptr 5 0 0), (8, .own 8 0), (9, .ptr 9 0 0), (10, .own 10 0), (11, .int .i64 (0))] [(5, 0), (8, 0), (9, 0), (10, 0)] [((5, 0), .box [.int .u64 a2.Hi, .int .u64 a2.Lo]), ((8, 0), .arr 28 6 false (List.map enc27 [])), ((9, 0), .box [.int .u64 a2.Hi, .int .u64 a2.Lo, .int .i64 (0), .int .i64 (0), .bool false, .nil]), ((10, 0), .arr 23 1 false (List.map enc12 []))] [(5, 1), (8, 1), (9, 1), (10, 1)] (envOk_cons (by conv => lhs; whnf) (by exact rfl) (envOk_cons (by conv => lhs; whnf) (by exact rfl) (envOk_cons (by conv => lhs; whnf) (by exact rfl) (envOk_cons (by conv => lhs; whnf) (by exact rfl) (envOk_cons (by conv => lhs; whnf) (by exact rfl) (envOk_cons (by conv => lhs; whnf) (by exact rfl) (envOk_cons (by conv => lhs; whnf) (by exact rfl) envOk_nil))))))) (objOk_cons (by conv => lhs; whnf) (by conv => lhs; whnf) (by exact rfl) (by simp) (objOk_cons (by conv => lhs; whnf) (by conv => lhs; whnf) (by exact rfl) (by simp) (objOk_cons (by conv => lhs; whnf) (by conv => lhs; whnf) (by exact rfl) (by simp) (objOk_cons (by conv => lhs; whnf) (by conv => lhs; whnf) (by exact rfl) (by simp) objOk_nil)))) (nodup_b rfl) (nodup_b rfl) rfl rfl) ⟨rfl, le_refl _, rfl, le_refl _, rfl, le_refl _, rfl, le_refl _, rfl, le_refl _, rfl, le_refl _, rfl, le_refl _, trivial⟩ ⟨rfl, .rfl _, rfl, .rfl _, rfl, (.box ⟨le_refl _, le_refl _, le_refl _, le_refl _, le_refl _, le_nil _, trivial⟩), rfl, .rfl _, trivial⟩, [], a2.Hi, a2.Lo, 0, 0, false, [], [], 0, h, rfl⟩ ?_
      rintro m s ⟨v8_s_2, v9_s_0_2, v9_s_1_2, v9_s_2_2, v9_s_3_2, v9_s_4_2, v9_s_5_2, v10_s_2, v11_2, h, rfl⟩
      obtain ⟨m2, q21, rfl, h, hq22⟩ := loop_some h
      replace h : gleaninglaw15_EpisodeOnce_l2 a0 a1 a2 v8_s_2 v9_s_0_2 v9_s_1_2 v9_s_2_2 v9_s_3_2 v9_s_4_2 v9_s_5_2 v10_s_2 v11_2 = some q21 := h
      unfold gleaninglaw15_EpisodeOnce_l2 at h
      refine aw_seq_k (fun K23 hK23 => ?_)
      refine aw_seq_k (fun K24 hK24 => ?_)
      refine aw_reg ?_
      refine ao_cons (acts_of rfl (does_move (v := .int .i64 v11_2) (by exact rfl))) (by decide) ?_
      refine ao_cons (acts_of rfl (does_move (v := .sl 1 (List.map enc2 a0)) (by exact rfl))) (by decide) ?_
      refine ao_cons (acts_of rfl ((does_len_sl (by conv => lhs; whnf) ty41).castp (v' := .int .i64 (List.length a0 : Int)) (by exact len_map _))) (by decide) ?_
      refine ao_cons (acts_of rfl (does_bin (v := .bool (decide (v11_2 < (List.length a0 : Int)))) (by conv => lhs; whnf) (by conv => lhs; whnf) rfl)) (by decide) ?_
      refine ao_nil_n ?_
      refine hK24 _ ?_
      refine aw_bool (b := (decide (v11_2 < (List.length a0 : Int)))) 39 rfl (fun c25 => ?_) (fun c25 => ?_)
      · have h := ifT c25 h
        refine aw_cond_t (by decide) rfl ?_
        refine aw_skip ?_
        refine hK23 _ ?_
        refine aw_seq_k (fun K26 hK26 => ?_)
        refine aw_block ?_
        refine aw_seq_k (fun K27 hK27 => ?_)
        refine aw_reg ?_
        refine ao_cons (acts_of rfl (does_move (v := .sl 1 (List.map enc2 a0)) (by exact rfl))) (by decide) ?_
        refine ao_cons (acts_of rfl (does_move (v := .int .i64 v11_2) (by exact rfl))) (by decide) ?_
        obtain ⟨g28, h⟩ := gd_some h
        obtain ⟨x29, hx29, h⟩ := bnd_some h
        refine ao_cons (acts_of rfl (does_indexAddr_sl (el := .int .i64 x29) (by conv => lhs; whnf) (by conv => lhs; whnf) ty41 ty3 g28 (by exact map_get hx29))) (by decide) ?_
        refine ao_cons (acts_of rfl (does_load (v := .int .i64 x29) (by conv => lhs; whnf) (by conv => lhs; whnf) ty3 (by exact rfl))) (by decide) ?_
        refine ao_cons (acts_of rfl (does_bin (v := .int .i64 (bits .and .i64 x29 15)) (by conv => lhs; whnf) (by conv => lhs; whnf) rfl)) (by decide) ?_
        refine ao_cons (acts_of rfl (does_conv_int (v := .int .u64 (IntKind.u64.wrap (bits .and .i64 x29 15))) (by conv => lhs; whnf) (ty_some ty3) (ty_int ty23) rfl)) (by decide) ?_
        refine ao_cons (acts_of rfl (does_assign (v := .int .u64 (IntKind.u64.wrap (bits .and .i64 x29 15))) (by exact rfl))) (by decide) ?_
        refine ao_nil_n ?_
        refine hK27 _ ?_
        refine aw_seq_k (fun K30 hK30 => ?_)
        refine aw_reg ?_
        refine ao_cons (acts_of rfl (does_load (v := .agg [.int .u64 v9_s_0_2, .int .u64 v9_s_1_2, .int .i64 v9_s_2_2, .int .i64 v9_s_3_2, .bool v9_s_4_2, .sl 10 (List.map enc30 v9_s_5_2)]) (by conv => lhs; whnf) (by conv => lhs; whnf) ty28 (by exact rfl))) (by decide) ?_
        refine ao_cons (acts_of rfl (does_load (v := .agg [.int .u64 a2.Hi, .int .u64 a2.Lo]) (by conv => lhs; whnf) (by conv => lhs; whnf) ty25 (by exact rfl))) (by decide) ?_
        refine ao_cons (acts_of rfl (does_move (v := .int .u64 (IntKind.u64.wrap (bits .and .i64 x29 15))) (by exact rfl))) (by decide) ?_
        refine ao_cons (acts_of rfl (does_move (v := .int .i64 v11_2) (by exact rfl))) (by decide) ?_
        refine ao_cons (acts_of rfl ((do_build_struct (cs := [.int .u64 a2.Hi, .int .u64 a2.Lo, .int .u64 (IntKind.u64.wrap (bits .and .i64 x29 15)), .int .u64 0, .str (strOf []), .str (strOf []), .int .i64 v11_2, .int .i64 0, .bool false, .nil]) ty31 rfl [⟨.struct [(0, 23), (1, 23)], 2, 16, [.int .u64 0, .int .u64 0]⟩, ⟨.int .u64, 1, 8, [.int .u64 0]⟩, ⟨.int .u64, 1, 8, [.int .u64 0]⟩, ⟨.str, 1, 16, [.str ByteArray.empty]⟩, ⟨.str, 1, 16, [.str ByteArray.empty]⟩, ⟨.int .i64, 1, 8, [.int .i64 0]⟩, ⟨.int .i64, 1, 8, [.int .i64 0]⟩, ⟨.bool, 1, 1, [.bool false]⟩, ⟨.slice 69, 1, 24, [.nil]⟩] (by simp only [List.map, ty23, ty25, ty29, ty3, ty4, ty9]) (by rfl) (by exact rfl)).weak (v' := .agg [.int .u64 a2.Hi, .int .u64 a2.Lo, .int .u64 (IntKind.u64.wrap (bits .and .i64 x29 15)), .int .u64 0, .str (strOf []), .str (strOf []), .int .i64 v11_2, .int .i64 0, .bool false, .sl 2 (List.map enc68 [])]) (le_agg ⟨le_refl _, le_refl _, le_refl _, le_refl _, le_refl _, le_refl _, le_refl _, le_refl _, le_refl _, le_nil _, trivial⟩))) (by decide) ?_
        refine ao_cons (acts_of rfl (does_move (v := .int .i64 v11_2) (by exact rfl))) (by decide) ?_
        obtain ⟨x31, hx31, h⟩ := bnd_some h
        refine ao_cons (acts_of rfl (do_call0 55 false (episode_Add_ok (Episode.mk (Trace.mk v9_s_0_2 v9_s_1_2) v9_s_2_2 v9_s_3_2 v9_s_4_2 v9_s_5_2) (Span.mk a2 (IntKind.u64.wrap (bits .and .i64 x29 15)) 0 (strOf []) (strOf []) v11_2 0 false []) v11_2 hx31) rfl ent18 rfl rfl)) (by decide) ?_
        refine ao_cons (acts_of rfl (does_move (v := .tup [.agg [.int .u64 x31.1.Trace.Hi, .int .u64 x31.1.Trace.Lo, .int .i64 x31.1.First, .int .i64 x31.1.Last, .bool x31.1.Sure, .own 55 0], .bool x31.2]) (by exact rfl))) (by decide) ?_
        refine ao_cons (acts_of rfl (does_extract (v := .agg [.int .u64 x31.1.Trace.Hi, .int .u64 x31.1.Trace.Lo, .int .i64 x31.1.First, .int .i64 x31.1.Last, .bool x31.1.Sure, .own 55 0]) (by conv => lhs; whnf) (by exact rfl))) (by decide) ?_
        refine ao_cons (acts_of rfl (does_extract (v := .bool x31.2) (by conv => lhs; whnf) (by exact rfl))) (by decide) ?_
        refine ao_cons (acts_of rfl (do_store (cs' := [.int .u64 x31.1.Trace.Hi, .int .u64 x31.1.Trace.Lo, .int .i64 x31.1.First, .int .i64 x31.1.Last, .bool x31.1.Sure, .own 55 0]) (by conv => lhs; whnf) (by conv => lhs; whnf) (by conv => lhs; whnf) ty28 rfl rfl rfl (by exact rfl))) (by decide) ?_
        refine ao_nil_n ?_
        refine hK30 _ ?_
        refine aw_seq_k (fun K32 hK32 => ?_)
        refine aw_reg ?_
        refine ao_cons (acts_of rfl (does_assign (v := .bool false) (by exact rfl))) (by decide) ?_
        refine ao_nil_n ?_
        refine hK32 _ ?_
        obtain ⟨q33, h, hk34⟩ := bnd_some h
        refine aw_cut (fun s => ∃ (v13_3 : Bool), gleaninglaw15_EpisodeOnce_k3 a1 a2 v8_s_2 v10_s_2 v11_2 x29 x31 v13_3 = some q21 ∧ s = lit [(0, .sl 1 (List.map enc2 a0)), (1, .int .i64 a1), (5, .ptr 5 0 0), (8, .own 8 0), (9, .ptr 9 0 0), (10, .own 10 0), (11, .int .i64 v11_2), (12, .int .u64 (IntKind.u64.wrap (bits .and .i64 x29 15))), (13, .bool v13_3)] [((5, 0), .box [.int .u64 a2.Hi, .int .u64 a2.Lo]), ((8, 0), .arr 28 6 false (List.map enc27 v8_s_2)), ((9, 0), .box [.int .u64 x31.1.Trace.Hi, .int .u64 x31.1.Trace.Lo, .int .i64 x31.1.First, .int .i64 x31.1.Last, .bool x31.1.Sure, .own 55 0]), ((55, 0), .arr 31 10 false (List.map enc30 x31.1.Spans)), ((10, 0), .arr 23 1 false (List.map enc12 v10_s_2))] [(5, 1), (8, 1), (9, 1), (10, 1), (55, 1)] X) ?_ ?_
        · skip
          refine aw_seq_k (fun K35 hK35 => ?_)
          refine aw_reg ?_
          refine ao_cons (acts_of rfl (does_assign (v := .int .i64 0) (by exact rfl))) (by decide) ?_
          refine ao_nil_n ?_
          refine hK35 _ ?_
          refine aw_block ?_
          refine aw_loop' (fun m s => ∃ (v13_4 : Bool), ∃ (v14_4 : Int), loopN (fun (s : Bool × Int) => gleaninglaw15_EpisodeOnce_l4 v10_s_2 x29 s.1 s.2) m (v13_4, v14_4) = some q33 ∧ s = lit [(0, .sl 1 (List.map enc2 a0)), (1, .int .i64 a1), (5, .ptr 5 0 0), (8, .own 8 0), (9, .ptr 9 0 0), (10, .own 10 0), (11, .int .i64 v11_2), (12, .int .u64 (IntKind.u64.wrap (bits .and .i64 x29 15))), (13, .bool v13_4), (14, .int .i64 v14_4)] [((5, 0), .box [.int .u64 a2.Hi, .int .u64 a2.Lo]), ((8, 0), .arr 28 6 false (List.map enc27 v8_s_2)), ((9, 0), .box [.int .u64 x31.1.Trace.Hi, .int .u64 x31.1.Trace.Lo, .int .i64 x31.1.First, .int .i64 x31.1.Last, .bool x31.1.Sure, .own 55 0]), ((55, 0), .arr 31 10 false (List.map enc30 x31.1.Spans)), ((10, 0), .arr 23 1 false (List.map enc12 v10_s_2))] [(5, 1), (8, 1), (9, 1), (10, 1), (55, 1)] X) Fu
            ⟨_, reb_lit [(0, .sl 1 (List.map enc2 a0)), (1, .int .i64 a1), (5, .ptr 5 0 0), (8, .own 8 0), (9, .ptr 9 0 0), (10, .own 10 0), (11, .int .i64 v11_2), (12, .int .u64 (IntKind.u64.wrap (bits .and .i64 x29 15))), (13, .bool false), (14, .int .i64 (0))] [(5, 0), (8, 0), (9, 0), (55, 0), (10, 0)] [((5, 0), .box [.int .u64 a2.Hi, .int .u64 a2.Lo]), ((8, 0), .arr 28 6 false (List.map enc27 v8_s_2)), ((9, 0), .box [.int .u64 x31.1.Trace.Hi, .int .u64 x31.1.Trace.Lo, .int .i64 x31.1.First, .int .i64 x31.1.Last, .bool x31.1.Sure, .own 55 0]), ((55, 0), .arr 31 10 false (List.map enc30 x31.1.Spans)), ((10, 0), .arr 23 1 false (List.map enc12 v10_s_2))] [(5, 1), (8, 1), (9, 1), (10, 1), (55, 1)] (envOk_cons (by conv => lhs; whnf) (by exact rfl) (envOk_cons (by conv => lhs; whnf) (by exact rfl) (envOk_cons (by conv => lhs; whnf) (by exact rfl) (envOk_cons (by conv => lhs; whnf) (by exact rfl) (envOk_cons (by conv => lhs; whnf) (by exact rfl) (envOk_cons (by conv => lhs; whnf) (by exact rfl) (envOk_cons (by conv => lhs; whnf) (by exact rfl) (envOk_cons (by conv => lhs; whnf) (by exact rfl) (envOk_cons (by conv => lhs; whnf) (by exact rfl) (envOk_cons (by conv => lhs; whnf) (by exact rfl) envOk_nil)))))))))) (objOk_cons (by conv => lhs; whnf) (by conv => lhs; whnf) (by exact rfl) (by simp) (objOk_cons (by conv => lhs; whnf) (by conv => lhs; whnf) (by exact rfl) (by simp) (objOk_cons (by conv => lhs; whnf) (by conv => lhs; whnf) (by exact rfl) (by simp) (objOk_cons (by conv => lhs; whnf) (by conv => lhs; whnf) (by exact rfl) (by simp) (objOk_cons (by conv => lhs; whnf) (by conv => lhs; whnf) (by exact rfl) (by simp) objOk_nil))))) (nodup_b rfl) (nodup_b rfl) rfl rfl, false, 0, h, rfl⟩ ?_
          rintro m s ⟨v13_4, v14_4, h, rfl⟩
          obtain ⟨m4, q36, rfl, h, hq37⟩ := loop_some h
          replace h : gleaninglaw15_EpisodeOnce_l4 v10_s_2 x29 v13_4 v14_4 = some q36 := h
          unfold gleaninglaw15_EpisodeOnce_l4 at h
          refine aw_seq_k (fun K38 hK38 => ?_)
          refine aw_seq_k (fun K39 hK39 => ?_)
          refine aw_reg ?_
          refine ao_cons (acts_of rfl (does_move (v := .int .i64 v14_4) (by exact rfl))) (by decide) ?_
          refine ao_cons (acts_of rfl (does_move (v := .own 10 0) (by exact rfl))) (by decide) ?_
          refine ao_cons (acts_of rfl ((does_len_own (by conv => lhs; whnf) (by conv => lhs; whnf) ty42).cast (v' := .int .i64 (List.length v10_s_2 : Int)) (by exact len_map _))) (by decide) ?_
          refine ao_cons (acts_of rfl (does_bin (v := .bool (decide (v14_4 < (List.length v10_s_2 : Int)))) (by conv => lhs; whnf) (by conv => lhs; whnf) rfl)) (by decide) ?_
          refine ao_nil_n ?_
          refine hK39 _ ?_
          refine aw_bool (b := (decide (v14_4 < (List.length v10_s_2 : Int)))) 61 rfl (fun c40 => ?_) (fun c40 => ?_)
          · have h := ifT c40 h
            refine aw_cond_t (by decide) rfl ?_
            refine aw_skip ?_
            refine hK38 _ ?_
            refine aw_seq_k (fun K41 hK41 => ?_)
            refine aw_block ?_
            refine aw_reg ?_
            refine ao_cons (acts_of rfl (does_move (v := .bool v13_4) (by exact rfl))) (by decide) ?_
            refine ao_cons (acts_of rfl (does_move (v := .bool v13_4) (by exact rfl))) (by decide) ?_
            refine ao_bool (c := v13_4) 65 rfl (fun c42 => ?_) (fun c42 => ?_)
            · have h := ifT c42 h
              refine ao_cons (acts_skip rfl) (by decide) ?_
              refine ao_cons (acts_skip rfl) (by decide) ?_
              refine ao_cons (acts_skip rfl) (by decide) ?_
              refine ao_cons (acts_skip rfl) (by decide) ?_
              refine ao_cons (acts_skip rfl) (by decide) ?_
              refine ao_cons (acts_skip rfl) (by decide) ?_
              refine ao_cons (acts_of rfl (does_pick (v := .bool true) (by conv => lhs; whnf) (by exact rfl))) (by decide) ?_
              refine ao_cons (acts_of rfl (does_assign (v := .bool true) (by exact rfl))) (by decide) ?_
              refine ao_nil_n ?_
              refine hK41 _ ?_
              refine aw_reg ?_
              refine ao_cons (acts_of rfl (does_move (v := .int .i64 v14_4) (by exact rfl))) (by decide) ?_
              refine ao_cons (acts_of rfl (does_bin (v := .int .i64 (IntKind.i64.wrap (v14_4 + 1))) (by conv => lhs; whnf) (by conv => lhs; whnf) rfl)) (by decide) ?_
              refine ao_cons (acts_of rfl (does_assign (v := .int .i64 (IntKind.i64.wrap (v14_4 + 1))) (by exact rfl))) (by decide) ?_
              refine ao_nil_n ?_
              have h := leafL h hq37
              exact ⟨m4, Nat.lt_succ_self _, _, reb_lit [(0, .sl 1 (List.map enc2 a0)), (1, .int .i64 a1), (5, .ptr 5 0 0), (8, .own 8 0), (9, .ptr 9 0 0), (10, .own 10 0), (11, .int .i64 v11_2), (12, .int .u64 (IntKind.u64.wrap (bits .and .i64 x29 15))), (13, .bool true), (14, .int .i64 (IntKind.i64.wrap (v14_4 + 1)))] [(5, 0), (8, 0), (9, 0), (55, 0), (10, 0)] [((5, 0), .box [.int .u64 a2.Hi, .int .u64 a2.Lo]), ((8, 0), .arr 28 6 false (List.map enc27 v8_s_2)), ((9, 0), .box [.int .u64 x31.1.Trace.Hi, .int .u64 x31.1.Trace.Lo, .int .i64 x31.1.First, .int .i64 x31.1.Last, .bool x31.1.Sure, .own 55 0]), ((55, 0), .arr 31 10 false (List.map enc30 x31.1.Spans)), ((10, 0), .arr 23 1 false (List.map enc12 v10_s_2))] [(5, 1), (8, 1), (9, 1), (10, 1), (55, 1)] (envOk_cons (by conv => lhs; whnf) (by exact rfl) (envOk_cons (by conv => lhs; whnf) (by exact rfl) (envOk_cons (by conv => lhs; whnf) (by exact rfl) (envOk_cons (by conv => lhs; whnf) (by exact rfl) (envOk_cons (by conv => lhs; whnf) (by exact rfl) (envOk_cons (by conv => lhs; whnf) (by exact rfl) (envOk_cons (by conv => lhs; whnf) (by exact rfl) (envOk_cons (by conv => lhs; whnf) (by exact rfl) (envOk_cons (by conv => lhs; whnf) (by exact rfl) (envOk_cons (by conv => lhs; whnf) (by exact rfl) envOk_nil)))))))))) (objOk_cons (by conv => lhs; whnf) (by conv => lhs; whnf) (by exact rfl) (by simp) (objOk_cons (by conv => lhs; whnf) (by conv => lhs; whnf) (by exact rfl) (by simp) (objOk_cons (by conv => lhs; whnf) (by conv => lhs; whnf) (by exact rfl) (by simp) (objOk_cons (by conv => lhs; whnf) (by conv => lhs; whnf) (by exact rfl) (by simp) (objOk_cons (by conv => lhs; whnf) (by conv => lhs; whnf) (by exact rfl) (by simp) objOk_nil))))) (nodup_b rfl) (nodup_b rfl) rfl rfl, true, (IntKind.i64.wrap (v14_4 + 1)), h, rfl⟩
            · have h := ifF c42 h
              refine ao_cons (acts_of rfl (does_move (v := .own 10 0) (by exact rfl))) (by decide) ?_
              refine ao_cons (acts_of rfl (does_move (v := .int .i64 v14_4) (by exact rfl))) (by decide) ?_
              obtain ⟨g43, h⟩ := gd_some h
              obtain ⟨x44, hx44, h⟩ := bnd_some h
              refine ao_cons (acts_of rfl (does_indexAddr_own (by conv => lhs; whnf) (by conv => lhs; whnf) (by conv => lhs; whnf) ty42 ty23 g43 (by exact own_lt hx44))) (by decide) ?_
              refine ao_cons (acts_of rfl (does_load (v := .int .u64 x44) (by conv => lhs; whnf) (cellsAt_eptr (by conv => lhs; whnf) (by exact map_get hx44)) ty23 (by exact rfl))) (by decide) ?_
              refine ao_cons (acts_of rfl (does_move (v := .int .u64 (IntKind.u64.wrap (bits .and .i64 x29 15))) (by exact rfl))) (by decide) ?_
              refine ao_cons (acts_of rfl (does_bin (v := .bool (x44 == (IntKind.u64.wrap (bits .and .i64 x29 15)))) (by conv => lhs; whnf) (by conv => lhs; whnf) rfl)) (by decide) ?_
              refine ao_cons (acts_of rfl (does_pick (v := .bool (x44 == (IntKind.u64.wrap (bits .and .i64 x29 15)))) (by conv => lhs; whnf) (by exact rfl))) (by decide) ?_
              refine ao_cons (acts_of rfl (does_assign (v := .bool (x44 == (IntKind.u64.wrap (bits .and .i64 x29 15)))) (by exact rfl))) (by decide) ?_
              refine ao_nil_n ?_
              refine hK41 _ ?_
              refine aw_reg ?_
              refine ao_cons (acts_of rfl (does_move (v := .int .i64 v14_4) (by exact rfl))) (by decide) ?_
              refine ao_cons (acts_of rfl (does_bin (v := .int .i64 (IntKind.i64.wrap (v14_4 + 1))) (by conv => lhs; whnf) (by conv => lhs; whnf) rfl)) (by decide) ?_
              refine ao_cons (acts_of rfl (does_assign (v := .int .i64 (IntKind.i64.wrap (v14_4 + 1))) (by exact rfl))) (by decide) ?_
              refine ao_nil_n ?_
              have h := leafL h hq37
              exact ⟨m4, Nat.lt_succ_self _, _, reb_lit [(0, .sl 1 (List.map enc2 a0)), (1, .int .i64 a1), (5, .ptr 5 0 0), (8, .own 8 0), (9, .ptr 9 0 0), (10, .own 10 0), (11, .int .i64 v11_2), (12, .int .u64 (IntKind.u64.wrap (bits .and .i64 x29 15))), (13, .bool (x44 == (IntKind.u64.wrap (bits .and .i64 x29 15)))), (14, .int .i64 (IntKind.i64.wrap (v14_4 + 1)))] [(5, 0), (8, 0), (9, 0), (55, 0), (10, 0)] [((5, 0), .box [.int .u64 a2.Hi, .int .u64 a2.Lo]), ((8, 0), .arr 28 6 false (List.map enc27 v8_s_2)), ((9, 0), .box [.int .u64 x31.1.Trace.Hi, .int .u64 x31.1.Trace.Lo, .int .i64 x31.1.First, .int .i64 x31.1.Last, .bool x31.1.Sure, .own 55 0]), ((55, 0), .arr 31 10 false (List.map enc30 x31.1.Spans)), ((10, 0), .arr 23 1 false (List.map enc12 v10_s_2))] [(5, 1), (8, 1), (9, 1), (10, 1), (55, 1)] (envOk_cons (by conv => lhs; whnf) (by exact rfl) (envOk_cons (by conv => lhs; whnf) (by exact rfl) (envOk_cons (by conv => lhs; whnf) (by exact rfl) (envOk_cons (by conv => lhs; whnf) (by exact rfl) (envOk_cons (by conv => lhs; whnf) (by exact rfl) (envOk_cons (by conv => lhs; whnf) (by exact rfl) (envOk_cons (by conv => lhs; whnf) (by exact rfl) (envOk_cons (by conv => lhs; whnf) (by exact rfl) (envOk_cons (by conv => lhs; whnf) (by exact rfl) (envOk_cons (by conv => lhs; whnf) (by exact rfl) envOk_nil)))))))))) (objOk_cons (by conv => lhs; whnf) (by conv => lhs; whnf) (by exact rfl) (by simp) (objOk_cons (by conv => lhs; whnf) (by conv => lhs; whnf) (by exact rfl) (by simp) (objOk_cons (by conv => lhs; whnf) (by conv => lhs; whnf) (by exact rfl) (by simp) (objOk_cons (by conv => lhs; whnf) (by conv => lhs; whnf) (by exact rfl) (by simp) (objOk_cons (by conv => lhs; whnf) (by conv => lhs; whnf) (by exact rfl) (by simp) objOk_nil))))) (nodup_b rfl) (nodup_b rfl) rfl rfl, (x44 == (IntKind.u64.wrap (bits .and .i64 x29 15))), (IntKind.i64.wrap (v14_4 + 1)), h, rfl⟩
          · have h := ifF c40 h
            refine aw_cond_f (by decide) rfl ?_
            refine aw_exit ?_
            have h := leafR h hq37
            obtain rfl := Option.some.inj h
            have h := hk34
            exact ⟨_, reb_lit [(0, .sl 1 (List.map enc2 a0)), (1, .int .i64 a1), (5, .ptr 5 0 0), (8, .own 8 0), (9, .ptr 9 0 0), (10, .own 10 0), (11, .int .i64 v11_2), (12, .int .u64 (IntKind.u64.wrap (bits .and .i64 x29 15))), (13, .bool v13_4)] [(5, 0), (8, 0), (9, 0), (55, 0), (10, 0)] [((5, 0), .box [.int .u64 a2.Hi, .int .u64 a2.Lo]), ((8, 0), .arr 28 6 false (List.map enc27 v8_s_2)), ((9, 0), .box [.int .u64 x31.1.Trace.Hi, .int .u64 x31.1.Trace.Lo, .int .i64 x31.1.First, .int .i64 x31.1.Last, .bool x31.1.Sure, .own 55 0]), ((55, 0), .arr 31 10 false (List.map enc30 x31.1.Spans)), ((10, 0), .arr 23 1 false (List.map enc12 v10_s_2))] [(5, 1), (8, 1), (9, 1), (10, 1), (55, 1)] (envOk_cons (by conv => lhs; whnf) (by exact rfl) (envOk_cons (by conv => lhs; whnf) (by exact rfl) (envOk_cons (by conv => lhs; whnf) (by exact rfl) (envOk_cons (by conv => lhs; whnf) (by exact rfl) (envOk_cons (by conv => lhs; whnf) (by exact rfl) (envOk_cons (by conv => lhs; whnf) (by exact rfl) (envOk_cons (by conv => lhs; whnf) (by exact rfl) (envOk_cons (by conv => lhs; whnf) (by exact rfl) (envOk_cons (by conv => lhs; whnf) (by exact rfl) envOk_nil))))))))) (objOk_cons (by conv => lhs; whnf) (by conv => lhs; whnf) (by exact rfl) (by simp) (objOk_cons (by conv => lhs; whnf) (by conv => lhs; whnf) (by exact rfl) (by simp) (objOk_cons (by conv => lhs; whnf) (by conv => lhs; whnf) (by exact rfl) (by simp) (objOk_cons (by conv => lhs; whnf) (by conv => lhs; whnf) (by exact rfl) (by simp) (objOk_cons (by conv => lhs; whnf) (by conv => lhs; whnf) (by exact rfl) (by simp) objOk_nil))))) (nodup_b rfl) (nodup_b rfl) rfl rfl, v13_4, h, rfl⟩
        · rintro s ⟨v13_3, h, rfl⟩
          unfold gleaninglaw15_EpisodeOnce_k3 at h
          obtain ⟨q45, h, hk46⟩ := bnd_some h
          refine aw_cut (fun s => ∃ (v10_s_5 : List Int), gleaninglaw15_EpisodeOnce_k5 a1 a2 v8_s_2 v11_2 x31 v10_s_5 = some q21 ∧ s = lit [(0, .sl 1 (List.map enc2 a0)), (1, .int .i64 a1), (5, .ptr 5 0 0), (8, .own 8 0), (9, .ptr 9 0 0), (10, .own 78 0), (11, .int .i64 v11_2)] [((5, 0), .box [.int .u64 a2.Hi, .int .u64 a2.Lo]), ((8, 0), .arr 28 6 false (List.map enc27 v8_s_2)), ((9, 0), .box [.int .u64 x31.1.Trace.Hi, .int .u64 x31.1.Trace.Lo, .int .i64 x31.1.First, .int .i64 x31.1.Last, .bool x31.1.Sure, .own 55 0]), ((55, 0), .arr 31 10 false (List.map enc30 x31.1.Spans)), ((78, 0), .arr 23 1 false (List.map enc12 v10_s_5))] [(5, 1), (8, 1), (9, 1), (55, 1), (78, 1)] X) ?_ ?_
          · skip
            refine aw_seq_k (fun K47 hK47 => ?_)
            refine aw_reg ?_
            refine ao_cons (acts_of rfl (does_move (v := .bool v13_3) (by exact rfl))) (by decide) ?_
            refine ao_cons (acts_of rfl (does_un (v := .bool (!v13_3)) (by conv => lhs; whnf) rfl)) (by decide) ?_
            refine ao_nil_n ?_
            refine hK47 _ ?_
            refine aw_bool (b := (!v13_3)) 74 rfl (fun c48 => ?_) (fun c48 => ?_)
            · have h := ifT c48 h
              refine aw_cond_t (by decide) rfl ?_
              refine aw_reg ?_
              refine ao_cons (acts_of rfl (does_move (v := .own 10 0) (by exact rfl))) (by decide) ?_
              refine ao_cons (acts_of rfl (does_move (v := .int .u64 (IntKind.u64.wrap (bits .and .i64 x29 15))) (by exact rfl))) (by decide) ?_
              refine ao_cons (acts_of rfl (do_buildSlice (xs := List.map enc12 [(IntKind.u64.wrap (bits .and .i64 x29 15))]) ty42 ty23 rfl rfl rfl rfl rfl rfl rfl rfl)) (by decide) ?_
              obtain ⟨g49, h⟩ := gd_some h
              refine ao_cons (acts_of rfl (do_append (v := List.map enc12 (v10_s_2 ++ [(IntKind.u64.wrap (bits .and .i64 x29 15))])) (by conv => lhs; whnf) (by conv => lhs; whnf) ty42 ty23 rfl rfl (by conv => lhs; whnf) (by first | exact .inl rfl | exact .inr ⟨rfl, rfl⟩) (by conv => lhs; whnf) (by first | exact .inr rfl | exact .inl rfl) (map_app _ _) (fit_map g49))) (by decide) ?_
              refine ao_cons (acts_of rfl (does_assign (v := .own 78 0) (by exact rfl))) (by decide) ?_
              refine ao_nil_n ?_
              obtain rfl := Option.some.inj h
              have h := hk46
              exact ⟨_, reb_lit [(0, .sl 1 (List.map enc2 a0)), (1, .int .i64 a1), (5, .ptr 5 0 0), (8, .own 8 0), (9, .ptr 9 0 0), (10, .own 78 0), (11, .int .i64 v11_2)] [(5, 0), (8, 0), (9, 0), (55, 0), (78, 0)] [((5, 0), .box [.int .u64 a2.Hi, .int .u64 a2.Lo]), ((8, 0), .arr 28 6 false (List.map enc27 v8_s_2)), ((9, 0), .box [.int .u64 x31.1.Trace.Hi, .int .u64 x31.1.Trace.Lo, .int .i64 x31.1.First, .int .i64 x31.1.Last, .bool x31.1.Sure, .own 55 0]), ((55, 0), .arr 31 10 false (List.map enc30 x31.1.Spans)), ((78, 0), .arr 23 1 false (List.map enc12 (v10_s_2 ++ [(IntKind.u64.wrap (bits .and .i64 x29 15))])))] [(5, 1), (8, 1), (9, 1), (55, 1), (78, 1)] (envOk_cons (by conv => lhs; whnf) (by exact rfl) (envOk_cons (by conv => lhs; whnf) (by exact rfl) (envOk_cons (by conv => lhs; whnf) (by exact rfl) (envOk_cons (by conv => lhs; whnf) (by exact rfl) (envOk_cons (by conv => lhs; whnf) (by exact rfl) (envOk_cons (by conv => lhs; whnf) (by exact rfl) (envOk_cons (by conv => lhs; whnf) (by exact rfl) envOk_nil))))))) (objOk_cons (by conv => lhs; whnf) (by conv => lhs; whnf) (by exact rfl) (by simp) (objOk_cons (by conv => lhs; whnf) (by conv => lhs; whnf) (by exact rfl) (by simp) (objOk_cons (by conv => lhs; whnf) (by conv => lhs; whnf) (by exact rfl) (by simp) (objOk_cons (by conv => lhs; whnf) (by conv => lhs; whnf) (by exact rfl) (by simp) (objOk_cons (by conv => lhs; whnf) (by conv => lhs; whnf) (by exact rfl) (by simp) objOk_nil))))) (nodup_b rfl) (nodup_b rfl) rfl rfl, (v10_s_2 ++ [(IntKind.u64.wrap (bits .and .i64 x29 15))]), h, rfl⟩
            · have h := ifF c48 h
              refine aw_cond_f (by decide) rfl ?_
              refine aw_skip ?_
              obtain rfl := Option.some.inj h
              have h := hk46
              exact ⟨_, reb_lit [(0, .sl 1 (List.map enc2 a0)), (1, .int .i64 a1), (5, .ptr 5 0 0), (8, .own 8 0), (9, .ptr 9 0 0), (10, .own 78 0), (11, .int .i64 v11_2)] [(5, 0), (8, 0), (9, 0), (55, 0), (10, 0)] [((5, 0), .box [.int .u64 a2.Hi, .int .u64 a2.Lo]), ((8, 0), .arr 28 6 false (List.map enc27 v8_s_2)), ((9, 0), .box [.int .u64 x31.1.Trace.Hi, .int .u64 x31.1.Trace.Lo, .int .i64 x31.1.First, .int .i64 x31.1.Last, .bool x31.1.Sure, .own 55 0]), ((55, 0), .arr 31 10 false (List.map enc30 x31.1.Spans)), ((78, 0), .arr 23 1 false (List.map enc12 v10_s_2))] [(5, 1), (8, 1), (9, 1), (55, 1), (78, 1)] (envOk_cons (by conv => lhs; whnf) (by exact rfl) (envOk_cons (by conv => lhs; whnf) (by exact rfl) (envOk_cons (by conv => lhs; whnf) (by exact rfl) (envOk_cons (by conv => lhs; whnf) (by exact rfl) (envOk_cons (by conv => lhs; whnf) (by exact rfl) (envOk_cons (by conv => lhs; whnf) (by exact rfl) (envOk_cons (by conv => lhs; whnf) (by exact rfl) envOk_nil))))))) (objOk_cons (by conv => lhs; whnf) (by conv => lhs; whnf) (by exact rfl) (by simp) (objOk_cons (by conv => lhs; whnf) (by conv => lhs; whnf) (by exact rfl) (by simp) (objOk_cons (by conv => lhs; whnf) (by conv => lhs; whnf) (by exact rfl) (by simp) (objOk_cons (by conv => lhs; whnf) (by conv => lhs; whnf) (by exact rfl) (by simp) (objOk_cons (by conv => lhs; whnf) (by conv => lhs; whnf) (by exact rfl) (by simp) objOk_nil))))) (nodup_b rfl) (nodup_b rfl) rfl rfl, v10_s_2, h, rfl⟩
          · rintro s ⟨v10_s_5, h, rfl⟩
            unfold gleaninglaw15_EpisodeOnce_k5 at h
            refine aw_seq_k (fun K50 hK50 => ?_)
            refine aw_reg ?_
            refine ao_cons (acts_of rfl (does_move (v := .int .i64 v11_2) (by exact rfl))) (by decide) ?_
            refine ao_cons (acts_of rfl (does_bin (v := .int .i64 (IntKind.i64.wrap (v11_2 + 1))) (by conv => lhs; whnf) (by conv => lhs; whnf) rfl)) (by decide) ?_
            refine ao_cons (acts_of rfl (does_move (v := .int .i64 a1) (by exact rfl))) (by decide) ?_
            obtain ⟨g51, h⟩ := gd_some h
            refine ao_cons (acts_of rfl (does_bin (v := .int .i64 (Int.tmod (IntKind.i64.wrap (v11_2 + 1)) a1)) (by conv => lhs; whnf) (by conv => lhs; whnf) (rem_hv g51))) (by decide) ?_
            refine ao_cons (acts_of rfl (does_bin (v := .bool ((Int.tmod (IntKind.i64.wrap (v11_2 + 1)) a1) == 0)) (by conv => lhs; whnf) (by conv => lhs; whnf) rfl)) (by decide) ?_
            refine ao_nil_n ?_
            refine hK50 _ ?_
            refine aw_bool (b := ((Int.tmod (IntKind.i64.wrap (v11_2 + 1)) a1) == 0)) 83 rfl (fun c52 => ?_) (fun c52 => ?_)
            · have h := ifT c52 h
              refine aw_cond_t (by decide) rfl ?_
              refine aw_seq_k (fun K53 hK53 => ?_)
              refine aw_reg ?_
              refine ao_cons (acts_of rfl (does_move (v := .own 8 0) (by exact rfl))) (by decide) ?_
              refine ao_cons (acts_of rfl (does_load (v := .agg [.int .u64 x31.1.Trace.Hi, .int .u64 x31.1.Trace.Lo, .int .i64 x31.1.First, .int .i64 x31.1.Last, .bool x31.1.Sure, .own 55 0]) (by conv => lhs; whnf) (by conv => lhs; whnf) ty28 (by exact rfl))) (by decide) ?_
              refine ao_cons (acts_of rfl (does_fieldAddr (q := .ptr 5 0 0) (by conv => lhs; whnf) ty25 rfl ty23 (by decide) (by exact rfl))) (by decide) ?_
              refine ao_cons (acts_of rfl (does_load (v := .int .u64 a2.Hi) (by conv => lhs; whnf) (by conv => lhs; whnf) ty23 (by exact rfl))) (by decide) ?_
              refine ao_cons (acts_of rfl (does_fieldAddr (q := .ptr 5 0 1) (by conv => lhs; whnf) ty25 rfl ty23 (by decide) (by exact rfl))) (by decide) ?_
              refine ao_cons (acts_of rfl (does_load (v := .int .u64 a2.Lo) (by conv => lhs; whnf) (by conv => lhs; whnf) ty23 (by exact rfl))) (by decide) ?_
              refine ao_cons (acts_of rfl (does_bin (v := .int .u64 (IntKind.u64.wrap (a2.Lo + 1))) (by conv => lhs; whnf) (by conv => lhs; whnf) rfl)) (by decide) ?_
              refine ao_cons (acts_of rfl (do_build_struct (cs := [.int .u64 a2.Hi, .int .u64 (IntKind.u64.wrap (a2.Lo + 1))]) ty25 rfl [⟨.int .u64, 1, 8, [.int .u64 0]⟩, ⟨.int .u64, 1, 8, [.int .u64 0]⟩] (by simp only [List.map, ty23]) (by rfl) (by exact rfl))) (by decide) ?_
              refine ao_cons (acts_of rfl ((do_build_struct (cs := [.int .u64 0, .int .u64 0, .int .u64 99, .int .u64 0, .str (strOf []), .str (strOf []), .int .i64 0, .int .i64 0, .bool false, .nil]) ty31 rfl [⟨.struct [(0, 23), (1, 23)], 2, 16, [.int .u64 0, .int .u64 0]⟩, ⟨.int .u64, 1, 8, [.int .u64 0]⟩, ⟨.int .u64, 1, 8, [.int .u64 0]⟩, ⟨.str, 1, 16, [.str ByteArray.empty]⟩, ⟨.str, 1, 16, [.str ByteArray.empty]⟩, ⟨.int .i64, 1, 8, [.int .i64 0]⟩, ⟨.int .i64, 1, 8, [.int .i64 0]⟩, ⟨.bool, 1, 1, [.bool false]⟩, ⟨.slice 69, 1, 24, [.nil]⟩] (by simp only [List.map, ty23, ty25, ty29, ty3, ty4, ty9]) (by rfl) (by exact rfl)).weak (v' := .agg [.int .u64 0, .int .u64 0, .int .u64 99, .int .u64 0, .str (strOf []), .str (strOf []), .int .i64 0, .int .i64 0, .bool false, .sl 2 (List.map enc68 [])]) (le_agg ⟨le_refl _, le_refl _, le_refl _, le_refl _, le_refl _, le_refl _, le_refl _, le_refl _, le_refl _, le_nil _, trivial⟩))) (by decide) ?_
              refine ao_cons (acts_of rfl (do_buildSlice (xs := List.map enc30 [(Span.mk (Trace.mk 0 0) 99 0 (strOf []) (strOf []) 0 0 false [])]) ty26 ty31 rfl rfl rfl rfl rfl rfl rfl rfl)) (by decide) ?_
              refine ao_cons (acts_of rfl (do_build_struct (cs := [.int .u64 a2.Hi, .int .u64 (IntKind.u64.wrap (a2.Lo + 1)), .int .i64 0, .int .i64 0, .bool false, .own 93 0]) ty28 rfl [⟨.struct [(0, 23), (1, 23)], 2, 16, [.int .u64 0, .int .u64 0]⟩, ⟨.int .i64, 1, 8, [.int .i64 0]⟩, ⟨.int .i64, 1, 8, [.int .i64 0]⟩, ⟨.bool, 1, 1, [.bool false]⟩, ⟨.slice 31, 1, 24, [.nil]⟩] (by simp only [List.map, ty25, ty26, ty3, ty4]) (by rfl) (by exact rfl))) (by decide) ?_
              refine ao_cons (acts_of rfl (does_frz (d := 55) (n := 0) (by conv => lhs; whnf) (does_frz (d := 93) (n := 0) (by conv => lhs; whnf) (do_buildSlice (xs := List.map enc27 [x31.1, (Episode.mk (Trace.mk a2.Hi (IntKind.u64.wrap (a2.Lo + 1))) 0 0 false [(Span.mk (Trace.mk 0 0) 99 0 (strOf []) (strOf []) 0 0 false [])])]) ty22 ty28 rfl rfl rfl rfl rfl rfl rfl rfl)))) (by decide) ?_
              obtain ⟨g54, h⟩ := gd_some h
              refine ao_cons (acts_of rfl (do_append (v := List.map enc27 (v8_s_2 ++ [x31.1, (Episode.mk (Trace.mk a2.Hi (IntKind.u64.wrap (a2.Lo + 1))) 0 0 false [(Span.mk (Trace.mk 0 0) 99 0 (strOf []) (strOf []) 0 0 false [])])])) (by conv => lhs; whnf) (by conv => lhs; whnf) ty22 ty28 rfl rfl (by conv => lhs; whnf) (by first | exact .inl rfl | exact .inr ⟨rfl, rfl⟩) (by conv => lhs; whnf) (by first | exact .inr rfl | exact .inl rfl) (map_app _ _) (fit_map g54))) (by decide) ?_
              refine ao_cons (acts_of rfl (does_assign (v := .own 96 0) (by exact rfl))) (by decide) ?_
              refine ao_nil_n ?_
              refine hK53 _ ?_
              refine aw_reg ?_
              refine ao_cons (acts_of rfl (does_load (v := .agg [.int .u64 a2.Hi, .int .u64 a2.Lo]) (by conv => lhs; whnf) (by conv => lhs; whnf) ty25 (by exact rfl))) (by decide) ?_
              refine ao_cons (acts_of rfl (do_build_struct (cs := [.int .u64 a2.Hi, .int .u64 a2.Lo, .int .i64 0, .int .i64 0, .bool false, .nil]) ty28 rfl [⟨.struct [(0, 23), (1, 23)], 2, 16, [.int .u64 0, .int .u64 0]⟩, ⟨.int .i64, 1, 8, [.int .i64 0]⟩, ⟨.int .i64, 1, 8, [.int .i64 0]⟩, ⟨.bool, 1, 1, [.bool false]⟩, ⟨.slice 31, 1, 24, [.nil]⟩] (by simp only [List.map, ty25, ty26, ty3, ty4]) (by rfl) (by exact rfl))) (by decide) ?_
              refine ao_cons (acts_of rfl (do_store (cs' := [.int .u64 a2.Hi, .int .u64 a2.Lo, .int .i64 0, .int .i64 0, .bool false, .nil]) (by conv => lhs; whnf) (by conv => lhs; whnf) (by conv => lhs; whnf) ty28 rfl rfl rfl (by exact rfl))) (by decide) ?_
              refine ao_nil_n ?_
              refine hK26 _ ?_
              refine aw_reg ?_
              refine ao_cons (acts_of rfl (does_move (v := .int .i64 v11_2) (by exact rfl))) (by decide) ?_
              refine ao_cons (acts_of rfl (does_bin (v := .int .i64 (IntKind.i64.wrap (v11_2 + 1))) (by conv => lhs; whnf) (by conv => lhs; whnf) rfl)) (by decide) ?_
              refine ao_cons (acts_of rfl (does_assign (v := .int .i64 (IntKind.i64.wrap (v11_2 + 1))) (by exact rfl))) (by decide) ?_
              refine ao_nil_n ?_
              have h := leafL h hq22
              exact ⟨m2, Nat.lt_succ_self _, _, reb_w (tl' := [(0, .sl 1 (List.map enc2 a0)), (1, .int .i64 a1), (5, .ptr 5 0 0), (8, .own 8 0), (9, .ptr 9 0 0), (10, .own 10 0), (11, .int .i64 (IntKind.i64.wrap (v11_2 + 1)))]) (ol' := [((5, 0), .box [.int .u64 a2.Hi, .int .u64 a2.Lo]), ((8, 0), .arr 28 6 false (List.map enc27 (v8_s_2 ++ [x31.1, (Episode.mk (Trace.mk a2.Hi (IntKind.u64.wrap (a2.Lo + 1))) 0 0 false [(Span.mk (Trace.mk 0 0) 99 0 (strOf []) (strOf []) 0 0 false [])])]))), ((9, 0), .box [.int .u64 a2.Hi, .int .u64 a2.Lo, .int .i64 (0), .int .i64 (0), .bool false, .sl 10 (List.map enc30 [])]), ((10, 0), .arr 23 1 false (List.map enc12 v10_s_5))]) (reb_lit [(0, .sl 1 (List.map enc2 a0)), (1, .int .i64 a1), (5, .ptr 5 0 0), (8, .own 8 0), (9, .ptr 9 0 0), (10, .own 10 0), (11, .int .i64 (IntKind.i64.wrap (v11_2 + 1)))] [(5, 0), (96, 0), (9, 0), (78, 0)] [((5, 0), .box [.int .u64 a2.Hi, .int .u64 a2.Lo]), ((8, 0), .arr 28 6 false (List.map enc27 (v8_s_2 ++ [x31.1, (Episode.mk (Trace.mk a2.Hi (IntKind.u64.wrap (a2.Lo + 1))) 0 0 false [(Span.mk (Trace.mk 0 0) 99 0 (strOf []) (strOf []) 0 0 false [])])]))), ((9, 0), .box [.int .u64 a2.Hi, .int .u64 a2.Lo, .int .i64 (0), .int .i64 (0), .bool false, .nil]), ((10, 0), .arr 23 1 false (List.map enc12 v10_s_5))] [(5, 1), (8, 1), (9, 1), (10, 1)] (envOk_cons (by conv => lhs; whnf) (by exact rfl) (envOk_cons (by conv => lhs; whnf) (by exact rfl) (envOk_cons (by conv => lhs; whnf) (by exact rfl) (envOk_cons (by conv => lhs; whnf) (by exact rfl) (envOk_cons (by conv => lhs; whnf) (by exact rfl) (envOk_cons (by conv => lhs; whnf) (by exact rfl) (envOk_cons (by conv => lhs; whnf) (by exact rfl) envOk_nil))))))) (objOk_cons (by conv => lhs; whnf) (by conv => lhs; whnf) (by exact rfl) (by simp) (objOk_cons (by conv => lhs; whnf) (by conv => lhs; whnf) (by exact rfl) (by simp) (objOk_cons (by conv => lhs; whnf) (by conv => lhs; whnf) (by exact rfl) (by simp) (objOk_cons (by conv => lhs; whnf) (by conv => lhs; whnf) (by exact rfl) (by simp) objOk_nil)))) (nodup_b rfl) (nodup_b rfl) rfl rfl) ⟨rfl, le_refl _, rfl, le_refl _, rfl, le_refl _, rfl, le_refl _, rfl, le_refl _, rfl, le_refl _, rfl, le_refl _, trivial⟩ ⟨rfl, .rfl _, rfl, .rfl _, rfl, (.box ⟨le_refl _, le_refl _, le_refl _, le_refl _, le_refl _, le_nil _, trivial⟩), rfl, .rfl _, trivial⟩, (v8_s_2 ++ [x31.1, (Episode.mk (Trace.mk a2.Hi (IntKind.u64.wrap (a2.Lo + 1))) 0 0 false [(Span.mk (Trace.mk 0 0) 99 0 (strOf []) (strOf []) 0 0 false [])])]), a2.Hi, a2.Lo, 0, 0, false, [], v10_s_5, (IntKind.i64.wrap (v11_2 + 1)), h, rfl⟩
            · have h := ifF c52 h
              refine aw_cond_f (by decide) rfl ?_
              refine aw_skip ?_
              refine hK26 _ ?_
              refine aw_reg ?_
              refine ao_cons (acts_of rfl (does_move (v := .int .i64 v11_2) (by exact rfl))) (by decide) ?_
              refine ao_cons (acts_of rfl (does_bin (v := .int .i64 (IntKind.i64.wrap (v11_2 + 1))) (by conv => lhs; whnf) (by conv => lhs; whnf) rfl)) (by decide) ?_
              refine ao_cons (acts_of rfl (does_assign (v := .int .i64 (IntKind.i64.wrap (v11_2 + 1))) (by exact rfl))) (by decide) ?_
              refine ao_nil_n ?_
              have h := leafL h hq22
              exact ⟨m2, Nat.lt_succ_self _, _, reb_lit [(0, .sl 1 (List.map enc2 a0)), (1, .int .i64 a1), (5, .ptr 5 0 0), (8, .own 8 0), (9, .ptr 9 0 0), (10, .own 10 0), (11, .int .i64 (IntKind.i64.wrap (v11_2 + 1)))] [(5, 0), (8, 0), (9, 0), (78, 0)] [((5, 0), .box [.int .u64 a2.Hi, .int .u64 a2.Lo]), ((8, 0), .arr 28 6 false (List.map enc27 v8_s_2)), ((9, 0), .box [.int .u64 x31.1.Trace.Hi, .int .u64 x31.1.Trace.Lo, .int .i64 x31.1.First, .int .i64 x31.1.Last, .bool x31.1.Sure, .sl 10 (List.map enc30 x31.1.Spans)]), ((10, 0), .arr 23 1 false (List.map enc12 v10_s_5))] [(5, 1), (8, 1), (9, 1), (10, 1)] (envOk_cons (by conv => lhs; whnf) (by exact rfl) (envOk_cons (by conv => lhs; whnf) (by exact rfl) (envOk_cons (by conv => lhs; whnf) (by exact rfl) (envOk_cons (by conv => lhs; whnf) (by exact rfl) (envOk_cons (by conv => lhs; whnf) (by exact rfl) (envOk_cons (by conv => lhs; whnf) (by exact rfl) (envOk_cons (by conv => lhs; whnf) (by exact rfl) envOk_nil))))))) (objOk_cons (by conv => lhs; whnf) (by conv => lhs; whnf) (by exact rfl) (by simp) (objOk_cons (by conv => lhs; whnf) (by conv => lhs; whnf) (by exact rfl) (by simp) (objOk_cons (by conv => lhs; whnf) (by conv => lhs; whnf) (by exact rfl) (by simp) (objOk_cons (by conv => lhs; whnf) (by conv => lhs; whnf) (by exact rfl) (by simp) objOk_nil)))) (nodup_b rfl) (nodup_b rfl) rfl rfl, v8_s_2, x31.1.Trace.Hi, x31.1.Trace.Lo, x31.1.First, x31.1.Last, x31.1.Sure, x31.1.Spans, v10_s_5, (IntKind.i64.wrap (v11_2 + 1)), h, rfl⟩
      · have h := ifF c25 h
        refine aw_cond_f (by decide) rfl ?_
        refine aw_exit ?_
        have h := leafR h hq22
        obtain rfl := Option.some.inj h
        have h := hk19
        exact ⟨_, reb_lit [(0, .sl 1 (List.map enc2 a0)), (5, .ptr 5 0 0), (8, .own 8 0), (9, .ptr 9 0 0), (10, .own 10 0)] [(5, 0), (8, 0), (9, 0), (10, 0)] [((5, 0), .box [.int .u64 a2.Hi, .int .u64 a2.Lo]), ((8, 0), .arr 28 6 false (List.map enc27 v8_s_2)), ((9, 0), .box [.int .u64 v9_s_0_2, .int .u64 v9_s_1_2, .int .i64 v9_s_2_2, .int .i64 v9_s_3_2, .bool v9_s_4_2, .sl 10 (List.map enc30 v9_s_5_2)]), ((10, 0), .arr 23 1 false (List.map enc12 v10_s_2))] [(5, 1), (8, 1), (9, 1), (10, 1)] (envOk_cons (by conv => lhs; whnf) (by exact rfl) (envOk_cons (by conv => lhs; whnf) (by exact rfl) (envOk_cons (by conv => lhs; whnf) (by exact rfl) (envOk_cons (by conv => lhs; whnf) (by exact rfl) (envOk_cons (by conv => lhs; whnf) (by exact rfl) envOk_nil))))) (objOk_cons (by conv => lhs; whnf) (by conv => lhs; whnf) (by exact rfl) (by simp) (objOk_cons (by conv => lhs; whnf) (by conv => lhs; whnf) (by exact rfl) (by simp) (objOk_cons (by conv => lhs; whnf) (by conv => lhs; whnf) (by exact rfl) (by simp) (objOk_cons (by conv => lhs; whnf) (by conv => lhs; whnf) (by exact rfl) (by simp) objOk_nil)))) (nodup_b rfl) (nodup_b rfl) rfl rfl, v8_s_2, v9_s_0_2, v9_s_1_2, v9_s_2_2, v9_s_3_2, v9_s_4_2, v9_s_5_2, v10_s_2, h, rfl⟩
    · rintro s ⟨v8_s_1, v9_s_0_1, v9_s_1_1, v9_s_2_1, v9_s_3_1, v9_s_4_1, v9_s_5_1, v10_s_1, h, rfl⟩
      unfold gleaninglaw15_EpisodeOnce_k1 at h
      refine aw_seq_k (fun K55 hK55 => ?_)
      refine aw_regd (by kernel_rfl) (by decide +kernel) ?_
      refine ao_cons (acts_of rfl (does_move (v := .own 8 0) (by exact rfl))) (by decide) ?_
      refine ao_cons (acts_of rfl (does_load (v := .agg [.int .u64 v9_s_0_1, .int .u64 v9_s_1_1, .int .i64 v9_s_2_1, .int .i64 v9_s_3_1, .bool v9_s_4_1, .sl 10 (List.map enc30 v9_s_5_1)]) (by conv => lhs; whnf) (by conv => lhs; whnf) ty28 (by exact rfl))) (by decide) ?_
      refine ao_cons (acts_of rfl (do_buildSlice (xs := List.map enc27 [(Episode.mk (Trace.mk v9_s_0_1 v9_s_1_1) v9_s_2_1 v9_s_3_1 v9_s_4_1 v9_s_5_1)]) ty22 ty28 rfl rfl rfl rfl rfl rfl rfl rfl)) (by decide) ?_
      obtain ⟨g56, h⟩ := gd_some h
      refine ao_cons (acts_of rfl (do_append (v := List.map enc27 (v8_s_1 ++ [(Episode.mk (Trace.mk v9_s_0_1 v9_s_1_1) v9_s_2_1 v9_s_3_1 v9_s_4_1 v9_s_5_1)])) (by conv => lhs; whnf) (by conv => lhs; whnf) ty22 ty28 rfl rfl (by conv => lhs; whnf) (by first | exact .inl rfl | exact .inr ⟨rfl, rfl⟩) (by conv => lhs; whnf) (by first | exact .inr rfl | exact .inl rfl) (map_app _ _) (fit_map g56))) (by decide) ?_
      refine ao_cons (acts_of rfl (does_load (v := .agg [.int .u64 a2.Hi, .int .u64 a2.Lo]) (by conv => lhs; whnf) (by conv => lhs; whnf) ty25 (by exact rfl))) (by decide) ?_
      obtain ⟨x57, hx57, h⟩ := bnd_some h
      refine ao_cons (acts_of rfl (does_frz (d := 102) (n := 0) (by conv => lhs; whnf) (do_callG (bcs := []) [] [] [(102, 0)] 104 false (episode_Spans_ok (v8_s_1 ++ [(Episode.mk (Trace.mk v9_s_0_1 v9_s_1_1) v9_s_2_1 v9_s_3_1 v9_s_4_1 v9_s_5_1)]) a2 hx57) rfl ent22 trivial trivial rfl rfl rfl rfl rfl rfl rfl rfl (.inl ⟨⟨_, _, _, rfl⟩, trivial⟩)))) (by decide) ?_
      refine ao_cons (acts_of rfl (does_assign (v := .own 104 0) (by exact rfl))) (by decide) ?_
      refine ao_nil_d (by kernel_rfl) ?_
      refine hK55 _ ?_
      refine aw_seq_k (fun K58 hK58 => ?_)
      refine aw_seq_k (fun K59 hK59 => ?_)
      refine aw_reg ?_
      refine ao_cons (acts_of rfl (does_move (v := .own 104 0) (by exact rfl))) (by decide) ?_
      refine ao_cons (acts_of rfl ((does_len_own (by conv => lhs; whnf) (by conv => lhs; whnf) ty26).cast (v' := .int .i64 (List.length x57 : Int)) (by exact len_map _))) (by decide) ?_
      refine ao_cons (acts_of rfl (does_move (v := .own 10 0) (by exact rfl))) (by decide) ?_
      refine ao_cons (acts_of rfl ((does_len_own (by conv => lhs; whnf) (by conv => lhs; whnf) ty42).cast (v' := .int .i64 (List.length v10_s_1 : Int)) (by exact len_map _))) (by decide) ?_
      refine ao_cons (acts_of rfl (does_bin (v := .bool ((List.length x57 : Int) != (List.length v10_s_1 : Int))) (by conv => lhs; whnf) (by conv => lhs; whnf) rfl)) (by decide) ?_
      refine ao_nil_n ?_
      refine hK59 _ ?_
      refine aw_bool (b := ((List.length x57 : Int) != (List.length v10_s_1 : Int))) 109 rfl (fun c60 => ?_) (fun c60 => ?_)
      · have h := ifT c60 h
        refine aw_cond_t (by decide) rfl ?_
        refine aw_seq_k (fun K61 hK61 => ?_)
        refine aw_reg ?_
        refine ao_cons (acts_of rfl (does_assign (v := .bool false) (by exact rfl))) (by decide) ?_
        refine ao_nil_n ?_
        refine hK61 _ ?_
        refine aw_ret ?_
        obtain rfl := Option.some.inj h
        exact ret_ok1 (by conv => lhs; whnf) (by conv => lhs; whnf) (by exact rfl) (.inr rfl) rfl
      · have h := ifF c60 h
        refine aw_cond_f (by decide) rfl ?_
        refine aw_skip ?_
        refine hK58 _ ?_
        refine aw_seq_k (fun K62 hK62 => ?_)
        refine aw_seq_k (fun K63 hK63 => ?_)
        refine aw_reg ?_
        refine ao_cons (acts_of rfl (does_assign (v := .int .i64 0) (by exact rfl))) (by decide) ?_
        refine ao_nil_n ?_
        refine hK63 _ ?_
        refine aw_block ?_
        refine aw_loop' (fun m s => ∃ (v16_6 : Int), loopN (fun (s : Int) => gleaninglaw15_EpisodeOnce_l6 a0 v10_s_1 x57 s) m v16_6 = some r ∧ s = lit [(0, .sl 1 (List.map enc2 a0)), (10, .own 10 0), (15, .own 104 0), (16, .int .i64 v16_6)] [((10, 0), .arr 23 1 false (List.map enc12 v10_s_1)), ((104, 0), .arr 31 10 false (List.map enc30 x57))] [(10, 1), (104, 1)] X) Fu
          ⟨_, reb_lit [(0, .sl 1 (List.map enc2 a0)), (10, .own 10 0), (15, .own 104 0), (16, .int .i64 (0))] [(10, 0), (104, 0)] [((10, 0), .arr 23 1 false (List.map enc12 v10_s_1)), ((104, 0), .arr 31 10 false (List.map enc30 x57))] [(10, 1), (104, 1)] (envOk_cons (by conv => lhs; whnf) (by exact rfl) (envOk_cons (by conv => lhs; whnf) (by exact rfl) (envOk_cons (by conv => lhs; whnf) (by exact rfl) (envOk_cons (by conv => lhs; whnf) (by exact rfl) envOk_nil)))) (objOk_cons (by conv => lhs; whnf) (by conv => lhs; whnf) (by exact rfl) (by simp) (objOk_cons (by conv => lhs; whnf) (by conv => lhs; whnf) (by exact rfl) (by simp) objOk_nil)) (nodup_b rfl) (nodup_b rfl) rfl rfl, 0, h, rfl⟩ ?_
        rintro m s ⟨v16_6, h, rfl⟩
        obtain ⟨m6, q64, rfl, h, hq65⟩ := loop_some h
        replace h : gleaninglaw15_EpisodeOnce_l6 a0 v10_s_1 x57 v16_6 = some q64 := h
        unfold gleaninglaw15_EpisodeOnce_l6 at h
        refine aw_seq_k (fun K66 hK66 => ?_)
        refine aw_seq_k (fun K67 hK67 => ?_)
        refine aw_reg ?_
        refine ao_cons (acts_of rfl (does_move (v := .int .i64 v16_6) (by exact rfl))) (by decide) ?_
        refine ao_cons (acts_of rfl (does_move (v := .own 104 0) (by exact rfl))) (by decide) ?_
        refine ao_cons (acts_of rfl ((does_len_own (by conv => lhs; whnf) (by conv => lhs; whnf) ty26).cast (v' := .int .i64 (List.length x57 : Int)) (by exact len_map _))) (by decide) ?_
        refine ao_cons (acts_of rfl (does_bin (v := .bool (decide (v16_6 < (List.length x57 : Int)))) (by conv => lhs; whnf) (by conv => lhs; whnf) rfl)) (by decide) ?_
        refine ao_nil_n ?_
        refine hK67 _ ?_
        refine aw_bool (b := (decide (v16_6 < (List.length x57 : Int)))) 113 rfl (fun c68 => ?_) (fun c68 => ?_)
        · have h := ifT c68 h
          refine aw_cond_t (by decide) rfl ?_
          refine aw_skip ?_
          refine hK66 _ ?_
          refine aw_seq_k (fun K69 hK69 => ?_)
          refine aw_block ?_
          refine aw_seq_k (fun K70 hK70 => ?_)
          refine aw_regd (by kernel_rfl) (by decide +kernel) ?_
          refine ao_cons (acts_of rfl (does_move (v := .own 104 0) (by exact rfl))) (by decide) ?_
          refine ao_cons (acts_of rfl (does_move (v := .int .i64 v16_6) (by exact rfl))) (by decide) ?_
          obtain ⟨g71, h⟩ := gd_some h
          obtain ⟨x72, hx72, h⟩ := bnd_some h
          refine ao_cons (acts_of rfl (does_indexAddr_own (by conv => lhs; whnf) (by conv => lhs; whnf) (by conv => lhs; whnf) ty26 ty31 g71 (by exact own_lt hx72))) (by decide) ?_
          refine ao_cons (acts_of rfl (does_fieldAddr (q := .eptr 104 0 10 (Int.toNat v16_6) 2) (by conv => lhs; whnf) ty31 rfl ty23 (by decide) (by exact rfl))) (by decide) ?_
          refine ao_cons (acts_of rfl (does_load (v := .int .u64 x72.Id) (by conv => lhs; whnf) (cellsAt_eptr (by conv => lhs; whnf) (by exact map_get hx72)) ty23 (by exact rfl))) (by decide) ?_
          refine ao_cons (acts_of rfl (does_move (v := .own 10 0) (by exact rfl))) (by decide) ?_
          refine ao_cons (acts_of rfl (does_move (v := .int .i64 v16_6) (by exact rfl))) (by decide) ?_
          obtain ⟨g73, h⟩ := gd_some h
          obtain ⟨x74, hx74, h⟩ := bnd_some h
          refine ao_cons (acts_of rfl (does_indexAddr_own (by conv => lhs; whnf) (by conv => lhs; whnf) (by conv => lhs; whnf) ty42 ty23 g73 (by exact own_lt hx74))) (by decide) ?_
          refine ao_cons (acts_of rfl (does_load (v := .int .u64 x74) (by conv => lhs; whnf) (cellsAt_eptr (by conv => lhs; whnf) (by exact map_get hx74)) ty23 (by exact rfl))) (by decide) ?_
          refine ao_cons (acts_of rfl (does_bin (v := .bool (x72.Id != x74)) (by conv => lhs; whnf) (by conv => lhs; whnf) rfl)) (by decide) ?_
          refine ao_cons (acts_of rfl (does_move (v := .bool (x72.Id != x74)) (by exact rfl))) (by decide) ?_
          refine ao_bool (c := (x72.Id != x74)) 126 rfl (fun c75 => ?_) (fun c75 => ?_)
          · have h := ifT c75 h
            refine ao_cons (acts_skip rfl) (by decide) ?_
            refine ao_cons (acts_skip rfl) (by decide) ?_
            refine ao_cons (acts_skip rfl) (by decide) ?_
            refine ao_cons (acts_skip rfl) (by decide) ?_
            refine ao_cons (acts_skip rfl) (by decide) ?_
            refine ao_cons (acts_skip rfl) (by decide) ?_
            refine ao_cons (acts_skip rfl) (by decide) ?_
            refine ao_cons (acts_skip rfl) (by decide) ?_
            refine ao_cons (acts_skip rfl) (by decide) ?_
            refine ao_cons (acts_skip rfl) (by decide) ?_
            refine ao_cons (acts_skip rfl) (by decide) ?_
            refine ao_cons (acts_skip rfl) (by decide) ?_
            refine ao_cons (acts_skip rfl) (by decide) ?_
            refine ao_cons (acts_skip rfl) (by decide) ?_
            refine ao_cons (acts_skip rfl) (by decide) ?_
            refine ao_cons (acts_of rfl (does_pick (v := .bool true) (by conv => lhs; whnf) (by exact rfl))) (by decide) ?_
            refine ao_nil_d (by kernel_rfl) ?_
            refine hK70 _ ?_
            refine aw_cond_t (by decide) rfl ?_
            refine aw_seq_k (fun K76 hK76 => ?_)
            refine aw_reg ?_
            refine ao_cons (acts_of rfl (does_assign (v := .bool false) (by exact rfl))) (by decide) ?_
            refine ao_nil_n ?_
            refine hK76 _ ?_
            refine aw_ret ?_
            have h := leafR h hq65
            obtain rfl := Option.some.inj h
            exact ret_ok1 (by conv => lhs; whnf) (by conv => lhs; whnf) (by exact rfl) (.inr rfl) rfl
          · have h := ifF c75 h
            refine ao_cons (acts_of rfl (does_move (v := .sl 1 (List.map enc2 a0)) (by exact rfl))) (by decide) ?_
            refine ao_cons (acts_of rfl (does_move (v := .own 104 0) (by exact rfl))) (by decide) ?_
            refine ao_cons (acts_of rfl (does_move (v := .int .i64 v16_6) (by exact rfl))) (by decide) ?_
            obtain ⟨g77, h⟩ := gd_some h
            obtain ⟨x78, hx78, h⟩ := bnd_some h
            refine ao_cons (acts_of rfl (does_indexAddr_own (by conv => lhs; whnf) (by conv => lhs; whnf) (by conv => lhs; whnf) ty26 ty31 g77 (by exact own_lt hx78))) (by decide) ?_
            refine ao_cons (acts_of rfl (does_fieldAddr (q := .eptr 104 0 10 (Int.toNat v16_6) 6) (by conv => lhs; whnf) ty31 rfl ty3 (by decide) (by exact rfl))) (by decide) ?_
            refine ao_cons (acts_of rfl (does_load (v := .int .i64 x78.Start) (by conv => lhs; whnf) (cellsAt_eptr (by conv => lhs; whnf) (by exact map_get hx78)) ty3 (by exact rfl))) (by decide) ?_
            obtain ⟨g79, h⟩ := gd_some h
            obtain ⟨x80, hx80, h⟩ := bnd_some h
            refine ao_cons (acts_of rfl (does_indexAddr_sl (el := .int .i64 x80) (by conv => lhs; whnf) (by conv => lhs; whnf) ty41 ty3 g79 (by exact map_get hx80))) (by decide) ?_
            refine ao_cons (acts_of rfl (does_load (v := .int .i64 x80) (by conv => lhs; whnf) (by conv => lhs; whnf) ty3 (by exact rfl))) (by decide) ?_
            refine ao_cons (acts_of rfl (does_bin (v := .int .i64 (bits .and .i64 x80 15)) (by conv => lhs; whnf) (by conv => lhs; whnf) rfl)) (by decide) ?_
            refine ao_cons (acts_of rfl (does_move (v := .own 10 0) (by exact rfl))) (by decide) ?_
            refine ao_cons (acts_of rfl (does_move (v := .int .i64 v16_6) (by exact rfl))) (by decide) ?_
            obtain ⟨g81, h⟩ := gd_some h
            obtain ⟨x82, hx82, h⟩ := bnd_some h
            refine ao_cons (acts_of rfl (does_indexAddr_own (by conv => lhs; whnf) (by conv => lhs; whnf) (by conv => lhs; whnf) ty42 ty23 g81 (by exact own_lt hx82))) (by decide) ?_
            refine ao_cons (acts_of rfl (does_load (v := .int .u64 x82) (by conv => lhs; whnf) (cellsAt_eptr (by conv => lhs; whnf) (by exact map_get hx82)) ty23 (by exact rfl))) (by decide) ?_
            refine ao_cons (acts_of rfl (does_conv_int (v := .int .i64 (IntKind.i64.wrap x82)) (by conv => lhs; whnf) (ty_some ty23) (ty_int ty3) rfl)) (by decide) ?_
            refine ao_cons (acts_of rfl (does_bin (v := .bool ((bits .and .i64 x80 15) != (IntKind.i64.wrap x82))) (by conv => lhs; whnf) (by conv => lhs; whnf) rfl)) (by decide) ?_
            refine ao_cons (acts_of rfl (does_pick (v := .bool ((bits .and .i64 x80 15) != (IntKind.i64.wrap x82))) (by conv => lhs; whnf) (by exact rfl))) (by decide) ?_
            refine ao_nil_d (by kernel_rfl) ?_
            refine hK70 _ ?_
            refine aw_bool (b := ((bits .and .i64 x80 15) != (IntKind.i64.wrap x82))) 142 rfl (fun c83 => ?_) (fun c83 => ?_)
            · have h := ifT c83 h
              refine aw_cond_t (by decide) rfl ?_
              refine aw_seq_k (fun K84 hK84 => ?_)
              refine aw_reg ?_
              refine ao_cons (acts_of rfl (does_assign (v := .bool false) (by exact rfl))) (by decide) ?_
              refine ao_nil_n ?_
              refine hK84 _ ?_
              refine aw_ret ?_
              have h := leafR h hq65
              obtain rfl := Option.some.inj h
              exact ret_ok1 (by conv => lhs; whnf) (by conv => lhs; whnf) (by exact rfl) (.inr rfl) rfl
            · have h := ifF c83 h
              refine aw_cond_f (by decide) rfl ?_
              refine aw_skip ?_
              refine hK69 _ ?_
              refine aw_reg ?_
              refine ao_cons (acts_of rfl (does_move (v := .int .i64 v16_6) (by exact rfl))) (by decide) ?_
              refine ao_cons (acts_of rfl (does_bin (v := .int .i64 (IntKind.i64.wrap (v16_6 + 1))) (by conv => lhs; whnf) (by conv => lhs; whnf) rfl)) (by decide) ?_
              refine ao_cons (acts_of rfl (does_assign (v := .int .i64 (IntKind.i64.wrap (v16_6 + 1))) (by exact rfl))) (by decide) ?_
              refine ao_nil_n ?_
              have h := leafL h hq65
              exact ⟨m6, Nat.lt_succ_self _, _, reb_lit [(0, .sl 1 (List.map enc2 a0)), (10, .own 10 0), (15, .own 104 0), (16, .int .i64 (IntKind.i64.wrap (v16_6 + 1)))] [(10, 0), (104, 0)] [((10, 0), .arr 23 1 false (List.map enc12 v10_s_1)), ((104, 0), .arr 31 10 false (List.map enc30 x57))] [(10, 1), (104, 1)] (envOk_cons (by conv => lhs; whnf) (by exact rfl) (envOk_cons (by conv => lhs; whnf) (by exact rfl) (envOk_cons (by conv => lhs; whnf) (by exact rfl) (envOk_cons (by conv => lhs; whnf) (by exact rfl) envOk_nil)))) (objOk_cons (by conv => lhs; whnf) (by conv => lhs; whnf) (by exact rfl) (by simp) (objOk_cons (by conv => lhs; whnf) (by conv => lhs; whnf) (by exact rfl) (by simp) objOk_nil)) (nodup_b rfl) (nodup_b rfl) rfl rfl, (IntKind.i64.wrap (v16_6 + 1)), h, rfl⟩
        · have h := ifF c68 h
          refine aw_cond_f (by decide) rfl ?_
          refine aw_exit ?_
          have h := leafR h hq65
          refine hK62 _ ?_
          refine aw_seq_k (fun K85 hK85 => ?_)
          refine aw_reg ?_
          refine ao_cons (acts_of rfl (does_assign (v := .bool true) (by exact rfl))) (by decide) ?_
          refine ao_nil_n ?_
          refine hK85 _ ?_
          refine aw_ret ?_
          obtain rfl := Option.some.inj h
          exact ret_ok1 (by conv => lhs; whnf) (by conv => lhs; whnf) (by exact rfl) (.inr rfl) rfl
theorem sh41 : ∀ (m : Nat) (cs : List PV), Shape Try.prog m 41 cs → ∃ a : List Int, cs = [.sl 1 (List.map enc2 a)] ∧ ((List.length a) ≤ maxLen ∧ ∀ y ∈ a, inI .i64 y) := fun m cs h => by
  obtain ⟨l, h1, h2, h3⟩ := shape_rows (f := enc2) (Q := fun y => inI .i64 y) h Try.underlying41 (fun m ps hs => by
    obtain ⟨a, rfl, hw⟩ := sh3 m ps hs
    exact ⟨a, by rw [show aggT Try.prog 3 = false by kernel_rfl]; rfl, hw⟩)
  exact ⟨l, h1.trans (by rw [show Try.prog.cellsOf 3 = 1 by kernel_rfl]), h2, h3⟩
def gleaninglaw15_EpisodeJoins_l4 (x16 : List Span) (x18 : List Span) (v11_2 : Int) (v12_4 : Bool) (v13_4 : Int) : Option ((Bool × Int) ⊕ Bool) :=
  if (decide (v13_4 < (List.length x16 : Int))) = true then (if v12_4 = true then (some (Sum.inl (true, (IntKind.i64.wrap (v13_4 + 1))))) else (gd (0 ≤ v13_4) (Option.bind (x16[(Int.toNat v13_4)]?) (fun (x42 : Span) => gd (0 ≤ v11_2) (Option.bind (x18[(Int.toNat v11_2)]?) (fun (x44 : Span) => some (Sum.inl ((x42.Id == x44.Id), (IntKind.i64.wrap (v13_4 + 1)))))))))) else (some (Sum.inr v12_4))
def gleaninglaw15_EpisodeJoins_k3 (x18 : List Span) (v10_s_2 : List Span) (v11_2 : Int) (v12_3 : Bool) : Option ((List Span × Int) ⊕ (List Span)) :=
  if (!v12_3) = true then (gd (0 ≤ v11_2) (Option.bind (x18[(Int.toNat v11_2)]?) (fun (x48 : Span) => gd ((List.length (v10_s_2 ++ [x48])) * 112 ≤ 140737488355328 ∧ (List.length (v10_s_2 ++ [x48])) ≤ 140737488355328) (some (Sum.inl ((v10_s_2 ++ [x48]), (IntKind.i64.wrap (v11_2 + 1)))))))) else (some (Sum.inl (v10_s_2, (IntKind.i64.wrap (v11_2 + 1)))))
def gleaninglaw15_EpisodeJoins_l2 (x16 : List Span) (x18 : List Span) (v10_s_2 : List Span) (v11_2 : Int) : Option ((List Span × Int) ⊕ (List Span)) :=
  if (decide (v11_2 < (List.length x18 : Int))) = true then (Option.bind (loopN (fun (s : Bool × Int) => gleaninglaw15_EpisodeJoins_l4 x16 x18 v11_2 s.1 s.2) Fu (false, 0)) (fun (s : Bool) => gleaninglaw15_EpisodeJoins_k3 x18 v10_s_2 v11_2 s)) else (some (Sum.inr v10_s_2))
def gleaninglaw15_EpisodeJoins_k1 (a0 : List Episode) (a1 : List Episode) (a2 : Trace) (v10_s_1 : List Span) : Option Bool :=
  gd ((List.length a0) * 64 ≤ 140737488355328 ∧ (List.length a0) ≤ 140737488355328) (gd ((List.length (a0 ++ a1)) * 64 ≤ 140737488355328 ∧ (List.length (a0 ++ a1)) ≤ 140737488355328) (Option.bind (episode_Spans (a0 ++ a1) a2) (fun (x53 : List Span) => Option.bind (gleaningref1_SameSpans x53 v10_s_1) (fun (x54 : Bool) => some x54))))
def gleaninglaw15_EpisodeJoins_k0 (a0 : List Episode) (a1 : List Episode) (a2 : Trace) : Option Bool :=
  Option.bind (episode_Spans a0 a2) (fun (x16 : List Span) => Option.bind (episode_Spans a1 a2) (fun (x18 : List Span) => gd ((List.length x16) * 112 ≤ 140737488355328 ∧ (List.length x16) ≤ 140737488355328) (Option.bind (loopN (fun (s : List Span × Int) => gleaninglaw15_EpisodeJoins_l2 x16 x18 s.1 s.2) Fu (x16, 0)) (fun (s : List Span) => gleaninglaw15_EpisodeJoins_k1 a0 a1 a2 s))))
def gleaninglaw15_EpisodeJoins (a0 : List Episode) (a1 : List Episode) (a2 : Trace) : Option Bool :=
  Option.bind (gleaninglaw15_alive) (fun (x3 : Bool) => Option.bind (if (!x3) = true then (some (Sum.inr x3)) else (Option.bind (gleaninglaw15_Few a0) (fun (x9 : Bool) => if (!x9) = true then (some (Sum.inr x3)) else (Option.bind (gleaninglaw15_Few a1) (fun (x12 : Bool) => if (!x12) = true then (some (Sum.inr x3)) else (some (Sum.inl ()))))))) (Sum.elim (fun (s : Unit) => gleaninglaw15_EpisodeJoins_k0 a0 a1 a2) some))
set_option maxRecDepth 100000 in
set_option maxHeartbeats 8000000 in
/-- gleaning/gleaninglaw15.EpisodeJoins -/
theorem gleaninglaw15_EpisodeJoins_ok (a0 : List Episode) (a1 : List Episode) (a2 : Trace) {r : Bool} (h : gleaninglaw15_EpisodeJoins a0 a1 a2 = some r) : Ok Try.prog 5 [.sl 6 (List.map enc27 a0), .sl 6 (List.map enc27 a1), .agg [.int .u64 a2.Hi, .int .u64 a2.Lo]] [] [] (.bool r) [] [] := by
  unfold gleaninglaw15_EpisodeJoins at h
  refine ok_of_code Try.func5 rfl (by show (3 : Nat) ≤ _; decide) (Nat.le_refl _) fun X => ?_
  refine aw_seq_k (fun K1 hK1 => ?_)
  refine aw_reg ?_
  refine ao_cons (acts_of rfl (do_box (by conv => lhs; whnf) rfl rfl)) (by decide) ?_
  refine ao_cons (acts_of rfl (does_assign (v := .bool false) (by exact rfl))) (by decide) ?_
  refine ao_nil_n ?_
  refine hK1 _ ?_
  refine aw_seq_k (fun K2 hK2 => ?_)
  refine aw_reg ?_
  obtain ⟨x3, hx3, h⟩ := bnd_some h
  refine ao_cons (acts_of rfl (do_call0 14 false (gleaninglaw15_alive_ok hx3) rfl ent15 rfl rfl)) (by decide) ?_
  refine ao_cons (acts_of rfl (does_assign (v := .bool x3) (by exact rfl))) (by decide) ?_
  refine ao_nil_n ?_
  refine hK2 _ ?_
  obtain ⟨q4, h, hk5⟩ := bnd_some h
  refine aw_cut (fun s => gleaninglaw15_EpisodeJoins_k0 a0 a1 a2 = some r ∧ s = lit [(0, .sl 6 (List.map enc27 a0)), (1, .sl 6 (List.map enc27 a1)), (5, .ptr 5 0 0)] [((5, 0), .box [.int .u64 a2.Hi, .int .u64 a2.Lo])] [(5, 1)] X) ?_ ?_
  · skip
    refine aw_seq_k (fun K6 hK6 => ?_)
    refine aw_reg ?_
    refine ao_cons (acts_of rfl (does_move (v := .bool x3) (by exact rfl))) (by decide) ?_
    refine ao_cons (acts_of rfl (does_un (v := .bool (!x3)) (by conv => lhs; whnf) rfl)) (by decide) ?_
    refine ao_cons (acts_of rfl (does_move (v := .bool (!x3)) (by exact rfl))) (by decide) ?_
    refine ao_bool (c := (!x3)) 17 rfl (fun c7 => ?_) (fun c7 => ?_)
    · have h := ifT c7 h
      refine ao_cons (acts_skip rfl) (by decide) ?_
      refine ao_cons (acts_skip rfl) (by decide) ?_
      refine ao_cons (acts_skip rfl) (by decide) ?_
      refine ao_cons (acts_of rfl (does_pick (v := .bool true) (by conv => lhs; whnf) (by exact rfl))) (by decide) ?_
      refine ao_cons (acts_of rfl (does_move (v := .bool true) (by exact rfl))) (by decide) ?_
      refine ao_cons (acts_skip rfl) (by decide) ?_
      refine ao_cons (acts_skip rfl) (by decide) ?_
      refine ao_cons (acts_skip rfl) (by decide) ?_
      refine ao_cons (acts_of rfl (does_pick (v := .bool true) (by conv => lhs; whnf) (by exact rfl))) (by decide) ?_
      refine ao_nil_n ?_
      refine hK6 _ ?_
      refine aw_cond_t (by decide) rfl ?_
      refine aw_seq_k (fun K8 hK8 => ?_)
      refine aw_reg ?_
      refine ao_cons (acts_of rfl (does_move (v := .bool x3) (by exact rfl))) (by decide) ?_
      refine ao_cons (acts_of rfl (does_assign (v := .bool x3) (by exact rfl))) (by decide) ?_
      refine ao_nil_n ?_
      refine hK8 _ ?_
      refine aw_ret ?_
      have h := leafR h hk5
      obtain rfl := Option.some.inj h
      exact ret_ok1 (by conv => lhs; whnf) (by conv => lhs; whnf) (by exact rfl) (.inr rfl) rfl
    · have h := ifF c7 h
      refine ao_cons (acts_of rfl (does_move (v := .sl 6 (List.map enc27 a0)) (by exact rfl))) (by decide) ?_
      obtain ⟨x9, hx9, h⟩ := bnd_some h
      refine ao_cons (acts_of rfl (do_call0 19 false (gleaninglaw15_Few_ok a0 hx9) rfl ent16 rfl rfl)) (by decide) ?_
      refine ao_cons (acts_of rfl (does_un (v := .bool (!x9)) (by conv => lhs; whnf) rfl)) (by decide) ?_
      refine ao_cons (acts_of rfl (does_pick (v := .bool (!x9)) (by conv => lhs; whnf) (by exact rfl))) (by decide) ?_
      refine ao_cons (acts_of rfl (does_move (v := .bool (!x9)) (by exact rfl))) (by decide) ?_
      refine ao_bool (c := (!x9)) 22 rfl (fun c10 => ?_) (fun c10 => ?_)
      · have h := ifT c10 h
        refine ao_cons (acts_skip rfl) (by decide) ?_
        refine ao_cons (acts_skip rfl) (by decide) ?_
        refine ao_cons (acts_skip rfl) (by decide) ?_
        refine ao_cons (acts_of rfl (does_pick (v := .bool true) (by conv => lhs; whnf) (by exact rfl))) (by decide) ?_
        refine ao_nil_n ?_
        refine hK6 _ ?_
        refine aw_cond_t (by decide) rfl ?_
        refine aw_seq_k (fun K11 hK11 => ?_)
        refine aw_reg ?_
        refine ao_cons (acts_of rfl (does_move (v := .bool x3) (by exact rfl))) (by decide) ?_
        refine ao_cons (acts_of rfl (does_assign (v := .bool x3) (by exact rfl))) (by decide) ?_
        refine ao_nil_n ?_
        refine hK11 _ ?_
        refine aw_ret ?_
        have h := leafR h hk5
        obtain rfl := Option.some.inj h
        exact ret_ok1 (by conv => lhs; whnf) (by conv => lhs; whnf) (by exact rfl) (.inr rfl) rfl
      · have h := ifF c10 h
        refine ao_cons (acts_of rfl (does_move (v := .sl 6 (List.map enc27 a1)) (by exact rfl))) (by decide) ?_
        obtain ⟨x12, hx12, h⟩ := bnd_some h
        refine ao_cons (acts_of rfl (do_call0 24 false (gleaninglaw15_Few_ok a1 hx12) rfl ent16 rfl rfl)) (by decide) ?_
        refine ao_cons (acts_of rfl (does_un (v := .bool (!x12)) (by conv => lhs; whnf) rfl)) (by decide) ?_
        refine ao_cons (acts_of rfl (does_pick (v := .bool (!x12)) (by conv => lhs; whnf) (by exact rfl))) (by decide) ?_
        refine ao_nil_n ?_
        refine hK6 _ ?_
        refine aw_bool (b := (!x12)) 26 rfl (fun c13 => ?_) (fun c13 => ?_)
        · have h := ifT c13 h
          refine aw_cond_t (by decide) rfl ?_
          refine aw_seq_k (fun K14 hK14 => ?_)
          refine aw_reg ?_
          refine ao_cons (acts_of rfl (does_move (v := .bool x3) (by exact rfl))) (by decide) ?_
          refine ao_cons (acts_of rfl (does_assign (v := .bool x3) (by exact rfl))) (by decide) ?_
          refine ao_nil_n ?_
          refine hK14 _ ?_
          refine aw_ret ?_
          have h := leafR h hk5
          obtain rfl := Option.some.inj h
          exact ret_ok1 (by conv => lhs; whnf) (by conv => lhs; whnf) (by exact rfl) (.inr rfl) rfl
        · have h := ifF c13 h
          refine aw_cond_f (by decide) rfl ?_
          refine aw_skip ?_
          have h := leafL h hk5
          exact ⟨_, reb_lit [(0, .sl 6 (List.map enc27 a0)), (1, .sl 6 (List.map enc27 a1)), (5, .ptr 5 0 0)] [(5, 0)] [((5, 0), .box [.int .u64 a2.Hi, .int .u64 a2.Lo])] [(5, 1)] (envOk_cons (by conv => lhs; whnf) (by exact rfl) (envOk_cons (by conv => lhs; whnf) (by exact rfl) (envOk_cons (by conv => lhs; whnf) (by exact rfl) envOk_nil))) (objOk_cons (by conv => lhs; whnf) (by conv => lhs; whnf) (by exact rfl) (by simp) objOk_nil) (nodup_b rfl) (nodup_b rfl) rfl rfl, h, rfl⟩
  · rintro s ⟨h, rfl⟩
    unfold gleaninglaw15_EpisodeJoins_k0 at h
    refine aw_seq_k (fun K15 hK15 => ?_)
    refine aw_reg ?_
    refine ao_cons (acts_of rfl (does_move (v := .sl 6 (List.map enc27 a0)) (by exact rfl))) (by decide) ?_
    refine ao_cons (acts_of rfl (does_load (v := .agg [.int .u64 a2.Hi, .int .u64 a2.Lo]) (by conv => lhs; whnf) (by conv => lhs; whnf) ty25 (by exact rfl))) (by decide) ?_
    obtain ⟨x16, hx16, h⟩ := bnd_some h
    refine ao_cons (acts_of rfl (do_call0 30 false (episode_Spans_ok a0 a2 hx16) rfl ent22 rfl rfl)) (by decide) ?_
    refine ao_cons (acts_of rfl (does_assign (v := .own 30 0) (by exact rfl))) (by decide) ?_
    refine ao_nil_n ?_
    refine hK15 _ ?_
    refine aw_seq_k (fun K17 hK17 => ?_)
    refine aw_reg ?_
    refine ao_cons (acts_of rfl (does_move (v := .sl 6 (List.map enc27 a1)) (by exact rfl))) (by decide) ?_
    refine ao_cons (acts_of rfl (does_load (v := .agg [.int .u64 a2.Hi, .int .u64 a2.Lo]) (by conv => lhs; whnf) (by conv => lhs; whnf) ty25 (by exact rfl))) (by decide) ?_
    obtain ⟨x18, hx18, h⟩ := bnd_some h
    refine ao_cons (acts_of rfl (do_call0 33 false (episode_Spans_ok a1 a2 hx18) rfl ent22 rfl rfl)) (by decide) ?_
    refine ao_cons (acts_of rfl (does_assign (v := .own 33 0) (by exact rfl))) (by decide) ?_
    refine ao_nil_n ?_
    refine hK17 _ ?_
    refine aw_seq_k (fun K19 hK19 => ?_)
    refine aw_reg ?_
    refine ao_cons (acts_of rfl (does_move (v := .own 30 0) (by exact rfl))) (by decide) ?_
    obtain ⟨g20, h⟩ := gd_some h
    refine ao_cons (acts_of rfl (do_append (v := List.map enc30 x16) (by conv => lhs; whnf) (by conv => lhs; whnf) ty26 ty31 rfl rfl (by conv => lhs; whnf) (by first | exact .inl rfl | exact .inr ⟨rfl, rfl⟩) (by conv => lhs; whnf) (by first | exact .inr rfl | exact .inl rfl) (List.nil_append _) (fit_map g20))) (by decide) ?_
    refine ao_cons (acts_of rfl (does_assign (v := .own 35 0) (by exact rfl))) (by decide) ?_
    refine ao_nil_n ?_
    refine hK19 _ ?_
    obtain ⟨q21, h, hk22⟩ := bnd_some h
    refine aw_cut (fun s => ∃ (v10_s_1 : List Span), gleaninglaw15_EpisodeJoins_k1 a0 a1 a2 v10_s_1 = some r ∧ s = lit [(0, .sl 6 (List.map enc27 a0)), (1, .sl 6 (List.map enc27 a1)), (5, .ptr 5 0 0), (10, .own 35 0)] [((5, 0), .box [.int .u64 a2.Hi, .int .u64 a2.Lo]), ((35, 0), .arr 31 10 false (List.map enc30 v10_s_1))] [(5, 1), (35, 1)] X) ?_ ?_
    · skip
      refine aw_seq_k (fun K23 hK23 => ?_)
      refine aw_reg ?_
      refine ao_cons (acts_of rfl (does_assign (v := .int .i64 0) (by exact rfl))) (by decide) ?_
      refine ao_nil_n ?_
      refine hK23 _ ?_
      refine aw_block ?_
      refine aw_loop' (fun m s => ∃ (v10_s_2 : List Span), ∃ (v11_2 : Int), loopN (fun (s : List Span × Int) => gleaninglaw15_EpisodeJoins_l2 x16 x18 s.1 s.2) m (v10_s_2, v11_2) = some q21 ∧ s = lit [(0, .sl 6 (List.map enc27 a0)), (1, .sl 6 (List.map enc27 a1)), (5, .ptr 5 0 0), (8, .own 30 0), (9, .own 33 0), (10, .own 35 0), (11, .int .i64 v11_2)] [((5, 0), .box [.int .u64 a2.Hi, .int .u64 a2.Lo]), ((30, 0), .arr 31 10 false (List.map enc30 x16)), ((33, 0), .arr 31 10 false (List.map enc30 x18)), ((35, 0), .arr 31 10 false (List.map enc30 v10_s_2))] [(5, 1), (30, 1), (33, 1), (35, 1)] X) Fu
        ⟨_, reb_lit [(0, .sl 6 (List.map enc27 a0)), (1, .sl 6 (List.map enc27 a1)), (5, .ptr 5 0 0), (8, .own 30 0), (9, .own 33 0), (10, .own 35 0), (11, .int .i64 (0))] [(5, 0), (30, 0), (33, 0), (35, 0)] [((5, 0), .box [.int .u64 a2.Hi, .int .u64 a2.Lo]), ((30, 0), .arr 31 10 false (List.map enc30 x16)), ((33, 0), .arr 31 10 false (List.map enc30 x18)), ((35, 0), .arr 31 10 false (List.map enc30 x16))] [(5, 1), (30, 1), (33, 1), (35, 1)] (envOk_cons (by conv => lhs; whnf) (by exact rfl) (envOk_cons (by conv => lhs; whnf) (by exact rfl) (envOk_cons (by conv => lhs; whnf) (by exact rfl) (envOk_cons (by conv => lhs; whnf) (by exact rfl) (envOk_cons (by conv => lhs; whnf) (by exact rfl) (envOk_cons (by conv => lhs; whnf) (by exact rfl) (envOk_cons (by conv => lhs; whnf) (by exact rfl) envOk_nil))))))) (objOk_cons (by conv => lhs; whnf) (by conv => lhs; whnf) (by exact rfl) (by simp) (objOk_cons (by conv => lhs; whnf) (by conv => lhs; whnf) (by exact rfl) (by simp) (objOk_cons (by conv => lhs; whnf) (by conv => lhs; whnf) (by exact rfl) (by simp) (objOk_cons (by conv => lhs; whnf) (by conv => lhs; whnf) (by exact rfl) (by simp) objOk_nil)))) (nodup_b rfl) (nodup_b rfl) rfl rfl, x16, 0, h, rfl⟩ ?_
      rintro m s ⟨v10_s_2, v11_2, h, rfl⟩
      obtain ⟨m2, q24, rfl, h, hq25⟩ := loop_some h
      replace h : gleaninglaw15_EpisodeJoins_l2 x16 x18 v10_s_2 v11_2 = some q24 := h
      unfold gleaninglaw15_EpisodeJoins_l2 at h
      refine aw_seq_k (fun K26 hK26 => ?_)
      refine aw_seq_k (fun K27 hK27 => ?_)
      refine aw_reg ?_
      refine ao_cons (acts_of rfl (does_move (v := .int .i64 v11_2) (by exact rfl))) (by decide) ?_
      refine ao_cons (acts_of rfl (does_move (v := .own 33 0) (by exact rfl))) (by decide) ?_
      refine ao_cons (acts_of rfl ((does_len_own (by conv => lhs; whnf) (by conv => lhs; whnf) ty26).cast (v' := .int .i64 (List.length x18 : Int)) (by exact len_map _))) (by decide) ?_
      refine ao_cons (acts_of rfl (does_bin (v := .bool (decide (v11_2 < (List.length x18 : Int)))) (by conv => lhs; whnf) (by conv => lhs; whnf) rfl)) (by decide) ?_
      refine ao_nil_n ?_
      refine hK27 _ ?_
      refine aw_bool (b := (decide (v11_2 < (List.length x18 : Int)))) 39 rfl (fun c28 => ?_) (fun c28 => ?_)
      · have h := ifT c28 h
        refine aw_cond_t (by decide) rfl ?_
        refine aw_skip ?_
        refine hK26 _ ?_
        refine aw_seq_k (fun K29 hK29 => ?_)
        refine aw_block ?_
        refine aw_seq_k (fun K30 hK30 => ?_)
        refine aw_reg ?_
        refine ao_cons (acts_of rfl (does_assign (v := .bool false) (by exact rfl))) (by decide) ?_
        refine ao_nil_n ?_
        refine hK30 _ ?_
        obtain ⟨q31, h, hk32⟩ := bnd_some h
        refine aw_cut (fun s => ∃ (v12_3 : Bool), gleaninglaw15_EpisodeJoins_k3 x18 v10_s_2 v11_2 v12_3 = some q24 ∧ s = lit [(0, .sl 6 (List.map enc27 a0)), (1, .sl 6 (List.map enc27 a1)), (5, .ptr 5 0 0), (8, .own 30 0), (9, .own 33 0), (10, .own 35 0), (11, .int .i64 v11_2), (12, .bool v12_3)] [((5, 0), .box [.int .u64 a2.Hi, .int .u64 a2.Lo]), ((30, 0), .arr 31 10 false (List.map enc30 x16)), ((33, 0), .arr 31 10 false (List.map enc30 x18)), ((35, 0), .arr 31 10 false (List.map enc30 v10_s_2))] [(5, 1), (30, 1), (33, 1), (35, 1)] X) ?_ ?_
        · skip
          refine aw_seq_k (fun K33 hK33 => ?_)
          refine aw_reg ?_
          refine ao_cons (acts_of rfl (does_assign (v := .int .i64 0) (by exact rfl))) (by decide) ?_
          refine ao_nil_n ?_
          refine hK33 _ ?_
          refine aw_block ?_
          refine aw_loop' (fun m s => ∃ (v12_4 : Bool), ∃ (v13_4 : Int), loopN (fun (s : Bool × Int) => gleaninglaw15_EpisodeJoins_l4 x16 x18 v11_2 s.1 s.2) m (v12_4, v13_4) = some q31 ∧ s = lit [(0, .sl 6 (List.map enc27 a0)), (1, .sl 6 (List.map enc27 a1)), (5, .ptr 5 0 0), (8, .own 30 0), (9, .own 33 0), (10, .own 35 0), (11, .int .i64 v11_2), (12, .bool v12_4), (13, .int .i64 v13_4)] [((5, 0), .box [.int .u64 a2.Hi, .int .u64 a2.Lo]), ((30, 0), .arr 31 10 false (List.map enc30 x16)), ((33, 0), .arr 31 10 false (List.map enc30 x18)), ((35, 0), .arr 31 10 false (List.map enc30 v10_s_2))] [(5, 1), (30, 1), (33, 1), (35, 1)] X) Fu
            ⟨_, reb_lit [(0, .sl 6 (List.map enc27 a0)), (1, .sl 6 (List.map enc27 a1)), (5, .ptr 5 0 0), (8, .own 30 0), (9, .own 33 0), (10, .own 35 0), (11, .int .i64 v11_2), (12, .bool false), (13, .int .i64 (0))] [(5, 0), (30, 0), (33, 0), (35, 0)] [((5, 0), .box [.int .u64 a2.Hi, .int .u64 a2.Lo]), ((30, 0), .arr 31 10 false (List.map enc30 x16)), ((33, 0), .arr 31 10 false (List.map enc30 x18)), ((35, 0), .arr 31 10 false (List.map enc30 v10_s_2))] [(5, 1), (30, 1), (33, 1), (35, 1)] (envOk_cons (by conv => lhs; whnf) (by exact rfl) (envOk_cons (by conv => lhs; whnf) (by exact rfl) (envOk_cons (by conv => lhs; whnf) (by exact rfl) (envOk_cons (by conv => lhs; whnf) (by exact rfl) (envOk_cons (by conv => lhs; whnf) (by exact rfl) (envOk_cons (by conv => lhs; whnf) (by exact rfl) (envOk_cons (by conv => lhs; whnf) (by exact rfl) (envOk_cons (by conv => lhs; whnf) (by exact rfl) (envOk_cons (by conv => lhs; whnf) (by exact rfl) envOk_nil))))))))) (objOk_cons (by conv => lhs; whnf) (by conv => lhs; whnf) (by exact rfl) (by simp) (objOk_cons (by conv => lhs; whnf) (by conv => lhs; whnf) (by exact rfl) (by simp) (objOk_cons (by conv => lhs; whnf) (by conv => lhs; whnf) (by exact rfl) (by simp) (objOk_cons (by conv => lhs; whnf) (by conv => lhs; whnf) (by exact rfl) (by simp) objOk_nil)))) (nodup_b rfl) (nodup_b rfl) rfl rfl, false, 0, h, rfl⟩ ?_
          rintro m s ⟨v12_4, v13_4, h, rfl⟩
          obtain ⟨m4, q34, rfl, h, hq35⟩ := loop_some h
          replace h : gleaninglaw15_EpisodeJoins_l4 x16 x18 v11_2 v12_4 v13_4 = some q34 := h
          unfold gleaninglaw15_EpisodeJoins_l4 at h
          refine aw_seq_k (fun K36 hK36 => ?_)
          refine aw_seq_k (fun K37 hK37 => ?_)
          refine aw_reg ?_
          refine ao_cons (acts_of rfl (does_move (v := .int .i64 v13_4) (by exact rfl))) (by decide) ?_
          refine ao_cons (acts_of rfl (does_move (v := .own 30 0) (by exact rfl))) (by decide) ?_
          refine ao_cons (acts_of rfl ((does_len_own (by conv => lhs; whnf) (by conv => lhs; whnf) ty26).cast (v' := .int .i64 (List.length x16 : Int)) (by exact len_map _))) (by decide) ?_
          refine ao_cons (acts_of rfl (does_bin (v := .bool (decide (v13_4 < (List.length x16 : Int)))) (by conv => lhs; whnf) (by conv => lhs; whnf) rfl)) (by decide) ?_
          refine ao_nil_n ?_
          refine hK37 _ ?_
          refine aw_bool (b := (decide (v13_4 < (List.length x16 : Int)))) 45 rfl (fun c38 => ?_) (fun c38 => ?_)
          · have h := ifT c38 h
            refine aw_cond_t (by decide) rfl ?_
            refine aw_skip ?_
            refine hK36 _ ?_
            refine aw_seq_k (fun K39 hK39 => ?_)
            refine aw_block ?_
            refine aw_regd (by kernel_rfl) (by decide +kernel) ?_
            refine ao_cons (acts_of rfl (does_move (v := .bool v12_4) (by exact rfl))) (by decide) ?_
            refine ao_cons (acts_of rfl (does_move (v := .bool v12_4) (by exact rfl))) (by decide) ?_
            refine ao_bool (c := v12_4) 49 rfl (fun c40 => ?_) (fun c40 => ?_)
            · have h := ifT c40 h
              refine ao_cons (acts_skip rfl) (by decide) ?_
              refine ao_cons (acts_skip rfl) (by decide) ?_
              refine ao_cons (acts_skip rfl) (by decide) ?_
              refine ao_cons (acts_skip rfl) (by decide) ?_
              refine ao_cons (acts_skip rfl) (by decide) ?_
              refine ao_cons (acts_skip rfl) (by decide) ?_
              refine ao_cons (acts_skip rfl) (by decide) ?_
              refine ao_cons (acts_skip rfl) (by decide) ?_
              refine ao_cons (acts_skip rfl) (by decide) ?_
              refine ao_cons (acts_skip rfl) (by decide) ?_
              refine ao_cons (acts_skip rfl) (by decide) ?_
              refine ao_cons (acts_of rfl (does_pick (v := .bool true) (by conv => lhs; whnf) (by exact rfl))) (by decide) ?_
              refine ao_cons (acts_of rfl (does_assign (v := .bool true) (by exact rfl))) (by decide) ?_
              refine ao_nil_d (by kernel_rfl) ?_
              refine hK39 _ ?_
              refine aw_reg ?_
              refine ao_cons (acts_of rfl (does_move (v := .int .i64 v13_4) (by exact rfl))) (by decide) ?_
              refine ao_cons (acts_of rfl (does_bin (v := .int .i64 (IntKind.i64.wrap (v13_4 + 1))) (by conv => lhs; whnf) (by conv => lhs; whnf) rfl)) (by decide) ?_
              refine ao_cons (acts_of rfl (does_assign (v := .int .i64 (IntKind.i64.wrap (v13_4 + 1))) (by exact rfl))) (by decide) ?_
              refine ao_nil_n ?_
              have h := leafL h hq35
              exact ⟨m4, Nat.lt_succ_self _, _, reb_lit [(0, .sl 6 (List.map enc27 a0)), (1, .sl 6 (List.map enc27 a1)), (5, .ptr 5 0 0), (8, .own 30 0), (9, .own 33 0), (10, .own 35 0), (11, .int .i64 v11_2), (12, .bool true), (13, .int .i64 (IntKind.i64.wrap (v13_4 + 1)))] [(5, 0), (30, 0), (33, 0), (35, 0)] [((5, 0), .box [.int .u64 a2.Hi, .int .u64 a2.Lo]), ((30, 0), .arr 31 10 false (List.map enc30 x16)), ((33, 0), .arr 31 10 false (List.map enc30 x18)), ((35, 0), .arr 31 10 false (List.map enc30 v10_s_2))] [(5, 1), (30, 1), (33, 1), (35, 1)] (envOk_cons (by conv => lhs; whnf) (by exact rfl) (envOk_cons (by conv => lhs; whnf) (by exact rfl) (envOk_cons (by conv => lhs; whnf) (by exact rfl) (envOk_cons (by conv => lhs; whnf) (by exact rfl) (envOk_cons (by conv => lhs; whnf) (by exact rfl) (envOk_cons (by conv => lhs; whnf) (by exact rfl) (envOk_cons (by conv => lhs; whnf) (by exact rfl) (envOk_cons (by conv => lhs; whnf) (by exact rfl) (envOk_cons (by conv => lhs; whnf) (by exact rfl) envOk_nil))))))))) (objOk_cons (by conv => lhs; whnf) (by conv => lhs; whnf) (by exact rfl) (by simp) (objOk_cons (by conv => lhs; whnf) (by conv => lhs; whnf) (by exact rfl) (by simp) (objOk_cons (by conv => lhs; whnf) (by conv => lhs; whnf) (by exact rfl) (by simp) (objOk_cons (by conv => lhs; whnf) (by conv => lhs; whnf) (by exact rfl) (by simp) objOk_nil)))) (nodup_b rfl) (nodup_b rfl) rfl rfl, true, (IntKind.i64.wrap (v13_4 + 1)), h, rfl⟩
            · have h := ifF c40 h
              refine ao_cons (acts_of rfl (does_move (v := .own 30 0) (by exact rfl))) (by decide) ?_
              refine ao_cons (acts_of rfl (does_move (v := .int .i64 v13_4) (by exact rfl))) (by decide) ?_
              obtain ⟨g41, h⟩ := gd_some h
              obtain ⟨x42, hx42, h⟩ := bnd_some h
              refine ao_cons (acts_of rfl (does_indexAddr_own (by conv => lhs; whnf) (by conv => lhs; whnf) (by conv => lhs; whnf) ty26 ty31 g41 (by exact own_lt hx42))) (by decide) ?_
              refine ao_cons (acts_of rfl (does_fieldAddr (q := .eptr 30 0 10 (Int.toNat v13_4) 2) (by conv => lhs; whnf) ty31 rfl ty23 (by decide) (by exact rfl))) (by decide) ?_
              refine ao_cons (acts_of rfl (does_load (v := .int .u64 x42.Id) (by conv => lhs; whnf) (cellsAt_eptr (by conv => lhs; whnf) (by exact map_get hx42)) ty23 (by exact rfl))) (by decide) ?_
              refine ao_cons (acts_of rfl (does_move (v := .own 33 0) (by exact rfl))) (by decide) ?_
              refine ao_cons (acts_of rfl (does_move (v := .int .i64 v11_2) (by exact rfl))) (by decide) ?_
              obtain ⟨g43, h⟩ := gd_some h
              obtain ⟨x44, hx44, h⟩ := bnd_some h
              refine ao_cons (acts_of rfl (does_indexAddr_own (by conv => lhs; whnf) (by conv => lhs; whnf) (by conv => lhs; whnf) ty26 ty31 g43 (by exact own_lt hx44))) (by decide) ?_
              refine ao_cons (acts_of rfl (does_fieldAddr (q := .eptr 33 0 10 (Int.toNat v11_2) 2) (by conv => lhs; whnf) ty31 rfl ty23 (by decide) (by exact rfl))) (by decide) ?_
              refine ao_cons (acts_of rfl (does_load (v := .int .u64 x44.Id) (by conv => lhs; whnf) (cellsAt_eptr (by conv => lhs; whnf) (by exact map_get hx44)) ty23 (by exact rfl))) (by decide) ?_
              refine ao_cons (acts_of rfl (does_bin (v := .bool (x42.Id == x44.Id)) (by conv => lhs; whnf) (by conv => lhs; whnf) rfl)) (by decide) ?_
              refine ao_cons (acts_of rfl (does_pick (v := .bool (x42.Id == x44.Id)) (by conv => lhs; whnf) (by exact rfl))) (by decide) ?_
              refine ao_cons (acts_of rfl (does_assign (v := .bool (x42.Id == x44.Id)) (by exact rfl))) (by decide) ?_
              refine ao_nil_d (by kernel_rfl) ?_
              refine hK39 _ ?_
              refine aw_reg ?_
              refine ao_cons (acts_of rfl (does_move (v := .int .i64 v13_4) (by exact rfl))) (by decide) ?_
              refine ao_cons (acts_of rfl (does_bin (v := .int .i64 (IntKind.i64.wrap (v13_4 + 1))) (by conv => lhs; whnf) (by conv => lhs; whnf) rfl)) (by decide) ?_
              refine ao_cons (acts_of rfl (does_assign (v := .int .i64 (IntKind.i64.wrap (v13_4 + 1))) (by exact rfl))) (by decide) ?_
              refine ao_nil_n ?_
              have h := leafL h hq35
              exact ⟨m4, Nat.lt_succ_self _, _, reb_lit [(0, .sl 6 (List.map enc27 a0)), (1, .sl 6 (List.map enc27 a1)), (5, .ptr 5 0 0), (8, .own 30 0), (9, .own 33 0), (10, .own 35 0), (11, .int .i64 v11_2), (12, .bool (x42.Id == x44.Id)), (13, .int .i64 (IntKind.i64.wrap (v13_4 + 1)))] [(5, 0), (30, 0), (33, 0), (35, 0)] [((5, 0), .box [.int .u64 a2.Hi, .int .u64 a2.Lo]), ((30, 0), .arr 31 10 false (List.map enc30 x16)), ((33, 0), .arr 31 10 false (List.map enc30 x18)), ((35, 0), .arr 31 10 false (List.map enc30 v10_s_2))] [(5, 1), (30, 1), (33, 1), (35, 1)] (envOk_cons (by conv => lhs; whnf) (by exact rfl) (envOk_cons (by conv => lhs; whnf) (by exact rfl) (envOk_cons (by conv => lhs; whnf) (by exact rfl) (envOk_cons (by conv => lhs; whnf) (by exact rfl) (envOk_cons (by conv => lhs; whnf) (by exact rfl) (envOk_cons (by conv => lhs; whnf) (by exact rfl) (envOk_cons (by conv => lhs; whnf) (by exact rfl) (envOk_cons (by conv => lhs; whnf) (by exact rfl) (envOk_cons (by conv => lhs; whnf) (by exact rfl) envOk_nil))))))))) (objOk_cons (by conv => lhs; whnf) (by conv => lhs; whnf) (by exact rfl) (by simp) (objOk_cons (by conv => lhs; whnf) (by conv => lhs; whnf) (by exact rfl) (by simp) (objOk_cons (by conv => lhs; whnf) (by conv => lhs; whnf) (by exact rfl) (by simp) (objOk_cons (by conv => lhs; whnf) (by conv => lhs; whnf) (by exact rfl) (by simp) objOk_nil)))) (nodup_b rfl) (nodup_b rfl) rfl rfl, (x42.Id == x44.Id), (IntKind.i64.wrap (v13_4 + 1)), h, rfl⟩
          · have h := ifF c38 h
            refine aw_cond_f (by decide) rfl ?_
            refine aw_exit ?_
            have h := leafR h hq35
            obtain rfl := Option.some.inj h
            have h := hk32
            exact ⟨_, reb_lit [(0, .sl 6 (List.map enc27 a0)), (1, .sl 6 (List.map enc27 a1)), (5, .ptr 5 0 0), (8, .own 30 0), (9, .own 33 0), (10, .own 35 0), (11, .int .i64 v11_2), (12, .bool v12_4)] [(5, 0), (30, 0), (33, 0), (35, 0)] [((5, 0), .box [.int .u64 a2.Hi, .int .u64 a2.Lo]), ((30, 0), .arr 31 10 false (List.map enc30 x16)), ((33, 0), .arr 31 10 false (List.map enc30 x18)), ((35, 0), .arr 31 10 false (List.map enc30 v10_s_2))] [(5, 1), (30, 1), (33, 1), (35, 1)] (envOk_cons (by conv => lhs; whnf) (by exact rfl) (envOk_cons (by conv => lhs; whnf) (by exact rfl) (envOk_cons (by conv => lhs; whnf) (by exact rfl) (envOk_cons (by conv => lhs; whnf) (by exact rfl) (envOk_cons (by conv => lhs; whnf) (by exact rfl) (envOk_cons (by conv => lhs; whnf) (by exact rfl) (envOk_cons (by conv => lhs; whnf) (by exact rfl) (envOk_cons (by conv => lhs; whnf) (by exact rfl) envOk_nil)))))))) (objOk_cons (by conv => lhs; whnf) (by conv => lhs; whnf) (by exact rfl) (by simp) (objOk_cons (by conv => lhs; whnf) (by conv => lhs; whnf) (by exact rfl) (by simp) (objOk_cons (by conv => lhs; whnf) (by conv => lhs; whnf) (by exact rfl) (by simp) (objOk_cons (by conv => lhs; whnf) (by conv => lhs; whnf) (by exact rfl) (by simp) objOk_nil)))) (nodup_b rfl) (nodup_b rfl) rfl rfl, v12_4, h, rfl⟩
        · rintro s ⟨v12_3, h, rfl⟩
          unfold gleaninglaw15_EpisodeJoins_k3 at h
          refine aw_seq_k (fun K45 hK45 => ?_)
          refine aw_reg ?_
          refine ao_cons (acts_of rfl (does_move (v := .bool v12_3) (by exact rfl))) (by decide) ?_
          refine ao_cons (acts_of rfl (does_un (v := .bool (!v12_3)) (by conv => lhs; whnf) rfl)) (by decide) ?_
          refine ao_nil_n ?_
          refine hK45 _ ?_
          refine aw_bool (b := (!v12_3)) 63 rfl (fun c46 => ?_) (fun c46 => ?_)
          · have h := ifT c46 h
            refine aw_cond_t (by decide) rfl ?_
            refine aw_reg ?_
            refine ao_cons (acts_of rfl (does_move (v := .own 35 0) (by exact rfl))) (by decide) ?_
            refine ao_cons (acts_of rfl (does_move (v := .own 33 0) (by exact rfl))) (by decide) ?_
            refine ao_cons (acts_of rfl (does_move (v := .int .i64 v11_2) (by exact rfl))) (by decide) ?_
            obtain ⟨g47, h⟩ := gd_some h
            obtain ⟨x48, hx48, h⟩ := bnd_some h
            refine ao_cons (acts_of rfl (does_indexAddr_own (by conv => lhs; whnf) (by conv => lhs; whnf) (by conv => lhs; whnf) ty26 ty31 g47 (by exact own_lt hx48))) (by decide) ?_
            refine ao_cons (acts_of rfl (does_load (v := .agg [.int .u64 x48.Trace.Hi, .int .u64 x48.Trace.Lo, .int .u64 x48.Id, .int .u64 x48.Parent, .str x48.Service, .str x48.Op, .int .i64 x48.Start, .int .i64 x48.Dur, .bool x48.Err, .sl 2 (List.map enc68 x48.Attrs)]) (by conv => lhs; whnf) (cellsAt_eptr (by conv => lhs; whnf) (by exact map_get hx48)) ty31 (by exact rfl))) (by decide) ?_
            refine ao_cons (acts_of rfl (do_buildSlice (xs := List.map enc30 [x48]) ty26 ty31 rfl rfl rfl rfl rfl rfl rfl rfl)) (by decide) ?_
            obtain ⟨g49, h⟩ := gd_some h
            refine ao_cons (acts_of rfl (do_append (v := List.map enc30 (v10_s_2 ++ [x48])) (by conv => lhs; whnf) (by conv => lhs; whnf) ty26 ty31 rfl rfl (by conv => lhs; whnf) (by first | exact .inl rfl | exact .inr ⟨rfl, rfl⟩) (by conv => lhs; whnf) (by first | exact .inr rfl | exact .inl rfl) (map_app _ _) (fit_map g49))) (by decide) ?_
            refine ao_cons (acts_of rfl (does_assign (v := .own 70 0) (by exact rfl))) (by decide) ?_
            refine ao_nil_n ?_
            refine hK29 _ ?_
            refine aw_reg ?_
            refine ao_cons (acts_of rfl (does_move (v := .int .i64 v11_2) (by exact rfl))) (by decide) ?_
            refine ao_cons (acts_of rfl (does_bin (v := .int .i64 (IntKind.i64.wrap (v11_2 + 1))) (by conv => lhs; whnf) (by conv => lhs; whnf) rfl)) (by decide) ?_
            refine ao_cons (acts_of rfl (does_assign (v := .int .i64 (IntKind.i64.wrap (v11_2 + 1))) (by exact rfl))) (by decide) ?_
            refine ao_nil_n ?_
            have h := leafL h hq25
            exact ⟨m2, Nat.lt_succ_self _, _, reb_lit [(0, .sl 6 (List.map enc27 a0)), (1, .sl 6 (List.map enc27 a1)), (5, .ptr 5 0 0), (8, .own 30 0), (9, .own 33 0), (10, .own 35 0), (11, .int .i64 (IntKind.i64.wrap (v11_2 + 1)))] [(5, 0), (30, 0), (33, 0), (70, 0)] [((5, 0), .box [.int .u64 a2.Hi, .int .u64 a2.Lo]), ((30, 0), .arr 31 10 false (List.map enc30 x16)), ((33, 0), .arr 31 10 false (List.map enc30 x18)), ((35, 0), .arr 31 10 false (List.map enc30 (v10_s_2 ++ [x48])))] [(5, 1), (30, 1), (33, 1), (35, 1)] (envOk_cons (by conv => lhs; whnf) (by exact rfl) (envOk_cons (by conv => lhs; whnf) (by exact rfl) (envOk_cons (by conv => lhs; whnf) (by exact rfl) (envOk_cons (by conv => lhs; whnf) (by exact rfl) (envOk_cons (by conv => lhs; whnf) (by exact rfl) (envOk_cons (by conv => lhs; whnf) (by exact rfl) (envOk_cons (by conv => lhs; whnf) (by exact rfl) envOk_nil))))))) (objOk_cons (by conv => lhs; whnf) (by conv => lhs; whnf) (by exact rfl) (by simp) (objOk_cons (by conv => lhs; whnf) (by conv => lhs; whnf) (by exact rfl) (by simp) (objOk_cons (by conv => lhs; whnf) (by conv => lhs; whnf) (by exact rfl) (by simp) (objOk_cons (by conv => lhs; whnf) (by conv => lhs; whnf) (by exact rfl) (by simp) objOk_nil)))) (nodup_b rfl) (nodup_b rfl) rfl rfl, (v10_s_2 ++ [x48]), (IntKind.i64.wrap (v11_2 + 1)), h, rfl⟩
          · have h := ifF c46 h
            refine aw_cond_f (by decide) rfl ?_
            refine aw_skip ?_
            refine hK29 _ ?_
            refine aw_reg ?_
            refine ao_cons (acts_of rfl (does_move (v := .int .i64 v11_2) (by exact rfl))) (by decide) ?_
            refine ao_cons (acts_of rfl (does_bin (v := .int .i64 (IntKind.i64.wrap (v11_2 + 1))) (by conv => lhs; whnf) (by conv => lhs; whnf) rfl)) (by decide) ?_
            refine ao_cons (acts_of rfl (does_assign (v := .int .i64 (IntKind.i64.wrap (v11_2 + 1))) (by exact rfl))) (by decide) ?_
            refine ao_nil_n ?_
            have h := leafL h hq25
            exact ⟨m2, Nat.lt_succ_self _, _, reb_lit [(0, .sl 6 (List.map enc27 a0)), (1, .sl 6 (List.map enc27 a1)), (5, .ptr 5 0 0), (8, .own 30 0), (9, .own 33 0), (10, .own 35 0), (11, .int .i64 (IntKind.i64.wrap (v11_2 + 1)))] [(5, 0), (30, 0), (33, 0), (35, 0)] [((5, 0), .box [.int .u64 a2.Hi, .int .u64 a2.Lo]), ((30, 0), .arr 31 10 false (List.map enc30 x16)), ((33, 0), .arr 31 10 false (List.map enc30 x18)), ((35, 0), .arr 31 10 false (List.map enc30 v10_s_2))] [(5, 1), (30, 1), (33, 1), (35, 1)] (envOk_cons (by conv => lhs; whnf) (by exact rfl) (envOk_cons (by conv => lhs; whnf) (by exact rfl) (envOk_cons (by conv => lhs; whnf) (by exact rfl) (envOk_cons (by conv => lhs; whnf) (by exact rfl) (envOk_cons (by conv => lhs; whnf) (by exact rfl) (envOk_cons (by conv => lhs; whnf) (by exact rfl) (envOk_cons (by conv => lhs; whnf) (by exact rfl) envOk_nil))))))) (objOk_cons (by conv => lhs; whnf) (by conv => lhs; whnf) (by exact rfl) (by simp) (objOk_cons (by conv => lhs; whnf) (by conv => lhs; whnf) (by exact rfl) (by simp) (objOk_cons (by conv => lhs; whnf) (by conv => lhs; whnf) (by exact rfl) (by simp) (objOk_cons (by conv => lhs; whnf) (by conv => lhs; whnf) (by exact rfl) (by simp) objOk_nil)))) (nodup_b rfl) (nodup_b rfl) rfl rfl, v10_s_2, (IntKind.i64.wrap (v11_2 + 1)), h, rfl⟩
      · have h := ifF c28 h
        refine aw_cond_f (by decide) rfl ?_
        refine aw_exit ?_
        have h := leafR h hq25
        obtain rfl := Option.some.inj h
        have h := hk22
        exact ⟨_, reb_lit [(0, .sl 6 (List.map enc27 a0)), (1, .sl 6 (List.map enc27 a1)), (5, .ptr 5 0 0), (10, .own 35 0)] [(5, 0), (35, 0)] [((5, 0), .box [.int .u64 a2.Hi, .int .u64 a2.Lo]), ((35, 0), .arr 31 10 false (List.map enc30 v10_s_2))] [(5, 1), (35, 1)] (envOk_cons (by conv => lhs; whnf) (by exact rfl) (envOk_cons (by conv => lhs; whnf) (by exact rfl) (envOk_cons (by conv => lhs; whnf) (by exact rfl) (envOk_cons (by conv => lhs; whnf) (by exact rfl) envOk_nil)))) (objOk_cons (by conv => lhs; whnf) (by conv => lhs; whnf) (by exact rfl) (by simp) (objOk_cons (by conv => lhs; whnf) (by conv => lhs; whnf) (by exact rfl) (by simp) objOk_nil)) (nodup_b rfl) (nodup_b rfl) rfl rfl, v10_s_2, h, rfl⟩
    · rintro s ⟨v10_s_1, h, rfl⟩
      unfold gleaninglaw15_EpisodeJoins_k1 at h
      refine aw_seq_k (fun K50 hK50 => ?_)
      refine aw_regd (by kernel_rfl) (by decide +kernel) ?_
      refine ao_cons (acts_of rfl (does_move (v := .sl 6 (List.map enc27 a0)) (by exact rfl))) (by decide) ?_
      obtain ⟨g51, h⟩ := gd_some h
      refine ao_cons (acts_of rfl (do_append (v := List.map enc27 a0) (by conv => lhs; whnf) (by conv => lhs; whnf) ty22 ty28 rfl rfl (by conv => lhs; whnf) (by first | exact .inl rfl | exact .inr ⟨rfl, rfl⟩) (by conv => lhs; whnf) (by first | exact .inr rfl | exact .inl rfl) (List.nil_append _) (fit_map g51))) (by decide) ?_
      refine ao_cons (acts_of rfl (does_move (v := .sl 6 (List.map enc27 a1)) (by exact rfl))) (by decide) ?_
      obtain ⟨g52, h⟩ := gd_some h
      refine ao_cons (acts_of rfl (do_append (v := List.map enc27 (a0 ++ a1)) (by conv => lhs; whnf) (by conv => lhs; whnf) ty22 ty28 rfl rfl (by conv => lhs; whnf) (by first | exact .inl rfl | exact .inr ⟨rfl, rfl⟩) (by conv => lhs; whnf) (by first | exact .inr rfl | exact .inl rfl) (map_app _ _) (fit_map g52))) (by decide) ?_
      refine ao_cons (acts_of rfl (does_load (v := .agg [.int .u64 a2.Hi, .int .u64 a2.Lo]) (by conv => lhs; whnf) (by conv => lhs; whnf) ty25 (by exact rfl))) (by decide) ?_
      obtain ⟨x53, hx53, h⟩ := bnd_some h
      refine ao_cons (acts_of rfl (does_frz (d := 74) (n := 0) (by conv => lhs; whnf) (do_callG (bcs := []) [] [] [(74, 0)] 76 false (episode_Spans_ok (a0 ++ a1) a2 hx53) rfl ent22 trivial trivial rfl rfl rfl rfl rfl rfl rfl rfl (.inl ⟨⟨_, _, _, rfl⟩, trivial⟩)))) (by decide) ?_
      refine ao_cons (acts_of rfl (does_move (v := .own 35 0) (by exact rfl))) (by decide) ?_
      obtain ⟨x54, hx54, h⟩ := bnd_some h
      refine ao_cons (acts_of rfl (do_callG (bcs := []) [] [] [(76, 0), (35, 0)] 78 false (gleaningref1_SameSpans_ok x53 v10_s_1 hx54) rfl ent21 trivial trivial rfl rfl rfl rfl rfl rfl rfl rfl (.inr ⟨rfl, rfl, trivial⟩))) (by decide) ?_
      refine ao_cons (acts_of rfl (does_assign (v := .bool x54) (by exact rfl))) (by decide) ?_
      refine ao_nil_d (by kernel_rfl) ?_
      refine hK50 _ ?_
      refine aw_ret ?_
      obtain rfl := Option.some.inj h
      exact ret_ok1 (by conv => lhs; whnf) (by conv => lhs; whnf) (by exact rfl) (.inr rfl) rfl
end Go.Proofs.Ytlkdpgemdopbfaa.Ab
