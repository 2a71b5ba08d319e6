/- Chapter 4: how many spans a batch has. -/
import Derived.Test.YtbfmmaabaenhgaaXBatch
import Derived.Test.YtbfmmaabaenhgaaProg
namespace Go.Proofs.Ytbfmmaabaenhgaa.Ab
open Go Go.RowKit
set_option linter.unusedVariables false
set_option linter.unusedSimpArgs false

def gleaninglaw4_BatchLimits_l2 (a0 : Int) (a1 : Span) (v8_s_2 : List Span) (v9_2 : Int) : Option ((List Span × Int) ⊕ (List Span)) :=
  if (decide (v9_2 < a0)) = true then (gd (0 ≤ v9_2) (Option.bind (v8_s_2[(Int.toNat v9_2)]?) (fun (x30 : Span) => some (Sum.inl ((List.set v8_s_2 (Int.toNat v9_2) a1), (IntKind.i64.wrap (v9_2 + 1))))))) else (some (Sum.inr v8_s_2))
def gleaninglaw4_BatchLimits_k3 (a0 : Int) (a2 : Int) (v8_s_1 : List Span) : Option Bool :=
  if (a0 == 0) = true then (some true) else (gd (¬ a0 = 0) (gd (0 ≤ (Int.tmod a2 a0)) (Option.bind (v8_s_1[(Int.toNat (Int.tmod a2 a0))]?) (fun (x74 : Span) => Option.bind (batch_Bytes (List.set v8_s_1 (Int.toNat (Int.tmod a2 a0)) (Span.mk x74.Trace x74.Id x74.Parent (strOf []) x74.Op x74.Start x74.Dur x74.Err x74.Attrs))) (fun (x76 : List UInt8) => some ((List.length x76 : Int) == 0))))))
def gleaninglaw4_BatchLimits_k1 (a0 : Int) (a2 : Int) (v8_s_1 : List Span) : Option Bool :=
  Option.bind (batch_Bytes v8_s_1) (fun (x32 : List UInt8) => Option.bind (batch_Read x32) (fun (x34 : List Span × Int) => Option.bind (if (decide ((1 : Int) ≤ a0)) = true then (if (!((decide ((0 : Int) < (List.length x32 : Int))) == (decide (a0 ≤ 50)))) = true then (some (Sum.inr false)) else (Option.bind (gleaninglaw4_num x34.2) (fun (x41 : Int) => if (decide ((1 : Int) ≤ a0)) = true then (if (!((x41 == 0) == (decide (a0 ≤ 50)))) = true then (some (Sum.inr false)) else (if (decide ((0 : Int) < (List.length x32 : Int))) = true then (if ((List.length x34.1 : Int) != a0) = true then (some (Sum.inr false)) else (some (Sum.inl ()))) else (some (Sum.inl ())))) else (if (!((x41 == 0) == false)) = true then (some (Sum.inr false)) else (if (decide ((0 : Int) < (List.length x32 : Int))) = true then (if ((List.length x34.1 : Int) != a0) = true then (some (Sum.inr false)) else (some (Sum.inl ()))) else (some (Sum.inl ()))))))) else (if (!((decide ((0 : Int) < (List.length x32 : Int))) == false)) = true then (some (Sum.inr false)) else (Option.bind (gleaninglaw4_num x34.2) (fun (x55 : Int) => if (decide ((1 : Int) ≤ a0)) = true then (if (!((x55 == 0) == (decide (a0 ≤ 50)))) = true then (some (Sum.inr false)) else (if (decide ((0 : Int) < (List.length x32 : Int))) = true then (if ((List.length x34.1 : Int) != a0) = true then (some (Sum.inr false)) else (some (Sum.inl ()))) else (some (Sum.inl ())))) else (if (!((x55 == 0) == false)) = true then (some (Sum.inr false)) else (if (decide ((0 : Int) < (List.length x32 : Int))) = true then (if ((List.length x34.1 : Int) != a0) = true then (some (Sum.inr false)) else (some (Sum.inl ()))) else (some (Sum.inl ())))))))) (Sum.elim (fun (s : Unit) => gleaninglaw4_BatchLimits_k3 a0 a2 v8_s_1) some)))
def gleaninglaw4_BatchLimits_k0 (a0 : Int) (a1 : Span) (a2 : Int) : Option Bool :=
  gd (0 ≤ a0 ∧ a0 ≤ 1000000) (Option.bind (loopN (fun (s : List Span × Int) => gleaninglaw4_BatchLimits_l2 a0 a1 s.1 s.2) Fu ((List.replicate (Int.toNat a0) (Span.mk (Trace.mk 0 0) 0 0 (strOf []) (strOf []) 0 0 false [])), 0)) (fun (s : List Span) => gleaninglaw4_BatchLimits_k1 a0 a2 s))
def gleaninglaw4_BatchLimits (a0 : Int) (a1 : Span) (a2 : Int) : Option Bool :=
  Option.bind (gleaninglaw4_alive) (fun (x3 : Bool) => Option.bind (if (!x3) = true then (some (Sum.inr x3)) else (if (decide (a0 < 0)) = true then (some (Sum.inr x3)) else (if (decide ((60 : Int) < a0)) = true then (some (Sum.inr x3)) else (Option.bind (gleaningref1_RightSpan a1) (fun (x13 : Bool) => if (!x13) = true then (some (Sum.inr x3)) else (if (decide (a2 < 0)) = true then (some (Sum.inr x3)) else (some (Sum.inl ())))))))) (Sum.elim (fun (s : Unit) => gleaninglaw4_BatchLimits_k0 a0 a1 a2) some))
set_option maxRecDepth 100000 in
set_option maxHeartbeats 8000000 in
/-- gleaning/gleaninglaw4.BatchLimits -/
theorem gleaninglaw4_BatchLimits_ok (a0 : Int) (a1 : Span) (a2 : Int) {r : Bool} (h : gleaninglaw4_BatchLimits a0 a1 a2 = some r) : Ok Try.prog 17 [.int .i64 a0, .agg [.int .u64 a1.Trace.Hi, .int .u64 a1.Trace.Lo, .int .u64 a1.Id, .int .u64 a1.Parent, .str a1.Service, .str a1.Op, .int .i64 a1.Start, .int .i64 a1.Dur, .bool a1.Err, .sl 2 (List.map enc52 a1.Attrs)], .int .i64 a2] [] [] (.bool r) [] [] := by
  unfold gleaninglaw4_BatchLimits at h
  refine ok_of_code Try.func17 rfl (by show (3 : Nat) ≤ _; decide) (Nat.le_refl _) fun X => ?_
  refine aw_seq_k (fun K1 hK1 => ?_)
  refine aw_reg ?_
  refine ao_cons (acts_of rfl (do_box (by conv => lhs; whnf) rfl rfl)) (by decide) ?_
  refine ao_cons (acts_of rfl (does_assign (v := .bool false) (by exact rfl))) (by decide) ?_
  refine ao_nil_n ?_
  refine hK1 _ ?_
  refine aw_seq_k (fun K2 hK2 => ?_)
  refine aw_reg ?_
  obtain ⟨x3, hx3, h⟩ := bnd_some h
  refine ao_cons (acts_of rfl (do_call0 13 false (gleaninglaw4_alive_ok hx3) rfl ent47 rfl rfl)) (by decide) ?_
  refine ao_cons (acts_of rfl (does_assign (v := .bool x3) (by exact rfl))) (by decide) ?_
  refine ao_nil_n ?_
  refine hK2 _ ?_
  obtain ⟨q4, h, hk5⟩ := bnd_some h
  refine aw_cut (fun s => gleaninglaw4_BatchLimits_k0 a0 a1 a2 = some r ∧ s = lit [(0, .int .i64 a0), (2, .int .i64 a2), (4, .ptr 4 0 0)] [((4, 0), .box [.int .u64 a1.Trace.Hi, .int .u64 a1.Trace.Lo, .int .u64 a1.Id, .int .u64 a1.Parent, .str a1.Service, .str a1.Op, .int .i64 a1.Start, .int .i64 a1.Dur, .bool a1.Err, .sl 2 (List.map enc52 a1.Attrs)])] [(4, 1)] X) ?_ ?_
  · skip
    refine aw_seq_k (fun K6 hK6 => ?_)
    refine aw_reg ?_
    refine ao_cons (acts_of rfl (does_move (v := .bool x3) (by exact rfl))) (by decide) ?_
    refine ao_cons (acts_of rfl (does_un (v := .bool (!x3)) (by conv => lhs; whnf) rfl)) (by decide) ?_
    refine ao_cons (acts_of rfl (does_move (v := .bool (!x3)) (by exact rfl))) (by decide) ?_
    refine ao_bool (c := (!x3)) 16 rfl (fun c7 => ?_) (fun c7 => ?_)
    · have h := ifT c7 h
      refine ao_cons (acts_skip rfl) (by decide) ?_
      refine ao_cons (acts_skip rfl) (by decide) ?_
      refine ao_cons (acts_of rfl (does_pick (v := .bool true) (by conv => lhs; whnf) (by exact rfl))) (by decide) ?_
      refine ao_cons (acts_of rfl (does_move (v := .bool true) (by exact rfl))) (by decide) ?_
      refine ao_cons (acts_skip rfl) (by decide) ?_
      refine ao_cons (acts_skip rfl) (by decide) ?_
      refine ao_cons (acts_of rfl (does_pick (v := .bool true) (by conv => lhs; whnf) (by exact rfl))) (by decide) ?_
      refine ao_cons (acts_of rfl (does_move (v := .bool true) (by exact rfl))) (by decide) ?_
      refine ao_cons (acts_skip rfl) (by decide) ?_
      refine ao_cons (acts_skip rfl) (by decide) ?_
      refine ao_cons (acts_skip rfl) (by decide) ?_
      refine ao_cons (acts_of rfl (does_pick (v := .bool true) (by conv => lhs; whnf) (by exact rfl))) (by decide) ?_
      refine ao_cons (acts_of rfl (does_move (v := .bool true) (by exact rfl))) (by decide) ?_
      refine ao_cons (acts_skip rfl) (by decide) ?_
      refine ao_cons (acts_skip rfl) (by decide) ?_
      refine ao_cons (acts_of rfl (does_pick (v := .bool true) (by conv => lhs; whnf) (by exact rfl))) (by decide) ?_
      refine ao_nil_n ?_
      refine hK6 _ ?_
      refine aw_cond_t (by decide) rfl ?_
      refine aw_seq_k (fun K8 hK8 => ?_)
      refine aw_reg ?_
      refine ao_cons (acts_of rfl (does_move (v := .bool x3) (by exact rfl))) (by decide) ?_
      refine ao_cons (acts_of rfl (does_assign (v := .bool x3) (by exact rfl))) (by decide) ?_
      refine ao_nil_n ?_
      refine hK8 _ ?_
      refine aw_ret ?_
      have h := leafR h hk5
      obtain rfl := Option.some.inj h
      exact ret_ok1 (by conv => lhs; whnf) (by conv => lhs; whnf) (by exact rfl) (.inr rfl) rfl
    · have h := ifF c7 h
      refine ao_cons (acts_of rfl (does_move (v := .int .i64 a0) (by exact rfl))) (by decide) ?_
      refine ao_cons (acts_of rfl (does_bin (v := .bool (decide (a0 < 0))) (by conv => lhs; whnf) (by conv => lhs; whnf) rfl)) (by decide) ?_
      refine ao_cons (acts_of rfl (does_pick (v := .bool (decide (a0 < 0))) (by conv => lhs; whnf) (by exact rfl))) (by decide) ?_
      refine ao_cons (acts_of rfl (does_move (v := .bool (decide (a0 < 0))) (by exact rfl))) (by decide) ?_
      refine ao_bool (c := (decide (a0 < 0))) 20 rfl (fun c9 => ?_) (fun c9 => ?_)
      · have h := ifT c9 h
        refine ao_cons (acts_skip rfl) (by decide) ?_
        refine ao_cons (acts_skip rfl) (by decide) ?_
        refine ao_cons (acts_of rfl (does_pick (v := .bool true) (by conv => lhs; whnf) (by exact rfl))) (by decide) ?_
        refine ao_cons (acts_of rfl (does_move (v := .bool true) (by exact rfl))) (by decide) ?_
        refine ao_cons (acts_skip rfl) (by decide) ?_
        refine ao_cons (acts_skip rfl) (by decide) ?_
        refine ao_cons (acts_skip rfl) (by decide) ?_
        refine ao_cons (acts_of rfl (does_pick (v := .bool true) (by conv => lhs; whnf) (by exact rfl))) (by decide) ?_
        refine ao_cons (acts_of rfl (does_move (v := .bool true) (by exact rfl))) (by decide) ?_
        refine ao_cons (acts_skip rfl) (by decide) ?_
        refine ao_cons (acts_skip rfl) (by decide) ?_
        refine ao_cons (acts_of rfl (does_pick (v := .bool true) (by conv => lhs; whnf) (by exact rfl))) (by decide) ?_
        refine ao_nil_n ?_
        refine hK6 _ ?_
        refine aw_cond_t (by decide) rfl ?_
        refine aw_seq_k (fun K10 hK10 => ?_)
        refine aw_reg ?_
        refine ao_cons (acts_of rfl (does_move (v := .bool x3) (by exact rfl))) (by decide) ?_
        refine ao_cons (acts_of rfl (does_assign (v := .bool x3) (by exact rfl))) (by decide) ?_
        refine ao_nil_n ?_
        refine hK10 _ ?_
        refine aw_ret ?_
        have h := leafR h hk5
        obtain rfl := Option.some.inj h
        exact ret_ok1 (by conv => lhs; whnf) (by conv => lhs; whnf) (by exact rfl) (.inr rfl) rfl
      · have h := ifF c9 h
        refine ao_cons (acts_of rfl (does_move (v := .int .i64 a0) (by exact rfl))) (by decide) ?_
        refine ao_cons (acts_of rfl (does_bin (v := .bool (decide ((60 : Int) < a0))) (by conv => lhs; whnf) (by conv => lhs; whnf) rfl)) (by decide) ?_
        refine ao_cons (acts_of rfl (does_pick (v := .bool (decide ((60 : Int) < a0))) (by conv => lhs; whnf) (by exact rfl))) (by decide) ?_
        refine ao_cons (acts_of rfl (does_move (v := .bool (decide ((60 : Int) < a0))) (by exact rfl))) (by decide) ?_
        refine ao_bool (c := (decide ((60 : Int) < a0))) 24 rfl (fun c11 => ?_) (fun c11 => ?_)
        · have h := ifT c11 h
          refine ao_cons (acts_skip rfl) (by decide) ?_
          refine ao_cons (acts_skip rfl) (by decide) ?_
          refine ao_cons (acts_skip rfl) (by decide) ?_
          refine ao_cons (acts_of rfl (does_pick (v := .bool true) (by conv => lhs; whnf) (by exact rfl))) (by decide) ?_
          refine ao_cons (acts_of rfl (does_move (v := .bool true) (by exact rfl))) (by decide) ?_
          refine ao_cons (acts_skip rfl) (by decide) ?_
          refine ao_cons (acts_skip rfl) (by decide) ?_
          refine ao_cons (acts_of rfl (does_pick (v := .bool true) (by conv => lhs; whnf) (by exact rfl))) (by decide) ?_
          refine ao_nil_n ?_
          refine hK6 _ ?_
          refine aw_cond_t (by decide) rfl ?_
          refine aw_seq_k (fun K12 hK12 => ?_)
          refine aw_reg ?_
          refine ao_cons (acts_of rfl (does_move (v := .bool x3) (by exact rfl))) (by decide) ?_
          refine ao_cons (acts_of rfl (does_assign (v := .bool x3) (by exact rfl))) (by decide) ?_
          refine ao_nil_n ?_
          refine hK12 _ ?_
          refine aw_ret ?_
          have h := leafR h hk5
          obtain rfl := Option.some.inj h
          exact ret_ok1 (by conv => lhs; whnf) (by conv => lhs; whnf) (by exact rfl) (.inr rfl) rfl
        · have h := ifF c11 h
          refine ao_cons (acts_of rfl (does_load (v := .agg [.int .u64 a1.Trace.Hi, .int .u64 a1.Trace.Lo, .int .u64 a1.Id, .int .u64 a1.Parent, .str a1.Service, .str a1.Op, .int .i64 a1.Start, .int .i64 a1.Dur, .bool a1.Err, .sl 2 (List.map enc52 a1.Attrs)]) (by conv => lhs; whnf) (by conv => lhs; whnf) ty42 (by exact rfl))) (by decide) ?_
          obtain ⟨x13, hx13, h⟩ := bnd_some h
          refine ao_cons (acts_of rfl (do_call0 26 false (gleaningref1_RightSpan_ok a1 hx13) rfl ent28 rfl rfl)) (by decide) ?_
          refine ao_cons (acts_of rfl (does_un (v := .bool (!x13)) (by conv => lhs; whnf) rfl)) (by decide) ?_
          refine ao_cons (acts_of rfl (does_pick (v := .bool (!x13)) (by conv => lhs; whnf) (by exact rfl))) (by decide) ?_
          refine ao_cons (acts_of rfl (does_move (v := .bool (!x13)) (by exact rfl))) (by decide) ?_
          refine ao_bool (c := (!x13)) 29 rfl (fun c14 => ?_) (fun c14 => ?_)
          · have h := ifT c14 h
            refine ao_cons (acts_skip rfl) (by decide) ?_
            refine ao_cons (acts_skip rfl) (by decide) ?_
            refine ao_cons (acts_of rfl (does_pick (v := .bool true) (by conv => lhs; whnf) (by exact rfl))) (by decide) ?_
            refine ao_nil_n ?_
            refine hK6 _ ?_
            refine aw_cond_t (by decide) rfl ?_
            refine aw_seq_k (fun K15 hK15 => ?_)
            refine aw_reg ?_
            refine ao_cons (acts_of rfl (does_move (v := .bool x3) (by exact rfl))) (by decide) ?_
            refine ao_cons (acts_of rfl (does_assign (v := .bool x3) (by exact rfl))) (by decide) ?_
            refine ao_nil_n ?_
            refine hK15 _ ?_
            refine aw_ret ?_
            have h := leafR h hk5
            obtain rfl := Option.some.inj h
            exact ret_ok1 (by conv => lhs; whnf) (by conv => lhs; whnf) (by exact rfl) (.inr rfl) rfl
          · have h := ifF c14 h
            refine ao_cons (acts_of rfl (does_move (v := .int .i64 a2) (by exact rfl))) (by decide) ?_
            refine ao_cons (acts_of rfl (does_bin (v := .bool (decide (a2 < 0))) (by conv => lhs; whnf) (by conv => lhs; whnf) rfl)) (by decide) ?_
            refine ao_cons (acts_of rfl (does_pick (v := .bool (decide (a2 < 0))) (by conv => lhs; whnf) (by exact rfl))) (by decide) ?_
            refine ao_nil_n ?_
            refine hK6 _ ?_
            refine aw_bool (b := (decide (a2 < 0))) 32 rfl (fun c16 => ?_) (fun c16 => ?_)
            · have h := ifT c16 h
              refine aw_cond_t (by decide) rfl ?_
              refine aw_seq_k (fun K17 hK17 => ?_)
              refine aw_reg ?_
              refine ao_cons (acts_of rfl (does_move (v := .bool x3) (by exact rfl))) (by decide) ?_
              refine ao_cons (acts_of rfl (does_assign (v := .bool x3) (by exact rfl))) (by decide) ?_
              refine ao_nil_n ?_
              refine hK17 _ ?_
              refine aw_ret ?_
              have h := leafR h hk5
              obtain rfl := Option.some.inj h
              exact ret_ok1 (by conv => lhs; whnf) (by conv => lhs; whnf) (by exact rfl) (.inr rfl) rfl
            · have h := ifF c16 h
              refine aw_cond_f (by decide) rfl ?_
              refine aw_skip ?_
              have h := leafL h hk5
              exact ⟨_, reb_lit [(0, .int .i64 a0), (2, .int .i64 a2), (4, .ptr 4 0 0)] [(4, 0)] [((4, 0), .box [.int .u64 a1.Trace.Hi, .int .u64 a1.Trace.Lo, .int .u64 a1.Id, .int .u64 a1.Parent, .str a1.Service, .str a1.Op, .int .i64 a1.Start, .int .i64 a1.Dur, .bool a1.Err, .sl 2 (List.map enc52 a1.Attrs)])] [(4, 1)] (envOk_cons (by conv => lhs; whnf) (by exact rfl) (envOk_cons (by conv => lhs; whnf) (by exact rfl) (envOk_cons (by conv => lhs; whnf) (by exact rfl) envOk_nil))) (objOk_cons (by conv => lhs; whnf) (by conv => lhs; whnf) (by exact rfl) (by simp) objOk_nil) (nodup_b rfl) (nodup_b rfl) rfl rfl, h, rfl⟩
  · rintro s ⟨h, rfl⟩
    unfold gleaninglaw4_BatchLimits_k0 at h
    refine aw_seq_k (fun K18 hK18 => ?_)
    refine aw_reg ?_
    refine ao_cons (acts_of rfl (does_move (v := .int .i64 a0) (by exact rfl))) (by decide) ?_
    obtain ⟨g19, h⟩ := gd_some h
    refine ao_cons (acts_of rfl (do_makeSlice (f := enc41) (z0 := (Span.mk (Trace.mk 0 0) 0 0 (strOf []) (strOf []) 0 0 false [])) (zx := .agg [.int .u64 0, .int .u64 0, .int .u64 0, .int .u64 0, .str (strOf []), .str (strOf []), .int .i64 0, .int .i64 0, .bool false, .sl 2 (List.map enc52 [])]) rfl ty28 ty42 (ev_nat (by conv => lhs; whnf) g19.1) (ev_nat (by conv => lhs; whnf) g19.1) rfl rfl rfl (by omega) rfl)) (by decide) ?_
    refine ao_cons (acts_of rfl (does_assign (v := .own 35 0) (by exact rfl))) (by decide) ?_
    refine ao_nil_n ?_
    refine hK18 _ ?_
    obtain ⟨q20, h, hk21⟩ := bnd_some h
    refine aw_cut (fun s => ∃ (v8_s_1 : List Span), gleaninglaw4_BatchLimits_k1 a0 a2 v8_s_1 = some r ∧ s = lit [(0, .int .i64 a0), (2, .int .i64 a2), (8, .own 35 0)] [((35, 0), .arr 42 10 false (List.map enc41 v8_s_1))] [(35, 1)] X) ?_ ?_
    · skip
      refine aw_seq_k (fun K22 hK22 => ?_)
      refine aw_reg ?_
      refine ao_cons (acts_of rfl (does_assign (v := .int .i64 0) (by exact rfl))) (by decide) ?_
      refine ao_nil_n ?_
      refine hK22 _ ?_
      refine aw_block ?_
      refine aw_loop' (fun m s => ∃ (v8_s_2 : List Span), ∃ (v9_2 : Int), loopN (fun (s : List Span × Int) => gleaninglaw4_BatchLimits_l2 a0 a1 s.1 s.2) m (v8_s_2, v9_2) = some q20 ∧ s = lit [(0, .int .i64 a0), (2, .int .i64 a2), (4, .ptr 4 0 0), (8, .own 35 0), (9, .int .i64 v9_2)] [((4, 0), .box [.int .u64 a1.Trace.Hi, .int .u64 a1.Trace.Lo, .int .u64 a1.Id, .int .u64 a1.Parent, .str a1.Service, .str a1.Op, .int .i64 a1.Start, .int .i64 a1.Dur, .bool a1.Err, .sl 2 (List.map enc52 a1.Attrs)]), ((35, 0), .arr 42 10 false (List.map enc41 v8_s_2))] [(4, 1), (35, 1)] X) Fu
        ⟨_, reb_lit [(0, .int .i64 a0), (2, .int .i64 a2), (4, .ptr 4 0 0), (8, .own 35 0), (9, .int .i64 (0))] [(4, 0), (35, 0)] [((4, 0), .box [.int .u64 a1.Trace.Hi, .int .u64 a1.Trace.Lo, .int .u64 a1.Id, .int .u64 a1.Parent, .str a1.Service, .str a1.Op, .int .i64 a1.Start, .int .i64 a1.Dur, .bool a1.Err, .sl 2 (List.map enc52 a1.Attrs)]), ((35, 0), .arr 42 10 false (List.map enc41 (List.replicate (Int.toNat a0) (Span.mk (Trace.mk 0 0) 0 0 (strOf []) (strOf []) 0 0 false []))))] [(4, 1), (35, 1)] (envOk_cons (by conv => lhs; whnf) (by exact rfl) (envOk_cons (by conv => lhs; whnf) (by exact rfl) (envOk_cons (by conv => lhs; whnf) (by exact rfl) (envOk_cons (by conv => lhs; whnf) (by exact rfl) (envOk_cons (by conv => lhs; whnf) (by exact rfl) envOk_nil))))) (objOk_cons (by conv => lhs; whnf) (by conv => lhs; whnf) (by exact rfl) (by simp) (objOk_cons (by conv => lhs; whnf) (by conv => lhs; whnf) (by exact rfl) (by simp) objOk_nil)) (nodup_b rfl) (nodup_b rfl) rfl rfl, (List.replicate (Int.toNat a0) (Span.mk (Trace.mk 0 0) 0 0 (strOf []) (strOf []) 0 0 false [])), 0, h, rfl⟩ ?_
      rintro m s ⟨v8_s_2, v9_2, h, rfl⟩
      obtain ⟨m2, q23, rfl, h, hq24⟩ := loop_some h
      replace h : gleaninglaw4_BatchLimits_l2 a0 a1 v8_s_2 v9_2 = some q23 := h
      unfold gleaninglaw4_BatchLimits_l2 at h
      refine aw_seq_k (fun K25 hK25 => ?_)
      refine aw_seq_k (fun K26 hK26 => ?_)
      refine aw_reg ?_
      refine ao_cons (acts_of rfl (does_move (v := .int .i64 v9_2) (by exact rfl))) (by decide) ?_
      refine ao_cons (acts_of rfl (does_move (v := .int .i64 a0) (by exact rfl))) (by decide) ?_
      refine ao_cons (acts_of rfl (does_bin (v := .bool (decide (v9_2 < a0))) (by conv => lhs; whnf) (by conv => lhs; whnf) rfl)) (by decide) ?_
      refine ao_nil_n ?_
      refine hK26 _ ?_
      refine aw_bool (b := (decide (v9_2 < a0))) 38 rfl (fun c27 => ?_) (fun c27 => ?_)
      · have h := ifT c27 h
        refine aw_cond_t (by decide) rfl ?_
        refine aw_skip ?_
        refine hK25 _ ?_
        refine aw_seq_k (fun K28 hK28 => ?_)
        refine aw_block ?_
        refine aw_reg ?_
        refine ao_cons (acts_of rfl (does_move (v := .own 35 0) (by exact rfl))) (by decide) ?_
        refine ao_cons (acts_of rfl (does_move (v := .int .i64 v9_2) (by exact rfl))) (by decide) ?_
        refine ao_cons (acts_of rfl (does_load (v := .agg [.int .u64 a1.Trace.Hi, .int .u64 a1.Trace.Lo, .int .u64 a1.Id, .int .u64 a1.Parent, .str a1.Service, .str a1.Op, .int .i64 a1.Start, .int .i64 a1.Dur, .bool a1.Err, .sl 2 (List.map enc52 a1.Attrs)]) (by conv => lhs; whnf) (by conv => lhs; whnf) ty42 (by exact rfl))) (by decide) ?_
        obtain ⟨g29, h⟩ := gd_some h
        obtain ⟨x30, hx30, h⟩ := bnd_some h
        refine ao_cons (acts_of rfl (does_indexAddr_own (by conv => lhs; whnf) (by conv => lhs; whnf) (by conv => lhs; whnf) ty28 ty42 g29 (by exact own_lt hx30))) (by decide) ?_
        refine ao_cons (acts_of rfl (does_storeE (old := .agg [.int .u64 x30.Trace.Hi, .int .u64 x30.Trace.Lo, .int .u64 x30.Id, .int .u64 x30.Parent, .str x30.Service, .str x30.Op, .int .i64 x30.Start, .int .i64 x30.Dur, .bool x30.Err, .sl 2 (List.map enc52 x30.Attrs)]) (el := .agg [.int .u64 a1.Trace.Hi, .int .u64 a1.Trace.Lo, .int .u64 a1.Id, .int .u64 a1.Parent, .str a1.Service, .str a1.Op, .int .i64 a1.Start, .int .i64 a1.Dur, .bool a1.Err, .sl 2 (List.map enc52 a1.Attrs)]) (xs' := List.map enc41 (List.set v8_s_2 (Int.toNat v9_2) a1)) (by conv => lhs; whnf) (by conv => lhs; whnf) (by conv => lhs; whnf) ty42 (by rfl) (by rfl) (by exact map_get hx30) (by rfl) (by exact rfl) (by exact map_set' _ _ a1) (by rfl))) (by decide) ?_
        refine ao_nil_n ?_
        refine hK28 _ ?_
        refine aw_reg ?_
        refine ao_cons (acts_of rfl (does_move (v := .int .i64 v9_2) (by exact rfl))) (by decide) ?_
        refine ao_cons (acts_of rfl (does_bin (v := .int .i64 (IntKind.i64.wrap (v9_2 + 1))) (by conv => lhs; whnf) (by conv => lhs; whnf) rfl)) (by decide) ?_
        refine ao_cons (acts_of rfl (does_assign (v := .int .i64 (IntKind.i64.wrap (v9_2 + 1))) (by exact rfl))) (by decide) ?_
        refine ao_nil_n ?_
        have h := leafL h hq24
        exact ⟨m2, Nat.lt_succ_self _, _, reb_lit [(0, .int .i64 a0), (2, .int .i64 a2), (4, .ptr 4 0 0), (8, .own 35 0), (9, .int .i64 (IntKind.i64.wrap (v9_2 + 1)))] [(4, 0), (35, 0)] [((4, 0), .box [.int .u64 a1.Trace.Hi, .int .u64 a1.Trace.Lo, .int .u64 a1.Id, .int .u64 a1.Parent, .str a1.Service, .str a1.Op, .int .i64 a1.Start, .int .i64 a1.Dur, .bool a1.Err, .sl 2 (List.map enc52 a1.Attrs)]), ((35, 0), .arr 42 10 false (List.map enc41 (List.set v8_s_2 (Int.toNat v9_2) a1)))] [(4, 1), (35, 1)] (envOk_cons (by conv => lhs; whnf) (by exact rfl) (envOk_cons (by conv => lhs; whnf) (by exact rfl) (envOk_cons (by conv => lhs; whnf) (by exact rfl) (envOk_cons (by conv => lhs; whnf) (by exact rfl) (envOk_cons (by conv => lhs; whnf) (by exact rfl) envOk_nil))))) (objOk_cons (by conv => lhs; whnf) (by conv => lhs; whnf) (by exact rfl) (by simp) (objOk_cons (by conv => lhs; whnf) (by conv => lhs; whnf) (by exact rfl) (by simp) objOk_nil)) (nodup_b rfl) (nodup_b rfl) rfl rfl, (List.set v8_s_2 (Int.toNat v9_2) a1), (IntKind.i64.wrap (v9_2 + 1)), h, rfl⟩
      · have h := ifF c27 h
        refine aw_cond_f (by decide) rfl ?_
        refine aw_exit ?_
        have h := leafR h hq24
        obtain rfl := Option.some.inj h
        have h := hk21
        exact ⟨_, reb_lit [(0, .int .i64 a0), (2, .int .i64 a2), (8, .own 35 0)] [(35, 0)] [((35, 0), .arr 42 10 false (List.map enc41 v8_s_2))] [(35, 1)] (envOk_cons (by conv => lhs; whnf) (by exact rfl) (envOk_cons (by conv => lhs; whnf) (by exact rfl) (envOk_cons (by conv => lhs; whnf) (by exact rfl) envOk_nil))) (objOk_cons (by conv => lhs; whnf) (by conv => lhs; whnf) (by exact rfl) (by simp) objOk_nil) (nodup_b rfl) (nodup_b rfl) rfl rfl, v8_s_2, h, rfl⟩
    · rintro s ⟨v8_s_1, h, rfl⟩
      unfold gleaninglaw4_BatchLimits_k1 at h
      refine aw_seq_k (fun K31 hK31 => ?_)
      refine aw_reg ?_
      refine ao_cons (acts_of rfl (does_move (v := .own 35 0) (by exact rfl))) (by decide) ?_
      obtain ⟨x32, hx32, h⟩ := bnd_some h
      refine ao_cons (acts_of rfl (do_callG (bcs := []) [] [] [(35, 0)] 46 false (batch_Bytes_ok v8_s_1 hx32) rfl ent48 trivial trivial rfl rfl rfl rfl rfl rfl rfl rfl (.inr ⟨rfl, rfl, ⟨plain_map (fun _ => rfl), trivial⟩⟩))) (by decide) ?_
      refine ao_cons (acts_of rfl (does_assign (v := .own 46 0) (by exact rfl))) (by decide) ?_
      refine ao_nil_n ?_
      refine hK31 _ ?_
      refine aw_seq_k (fun K33 hK33 => ?_)
      refine aw_reg ?_
      refine ao_cons (acts_of rfl (does_move (v := .own 46 0) (by exact rfl))) (by decide) ?_
      obtain ⟨x34, hx34, h⟩ := bnd_some h
      refine ao_cons (acts_of rfl (does_frz (d := 46) (n := 0) (by conv => lhs; whnf) (do_callG (bcs := []) [] [] [(46, 0)] 49 false (batch_Read_ok x32 hx34) rfl ent49 trivial trivial rfl rfl rfl rfl rfl rfl rfl rfl (.inl ⟨⟨_, _, _, rfl⟩, trivial⟩)))) (by decide) ?_
      refine ao_cons (acts_of rfl (does_move (v := .tup [.own 49 0, .int .i64 x34.2]) (by exact rfl))) (by decide) ?_
      refine ao_cons (acts_of rfl (does_extract (v := .own 49 0) (by conv => lhs; whnf) (by exact rfl))) (by decide) ?_
      refine ao_cons (acts_of rfl (does_extract (v := .int .i64 x34.2) (by conv => lhs; whnf) (by exact rfl))) (by decide) ?_
      refine ao_cons (acts_of rfl (does_assign (v := .own 49 0) (by exact rfl))) (by decide) ?_
      refine ao_cons (acts_of rfl (does_assign (v := .int .i64 x34.2) (by exact rfl))) (by decide) ?_
      refine ao_nil_n ?_
      refine hK33 _ ?_
      obtain ⟨q35, h, hk36⟩ := bnd_some h
      refine aw_cut (fun s => gleaninglaw4_BatchLimits_k3 a0 a2 v8_s_1 = some r ∧ s = lit [(0, .int .i64 a0), (2, .int .i64 a2), (8, .own 35 0)] [((35, 0), .arr 42 10 false (List.map enc41 v8_s_1))] [(35, 1)] X) ?_ ?_
      · skip
        refine aw_seq_k (fun K37 hK37 => ?_)
        refine aw_regL ?_
        refine al_cons (acts_of rfl (does_move (v := .own 46 0) (by exact rfl))) (by decide) ?_
        refine al_cons (acts_of rfl ((does_len_own (by conv => lhs; whnf) (by conv => lhs; whnf) ty43).cast (v' := .int .i64 (List.length x32 : Int)) (by exact len_map _))) (by decide) ?_
        refine al_reb (reb_lit [(0, .int .i64 a0), (2, .int .i64 a2), (8, .own 35 0), (10, .own 46 0), (11, .own 49 0), (12, .int .i64 x34.2), (53, .int .i64 (List.length x32 : Int))] [(35, 0), (46, 0), (49, 0)] [((35, 0), .arr 42 10 false (List.map enc41 v8_s_1)), ((46, 0), .arr 5 1 true (List.map enc5 x32)), ((49, 0), .arr 42 10 false (List.map enc41 x34.1))] [(35, 1), (46, 1), (49, 1)] (envOk_cons (by conv => lhs; whnf) (by exact rfl) (envOk_cons (by conv => lhs; whnf) (by exact rfl) (envOk_cons (by conv => lhs; whnf) (by exact rfl) (envOk_cons (by conv => lhs; whnf) (by exact rfl) (envOk_cons (by conv => lhs; whnf) (by exact rfl) (envOk_cons (by conv => lhs; whnf) (by exact rfl) (envOk_cons (by conv => lhs; whnf) (by exact rfl) envOk_nil))))))) (objOk_cons (by conv => lhs; whnf) (by conv => lhs; whnf) (by exact rfl) (by simp) (objOk_cons (by conv => lhs; whnf) (by conv => lhs; whnf) (by exact rfl) (by simp) (objOk_cons (by conv => lhs; whnf) (by conv => lhs; whnf) (by exact rfl) (by simp) objOk_nil))) (nodup_b rfl) (nodup_b rfl) rfl rfl) ?_
        refine al_cons (acts_of rfl (does_bin (v := .bool (decide ((0 : Int) < (List.length x32 : Int)))) (by conv => lhs; whnf) (by conv => lhs; whnf) rfl)) (by decide) ?_
        refine al_cons (acts_of rfl (does_move (v := .int .i64 a0) (by exact rfl))) (by decide) ?_
        refine al_cons (acts_of rfl (does_bin (v := .bool (decide ((1 : Int) ≤ a0))) (by conv => lhs; whnf) (by conv => lhs; whnf) rfl)) (by decide) ?_
        refine al_cons (acts_of rfl (does_move (v := .bool (decide ((1 : Int) ≤ a0))) (by exact rfl))) (by decide) ?_
        refine al_bool (c := (decide ((1 : Int) ≤ a0))) 57 rfl (fun c38 => ?_) (fun c38 => ?_)
        · have h := ifT c38 h
          refine al_cons (acts_of rfl (does_move (v := .int .i64 a0) (by exact rfl))) (by decide) ?_
          refine al_cons (acts_of rfl (does_bin (v := .bool (decide (a0 ≤ 50))) (by conv => lhs; whnf) (by conv => lhs; whnf) rfl)) (by decide) ?_
          refine al_cons (acts_of rfl (does_pick (v := .bool (decide (a0 ≤ 50))) (by conv => lhs; whnf) (by exact rfl))) (by decide) ?_
          refine al_cons (acts_of rfl (does_eq_bool (v := .bool (!((decide ((0 : Int) < (List.length x32 : Int))) == (decide (a0 ≤ 50))))) (by conv => lhs; whnf) (by conv => lhs; whnf) (ty_bool ty4) rfl)) (by decide) ?_
          refine al_cons (acts_of rfl (does_move (v := .bool (!((decide ((0 : Int) < (List.length x32 : Int))) == (decide (a0 ≤ 50))))) (by exact rfl))) (by decide) ?_
          refine al_bool (c := (!((decide ((0 : Int) < (List.length x32 : Int))) == (decide (a0 ≤ 50))))) 62 rfl (fun c39 => ?_) (fun c39 => ?_)
          · have h := ifT c39 h
            refine al_cons (acts_skip rfl) (by decide) ?_
            refine al_cons (acts_skip rfl) (by decide) ?_
            refine al_cons (acts_skip rfl) (by decide) ?_
            refine al_reb (reb_lit [(0, .int .i64 a0), (2, .int .i64 a2), (8, .own 35 0), (10, .own 46 0), (11, .own 49 0), (62, .bool true), (65, .skip)] [(35, 0), (46, 0), (49, 0)] [((35, 0), .arr 42 10 false (List.map enc41 v8_s_1)), ((46, 0), .arr 5 1 true (List.map enc5 x32)), ((49, 0), .arr 42 10 false (List.map enc41 x34.1))] [(35, 1), (46, 1), (49, 1)] (envOk_cons (by conv => lhs; whnf) (by exact rfl) (envOk_cons (by conv => lhs; whnf) (by exact rfl) (envOk_cons (by conv => lhs; whnf) (by exact rfl) (envOk_cons (by conv => lhs; whnf) (by exact rfl) (envOk_cons (by conv => lhs; whnf) (by exact rfl) (envOk_cons (by conv => lhs; whnf) (by exact rfl) (envOk_cons (by conv => lhs; whnf) (by exact rfl) envOk_nil))))))) (objOk_cons (by conv => lhs; whnf) (by conv => lhs; whnf) (by exact rfl) (by simp) (objOk_cons (by conv => lhs; whnf) (by conv => lhs; whnf) (by exact rfl) (by simp) (objOk_cons (by conv => lhs; whnf) (by conv => lhs; whnf) (by exact rfl) (by simp) objOk_nil))) (nodup_b rfl) (nodup_b rfl) rfl rfl) ?_
            refine al_cons (acts_skip rfl) (by decide) ?_
            refine al_cons (acts_skip rfl) (by decide) ?_
            refine al_cons (acts_skip rfl) (by decide) ?_
            refine al_cons (acts_skip rfl) (by decide) ?_
            refine al_cons (acts_skip rfl) (by decide) ?_
            refine al_cons (acts_skip rfl) (by decide) ?_
            refine al_cons (acts_skip rfl) (by decide) ?_
            refine al_cons (acts_of rfl (does_pick (v := .bool true) (by conv => lhs; whnf) (by exact rfl))) (by decide) ?_
            refine al_cons (acts_of rfl (does_move (v := .bool true) (by exact rfl))) (by decide) ?_
            refine al_cons (acts_skip rfl) (by decide) ?_
            refine al_cons (acts_skip rfl) (by decide) ?_
            refine al_cons (acts_skip rfl) (by decide) ?_
            refine al_reb (reb_lit [(0, .int .i64 a0), (2, .int .i64 a2), (8, .own 35 0), (11, .own 49 0), (74, .bool true), (77, .skip)] [(35, 0), (49, 0)] [((35, 0), .arr 42 10 false (List.map enc41 v8_s_1)), ((49, 0), .arr 42 10 false (List.map enc41 x34.1))] [(35, 1), (49, 1)] (envOk_cons (by conv => lhs; whnf) (by exact rfl) (envOk_cons (by conv => lhs; whnf) (by exact rfl) (envOk_cons (by conv => lhs; whnf) (by exact rfl) (envOk_cons (by conv => lhs; whnf) (by exact rfl) (envOk_cons (by conv => lhs; whnf) (by exact rfl) (envOk_cons (by conv => lhs; whnf) (by exact rfl) envOk_nil)))))) (objOk_cons (by conv => lhs; whnf) (by conv => lhs; whnf) (by exact rfl) (by simp) (objOk_cons (by conv => lhs; whnf) (by conv => lhs; whnf) (by exact rfl) (by simp) objOk_nil)) (nodup_b rfl) (nodup_b rfl) rfl rfl) ?_
            refine al_cons (acts_skip rfl) (by decide) ?_
            refine al_cons (acts_skip rfl) (by decide) ?_
            refine al_cons (acts_skip rfl) (by decide) ?_
            refine al_cons (acts_skip rfl) (by decide) ?_
            refine al_cons (acts_skip rfl) (by decide) ?_
            refine al_cons (acts_skip rfl) (by decide) ?_
            refine al_cons (acts_of rfl (does_pick (v := .bool true) (by conv => lhs; whnf) (by exact rfl))) (by decide) ?_
            refine al_nil ?_
            refine hK37 _ ?_
            refine aw_cond_t (by decide) rfl ?_
            refine aw_seq_k (fun K40 hK40 => ?_)
            refine aw_reg ?_
            refine ao_cons (acts_of rfl (does_assign (v := .bool false) (by exact rfl))) (by decide) ?_
            refine ao_nil_n ?_
            refine hK40 _ ?_
            refine aw_ret ?_
            have h := leafR h hk36
            obtain rfl := Option.some.inj h
            exact ret_ok1 (by conv => lhs; whnf) (by conv => lhs; whnf) (by exact rfl) (.inr rfl) rfl
          · have h := ifF c39 h
            refine al_cons (acts_of rfl (does_move (v := .int .i64 x34.2) (by exact rfl))) (by decide) ?_
            obtain ⟨x41, hx41, h⟩ := bnd_some h
            refine al_cons (acts_of rfl (do_call0 64 false (gleaninglaw4_num_ok x34.2 hx41) rfl ent53 rfl rfl)) (by decide) ?_
            refine al_cons (acts_of rfl (does_bin (v := .bool (x41 == 0)) (by conv => lhs; whnf) (by conv => lhs; whnf) rfl)) (by decide) ?_
            refine al_reb (reb_lit [(0, .int .i64 a0), (2, .int .i64 a2), (8, .own 35 0), (10, .own 46 0), (11, .own 49 0), (62, .bool false), (65, .bool (x41 == 0))] [(35, 0), (46, 0), (49, 0)] [((35, 0), .arr 42 10 false (List.map enc41 v8_s_1)), ((46, 0), .arr 5 1 true (List.map enc5 x32)), ((49, 0), .arr 42 10 false (List.map enc41 x34.1))] [(35, 1), (46, 1), (49, 1)] (envOk_cons (by conv => lhs; whnf) (by exact rfl) (envOk_cons (by conv => lhs; whnf) (by exact rfl) (envOk_cons (by conv => lhs; whnf) (by exact rfl) (envOk_cons (by conv => lhs; whnf) (by exact rfl) (envOk_cons (by conv => lhs; whnf) (by exact rfl) (envOk_cons (by conv => lhs; whnf) (by exact rfl) (envOk_cons (by conv => lhs; whnf) (by exact rfl) envOk_nil))))))) (objOk_cons (by conv => lhs; whnf) (by conv => lhs; whnf) (by exact rfl) (by simp) (objOk_cons (by conv => lhs; whnf) (by conv => lhs; whnf) (by exact rfl) (by simp) (objOk_cons (by conv => lhs; whnf) (by conv => lhs; whnf) (by exact rfl) (by simp) objOk_nil))) (nodup_b rfl) (nodup_b rfl) rfl rfl) ?_
            refine al_cons (acts_of rfl (does_move (v := .int .i64 a0) (by exact rfl))) (by decide) ?_
            refine al_cons (acts_of rfl (does_bin (v := .bool (decide ((1 : Int) ≤ a0))) (by conv => lhs; whnf) (by conv => lhs; whnf) rfl)) (by decide) ?_
            refine al_cons (acts_of rfl (does_move (v := .bool (decide ((1 : Int) ≤ a0))) (by exact rfl))) (by decide) ?_
            refine al_bool (c := (decide ((1 : Int) ≤ a0))) 68 rfl (fun c42 => ?_) (fun c42 => ?_)
            · have h := ifT c42 h
              refine al_cons (acts_of rfl (does_move (v := .int .i64 a0) (by exact rfl))) (by decide) ?_
              refine al_cons (acts_of rfl (does_bin (v := .bool (decide (a0 ≤ 50))) (by conv => lhs; whnf) (by conv => lhs; whnf) rfl)) (by decide) ?_
              refine al_cons (acts_of rfl (does_pick (v := .bool (decide (a0 ≤ 50))) (by conv => lhs; whnf) (by exact rfl))) (by decide) ?_
              refine al_cons (acts_of rfl (does_eq_bool (v := .bool (!((x41 == 0) == (decide (a0 ≤ 50))))) (by conv => lhs; whnf) (by conv => lhs; whnf) (ty_bool ty4) rfl)) (by decide) ?_
              refine al_cons (acts_of rfl (does_pick (v := .bool (!((x41 == 0) == (decide (a0 ≤ 50))))) (by conv => lhs; whnf) (by exact rfl))) (by decide) ?_
              refine al_cons (acts_of rfl (does_move (v := .bool (!((x41 == 0) == (decide (a0 ≤ 50))))) (by exact rfl))) (by decide) ?_
              refine al_bool (c := (!((x41 == 0) == (decide (a0 ≤ 50))))) 74 rfl (fun c43 => ?_) (fun c43 => ?_)
              · have h := ifT c43 h
                refine al_cons (acts_skip rfl) (by decide) ?_
                refine al_cons (acts_skip rfl) (by decide) ?_
                refine al_cons (acts_skip rfl) (by decide) ?_
                refine al_reb (reb_lit [(0, .int .i64 a0), (2, .int .i64 a2), (8, .own 35 0), (11, .own 49 0), (74, .bool true), (77, .skip)] [(35, 0), (49, 0)] [((35, 0), .arr 42 10 false (List.map enc41 v8_s_1)), ((49, 0), .arr 42 10 false (List.map enc41 x34.1))] [(35, 1), (49, 1)] (envOk_cons (by conv => lhs; whnf) (by exact rfl) (envOk_cons (by conv => lhs; whnf) (by exact rfl) (envOk_cons (by conv => lhs; whnf) (by exact rfl) (envOk_cons (by conv => lhs; whnf) (by exact rfl) (envOk_cons (by conv => lhs; whnf) (by exact rfl) (envOk_cons (by conv => lhs; whnf) (by exact rfl) envOk_nil)))))) (objOk_cons (by conv => lhs; whnf) (by conv => lhs; whnf) (by exact rfl) (by simp) (objOk_cons (by conv => lhs; whnf) (by conv => lhs; whnf) (by exact rfl) (by simp) objOk_nil)) (nodup_b rfl) (nodup_b rfl) rfl rfl) ?_
                refine al_cons (acts_skip rfl) (by decide) ?_
                refine al_cons (acts_skip rfl) (by decide) ?_
                refine al_cons (acts_skip rfl) (by decide) ?_
                refine al_cons (acts_skip rfl) (by decide) ?_
                refine al_cons (acts_skip rfl) (by decide) ?_
                refine al_cons (acts_skip rfl) (by decide) ?_
                refine al_cons (acts_of rfl (does_pick (v := .bool true) (by conv => lhs; whnf) (by exact rfl))) (by decide) ?_
                refine al_nil ?_
                refine hK37 _ ?_
                refine aw_cond_t (by decide) rfl ?_
                refine aw_seq_k (fun K44 hK44 => ?_)
                refine aw_reg ?_
                refine ao_cons (acts_of rfl (does_assign (v := .bool false) (by exact rfl))) (by decide) ?_
                refine ao_nil_n ?_
                refine hK44 _ ?_
                refine aw_ret ?_
                have h := leafR h hk36
                obtain rfl := Option.some.inj h
                exact ret_ok1 (by conv => lhs; whnf) (by conv => lhs; whnf) (by exact rfl) (.inr rfl) rfl
              · have h := ifF c43 h
                refine al_cons (acts_of rfl (does_move (v := .own 46 0) (by exact rfl))) (by decide) ?_
                refine al_cons (acts_of rfl ((does_len_own (by conv => lhs; whnf) (by conv => lhs; whnf) ty43).cast (v' := .int .i64 (List.length x32 : Int)) (by exact len_map _))) (by decide) ?_
                refine al_cons (acts_of rfl (does_bin (v := .bool (decide ((0 : Int) < (List.length x32 : Int)))) (by conv => lhs; whnf) (by conv => lhs; whnf) rfl)) (by decide) ?_
                refine al_reb (reb_lit [(0, .int .i64 a0), (2, .int .i64 a2), (8, .own 35 0), (11, .own 49 0), (74, .bool false), (77, .bool (decide ((0 : Int) < (List.length x32 : Int))))] [(35, 0), (49, 0)] [((35, 0), .arr 42 10 false (List.map enc41 v8_s_1)), ((49, 0), .arr 42 10 false (List.map enc41 x34.1))] [(35, 1), (49, 1)] (envOk_cons (by conv => lhs; whnf) (by exact rfl) (envOk_cons (by conv => lhs; whnf) (by exact rfl) (envOk_cons (by conv => lhs; whnf) (by exact rfl) (envOk_cons (by conv => lhs; whnf) (by exact rfl) (envOk_cons (by conv => lhs; whnf) (by exact rfl) (envOk_cons (by conv => lhs; whnf) (by exact rfl) envOk_nil)))))) (objOk_cons (by conv => lhs; whnf) (by conv => lhs; whnf) (by exact rfl) (by simp) (objOk_cons (by conv => lhs; whnf) (by conv => lhs; whnf) (by exact rfl) (by simp) objOk_nil)) (nodup_b rfl) (nodup_b rfl) rfl rfl) ?_
                refine al_cons (acts_of rfl (does_move (v := .bool (decide ((0 : Int) < (List.length x32 : Int)))) (by exact rfl))) (by decide) ?_
                refine al_bool (c := (decide ((0 : Int) < (List.length x32 : Int)))) 78 rfl (fun c45 => ?_) (fun c45 => ?_)
                · have h := ifT c45 h
                  refine al_cons (acts_of rfl (does_move (v := .own 49 0) (by exact rfl))) (by decide) ?_
                  refine al_cons (acts_of rfl ((does_len_own (by conv => lhs; whnf) (by conv => lhs; whnf) ty28).cast (v' := .int .i64 (List.length x34.1 : Int)) (by exact len_map _))) (by decide) ?_
                  refine al_cons (acts_of rfl (does_move (v := .int .i64 a0) (by exact rfl))) (by decide) ?_
                  refine al_cons (acts_of rfl (does_bin (v := .bool ((List.length x34.1 : Int) != a0)) (by conv => lhs; whnf) (by conv => lhs; whnf) rfl)) (by decide) ?_
                  refine al_cons (acts_of rfl (does_pick (v := .bool ((List.length x34.1 : Int) != a0)) (by conv => lhs; whnf) (by exact rfl))) (by decide) ?_
                  refine al_cons (acts_of rfl (does_pick (v := .bool ((List.length x34.1 : Int) != a0)) (by conv => lhs; whnf) (by exact rfl))) (by decide) ?_
                  refine al_nil ?_
                  refine hK37 _ ?_
                  refine aw_bool (b := ((List.length x34.1 : Int) != a0)) 84 rfl (fun c46 => ?_) (fun c46 => ?_)
                  · have h := ifT c46 h
                    refine aw_cond_t (by decide) rfl ?_
                    refine aw_seq_k (fun K47 hK47 => ?_)
                    refine aw_reg ?_
                    refine ao_cons (acts_of rfl (does_assign (v := .bool false) (by exact rfl))) (by decide) ?_
                    refine ao_nil_n ?_
                    refine hK47 _ ?_
                    refine aw_ret ?_
                    have h := leafR h hk36
                    obtain rfl := Option.some.inj h
                    exact ret_ok1 (by conv => lhs; whnf) (by conv => lhs; whnf) (by exact rfl) (.inr rfl) rfl
                  · have h := ifF c46 h
                    refine aw_cond_f (by decide) rfl ?_
                    refine aw_skip ?_
                    have h := leafL h hk36
                    exact ⟨_, reb_lit [(0, .int .i64 a0), (2, .int .i64 a2), (8, .own 35 0)] [(35, 0)] [((35, 0), .arr 42 10 false (List.map enc41 v8_s_1))] [(35, 1)] (envOk_cons (by conv => lhs; whnf) (by exact rfl) (envOk_cons (by conv => lhs; whnf) (by exact rfl) (envOk_cons (by conv => lhs; whnf) (by exact rfl) envOk_nil))) (objOk_cons (by conv => lhs; whnf) (by conv => lhs; whnf) (by exact rfl) (by simp) objOk_nil) (nodup_b rfl) (nodup_b rfl) rfl rfl, h, rfl⟩
                · have h := ifF c45 h
                  refine al_cons (acts_skip rfl) (by decide) ?_
                  refine al_cons (acts_skip rfl) (by decide) ?_
                  refine al_cons (acts_skip rfl) (by decide) ?_
                  refine al_cons (acts_skip rfl) (by decide) ?_
                  refine al_cons (acts_of rfl (does_pick (v := .bool false) (by conv => lhs; whnf) (by exact rfl))) (by decide) ?_
                  refine al_cons (acts_of rfl (does_pick (v := .bool false) (by conv => lhs; whnf) (by exact rfl))) (by decide) ?_
                  refine al_nil ?_
                  refine hK37 _ ?_
                  refine aw_cond_f (by decide) rfl ?_
                  refine aw_skip ?_
                  have h := leafL h hk36
                  exact ⟨_, reb_lit [(0, .int .i64 a0), (2, .int .i64 a2), (8, .own 35 0)] [(35, 0)] [((35, 0), .arr 42 10 false (List.map enc41 v8_s_1))] [(35, 1)] (envOk_cons (by conv => lhs; whnf) (by exact rfl) (envOk_cons (by conv => lhs; whnf) (by exact rfl) (envOk_cons (by conv => lhs; whnf) (by exact rfl) envOk_nil))) (objOk_cons (by conv => lhs; whnf) (by conv => lhs; whnf) (by exact rfl) (by simp) objOk_nil) (nodup_b rfl) (nodup_b rfl) rfl rfl, h, rfl⟩
            · have h := ifF c42 h
              refine al_cons (acts_skip rfl) (by decide) ?_
              refine al_cons (acts_skip rfl) (by decide) ?_
              refine al_cons (acts_of rfl (does_pick (v := .bool false) (by conv => lhs; whnf) (by exact rfl))) (by decide) ?_
              refine al_cons (acts_of rfl (does_eq_bool (v := .bool (!((x41 == 0) == false))) (by conv => lhs; whnf) (by conv => lhs; whnf) (ty_bool ty4) rfl)) (by decide) ?_
              refine al_cons (acts_of rfl (does_pick (v := .bool (!((x41 == 0) == false))) (by conv => lhs; whnf) (by exact rfl))) (by decide) ?_
              refine al_cons (acts_of rfl (does_move (v := .bool (!((x41 == 0) == false))) (by exact rfl))) (by decide) ?_
              refine al_bool (c := (!((x41 == 0) == false))) 74 rfl (fun c48 => ?_) (fun c48 => ?_)
              · have h := ifT c48 h
                refine al_cons (acts_skip rfl) (by decide) ?_
                refine al_cons (acts_skip rfl) (by decide) ?_
                refine al_cons (acts_skip rfl) (by decide) ?_
                refine al_reb (reb_lit [(0, .int .i64 a0), (2, .int .i64 a2), (8, .own 35 0), (11, .own 49 0), (74, .bool true), (77, .skip)] [(35, 0), (49, 0)] [((35, 0), .arr 42 10 false (List.map enc41 v8_s_1)), ((49, 0), .arr 42 10 false (List.map enc41 x34.1))] [(35, 1), (49, 1)] (envOk_cons (by conv => lhs; whnf) (by exact rfl) (envOk_cons (by conv => lhs; whnf) (by exact rfl) (envOk_cons (by conv => lhs; whnf) (by exact rfl) (envOk_cons (by conv => lhs; whnf) (by exact rfl) (envOk_cons (by conv => lhs; whnf) (by exact rfl) (envOk_cons (by conv => lhs; whnf) (by exact rfl) envOk_nil)))))) (objOk_cons (by conv => lhs; whnf) (by conv => lhs; whnf) (by exact rfl) (by simp) (objOk_cons (by conv => lhs; whnf) (by conv => lhs; whnf) (by exact rfl) (by simp) objOk_nil)) (nodup_b rfl) (nodup_b rfl) rfl rfl) ?_
                refine al_cons (acts_skip rfl) (by decide) ?_
                refine al_cons (acts_skip rfl) (by decide) ?_
                refine al_cons (acts_skip rfl) (by decide) ?_
                refine al_cons (acts_skip rfl) (by decide) ?_
                refine al_cons (acts_skip rfl) (by decide) ?_
                refine al_cons (acts_skip rfl) (by decide) ?_
                refine al_cons (acts_of rfl (does_pick (v := .bool true) (by conv => lhs; whnf) (by exact rfl))) (by decide) ?_
                refine al_nil ?_
                refine hK37 _ ?_
                refine aw_cond_t (by decide) rfl ?_
                refine aw_seq_k (fun K49 hK49 => ?_)
                refine aw_reg ?_
                refine ao_cons (acts_of rfl (does_assign (v := .bool false) (by exact rfl))) (by decide) ?_
                refine ao_nil_n ?_
                refine hK49 _ ?_
                refine aw_ret ?_
                have h := leafR h hk36
                obtain rfl := Option.some.inj h
                exact ret_ok1 (by conv => lhs; whnf) (by conv => lhs; whnf) (by exact rfl) (.inr rfl) rfl
              · have h := ifF c48 h
                refine al_cons (acts_of rfl (does_move (v := .own 46 0) (by exact rfl))) (by decide) ?_
                refine al_cons (acts_of rfl ((does_len_own (by conv => lhs; whnf) (by conv => lhs; whnf) ty43).cast (v' := .int .i64 (List.length x32 : Int)) (by exact len_map _))) (by decide) ?_
                refine al_cons (acts_of rfl (does_bin (v := .bool (decide ((0 : Int) < (List.length x32 : Int)))) (by conv => lhs; whnf) (by conv => lhs; whnf) rfl)) (by decide) ?_
                refine al_reb (reb_lit [(0, .int .i64 a0), (2, .int .i64 a2), (8, .own 35 0), (11, .own 49 0), (74, .bool false), (77, .bool (decide ((0 : Int) < (List.length x32 : Int))))] [(35, 0), (49, 0)] [((35, 0), .arr 42 10 false (List.map enc41 v8_s_1)), ((49, 0), .arr 42 10 false (List.map enc41 x34.1))] [(35, 1), (49, 1)] (envOk_cons (by conv => lhs; whnf) (by exact rfl) (envOk_cons (by conv => lhs; whnf) (by exact rfl) (envOk_cons (by conv => lhs; whnf) (by exact rfl) (envOk_cons (by conv => lhs; whnf) (by exact rfl) (envOk_cons (by conv => lhs; whnf) (by exact rfl) (envOk_cons (by conv => lhs; whnf) (by exact rfl) envOk_nil)))))) (objOk_cons (by conv => lhs; whnf) (by conv => lhs; whnf) (by exact rfl) (by simp) (objOk_cons (by conv => lhs; whnf) (by conv => lhs; whnf) (by exact rfl) (by simp) objOk_nil)) (nodup_b rfl) (nodup_b rfl) rfl rfl) ?_
                refine al_cons (acts_of rfl (does_move (v := .bool (decide ((0 : Int) < (List.length x32 : Int)))) (by exact rfl))) (by decide) ?_
                refine al_bool (c := (decide ((0 : Int) < (List.length x32 : Int)))) 78 rfl (fun c50 => ?_) (fun c50 => ?_)
                · have h := ifT c50 h
                  refine al_cons (acts_of rfl (does_move (v := .own 49 0) (by exact rfl))) (by decide) ?_
                  refine al_cons (acts_of rfl ((does_len_own (by conv => lhs; whnf) (by conv => lhs; whnf) ty28).cast (v' := .int .i64 (List.length x34.1 : Int)) (by exact len_map _))) (by decide) ?_
                  refine al_cons (acts_of rfl (does_move (v := .int .i64 a0) (by exact rfl))) (by decide) ?_
                  refine al_cons (acts_of rfl (does_bin (v := .bool ((List.length x34.1 : Int) != a0)) (by conv => lhs; whnf) (by conv => lhs; whnf) rfl)) (by decide) ?_
                  refine al_cons (acts_of rfl (does_pick (v := .bool ((List.length x34.1 : Int) != a0)) (by conv => lhs; whnf) (by exact rfl))) (by decide) ?_
                  refine al_cons (acts_of rfl (does_pick (v := .bool ((List.length x34.1 : Int) != a0)) (by conv => lhs; whnf) (by exact rfl))) (by decide) ?_
                  refine al_nil ?_
                  refine hK37 _ ?_
                  refine aw_bool (b := ((List.length x34.1 : Int) != a0)) 84 rfl (fun c51 => ?_) (fun c51 => ?_)
                  · have h := ifT c51 h
                    refine aw_cond_t (by decide) rfl ?_
                    refine aw_seq_k (fun K52 hK52 => ?_)
                    refine aw_reg ?_
                    refine ao_cons (acts_of rfl (does_assign (v := .bool false) (by exact rfl))) (by decide) ?_
                    refine ao_nil_n ?_
                    refine hK52 _ ?_
                    refine aw_ret ?_
                    have h := leafR h hk36
                    obtain rfl := Option.some.inj h
                    exact ret_ok1 (by conv => lhs; whnf) (by conv => lhs; whnf) (by exact rfl) (.inr rfl) rfl
                  · have h := ifF c51 h
                    refine aw_cond_f (by decide) rfl ?_
                    refine aw_skip ?_
                    have h := leafL h hk36
                    exact ⟨_, reb_lit [(0, .int .i64 a0), (2, .int .i64 a2), (8, .own 35 0)] [(35, 0)] [((35, 0), .arr 42 10 false (List.map enc41 v8_s_1))] [(35, 1)] (envOk_cons (by conv => lhs; whnf) (by exact rfl) (envOk_cons (by conv => lhs; whnf) (by exact rfl) (envOk_cons (by conv => lhs; whnf) (by exact rfl) envOk_nil))) (objOk_cons (by conv => lhs; whnf) (by conv => lhs; whnf) (by exact rfl) (by simp) objOk_nil) (nodup_b rfl) (nodup_b rfl) rfl rfl, h, rfl⟩
                · have h := ifF c50 h
                  refine al_cons (acts_skip rfl) (by decide) ?_
                  refine al_cons (acts_skip rfl) (by decide) ?_
                  refine al_cons (acts_skip rfl) (by decide) ?_
                  refine al_cons (acts_skip rfl) (by decide) ?_
                  refine al_cons (acts_of rfl (does_pick (v := .bool false) (by conv => lhs; whnf) (by exact rfl))) (by decide) ?_
                  refine al_cons (acts_of rfl (does_pick (v := .bool false) (by conv => lhs; whnf) (by exact rfl))) (by decide) ?_
                  refine al_nil ?_
                  refine hK37 _ ?_
                  refine aw_cond_f (by decide) rfl ?_
                  refine aw_skip ?_
                  have h := leafL h hk36
                  exact ⟨_, reb_lit [(0, .int .i64 a0), (2, .int .i64 a2), (8, .own 35 0)] [(35, 0)] [((35, 0), .arr 42 10 false (List.map enc41 v8_s_1))] [(35, 1)] (envOk_cons (by conv => lhs; whnf) (by exact rfl) (envOk_cons (by conv => lhs; whnf) (by exact rfl) (envOk_cons (by conv => lhs; whnf) (by exact rfl) envOk_nil))) (objOk_cons (by conv => lhs; whnf) (by conv => lhs; whnf) (by exact rfl) (by simp) objOk_nil) (nodup_b rfl) (nodup_b rfl) rfl rfl, h, rfl⟩
        · have h := ifF c38 h
          refine al_cons (acts_skip rfl) (by decide) ?_
          refine al_cons (acts_skip rfl) (by decide) ?_
          refine al_cons (acts_of rfl (does_pick (v := .bool false) (by conv => lhs; whnf) (by exact rfl))) (by decide) ?_
          refine al_cons (acts_of rfl (does_eq_bool (v := .bool (!((decide ((0 : Int) < (List.length x32 : Int))) == false))) (by conv => lhs; whnf) (by conv => lhs; whnf) (ty_bool ty4) rfl)) (by decide) ?_
          refine al_cons (acts_of rfl (does_move (v := .bool (!((decide ((0 : Int) < (List.length x32 : Int))) == false))) (by exact rfl))) (by decide) ?_
          refine al_bool (c := (!((decide ((0 : Int) < (List.length x32 : Int))) == false))) 62 rfl (fun c53 => ?_) (fun c53 => ?_)
          · have h := ifT c53 h
            refine al_cons (acts_skip rfl) (by decide) ?_
            refine al_cons (acts_skip rfl) (by decide) ?_
            refine al_cons (acts_skip rfl) (by decide) ?_
            refine al_reb (reb_lit [(0, .int .i64 a0), (2, .int .i64 a2), (8, .own 35 0), (10, .own 46 0), (11, .own 49 0), (62, .bool true), (65, .skip)] [(35, 0), (46, 0), (49, 0)] [((35, 0), .arr 42 10 false (List.map enc41 v8_s_1)), ((46, 0), .arr 5 1 true (List.map enc5 x32)), ((49, 0), .arr 42 10 false (List.map enc41 x34.1))] [(35, 1), (46, 1), (49, 1)] (envOk_cons (by conv => lhs; whnf) (by exact rfl) (envOk_cons (by conv => lhs; whnf) (by exact rfl) (envOk_cons (by conv => lhs; whnf) (by exact rfl) (envOk_cons (by conv => lhs; whnf) (by exact rfl) (envOk_cons (by conv => lhs; whnf) (by exact rfl) (envOk_cons (by conv => lhs; whnf) (by exact rfl) (envOk_cons (by conv => lhs; whnf) (by exact rfl) envOk_nil))))))) (objOk_cons (by conv => lhs; whnf) (by conv => lhs; whnf) (by exact rfl) (by simp) (objOk_cons (by conv => lhs; whnf) (by conv => lhs; whnf) (by exact rfl) (by simp) (objOk_cons (by conv => lhs; whnf) (by conv => lhs; whnf) (by exact rfl) (by simp) objOk_nil))) (nodup_b rfl) (nodup_b rfl) rfl rfl) ?_
            refine al_cons (acts_skip rfl) (by decide) ?_
            refine al_cons (acts_skip rfl) (by decide) ?_
            refine al_cons (acts_skip rfl) (by decide) ?_
            refine al_cons (acts_skip rfl) (by decide) ?_
            refine al_cons (acts_skip rfl) (by decide) ?_
            refine al_cons (acts_skip rfl) (by decide) ?_
            refine al_cons (acts_skip rfl) (by decide) ?_
            refine al_cons (acts_of rfl (does_pick (v := .bool true) (by conv => lhs; whnf) (by exact rfl))) (by decide) ?_
            refine al_cons (acts_of rfl (does_move (v := .bool true) (by exact rfl))) (by decide) ?_
            refine al_cons (acts_skip rfl) (by decide) ?_
            refine al_cons (acts_skip rfl) (by decide) ?_
            refine al_cons (acts_skip rfl) (by decide) ?_
            refine al_reb (reb_lit [(0, .int .i64 a0), (2, .int .i64 a2), (8, .own 35 0), (11, .own 49 0), (74, .bool true), (77, .skip)] [(35, 0), (49, 0)] [((35, 0), .arr 42 10 false (List.map enc41 v8_s_1)), ((49, 0), .arr 42 10 false (List.map enc41 x34.1))] [(35, 1), (49, 1)] (envOk_cons (by conv => lhs; whnf) (by exact rfl) (envOk_cons (by conv => lhs; whnf) (by exact rfl) (envOk_cons (by conv => lhs; whnf) (by exact rfl) (envOk_cons (by conv => lhs; whnf) (by exact rfl) (envOk_cons (by conv => lhs; whnf) (by exact rfl) (envOk_cons (by conv => lhs; whnf) (by exact rfl) envOk_nil)))))) (objOk_cons (by conv => lhs; whnf) (by conv => lhs; whnf) (by exact rfl) (by simp) (objOk_cons (by conv => lhs; whnf) (by conv => lhs; whnf) (by exact rfl) (by simp) objOk_nil)) (nodup_b rfl) (nodup_b rfl) rfl rfl) ?_
            refine al_cons (acts_skip rfl) (by decide) ?_
            refine al_cons (acts_skip rfl) (by decide) ?_
            refine al_cons (acts_skip rfl) (by decide) ?_
            refine al_cons (acts_skip rfl) (by decide) ?_
            refine al_cons (acts_skip rfl) (by decide) ?_
            refine al_cons (acts_skip rfl) (by decide) ?_
            refine al_cons (acts_of rfl (does_pick (v := .bool true) (by conv => lhs; whnf) (by exact rfl))) (by decide) ?_
            refine al_nil ?_
            refine hK37 _ ?_
            refine aw_cond_t (by decide) rfl ?_
            refine aw_seq_k (fun K54 hK54 => ?_)
            refine aw_reg ?_
            refine ao_cons (acts_of rfl (does_assign (v := .bool false) (by exact rfl))) (by decide) ?_
            refine ao_nil_n ?_
            refine hK54 _ ?_
            refine aw_ret ?_
            have h := leafR h hk36
            obtain rfl := Option.some.inj h
            exact ret_ok1 (by conv => lhs; whnf) (by conv => lhs; whnf) (by exact rfl) (.inr rfl) rfl
          · have h := ifF c53 h
            refine al_cons (acts_of rfl (does_move (v := .int .i64 x34.2) (by exact rfl))) (by decide) ?_
            obtain ⟨x55, hx55, h⟩ := bnd_some h
            refine al_cons (acts_of rfl (do_call0 64 false (gleaninglaw4_num_ok x34.2 hx55) rfl ent53 rfl rfl)) (by decide) ?_
            refine al_cons (acts_of rfl (does_bin (v := .bool (x55 == 0)) (by conv => lhs; whnf) (by conv => lhs; whnf) rfl)) (by decide) ?_
            refine al_reb (reb_lit [(0, .int .i64 a0), (2, .int .i64 a2), (8, .own 35 0), (10, .own 46 0), (11, .own 49 0), (62, .bool false), (65, .bool (x55 == 0))] [(35, 0), (46, 0), (49, 0)] [((35, 0), .arr 42 10 false (List.map enc41 v8_s_1)), ((46, 0), .arr 5 1 true (List.map enc5 x32)), ((49, 0), .arr 42 10 false (List.map enc41 x34.1))] [(35, 1), (46, 1), (49, 1)] (envOk_cons (by conv => lhs; whnf) (by exact rfl) (envOk_cons (by conv => lhs; whnf) (by exact rfl) (envOk_cons (by conv => lhs; whnf) (by exact rfl) (envOk_cons (by conv => lhs; whnf) (by exact rfl) (envOk_cons (by conv => lhs; whnf) (by exact rfl) (envOk_cons (by conv => lhs; whnf) (by exact rfl) (envOk_cons (by conv => lhs; whnf) (by exact rfl) envOk_nil))))))) (objOk_cons (by conv => lhs; whnf) (by conv => lhs; whnf) (by exact rfl) (by simp) (objOk_cons (by conv => lhs; whnf) (by conv => lhs; whnf) (by exact rfl) (by simp) (objOk_cons (by conv => lhs; whnf) (by conv => lhs; whnf) (by exact rfl) (by simp) objOk_nil))) (nodup_b rfl) (nodup_b rfl) rfl rfl) ?_
            refine al_cons (acts_of rfl (does_move (v := .int .i64 a0) (by exact rfl))) (by decide) ?_
            refine al_cons (acts_of rfl (does_bin (v := .bool (decide ((1 : Int) ≤ a0))) (by conv => lhs; whnf) (by conv => lhs; whnf) rfl)) (by decide) ?_
            refine al_cons (acts_of rfl (does_move (v := .bool (decide ((1 : Int) ≤ a0))) (by exact rfl))) (by decide) ?_
            refine al_bool (c := (decide ((1 : Int) ≤ a0))) 68 rfl (fun c56 => ?_) (fun c56 => ?_)
            · have h := ifT c56 h
              refine al_cons (acts_of rfl (does_move (v := .int .i64 a0) (by exact rfl))) (by decide) ?_
              refine al_cons (acts_of rfl (does_bin (v := .bool (decide (a0 ≤ 50))) (by conv => lhs; whnf) (by conv => lhs; whnf) rfl)) (by decide) ?_
              refine al_cons (acts_of rfl (does_pick (v := .bool (decide (a0 ≤ 50))) (by conv => lhs; whnf) (by exact rfl))) (by decide) ?_
              refine al_cons (acts_of rfl (does_eq_bool (v := .bool (!((x55 == 0) == (decide (a0 ≤ 50))))) (by conv => lhs; whnf) (by conv => lhs; whnf) (ty_bool ty4) rfl)) (by decide) ?_
              refine al_cons (acts_of rfl (does_pick (v := .bool (!((x55 == 0) == (decide (a0 ≤ 50))))) (by conv => lhs; whnf) (by exact rfl))) (by decide) ?_
              refine al_cons (acts_of rfl (does_move (v := .bool (!((x55 == 0) == (decide (a0 ≤ 50))))) (by exact rfl))) (by decide) ?_
              refine al_bool (c := (!((x55 == 0) == (decide (a0 ≤ 50))))) 74 rfl (fun c57 => ?_) (fun c57 => ?_)
              · have h := ifT c57 h
                refine al_cons (acts_skip rfl) (by decide) ?_
                refine al_cons (acts_skip rfl) (by decide) ?_
                refine al_cons (acts_skip rfl) (by decide) ?_
                refine al_reb (reb_lit [(0, .int .i64 a0), (2, .int .i64 a2), (8, .own 35 0), (11, .own 49 0), (74, .bool true), (77, .skip)] [(35, 0), (49, 0)] [((35, 0), .arr 42 10 false (List.map enc41 v8_s_1)), ((49, 0), .arr 42 10 false (List.map enc41 x34.1))] [(35, 1), (49, 1)] (envOk_cons (by conv => lhs; whnf) (by exact rfl) (envOk_cons (by conv => lhs; whnf) (by exact rfl) (envOk_cons (by conv => lhs; whnf) (by exact rfl) (envOk_cons (by conv => lhs; whnf) (by exact rfl) (envOk_cons (by conv => lhs; whnf) (by exact rfl) (envOk_cons (by conv => lhs; whnf) (by exact rfl) envOk_nil)))))) (objOk_cons (by conv => lhs; whnf) (by conv => lhs; whnf) (by exact rfl) (by simp) (objOk_cons (by conv => lhs; whnf) (by conv => lhs; whnf) (by exact rfl) (by simp) objOk_nil)) (nodup_b rfl) (nodup_b rfl) rfl rfl) ?_
                refine al_cons (acts_skip rfl) (by decide) ?_
                refine al_cons (acts_skip rfl) (by decide) ?_
                refine al_cons (acts_skip rfl) (by decide) ?_
                refine al_cons (acts_skip rfl) (by decide) ?_
                refine al_cons (acts_skip rfl) (by decide) ?_
                refine al_cons (acts_skip rfl) (by decide) ?_
                refine al_cons (acts_of rfl (does_pick (v := .bool true) (by conv => lhs; whnf) (by exact rfl))) (by decide) ?_
                refine al_nil ?_
                refine hK37 _ ?_
                refine aw_cond_t (by decide) rfl ?_
                refine aw_seq_k (fun K58 hK58 => ?_)
                refine aw_reg ?_
                refine ao_cons (acts_of rfl (does_assign (v := .bool false) (by exact rfl))) (by decide) ?_
                refine ao_nil_n ?_
                refine hK58 _ ?_
                refine aw_ret ?_
                have h := leafR h hk36
                obtain rfl := Option.some.inj h
                exact ret_ok1 (by conv => lhs; whnf) (by conv => lhs; whnf) (by exact rfl) (.inr rfl) rfl
              · have h := ifF c57 h
                refine al_cons (acts_of rfl (does_move (v := .own 46 0) (by exact rfl))) (by decide) ?_
                refine al_cons (acts_of rfl ((does_len_own (by conv => lhs; whnf) (by conv => lhs; whnf) ty43).cast (v' := .int .i64 (List.length x32 : Int)) (by exact len_map _))) (by decide) ?_
                refine al_cons (acts_of rfl (does_bin (v := .bool (decide ((0 : Int) < (List.length x32 : Int)))) (by conv => lhs; whnf) (by conv => lhs; whnf) rfl)) (by decide) ?_
                refine al_reb (reb_lit [(0, .int .i64 a0), (2, .int .i64 a2), (8, .own 35 0), (11, .own 49 0), (74, .bool false), (77, .bool (decide ((0 : Int) < (List.length x32 : Int))))] [(35, 0), (49, 0)] [((35, 0), .arr 42 10 false (List.map enc41 v8_s_1)), ((49, 0), .arr 42 10 false (List.map enc41 x34.1))] [(35, 1), (49, 1)] (envOk_cons (by conv => lhs; whnf) (by exact rfl) (envOk_cons (by conv => lhs; whnf) (by exact rfl) (envOk_cons (by conv => lhs; whnf) (by exact rfl) (envOk_cons (by conv => lhs; whnf) (by exact rfl) (envOk_cons (by conv => lhs; whnf) (by exact rfl) (envOk_cons (by conv => lhs; whnf) (by exact rfl) envOk_nil)))))) (objOk_cons (by conv => lhs; whnf) (by conv => lhs; whnf) (by exact rfl) (by simp) (objOk_cons (by conv => lhs; whnf) (by conv => lhs; whnf) (by exact rfl) (by simp) objOk_nil)) (nodup_b rfl) (nodup_b rfl) rfl rfl) ?_
                refine al_cons (acts_of rfl (does_move (v := .bool (decide ((0 : Int) < (List.length x32 : Int)))) (by exact rfl))) (by decide) ?_
                refine al_bool (c := (decide ((0 : Int) < (List.length x32 : Int)))) 78 rfl (fun c59 => ?_) (fun c59 => ?_)
                · have h := ifT c59 h
                  refine al_cons (acts_of rfl (does_move (v := .own 49 0) (by exact rfl))) (by decide) ?_
                  refine al_cons (acts_of rfl ((does_len_own (by conv => lhs; whnf) (by conv => lhs; whnf) ty28).cast (v' := .int .i64 (List.length x34.1 : Int)) (by exact len_map _))) (by decide) ?_
                  refine al_cons (acts_of rfl (does_move (v := .int .i64 a0) (by exact rfl))) (by decide) ?_
                  refine al_cons (acts_of rfl (does_bin (v := .bool ((List.length x34.1 : Int) != a0)) (by conv => lhs; whnf) (by conv => lhs; whnf) rfl)) (by decide) ?_
                  refine al_cons (acts_of rfl (does_pick (v := .bool ((List.length x34.1 : Int) != a0)) (by conv => lhs; whnf) (by exact rfl))) (by decide) ?_
                  refine al_cons (acts_of rfl (does_pick (v := .bool ((List.length x34.1 : Int) != a0)) (by conv => lhs; whnf) (by exact rfl))) (by decide) ?_
                  refine al_nil ?_
                  refine hK37 _ ?_
                  refine aw_bool (b := ((List.length x34.1 : Int) != a0)) 84 rfl (fun c60 => ?_) (fun c60 => ?_)
                  · have h := ifT c60 h
                    refine aw_cond_t (by decide) rfl ?_
                    refine aw_seq_k (fun K61 hK61 => ?_)
                    refine aw_reg ?_
                    refine ao_cons (acts_of rfl (does_assign (v := .bool false) (by exact rfl))) (by decide) ?_
                    refine ao_nil_n ?_
                    refine hK61 _ ?_
                    refine aw_ret ?_
                    have h := leafR h hk36
                    obtain rfl := Option.some.inj h
                    exact ret_ok1 (by conv => lhs; whnf) (by conv => lhs; whnf) (by exact rfl) (.inr rfl) rfl
                  · have h := ifF c60 h
                    refine aw_cond_f (by decide) rfl ?_
                    refine aw_skip ?_
                    have h := leafL h hk36
                    exact ⟨_, reb_lit [(0, .int .i64 a0), (2, .int .i64 a2), (8, .own 35 0)] [(35, 0)] [((35, 0), .arr 42 10 false (List.map enc41 v8_s_1))] [(35, 1)] (envOk_cons (by conv => lhs; whnf) (by exact rfl) (envOk_cons (by conv => lhs; whnf) (by exact rfl) (envOk_cons (by conv => lhs; whnf) (by exact rfl) envOk_nil))) (objOk_cons (by conv => lhs; whnf) (by conv => lhs; whnf) (by exact rfl) (by simp) objOk_nil) (nodup_b rfl) (nodup_b rfl) rfl rfl, h, rfl⟩
                · have h := ifF c59 h
                  refine al_cons (acts_skip rfl) (by decide) ?_
                  refine al_cons (acts_skip rfl) (by decide) ?_
                  refine al_cons (acts_skip rfl) (by decide) ?_
                  refine al_cons (acts_skip rfl) (by decide) ?_
                  refine al_cons (acts_of rfl (does_pick (v := .bool false) (by conv => lhs; whnf) (by exact rfl))) (by decide) ?_
                  refine al_cons (acts_of rfl (does_pick (v := .bool false) (by conv => lhs; whnf) (by exact rfl))) (by decide) ?_
                  refine al_nil ?_
                  refine hK37 _ ?_
                  refine aw_cond_f (by decide) rfl ?_
                  refine aw_skip ?_
                  have h := leafL h hk36
                  exact ⟨_, reb_lit [(0, .int .i64 a0), (2, .int .i64 a2), (8, .own 35 0)] [(35, 0)] [((35, 0), .arr 42 10 false (List.map enc41 v8_s_1))] [(35, 1)] (envOk_cons (by conv => lhs; whnf) (by exact rfl) (envOk_cons (by conv => lhs; whnf) (by exact rfl) (envOk_cons (by conv => lhs; whnf) (by exact rfl) envOk_nil))) (objOk_cons (by conv => lhs; whnf) (by conv => lhs; whnf) (by exact rfl) (by simp) objOk_nil) (nodup_b rfl) (nodup_b rfl) rfl rfl, h, rfl⟩
            · have h := ifF c56 h
              refine al_cons (acts_skip rfl) (by decide) ?_
              refine al_cons (acts_skip rfl) (by decide) ?_
              refine al_cons (acts_of rfl (does_pick (v := .bool false) (by conv => lhs; whnf) (by exact rfl))) (by decide) ?_
              refine al_cons (acts_of rfl (does_eq_bool (v := .bool (!((x55 == 0) == false))) (by conv => lhs; whnf) (by conv => lhs; whnf) (ty_bool ty4) rfl)) (by decide) ?_
              refine al_cons (acts_of rfl (does_pick (v := .bool (!((x55 == 0) == false))) (by conv => lhs; whnf) (by exact rfl))) (by decide) ?_
              refine al_cons (acts_of rfl (does_move (v := .bool (!((x55 == 0) == false))) (by exact rfl))) (by decide) ?_
              refine al_bool (c := (!((x55 == 0) == false))) 74 rfl (fun c62 => ?_) (fun c62 => ?_)
              · have h := ifT c62 h
                refine al_cons (acts_skip rfl) (by decide) ?_
                refine al_cons (acts_skip rfl) (by decide) ?_
                refine al_cons (acts_skip rfl) (by decide) ?_
                refine al_reb (reb_lit [(0, .int .i64 a0), (2, .int .i64 a2), (8, .own 35 0), (11, .own 49 0), (74, .bool true), (77, .skip)] [(35, 0), (49, 0)] [((35, 0), .arr 42 10 false (List.map enc41 v8_s_1)), ((49, 0), .arr 42 10 false (List.map enc41 x34.1))] [(35, 1), (49, 1)] (envOk_cons (by conv => lhs; whnf) (by exact rfl) (envOk_cons (by conv => lhs; whnf) (by exact rfl) (envOk_cons (by conv => lhs; whnf) (by exact rfl) (envOk_cons (by conv => lhs; whnf) (by exact rfl) (envOk_cons (by conv => lhs; whnf) (by exact rfl) (envOk_cons (by conv => lhs; whnf) (by exact rfl) envOk_nil)))))) (objOk_cons (by conv => lhs; whnf) (by conv => lhs; whnf) (by exact rfl) (by simp) (objOk_cons (by conv => lhs; whnf) (by conv => lhs; whnf) (by exact rfl) (by simp) objOk_nil)) (nodup_b rfl) (nodup_b rfl) rfl rfl) ?_
                refine al_cons (acts_skip rfl) (by decide) ?_
                refine al_cons (acts_skip rfl) (by decide) ?_
                refine al_cons (acts_skip rfl) (by decide) ?_
                refine al_cons (acts_skip rfl) (by decide) ?_
                refine al_cons (acts_skip rfl) (by decide) ?_
                refine al_cons (acts_skip rfl) (by decide) ?_
                refine al_cons (acts_of rfl (does_pick (v := .bool true) (by conv => lhs; whnf) (by exact rfl))) (by decide) ?_
                refine al_nil ?_
                refine hK37 _ ?_
                refine aw_cond_t (by decide) rfl ?_
                refine aw_seq_k (fun K63 hK63 => ?_)
                refine aw_reg ?_
                refine ao_cons (acts_of rfl (does_assign (v := .bool false) (by exact rfl))) (by decide) ?_
                refine ao_nil_n ?_
                refine hK63 _ ?_
                refine aw_ret ?_
                have h := leafR h hk36
                obtain rfl := Option.some.inj h
                exact ret_ok1 (by conv => lhs; whnf) (by conv => lhs; whnf) (by exact rfl) (.inr rfl) rfl
              · have h := ifF c62 h
                refine al_cons (acts_of rfl (does_move (v := .own 46 0) (by exact rfl))) (by decide) ?_
                refine al_cons (acts_of rfl ((does_len_own (by conv => lhs; whnf) (by conv => lhs; whnf) ty43).cast (v' := .int .i64 (List.length x32 : Int)) (by exact len_map _))) (by decide) ?_
                refine al_cons (acts_of rfl (does_bin (v := .bool (decide ((0 : Int) < (List.length x32 : Int)))) (by conv => lhs; whnf) (by conv => lhs; whnf) rfl)) (by decide) ?_
                refine al_reb (reb_lit [(0, .int .i64 a0), (2, .int .i64 a2), (8, .own 35 0), (11, .own 49 0), (74, .bool false), (77, .bool (decide ((0 : Int) < (List.length x32 : Int))))] [(35, 0), (49, 0)] [((35, 0), .arr 42 10 false (List.map enc41 v8_s_1)), ((49, 0), .arr 42 10 false (List.map enc41 x34.1))] [(35, 1), (49, 1)] (envOk_cons (by conv => lhs; whnf) (by exact rfl) (envOk_cons (by conv => lhs; whnf) (by exact rfl) (envOk_cons (by conv => lhs; whnf) (by exact rfl) (envOk_cons (by conv => lhs; whnf) (by exact rfl) (envOk_cons (by conv => lhs; whnf) (by exact rfl) (envOk_cons (by conv => lhs; whnf) (by exact rfl) envOk_nil)))))) (objOk_cons (by conv => lhs; whnf) (by conv => lhs; whnf) (by exact rfl) (by simp) (objOk_cons (by conv => lhs; whnf) (by conv => lhs; whnf) (by exact rfl) (by simp) objOk_nil)) (nodup_b rfl) (nodup_b rfl) rfl rfl) ?_
                refine al_cons (acts_of rfl (does_move (v := .bool (decide ((0 : Int) < (List.length x32 : Int)))) (by exact rfl))) (by decide) ?_
                refine al_bool (c := (decide ((0 : Int) < (List.length x32 : Int)))) 78 rfl (fun c64 => ?_) (fun c64 => ?_)
                · have h := ifT c64 h
                  refine al_cons (acts_of rfl (does_move (v := .own 49 0) (by exact rfl))) (by decide) ?_
                  refine al_cons (acts_of rfl ((does_len_own (by conv => lhs; whnf) (by conv => lhs; whnf) ty28).cast (v' := .int .i64 (List.length x34.1 : Int)) (by exact len_map _))) (by decide) ?_
                  refine al_cons (acts_of rfl (does_move (v := .int .i64 a0) (by exact rfl))) (by decide) ?_
                  refine al_cons (acts_of rfl (does_bin (v := .bool ((List.length x34.1 : Int) != a0)) (by conv => lhs; whnf) (by conv => lhs; whnf) rfl)) (by decide) ?_
                  refine al_cons (acts_of rfl (does_pick (v := .bool ((List.length x34.1 : Int) != a0)) (by conv => lhs; whnf) (by exact rfl))) (by decide) ?_
                  refine al_cons (acts_of rfl (does_pick (v := .bool ((List.length x34.1 : Int) != a0)) (by conv => lhs; whnf) (by exact rfl))) (by decide) ?_
                  refine al_nil ?_
                  refine hK37 _ ?_
                  refine aw_bool (b := ((List.length x34.1 : Int) != a0)) 84 rfl (fun c65 => ?_) (fun c65 => ?_)
                  · have h := ifT c65 h
                    refine aw_cond_t (by decide) rfl ?_
                    refine aw_seq_k (fun K66 hK66 => ?_)
                    refine aw_reg ?_
                    refine ao_cons (acts_of rfl (does_assign (v := .bool false) (by exact rfl))) (by decide) ?_
                    refine ao_nil_n ?_
                    refine hK66 _ ?_
                    refine aw_ret ?_
                    have h := leafR h hk36
                    obtain rfl := Option.some.inj h
                    exact ret_ok1 (by conv => lhs; whnf) (by conv => lhs; whnf) (by exact rfl) (.inr rfl) rfl
                  · have h := ifF c65 h
                    refine aw_cond_f (by decide) rfl ?_
                    refine aw_skip ?_
                    have h := leafL h hk36
                    exact ⟨_, reb_lit [(0, .int .i64 a0), (2, .int .i64 a2), (8, .own 35 0)] [(35, 0)] [((35, 0), .arr 42 10 false (List.map enc41 v8_s_1))] [(35, 1)] (envOk_cons (by conv => lhs; whnf) (by exact rfl) (envOk_cons (by conv => lhs; whnf) (by exact rfl) (envOk_cons (by conv => lhs; whnf) (by exact rfl) envOk_nil))) (objOk_cons (by conv => lhs; whnf) (by conv => lhs; whnf) (by exact rfl) (by simp) objOk_nil) (nodup_b rfl) (nodup_b rfl) rfl rfl, h, rfl⟩
                · have h := ifF c64 h
                  refine al_cons (acts_skip rfl) (by decide) ?_
                  refine al_cons (acts_skip rfl) (by decide) ?_
                  refine al_cons (acts_skip rfl) (by decide) ?_
                  refine al_cons (acts_skip rfl) (by decide) ?_
                  refine al_cons (acts_of rfl (does_pick (v := .bool false) (by conv => lhs; whnf) (by exact rfl))) (by decide) ?_
                  refine al_cons (acts_of rfl (does_pick (v := .bool false) (by conv => lhs; whnf) (by exact rfl))) (by decide) ?_
                  refine al_nil ?_
                  refine hK37 _ ?_
                  refine aw_cond_f (by decide) rfl ?_
                  refine aw_skip ?_
                  have h := leafL h hk36
                  exact ⟨_, reb_lit [(0, .int .i64 a0), (2, .int .i64 a2), (8, .own 35 0)] [(35, 0)] [((35, 0), .arr 42 10 false (List.map enc41 v8_s_1))] [(35, 1)] (envOk_cons (by conv => lhs; whnf) (by exact rfl) (envOk_cons (by conv => lhs; whnf) (by exact rfl) (envOk_cons (by conv => lhs; whnf) (by exact rfl) envOk_nil))) (objOk_cons (by conv => lhs; whnf) (by conv => lhs; whnf) (by exact rfl) (by simp) objOk_nil) (nodup_b rfl) (nodup_b rfl) rfl rfl, h, rfl⟩
      · rintro s ⟨h, rfl⟩
        unfold gleaninglaw4_BatchLimits_k3 at h
        refine aw_seq_k (fun K67 hK67 => ?_)
        refine aw_seq_k (fun K68 hK68 => ?_)
        refine aw_reg ?_
        refine ao_cons (acts_of rfl (does_move (v := .int .i64 a0) (by exact rfl))) (by decide) ?_
        refine ao_cons (acts_of rfl (does_bin (v := .bool (a0 == 0)) (by conv => lhs; whnf) (by conv => lhs; whnf) rfl)) (by decide) ?_
        refine ao_nil_n ?_
        refine hK68 _ ?_
        refine aw_bool (b := (a0 == 0)) 86 rfl (fun c69 => ?_) (fun c69 => ?_)
        · have h := ifT c69 h
          refine aw_cond_t (by decide) rfl ?_
          refine aw_seq_k (fun K70 hK70 => ?_)
          refine aw_reg ?_
          refine ao_cons (acts_of rfl (does_assign (v := .bool true) (by exact rfl))) (by decide) ?_
          refine ao_nil_n ?_
          refine hK70 _ ?_
          refine aw_ret ?_
          obtain rfl := Option.some.inj h
          exact ret_ok1 (by conv => lhs; whnf) (by conv => lhs; whnf) (by exact rfl) (.inr rfl) rfl
        · have h := ifF c69 h
          refine aw_cond_f (by decide) rfl ?_
          refine aw_skip ?_
          refine hK67 _ ?_
          refine aw_seq_k (fun K71 hK71 => ?_)
          refine aw_reg ?_
          refine ao_cons (acts_of rfl (does_move (v := .own 35 0) (by exact rfl))) (by decide) ?_
          refine ao_cons (acts_of rfl (does_move (v := .int .i64 a2) (by exact rfl))) (by decide) ?_
          refine ao_cons (acts_of rfl (does_move (v := .int .i64 a0) (by exact rfl))) (by decide) ?_
          obtain ⟨g72, h⟩ := gd_some h
          refine ao_cons (acts_of rfl (does_bin (v := .int .i64 (Int.tmod a2 a0)) (by conv => lhs; whnf) (by conv => lhs; whnf) (rem_hv g72))) (by decide) ?_
          obtain ⟨g73, h⟩ := gd_some h
          obtain ⟨x74, hx74, h⟩ := bnd_some h
          refine ao_cons (acts_of rfl (does_indexAddr_own (by conv => lhs; whnf) (by conv => lhs; whnf) (by conv => lhs; whnf) ty28 ty42 g73 (by exact own_lt hx74))) (by decide) ?_
          refine ao_cons (acts_of rfl (does_fieldAddr (q := .eptr 35 0 10 (Int.toNat (Int.tmod a2 a0)) 4) (by conv => lhs; whnf) ty42 rfl ty9 (by decide) (by exact rfl))) (by decide) ?_
          refine ao_cons (acts_of rfl (does_storeE (old := .agg [.int .u64 x74.Trace.Hi, .int .u64 x74.Trace.Lo, .int .u64 x74.Id, .int .u64 x74.Parent, .str x74.Service, .str x74.Op, .int .i64 x74.Start, .int .i64 x74.Dur, .bool x74.Err, .sl 2 (List.map enc52 x74.Attrs)]) (el := .agg [.int .u64 x74.Trace.Hi, .int .u64 x74.Trace.Lo, .int .u64 x74.Id, .int .u64 x74.Parent, .str (strOf []), .str x74.Op, .int .i64 x74.Start, .int .i64 x74.Dur, .bool x74.Err, .sl 2 (List.map enc52 x74.Attrs)]) (xs' := List.map enc41 (List.set v8_s_1 (Int.toNat (Int.tmod a2 a0)) (Span.mk x74.Trace x74.Id x74.Parent (strOf []) x74.Op x74.Start x74.Dur x74.Err x74.Attrs))) (by conv => lhs; whnf) (by conv => lhs; whnf) (by conv => lhs; whnf) ty9 (by rfl) (by rfl) (by exact map_get hx74) (by rfl) (by exact rfl) (by exact map_set' _ _ (Span.mk x74.Trace x74.Id x74.Parent (strOf []) x74.Op x74.Start x74.Dur x74.Err x74.Attrs)) (by rfl))) (by decide) ?_
          refine ao_nil_n ?_
          refine hK71 _ ?_
          refine aw_seq_k (fun K75 hK75 => ?_)
          refine aw_reg ?_
          refine ao_cons (acts_of rfl (does_move (v := .own 35 0) (by exact rfl))) (by decide) ?_
          obtain ⟨x76, hx76, h⟩ := bnd_some h
          refine ao_cons (acts_of rfl (do_callG (bcs := []) [] [] [(35, 0)] 94 false (batch_Bytes_ok (List.set v8_s_1 (Int.toNat (Int.tmod a2 a0)) (Span.mk x74.Trace x74.Id x74.Parent (strOf []) x74.Op x74.Start x74.Dur x74.Err x74.Attrs)) hx76) rfl ent48 trivial trivial rfl rfl rfl rfl rfl rfl rfl rfl (.inr ⟨rfl, rfl, ⟨plain_map (fun _ => rfl), trivial⟩⟩))) (by decide) ?_
          refine ao_cons (acts_of rfl ((does_len_own (by conv => lhs; whnf) (by conv => lhs; whnf) ty43).cast (v' := .int .i64 (List.length x76 : Int)) (by exact len_map _))) (by decide) ?_
          refine ao_cons (acts_of rfl (does_bin (v := .bool ((List.length x76 : Int) == 0)) (by conv => lhs; whnf) (by conv => lhs; whnf) rfl)) (by decide) ?_
          refine ao_cons (acts_of rfl (does_assign (v := .bool ((List.length x76 : Int) == 0)) (by exact rfl))) (by decide) ?_
          refine ao_nil_n ?_
          refine hK75 _ ?_
          refine aw_ret ?_
          obtain rfl := Option.some.inj h
          exact ret_ok1 (by conv => lhs; whnf) (by conv => lhs; whnf) (by exact rfl) (.inr rfl) rfl
end Go.Proofs.Ytbfmmaabaenhgaa.Ab
