/- Chapter 4: no beginning of a batch is one. -/
import Derived.Test.YtbfmmaabaenhgaaXBatch
import Derived.Test.YtbfmmaabaenhgaaProg
namespace Go.Proofs.Ytbfmmaabaenhgaa.Ab
open Go Go.RowKit
set_option linter.unusedVariables false
set_option linter.unusedSimpArgs false
theorem ent54 : Ent Try.prog 54 := ⟨_, Try.func54, by kernel_rfl, rfl⟩
def gleaninglaw4_wholly (a0 : List UInt8) : Option Bool :=
  Option.bind (gleaningref1_ReadBatch a0) (fun (x3 : List Span × Int) => some (x3.2 == 0))
set_option maxRecDepth 100000 in
set_option maxHeartbeats 8000000 in
/-- gleaning/gleaninglaw4.wholly -/
theorem gleaninglaw4_wholly_ok (a0 : List UInt8) {r : Bool} (h : gleaninglaw4_wholly a0 = some r) : Ok Try.prog 54 [.sl 1 (List.map enc5 a0)] [] [] (.bool r) [] [] := by
  unfold gleaninglaw4_wholly at h
  refine ok_of_code Try.func54 rfl (by show (1 : Nat) ≤ _; decide) (Nat.le_refl _) fun X => ?_
  refine aw_seq_k (fun K1 hK1 => ?_)
  refine aw_regL ?_
  refine alP (some 2) rfl rfl (does_assign (v := .bool false) (by exact rfl)) (by decide) ?_
  refine al_nil ?_
  refine hK1 _ ?_
  refine aw_seq_k (fun K2 hK2 => ?_)
  refine aw_regL ?_
  refine alP (some 6) rfl rfl (does_move (v := .sl 1 (List.map enc5 a0)) (by exact rfl)) (by decide) ?_
  obtain ⟨x3, hx3, h⟩ := bnd_some h
  refine alD (some 7) rfl rfl (do_call0 7 false (gleaningref1_ReadBatch_ok a0 hx3) rfl ent50 rfl rfl) (by decide) ?_
  refine alP (some 5) rfl rfl (does_move (v := .tup [.own 7 0, .int .i64 x3.2]) (by exact rfl)) (by decide) ?_
  refine alP (some 8) rfl rfl (does_extract (v := .own 7 0) (by conv => lhs; whnf) (by exact rfl)) (by decide) ?_
  refine alP (some 9) rfl rfl (does_extract (v := .int .i64 x3.2) (by conv => lhs; whnf) (by exact rfl)) (by decide) ?_
  refine alP (some 3) rfl rfl (does_assign (v := .own 7 0) (by exact rfl)) (by decide) ?_
  refine alP (some 4) rfl rfl (does_assign (v := .int .i64 x3.2) (by exact rfl)) (by decide) ?_
  refine al_nil ?_
  refine hK2 _ ?_
  refine aw_seq_k (fun K4 hK4 => ?_)
  refine aw_regL ?_
  refine alP (some 10) rfl rfl (does_move (v := .int .i64 x3.2) (by exact rfl)) (by decide) ?_
  refine alP (some 11) rfl rfl (does_bin (v := .bool (x3.2 == 0)) (by conv => lhs; whnf) (by conv => lhs; whnf) rfl) (by decide) ?_
  refine alP (some 2) rfl rfl (does_assign (v := .bool (x3.2 == 0)) (by exact rfl)) (by decide) ?_
  refine al_nil ?_
  refine hK4 _ ?_
  refine aw_ret ?_
  obtain rfl := Option.some.inj h
  exact ret_ok1 (by conv => lhs; whnf) (by conv => lhs; whnf) (by exact rfl) (.inr rfl) rfl
def gleaninglaw4_BatchTorn_k0 (a1 : Int) (a2 : Int) (x5 : List UInt8) : Option Bool :=
  gd (¬ (List.length x5 : Int) = 0) (gd (0 ≤ (Int.tmod a1 (List.length x5 : Int))) (gd ((Int.tmod a1 (List.length x5 : Int)) ≤ (List.length x5 : Int)) (Option.bind (batch_Read (List.take (Int.toNat (Int.tmod a1 (List.length x5 : Int))) x5)) (fun (x24 : List Span × Int) => gd ((List.length x5) * 1 ≤ 140737488355328 ∧ (List.length x5) ≤ 140737488355328) (gd ((List.length (x5 ++ [(0 : UInt8)])) * 1 ≤ 140737488355328 ∧ (List.length (x5 ++ [(0 : UInt8)])) ≤ 140737488355328) (Option.bind (batch_Read (x5 ++ [(0 : UInt8)])) (fun (x28 : List Span × Int) => gd ((List.length x5) * 1 ≤ 140737488355328 ∧ (List.length x5) ≤ 140737488355328) (gd (¬ (IntKind.i64.wrap (8 * (List.length x5 : Int))) = 0) (gd (0 ≤ (IntKind.i64.wrap (Int.tdiv (Int.tmod a2 (IntKind.i64.wrap (8 * (List.length x5 : Int)))) 8))) (Option.bind (x5[(Int.toNat (IntKind.i64.wrap (Int.tdiv (Int.tmod a2 (IntKind.i64.wrap (8 * (List.length x5 : Int)))) 8)))]?) (fun (x35 : UInt8) => gd (¬ (IntKind.u64.wrap (Int.tmod (Int.tmod a2 (IntKind.i64.wrap (8 * (List.length x5 : Int)))) 8)) < 0) (gd (0 ≤ (IntKind.i64.wrap (Int.tdiv (Int.tmod a2 (IntKind.i64.wrap (8 * (List.length x5 : Int)))) 8))) (Option.bind (x5[(Int.toNat (IntKind.i64.wrap (Int.tdiv (Int.tmod a2 (IntKind.i64.wrap (8 * (List.length x5 : Int)))) 8)))]?) (fun (x38 : UInt8) => Option.bind (batch_Read (List.set x5 (Int.toNat (IntKind.i64.wrap (Int.tdiv (Int.tmod a2 (IntKind.i64.wrap (8 * (List.length x5 : Int)))) 8))) (u8 (bits .xor .u8 (x35.toNat : Int) ((u8 (IntKind.u8.wrap (1 * 2 ^ (min (Int.toNat (IntKind.u64.wrap (Int.tmod (Int.tmod a2 (IntKind.i64.wrap (8 * (List.length x5 : Int)))) 8))) (IntKind.bits .u8))))).toNat : Int))))) (fun (x40 : List Span × Int) => Option.bind (gleaninglaw4_num x24.2) (fun (x42 : Int) => if (x42 == 2) = true then (Option.bind (gleaninglaw4_num x28.2) (fun (x44 : Int) => if (x44 == 2) = true then (Option.bind (gleaninglaw4_num x40.2) (fun (x46 : Int) => some (x46 == 2))) else (gd ((List.length x5) * 1 ≤ 140737488355328 ∧ (List.length x5) ≤ 140737488355328) (gd ((List.length (x5 ++ [(0 : UInt8)])) * 1 ≤ 140737488355328 ∧ (List.length (x5 ++ [(0 : UInt8)])) ≤ 140737488355328) (Option.bind (gleaninglaw4_wholly (x5 ++ [(0 : UInt8)])) (fun (x49 : Bool) => if x49 = true then (Option.bind (gleaninglaw4_num x40.2) (fun (x51 : Int) => some (x51 == 2))) else (some false))))))) else (gd (¬ (List.length x5 : Int) = 0) (gd (0 ≤ (Int.tmod a1 (List.length x5 : Int))) (gd ((Int.tmod a1 (List.length x5 : Int)) ≤ (List.length x5 : Int)) (Option.bind (gleaninglaw4_wholly (List.take (Int.toNat (Int.tmod a1 (List.length x5 : Int))) x5)) (fun (x55 : Bool) => if x55 = true then (Option.bind (gleaninglaw4_num x28.2) (fun (x57 : Int) => if (x57 == 2) = true then (Option.bind (gleaninglaw4_num x40.2) (fun (x59 : Int) => some (x59 == 2))) else (gd ((List.length x5) * 1 ≤ 140737488355328 ∧ (List.length x5) ≤ 140737488355328) (gd ((List.length (x5 ++ [(0 : UInt8)])) * 1 ≤ 140737488355328 ∧ (List.length (x5 ++ [(0 : UInt8)])) ≤ 140737488355328) (Option.bind (gleaninglaw4_wholly (x5 ++ [(0 : UInt8)])) (fun (x62 : Bool) => if x62 = true then (Option.bind (gleaninglaw4_num x40.2) (fun (x64 : Int) => some (x64 == 2))) else (some false))))))) else (some false))))))))))))))))))))))
def gleaninglaw4_BatchTorn (a0 : List Span) (a1 : Int) (a2 : Int) : Option Bool :=
  Option.bind (gleaninglaw4_alive) (fun (x3 : Bool) => Option.bind (gleaningref1_BatchBytes a0) (fun (x5 : List UInt8) => Option.bind (if (!x3) = true then (some (Sum.inr x3)) else (Option.bind (gleaninglaw3_FewAll a0) (fun (x11 : Bool) => if (!x11) = true then (some (Sum.inr x3)) else (if ((List.length x5 : Int) == 0) = true then (some (Sum.inr x3)) else (if (decide (a1 < 0)) = true then (some (Sum.inr x3)) else (if (decide (a2 < 0)) = true then (some (Sum.inr x3)) else (some (Sum.inl ())))))))) (Sum.elim (fun (s : Unit) => gleaninglaw4_BatchTorn_k0 a1 a2 x5) some)))
set_option maxRecDepth 100000 in
set_option maxHeartbeats 100000000 in
/-- gleaning/gleaninglaw4.BatchTorn -/
theorem gleaninglaw4_BatchTorn_ok (a0 : List Span) (a1 : Int) (a2 : Int) {r : Bool} (h : gleaninglaw4_BatchTorn a0 a1 a2 = some r) : Ok Try.prog 16 [.sl 10 (List.map enc41 a0), .int .i64 a1, .int .i64 a2] [] [] (.bool r) [] [] := by
  unfold gleaninglaw4_BatchTorn at h
  refine ok_of_code Try.func16 rfl (by show (3 : Nat) ≤ _; decide) (Nat.le_refl _) fun X => ?_
  refine aw_seq_k (fun K1 hK1 => ?_)
  refine aw_regL ?_
  refine alP (some 6) rfl rfl (does_assign (v := .bool false) (by exact rfl)) (by decide) ?_
  refine al_nil ?_
  refine hK1 _ ?_
  refine aw_seq_k (fun K2 hK2 => ?_)
  refine aw_regL ?_
  obtain ⟨x3, hx3, h⟩ := bnd_some h
  refine alD (some 17) rfl rfl (do_call0 17 false (gleaninglaw4_alive_ok hx3) rfl ent47 rfl rfl) (by decide) ?_
  refine alP (some 7) rfl rfl (does_assign (v := .bool x3) (by exact rfl)) (by decide) ?_
  refine al_nil ?_
  refine hK2 _ ?_
  refine aw_seq_k (fun K4 hK4 => ?_)
  refine aw_regL ?_
  refine alP (some 18) rfl rfl (does_move (v := .sl 10 (List.map enc41 a0)) (by exact rfl)) (by decide) ?_
  obtain ⟨x5, hx5, h⟩ := bnd_some h
  refine alD (some 19) rfl rfl (do_call0 19 false (gleaningref1_BatchBytes_ok a0 hx5) rfl ent51 rfl rfl) (by decide) ?_
  refine alP (some 8) rfl rfl (does_assign (v := .own 19 0) (by exact rfl)) (by decide) ?_
  refine al_nil ?_
  refine hK4 _ ?_
  obtain ⟨q6, h, hk7⟩ := bnd_some h
  refine aw_cut (fun s => gleaninglaw4_BatchTorn_k0 a1 a2 x5 = some r ∧ s = lit [(1, .int .i64 a1), (2, .int .i64 a2), (8, .own 19 0)] [((19, 0), .arr 5 1 false (List.map enc5 x5))] [(19, 1)] X) ?_ ?_
  · skip
    refine aw_seq_k (fun K8 hK8 => ?_)
    refine aw_regL ?_
    refine alP (some 20) rfl rfl (does_move (v := .bool x3) (by exact rfl)) (by decide) ?_
    refine alP (some 21) rfl rfl (does_un (v := .bool (!x3)) (by conv => lhs; whnf) rfl) (by decide) ?_
    refine alP (some 22) rfl rfl (does_move (v := .bool (!x3)) (by exact rfl)) (by decide) ?_
    refine al_bool (c := (!x3)) 22 rfl (fun c9 => ?_) (fun c9 => ?_)
    · have h := ifT c9 h
      refine alS (some 23) rfl rfl (by decide) ?_
      refine alS (some 24) rfl rfl (by decide) ?_
      refine alS (some 25) rfl rfl (by decide) ?_
      refine alP (some 26) rfl rfl (does_pick (v := .bool true) (by conv => lhs; whnf) (by exact rfl)) (by decide) ?_
      refine alP (some 27) rfl rfl (does_move (v := .bool true) (by exact rfl)) (by decide) ?_
      refine alS (some 28) rfl rfl (by decide) ?_
      refine alS (some 29) rfl rfl (by decide) ?_
      refine alS (some 30) rfl rfl (by decide) ?_
      refine alP (some 31) rfl rfl (does_pick (v := .bool true) (by conv => lhs; whnf) (by exact rfl)) (by decide) ?_
      refine alP (some 32) rfl rfl (does_move (v := .bool true) (by exact rfl)) (by decide) ?_
      refine alS (some 33) rfl rfl (by decide) ?_
      refine alS (some 34) rfl rfl (by decide) ?_
      refine alP (some 35) rfl rfl (does_pick (v := .bool true) (by conv => lhs; whnf) (by exact rfl)) (by decide) ?_
      refine alP (some 36) rfl rfl (does_move (v := .bool true) (by exact rfl)) (by decide) ?_
      refine alS (some 37) rfl rfl (by decide) ?_
      refine alS (some 38) rfl rfl (by decide) ?_
      refine alP (some 39) rfl rfl (does_pick (v := .bool true) (by conv => lhs; whnf) (by exact rfl)) (by decide) ?_
      refine al_nil ?_
      refine hK8 _ ?_
      refine aw_cond_t (by decide) rfl ?_
      refine aw_seq_k (fun K10 hK10 => ?_)
      refine aw_regL ?_
      refine alP (some 40) rfl rfl (does_move (v := .bool x3) (by exact rfl)) (by decide) ?_
      refine alP (some 6) rfl rfl (does_assign (v := .bool x3) (by exact rfl)) (by decide) ?_
      refine al_nil ?_
      refine hK10 _ ?_
      refine aw_ret ?_
      have h := leafR h hk7
      obtain rfl := Option.some.inj h
      exact ret_ok1 (by conv => lhs; whnf) (by conv => lhs; whnf) (by exact rfl) (.inr rfl) rfl
    · have h := ifF c9 h
      refine alP (some 23) rfl rfl (does_move (v := .sl 10 (List.map enc41 a0)) (by exact rfl)) (by decide) ?_
      obtain ⟨x11, hx11, h⟩ := bnd_some h
      refine alD (some 24) rfl rfl (do_call0 24 false (gleaninglaw3_FewAll_ok a0 hx11) rfl ent20 rfl rfl) (by decide) ?_
      refine alP (some 25) rfl rfl (does_un (v := .bool (!x11)) (by conv => lhs; whnf) rfl) (by decide) ?_
      refine alP (some 26) rfl rfl (does_pick (v := .bool (!x11)) (by conv => lhs; whnf) (by exact rfl)) (by decide) ?_
      refine alP (some 27) rfl rfl (does_move (v := .bool (!x11)) (by exact rfl)) (by decide) ?_
      refine al_bool (c := (!x11)) 27 rfl (fun c12 => ?_) (fun c12 => ?_)
      · have h := ifT c12 h
        refine alS (some 28) rfl rfl (by decide) ?_
        refine alS (some 29) rfl rfl (by decide) ?_
        refine alS (some 30) rfl rfl (by decide) ?_
        refine alP (some 31) rfl rfl (does_pick (v := .bool true) (by conv => lhs; whnf) (by exact rfl)) (by decide) ?_
        refine alP (some 32) rfl rfl (does_move (v := .bool true) (by exact rfl)) (by decide) ?_
        refine alS (some 33) rfl rfl (by decide) ?_
        refine alS (some 34) rfl rfl (by decide) ?_
        refine alP (some 35) rfl rfl (does_pick (v := .bool true) (by conv => lhs; whnf) (by exact rfl)) (by decide) ?_
        refine alP (some 36) rfl rfl (does_move (v := .bool true) (by exact rfl)) (by decide) ?_
        refine alS (some 37) rfl rfl (by decide) ?_
        refine alS (some 38) rfl rfl (by decide) ?_
        refine alP (some 39) rfl rfl (does_pick (v := .bool true) (by conv => lhs; whnf) (by exact rfl)) (by decide) ?_
        refine al_nil ?_
        refine hK8 _ ?_
        refine aw_cond_t (by decide) rfl ?_
        refine aw_seq_k (fun K13 hK13 => ?_)
        refine aw_regL ?_
        refine alP (some 40) rfl rfl (does_move (v := .bool x3) (by exact rfl)) (by decide) ?_
        refine alP (some 6) rfl rfl (does_assign (v := .bool x3) (by exact rfl)) (by decide) ?_
        refine al_nil ?_
        refine hK13 _ ?_
        refine aw_ret ?_
        have h := leafR h hk7
        obtain rfl := Option.some.inj h
        exact ret_ok1 (by conv => lhs; whnf) (by conv => lhs; whnf) (by exact rfl) (.inr rfl) rfl
      · have h := ifF c12 h
        refine alP (some 28) rfl rfl (does_move (v := .own 19 0) (by exact rfl)) (by decide) ?_
        refine alR (some 29) rfl rfl ((does_len_own (by conv => lhs; whnf) (by conv => lhs; whnf) ty43).cast (v' := .int .i64 (List.length x5 : Int)) (by exact len_map _)) (by decide) ?_
        refine alP (some 30) rfl rfl (does_bin (v := .bool ((List.length x5 : Int) == 0)) (by conv => lhs; whnf) (by conv => lhs; whnf) rfl) (by decide) ?_
        refine alP (some 31) rfl rfl (does_pick (v := .bool ((List.length x5 : Int) == 0)) (by conv => lhs; whnf) (by exact rfl)) (by decide) ?_
        refine alP (some 32) rfl rfl (does_move (v := .bool ((List.length x5 : Int) == 0)) (by exact rfl)) (by decide) ?_
        refine al_bool (c := ((List.length x5 : Int) == 0)) 32 rfl (fun c14 => ?_) (fun c14 => ?_)
        · have h := ifT c14 h
          refine alS (some 33) rfl rfl (by decide) ?_
          refine alS (some 34) rfl rfl (by decide) ?_
          refine alP (some 35) rfl rfl (does_pick (v := .bool true) (by conv => lhs; whnf) (by exact rfl)) (by decide) ?_
          refine alP (some 36) rfl rfl (does_move (v := .bool true) (by exact rfl)) (by decide) ?_
          refine alS (some 37) rfl rfl (by decide) ?_
          refine alS (some 38) rfl rfl (by decide) ?_
          refine alP (some 39) rfl rfl (does_pick (v := .bool true) (by conv => lhs; whnf) (by exact rfl)) (by decide) ?_
          refine al_nil ?_
          refine hK8 _ ?_
          refine aw_cond_t (by decide) rfl ?_
          refine aw_seq_k (fun K15 hK15 => ?_)
          refine aw_regL ?_
          refine alP (some 40) rfl rfl (does_move (v := .bool x3) (by exact rfl)) (by decide) ?_
          refine alP (some 6) rfl rfl (does_assign (v := .bool x3) (by exact rfl)) (by decide) ?_
          refine al_nil ?_
          refine hK15 _ ?_
          refine aw_ret ?_
          have h := leafR h hk7
          obtain rfl := Option.some.inj h
          exact ret_ok1 (by conv => lhs; whnf) (by conv => lhs; whnf) (by exact rfl) (.inr rfl) rfl
        · have h := ifF c14 h
          refine alP (some 33) rfl rfl (does_move (v := .int .i64 a1) (by exact rfl)) (by decide) ?_
          refine alP (some 34) rfl rfl (does_bin (v := .bool (decide (a1 < 0))) (by conv => lhs; whnf) (by conv => lhs; whnf) rfl) (by decide) ?_
          refine alP (some 35) rfl rfl (does_pick (v := .bool (decide (a1 < 0))) (by conv => lhs; whnf) (by exact rfl)) (by decide) ?_
          refine alP (some 36) rfl rfl (does_move (v := .bool (decide (a1 < 0))) (by exact rfl)) (by decide) ?_
          refine al_bool (c := (decide (a1 < 0))) 36 rfl (fun c16 => ?_) (fun c16 => ?_)
          · have h := ifT c16 h
            refine alS (some 37) rfl rfl (by decide) ?_
            refine alS (some 38) rfl rfl (by decide) ?_
            refine alP (some 39) rfl rfl (does_pick (v := .bool true) (by conv => lhs; whnf) (by exact rfl)) (by decide) ?_
            refine al_nil ?_
            refine hK8 _ ?_
            refine aw_cond_t (by decide) rfl ?_
            refine aw_seq_k (fun K17 hK17 => ?_)
            refine aw_regL ?_
            refine alP (some 40) rfl rfl (does_move (v := .bool x3) (by exact rfl)) (by decide) ?_
            refine alP (some 6) rfl rfl (does_assign (v := .bool x3) (by exact rfl)) (by decide) ?_
            refine al_nil ?_
            refine hK17 _ ?_
            refine aw_ret ?_
            have h := leafR h hk7
            obtain rfl := Option.some.inj h
            exact ret_ok1 (by conv => lhs; whnf) (by conv => lhs; whnf) (by exact rfl) (.inr rfl) rfl
          · have h := ifF c16 h
            refine alP (some 37) rfl rfl (does_move (v := .int .i64 a2) (by exact rfl)) (by decide) ?_
            refine alP (some 38) rfl rfl (does_bin (v := .bool (decide (a2 < 0))) (by conv => lhs; whnf) (by conv => lhs; whnf) rfl) (by decide) ?_
            refine alP (some 39) rfl rfl (does_pick (v := .bool (decide (a2 < 0))) (by conv => lhs; whnf) (by exact rfl)) (by decide) ?_
            refine al_nil ?_
            refine hK8 _ ?_
            refine aw_bool (b := (decide (a2 < 0))) 39 rfl (fun c18 => ?_) (fun c18 => ?_)
            · have h := ifT c18 h
              refine aw_cond_t (by decide) rfl ?_
              refine aw_seq_k (fun K19 hK19 => ?_)
              refine aw_regL ?_
              refine alP (some 40) rfl rfl (does_move (v := .bool x3) (by exact rfl)) (by decide) ?_
              refine alP (some 6) rfl rfl (does_assign (v := .bool x3) (by exact rfl)) (by decide) ?_
              refine al_nil ?_
              refine hK19 _ ?_
              refine aw_ret ?_
              have h := leafR h hk7
              obtain rfl := Option.some.inj h
              exact ret_ok1 (by conv => lhs; whnf) (by conv => lhs; whnf) (by exact rfl) (.inr rfl) rfl
            · have h := ifF c18 h
              refine aw_cond_f (by decide) rfl ?_
              refine aw_skip ?_
              have h := leafL h hk7
              exact ⟨_, reb_lit [(1, .int .i64 a1), (2, .int .i64 a2), (8, .own 19 0)] [(19, 0)] [((19, 0), .arr 5 1 false (List.map enc5 x5))] [(19, 1)] (envOk_cons (by conv => lhs; whnf) (by exact rfl) (envOk_cons (by conv => lhs; whnf) (by exact rfl) (envOk_cons (by conv => lhs; whnf) (by exact rfl) envOk_nil))) (objOk_cons (by conv => lhs; whnf) (by conv => lhs; whnf) (by exact rfl) (by simp) objOk_nil) (nodup_b rfl) (nodup_b rfl) rfl rfl, h, rfl⟩
  · rintro s ⟨h, rfl⟩
    unfold gleaninglaw4_BatchTorn_k0 at h
    refine aw_seq_k (fun K20 hK20 => ?_)
    refine aw_regL ?_
    refine alP (some 42) rfl rfl (does_move (v := .own 19 0) (by exact rfl)) (by decide) ?_
    refine alP (some 43) rfl rfl (does_move (v := .int .i64 a1) (by exact rfl)) (by decide) ?_
    refine alP (some 44) rfl rfl (does_move (v := .own 19 0) (by exact rfl)) (by decide) ?_
    refine alR (some 45) rfl rfl ((does_len_own (by conv => lhs; whnf) (by conv => lhs; whnf) ty43).cast (v' := .int .i64 (List.length x5 : Int)) (by exact len_map _)) (by decide) ?_
    obtain ⟨g21, h⟩ := gd_some h
    refine alP (some 46) rfl rfl (does_bin (v := .int .i64 (Int.tmod a1 (List.length x5 : Int))) (by conv => lhs; whnf) (by conv => lhs; whnf) (rem_hv g21)) (by decide) ?_
    obtain ⟨g22, h⟩ := gd_some h
    obtain ⟨g23, h⟩ := gd_some h
    refine alD (some 47) rfl rfl (does_frz (d := 19) (n := 0) (by conv => lhs; whnf) (does_slice_own (l := 0) (k := (Int.toNat (Int.tmod a1 (List.length x5 : Int)))) (by conv => lhs; whnf) (by conv => lhs; whnf) ty43 ty5 bd_none (bd_some (by conv => lhs; whnf) (by exact (nat_of (by omega)))) (by (try simp only [List.length_map]); omega) (by (try simp only [List.length_map]); omega) (by exact part_h _ _))) (by decide) ?_
    obtain ⟨x24, hx24, h⟩ := bnd_some h
    refine alD (some 48) rfl rfl (do_call0 48 false (batch_Read_ok (List.take (Int.toNat (Int.tmod a1 (List.length x5 : Int))) x5) hx24) rfl ent49 rfl rfl) (by decide) ?_
    refine alP (some 41) rfl rfl (does_move (v := .tup [.own 48 0, .int .i64 x24.2]) (by exact rfl)) (by decide) ?_
    refine alP (some 49) rfl rfl (does_extract (v := .own 48 0) (by conv => lhs; whnf) (by exact rfl)) (by decide) ?_
    refine alP (some 50) rfl rfl (does_extract (v := .int .i64 x24.2) (by conv => lhs; whnf) (by exact rfl)) (by decide) ?_
    refine alP (some 9) rfl rfl (does_assign (v := .own 48 0) (by exact rfl)) (by decide) ?_
    refine alP (some 10) rfl rfl (does_assign (v := .int .i64 x24.2) (by exact rfl)) (by decide) ?_
    refine al_nil ?_
    refine hK20 _ ?_
    refine aw_seq_k (fun K25 hK25 => ?_)
    refine aw_regL ?_
    refine alP (some 52) rfl rfl (does_move (v := .own 19 0) (by exact rfl)) (by decide) ?_
    obtain ⟨g26, h⟩ := gd_some h
    refine alD (some 53) rfl rfl (do_append (v := List.map enc5 x5) (by conv => lhs; whnf) (by conv => lhs; whnf) ty43 ty5 rfl rfl (by conv => lhs; whnf) (by first | exact .inl rfl | exact .inr ⟨rfl, rfl⟩) (by conv => lhs; whnf) (by first | exact .inr rfl | exact .inl rfl) (List.nil_append _) (fit_map g26)) (by decide) ?_
    refine alD (some 54) rfl rfl (do_buildSlice (xs := List.map enc5 [(0 : UInt8)]) ty43 ty5 rfl rfl rfl rfl rfl rfl rfl rfl) (by decide) ?_
    obtain ⟨g27, h⟩ := gd_some h
    refine alD (some 55) rfl rfl (do_append (v := List.map enc5 (x5 ++ [(0 : UInt8)])) (by conv => lhs; whnf) (by conv => lhs; whnf) ty43 ty5 rfl rfl (by conv => lhs; whnf) (by first | exact .inl rfl | exact .inr ⟨rfl, rfl⟩) (by conv => lhs; whnf) (by first | exact .inr rfl | exact .inl rfl) (map_app _ _) (fit_map g27)) (by decide) ?_
    obtain ⟨x28, hx28, h⟩ := bnd_some h
    refine alD (some 56) rfl rfl (does_frz (d := 55) (n := 0) (by conv => lhs; whnf) (do_callG (bcs := []) [] [] [(55, 0)] 56 false (batch_Read_ok (x5 ++ [(0 : UInt8)]) hx28) rfl ent49 trivial trivial rfl rfl rfl rfl rfl rfl rfl rfl (.inl ⟨⟨_, _, _, rfl⟩, trivial⟩))) (by decide) ?_
    refine alP (some 51) rfl rfl (does_move (v := .tup [.own 56 0, .int .i64 x28.2]) (by exact rfl)) (by decide) ?_
    refine alP (some 57) rfl rfl (does_extract (v := .own 56 0) (by conv => lhs; whnf) (by exact rfl)) (by decide) ?_
    refine alP (some 58) rfl rfl (does_extract (v := .int .i64 x28.2) (by conv => lhs; whnf) (by exact rfl)) (by decide) ?_
    refine alP (some 11) rfl rfl (does_assign (v := .own 56 0) (by exact rfl)) (by decide) ?_
    refine alP (some 12) rfl rfl (does_assign (v := .int .i64 x28.2) (by exact rfl)) (by decide) ?_
    refine al_nil ?_
    refine hK25 _ ?_
    refine aw_seq_k (fun K29 hK29 => ?_)
    refine aw_regL ?_
    refine alP (some 59) rfl rfl (does_move (v := .own 19 0) (by exact rfl)) (by decide) ?_
    obtain ⟨g30, h⟩ := gd_some h
    refine alD (some 60) rfl rfl (do_append (v := List.map enc5 x5) (by conv => lhs; whnf) (by conv => lhs; whnf) ty43 ty5 rfl rfl (by conv => lhs; whnf) (by first | exact .inl rfl | exact .inr ⟨rfl, rfl⟩) (by conv => lhs; whnf) (by first | exact .inr rfl | exact .inl rfl) (List.nil_append _) (fit_map g30)) (by decide) ?_
    refine alP (some 13) rfl rfl (does_assign (v := .own 60 0) (by exact rfl)) (by decide) ?_
    refine al_nil ?_
    refine hK29 _ ?_
    refine aw_seq_k (fun K31 hK31 => ?_)
    refine aw_regL ?_
    refine alP (some 61) rfl rfl (does_move (v := .int .i64 a2) (by exact rfl)) (by decide) ?_
    refine alP (some 62) rfl rfl (does_move (v := .own 60 0) (by exact rfl)) (by decide) ?_
    refine alR (some 63) rfl rfl ((does_len_own (by conv => lhs; whnf) (by conv => lhs; whnf) ty43).cast (v' := .int .i64 (List.length x5 : Int)) (by exact len_map _)) (by decide) ?_
    refine alP (some 64) rfl rfl (does_bin (v := .int .i64 (IntKind.i64.wrap (8 * (List.length x5 : Int)))) (by conv => lhs; whnf) (by conv => lhs; whnf) rfl) (by decide) ?_
    obtain ⟨g32, h⟩ := gd_some h
    refine alP (some 65) rfl rfl (does_bin (v := .int .i64 (Int.tmod a2 (IntKind.i64.wrap (8 * (List.length x5 : Int))))) (by conv => lhs; whnf) (by conv => lhs; whnf) (rem_hv g32)) (by decide) ?_
    refine alP (some 14) rfl rfl (does_assign (v := .int .i64 (Int.tmod a2 (IntKind.i64.wrap (8 * (List.length x5 : Int))))) (by exact rfl)) (by decide) ?_
    refine al_nil ?_
    refine hK31 _ ?_
    refine aw_seq_k (fun K33 hK33 => ?_)
    refine aw_regL ?_
    refine alP (some 66) rfl rfl (does_move (v := .own 60 0) (by exact rfl)) (by decide) ?_
    refine alP (some 67) rfl rfl (does_move (v := .int .i64 (Int.tmod a2 (IntKind.i64.wrap (8 * (List.length x5 : Int))))) (by exact rfl)) (by decide) ?_
    refine alP (some 68) rfl rfl (does_bin (v := .int .i64 (IntKind.i64.wrap (Int.tdiv (Int.tmod a2 (IntKind.i64.wrap (8 * (List.length x5 : Int)))) 8))) (by conv => lhs; whnf) (by conv => lhs; whnf) rfl) (by decide) ?_
    refine alP (some 69) rfl rfl (does_move (v := .own 60 0) (by exact rfl)) (by decide) ?_
    refine alP (some 70) rfl rfl (does_move (v := .int .i64 (Int.tmod a2 (IntKind.i64.wrap (8 * (List.length x5 : Int))))) (by exact rfl)) (by decide) ?_
    refine alP (some 71) rfl rfl (does_bin (v := .int .i64 (IntKind.i64.wrap (Int.tdiv (Int.tmod a2 (IntKind.i64.wrap (8 * (List.length x5 : Int)))) 8))) (by conv => lhs; whnf) (by conv => lhs; whnf) rfl) (by decide) ?_
    obtain ⟨g34, h⟩ := gd_some h
    obtain ⟨x35, hx35, h⟩ := bnd_some h
    refine alR (some 72) rfl rfl (does_indexAddr_own (by conv => lhs; whnf) (by conv => lhs; whnf) (by conv => lhs; whnf) ty43 ty5 g34 (by exact own_lt hx35)) (by decide) ?_
    refine alR (some 73) rfl rfl (does_load (v := .int .u8 (x35.toNat : Int)) (by conv => lhs; whnf) (cellsAt_eptr (by conv => lhs; whnf) (by exact map_get hx35)) ty5 (by exact rfl)) (by decide) ?_
    refine alP (some 74) rfl rfl (does_move (v := .int .i64 (Int.tmod a2 (IntKind.i64.wrap (8 * (List.length x5 : Int))))) (by exact rfl)) (by decide) ?_
    refine alP (some 75) rfl rfl (does_bin (v := .int .i64 (Int.tmod (Int.tmod a2 (IntKind.i64.wrap (8 * (List.length x5 : Int)))) 8)) (by conv => lhs; whnf) (by conv => lhs; whnf) rfl) (by decide) ?_
    refine alP (some 76) rfl rfl (does_conv_int (v := .int .u64 (IntKind.u64.wrap (Int.tmod (Int.tmod a2 (IntKind.i64.wrap (8 * (List.length x5 : Int)))) 8))) (by conv => lhs; whnf) (ty_some ty3) (ty_int ty76) rfl) (by decide) ?_
    obtain ⟨g36, h⟩ := gd_some h
    refine alP (some 77) rfl rfl ((does_bin (v := .int .u8 (IntKind.u8.wrap (1 * 2 ^ (min (Int.toNat (IntKind.u64.wrap (Int.tmod (Int.tmod a2 (IntKind.i64.wrap (8 * (List.length x5 : Int)))) 8))) (IntKind.bits .u8))))) (by conv => lhs; whnf) (by conv => lhs; whnf) (shl_hv g36)).castp (v' := .int .u8 ((u8 (IntKind.u8.wrap (1 * 2 ^ (min (Int.toNat (IntKind.u64.wrap (Int.tmod (Int.tmod a2 (IntKind.i64.wrap (8 * (List.length x5 : Int)))) 8))) (IntKind.bits .u8))))).toNat : Int)) (by exact congrArg _ (u8_eq (u8_wrap _)))) (by decide) ?_
    refine alP (some 78) rfl rfl ((does_bin (v := .int .u8 (bits .xor .u8 (x35.toNat : Int) ((u8 (IntKind.u8.wrap (1 * 2 ^ (min (Int.toNat (IntKind.u64.wrap (Int.tmod (Int.tmod a2 (IntKind.i64.wrap (8 * (List.length x5 : Int)))) 8))) (IntKind.bits .u8))))).toNat : Int))) (by conv => lhs; whnf) (by conv => lhs; whnf) rfl).castp (v' := .int .u8 ((u8 (bits .xor .u8 (x35.toNat : Int) ((u8 (IntKind.u8.wrap (1 * 2 ^ (min (Int.toNat (IntKind.u64.wrap (Int.tmod (Int.tmod a2 (IntKind.i64.wrap (8 * (List.length x5 : Int)))) 8))) (IntKind.bits .u8))))).toNat : Int))).toNat : Int)) (by exact congrArg _ (u8_eq (u8_bits _ _ _)))) (by decide) ?_
    obtain ⟨g37, h⟩ := gd_some h
    obtain ⟨x38, hx38, h⟩ := bnd_some h
    refine alR (some 79) rfl rfl (does_indexAddr_own (by conv => lhs; whnf) (by conv => lhs; whnf) (by conv => lhs; whnf) ty43 ty5 g37 (by exact own_lt hx38)) (by decide) ?_
    refine alD none rfl rfl (does_storeE (old := .int .u8 (x38.toNat : Int)) (el := .int .u8 ((u8 (bits .xor .u8 (x35.toNat : Int) ((u8 (IntKind.u8.wrap (1 * 2 ^ (min (Int.toNat (IntKind.u64.wrap (Int.tmod (Int.tmod a2 (IntKind.i64.wrap (8 * (List.length x5 : Int)))) 8))) (IntKind.bits .u8))))).toNat : Int))).toNat : Int)) (xs' := List.map enc5 (List.set x5 (Int.toNat (IntKind.i64.wrap (Int.tdiv (Int.tmod a2 (IntKind.i64.wrap (8 * (List.length x5 : Int)))) 8))) (u8 (bits .xor .u8 (x35.toNat : Int) ((u8 (IntKind.u8.wrap (1 * 2 ^ (min (Int.toNat (IntKind.u64.wrap (Int.tmod (Int.tmod a2 (IntKind.i64.wrap (8 * (List.length x5 : Int)))) 8))) (IntKind.bits .u8))))).toNat : Int))))) (by conv => lhs; whnf) (by conv => lhs; whnf) (by conv => lhs; whnf) ty5 (by rfl) (by rfl) (by exact map_get hx38) (by rfl) (by exact rfl) (by exact map_set' _ _ (u8 (bits .xor .u8 (x35.toNat : Int) ((u8 (IntKind.u8.wrap (1 * 2 ^ (min (Int.toNat (IntKind.u64.wrap (Int.tmod (Int.tmod a2 (IntKind.i64.wrap (8 * (List.length x5 : Int)))) 8))) (IntKind.bits .u8))))).toNat : Int)))) (by rfl)) (by decide) ?_
    refine al_nil ?_
    refine hK33 _ ?_
    refine aw_seq_k (fun K39 hK39 => ?_)
    refine aw_regL ?_
    refine alP (some 81) rfl rfl (does_move (v := .own 60 0) (by exact rfl)) (by decide) ?_
    obtain ⟨x40, hx40, h⟩ := bnd_some h
    refine alD (some 82) rfl rfl (does_frz (d := 60) (n := 0) (by conv => lhs; whnf) (do_callG (bcs := []) [] [] [(60, 0)] 82 false (batch_Read_ok (List.set x5 (Int.toNat (IntKind.i64.wrap (Int.tdiv (Int.tmod a2 (IntKind.i64.wrap (8 * (List.length x5 : Int)))) 8))) (u8 (bits .xor .u8 (x35.toNat : Int) ((u8 (IntKind.u8.wrap (1 * 2 ^ (min (Int.toNat (IntKind.u64.wrap (Int.tmod (Int.tmod a2 (IntKind.i64.wrap (8 * (List.length x5 : Int)))) 8))) (IntKind.bits .u8))))).toNat : Int)))) hx40) rfl ent49 trivial trivial rfl rfl rfl rfl rfl rfl rfl rfl (.inl ⟨⟨_, _, _, rfl⟩, trivial⟩))) (by decide) ?_
    refine alP (some 80) rfl rfl (does_move (v := .tup [.own 82 0, .int .i64 x40.2]) (by exact rfl)) (by decide) ?_
    refine alP (some 83) rfl rfl (does_extract (v := .own 82 0) (by conv => lhs; whnf) (by exact rfl)) (by decide) ?_
    refine alP (some 84) rfl rfl (does_extract (v := .int .i64 x40.2) (by conv => lhs; whnf) (by exact rfl)) (by decide) ?_
    refine alP (some 15) rfl rfl (does_assign (v := .own 82 0) (by exact rfl)) (by decide) ?_
    refine alP (some 16) rfl rfl (does_assign (v := .int .i64 x40.2) (by exact rfl)) (by decide) ?_
    refine al_nil ?_
    refine hK39 _ ?_
    refine aw_seq_k (fun K41 hK41 => ?_)
    refine aw_regL ?_
    refine alP (some 85) rfl rfl (does_move (v := .int .i64 x24.2) (by exact rfl)) (by decide) ?_
    obtain ⟨x42, hx42, h⟩ := bnd_some h
    refine alD (some 86) rfl rfl ((do_call0 86 false (gleaninglaw4_num_ok x24.2 hx42) rfl ent53 rfl rfl).fx (y := ⟨[], .int .i64 x42, [], [86]⟩) rfl) (by decide) ?_
    refine alP (some 87) rfl rfl (does_bin (v := .bool (x42 == 2)) (by conv => lhs; whnf) (by conv => lhs; whnf) rfl) (by decide) ?_
    refine alP (some 88) rfl rfl (does_move (v := .bool (x42 == 2)) (by exact rfl)) (by decide) ?_
    refine al_bool (c := (x42 == 2)) 88 rfl (fun c43 => ?_) (fun c43 => ?_)
    · have h := ifT c43 h
      refine alS (some 89) rfl rfl (by decide) ?_
      refine alS (some 90) rfl rfl (by decide) ?_
      refine alS (some 91) rfl rfl (by decide) ?_
      refine alS (some 92) rfl rfl (by decide) ?_
      refine alS (some 93) rfl rfl (by decide) ?_
      refine alS (some 94) rfl rfl (by decide) ?_
      refine alS (some 95) rfl rfl (by decide) ?_
      refine alP (some 96) rfl rfl (does_pick (v := .bool true) (by conv => lhs; whnf) (by exact rfl)) (by decide) ?_
      refine alP (some 97) rfl rfl (does_move (v := .bool true) (by exact rfl)) (by decide) ?_
      refine alP (some 98) rfl rfl (does_move (v := .int .i64 x28.2) (by exact rfl)) (by decide) ?_
      obtain ⟨x44, hx44, h⟩ := bnd_some h
      refine alD (some 99) rfl rfl ((do_call0 99 false (gleaninglaw4_num_ok x28.2 hx44) rfl ent53 rfl rfl).fx (y := ⟨[], .int .i64 x44, [], [99]⟩) rfl) (by decide) ?_
      refine alP (some 100) rfl rfl (does_bin (v := .bool (x44 == 2)) (by conv => lhs; whnf) (by conv => lhs; whnf) rfl) (by decide) ?_
      refine alP (some 101) rfl rfl (does_move (v := .bool (x44 == 2)) (by exact rfl)) (by decide) ?_
      refine al_bool (c := (x44 == 2)) 101 rfl (fun c45 => ?_) (fun c45 => ?_)
      · have h := ifT c45 h
        refine alS (some 102) rfl rfl (by decide) ?_
        refine alS (some 103) rfl rfl (by decide) ?_
        refine alS (some 104) rfl rfl (by decide) ?_
        refine alS (some 105) rfl rfl (by decide) ?_
        refine alS (some 106) rfl rfl (by decide) ?_
        refine alP (some 107) rfl rfl (does_pick (v := .bool true) (by conv => lhs; whnf) (by exact rfl)) (by decide) ?_
        refine alP (some 108) rfl rfl (does_pick (v := .bool true) (by conv => lhs; whnf) (by exact rfl)) (by decide) ?_
        refine alP (some 109) rfl rfl (does_move (v := .bool true) (by exact rfl)) (by decide) ?_
        refine alP (some 110) rfl rfl (does_move (v := .int .i64 x40.2) (by exact rfl)) (by decide) ?_
        obtain ⟨x46, hx46, h⟩ := bnd_some h
        refine alD (some 111) rfl rfl ((do_call0 111 false (gleaninglaw4_num_ok x40.2 hx46) rfl ent53 rfl rfl).fx (y := ⟨[], .int .i64 x46, [], [111]⟩) rfl) (by decide) ?_
        refine alP (some 112) rfl rfl (does_bin (v := .bool (x46 == 2)) (by conv => lhs; whnf) (by conv => lhs; whnf) rfl) (by decide) ?_
        refine alP (some 113) rfl rfl (does_pick (v := .bool (x46 == 2)) (by conv => lhs; whnf) (by exact rfl)) (by decide) ?_
        refine alP (some 6) rfl rfl (does_assign (v := .bool (x46 == 2)) (by exact rfl)) (by decide) ?_
        refine al_nil ?_
        refine hK41 _ ?_
        refine aw_ret ?_
        obtain rfl := Option.some.inj h
        exact ret_ok1 (by conv => lhs; whnf) (by conv => lhs; whnf) (by exact rfl) (.inr rfl) rfl
      · have h := ifF c45 h
        refine alP (some 102) rfl rfl (does_move (v := .own 19 0) (by exact rfl)) (by decide) ?_
        obtain ⟨g47, h⟩ := gd_some h
        refine alD (some 103) rfl rfl (do_append (v := List.map enc5 x5) (by conv => lhs; whnf) (by conv => lhs; whnf) ty43 ty5 rfl rfl (by conv => lhs; whnf) (by first | exact .inl rfl | exact .inr ⟨rfl, rfl⟩) (by conv => lhs; whnf) (by first | exact .inr rfl | exact .inl rfl) (List.nil_append _) (fit_map g47)) (by decide) ?_
        refine alD (some 104) rfl rfl ((do_buildSlice (xs := List.map enc5 [(0 : UInt8)]) ty43 ty5 rfl rfl rfl rfl rfl rfl rfl rfl).fx (y := ⟨_, .own 104 0, [((104, 0), some (.arr 5 1 false (List.map enc5 [(0 : UInt8)])))], [104]⟩) rfl) (by decide) ?_
        obtain ⟨g48, h⟩ := gd_some h
        refine alD (some 105) rfl rfl (do_append (v := List.map enc5 (x5 ++ [(0 : UInt8)])) (by conv => lhs; whnf) (by conv => lhs; whnf) ty43 ty5 rfl rfl (by conv => lhs; whnf) (by first | exact .inl rfl | exact .inr ⟨rfl, rfl⟩) (by conv => lhs; whnf) (by first | exact .inr rfl | exact .inl rfl) (map_app _ _) (fit_map g48)) (by decide) ?_
        obtain ⟨x49, hx49, h⟩ := bnd_some h
        refine alD (some 106) rfl rfl ((do_callG (bcs := []) [] [] [(105, 0)] 106 false (gleaninglaw4_wholly_ok (x5 ++ [(0 : UInt8)]) hx49) rfl ent54 trivial trivial rfl rfl rfl rfl rfl rfl rfl rfl (.inr ⟨rfl, rfl, trivial⟩)).fx (y := ⟨[(105, 0)], .bool x49, [], [106]⟩) rfl) (by decide) ?_
        refine alP (some 107) rfl rfl (does_pick (v := .bool x49) (by conv => lhs; whnf) (by exact rfl)) (by decide) ?_
        refine alP (some 108) rfl rfl (does_pick (v := .bool x49) (by conv => lhs; whnf) (by exact rfl)) (by decide) ?_
        refine alP (some 109) rfl rfl (does_move (v := .bool x49) (by exact rfl)) (by decide) ?_
        refine al_bool (c := x49) 109 rfl (fun c50 => ?_) (fun c50 => ?_)
        · have h := ifT c50 h
          refine alP (some 110) rfl rfl (does_move (v := .int .i64 x40.2) (by exact rfl)) (by decide) ?_
          obtain ⟨x51, hx51, h⟩ := bnd_some h
          refine alD (some 111) rfl rfl ((do_call0 111 false (gleaninglaw4_num_ok x40.2 hx51) rfl ent53 rfl rfl).fx (y := ⟨[], .int .i64 x51, [], [111]⟩) rfl) (by decide) ?_
          refine alP (some 112) rfl rfl (does_bin (v := .bool (x51 == 2)) (by conv => lhs; whnf) (by conv => lhs; whnf) rfl) (by decide) ?_
          refine alP (some 113) rfl rfl (does_pick (v := .bool (x51 == 2)) (by conv => lhs; whnf) (by exact rfl)) (by decide) ?_
          refine alP (some 6) rfl rfl (does_assign (v := .bool (x51 == 2)) (by exact rfl)) (by decide) ?_
          refine al_nil ?_
          refine hK41 _ ?_
          refine aw_ret ?_
          obtain rfl := Option.some.inj h
          exact ret_ok1 (by conv => lhs; whnf) (by conv => lhs; whnf) (by exact rfl) (.inr rfl) rfl
        · have h := ifF c50 h
          refine alS (some 110) rfl rfl (by decide) ?_
          refine alS (some 111) rfl rfl (by decide) ?_
          refine alS (some 112) rfl rfl (by decide) ?_
          refine alP (some 113) rfl rfl (does_pick (v := .bool false) (by conv => lhs; whnf) (by exact rfl)) (by decide) ?_
          refine alP (some 6) rfl rfl (does_assign (v := .bool false) (by exact rfl)) (by decide) ?_
          refine al_nil ?_
          refine hK41 _ ?_
          refine aw_ret ?_
          obtain rfl := Option.some.inj h
          exact ret_ok1 (by conv => lhs; whnf) (by conv => lhs; whnf) (by exact rfl) (.inr rfl) rfl
    · have h := ifF c43 h
      refine alP (some 89) rfl rfl (does_move (v := .own 19 0) (by exact rfl)) (by decide) ?_
      refine alP (some 90) rfl rfl (does_move (v := .int .i64 a1) (by exact rfl)) (by decide) ?_
      refine alP (some 91) rfl rfl (does_move (v := .own 19 0) (by exact rfl)) (by decide) ?_
      refine alR (some 92) rfl rfl ((does_len_own (by conv => lhs; whnf) (by conv => lhs; whnf) ty43).cast (v' := .int .i64 (List.length x5 : Int)) (by exact len_map _)) (by decide) ?_
      obtain ⟨g52, h⟩ := gd_some h
      refine alP (some 93) rfl rfl (does_bin (v := .int .i64 (Int.tmod a1 (List.length x5 : Int))) (by conv => lhs; whnf) (by conv => lhs; whnf) (rem_hv g52)) (by decide) ?_
      obtain ⟨g53, h⟩ := gd_some h
      obtain ⟨g54, h⟩ := gd_some h
      refine alD (some 94) rfl rfl (does_slice_own (l := 0) (k := (Int.toNat (Int.tmod a1 (List.length x5 : Int)))) (by conv => lhs; whnf) (by conv => lhs; whnf) ty43 ty5 bd_none (bd_some (by conv => lhs; whnf) (by exact (nat_of (by omega)))) (by (try simp only [List.length_map]); omega) (by (try simp only [List.length_map]); omega) (by exact part_h _ _)) (by decide) ?_
      obtain ⟨x55, hx55, h⟩ := bnd_some h
      refine alD (some 95) rfl rfl ((do_call0 95 false (gleaninglaw4_wholly_ok (List.take (Int.toNat (Int.tmod a1 (List.length x5 : Int))) x5) hx55) rfl ent54 rfl rfl).fx (y := ⟨[], .bool x55, [], [95]⟩) rfl) (by decide) ?_
      refine alP (some 96) rfl rfl (does_pick (v := .bool x55) (by conv => lhs; whnf) (by exact rfl)) (by decide) ?_
      refine alP (some 97) rfl rfl (does_move (v := .bool x55) (by exact rfl)) (by decide) ?_
      refine al_bool (c := x55) 97 rfl (fun c56 => ?_) (fun c56 => ?_)
      · have h := ifT c56 h
        refine alP (some 98) rfl rfl (does_move (v := .int .i64 x28.2) (by exact rfl)) (by decide) ?_
        obtain ⟨x57, hx57, h⟩ := bnd_some h
        refine alD (some 99) rfl rfl ((do_call0 99 false (gleaninglaw4_num_ok x28.2 hx57) rfl ent53 rfl rfl).fx (y := ⟨[], .int .i64 x57, [], [99]⟩) rfl) (by decide) ?_
        refine alP (some 100) rfl rfl (does_bin (v := .bool (x57 == 2)) (by conv => lhs; whnf) (by conv => lhs; whnf) rfl) (by decide) ?_
        refine alP (some 101) rfl rfl (does_move (v := .bool (x57 == 2)) (by exact rfl)) (by decide) ?_
        refine al_bool (c := (x57 == 2)) 101 rfl (fun c58 => ?_) (fun c58 => ?_)
        · have h := ifT c58 h
          refine alS (some 102) rfl rfl (by decide) ?_
          refine alS (some 103) rfl rfl (by decide) ?_
          refine alS (some 104) rfl rfl (by decide) ?_
          refine alS (some 105) rfl rfl (by decide) ?_
          refine alS (some 106) rfl rfl (by decide) ?_
          refine alP (some 107) rfl rfl (does_pick (v := .bool true) (by conv => lhs; whnf) (by exact rfl)) (by decide) ?_
          refine alP (some 108) rfl rfl (does_pick (v := .bool true) (by conv => lhs; whnf) (by exact rfl)) (by decide) ?_
          refine alP (some 109) rfl rfl (does_move (v := .bool true) (by exact rfl)) (by decide) ?_
          refine alP (some 110) rfl rfl (does_move (v := .int .i64 x40.2) (by exact rfl)) (by decide) ?_
          obtain ⟨x59, hx59, h⟩ := bnd_some h
          refine alD (some 111) rfl rfl ((do_call0 111 false (gleaninglaw4_num_ok x40.2 hx59) rfl ent53 rfl rfl).fx (y := ⟨[], .int .i64 x59, [], [111]⟩) rfl) (by decide) ?_
          refine alP (some 112) rfl rfl (does_bin (v := .bool (x59 == 2)) (by conv => lhs; whnf) (by conv => lhs; whnf) rfl) (by decide) ?_
          refine alP (some 113) rfl rfl (does_pick (v := .bool (x59 == 2)) (by conv => lhs; whnf) (by exact rfl)) (by decide) ?_
          refine alP (some 6) rfl rfl (does_assign (v := .bool (x59 == 2)) (by exact rfl)) (by decide) ?_
          refine al_nil ?_
          refine hK41 _ ?_
          refine aw_ret ?_
          obtain rfl := Option.some.inj h
          exact ret_ok1 (by conv => lhs; whnf) (by conv => lhs; whnf) (by exact rfl) (.inr rfl) rfl
        · have h := ifF c58 h
          refine alP (some 102) rfl rfl (does_move (v := .own 19 0) (by exact rfl)) (by decide) ?_
          obtain ⟨g60, h⟩ := gd_some h
          refine alD (some 103) rfl rfl (do_append (v := List.map enc5 x5) (by conv => lhs; whnf) (by conv => lhs; whnf) ty43 ty5 rfl rfl (by conv => lhs; whnf) (by first | exact .inl rfl | exact .inr ⟨rfl, rfl⟩) (by conv => lhs; whnf) (by first | exact .inr rfl | exact .inl rfl) (List.nil_append _) (fit_map g60)) (by decide) ?_
          refine alD (some 104) rfl rfl ((do_buildSlice (xs := List.map enc5 [(0 : UInt8)]) ty43 ty5 rfl rfl rfl rfl rfl rfl rfl rfl).fx (y := ⟨_, .own 104 0, [((104, 0), some (.arr 5 1 false (List.map enc5 [(0 : UInt8)])))], [104]⟩) rfl) (by decide) ?_
          obtain ⟨g61, h⟩ := gd_some h
          refine alD (some 105) rfl rfl (do_append (v := List.map enc5 (x5 ++ [(0 : UInt8)])) (by conv => lhs; whnf) (by conv => lhs; whnf) ty43 ty5 rfl rfl (by conv => lhs; whnf) (by first | exact .inl rfl | exact .inr ⟨rfl, rfl⟩) (by conv => lhs; whnf) (by first | exact .inr rfl | exact .inl rfl) (map_app _ _) (fit_map g61)) (by decide) ?_
          obtain ⟨x62, hx62, h⟩ := bnd_some h
          refine alD (some 106) rfl rfl ((do_callG (bcs := []) [] [] [(105, 0)] 106 false (gleaninglaw4_wholly_ok (x5 ++ [(0 : UInt8)]) hx62) rfl ent54 trivial trivial rfl rfl rfl rfl rfl rfl rfl rfl (.inr ⟨rfl, rfl, trivial⟩)).fx (y := ⟨[(105, 0)], .bool x62, [], [106]⟩) rfl) (by decide) ?_
          refine alP (some 107) rfl rfl (does_pick (v := .bool x62) (by conv => lhs; whnf) (by exact rfl)) (by decide) ?_
          refine alP (some 108) rfl rfl (does_pick (v := .bool x62) (by conv => lhs; whnf) (by exact rfl)) (by decide) ?_
          refine alP (some 109) rfl rfl (does_move (v := .bool x62) (by exact rfl)) (by decide) ?_
          refine al_bool (c := x62) 109 rfl (fun c63 => ?_) (fun c63 => ?_)
          · have h := ifT c63 h
            refine alP (some 110) rfl rfl (does_move (v := .int .i64 x40.2) (by exact rfl)) (by decide) ?_
            obtain ⟨x64, hx64, h⟩ := bnd_some h
            refine alD (some 111) rfl rfl ((do_call0 111 false (gleaninglaw4_num_ok x40.2 hx64) rfl ent53 rfl rfl).fx (y := ⟨[], .int .i64 x64, [], [111]⟩) rfl) (by decide) ?_
            refine alP (some 112) rfl rfl (does_bin (v := .bool (x64 == 2)) (by conv => lhs; whnf) (by conv => lhs; whnf) rfl) (by decide) ?_
            refine alP (some 113) rfl rfl (does_pick (v := .bool (x64 == 2)) (by conv => lhs; whnf) (by exact rfl)) (by decide) ?_
            refine alP (some 6) rfl rfl (does_assign (v := .bool (x64 == 2)) (by exact rfl)) (by decide) ?_
            refine al_nil ?_
            refine hK41 _ ?_
            refine aw_ret ?_
            obtain rfl := Option.some.inj h
            exact ret_ok1 (by conv => lhs; whnf) (by conv => lhs; whnf) (by exact rfl) (.inr rfl) rfl
          · have h := ifF c63 h
            refine alS (some 110) rfl rfl (by decide) ?_
            refine alS (some 111) rfl rfl (by decide) ?_
            refine alS (some 112) rfl rfl (by decide) ?_
            refine alP (some 113) rfl rfl (does_pick (v := .bool false) (by conv => lhs; whnf) (by exact rfl)) (by decide) ?_
            refine alP (some 6) rfl rfl (does_assign (v := .bool false) (by exact rfl)) (by decide) ?_
            refine al_nil ?_
            refine hK41 _ ?_
            refine aw_ret ?_
            obtain rfl := Option.some.inj h
            exact ret_ok1 (by conv => lhs; whnf) (by conv => lhs; whnf) (by exact rfl) (.inr rfl) rfl
      · have h := ifF c56 h
        refine alS (some 98) rfl rfl (by decide) ?_
        refine alS (some 99) rfl rfl (by decide) ?_
        refine alS (some 100) rfl rfl (by decide) ?_
        refine alS (some 101) rfl rfl (by decide) ?_
        refine alS (some 102) rfl rfl (by decide) ?_
        refine alS (some 103) rfl rfl (by decide) ?_
        refine alS (some 104) rfl rfl (by decide) ?_
        refine alS (some 105) rfl rfl (by decide) ?_
        refine alS (some 106) rfl rfl (by decide) ?_
        refine alS (some 107) rfl rfl (by decide) ?_
        refine alP (some 108) rfl rfl (does_pick (v := .bool false) (by conv => lhs; whnf) (by exact rfl)) (by decide) ?_
        refine alP (some 109) rfl rfl (does_move (v := .bool false) (by exact rfl)) (by decide) ?_
        refine alS (some 110) rfl rfl (by decide) ?_
        refine alS (some 111) rfl rfl (by decide) ?_
        refine alS (some 112) rfl rfl (by decide) ?_
        refine alP (some 113) rfl rfl (does_pick (v := .bool false) (by conv => lhs; whnf) (by exact rfl)) (by decide) ?_
        refine alP (some 6) rfl rfl (does_assign (v := .bool false) (by exact rfl)) (by decide) ?_
        refine al_nil ?_
        refine hK41 _ ?_
        refine aw_ret ?_
        obtain rfl := Option.some.inj h
        exact ret_ok1 (by conv => lhs; whnf) (by conv => lhs; whnf) (by exact rfl) (.inr rfl) rfl
end Go.Proofs.Ytbfmmaabaenhgaa.Ab
