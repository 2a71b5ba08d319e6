/- Chapter 31: their order. -/
import Derived.Test.YtmhbopjjkgjbnaaXQSorts
import Derived.Test.YtmhbopjjkgjbnaaProg
namespace Go.Proofs.Ytmhbopjjkgjbnaa.Ab
open Go Go.RowKit
set_option linter.unusedVariables false
set_option linter.unusedSimpArgs false

def gleaninglaw31_QuantOrder_l2 (a0 : List Int) (v8_s_2_2 : Int) (v8_s_3_2 : Int) (v8_s_4_2 : Int) (v8_s_5_2 : Int) (v8_s_6_2 : Int) (v8_s_7_2 : Int) (v8_s_8_2 : Int) (v8_s_9_2 : Int) (v9_s_2_2 : Int) (v9_s_3_2 : Int) (v9_s_4_2 : Int) (v9_s_5_2 : Int) (v9_s_6_2 : Int) (v9_s_7_2 : Int) (v9_s_8_2 : Int) (v9_s_9_2 : Int) (v10_2 : Bool) (v11_2 : Int) : Option ((Int × Int × Int × Int × Int × Int × Int × Int × Int × Int × Int × Int × Int × Int × Int × Int × Bool × Int) ⊕ (Int × Int × Int × Int × Int × Int × Int × Int × Int × Int × Int × Int × Int × Int × Int × Int × Bool)) :=
  if (decide (v11_2 < 8)) = true then (gd (0 ≤ v11_2) (Option.bind (a0[(Int.toNat v11_2)]?) (fun (x30 : Int) => gd (0 ≤ v11_2) (gd (v11_2 < 8) (Option.bind (([v8_s_2_2, v8_s_3_2, v8_s_4_2, v8_s_5_2, v8_s_6_2, v8_s_7_2, v8_s_8_2, v8_s_9_2] : List Int)[(Int.toNat v11_2)]?) (fun (x33 : Int) => Option.bind (some (List.set ([v8_s_2_2, v8_s_3_2, v8_s_4_2, v8_s_5_2, v8_s_6_2, v8_s_7_2, v8_s_8_2, v8_s_9_2] : List Int) (Int.toNat v11_2) (bits .and .i64 x30 65535))) (fun (x34 : List Int) => gd (0 ≤ v11_2) (gd (v11_2 < 8) (Option.bind (([(x34.getD 0 0), (x34.getD 1 0), (x34.getD 2 0), (x34.getD 3 0), (x34.getD 4 0), (x34.getD 5 0), (x34.getD 6 0), (x34.getD 7 0)] : List Int)[(Int.toNat v11_2)]?) (fun (x38 : Int) => gd (0 ≤ v11_2) (gd (v11_2 < 8) (Option.bind (([v9_s_2_2, v9_s_3_2, v9_s_4_2, v9_s_5_2, v9_s_6_2, v9_s_7_2, v9_s_8_2, v9_s_9_2] : List Int)[(Int.toNat v11_2)]?) (fun (x41 : Int) => Option.bind (some (List.set ([v9_s_2_2, v9_s_3_2, v9_s_4_2, v9_s_5_2, v9_s_6_2, v9_s_7_2, v9_s_8_2, v9_s_9_2] : List Int) (Int.toNat v11_2) (IntKind.i64.wrap (2 * x38)))) (fun (x42 : List Int) => if v10_2 = true then (some (Sum.inl ((x34.getD 0 0), (x34.getD 1 0), (x34.getD 2 0), (x34.getD 3 0), (x34.getD 4 0), (x34.getD 5 0), (x34.getD 6 0), (x34.getD 7 0), (x42.getD 0 0), (x42.getD 1 0), (x42.getD 2 0), (x42.getD 3 0), (x42.getD 4 0), (x42.getD 5 0), (x42.getD 6 0), (x42.getD 7 0), true, (IntKind.i64.wrap (v11_2 + 1))))) else (gd (0 ≤ v11_2) (gd (v11_2 < 8) (Option.bind (([(x34.getD 0 0), (x34.getD 1 0), (x34.getD 2 0), (x34.getD 3 0), (x34.getD 4 0), (x34.getD 5 0), (x34.getD 6 0), (x34.getD 7 0)] : List Int)[(Int.toNat v11_2)]?) (fun (x46 : Int) => some (Sum.inl ((x34.getD 0 0), (x34.getD 1 0), (x34.getD 2 0), (x34.getD 3 0), (x34.getD 4 0), (x34.getD 5 0), (x34.getD 6 0), (x34.getD 7 0), (x42.getD 0 0), (x42.getD 1 0), (x42.getD 2 0), (x42.getD 3 0), (x42.getD 4 0), (x42.getD 5 0), (x42.getD 6 0), (x42.getD 7 0), (decide ((0 : Int) < x46)), (IntKind.i64.wrap (v11_2 + 1)))))))))))))))))))))) else (some (Sum.inr (v8_s_2_2, v8_s_3_2, v8_s_4_2, v8_s_5_2, v8_s_6_2, v8_s_7_2, v8_s_8_2, v8_s_9_2, v9_s_2_2, v9_s_3_2, v9_s_4_2, v9_s_5_2, v9_s_6_2, v9_s_7_2, v9_s_8_2, v9_s_9_2, v10_2)))
def gleaninglaw31_QuantOrder_k1 (a1 : Int) (a2 : Int) (v8_s_2_1 : Int) (v8_s_3_1 : Int) (v8_s_4_1 : Int) (v8_s_5_1 : Int) (v8_s_6_1 : Int) (v8_s_7_1 : Int) (v8_s_8_1 : Int) (v8_s_9_1 : Int) (v9_s_2_1 : Int) (v9_s_3_1 : Int) (v9_s_4_1 : Int) (v9_s_5_1 : Int) (v9_s_6_1 : Int) (v9_s_7_1 : Int) (v9_s_8_1 : Int) (v9_s_9_1 : Int) (v10_1 : Bool) : Option Bool :=
  Option.bind (quant_Quantile (Counter.mk 0 0 (Arr8_Int.mk v8_s_2_1 v8_s_3_1 v8_s_4_1 v8_s_5_1 v8_s_6_1 v8_s_7_1 v8_s_8_1 v8_s_9_1)) a1) (fun (x48 : Int × Bool) => Option.bind (quant_Quantile (Counter.mk 0 0 (Arr8_Int.mk v8_s_2_1 v8_s_3_1 v8_s_4_1 v8_s_5_1 v8_s_6_1 v8_s_7_1 v8_s_8_1 v8_s_9_1)) a2) (fun (x50 : Int × Bool) => Option.bind (quant_Quantile (Counter.mk 0 0 (Arr8_Int.mk v9_s_2_1 v9_s_3_1 v9_s_4_1 v9_s_5_1 v9_s_6_1 v9_s_7_1 v9_s_8_1 v9_s_9_1)) a2) (fun (x52 : Int × Bool) => if (!v10_1) = true then (if (!x48.2) = true then (if (!x50.2) = true then (some (!x52.2)) else (some false)) else (some false)) else (if x48.2 = true then (if x50.2 = true then (if x52.2 = true then (if (decide (x48.1 ≤ x50.1)) = true then (if (decide (x52.1 ≤ x50.1)) = true then (if (decide (a2 < 1000)) = true then (Option.bind (gleaningref1_Of x50.1) (fun (x66 : Int) => gd (0 ≤ x66) (gd (x66 < 8) (Option.bind (([v8_s_2_1, v8_s_3_1, v8_s_4_1, v8_s_5_1, v8_s_6_1, v8_s_7_1, v8_s_8_1, v8_s_9_1] : List Int)[(Int.toNat x66)]?) (fun (x69 : Int) => if (decide ((0 : Int) < x69)) = true then (Option.bind (gleaningref1_Of x48.1) (fun (x71 : Int) => gd (0 ≤ x71) (gd (x71 < 8) (Option.bind (([v8_s_2_1, v8_s_3_1, v8_s_4_1, v8_s_5_1, v8_s_6_1, v8_s_7_1, v8_s_8_1, v8_s_9_1] : List Int)[(Int.toNat x71)]?) (fun (x74 : Int) => some (decide ((0 : Int) < x74))))))) else (some false)))))) else (if (x52.1 == x50.1) = true then (Option.bind (gleaningref1_Of x50.1) (fun (x76 : Int) => gd (0 ≤ x76) (gd (x76 < 8) (Option.bind (([v8_s_2_1, v8_s_3_1, v8_s_4_1, v8_s_5_1, v8_s_6_1, v8_s_7_1, v8_s_8_1, v8_s_9_1] : List Int)[(Int.toNat x76)]?) (fun (x79 : Int) => if (decide ((0 : Int) < x79)) = true then (Option.bind (gleaningref1_Of x48.1) (fun (x81 : Int) => gd (0 ≤ x81) (gd (x81 < 8) (Option.bind (([v8_s_2_1, v8_s_3_1, v8_s_4_1, v8_s_5_1, v8_s_6_1, v8_s_7_1, v8_s_8_1, v8_s_9_1] : List Int)[(Int.toNat x81)]?) (fun (x84 : Int) => some (decide ((0 : Int) < x84))))))) else (some false)))))) else (some false))) else (some false)) else (some false)) else (some false)) else (some false)) else (some false)))))
def gleaninglaw31_QuantOrder_k0 (a0 : List Int) (a1 : Int) (a2 : Int) : Option Bool :=
  Option.bind (loopN (fun (s : Int × Int × Int × Int × Int × Int × Int × Int × Int × Int × Int × Int × Int × Int × Int × Int × Bool × Int) => gleaninglaw31_QuantOrder_l2 a0 s.1 s.2.1 s.2.2.1 s.2.2.2.1 s.2.2.2.2.1 s.2.2.2.2.2.1 s.2.2.2.2.2.2.1 s.2.2.2.2.2.2.2.1 s.2.2.2.2.2.2.2.2.1 s.2.2.2.2.2.2.2.2.2.1 s.2.2.2.2.2.2.2.2.2.2.1 s.2.2.2.2.2.2.2.2.2.2.2.1 s.2.2.2.2.2.2.2.2.2.2.2.2.1 s.2.2.2.2.2.2.2.2.2.2.2.2.2.1 s.2.2.2.2.2.2.2.2.2.2.2.2.2.2.1 s.2.2.2.2.2.2.2.2.2.2.2.2.2.2.2.1 s.2.2.2.2.2.2.2.2.2.2.2.2.2.2.2.2.1 s.2.2.2.2.2.2.2.2.2.2.2.2.2.2.2.2.2) Fu (0, 0, 0, 0, 0, 0, 0, 0, 0, 0, 0, 0, 0, 0, 0, 0, false, 0)) (fun (s : Int × Int × Int × Int × Int × Int × Int × Int × Int × Int × Int × Int × Int × Int × Int × Int × Bool) => gleaninglaw31_QuantOrder_k1 a1 a2 s.1 s.2.1 s.2.2.1 s.2.2.2.1 s.2.2.2.2.1 s.2.2.2.2.2.1 s.2.2.2.2.2.2.1 s.2.2.2.2.2.2.2.1 s.2.2.2.2.2.2.2.2.1 s.2.2.2.2.2.2.2.2.2.1 s.2.2.2.2.2.2.2.2.2.2.1 s.2.2.2.2.2.2.2.2.2.2.2.1 s.2.2.2.2.2.2.2.2.2.2.2.2.1 s.2.2.2.2.2.2.2.2.2.2.2.2.2.1 s.2.2.2.2.2.2.2.2.2.2.2.2.2.2.1 s.2.2.2.2.2.2.2.2.2.2.2.2.2.2.2.1 s.2.2.2.2.2.2.2.2.2.2.2.2.2.2.2.2)
def gleaninglaw31_QuantOrder (a0 : List Int) (a1 : Int) (a2 : Int) : Option Bool :=
  Option.bind (gleaninglaw31_alive) (fun (x3 : Bool) => Option.bind (if (!x3) = true then (some (Sum.inr x3)) else (if (decide ((List.length a0 : Int) < 8)) = true then (some (Sum.inr x3)) else (if (decide (a1 < 0)) = true then (some (Sum.inr x3)) else (if (decide (a2 < a1)) = true then (some (Sum.inr x3)) else (if (decide ((1000 : Int) < a2)) = true then (some (Sum.inr x3)) else (some (Sum.inl ()))))))) (Sum.elim (fun (s : Unit) => gleaninglaw31_QuantOrder_k0 a0 a1 a2) some))
set_option maxRecDepth 100000 in
set_option maxHeartbeats 8000000 in
/-- gleaning/gleaninglaw31.QuantOrder -/
theorem gleaninglaw31_QuantOrder_ok (a0 : List Int) (a1 : Int) (a2 : Int) {r : Bool} (h : gleaninglaw31_QuantOrder a0 a1 a2 = some r) : Ok Try.prog 5 [.sl 1 (List.map enc2 a0), .int .i64 a1, .int .i64 a2] [] [] (.bool r) [] [] := by
  unfold gleaninglaw31_QuantOrder at h
  refine ok_of_code Try.func5 rfl (by show (3 : Nat) ≤ _; decide) (Nat.le_refl _) fun X => ?_
  refine aw_seq_k (fun K1 hK1 => ?_)
  refine aw_regL ?_
  refine alP (some 6) rfl rfl (does_assign (v := .bool false) (by exact rfl)) (by decide) ?_
  refine al_nil ?_
  refine hK1 _ ?_
  refine aw_seq_k (fun K2 hK2 => ?_)
  refine aw_regL ?_
  obtain ⟨x3, hx3, h⟩ := bnd_some h
  refine alD (some 18) rfl rfl (do_call0 18 false (gleaninglaw31_alive_ok hx3) rfl ent6 rfl rfl) (by decide) ?_
  refine alP (some 7) rfl rfl (does_assign (v := .bool x3) (by exact rfl)) (by decide) ?_
  refine al_nil ?_
  refine hK2 _ ?_
  obtain ⟨q4, h, hk5⟩ := bnd_some h
  refine aw_cut (fun s => gleaninglaw31_QuantOrder_k0 a0 a1 a2 = some r ∧ s = lit [(0, .sl 1 (List.map enc2 a0)), (1, .int .i64 a1), (2, .int .i64 a2)] [] [] X) ?_ ?_
  · skip
    refine aw_seq_k (fun K6 hK6 => ?_)
    refine aw_regL ?_
    refine alP (some 19) rfl rfl (does_move (v := .bool x3) (by exact rfl)) (by decide) ?_
    refine alP (some 20) rfl rfl (does_un (v := .bool (!x3)) (by conv => lhs; whnf) rfl) (by decide) ?_
    refine alP (some 21) rfl rfl (does_move (v := .bool (!x3)) (by exact rfl)) (by decide) ?_
    refine al_bool (c := (!x3)) 21 rfl (fun c7 => ?_) (fun c7 => ?_)
    · have h := ifT c7 h
      refine alS (some 22) rfl rfl (by decide) ?_
      refine alS (some 23) rfl rfl (by decide) ?_
      refine alS (some 24) rfl rfl (by decide) ?_
      refine alP (some 25) rfl rfl (does_pick (v := .bool true) (by conv => lhs; whnf) (by exact rfl)) (by decide) ?_
      refine alP (some 26) rfl rfl (does_move (v := .bool true) (by exact rfl)) (by decide) ?_
      refine alS (some 27) rfl rfl (by decide) ?_
      refine alS (some 28) rfl rfl (by decide) ?_
      refine alP (some 29) rfl rfl (does_pick (v := .bool true) (by conv => lhs; whnf) (by exact rfl)) (by decide) ?_
      refine alP (some 30) rfl rfl (does_move (v := .bool true) (by exact rfl)) (by decide) ?_
      refine alS (some 31) rfl rfl (by decide) ?_
      refine alS (some 32) rfl rfl (by decide) ?_
      refine alS (some 33) rfl rfl (by decide) ?_
      refine alP (some 34) rfl rfl (does_pick (v := .bool true) (by conv => lhs; whnf) (by exact rfl)) (by decide) ?_
      refine alP (some 35) rfl rfl (does_move (v := .bool true) (by exact rfl)) (by decide) ?_
      refine alS (some 36) rfl rfl (by decide) ?_
      refine alS (some 37) rfl rfl (by decide) ?_
      refine alP (some 38) rfl rfl (does_pick (v := .bool true) (by conv => lhs; whnf) (by exact rfl)) (by decide) ?_
      refine al_nil ?_
      refine hK6 _ ?_
      refine aw_cond_t (by decide) rfl ?_
      refine aw_seq_k (fun K8 hK8 => ?_)
      refine aw_regL ?_
      refine alP (some 39) rfl rfl (does_move (v := .bool x3) (by exact rfl)) (by decide) ?_
      refine alP (some 6) rfl rfl (does_assign (v := .bool x3) (by exact rfl)) (by decide) ?_
      refine al_nil ?_
      refine hK8 _ ?_
      refine aw_ret ?_
      have h := leafR h hk5
      obtain rfl := Option.some.inj h
      exact ret_ok1 (by conv => lhs; whnf) (by conv => lhs; whnf) (by exact rfl) (.inr rfl) rfl
    · have h := ifF c7 h
      refine alP (some 22) rfl rfl (does_move (v := .sl 1 (List.map enc2 a0)) (by exact rfl)) (by decide) ?_
      refine alP (some 23) rfl rfl ((does_len_sl (by conv => lhs; whnf) ty31).castp (v' := .int .i64 (List.length a0 : Int)) (by exact len_map _)) (by decide) ?_
      refine alP (some 24) rfl rfl (does_bin (v := .bool (decide ((List.length a0 : Int) < 8))) (by conv => lhs; whnf) (by conv => lhs; whnf) rfl) (by decide) ?_
      refine alP (some 25) rfl rfl (does_pick (v := .bool (decide ((List.length a0 : Int) < 8))) (by conv => lhs; whnf) (by exact rfl)) (by decide) ?_
      refine alP (some 26) rfl rfl (does_move (v := .bool (decide ((List.length a0 : Int) < 8))) (by exact rfl)) (by decide) ?_
      refine al_bool (c := (decide ((List.length a0 : Int) < 8))) 26 rfl (fun c9 => ?_) (fun c9 => ?_)
      · have h := ifT c9 h
        refine alS (some 27) rfl rfl (by decide) ?_
        refine alS (some 28) rfl rfl (by decide) ?_
        refine alP (some 29) rfl rfl (does_pick (v := .bool true) (by conv => lhs; whnf) (by exact rfl)) (by decide) ?_
        refine alP (some 30) rfl rfl (does_move (v := .bool true) (by exact rfl)) (by decide) ?_
        refine alS (some 31) rfl rfl (by decide) ?_
        refine alS (some 32) rfl rfl (by decide) ?_
        refine alS (some 33) rfl rfl (by decide) ?_
        refine alP (some 34) rfl rfl (does_pick (v := .bool true) (by conv => lhs; whnf) (by exact rfl)) (by decide) ?_
        refine alP (some 35) rfl rfl (does_move (v := .bool true) (by exact rfl)) (by decide) ?_
        refine alS (some 36) rfl rfl (by decide) ?_
        refine alS (some 37) rfl rfl (by decide) ?_
        refine alP (some 38) rfl rfl (does_pick (v := .bool true) (by conv => lhs; whnf) (by exact rfl)) (by decide) ?_
        refine al_nil ?_
        refine hK6 _ ?_
        refine aw_cond_t (by decide) rfl ?_
        refine aw_seq_k (fun K10 hK10 => ?_)
        refine aw_regL ?_
        refine alP (some 39) rfl rfl (does_move (v := .bool x3) (by exact rfl)) (by decide) ?_
        refine alP (some 6) rfl rfl (does_assign (v := .bool x3) (by exact rfl)) (by decide) ?_
        refine al_nil ?_
        refine hK10 _ ?_
        refine aw_ret ?_
        have h := leafR h hk5
        obtain rfl := Option.some.inj h
        exact ret_ok1 (by conv => lhs; whnf) (by conv => lhs; whnf) (by exact rfl) (.inr rfl) rfl
      · have h := ifF c9 h
        refine alP (some 27) rfl rfl (does_move (v := .int .i64 a1) (by exact rfl)) (by decide) ?_
        refine alP (some 28) rfl rfl (does_bin (v := .bool (decide (a1 < 0))) (by conv => lhs; whnf) (by conv => lhs; whnf) rfl) (by decide) ?_
        refine alP (some 29) rfl rfl (does_pick (v := .bool (decide (a1 < 0))) (by conv => lhs; whnf) (by exact rfl)) (by decide) ?_
        refine alP (some 30) rfl rfl (does_move (v := .bool (decide (a1 < 0))) (by exact rfl)) (by decide) ?_
        refine al_bool (c := (decide (a1 < 0))) 30 rfl (fun c11 => ?_) (fun c11 => ?_)
        · have h := ifT c11 h
          refine alS (some 31) rfl rfl (by decide) ?_
          refine alS (some 32) rfl rfl (by decide) ?_
          refine alS (some 33) rfl rfl (by decide) ?_
          refine alP (some 34) rfl rfl (does_pick (v := .bool true) (by conv => lhs; whnf) (by exact rfl)) (by decide) ?_
          refine alP (some 35) rfl rfl (does_move (v := .bool true) (by exact rfl)) (by decide) ?_
          refine alS (some 36) rfl rfl (by decide) ?_
          refine alS (some 37) rfl rfl (by decide) ?_
          refine alP (some 38) rfl rfl (does_pick (v := .bool true) (by conv => lhs; whnf) (by exact rfl)) (by decide) ?_
          refine al_nil ?_
          refine hK6 _ ?_
          refine aw_cond_t (by decide) rfl ?_
          refine aw_seq_k (fun K12 hK12 => ?_)
          refine aw_regL ?_
          refine alP (some 39) rfl rfl (does_move (v := .bool x3) (by exact rfl)) (by decide) ?_
          refine alP (some 6) rfl rfl (does_assign (v := .bool x3) (by exact rfl)) (by decide) ?_
          refine al_nil ?_
          refine hK12 _ ?_
          refine aw_ret ?_
          have h := leafR h hk5
          obtain rfl := Option.some.inj h
          exact ret_ok1 (by conv => lhs; whnf) (by conv => lhs; whnf) (by exact rfl) (.inr rfl) rfl
        · have h := ifF c11 h
          refine alP (some 31) rfl rfl (does_move (v := .int .i64 a1) (by exact rfl)) (by decide) ?_
          refine alP (some 32) rfl rfl (does_move (v := .int .i64 a2) (by exact rfl)) (by decide) ?_
          refine alP (some 33) rfl rfl (does_bin (v := .bool (decide (a2 < a1))) (by conv => lhs; whnf) (by conv => lhs; whnf) rfl) (by decide) ?_
          refine alP (some 34) rfl rfl (does_pick (v := .bool (decide (a2 < a1))) (by conv => lhs; whnf) (by exact rfl)) (by decide) ?_
          refine alP (some 35) rfl rfl (does_move (v := .bool (decide (a2 < a1))) (by exact rfl)) (by decide) ?_
          refine al_bool (c := (decide (a2 < a1))) 35 rfl (fun c13 => ?_) (fun c13 => ?_)
          · have h := ifT c13 h
            refine alS (some 36) rfl rfl (by decide) ?_
            refine alS (some 37) rfl rfl (by decide) ?_
            refine alP (some 38) rfl rfl (does_pick (v := .bool true) (by conv => lhs; whnf) (by exact rfl)) (by decide) ?_
            refine al_nil ?_
            refine hK6 _ ?_
            refine aw_cond_t (by decide) rfl ?_
            refine aw_seq_k (fun K14 hK14 => ?_)
            refine aw_regL ?_
            refine alP (some 39) rfl rfl (does_move (v := .bool x3) (by exact rfl)) (by decide) ?_
            refine alP (some 6) rfl rfl (does_assign (v := .bool x3) (by exact rfl)) (by decide) ?_
            refine al_nil ?_
            refine hK14 _ ?_
            refine aw_ret ?_
            have h := leafR h hk5
            obtain rfl := Option.some.inj h
            exact ret_ok1 (by conv => lhs; whnf) (by conv => lhs; whnf) (by exact rfl) (.inr rfl) rfl
          · have h := ifF c13 h
            refine alP (some 36) rfl rfl (does_move (v := .int .i64 a2) (by exact rfl)) (by decide) ?_
            refine alP (some 37) rfl rfl (does_bin (v := .bool (decide ((1000 : Int) < a2))) (by conv => lhs; whnf) (by conv => lhs; whnf) rfl) (by decide) ?_
            refine alP (some 38) rfl rfl (does_pick (v := .bool (decide ((1000 : Int) < a2))) (by conv => lhs; whnf) (by exact rfl)) (by decide) ?_
            refine al_nil ?_
            refine hK6 _ ?_
            refine aw_bool (b := (decide ((1000 : Int) < a2))) 38 rfl (fun c15 => ?_) (fun c15 => ?_)
            · have h := ifT c15 h
              refine aw_cond_t (by decide) rfl ?_
              refine aw_seq_k (fun K16 hK16 => ?_)
              refine aw_regL ?_
              refine alP (some 39) rfl rfl (does_move (v := .bool x3) (by exact rfl)) (by decide) ?_
              refine alP (some 6) rfl rfl (does_assign (v := .bool x3) (by exact rfl)) (by decide) ?_
              refine al_nil ?_
              refine hK16 _ ?_
              refine aw_ret ?_
              have h := leafR h hk5
              obtain rfl := Option.some.inj h
              exact ret_ok1 (by conv => lhs; whnf) (by conv => lhs; whnf) (by exact rfl) (.inr rfl) rfl
            · have h := ifF c15 h
              refine aw_cond_f (by decide) rfl ?_
              refine aw_skip ?_
              have h := leafL h hk5
              exact ⟨_, reb_lit [(0, .sl 1 (List.map enc2 a0)), (1, .int .i64 a1), (2, .int .i64 a2)] [] [] [] (envOk_cons (by conv => lhs; whnf) (by exact rfl) (envOk_cons (by conv => lhs; whnf) (by exact rfl) (envOk_cons (by conv => lhs; whnf) (by exact rfl) envOk_nil))) objOk_nil (nodup_b rfl) (nodup_b rfl) rfl rfl, h, rfl⟩
  · rintro s ⟨h, rfl⟩
    unfold gleaninglaw31_QuantOrder_k0 at h
    refine aw_seq_k (fun K17 hK17 => ?_)
    refine aw_regL ?_
    refine alD (some 8) rfl rfl (do_new ty24 rfl rfl) (by decide) ?_
    refine alD (some 9) rfl rfl (do_new ty24 rfl rfl) (by decide) ?_
    refine al_nil ?_
    refine hK17 _ ?_
    refine aw_seq_k (fun K18 hK18 => ?_)
    refine aw_regL ?_
    refine alP (some 10) rfl rfl (does_assign (v := .bool false) (by exact rfl)) (by decide) ?_
    refine al_nil ?_
    refine hK18 _ ?_
    obtain ⟨q19, h, hk20⟩ := bnd_some h
    refine aw_cut (fun s => ∃ (v8_s_2_1 : Int), ∃ (v8_s_3_1 : Int), ∃ (v8_s_4_1 : Int), ∃ (v8_s_5_1 : Int), ∃ (v8_s_6_1 : Int), ∃ (v8_s_7_1 : Int), ∃ (v8_s_8_1 : Int), ∃ (v8_s_9_1 : Int), ∃ (v9_s_2_1 : Int), ∃ (v9_s_3_1 : Int), ∃ (v9_s_4_1 : Int), ∃ (v9_s_5_1 : Int), ∃ (v9_s_6_1 : Int), ∃ (v9_s_7_1 : Int), ∃ (v9_s_8_1 : Int), ∃ (v9_s_9_1 : Int), ∃ (v10_1 : Bool), gleaninglaw31_QuantOrder_k1 a1 a2 v8_s_2_1 v8_s_3_1 v8_s_4_1 v8_s_5_1 v8_s_6_1 v8_s_7_1 v8_s_8_1 v8_s_9_1 v9_s_2_1 v9_s_3_1 v9_s_4_1 v9_s_5_1 v9_s_6_1 v9_s_7_1 v9_s_8_1 v9_s_9_1 v10_1 = some r ∧ s = lit [(1, .int .i64 a1), (2, .int .i64 a2), (8, .ptr 8 0 0), (9, .ptr 9 0 0), (10, .bool v10_1)] [((8, 0), .box [.int .i64 0, .int .i64 0, .int .i64 v8_s_2_1, .int .i64 v8_s_3_1, .int .i64 v8_s_4_1, .int .i64 v8_s_5_1, .int .i64 v8_s_6_1, .int .i64 v8_s_7_1, .int .i64 v8_s_8_1, .int .i64 v8_s_9_1]), ((9, 0), .box [.int .i64 0, .int .i64 0, .int .i64 v9_s_2_1, .int .i64 v9_s_3_1, .int .i64 v9_s_4_1, .int .i64 v9_s_5_1, .int .i64 v9_s_6_1, .int .i64 v9_s_7_1, .int .i64 v9_s_8_1, .int .i64 v9_s_9_1])] [(8, 1), (9, 1)] X) ?_ ?_
    · skip
      refine aw_seq_k (fun K21 hK21 => ?_)
      refine aw_regL ?_
      refine alP (some 11) rfl rfl (does_assign (v := .int .i64 0) (by exact rfl)) (by decide) ?_
      refine al_nil ?_
      refine hK21 _ ?_
      refine aw_block ?_
      refine aw_loop' (fun m s => ∃ (v8_s_2_2 : Int), ∃ (v8_s_3_2 : Int), ∃ (v8_s_4_2 : Int), ∃ (v8_s_5_2 : Int), ∃ (v8_s_6_2 : Int), ∃ (v8_s_7_2 : Int), ∃ (v8_s_8_2 : Int), ∃ (v8_s_9_2 : Int), ∃ (v9_s_2_2 : Int), ∃ (v9_s_3_2 : Int), ∃ (v9_s_4_2 : Int), ∃ (v9_s_5_2 : Int), ∃ (v9_s_6_2 : Int), ∃ (v9_s_7_2 : Int), ∃ (v9_s_8_2 : Int), ∃ (v9_s_9_2 : Int), ∃ (v10_2 : Bool), ∃ (v11_2 : Int), loopN (fun (s : Int × Int × Int × Int × Int × Int × Int × Int × Int × Int × Int × Int × Int × Int × Int × Int × Bool × Int) => gleaninglaw31_QuantOrder_l2 a0 s.1 s.2.1 s.2.2.1 s.2.2.2.1 s.2.2.2.2.1 s.2.2.2.2.2.1 s.2.2.2.2.2.2.1 s.2.2.2.2.2.2.2.1 s.2.2.2.2.2.2.2.2.1 s.2.2.2.2.2.2.2.2.2.1 s.2.2.2.2.2.2.2.2.2.2.1 s.2.2.2.2.2.2.2.2.2.2.2.1 s.2.2.2.2.2.2.2.2.2.2.2.2.1 s.2.2.2.2.2.2.2.2.2.2.2.2.2.1 s.2.2.2.2.2.2.2.2.2.2.2.2.2.2.1 s.2.2.2.2.2.2.2.2.2.2.2.2.2.2.2.1 s.2.2.2.2.2.2.2.2.2.2.2.2.2.2.2.2.1 s.2.2.2.2.2.2.2.2.2.2.2.2.2.2.2.2.2) m (v8_s_2_2, v8_s_3_2, v8_s_4_2, v8_s_5_2, v8_s_6_2, v8_s_7_2, v8_s_8_2, v8_s_9_2, v9_s_2_2, v9_s_3_2, v9_s_4_2, v9_s_5_2, v9_s_6_2, v9_s_7_2, v9_s_8_2, v9_s_9_2, v10_2, v11_2) = some q19 ∧ s = lit [(0, .sl 1 (List.map enc2 a0)), (1, .int .i64 a1), (2, .int .i64 a2), (8, .ptr 8 0 0), (9, .ptr 9 0 0), (10, .bool v10_2), (11, .int .i64 v11_2)] [((8, 0), .box [.int .i64 0, .int .i64 0, .int .i64 v8_s_2_2, .int .i64 v8_s_3_2, .int .i64 v8_s_4_2, .int .i64 v8_s_5_2, .int .i64 v8_s_6_2, .int .i64 v8_s_7_2, .int .i64 v8_s_8_2, .int .i64 v8_s_9_2]), ((9, 0), .box [.int .i64 0, .int .i64 0, .int .i64 v9_s_2_2, .int .i64 v9_s_3_2, .int .i64 v9_s_4_2, .int .i64 v9_s_5_2, .int .i64 v9_s_6_2, .int .i64 v9_s_7_2, .int .i64 v9_s_8_2, .int .i64 v9_s_9_2])] [(8, 1), (9, 1)] X) Fu
        ⟨_, reb_lit [(0, .sl 1 (List.map enc2 a0)), (1, .int .i64 a1), (2, .int .i64 a2), (8, .ptr 8 0 0), (9, .ptr 9 0 0), (10, .bool false), (11, .int .i64 (0))] [(8, 0), (9, 0)] [((8, 0), .box [.int .i64 0, .int .i64 0, .int .i64 (0), .int .i64 (0), .int .i64 (0), .int .i64 (0), .int .i64 (0), .int .i64 (0), .int .i64 (0), .int .i64 (0)]), ((9, 0), .box [.int .i64 0, .int .i64 0, .int .i64 (0), .int .i64 (0), .int .i64 (0), .int .i64 (0), .int .i64 (0), .int .i64 (0), .int .i64 (0), .int .i64 (0)])] [(8, 1), (9, 1)] (envOk_cons (by conv => lhs; whnf) (by exact rfl) (envOk_cons (by conv => lhs; whnf) (by exact rfl) (envOk_cons (by conv => lhs; whnf) (by exact rfl) (envOk_cons (by conv => lhs; whnf) (by exact rfl) (envOk_cons (by conv => lhs; whnf) (by exact rfl) (envOk_cons (by conv => lhs; whnf) (by exact rfl) (envOk_cons (by conv => lhs; whnf) (by exact rfl) envOk_nil))))))) (objOk_cons (by conv => lhs; whnf) (by conv => lhs; whnf) (by exact rfl) (by simp) (objOk_cons (by conv => lhs; whnf) (by conv => lhs; whnf) (by exact rfl) (by simp) objOk_nil)) (nodup_b rfl) (nodup_b rfl) rfl rfl, 0, 0, 0, 0, 0, 0, 0, 0, 0, 0, 0, 0, 0, 0, 0, 0, false, 0, h, rfl⟩ ?_
      rintro m s ⟨v8_s_2_2, v8_s_3_2, v8_s_4_2, v8_s_5_2, v8_s_6_2, v8_s_7_2, v8_s_8_2, v8_s_9_2, v9_s_2_2, v9_s_3_2, v9_s_4_2, v9_s_5_2, v9_s_6_2, v9_s_7_2, v9_s_8_2, v9_s_9_2, v10_2, v11_2, h, rfl⟩
      obtain ⟨m2, q22, rfl, h, hq23⟩ := loop_some h
      replace h : gleaninglaw31_QuantOrder_l2 a0 v8_s_2_2 v8_s_3_2 v8_s_4_2 v8_s_5_2 v8_s_6_2 v8_s_7_2 v8_s_8_2 v8_s_9_2 v9_s_2_2 v9_s_3_2 v9_s_4_2 v9_s_5_2 v9_s_6_2 v9_s_7_2 v9_s_8_2 v9_s_9_2 v10_2 v11_2 = some q22 := h
      unfold gleaninglaw31_QuantOrder_l2 at h
      refine aw_seq_k (fun K24 hK24 => ?_)
      refine aw_seq_k (fun K25 hK25 => ?_)
      refine aw_regL ?_
      refine alP (some 40) rfl rfl (does_move (v := .int .i64 v11_2) (by exact rfl)) (by decide) ?_
      refine alP (some 41) rfl rfl (does_bin (v := .bool (decide (v11_2 < 8))) (by conv => lhs; whnf) (by conv => lhs; whnf) rfl) (by decide) ?_
      refine al_nil ?_
      refine hK25 _ ?_
      refine aw_bool (b := (decide (v11_2 < 8))) 41 rfl (fun c26 => ?_) (fun c26 => ?_)
      · have h := ifT c26 h
        refine aw_cond_t (by decide) rfl ?_
        refine aw_skip ?_
        refine hK24 _ ?_
        refine aw_seq_k (fun K27 hK27 => ?_)
        refine aw_block ?_
        refine aw_seq_k (fun K28 hK28 => ?_)
        refine aw_regL ?_
        refine alP (some 44) rfl rfl (does_move (v := .int .i64 v11_2) (by exact rfl)) (by decide) ?_
        refine alP (some 45) rfl rfl (does_move (v := .sl 1 (List.map enc2 a0)) (by exact rfl)) (by decide) ?_
        refine alP (some 46) rfl rfl (does_move (v := .int .i64 v11_2) (by exact rfl)) (by decide) ?_
        obtain ⟨g29, h⟩ := gd_some h
        obtain ⟨x30, hx30, h⟩ := bnd_some h
        refine alP (some 47) rfl rfl (does_indexAddr_sl (el := .int .i64 x30) (by conv => lhs; whnf) (by conv => lhs; whnf) ty31 ty3 g29 (by exact map_get hx30)) (by decide) ?_
        refine alR (some 48) rfl rfl (does_load (v := .int .i64 x30) (by conv => lhs; whnf) (by conv => lhs; whnf) ty3 (by exact rfl)) (by decide) ?_
        refine alP (some 49) rfl rfl (does_bin (v := .int .i64 (bits .and .i64 x30 65535)) (by conv => lhs; whnf) (by conv => lhs; whnf) rfl) (by decide) ?_
        refine alP (some 50) rfl rfl (does_fieldAddr (q := .ptr 8 0 2) (by conv => lhs; whnf) ty24 rfl ty22 (by decide) (by exact rfl)) (by decide) ?_
        obtain ⟨g31, h⟩ := gd_some h
        obtain ⟨g32, h⟩ := gd_some h
        obtain ⟨x33, hx33, h⟩ := bnd_some h
        refine alP (some 51) rfl rfl (does_indexAddr_arr (q := .ptr 8 0 (2 + (Int.toNat v11_2) * 1)) (by conv => lhs; whnf) (by conv => lhs; whnf) ty22 ty3 g31 g32 rfl) (by decide) ?_
        obtain ⟨x34, hx34, h⟩ := bnd_some h
        refine alD none rfl rfl (do_storeY (cs := [.int .i64 0, .int .i64 0, .int .i64 v8_s_2_2, .int .i64 v8_s_3_2, .int .i64 v8_s_4_2, .int .i64 v8_s_5_2, .int .i64 v8_s_6_2, .int .i64 v8_s_7_2, .int .i64 v8_s_8_2, .int .i64 v8_s_9_2]) (off := 2) (ln := 8) (f := enc2) (l := [v8_s_2_2, v8_s_3_2, v8_s_4_2, v8_s_5_2, v8_s_6_2, v8_s_7_2, v8_s_8_2, v8_s_9_2]) (i := (Int.toNat v11_2)) (a := (bits .and .i64 x30 65535)) (z := 0) (pre := [.int .i64 0, .int .i64 0]) (post := []) (cs' := [.int .i64 0, .int .i64 0, .int .i64 (x34.getD 0 0), .int .i64 (x34.getD 1 0), .int .i64 (x34.getD 2 0), .int .i64 (x34.getD 3 0), .int .i64 (x34.getD 4 0), .int .i64 (x34.getD 5 0), .int .i64 (x34.getD 6 0), .int .i64 (x34.getD 7 0)]) (by conv => lhs; whnf) (by exact rfl) (by conv => lhs; whnf) ty3 rfl rfl rfl rfl hx33 hx34 ⟨rfl, rfl, rfl⟩) (by decide) ?_
        refine al_nil ?_
        refine hK28 _ ?_
        refine aw_seq_k (fun K35 hK35 => ?_)
        refine aw_regL ?_
        refine alP (some 52) rfl rfl (does_move (v := .int .i64 v11_2) (by exact rfl)) (by decide) ?_
        refine alP (some 53) rfl rfl (does_move (v := .int .i64 v11_2) (by exact rfl)) (by decide) ?_
        refine alP (some 54) rfl rfl (does_fieldAddr (q := .ptr 8 0 2) (by conv => lhs; whnf) ty24 rfl ty22 (by decide) (by exact rfl)) (by decide) ?_
        obtain ⟨g36, h⟩ := gd_some h
        obtain ⟨g37, h⟩ := gd_some h
        obtain ⟨x38, hx38, h⟩ := bnd_some h
        refine alP (some 55) rfl rfl (does_indexAddr_arr (q := .ptr 8 0 (2 + (Int.toNat v11_2) * 1)) (by conv => lhs; whnf) (by conv => lhs; whnf) ty22 ty3 g36 g37 rfl) (by decide) ?_
        refine alR (some 56) rfl rfl (does_load (v := .int .i64 x38) (by conv => lhs; whnf) (cellsAt_box (by exact rfl)) ty3 (loadPV_arr (off := 2) (f := enc2) (l := [(x34.getD 0 0), (x34.getD 1 0), (x34.getD 2 0), (x34.getD 3 0), (x34.getD 4 0), (x34.getD 5 0), (x34.getD 6 0), (x34.getD 7 0)]) (pre := [.int .i64 0, .int .i64 0]) (post := []) (i := (Int.toNat v11_2)) rfl rfl hx38)) (by decide) ?_
        refine alP (some 57) rfl rfl (does_bin (v := .int .i64 (IntKind.i64.wrap (2 * x38))) (by conv => lhs; whnf) (by conv => lhs; whnf) rfl) (by decide) ?_
        refine alP (some 58) rfl rfl (does_fieldAddr (q := .ptr 9 0 2) (by conv => lhs; whnf) ty24 rfl ty22 (by decide) (by exact rfl)) (by decide) ?_
        obtain ⟨g39, h⟩ := gd_some h
        obtain ⟨g40, h⟩ := gd_some h
        obtain ⟨x41, hx41, h⟩ := bnd_some h
        refine alP (some 59) rfl rfl (does_indexAddr_arr (q := .ptr 9 0 (2 + (Int.toNat v11_2) * 1)) (by conv => lhs; whnf) (by conv => lhs; whnf) ty22 ty3 g39 g40 rfl) (by decide) ?_
        obtain ⟨x42, hx42, h⟩ := bnd_some h
        refine alD none rfl rfl (do_storeY (cs := [.int .i64 0, .int .i64 0, .int .i64 v9_s_2_2, .int .i64 v9_s_3_2, .int .i64 v9_s_4_2, .int .i64 v9_s_5_2, .int .i64 v9_s_6_2, .int .i64 v9_s_7_2, .int .i64 v9_s_8_2, .int .i64 v9_s_9_2]) (off := 2) (ln := 8) (f := enc2) (l := [v9_s_2_2, v9_s_3_2, v9_s_4_2, v9_s_5_2, v9_s_6_2, v9_s_7_2, v9_s_8_2, v9_s_9_2]) (i := (Int.toNat v11_2)) (a := (IntKind.i64.wrap (2 * x38))) (z := 0) (pre := [.int .i64 0, .int .i64 0]) (post := []) (cs' := [.int .i64 0, .int .i64 0, .int .i64 (x42.getD 0 0), .int .i64 (x42.getD 1 0), .int .i64 (x42.getD 2 0), .int .i64 (x42.getD 3 0), .int .i64 (x42.getD 4 0), .int .i64 (x42.getD 5 0), .int .i64 (x42.getD 6 0), .int .i64 (x42.getD 7 0)]) (by conv => lhs; whnf) (by exact rfl) (by conv => lhs; whnf) ty3 rfl rfl rfl rfl hx41 hx42 ⟨rfl, rfl, rfl⟩) (by decide) ?_
        refine al_nil ?_
        refine hK35 _ ?_
        refine aw_regL ?_
        refine alP (some 60) rfl rfl (does_move (v := .bool v10_2) (by exact rfl)) (by decide) ?_
        refine alP (some 61) rfl rfl (does_move (v := .bool v10_2) (by exact rfl)) (by decide) ?_
        refine al_bool (c := v10_2) 61 rfl (fun c43 => ?_) (fun c43 => ?_)
        · have h := ifT c43 h
          refine alS (some 62) rfl rfl (by decide) ?_
          refine alS (some 63) rfl rfl (by decide) ?_
          refine alS (some 64) rfl rfl (by decide) ?_
          refine alS (some 65) rfl rfl (by decide) ?_
          refine alS (some 66) rfl rfl (by decide) ?_
          refine alP (some 67) rfl rfl (does_pick (v := .bool true) (by conv => lhs; whnf) (by exact rfl)) (by decide) ?_
          refine alP (some 10) rfl rfl (does_assign (v := .bool true) (by exact rfl)) (by decide) ?_
          refine al_nil ?_
          refine hK27 _ ?_
          refine aw_regL ?_
          refine alP (some 42) rfl rfl (does_move (v := .int .i64 v11_2) (by exact rfl)) (by decide) ?_
          refine alP (some 43) rfl rfl (does_bin (v := .int .i64 (IntKind.i64.wrap (v11_2 + 1))) (by conv => lhs; whnf) (by conv => lhs; whnf) rfl) (by decide) ?_
          refine alP (some 11) rfl rfl (does_assign (v := .int .i64 (IntKind.i64.wrap (v11_2 + 1))) (by exact rfl)) (by decide) ?_
          refine al_nil ?_
          have h := leafL h hq23
          exact ⟨m2, Nat.lt_succ_self _, _, reb_lit [(0, .sl 1 (List.map enc2 a0)), (1, .int .i64 a1), (2, .int .i64 a2), (8, .ptr 8 0 0), (9, .ptr 9 0 0), (10, .bool true), (11, .int .i64 (IntKind.i64.wrap (v11_2 + 1)))] [(8, 0), (9, 0)] [((8, 0), .box [.int .i64 0, .int .i64 0, .int .i64 (x34.getD 0 0), .int .i64 (x34.getD 1 0), .int .i64 (x34.getD 2 0), .int .i64 (x34.getD 3 0), .int .i64 (x34.getD 4 0), .int .i64 (x34.getD 5 0), .int .i64 (x34.getD 6 0), .int .i64 (x34.getD 7 0)]), ((9, 0), .box [.int .i64 0, .int .i64 0, .int .i64 (x42.getD 0 0), .int .i64 (x42.getD 1 0), .int .i64 (x42.getD 2 0), .int .i64 (x42.getD 3 0), .int .i64 (x42.getD 4 0), .int .i64 (x42.getD 5 0), .int .i64 (x42.getD 6 0), .int .i64 (x42.getD 7 0)])] [(8, 1), (9, 1)] (envOk_cons (by conv => lhs; whnf) (by exact rfl) (envOk_cons (by conv => lhs; whnf) (by exact rfl) (envOk_cons (by conv => lhs; whnf) (by exact rfl) (envOk_cons (by conv => lhs; whnf) (by exact rfl) (envOk_cons (by conv => lhs; whnf) (by exact rfl) (envOk_cons (by conv => lhs; whnf) (by exact rfl) (envOk_cons (by conv => lhs; whnf) (by exact rfl) envOk_nil))))))) (objOk_cons (by conv => lhs; whnf) (by conv => lhs; whnf) (by exact rfl) (by simp) (objOk_cons (by conv => lhs; whnf) (by conv => lhs; whnf) (by exact rfl) (by simp) objOk_nil)) (nodup_b rfl) (nodup_b rfl) rfl rfl, (x34.getD 0 0), (x34.getD 1 0), (x34.getD 2 0), (x34.getD 3 0), (x34.getD 4 0), (x34.getD 5 0), (x34.getD 6 0), (x34.getD 7 0), (x42.getD 0 0), (x42.getD 1 0), (x42.getD 2 0), (x42.getD 3 0), (x42.getD 4 0), (x42.getD 5 0), (x42.getD 6 0), (x42.getD 7 0), true, (IntKind.i64.wrap (v11_2 + 1)), h, rfl⟩
        · have h := ifF c43 h
          refine alP (some 62) rfl rfl (does_move (v := .int .i64 v11_2) (by exact rfl)) (by decide) ?_
          refine alP (some 63) rfl rfl (does_fieldAddr (q := .ptr 8 0 2) (by conv => lhs; whnf) ty24 rfl ty22 (by decide) (by exact rfl)) (by decide) ?_
          obtain ⟨g44, h⟩ := gd_some h
          obtain ⟨g45, h⟩ := gd_some h
          obtain ⟨x46, hx46, h⟩ := bnd_some h
          refine alP (some 64) rfl rfl (does_indexAddr_arr (q := .ptr 8 0 (2 + (Int.toNat v11_2) * 1)) (by conv => lhs; whnf) (by conv => lhs; whnf) ty22 ty3 g44 g45 rfl) (by decide) ?_
          refine alR (some 65) rfl rfl (does_load (v := .int .i64 x46) (by conv => lhs; whnf) (cellsAt_box (by exact rfl)) ty3 (loadPV_arr (off := 2) (f := enc2) (l := [(x34.getD 0 0), (x34.getD 1 0), (x34.getD 2 0), (x34.getD 3 0), (x34.getD 4 0), (x34.getD 5 0), (x34.getD 6 0), (x34.getD 7 0)]) (pre := [.int .i64 0, .int .i64 0]) (post := []) (i := (Int.toNat v11_2)) rfl rfl hx46)) (by decide) ?_
          refine alP (some 66) rfl rfl (does_bin (v := .bool (decide ((0 : Int) < x46))) (by conv => lhs; whnf) (by conv => lhs; whnf) rfl) (by decide) ?_
          refine alP (some 67) rfl rfl (does_pick (v := .bool (decide ((0 : Int) < x46))) (by conv => lhs; whnf) (by exact rfl)) (by decide) ?_
          refine alP (some 10) rfl rfl (does_assign (v := .bool (decide ((0 : Int) < x46))) (by exact rfl)) (by decide) ?_
          refine al_nil ?_
          refine hK27 _ ?_
          refine aw_regL ?_
          refine alP (some 42) rfl rfl (does_move (v := .int .i64 v11_2) (by exact rfl)) (by decide) ?_
          refine alP (some 43) rfl rfl (does_bin (v := .int .i64 (IntKind.i64.wrap (v11_2 + 1))) (by conv => lhs; whnf) (by conv => lhs; whnf) rfl) (by decide) ?_
          refine alP (some 11) rfl rfl (does_assign (v := .int .i64 (IntKind.i64.wrap (v11_2 + 1))) (by exact rfl)) (by decide) ?_
          refine al_nil ?_
          have h := leafL h hq23
          exact ⟨m2, Nat.lt_succ_self _, _, reb_lit [(0, .sl 1 (List.map enc2 a0)), (1, .int .i64 a1), (2, .int .i64 a2), (8, .ptr 8 0 0), (9, .ptr 9 0 0), (10, .bool (decide ((0 : Int) < x46))), (11, .int .i64 (IntKind.i64.wrap (v11_2 + 1)))] [(8, 0), (9, 0)] [((8, 0), .box [.int .i64 0, .int .i64 0, .int .i64 (x34.getD 0 0), .int .i64 (x34.getD 1 0), .int .i64 (x34.getD 2 0), .int .i64 (x34.getD 3 0), .int .i64 (x34.getD 4 0), .int .i64 (x34.getD 5 0), .int .i64 (x34.getD 6 0), .int .i64 (x34.getD 7 0)]), ((9, 0), .box [.int .i64 0, .int .i64 0, .int .i64 (x42.getD 0 0), .int .i64 (x42.getD 1 0), .int .i64 (x42.getD 2 0), .int .i64 (x42.getD 3 0), .int .i64 (x42.getD 4 0), .int .i64 (x42.getD 5 0), .int .i64 (x42.getD 6 0), .int .i64 (x42.getD 7 0)])] [(8, 1), (9, 1)] (envOk_cons (by conv => lhs; whnf) (by exact rfl) (envOk_cons (by conv => lhs; whnf) (by exact rfl) (envOk_cons (by conv => lhs; whnf) (by exact rfl) (envOk_cons (by conv => lhs; whnf) (by exact rfl) (envOk_cons (by conv => lhs; whnf) (by exact rfl) (envOk_cons (by conv => lhs; whnf) (by exact rfl) (envOk_cons (by conv => lhs; whnf) (by exact rfl) envOk_nil))))))) (objOk_cons (by conv => lhs; whnf) (by conv => lhs; whnf) (by exact rfl) (by simp) (objOk_cons (by conv => lhs; whnf) (by conv => lhs; whnf) (by exact rfl) (by simp) objOk_nil)) (nodup_b rfl) (nodup_b rfl) rfl rfl, (x34.getD 0 0), (x34.getD 1 0), (x34.getD 2 0), (x34.getD 3 0), (x34.getD 4 0), (x34.getD 5 0), (x34.getD 6 0), (x34.getD 7 0), (x42.getD 0 0), (x42.getD 1 0), (x42.getD 2 0), (x42.getD 3 0), (x42.getD 4 0), (x42.getD 5 0), (x42.getD 6 0), (x42.getD 7 0), (decide ((0 : Int) < x46)), (IntKind.i64.wrap (v11_2 + 1)), h, rfl⟩
      · have h := ifF c26 h
        refine aw_cond_f (by decide) rfl ?_
        refine aw_exit ?_
        have h := leafR h hq23
        obtain rfl := Option.some.inj h
        have h := hk20
        exact ⟨_, reb_lit [(1, .int .i64 a1), (2, .int .i64 a2), (8, .ptr 8 0 0), (9, .ptr 9 0 0), (10, .bool v10_2)] [(8, 0), (9, 0)] [((8, 0), .box [.int .i64 0, .int .i64 0, .int .i64 v8_s_2_2, .int .i64 v8_s_3_2, .int .i64 v8_s_4_2, .int .i64 v8_s_5_2, .int .i64 v8_s_6_2, .int .i64 v8_s_7_2, .int .i64 v8_s_8_2, .int .i64 v8_s_9_2]), ((9, 0), .box [.int .i64 0, .int .i64 0, .int .i64 v9_s_2_2, .int .i64 v9_s_3_2, .int .i64 v9_s_4_2, .int .i64 v9_s_5_2, .int .i64 v9_s_6_2, .int .i64 v9_s_7_2, .int .i64 v9_s_8_2, .int .i64 v9_s_9_2])] [(8, 1), (9, 1)] (envOk_cons (by conv => lhs; whnf) (by exact rfl) (envOk_cons (by conv => lhs; whnf) (by exact rfl) (envOk_cons (by conv => lhs; whnf) (by exact rfl) (envOk_cons (by conv => lhs; whnf) (by exact rfl) (envOk_cons (by conv => lhs; whnf) (by exact rfl) envOk_nil))))) (objOk_cons (by conv => lhs; whnf) (by conv => lhs; whnf) (by exact rfl) (by simp) (objOk_cons (by conv => lhs; whnf) (by conv => lhs; whnf) (by exact rfl) (by simp) objOk_nil)) (nodup_b rfl) (nodup_b rfl) rfl rfl, v8_s_2_2, v8_s_3_2, v8_s_4_2, v8_s_5_2, v8_s_6_2, v8_s_7_2, v8_s_8_2, v8_s_9_2, v9_s_2_2, v9_s_3_2, v9_s_4_2, v9_s_5_2, v9_s_6_2, v9_s_7_2, v9_s_8_2, v9_s_9_2, v10_2, h, rfl⟩
    · rintro s ⟨v8_s_2_1, v8_s_3_1, v8_s_4_1, v8_s_5_1, v8_s_6_1, v8_s_7_1, v8_s_8_1, v8_s_9_1, v9_s_2_1, v9_s_3_1, v9_s_4_1, v9_s_5_1, v9_s_6_1, v9_s_7_1, v9_s_8_1, v9_s_9_1, v10_1, h, rfl⟩
      unfold gleaninglaw31_QuantOrder_k1 at h
      refine aw_seq_k (fun K47 hK47 => ?_)
      refine aw_regL ?_
      refine alR (some 69) rfl rfl (does_load (v := .agg [.int .i64 0, .int .i64 0, .int .i64 v8_s_2_1, .int .i64 v8_s_3_1, .int .i64 v8_s_4_1, .int .i64 v8_s_5_1, .int .i64 v8_s_6_1, .int .i64 v8_s_7_1, .int .i64 v8_s_8_1, .int .i64 v8_s_9_1]) (by conv => lhs; whnf) (by conv => lhs; whnf) ty24 (by exact rfl)) (by decide) ?_
      refine alP (some 70) rfl rfl (does_move (v := .int .i64 a1) (by exact rfl)) (by decide) ?_
      obtain ⟨x48, hx48, h⟩ := bnd_some h
      refine alD (some 71) rfl rfl (do_call0 71 false (quant_Quantile_ok (Counter.mk 0 0 (Arr8_Int.mk v8_s_2_1 v8_s_3_1 v8_s_4_1 v8_s_5_1 v8_s_6_1 v8_s_7_1 v8_s_8_1 v8_s_9_1)) a1 hx48) rfl ent7 rfl rfl) (by decide) ?_
      refine alP (some 68) rfl rfl (does_move (v := .tup [.int .i64 x48.1, .bool x48.2]) (by exact rfl)) (by decide) ?_
      refine alP (some 72) rfl rfl (does_extract (v := .int .i64 x48.1) (by conv => lhs; whnf) (by exact rfl)) (by decide) ?_
      refine alP (some 73) rfl rfl (does_extract (v := .bool x48.2) (by conv => lhs; whnf) (by exact rfl)) (by decide) ?_
      refine alP (some 12) rfl rfl (does_assign (v := .int .i64 x48.1) (by exact rfl)) (by decide) ?_
      refine alP (some 13) rfl rfl (does_assign (v := .bool x48.2) (by exact rfl)) (by decide) ?_
      refine al_nil ?_
      refine hK47 _ ?_
      refine aw_seq_k (fun K49 hK49 => ?_)
      refine aw_regL ?_
      refine alR (some 75) rfl rfl (does_load (v := .agg [.int .i64 0, .int .i64 0, .int .i64 v8_s_2_1, .int .i64 v8_s_3_1, .int .i64 v8_s_4_1, .int .i64 v8_s_5_1, .int .i64 v8_s_6_1, .int .i64 v8_s_7_1, .int .i64 v8_s_8_1, .int .i64 v8_s_9_1]) (by conv => lhs; whnf) (by conv => lhs; whnf) ty24 (by exact rfl)) (by decide) ?_
      refine alP (some 76) rfl rfl (does_move (v := .int .i64 a2) (by exact rfl)) (by decide) ?_
      obtain ⟨x50, hx50, h⟩ := bnd_some h
      refine alD (some 77) rfl rfl (do_call0 77 false (quant_Quantile_ok (Counter.mk 0 0 (Arr8_Int.mk v8_s_2_1 v8_s_3_1 v8_s_4_1 v8_s_5_1 v8_s_6_1 v8_s_7_1 v8_s_8_1 v8_s_9_1)) a2 hx50) rfl ent7 rfl rfl) (by decide) ?_
      refine alP (some 74) rfl rfl (does_move (v := .tup [.int .i64 x50.1, .bool x50.2]) (by exact rfl)) (by decide) ?_
      refine alP (some 78) rfl rfl (does_extract (v := .int .i64 x50.1) (by conv => lhs; whnf) (by exact rfl)) (by decide) ?_
      refine alP (some 79) rfl rfl (does_extract (v := .bool x50.2) (by conv => lhs; whnf) (by exact rfl)) (by decide) ?_
      refine alP (some 14) rfl rfl (does_assign (v := .int .i64 x50.1) (by exact rfl)) (by decide) ?_
      refine alP (some 15) rfl rfl (does_assign (v := .bool x50.2) (by exact rfl)) (by decide) ?_
      refine al_nil ?_
      refine hK49 _ ?_
      refine aw_seq_k (fun K51 hK51 => ?_)
      refine aw_regL ?_
      refine alR (some 81) rfl rfl (does_load (v := .agg [.int .i64 0, .int .i64 0, .int .i64 v9_s_2_1, .int .i64 v9_s_3_1, .int .i64 v9_s_4_1, .int .i64 v9_s_5_1, .int .i64 v9_s_6_1, .int .i64 v9_s_7_1, .int .i64 v9_s_8_1, .int .i64 v9_s_9_1]) (by conv => lhs; whnf) (by conv => lhs; whnf) ty24 (by exact rfl)) (by decide) ?_
      refine alP (some 82) rfl rfl (does_move (v := .int .i64 a2) (by exact rfl)) (by decide) ?_
      obtain ⟨x52, hx52, h⟩ := bnd_some h
      refine alD (some 83) rfl rfl (do_call0 83 false (quant_Quantile_ok (Counter.mk 0 0 (Arr8_Int.mk v9_s_2_1 v9_s_3_1 v9_s_4_1 v9_s_5_1 v9_s_6_1 v9_s_7_1 v9_s_8_1 v9_s_9_1)) a2 hx52) rfl ent7 rfl rfl) (by decide) ?_
      refine alP (some 80) rfl rfl (does_move (v := .tup [.int .i64 x52.1, .bool x52.2]) (by exact rfl)) (by decide) ?_
      refine alP (some 84) rfl rfl (does_extract (v := .int .i64 x52.1) (by conv => lhs; whnf) (by exact rfl)) (by decide) ?_
      refine alP (some 85) rfl rfl (does_extract (v := .bool x52.2) (by conv => lhs; whnf) (by exact rfl)) (by decide) ?_
      refine alP (some 16) rfl rfl (does_assign (v := .int .i64 x52.1) (by exact rfl)) (by decide) ?_
      refine alP (some 17) rfl rfl (does_assign (v := .bool x52.2) (by exact rfl)) (by decide) ?_
      refine al_nil ?_
      refine hK51 _ ?_
      refine aw_seq_k (fun K53 hK53 => ?_)
      refine aw_seq_k (fun K54 hK54 => ?_)
      refine aw_regL ?_
      refine alP (some 86) rfl rfl (does_move (v := .bool v10_1) (by exact rfl)) (by decide) ?_
      refine alP (some 87) rfl rfl (does_un (v := .bool (!v10_1)) (by conv => lhs; whnf) rfl) (by decide) ?_
      refine al_nil ?_
      refine hK54 _ ?_
      refine aw_bool (b := (!v10_1)) 87 rfl (fun c55 => ?_) (fun c55 => ?_)
      · have h := ifT c55 h
        refine aw_cond_t (by decide) rfl ?_
        refine aw_seq_k (fun K56 hK56 => ?_)
        refine aw_regL ?_
        refine alP (some 88) rfl rfl (does_move (v := .bool x48.2) (by exact rfl)) (by decide) ?_
        refine alP (some 89) rfl rfl (does_un (v := .bool (!x48.2)) (by conv => lhs; whnf) rfl) (by decide) ?_
        refine alP (some 90) rfl rfl (does_move (v := .bool (!x48.2)) (by exact rfl)) (by decide) ?_
        refine al_bool (c := (!x48.2)) 90 rfl (fun c57 => ?_) (fun c57 => ?_)
        · have h := ifT c57 h
          refine alP (some 91) rfl rfl (does_move (v := .bool x50.2) (by exact rfl)) (by decide) ?_
          refine alP (some 92) rfl rfl (does_un (v := .bool (!x50.2)) (by conv => lhs; whnf) rfl) (by decide) ?_
          refine alP (some 93) rfl rfl (does_pick (v := .bool (!x50.2)) (by conv => lhs; whnf) (by exact rfl)) (by decide) ?_
          refine alP (some 94) rfl rfl (does_move (v := .bool (!x50.2)) (by exact rfl)) (by decide) ?_
          refine al_bool (c := (!x50.2)) 94 rfl (fun c58 => ?_) (fun c58 => ?_)
          · have h := ifT c58 h
            refine alP (some 95) rfl rfl (does_move (v := .bool x52.2) (by exact rfl)) (by decide) ?_
            refine alP (some 96) rfl rfl (does_un (v := .bool (!x52.2)) (by conv => lhs; whnf) rfl) (by decide) ?_
            refine alP (some 97) rfl rfl (does_pick (v := .bool (!x52.2)) (by conv => lhs; whnf) (by exact rfl)) (by decide) ?_
            refine alP (some 6) rfl rfl (does_assign (v := .bool (!x52.2)) (by exact rfl)) (by decide) ?_
            refine al_nil ?_
            refine hK56 _ ?_
            refine aw_ret ?_
            obtain rfl := Option.some.inj h
            exact ret_ok1 (by conv => lhs; whnf) (by conv => lhs; whnf) (by exact rfl) (.inr rfl) rfl
          · have h := ifF c58 h
            refine alS (some 95) rfl rfl (by decide) ?_
            refine alS (some 96) rfl rfl (by decide) ?_
            refine alP (some 97) rfl rfl (does_pick (v := .bool false) (by conv => lhs; whnf) (by exact rfl)) (by decide) ?_
            refine alP (some 6) rfl rfl (does_assign (v := .bool false) (by exact rfl)) (by decide) ?_
            refine al_nil ?_
            refine hK56 _ ?_
            refine aw_ret ?_
            obtain rfl := Option.some.inj h
            exact ret_ok1 (by conv => lhs; whnf) (by conv => lhs; whnf) (by exact rfl) (.inr rfl) rfl
        · have h := ifF c57 h
          refine alS (some 91) rfl rfl (by decide) ?_
          refine alS (some 92) rfl rfl (by decide) ?_
          refine alP (some 93) rfl rfl (does_pick (v := .bool false) (by conv => lhs; whnf) (by exact rfl)) (by decide) ?_
          refine alP (some 94) rfl rfl (does_move (v := .bool false) (by exact rfl)) (by decide) ?_
          refine alS (some 95) rfl rfl (by decide) ?_
          refine alS (some 96) rfl rfl (by decide) ?_
          refine alP (some 97) rfl rfl (does_pick (v := .bool false) (by conv => lhs; whnf) (by exact rfl)) (by decide) ?_
          refine alP (some 6) rfl rfl (does_assign (v := .bool false) (by exact rfl)) (by decide) ?_
          refine al_nil ?_
          refine hK56 _ ?_
          refine aw_ret ?_
          obtain rfl := Option.some.inj h
          exact ret_ok1 (by conv => lhs; whnf) (by conv => lhs; whnf) (by exact rfl) (.inr rfl) rfl
      · have h := ifF c55 h
        refine aw_cond_f (by decide) rfl ?_
        refine aw_skip ?_
        refine hK53 _ ?_
        refine aw_seq_k (fun K59 hK59 => ?_)
        refine aw_regL ?_
        refine al_reb (reb_lit [(2, .int .i64 a2), (8, .ptr 8 0 0), (12, .int .i64 x48.1), (13, .bool x48.2), (14, .int .i64 x50.1), (15, .bool x50.2), (16, .int .i64 x52.1), (17, .bool x52.2)] [(8, 0)] [((8, 0), .box [.int .i64 0, .int .i64 0, .int .i64 v8_s_2_1, .int .i64 v8_s_3_1, .int .i64 v8_s_4_1, .int .i64 v8_s_5_1, .int .i64 v8_s_6_1, .int .i64 v8_s_7_1, .int .i64 v8_s_8_1, .int .i64 v8_s_9_1])] [(8, 1)] (envOk_cons (by conv => lhs; whnf) (by exact rfl) (envOk_cons (by conv => lhs; whnf) (by exact rfl) (envOk_cons (by conv => lhs; whnf) (by exact rfl) (envOk_cons (by conv => lhs; whnf) (by exact rfl) (envOk_cons (by conv => lhs; whnf) (by exact rfl) (envOk_cons (by conv => lhs; whnf) (by exact rfl) (envOk_cons (by conv => lhs; whnf) (by exact rfl) (envOk_cons (by conv => lhs; whnf) (by exact rfl) envOk_nil)))))))) (objOk_cons (by conv => lhs; whnf) (by conv => lhs; whnf) (by exact rfl) (by simp) objOk_nil) (nodup_b rfl) (nodup_b rfl) rfl rfl) ?_
        refine alP (some 98) rfl rfl (does_move (v := .bool x48.2) (by exact rfl)) (by decide) ?_
        refine alP (some 99) rfl rfl (does_move (v := .bool x48.2) (by exact rfl)) (by decide) ?_
        refine al_bool (c := x48.2) 99 rfl (fun c60 => ?_) (fun c60 => ?_)
        · have h := ifT c60 h
          refine alP (some 100) rfl rfl (does_move (v := .bool x50.2) (by exact rfl)) (by decide) ?_
          refine alP (some 101) rfl rfl (does_pick (v := .bool x50.2) (by conv => lhs; whnf) (by exact rfl)) (by decide) ?_
          refine alP (some 102) rfl rfl (does_move (v := .bool x50.2) (by exact rfl)) (by decide) ?_
          refine al_bool (c := x50.2) 102 rfl (fun c61 => ?_) (fun c61 => ?_)
          · have h := ifT c61 h
            refine alP (some 103) rfl rfl (does_move (v := .bool x52.2) (by exact rfl)) (by decide) ?_
            refine alP (some 104) rfl rfl (does_pick (v := .bool x52.2) (by conv => lhs; whnf) (by exact rfl)) (by decide) ?_
            refine alP (some 105) rfl rfl (does_move (v := .bool x52.2) (by exact rfl)) (by decide) ?_
            refine al_bool (c := x52.2) 105 rfl (fun c62 => ?_) (fun c62 => ?_)
            · have h := ifT c62 h
              refine alP (some 106) rfl rfl (does_move (v := .int .i64 x48.1) (by exact rfl)) (by decide) ?_
              refine alP (some 107) rfl rfl (does_move (v := .int .i64 x50.1) (by exact rfl)) (by decide) ?_
              refine alP (some 108) rfl rfl (does_bin (v := .bool (decide (x48.1 ≤ x50.1))) (by conv => lhs; whnf) (by conv => lhs; whnf) rfl) (by decide) ?_
              refine alP (some 109) rfl rfl (does_pick (v := .bool (decide (x48.1 ≤ x50.1))) (by conv => lhs; whnf) (by exact rfl)) (by decide) ?_
              refine al_reb (reb_lit [(2, .int .i64 a2), (8, .ptr 8 0 0), (12, .int .i64 x48.1), (14, .int .i64 x50.1), (16, .int .i64 x52.1), (109, .bool (decide (x48.1 ≤ x50.1)))] [(8, 0)] [((8, 0), .box [.int .i64 0, .int .i64 0, .int .i64 v8_s_2_1, .int .i64 v8_s_3_1, .int .i64 v8_s_4_1, .int .i64 v8_s_5_1, .int .i64 v8_s_6_1, .int .i64 v8_s_7_1, .int .i64 v8_s_8_1, .int .i64 v8_s_9_1])] [(8, 1)] (envOk_cons (by conv => lhs; whnf) (by exact rfl) (envOk_cons (by conv => lhs; whnf) (by exact rfl) (envOk_cons (by conv => lhs; whnf) (by exact rfl) (envOk_cons (by conv => lhs; whnf) (by exact rfl) (envOk_cons (by conv => lhs; whnf) (by exact rfl) (envOk_cons (by conv => lhs; whnf) (by exact rfl) envOk_nil)))))) (objOk_cons (by conv => lhs; whnf) (by conv => lhs; whnf) (by exact rfl) (by simp) objOk_nil) (nodup_b rfl) (nodup_b rfl) rfl rfl) ?_
              refine alP (some 110) rfl rfl (does_move (v := .bool (decide (x48.1 ≤ x50.1))) (by exact rfl)) (by decide) ?_
              refine al_bool (c := (decide (x48.1 ≤ x50.1))) 110 rfl (fun c63 => ?_) (fun c63 => ?_)
              · have h := ifT c63 h
                refine alP (some 111) rfl rfl (does_move (v := .int .i64 x52.1) (by exact rfl)) (by decide) ?_
                refine alP (some 112) rfl rfl (does_move (v := .int .i64 x50.1) (by exact rfl)) (by decide) ?_
                refine alP (some 113) rfl rfl (does_bin (v := .bool (decide (x52.1 ≤ x50.1))) (by conv => lhs; whnf) (by conv => lhs; whnf) rfl) (by decide) ?_
                refine alP (some 114) rfl rfl (does_pick (v := .bool (decide (x52.1 ≤ x50.1))) (by conv => lhs; whnf) (by exact rfl)) (by decide) ?_
                refine alP (some 115) rfl rfl (does_move (v := .bool (decide (x52.1 ≤ x50.1))) (by exact rfl)) (by decide) ?_
                refine al_bool (c := (decide (x52.1 ≤ x50.1))) 115 rfl (fun c64 => ?_) (fun c64 => ?_)
                · have h := ifT c64 h
                  refine alP (some 116) rfl rfl (does_move (v := .int .i64 a2) (by exact rfl)) (by decide) ?_
                  refine alP (some 117) rfl rfl (does_bin (v := .bool (decide (a2 < 1000))) (by conv => lhs; whnf) (by conv => lhs; whnf) rfl) (by decide) ?_
                  refine alP (some 118) rfl rfl (does_move (v := .bool (decide (a2 < 1000))) (by exact rfl)) (by decide) ?_
                  refine al_bool (c := (decide (a2 < 1000))) 118 rfl (fun c65 => ?_) (fun c65 => ?_)
                  · have h := ifT c65 h
                    refine alS (some 119) rfl rfl (by decide) ?_
                    refine alS (some 120) rfl rfl (by decide) ?_
                    refine alS (some 121) rfl rfl (by decide) ?_
                    refine al_reb (reb_lit [(8, .ptr 8 0 0), (12, .int .i64 x48.1), (14, .int .i64 x50.1), (115, .bool true), (118, .bool true), (121, .skip)] [(8, 0)] [((8, 0), .box [.int .i64 0, .int .i64 0, .int .i64 v8_s_2_1, .int .i64 v8_s_3_1, .int .i64 v8_s_4_1, .int .i64 v8_s_5_1, .int .i64 v8_s_6_1, .int .i64 v8_s_7_1, .int .i64 v8_s_8_1, .int .i64 v8_s_9_1])] [(8, 1)] (envOk_cons (by conv => lhs; whnf) (by exact rfl) (envOk_cons (by conv => lhs; whnf) (by exact rfl) (envOk_cons (by conv => lhs; whnf) (by exact rfl) (envOk_cons (by conv => lhs; whnf) (by exact rfl) (envOk_cons (by conv => lhs; whnf) (by exact rfl) (envOk_cons (by conv => lhs; whnf) (by exact rfl) envOk_nil)))))) (objOk_cons (by conv => lhs; whnf) (by conv => lhs; whnf) (by exact rfl) (by simp) objOk_nil) (nodup_b rfl) (nodup_b rfl) rfl rfl) ?_
                    refine alP (some 122) rfl rfl (does_pick (v := .bool true) (by conv => lhs; whnf) (by exact rfl)) (by decide) ?_
                    refine alP (some 123) rfl rfl (does_pick (v := .bool true) (by conv => lhs; whnf) (by exact rfl)) (by decide) ?_
                    refine alP (some 124) rfl rfl (does_move (v := .bool true) (by exact rfl)) (by decide) ?_
                    refine alP (some 125) rfl rfl (does_move (v := .int .i64 x50.1) (by exact rfl)) (by decide) ?_
                    obtain ⟨x66, hx66, h⟩ := bnd_some h
                    refine alD (some 126) rfl rfl ((do_call0 126 false (gleaningref1_Of_ok x50.1 hx66) rfl ent14 rfl rfl).fx (y := ⟨[], .int .i64 x66, [], [126]⟩) rfl) (by decide) ?_
                    refine alP (some 127) rfl rfl (does_fieldAddr (q := .ptr 8 0 2) (by conv => lhs; whnf) ty24 rfl ty22 (by decide) (by exact rfl)) (by decide) ?_
                    obtain ⟨g67, h⟩ := gd_some h
                    obtain ⟨g68, h⟩ := gd_some h
                    obtain ⟨x69, hx69, h⟩ := bnd_some h
                    refine alP (some 128) rfl rfl (does_indexAddr_arr (q := .ptr 8 0 (2 + (Int.toNat x66) * 1)) (by conv => lhs; whnf) (by conv => lhs; whnf) ty22 ty3 g67 g68 rfl) (by decide) ?_
                    refine alR (some 129) rfl rfl (does_load (v := .int .i64 x69) (by conv => lhs; whnf) (cellsAt_box (by exact rfl)) ty3 (loadPV_arr (off := 2) (f := enc2) (l := [v8_s_2_1, v8_s_3_1, v8_s_4_1, v8_s_5_1, v8_s_6_1, v8_s_7_1, v8_s_8_1, v8_s_9_1]) (pre := [.int .i64 0, .int .i64 0]) (post := []) (i := (Int.toNat x66)) rfl rfl hx69)) (by decide) ?_
                    refine alP (some 130) rfl rfl (does_bin (v := .bool (decide ((0 : Int) < x69))) (by conv => lhs; whnf) (by conv => lhs; whnf) rfl) (by decide) ?_
                    refine alP (some 131) rfl rfl (does_pick (v := .bool (decide ((0 : Int) < x69))) (by conv => lhs; whnf) (by exact rfl)) (by decide) ?_
                    refine alP (some 132) rfl rfl (does_move (v := .bool (decide ((0 : Int) < x69))) (by exact rfl)) (by decide) ?_
                    refine al_bool (c := (decide ((0 : Int) < x69))) 132 rfl (fun c70 => ?_) (fun c70 => ?_)
                    · have h := ifT c70 h
                      refine alP (some 133) rfl rfl (does_move (v := .int .i64 x48.1) (by exact rfl)) (by decide) ?_
                      refine al_reb (reb_lit [(8, .ptr 8 0 0), (132, .bool true), (133, .int .i64 x48.1)] [(8, 0)] [((8, 0), .box [.int .i64 0, .int .i64 0, .int .i64 v8_s_2_1, .int .i64 v8_s_3_1, .int .i64 v8_s_4_1, .int .i64 v8_s_5_1, .int .i64 v8_s_6_1, .int .i64 v8_s_7_1, .int .i64 v8_s_8_1, .int .i64 v8_s_9_1])] [(8, 1)] (envOk_cons (by conv => lhs; whnf) (by exact rfl) (envOk_cons (by conv => lhs; whnf) (by exact rfl) (envOk_cons (by conv => lhs; whnf) (by exact rfl) envOk_nil))) (objOk_cons (by conv => lhs; whnf) (by conv => lhs; whnf) (by exact rfl) (by simp) objOk_nil) (nodup_b rfl) (nodup_b rfl) rfl rfl) ?_
                      obtain ⟨x71, hx71, h⟩ := bnd_some h
                      refine alD (some 134) rfl rfl ((do_call0 134 false (gleaningref1_Of_ok x48.1 hx71) rfl ent14 rfl rfl).fx (y := ⟨[], .int .i64 x71, [], [134]⟩) rfl) (by decide) ?_
                      refine alP (some 135) rfl rfl (does_fieldAddr (q := .ptr 8 0 2) (by conv => lhs; whnf) ty24 rfl ty22 (by decide) (by exact rfl)) (by decide) ?_
                      obtain ⟨g72, h⟩ := gd_some h
                      obtain ⟨g73, h⟩ := gd_some h
                      obtain ⟨x74, hx74, h⟩ := bnd_some h
                      refine alP (some 136) rfl rfl (does_indexAddr_arr (q := .ptr 8 0 (2 + (Int.toNat x71) * 1)) (by conv => lhs; whnf) (by conv => lhs; whnf) ty22 ty3 g72 g73 rfl) (by decide) ?_
                      refine alR (some 137) rfl rfl (does_load (v := .int .i64 x74) (by conv => lhs; whnf) (cellsAt_box (by exact rfl)) ty3 (loadPV_arr (off := 2) (f := enc2) (l := [v8_s_2_1, v8_s_3_1, v8_s_4_1, v8_s_5_1, v8_s_6_1, v8_s_7_1, v8_s_8_1, v8_s_9_1]) (pre := [.int .i64 0, .int .i64 0]) (post := []) (i := (Int.toNat x71)) rfl rfl hx74)) (by decide) ?_
                      refine alP (some 138) rfl rfl (does_bin (v := .bool (decide ((0 : Int) < x74))) (by conv => lhs; whnf) (by conv => lhs; whnf) rfl) (by decide) ?_
                      refine alP (some 139) rfl rfl (does_pick (v := .bool (decide ((0 : Int) < x74))) (by conv => lhs; whnf) (by exact rfl)) (by decide) ?_
                      refine alP (some 6) rfl rfl (does_assign (v := .bool (decide ((0 : Int) < x74))) (by exact rfl)) (by decide) ?_
                      refine al_nil ?_
                      refine hK59 _ ?_
                      refine aw_ret ?_
                      obtain rfl := Option.some.inj h
                      exact ret_ok1 (by conv => lhs; whnf) (by conv => lhs; whnf) (by exact rfl) (.inr rfl) rfl
                    · have h := ifF c70 h
                      refine alS (some 133) rfl rfl (by decide) ?_
                      refine al_reb (reb_lit [(8, .ptr 8 0 0), (132, .bool false), (133, .skip)] [(8, 0)] [((8, 0), .box [.int .i64 0, .int .i64 0, .int .i64 v8_s_2_1, .int .i64 v8_s_3_1, .int .i64 v8_s_4_1, .int .i64 v8_s_5_1, .int .i64 v8_s_6_1, .int .i64 v8_s_7_1, .int .i64 v8_s_8_1, .int .i64 v8_s_9_1])] [(8, 1)] (envOk_cons (by conv => lhs; whnf) (by exact rfl) (envOk_cons (by conv => lhs; whnf) (by exact rfl) (envOk_cons (by conv => lhs; whnf) (by exact rfl) envOk_nil))) (objOk_cons (by conv => lhs; whnf) (by conv => lhs; whnf) (by exact rfl) (by simp) objOk_nil) (nodup_b rfl) (nodup_b rfl) rfl rfl) ?_
                      refine alS (some 134) rfl rfl (by decide) ?_
                      refine alS (some 135) rfl rfl (by decide) ?_
                      refine alS (some 136) rfl rfl (by decide) ?_
                      refine alS (some 137) rfl rfl (by decide) ?_
                      refine alS (some 138) rfl rfl (by decide) ?_
                      refine alP (some 139) rfl rfl (does_pick (v := .bool false) (by conv => lhs; whnf) (by exact rfl)) (by decide) ?_
                      refine alP (some 6) rfl rfl (does_assign (v := .bool false) (by exact rfl)) (by decide) ?_
                      refine al_nil ?_
                      refine hK59 _ ?_
                      refine aw_ret ?_
                      obtain rfl := Option.some.inj h
                      exact ret_ok1 (by conv => lhs; whnf) (by conv => lhs; whnf) (by exact rfl) (.inr rfl) rfl
                  · have h := ifF c65 h
                    refine alP (some 119) rfl rfl (does_move (v := .int .i64 x52.1) (by exact rfl)) (by decide) ?_
                    refine alP (some 120) rfl rfl (does_move (v := .int .i64 x50.1) (by exact rfl)) (by decide) ?_
                    refine alP (some 121) rfl rfl (does_bin (v := .bool (x52.1 == x50.1)) (by conv => lhs; whnf) (by conv => lhs; whnf) rfl) (by decide) ?_
                    refine al_reb (reb_lit [(8, .ptr 8 0 0), (12, .int .i64 x48.1), (14, .int .i64 x50.1), (115, .bool true), (118, .bool false), (121, .bool (x52.1 == x50.1))] [(8, 0)] [((8, 0), .box [.int .i64 0, .int .i64 0, .int .i64 v8_s_2_1, .int .i64 v8_s_3_1, .int .i64 v8_s_4_1, .int .i64 v8_s_5_1, .int .i64 v8_s_6_1, .int .i64 v8_s_7_1, .int .i64 v8_s_8_1, .int .i64 v8_s_9_1])] [(8, 1)] (envOk_cons (by conv => lhs; whnf) (by exact rfl) (envOk_cons (by conv => lhs; whnf) (by exact rfl) (envOk_cons (by conv => lhs; whnf) (by exact rfl) (envOk_cons (by conv => lhs; whnf) (by exact rfl) (envOk_cons (by conv => lhs; whnf) (by exact rfl) (envOk_cons (by conv => lhs; whnf) (by exact rfl) envOk_nil)))))) (objOk_cons (by conv => lhs; whnf) (by conv => lhs; whnf) (by exact rfl) (by simp) objOk_nil) (nodup_b rfl) (nodup_b rfl) rfl rfl) ?_
                    refine alP (some 122) rfl rfl (does_pick (v := .bool (x52.1 == x50.1)) (by conv => lhs; whnf) (by exact rfl)) (by decide) ?_
                    refine alP (some 123) rfl rfl (does_pick (v := .bool (x52.1 == x50.1)) (by conv => lhs; whnf) (by exact rfl)) (by decide) ?_
                    refine alP (some 124) rfl rfl (does_move (v := .bool (x52.1 == x50.1)) (by exact rfl)) (by decide) ?_
                    refine al_bool (c := (x52.1 == x50.1)) 124 rfl (fun c75 => ?_) (fun c75 => ?_)
                    · have h := ifT c75 h
                      refine alP (some 125) rfl rfl (does_move (v := .int .i64 x50.1) (by exact rfl)) (by decide) ?_
                      obtain ⟨x76, hx76, h⟩ := bnd_some h
                      refine alD (some 126) rfl rfl ((do_call0 126 false (gleaningref1_Of_ok x50.1 hx76) rfl ent14 rfl rfl).fx (y := ⟨[], .int .i64 x76, [], [126]⟩) rfl) (by decide) ?_
                      refine alP (some 127) rfl rfl (does_fieldAddr (q := .ptr 8 0 2) (by conv => lhs; whnf) ty24 rfl ty22 (by decide) (by exact rfl)) (by decide) ?_
                      obtain ⟨g77, h⟩ := gd_some h
                      obtain ⟨g78, h⟩ := gd_some h
                      obtain ⟨x79, hx79, h⟩ := bnd_some h
                      refine alP (some 128) rfl rfl (does_indexAddr_arr (q := .ptr 8 0 (2 + (Int.toNat x76) * 1)) (by conv => lhs; whnf) (by conv => lhs; whnf) ty22 ty3 g77 g78 rfl) (by decide) ?_
                      refine alR (some 129) rfl rfl (does_load (v := .int .i64 x79) (by conv => lhs; whnf) (cellsAt_box (by exact rfl)) ty3 (loadPV_arr (off := 2) (f := enc2) (l := [v8_s_2_1, v8_s_3_1, v8_s_4_1, v8_s_5_1, v8_s_6_1, v8_s_7_1, v8_s_8_1, v8_s_9_1]) (pre := [.int .i64 0, .int .i64 0]) (post := []) (i := (Int.toNat x76)) rfl rfl hx79)) (by decide) ?_
                      refine alP (some 130) rfl rfl (does_bin (v := .bool (decide ((0 : Int) < x79))) (by conv => lhs; whnf) (by conv => lhs; whnf) rfl) (by decide) ?_
                      refine alP (some 131) rfl rfl (does_pick (v := .bool (decide ((0 : Int) < x79))) (by conv => lhs; whnf) (by exact rfl)) (by decide) ?_
                      refine alP (some 132) rfl rfl (does_move (v := .bool (decide ((0 : Int) < x79))) (by exact rfl)) (by decide) ?_
                      refine al_bool (c := (decide ((0 : Int) < x79))) 132 rfl (fun c80 => ?_) (fun c80 => ?_)
                      · have h := ifT c80 h
                        refine alP (some 133) rfl rfl (does_move (v := .int .i64 x48.1) (by exact rfl)) (by decide) ?_
                        refine al_reb (reb_lit [(8, .ptr 8 0 0), (132, .bool true), (133, .int .i64 x48.1)] [(8, 0)] [((8, 0), .box [.int .i64 0, .int .i64 0, .int .i64 v8_s_2_1, .int .i64 v8_s_3_1, .int .i64 v8_s_4_1, .int .i64 v8_s_5_1, .int .i64 v8_s_6_1, .int .i64 v8_s_7_1, .int .i64 v8_s_8_1, .int .i64 v8_s_9_1])] [(8, 1)] (envOk_cons (by conv => lhs; whnf) (by exact rfl) (envOk_cons (by conv => lhs; whnf) (by exact rfl) (envOk_cons (by conv => lhs; whnf) (by exact rfl) envOk_nil))) (objOk_cons (by conv => lhs; whnf) (by conv => lhs; whnf) (by exact rfl) (by simp) objOk_nil) (nodup_b rfl) (nodup_b rfl) rfl rfl) ?_
                        obtain ⟨x81, hx81, h⟩ := bnd_some h
                        refine alD (some 134) rfl rfl ((do_call0 134 false (gleaningref1_Of_ok x48.1 hx81) rfl ent14 rfl rfl).fx (y := ⟨[], .int .i64 x81, [], [134]⟩) rfl) (by decide) ?_
                        refine alP (some 135) rfl rfl (does_fieldAddr (q := .ptr 8 0 2) (by conv => lhs; whnf) ty24 rfl ty22 (by decide) (by exact rfl)) (by decide) ?_
                        obtain ⟨g82, h⟩ := gd_some h
                        obtain ⟨g83, h⟩ := gd_some h
                        obtain ⟨x84, hx84, h⟩ := bnd_some h
                        refine alP (some 136) rfl rfl (does_indexAddr_arr (q := .ptr 8 0 (2 + (Int.toNat x81) * 1)) (by conv => lhs; whnf) (by conv => lhs; whnf) ty22 ty3 g82 g83 rfl) (by decide) ?_
                        refine alR (some 137) rfl rfl (does_load (v := .int .i64 x84) (by conv => lhs; whnf) (cellsAt_box (by exact rfl)) ty3 (loadPV_arr (off := 2) (f := enc2) (l := [v8_s_2_1, v8_s_3_1, v8_s_4_1, v8_s_5_1, v8_s_6_1, v8_s_7_1, v8_s_8_1, v8_s_9_1]) (pre := [.int .i64 0, .int .i64 0]) (post := []) (i := (Int.toNat x81)) rfl rfl hx84)) (by decide) ?_
                        refine alP (some 138) rfl rfl (does_bin (v := .bool (decide ((0 : Int) < x84))) (by conv => lhs; whnf) (by conv => lhs; whnf) rfl) (by decide) ?_
                        refine alP (some 139) rfl rfl (does_pick (v := .bool (decide ((0 : Int) < x84))) (by conv => lhs; whnf) (by exact rfl)) (by decide) ?_
                        refine alP (some 6) rfl rfl (does_assign (v := .bool (decide ((0 : Int) < x84))) (by exact rfl)) (by decide) ?_
                        refine al_nil ?_
                        refine hK59 _ ?_
                        refine aw_ret ?_
                        obtain rfl := Option.some.inj h
                        exact ret_ok1 (by conv => lhs; whnf) (by conv => lhs; whnf) (by exact rfl) (.inr rfl) rfl
                      · have h := ifF c80 h
                        refine alS (some 133) rfl rfl (by decide) ?_
                        refine al_reb (reb_lit [(8, .ptr 8 0 0), (132, .bool false), (133, .skip)] [(8, 0)] [((8, 0), .box [.int .i64 0, .int .i64 0, .int .i64 v8_s_2_1, .int .i64 v8_s_3_1, .int .i64 v8_s_4_1, .int .i64 v8_s_5_1, .int .i64 v8_s_6_1, .int .i64 v8_s_7_1, .int .i64 v8_s_8_1, .int .i64 v8_s_9_1])] [(8, 1)] (envOk_cons (by conv => lhs; whnf) (by exact rfl) (envOk_cons (by conv => lhs; whnf) (by exact rfl) (envOk_cons (by conv => lhs; whnf) (by exact rfl) envOk_nil))) (objOk_cons (by conv => lhs; whnf) (by conv => lhs; whnf) (by exact rfl) (by simp) objOk_nil) (nodup_b rfl) (nodup_b rfl) rfl rfl) ?_
                        refine alS (some 134) rfl rfl (by decide) ?_
                        refine alS (some 135) rfl rfl (by decide) ?_
                        refine alS (some 136) rfl rfl (by decide) ?_
                        refine alS (some 137) rfl rfl (by decide) ?_
                        refine alS (some 138) rfl rfl (by decide) ?_
                        refine alP (some 139) rfl rfl (does_pick (v := .bool false) (by conv => lhs; whnf) (by exact rfl)) (by decide) ?_
                        refine alP (some 6) rfl rfl (does_assign (v := .bool false) (by exact rfl)) (by decide) ?_
                        refine al_nil ?_
                        refine hK59 _ ?_
                        refine aw_ret ?_
                        obtain rfl := Option.some.inj h
                        exact ret_ok1 (by conv => lhs; whnf) (by conv => lhs; whnf) (by exact rfl) (.inr rfl) rfl
                    · have h := ifF c75 h
                      refine alS (some 125) rfl rfl (by decide) ?_
                      refine alS (some 126) rfl rfl (by decide) ?_
                      refine alS (some 127) rfl rfl (by decide) ?_
                      refine alS (some 128) rfl rfl (by decide) ?_
                      refine alS (some 129) rfl rfl (by decide) ?_
                      refine alS (some 130) rfl rfl (by decide) ?_
                      refine alP (some 131) rfl rfl (does_pick (v := .bool false) (by conv => lhs; whnf) (by exact rfl)) (by decide) ?_
                      refine alP (some 132) rfl rfl (does_move (v := .bool false) (by exact rfl)) (by decide) ?_
                      refine alS (some 133) rfl rfl (by decide) ?_
                      refine al_reb (reb_lit [(8, .ptr 8 0 0), (132, .bool false), (133, .skip)] [(8, 0)] [((8, 0), .box [.int .i64 0, .int .i64 0, .int .i64 v8_s_2_1, .int .i64 v8_s_3_1, .int .i64 v8_s_4_1, .int .i64 v8_s_5_1, .int .i64 v8_s_6_1, .int .i64 v8_s_7_1, .int .i64 v8_s_8_1, .int .i64 v8_s_9_1])] [(8, 1)] (envOk_cons (by conv => lhs; whnf) (by exact rfl) (envOk_cons (by conv => lhs; whnf) (by exact rfl) (envOk_cons (by conv => lhs; whnf) (by exact rfl) envOk_nil))) (objOk_cons (by conv => lhs; whnf) (by conv => lhs; whnf) (by exact rfl) (by simp) objOk_nil) (nodup_b rfl) (nodup_b rfl) rfl rfl) ?_
                      refine alS (some 134) rfl rfl (by decide) ?_
                      refine alS (some 135) rfl rfl (by decide) ?_
                      refine alS (some 136) rfl rfl (by decide) ?_
                      refine alS (some 137) rfl rfl (by decide) ?_
                      refine alS (some 138) rfl rfl (by decide) ?_
                      refine alP (some 139) rfl rfl (does_pick (v := .bool false) (by conv => lhs; whnf) (by exact rfl)) (by decide) ?_
                      refine alP (some 6) rfl rfl (does_assign (v := .bool false) (by exact rfl)) (by decide) ?_
                      refine al_nil ?_
                      refine hK59 _ ?_
                      refine aw_ret ?_
                      obtain rfl := Option.some.inj h
                      exact ret_ok1 (by conv => lhs; whnf) (by conv => lhs; whnf) (by exact rfl) (.inr rfl) rfl
                · have h := ifF c64 h
                  refine alS (some 116) rfl rfl (by decide) ?_
                  refine alS (some 117) rfl rfl (by decide) ?_
                  refine alS (some 118) rfl rfl (by decide) ?_
                  refine alS (some 119) rfl rfl (by decide) ?_
                  refine alS (some 120) rfl rfl (by decide) ?_
                  refine alS (some 121) rfl rfl (by decide) ?_
                  refine al_reb (reb_lit [(8, .ptr 8 0 0), (12, .int .i64 x48.1), (14, .int .i64 x50.1), (115, .bool false), (118, .skip), (121, .skip)] [(8, 0)] [((8, 0), .box [.int .i64 0, .int .i64 0, .int .i64 v8_s_2_1, .int .i64 v8_s_3_1, .int .i64 v8_s_4_1, .int .i64 v8_s_5_1, .int .i64 v8_s_6_1, .int .i64 v8_s_7_1, .int .i64 v8_s_8_1, .int .i64 v8_s_9_1])] [(8, 1)] (envOk_cons (by conv => lhs; whnf) (by exact rfl) (envOk_cons (by conv => lhs; whnf) (by exact rfl) (envOk_cons (by conv => lhs; whnf) (by exact rfl) (envOk_cons (by conv => lhs; whnf) (by exact rfl) (envOk_cons (by conv => lhs; whnf) (by exact rfl) (envOk_cons (by conv => lhs; whnf) (by exact rfl) envOk_nil)))))) (objOk_cons (by conv => lhs; whnf) (by conv => lhs; whnf) (by exact rfl) (by simp) objOk_nil) (nodup_b rfl) (nodup_b rfl) rfl rfl) ?_
                  refine alS (some 122) rfl rfl (by decide) ?_
                  refine alP (some 123) rfl rfl (does_pick (v := .bool false) (by conv => lhs; whnf) (by exact rfl)) (by decide) ?_
                  refine alP (some 124) rfl rfl (does_move (v := .bool false) (by exact rfl)) (by decide) ?_
                  refine alS (some 125) rfl rfl (by decide) ?_
                  refine alS (some 126) rfl rfl (by decide) ?_
                  refine alS (some 127) rfl rfl (by decide) ?_
                  refine alS (some 128) rfl rfl (by decide) ?_
                  refine alS (some 129) rfl rfl (by decide) ?_
                  refine alS (some 130) rfl rfl (by decide) ?_
                  refine alP (some 131) rfl rfl (does_pick (v := .bool false) (by conv => lhs; whnf) (by exact rfl)) (by decide) ?_
                  refine alP (some 132) rfl rfl (does_move (v := .bool false) (by exact rfl)) (by decide) ?_
                  refine alS (some 133) rfl rfl (by decide) ?_
                  refine al_reb (reb_lit [(8, .ptr 8 0 0), (132, .bool false), (133, .skip)] [(8, 0)] [((8, 0), .box [.int .i64 0, .int .i64 0, .int .i64 v8_s_2_1, .int .i64 v8_s_3_1, .int .i64 v8_s_4_1, .int .i64 v8_s_5_1, .int .i64 v8_s_6_1, .int .i64 v8_s_7_1, .int .i64 v8_s_8_1, .int .i64 v8_s_9_1])] [(8, 1)] (envOk_cons (by conv => lhs; whnf) (by exact rfl) (envOk_cons (by conv => lhs; whnf) (by exact rfl) (envOk_cons (by conv => lhs; whnf) (by exact rfl) envOk_nil))) (objOk_cons (by conv => lhs; whnf) (by conv => lhs; whnf) (by exact rfl) (by simp) objOk_nil) (nodup_b rfl) (nodup_b rfl) rfl rfl) ?_
                  refine alS (some 134) rfl rfl (by decide) ?_
                  refine alS (some 135) rfl rfl (by decide) ?_
                  refine alS (some 136) rfl rfl (by decide) ?_
                  refine alS (some 137) rfl rfl (by decide) ?_
                  refine alS (some 138) rfl rfl (by decide) ?_
                  refine alP (some 139) rfl rfl (does_pick (v := .bool false) (by conv => lhs; whnf) (by exact rfl)) (by decide) ?_
                  refine alP (some 6) rfl rfl (does_assign (v := .bool false) (by exact rfl)) (by decide) ?_
                  refine al_nil ?_
                  refine hK59 _ ?_
                  refine aw_ret ?_
                  obtain rfl := Option.some.inj h
                  exact ret_ok1 (by conv => lhs; whnf) (by conv => lhs; whnf) (by exact rfl) (.inr rfl) rfl
              · have h := ifF c63 h
                refine alS (some 111) rfl rfl (by decide) ?_
                refine alS (some 112) rfl rfl (by decide) ?_
                refine alS (some 113) rfl rfl (by decide) ?_
                refine alP (some 114) rfl rfl (does_pick (v := .bool false) (by conv => lhs; whnf) (by exact rfl)) (by decide) ?_
                refine alP (some 115) rfl rfl (does_move (v := .bool false) (by exact rfl)) (by decide) ?_
                refine alS (some 116) rfl rfl (by decide) ?_
                refine alS (some 117) rfl rfl (by decide) ?_
                refine alS (some 118) rfl rfl (by decide) ?_
                refine alS (some 119) rfl rfl (by decide) ?_
                refine alS (some 120) rfl rfl (by decide) ?_
                refine alS (some 121) rfl rfl (by decide) ?_
                refine al_reb (reb_lit [(8, .ptr 8 0 0), (12, .int .i64 x48.1), (14, .int .i64 x50.1), (115, .bool false), (118, .skip), (121, .skip)] [(8, 0)] [((8, 0), .box [.int .i64 0, .int .i64 0, .int .i64 v8_s_2_1, .int .i64 v8_s_3_1, .int .i64 v8_s_4_1, .int .i64 v8_s_5_1, .int .i64 v8_s_6_1, .int .i64 v8_s_7_1, .int .i64 v8_s_8_1, .int .i64 v8_s_9_1])] [(8, 1)] (envOk_cons (by conv => lhs; whnf) (by exact rfl) (envOk_cons (by conv => lhs; whnf) (by exact rfl) (envOk_cons (by conv => lhs; whnf) (by exact rfl) (envOk_cons (by conv => lhs; whnf) (by exact rfl) (envOk_cons (by conv => lhs; whnf) (by exact rfl) (envOk_cons (by conv => lhs; whnf) (by exact rfl) envOk_nil)))))) (objOk_cons (by conv => lhs; whnf) (by conv => lhs; whnf) (by exact rfl) (by simp) objOk_nil) (nodup_b rfl) (nodup_b rfl) rfl rfl) ?_
                refine alS (some 122) rfl rfl (by decide) ?_
                refine alP (some 123) rfl rfl (does_pick (v := .bool false) (by conv => lhs; whnf) (by exact rfl)) (by decide) ?_
                refine alP (some 124) rfl rfl (does_move (v := .bool false) (by exact rfl)) (by decide) ?_
                refine alS (some 125) rfl rfl (by decide) ?_
                refine alS (some 126) rfl rfl (by decide) ?_
                refine alS (some 127) rfl rfl (by decide) ?_
                refine alS (some 128) rfl rfl (by decide) ?_
                refine alS (some 129) rfl rfl (by decide) ?_
                refine alS (some 130) rfl rfl (by decide) ?_
                refine alP (some 131) rfl rfl (does_pick (v := .bool false) (by conv => lhs; whnf) (by exact rfl)) (by decide) ?_
                refine alP (some 132) rfl rfl (does_move (v := .bool false) (by exact rfl)) (by decide) ?_
                refine alS (some 133) rfl rfl (by decide) ?_
                refine al_reb (reb_lit [(8, .ptr 8 0 0), (132, .bool false), (133, .skip)] [(8, 0)] [((8, 0), .box [.int .i64 0, .int .i64 0, .int .i64 v8_s_2_1, .int .i64 v8_s_3_1, .int .i64 v8_s_4_1, .int .i64 v8_s_5_1, .int .i64 v8_s_6_1, .int .i64 v8_s_7_1, .int .i64 v8_s_8_1, .int .i64 v8_s_9_1])] [(8, 1)] (envOk_cons (by conv => lhs; whnf) (by exact rfl) (envOk_cons (by conv => lhs; whnf) (by exact rfl) (envOk_cons (by conv => lhs; whnf) (by exact rfl) envOk_nil))) (objOk_cons (by conv => lhs; whnf) (by conv => lhs; whnf) (by exact rfl) (by simp) objOk_nil) (nodup_b rfl) (nodup_b rfl) rfl rfl) ?_
                refine alS (some 134) rfl rfl (by decide) ?_
                refine alS (some 135) rfl rfl (by decide) ?_
                refine alS (some 136) rfl rfl (by decide) ?_
                refine alS (some 137) rfl rfl (by decide) ?_
                refine alS (some 138) rfl rfl (by decide) ?_
                refine alP (some 139) rfl rfl (does_pick (v := .bool false) (by conv => lhs; whnf) (by exact rfl)) (by decide) ?_
                refine alP (some 6) rfl rfl (does_assign (v := .bool false) (by exact rfl)) (by decide) ?_
                refine al_nil ?_
                refine hK59 _ ?_
                refine aw_ret ?_
                obtain rfl := Option.some.inj h
                exact ret_ok1 (by conv => lhs; whnf) (by conv => lhs; whnf) (by exact rfl) (.inr rfl) rfl
            · have h := ifF c62 h
              refine alS (some 106) rfl rfl (by decide) ?_
              refine alS (some 107) rfl rfl (by decide) ?_
              refine alS (some 108) rfl rfl (by decide) ?_
              refine alP (some 109) rfl rfl (does_pick (v := .bool false) (by conv => lhs; whnf) (by exact rfl)) (by decide) ?_
              refine al_reb (reb_lit [(2, .int .i64 a2), (8, .ptr 8 0 0), (12, .int .i64 x48.1), (14, .int .i64 x50.1), (16, .int .i64 x52.1), (109, .bool false)] [(8, 0)] [((8, 0), .box [.int .i64 0, .int .i64 0, .int .i64 v8_s_2_1, .int .i64 v8_s_3_1, .int .i64 v8_s_4_1, .int .i64 v8_s_5_1, .int .i64 v8_s_6_1, .int .i64 v8_s_7_1, .int .i64 v8_s_8_1, .int .i64 v8_s_9_1])] [(8, 1)] (envOk_cons (by conv => lhs; whnf) (by exact rfl) (envOk_cons (by conv => lhs; whnf) (by exact rfl) (envOk_cons (by conv => lhs; whnf) (by exact rfl) (envOk_cons (by conv => lhs; whnf) (by exact rfl) (envOk_cons (by conv => lhs; whnf) (by exact rfl) (envOk_cons (by conv => lhs; whnf) (by exact rfl) envOk_nil)))))) (objOk_cons (by conv => lhs; whnf) (by conv => lhs; whnf) (by exact rfl) (by simp) objOk_nil) (nodup_b rfl) (nodup_b rfl) rfl rfl) ?_
              refine alP (some 110) rfl rfl (does_move (v := .bool false) (by exact rfl)) (by decide) ?_
              refine alS (some 111) rfl rfl (by decide) ?_
              refine alS (some 112) rfl rfl (by decide) ?_
              refine alS (some 113) rfl rfl (by decide) ?_
              refine alP (some 114) rfl rfl (does_pick (v := .bool false) (by conv => lhs; whnf) (by exact rfl)) (by decide) ?_
              refine alP (some 115) rfl rfl (does_move (v := .bool false) (by exact rfl)) (by decide) ?_
              refine alS (some 116) rfl rfl (by decide) ?_
              refine alS (some 117) rfl rfl (by decide) ?_
              refine alS (some 118) rfl rfl (by decide) ?_
              refine alS (some 119) rfl rfl (by decide) ?_
              refine alS (some 120) rfl rfl (by decide) ?_
              refine alS (some 121) rfl rfl (by decide) ?_
              refine al_reb (reb_lit [(8, .ptr 8 0 0), (12, .int .i64 x48.1), (14, .int .i64 x50.1), (115, .bool false), (118, .skip), (121, .skip)] [(8, 0)] [((8, 0), .box [.int .i64 0, .int .i64 0, .int .i64 v8_s_2_1, .int .i64 v8_s_3_1, .int .i64 v8_s_4_1, .int .i64 v8_s_5_1, .int .i64 v8_s_6_1, .int .i64 v8_s_7_1, .int .i64 v8_s_8_1, .int .i64 v8_s_9_1])] [(8, 1)] (envOk_cons (by conv => lhs; whnf) (by exact rfl) (envOk_cons (by conv => lhs; whnf) (by exact rfl) (envOk_cons (by conv => lhs; whnf) (by exact rfl) (envOk_cons (by conv => lhs; whnf) (by exact rfl) (envOk_cons (by conv => lhs; whnf) (by exact rfl) (envOk_cons (by conv => lhs; whnf) (by exact rfl) envOk_nil)))))) (objOk_cons (by conv => lhs; whnf) (by conv => lhs; whnf) (by exact rfl) (by simp) objOk_nil) (nodup_b rfl) (nodup_b rfl) rfl rfl) ?_
              refine alS (some 122) rfl rfl (by decide) ?_
              refine alP (some 123) rfl rfl (does_pick (v := .bool false) (by conv => lhs; whnf) (by exact rfl)) (by decide) ?_
              refine alP (some 124) rfl rfl (does_move (v := .bool false) (by exact rfl)) (by decide) ?_
              refine alS (some 125) rfl rfl (by decide) ?_
              refine alS (some 126) rfl rfl (by decide) ?_
              refine alS (some 127) rfl rfl (by decide) ?_
              refine alS (some 128) rfl rfl (by decide) ?_
              refine alS (some 129) rfl rfl (by decide) ?_
              refine alS (some 130) rfl rfl (by decide) ?_
              refine alP (some 131) rfl rfl (does_pick (v := .bool false) (by conv => lhs; whnf) (by exact rfl)) (by decide) ?_
              refine alP (some 132) rfl rfl (does_move (v := .bool false) (by exact rfl)) (by decide) ?_
              refine alS (some 133) rfl rfl (by decide) ?_
              refine al_reb (reb_lit [(8, .ptr 8 0 0), (132, .bool false), (133, .skip)] [(8, 0)] [((8, 0), .box [.int .i64 0, .int .i64 0, .int .i64 v8_s_2_1, .int .i64 v8_s_3_1, .int .i64 v8_s_4_1, .int .i64 v8_s_5_1, .int .i64 v8_s_6_1, .int .i64 v8_s_7_1, .int .i64 v8_s_8_1, .int .i64 v8_s_9_1])] [(8, 1)] (envOk_cons (by conv => lhs; whnf) (by exact rfl) (envOk_cons (by conv => lhs; whnf) (by exact rfl) (envOk_cons (by conv => lhs; whnf) (by exact rfl) envOk_nil))) (objOk_cons (by conv => lhs; whnf) (by conv => lhs; whnf) (by exact rfl) (by simp) objOk_nil) (nodup_b rfl) (nodup_b rfl) rfl rfl) ?_
              refine alS (some 134) rfl rfl (by decide) ?_
              refine alS (some 135) rfl rfl (by decide) ?_
              refine alS (some 136) rfl rfl (by decide) ?_
              refine alS (some 137) rfl rfl (by decide) ?_
              refine alS (some 138) rfl rfl (by decide) ?_
              refine alP (some 139) rfl rfl (does_pick (v := .bool false) (by conv => lhs; whnf) (by exact rfl)) (by decide) ?_
              refine alP (some 6) rfl rfl (does_assign (v := .bool false) (by exact rfl)) (by decide) ?_
              refine al_nil ?_
              refine hK59 _ ?_
              refine aw_ret ?_
              obtain rfl := Option.some.inj h
              exact ret_ok1 (by conv => lhs; whnf) (by conv => lhs; whnf) (by exact rfl) (.inr rfl) rfl
          · have h := ifF c61 h
            refine alS (some 103) rfl rfl (by decide) ?_
            refine alP (some 104) rfl rfl (does_pick (v := .bool false) (by conv => lhs; whnf) (by exact rfl)) (by decide) ?_
            refine alP (some 105) rfl rfl (does_move (v := .bool false) (by exact rfl)) (by decide) ?_
            refine alS (some 106) rfl rfl (by decide) ?_
            refine alS (some 107) rfl rfl (by decide) ?_
            refine alS (some 108) rfl rfl (by decide) ?_
            refine alP (some 109) rfl rfl (does_pick (v := .bool false) (by conv => lhs; whnf) (by exact rfl)) (by decide) ?_
            refine al_reb (reb_lit [(2, .int .i64 a2), (8, .ptr 8 0 0), (12, .int .i64 x48.1), (14, .int .i64 x50.1), (16, .int .i64 x52.1), (109, .bool false)] [(8, 0)] [((8, 0), .box [.int .i64 0, .int .i64 0, .int .i64 v8_s_2_1, .int .i64 v8_s_3_1, .int .i64 v8_s_4_1, .int .i64 v8_s_5_1, .int .i64 v8_s_6_1, .int .i64 v8_s_7_1, .int .i64 v8_s_8_1, .int .i64 v8_s_9_1])] [(8, 1)] (envOk_cons (by conv => lhs; whnf) (by exact rfl) (envOk_cons (by conv => lhs; whnf) (by exact rfl) (envOk_cons (by conv => lhs; whnf) (by exact rfl) (envOk_cons (by conv => lhs; whnf) (by exact rfl) (envOk_cons (by conv => lhs; whnf) (by exact rfl) (envOk_cons (by conv => lhs; whnf) (by exact rfl) envOk_nil)))))) (objOk_cons (by conv => lhs; whnf) (by conv => lhs; whnf) (by exact rfl) (by simp) objOk_nil) (nodup_b rfl) (nodup_b rfl) rfl rfl) ?_
            refine alP (some 110) rfl rfl (does_move (v := .bool false) (by exact rfl)) (by decide) ?_
            refine alS (some 111) rfl rfl (by decide) ?_
            refine alS (some 112) rfl rfl (by decide) ?_
            refine alS (some 113) rfl rfl (by decide) ?_
            refine alP (some 114) rfl rfl (does_pick (v := .bool false) (by conv => lhs; whnf) (by exact rfl)) (by decide) ?_
            refine alP (some 115) rfl rfl (does_move (v := .bool false) (by exact rfl)) (by decide) ?_
            refine alS (some 116) rfl rfl (by decide) ?_
            refine alS (some 117) rfl rfl (by decide) ?_
            refine alS (some 118) rfl rfl (by decide) ?_
            refine alS (some 119) rfl rfl (by decide) ?_
            refine alS (some 120) rfl rfl (by decide) ?_
            refine alS (some 121) rfl rfl (by decide) ?_
            refine al_reb (reb_lit [(8, .ptr 8 0 0), (12, .int .i64 x48.1), (14, .int .i64 x50.1), (115, .bool false), (118, .skip), (121, .skip)] [(8, 0)] [((8, 0), .box [.int .i64 0, .int .i64 0, .int .i64 v8_s_2_1, .int .i64 v8_s_3_1, .int .i64 v8_s_4_1, .int .i64 v8_s_5_1, .int .i64 v8_s_6_1, .int .i64 v8_s_7_1, .int .i64 v8_s_8_1, .int .i64 v8_s_9_1])] [(8, 1)] (envOk_cons (by conv => lhs; whnf) (by exact rfl) (envOk_cons (by conv => lhs; whnf) (by exact rfl) (envOk_cons (by conv => lhs; whnf) (by exact rfl) (envOk_cons (by conv => lhs; whnf) (by exact rfl) (envOk_cons (by conv => lhs; whnf) (by exact rfl) (envOk_cons (by conv => lhs; whnf) (by exact rfl) envOk_nil)))))) (objOk_cons (by conv => lhs; whnf) (by conv => lhs; whnf) (by exact rfl) (by simp) objOk_nil) (nodup_b rfl) (nodup_b rfl) rfl rfl) ?_
            refine alS (some 122) rfl rfl (by decide) ?_
            refine alP (some 123) rfl rfl (does_pick (v := .bool false) (by conv => lhs; whnf) (by exact rfl)) (by decide) ?_
            refine alP (some 124) rfl rfl (does_move (v := .bool false) (by exact rfl)) (by decide) ?_
            refine alS (some 125) rfl rfl (by decide) ?_
            refine alS (some 126) rfl rfl (by decide) ?_
            refine alS (some 127) rfl rfl (by decide) ?_
            refine alS (some 128) rfl rfl (by decide) ?_
            refine alS (some 129) rfl rfl (by decide) ?_
            refine alS (some 130) rfl rfl (by decide) ?_
            refine alP (some 131) rfl rfl (does_pick (v := .bool false) (by conv => lhs; whnf) (by exact rfl)) (by decide) ?_
            refine alP (some 132) rfl rfl (does_move (v := .bool false) (by exact rfl)) (by decide) ?_
            refine alS (some 133) rfl rfl (by decide) ?_
            refine al_reb (reb_lit [(8, .ptr 8 0 0), (132, .bool false), (133, .skip)] [(8, 0)] [((8, 0), .box [.int .i64 0, .int .i64 0, .int .i64 v8_s_2_1, .int .i64 v8_s_3_1, .int .i64 v8_s_4_1, .int .i64 v8_s_5_1, .int .i64 v8_s_6_1, .int .i64 v8_s_7_1, .int .i64 v8_s_8_1, .int .i64 v8_s_9_1])] [(8, 1)] (envOk_cons (by conv => lhs; whnf) (by exact rfl) (envOk_cons (by conv => lhs; whnf) (by exact rfl) (envOk_cons (by conv => lhs; whnf) (by exact rfl) envOk_nil))) (objOk_cons (by conv => lhs; whnf) (by conv => lhs; whnf) (by exact rfl) (by simp) objOk_nil) (nodup_b rfl) (nodup_b rfl) rfl rfl) ?_
            refine alS (some 134) rfl rfl (by decide) ?_
            refine alS (some 135) rfl rfl (by decide) ?_
            refine alS (some 136) rfl rfl (by decide) ?_
            refine alS (some 137) rfl rfl (by decide) ?_
            refine alS (some 138) rfl rfl (by decide) ?_
            refine alP (some 139) rfl rfl (does_pick (v := .bool false) (by conv => lhs; whnf) (by exact rfl)) (by decide) ?_
            refine alP (some 6) rfl rfl (does_assign (v := .bool false) (by exact rfl)) (by decide) ?_
            refine al_nil ?_
            refine hK59 _ ?_
            refine aw_ret ?_
            obtain rfl := Option.some.inj h
            exact ret_ok1 (by conv => lhs; whnf) (by conv => lhs; whnf) (by exact rfl) (.inr rfl) rfl
        · have h := ifF c60 h
          refine alS (some 100) rfl rfl (by decide) ?_
          refine alP (some 101) rfl rfl (does_pick (v := .bool false) (by conv => lhs; whnf) (by exact rfl)) (by decide) ?_
          refine alP (some 102) rfl rfl (does_move (v := .bool false) (by exact rfl)) (by decide) ?_
          refine alS (some 103) rfl rfl (by decide) ?_
          refine alP (some 104) rfl rfl (does_pick (v := .bool false) (by conv => lhs; whnf) (by exact rfl)) (by decide) ?_
          refine alP (some 105) rfl rfl (does_move (v := .bool false) (by exact rfl)) (by decide) ?_
          refine alS (some 106) rfl rfl (by decide) ?_
          refine alS (some 107) rfl rfl (by decide) ?_
          refine alS (some 108) rfl rfl (by decide) ?_
          refine alP (some 109) rfl rfl (does_pick (v := .bool false) (by conv => lhs; whnf) (by exact rfl)) (by decide) ?_
          refine al_reb (reb_lit [(2, .int .i64 a2), (8, .ptr 8 0 0), (12, .int .i64 x48.1), (14, .int .i64 x50.1), (16, .int .i64 x52.1), (109, .bool false)] [(8, 0)] [((8, 0), .box [.int .i64 0, .int .i64 0, .int .i64 v8_s_2_1, .int .i64 v8_s_3_1, .int .i64 v8_s_4_1, .int .i64 v8_s_5_1, .int .i64 v8_s_6_1, .int .i64 v8_s_7_1, .int .i64 v8_s_8_1, .int .i64 v8_s_9_1])] [(8, 1)] (envOk_cons (by conv => lhs; whnf) (by exact rfl) (envOk_cons (by conv => lhs; whnf) (by exact rfl) (envOk_cons (by conv => lhs; whnf) (by exact rfl) (envOk_cons (by conv => lhs; whnf) (by exact rfl) (envOk_cons (by conv => lhs; whnf) (by exact rfl) (envOk_cons (by conv => lhs; whnf) (by exact rfl) envOk_nil)))))) (objOk_cons (by conv => lhs; whnf) (by conv => lhs; whnf) (by exact rfl) (by simp) objOk_nil) (nodup_b rfl) (nodup_b rfl) rfl rfl) ?_
          refine alP (some 110) rfl rfl (does_move (v := .bool false) (by exact rfl)) (by decide) ?_
          refine alS (some 111) rfl rfl (by decide) ?_
          refine alS (some 112) rfl rfl (by decide) ?_
          refine alS (some 113) rfl rfl (by decide) ?_
          refine alP (some 114) rfl rfl (does_pick (v := .bool false) (by conv => lhs; whnf) (by exact rfl)) (by decide) ?_
          refine alP (some 115) rfl rfl (does_move (v := .bool false) (by exact rfl)) (by decide) ?_
          refine alS (some 116) rfl rfl (by decide) ?_
          refine alS (some 117) rfl rfl (by decide) ?_
          refine alS (some 118) rfl rfl (by decide) ?_
          refine alS (some 119) rfl rfl (by decide) ?_
          refine alS (some 120) rfl rfl (by decide) ?_
          refine alS (some 121) rfl rfl (by decide) ?_
          refine al_reb (reb_lit [(8, .ptr 8 0 0), (12, .int .i64 x48.1), (14, .int .i64 x50.1), (115, .bool false), (118, .skip), (121, .skip)] [(8, 0)] [((8, 0), .box [.int .i64 0, .int .i64 0, .int .i64 v8_s_2_1, .int .i64 v8_s_3_1, .int .i64 v8_s_4_1, .int .i64 v8_s_5_1, .int .i64 v8_s_6_1, .int .i64 v8_s_7_1, .int .i64 v8_s_8_1, .int .i64 v8_s_9_1])] [(8, 1)] (envOk_cons (by conv => lhs; whnf) (by exact rfl) (envOk_cons (by conv => lhs; whnf) (by exact rfl) (envOk_cons (by conv => lhs; whnf) (by exact rfl) (envOk_cons (by conv => lhs; whnf) (by exact rfl) (envOk_cons (by conv => lhs; whnf) (by exact rfl) (envOk_cons (by conv => lhs; whnf) (by exact rfl) envOk_nil)))))) (objOk_cons (by conv => lhs; whnf) (by conv => lhs; whnf) (by exact rfl) (by simp) objOk_nil) (nodup_b rfl) (nodup_b rfl) rfl rfl) ?_
          refine alS (some 122) rfl rfl (by decide) ?_
          refine alP (some 123) rfl rfl (does_pick (v := .bool false) (by conv => lhs; whnf) (by exact rfl)) (by decide) ?_
          refine alP (some 124) rfl rfl (does_move (v := .bool false) (by exact rfl)) (by decide) ?_
          refine alS (some 125) rfl rfl (by decide) ?_
          refine alS (some 126) rfl rfl (by decide) ?_
          refine alS (some 127) rfl rfl (by decide) ?_
          refine alS (some 128) rfl rfl (by decide) ?_
          refine alS (some 129) rfl rfl (by decide) ?_
          refine alS (some 130) rfl rfl (by decide) ?_
          refine alP (some 131) rfl rfl (does_pick (v := .bool false) (by conv => lhs; whnf) (by exact rfl)) (by decide) ?_
          refine alP (some 132) rfl rfl (does_move (v := .bool false) (by exact rfl)) (by decide) ?_
          refine alS (some 133) rfl rfl (by decide) ?_
          refine al_reb (reb_lit [(8, .ptr 8 0 0), (132, .bool false), (133, .skip)] [(8, 0)] [((8, 0), .box [.int .i64 0, .int .i64 0, .int .i64 v8_s_2_1, .int .i64 v8_s_3_1, .int .i64 v8_s_4_1, .int .i64 v8_s_5_1, .int .i64 v8_s_6_1, .int .i64 v8_s_7_1, .int .i64 v8_s_8_1, .int .i64 v8_s_9_1])] [(8, 1)] (envOk_cons (by conv => lhs; whnf) (by exact rfl) (envOk_cons (by conv => lhs; whnf) (by exact rfl) (envOk_cons (by conv => lhs; whnf) (by exact rfl) envOk_nil))) (objOk_cons (by conv => lhs; whnf) (by conv => lhs; whnf) (by exact rfl) (by simp) objOk_nil) (nodup_b rfl) (nodup_b rfl) rfl rfl) ?_
          refine alS (some 134) rfl rfl (by decide) ?_
          refine alS (some 135) rfl rfl (by decide) ?_
          refine alS (some 136) rfl rfl (by decide) ?_
          refine alS (some 137) rfl rfl (by decide) ?_
          refine alS (some 138) rfl rfl (by decide) ?_
          refine alP (some 139) rfl rfl (does_pick (v := .bool false) (by conv => lhs; whnf) (by exact rfl)) (by decide) ?_
          refine alP (some 6) rfl rfl (does_assign (v := .bool false) (by exact rfl)) (by decide) ?_
          refine al_nil ?_
          refine hK59 _ ?_
          refine aw_ret ?_
          obtain rfl := Option.some.inj h
          exact ret_ok1 (by conv => lhs; whnf) (by conv => lhs; whnf) (by exact rfl) (.inr rfl) rfl
end Go.Proofs.Ytmhbopjjkgjbnaa.Ab
