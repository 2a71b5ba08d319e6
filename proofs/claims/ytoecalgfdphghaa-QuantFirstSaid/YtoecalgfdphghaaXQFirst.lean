/- Chapter 31: the first of the busiest. -/
import Derived.Test.YtoecalgfdphghaaXQBusy
import Derived.Test.YtoecalgfdphghaaProg
namespace Go.Proofs.Ytoecalgfdphghaa.Ab
open Go Go.RowKit
set_option linter.unusedVariables false
set_option linter.unusedSimpArgs false

def gleaninglaw31_QuantFirst_k3 (a0 : List RowG) (a1 : Int) (v10_2 : Int) (v11_2 : Int) : Option ((Int × Int) ⊕ (Int ⊕ Bool)) :=
  gd (0 ≤ v11_2) (Option.bind (a0[(Int.toNat v11_2)]?) (fun (x46 : RowG) => if (x46.Level == a1) = true then (gd (0 ≤ v11_2) (Option.bind (a0[(Int.toNat v11_2)]?) (fun (x49 : RowG) => some (Sum.inl ((IntKind.i64.wrap (v10_2 + x49.Counter.Count)), (IntKind.i64.wrap (v11_2 + 1))))))) else (some (Sum.inl (v10_2, (IntKind.i64.wrap (v11_2 + 1)))))))
def gleaninglaw31_QuantFirst_l2 (a0 : List RowG) (a1 : Int) (v10_2 : Int) (v11_2 : Int) : Option ((Int × Int) ⊕ (Int ⊕ Bool)) :=
  if (decide (v11_2 < (List.length a0 : Int))) = true then (Option.bind (gd (0 ≤ v11_2) (Option.bind (a0[(Int.toNat v11_2)]?) (fun (x29 : RowG) => if (decide ((60 : Int) < (ByteArray.size x29.Service : Int))) = true then (some (Sum.inr (Sum.inr (Sum.inr true)))) else (gd (0 ≤ v11_2) (Option.bind (a0[(Int.toNat v11_2)]?) (fun (x33 : RowG) => if (decide ((60 : Int) < (ByteArray.size x33.Op : Int))) = true then (some (Sum.inr (Sum.inr (Sum.inr true)))) else (gd (0 ≤ v11_2) (Option.bind (a0[(Int.toNat v11_2)]?) (fun (x37 : RowG) => if (decide (x37.Counter.Count < 0)) = true then (some (Sum.inr (Sum.inr (Sum.inr true)))) else (gd (0 ≤ v11_2) (Option.bind (a0[(Int.toNat v11_2)]?) (fun (x41 : RowG) => if (decide ((1099511627776 : Int) < x41.Counter.Count)) = true then (some (Sum.inr (Sum.inr (Sum.inr true)))) else (some (Sum.inl ())))))))))))))) (Sum.elim (fun (s : Unit) => gleaninglaw31_QuantFirst_k3 a0 a1 v10_2 v11_2) some)) else (some (Sum.inr (Sum.inl v10_2)))
def gleaninglaw31_QuantFirst_l5 (x55 : List Busy) (v10_5 : Int) (v15_5 : Int) : Option ((Int × Int) ⊕ Bool) :=
  if (decide (v15_5 < (List.length x55 : Int))) = true then (gd (0 ≤ v15_5) (Option.bind (x55[(Int.toNat v15_5)]?) (fun (x81 : Busy) => if (decide ((0 : Int) < v15_5)) = true then (gd (0 ≤ v15_5) (Option.bind (x55[(Int.toNat v15_5)]?) (fun (x85 : Busy) => gd (0 ≤ (IntKind.i64.wrap (v15_5 - 1))) (Option.bind (x55[(Int.toNat (IntKind.i64.wrap (v15_5 - 1)))]?) (fun (x87 : Busy) => if (decide (x87.Count < x85.Count)) = true then (some (Sum.inr false)) else (gd (0 ≤ v15_5) (Option.bind (x55[(Int.toNat v15_5)]?) (fun (x91 : Busy) => gd (0 ≤ (IntKind.i64.wrap (v15_5 - 1))) (Option.bind (x55[(Int.toNat (IntKind.i64.wrap (v15_5 - 1)))]?) (fun (x93 : Busy) => if (ByteArray.toList x91.Service == ByteArray.toList x93.Service) = true then (gd (0 ≤ v15_5) (Option.bind (x55[(Int.toNat v15_5)]?) (fun (x96 : Busy) => gd (0 ≤ (IntKind.i64.wrap (v15_5 - 1))) (Option.bind (x55[(Int.toNat (IntKind.i64.wrap (v15_5 - 1)))]?) (fun (x98 : Busy) => if (ByteArray.toList x96.Op == ByteArray.toList x98.Op) = true then (some (Sum.inr false)) else (some (Sum.inl ((IntKind.i64.wrap (v10_5 - x81.Count)), (IntKind.i64.wrap (v15_5 + 1)))))))))) else (some (Sum.inl ((IntKind.i64.wrap (v10_5 - x81.Count)), (IntKind.i64.wrap (v15_5 + 1))))))))))))))) else (some (Sum.inl ((IntKind.i64.wrap (v10_5 - x81.Count)), (IntKind.i64.wrap (v15_5 + 1)))))))) else (some (Sum.inr (v10_5 == 0)))
def gleaninglaw31_QuantFirst_k4 (v10_1 : Int) (x55 : List Busy) : Option Bool :=
  loopN (fun (s : Int × Int) => gleaninglaw31_QuantFirst_l5 x55 s.1 s.2) Fu (v10_1, 0)
def gleaninglaw31_QuantFirst_k1 (a0 : List RowG) (a1 : Int) (a2 : Int) (a3 : Int) (v10_1 : Int) : Option Bool :=
  Option.bind (quant_Busy a0 a1 a2) (fun (x51 : List Busy) => Option.bind (quant_Busy a0 a1 a3) (fun (x53 : List Busy) => Option.bind (quant_Busy a0 a1 (List.length a0 : Int)) (fun (x55 : List Busy) => Option.bind (if (decide (a2 < (List.length x51 : Int))) = true then (some (Sum.inr false)) else (if (decide ((List.length x53 : Int) < (List.length x51 : Int))) = true then (some (Sum.inr false)) else (gd (0 ≤ (List.length x51 : Int)) (gd ((List.length x51 : Int) ≤ (List.length x53 : Int)) (Option.bind (gleaningref28_SameBusy x51 (List.take (Int.toNat (List.length x51 : Int)) x53)) (fun (x65 : Bool) => if (!x65) = true then (some (Sum.inr false)) else (if (decide ((List.length x51 : Int) < a2)) = true then (if (decide ((List.length x51 : Int) < (List.length x53 : Int))) = true then (some (Sum.inr false)) else (some (Sum.inl ()))) else (some (Sum.inl ()))))))))) (Sum.elim (fun (s : Unit) => gleaninglaw31_QuantFirst_k4 v10_1 x55) some))))
def gleaninglaw31_QuantFirst_k0 (a0 : List RowG) (a1 : Int) (a2 : Int) (a3 : Int) : Option Bool :=
  Option.bind (loopN (fun (s : Int × Int) => gleaninglaw31_QuantFirst_l2 a0 a1 s.1 s.2) Fu (0, 0)) (Sum.elim (fun (s : Int) => gleaninglaw31_QuantFirst_k1 a0 a1 a2 a3 s) some)
def gleaninglaw31_QuantFirst (a0 : List RowG) (a1 : Int) (a2 : Int) (a3 : Int) : Option Bool :=
  Option.bind (gleaninglaw31_alive) (fun (x3 : Bool) => Option.bind (if (!x3) = true then (some (Sum.inr x3)) else (if (decide ((80 : Int) < (List.length a0 : Int))) = true then (some (Sum.inr x3)) else (if (decide (a2 < 0)) = true then (some (Sum.inr x3)) else (if (decide (a3 < a2)) = true then (some (Sum.inr x3)) else (some (Sum.inl ())))))) (Sum.elim (fun (s : Unit) => gleaninglaw31_QuantFirst_k0 a0 a1 a2 a3) some))
set_option maxRecDepth 100000 in
set_option maxHeartbeats 8000000 in
/-- gleaning/gleaninglaw31.QuantFirst -/
theorem gleaninglaw31_QuantFirst_ok (a0 : List RowG) (a1 : Int) (a2 : Int) (a3 : Int) {r : Bool} (h : gleaninglaw31_QuantFirst a0 a1 a2 a3 = some r) : Ok Try.prog 4 [.sl 14 (List.map enc27 a0), .int .i64 a1, .int .i64 a2, .int .i64 a3] [] [] (.bool r) [] [] := by
  unfold gleaninglaw31_QuantFirst at h
  refine ok_of_code Try.func4 rfl (by show (4 : Nat) ≤ _; decide) (Nat.le_refl _) fun X => ?_
  refine aw_seq_k (fun K1 hK1 => ?_)
  refine aw_regL ?_
  refine alP (some 8) rfl rfl (does_assign (v := .bool false) (by exact rfl)) (by decide) ?_
  refine al_nil ?_
  refine hK1 _ ?_
  refine aw_seq_k (fun K2 hK2 => ?_)
  refine aw_regL ?_
  obtain ⟨x3, hx3, h⟩ := bnd_some h
  refine alD (some 16) rfl rfl (do_call0 16 false (gleaninglaw31_alive_ok hx3) rfl ent5 rfl rfl) (by decide) ?_
  refine alP (some 9) rfl rfl (does_assign (v := .bool x3) (by exact rfl)) (by decide) ?_
  refine al_nil ?_
  refine hK2 _ ?_
  obtain ⟨q4, h, hk5⟩ := bnd_some h
  refine aw_cut (fun s => gleaninglaw31_QuantFirst_k0 a0 a1 a2 a3 = some r ∧ s = lit [(0, .sl 14 (List.map enc27 a0)), (1, .int .i64 a1), (2, .int .i64 a2), (3, .int .i64 a3)] [] [] X) ?_ ?_
  · skip
    refine aw_seq_k (fun K6 hK6 => ?_)
    refine aw_regL ?_
    refine alP (some 17) rfl rfl (does_move (v := .bool x3) (by exact rfl)) (by decide) ?_
    refine alP (some 18) rfl rfl (does_un (v := .bool (!x3)) (by conv => lhs; whnf) rfl) (by decide) ?_
    refine alP (some 19) rfl rfl (does_move (v := .bool (!x3)) (by exact rfl)) (by decide) ?_
    refine al_bool (c := (!x3)) 19 rfl (fun c7 => ?_) (fun c7 => ?_)
    · have h := ifT c7 h
      refine alS (some 20) rfl rfl (by decide) ?_
      refine alS (some 21) rfl rfl (by decide) ?_
      refine alS (some 22) rfl rfl (by decide) ?_
      refine alP (some 23) rfl rfl (does_pick (v := .bool true) (by conv => lhs; whnf) (by exact rfl)) (by decide) ?_
      refine alP (some 24) rfl rfl (does_move (v := .bool true) (by exact rfl)) (by decide) ?_
      refine alS (some 25) rfl rfl (by decide) ?_
      refine alS (some 26) rfl rfl (by decide) ?_
      refine alP (some 27) rfl rfl (does_pick (v := .bool true) (by conv => lhs; whnf) (by exact rfl)) (by decide) ?_
      refine alP (some 28) rfl rfl (does_move (v := .bool true) (by exact rfl)) (by decide) ?_
      refine alS (some 29) rfl rfl (by decide) ?_
      refine alS (some 30) rfl rfl (by decide) ?_
      refine alS (some 31) rfl rfl (by decide) ?_
      refine alP (some 32) rfl rfl (does_pick (v := .bool true) (by conv => lhs; whnf) (by exact rfl)) (by decide) ?_
      refine al_nil ?_
      refine hK6 _ ?_
      refine aw_cond_t (by decide) rfl ?_
      refine aw_seq_k (fun K8 hK8 => ?_)
      refine aw_regL ?_
      refine alP (some 33) rfl rfl (does_move (v := .bool x3) (by exact rfl)) (by decide) ?_
      refine alP (some 8) rfl rfl (does_assign (v := .bool x3) (by exact rfl)) (by decide) ?_
      refine al_nil ?_
      refine hK8 _ ?_
      refine aw_ret ?_
      have h := leafR h hk5
      obtain rfl := Option.some.inj h
      exact ret_ok1 (by conv => lhs; whnf) (by conv => lhs; whnf) (by exact rfl) (.inr rfl) rfl
    · have h := ifF c7 h
      refine alP (some 20) rfl rfl (does_move (v := .sl 14 (List.map enc27 a0)) (by exact rfl)) (by decide) ?_
      refine alP (some 21) rfl rfl ((does_len_sl (by conv => lhs; whnf) ty22).castp (v' := .int .i64 (List.length a0 : Int)) (by exact len_map _)) (by decide) ?_
      refine alP (some 22) rfl rfl (does_bin (v := .bool (decide ((80 : Int) < (List.length a0 : Int)))) (by conv => lhs; whnf) (by conv => lhs; whnf) rfl) (by decide) ?_
      refine alP (some 23) rfl rfl (does_pick (v := .bool (decide ((80 : Int) < (List.length a0 : Int)))) (by conv => lhs; whnf) (by exact rfl)) (by decide) ?_
      refine alP (some 24) rfl rfl (does_move (v := .bool (decide ((80 : Int) < (List.length a0 : Int)))) (by exact rfl)) (by decide) ?_
      refine al_bool (c := (decide ((80 : Int) < (List.length a0 : Int)))) 24 rfl (fun c9 => ?_) (fun c9 => ?_)
      · have h := ifT c9 h
        refine alS (some 25) rfl rfl (by decide) ?_
        refine alS (some 26) rfl rfl (by decide) ?_
        refine alP (some 27) rfl rfl (does_pick (v := .bool true) (by conv => lhs; whnf) (by exact rfl)) (by decide) ?_
        refine alP (some 28) rfl rfl (does_move (v := .bool true) (by exact rfl)) (by decide) ?_
        refine alS (some 29) rfl rfl (by decide) ?_
        refine alS (some 30) rfl rfl (by decide) ?_
        refine alS (some 31) rfl rfl (by decide) ?_
        refine alP (some 32) rfl rfl (does_pick (v := .bool true) (by conv => lhs; whnf) (by exact rfl)) (by decide) ?_
        refine al_nil ?_
        refine hK6 _ ?_
        refine aw_cond_t (by decide) rfl ?_
        refine aw_seq_k (fun K10 hK10 => ?_)
        refine aw_regL ?_
        refine alP (some 33) rfl rfl (does_move (v := .bool x3) (by exact rfl)) (by decide) ?_
        refine alP (some 8) rfl rfl (does_assign (v := .bool x3) (by exact rfl)) (by decide) ?_
        refine al_nil ?_
        refine hK10 _ ?_
        refine aw_ret ?_
        have h := leafR h hk5
        obtain rfl := Option.some.inj h
        exact ret_ok1 (by conv => lhs; whnf) (by conv => lhs; whnf) (by exact rfl) (.inr rfl) rfl
      · have h := ifF c9 h
        refine alP (some 25) rfl rfl (does_move (v := .int .i64 a2) (by exact rfl)) (by decide) ?_
        refine alP (some 26) rfl rfl (does_bin (v := .bool (decide (a2 < 0))) (by conv => lhs; whnf) (by conv => lhs; whnf) rfl) (by decide) ?_
        refine alP (some 27) rfl rfl (does_pick (v := .bool (decide (a2 < 0))) (by conv => lhs; whnf) (by exact rfl)) (by decide) ?_
        refine alP (some 28) rfl rfl (does_move (v := .bool (decide (a2 < 0))) (by exact rfl)) (by decide) ?_
        refine al_bool (c := (decide (a2 < 0))) 28 rfl (fun c11 => ?_) (fun c11 => ?_)
        · have h := ifT c11 h
          refine alS (some 29) rfl rfl (by decide) ?_
          refine alS (some 30) rfl rfl (by decide) ?_
          refine alS (some 31) rfl rfl (by decide) ?_
          refine alP (some 32) rfl rfl (does_pick (v := .bool true) (by conv => lhs; whnf) (by exact rfl)) (by decide) ?_
          refine al_nil ?_
          refine hK6 _ ?_
          refine aw_cond_t (by decide) rfl ?_
          refine aw_seq_k (fun K12 hK12 => ?_)
          refine aw_regL ?_
          refine alP (some 33) rfl rfl (does_move (v := .bool x3) (by exact rfl)) (by decide) ?_
          refine alP (some 8) rfl rfl (does_assign (v := .bool x3) (by exact rfl)) (by decide) ?_
          refine al_nil ?_
          refine hK12 _ ?_
          refine aw_ret ?_
          have h := leafR h hk5
          obtain rfl := Option.some.inj h
          exact ret_ok1 (by conv => lhs; whnf) (by conv => lhs; whnf) (by exact rfl) (.inr rfl) rfl
        · have h := ifF c11 h
          refine alP (some 29) rfl rfl (does_move (v := .int .i64 a2) (by exact rfl)) (by decide) ?_
          refine alP (some 30) rfl rfl (does_move (v := .int .i64 a3) (by exact rfl)) (by decide) ?_
          refine alP (some 31) rfl rfl (does_bin (v := .bool (decide (a3 < a2))) (by conv => lhs; whnf) (by conv => lhs; whnf) rfl) (by decide) ?_
          refine alP (some 32) rfl rfl (does_pick (v := .bool (decide (a3 < a2))) (by conv => lhs; whnf) (by exact rfl)) (by decide) ?_
          refine al_nil ?_
          refine hK6 _ ?_
          refine aw_bool (b := (decide (a3 < a2))) 32 rfl (fun c13 => ?_) (fun c13 => ?_)
          · have h := ifT c13 h
            refine aw_cond_t (by decide) rfl ?_
            refine aw_seq_k (fun K14 hK14 => ?_)
            refine aw_regL ?_
            refine alP (some 33) rfl rfl (does_move (v := .bool x3) (by exact rfl)) (by decide) ?_
            refine alP (some 8) rfl rfl (does_assign (v := .bool x3) (by exact rfl)) (by decide) ?_
            refine al_nil ?_
            refine hK14 _ ?_
            refine aw_ret ?_
            have h := leafR h hk5
            obtain rfl := Option.some.inj h
            exact ret_ok1 (by conv => lhs; whnf) (by conv => lhs; whnf) (by exact rfl) (.inr rfl) rfl
          · have h := ifF c13 h
            refine aw_cond_f (by decide) rfl ?_
            refine aw_skip ?_
            have h := leafL h hk5
            exact ⟨_, reb_lit [(0, .sl 14 (List.map enc27 a0)), (1, .int .i64 a1), (2, .int .i64 a2), (3, .int .i64 a3)] [] [] [] (envOk_cons (by conv => lhs; whnf) (by exact rfl) (envOk_cons (by conv => lhs; whnf) (by exact rfl) (envOk_cons (by conv => lhs; whnf) (by exact rfl) (envOk_cons (by conv => lhs; whnf) (by exact rfl) envOk_nil)))) objOk_nil (nodup_b rfl) (nodup_b rfl) rfl rfl, h, rfl⟩
  · rintro s ⟨h, rfl⟩
    unfold gleaninglaw31_QuantFirst_k0 at h
    refine aw_seq_k (fun K15 hK15 => ?_)
    refine aw_regL ?_
    refine alP (some 10) rfl rfl (does_assign (v := .int .i64 0) (by exact rfl)) (by decide) ?_
    refine al_nil ?_
    refine hK15 _ ?_
    obtain ⟨q16, h, hk17⟩ := bnd_some h
    refine aw_cut (fun s => ∃ (v10_1 : Int), gleaninglaw31_QuantFirst_k1 a0 a1 a2 a3 v10_1 = some r ∧ s = lit [(0, .sl 14 (List.map enc27 a0)), (1, .int .i64 a1), (2, .int .i64 a2), (3, .int .i64 a3), (10, .int .i64 v10_1)] [] [] X) ?_ ?_
    · skip
      refine aw_seq_k (fun K18 hK18 => ?_)
      refine aw_regL ?_
      refine alP (some 11) rfl rfl (does_assign (v := .int .i64 0) (by exact rfl)) (by decide) ?_
      refine al_nil ?_
      refine hK18 _ ?_
      refine aw_block ?_
      refine aw_loop' (fun m s => ∃ (v10_2 : Int), ∃ (v11_2 : Int), loopN (fun (s : Int × Int) => gleaninglaw31_QuantFirst_l2 a0 a1 s.1 s.2) m (v10_2, v11_2) = some q16 ∧ s = lit [(0, .sl 14 (List.map enc27 a0)), (1, .int .i64 a1), (2, .int .i64 a2), (3, .int .i64 a3), (10, .int .i64 v10_2), (11, .int .i64 v11_2)] [] [] X) Fu
        ⟨_, reb_lit [(0, .sl 14 (List.map enc27 a0)), (1, .int .i64 a1), (2, .int .i64 a2), (3, .int .i64 a3), (10, .int .i64 (0)), (11, .int .i64 (0))] [] [] [] (envOk_cons (by conv => lhs; whnf) (by exact rfl) (envOk_cons (by conv => lhs; whnf) (by exact rfl) (envOk_cons (by conv => lhs; whnf) (by exact rfl) (envOk_cons (by conv => lhs; whnf) (by exact rfl) (envOk_cons (by conv => lhs; whnf) (by exact rfl) (envOk_cons (by conv => lhs; whnf) (by exact rfl) envOk_nil)))))) objOk_nil (nodup_b rfl) (nodup_b rfl) rfl rfl, 0, 0, h, rfl⟩ ?_
      rintro m s ⟨v10_2, v11_2, h, rfl⟩
      obtain ⟨m2, q19, rfl, h, hq20⟩ := loop_some h
      replace h : gleaninglaw31_QuantFirst_l2 a0 a1 v10_2 v11_2 = some q19 := h
      unfold gleaninglaw31_QuantFirst_l2 at h
      refine aw_seq_k (fun K21 hK21 => ?_)
      refine aw_seq_k (fun K22 hK22 => ?_)
      refine aw_regL ?_
      refine alP (some 34) rfl rfl (does_move (v := .int .i64 v11_2) (by exact rfl)) (by decide) ?_
      refine alP (some 35) rfl rfl (does_move (v := .sl 14 (List.map enc27 a0)) (by exact rfl)) (by decide) ?_
      refine alP (some 36) rfl rfl ((does_len_sl (by conv => lhs; whnf) ty22).castp (v' := .int .i64 (List.length a0 : Int)) (by exact len_map _)) (by decide) ?_
      refine alP (some 37) rfl rfl (does_bin (v := .bool (decide (v11_2 < (List.length a0 : Int)))) (by conv => lhs; whnf) (by conv => lhs; whnf) rfl) (by decide) ?_
      refine al_nil ?_
      refine hK22 _ ?_
      refine aw_bool (b := (decide (v11_2 < (List.length a0 : Int)))) 37 rfl (fun c23 => ?_) (fun c23 => ?_)
      · have h := ifT c23 h
        refine aw_cond_t (by decide) rfl ?_
        refine aw_skip ?_
        refine hK21 _ ?_
        refine aw_seq_k (fun K24 hK24 => ?_)
        refine aw_block ?_
        obtain ⟨q25, h, hk26⟩ := bnd_some h
        refine aw_cut (fun s => gleaninglaw31_QuantFirst_k3 a0 a1 v10_2 v11_2 = some q19 ∧ s = lit [(0, .sl 14 (List.map enc27 a0)), (1, .int .i64 a1), (2, .int .i64 a2), (3, .int .i64 a3), (10, .int .i64 v10_2), (11, .int .i64 v11_2)] [] [] X) ?_ ?_
        · skip
          refine aw_seq_k (fun K27 hK27 => ?_)
          refine aw_regL ?_
          refine alP (some 40) rfl rfl (does_move (v := .sl 14 (List.map enc27 a0)) (by exact rfl)) (by decide) ?_
          refine alP (some 41) rfl rfl (does_move (v := .int .i64 v11_2) (by exact rfl)) (by decide) ?_
          obtain ⟨g28, h⟩ := gd_some h
          obtain ⟨x29, hx29, h⟩ := bnd_some h
          refine alP (some 42) rfl rfl (does_indexAddr_sl (el := .agg [.int .i64 x29.Level, .int .i64 x29.Window, .str x29.Service, .str x29.Op, .int .i64 x29.Counter.Count, .int .i64 x29.Counter.Errs, .int .i64 x29.Counter.By.c0, .int .i64 x29.Counter.By.c1, .int .i64 x29.Counter.By.c2, .int .i64 x29.Counter.By.c3, .int .i64 x29.Counter.By.c4, .int .i64 x29.Counter.By.c5, .int .i64 x29.Counter.By.c6, .int .i64 x29.Counter.By.c7]) (by conv => lhs; whnf) (by conv => lhs; whnf) ty22 ty28 g28 (by exact map_get hx29)) (by decide) ?_
          refine alP (some 43) rfl rfl (does_fieldAddr (q := .rptr [.str x29.Service, .str x29.Op, .int .i64 x29.Counter.Count, .int .i64 x29.Counter.Errs, .int .i64 x29.Counter.By.c0, .int .i64 x29.Counter.By.c1, .int .i64 x29.Counter.By.c2, .int .i64 x29.Counter.By.c3, .int .i64 x29.Counter.By.c4, .int .i64 x29.Counter.By.c5, .int .i64 x29.Counter.By.c6, .int .i64 x29.Counter.By.c7]) (by conv => lhs; whnf) ty28 rfl ty9 (by decide) (by exact rfl)) (by decide) ?_
          refine alR (some 44) rfl rfl (does_load (v := .str x29.Service) (by conv => lhs; whnf) (by conv => lhs; whnf) ty9 (by exact rfl)) (by decide) ?_
          refine alP (some 45) rfl rfl (does_len_str (by conv => lhs; whnf) ty9) (by decide) ?_
          refine alP (some 46) rfl rfl (does_bin (v := .bool (decide ((60 : Int) < (ByteArray.size x29.Service : Int)))) (by conv => lhs; whnf) (by conv => lhs; whnf) rfl) (by decide) ?_
          refine alP (some 47) rfl rfl (does_move (v := .bool (decide ((60 : Int) < (ByteArray.size x29.Service : Int)))) (by exact rfl)) (by decide) ?_
          refine al_bool (c := (decide ((60 : Int) < (ByteArray.size x29.Service : Int)))) 47 rfl (fun c30 => ?_) (fun c30 => ?_)
          · have h := ifT c30 h
            refine al_reb (reb_lit [(0, .sl 14 (List.map enc27 a0)), (1, .int .i64 a1), (2, .int .i64 a2), (3, .int .i64 a3), (10, .int .i64 v10_2), (11, .int .i64 v11_2), (47, .bool true)] [] [] [] (envOk_cons (by conv => lhs; whnf) (by exact rfl) (envOk_cons (by conv => lhs; whnf) (by exact rfl) (envOk_cons (by conv => lhs; whnf) (by exact rfl) (envOk_cons (by conv => lhs; whnf) (by exact rfl) (envOk_cons (by conv => lhs; whnf) (by exact rfl) (envOk_cons (by conv => lhs; whnf) (by exact rfl) (envOk_cons (by conv => lhs; whnf) (by exact rfl) envOk_nil))))))) objOk_nil (nodup_b rfl) (nodup_b rfl) rfl rfl) ?_
            refine alS (some 48) rfl rfl (by decide) ?_
            refine alS (some 49) rfl rfl (by decide) ?_
            refine alS (some 50) rfl rfl (by decide) ?_
            refine alS (some 51) rfl rfl (by decide) ?_
            refine alS (some 52) rfl rfl (by decide) ?_
            refine alS (some 53) rfl rfl (by decide) ?_
            refine alS (some 54) rfl rfl (by decide) ?_
            refine alP (some 55) rfl rfl (does_pick (v := .bool true) (by conv => lhs; whnf) (by exact rfl)) (by decide) ?_
            refine alP (some 56) rfl rfl (does_move (v := .bool true) (by exact rfl)) (by decide) ?_
            refine alS (some 57) rfl rfl (by decide) ?_
            refine alS (some 58) rfl rfl (by decide) ?_
            refine alS (some 59) rfl rfl (by decide) ?_
            refine al_reb (reb_lit [(0, .sl 14 (List.map enc27 a0)), (1, .int .i64 a1), (2, .int .i64 a2), (3, .int .i64 a3), (10, .int .i64 v10_2), (11, .int .i64 v11_2), (56, .bool true), (59, .skip)] [] [] [] (envOk_cons (by conv => lhs; whnf) (by exact rfl) (envOk_cons (by conv => lhs; whnf) (by exact rfl) (envOk_cons (by conv => lhs; whnf) (by exact rfl) (envOk_cons (by conv => lhs; whnf) (by exact rfl) (envOk_cons (by conv => lhs; whnf) (by exact rfl) (envOk_cons (by conv => lhs; whnf) (by exact rfl) (envOk_cons (by conv => lhs; whnf) (by exact rfl) (envOk_cons (by conv => lhs; whnf) (by exact rfl) envOk_nil)))))))) objOk_nil (nodup_b rfl) (nodup_b rfl) rfl rfl) ?_
            refine alS (some 60) rfl rfl (by decide) ?_
            refine alS (some 61) rfl rfl (by decide) ?_
            refine alS (some 62) rfl rfl (by decide) ?_
            refine alS (some 63) rfl rfl (by decide) ?_
            refine alP (some 64) rfl rfl (does_pick (v := .bool true) (by conv => lhs; whnf) (by exact rfl)) (by decide) ?_
            refine alP (some 65) rfl rfl (does_move (v := .bool true) (by exact rfl)) (by decide) ?_
            refine alS (some 66) rfl rfl (by decide) ?_
            refine alS (some 67) rfl rfl (by decide) ?_
            refine alS (some 68) rfl rfl (by decide) ?_
            refine alS (some 69) rfl rfl (by decide) ?_
            refine alS (some 70) rfl rfl (by decide) ?_
            refine alS (some 71) rfl rfl (by decide) ?_
            refine al_reb (reb_lit [(0, .sl 14 (List.map enc27 a0)), (1, .int .i64 a1), (2, .int .i64 a2), (3, .int .i64 a3), (10, .int .i64 v10_2), (11, .int .i64 v11_2), (65, .bool true), (71, .skip)] [] [] [] (envOk_cons (by conv => lhs; whnf) (by exact rfl) (envOk_cons (by conv => lhs; whnf) (by exact rfl) (envOk_cons (by conv => lhs; whnf) (by exact rfl) (envOk_cons (by conv => lhs; whnf) (by exact rfl) (envOk_cons (by conv => lhs; whnf) (by exact rfl) (envOk_cons (by conv => lhs; whnf) (by exact rfl) (envOk_cons (by conv => lhs; whnf) (by exact rfl) (envOk_cons (by conv => lhs; whnf) (by exact rfl) envOk_nil)))))))) objOk_nil (nodup_b rfl) (nodup_b rfl) rfl rfl) ?_
            refine alS (some 72) rfl rfl (by decide) ?_
            refine alP (some 73) rfl rfl (does_pick (v := .bool true) (by conv => lhs; whnf) (by exact rfl)) (by decide) ?_
            refine al_nil ?_
            refine hK27 _ ?_
            refine aw_cond_t (by decide) rfl ?_
            refine aw_seq_k (fun K31 hK31 => ?_)
            refine aw_regL ?_
            refine alP (some 8) rfl rfl (does_assign (v := .bool true) (by exact rfl)) (by decide) ?_
            refine al_nil ?_
            refine hK31 _ ?_
            refine aw_ret ?_
            have h := leafR h hk26
            have h := leafR h hq20
            have h := leafR h hk17
            obtain rfl := Option.some.inj h
            exact ret_ok1 (by conv => lhs; whnf) (by conv => lhs; whnf) (by exact rfl) (.inr rfl) rfl
          · have h := ifF c30 h
            refine al_reb (reb_lit [(0, .sl 14 (List.map enc27 a0)), (1, .int .i64 a1), (2, .int .i64 a2), (3, .int .i64 a3), (10, .int .i64 v10_2), (11, .int .i64 v11_2), (47, .bool false)] [] [] [] (envOk_cons (by conv => lhs; whnf) (by exact rfl) (envOk_cons (by conv => lhs; whnf) (by exact rfl) (envOk_cons (by conv => lhs; whnf) (by exact rfl) (envOk_cons (by conv => lhs; whnf) (by exact rfl) (envOk_cons (by conv => lhs; whnf) (by exact rfl) (envOk_cons (by conv => lhs; whnf) (by exact rfl) (envOk_cons (by conv => lhs; whnf) (by exact rfl) envOk_nil))))))) objOk_nil (nodup_b rfl) (nodup_b rfl) rfl rfl) ?_
            refine alP (some 48) rfl rfl (does_move (v := .sl 14 (List.map enc27 a0)) (by exact rfl)) (by decide) ?_
            refine alP (some 49) rfl rfl (does_move (v := .int .i64 v11_2) (by exact rfl)) (by decide) ?_
            obtain ⟨g32, h⟩ := gd_some h
            obtain ⟨x33, hx33, h⟩ := bnd_some h
            refine alP (some 50) rfl rfl (does_indexAddr_sl (el := .agg [.int .i64 x33.Level, .int .i64 x33.Window, .str x33.Service, .str x33.Op, .int .i64 x33.Counter.Count, .int .i64 x33.Counter.Errs, .int .i64 x33.Counter.By.c0, .int .i64 x33.Counter.By.c1, .int .i64 x33.Counter.By.c2, .int .i64 x33.Counter.By.c3, .int .i64 x33.Counter.By.c4, .int .i64 x33.Counter.By.c5, .int .i64 x33.Counter.By.c6, .int .i64 x33.Counter.By.c7]) (by conv => lhs; whnf) (by conv => lhs; whnf) ty22 ty28 g32 (by exact map_get hx33)) (by decide) ?_
            refine alP (some 51) rfl rfl (does_fieldAddr (q := .rptr [.str x33.Op, .int .i64 x33.Counter.Count, .int .i64 x33.Counter.Errs, .int .i64 x33.Counter.By.c0, .int .i64 x33.Counter.By.c1, .int .i64 x33.Counter.By.c2, .int .i64 x33.Counter.By.c3, .int .i64 x33.Counter.By.c4, .int .i64 x33.Counter.By.c5, .int .i64 x33.Counter.By.c6, .int .i64 x33.Counter.By.c7]) (by conv => lhs; whnf) ty28 rfl ty9 (by decide) (by exact rfl)) (by decide) ?_
            refine alR (some 52) rfl rfl (does_load (v := .str x33.Op) (by conv => lhs; whnf) (by conv => lhs; whnf) ty9 (by exact rfl)) (by decide) ?_
            refine alP (some 53) rfl rfl (does_len_str (by conv => lhs; whnf) ty9) (by decide) ?_
            refine alP (some 54) rfl rfl (does_bin (v := .bool (decide ((60 : Int) < (ByteArray.size x33.Op : Int)))) (by conv => lhs; whnf) (by conv => lhs; whnf) rfl) (by decide) ?_
            refine alP (some 55) rfl rfl (does_pick (v := .bool (decide ((60 : Int) < (ByteArray.size x33.Op : Int)))) (by conv => lhs; whnf) (by exact rfl)) (by decide) ?_
            refine alP (some 56) rfl rfl (does_move (v := .bool (decide ((60 : Int) < (ByteArray.size x33.Op : Int)))) (by exact rfl)) (by decide) ?_
            refine al_bool (c := (decide ((60 : Int) < (ByteArray.size x33.Op : Int)))) 56 rfl (fun c34 => ?_) (fun c34 => ?_)
            · have h := ifT c34 h
              refine alS (some 57) rfl rfl (by decide) ?_
              refine alS (some 58) rfl rfl (by decide) ?_
              refine alS (some 59) rfl rfl (by decide) ?_
              refine al_reb (reb_lit [(0, .sl 14 (List.map enc27 a0)), (1, .int .i64 a1), (2, .int .i64 a2), (3, .int .i64 a3), (10, .int .i64 v10_2), (11, .int .i64 v11_2), (56, .bool true), (59, .skip)] [] [] [] (envOk_cons (by conv => lhs; whnf) (by exact rfl) (envOk_cons (by conv => lhs; whnf) (by exact rfl) (envOk_cons (by conv => lhs; whnf) (by exact rfl) (envOk_cons (by conv => lhs; whnf) (by exact rfl) (envOk_cons (by conv => lhs; whnf) (by exact rfl) (envOk_cons (by conv => lhs; whnf) (by exact rfl) (envOk_cons (by conv => lhs; whnf) (by exact rfl) (envOk_cons (by conv => lhs; whnf) (by exact rfl) envOk_nil)))))))) objOk_nil (nodup_b rfl) (nodup_b rfl) rfl rfl) ?_
              refine alS (some 60) rfl rfl (by decide) ?_
              refine alS (some 61) rfl rfl (by decide) ?_
              refine alS (some 62) rfl rfl (by decide) ?_
              refine alS (some 63) rfl rfl (by decide) ?_
              refine alP (some 64) rfl rfl (does_pick (v := .bool true) (by conv => lhs; whnf) (by exact rfl)) (by decide) ?_
              refine alP (some 65) rfl rfl (does_move (v := .bool true) (by exact rfl)) (by decide) ?_
              refine alS (some 66) rfl rfl (by decide) ?_
              refine alS (some 67) rfl rfl (by decide) ?_
              refine alS (some 68) rfl rfl (by decide) ?_
              refine alS (some 69) rfl rfl (by decide) ?_
              refine alS (some 70) rfl rfl (by decide) ?_
              refine alS (some 71) rfl rfl (by decide) ?_
              refine al_reb (reb_lit [(0, .sl 14 (List.map enc27 a0)), (1, .int .i64 a1), (2, .int .i64 a2), (3, .int .i64 a3), (10, .int .i64 v10_2), (11, .int .i64 v11_2), (65, .bool true), (71, .skip)] [] [] [] (envOk_cons (by conv => lhs; whnf) (by exact rfl) (envOk_cons (by conv => lhs; whnf) (by exact rfl) (envOk_cons (by conv => lhs; whnf) (by exact rfl) (envOk_cons (by conv => lhs; whnf) (by exact rfl) (envOk_cons (by conv => lhs; whnf) (by exact rfl) (envOk_cons (by conv => lhs; whnf) (by exact rfl) (envOk_cons (by conv => lhs; whnf) (by exact rfl) (envOk_cons (by conv => lhs; whnf) (by exact rfl) envOk_nil)))))))) objOk_nil (nodup_b rfl) (nodup_b rfl) rfl rfl) ?_
              refine alS (some 72) rfl rfl (by decide) ?_
              refine alP (some 73) rfl rfl (does_pick (v := .bool true) (by conv => lhs; whnf) (by exact rfl)) (by decide) ?_
              refine al_nil ?_
              refine hK27 _ ?_
              refine aw_cond_t (by decide) rfl ?_
              refine aw_seq_k (fun K35 hK35 => ?_)
              refine aw_regL ?_
              refine alP (some 8) rfl rfl (does_assign (v := .bool true) (by exact rfl)) (by decide) ?_
              refine al_nil ?_
              refine hK35 _ ?_
              refine aw_ret ?_
              have h := leafR h hk26
              have h := leafR h hq20
              have h := leafR h hk17
              obtain rfl := Option.some.inj h
              exact ret_ok1 (by conv => lhs; whnf) (by conv => lhs; whnf) (by exact rfl) (.inr rfl) rfl
            · have h := ifF c34 h
              refine alP (some 57) rfl rfl (does_move (v := .sl 14 (List.map enc27 a0)) (by exact rfl)) (by decide) ?_
              refine alP (some 58) rfl rfl (does_move (v := .int .i64 v11_2) (by exact rfl)) (by decide) ?_
              obtain ⟨g36, h⟩ := gd_some h
              obtain ⟨x37, hx37, h⟩ := bnd_some h
              refine alP (some 59) rfl rfl (does_indexAddr_sl (el := .agg [.int .i64 x37.Level, .int .i64 x37.Window, .str x37.Service, .str x37.Op, .int .i64 x37.Counter.Count, .int .i64 x37.Counter.Errs, .int .i64 x37.Counter.By.c0, .int .i64 x37.Counter.By.c1, .int .i64 x37.Counter.By.c2, .int .i64 x37.Counter.By.c3, .int .i64 x37.Counter.By.c4, .int .i64 x37.Counter.By.c5, .int .i64 x37.Counter.By.c6, .int .i64 x37.Counter.By.c7]) (by conv => lhs; whnf) (by conv => lhs; whnf) ty22 ty28 g36 (by exact map_get hx37)) (by decide) ?_
              refine al_reb (reb_lit [(0, .sl 14 (List.map enc27 a0)), (1, .int .i64 a1), (2, .int .i64 a2), (3, .int .i64 a3), (10, .int .i64 v10_2), (11, .int .i64 v11_2), (56, .bool false), (59, .rptr [.int .i64 x37.Level, .int .i64 x37.Window, .str x37.Service, .str x37.Op, .int .i64 x37.Counter.Count, .int .i64 x37.Counter.Errs, .int .i64 x37.Counter.By.c0, .int .i64 x37.Counter.By.c1, .int .i64 x37.Counter.By.c2, .int .i64 x37.Counter.By.c3, .int .i64 x37.Counter.By.c4, .int .i64 x37.Counter.By.c5, .int .i64 x37.Counter.By.c6, .int .i64 x37.Counter.By.c7])] [] [] [] (envOk_cons (by conv => lhs; whnf) (by exact rfl) (envOk_cons (by conv => lhs; whnf) (by exact rfl) (envOk_cons (by conv => lhs; whnf) (by exact rfl) (envOk_cons (by conv => lhs; whnf) (by exact rfl) (envOk_cons (by conv => lhs; whnf) (by exact rfl) (envOk_cons (by conv => lhs; whnf) (by exact rfl) (envOk_cons (by conv => lhs; whnf) (by exact rfl) (envOk_cons (by conv => lhs; whnf) (by exact rfl) envOk_nil)))))))) objOk_nil (nodup_b rfl) (nodup_b rfl) rfl rfl) ?_
              refine alP (some 60) rfl rfl (does_fieldAddr (q := .rptr [.int .i64 x37.Counter.Count, .int .i64 x37.Counter.Errs, .int .i64 x37.Counter.By.c0, .int .i64 x37.Counter.By.c1, .int .i64 x37.Counter.By.c2, .int .i64 x37.Counter.By.c3, .int .i64 x37.Counter.By.c4, .int .i64 x37.Counter.By.c5, .int .i64 x37.Counter.By.c6, .int .i64 x37.Counter.By.c7]) (by conv => lhs; whnf) ty28 rfl ty26 (by decide) (by exact rfl)) (by decide) ?_
              refine alP (some 61) rfl rfl (does_fieldAddr (q := .rptr [.int .i64 x37.Counter.Count, .int .i64 x37.Counter.Errs, .int .i64 x37.Counter.By.c0, .int .i64 x37.Counter.By.c1, .int .i64 x37.Counter.By.c2, .int .i64 x37.Counter.By.c3, .int .i64 x37.Counter.By.c4, .int .i64 x37.Counter.By.c5, .int .i64 x37.Counter.By.c6, .int .i64 x37.Counter.By.c7]) (by conv => lhs; whnf) ty26 rfl ty3 (by decide) (by exact rfl)) (by decide) ?_
              refine alR (some 62) rfl rfl (does_load (v := .int .i64 x37.Counter.Count) (by conv => lhs; whnf) (by conv => lhs; whnf) ty3 (by exact rfl)) (by decide) ?_
              refine alP (some 63) rfl rfl (does_bin (v := .bool (decide (x37.Counter.Count < 0))) (by conv => lhs; whnf) (by conv => lhs; whnf) rfl) (by decide) ?_
              refine alP (some 64) rfl rfl (does_pick (v := .bool (decide (x37.Counter.Count < 0))) (by conv => lhs; whnf) (by exact rfl)) (by decide) ?_
              refine alP (some 65) rfl rfl (does_move (v := .bool (decide (x37.Counter.Count < 0))) (by exact rfl)) (by decide) ?_
              refine al_bool (c := (decide (x37.Counter.Count < 0))) 65 rfl (fun c38 => ?_) (fun c38 => ?_)
              · have h := ifT c38 h
                refine alS (some 66) rfl rfl (by decide) ?_
                refine alS (some 67) rfl rfl (by decide) ?_
                refine alS (some 68) rfl rfl (by decide) ?_
                refine alS (some 69) rfl rfl (by decide) ?_
                refine alS (some 70) rfl rfl (by decide) ?_
                refine alS (some 71) rfl rfl (by decide) ?_
                refine al_reb (reb_lit [(0, .sl 14 (List.map enc27 a0)), (1, .int .i64 a1), (2, .int .i64 a2), (3, .int .i64 a3), (10, .int .i64 v10_2), (11, .int .i64 v11_2), (65, .bool true), (71, .skip)] [] [] [] (envOk_cons (by conv => lhs; whnf) (by exact rfl) (envOk_cons (by conv => lhs; whnf) (by exact rfl) (envOk_cons (by conv => lhs; whnf) (by exact rfl) (envOk_cons (by conv => lhs; whnf) (by exact rfl) (envOk_cons (by conv => lhs; whnf) (by exact rfl) (envOk_cons (by conv => lhs; whnf) (by exact rfl) (envOk_cons (by conv => lhs; whnf) (by exact rfl) (envOk_cons (by conv => lhs; whnf) (by exact rfl) envOk_nil)))))))) objOk_nil (nodup_b rfl) (nodup_b rfl) rfl rfl) ?_
                refine alS (some 72) rfl rfl (by decide) ?_
                refine alP (some 73) rfl rfl (does_pick (v := .bool true) (by conv => lhs; whnf) (by exact rfl)) (by decide) ?_
                refine al_nil ?_
                refine hK27 _ ?_
                refine aw_cond_t (by decide) rfl ?_
                refine aw_seq_k (fun K39 hK39 => ?_)
                refine aw_regL ?_
                refine alP (some 8) rfl rfl (does_assign (v := .bool true) (by exact rfl)) (by decide) ?_
                refine al_nil ?_
                refine hK39 _ ?_
                refine aw_ret ?_
                have h := leafR h hk26
                have h := leafR h hq20
                have h := leafR h hk17
                obtain rfl := Option.some.inj h
                exact ret_ok1 (by conv => lhs; whnf) (by conv => lhs; whnf) (by exact rfl) (.inr rfl) rfl
              · have h := ifF c38 h
                refine alP (some 66) rfl rfl (does_move (v := .sl 14 (List.map enc27 a0)) (by exact rfl)) (by decide) ?_
                refine alP (some 67) rfl rfl (does_move (v := .int .i64 v11_2) (by exact rfl)) (by decide) ?_
                obtain ⟨g40, h⟩ := gd_some h
                obtain ⟨x41, hx41, h⟩ := bnd_some h
                refine alP (some 68) rfl rfl (does_indexAddr_sl (el := .agg [.int .i64 x41.Level, .int .i64 x41.Window, .str x41.Service, .str x41.Op, .int .i64 x41.Counter.Count, .int .i64 x41.Counter.Errs, .int .i64 x41.Counter.By.c0, .int .i64 x41.Counter.By.c1, .int .i64 x41.Counter.By.c2, .int .i64 x41.Counter.By.c3, .int .i64 x41.Counter.By.c4, .int .i64 x41.Counter.By.c5, .int .i64 x41.Counter.By.c6, .int .i64 x41.Counter.By.c7]) (by conv => lhs; whnf) (by conv => lhs; whnf) ty22 ty28 g40 (by exact map_get hx41)) (by decide) ?_
                refine alP (some 69) rfl rfl (does_fieldAddr (q := .rptr [.int .i64 x41.Counter.Count, .int .i64 x41.Counter.Errs, .int .i64 x41.Counter.By.c0, .int .i64 x41.Counter.By.c1, .int .i64 x41.Counter.By.c2, .int .i64 x41.Counter.By.c3, .int .i64 x41.Counter.By.c4, .int .i64 x41.Counter.By.c5, .int .i64 x41.Counter.By.c6, .int .i64 x41.Counter.By.c7]) (by conv => lhs; whnf) ty28 rfl ty26 (by decide) (by exact rfl)) (by decide) ?_
                refine alP (some 70) rfl rfl (does_fieldAddr (q := .rptr [.int .i64 x41.Counter.Count, .int .i64 x41.Counter.Errs, .int .i64 x41.Counter.By.c0, .int .i64 x41.Counter.By.c1, .int .i64 x41.Counter.By.c2, .int .i64 x41.Counter.By.c3, .int .i64 x41.Counter.By.c4, .int .i64 x41.Counter.By.c5, .int .i64 x41.Counter.By.c6, .int .i64 x41.Counter.By.c7]) (by conv => lhs; whnf) ty26 rfl ty3 (by decide) (by exact rfl)) (by decide) ?_
                refine alR (some 71) rfl rfl (does_load (v := .int .i64 x41.Counter.Count) (by conv => lhs; whnf) (by conv => lhs; whnf) ty3 (by exact rfl)) (by decide) ?_
                refine al_reb (reb_lit [(0, .sl 14 (List.map enc27 a0)), (1, .int .i64 a1), (2, .int .i64 a2), (3, .int .i64 a3), (10, .int .i64 v10_2), (11, .int .i64 v11_2), (65, .bool false), (71, .int .i64 x41.Counter.Count)] [] [] [] (envOk_cons (by conv => lhs; whnf) (by exact rfl) (envOk_cons (by conv => lhs; whnf) (by exact rfl) (envOk_cons (by conv => lhs; whnf) (by exact rfl) (envOk_cons (by conv => lhs; whnf) (by exact rfl) (envOk_cons (by conv => lhs; whnf) (by exact rfl) (envOk_cons (by conv => lhs; whnf) (by exact rfl) (envOk_cons (by conv => lhs; whnf) (by exact rfl) (envOk_cons (by conv => lhs; whnf) (by exact rfl) envOk_nil)))))))) objOk_nil (nodup_b rfl) (nodup_b rfl) rfl rfl) ?_
                refine alP (some 72) rfl rfl (does_bin (v := .bool (decide ((1099511627776 : Int) < x41.Counter.Count))) (by conv => lhs; whnf) (by conv => lhs; whnf) rfl) (by decide) ?_
                refine alP (some 73) rfl rfl (does_pick (v := .bool (decide ((1099511627776 : Int) < x41.Counter.Count))) (by conv => lhs; whnf) (by exact rfl)) (by decide) ?_
                refine al_nil ?_
                refine hK27 _ ?_
                refine aw_bool (b := (decide ((1099511627776 : Int) < x41.Counter.Count))) 73 rfl (fun c42 => ?_) (fun c42 => ?_)
                · have h := ifT c42 h
                  refine aw_cond_t (by decide) rfl ?_
                  refine aw_seq_k (fun K43 hK43 => ?_)
                  refine aw_regL ?_
                  refine alP (some 8) rfl rfl (does_assign (v := .bool true) (by exact rfl)) (by decide) ?_
                  refine al_nil ?_
                  refine hK43 _ ?_
                  refine aw_ret ?_
                  have h := leafR h hk26
                  have h := leafR h hq20
                  have h := leafR h hk17
                  obtain rfl := Option.some.inj h
                  exact ret_ok1 (by conv => lhs; whnf) (by conv => lhs; whnf) (by exact rfl) (.inr rfl) rfl
                · have h := ifF c42 h
                  refine aw_cond_f (by decide) rfl ?_
                  refine aw_skip ?_
                  have h := leafL h hk26
                  exact ⟨_, reb_lit [(0, .sl 14 (List.map enc27 a0)), (1, .int .i64 a1), (2, .int .i64 a2), (3, .int .i64 a3), (10, .int .i64 v10_2), (11, .int .i64 v11_2)] [] [] [] (envOk_cons (by conv => lhs; whnf) (by exact rfl) (envOk_cons (by conv => lhs; whnf) (by exact rfl) (envOk_cons (by conv => lhs; whnf) (by exact rfl) (envOk_cons (by conv => lhs; whnf) (by exact rfl) (envOk_cons (by conv => lhs; whnf) (by exact rfl) (envOk_cons (by conv => lhs; whnf) (by exact rfl) envOk_nil)))))) objOk_nil (nodup_b rfl) (nodup_b rfl) rfl rfl, h, rfl⟩
        · rintro s ⟨h, rfl⟩
          unfold gleaninglaw31_QuantFirst_k3 at h
          refine aw_seq_k (fun K44 hK44 => ?_)
          refine aw_regL ?_
          refine alP (some 74) rfl rfl (does_move (v := .sl 14 (List.map enc27 a0)) (by exact rfl)) (by decide) ?_
          refine alP (some 75) rfl rfl (does_move (v := .int .i64 v11_2) (by exact rfl)) (by decide) ?_
          obtain ⟨g45, h⟩ := gd_some h
          obtain ⟨x46, hx46, h⟩ := bnd_some h
          refine alP (some 76) rfl rfl (does_indexAddr_sl (el := .agg [.int .i64 x46.Level, .int .i64 x46.Window, .str x46.Service, .str x46.Op, .int .i64 x46.Counter.Count, .int .i64 x46.Counter.Errs, .int .i64 x46.Counter.By.c0, .int .i64 x46.Counter.By.c1, .int .i64 x46.Counter.By.c2, .int .i64 x46.Counter.By.c3, .int .i64 x46.Counter.By.c4, .int .i64 x46.Counter.By.c5, .int .i64 x46.Counter.By.c6, .int .i64 x46.Counter.By.c7]) (by conv => lhs; whnf) (by conv => lhs; whnf) ty22 ty28 g45 (by exact map_get hx46)) (by decide) ?_
          refine alP (some 77) rfl rfl (does_fieldAddr (q := .rptr [.int .i64 x46.Level, .int .i64 x46.Window, .str x46.Service, .str x46.Op, .int .i64 x46.Counter.Count, .int .i64 x46.Counter.Errs, .int .i64 x46.Counter.By.c0, .int .i64 x46.Counter.By.c1, .int .i64 x46.Counter.By.c2, .int .i64 x46.Counter.By.c3, .int .i64 x46.Counter.By.c4, .int .i64 x46.Counter.By.c5, .int .i64 x46.Counter.By.c6, .int .i64 x46.Counter.By.c7]) (by conv => lhs; whnf) ty28 rfl ty3 (by decide) (by exact rfl)) (by decide) ?_
          refine alR (some 78) rfl rfl (does_load (v := .int .i64 x46.Level) (by conv => lhs; whnf) (by conv => lhs; whnf) ty3 (by exact rfl)) (by decide) ?_
          refine alP (some 79) rfl rfl (does_move (v := .int .i64 a1) (by exact rfl)) (by decide) ?_
          refine alP (some 80) rfl rfl (does_bin (v := .bool (x46.Level == a1)) (by conv => lhs; whnf) (by conv => lhs; whnf) rfl) (by decide) ?_
          refine al_nil ?_
          refine hK44 _ ?_
          refine aw_bool (b := (x46.Level == a1)) 80 rfl (fun c47 => ?_) (fun c47 => ?_)
          · have h := ifT c47 h
            refine aw_cond_t (by decide) rfl ?_
            refine aw_regL ?_
            refine alP (some 81) rfl rfl (does_move (v := .int .i64 v10_2) (by exact rfl)) (by decide) ?_
            refine alP (some 82) rfl rfl (does_move (v := .sl 14 (List.map enc27 a0)) (by exact rfl)) (by decide) ?_
            refine alP (some 83) rfl rfl (does_move (v := .int .i64 v11_2) (by exact rfl)) (by decide) ?_
            obtain ⟨g48, h⟩ := gd_some h
            obtain ⟨x49, hx49, h⟩ := bnd_some h
            refine alP (some 84) rfl rfl (does_indexAddr_sl (el := .agg [.int .i64 x49.Level, .int .i64 x49.Window, .str x49.Service, .str x49.Op, .int .i64 x49.Counter.Count, .int .i64 x49.Counter.Errs, .int .i64 x49.Counter.By.c0, .int .i64 x49.Counter.By.c1, .int .i64 x49.Counter.By.c2, .int .i64 x49.Counter.By.c3, .int .i64 x49.Counter.By.c4, .int .i64 x49.Counter.By.c5, .int .i64 x49.Counter.By.c6, .int .i64 x49.Counter.By.c7]) (by conv => lhs; whnf) (by conv => lhs; whnf) ty22 ty28 g48 (by exact map_get hx49)) (by decide) ?_
            refine alP (some 85) rfl rfl (does_fieldAddr (q := .rptr [.int .i64 x49.Counter.Count, .int .i64 x49.Counter.Errs, .int .i64 x49.Counter.By.c0, .int .i64 x49.Counter.By.c1, .int .i64 x49.Counter.By.c2, .int .i64 x49.Counter.By.c3, .int .i64 x49.Counter.By.c4, .int .i64 x49.Counter.By.c5, .int .i64 x49.Counter.By.c6, .int .i64 x49.Counter.By.c7]) (by conv => lhs; whnf) ty28 rfl ty26 (by decide) (by exact rfl)) (by decide) ?_
            refine alP (some 86) rfl rfl (does_fieldAddr (q := .rptr [.int .i64 x49.Counter.Count, .int .i64 x49.Counter.Errs, .int .i64 x49.Counter.By.c0, .int .i64 x49.Counter.By.c1, .int .i64 x49.Counter.By.c2, .int .i64 x49.Counter.By.c3, .int .i64 x49.Counter.By.c4, .int .i64 x49.Counter.By.c5, .int .i64 x49.Counter.By.c6, .int .i64 x49.Counter.By.c7]) (by conv => lhs; whnf) ty26 rfl ty3 (by decide) (by exact rfl)) (by decide) ?_
            refine alR (some 87) rfl rfl (does_load (v := .int .i64 x49.Counter.Count) (by conv => lhs; whnf) (by conv => lhs; whnf) ty3 (by exact rfl)) (by decide) ?_
            refine alP (some 88) rfl rfl (does_bin (v := .int .i64 (IntKind.i64.wrap (v10_2 + x49.Counter.Count))) (by conv => lhs; whnf) (by conv => lhs; whnf) rfl) (by decide) ?_
            refine alP (some 10) rfl rfl (does_assign (v := .int .i64 (IntKind.i64.wrap (v10_2 + x49.Counter.Count))) (by exact rfl)) (by decide) ?_
            refine al_nil ?_
            refine hK24 _ ?_
            refine aw_regL ?_
            refine alP (some 38) rfl rfl (does_move (v := .int .i64 v11_2) (by exact rfl)) (by decide) ?_
            refine alP (some 39) rfl rfl (does_bin (v := .int .i64 (IntKind.i64.wrap (v11_2 + 1))) (by conv => lhs; whnf) (by conv => lhs; whnf) rfl) (by decide) ?_
            refine alP (some 11) rfl rfl (does_assign (v := .int .i64 (IntKind.i64.wrap (v11_2 + 1))) (by exact rfl)) (by decide) ?_
            refine al_nil ?_
            have h := leafL h hq20
            exact ⟨m2, Nat.lt_succ_self _, _, reb_lit [(0, .sl 14 (List.map enc27 a0)), (1, .int .i64 a1), (2, .int .i64 a2), (3, .int .i64 a3), (10, .int .i64 (IntKind.i64.wrap (v10_2 + x49.Counter.Count))), (11, .int .i64 (IntKind.i64.wrap (v11_2 + 1)))] [] [] [] (envOk_cons (by conv => lhs; whnf) (by exact rfl) (envOk_cons (by conv => lhs; whnf) (by exact rfl) (envOk_cons (by conv => lhs; whnf) (by exact rfl) (envOk_cons (by conv => lhs; whnf) (by exact rfl) (envOk_cons (by conv => lhs; whnf) (by exact rfl) (envOk_cons (by conv => lhs; whnf) (by exact rfl) envOk_nil)))))) objOk_nil (nodup_b rfl) (nodup_b rfl) rfl rfl, (IntKind.i64.wrap (v10_2 + x49.Counter.Count)), (IntKind.i64.wrap (v11_2 + 1)), h, rfl⟩
          · have h := ifF c47 h
            refine aw_cond_f (by decide) rfl ?_
            refine aw_skip ?_
            refine hK24 _ ?_
            refine aw_regL ?_
            refine alP (some 38) rfl rfl (does_move (v := .int .i64 v11_2) (by exact rfl)) (by decide) ?_
            refine alP (some 39) rfl rfl (does_bin (v := .int .i64 (IntKind.i64.wrap (v11_2 + 1))) (by conv => lhs; whnf) (by conv => lhs; whnf) rfl) (by decide) ?_
            refine alP (some 11) rfl rfl (does_assign (v := .int .i64 (IntKind.i64.wrap (v11_2 + 1))) (by exact rfl)) (by decide) ?_
            refine al_nil ?_
            have h := leafL h hq20
            exact ⟨m2, Nat.lt_succ_self _, _, reb_lit [(0, .sl 14 (List.map enc27 a0)), (1, .int .i64 a1), (2, .int .i64 a2), (3, .int .i64 a3), (10, .int .i64 v10_2), (11, .int .i64 (IntKind.i64.wrap (v11_2 + 1)))] [] [] [] (envOk_cons (by conv => lhs; whnf) (by exact rfl) (envOk_cons (by conv => lhs; whnf) (by exact rfl) (envOk_cons (by conv => lhs; whnf) (by exact rfl) (envOk_cons (by conv => lhs; whnf) (by exact rfl) (envOk_cons (by conv => lhs; whnf) (by exact rfl) (envOk_cons (by conv => lhs; whnf) (by exact rfl) envOk_nil)))))) objOk_nil (nodup_b rfl) (nodup_b rfl) rfl rfl, v10_2, (IntKind.i64.wrap (v11_2 + 1)), h, rfl⟩
      · have h := ifF c23 h
        refine aw_cond_f (by decide) rfl ?_
        refine aw_exit ?_
        have h := leafR h hq20
        have h := leafL h hk17
        exact ⟨_, reb_lit [(0, .sl 14 (List.map enc27 a0)), (1, .int .i64 a1), (2, .int .i64 a2), (3, .int .i64 a3), (10, .int .i64 v10_2)] [] [] [] (envOk_cons (by conv => lhs; whnf) (by exact rfl) (envOk_cons (by conv => lhs; whnf) (by exact rfl) (envOk_cons (by conv => lhs; whnf) (by exact rfl) (envOk_cons (by conv => lhs; whnf) (by exact rfl) (envOk_cons (by conv => lhs; whnf) (by exact rfl) envOk_nil))))) objOk_nil (nodup_b rfl) (nodup_b rfl) rfl rfl, v10_2, h, rfl⟩
    · rintro s ⟨v10_1, h, rfl⟩
      unfold gleaninglaw31_QuantFirst_k1 at h
      refine aw_seq_k (fun K50 hK50 => ?_)
      refine aw_regL ?_
      refine alP (some 89) rfl rfl (does_move (v := .sl 14 (List.map enc27 a0)) (by exact rfl)) (by decide) ?_
      refine alP (some 90) rfl rfl (does_move (v := .int .i64 a1) (by exact rfl)) (by decide) ?_
      refine alP (some 91) rfl rfl (does_move (v := .int .i64 a2) (by exact rfl)) (by decide) ?_
      obtain ⟨x51, hx51, h⟩ := bnd_some h
      refine alD (some 92) rfl rfl (do_call0 92 false (quant_Busy_ok a0 a1 a2 hx51) rfl ent7 rfl rfl) (by decide) ?_
      refine alP (some 12) rfl rfl (does_assign (v := .sl 4 (List.map enc33 x51)) (by exact rfl)) (by decide) ?_
      refine al_nil ?_
      refine hK50 _ ?_
      refine aw_seq_k (fun K52 hK52 => ?_)
      refine aw_regL ?_
      refine alP (some 93) rfl rfl (does_move (v := .sl 14 (List.map enc27 a0)) (by exact rfl)) (by decide) ?_
      refine alP (some 94) rfl rfl (does_move (v := .int .i64 a1) (by exact rfl)) (by decide) ?_
      refine alP (some 95) rfl rfl (does_move (v := .int .i64 a3) (by exact rfl)) (by decide) ?_
      obtain ⟨x53, hx53, h⟩ := bnd_some h
      refine alD (some 96) rfl rfl (do_call0 96 false (quant_Busy_ok a0 a1 a3 hx53) rfl ent7 rfl rfl) (by decide) ?_
      refine alP (some 13) rfl rfl (does_assign (v := .sl 4 (List.map enc33 x53)) (by exact rfl)) (by decide) ?_
      refine al_nil ?_
      refine hK52 _ ?_
      refine aw_seq_k (fun K54 hK54 => ?_)
      refine aw_regL ?_
      refine alP (some 97) rfl rfl (does_move (v := .sl 14 (List.map enc27 a0)) (by exact rfl)) (by decide) ?_
      refine alP (some 98) rfl rfl (does_move (v := .int .i64 a1) (by exact rfl)) (by decide) ?_
      refine alP (some 99) rfl rfl (does_move (v := .sl 14 (List.map enc27 a0)) (by exact rfl)) (by decide) ?_
      refine alP (some 100) rfl rfl ((does_len_sl (by conv => lhs; whnf) ty22).castp (v' := .int .i64 (List.length a0 : Int)) (by exact len_map _)) (by decide) ?_
      obtain ⟨x55, hx55, h⟩ := bnd_some h
      refine alD (some 101) rfl rfl (do_call0 101 false (quant_Busy_ok a0 a1 (List.length a0 : Int) hx55) rfl ent7 rfl rfl) (by decide) ?_
      refine alP (some 14) rfl rfl (does_assign (v := .sl 4 (List.map enc33 x55)) (by exact rfl)) (by decide) ?_
      refine al_nil ?_
      refine hK54 _ ?_
      obtain ⟨q56, h, hk57⟩ := bnd_some h
      refine aw_cut (fun s => gleaninglaw31_QuantFirst_k4 v10_1 x55 = some r ∧ s = lit [(10, .int .i64 v10_1), (14, .sl 4 (List.map enc33 x55))] [] [] X) ?_ ?_
      · skip
        refine aw_seq_k (fun K58 hK58 => ?_)
        refine aw_regL ?_
        refine al_reb (reb_lit [(2, .int .i64 a2), (10, .int .i64 v10_1), (12, .sl 4 (List.map enc33 x51)), (13, .sl 4 (List.map enc33 x53)), (14, .sl 4 (List.map enc33 x55))] [] [] [] (envOk_cons (by conv => lhs; whnf) (by exact rfl) (envOk_cons (by conv => lhs; whnf) (by exact rfl) (envOk_cons (by conv => lhs; whnf) (by exact rfl) (envOk_cons (by conv => lhs; whnf) (by exact rfl) (envOk_cons (by conv => lhs; whnf) (by exact rfl) envOk_nil))))) objOk_nil (nodup_b rfl) (nodup_b rfl) rfl rfl) ?_
        refine alP (some 102) rfl rfl (does_move (v := .sl 4 (List.map enc33 x51)) (by exact rfl)) (by decide) ?_
        refine alP (some 103) rfl rfl ((does_len_sl (by conv => lhs; whnf) ty30).castp (v' := .int .i64 (List.length x51 : Int)) (by exact len_map _)) (by decide) ?_
        refine alP (some 104) rfl rfl (does_move (v := .int .i64 a2) (by exact rfl)) (by decide) ?_
        refine alP (some 105) rfl rfl (does_bin (v := .bool (decide (a2 < (List.length x51 : Int)))) (by conv => lhs; whnf) (by conv => lhs; whnf) rfl) (by decide) ?_
        refine alP (some 106) rfl rfl (does_move (v := .bool (decide (a2 < (List.length x51 : Int)))) (by exact rfl)) (by decide) ?_
        refine al_bool (c := (decide (a2 < (List.length x51 : Int)))) 106 rfl (fun c59 => ?_) (fun c59 => ?_)
        · have h := ifT c59 h
          refine alS (some 107) rfl rfl (by decide) ?_
          refine alS (some 108) rfl rfl (by decide) ?_
          refine alS (some 109) rfl rfl (by decide) ?_
          refine alS (some 110) rfl rfl (by decide) ?_
          refine alS (some 111) rfl rfl (by decide) ?_
          refine alP (some 112) rfl rfl (does_pick (v := .bool true) (by conv => lhs; whnf) (by exact rfl)) (by decide) ?_
          refine alP (some 113) rfl rfl (does_move (v := .bool true) (by exact rfl)) (by decide) ?_
          refine al_reb (reb_lit [(2, .int .i64 a2), (10, .int .i64 v10_1), (12, .sl 4 (List.map enc33 x51)), (13, .sl 4 (List.map enc33 x53)), (14, .sl 4 (List.map enc33 x55)), (113, .bool true)] [] [] [] (envOk_cons (by conv => lhs; whnf) (by exact rfl) (envOk_cons (by conv => lhs; whnf) (by exact rfl) (envOk_cons (by conv => lhs; whnf) (by exact rfl) (envOk_cons (by conv => lhs; whnf) (by exact rfl) (envOk_cons (by conv => lhs; whnf) (by exact rfl) (envOk_cons (by conv => lhs; whnf) (by exact rfl) envOk_nil)))))) objOk_nil (nodup_b rfl) (nodup_b rfl) rfl rfl) ?_
          refine alS (some 114) rfl rfl (by decide) ?_
          refine alS (some 115) rfl rfl (by decide) ?_
          refine alS (some 116) rfl rfl (by decide) ?_
          refine alS (some 117) rfl rfl (by decide) ?_
          refine alS (some 118) rfl rfl (by decide) ?_
          refine alS (some 119) rfl rfl (by decide) ?_
          refine alS (some 120) rfl rfl (by decide) ?_
          refine alP (some 121) rfl rfl (does_pick (v := .bool true) (by conv => lhs; whnf) (by exact rfl)) (by decide) ?_
          refine alP (some 122) rfl rfl (does_move (v := .bool true) (by exact rfl)) (by decide) ?_
          refine alS (some 123) rfl rfl (by decide) ?_
          refine alS (some 124) rfl rfl (by decide) ?_
          refine alS (some 125) rfl rfl (by decide) ?_
          refine al_reb (reb_lit [(10, .int .i64 v10_1), (12, .sl 4 (List.map enc33 x51)), (13, .sl 4 (List.map enc33 x53)), (14, .sl 4 (List.map enc33 x55)), (122, .bool true), (124, .skip), (125, .skip)] [] [] [] (envOk_cons (by conv => lhs; whnf) (by exact rfl) (envOk_cons (by conv => lhs; whnf) (by exact rfl) (envOk_cons (by conv => lhs; whnf) (by exact rfl) (envOk_cons (by conv => lhs; whnf) (by exact rfl) (envOk_cons (by conv => lhs; whnf) (by exact rfl) (envOk_cons (by conv => lhs; whnf) (by exact rfl) (envOk_cons (by conv => lhs; whnf) (by exact rfl) envOk_nil))))))) objOk_nil (nodup_b rfl) (nodup_b rfl) rfl rfl) ?_
          refine alS (some 126) rfl rfl (by decide) ?_
          refine alS (some 127) rfl rfl (by decide) ?_
          refine alS (some 128) rfl rfl (by decide) ?_
          refine alS (some 129) rfl rfl (by decide) ?_
          refine alS (some 130) rfl rfl (by decide) ?_
          refine alS (some 131) rfl rfl (by decide) ?_
          refine alS (some 132) rfl rfl (by decide) ?_
          refine alS (some 133) rfl rfl (by decide) ?_
          refine alP (some 134) rfl rfl (does_pick (v := .bool true) (by conv => lhs; whnf) (by exact rfl)) (by decide) ?_
          refine al_nil ?_
          refine hK58 _ ?_
          refine aw_cond_t (by decide) rfl ?_
          refine aw_seq_k (fun K60 hK60 => ?_)
          refine aw_regL ?_
          refine alP (some 8) rfl rfl (does_assign (v := .bool false) (by exact rfl)) (by decide) ?_
          refine al_nil ?_
          refine hK60 _ ?_
          refine aw_ret ?_
          have h := leafR h hk57
          obtain rfl := Option.some.inj h
          exact ret_ok1 (by conv => lhs; whnf) (by conv => lhs; whnf) (by exact rfl) (.inr rfl) rfl
        · have h := ifF c59 h
          refine alP (some 107) rfl rfl (does_move (v := .sl 4 (List.map enc33 x51)) (by exact rfl)) (by decide) ?_
          refine alP (some 108) rfl rfl ((does_len_sl (by conv => lhs; whnf) ty30).castp (v' := .int .i64 (List.length x51 : Int)) (by exact len_map _)) (by decide) ?_
          refine alP (some 109) rfl rfl (does_move (v := .sl 4 (List.map enc33 x53)) (by exact rfl)) (by decide) ?_
          refine alP (some 110) rfl rfl ((does_len_sl (by conv => lhs; whnf) ty30).castp (v' := .int .i64 (List.length x53 : Int)) (by exact len_map _)) (by decide) ?_
          refine alP (some 111) rfl rfl (does_bin (v := .bool (decide ((List.length x53 : Int) < (List.length x51 : Int)))) (by conv => lhs; whnf) (by conv => lhs; whnf) rfl) (by decide) ?_
          refine alP (some 112) rfl rfl (does_pick (v := .bool (decide ((List.length x53 : Int) < (List.length x51 : Int)))) (by conv => lhs; whnf) (by exact rfl)) (by decide) ?_
          refine alP (some 113) rfl rfl (does_move (v := .bool (decide ((List.length x53 : Int) < (List.length x51 : Int)))) (by exact rfl)) (by decide) ?_
          refine al_bool (c := (decide ((List.length x53 : Int) < (List.length x51 : Int)))) 113 rfl (fun c61 => ?_) (fun c61 => ?_)
          · have h := ifT c61 h
            refine al_reb (reb_lit [(2, .int .i64 a2), (10, .int .i64 v10_1), (12, .sl 4 (List.map enc33 x51)), (13, .sl 4 (List.map enc33 x53)), (14, .sl 4 (List.map enc33 x55)), (113, .bool true)] [] [] [] (envOk_cons (by conv => lhs; whnf) (by exact rfl) (envOk_cons (by conv => lhs; whnf) (by exact rfl) (envOk_cons (by conv => lhs; whnf) (by exact rfl) (envOk_cons (by conv => lhs; whnf) (by exact rfl) (envOk_cons (by conv => lhs; whnf) (by exact rfl) (envOk_cons (by conv => lhs; whnf) (by exact rfl) envOk_nil)))))) objOk_nil (nodup_b rfl) (nodup_b rfl) rfl rfl) ?_
            refine alS (some 114) rfl rfl (by decide) ?_
            refine alS (some 115) rfl rfl (by decide) ?_
            refine alS (some 116) rfl rfl (by decide) ?_
            refine alS (some 117) rfl rfl (by decide) ?_
            refine alS (some 118) rfl rfl (by decide) ?_
            refine alS (some 119) rfl rfl (by decide) ?_
            refine alS (some 120) rfl rfl (by decide) ?_
            refine alP (some 121) rfl rfl (does_pick (v := .bool true) (by conv => lhs; whnf) (by exact rfl)) (by decide) ?_
            refine alP (some 122) rfl rfl (does_move (v := .bool true) (by exact rfl)) (by decide) ?_
            refine alS (some 123) rfl rfl (by decide) ?_
            refine alS (some 124) rfl rfl (by decide) ?_
            refine alS (some 125) rfl rfl (by decide) ?_
            refine al_reb (reb_lit [(10, .int .i64 v10_1), (12, .sl 4 (List.map enc33 x51)), (13, .sl 4 (List.map enc33 x53)), (14, .sl 4 (List.map enc33 x55)), (122, .bool true), (124, .skip), (125, .skip)] [] [] [] (envOk_cons (by conv => lhs; whnf) (by exact rfl) (envOk_cons (by conv => lhs; whnf) (by exact rfl) (envOk_cons (by conv => lhs; whnf) (by exact rfl) (envOk_cons (by conv => lhs; whnf) (by exact rfl) (envOk_cons (by conv => lhs; whnf) (by exact rfl) (envOk_cons (by conv => lhs; whnf) (by exact rfl) (envOk_cons (by conv => lhs; whnf) (by exact rfl) envOk_nil))))))) objOk_nil (nodup_b rfl) (nodup_b rfl) rfl rfl) ?_
            refine alS (some 126) rfl rfl (by decide) ?_
            refine alS (some 127) rfl rfl (by decide) ?_
            refine alS (some 128) rfl rfl (by decide) ?_
            refine alS (some 129) rfl rfl (by decide) ?_
            refine alS (some 130) rfl rfl (by decide) ?_
            refine alS (some 131) rfl rfl (by decide) ?_
            refine alS (some 132) rfl rfl (by decide) ?_
            refine alS (some 133) rfl rfl (by decide) ?_
            refine alP (some 134) rfl rfl (does_pick (v := .bool true) (by conv => lhs; whnf) (by exact rfl)) (by decide) ?_
            refine al_nil ?_
            refine hK58 _ ?_
            refine aw_cond_t (by decide) rfl ?_
            refine aw_seq_k (fun K62 hK62 => ?_)
            refine aw_regL ?_
            refine alP (some 8) rfl rfl (does_assign (v := .bool false) (by exact rfl)) (by decide) ?_
            refine al_nil ?_
            refine hK62 _ ?_
            refine aw_ret ?_
            have h := leafR h hk57
            obtain rfl := Option.some.inj h
            exact ret_ok1 (by conv => lhs; whnf) (by conv => lhs; whnf) (by exact rfl) (.inr rfl) rfl
          · have h := ifF c61 h
            refine al_reb (reb_lit [(2, .int .i64 a2), (10, .int .i64 v10_1), (12, .sl 4 (List.map enc33 x51)), (13, .sl 4 (List.map enc33 x53)), (14, .sl 4 (List.map enc33 x55)), (113, .bool false)] [] [] [] (envOk_cons (by conv => lhs; whnf) (by exact rfl) (envOk_cons (by conv => lhs; whnf) (by exact rfl) (envOk_cons (by conv => lhs; whnf) (by exact rfl) (envOk_cons (by conv => lhs; whnf) (by exact rfl) (envOk_cons (by conv => lhs; whnf) (by exact rfl) (envOk_cons (by conv => lhs; whnf) (by exact rfl) envOk_nil)))))) objOk_nil (nodup_b rfl) (nodup_b rfl) rfl rfl) ?_
            refine alP (some 114) rfl rfl (does_move (v := .sl 4 (List.map enc33 x51)) (by exact rfl)) (by decide) ?_
            refine alP (some 115) rfl rfl (does_move (v := .sl 4 (List.map enc33 x53)) (by exact rfl)) (by decide) ?_
            refine alP (some 116) rfl rfl (does_move (v := .sl 4 (List.map enc33 x51)) (by exact rfl)) (by decide) ?_
            refine alP (some 117) rfl rfl ((does_len_sl (by conv => lhs; whnf) ty30).castp (v' := .int .i64 (List.length x51 : Int)) (by exact len_map _)) (by decide) ?_
            obtain ⟨g63, h⟩ := gd_some h
            obtain ⟨g64, h⟩ := gd_some h
            refine alP (some 118) rfl rfl (does_slice_sl (l := 0) (k := (Int.toNat (List.length x51 : Int))) (by conv => lhs; whnf) ty30 ty34 bd_none (bd_some (by conv => lhs; whnf) (by exact (nat_of (by omega)))) (by (try simp only [List.length_map]); omega) (by (try simp only [List.length_map]); omega) (by exact part_h _ _)) (by decide) ?_
            obtain ⟨x65, hx65, h⟩ := bnd_some h
            refine alD (some 119) rfl rfl ((do_call0 119 false (gleaningref28_SameBusy_ok x51 (List.take (Int.toNat (List.length x51 : Int)) x53) hx65) rfl ent6 rfl rfl).fx (y := ⟨[], .bool x65, [], [119]⟩) rfl) (by decide) ?_
            refine alP (some 120) rfl rfl (does_un (v := .bool (!x65)) (by conv => lhs; whnf) rfl) (by decide) ?_
            refine alP (some 121) rfl rfl (does_pick (v := .bool (!x65)) (by conv => lhs; whnf) (by exact rfl)) (by decide) ?_
            refine alP (some 122) rfl rfl (does_move (v := .bool (!x65)) (by exact rfl)) (by decide) ?_
            refine al_bool (c := (!x65)) 122 rfl (fun c66 => ?_) (fun c66 => ?_)
            · have h := ifT c66 h
              refine alS (some 123) rfl rfl (by decide) ?_
              refine alS (some 124) rfl rfl (by decide) ?_
              refine alS (some 125) rfl rfl (by decide) ?_
              refine al_reb (reb_lit [(10, .int .i64 v10_1), (12, .sl 4 (List.map enc33 x51)), (13, .sl 4 (List.map enc33 x53)), (14, .sl 4 (List.map enc33 x55)), (122, .bool true), (124, .skip), (125, .skip)] [] [] [] (envOk_cons (by conv => lhs; whnf) (by exact rfl) (envOk_cons (by conv => lhs; whnf) (by exact rfl) (envOk_cons (by conv => lhs; whnf) (by exact rfl) (envOk_cons (by conv => lhs; whnf) (by exact rfl) (envOk_cons (by conv => lhs; whnf) (by exact rfl) (envOk_cons (by conv => lhs; whnf) (by exact rfl) (envOk_cons (by conv => lhs; whnf) (by exact rfl) envOk_nil))))))) objOk_nil (nodup_b rfl) (nodup_b rfl) rfl rfl) ?_
              refine alS (some 126) rfl rfl (by decide) ?_
              refine alS (some 127) rfl rfl (by decide) ?_
              refine alS (some 128) rfl rfl (by decide) ?_
              refine alS (some 129) rfl rfl (by decide) ?_
              refine alS (some 130) rfl rfl (by decide) ?_
              refine alS (some 131) rfl rfl (by decide) ?_
              refine alS (some 132) rfl rfl (by decide) ?_
              refine alS (some 133) rfl rfl (by decide) ?_
              refine alP (some 134) rfl rfl (does_pick (v := .bool true) (by conv => lhs; whnf) (by exact rfl)) (by decide) ?_
              refine al_nil ?_
              refine hK58 _ ?_
              refine aw_cond_t (by decide) rfl ?_
              refine aw_seq_k (fun K67 hK67 => ?_)
              refine aw_regL ?_
              refine alP (some 8) rfl rfl (does_assign (v := .bool false) (by exact rfl)) (by decide) ?_
              refine al_nil ?_
              refine hK67 _ ?_
              refine aw_ret ?_
              have h := leafR h hk57
              obtain rfl := Option.some.inj h
              exact ret_ok1 (by conv => lhs; whnf) (by conv => lhs; whnf) (by exact rfl) (.inr rfl) rfl
            · have h := ifF c66 h
              refine alP (some 123) rfl rfl (does_move (v := .sl 4 (List.map enc33 x51)) (by exact rfl)) (by decide) ?_
              refine alP (some 124) rfl rfl ((does_len_sl (by conv => lhs; whnf) ty30).castp (v' := .int .i64 (List.length x51 : Int)) (by exact len_map _)) (by decide) ?_
              refine alP (some 125) rfl rfl (does_move (v := .int .i64 a2) (by exact rfl)) (by decide) ?_
              refine al_reb (reb_lit [(10, .int .i64 v10_1), (12, .sl 4 (List.map enc33 x51)), (13, .sl 4 (List.map enc33 x53)), (14, .sl 4 (List.map enc33 x55)), (122, .bool false), (124, .int .i64 (List.length x51 : Int)), (125, .int .i64 a2)] [] [] [] (envOk_cons (by conv => lhs; whnf) (by exact rfl) (envOk_cons (by conv => lhs; whnf) (by exact rfl) (envOk_cons (by conv => lhs; whnf) (by exact rfl) (envOk_cons (by conv => lhs; whnf) (by exact rfl) (envOk_cons (by conv => lhs; whnf) (by exact rfl) (envOk_cons (by conv => lhs; whnf) (by exact rfl) (envOk_cons (by conv => lhs; whnf) (by exact rfl) envOk_nil))))))) objOk_nil (nodup_b rfl) (nodup_b rfl) rfl rfl) ?_
              refine alP (some 126) rfl rfl (does_bin (v := .bool (decide ((List.length x51 : Int) < a2))) (by conv => lhs; whnf) (by conv => lhs; whnf) rfl) (by decide) ?_
              refine alP (some 127) rfl rfl (does_move (v := .bool (decide ((List.length x51 : Int) < a2))) (by exact rfl)) (by decide) ?_
              refine al_bool (c := (decide ((List.length x51 : Int) < a2))) 127 rfl (fun c68 => ?_) (fun c68 => ?_)
              · have h := ifT c68 h
                refine alP (some 128) rfl rfl (does_move (v := .sl 4 (List.map enc33 x53)) (by exact rfl)) (by decide) ?_
                refine alP (some 129) rfl rfl ((does_len_sl (by conv => lhs; whnf) ty30).castp (v' := .int .i64 (List.length x53 : Int)) (by exact len_map _)) (by decide) ?_
                refine alP (some 130) rfl rfl (does_move (v := .sl 4 (List.map enc33 x51)) (by exact rfl)) (by decide) ?_
                refine alP (some 131) rfl rfl ((does_len_sl (by conv => lhs; whnf) ty30).castp (v' := .int .i64 (List.length x51 : Int)) (by exact len_map _)) (by decide) ?_
                refine alP (some 132) rfl rfl (does_bin (v := .bool (decide ((List.length x51 : Int) < (List.length x53 : Int)))) (by conv => lhs; whnf) (by conv => lhs; whnf) rfl) (by decide) ?_
                refine alP (some 133) rfl rfl (does_pick (v := .bool (decide ((List.length x51 : Int) < (List.length x53 : Int)))) (by conv => lhs; whnf) (by exact rfl)) (by decide) ?_
                refine alP (some 134) rfl rfl (does_pick (v := .bool (decide ((List.length x51 : Int) < (List.length x53 : Int)))) (by conv => lhs; whnf) (by exact rfl)) (by decide) ?_
                refine al_nil ?_
                refine hK58 _ ?_
                refine aw_bool (b := (decide ((List.length x51 : Int) < (List.length x53 : Int)))) 134 rfl (fun c69 => ?_) (fun c69 => ?_)
                · have h := ifT c69 h
                  refine aw_cond_t (by decide) rfl ?_
                  refine aw_seq_k (fun K70 hK70 => ?_)
                  refine aw_regL ?_
                  refine alP (some 8) rfl rfl (does_assign (v := .bool false) (by exact rfl)) (by decide) ?_
                  refine al_nil ?_
                  refine hK70 _ ?_
                  refine aw_ret ?_
                  have h := leafR h hk57
                  obtain rfl := Option.some.inj h
                  exact ret_ok1 (by conv => lhs; whnf) (by conv => lhs; whnf) (by exact rfl) (.inr rfl) rfl
                · have h := ifF c69 h
                  refine aw_cond_f (by decide) rfl ?_
                  refine aw_skip ?_
                  have h := leafL h hk57
                  exact ⟨_, reb_lit [(10, .int .i64 v10_1), (14, .sl 4 (List.map enc33 x55))] [] [] [] (envOk_cons (by conv => lhs; whnf) (by exact rfl) (envOk_cons (by conv => lhs; whnf) (by exact rfl) envOk_nil)) objOk_nil (nodup_b rfl) (nodup_b rfl) rfl rfl, h, rfl⟩
              · have h := ifF c68 h
                refine alS (some 128) rfl rfl (by decide) ?_
                refine alS (some 129) rfl rfl (by decide) ?_
                refine alS (some 130) rfl rfl (by decide) ?_
                refine alS (some 131) rfl rfl (by decide) ?_
                refine alS (some 132) rfl rfl (by decide) ?_
                refine alP (some 133) rfl rfl (does_pick (v := .bool false) (by conv => lhs; whnf) (by exact rfl)) (by decide) ?_
                refine alP (some 134) rfl rfl (does_pick (v := .bool false) (by conv => lhs; whnf) (by exact rfl)) (by decide) ?_
                refine al_nil ?_
                refine hK58 _ ?_
                refine aw_cond_f (by decide) rfl ?_
                refine aw_skip ?_
                have h := leafL h hk57
                exact ⟨_, reb_lit [(10, .int .i64 v10_1), (14, .sl 4 (List.map enc33 x55))] [] [] [] (envOk_cons (by conv => lhs; whnf) (by exact rfl) (envOk_cons (by conv => lhs; whnf) (by exact rfl) envOk_nil)) objOk_nil (nodup_b rfl) (nodup_b rfl) rfl rfl, h, rfl⟩
      · rintro s ⟨h, rfl⟩
        unfold gleaninglaw31_QuantFirst_k4 at h
        refine aw_seq_k (fun K71 hK71 => ?_)
        refine aw_seq_k (fun K72 hK72 => ?_)
        refine aw_regL ?_
        refine alP (some 15) rfl rfl (does_assign (v := .int .i64 0) (by exact rfl)) (by decide) ?_
        refine al_nil ?_
        refine hK72 _ ?_
        refine aw_block ?_
        refine aw_loop' (fun m s => ∃ (v10_5 : Int), ∃ (v15_5 : Int), loopN (fun (s : Int × Int) => gleaninglaw31_QuantFirst_l5 x55 s.1 s.2) m (v10_5, v15_5) = some r ∧ s = lit [(10, .int .i64 v10_5), (14, .sl 4 (List.map enc33 x55)), (15, .int .i64 v15_5)] [] [] X) Fu
          ⟨_, reb_lit [(10, .int .i64 v10_1), (14, .sl 4 (List.map enc33 x55)), (15, .int .i64 (0))] [] [] [] (envOk_cons (by conv => lhs; whnf) (by exact rfl) (envOk_cons (by conv => lhs; whnf) (by exact rfl) (envOk_cons (by conv => lhs; whnf) (by exact rfl) envOk_nil))) objOk_nil (nodup_b rfl) (nodup_b rfl) rfl rfl, v10_1, 0, h, rfl⟩ ?_
        rintro m s ⟨v10_5, v15_5, h, rfl⟩
        obtain ⟨m5, q73, rfl, h, hq74⟩ := loop_some h
        replace h : gleaninglaw31_QuantFirst_l5 x55 v10_5 v15_5 = some q73 := h
        unfold gleaninglaw31_QuantFirst_l5 at h
        refine aw_seq_k (fun K75 hK75 => ?_)
        refine aw_seq_k (fun K76 hK76 => ?_)
        refine aw_regL ?_
        refine alP (some 135) rfl rfl (does_move (v := .int .i64 v15_5) (by exact rfl)) (by decide) ?_
        refine alP (some 136) rfl rfl (does_move (v := .sl 4 (List.map enc33 x55)) (by exact rfl)) (by decide) ?_
        refine alP (some 137) rfl rfl ((does_len_sl (by conv => lhs; whnf) ty30).castp (v' := .int .i64 (List.length x55 : Int)) (by exact len_map _)) (by decide) ?_
        refine alP (some 138) rfl rfl (does_bin (v := .bool (decide (v15_5 < (List.length x55 : Int)))) (by conv => lhs; whnf) (by conv => lhs; whnf) rfl) (by decide) ?_
        refine al_nil ?_
        refine hK76 _ ?_
        refine aw_bool (b := (decide (v15_5 < (List.length x55 : Int)))) 138 rfl (fun c77 => ?_) (fun c77 => ?_)
        · have h := ifT c77 h
          refine aw_cond_t (by decide) rfl ?_
          refine aw_skip ?_
          refine hK75 _ ?_
          refine aw_seq_k (fun K78 hK78 => ?_)
          refine aw_block ?_
          refine aw_seq_k (fun K79 hK79 => ?_)
          refine aw_regL ?_
          refine alP (some 141) rfl rfl (does_move (v := .int .i64 v10_5) (by exact rfl)) (by decide) ?_
          refine alP (some 142) rfl rfl (does_move (v := .sl 4 (List.map enc33 x55)) (by exact rfl)) (by decide) ?_
          refine alP (some 143) rfl rfl (does_move (v := .int .i64 v15_5) (by exact rfl)) (by decide) ?_
          obtain ⟨g80, h⟩ := gd_some h
          obtain ⟨x81, hx81, h⟩ := bnd_some h
          refine alP (some 144) rfl rfl (does_indexAddr_sl (el := .agg [.str x81.Service, .str x81.Op, .int .i64 x81.Count, .int .i64 x81.Errs]) (by conv => lhs; whnf) (by conv => lhs; whnf) ty30 ty34 g80 (by exact map_get hx81)) (by decide) ?_
          refine alP (some 145) rfl rfl (does_fieldAddr (q := .rptr [.int .i64 x81.Count, .int .i64 x81.Errs]) (by conv => lhs; whnf) ty34 rfl ty3 (by decide) (by exact rfl)) (by decide) ?_
          refine alR (some 146) rfl rfl (does_load (v := .int .i64 x81.Count) (by conv => lhs; whnf) (by conv => lhs; whnf) ty3 (by exact rfl)) (by decide) ?_
          refine alP (some 147) rfl rfl (does_bin (v := .int .i64 (IntKind.i64.wrap (v10_5 - x81.Count))) (by conv => lhs; whnf) (by conv => lhs; whnf) rfl) (by decide) ?_
          refine alP (some 10) rfl rfl (does_assign (v := .int .i64 (IntKind.i64.wrap (v10_5 - x81.Count))) (by exact rfl)) (by decide) ?_
          refine al_nil ?_
          refine hK79 _ ?_
          refine aw_seq_k (fun K82 hK82 => ?_)
          refine aw_regd (by kernel_rfl) (by decide +kernel) ?_
          refine aoP (some 148) rfl rfl (does_move (v := .int .i64 v15_5) (by exact rfl)) (by decide) ?_
          refine aoP (some 149) rfl rfl (does_bin (v := .bool (decide ((0 : Int) < v15_5))) (by conv => lhs; whnf) (by conv => lhs; whnf) rfl) (by decide) ?_
          refine aoP (some 150) rfl rfl (does_move (v := .bool (decide ((0 : Int) < v15_5))) (by exact rfl)) (by decide) ?_
          refine ao_bool (c := (decide ((0 : Int) < v15_5))) 150 rfl (fun c83 => ?_) (fun c83 => ?_)
          · have h := ifT c83 h
            refine aoP (some 151) rfl rfl (does_move (v := .sl 4 (List.map enc33 x55)) (by exact rfl)) (by decide) ?_
            refine aoP (some 152) rfl rfl (does_move (v := .int .i64 v15_5) (by exact rfl)) (by decide) ?_
            obtain ⟨g84, h⟩ := gd_some h
            obtain ⟨x85, hx85, h⟩ := bnd_some h
            refine aoP (some 153) rfl rfl (does_indexAddr_sl (el := .agg [.str x85.Service, .str x85.Op, .int .i64 x85.Count, .int .i64 x85.Errs]) (by conv => lhs; whnf) (by conv => lhs; whnf) ty30 ty34 g84 (by exact map_get hx85)) (by decide) ?_
            refine aoP (some 154) rfl rfl (does_fieldAddr (q := .rptr [.int .i64 x85.Count, .int .i64 x85.Errs]) (by conv => lhs; whnf) ty34 rfl ty3 (by decide) (by exact rfl)) (by decide) ?_
            refine aoR (some 155) rfl rfl (does_load (v := .int .i64 x85.Count) (by conv => lhs; whnf) (by conv => lhs; whnf) ty3 (by exact rfl)) (by decide) ?_
            refine aoP (some 156) rfl rfl (does_move (v := .sl 4 (List.map enc33 x55)) (by exact rfl)) (by decide) ?_
            refine aoP (some 157) rfl rfl (does_move (v := .int .i64 v15_5) (by exact rfl)) (by decide) ?_
            refine aoP (some 158) rfl rfl (does_bin (v := .int .i64 (IntKind.i64.wrap (v15_5 - 1))) (by conv => lhs; whnf) (by conv => lhs; whnf) rfl) (by decide) ?_
            obtain ⟨g86, h⟩ := gd_some h
            obtain ⟨x87, hx87, h⟩ := bnd_some h
            refine aoP (some 159) rfl rfl (does_indexAddr_sl (el := .agg [.str x87.Service, .str x87.Op, .int .i64 x87.Count, .int .i64 x87.Errs]) (by conv => lhs; whnf) (by conv => lhs; whnf) ty30 ty34 g86 (by exact map_get hx87)) (by decide) ?_
            refine aoP (some 160) rfl rfl (does_fieldAddr (q := .rptr [.int .i64 x87.Count, .int .i64 x87.Errs]) (by conv => lhs; whnf) ty34 rfl ty3 (by decide) (by exact rfl)) (by decide) ?_
            refine aoR (some 161) rfl rfl (does_load (v := .int .i64 x87.Count) (by conv => lhs; whnf) (by conv => lhs; whnf) ty3 (by exact rfl)) (by decide) ?_
            refine aoP (some 162) rfl rfl (does_bin (v := .bool (decide (x87.Count < x85.Count))) (by conv => lhs; whnf) (by conv => lhs; whnf) rfl) (by decide) ?_
            refine aoP (some 163) rfl rfl (does_move (v := .bool (decide (x87.Count < x85.Count))) (by exact rfl)) (by decide) ?_
            refine ao_bool (c := (decide (x87.Count < x85.Count))) 163 rfl (fun c88 => ?_) (fun c88 => ?_)
            · have h := ifT c88 h
              refine aoS (some 164) rfl rfl (by decide) ?_
              refine aoS (some 165) rfl rfl (by decide) ?_
              refine aoS (some 166) rfl rfl (by decide) ?_
              refine aoS (some 167) rfl rfl (by decide) ?_
              refine aoS (some 168) rfl rfl (by decide) ?_
              refine aoS (some 169) rfl rfl (by decide) ?_
              refine aoS (some 170) rfl rfl (by decide) ?_
              refine aoS (some 171) rfl rfl (by decide) ?_
              refine aoS (some 172) rfl rfl (by decide) ?_
              refine aoS (some 173) rfl rfl (by decide) ?_
              refine aoS (some 174) rfl rfl (by decide) ?_
              refine aoS (some 175) rfl rfl (by decide) ?_
              refine aoS (some 176) rfl rfl (by decide) ?_
              refine aoS (some 177) rfl rfl (by decide) ?_
              refine aoS (some 178) rfl rfl (by decide) ?_
              refine aoS (some 179) rfl rfl (by decide) ?_
              refine aoS (some 180) rfl rfl (by decide) ?_
              refine aoS (some 181) rfl rfl (by decide) ?_
              refine aoS (some 182) rfl rfl (by decide) ?_
              refine aoS (some 183) rfl rfl (by decide) ?_
              refine aoS (some 184) rfl rfl (by decide) ?_
              refine aoS (some 185) rfl rfl (by decide) ?_
              refine aoS (some 186) rfl rfl (by decide) ?_
              refine aoS (some 187) rfl rfl (by decide) ?_
              refine aoS (some 188) rfl rfl (by decide) ?_
              refine aoS (some 189) rfl rfl (by decide) ?_
              refine aoP (some 190) rfl rfl (does_pick (v := .bool true) (by conv => lhs; whnf) (by exact rfl)) (by decide) ?_
              refine aoP (some 191) rfl rfl (does_pick (v := .bool true) (by conv => lhs; whnf) (by exact rfl)) (by decide) ?_
              refine ao_nil_d (by kernel_rfl) ?_
              refine hK82 _ ?_
              refine aw_cond_t (by decide) rfl ?_
              refine aw_seq_k (fun K89 hK89 => ?_)
              refine aw_regL ?_
              refine alP (some 8) rfl rfl (does_assign (v := .bool false) (by exact rfl)) (by decide) ?_
              refine al_nil ?_
              refine hK89 _ ?_
              refine aw_ret ?_
              have h := leafR h hq74
              obtain rfl := Option.some.inj h
              exact ret_ok1 (by conv => lhs; whnf) (by conv => lhs; whnf) (by exact rfl) (.inr rfl) rfl
            · have h := ifF c88 h
              refine aoP (some 164) rfl rfl (does_move (v := .sl 4 (List.map enc33 x55)) (by exact rfl)) (by decide) ?_
              refine aoP (some 165) rfl rfl (does_move (v := .int .i64 v15_5) (by exact rfl)) (by decide) ?_
              obtain ⟨g90, h⟩ := gd_some h
              obtain ⟨x91, hx91, h⟩ := bnd_some h
              refine aoP (some 166) rfl rfl (does_indexAddr_sl (el := .agg [.str x91.Service, .str x91.Op, .int .i64 x91.Count, .int .i64 x91.Errs]) (by conv => lhs; whnf) (by conv => lhs; whnf) ty30 ty34 g90 (by exact map_get hx91)) (by decide) ?_
              refine aoP (some 167) rfl rfl (does_fieldAddr (q := .rptr [.str x91.Service, .str x91.Op, .int .i64 x91.Count, .int .i64 x91.Errs]) (by conv => lhs; whnf) ty34 rfl ty9 (by decide) (by exact rfl)) (by decide) ?_
              refine aoR (some 168) rfl rfl (does_load (v := .str x91.Service) (by conv => lhs; whnf) (by conv => lhs; whnf) ty9 (by exact rfl)) (by decide) ?_
              refine aoP (some 169) rfl rfl (does_move (v := .sl 4 (List.map enc33 x55)) (by exact rfl)) (by decide) ?_
              refine aoP (some 170) rfl rfl (does_move (v := .int .i64 v15_5) (by exact rfl)) (by decide) ?_
              refine aoP (some 171) rfl rfl (does_bin (v := .int .i64 (IntKind.i64.wrap (v15_5 - 1))) (by conv => lhs; whnf) (by conv => lhs; whnf) rfl) (by decide) ?_
              obtain ⟨g92, h⟩ := gd_some h
              obtain ⟨x93, hx93, h⟩ := bnd_some h
              refine aoP (some 172) rfl rfl (does_indexAddr_sl (el := .agg [.str x93.Service, .str x93.Op, .int .i64 x93.Count, .int .i64 x93.Errs]) (by conv => lhs; whnf) (by conv => lhs; whnf) ty30 ty34 g92 (by exact map_get hx93)) (by decide) ?_
              refine aoP (some 173) rfl rfl (does_fieldAddr (q := .rptr [.str x93.Service, .str x93.Op, .int .i64 x93.Count, .int .i64 x93.Errs]) (by conv => lhs; whnf) ty34 rfl ty9 (by decide) (by exact rfl)) (by decide) ?_
              refine aoR (some 174) rfl rfl (does_load (v := .str x93.Service) (by conv => lhs; whnf) (by conv => lhs; whnf) ty9 (by exact rfl)) (by decide) ?_
              refine aoP (some 175) rfl rfl (does_bin (v := .bool (ByteArray.toList x91.Service == ByteArray.toList x93.Service)) (by conv => lhs; whnf) (by conv => lhs; whnf) rfl) (by decide) ?_
              refine aoP (some 176) rfl rfl (does_move (v := .bool (ByteArray.toList x91.Service == ByteArray.toList x93.Service)) (by exact rfl)) (by decide) ?_
              refine ao_bool (c := (ByteArray.toList x91.Service == ByteArray.toList x93.Service)) 176 rfl (fun c94 => ?_) (fun c94 => ?_)
              · have h := ifT c94 h
                refine aoP (some 177) rfl rfl (does_move (v := .sl 4 (List.map enc33 x55)) (by exact rfl)) (by decide) ?_
                refine aoP (some 178) rfl rfl (does_move (v := .int .i64 v15_5) (by exact rfl)) (by decide) ?_
                obtain ⟨g95, h⟩ := gd_some h
                obtain ⟨x96, hx96, h⟩ := bnd_some h
                refine aoP (some 179) rfl rfl (does_indexAddr_sl (el := .agg [.str x96.Service, .str x96.Op, .int .i64 x96.Count, .int .i64 x96.Errs]) (by conv => lhs; whnf) (by conv => lhs; whnf) ty30 ty34 g95 (by exact map_get hx96)) (by decide) ?_
                refine aoP (some 180) rfl rfl (does_fieldAddr (q := .rptr [.str x96.Op, .int .i64 x96.Count, .int .i64 x96.Errs]) (by conv => lhs; whnf) ty34 rfl ty9 (by decide) (by exact rfl)) (by decide) ?_
                refine aoR (some 181) rfl rfl (does_load (v := .str x96.Op) (by conv => lhs; whnf) (by conv => lhs; whnf) ty9 (by exact rfl)) (by decide) ?_
                refine aoP (some 182) rfl rfl (does_move (v := .sl 4 (List.map enc33 x55)) (by exact rfl)) (by decide) ?_
                refine aoP (some 183) rfl rfl (does_move (v := .int .i64 v15_5) (by exact rfl)) (by decide) ?_
                refine aoP (some 184) rfl rfl (does_bin (v := .int .i64 (IntKind.i64.wrap (v15_5 - 1))) (by conv => lhs; whnf) (by conv => lhs; whnf) rfl) (by decide) ?_
                obtain ⟨g97, h⟩ := gd_some h
                obtain ⟨x98, hx98, h⟩ := bnd_some h
                refine aoP (some 185) rfl rfl (does_indexAddr_sl (el := .agg [.str x98.Service, .str x98.Op, .int .i64 x98.Count, .int .i64 x98.Errs]) (by conv => lhs; whnf) (by conv => lhs; whnf) ty30 ty34 g97 (by exact map_get hx98)) (by decide) ?_
                refine aoP (some 186) rfl rfl (does_fieldAddr (q := .rptr [.str x98.Op, .int .i64 x98.Count, .int .i64 x98.Errs]) (by conv => lhs; whnf) ty34 rfl ty9 (by decide) (by exact rfl)) (by decide) ?_
                refine aoR (some 187) rfl rfl (does_load (v := .str x98.Op) (by conv => lhs; whnf) (by conv => lhs; whnf) ty9 (by exact rfl)) (by decide) ?_
                refine aoP (some 188) rfl rfl (does_bin (v := .bool (ByteArray.toList x96.Op == ByteArray.toList x98.Op)) (by conv => lhs; whnf) (by conv => lhs; whnf) rfl) (by decide) ?_
                refine aoP (some 189) rfl rfl (does_pick (v := .bool (ByteArray.toList x96.Op == ByteArray.toList x98.Op)) (by conv => lhs; whnf) (by exact rfl)) (by decide) ?_
                refine aoP (some 190) rfl rfl (does_pick (v := .bool (ByteArray.toList x96.Op == ByteArray.toList x98.Op)) (by conv => lhs; whnf) (by exact rfl)) (by decide) ?_
                refine aoP (some 191) rfl rfl (does_pick (v := .bool (ByteArray.toList x96.Op == ByteArray.toList x98.Op)) (by conv => lhs; whnf) (by exact rfl)) (by decide) ?_
                refine ao_nil_d (by kernel_rfl) ?_
                refine hK82 _ ?_
                refine aw_bool (b := (ByteArray.toList x96.Op == ByteArray.toList x98.Op)) 191 rfl (fun c99 => ?_) (fun c99 => ?_)
                · have h := ifT c99 h
                  refine aw_cond_t (by decide) rfl ?_
                  refine aw_seq_k (fun K100 hK100 => ?_)
                  refine aw_regL ?_
                  refine alP (some 8) rfl rfl (does_assign (v := .bool false) (by exact rfl)) (by decide) ?_
                  refine al_nil ?_
                  refine hK100 _ ?_
                  refine aw_ret ?_
                  have h := leafR h hq74
                  obtain rfl := Option.some.inj h
                  exact ret_ok1 (by conv => lhs; whnf) (by conv => lhs; whnf) (by exact rfl) (.inr rfl) rfl
                · have h := ifF c99 h
                  refine aw_cond_f (by decide) rfl ?_
                  refine aw_skip ?_
                  refine hK78 _ ?_
                  refine aw_regL ?_
                  refine alP (some 139) rfl rfl (does_move (v := .int .i64 v15_5) (by exact rfl)) (by decide) ?_
                  refine alP (some 140) rfl rfl (does_bin (v := .int .i64 (IntKind.i64.wrap (v15_5 + 1))) (by conv => lhs; whnf) (by conv => lhs; whnf) rfl) (by decide) ?_
                  refine alP (some 15) rfl rfl (does_assign (v := .int .i64 (IntKind.i64.wrap (v15_5 + 1))) (by exact rfl)) (by decide) ?_
                  refine al_nil ?_
                  have h := leafL h hq74
                  exact ⟨m5, Nat.lt_succ_self _, _, reb_lit [(10, .int .i64 (IntKind.i64.wrap (v10_5 - x81.Count))), (14, .sl 4 (List.map enc33 x55)), (15, .int .i64 (IntKind.i64.wrap (v15_5 + 1)))] [] [] [] (envOk_cons (by conv => lhs; whnf) (by exact rfl) (envOk_cons (by conv => lhs; whnf) (by exact rfl) (envOk_cons (by conv => lhs; whnf) (by exact rfl) envOk_nil))) objOk_nil (nodup_b rfl) (nodup_b rfl) rfl rfl, (IntKind.i64.wrap (v10_5 - x81.Count)), (IntKind.i64.wrap (v15_5 + 1)), h, rfl⟩
              · have h := ifF c94 h
                refine aoS (some 177) rfl rfl (by decide) ?_
                refine aoS (some 178) rfl rfl (by decide) ?_
                refine aoS (some 179) rfl rfl (by decide) ?_
                refine aoS (some 180) rfl rfl (by decide) ?_
                refine aoS (some 181) rfl rfl (by decide) ?_
                refine aoS (some 182) rfl rfl (by decide) ?_
                refine aoS (some 183) rfl rfl (by decide) ?_
                refine aoS (some 184) rfl rfl (by decide) ?_
                refine aoS (some 185) rfl rfl (by decide) ?_
                refine aoS (some 186) rfl rfl (by decide) ?_
                refine aoS (some 187) rfl rfl (by decide) ?_
                refine aoS (some 188) rfl rfl (by decide) ?_
                refine aoP (some 189) rfl rfl (does_pick (v := .bool false) (by conv => lhs; whnf) (by exact rfl)) (by decide) ?_
                refine aoP (some 190) rfl rfl (does_pick (v := .bool false) (by conv => lhs; whnf) (by exact rfl)) (by decide) ?_
                refine aoP (some 191) rfl rfl (does_pick (v := .bool false) (by conv => lhs; whnf) (by exact rfl)) (by decide) ?_
                refine ao_nil_d (by kernel_rfl) ?_
                refine hK82 _ ?_
                refine aw_cond_f (by decide) rfl ?_
                refine aw_skip ?_
                refine hK78 _ ?_
                refine aw_regL ?_
                refine alP (some 139) rfl rfl (does_move (v := .int .i64 v15_5) (by exact rfl)) (by decide) ?_
                refine alP (some 140) rfl rfl (does_bin (v := .int .i64 (IntKind.i64.wrap (v15_5 + 1))) (by conv => lhs; whnf) (by conv => lhs; whnf) rfl) (by decide) ?_
                refine alP (some 15) rfl rfl (does_assign (v := .int .i64 (IntKind.i64.wrap (v15_5 + 1))) (by exact rfl)) (by decide) ?_
                refine al_nil ?_
                have h := leafL h hq74
                exact ⟨m5, Nat.lt_succ_self _, _, reb_lit [(10, .int .i64 (IntKind.i64.wrap (v10_5 - x81.Count))), (14, .sl 4 (List.map enc33 x55)), (15, .int .i64 (IntKind.i64.wrap (v15_5 + 1)))] [] [] [] (envOk_cons (by conv => lhs; whnf) (by exact rfl) (envOk_cons (by conv => lhs; whnf) (by exact rfl) (envOk_cons (by conv => lhs; whnf) (by exact rfl) envOk_nil))) objOk_nil (nodup_b rfl) (nodup_b rfl) rfl rfl, (IntKind.i64.wrap (v10_5 - x81.Count)), (IntKind.i64.wrap (v15_5 + 1)), h, rfl⟩
          · have h := ifF c83 h
            refine aoS (some 151) rfl rfl (by decide) ?_
            refine aoS (some 152) rfl rfl (by decide) ?_
            refine aoS (some 153) rfl rfl (by decide) ?_
            refine aoS (some 154) rfl rfl (by decide) ?_
            refine aoS (some 155) rfl rfl (by decide) ?_
            refine aoS (some 156) rfl rfl (by decide) ?_
            refine aoS (some 157) rfl rfl (by decide) ?_
            refine aoS (some 158) rfl rfl (by decide) ?_
            refine aoS (some 159) rfl rfl (by decide) ?_
            refine aoS (some 160) rfl rfl (by decide) ?_
            refine aoS (some 161) rfl rfl (by decide) ?_
            refine aoS (some 162) rfl rfl (by decide) ?_
            refine aoS (some 163) rfl rfl (by decide) ?_
            refine aoS (some 164) rfl rfl (by decide) ?_
            refine aoS (some 165) rfl rfl (by decide) ?_
            refine aoS (some 166) rfl rfl (by decide) ?_
            refine aoS (some 167) rfl rfl (by decide) ?_
            refine aoS (some 168) rfl rfl (by decide) ?_
            refine aoS (some 169) rfl rfl (by decide) ?_
            refine aoS (some 170) rfl rfl (by decide) ?_
            refine aoS (some 171) rfl rfl (by decide) ?_
            refine aoS (some 172) rfl rfl (by decide) ?_
            refine aoS (some 173) rfl rfl (by decide) ?_
            refine aoS (some 174) rfl rfl (by decide) ?_
            refine aoS (some 175) rfl rfl (by decide) ?_
            refine aoS (some 176) rfl rfl (by decide) ?_
            refine aoS (some 177) rfl rfl (by decide) ?_
            refine aoS (some 178) rfl rfl (by decide) ?_
            refine aoS (some 179) rfl rfl (by decide) ?_
            refine aoS (some 180) rfl rfl (by decide) ?_
            refine aoS (some 181) rfl rfl (by decide) ?_
            refine aoS (some 182) rfl rfl (by decide) ?_
            refine aoS (some 183) rfl rfl (by decide) ?_
            refine aoS (some 184) rfl rfl (by decide) ?_
            refine aoS (some 185) rfl rfl (by decide) ?_
            refine aoS (some 186) rfl rfl (by decide) ?_
            refine aoS (some 187) rfl rfl (by decide) ?_
            refine aoS (some 188) rfl rfl (by decide) ?_
            refine aoS (some 189) rfl rfl (by decide) ?_
            refine aoS (some 190) rfl rfl (by decide) ?_
            refine aoP (some 191) rfl rfl (does_pick (v := .bool false) (by conv => lhs; whnf) (by exact rfl)) (by decide) ?_
            refine ao_nil_d (by kernel_rfl) ?_
            refine hK82 _ ?_
            refine aw_cond_f (by decide) rfl ?_
            refine aw_skip ?_
            refine hK78 _ ?_
            refine aw_regL ?_
            refine alP (some 139) rfl rfl (does_move (v := .int .i64 v15_5) (by exact rfl)) (by decide) ?_
            refine alP (some 140) rfl rfl (does_bin (v := .int .i64 (IntKind.i64.wrap (v15_5 + 1))) (by conv => lhs; whnf) (by conv => lhs; whnf) rfl) (by decide) ?_
            refine alP (some 15) rfl rfl (does_assign (v := .int .i64 (IntKind.i64.wrap (v15_5 + 1))) (by exact rfl)) (by decide) ?_
            refine al_nil ?_
            have h := leafL h hq74
            exact ⟨m5, Nat.lt_succ_self _, _, reb_lit [(10, .int .i64 (IntKind.i64.wrap (v10_5 - x81.Count))), (14, .sl 4 (List.map enc33 x55)), (15, .int .i64 (IntKind.i64.wrap (v15_5 + 1)))] [] [] [] (envOk_cons (by conv => lhs; whnf) (by exact rfl) (envOk_cons (by conv => lhs; whnf) (by exact rfl) (envOk_cons (by conv => lhs; whnf) (by exact rfl) envOk_nil))) objOk_nil (nodup_b rfl) (nodup_b rfl) rfl rfl, (IntKind.i64.wrap (v10_5 - x81.Count)), (IntKind.i64.wrap (v15_5 + 1)), h, rfl⟩
        · have h := ifF c77 h
          refine aw_cond_f (by decide) rfl ?_
          refine aw_exit ?_
          have h := leafR h hq74
          refine hK71 _ ?_
          refine aw_seq_k (fun K101 hK101 => ?_)
          refine aw_regL ?_
          refine alP (some 192) rfl rfl (does_move (v := .int .i64 v10_5) (by exact rfl)) (by decide) ?_
          refine alP (some 193) rfl rfl (does_bin (v := .bool (v10_5 == 0)) (by conv => lhs; whnf) (by conv => lhs; whnf) rfl) (by decide) ?_
          refine alP (some 8) rfl rfl (does_assign (v := .bool (v10_5 == 0)) (by exact rfl)) (by decide) ?_
          refine al_nil ?_
          refine hK101 _ ?_
          refine aw_ret ?_
          obtain rfl := Option.some.inj h
          exact ret_ok1 (by conv => lhs; whnf) (by conv => lhs; whnf) (by exact rfl) (.inr rfl) rfl
end Go.Proofs.Ytoecalgfdphghaa.Ab
