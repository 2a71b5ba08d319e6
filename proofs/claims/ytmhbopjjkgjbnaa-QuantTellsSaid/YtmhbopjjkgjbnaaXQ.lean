/- Chapter 31: quantiles. -/
import Derived.Test.YtmhbopjjkgjbnaaXQ1
import Derived.Test.YtmhbopjjkgjbnaaProg
namespace Go.Proofs.Ytmhbopjjkgjbnaa.Ab
open Go Go.RowKit
set_option linter.unusedVariables false
set_option linter.unusedSimpArgs false
theorem ty4 : tyOf Try.prog 4 = some ⟨.bool, 1, 1, [.bool false]⟩ := by kernel_rfl
theorem ent6 : Ent Try.prog 6 := ⟨_, Try.func6, by kernel_rfl, rfl⟩
theorem ent8 : Ent Try.prog 8 := ⟨_, Try.func8, by kernel_rfl, rfl⟩
theorem ent10 : Ent Try.prog 10 := ⟨_, Try.func10, by kernel_rfl, rfl⟩
def gleaninglaw31_QuantTells (a0 : Counter) (a1 : Int) : Option Bool :=
  Option.bind (gleaninglaw31_alive) (fun (x3 : Bool) => Option.bind (quant_Quantile a0 a1) (fun (x5 : Int × Bool) => Option.bind (gleaningref28_Quantile a0 a1) (fun (x7 : Int × Bool) => Option.bind (quant_Rate a0) (fun (x9 : Int × Bool) => Option.bind (gleaningref28_Rate a0) (fun (x11 : Int × Bool) => if x3 = true then (Option.bind (quant_Total a0) (fun (x14 : Int) => Option.bind (gleaningref28_Total a0) (fun (x15 : Int) => if (x14 == x15) = true then (if (x5.1 == x7.1) = true then (if (x5.2 == x7.2) = true then (if (x9.1 == x11.1) = true then (some (x9.2 == x11.2)) else (some false)) else (some false)) else (some false)) else (some false)))) else (some false))))))
set_option maxRecDepth 100000 in
set_option maxHeartbeats 8000000 in
/-- gleaning/gleaninglaw31.QuantTells -/
theorem gleaninglaw31_QuantTells_ok (a0 : Counter) (a1 : Int) {r : Bool} (h : gleaninglaw31_QuantTells a0 a1 = some r) : Ok Try.prog 3 [.agg [.int .i64 a0.Count, .int .i64 a0.Errs, .int .i64 a0.By.c0, .int .i64 a0.By.c1, .int .i64 a0.By.c2, .int .i64 a0.By.c3, .int .i64 a0.By.c4, .int .i64 a0.By.c5, .int .i64 a0.By.c6, .int .i64 a0.By.c7], .int .i64 a1] [] [] (.bool r) [] [] := by
  unfold gleaninglaw31_QuantTells at h
  refine ok_of_code Try.func3 rfl (by show (2 : Nat) ≤ _; decide) (Nat.le_refl _) fun X => ?_
  refine aw_seq_k (fun K1 hK1 => ?_)
  refine aw_regL ?_
  refine alD (some 2) rfl rfl (do_box (by conv => lhs; whnf) rfl rfl) (by decide) ?_
  refine alP (some 4) rfl rfl (does_assign (v := .bool false) (by exact rfl)) (by decide) ?_
  refine al_nil ?_
  refine hK1 _ ?_
  refine aw_seq_k (fun K2 hK2 => ?_)
  refine aw_regL ?_
  obtain ⟨x3, hx3, h⟩ := bnd_some h
  refine alD (some 14) rfl rfl (do_call0 14 false (gleaninglaw31_alive_ok hx3) rfl ent6 rfl rfl) (by decide) ?_
  refine alP (some 5) rfl rfl (does_assign (v := .bool x3) (by exact rfl)) (by decide) ?_
  refine al_nil ?_
  refine hK2 _ ?_
  refine aw_seq_k (fun K4 hK4 => ?_)
  refine aw_regL ?_
  refine alR (some 16) rfl rfl (does_load (v := .agg [.int .i64 a0.Count, .int .i64 a0.Errs, .int .i64 a0.By.c0, .int .i64 a0.By.c1, .int .i64 a0.By.c2, .int .i64 a0.By.c3, .int .i64 a0.By.c4, .int .i64 a0.By.c5, .int .i64 a0.By.c6, .int .i64 a0.By.c7]) (by conv => lhs; whnf) (by conv => lhs; whnf) ty24 (by exact rfl)) (by decide) ?_
  refine alP (some 17) rfl rfl (does_move (v := .int .i64 a1) (by exact rfl)) (by decide) ?_
  obtain ⟨x5, hx5, h⟩ := bnd_some h
  refine alD (some 18) rfl rfl (do_call0 18 false (quant_Quantile_ok a0 a1 hx5) rfl ent7 rfl rfl) (by decide) ?_
  refine alP (some 15) rfl rfl (does_move (v := .tup [.int .i64 x5.1, .bool x5.2]) (by exact rfl)) (by decide) ?_
  refine alP (some 19) rfl rfl (does_extract (v := .int .i64 x5.1) (by conv => lhs; whnf) (by exact rfl)) (by decide) ?_
  refine alP (some 20) rfl rfl (does_extract (v := .bool x5.2) (by conv => lhs; whnf) (by exact rfl)) (by decide) ?_
  refine alP (some 6) rfl rfl (does_assign (v := .int .i64 x5.1) (by exact rfl)) (by decide) ?_
  refine alP (some 7) rfl rfl (does_assign (v := .bool x5.2) (by exact rfl)) (by decide) ?_
  refine al_nil ?_
  refine hK4 _ ?_
  refine aw_seq_k (fun K6 hK6 => ?_)
  refine aw_regL ?_
  refine alR (some 22) rfl rfl (does_load (v := .agg [.int .i64 a0.Count, .int .i64 a0.Errs, .int .i64 a0.By.c0, .int .i64 a0.By.c1, .int .i64 a0.By.c2, .int .i64 a0.By.c3, .int .i64 a0.By.c4, .int .i64 a0.By.c5, .int .i64 a0.By.c6, .int .i64 a0.By.c7]) (by conv => lhs; whnf) (by conv => lhs; whnf) ty24 (by exact rfl)) (by decide) ?_
  refine alP (some 23) rfl rfl (does_move (v := .int .i64 a1) (by exact rfl)) (by decide) ?_
  obtain ⟨x7, hx7, h⟩ := bnd_some h
  refine alD (some 24) rfl rfl (do_call0 24 false (gleaningref28_Quantile_ok a0 a1 hx7) rfl ent8 rfl rfl) (by decide) ?_
  refine alP (some 21) rfl rfl (does_move (v := .tup [.int .i64 x7.1, .bool x7.2]) (by exact rfl)) (by decide) ?_
  refine alP (some 25) rfl rfl (does_extract (v := .int .i64 x7.1) (by conv => lhs; whnf) (by exact rfl)) (by decide) ?_
  refine alP (some 26) rfl rfl (does_extract (v := .bool x7.2) (by conv => lhs; whnf) (by exact rfl)) (by decide) ?_
  refine alP (some 8) rfl rfl (does_assign (v := .int .i64 x7.1) (by exact rfl)) (by decide) ?_
  refine alP (some 9) rfl rfl (does_assign (v := .bool x7.2) (by exact rfl)) (by decide) ?_
  refine al_nil ?_
  refine hK6 _ ?_
  refine aw_seq_k (fun K8 hK8 => ?_)
  refine aw_regL ?_
  refine alR (some 28) rfl rfl (does_load (v := .agg [.int .i64 a0.Count, .int .i64 a0.Errs, .int .i64 a0.By.c0, .int .i64 a0.By.c1, .int .i64 a0.By.c2, .int .i64 a0.By.c3, .int .i64 a0.By.c4, .int .i64 a0.By.c5, .int .i64 a0.By.c6, .int .i64 a0.By.c7]) (by conv => lhs; whnf) (by conv => lhs; whnf) ty24 (by exact rfl)) (by decide) ?_
  obtain ⟨x9, hx9, h⟩ := bnd_some h
  refine alD (some 29) rfl rfl (do_call0 29 false (quant_Rate_ok a0 hx9) rfl ent9 rfl rfl) (by decide) ?_
  refine alP (some 27) rfl rfl (does_move (v := .tup [.int .i64 x9.1, .bool x9.2]) (by exact rfl)) (by decide) ?_
  refine alP (some 30) rfl rfl (does_extract (v := .int .i64 x9.1) (by conv => lhs; whnf) (by exact rfl)) (by decide) ?_
  refine alP (some 31) rfl rfl (does_extract (v := .bool x9.2) (by conv => lhs; whnf) (by exact rfl)) (by decide) ?_
  refine alP (some 10) rfl rfl (does_assign (v := .int .i64 x9.1) (by exact rfl)) (by decide) ?_
  refine alP (some 11) rfl rfl (does_assign (v := .bool x9.2) (by exact rfl)) (by decide) ?_
  refine al_nil ?_
  refine hK8 _ ?_
  refine aw_seq_k (fun K10 hK10 => ?_)
  refine aw_regL ?_
  refine alR (some 33) rfl rfl (does_load (v := .agg [.int .i64 a0.Count, .int .i64 a0.Errs, .int .i64 a0.By.c0, .int .i64 a0.By.c1, .int .i64 a0.By.c2, .int .i64 a0.By.c3, .int .i64 a0.By.c4, .int .i64 a0.By.c5, .int .i64 a0.By.c6, .int .i64 a0.By.c7]) (by conv => lhs; whnf) (by conv => lhs; whnf) ty24 (by exact rfl)) (by decide) ?_
  obtain ⟨x11, hx11, h⟩ := bnd_some h
  refine alD (some 34) rfl rfl (do_call0 34 false (gleaningref28_Rate_ok a0 hx11) rfl ent10 rfl rfl) (by decide) ?_
  refine alP (some 32) rfl rfl (does_move (v := .tup [.int .i64 x11.1, .bool x11.2]) (by exact rfl)) (by decide) ?_
  refine alP (some 35) rfl rfl (does_extract (v := .int .i64 x11.1) (by conv => lhs; whnf) (by exact rfl)) (by decide) ?_
  refine alP (some 36) rfl rfl (does_extract (v := .bool x11.2) (by conv => lhs; whnf) (by exact rfl)) (by decide) ?_
  refine alP (some 12) rfl rfl (does_assign (v := .int .i64 x11.1) (by exact rfl)) (by decide) ?_
  refine alP (some 13) rfl rfl (does_assign (v := .bool x11.2) (by exact rfl)) (by decide) ?_
  refine al_nil ?_
  refine hK10 _ ?_
  refine aw_seq_k (fun K12 hK12 => ?_)
  refine aw_regd (by kernel_rfl) (by decide +kernel) ?_
  refine aoP (some 37) rfl rfl (does_move (v := .bool x3) (by exact rfl)) (by decide) ?_
  refine aoP (some 38) rfl rfl (does_move (v := .bool x3) (by exact rfl)) (by decide) ?_
  refine ao_bool (c := x3) 38 rfl (fun c13 => ?_) (fun c13 => ?_)
  · have h := ifT c13 h
    refine aoR (some 39) rfl rfl (does_load (v := .agg [.int .i64 a0.Count, .int .i64 a0.Errs, .int .i64 a0.By.c0, .int .i64 a0.By.c1, .int .i64 a0.By.c2, .int .i64 a0.By.c3, .int .i64 a0.By.c4, .int .i64 a0.By.c5, .int .i64 a0.By.c6, .int .i64 a0.By.c7]) (by conv => lhs; whnf) (by conv => lhs; whnf) ty24 (by exact rfl)) (by decide) ?_
    obtain ⟨x14, hx14, h⟩ := bnd_some h
    refine aoD (some 40) rfl rfl ((do_call0 40 false (quant_Total_ok a0 hx14) rfl ent11 rfl rfl).fx (y := ⟨[], .int .i64 x14, [], [40]⟩) rfl) (by decide) ?_
    refine aoR (some 41) rfl rfl (does_load (v := .agg [.int .i64 a0.Count, .int .i64 a0.Errs, .int .i64 a0.By.c0, .int .i64 a0.By.c1, .int .i64 a0.By.c2, .int .i64 a0.By.c3, .int .i64 a0.By.c4, .int .i64 a0.By.c5, .int .i64 a0.By.c6, .int .i64 a0.By.c7]) (by conv => lhs; whnf) (by conv => lhs; whnf) ty24 (by exact rfl)) (by decide) ?_
    obtain ⟨x15, hx15, h⟩ := bnd_some h
    refine aoD (some 42) rfl rfl ((do_call0 42 false (gleaningref28_Total_ok a0 hx15) rfl ent12 rfl rfl).fx (y := ⟨[], .int .i64 x15, [], [42]⟩) rfl) (by decide) ?_
    refine aoP (some 43) rfl rfl (does_bin (v := .bool (x14 == x15)) (by conv => lhs; whnf) (by conv => lhs; whnf) rfl) (by decide) ?_
    refine aoP (some 44) rfl rfl (does_pick (v := .bool (x14 == x15)) (by conv => lhs; whnf) (by exact rfl)) (by decide) ?_
    refine aoP (some 45) rfl rfl (does_move (v := .bool (x14 == x15)) (by exact rfl)) (by decide) ?_
    refine ao_bool (c := (x14 == x15)) 45 rfl (fun c16 => ?_) (fun c16 => ?_)
    · have h := ifT c16 h
      refine aoP (some 46) rfl rfl (does_move (v := .int .i64 x5.1) (by exact rfl)) (by decide) ?_
      refine aoP (some 47) rfl rfl (does_move (v := .int .i64 x7.1) (by exact rfl)) (by decide) ?_
      refine aoP (some 48) rfl rfl (does_bin (v := .bool (x5.1 == x7.1)) (by conv => lhs; whnf) (by conv => lhs; whnf) rfl) (by decide) ?_
      refine aoP (some 49) rfl rfl (does_pick (v := .bool (x5.1 == x7.1)) (by conv => lhs; whnf) (by exact rfl)) (by decide) ?_
      refine aoP (some 50) rfl rfl (does_move (v := .bool (x5.1 == x7.1)) (by exact rfl)) (by decide) ?_
      refine ao_bool (c := (x5.1 == x7.1)) 50 rfl (fun c17 => ?_) (fun c17 => ?_)
      · have h := ifT c17 h
        refine aoP (some 51) rfl rfl (does_move (v := .bool x5.2) (by exact rfl)) (by decide) ?_
        refine aoP (some 52) rfl rfl (does_move (v := .bool x7.2) (by exact rfl)) (by decide) ?_
        refine aoP (some 53) rfl rfl (does_eq_bool (v := .bool (x5.2 == x7.2)) (by conv => lhs; whnf) (by conv => lhs; whnf) (ty_bool ty4) rfl) (by decide) ?_
        refine aoP (some 54) rfl rfl (does_pick (v := .bool (x5.2 == x7.2)) (by conv => lhs; whnf) (by exact rfl)) (by decide) ?_
        refine aoP (some 55) rfl rfl (does_move (v := .bool (x5.2 == x7.2)) (by exact rfl)) (by decide) ?_
        refine ao_bool (c := (x5.2 == x7.2)) 55 rfl (fun c18 => ?_) (fun c18 => ?_)
        · have h := ifT c18 h
          refine aoP (some 56) rfl rfl (does_move (v := .int .i64 x9.1) (by exact rfl)) (by decide) ?_
          refine aoP (some 57) rfl rfl (does_move (v := .int .i64 x11.1) (by exact rfl)) (by decide) ?_
          refine aoP (some 58) rfl rfl (does_bin (v := .bool (x9.1 == x11.1)) (by conv => lhs; whnf) (by conv => lhs; whnf) rfl) (by decide) ?_
          refine aoP (some 59) rfl rfl (does_pick (v := .bool (x9.1 == x11.1)) (by conv => lhs; whnf) (by exact rfl)) (by decide) ?_
          refine aoP (some 60) rfl rfl (does_move (v := .bool (x9.1 == x11.1)) (by exact rfl)) (by decide) ?_
          refine ao_bool (c := (x9.1 == x11.1)) 60 rfl (fun c19 => ?_) (fun c19 => ?_)
          · have h := ifT c19 h
            refine aoP (some 61) rfl rfl (does_move (v := .bool x9.2) (by exact rfl)) (by decide) ?_
            refine aoP (some 62) rfl rfl (does_move (v := .bool x11.2) (by exact rfl)) (by decide) ?_
            refine aoP (some 63) rfl rfl (does_eq_bool (v := .bool (x9.2 == x11.2)) (by conv => lhs; whnf) (by conv => lhs; whnf) (ty_bool ty4) rfl) (by decide) ?_
            refine aoP (some 64) rfl rfl (does_pick (v := .bool (x9.2 == x11.2)) (by conv => lhs; whnf) (by exact rfl)) (by decide) ?_
            refine aoP (some 4) rfl rfl (does_assign (v := .bool (x9.2 == x11.2)) (by exact rfl)) (by decide) ?_
            refine ao_nil_d (by kernel_rfl) ?_
            refine hK12 _ ?_
            refine aw_ret ?_
            obtain rfl := Option.some.inj h
            exact ret_ok1 (by conv => lhs; whnf) (by conv => lhs; whnf) (by exact rfl) (.inr rfl) rfl
          · have h := ifF c19 h
            refine aoS (some 61) rfl rfl (by decide) ?_
            refine aoS (some 62) rfl rfl (by decide) ?_
            refine aoS (some 63) rfl rfl (by decide) ?_
            refine aoP (some 64) rfl rfl (does_pick (v := .bool false) (by conv => lhs; whnf) (by exact rfl)) (by decide) ?_
            refine aoP (some 4) rfl rfl (does_assign (v := .bool false) (by exact rfl)) (by decide) ?_
            refine ao_nil_d (by kernel_rfl) ?_
            refine hK12 _ ?_
            refine aw_ret ?_
            obtain rfl := Option.some.inj h
            exact ret_ok1 (by conv => lhs; whnf) (by conv => lhs; whnf) (by exact rfl) (.inr rfl) rfl
        · have h := ifF c18 h
          refine aoS (some 56) rfl rfl (by decide) ?_
          refine aoS (some 57) rfl rfl (by decide) ?_
          refine aoS (some 58) rfl rfl (by decide) ?_
          refine aoP (some 59) rfl rfl (does_pick (v := .bool false) (by conv => lhs; whnf) (by exact rfl)) (by decide) ?_
          refine aoP (some 60) rfl rfl (does_move (v := .bool false) (by exact rfl)) (by decide) ?_
          refine aoS (some 61) rfl rfl (by decide) ?_
          refine aoS (some 62) rfl rfl (by decide) ?_
          refine aoS (some 63) rfl rfl (by decide) ?_
          refine aoP (some 64) rfl rfl (does_pick (v := .bool false) (by conv => lhs; whnf) (by exact rfl)) (by decide) ?_
          refine aoP (some 4) rfl rfl (does_assign (v := .bool false) (by exact rfl)) (by decide) ?_
          refine ao_nil_d (by kernel_rfl) ?_
          refine hK12 _ ?_
          refine aw_ret ?_
          obtain rfl := Option.some.inj h
          exact ret_ok1 (by conv => lhs; whnf) (by conv => lhs; whnf) (by exact rfl) (.inr rfl) rfl
      · have h := ifF c17 h
        refine aoS (some 51) rfl rfl (by decide) ?_
        refine aoS (some 52) rfl rfl (by decide) ?_
        refine aoS (some 53) rfl rfl (by decide) ?_
        refine aoP (some 54) rfl rfl (does_pick (v := .bool false) (by conv => lhs; whnf) (by exact rfl)) (by decide) ?_
        refine aoP (some 55) rfl rfl (does_move (v := .bool false) (by exact rfl)) (by decide) ?_
        refine aoS (some 56) rfl rfl (by decide) ?_
        refine aoS (some 57) rfl rfl (by decide) ?_
        refine aoS (some 58) rfl rfl (by decide) ?_
        refine aoP (some 59) rfl rfl (does_pick (v := .bool false) (by conv => lhs; whnf) (by exact rfl)) (by decide) ?_
        refine aoP (some 60) rfl rfl (does_move (v := .bool false) (by exact rfl)) (by decide) ?_
        refine aoS (some 61) rfl rfl (by decide) ?_
        refine aoS (some 62) rfl rfl (by decide) ?_
        refine aoS (some 63) rfl rfl (by decide) ?_
        refine aoP (some 64) rfl rfl (does_pick (v := .bool false) (by conv => lhs; whnf) (by exact rfl)) (by decide) ?_
        refine aoP (some 4) rfl rfl (does_assign (v := .bool false) (by exact rfl)) (by decide) ?_
        refine ao_nil_d (by kernel_rfl) ?_
        refine hK12 _ ?_
        refine aw_ret ?_
        obtain rfl := Option.some.inj h
        exact ret_ok1 (by conv => lhs; whnf) (by conv => lhs; whnf) (by exact rfl) (.inr rfl) rfl
    · have h := ifF c16 h
      refine aoS (some 46) rfl rfl (by decide) ?_
      refine aoS (some 47) rfl rfl (by decide) ?_
      refine aoS (some 48) rfl rfl (by decide) ?_
      refine aoP (some 49) rfl rfl (does_pick (v := .bool false) (by conv => lhs; whnf) (by exact rfl)) (by decide) ?_
      refine aoP (some 50) rfl rfl (does_move (v := .bool false) (by exact rfl)) (by decide) ?_
      refine aoS (some 51) rfl rfl (by decide) ?_
      refine aoS (some 52) rfl rfl (by decide) ?_
      refine aoS (some 53) rfl rfl (by decide) ?_
      refine aoP (some 54) rfl rfl (does_pick (v := .bool false) (by conv => lhs; whnf) (by exact rfl)) (by decide) ?_
      refine aoP (some 55) rfl rfl (does_move (v := .bool false) (by exact rfl)) (by decide) ?_
      refine aoS (some 56) rfl rfl (by decide) ?_
      refine aoS (some 57) rfl rfl (by decide) ?_
      refine aoS (some 58) rfl rfl (by decide) ?_
      refine aoP (some 59) rfl rfl (does_pick (v := .bool false) (by conv => lhs; whnf) (by exact rfl)) (by decide) ?_
      refine aoP (some 60) rfl rfl (does_move (v := .bool false) (by exact rfl)) (by decide) ?_
      refine aoS (some 61) rfl rfl (by decide) ?_
      refine aoS (some 62) rfl rfl (by decide) ?_
      refine aoS (some 63) rfl rfl (by decide) ?_
      refine aoP (some 64) rfl rfl (does_pick (v := .bool false) (by conv => lhs; whnf) (by exact rfl)) (by decide) ?_
      refine aoP (some 4) rfl rfl (does_assign (v := .bool false) (by exact rfl)) (by decide) ?_
      refine ao_nil_d (by kernel_rfl) ?_
      refine hK12 _ ?_
      refine aw_ret ?_
      obtain rfl := Option.some.inj h
      exact ret_ok1 (by conv => lhs; whnf) (by conv => lhs; whnf) (by exact rfl) (.inr rfl) rfl
  · have h := ifF c13 h
    refine aoS (some 39) rfl rfl (by decide) ?_
    refine aoS (some 40) rfl rfl (by decide) ?_
    refine aoS (some 41) rfl rfl (by decide) ?_
    refine aoS (some 42) rfl rfl (by decide) ?_
    refine aoS (some 43) rfl rfl (by decide) ?_
    refine aoP (some 44) rfl rfl (does_pick (v := .bool false) (by conv => lhs; whnf) (by exact rfl)) (by decide) ?_
    refine aoP (some 45) rfl rfl (does_move (v := .bool false) (by exact rfl)) (by decide) ?_
    refine aoS (some 46) rfl rfl (by decide) ?_
    refine aoS (some 47) rfl rfl (by decide) ?_
    refine aoS (some 48) rfl rfl (by decide) ?_
    refine aoP (some 49) rfl rfl (does_pick (v := .bool false) (by conv => lhs; whnf) (by exact rfl)) (by decide) ?_
    refine aoP (some 50) rfl rfl (does_move (v := .bool false) (by exact rfl)) (by decide) ?_
    refine aoS (some 51) rfl rfl (by decide) ?_
    refine aoS (some 52) rfl rfl (by decide) ?_
    refine aoS (some 53) rfl rfl (by decide) ?_
    refine aoP (some 54) rfl rfl (does_pick (v := .bool false) (by conv => lhs; whnf) (by exact rfl)) (by decide) ?_
    refine aoP (some 55) rfl rfl (does_move (v := .bool false) (by exact rfl)) (by decide) ?_
    refine aoS (some 56) rfl rfl (by decide) ?_
    refine aoS (some 57) rfl rfl (by decide) ?_
    refine aoS (some 58) rfl rfl (by decide) ?_
    refine aoP (some 59) rfl rfl (does_pick (v := .bool false) (by conv => lhs; whnf) (by exact rfl)) (by decide) ?_
    refine aoP (some 60) rfl rfl (does_move (v := .bool false) (by exact rfl)) (by decide) ?_
    refine aoS (some 61) rfl rfl (by decide) ?_
    refine aoS (some 62) rfl rfl (by decide) ?_
    refine aoS (some 63) rfl rfl (by decide) ?_
    refine aoP (some 64) rfl rfl (does_pick (v := .bool false) (by conv => lhs; whnf) (by exact rfl)) (by decide) ?_
    refine aoP (some 4) rfl rfl (does_assign (v := .bool false) (by exact rfl)) (by decide) ?_
    refine ao_nil_d (by kernel_rfl) ?_
    refine hK12 _ ?_
    refine aw_ret ?_
    obtain rfl := Option.some.inj h
    exact ret_ok1 (by conv => lhs; whnf) (by conv => lhs; whnf) (by exact rfl) (.inr rfl) rfl
theorem sh3 : ∀ (m : Nat) (cs : List PV), Shape Try.prog m 3 cs → ∃ a : Int, cs = [.int .i64 a] ∧ (inI .i64 a) := fun m cs h => shape_i h Try.underlying3
def Arr8_Int.wf (a : Arr8_Int) : Prop := (inI .i64 a.c0) ∧ (inI .i64 a.c1) ∧ (inI .i64 a.c2) ∧ (inI .i64 a.c3) ∧ (inI .i64 a.c4) ∧ (inI .i64 a.c5) ∧ (inI .i64 a.c6) ∧ (inI .i64 a.c7)
theorem sh22 : ∀ (m : Nat) (cs : List PV), Shape Try.prog m 22 cs → ∃ a : Arr8_Int, cs = [.int .i64 a.c0, .int .i64 a.c1, .int .i64 a.c2, .int .i64 a.c3, .int .i64 a.c4, .int .i64 a.c5, .int .i64 a.c6, .int .i64 a.c7] ∧ (Arr8_Int.wf a) := fun m cs h => by
  obtain ⟨hl, m, hf⟩ := shape_arr (c := 1) h Try.underlying22 (by kernel_rfl)
  have f0 := hf 0 (by decide)
  obtain ⟨a0, e0, w0⟩ := sh3 m _ f0
  have f1 := hf 1 (by decide)
  obtain ⟨a1, e1, w1⟩ := sh3 m _ f1
  have f2 := hf 2 (by decide)
  obtain ⟨a2, e2, w2⟩ := sh3 m _ f2
  have f3 := hf 3 (by decide)
  obtain ⟨a3, e3, w3⟩ := sh3 m _ f3
  have f4 := hf 4 (by decide)
  obtain ⟨a4, e4, w4⟩ := sh3 m _ f4
  have f5 := hf 5 (by decide)
  obtain ⟨a5, e5, w5⟩ := sh3 m _ f5
  have f6 := hf 6 (by decide)
  obtain ⟨a6, e6, w6⟩ := sh3 m _ f6
  have f7 := hf 7 (by decide)
  obtain ⟨a7, e7, w7⟩ := sh3 m _ f7
  exact ⟨⟨a0, a1, a2, a3, a4, a5, a6, a7⟩, tile_all (l := [(1, [.int .i64 a0]), (1, [.int .i64 a1]), (1, [.int .i64 a2]), (1, [.int .i64 a3]), (1, [.int .i64 a4]), (1, [.int .i64 a5]), (1, [.int .i64 a6]), (1, [.int .i64 a7])]) ⟨e0, e1, e2, e3, e4, e5, e6, e7, trivial⟩ hl (by kernel_rfl), ⟨w0, w1, w2, w3, w4, w5, w6, w7⟩⟩
def Counter.wf (a : Counter) : Prop := (inI .i64 a.Count) ∧ (inI .i64 a.Errs) ∧ (Arr8_Int.wf a.By)
theorem sh24 : ∀ (m : Nat) (cs : List PV), Shape Try.prog m 24 cs → ∃ a : Counter, cs = [.int .i64 a.Count, .int .i64 a.Errs, .int .i64 a.By.c0, .int .i64 a.By.c1, .int .i64 a.By.c2, .int .i64 a.By.c3, .int .i64 a.By.c4, .int .i64 a.By.c5, .int .i64 a.By.c6, .int .i64 a.By.c7] ∧ (Counter.wf a) := fun m cs h => by
  obtain ⟨hl, m, hf⟩ := shape_struct h Try.underlying24
  have f0 := hf 0 _ rfl
  obtain ⟨a0, e0, w0⟩ := sh3 m _ f0
  rw [show Try.prog.cellsOf _ = 1 by kernel_rfl] at e0
  have f1 := hf 1 _ rfl
  obtain ⟨a1, e1, w1⟩ := sh3 m _ f1
  rw [show Try.prog.cellsOf _ = 1 by kernel_rfl] at e1
  have f2 := hf 2 _ rfl
  obtain ⟨a2, e2, w2⟩ := sh22 m _ f2
  rw [show Try.prog.cellsOf _ = 8 by kernel_rfl] at e2
  exact ⟨⟨a0, a1, a2⟩, tile_all (l := [(1, [.int .i64 a0]), (1, [.int .i64 a1]), (8, [.int .i64 a2.c0, .int .i64 a2.c1, .int .i64 a2.c2, .int .i64 a2.c3, .int .i64 a2.c4, .int .i64 a2.c5, .int .i64 a2.c6, .int .i64 a2.c7])]) ⟨e0, e1, e2, trivial⟩ hl (by kernel_rfl), ⟨w0, w1, w2⟩⟩
end Go.Proofs.Ytmhbopjjkgjbnaa.Ab
