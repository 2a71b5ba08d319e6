/- Counters: the total, any quantile. -/
import Derived.Test.YtoecalgfdphghaaAbSort
import Derived.Test.YtoecalgfdphghaaProg
namespace Go.Proofs.Ytoecalgfdphghaa.Ab
open Go Go.RowKit
set_option linter.unusedVariables false
set_option linter.unusedSimpArgs false
structure Arr8_Int where
  c0 : Int
  c1 : Int
  c2 : Int
  c3 : Int
  c4 : Int
  c5 : Int
  c6 : Int
  c7 : Int
  deriving DecidableEq
structure Counter where
  Count : Int
  Errs : Int
  By : Arr8_Int
  deriving DecidableEq
def enc2 (x : Int) : PV := .int .i64 x
theorem ty3 : tyOf Try.prog 3 = some ⟨.int .i64, 1, 8, [.int .i64 0]⟩ := by kernel_rfl
theorem ty24 : tyOf Try.prog 24 = some ⟨.arr 8 3, 8, 64, [.int .i64 0, .int .i64 0, .int .i64 0, .int .i64 0, .int .i64 0, .int .i64 0, .int .i64 0, .int .i64 0]⟩ := by kernel_rfl
theorem ty26 : tyOf Try.prog 26 = some ⟨.struct [(0, 3), (1, 3), (2, 24)], 10, 80, [.int .i64 0, .int .i64 0, .int .i64 0, .int .i64 0, .int .i64 0, .int .i64 0, .int .i64 0, .int .i64 0, .int .i64 0, .int .i64 0]⟩ := by kernel_rfl
theorem ty49 : tyOf Try.prog 49 = some ⟨.int .u64, 1, 8, [.int .u64 0]⟩ := by kernel_rfl
theorem ent14 : Ent Try.prog 14 := ⟨_, Try.func14, by kernel_rfl, rfl⟩
theorem ent21 : Ent Try.prog 21 := ⟨_, Try.func21, by kernel_rfl, rfl⟩
theorem ent23 : Ent Try.prog 23 := ⟨_, Try.func23, by kernel_rfl, rfl⟩
def bucket_Plus (a0 : Int) (a1 : Int) (a2 : Int) : Option Int :=
  some (IntKind.i64.wrap ((if (if (if a2 > 0 then a2 else 0) < a0 then (if a2 > 0 then a2 else 0) else a0) > 0 then (if (if a2 > 0 then a2 else 0) < a0 then (if a2 > 0 then a2 else 0) else a0) else 0) + (if (IntKind.i64.wrap ((if a2 > 0 then a2 else 0) - (if (if (if a2 > 0 then a2 else 0) < a0 then (if a2 > 0 then a2 else 0) else a0) > 0 then (if (if a2 > 0 then a2 else 0) < a0 then (if a2 > 0 then a2 else 0) else a0) else 0))) < (if (if (if a2 > 0 then a2 else 0) < a1 then (if a2 > 0 then a2 else 0) else a1) > 0 then (if (if a2 > 0 then a2 else 0) < a1 then (if a2 > 0 then a2 else 0) else a1) else 0) then (IntKind.i64.wrap ((if a2 > 0 then a2 else 0) - (if (if (if a2 > 0 then a2 else 0) < a0 then (if a2 > 0 then a2 else 0) else a0) > 0 then (if (if a2 > 0 then a2 else 0) < a0 then (if a2 > 0 then a2 else 0) else a0) else 0))) else (if (if (if a2 > 0 then a2 else 0) < a1 then (if a2 > 0 then a2 else 0) else a1) > 0 then (if (if a2 > 0 then a2 else 0) < a1 then (if a2 > 0 then a2 else 0) else a1) else 0))))
set_option maxRecDepth 100000 in
set_option maxHeartbeats 8000000 in
/-- gleaning/bucket.Plus -/
theorem bucket_Plus_ok (a0 : Int) (a1 : Int) (a2 : Int) {r : Int} (h : bucket_Plus a0 a1 a2 = some r) : Ok Try.prog 23 [.int .i64 a0, .int .i64 a1, .int .i64 a2] [] [] (.int .i64 r) [] [] := by
  unfold bucket_Plus at h
  refine ok_of_code Try.func23 rfl (by show (3 : Nat) ≤ _; decide) (Nat.le_refl _) fun X => ?_
  refine aw_seq_k (fun K1 hK1 => ?_)
  refine aw_regL ?_
  refine alP (some 6) rfl rfl (does_assign (v := .int .i64 0) (by exact rfl)) (by decide) ?_
  refine al_nil ?_
  refine hK1 _ ?_
  refine aw_seq_k (fun K2 hK2 => ?_)
  refine aw_regL ?_
  refine alP (some 7) rfl rfl (does_move (v := .int .i64 a2) (by exact rfl)) (by decide) ?_
  refine alP (some 8) rfl rfl ((does_max (by conv => lhs; whnf) (by conv => lhs; whnf)).castp (v' := .int .i64 (if a2 > 0 then a2 else 0)) rfl) (by decide) ?_
  refine alP (some 2) rfl rfl (does_assign (v := .int .i64 (if a2 > 0 then a2 else 0)) (by exact rfl)) (by decide) ?_
  refine al_nil ?_
  refine hK2 _ ?_
  refine aw_seq_k (fun K3 hK3 => ?_)
  refine aw_regL ?_
  refine alP (some 9) rfl rfl (does_move (v := .int .i64 a0) (by exact rfl)) (by decide) ?_
  refine alP (some 10) rfl rfl (does_move (v := .int .i64 (if a2 > 0 then a2 else 0)) (by exact rfl)) (by decide) ?_
  refine alP (some 11) rfl rfl ((does_min (by conv => lhs; whnf) (by conv => lhs; whnf)).castp (v' := .int .i64 (if (if a2 > 0 then a2 else 0) < a0 then (if a2 > 0 then a2 else 0) else a0)) rfl) (by decide) ?_
  refine alP (some 12) rfl rfl ((does_max (by conv => lhs; whnf) (by conv => lhs; whnf)).castp (v' := .int .i64 (if (if (if a2 > 0 then a2 else 0) < a0 then (if a2 > 0 then a2 else 0) else a0) > 0 then (if (if a2 > 0 then a2 else 0) < a0 then (if a2 > 0 then a2 else 0) else a0) else 0)) rfl) (by decide) ?_
  refine alP (some 13) rfl rfl (does_move (v := .int .i64 a1) (by exact rfl)) (by decide) ?_
  refine alP (some 14) rfl rfl (does_move (v := .int .i64 (if a2 > 0 then a2 else 0)) (by exact rfl)) (by decide) ?_
  refine alP (some 15) rfl rfl ((does_min (by conv => lhs; whnf) (by conv => lhs; whnf)).castp (v' := .int .i64 (if (if a2 > 0 then a2 else 0) < a1 then (if a2 > 0 then a2 else 0) else a1)) rfl) (by decide) ?_
  refine alP (some 16) rfl rfl ((does_max (by conv => lhs; whnf) (by conv => lhs; whnf)).castp (v' := .int .i64 (if (if (if a2 > 0 then a2 else 0) < a1 then (if a2 > 0 then a2 else 0) else a1) > 0 then (if (if a2 > 0 then a2 else 0) < a1 then (if a2 > 0 then a2 else 0) else a1) else 0)) rfl) (by decide) ?_
  refine alP (some 0) rfl rfl (does_assign (v := .int .i64 (if (if (if a2 > 0 then a2 else 0) < a0 then (if a2 > 0 then a2 else 0) else a0) > 0 then (if (if a2 > 0 then a2 else 0) < a0 then (if a2 > 0 then a2 else 0) else a0) else 0)) (by exact rfl)) (by decide) ?_
  refine alP (some 1) rfl rfl (does_assign (v := .int .i64 (if (if (if a2 > 0 then a2 else 0) < a1 then (if a2 > 0 then a2 else 0) else a1) > 0 then (if (if a2 > 0 then a2 else 0) < a1 then (if a2 > 0 then a2 else 0) else a1) else 0)) (by exact rfl)) (by decide) ?_
  refine al_nil ?_
  refine hK3 _ ?_
  refine aw_seq_k (fun K4 hK4 => ?_)
  refine aw_regL ?_
  refine alP (some 17) rfl rfl (does_move (v := .int .i64 (if (if (if a2 > 0 then a2 else 0) < a0 then (if a2 > 0 then a2 else 0) else a0) > 0 then (if (if a2 > 0 then a2 else 0) < a0 then (if a2 > 0 then a2 else 0) else a0) else 0)) (by exact rfl)) (by decide) ?_
  refine alP (some 18) rfl rfl (does_move (v := .int .i64 (if (if (if a2 > 0 then a2 else 0) < a1 then (if a2 > 0 then a2 else 0) else a1) > 0 then (if (if a2 > 0 then a2 else 0) < a1 then (if a2 > 0 then a2 else 0) else a1) else 0)) (by exact rfl)) (by decide) ?_
  refine alP (some 19) rfl rfl (does_move (v := .int .i64 (if a2 > 0 then a2 else 0)) (by exact rfl)) (by decide) ?_
  refine alP (some 20) rfl rfl (does_move (v := .int .i64 (if (if (if a2 > 0 then a2 else 0) < a0 then (if a2 > 0 then a2 else 0) else a0) > 0 then (if (if a2 > 0 then a2 else 0) < a0 then (if a2 > 0 then a2 else 0) else a0) else 0)) (by exact rfl)) (by decide) ?_
  refine alP (some 21) rfl rfl (does_bin (v := .int .i64 (IntKind.i64.wrap ((if a2 > 0 then a2 else 0) - (if (if (if a2 > 0 then a2 else 0) < a0 then (if a2 > 0 then a2 else 0) else a0) > 0 then (if (if a2 > 0 then a2 else 0) < a0 then (if a2 > 0 then a2 else 0) else a0) else 0)))) (by conv => lhs; whnf) (by conv => lhs; whnf) rfl) (by decide) ?_
  refine alP (some 22) rfl rfl ((does_min (by conv => lhs; whnf) (by conv => lhs; whnf)).castp (v' := .int .i64 (if (IntKind.i64.wrap ((if a2 > 0 then a2 else 0) - (if (if (if a2 > 0 then a2 else 0) < a0 then (if a2 > 0 then a2 else 0) else a0) > 0 then (if (if a2 > 0 then a2 else 0) < a0 then (if a2 > 0 then a2 else 0) else a0) else 0))) < (if (if (if a2 > 0 then a2 else 0) < a1 then (if a2 > 0 then a2 else 0) else a1) > 0 then (if (if a2 > 0 then a2 else 0) < a1 then (if a2 > 0 then a2 else 0) else a1) else 0) then (IntKind.i64.wrap ((if a2 > 0 then a2 else 0) - (if (if (if a2 > 0 then a2 else 0) < a0 then (if a2 > 0 then a2 else 0) else a0) > 0 then (if (if a2 > 0 then a2 else 0) < a0 then (if a2 > 0 then a2 else 0) else a0) else 0))) else (if (if (if a2 > 0 then a2 else 0) < a1 then (if a2 > 0 then a2 else 0) else a1) > 0 then (if (if a2 > 0 then a2 else 0) < a1 then (if a2 > 0 then a2 else 0) else a1) else 0))) rfl) (by decide) ?_
  refine alP (some 23) rfl rfl (does_bin (v := .int .i64 (IntKind.i64.wrap ((if (if (if a2 > 0 then a2 else 0) < a0 then (if a2 > 0 then a2 else 0) else a0) > 0 then (if (if a2 > 0 then a2 else 0) < a0 then (if a2 > 0 then a2 else 0) else a0) else 0) + (if (IntKind.i64.wrap ((if a2 > 0 then a2 else 0) - (if (if (if a2 > 0 then a2 else 0) < a0 then (if a2 > 0 then a2 else 0) else a0) > 0 then (if (if a2 > 0 then a2 else 0) < a0 then (if a2 > 0 then a2 else 0) else a0) else 0))) < (if (if (if a2 > 0 then a2 else 0) < a1 then (if a2 > 0 then a2 else 0) else a1) > 0 then (if (if a2 > 0 then a2 else 0) < a1 then (if a2 > 0 then a2 else 0) else a1) else 0) then (IntKind.i64.wrap ((if a2 > 0 then a2 else 0) - (if (if (if a2 > 0 then a2 else 0) < a0 then (if a2 > 0 then a2 else 0) else a0) > 0 then (if (if a2 > 0 then a2 else 0) < a0 then (if a2 > 0 then a2 else 0) else a0) else 0))) else (if (if (if a2 > 0 then a2 else 0) < a1 then (if a2 > 0 then a2 else 0) else a1) > 0 then (if (if a2 > 0 then a2 else 0) < a1 then (if a2 > 0 then a2 else 0) else a1) else 0))))) (by conv => lhs; whnf) (by conv => lhs; whnf) rfl) (by decide) ?_
  refine alP (some 6) rfl rfl (does_assign (v := .int .i64 (IntKind.i64.wrap ((if (if (if a2 > 0 then a2 else 0) < a0 then (if a2 > 0 then a2 else 0) else a0) > 0 then (if (if a2 > 0 then a2 else 0) < a0 then (if a2 > 0 then a2 else 0) else a0) else 0) + (if (IntKind.i64.wrap ((if a2 > 0 then a2 else 0) - (if (if (if a2 > 0 then a2 else 0) < a0 then (if a2 > 0 then a2 else 0) else a0) > 0 then (if (if a2 > 0 then a2 else 0) < a0 then (if a2 > 0 then a2 else 0) else a0) else 0))) < (if (if (if a2 > 0 then a2 else 0) < a1 then (if a2 > 0 then a2 else 0) else a1) > 0 then (if (if a2 > 0 then a2 else 0) < a1 then (if a2 > 0 then a2 else 0) else a1) else 0) then (IntKind.i64.wrap ((if a2 > 0 then a2 else 0) - (if (if (if a2 > 0 then a2 else 0) < a0 then (if a2 > 0 then a2 else 0) else a0) > 0 then (if (if a2 > 0 then a2 else 0) < a0 then (if a2 > 0 then a2 else 0) else a0) else 0))) else (if (if (if a2 > 0 then a2 else 0) < a1 then (if a2 > 0 then a2 else 0) else a1) > 0 then (if (if a2 > 0 then a2 else 0) < a1 then (if a2 > 0 then a2 else 0) else a1) else 0))))) (by exact rfl)) (by decide) ?_
  refine al_nil ?_
  refine hK4 _ ?_
  refine aw_ret ?_
  obtain rfl := Option.some.inj h
  exact ret_ok1 (by conv => lhs; whnf) (by conv => lhs; whnf) (by exact rfl) (.inr rfl) rfl
def quant_plus (a0 : Int) (a1 : Int) : Option Int :=
  Option.bind (bucket_Plus a0 a1 9223372036854775807) (fun (x3 : Int) => some x3)
set_option maxRecDepth 100000 in
set_option maxHeartbeats 8000000 in
/-- gleaning/quant.plus -/
theorem quant_plus_ok (a0 : Int) (a1 : Int) {r : Int} (h : quant_plus a0 a1 = some r) : Ok Try.prog 14 [.int .i64 a0, .int .i64 a1] [] [] (.int .i64 r) [] [] := by
  unfold quant_plus at h
  refine ok_of_code Try.func14 rfl (by show (2 : Nat) ≤ _; decide) (Nat.le_refl _) fun X => ?_
  refine aw_seq_k (fun K1 hK1 => ?_)
  refine aw_regL ?_
  refine alP (some 4) rfl rfl (does_assign (v := .int .i64 0) (by exact rfl)) (by decide) ?_
  refine al_nil ?_
  refine hK1 _ ?_
  refine aw_seq_k (fun K2 hK2 => ?_)
  refine aw_regL ?_
  refine alP (some 5) rfl rfl (does_move (v := .int .i64 a0) (by exact rfl)) (by decide) ?_
  refine alP (some 6) rfl rfl (does_move (v := .int .i64 a1) (by exact rfl)) (by decide) ?_
  obtain ⟨x3, hx3, h⟩ := bnd_some h
  refine alD (some 7) rfl rfl (do_call0 7 false (bucket_Plus_ok a0 a1 9223372036854775807 hx3) rfl ent23 rfl rfl) (by decide) ?_
  refine alP (some 4) rfl rfl (does_assign (v := .int .i64 x3) (by exact rfl)) (by decide) ?_
  refine al_nil ?_
  refine hK2 _ ?_
  refine aw_ret ?_
  obtain rfl := Option.some.inj h
  exact ret_ok1 (by conv => lhs; whnf) (by conv => lhs; whnf) (by exact rfl) (.inr rfl) rfl
def quant_Total_l0 (a0 : Counter) (v3_0 : Int) (v8_0 : Int) : Option ((Int × Int) ⊕ Int) :=
  if (decide (v8_0 < 8)) = true then (gd (0 ≤ v8_0) (gd (v8_0 < 8) (Option.bind (([a0.By.c0, a0.By.c1, a0.By.c2, a0.By.c3, a0.By.c4, a0.By.c5, a0.By.c6, a0.By.c7] : List Int)[(Int.toNat v8_0)]?) (fun (x14 : Int) => Option.bind (quant_plus v3_0 x14) (fun (x15 : Int) => some (Sum.inl (x15, (IntKind.i64.wrap (v8_0 + 1))))))))) else (some (Sum.inr v3_0))
def quant_Total (a0 : Counter) : Option Int :=
  loopN (fun (s : Int × Int) => quant_Total_l0 a0 s.1 s.2) Fu (0, 0)
set_option maxRecDepth 100000 in
set_option maxHeartbeats 8000000 in
/-- gleaning/quant.Total -/
theorem quant_Total_ok (a0 : Counter) {r : Int} (h : quant_Total a0 = some r) : Ok Try.prog 11 [.agg [.int .i64 a0.Count, .int .i64 a0.Errs, .int .i64 a0.By.c0, .int .i64 a0.By.c1, .int .i64 a0.By.c2, .int .i64 a0.By.c3, .int .i64 a0.By.c4, .int .i64 a0.By.c5, .int .i64 a0.By.c6, .int .i64 a0.By.c7]] [] [] (.int .i64 r) [] [] := by
  unfold quant_Total at h
  refine ok_of_code Try.func11 rfl (by show (1 : Nat) ≤ _; decide) (Nat.le_refl _) fun X => ?_
  refine aw_seq_k (fun K1 hK1 => ?_)
  refine aw_regL ?_
  refine alD (some 1) rfl rfl (do_box (by conv => lhs; whnf) rfl rfl) (by decide) ?_
  refine alP (some 2) rfl rfl (does_assign (v := .int .i64 0) (by exact rfl)) (by decide) ?_
  refine al_nil ?_
  refine hK1 _ ?_
  refine aw_seq_k (fun K2 hK2 => ?_)
  refine aw_regL ?_
  refine alP (some 3) rfl rfl (does_assign (v := .int .i64 0) (by exact rfl)) (by decide) ?_
  refine al_nil ?_
  refine hK2 _ ?_
  refine aw_seq_k (fun K3 hK3 => ?_)
  refine aw_seq_k (fun K4 hK4 => ?_)
  refine aw_regL ?_
  refine alP (some 6) rfl rfl (does_fieldAddr (q := .ptr 1 0 2) (by conv => lhs; whnf) ty26 rfl ty24 (by decide) (by exact rfl)) (by decide) ?_
  refine alR (some 7) rfl rfl (does_load (v := .agg [.int .i64 a0.By.c0, .int .i64 a0.By.c1, .int .i64 a0.By.c2, .int .i64 a0.By.c3, .int .i64 a0.By.c4, .int .i64 a0.By.c5, .int .i64 a0.By.c6, .int .i64 a0.By.c7]) (by conv => lhs; whnf) (by conv => lhs; whnf) ty24 (by exact rfl)) (by decide) ?_
  refine alP (some 8) rfl rfl (does_move (v := .int .i64 0) (by exact rfl)) (by decide) ?_
  refine al_nil ?_
  refine hK4 _ ?_
  refine aw_block ?_
  refine aw_loop' (fun m s => ∃ (v3_0 : Int), ∃ (v8_0 : Int), loopN (fun (s : Int × Int) => quant_Total_l0 a0 s.1 s.2) m (v3_0, v8_0) = some r ∧ s = lit [(3, .int .i64 v3_0), (7, .agg [.int .i64 a0.By.c0, .int .i64 a0.By.c1, .int .i64 a0.By.c2, .int .i64 a0.By.c3, .int .i64 a0.By.c4, .int .i64 a0.By.c5, .int .i64 a0.By.c6, .int .i64 a0.By.c7]), (8, .int .i64 v8_0)] [] [] X) Fu
    ⟨_, reb_lit [(3, .int .i64 (0)), (7, .agg [.int .i64 a0.By.c0, .int .i64 a0.By.c1, .int .i64 a0.By.c2, .int .i64 a0.By.c3, .int .i64 a0.By.c4, .int .i64 a0.By.c5, .int .i64 a0.By.c6, .int .i64 a0.By.c7]), (8, .int .i64 (0))] [] [] [] (envOk_cons (by conv => lhs; whnf) (by exact rfl) (envOk_cons (by conv => lhs; whnf) (by exact rfl) (envOk_cons (by conv => lhs; whnf) (by exact rfl) envOk_nil))) objOk_nil (nodup_b rfl) (nodup_b rfl) rfl rfl, 0, 0, h, rfl⟩ ?_
  rintro m s ⟨v3_0, v8_0, h, rfl⟩
  obtain ⟨m0, q5, rfl, h, hq6⟩ := loop_some h
  replace h : quant_Total_l0 a0 v3_0 v8_0 = some q5 := h
  unfold quant_Total_l0 at h
  refine aw_seq_k (fun K7 hK7 => ?_)
  refine aw_regL ?_
  refine alP (some 9) rfl rfl (does_bin (v := .bool (decide (v8_0 < 8))) (by conv => lhs; whnf) (by conv => lhs; whnf) rfl) (by decide) ?_
  refine al_nil ?_
  refine hK7 _ ?_
  refine aw_seq_k (fun K8 hK8 => ?_)
  refine aw_bool (b := (decide (v8_0 < 8))) 9 rfl (fun c9 => ?_) (fun c9 => ?_)
  · have h := ifT c9 h
    refine aw_cond_t (by decide) rfl ?_
    refine aw_skip ?_
    refine hK8 _ ?_
    refine aw_seq_k (fun K10 hK10 => ?_)
    refine aw_block ?_
    refine aw_seq_k (fun K11 hK11 => ?_)
    refine aw_regL ?_
    obtain ⟨g12, h⟩ := gd_some h
    obtain ⟨g13, h⟩ := gd_some h
    obtain ⟨x14, hx14, h⟩ := bnd_some h
    refine alD (some 10) rfl rfl (does_index_arr (v := .int .i64 x14) (cs := [.int .i64 a0.By.c0, .int .i64 a0.By.c1, .int .i64 a0.By.c2, .int .i64 a0.By.c3, .int .i64 a0.By.c4, .int .i64 a0.By.c5, .int .i64 a0.By.c6, .int .i64 a0.By.c7]) (by conv => lhs; whnf) (by conv => lhs; whnf) ty24 ty3 g12 g13 (loadPV_arr0 (f := enc2) (l := [a0.By.c0, a0.By.c1, a0.By.c2, a0.By.c3, a0.By.c4, a0.By.c5, a0.By.c6, a0.By.c7]) (post := []) (i := (Int.toNat v8_0)) rfl hx14)) (by decide) ?_
    refine alP (some 5) rfl rfl (does_assign (v := .int .i64 x14) (by exact rfl)) (by decide) ?_
    refine al_nil ?_
    refine hK11 _ ?_
    refine aw_regL ?_
    refine alP (some 11) rfl rfl (does_move (v := .int .i64 v3_0) (by exact rfl)) (by decide) ?_
    refine alP (some 12) rfl rfl (does_move (v := .int .i64 x14) (by exact rfl)) (by decide) ?_
    obtain ⟨x15, hx15, h⟩ := bnd_some h
    refine alD (some 13) rfl rfl (do_call0 13 false (quant_plus_ok v3_0 x14 hx15) rfl ent14 rfl rfl) (by decide) ?_
    refine alP (some 3) rfl rfl (does_assign (v := .int .i64 x15) (by exact rfl)) (by decide) ?_
    refine al_nil ?_
    refine hK10 _ ?_
    refine aw_regL ?_
    refine alP (some 14) rfl rfl (does_bin (v := .int .i64 (IntKind.i64.wrap (v8_0 + 1))) (by conv => lhs; whnf) (by conv => lhs; whnf) rfl) (by decide) ?_
    refine alP (some 8) rfl rfl (does_move (v := .int .i64 (IntKind.i64.wrap (v8_0 + 1))) (by exact rfl)) (by decide) ?_
    refine al_nil ?_
    have h := leafL h hq6
    exact ⟨m0, Nat.lt_succ_self _, _, reb_lit [(3, .int .i64 x15), (7, .agg [.int .i64 a0.By.c0, .int .i64 a0.By.c1, .int .i64 a0.By.c2, .int .i64 a0.By.c3, .int .i64 a0.By.c4, .int .i64 a0.By.c5, .int .i64 a0.By.c6, .int .i64 a0.By.c7]), (8, .int .i64 (IntKind.i64.wrap (v8_0 + 1)))] [] [] [] (envOk_cons (by conv => lhs; whnf) (by exact rfl) (envOk_cons (by conv => lhs; whnf) (by exact rfl) (envOk_cons (by conv => lhs; whnf) (by exact rfl) envOk_nil))) objOk_nil (nodup_b rfl) (nodup_b rfl) rfl rfl, x15, (IntKind.i64.wrap (v8_0 + 1)), h, rfl⟩
  · have h := ifF c9 h
    refine aw_cond_f (by decide) rfl ?_
    refine aw_exit ?_
    have h := leafR h hq6
    refine hK3 _ ?_
    refine aw_seq_k (fun K16 hK16 => ?_)
    refine aw_regL ?_
    refine alP (some 15) rfl rfl (does_move (v := .int .i64 v3_0) (by exact rfl)) (by decide) ?_
    refine alP (some 2) rfl rfl (does_assign (v := .int .i64 v3_0) (by exact rfl)) (by decide) ?_
    refine al_nil ?_
    refine hK16 _ ?_
    refine aw_ret ?_
    obtain rfl := Option.some.inj h
    exact ret_ok1 (by conv => lhs; whnf) (by conv => lhs; whnf) (by exact rfl) (.inr rfl) rfl
def math_bits_Mul64 (a0 : Int) (a1 : Int) : Option (Int × Int) :=
  some ((IntKind.u64.wrap ((IntKind.u64.wrap ((IntKind.u64.wrap ((Int.fdiv a0 (2 ^ (min (Int.toNat 32) (IntKind.bits .u64)))) * (Int.fdiv a1 (2 ^ (min (Int.toNat 32) (IntKind.bits .u64)))))) + (Int.fdiv (IntKind.u64.wrap ((IntKind.u64.wrap ((Int.fdiv a0 (2 ^ (min (Int.toNat 32) (IntKind.bits .u64)))) * (bits .and .u64 a1 4294967295))) + (Int.fdiv (IntKind.u64.wrap ((bits .and .u64 a0 4294967295) * (bits .and .u64 a1 4294967295))) (2 ^ (min (Int.toNat 32) (IntKind.bits .u64)))))) (2 ^ (min (Int.toNat 32) (IntKind.bits .u64)))))) + (Int.fdiv (IntKind.u64.wrap ((bits .and .u64 (IntKind.u64.wrap ((IntKind.u64.wrap ((Int.fdiv a0 (2 ^ (min (Int.toNat 32) (IntKind.bits .u64)))) * (bits .and .u64 a1 4294967295))) + (Int.fdiv (IntKind.u64.wrap ((bits .and .u64 a0 4294967295) * (bits .and .u64 a1 4294967295))) (2 ^ (min (Int.toNat 32) (IntKind.bits .u64)))))) 4294967295) + (IntKind.u64.wrap ((bits .and .u64 a0 4294967295) * (Int.fdiv a1 (2 ^ (min (Int.toNat 32) (IntKind.bits .u64)))))))) (2 ^ (min (Int.toNat 32) (IntKind.bits .u64)))))), (IntKind.u64.wrap (a0 * a1)))
set_option maxRecDepth 100000 in
set_option maxHeartbeats 8000000 in
/-- math/bits.Mul64 -/
theorem math_bits_Mul64_ok (a0 : Int) (a1 : Int) {r : Int × Int} (h : math_bits_Mul64 a0 a1 = some r) : Ok Try.prog 21 [.int .u64 a0, .int .u64 a1] [] [] (.tup [.int .u64 r.1, .int .u64 r.2]) [] [] := by
  unfold math_bits_Mul64 at h
  refine ok_of_code Try.func21 rfl (by show (2 : Nat) ≤ _; decide) (Nat.le_refl _) fun X => ?_
  refine aw_seq_k (fun K1 hK1 => ?_)
  refine aw_regL ?_
  refine alP (some 4) rfl rfl (does_assign (v := .int .u64 0) (by exact rfl)) (by decide) ?_
  refine alP (some 5) rfl rfl (does_assign (v := .int .u64 0) (by exact rfl)) (by decide) ?_
  refine al_nil ?_
  refine hK1 _ ?_
  refine aw_seq_k (fun K2 hK2 => ?_)
  refine aw_regL ?_
  refine alP (some 14) rfl rfl (does_move (v := .int .u64 a0) (by exact rfl)) (by decide) ?_
  refine alP (some 15) rfl rfl (does_bin (v := .int .u64 (bits .and .u64 a0 4294967295)) (by conv => lhs; whnf) (by conv => lhs; whnf) rfl) (by decide) ?_
  refine alP (some 6) rfl rfl (does_assign (v := .int .u64 (bits .and .u64 a0 4294967295)) (by exact rfl)) (by decide) ?_
  refine al_nil ?_
  refine hK2 _ ?_
  refine aw_seq_k (fun K3 hK3 => ?_)
  refine aw_regL ?_
  refine alP (some 16) rfl rfl (does_move (v := .int .u64 a0) (by exact rfl)) (by decide) ?_
  refine alP (some 17) rfl rfl (does_bin (v := .int .u64 (Int.fdiv a0 (2 ^ (min (Int.toNat 32) (IntKind.bits .u64))))) (by conv => lhs; whnf) (by conv => lhs; whnf) rfl) (by decide) ?_
  refine alP (some 7) rfl rfl (does_assign (v := .int .u64 (Int.fdiv a0 (2 ^ (min (Int.toNat 32) (IntKind.bits .u64))))) (by exact rfl)) (by decide) ?_
  refine al_nil ?_
  refine hK3 _ ?_
  refine aw_seq_k (fun K4 hK4 => ?_)
  refine aw_regL ?_
  refine alP (some 18) rfl rfl (does_move (v := .int .u64 a1) (by exact rfl)) (by decide) ?_
  refine alP (some 19) rfl rfl (does_bin (v := .int .u64 (bits .and .u64 a1 4294967295)) (by conv => lhs; whnf) (by conv => lhs; whnf) rfl) (by decide) ?_
  refine alP (some 8) rfl rfl (does_assign (v := .int .u64 (bits .and .u64 a1 4294967295)) (by exact rfl)) (by decide) ?_
  refine al_nil ?_
  refine hK4 _ ?_
  refine aw_seq_k (fun K5 hK5 => ?_)
  refine aw_regL ?_
  refine alP (some 20) rfl rfl (does_move (v := .int .u64 a1) (by exact rfl)) (by decide) ?_
  refine alP (some 21) rfl rfl (does_bin (v := .int .u64 (Int.fdiv a1 (2 ^ (min (Int.toNat 32) (IntKind.bits .u64))))) (by conv => lhs; whnf) (by conv => lhs; whnf) rfl) (by decide) ?_
  refine alP (some 9) rfl rfl (does_assign (v := .int .u64 (Int.fdiv a1 (2 ^ (min (Int.toNat 32) (IntKind.bits .u64))))) (by exact rfl)) (by decide) ?_
  refine al_nil ?_
  refine hK5 _ ?_
  refine aw_seq_k (fun K6 hK6 => ?_)
  refine aw_regL ?_
  refine alP (some 22) rfl rfl (does_move (v := .int .u64 (bits .and .u64 a0 4294967295)) (by exact rfl)) (by decide) ?_
  refine alP (some 23) rfl rfl (does_move (v := .int .u64 (bits .and .u64 a1 4294967295)) (by exact rfl)) (by decide) ?_
  refine alP (some 24) rfl rfl (does_bin (v := .int .u64 (IntKind.u64.wrap ((bits .and .u64 a0 4294967295) * (bits .and .u64 a1 4294967295)))) (by conv => lhs; whnf) (by conv => lhs; whnf) rfl) (by decide) ?_
  refine alP (some 10) rfl rfl (does_assign (v := .int .u64 (IntKind.u64.wrap ((bits .and .u64 a0 4294967295) * (bits .and .u64 a1 4294967295)))) (by exact rfl)) (by decide) ?_
  refine al_nil ?_
  refine hK6 _ ?_
  refine aw_seq_k (fun K7 hK7 => ?_)
  refine aw_regL ?_
  refine alP (some 25) rfl rfl (does_move (v := .int .u64 (Int.fdiv a0 (2 ^ (min (Int.toNat 32) (IntKind.bits .u64))))) (by exact rfl)) (by decide) ?_
  refine alP (some 26) rfl rfl (does_move (v := .int .u64 (bits .and .u64 a1 4294967295)) (by exact rfl)) (by decide) ?_
  refine alP (some 27) rfl rfl (does_bin (v := .int .u64 (IntKind.u64.wrap ((Int.fdiv a0 (2 ^ (min (Int.toNat 32) (IntKind.bits .u64)))) * (bits .and .u64 a1 4294967295)))) (by conv => lhs; whnf) (by conv => lhs; whnf) rfl) (by decide) ?_
  refine alP (some 28) rfl rfl (does_move (v := .int .u64 (IntKind.u64.wrap ((bits .and .u64 a0 4294967295) * (bits .and .u64 a1 4294967295)))) (by exact rfl)) (by decide) ?_
  refine alP (some 29) rfl rfl (does_bin (v := .int .u64 (Int.fdiv (IntKind.u64.wrap ((bits .and .u64 a0 4294967295) * (bits .and .u64 a1 4294967295))) (2 ^ (min (Int.toNat 32) (IntKind.bits .u64))))) (by conv => lhs; whnf) (by conv => lhs; whnf) rfl) (by decide) ?_
  refine alP (some 30) rfl rfl (does_bin (v := .int .u64 (IntKind.u64.wrap ((IntKind.u64.wrap ((Int.fdiv a0 (2 ^ (min (Int.toNat 32) (IntKind.bits .u64)))) * (bits .and .u64 a1 4294967295))) + (Int.fdiv (IntKind.u64.wrap ((bits .and .u64 a0 4294967295) * (bits .and .u64 a1 4294967295))) (2 ^ (min (Int.toNat 32) (IntKind.bits .u64))))))) (by conv => lhs; whnf) (by conv => lhs; whnf) rfl) (by decide) ?_
  refine alP (some 11) rfl rfl (does_assign (v := .int .u64 (IntKind.u64.wrap ((IntKind.u64.wrap ((Int.fdiv a0 (2 ^ (min (Int.toNat 32) (IntKind.bits .u64)))) * (bits .and .u64 a1 4294967295))) + (Int.fdiv (IntKind.u64.wrap ((bits .and .u64 a0 4294967295) * (bits .and .u64 a1 4294967295))) (2 ^ (min (Int.toNat 32) (IntKind.bits .u64))))))) (by exact rfl)) (by decide) ?_
  refine al_nil ?_
  refine hK7 _ ?_
  refine aw_seq_k (fun K8 hK8 => ?_)
  refine aw_regL ?_
  refine alP (some 31) rfl rfl (does_move (v := .int .u64 (IntKind.u64.wrap ((IntKind.u64.wrap ((Int.fdiv a0 (2 ^ (min (Int.toNat 32) (IntKind.bits .u64)))) * (bits .and .u64 a1 4294967295))) + (Int.fdiv (IntKind.u64.wrap ((bits .and .u64 a0 4294967295) * (bits .and .u64 a1 4294967295))) (2 ^ (min (Int.toNat 32) (IntKind.bits .u64))))))) (by exact rfl)) (by decide) ?_
  refine alP (some 32) rfl rfl (does_bin (v := .int .u64 (bits .and .u64 (IntKind.u64.wrap ((IntKind.u64.wrap ((Int.fdiv a0 (2 ^ (min (Int.toNat 32) (IntKind.bits .u64)))) * (bits .and .u64 a1 4294967295))) + (Int.fdiv (IntKind.u64.wrap ((bits .and .u64 a0 4294967295) * (bits .and .u64 a1 4294967295))) (2 ^ (min (Int.toNat 32) (IntKind.bits .u64)))))) 4294967295)) (by conv => lhs; whnf) (by conv => lhs; whnf) rfl) (by decide) ?_
  refine alP (some 12) rfl rfl (does_assign (v := .int .u64 (bits .and .u64 (IntKind.u64.wrap ((IntKind.u64.wrap ((Int.fdiv a0 (2 ^ (min (Int.toNat 32) (IntKind.bits .u64)))) * (bits .and .u64 a1 4294967295))) + (Int.fdiv (IntKind.u64.wrap ((bits .and .u64 a0 4294967295) * (bits .and .u64 a1 4294967295))) (2 ^ (min (Int.toNat 32) (IntKind.bits .u64)))))) 4294967295)) (by exact rfl)) (by decide) ?_
  refine al_nil ?_
  refine hK8 _ ?_
  refine aw_seq_k (fun K9 hK9 => ?_)
  refine aw_regL ?_
  refine alP (some 33) rfl rfl (does_move (v := .int .u64 (IntKind.u64.wrap ((IntKind.u64.wrap ((Int.fdiv a0 (2 ^ (min (Int.toNat 32) (IntKind.bits .u64)))) * (bits .and .u64 a1 4294967295))) + (Int.fdiv (IntKind.u64.wrap ((bits .and .u64 a0 4294967295) * (bits .and .u64 a1 4294967295))) (2 ^ (min (Int.toNat 32) (IntKind.bits .u64))))))) (by exact rfl)) (by decide) ?_
  refine alP (some 34) rfl rfl (does_bin (v := .int .u64 (Int.fdiv (IntKind.u64.wrap ((IntKind.u64.wrap ((Int.fdiv a0 (2 ^ (min (Int.toNat 32) (IntKind.bits .u64)))) * (bits .and .u64 a1 4294967295))) + (Int.fdiv (IntKind.u64.wrap ((bits .and .u64 a0 4294967295) * (bits .and .u64 a1 4294967295))) (2 ^ (min (Int.toNat 32) (IntKind.bits .u64)))))) (2 ^ (min (Int.toNat 32) (IntKind.bits .u64))))) (by conv => lhs; whnf) (by conv => lhs; whnf) rfl) (by decide) ?_
  refine alP (some 13) rfl rfl (does_assign (v := .int .u64 (Int.fdiv (IntKind.u64.wrap ((IntKind.u64.wrap ((Int.fdiv a0 (2 ^ (min (Int.toNat 32) (IntKind.bits .u64)))) * (bits .and .u64 a1 4294967295))) + (Int.fdiv (IntKind.u64.wrap ((bits .and .u64 a0 4294967295) * (bits .and .u64 a1 4294967295))) (2 ^ (min (Int.toNat 32) (IntKind.bits .u64)))))) (2 ^ (min (Int.toNat 32) (IntKind.bits .u64))))) (by exact rfl)) (by decide) ?_
  refine al_nil ?_
  refine hK9 _ ?_
  refine aw_seq_k (fun K10 hK10 => ?_)
  refine aw_regL ?_
  refine alP (some 35) rfl rfl (does_move (v := .int .u64 (bits .and .u64 (IntKind.u64.wrap ((IntKind.u64.wrap ((Int.fdiv a0 (2 ^ (min (Int.toNat 32) (IntKind.bits .u64)))) * (bits .and .u64 a1 4294967295))) + (Int.fdiv (IntKind.u64.wrap ((bits .and .u64 a0 4294967295) * (bits .and .u64 a1 4294967295))) (2 ^ (min (Int.toNat 32) (IntKind.bits .u64)))))) 4294967295)) (by exact rfl)) (by decide) ?_
  refine alP (some 36) rfl rfl (does_move (v := .int .u64 (bits .and .u64 a0 4294967295)) (by exact rfl)) (by decide) ?_
  refine alP (some 37) rfl rfl (does_move (v := .int .u64 (Int.fdiv a1 (2 ^ (min (Int.toNat 32) (IntKind.bits .u64))))) (by exact rfl)) (by decide) ?_
  refine alP (some 38) rfl rfl (does_bin (v := .int .u64 (IntKind.u64.wrap ((bits .and .u64 a0 4294967295) * (Int.fdiv a1 (2 ^ (min (Int.toNat 32) (IntKind.bits .u64))))))) (by conv => lhs; whnf) (by conv => lhs; whnf) rfl) (by decide) ?_
  refine alP (some 39) rfl rfl (does_bin (v := .int .u64 (IntKind.u64.wrap ((bits .and .u64 (IntKind.u64.wrap ((IntKind.u64.wrap ((Int.fdiv a0 (2 ^ (min (Int.toNat 32) (IntKind.bits .u64)))) * (bits .and .u64 a1 4294967295))) + (Int.fdiv (IntKind.u64.wrap ((bits .and .u64 a0 4294967295) * (bits .and .u64 a1 4294967295))) (2 ^ (min (Int.toNat 32) (IntKind.bits .u64)))))) 4294967295) + (IntKind.u64.wrap ((bits .and .u64 a0 4294967295) * (Int.fdiv a1 (2 ^ (min (Int.toNat 32) (IntKind.bits .u64))))))))) (by conv => lhs; whnf) (by conv => lhs; whnf) rfl) (by decide) ?_
  refine alP (some 12) rfl rfl (does_assign (v := .int .u64 (IntKind.u64.wrap ((bits .and .u64 (IntKind.u64.wrap ((IntKind.u64.wrap ((Int.fdiv a0 (2 ^ (min (Int.toNat 32) (IntKind.bits .u64)))) * (bits .and .u64 a1 4294967295))) + (Int.fdiv (IntKind.u64.wrap ((bits .and .u64 a0 4294967295) * (bits .and .u64 a1 4294967295))) (2 ^ (min (Int.toNat 32) (IntKind.bits .u64)))))) 4294967295) + (IntKind.u64.wrap ((bits .and .u64 a0 4294967295) * (Int.fdiv a1 (2 ^ (min (Int.toNat 32) (IntKind.bits .u64))))))))) (by exact rfl)) (by decide) ?_
  refine al_nil ?_
  refine hK10 _ ?_
  refine aw_seq_k (fun K11 hK11 => ?_)
  refine aw_regL ?_
  refine alP (some 40) rfl rfl (does_move (v := .int .u64 (Int.fdiv a0 (2 ^ (min (Int.toNat 32) (IntKind.bits .u64))))) (by exact rfl)) (by decide) ?_
  refine alP (some 41) rfl rfl (does_move (v := .int .u64 (Int.fdiv a1 (2 ^ (min (Int.toNat 32) (IntKind.bits .u64))))) (by exact rfl)) (by decide) ?_
  refine alP (some 42) rfl rfl (does_bin (v := .int .u64 (IntKind.u64.wrap ((Int.fdiv a0 (2 ^ (min (Int.toNat 32) (IntKind.bits .u64)))) * (Int.fdiv a1 (2 ^ (min (Int.toNat 32) (IntKind.bits .u64))))))) (by conv => lhs; whnf) (by conv => lhs; whnf) rfl) (by decide) ?_
  refine alP (some 43) rfl rfl (does_move (v := .int .u64 (Int.fdiv (IntKind.u64.wrap ((IntKind.u64.wrap ((Int.fdiv a0 (2 ^ (min (Int.toNat 32) (IntKind.bits .u64)))) * (bits .and .u64 a1 4294967295))) + (Int.fdiv (IntKind.u64.wrap ((bits .and .u64 a0 4294967295) * (bits .and .u64 a1 4294967295))) (2 ^ (min (Int.toNat 32) (IntKind.bits .u64)))))) (2 ^ (min (Int.toNat 32) (IntKind.bits .u64))))) (by exact rfl)) (by decide) ?_
  refine alP (some 44) rfl rfl (does_bin (v := .int .u64 (IntKind.u64.wrap ((IntKind.u64.wrap ((Int.fdiv a0 (2 ^ (min (Int.toNat 32) (IntKind.bits .u64)))) * (Int.fdiv a1 (2 ^ (min (Int.toNat 32) (IntKind.bits .u64)))))) + (Int.fdiv (IntKind.u64.wrap ((IntKind.u64.wrap ((Int.fdiv a0 (2 ^ (min (Int.toNat 32) (IntKind.bits .u64)))) * (bits .and .u64 a1 4294967295))) + (Int.fdiv (IntKind.u64.wrap ((bits .and .u64 a0 4294967295) * (bits .and .u64 a1 4294967295))) (2 ^ (min (Int.toNat 32) (IntKind.bits .u64)))))) (2 ^ (min (Int.toNat 32) (IntKind.bits .u64))))))) (by conv => lhs; whnf) (by conv => lhs; whnf) rfl) (by decide) ?_
  refine alP (some 45) rfl rfl (does_move (v := .int .u64 (IntKind.u64.wrap ((bits .and .u64 (IntKind.u64.wrap ((IntKind.u64.wrap ((Int.fdiv a0 (2 ^ (min (Int.toNat 32) (IntKind.bits .u64)))) * (bits .and .u64 a1 4294967295))) + (Int.fdiv (IntKind.u64.wrap ((bits .and .u64 a0 4294967295) * (bits .and .u64 a1 4294967295))) (2 ^ (min (Int.toNat 32) (IntKind.bits .u64)))))) 4294967295) + (IntKind.u64.wrap ((bits .and .u64 a0 4294967295) * (Int.fdiv a1 (2 ^ (min (Int.toNat 32) (IntKind.bits .u64))))))))) (by exact rfl)) (by decide) ?_
  refine alP (some 46) rfl rfl (does_bin (v := .int .u64 (Int.fdiv (IntKind.u64.wrap ((bits .and .u64 (IntKind.u64.wrap ((IntKind.u64.wrap ((Int.fdiv a0 (2 ^ (min (Int.toNat 32) (IntKind.bits .u64)))) * (bits .and .u64 a1 4294967295))) + (Int.fdiv (IntKind.u64.wrap ((bits .and .u64 a0 4294967295) * (bits .and .u64 a1 4294967295))) (2 ^ (min (Int.toNat 32) (IntKind.bits .u64)))))) 4294967295) + (IntKind.u64.wrap ((bits .and .u64 a0 4294967295) * (Int.fdiv a1 (2 ^ (min (Int.toNat 32) (IntKind.bits .u64)))))))) (2 ^ (min (Int.toNat 32) (IntKind.bits .u64))))) (by conv => lhs; whnf) (by conv => lhs; whnf) rfl) (by decide) ?_
  refine alP (some 47) rfl rfl (does_bin (v := .int .u64 (IntKind.u64.wrap ((IntKind.u64.wrap ((IntKind.u64.wrap ((Int.fdiv a0 (2 ^ (min (Int.toNat 32) (IntKind.bits .u64)))) * (Int.fdiv a1 (2 ^ (min (Int.toNat 32) (IntKind.bits .u64)))))) + (Int.fdiv (IntKind.u64.wrap ((IntKind.u64.wrap ((Int.fdiv a0 (2 ^ (min (Int.toNat 32) (IntKind.bits .u64)))) * (bits .and .u64 a1 4294967295))) + (Int.fdiv (IntKind.u64.wrap ((bits .and .u64 a0 4294967295) * (bits .and .u64 a1 4294967295))) (2 ^ (min (Int.toNat 32) (IntKind.bits .u64)))))) (2 ^ (min (Int.toNat 32) (IntKind.bits .u64)))))) + (Int.fdiv (IntKind.u64.wrap ((bits .and .u64 (IntKind.u64.wrap ((IntKind.u64.wrap ((Int.fdiv a0 (2 ^ (min (Int.toNat 32) (IntKind.bits .u64)))) * (bits .and .u64 a1 4294967295))) + (Int.fdiv (IntKind.u64.wrap ((bits .and .u64 a0 4294967295) * (bits .and .u64 a1 4294967295))) (2 ^ (min (Int.toNat 32) (IntKind.bits .u64)))))) 4294967295) + (IntKind.u64.wrap ((bits .and .u64 a0 4294967295) * (Int.fdiv a1 (2 ^ (min (Int.toNat 32) (IntKind.bits .u64)))))))) (2 ^ (min (Int.toNat 32) (IntKind.bits .u64))))))) (by conv => lhs; whnf) (by conv => lhs; whnf) rfl) (by decide) ?_
  refine alP (some 4) rfl rfl (does_assign (v := .int .u64 (IntKind.u64.wrap ((IntKind.u64.wrap ((IntKind.u64.wrap ((Int.fdiv a0 (2 ^ (min (Int.toNat 32) (IntKind.bits .u64)))) * (Int.fdiv a1 (2 ^ (min (Int.toNat 32) (IntKind.bits .u64)))))) + (Int.fdiv (IntKind.u64.wrap ((IntKind.u64.wrap ((Int.fdiv a0 (2 ^ (min (Int.toNat 32) (IntKind.bits .u64)))) * (bits .and .u64 a1 4294967295))) + (Int.fdiv (IntKind.u64.wrap ((bits .and .u64 a0 4294967295) * (bits .and .u64 a1 4294967295))) (2 ^ (min (Int.toNat 32) (IntKind.bits .u64)))))) (2 ^ (min (Int.toNat 32) (IntKind.bits .u64)))))) + (Int.fdiv (IntKind.u64.wrap ((bits .and .u64 (IntKind.u64.wrap ((IntKind.u64.wrap ((Int.fdiv a0 (2 ^ (min (Int.toNat 32) (IntKind.bits .u64)))) * (bits .and .u64 a1 4294967295))) + (Int.fdiv (IntKind.u64.wrap ((bits .and .u64 a0 4294967295) * (bits .and .u64 a1 4294967295))) (2 ^ (min (Int.toNat 32) (IntKind.bits .u64)))))) 4294967295) + (IntKind.u64.wrap ((bits .and .u64 a0 4294967295) * (Int.fdiv a1 (2 ^ (min (Int.toNat 32) (IntKind.bits .u64)))))))) (2 ^ (min (Int.toNat 32) (IntKind.bits .u64))))))) (by exact rfl)) (by decide) ?_
  refine al_nil ?_
  refine hK11 _ ?_
  refine aw_seq_k (fun K12 hK12 => ?_)
  refine aw_regL ?_
  refine alP (some 48) rfl rfl (does_move (v := .int .u64 a0) (by exact rfl)) (by decide) ?_
  refine alP (some 49) rfl rfl (does_move (v := .int .u64 a1) (by exact rfl)) (by decide) ?_
  refine alP (some 50) rfl rfl (does_bin (v := .int .u64 (IntKind.u64.wrap (a0 * a1))) (by conv => lhs; whnf) (by conv => lhs; whnf) rfl) (by decide) ?_
  refine alP (some 5) rfl rfl (does_assign (v := .int .u64 (IntKind.u64.wrap (a0 * a1))) (by exact rfl)) (by decide) ?_
  refine al_nil ?_
  refine hK12 _ ?_
  refine aw_ret ?_
  obtain rfl := Option.some.inj h
  exact ret_ok1 (by conv => lhs; whnf) (by conv => lhs; whnf) (by exact rfl) (.inr rfl) rfl
def quant_less (a0 : Int) (a1 : Int) (a2 : Int) (a3 : Int) : Option Bool :=
  Option.bind (math_bits_Mul64 (IntKind.u64.wrap a0) (IntKind.u64.wrap a1)) (fun (x3 : Int × Int) => Option.bind (math_bits_Mul64 (IntKind.u64.wrap a2) (IntKind.u64.wrap a3)) (fun (x5 : Int × Int) => if (decide (x3.1 < x5.1)) = true then (some true) else (if (x3.1 == x5.1) = true then (some (decide (x3.2 < x5.2))) else (some false))))
set_option maxRecDepth 100000 in
set_option maxHeartbeats 8000000 in
/-- gleaning/quant.less -/
theorem quant_less_ok (a0 : Int) (a1 : Int) (a2 : Int) (a3 : Int) {r : Bool} (h : quant_less a0 a1 a2 a3 = some r) : Ok Try.prog 20 [.int .i64 a0, .int .i64 a1, .int .i64 a2, .int .i64 a3] [] [] (.bool r) [] [] := by
  unfold quant_less at h
  refine ok_of_code Try.func20 rfl (by show (4 : Nat) ≤ _; decide) (Nat.le_refl _) fun X => ?_
  refine aw_seq_k (fun K1 hK1 => ?_)
  refine aw_regL ?_
  refine alP (some 8) rfl rfl (does_assign (v := .bool false) (by exact rfl)) (by decide) ?_
  refine al_nil ?_
  refine hK1 _ ?_
  refine aw_seq_k (fun K2 hK2 => ?_)
  refine aw_regL ?_
  refine alP (some 14) rfl rfl (does_move (v := .int .i64 a0) (by exact rfl)) (by decide) ?_
  refine alP (some 15) rfl rfl (does_conv_int (v := .int .u64 (IntKind.u64.wrap a0)) (by conv => lhs; whnf) (ty_some ty3) (ty_int ty49) rfl) (by decide) ?_
  refine alP (some 16) rfl rfl (does_move (v := .int .i64 a1) (by exact rfl)) (by decide) ?_
  refine alP (some 17) rfl rfl (does_conv_int (v := .int .u64 (IntKind.u64.wrap a1)) (by conv => lhs; whnf) (ty_some ty3) (ty_int ty49) rfl) (by decide) ?_
  obtain ⟨x3, hx3, h⟩ := bnd_some h
  refine alD (some 18) rfl rfl (do_call0 18 false (math_bits_Mul64_ok (IntKind.u64.wrap a0) (IntKind.u64.wrap a1) hx3) rfl ent21 rfl rfl) (by decide) ?_
  refine alP (some 13) rfl rfl (does_move (v := .tup [.int .u64 x3.1, .int .u64 x3.2]) (by exact rfl)) (by decide) ?_
  refine alP (some 19) rfl rfl (does_extract (v := .int .u64 x3.1) (by conv => lhs; whnf) (by exact rfl)) (by decide) ?_
  refine alP (some 20) rfl rfl (does_extract (v := .int .u64 x3.2) (by conv => lhs; whnf) (by exact rfl)) (by decide) ?_
  refine alP (some 9) rfl rfl (does_assign (v := .int .u64 x3.1) (by exact rfl)) (by decide) ?_
  refine alP (some 10) rfl rfl (does_assign (v := .int .u64 x3.2) (by exact rfl)) (by decide) ?_
  refine al_nil ?_
  refine hK2 _ ?_
  refine aw_seq_k (fun K4 hK4 => ?_)
  refine aw_regL ?_
  refine alP (some 22) rfl rfl (does_move (v := .int .i64 a2) (by exact rfl)) (by decide) ?_
  refine alP (some 23) rfl rfl (does_conv_int (v := .int .u64 (IntKind.u64.wrap a2)) (by conv => lhs; whnf) (ty_some ty3) (ty_int ty49) rfl) (by decide) ?_
  refine alP (some 24) rfl rfl (does_move (v := .int .i64 a3) (by exact rfl)) (by decide) ?_
  refine alP (some 25) rfl rfl (does_conv_int (v := .int .u64 (IntKind.u64.wrap a3)) (by conv => lhs; whnf) (ty_some ty3) (ty_int ty49) rfl) (by decide) ?_
  obtain ⟨x5, hx5, h⟩ := bnd_some h
  refine alD (some 26) rfl rfl (do_call0 26 false (math_bits_Mul64_ok (IntKind.u64.wrap a2) (IntKind.u64.wrap a3) hx5) rfl ent21 rfl rfl) (by decide) ?_
  refine alP (some 21) rfl rfl (does_move (v := .tup [.int .u64 x5.1, .int .u64 x5.2]) (by exact rfl)) (by decide) ?_
  refine alP (some 27) rfl rfl (does_extract (v := .int .u64 x5.1) (by conv => lhs; whnf) (by exact rfl)) (by decide) ?_
  refine alP (some 28) rfl rfl (does_extract (v := .int .u64 x5.2) (by conv => lhs; whnf) (by exact rfl)) (by decide) ?_
  refine alP (some 11) rfl rfl (does_assign (v := .int .u64 x5.1) (by exact rfl)) (by decide) ?_
  refine alP (some 12) rfl rfl (does_assign (v := .int .u64 x5.2) (by exact rfl)) (by decide) ?_
  refine al_nil ?_
  refine hK4 _ ?_
  refine aw_seq_k (fun K6 hK6 => ?_)
  refine aw_regL ?_
  refine alP (some 29) rfl rfl (does_move (v := .int .u64 x3.1) (by exact rfl)) (by decide) ?_
  refine alP (some 30) rfl rfl (does_move (v := .int .u64 x5.1) (by exact rfl)) (by decide) ?_
  refine alP (some 31) rfl rfl (does_bin (v := .bool (decide (x3.1 < x5.1))) (by conv => lhs; whnf) (by conv => lhs; whnf) rfl) (by decide) ?_
  refine alP (some 32) rfl rfl (does_move (v := .bool (decide (x3.1 < x5.1))) (by exact rfl)) (by decide) ?_
  refine al_bool (c := (decide (x3.1 < x5.1))) 32 rfl (fun c7 => ?_) (fun c7 => ?_)
  · have h := ifT c7 h
    refine alS (some 33) rfl rfl (by decide) ?_
    refine alS (some 34) rfl rfl (by decide) ?_
    refine alS (some 35) rfl rfl (by decide) ?_
    refine alS (some 36) rfl rfl (by decide) ?_
    refine alS (some 37) rfl rfl (by decide) ?_
    refine alS (some 38) rfl rfl (by decide) ?_
    refine alS (some 39) rfl rfl (by decide) ?_
    refine alS (some 40) rfl rfl (by decide) ?_
    refine alP (some 41) rfl rfl (does_pick (v := .bool true) (by conv => lhs; whnf) (by exact rfl)) (by decide) ?_
    refine alP (some 8) rfl rfl (does_assign (v := .bool true) (by exact rfl)) (by decide) ?_
    refine al_nil ?_
    refine hK6 _ ?_
    refine aw_ret ?_
    obtain rfl := Option.some.inj h
    exact ret_ok1 (by conv => lhs; whnf) (by conv => lhs; whnf) (by exact rfl) (.inr rfl) rfl
  · have h := ifF c7 h
    refine alP (some 33) rfl rfl (does_move (v := .int .u64 x3.1) (by exact rfl)) (by decide) ?_
    refine alP (some 34) rfl rfl (does_move (v := .int .u64 x5.1) (by exact rfl)) (by decide) ?_
    refine alP (some 35) rfl rfl (does_bin (v := .bool (x3.1 == x5.1)) (by conv => lhs; whnf) (by conv => lhs; whnf) rfl) (by decide) ?_
    refine alP (some 36) rfl rfl (does_move (v := .bool (x3.1 == x5.1)) (by exact rfl)) (by decide) ?_
    refine al_bool (c := (x3.1 == x5.1)) 36 rfl (fun c8 => ?_) (fun c8 => ?_)
    · have h := ifT c8 h
      refine alP (some 37) rfl rfl (does_move (v := .int .u64 x3.2) (by exact rfl)) (by decide) ?_
      refine alP (some 38) rfl rfl (does_move (v := .int .u64 x5.2) (by exact rfl)) (by decide) ?_
      refine alP (some 39) rfl rfl (does_bin (v := .bool (decide (x3.2 < x5.2))) (by conv => lhs; whnf) (by conv => lhs; whnf) rfl) (by decide) ?_
      refine alP (some 40) rfl rfl (does_pick (v := .bool (decide (x3.2 < x5.2))) (by conv => lhs; whnf) (by exact rfl)) (by decide) ?_
      refine alP (some 41) rfl rfl (does_pick (v := .bool (decide (x3.2 < x5.2))) (by conv => lhs; whnf) (by exact rfl)) (by decide) ?_
      refine alP (some 8) rfl rfl (does_assign (v := .bool (decide (x3.2 < x5.2))) (by exact rfl)) (by decide) ?_
      refine al_nil ?_
      refine hK6 _ ?_
      refine aw_ret ?_
      obtain rfl := Option.some.inj h
      exact ret_ok1 (by conv => lhs; whnf) (by conv => lhs; whnf) (by exact rfl) (.inr rfl) rfl
    · have h := ifF c8 h
      refine alS (some 37) rfl rfl (by decide) ?_
      refine alS (some 38) rfl rfl (by decide) ?_
      refine alS (some 39) rfl rfl (by decide) ?_
      refine alP (some 40) rfl rfl (does_pick (v := .bool false) (by conv => lhs; whnf) (by exact rfl)) (by decide) ?_
      refine alP (some 41) rfl rfl (does_pick (v := .bool false) (by conv => lhs; whnf) (by exact rfl)) (by decide) ?_
      refine alP (some 8) rfl rfl (does_assign (v := .bool false) (by exact rfl)) (by decide) ?_
      refine al_nil ?_
      refine hK6 _ ?_
      refine aw_ret ?_
      obtain rfl := Option.some.inj h
      exact ret_ok1 (by conv => lhs; whnf) (by conv => lhs; whnf) (by exact rfl) (.inr rfl) rfl
end Go.Proofs.Ytoecalgfdphghaa.Ab
