/- The busiest. -/
import Derived.Test.YtoecalgfdphghaaPQuantC
import Derived.Test.YtoecalgfdphghaaProg
namespace Go.Proofs.Ytoecalgfdphghaa.Ab
open Go Go.RowKit
set_option linter.unusedVariables false
set_option linter.unusedSimpArgs false
structure RowG where
  Level : Int
  Window : Int
  Service : ByteArray
  Op : ByteArray
  Counter : Counter
  deriving DecidableEq
def enc27 (x : RowG) : PV := .agg [.int .i64 x.Level, .int .i64 x.Window, .str x.Service, .str x.Op, .int .i64 x.Counter.Count, .int .i64 x.Counter.Errs, .int .i64 x.Counter.By.c0, .int .i64 x.Counter.By.c1, .int .i64 x.Counter.By.c2, .int .i64 x.Counter.By.c3, .int .i64 x.Counter.By.c4, .int .i64 x.Counter.By.c5, .int .i64 x.Counter.By.c6, .int .i64 x.Counter.By.c7]
def enc33 (x : Busy) : PV := .agg [.str x.Service, .str x.Op, .int .i64 x.Count, .int .i64 x.Errs]
theorem ty22 : tyOf Try.prog 22 = some ⟨.slice 28, 1, 24, [.nil]⟩ := by kernel_rfl
theorem ty28 : tyOf Try.prog 28 = some ⟨.struct [(0, 3), (1, 3), (2, 9), (3, 9), (4, 26)], 14, 128, [.int .i64 0, .int .i64 0, .str ByteArray.empty, .str ByteArray.empty, .int .i64 0, .int .i64 0, .int .i64 0, .int .i64 0, .int .i64 0, .int .i64 0, .int .i64 0, .int .i64 0, .int .i64 0, .int .i64 0]⟩ := by kernel_rfl
theorem ty30 : tyOf Try.prog 30 = some ⟨.slice 34, 1, 24, [.nil]⟩ := by kernel_rfl
theorem fk34 : flatK Try.prog 8 34 = some [.s, .s, .i .i64, .i .i64] := by kernel_rfl
theorem ag34 : aggT Try.prog 34 = true := by kernel_rfl
theorem eg34 : Try.prog.eqGuardType Try.prog.depth 34 = false := by kernel_rfl
theorem ent12 : Ent Try.prog 12 := ⟨_, Try.func12, by kernel_rfl, rfl⟩
theorem ent13 : Ent Try.prog 13 := ⟨_, Try.func13, by kernel_rfl, rfl⟩
theorem ent15 : Ent Try.prog 15 := ⟨_, Try.func15, by kernel_rfl, rfl⟩
theorem ent16 : Ent Try.prog 16 := ⟨_, Try.func16, by kernel_rfl, rfl⟩
theorem ent17 : Ent Try.prog 17 := ⟨_, Try.func17, by kernel_rfl, rfl⟩
theorem ent18 : Ent Try.prog 18 := ⟨_, Try.func18, by kernel_rfl, rfl⟩
theorem ent19 : Ent Try.prog 19 := ⟨_, Try.func19, by kernel_rfl, rfl⟩
def quant_Busy_c1 (a0 : Busy) (a1 : RowG) : Option Bool :=
  if (ByteArray.toList a0.Service == ByteArray.toList a1.Service) = true then (some (ByteArray.toList a0.Op == ByteArray.toList a1.Op)) else (some false)
set_option maxRecDepth 100000 in
set_option maxHeartbeats 8000000 in
/-- gleaning/quant.Busy$1 -/
theorem quant_Busy_c1_ok (a0 : Busy) (a1 : RowG) {r : Bool} (h : quant_Busy_c1 a0 a1 = some r) : Ok Try.prog 13 [.agg [.str a0.Service, .str a0.Op, .int .i64 a0.Count, .int .i64 a0.Errs], .rptr [.int .i64 a1.Level, .int .i64 a1.Window, .str a1.Service, .str a1.Op, .int .i64 a1.Counter.Count, .int .i64 a1.Counter.Errs, .int .i64 a1.Counter.By.c0, .int .i64 a1.Counter.By.c1, .int .i64 a1.Counter.By.c2, .int .i64 a1.Counter.By.c3, .int .i64 a1.Counter.By.c4, .int .i64 a1.Counter.By.c5, .int .i64 a1.Counter.By.c6, .int .i64 a1.Counter.By.c7]] [] [] (.bool r) [] [] := by
  unfold quant_Busy_c1 at h
  refine ok_of_code Try.func13 rfl (by show (2 : Nat) ≤ _; decide) (Nat.le_refl _) fun X => ?_
  refine aw_seq_k (fun K1 hK1 => ?_)
  refine aw_regL ?_
  refine alD (some 2) rfl rfl (do_box (by conv => lhs; whnf) rfl rfl) (by decide) ?_
  refine alP (some 3) rfl rfl (does_assign (v := .bool false) (by exact rfl)) (by decide) ?_
  refine al_nil ?_
  refine hK1 _ ?_
  refine aw_seq_k (fun K2 hK2 => ?_)
  refine aw_regL ?_
  refine alP (some 4) rfl rfl (does_fieldAddr (q := .ptr 2 0 0) (by conv => lhs; whnf) ty34 rfl ty9 (by decide) (by exact rfl)) (by decide) ?_
  refine alR (some 5) rfl rfl (does_load (v := .str a0.Service) (by conv => lhs; whnf) (by conv => lhs; whnf) ty9 (by exact rfl)) (by decide) ?_
  refine alP (some 6) rfl rfl (does_fieldAddr (q := .rptr [.str a1.Service, .str a1.Op, .int .i64 a1.Counter.Count, .int .i64 a1.Counter.Errs, .int .i64 a1.Counter.By.c0, .int .i64 a1.Counter.By.c1, .int .i64 a1.Counter.By.c2, .int .i64 a1.Counter.By.c3, .int .i64 a1.Counter.By.c4, .int .i64 a1.Counter.By.c5, .int .i64 a1.Counter.By.c6, .int .i64 a1.Counter.By.c7]) (by conv => lhs; whnf) ty28 rfl ty9 (by decide) (by exact rfl)) (by decide) ?_
  refine alR (some 7) rfl rfl (does_load (v := .str a1.Service) (by conv => lhs; whnf) (by conv => lhs; whnf) ty9 (by exact rfl)) (by decide) ?_
  refine alP (some 8) rfl rfl (does_bin (v := .bool (ByteArray.toList a0.Service == ByteArray.toList a1.Service)) (by conv => lhs; whnf) (by conv => lhs; whnf) rfl) (by decide) ?_
  refine alP (some 9) rfl rfl (does_move (v := .bool (ByteArray.toList a0.Service == ByteArray.toList a1.Service)) (by exact rfl)) (by decide) ?_
  refine al_bool (c := (ByteArray.toList a0.Service == ByteArray.toList a1.Service)) 9 rfl (fun c3 => ?_) (fun c3 => ?_)
  · have h := ifT c3 h
    refine alP (some 10) rfl rfl (does_fieldAddr (q := .ptr 2 0 1) (by conv => lhs; whnf) ty34 rfl ty9 (by decide) (by exact rfl)) (by decide) ?_
    refine alR (some 11) rfl rfl (does_load (v := .str a0.Op) (by conv => lhs; whnf) (by conv => lhs; whnf) ty9 (by exact rfl)) (by decide) ?_
    refine alP (some 12) rfl rfl (does_fieldAddr (q := .rptr [.str a1.Op, .int .i64 a1.Counter.Count, .int .i64 a1.Counter.Errs, .int .i64 a1.Counter.By.c0, .int .i64 a1.Counter.By.c1, .int .i64 a1.Counter.By.c2, .int .i64 a1.Counter.By.c3, .int .i64 a1.Counter.By.c4, .int .i64 a1.Counter.By.c5, .int .i64 a1.Counter.By.c6, .int .i64 a1.Counter.By.c7]) (by conv => lhs; whnf) ty28 rfl ty9 (by decide) (by exact rfl)) (by decide) ?_
    refine alR (some 13) rfl rfl (does_load (v := .str a1.Op) (by conv => lhs; whnf) (by conv => lhs; whnf) ty9 (by exact rfl)) (by decide) ?_
    refine alP (some 14) rfl rfl (does_bin (v := .bool (ByteArray.toList a0.Op == ByteArray.toList a1.Op)) (by conv => lhs; whnf) (by conv => lhs; whnf) rfl) (by decide) ?_
    refine alP (some 15) rfl rfl (does_pick (v := .bool (ByteArray.toList a0.Op == ByteArray.toList a1.Op)) (by conv => lhs; whnf) (by exact rfl)) (by decide) ?_
    refine alP (some 3) rfl rfl (does_assign (v := .bool (ByteArray.toList a0.Op == ByteArray.toList a1.Op)) (by exact rfl)) (by decide) ?_
    refine al_nil ?_
    refine hK2 _ ?_
    refine aw_ret ?_
    obtain rfl := Option.some.inj h
    exact ret_ok1 (by conv => lhs; whnf) (by conv => lhs; whnf) (by exact rfl) (.inr rfl) rfl
  · have h := ifF c3 h
    refine alS (some 10) rfl rfl (by decide) ?_
    refine alS (some 11) rfl rfl (by decide) ?_
    refine alS (some 12) rfl rfl (by decide) ?_
    refine alS (some 13) rfl rfl (by decide) ?_
    refine alS (some 14) rfl rfl (by decide) ?_
    refine alP (some 15) rfl rfl (does_pick (v := .bool false) (by conv => lhs; whnf) (by exact rfl)) (by decide) ?_
    refine alP (some 3) rfl rfl (does_assign (v := .bool false) (by exact rfl)) (by decide) ?_
    refine al_nil ?_
    refine hK2 _ ?_
    refine aw_ret ?_
    obtain rfl := Option.some.inj h
    exact ret_ok1 (by conv => lhs; whnf) (by conv => lhs; whnf) (by exact rfl) (.inr rfl) rfl
def slices_IndexFunc_Busy_quant_Busy_c1_l0 (a0 : List Busy) (a1_0 : RowG) (v8_0 : Int) : Option (Int ⊕ Int) :=
  if (decide (v8_0 < (List.length a0 : Int))) = true then (gd (0 ≤ v8_0) (Option.bind (a0[(Int.toNat v8_0)]?) (fun (x13 : Busy) => Option.bind (quant_Busy_c1 x13 a1_0) (fun (x14 : Bool) => if x14 = true then (some (Sum.inr v8_0)) else (some (Sum.inl (IntKind.i64.wrap (v8_0 + 1)))))))) else (some (Sum.inr (-1)))
def slices_IndexFunc_Busy_quant_Busy_c1 (a0 : List Busy) (a1_0 : RowG) : Option Int :=
  loopN (fun (s : Int) => slices_IndexFunc_Busy_quant_Busy_c1_l0 a0 a1_0 s) Fu 0
set_option maxRecDepth 100000 in
set_option maxHeartbeats 8000000 in
/-- slices.IndexFunc[[]gleaning/api.Busy,gleaning/api.Busy] -/
theorem slices_IndexFunc_Busy_quant_Busy_c1_ok (a0 : List Busy) (a1_0 : RowG) {r : Int} (h : slices_IndexFunc_Busy_quant_Busy_c1 a0 a1_0 = some r) : Ok Try.prog 12 [.sl 4 (List.map enc33 a0), .fn 13 [.rptr [.int .i64 a1_0.Level, .int .i64 a1_0.Window, .str a1_0.Service, .str a1_0.Op, .int .i64 a1_0.Counter.Count, .int .i64 a1_0.Counter.Errs, .int .i64 a1_0.Counter.By.c0, .int .i64 a1_0.Counter.By.c1, .int .i64 a1_0.Counter.By.c2, .int .i64 a1_0.Counter.By.c3, .int .i64 a1_0.Counter.By.c4, .int .i64 a1_0.Counter.By.c5, .int .i64 a1_0.Counter.By.c6, .int .i64 a1_0.Counter.By.c7]]] [] [] (.int .i64 r) [] [] := by
  unfold slices_IndexFunc_Busy_quant_Busy_c1 at h
  refine ok_of_code Try.func12 rfl (by show (2 : Nat) ≤ _; decide) (Nat.le_refl _) fun X => ?_
  refine aw_seq_k (fun K1 hK1 => ?_)
  refine aw_regL ?_
  refine alP (some 4) rfl rfl (does_assign (v := .int .i64 0) (by exact rfl)) (by decide) ?_
  refine al_nil ?_
  refine hK1 _ ?_
  refine aw_seq_k (fun K2 hK2 => ?_)
  refine aw_seq_k (fun K3 hK3 => ?_)
  refine aw_regL ?_
  refine alP (some 6) rfl rfl (does_move (v := .sl 4 (List.map enc33 a0)) (by exact rfl)) (by decide) ?_
  refine alP (some 7) rfl rfl ((does_len_sl (by conv => lhs; whnf) ty30).castp (v' := .int .i64 (List.length a0 : Int)) (by exact len_map _)) (by decide) ?_
  refine alP (some 8) rfl rfl (does_move (v := .int .i64 0) (by exact rfl)) (by decide) ?_
  refine al_nil ?_
  refine hK3 _ ?_
  refine aw_block ?_
  refine aw_loop' (fun m s => ∃ (v8_0 : Int), loopN (fun (s : Int) => slices_IndexFunc_Busy_quant_Busy_c1_l0 a0 a1_0 s) m v8_0 = some r ∧ s = lit [(0, .sl 4 (List.map enc33 a0)), (1, .fn 13 [.rptr [.int .i64 a1_0.Level, .int .i64 a1_0.Window, .str a1_0.Service, .str a1_0.Op, .int .i64 a1_0.Counter.Count, .int .i64 a1_0.Counter.Errs, .int .i64 a1_0.Counter.By.c0, .int .i64 a1_0.Counter.By.c1, .int .i64 a1_0.Counter.By.c2, .int .i64 a1_0.Counter.By.c3, .int .i64 a1_0.Counter.By.c4, .int .i64 a1_0.Counter.By.c5, .int .i64 a1_0.Counter.By.c6, .int .i64 a1_0.Counter.By.c7]]), (7, .int .i64 (List.length a0 : Int)), (8, .int .i64 v8_0)] [] [] X) Fu
    ⟨_, reb_lit [(0, .sl 4 (List.map enc33 a0)), (1, .fn 13 [.rptr [.int .i64 a1_0.Level, .int .i64 a1_0.Window, .str a1_0.Service, .str a1_0.Op, .int .i64 a1_0.Counter.Count, .int .i64 a1_0.Counter.Errs, .int .i64 a1_0.Counter.By.c0, .int .i64 a1_0.Counter.By.c1, .int .i64 a1_0.Counter.By.c2, .int .i64 a1_0.Counter.By.c3, .int .i64 a1_0.Counter.By.c4, .int .i64 a1_0.Counter.By.c5, .int .i64 a1_0.Counter.By.c6, .int .i64 a1_0.Counter.By.c7]]), (7, .int .i64 (List.length a0 : Int)), (8, .int .i64 (0))] [] [] [] (envOk_cons (by conv => lhs; whnf) (by exact rfl) (envOk_cons (by conv => lhs; whnf) (by exact rfl) (envOk_cons (by conv => lhs; whnf) (by exact rfl) (envOk_cons (by conv => lhs; whnf) (by exact rfl) envOk_nil)))) objOk_nil (nodup_b rfl) (nodup_b rfl) rfl rfl, 0, h, rfl⟩ ?_
  rintro m s ⟨v8_0, h, rfl⟩
  obtain ⟨m0, q4, rfl, h, hq5⟩ := loop_some h
  replace h : slices_IndexFunc_Busy_quant_Busy_c1_l0 a0 a1_0 v8_0 = some q4 := h
  unfold slices_IndexFunc_Busy_quant_Busy_c1_l0 at h
  refine aw_seq_k (fun K6 hK6 => ?_)
  refine aw_regL ?_
  refine alP (some 9) rfl rfl (does_bin (v := .bool (decide (v8_0 < (List.length a0 : Int)))) (by conv => lhs; whnf) (by conv => lhs; whnf) rfl) (by decide) ?_
  refine al_nil ?_
  refine hK6 _ ?_
  refine aw_seq_k (fun K7 hK7 => ?_)
  refine aw_bool (b := (decide (v8_0 < (List.length a0 : Int)))) 9 rfl (fun c8 => ?_) (fun c8 => ?_)
  · have h := ifT c8 h
    refine aw_cond_t (by decide) rfl ?_
    refine aw_skip ?_
    refine hK7 _ ?_
    refine aw_seq_k (fun K9 hK9 => ?_)
    refine aw_block ?_
    refine aw_seq_k (fun K10 hK10 => ?_)
    refine aw_regL ?_
    refine alP (some 10) rfl rfl (does_move (v := .int .i64 v8_0) (by exact rfl)) (by decide) ?_
    refine alP (some 5) rfl rfl (does_assign (v := .int .i64 v8_0) (by exact rfl)) (by decide) ?_
    refine al_nil ?_
    refine hK10 _ ?_
    refine aw_seq_k (fun K11 hK11 => ?_)
    refine aw_regL ?_
    refine alP (some 11) rfl rfl (does_move (v := .fn 13 [.rptr [.int .i64 a1_0.Level, .int .i64 a1_0.Window, .str a1_0.Service, .str a1_0.Op, .int .i64 a1_0.Counter.Count, .int .i64 a1_0.Counter.Errs, .int .i64 a1_0.Counter.By.c0, .int .i64 a1_0.Counter.By.c1, .int .i64 a1_0.Counter.By.c2, .int .i64 a1_0.Counter.By.c3, .int .i64 a1_0.Counter.By.c4, .int .i64 a1_0.Counter.By.c5, .int .i64 a1_0.Counter.By.c6, .int .i64 a1_0.Counter.By.c7]]) (by exact rfl)) (by decide) ?_
    refine alP (some 12) rfl rfl (does_move (v := .sl 4 (List.map enc33 a0)) (by exact rfl)) (by decide) ?_
    refine alP (some 13) rfl rfl (does_move (v := .int .i64 v8_0) (by exact rfl)) (by decide) ?_
    obtain ⟨g12, h⟩ := gd_some h
    obtain ⟨x13, hx13, h⟩ := bnd_some h
    refine alP (some 14) rfl rfl (does_indexAddr_sl (el := .agg [.str x13.Service, .str x13.Op, .int .i64 x13.Count, .int .i64 x13.Errs]) (by conv => lhs; whnf) (by conv => lhs; whnf) ty30 ty34 g12 (by exact map_get hx13)) (by decide) ?_
    refine alR (some 15) rfl rfl (does_load (v := .agg [.str x13.Service, .str x13.Op, .int .i64 x13.Count, .int .i64 x13.Errs]) (by conv => lhs; whnf) (by conv => lhs; whnf) ty34 (by exact rfl)) (by decide) ?_
    obtain ⟨x14, hx14, h⟩ := bnd_some h
    refine alD (some 16) rfl rfl (do_call0 16 false (quant_Busy_c1_ok x13 a1_0 hx14) rfl ent13 rfl rfl) (by decide) ?_
    refine al_nil ?_
    refine hK11 _ ?_
    refine aw_bool (b := x14) 16 rfl (fun c15 => ?_) (fun c15 => ?_)
    · have h := ifT c15 h
      refine aw_cond_t (by decide) rfl ?_
      refine aw_seq_k (fun K16 hK16 => ?_)
      refine aw_regL ?_
      refine alP (some 17) rfl rfl (does_move (v := .int .i64 v8_0) (by exact rfl)) (by decide) ?_
      refine alP (some 4) rfl rfl (does_assign (v := .int .i64 v8_0) (by exact rfl)) (by decide) ?_
      refine al_nil ?_
      refine hK16 _ ?_
      refine aw_ret ?_
      have h := leafR h hq5
      obtain rfl := Option.some.inj h
      exact ret_ok1 (by conv => lhs; whnf) (by conv => lhs; whnf) (by exact rfl) (.inr rfl) rfl
    · have h := ifF c15 h
      refine aw_cond_f (by decide) rfl ?_
      refine aw_skip ?_
      refine hK9 _ ?_
      refine aw_regL ?_
      refine alP (some 18) rfl rfl (does_bin (v := .int .i64 (IntKind.i64.wrap (v8_0 + 1))) (by conv => lhs; whnf) (by conv => lhs; whnf) rfl) (by decide) ?_
      refine alP (some 8) rfl rfl (does_move (v := .int .i64 (IntKind.i64.wrap (v8_0 + 1))) (by exact rfl)) (by decide) ?_
      refine al_nil ?_
      have h := leafL h hq5
      exact ⟨m0, Nat.lt_succ_self _, _, reb_lit [(0, .sl 4 (List.map enc33 a0)), (1, .fn 13 [.rptr [.int .i64 a1_0.Level, .int .i64 a1_0.Window, .str a1_0.Service, .str a1_0.Op, .int .i64 a1_0.Counter.Count, .int .i64 a1_0.Counter.Errs, .int .i64 a1_0.Counter.By.c0, .int .i64 a1_0.Counter.By.c1, .int .i64 a1_0.Counter.By.c2, .int .i64 a1_0.Counter.By.c3, .int .i64 a1_0.Counter.By.c4, .int .i64 a1_0.Counter.By.c5, .int .i64 a1_0.Counter.By.c6, .int .i64 a1_0.Counter.By.c7]]), (7, .int .i64 (List.length a0 : Int)), (8, .int .i64 (IntKind.i64.wrap (v8_0 + 1)))] [] [] [] (envOk_cons (by conv => lhs; whnf) (by exact rfl) (envOk_cons (by conv => lhs; whnf) (by exact rfl) (envOk_cons (by conv => lhs; whnf) (by exact rfl) (envOk_cons (by conv => lhs; whnf) (by exact rfl) envOk_nil)))) objOk_nil (nodup_b rfl) (nodup_b rfl) rfl rfl, (IntKind.i64.wrap (v8_0 + 1)), h, rfl⟩
  · have h := ifF c8 h
    refine aw_cond_f (by decide) rfl ?_
    refine aw_exit ?_
    have h := leafR h hq5
    refine hK2 _ ?_
    refine aw_seq_k (fun K17 hK17 => ?_)
    refine aw_regL ?_
    refine alP (some 4) rfl rfl (does_assign (v := .int .i64 (-1)) (by exact rfl)) (by decide) ?_
    refine al_nil ?_
    refine hK17 _ ?_
    refine aw_ret ?_
    obtain rfl := Option.some.inj h
    exact ret_ok1 (by conv => lhs; whnf) (by conv => lhs; whnf) (by exact rfl) (.inr rfl) rfl
def sortL15_ren : Go.Shelf.Ren := ⟨fun | 6 => 15 | 15 => 25 | 14 => 24 | 28 => 38 | 29 => 39 | 20 => 30 | 21 => 31 | 22 => 32 | 23 => 33 | 24 => 34 | 25 => 35 | 26 => 36 | 27 => 37 | 46 => 42 | 47 => 43 | 48 => 44 | 49 => 45 | 50 => 46 | 57 => 47 | n => n, fun | 22 => 30 | 24 => 34 | 25 => 44 | 3 => 3 | 39 => 55 | 0 => 0 | 53 => 69 | 55 => 49 | 4 => 4 | 46 => 63 | 45 => 62 | 50 => 36 | 5 => 5 | 9 => 9 | 66 => 72 | 70 => 76 | 76 => 78 | 77 => 79 | n => n, fun | n => n⟩
theorem sortL15 : SlLaysF0.n6 Try.prog sortL15_ren :=
  { mixed := by kernel_rfl
    f6 := ⟨Try.f15.name, by decide, Try.func15.trans (congrArg some (by kernel_rfl))⟩
    f14 := ⟨Try.f24.name, by decide, Try.func24.trans (congrArg some (by kernel_rfl))⟩
    f15 := Try.func25.trans (congrArg some (by kernel_rfl))
    f20 := ⟨Try.f30.name, by decide, Try.func30.trans (congrArg some (by kernel_rfl))⟩
    f21 := ⟨Try.f31.name, by decide, Try.func31.trans (congrArg some (by kernel_rfl))⟩
    f22 := ⟨Try.f32.name, by decide, Try.func32.trans (congrArg some (by kernel_rfl))⟩
    f23 := ⟨Try.f33.name, by decide, Try.func33.trans (congrArg some (by kernel_rfl))⟩
    f24 := ⟨Try.f34.name, by decide, Try.func34.trans (congrArg some (by kernel_rfl))⟩
    f25 := ⟨Try.f35.name, by decide, Try.func35.trans (congrArg some (by kernel_rfl))⟩
    f26 := ⟨Try.f36.name, by decide, Try.func36.trans (congrArg some (by kernel_rfl))⟩
    f27 := ⟨Try.f37.name, by decide, Try.func37.trans (congrArg some (by kernel_rfl))⟩
    f28 := Try.func38.trans (congrArg some (by kernel_rfl))
    f29 := Try.func39.trans (congrArg some (by kernel_rfl))
    f46 := ⟨Try.f42.name, by decide, Try.func42.trans (congrArg some (by kernel_rfl))⟩
    f47 := Try.func43.trans (congrArg some (by kernel_rfl))
    f48 := Try.func44.trans (congrArg some (by kernel_rfl))
    f49 := ⟨Try.f45.name, by decide, Try.func45.trans (congrArg some (by kernel_rfl))⟩
    f50 := ⟨Try.f46.name, by decide, Try.func46.trans (congrArg some (by kernel_rfl))⟩
    f57 := ⟨Try.f47.name, by decide, Try.func47.trans (congrArg some (by kernel_rfl))⟩
    t0 := Try.underlying0
    a0 := Try.isAgg0
    z0 := Try.sizeOf0
    v0 := Try.zeroValue0
    t3 := Try.underlying3
    a3 := Try.isAgg3
    z3 := Try.sizeOf3
    v3 := Try.zeroValue3
    t4 := Try.underlying4
    a4 := Try.isAgg4
    z4 := Try.sizeOf4
    v4 := Try.zeroValue4
    t5 := Try.underlying5
    a5 := Try.isAgg5
    z5 := Try.sizeOf5
    v5 := Try.zeroValue5
    t9 := Try.underlying9
    a9 := Try.isAgg9
    z9 := Try.sizeOf9
    v9 := Try.zeroValue9
    t22 := Try.underlying30
    a22 := Try.isAgg30
    z22 := Try.sizeOf30
    v22 := Try.zeroValue30
    t25 := Try.underlying44
    a25 := Try.isAgg44
    z25 := Try.sizeOf44
    v25 := Try.zeroValue44
    t39 := Try.underlying55
    a39 := Try.isAgg55
    z39 := Try.sizeOf55
    v39 := Try.zeroValue55
    t45 := Try.underlying62
    a45 := Try.isAgg62
    z45 := Try.sizeOf62
    v45 := Try.zeroValue62
    t46 := Try.underlying63
    a46 := Try.isAgg63
    z46 := Try.sizeOf63
    v46 := Try.zeroValue63
    t50 := Try.underlying36
    a50 := Try.isAgg36
    z50 := Try.sizeOf36
    v50 := Try.zeroValue36
    t53 := Try.underlying69
    a53 := Try.isAgg69
    z53 := Try.sizeOf69
    v53 := Try.zeroValue69
    t55 := Try.underlying49
    a55 := Try.isAgg49
    z55 := Try.sizeOf49
    v55 := Try.zeroValue49
    t66 := Try.underlying72
    a66 := Try.isAgg72
    z66 := Try.sizeOf72
    v66 := Try.zeroValue72
    t70 := Try.underlying76
    a70 := Try.isAgg76
    z70 := Try.sizeOf76
    v70 := Try.zeroValue76
    t76 := Try.underlying78
    a76 := Try.isAgg78
    z76 := Try.sizeOf78
    v76 := Try.zeroValue78
    t77 := Try.underlying79
    a77 := Try.isAgg79
    z77 := Try.sizeOf79
    v77 := Try.zeroValue79 }
def quant_Busy_k2 (v13_1 : Int) (x14 : RowG) (v7_s_2 : List Busy) (v10_2 : Int) : Option ((List Busy × Int) ⊕ (List Busy)) :=
  gd (0 ≤ v10_2) (Option.bind (v7_s_2[(Int.toNat v10_2)]?) (fun (x27 : Busy) => Option.bind (quant_plus x27.Count x14.Counter.Count) (fun (x28 : Int) => gd (0 ≤ v10_2) (Option.bind (v7_s_2[(Int.toNat v10_2)]?) (fun (x30 : Busy) => Option.bind (quant_plus x30.Errs x14.Counter.Errs) (fun (x31 : Int) => gd (0 ≤ v10_2) (Option.bind (v7_s_2[(Int.toNat v10_2)]?) (fun (x33 : Busy) => gd (0 ≤ v10_2) (Option.bind ((List.set v7_s_2 (Int.toNat v10_2) (Busy.mk x33.Service x33.Op x28 x33.Errs))[(Int.toNat v10_2)]?) (fun (x35 : Busy) => some (Sum.inl ((List.set (List.set v7_s_2 (Int.toNat v10_2) (Busy.mk x33.Service x33.Op x28 x33.Errs)) (Int.toNat v10_2) (Busy.mk x35.Service x35.Op x35.Count x31)), (IntKind.i64.wrap (v13_1 + 1))))))))))))))
def quant_Busy_l1 (a0 : List RowG) (a1 : Int) (v7_s_1 : List Busy) (v13_1 : Int) : Option ((List Busy × Int) ⊕ (List Busy)) :=
  if (decide (v13_1 < (List.length a0 : Int))) = true then (gd (0 ≤ v13_1) (Option.bind (a0[(Int.toNat v13_1)]?) (fun (x14 : RowG) => if (x14.Level != a1) = true then (some (Sum.inl (v7_s_1, (IntKind.i64.wrap (v13_1 + 1))))) else (Option.bind (slices_IndexFunc_Busy_quant_Busy_c1 v7_s_1 x14) (fun (x19 : Int) => Option.bind (if (decide (x19 < 0)) = true then (gd ((List.length (v7_s_1 ++ [(Busy.mk x14.Service x14.Op 0 0)])) * 48 ≤ 140737488355328 ∧ (List.length (v7_s_1 ++ [(Busy.mk x14.Service x14.Op 0 0)])) ≤ 140737488355328) (some ((v7_s_1 ++ [(Busy.mk x14.Service x14.Op 0 0)]), (List.length v7_s_1 : Int)))) else (some (v7_s_1, x19))) (fun (s : List Busy × Int) => quant_Busy_k2 v13_1 x14 s.1 s.2)))))) else (some (Sum.inr v7_s_1))
def quant_Busy_k0 (a2 : Int) (v7_s_0 : List Busy) : Option (List Busy) :=
  Option.bind (sortO quant_compare v7_s_0) (fun (x37 : List Busy) => gd (0 ≤ (if (if (List.length x37 : Int) < a2 then (List.length x37 : Int) else a2) > 0 then (if (List.length x37 : Int) < a2 then (List.length x37 : Int) else a2) else 0)) (gd ((if (if (List.length x37 : Int) < a2 then (List.length x37 : Int) else a2) > 0 then (if (List.length x37 : Int) < a2 then (List.length x37 : Int) else a2) else 0) ≤ (List.length x37 : Int)) (some (List.take (Int.toNat (if (if (List.length x37 : Int) < a2 then (List.length x37 : Int) else a2) > 0 then (if (List.length x37 : Int) < a2 then (List.length x37 : Int) else a2) else 0)) x37))))
def quant_Busy (a0 : List RowG) (a1 : Int) (a2 : Int) : Option (List Busy) :=
  Option.bind (loopN (fun (s : List Busy × Int) => quant_Busy_l1 a0 a1 s.1 s.2) Fu ([], 0)) (fun (s : List Busy) => quant_Busy_k0 a2 s)
set_option maxRecDepth 100000 in
set_option maxHeartbeats 8000000 in
/-- gleaning/quant.Busy -/
theorem quant_Busy_ok (a0 : List RowG) (a1 : Int) (a2 : Int) {r : List Busy} (h : quant_Busy a0 a1 a2 = some r) : Ok Try.prog 7 [.sl 14 (List.map enc27 a0), .int .i64 a1, .int .i64 a2] [] [] (.sl 4 (List.map enc33 r)) [] [] := by
  unfold quant_Busy at h
  refine ok_of_code Try.func7 rfl (by show (3 : Nat) ≤ _; decide) (Nat.le_refl _) fun X => ?_
  refine aw_seq_k (fun K1 hK1 => ?_)
  refine aw_regL ?_
  refine alP (some 6) rfl rfl (does_assign (v := .nil) (by exact rfl)) (by decide) ?_
  refine al_nil ?_
  refine hK1 _ ?_
  refine aw_seq_k (fun K2 hK2 => ?_)
  refine aw_regL ?_
  refine alP (some 7) rfl rfl (does_assign (v := .nil) (by exact rfl)) (by decide) ?_
  refine al_nil ?_
  refine hK2 _ ?_
  obtain ⟨q3, h, hk4⟩ := bnd_some h
  refine aw_cut (fun s => ∃ (v7_s_0 : List Busy), quant_Busy_k0 a2 v7_s_0 = some r ∧ s = lit [(2, .int .i64 a2), (7, .own 7 0)] [((7, 0), .arr 34 4 false (List.map enc33 v7_s_0))] [(7, 1)] X) ?_ ?_
  · skip
    refine aw_seq_k (fun K5 hK5 => ?_)
    refine aw_regL ?_
    refine alP (some 11) rfl rfl (does_move (v := .sl 14 (List.map enc27 a0)) (by exact rfl)) (by decide) ?_
    refine alP (some 12) rfl rfl ((does_len_sl (by conv => lhs; whnf) ty22).castp (v' := .int .i64 (List.length a0 : Int)) (by exact len_map _)) (by decide) ?_
    refine alP (some 13) rfl rfl (does_move (v := .int .i64 0) (by exact rfl)) (by decide) ?_
    refine al_nil ?_
    refine hK5 _ ?_
    refine aw_block ?_
    refine aw_nilOwn 7 34 4 (by conv => lhs; whnf) (by decide) (by decide) ?_
    refine aw_loop' (fun m s => ∃ (v7_s_1 : List Busy), ∃ (v13_1 : Int), loopN (fun (s : List Busy × Int) => quant_Busy_l1 a0 a1 s.1 s.2) m (v7_s_1, v13_1) = some q3 ∧ s = lit [(1, .int .i64 a1), (2, .int .i64 a2), (7, .own 7 0), (11, .sl 14 (List.map enc27 a0)), (12, .int .i64 (List.length a0 : Int)), (13, .int .i64 v13_1)] [((7, 0), .arr 34 4 false (List.map enc33 v7_s_1))] [(7, 1)] X) Fu
      ⟨_, reb_lit [(1, .int .i64 a1), (2, .int .i64 a2), (7, .own 7 0), (11, .sl 14 (List.map enc27 a0)), (12, .int .i64 (List.length a0 : Int)), (13, .int .i64 (0))] [(7, 0)] [((7, 0), .arr 34 4 false (List.map enc33 []))] [(7, 1)] (envOk_cons (by conv => lhs; whnf) (by exact rfl) (envOk_cons (by conv => lhs; whnf) (by exact rfl) (envOk_cons (by conv => lhs; whnf) (by exact rfl) (envOk_cons (by conv => lhs; whnf) (by exact rfl) (envOk_cons (by conv => lhs; whnf) (by exact rfl) (envOk_cons (by conv => lhs; whnf) (by exact rfl) envOk_nil)))))) (objOk_cons (by conv => lhs; whnf) (by conv => lhs; whnf) (by exact rfl) (by simp) objOk_nil) (nodup_b rfl) (nodup_b rfl) rfl rfl, [], 0, h, rfl⟩ ?_
    rintro m s ⟨v7_s_1, v13_1, h, rfl⟩
    obtain ⟨m1, q6, rfl, h, hq7⟩ := loop_some h
    replace h : quant_Busy_l1 a0 a1 v7_s_1 v13_1 = some q6 := h
    unfold quant_Busy_l1 at h
    refine aw_seq_k (fun K8 hK8 => ?_)
    refine aw_regL ?_
    refine alP (some 14) rfl rfl (does_bin (v := .bool (decide (v13_1 < (List.length a0 : Int)))) (by conv => lhs; whnf) (by conv => lhs; whnf) rfl) (by decide) ?_
    refine al_nil ?_
    refine hK8 _ ?_
    refine aw_seq_k (fun K9 hK9 => ?_)
    refine aw_bool (b := (decide (v13_1 < (List.length a0 : Int)))) 14 rfl (fun c10 => ?_) (fun c10 => ?_)
    · have h := ifT c10 h
      refine aw_cond_t (by decide) rfl ?_
      refine aw_skip ?_
      refine hK9 _ ?_
      refine aw_seq_k (fun K11 hK11 => ?_)
      refine aw_block ?_
      refine aw_seq_k (fun K12 hK12 => ?_)
      refine aw_regL ?_
      obtain ⟨g13, h⟩ := gd_some h
      obtain ⟨x14, hx14, h⟩ := bnd_some h
      refine alP (some 15) rfl rfl (does_indexAddr_sl (el := .agg [.int .i64 x14.Level, .int .i64 x14.Window, .str x14.Service, .str x14.Op, .int .i64 x14.Counter.Count, .int .i64 x14.Counter.Errs, .int .i64 x14.Counter.By.c0, .int .i64 x14.Counter.By.c1, .int .i64 x14.Counter.By.c2, .int .i64 x14.Counter.By.c3, .int .i64 x14.Counter.By.c4, .int .i64 x14.Counter.By.c5, .int .i64 x14.Counter.By.c6, .int .i64 x14.Counter.By.c7]) (by conv => lhs; whnf) (by conv => lhs; whnf) ty22 ty28 g13 (by exact map_get hx14)) (by decide) ?_
      refine alR (some 16) rfl rfl (does_load (v := .agg [.int .i64 x14.Level, .int .i64 x14.Window, .str x14.Service, .str x14.Op, .int .i64 x14.Counter.Count, .int .i64 x14.Counter.Errs, .int .i64 x14.Counter.By.c0, .int .i64 x14.Counter.By.c1, .int .i64 x14.Counter.By.c2, .int .i64 x14.Counter.By.c3, .int .i64 x14.Counter.By.c4, .int .i64 x14.Counter.By.c5, .int .i64 x14.Counter.By.c6, .int .i64 x14.Counter.By.c7]) (by conv => lhs; whnf) (by conv => lhs; whnf) ty28 (by exact rfl)) (by decide) ?_
      refine alD (some 9) rfl rfl (do_new ty28 rfl rfl) (by decide) ?_
      refine alD none rfl rfl (do_store (cs' := [.int .i64 x14.Level, .int .i64 x14.Window, .str x14.Service, .str x14.Op, .int .i64 x14.Counter.Count, .int .i64 x14.Counter.Errs, .int .i64 x14.Counter.By.c0, .int .i64 x14.Counter.By.c1, .int .i64 x14.Counter.By.c2, .int .i64 x14.Counter.By.c3, .int .i64 x14.Counter.By.c4, .int .i64 x14.Counter.By.c5, .int .i64 x14.Counter.By.c6, .int .i64 x14.Counter.By.c7]) (by conv => lhs; whnf) (by conv => lhs; whnf) (by conv => lhs; whnf) ty28 rfl rfl rfl (by exact rfl)) (by decide) ?_
      refine al_nil ?_
      refine hK12 _ ?_
      refine aw_seq_k (fun K15 hK15 => ?_)
      refine aw_seq_k (fun K16 hK16 => ?_)
      refine aw_regL ?_
      refine alP (some 17) rfl rfl (does_fieldAddr (q := .ptr 9 0 0) (by conv => lhs; whnf) ty28 rfl ty3 (by decide) (by exact rfl)) (by decide) ?_
      refine alR (some 18) rfl rfl (does_load (v := .int .i64 x14.Level) (by conv => lhs; whnf) (by conv => lhs; whnf) ty3 (by exact rfl)) (by decide) ?_
      refine alP (some 19) rfl rfl (does_move (v := .int .i64 a1) (by exact rfl)) (by decide) ?_
      refine alP (some 20) rfl rfl (does_bin (v := .bool (x14.Level != a1)) (by conv => lhs; whnf) (by conv => lhs; whnf) rfl) (by decide) ?_
      refine al_nil ?_
      refine hK16 _ ?_
      refine aw_bool (b := (x14.Level != a1)) 20 rfl (fun c17 => ?_) (fun c17 => ?_)
      · have h := ifT c17 h
        refine aw_cond_t (by decide) rfl ?_
        refine aw_exit ?_
        refine hK11 _ ?_
        refine aw_regL ?_
        refine alP (some 62) rfl rfl (does_bin (v := .int .i64 (IntKind.i64.wrap (v13_1 + 1))) (by conv => lhs; whnf) (by conv => lhs; whnf) rfl) (by decide) ?_
        refine alP (some 13) rfl rfl (does_move (v := .int .i64 (IntKind.i64.wrap (v13_1 + 1))) (by exact rfl)) (by decide) ?_
        refine al_nil ?_
        have h := leafL h hq7
        exact ⟨m1, Nat.lt_succ_self _, _, reb_lit [(1, .int .i64 a1), (2, .int .i64 a2), (7, .own 7 0), (11, .sl 14 (List.map enc27 a0)), (12, .int .i64 (List.length a0 : Int)), (13, .int .i64 (IntKind.i64.wrap (v13_1 + 1)))] [(7, 0)] [((7, 0), .arr 34 4 false (List.map enc33 v7_s_1))] [(7, 1)] (envOk_cons (by conv => lhs; whnf) (by exact rfl) (envOk_cons (by conv => lhs; whnf) (by exact rfl) (envOk_cons (by conv => lhs; whnf) (by exact rfl) (envOk_cons (by conv => lhs; whnf) (by exact rfl) (envOk_cons (by conv => lhs; whnf) (by exact rfl) (envOk_cons (by conv => lhs; whnf) (by exact rfl) envOk_nil)))))) (objOk_cons (by conv => lhs; whnf) (by conv => lhs; whnf) (by exact rfl) (by simp) objOk_nil) (nodup_b rfl) (nodup_b rfl) rfl rfl, v7_s_1, (IntKind.i64.wrap (v13_1 + 1)), h, rfl⟩
      · have h := ifF c17 h
        refine aw_cond_f (by decide) rfl ?_
        refine aw_skip ?_
        refine hK15 _ ?_
        refine aw_seq_k (fun K18 hK18 => ?_)
        refine aw_regL ?_
        refine alP (some 21) rfl rfl (does_move (v := .own 7 0) (by exact rfl)) (by decide) ?_
        refine alP (some 22) rfl rfl (does_makeFunc (vs := [.ptr 9 0 0]) rfl) (by decide) ?_
        obtain ⟨x19, hx19, h⟩ := bnd_some h
        refine alD (some 23) rfl rfl (do_callG (bcs := []) [] [] [(7, 0), (9, 0)] 23 false (slices_IndexFunc_Busy_quant_Busy_c1_ok v7_s_1 x14 hx19) rfl ent12 trivial trivial rfl rfl rfl rfl rfl rfl rfl rfl (.inr ⟨rfl, rfl, trivial⟩)) (by decide) ?_
        refine alP (some 10) rfl rfl (does_assign (v := .int .i64 x19) (by exact rfl)) (by decide) ?_
        refine al_nil ?_
        refine hK18 _ ?_
        obtain ⟨q20, h, hk21⟩ := bnd_some h
        refine aw_cut (fun s => ∃ (v7_s_2 : List Busy), ∃ (v10_2 : Int), quant_Busy_k2 v13_1 x14 v7_s_2 v10_2 = some q6 ∧ s = lit [(1, .int .i64 a1), (2, .int .i64 a2), (7, .own 35 0), (9, .ptr 9 0 0), (10, .int .i64 v10_2), (11, .sl 14 (List.map enc27 a0)), (12, .int .i64 (List.length a0 : Int)), (13, .int .i64 v13_1)] [((35, 0), .arr 34 4 false (List.map enc33 v7_s_2)), ((9, 0), .box [.int .i64 x14.Level, .int .i64 x14.Window, .str x14.Service, .str x14.Op, .int .i64 x14.Counter.Count, .int .i64 x14.Counter.Errs, .int .i64 x14.Counter.By.c0, .int .i64 x14.Counter.By.c1, .int .i64 x14.Counter.By.c2, .int .i64 x14.Counter.By.c3, .int .i64 x14.Counter.By.c4, .int .i64 x14.Counter.By.c5, .int .i64 x14.Counter.By.c6, .int .i64 x14.Counter.By.c7])] [(9, 1), (35, 1)] X) ?_ ?_
        · skip
          refine aw_seq_k (fun K22 hK22 => ?_)
          refine aw_regL ?_
          refine alP (some 24) rfl rfl (does_move (v := .int .i64 x19) (by exact rfl)) (by decide) ?_
          refine alP (some 25) rfl rfl (does_bin (v := .bool (decide (x19 < 0))) (by conv => lhs; whnf) (by conv => lhs; whnf) rfl) (by decide) ?_
          refine al_nil ?_
          refine hK22 _ ?_
          refine aw_bool (b := (decide (x19 < 0))) 25 rfl (fun c23 => ?_) (fun c23 => ?_)
          · have h := ifT c23 h
            refine aw_cond_t (by decide) rfl ?_
            refine aw_seq_k (fun K24 hK24 => ?_)
            refine aw_regL ?_
            refine alP (some 26) rfl rfl (does_move (v := .own 7 0) (by exact rfl)) (by decide) ?_
            refine alR (some 27) rfl rfl ((does_len_own (by conv => lhs; whnf) (by conv => lhs; whnf) ty30).cast (v' := .int .i64 (List.length v7_s_1 : Int)) (by exact len_map _)) (by decide) ?_
            refine alP (some 10) rfl rfl (does_assign (v := .int .i64 (List.length v7_s_1 : Int)) (by exact rfl)) (by decide) ?_
            refine al_nil ?_
            refine hK24 _ ?_
            refine aw_regL ?_
            refine alP (some 28) rfl rfl (does_move (v := .own 7 0) (by exact rfl)) (by decide) ?_
            refine alP (some 29) rfl rfl (does_fieldAddr (q := .ptr 9 0 2) (by conv => lhs; whnf) ty28 rfl ty9 (by decide) (by exact rfl)) (by decide) ?_
            refine alR (some 30) rfl rfl (does_load (v := .str x14.Service) (by conv => lhs; whnf) (by conv => lhs; whnf) ty9 (by exact rfl)) (by decide) ?_
            refine alP (some 31) rfl rfl (does_fieldAddr (q := .ptr 9 0 3) (by conv => lhs; whnf) ty28 rfl ty9 (by decide) (by exact rfl)) (by decide) ?_
            refine alR (some 32) rfl rfl (does_load (v := .str x14.Op) (by conv => lhs; whnf) (by conv => lhs; whnf) ty9 (by exact rfl)) (by decide) ?_
            refine alP (some 33) rfl rfl (do_build_struct (cs := [.str x14.Service, .str x14.Op, .int .i64 0, .int .i64 0]) ty34 rfl [⟨.str, 1, 16, [.str ByteArray.empty]⟩, ⟨.str, 1, 16, [.str ByteArray.empty]⟩, ⟨.int .i64, 1, 8, [.int .i64 0]⟩, ⟨.int .i64, 1, 8, [.int .i64 0]⟩] (by simp only [List.map, ty3, ty9]) (by rfl) (by exact rfl)) (by decide) ?_
            refine alD (some 34) rfl rfl (do_buildSlice (xs := List.map enc33 [(Busy.mk x14.Service x14.Op 0 0)]) ty30 ty34 rfl rfl rfl rfl rfl rfl rfl rfl) (by decide) ?_
            obtain ⟨g25, h⟩ := gd_some h
            refine alD (some 35) rfl rfl (do_append (v := List.map enc33 (v7_s_1 ++ [(Busy.mk x14.Service x14.Op 0 0)])) (by conv => lhs; whnf) (by conv => lhs; whnf) ty30 ty34 rfl rfl (by conv => lhs; whnf) (by first | exact .inl rfl | exact .inr ⟨rfl, rfl⟩) (by conv => lhs; whnf) (by first | exact .inr rfl | exact .inl rfl) (map_app _ _) (fit_map g25)) (by decide) ?_
            refine alP (some 7) rfl rfl (does_assign (v := .own 35 0) (by exact rfl)) (by decide) ?_
            refine al_nil ?_
            obtain rfl := Option.some.inj h
            have h := hk21
            exact ⟨_, reb_lit [(1, .int .i64 a1), (2, .int .i64 a2), (7, .own 35 0), (9, .ptr 9 0 0), (10, .int .i64 (List.length v7_s_1 : Int)), (11, .sl 14 (List.map enc27 a0)), (12, .int .i64 (List.length a0 : Int)), (13, .int .i64 v13_1)] [(35, 0), (9, 0)] [((35, 0), .arr 34 4 false (List.map enc33 (v7_s_1 ++ [(Busy.mk x14.Service x14.Op 0 0)]))), ((9, 0), .box [.int .i64 x14.Level, .int .i64 x14.Window, .str x14.Service, .str x14.Op, .int .i64 x14.Counter.Count, .int .i64 x14.Counter.Errs, .int .i64 x14.Counter.By.c0, .int .i64 x14.Counter.By.c1, .int .i64 x14.Counter.By.c2, .int .i64 x14.Counter.By.c3, .int .i64 x14.Counter.By.c4, .int .i64 x14.Counter.By.c5, .int .i64 x14.Counter.By.c6, .int .i64 x14.Counter.By.c7])] [(9, 1), (35, 1)] (envOk_cons (by conv => lhs; whnf) (by exact rfl) (envOk_cons (by conv => lhs; whnf) (by exact rfl) (envOk_cons (by conv => lhs; whnf) (by exact rfl) (envOk_cons (by conv => lhs; whnf) (by exact rfl) (envOk_cons (by conv => lhs; whnf) (by exact rfl) (envOk_cons (by conv => lhs; whnf) (by exact rfl) (envOk_cons (by conv => lhs; whnf) (by exact rfl) (envOk_cons (by conv => lhs; whnf) (by exact rfl) envOk_nil)))))))) (objOk_cons (by conv => lhs; whnf) (by conv => lhs; whnf) (by exact rfl) (by simp) (objOk_cons (by conv => lhs; whnf) (by conv => lhs; whnf) (by exact rfl) (by simp) objOk_nil)) (nodup_b rfl) (nodup_b rfl) rfl rfl, (v7_s_1 ++ [(Busy.mk x14.Service x14.Op 0 0)]), (List.length v7_s_1 : Int), h, rfl⟩
          · have h := ifF c23 h
            refine aw_cond_f (by decide) rfl ?_
            refine aw_skip ?_
            obtain rfl := Option.some.inj h
            have h := hk21
            exact ⟨_, reb_lit [(1, .int .i64 a1), (2, .int .i64 a2), (7, .own 35 0), (9, .ptr 9 0 0), (10, .int .i64 x19), (11, .sl 14 (List.map enc27 a0)), (12, .int .i64 (List.length a0 : Int)), (13, .int .i64 v13_1)] [(7, 0), (9, 0)] [((35, 0), .arr 34 4 false (List.map enc33 v7_s_1)), ((9, 0), .box [.int .i64 x14.Level, .int .i64 x14.Window, .str x14.Service, .str x14.Op, .int .i64 x14.Counter.Count, .int .i64 x14.Counter.Errs, .int .i64 x14.Counter.By.c0, .int .i64 x14.Counter.By.c1, .int .i64 x14.Counter.By.c2, .int .i64 x14.Counter.By.c3, .int .i64 x14.Counter.By.c4, .int .i64 x14.Counter.By.c5, .int .i64 x14.Counter.By.c6, .int .i64 x14.Counter.By.c7])] [(9, 1), (35, 1)] (envOk_cons (by conv => lhs; whnf) (by exact rfl) (envOk_cons (by conv => lhs; whnf) (by exact rfl) (envOk_cons (by conv => lhs; whnf) (by exact rfl) (envOk_cons (by conv => lhs; whnf) (by exact rfl) (envOk_cons (by conv => lhs; whnf) (by exact rfl) (envOk_cons (by conv => lhs; whnf) (by exact rfl) (envOk_cons (by conv => lhs; whnf) (by exact rfl) (envOk_cons (by conv => lhs; whnf) (by exact rfl) envOk_nil)))))))) (objOk_cons (by conv => lhs; whnf) (by conv => lhs; whnf) (by exact rfl) (by simp) (objOk_cons (by conv => lhs; whnf) (by conv => lhs; whnf) (by exact rfl) (by simp) objOk_nil)) (nodup_b rfl) (nodup_b rfl) rfl rfl, v7_s_1, x19, h, rfl⟩
        · rintro s ⟨v7_s_2, v10_2, h, rfl⟩
          unfold quant_Busy_k2 at h
          refine aw_regd (by kernel_rfl) (by decide +kernel) ?_
          refine aoP (some 36) rfl rfl (does_move (v := .own 35 0) (by exact rfl)) (by decide) ?_
          refine aoP (some 37) rfl rfl (does_move (v := .int .i64 v10_2) (by exact rfl)) (by decide) ?_
          refine aoP (some 38) rfl rfl (does_move (v := .own 35 0) (by exact rfl)) (by decide) ?_
          refine aoP (some 39) rfl rfl (does_move (v := .int .i64 v10_2) (by exact rfl)) (by decide) ?_
          refine aoP (some 40) rfl rfl (does_move (v := .own 35 0) (by exact rfl)) (by decide) ?_
          refine aoP (some 41) rfl rfl (does_move (v := .int .i64 v10_2) (by exact rfl)) (by decide) ?_
          obtain ⟨g26, h⟩ := gd_some h
          obtain ⟨x27, hx27, h⟩ := bnd_some h
          refine aoR (some 42) rfl rfl (does_indexAddr_own (by conv => lhs; whnf) (by conv => lhs; whnf) (by conv => lhs; whnf) ty30 ty34 g26 (by exact own_lt hx27)) (by decide) ?_
          refine aoP (some 43) rfl rfl (does_fieldAddr (q := .eptr 35 0 4 (Int.toNat v10_2) 2) (by conv => lhs; whnf) ty34 rfl ty3 (by decide) (by exact rfl)) (by decide) ?_
          refine aoR (some 44) rfl rfl (does_load (v := .int .i64 x27.Count) (by conv => lhs; whnf) (cellsAt_eptr (by conv => lhs; whnf) (by exact map_get hx27)) ty3 (by exact rfl)) (by decide) ?_
          refine aoP (some 45) rfl rfl (does_fieldAddr (q := .ptr 9 0 4) (by conv => lhs; whnf) ty28 rfl ty26 (by decide) (by exact rfl)) (by decide) ?_
          refine aoP (some 46) rfl rfl (does_fieldAddr (q := .ptr 9 0 4) (by conv => lhs; whnf) ty26 rfl ty3 (by decide) (by exact rfl)) (by decide) ?_
          refine aoR (some 47) rfl rfl (does_load (v := .int .i64 x14.Counter.Count) (by conv => lhs; whnf) (by conv => lhs; whnf) ty3 (by exact rfl)) (by decide) ?_
          obtain ⟨x28, hx28, h⟩ := bnd_some h
          refine aoD (some 48) rfl rfl ((do_call0 48 false (quant_plus_ok x27.Count x14.Counter.Count hx28) rfl ent14 rfl rfl).fx (y := ⟨[], .int .i64 x28, [], [48]⟩) rfl) (by decide) ?_
          refine aoP (some 49) rfl rfl (does_move (v := .own 35 0) (by exact rfl)) (by decide) ?_
          refine aoP (some 50) rfl rfl (does_move (v := .int .i64 v10_2) (by exact rfl)) (by decide) ?_
          obtain ⟨g29, h⟩ := gd_some h
          obtain ⟨x30, hx30, h⟩ := bnd_some h
          refine aoR (some 51) rfl rfl (does_indexAddr_own (by conv => lhs; whnf) (by conv => lhs; whnf) (by conv => lhs; whnf) ty30 ty34 g29 (by exact own_lt hx30)) (by decide) ?_
          refine aoP (some 52) rfl rfl (does_fieldAddr (q := .eptr 35 0 4 (Int.toNat v10_2) 3) (by conv => lhs; whnf) ty34 rfl ty3 (by decide) (by exact rfl)) (by decide) ?_
          refine aoR (some 53) rfl rfl (does_load (v := .int .i64 x30.Errs) (by conv => lhs; whnf) (cellsAt_eptr (by conv => lhs; whnf) (by exact map_get hx30)) ty3 (by exact rfl)) (by decide) ?_
          refine aoP (some 54) rfl rfl (does_fieldAddr (q := .ptr 9 0 4) (by conv => lhs; whnf) ty28 rfl ty26 (by decide) (by exact rfl)) (by decide) ?_
          refine aoP (some 55) rfl rfl (does_fieldAddr (q := .ptr 9 0 5) (by conv => lhs; whnf) ty26 rfl ty3 (by decide) (by exact rfl)) (by decide) ?_
          refine aoR (some 56) rfl rfl (does_load (v := .int .i64 x14.Counter.Errs) (by conv => lhs; whnf) (by conv => lhs; whnf) ty3 (by exact rfl)) (by decide) ?_
          obtain ⟨x31, hx31, h⟩ := bnd_some h
          refine aoD (some 57) rfl rfl ((do_call0 57 false (quant_plus_ok x30.Errs x14.Counter.Errs hx31) rfl ent14 rfl rfl).fx (y := ⟨[], .int .i64 x31, [], [57]⟩) rfl) (by decide) ?_
          obtain ⟨g32, h⟩ := gd_some h
          obtain ⟨x33, hx33, h⟩ := bnd_some h
          refine aoR (some 58) rfl rfl (does_indexAddr_own (by conv => lhs; whnf) (by conv => lhs; whnf) (by conv => lhs; whnf) ty30 ty34 g32 (by exact own_lt hx33)) (by decide) ?_
          refine aoP (some 59) rfl rfl (does_fieldAddr (q := .eptr 35 0 4 (Int.toNat v10_2) 2) (by conv => lhs; whnf) ty34 rfl ty3 (by decide) (by exact rfl)) (by decide) ?_
          refine aoD none rfl rfl (does_storeE (old := .agg [.str x33.Service, .str x33.Op, .int .i64 x33.Count, .int .i64 x33.Errs]) (el := .agg [.str x33.Service, .str x33.Op, .int .i64 x28, .int .i64 x33.Errs]) (xs' := List.map enc33 (List.set v7_s_2 (Int.toNat v10_2) (Busy.mk x33.Service x33.Op x28 x33.Errs))) (by conv => lhs; whnf) (by conv => lhs; whnf) (by conv => lhs; whnf) ty3 (by rfl) (by rfl) (by exact map_get hx33) (by rfl) (by exact rfl) (by exact map_set' _ _ (Busy.mk x33.Service x33.Op x28 x33.Errs)) (by rfl)) (by decide) ?_
          obtain ⟨g34, h⟩ := gd_some h
          obtain ⟨x35, hx35, h⟩ := bnd_some h
          refine aoR (some 60) rfl rfl (does_indexAddr_own (by conv => lhs; whnf) (by conv => lhs; whnf) (by conv => lhs; whnf) ty30 ty34 g34 (by exact own_lt hx35)) (by decide) ?_
          refine aoP (some 61) rfl rfl (does_fieldAddr (q := .eptr 35 0 4 (Int.toNat v10_2) 3) (by conv => lhs; whnf) ty34 rfl ty3 (by decide) (by exact rfl)) (by decide) ?_
          refine aoD none rfl rfl (does_storeE (old := .agg [.str x35.Service, .str x35.Op, .int .i64 x35.Count, .int .i64 x35.Errs]) (el := .agg [.str x35.Service, .str x35.Op, .int .i64 x35.Count, .int .i64 x31]) (xs' := List.map enc33 (List.set (List.set v7_s_2 (Int.toNat v10_2) (Busy.mk x33.Service x33.Op x28 x33.Errs)) (Int.toNat v10_2) (Busy.mk x35.Service x35.Op x35.Count x31))) (by conv => lhs; whnf) (by conv => lhs; whnf) (by conv => lhs; whnf) ty3 (by rfl) (by rfl) (by exact map_get hx35) (by rfl) (by exact rfl) (by exact map_set' _ _ (Busy.mk x35.Service x35.Op x35.Count x31)) (by rfl)) (by decide) ?_
          refine ao_nil_d (by kernel_rfl) ?_
          refine hK11 _ ?_
          refine aw_regL ?_
          refine alP (some 62) rfl rfl (does_bin (v := .int .i64 (IntKind.i64.wrap (v13_1 + 1))) (by conv => lhs; whnf) (by conv => lhs; whnf) rfl) (by decide) ?_
          refine alP (some 13) rfl rfl (does_move (v := .int .i64 (IntKind.i64.wrap (v13_1 + 1))) (by exact rfl)) (by decide) ?_
          refine al_nil ?_
          have h := leafL h hq7
          exact ⟨m1, Nat.lt_succ_self _, _, reb_lit [(1, .int .i64 a1), (2, .int .i64 a2), (7, .own 7 0), (11, .sl 14 (List.map enc27 a0)), (12, .int .i64 (List.length a0 : Int)), (13, .int .i64 (IntKind.i64.wrap (v13_1 + 1)))] [(35, 0)] [((7, 0), .arr 34 4 false (List.map enc33 (List.set (List.set v7_s_2 (Int.toNat v10_2) (Busy.mk x33.Service x33.Op x28 x33.Errs)) (Int.toNat v10_2) (Busy.mk x35.Service x35.Op x35.Count x31))))] [(7, 1)] (envOk_cons (by conv => lhs; whnf) (by exact rfl) (envOk_cons (by conv => lhs; whnf) (by exact rfl) (envOk_cons (by conv => lhs; whnf) (by exact rfl) (envOk_cons (by conv => lhs; whnf) (by exact rfl) (envOk_cons (by conv => lhs; whnf) (by exact rfl) (envOk_cons (by conv => lhs; whnf) (by exact rfl) envOk_nil)))))) (objOk_cons (by conv => lhs; whnf) (by conv => lhs; whnf) (by exact rfl) (by simp) objOk_nil) (nodup_b rfl) (nodup_b rfl) rfl rfl, (List.set (List.set v7_s_2 (Int.toNat v10_2) (Busy.mk x33.Service x33.Op x28 x33.Errs)) (Int.toNat v10_2) (Busy.mk x35.Service x35.Op x35.Count x31)), (IntKind.i64.wrap (v13_1 + 1)), h, rfl⟩
    · have h := ifF c10 h
      refine aw_cond_f (by decide) rfl ?_
      refine aw_exit ?_
      have h := leafR h hq7
      obtain rfl := Option.some.inj h
      have h := hk4
      exact ⟨_, reb_lit [(2, .int .i64 a2), (7, .own 7 0)] [(7, 0)] [((7, 0), .arr 34 4 false (List.map enc33 v7_s_1))] [(7, 1)] (envOk_cons (by conv => lhs; whnf) (by exact rfl) (envOk_cons (by conv => lhs; whnf) (by exact rfl) envOk_nil)) (objOk_cons (by conv => lhs; whnf) (by conv => lhs; whnf) (by exact rfl) (by simp) objOk_nil) (nodup_b rfl) (nodup_b rfl) rfl rfl, v7_s_1, h, rfl⟩
  · rintro s ⟨v7_s_0, h, rfl⟩
    unfold quant_Busy_k0 at h
    refine aw_seq_k (fun K36 hK36 => ?_)
    refine aw_regL ?_
    refine alP (some 63) rfl rfl (does_move (v := .own 7 0) (by exact rfl)) (by decide) ?_
    obtain ⟨x37, hx37, h⟩ := bnd_some h
    refine alD (some 64) rfl rfl (do_sort (d := 7) (n := 0) (e := 34) (sz := 4) (enc := enc33) (fun x => [.str x.Service, .str x.Op, .int .i64 x.Count, .int .i64 x.Errs]) sortL15 hx37 sok_quant_compare (fun x y q hq => by exact quant_compare_ok x y hq) (by conv => lhs; whnf) (by exact rfl) rfl (by exact Try.isAgg34) (by exact Try.sizeOf34) (fun _ => rfl) (fun _ => rfl) (by decide) (fun _ => rfl) ent15 ent16) (by decide) ?_
    refine al_nil ?_
    refine hK36 _ ?_
    refine aw_seq_k (fun K38 hK38 => ?_)
    refine aw_regL ?_
    refine alP (some 65) rfl rfl (does_move (v := .own 7 0) (by exact rfl)) (by decide) ?_
    refine alP (some 66) rfl rfl (does_move (v := .int .i64 a2) (by exact rfl)) (by decide) ?_
    refine alP (some 67) rfl rfl (does_move (v := .own 7 0) (by exact rfl)) (by decide) ?_
    refine alR (some 68) rfl rfl ((does_len_own (by conv => lhs; whnf) (by conv => lhs; whnf) ty30).cast (v' := .int .i64 (List.length x37 : Int)) (by exact len_map _)) (by decide) ?_
    refine alP (some 69) rfl rfl ((does_min (by conv => lhs; whnf) (by conv => lhs; whnf)).castp (v' := .int .i64 (if (List.length x37 : Int) < a2 then (List.length x37 : Int) else a2)) rfl) (by decide) ?_
    refine alP (some 70) rfl rfl ((does_max (by conv => lhs; whnf) (by conv => lhs; whnf)).castp (v' := .int .i64 (if (if (List.length x37 : Int) < a2 then (List.length x37 : Int) else a2) > 0 then (if (List.length x37 : Int) < a2 then (List.length x37 : Int) else a2) else 0)) rfl) (by decide) ?_
    obtain ⟨g39, h⟩ := gd_some h
    obtain ⟨g40, h⟩ := gd_some h
    refine alD (some 71) rfl rfl (does_frz (d := 7) (n := 0) (by conv => lhs; whnf) (does_slice_own (l := 0) (k := (Int.toNat (if (if (List.length x37 : Int) < a2 then (List.length x37 : Int) else a2) > 0 then (if (List.length x37 : Int) < a2 then (List.length x37 : Int) else a2) else 0))) (by conv => lhs; whnf) (by conv => lhs; whnf) ty30 ty34 bd_none (bd_some (by conv => lhs; whnf) (by exact (nat_of (by omega)))) (by (try simp only [List.length_map]); omega) (by (try simp only [List.length_map]); omega) (by exact part_h _ _))) (by decide) ?_
    refine alP (some 6) rfl rfl (does_assign (v := .sl 4 (List.map enc33 (List.take (Int.toNat (if (if (List.length x37 : Int) < a2 then (List.length x37 : Int) else a2) > 0 then (if (List.length x37 : Int) < a2 then (List.length x37 : Int) else a2) else 0)) x37))) (by exact rfl)) (by decide) ?_
    refine al_nil ?_
    refine hK38 _ ?_
    refine aw_ret ?_
    obtain rfl := Option.some.inj h
    exact ret_ok1 (by conv => lhs; whnf) (by conv => lhs; whnf) (by exact rfl) (.inr rfl) rfl
def gleaningref1_Cap (a0 : Int) (a1 : Int) (a2 : Int) : Option Int :=
  if (decide (a0 < a1)) = true then (some a1) else (if (decide (a2 < a0)) = true then (some a2) else (some a0))
set_option maxRecDepth 100000 in
set_option maxHeartbeats 8000000 in
/-- gleaning/gleaningref1.Cap -/
theorem gleaningref1_Cap_ok (a0 : Int) (a1 : Int) (a2 : Int) {r : Int} (h : gleaningref1_Cap a0 a1 a2 = some r) : Ok Try.prog 19 [.int .i64 a0, .int .i64 a1, .int .i64 a2] [] [] (.int .i64 r) [] [] := by
  unfold gleaningref1_Cap at h
  refine ok_of_code Try.func19 rfl (by show (3 : Nat) ≤ _; decide) (Nat.le_refl _) fun X => ?_
  refine aw_seq_k (fun K1 hK1 => ?_)
  refine aw_regL ?_
  refine alP (some 6) rfl rfl (does_assign (v := .int .i64 0) (by exact rfl)) (by decide) ?_
  refine al_nil ?_
  refine hK1 _ ?_
  refine aw_seq_k (fun K2 hK2 => ?_)
  refine aw_block ?_
  refine aw_seq_k (fun K3 hK3 => ?_)
  refine aw_regL ?_
  refine alP (some 8) rfl rfl (does_move (v := .int .i64 a0) (by exact rfl)) (by decide) ?_
  refine alP (some 9) rfl rfl (does_move (v := .int .i64 a1) (by exact rfl)) (by decide) ?_
  refine alP (some 10) rfl rfl (does_bin (v := .bool (decide (a0 < a1))) (by conv => lhs; whnf) (by conv => lhs; whnf) rfl) (by decide) ?_
  refine alP (some 7) rfl rfl (does_assign (v := .bool (decide (a0 < a1))) (by exact rfl)) (by decide) ?_
  refine al_nil ?_
  refine hK3 _ ?_
  refine aw_bool (b := (decide (a0 < a1))) 7 rfl (fun c4 => ?_) (fun c4 => ?_)
  · have h := ifT c4 h
    refine aw_cond_t (by decide) rfl ?_
    refine aw_seq_k (fun K5 hK5 => ?_)
    refine aw_regL ?_
    refine alP (some 11) rfl rfl (does_move (v := .int .i64 a1) (by exact rfl)) (by decide) ?_
    refine alP (some 6) rfl rfl (does_assign (v := .int .i64 a1) (by exact rfl)) (by decide) ?_
    refine al_nil ?_
    refine hK5 _ ?_
    refine aw_ret ?_
    obtain rfl := Option.some.inj h
    exact ret_ok1 (by conv => lhs; whnf) (by conv => lhs; whnf) (by exact rfl) (.inr rfl) rfl
  · have h := ifF c4 h
    refine aw_cond_f (by decide) rfl ?_
    refine aw_seq_k (fun K6 hK6 => ?_)
    refine aw_regL ?_
    refine alP (some 13) rfl rfl (does_move (v := .int .i64 a0) (by exact rfl)) (by decide) ?_
    refine alP (some 14) rfl rfl (does_move (v := .int .i64 a2) (by exact rfl)) (by decide) ?_
    refine alP (some 15) rfl rfl (does_bin (v := .bool (decide (a2 < a0))) (by conv => lhs; whnf) (by conv => lhs; whnf) rfl) (by decide) ?_
    refine alP (some 12) rfl rfl (does_assign (v := .bool (decide (a2 < a0))) (by exact rfl)) (by decide) ?_
    refine al_nil ?_
    refine hK6 _ ?_
    refine aw_bool (b := (decide (a2 < a0))) 12 rfl (fun c7 => ?_) (fun c7 => ?_)
    · have h := ifT c7 h
      refine aw_cond_t (by decide) rfl ?_
      refine aw_seq_k (fun K8 hK8 => ?_)
      refine aw_regL ?_
      refine alP (some 16) rfl rfl (does_move (v := .int .i64 a2) (by exact rfl)) (by decide) ?_
      refine alP (some 6) rfl rfl (does_assign (v := .int .i64 a2) (by exact rfl)) (by decide) ?_
      refine al_nil ?_
      refine hK8 _ ?_
      refine aw_ret ?_
      obtain rfl := Option.some.inj h
      exact ret_ok1 (by conv => lhs; whnf) (by conv => lhs; whnf) (by exact rfl) (.inr rfl) rfl
    · have h := ifF c7 h
      refine aw_cond_f (by decide) rfl ?_
      refine aw_skip ?_
      refine hK2 _ ?_
      refine aw_seq_k (fun K9 hK9 => ?_)
      refine aw_regL ?_
      refine alP (some 17) rfl rfl (does_move (v := .int .i64 a0) (by exact rfl)) (by decide) ?_
      refine alP (some 6) rfl rfl (does_assign (v := .int .i64 a0) (by exact rfl)) (by decide) ?_
      refine al_nil ?_
      refine hK9 _ ?_
      refine aw_ret ?_
      obtain rfl := Option.some.inj h
      exact ret_ok1 (by conv => lhs; whnf) (by conv => lhs; whnf) (by exact rfl) (.inr rfl) rfl
def gleaningref28_plus (a0 : Int) (a1 : Int) : Option Int :=
  Option.bind (gleaningref1_Cap a0 0 9223372036854775807) (fun (x3 : Int) => Option.bind (gleaningref1_Cap a1 0 9223372036854775807) (fun (x5 : Int) => if (decide ((IntKind.i64.wrap (9223372036854775807 - x3)) < x5)) = true then (some 9223372036854775807) else (some (IntKind.i64.wrap (x3 + x5)))))
set_option maxRecDepth 100000 in
set_option maxHeartbeats 8000000 in
/-- gleaning/gleaningref28.plus -/
theorem gleaningref28_plus_ok (a0 : Int) (a1 : Int) {r : Int} (h : gleaningref28_plus a0 a1 = some r) : Ok Try.prog 17 [.int .i64 a0, .int .i64 a1] [] [] (.int .i64 r) [] [] := by
  unfold gleaningref28_plus at h
  refine ok_of_code Try.func17 rfl (by show (2 : Nat) ≤ _; decide) (Nat.le_refl _) fun X => ?_
  refine aw_seq_k (fun K1 hK1 => ?_)
  refine aw_regL ?_
  refine alP (some 4) rfl rfl (does_assign (v := .int .i64 0) (by exact rfl)) (by decide) ?_
  refine al_nil ?_
  refine hK1 _ ?_
  refine aw_seq_k (fun K2 hK2 => ?_)
  refine aw_regL ?_
  refine alP (some 5) rfl rfl (does_move (v := .int .i64 a0) (by exact rfl)) (by decide) ?_
  obtain ⟨x3, hx3, h⟩ := bnd_some h
  refine alD (some 6) rfl rfl (do_call0 6 false (gleaningref1_Cap_ok a0 0 9223372036854775807 hx3) rfl ent19 rfl rfl) (by decide) ?_
  refine alP (some 0) rfl rfl (does_assign (v := .int .i64 x3) (by exact rfl)) (by decide) ?_
  refine al_nil ?_
  refine hK2 _ ?_
  refine aw_seq_k (fun K4 hK4 => ?_)
  refine aw_regL ?_
  refine alP (some 7) rfl rfl (does_move (v := .int .i64 a1) (by exact rfl)) (by decide) ?_
  obtain ⟨x5, hx5, h⟩ := bnd_some h
  refine alD (some 8) rfl rfl (do_call0 8 false (gleaningref1_Cap_ok a1 0 9223372036854775807 hx5) rfl ent19 rfl rfl) (by decide) ?_
  refine alP (some 1) rfl rfl (does_assign (v := .int .i64 x5) (by exact rfl)) (by decide) ?_
  refine al_nil ?_
  refine hK4 _ ?_
  refine aw_seq_k (fun K6 hK6 => ?_)
  refine aw_seq_k (fun K7 hK7 => ?_)
  refine aw_regL ?_
  refine alP (some 9) rfl rfl (does_move (v := .int .i64 x5) (by exact rfl)) (by decide) ?_
  refine alP (some 10) rfl rfl (does_move (v := .int .i64 x3) (by exact rfl)) (by decide) ?_
  refine alP (some 11) rfl rfl (does_bin (v := .int .i64 (IntKind.i64.wrap (9223372036854775807 - x3))) (by conv => lhs; whnf) (by conv => lhs; whnf) rfl) (by decide) ?_
  refine alP (some 12) rfl rfl (does_bin (v := .bool (decide ((IntKind.i64.wrap (9223372036854775807 - x3)) < x5))) (by conv => lhs; whnf) (by conv => lhs; whnf) rfl) (by decide) ?_
  refine al_nil ?_
  refine hK7 _ ?_
  refine aw_bool (b := (decide ((IntKind.i64.wrap (9223372036854775807 - x3)) < x5))) 12 rfl (fun c8 => ?_) (fun c8 => ?_)
  · have h := ifT c8 h
    refine aw_cond_t (by decide) rfl ?_
    refine aw_seq_k (fun K9 hK9 => ?_)
    refine aw_regL ?_
    refine alP (some 4) rfl rfl (does_assign (v := .int .i64 9223372036854775807) (by exact rfl)) (by decide) ?_
    refine al_nil ?_
    refine hK9 _ ?_
    refine aw_ret ?_
    obtain rfl := Option.some.inj h
    exact ret_ok1 (by conv => lhs; whnf) (by conv => lhs; whnf) (by exact rfl) (.inr rfl) rfl
  · have h := ifF c8 h
    refine aw_cond_f (by decide) rfl ?_
    refine aw_skip ?_
    refine hK6 _ ?_
    refine aw_seq_k (fun K10 hK10 => ?_)
    refine aw_regL ?_
    refine alP (some 13) rfl rfl (does_move (v := .int .i64 x3) (by exact rfl)) (by decide) ?_
    refine alP (some 14) rfl rfl (does_move (v := .int .i64 x5) (by exact rfl)) (by decide) ?_
    refine alP (some 15) rfl rfl (does_bin (v := .int .i64 (IntKind.i64.wrap (x3 + x5))) (by conv => lhs; whnf) (by conv => lhs; whnf) rfl) (by decide) ?_
    refine alP (some 4) rfl rfl (does_assign (v := .int .i64 (IntKind.i64.wrap (x3 + x5))) (by exact rfl)) (by decide) ?_
    refine al_nil ?_
    refine hK10 _ ?_
    refine aw_ret ?_
    obtain rfl := Option.some.inj h
    exact ret_ok1 (by conv => lhs; whnf) (by conv => lhs; whnf) (by exact rfl) (.inr rfl) rfl
def gleaningref28_busier (a0 : Busy) (a1 : Busy) : Option Bool :=
  if (a0.Count != a1.Count) = true then (some (decide (a1.Count < a0.Count))) else (if (!(ByteArray.toList a0.Service == ByteArray.toList a1.Service)) = true then (some (Op.bytesLess (ByteArray.toList a0.Service) (ByteArray.toList a1.Service))) else (some (Op.bytesLess (ByteArray.toList a0.Op) (ByteArray.toList a1.Op))))
set_option maxRecDepth 100000 in
set_option maxHeartbeats 8000000 in
/-- gleaning/gleaningref28.busier -/
theorem gleaningref28_busier_ok (a0 : Busy) (a1 : Busy) {r : Bool} (h : gleaningref28_busier a0 a1 = some r) : Ok Try.prog 18 [.agg [.str a0.Service, .str a0.Op, .int .i64 a0.Count, .int .i64 a0.Errs], .agg [.str a1.Service, .str a1.Op, .int .i64 a1.Count, .int .i64 a1.Errs]] [] [] (.bool r) [] [] := by
  unfold gleaningref28_busier at h
  refine ok_of_code Try.func18 rfl (by show (2 : Nat) ≤ _; decide) (Nat.le_refl _) fun X => ?_
  refine aw_seq_k (fun K1 hK1 => ?_)
  refine aw_regL ?_
  refine alD (some 2) rfl rfl (do_box (by conv => lhs; whnf) rfl rfl) (by decide) ?_
  refine alD (some 3) rfl rfl (do_box (by conv => lhs; whnf) rfl rfl) (by decide) ?_
  refine alP (some 4) rfl rfl (does_assign (v := .bool false) (by exact rfl)) (by decide) ?_
  refine al_nil ?_
  refine hK1 _ ?_
  refine aw_seq_k (fun K2 hK2 => ?_)
  refine aw_block ?_
  refine aw_seq_k (fun K3 hK3 => ?_)
  refine aw_regL ?_
  refine alP (some 6) rfl rfl (does_fieldAddr (q := .ptr 2 0 2) (by conv => lhs; whnf) ty34 rfl ty3 (by decide) (by exact rfl)) (by decide) ?_
  refine alR (some 7) rfl rfl (does_load (v := .int .i64 a0.Count) (by conv => lhs; whnf) (by conv => lhs; whnf) ty3 (by exact rfl)) (by decide) ?_
  refine alP (some 8) rfl rfl (does_fieldAddr (q := .ptr 3 0 2) (by conv => lhs; whnf) ty34 rfl ty3 (by decide) (by exact rfl)) (by decide) ?_
  refine alR (some 9) rfl rfl (does_load (v := .int .i64 a1.Count) (by conv => lhs; whnf) (by conv => lhs; whnf) ty3 (by exact rfl)) (by decide) ?_
  refine alP (some 10) rfl rfl (does_bin (v := .bool (a0.Count != a1.Count)) (by conv => lhs; whnf) (by conv => lhs; whnf) rfl) (by decide) ?_
  refine alP (some 5) rfl rfl (does_assign (v := .bool (a0.Count != a1.Count)) (by exact rfl)) (by decide) ?_
  refine al_nil ?_
  refine hK3 _ ?_
  refine aw_bool (b := (a0.Count != a1.Count)) 5 rfl (fun c4 => ?_) (fun c4 => ?_)
  · have h := ifT c4 h
    refine aw_cond_t (by decide) rfl ?_
    refine aw_seq_k (fun K5 hK5 => ?_)
    refine aw_regL ?_
    refine alP (some 11) rfl rfl (does_fieldAddr (q := .ptr 2 0 2) (by conv => lhs; whnf) ty34 rfl ty3 (by decide) (by exact rfl)) (by decide) ?_
    refine alR (some 12) rfl rfl (does_load (v := .int .i64 a0.Count) (by conv => lhs; whnf) (by conv => lhs; whnf) ty3 (by exact rfl)) (by decide) ?_
    refine alP (some 13) rfl rfl (does_fieldAddr (q := .ptr 3 0 2) (by conv => lhs; whnf) ty34 rfl ty3 (by decide) (by exact rfl)) (by decide) ?_
    refine alR (some 14) rfl rfl (does_load (v := .int .i64 a1.Count) (by conv => lhs; whnf) (by conv => lhs; whnf) ty3 (by exact rfl)) (by decide) ?_
    refine alP (some 15) rfl rfl (does_bin (v := .bool (decide (a1.Count < a0.Count))) (by conv => lhs; whnf) (by conv => lhs; whnf) rfl) (by decide) ?_
    refine alP (some 4) rfl rfl (does_assign (v := .bool (decide (a1.Count < a0.Count))) (by exact rfl)) (by decide) ?_
    refine al_nil ?_
    refine hK5 _ ?_
    refine aw_ret ?_
    obtain rfl := Option.some.inj h
    exact ret_ok1 (by conv => lhs; whnf) (by conv => lhs; whnf) (by exact rfl) (.inr rfl) rfl
  · have h := ifF c4 h
    refine aw_cond_f (by decide) rfl ?_
    refine aw_seq_k (fun K6 hK6 => ?_)
    refine aw_regL ?_
    refine alP (some 17) rfl rfl (does_fieldAddr (q := .ptr 2 0 0) (by conv => lhs; whnf) ty34 rfl ty9 (by decide) (by exact rfl)) (by decide) ?_
    refine alR (some 18) rfl rfl (does_load (v := .str a0.Service) (by conv => lhs; whnf) (by conv => lhs; whnf) ty9 (by exact rfl)) (by decide) ?_
    refine alP (some 19) rfl rfl (does_fieldAddr (q := .ptr 3 0 0) (by conv => lhs; whnf) ty34 rfl ty9 (by decide) (by exact rfl)) (by decide) ?_
    refine alR (some 20) rfl rfl (does_load (v := .str a1.Service) (by conv => lhs; whnf) (by conv => lhs; whnf) ty9 (by exact rfl)) (by decide) ?_
    refine alP (some 21) rfl rfl (does_bin (v := .bool (!(ByteArray.toList a0.Service == ByteArray.toList a1.Service))) (by conv => lhs; whnf) (by conv => lhs; whnf) rfl) (by decide) ?_
    refine alP (some 16) rfl rfl (does_assign (v := .bool (!(ByteArray.toList a0.Service == ByteArray.toList a1.Service))) (by exact rfl)) (by decide) ?_
    refine al_nil ?_
    refine hK6 _ ?_
    refine aw_bool (b := (!(ByteArray.toList a0.Service == ByteArray.toList a1.Service))) 16 rfl (fun c7 => ?_) (fun c7 => ?_)
    · have h := ifT c7 h
      refine aw_cond_t (by decide) rfl ?_
      refine aw_seq_k (fun K8 hK8 => ?_)
      refine aw_regL ?_
      refine alP (some 22) rfl rfl (does_fieldAddr (q := .ptr 2 0 0) (by conv => lhs; whnf) ty34 rfl ty9 (by decide) (by exact rfl)) (by decide) ?_
      refine alR (some 23) rfl rfl (does_load (v := .str a0.Service) (by conv => lhs; whnf) (by conv => lhs; whnf) ty9 (by exact rfl)) (by decide) ?_
      refine alP (some 24) rfl rfl (does_fieldAddr (q := .ptr 3 0 0) (by conv => lhs; whnf) ty34 rfl ty9 (by decide) (by exact rfl)) (by decide) ?_
      refine alR (some 25) rfl rfl (does_load (v := .str a1.Service) (by conv => lhs; whnf) (by conv => lhs; whnf) ty9 (by exact rfl)) (by decide) ?_
      refine alP (some 26) rfl rfl (does_bin (v := .bool (Op.bytesLess (ByteArray.toList a0.Service) (ByteArray.toList a1.Service))) (by conv => lhs; whnf) (by conv => lhs; whnf) rfl) (by decide) ?_
      refine alP (some 4) rfl rfl (does_assign (v := .bool (Op.bytesLess (ByteArray.toList a0.Service) (ByteArray.toList a1.Service))) (by exact rfl)) (by decide) ?_
      refine al_nil ?_
      refine hK8 _ ?_
      refine aw_ret ?_
      obtain rfl := Option.some.inj h
      exact ret_ok1 (by conv => lhs; whnf) (by conv => lhs; whnf) (by exact rfl) (.inr rfl) rfl
    · have h := ifF c7 h
      refine aw_cond_f (by decide) rfl ?_
      refine aw_skip ?_
      refine hK2 _ ?_
      refine aw_seq_k (fun K9 hK9 => ?_)
      refine aw_regL ?_
      refine alP (some 27) rfl rfl (does_fieldAddr (q := .ptr 2 0 1) (by conv => lhs; whnf) ty34 rfl ty9 (by decide) (by exact rfl)) (by decide) ?_
      refine alR (some 28) rfl rfl (does_load (v := .str a0.Op) (by conv => lhs; whnf) (by conv => lhs; whnf) ty9 (by exact rfl)) (by decide) ?_
      refine alP (some 29) rfl rfl (does_fieldAddr (q := .ptr 3 0 1) (by conv => lhs; whnf) ty34 rfl ty9 (by decide) (by exact rfl)) (by decide) ?_
      refine alR (some 30) rfl rfl (does_load (v := .str a1.Op) (by conv => lhs; whnf) (by conv => lhs; whnf) ty9 (by exact rfl)) (by decide) ?_
      refine alP (some 31) rfl rfl (does_bin (v := .bool (Op.bytesLess (ByteArray.toList a0.Op) (ByteArray.toList a1.Op))) (by conv => lhs; whnf) (by conv => lhs; whnf) rfl) (by decide) ?_
      refine alP (some 4) rfl rfl (does_assign (v := .bool (Op.bytesLess (ByteArray.toList a0.Op) (ByteArray.toList a1.Op))) (by exact rfl)) (by decide) ?_
      refine al_nil ?_
      refine hK9 _ ?_
      refine aw_ret ?_
      obtain rfl := Option.some.inj h
      exact ret_ok1 (by conv => lhs; whnf) (by conv => lhs; whnf) (by exact rfl) (.inr rfl) rfl
def gleaningref28_Busy_l3 (a0 : List RowG) (v7_s_1 : List Busy) (v8_1 : Int) (v9_3 : Int) : Option (Int ⊕ Int) :=
  if (decide (v9_3 < (List.length v7_s_1 : Int))) = true then (gd (0 ≤ v9_3) (Option.bind (v7_s_1[(Int.toNat v9_3)]?) (fun (x26 : Busy) => gd (0 ≤ v8_1) (Option.bind (a0[(Int.toNat v8_1)]?) (fun (x28 : RowG) => if (!(ByteArray.toList x26.Service == ByteArray.toList x28.Service)) = true then (some (Sum.inl (IntKind.i64.wrap (v9_3 + 1)))) else (gd (0 ≤ v9_3) (Option.bind (v7_s_1[(Int.toNat v9_3)]?) (fun (x31 : Busy) => gd (0 ≤ v8_1) (Option.bind (a0[(Int.toNat v8_1)]?) (fun (x33 : RowG) => if (!(ByteArray.toList x31.Op == ByteArray.toList x33.Op)) = true then (some (Sum.inl (IntKind.i64.wrap (v9_3 + 1)))) else (some (Sum.inr v9_3)))))))))))) else (some (Sum.inr v9_3))
def gleaningref28_Busy_k4 (a0 : List RowG) (v8_1 : Int) (v9_2 : Int) (v7_s_4 : List Busy) : Option ((List Busy × Int) ⊕ (List Busy)) :=
  gd (0 ≤ v9_2) (Option.bind (v7_s_4[(Int.toNat v9_2)]?) (fun (x46 : Busy) => gd (0 ≤ v8_1) (Option.bind (a0[(Int.toNat v8_1)]?) (fun (x48 : RowG) => Option.bind (gleaningref28_plus x46.Count x48.Counter.Count) (fun (x49 : Int) => gd (0 ≤ v9_2) (Option.bind (v7_s_4[(Int.toNat v9_2)]?) (fun (x51 : Busy) => gd (0 ≤ v9_2) (Option.bind ((List.set v7_s_4 (Int.toNat v9_2) (Busy.mk x51.Service x51.Op x49 x51.Errs))[(Int.toNat v9_2)]?) (fun (x53 : Busy) => gd (0 ≤ v8_1) (Option.bind (a0[(Int.toNat v8_1)]?) (fun (x55 : RowG) => Option.bind (gleaningref28_plus x53.Errs x55.Counter.Errs) (fun (x56 : Int) => gd (0 ≤ v9_2) (Option.bind ((List.set v7_s_4 (Int.toNat v9_2) (Busy.mk x51.Service x51.Op x49 x51.Errs))[(Int.toNat v9_2)]?) (fun (x58 : Busy) => some (Sum.inl ((List.set (List.set v7_s_4 (Int.toNat v9_2) (Busy.mk x51.Service x51.Op x49 x51.Errs)) (Int.toNat v9_2) (Busy.mk x58.Service x58.Op x58.Count x56)), (IntKind.i64.wrap (v8_1 + 1))))))))))))))))))
def gleaningref28_Busy_k2 (a0 : List RowG) (v7_s_1 : List Busy) (v8_1 : Int) (v9_2 : Int) : Option ((List Busy × Int) ⊕ (List Busy)) :=
  Option.bind (if (v9_2 == (List.length v7_s_1 : Int)) = true then (gd (0 ≤ v8_1) (Option.bind (a0[(Int.toNat v8_1)]?) (fun (x40 : RowG) => gd (0 ≤ v8_1) (Option.bind (a0[(Int.toNat v8_1)]?) (fun (x42 : RowG) => gd ((List.length (v7_s_1 ++ [(Busy.mk x40.Service x42.Op 0 0)])) * 48 ≤ 140737488355328 ∧ (List.length (v7_s_1 ++ [(Busy.mk x40.Service x42.Op 0 0)])) ≤ 140737488355328) (some (v7_s_1 ++ [(Busy.mk x40.Service x42.Op 0 0)]))))))) else (some v7_s_1)) (fun (s : List Busy) => gleaningref28_Busy_k4 a0 v8_1 v9_2 s)
def gleaningref28_Busy_l1 (a0 : List RowG) (a1 : Int) (v7_s_1 : List Busy) (v8_1 : Int) : Option ((List Busy × Int) ⊕ (List Busy)) :=
  if (decide (v8_1 < (List.length a0 : Int))) = true then (gd (0 ≤ v8_1) (Option.bind (a0[(Int.toNat v8_1)]?) (fun (x15 : RowG) => if (x15.Level != a1) = true then (some (Sum.inl (v7_s_1, (IntKind.i64.wrap (v8_1 + 1))))) else (Option.bind (loopN (fun (s : Int) => gleaningref28_Busy_l3 a0 v7_s_1 v8_1 s) Fu 0) (fun (s : Int) => gleaningref28_Busy_k2 a0 v7_s_1 v8_1 s))))) else (some (Sum.inr v7_s_1))
def gleaningref28_Busy_k8 (v7_s_7 : List Busy) (v11_7 : Int) : Option ((List Busy × Int) ⊕ ((List Busy × Int) ⊕ (List Busy))) :=
  gd (0 ≤ (IntKind.i64.wrap (v11_7 - 1))) (Option.bind (v7_s_7[(Int.toNat (IntKind.i64.wrap (v11_7 - 1)))]?) (fun (x83 : Busy) => gd (0 ≤ v11_7) (Option.bind (v7_s_7[(Int.toNat v11_7)]?) (fun (x85 : Busy) => gd (0 ≤ v11_7) (Option.bind (v7_s_7[(Int.toNat v11_7)]?) (fun (x87 : Busy) => gd (0 ≤ (IntKind.i64.wrap (v11_7 - 1))) (Option.bind ((List.set v7_s_7 (Int.toNat v11_7) x83)[(Int.toNat (IntKind.i64.wrap (v11_7 - 1)))]?) (fun (x89 : Busy) => some (Sum.inl ((List.set (List.set v7_s_7 (Int.toNat v11_7) x83) (Int.toNat (IntKind.i64.wrap (v11_7 - 1))) x85), (IntKind.i64.wrap (v11_7 - 1))))))))))))
def gleaningref28_Busy_l7 (v10_6 : Int) (v7_s_7 : List Busy) (v11_7 : Int) : Option ((List Busy × Int) ⊕ ((List Busy × Int) ⊕ (List Busy))) :=
  Option.bind (if (decide ((0 : Int) < v11_7)) = true then (gd (0 ≤ v11_7) (Option.bind (v7_s_7[(Int.toNat v11_7)]?) (fun (x76 : Busy) => gd (0 ≤ (IntKind.i64.wrap (v11_7 - 1))) (Option.bind (v7_s_7[(Int.toNat (IntKind.i64.wrap (v11_7 - 1)))]?) (fun (x78 : Busy) => Option.bind (gleaningref28_busier x76 x78) (fun (x79 : Bool) => if x79 = true then (some (Sum.inl ())) else (some (Sum.inr (Sum.inr (Sum.inl (v7_s_7, (IntKind.i64.wrap (v10_6 + 1))))))))))))) else (some (Sum.inr (Sum.inr (Sum.inl (v7_s_7, (IntKind.i64.wrap (v10_6 + 1)))))))) (Sum.elim (fun (s : Unit) => gleaningref28_Busy_k8 v7_s_7 v11_7) some)
def gleaningref28_Busy_l6 (v7_s_6 : List Busy) (v10_6 : Int) : Option ((List Busy × Int) ⊕ (List Busy)) :=
  if (decide (v10_6 < (List.length v7_s_6 : Int))) = true then (loopN (fun (s : List Busy × Int) => gleaningref28_Busy_l7 v10_6 s.1 s.2) Fu (v7_s_6, v10_6)) else (some (Sum.inr v7_s_6))
def gleaningref28_Busy_k5 (a2 : Int) (v7_s_5 : List Busy) : Option (List Busy) :=
  Option.bind (gleaningref1_Cap a2 0 (List.length v7_s_5 : Int)) (fun (x91 : Int) => gd (0 ≤ x91) (gd (x91 ≤ (List.length v7_s_5 : Int)) (some (List.take (Int.toNat x91) v7_s_5))))
def gleaningref28_Busy_k0 (a2 : Int) (v7_s_0 : List Busy) : Option (List Busy) :=
  Option.bind (loopN (fun (s : List Busy × Int) => gleaningref28_Busy_l6 s.1 s.2) Fu (v7_s_0, 0)) (fun (s : List Busy) => gleaningref28_Busy_k5 a2 s)
def gleaningref28_Busy (a0 : List RowG) (a1 : Int) (a2 : Int) : Option (List Busy) :=
  Option.bind (loopN (fun (s : List Busy × Int) => gleaningref28_Busy_l1 a0 a1 s.1 s.2) Fu ([], 0)) (fun (s : List Busy) => gleaningref28_Busy_k0 a2 s)
set_option maxRecDepth 100000 in
set_option maxHeartbeats 8000000 in
/-- gleaning/gleaningref28.Busy -/
theorem gleaningref28_Busy_ok (a0 : List RowG) (a1 : Int) (a2 : Int) {r : List Busy} (h : gleaningref28_Busy a0 a1 a2 = some r) : Ok Try.prog 8 [.sl 14 (List.map enc27 a0), .int .i64 a1, .int .i64 a2] [] [] (.sl 4 (List.map enc33 r)) [] [] := by
  unfold gleaningref28_Busy at h
  refine ok_of_code Try.func8 rfl (by show (3 : Nat) ≤ _; decide) (Nat.le_refl _) fun X => ?_
  refine aw_seq_k (fun K1 hK1 => ?_)
  refine aw_regL ?_
  refine alP (some 6) rfl rfl (does_assign (v := .nil) (by exact rfl)) (by decide) ?_
  refine al_nil ?_
  refine hK1 _ ?_
  refine aw_seq_k (fun K2 hK2 => ?_)
  refine aw_regL ?_
  refine alP (some 7) rfl rfl (does_assign (v := .nil) (by exact rfl)) (by decide) ?_
  refine al_nil ?_
  refine hK2 _ ?_
  obtain ⟨q3, h, hk4⟩ := bnd_some h
  refine aw_cut (fun s => ∃ (v7_s_0 : List Busy), gleaningref28_Busy_k0 a2 v7_s_0 = some r ∧ s = lit [(2, .int .i64 a2), (7, .own 7 0)] [((7, 0), .arr 34 4 false (List.map enc33 v7_s_0))] [(7, 1)] X) ?_ ?_
  · skip
    refine aw_seq_k (fun K5 hK5 => ?_)
    refine aw_regL ?_
    refine alP (some 8) rfl rfl (does_assign (v := .int .i64 0) (by exact rfl)) (by decide) ?_
    refine al_nil ?_
    refine hK5 _ ?_
    refine aw_block ?_
    refine aw_nilOwn 7 34 4 (by conv => lhs; whnf) (by decide) (by decide) ?_
    refine aw_loop' (fun m s => ∃ (v7_s_1 : List Busy), ∃ (v8_1 : Int), loopN (fun (s : List Busy × Int) => gleaningref28_Busy_l1 a0 a1 s.1 s.2) m (v7_s_1, v8_1) = some q3 ∧ s = lit [(0, .sl 14 (List.map enc27 a0)), (1, .int .i64 a1), (2, .int .i64 a2), (7, .own 7 0), (8, .int .i64 v8_1)] [((7, 0), .arr 34 4 false (List.map enc33 v7_s_1))] [(7, 1)] X) Fu
      ⟨_, reb_lit [(0, .sl 14 (List.map enc27 a0)), (1, .int .i64 a1), (2, .int .i64 a2), (7, .own 7 0), (8, .int .i64 (0))] [(7, 0)] [((7, 0), .arr 34 4 false (List.map enc33 []))] [(7, 1)] (envOk_cons (by conv => lhs; whnf) (by exact rfl) (envOk_cons (by conv => lhs; whnf) (by exact rfl) (envOk_cons (by conv => lhs; whnf) (by exact rfl) (envOk_cons (by conv => lhs; whnf) (by exact rfl) (envOk_cons (by conv => lhs; whnf) (by exact rfl) envOk_nil))))) (objOk_cons (by conv => lhs; whnf) (by conv => lhs; whnf) (by exact rfl) (by simp) objOk_nil) (nodup_b rfl) (nodup_b rfl) rfl rfl, [], 0, h, rfl⟩ ?_
    rintro m s ⟨v7_s_1, v8_1, h, rfl⟩
    obtain ⟨m1, q6, rfl, h, hq7⟩ := loop_some h
    replace h : gleaningref28_Busy_l1 a0 a1 v7_s_1 v8_1 = some q6 := h
    unfold gleaningref28_Busy_l1 at h
    refine aw_seq_k (fun K8 hK8 => ?_)
    refine aw_seq_k (fun K9 hK9 => ?_)
    refine aw_regL ?_
    refine alP (some 12) rfl rfl (does_move (v := .int .i64 v8_1) (by exact rfl)) (by decide) ?_
    refine alP (some 13) rfl rfl (does_move (v := .sl 14 (List.map enc27 a0)) (by exact rfl)) (by decide) ?_
    refine alP (some 14) rfl rfl ((does_len_sl (by conv => lhs; whnf) ty22).castp (v' := .int .i64 (List.length a0 : Int)) (by exact len_map _)) (by decide) ?_
    refine alP (some 15) rfl rfl (does_bin (v := .bool (decide (v8_1 < (List.length a0 : Int)))) (by conv => lhs; whnf) (by conv => lhs; whnf) rfl) (by decide) ?_
    refine al_nil ?_
    refine hK9 _ ?_
    refine aw_bool (b := (decide (v8_1 < (List.length a0 : Int)))) 15 rfl (fun c10 => ?_) (fun c10 => ?_)
    · have h := ifT c10 h
      refine aw_cond_t (by decide) rfl ?_
      refine aw_skip ?_
      refine hK8 _ ?_
      refine aw_seq_k (fun K11 hK11 => ?_)
      refine aw_block ?_
      refine aw_seq_k (fun K12 hK12 => ?_)
      refine aw_seq_k (fun K13 hK13 => ?_)
      refine aw_regL ?_
      refine alP (some 18) rfl rfl (does_move (v := .sl 14 (List.map enc27 a0)) (by exact rfl)) (by decide) ?_
      refine alP (some 19) rfl rfl (does_move (v := .int .i64 v8_1) (by exact rfl)) (by decide) ?_
      obtain ⟨g14, h⟩ := gd_some h
      obtain ⟨x15, hx15, h⟩ := bnd_some h
      refine alP (some 20) rfl rfl (does_indexAddr_sl (el := .agg [.int .i64 x15.Level, .int .i64 x15.Window, .str x15.Service, .str x15.Op, .int .i64 x15.Counter.Count, .int .i64 x15.Counter.Errs, .int .i64 x15.Counter.By.c0, .int .i64 x15.Counter.By.c1, .int .i64 x15.Counter.By.c2, .int .i64 x15.Counter.By.c3, .int .i64 x15.Counter.By.c4, .int .i64 x15.Counter.By.c5, .int .i64 x15.Counter.By.c6, .int .i64 x15.Counter.By.c7]) (by conv => lhs; whnf) (by conv => lhs; whnf) ty22 ty28 g14 (by exact map_get hx15)) (by decide) ?_
      refine alP (some 21) rfl rfl (does_fieldAddr (q := .rptr [.int .i64 x15.Level, .int .i64 x15.Window, .str x15.Service, .str x15.Op, .int .i64 x15.Counter.Count, .int .i64 x15.Counter.Errs, .int .i64 x15.Counter.By.c0, .int .i64 x15.Counter.By.c1, .int .i64 x15.Counter.By.c2, .int .i64 x15.Counter.By.c3, .int .i64 x15.Counter.By.c4, .int .i64 x15.Counter.By.c5, .int .i64 x15.Counter.By.c6, .int .i64 x15.Counter.By.c7]) (by conv => lhs; whnf) ty28 rfl ty3 (by decide) (by exact rfl)) (by decide) ?_
      refine alR (some 22) rfl rfl (does_load (v := .int .i64 x15.Level) (by conv => lhs; whnf) (by conv => lhs; whnf) ty3 (by exact rfl)) (by decide) ?_
      refine alP (some 23) rfl rfl (does_move (v := .int .i64 a1) (by exact rfl)) (by decide) ?_
      refine alP (some 24) rfl rfl (does_bin (v := .bool (x15.Level != a1)) (by conv => lhs; whnf) (by conv => lhs; whnf) rfl) (by decide) ?_
      refine al_nil ?_
      refine hK13 _ ?_
      refine aw_bool (b := (x15.Level != a1)) 24 rfl (fun c16 => ?_) (fun c16 => ?_)
      · have h := ifT c16 h
        refine aw_cond_t (by decide) rfl ?_
        refine aw_exit ?_
        refine hK11 _ ?_
        refine aw_regL ?_
        refine alP (some 16) rfl rfl (does_move (v := .int .i64 v8_1) (by exact rfl)) (by decide) ?_
        refine alP (some 17) rfl rfl (does_bin (v := .int .i64 (IntKind.i64.wrap (v8_1 + 1))) (by conv => lhs; whnf) (by conv => lhs; whnf) rfl) (by decide) ?_
        refine alP (some 8) rfl rfl (does_assign (v := .int .i64 (IntKind.i64.wrap (v8_1 + 1))) (by exact rfl)) (by decide) ?_
        refine al_nil ?_
        have h := leafL h hq7
        exact ⟨m1, Nat.lt_succ_self _, _, reb_lit [(0, .sl 14 (List.map enc27 a0)), (1, .int .i64 a1), (2, .int .i64 a2), (7, .own 7 0), (8, .int .i64 (IntKind.i64.wrap (v8_1 + 1)))] [(7, 0)] [((7, 0), .arr 34 4 false (List.map enc33 v7_s_1))] [(7, 1)] (envOk_cons (by conv => lhs; whnf) (by exact rfl) (envOk_cons (by conv => lhs; whnf) (by exact rfl) (envOk_cons (by conv => lhs; whnf) (by exact rfl) (envOk_cons (by conv => lhs; whnf) (by exact rfl) (envOk_cons (by conv => lhs; whnf) (by exact rfl) envOk_nil))))) (objOk_cons (by conv => lhs; whnf) (by conv => lhs; whnf) (by exact rfl) (by simp) objOk_nil) (nodup_b rfl) (nodup_b rfl) rfl rfl, v7_s_1, (IntKind.i64.wrap (v8_1 + 1)), h, rfl⟩
      · have h := ifF c16 h
        refine aw_cond_f (by decide) rfl ?_
        refine aw_skip ?_
        refine hK12 _ ?_
        refine aw_seq_k (fun K17 hK17 => ?_)
        refine aw_regL ?_
        refine alP (some 9) rfl rfl (does_assign (v := .int .i64 0) (by exact rfl)) (by decide) ?_
        refine al_nil ?_
        refine hK17 _ ?_
        obtain ⟨q18, h, hk19⟩ := bnd_some h
        refine aw_cut (fun s => ∃ (v9_2 : Int), gleaningref28_Busy_k2 a0 v7_s_1 v8_1 v9_2 = some q6 ∧ s = lit [(0, .sl 14 (List.map enc27 a0)), (1, .int .i64 a1), (2, .int .i64 a2), (7, .own 7 0), (8, .int .i64 v8_1), (9, .int .i64 v9_2)] [((7, 0), .arr 34 4 false (List.map enc33 v7_s_1))] [(7, 1)] X) ?_ ?_
        · skip
          refine aw_block ?_
          refine aw_loop' (fun m s => ∃ (v9_3 : Int), loopN (fun (s : Int) => gleaningref28_Busy_l3 a0 v7_s_1 v8_1 s) m v9_3 = some q18 ∧ s = lit [(0, .sl 14 (List.map enc27 a0)), (1, .int .i64 a1), (2, .int .i64 a2), (7, .own 7 0), (8, .int .i64 v8_1), (9, .int .i64 v9_3)] [((7, 0), .arr 34 4 false (List.map enc33 v7_s_1))] [(7, 1)] X) Fu
            ⟨_, reb_lit [(0, .sl 14 (List.map enc27 a0)), (1, .int .i64 a1), (2, .int .i64 a2), (7, .own 7 0), (8, .int .i64 v8_1), (9, .int .i64 (0))] [(7, 0)] [((7, 0), .arr 34 4 false (List.map enc33 v7_s_1))] [(7, 1)] (envOk_cons (by conv => lhs; whnf) (by exact rfl) (envOk_cons (by conv => lhs; whnf) (by exact rfl) (envOk_cons (by conv => lhs; whnf) (by exact rfl) (envOk_cons (by conv => lhs; whnf) (by exact rfl) (envOk_cons (by conv => lhs; whnf) (by exact rfl) (envOk_cons (by conv => lhs; whnf) (by exact rfl) envOk_nil)))))) (objOk_cons (by conv => lhs; whnf) (by conv => lhs; whnf) (by exact rfl) (by simp) objOk_nil) (nodup_b rfl) (nodup_b rfl) rfl rfl, 0, h, rfl⟩ ?_
          rintro m s ⟨v9_3, h, rfl⟩
          obtain ⟨m3, q20, rfl, h, hq21⟩ := loop_some h
          replace h : gleaningref28_Busy_l3 a0 v7_s_1 v8_1 v9_3 = some q20 := h
          unfold gleaningref28_Busy_l3 at h
          refine aw_seq_k (fun K22 hK22 => ?_)
          refine aw_seq_k (fun K23 hK23 => ?_)
          refine aw_regd (by kernel_rfl) (by decide +kernel) ?_
          refine aoP (some 25) rfl rfl (does_move (v := .int .i64 v9_3) (by exact rfl)) (by decide) ?_
          refine aoP (some 26) rfl rfl (does_move (v := .own 7 0) (by exact rfl)) (by decide) ?_
          refine aoR (some 27) rfl rfl ((does_len_own (by conv => lhs; whnf) (by conv => lhs; whnf) ty30).cast (v' := .int .i64 (List.length v7_s_1 : Int)) (by exact len_map _)) (by decide) ?_
          refine aoP (some 28) rfl rfl (does_bin (v := .bool (decide (v9_3 < (List.length v7_s_1 : Int)))) (by conv => lhs; whnf) (by conv => lhs; whnf) rfl) (by decide) ?_
          refine aoP (some 29) rfl rfl (does_move (v := .bool (decide (v9_3 < (List.length v7_s_1 : Int)))) (by exact rfl)) (by decide) ?_
          refine ao_bool (c := (decide (v9_3 < (List.length v7_s_1 : Int)))) 29 rfl (fun c24 => ?_) (fun c24 => ?_)
          · have h := ifT c24 h
            refine aoP (some 30) rfl rfl (does_move (v := .own 7 0) (by exact rfl)) (by decide) ?_
            refine aoP (some 31) rfl rfl (does_move (v := .int .i64 v9_3) (by exact rfl)) (by decide) ?_
            obtain ⟨g25, h⟩ := gd_some h
            obtain ⟨x26, hx26, h⟩ := bnd_some h
            refine aoR (some 32) rfl rfl (does_indexAddr_own (by conv => lhs; whnf) (by conv => lhs; whnf) (by conv => lhs; whnf) ty30 ty34 g25 (by exact own_lt hx26)) (by decide) ?_
            refine aoP (some 33) rfl rfl (does_fieldAddr (q := .eptr 7 0 4 (Int.toNat v9_3) 0) (by conv => lhs; whnf) ty34 rfl ty9 (by decide) (by exact rfl)) (by decide) ?_
            refine aoR (some 34) rfl rfl (does_load (v := .str x26.Service) (by conv => lhs; whnf) (cellsAt_eptr (by conv => lhs; whnf) (by exact map_get hx26)) ty9 (by exact rfl)) (by decide) ?_
            refine aoP (some 35) rfl rfl (does_move (v := .sl 14 (List.map enc27 a0)) (by exact rfl)) (by decide) ?_
            refine aoP (some 36) rfl rfl (does_move (v := .int .i64 v8_1) (by exact rfl)) (by decide) ?_
            obtain ⟨g27, h⟩ := gd_some h
            obtain ⟨x28, hx28, h⟩ := bnd_some h
            refine aoP (some 37) rfl rfl (does_indexAddr_sl (el := .agg [.int .i64 x28.Level, .int .i64 x28.Window, .str x28.Service, .str x28.Op, .int .i64 x28.Counter.Count, .int .i64 x28.Counter.Errs, .int .i64 x28.Counter.By.c0, .int .i64 x28.Counter.By.c1, .int .i64 x28.Counter.By.c2, .int .i64 x28.Counter.By.c3, .int .i64 x28.Counter.By.c4, .int .i64 x28.Counter.By.c5, .int .i64 x28.Counter.By.c6, .int .i64 x28.Counter.By.c7]) (by conv => lhs; whnf) (by conv => lhs; whnf) ty22 ty28 g27 (by exact map_get hx28)) (by decide) ?_
            refine aoP (some 38) rfl rfl (does_fieldAddr (q := .rptr [.str x28.Service, .str x28.Op, .int .i64 x28.Counter.Count, .int .i64 x28.Counter.Errs, .int .i64 x28.Counter.By.c0, .int .i64 x28.Counter.By.c1, .int .i64 x28.Counter.By.c2, .int .i64 x28.Counter.By.c3, .int .i64 x28.Counter.By.c4, .int .i64 x28.Counter.By.c5, .int .i64 x28.Counter.By.c6, .int .i64 x28.Counter.By.c7]) (by conv => lhs; whnf) ty28 rfl ty9 (by decide) (by exact rfl)) (by decide) ?_
            refine aoR (some 39) rfl rfl (does_load (v := .str x28.Service) (by conv => lhs; whnf) (by conv => lhs; whnf) ty9 (by exact rfl)) (by decide) ?_
            refine aoP (some 40) rfl rfl (does_bin (v := .bool (!(ByteArray.toList x26.Service == ByteArray.toList x28.Service))) (by conv => lhs; whnf) (by conv => lhs; whnf) rfl) (by decide) ?_
            refine aoP (some 41) rfl rfl (does_move (v := .bool (!(ByteArray.toList x26.Service == ByteArray.toList x28.Service))) (by exact rfl)) (by decide) ?_
            refine ao_bool (c := (!(ByteArray.toList x26.Service == ByteArray.toList x28.Service))) 41 rfl (fun c29 => ?_) (fun c29 => ?_)
            · have h := ifT c29 h
              refine aoS (some 42) rfl rfl (by decide) ?_
              refine aoS (some 43) rfl rfl (by decide) ?_
              refine aoS (some 44) rfl rfl (by decide) ?_
              refine aoS (some 45) rfl rfl (by decide) ?_
              refine aoS (some 46) rfl rfl (by decide) ?_
              refine aoS (some 47) rfl rfl (by decide) ?_
              refine aoS (some 48) rfl rfl (by decide) ?_
              refine aoS (some 49) rfl rfl (by decide) ?_
              refine aoS (some 50) rfl rfl (by decide) ?_
              refine aoS (some 51) rfl rfl (by decide) ?_
              refine aoS (some 52) rfl rfl (by decide) ?_
              refine aoP (some 53) rfl rfl (does_pick (v := .bool true) (by conv => lhs; whnf) (by exact rfl)) (by decide) ?_
              refine aoP (some 54) rfl rfl (does_pick (v := .bool true) (by conv => lhs; whnf) (by exact rfl)) (by decide) ?_
              refine ao_nil_d (by kernel_rfl) ?_
              refine hK23 _ ?_
              refine aw_cond_t (by decide) rfl ?_
              refine aw_skip ?_
              refine hK22 _ ?_
              refine aw_block ?_
              refine aw_regL ?_
              refine alP (some 55) rfl rfl (does_move (v := .int .i64 v9_3) (by exact rfl)) (by decide) ?_
              refine alP (some 56) rfl rfl (does_bin (v := .int .i64 (IntKind.i64.wrap (v9_3 + 1))) (by conv => lhs; whnf) (by conv => lhs; whnf) rfl) (by decide) ?_
              refine alP (some 9) rfl rfl (does_assign (v := .int .i64 (IntKind.i64.wrap (v9_3 + 1))) (by exact rfl)) (by decide) ?_
              refine al_nil ?_
              have h := leafL h hq21
              exact ⟨m3, Nat.lt_succ_self _, _, reb_lit [(0, .sl 14 (List.map enc27 a0)), (1, .int .i64 a1), (2, .int .i64 a2), (7, .own 7 0), (8, .int .i64 v8_1), (9, .int .i64 (IntKind.i64.wrap (v9_3 + 1)))] [(7, 0)] [((7, 0), .arr 34 4 false (List.map enc33 v7_s_1))] [(7, 1)] (envOk_cons (by conv => lhs; whnf) (by exact rfl) (envOk_cons (by conv => lhs; whnf) (by exact rfl) (envOk_cons (by conv => lhs; whnf) (by exact rfl) (envOk_cons (by conv => lhs; whnf) (by exact rfl) (envOk_cons (by conv => lhs; whnf) (by exact rfl) (envOk_cons (by conv => lhs; whnf) (by exact rfl) envOk_nil)))))) (objOk_cons (by conv => lhs; whnf) (by conv => lhs; whnf) (by exact rfl) (by simp) objOk_nil) (nodup_b rfl) (nodup_b rfl) rfl rfl, (IntKind.i64.wrap (v9_3 + 1)), h, rfl⟩
            · have h := ifF c29 h
              refine aoP (some 42) rfl rfl (does_move (v := .own 7 0) (by exact rfl)) (by decide) ?_
              refine aoP (some 43) rfl rfl (does_move (v := .int .i64 v9_3) (by exact rfl)) (by decide) ?_
              obtain ⟨g30, h⟩ := gd_some h
              obtain ⟨x31, hx31, h⟩ := bnd_some h
              refine aoR (some 44) rfl rfl (does_indexAddr_own (by conv => lhs; whnf) (by conv => lhs; whnf) (by conv => lhs; whnf) ty30 ty34 g30 (by exact own_lt hx31)) (by decide) ?_
              refine aoP (some 45) rfl rfl (does_fieldAddr (q := .eptr 7 0 4 (Int.toNat v9_3) 1) (by conv => lhs; whnf) ty34 rfl ty9 (by decide) (by exact rfl)) (by decide) ?_
              refine aoR (some 46) rfl rfl (does_load (v := .str x31.Op) (by conv => lhs; whnf) (cellsAt_eptr (by conv => lhs; whnf) (by exact map_get hx31)) ty9 (by exact rfl)) (by decide) ?_
              refine aoP (some 47) rfl rfl (does_move (v := .sl 14 (List.map enc27 a0)) (by exact rfl)) (by decide) ?_
              refine aoP (some 48) rfl rfl (does_move (v := .int .i64 v8_1) (by exact rfl)) (by decide) ?_
              obtain ⟨g32, h⟩ := gd_some h
              obtain ⟨x33, hx33, h⟩ := bnd_some h
              refine aoP (some 49) rfl rfl (does_indexAddr_sl (el := .agg [.int .i64 x33.Level, .int .i64 x33.Window, .str x33.Service, .str x33.Op, .int .i64 x33.Counter.Count, .int .i64 x33.Counter.Errs, .int .i64 x33.Counter.By.c0, .int .i64 x33.Counter.By.c1, .int .i64 x33.Counter.By.c2, .int .i64 x33.Counter.By.c3, .int .i64 x33.Counter.By.c4, .int .i64 x33.Counter.By.c5, .int .i64 x33.Counter.By.c6, .int .i64 x33.Counter.By.c7]) (by conv => lhs; whnf) (by conv => lhs; whnf) ty22 ty28 g32 (by exact map_get hx33)) (by decide) ?_
              refine aoP (some 50) rfl rfl (does_fieldAddr (q := .rptr [.str x33.Op, .int .i64 x33.Counter.Count, .int .i64 x33.Counter.Errs, .int .i64 x33.Counter.By.c0, .int .i64 x33.Counter.By.c1, .int .i64 x33.Counter.By.c2, .int .i64 x33.Counter.By.c3, .int .i64 x33.Counter.By.c4, .int .i64 x33.Counter.By.c5, .int .i64 x33.Counter.By.c6, .int .i64 x33.Counter.By.c7]) (by conv => lhs; whnf) ty28 rfl ty9 (by decide) (by exact rfl)) (by decide) ?_
              refine aoR (some 51) rfl rfl (does_load (v := .str x33.Op) (by conv => lhs; whnf) (by conv => lhs; whnf) ty9 (by exact rfl)) (by decide) ?_
              refine aoP (some 52) rfl rfl (does_bin (v := .bool (!(ByteArray.toList x31.Op == ByteArray.toList x33.Op))) (by conv => lhs; whnf) (by conv => lhs; whnf) rfl) (by decide) ?_
              refine aoP (some 53) rfl rfl (does_pick (v := .bool (!(ByteArray.toList x31.Op == ByteArray.toList x33.Op))) (by conv => lhs; whnf) (by exact rfl)) (by decide) ?_
              refine aoP (some 54) rfl rfl (does_pick (v := .bool (!(ByteArray.toList x31.Op == ByteArray.toList x33.Op))) (by conv => lhs; whnf) (by exact rfl)) (by decide) ?_
              refine ao_nil_d (by kernel_rfl) ?_
              refine hK23 _ ?_
              refine aw_bool (b := (!(ByteArray.toList x31.Op == ByteArray.toList x33.Op))) 54 rfl (fun c34 => ?_) (fun c34 => ?_)
              · have h := ifT c34 h
                refine aw_cond_t (by decide) rfl ?_
                refine aw_skip ?_
                refine hK22 _ ?_
                refine aw_block ?_
                refine aw_regL ?_
                refine alP (some 55) rfl rfl (does_move (v := .int .i64 v9_3) (by exact rfl)) (by decide) ?_
                refine alP (some 56) rfl rfl (does_bin (v := .int .i64 (IntKind.i64.wrap (v9_3 + 1))) (by conv => lhs; whnf) (by conv => lhs; whnf) rfl) (by decide) ?_
                refine alP (some 9) rfl rfl (does_assign (v := .int .i64 (IntKind.i64.wrap (v9_3 + 1))) (by exact rfl)) (by decide) ?_
                refine al_nil ?_
                have h := leafL h hq21
                exact ⟨m3, Nat.lt_succ_self _, _, reb_lit [(0, .sl 14 (List.map enc27 a0)), (1, .int .i64 a1), (2, .int .i64 a2), (7, .own 7 0), (8, .int .i64 v8_1), (9, .int .i64 (IntKind.i64.wrap (v9_3 + 1)))] [(7, 0)] [((7, 0), .arr 34 4 false (List.map enc33 v7_s_1))] [(7, 1)] (envOk_cons (by conv => lhs; whnf) (by exact rfl) (envOk_cons (by conv => lhs; whnf) (by exact rfl) (envOk_cons (by conv => lhs; whnf) (by exact rfl) (envOk_cons (by conv => lhs; whnf) (by exact rfl) (envOk_cons (by conv => lhs; whnf) (by exact rfl) (envOk_cons (by conv => lhs; whnf) (by exact rfl) envOk_nil)))))) (objOk_cons (by conv => lhs; whnf) (by conv => lhs; whnf) (by exact rfl) (by simp) objOk_nil) (nodup_b rfl) (nodup_b rfl) rfl rfl, (IntKind.i64.wrap (v9_3 + 1)), h, rfl⟩
              · have h := ifF c34 h
                refine aw_cond_f (by decide) rfl ?_
                refine aw_exit ?_
                have h := leafR h hq21
                obtain rfl := Option.some.inj h
                have h := hk19
                exact ⟨_, reb_lit [(0, .sl 14 (List.map enc27 a0)), (1, .int .i64 a1), (2, .int .i64 a2), (7, .own 7 0), (8, .int .i64 v8_1), (9, .int .i64 v9_3)] [(7, 0)] [((7, 0), .arr 34 4 false (List.map enc33 v7_s_1))] [(7, 1)] (envOk_cons (by conv => lhs; whnf) (by exact rfl) (envOk_cons (by conv => lhs; whnf) (by exact rfl) (envOk_cons (by conv => lhs; whnf) (by exact rfl) (envOk_cons (by conv => lhs; whnf) (by exact rfl) (envOk_cons (by conv => lhs; whnf) (by exact rfl) (envOk_cons (by conv => lhs; whnf) (by exact rfl) envOk_nil)))))) (objOk_cons (by conv => lhs; whnf) (by conv => lhs; whnf) (by exact rfl) (by simp) objOk_nil) (nodup_b rfl) (nodup_b rfl) rfl rfl, v9_3, h, rfl⟩
          · have h := ifF c24 h
            refine aoS (some 30) rfl rfl (by decide) ?_
            refine aoS (some 31) rfl rfl (by decide) ?_
            refine aoS (some 32) rfl rfl (by decide) ?_
            refine aoS (some 33) rfl rfl (by decide) ?_
            refine aoS (some 34) rfl rfl (by decide) ?_
            refine aoS (some 35) rfl rfl (by decide) ?_
            refine aoS (some 36) rfl rfl (by decide) ?_
            refine aoS (some 37) rfl rfl (by decide) ?_
            refine aoS (some 38) rfl rfl (by decide) ?_
            refine aoS (some 39) rfl rfl (by decide) ?_
            refine aoS (some 40) rfl rfl (by decide) ?_
            refine aoS (some 41) rfl rfl (by decide) ?_
            refine aoS (some 42) rfl rfl (by decide) ?_
            refine aoS (some 43) rfl rfl (by decide) ?_
            refine aoS (some 44) rfl rfl (by decide) ?_
            refine aoS (some 45) rfl rfl (by decide) ?_
            refine aoS (some 46) rfl rfl (by decide) ?_
            refine aoS (some 47) rfl rfl (by decide) ?_
            refine aoS (some 48) rfl rfl (by decide) ?_
            refine aoS (some 49) rfl rfl (by decide) ?_
            refine aoS (some 50) rfl rfl (by decide) ?_
            refine aoS (some 51) rfl rfl (by decide) ?_
            refine aoS (some 52) rfl rfl (by decide) ?_
            refine aoS (some 53) rfl rfl (by decide) ?_
            refine aoP (some 54) rfl rfl (does_pick (v := .bool false) (by conv => lhs; whnf) (by exact rfl)) (by decide) ?_
            refine ao_nil_d (by kernel_rfl) ?_
            refine hK23 _ ?_
            refine aw_cond_f (by decide) rfl ?_
            refine aw_exit ?_
            have h := leafR h hq21
            obtain rfl := Option.some.inj h
            have h := hk19
            exact ⟨_, reb_lit [(0, .sl 14 (List.map enc27 a0)), (1, .int .i64 a1), (2, .int .i64 a2), (7, .own 7 0), (8, .int .i64 v8_1), (9, .int .i64 v9_3)] [(7, 0)] [((7, 0), .arr 34 4 false (List.map enc33 v7_s_1))] [(7, 1)] (envOk_cons (by conv => lhs; whnf) (by exact rfl) (envOk_cons (by conv => lhs; whnf) (by exact rfl) (envOk_cons (by conv => lhs; whnf) (by exact rfl) (envOk_cons (by conv => lhs; whnf) (by exact rfl) (envOk_cons (by conv => lhs; whnf) (by exact rfl) (envOk_cons (by conv => lhs; whnf) (by exact rfl) envOk_nil)))))) (objOk_cons (by conv => lhs; whnf) (by conv => lhs; whnf) (by exact rfl) (by simp) objOk_nil) (nodup_b rfl) (nodup_b rfl) rfl rfl, v9_3, h, rfl⟩
        · rintro s ⟨v9_2, h, rfl⟩
          unfold gleaningref28_Busy_k2 at h
          obtain ⟨q35, h, hk36⟩ := bnd_some h
          refine aw_cut (fun s => ∃ (v7_s_4 : List Busy), gleaningref28_Busy_k4 a0 v8_1 v9_2 v7_s_4 = some q6 ∧ s = lit [(0, .sl 14 (List.map enc27 a0)), (1, .int .i64 a1), (2, .int .i64 a2), (7, .own 74 0), (8, .int .i64 v8_1), (9, .int .i64 v9_2)] [((74, 0), .arr 34 4 false (List.map enc33 v7_s_4))] [(74, 1)] X) ?_ ?_
          · skip
            refine aw_seq_k (fun K37 hK37 => ?_)
            refine aw_regL ?_
            refine alP (some 57) rfl rfl (does_move (v := .int .i64 v9_2) (by exact rfl)) (by decide) ?_
            refine alP (some 58) rfl rfl (does_move (v := .own 7 0) (by exact rfl)) (by decide) ?_
            refine alR (some 59) rfl rfl ((does_len_own (by conv => lhs; whnf) (by conv => lhs; whnf) ty30).cast (v' := .int .i64 (List.length v7_s_1 : Int)) (by exact len_map _)) (by decide) ?_
            refine alP (some 60) rfl rfl (does_bin (v := .bool (v9_2 == (List.length v7_s_1 : Int))) (by conv => lhs; whnf) (by conv => lhs; whnf) rfl) (by decide) ?_
            refine al_nil ?_
            refine hK37 _ ?_
            refine aw_bool (b := (v9_2 == (List.length v7_s_1 : Int))) 60 rfl (fun c38 => ?_) (fun c38 => ?_)
            · have h := ifT c38 h
              refine aw_cond_t (by decide) rfl ?_
              refine aw_regd (by kernel_rfl) (by decide +kernel) ?_
              refine aoP (some 61) rfl rfl (does_move (v := .own 7 0) (by exact rfl)) (by decide) ?_
              refine aoP (some 62) rfl rfl (does_move (v := .sl 14 (List.map enc27 a0)) (by exact rfl)) (by decide) ?_
              refine aoP (some 63) rfl rfl (does_move (v := .int .i64 v8_1) (by exact rfl)) (by decide) ?_
              obtain ⟨g39, h⟩ := gd_some h
              obtain ⟨x40, hx40, h⟩ := bnd_some h
              refine aoP (some 64) rfl rfl (does_indexAddr_sl (el := .agg [.int .i64 x40.Level, .int .i64 x40.Window, .str x40.Service, .str x40.Op, .int .i64 x40.Counter.Count, .int .i64 x40.Counter.Errs, .int .i64 x40.Counter.By.c0, .int .i64 x40.Counter.By.c1, .int .i64 x40.Counter.By.c2, .int .i64 x40.Counter.By.c3, .int .i64 x40.Counter.By.c4, .int .i64 x40.Counter.By.c5, .int .i64 x40.Counter.By.c6, .int .i64 x40.Counter.By.c7]) (by conv => lhs; whnf) (by conv => lhs; whnf) ty22 ty28 g39 (by exact map_get hx40)) (by decide) ?_
              refine aoP (some 65) rfl rfl (does_fieldAddr (q := .rptr [.str x40.Service, .str x40.Op, .int .i64 x40.Counter.Count, .int .i64 x40.Counter.Errs, .int .i64 x40.Counter.By.c0, .int .i64 x40.Counter.By.c1, .int .i64 x40.Counter.By.c2, .int .i64 x40.Counter.By.c3, .int .i64 x40.Counter.By.c4, .int .i64 x40.Counter.By.c5, .int .i64 x40.Counter.By.c6, .int .i64 x40.Counter.By.c7]) (by conv => lhs; whnf) ty28 rfl ty9 (by decide) (by exact rfl)) (by decide) ?_
              refine aoR (some 66) rfl rfl (does_load (v := .str x40.Service) (by conv => lhs; whnf) (by conv => lhs; whnf) ty9 (by exact rfl)) (by decide) ?_
              refine aoP (some 67) rfl rfl (does_move (v := .sl 14 (List.map enc27 a0)) (by exact rfl)) (by decide) ?_
              refine aoP (some 68) rfl rfl (does_move (v := .int .i64 v8_1) (by exact rfl)) (by decide) ?_
              obtain ⟨g41, h⟩ := gd_some h
              obtain ⟨x42, hx42, h⟩ := bnd_some h
              refine aoP (some 69) rfl rfl (does_indexAddr_sl (el := .agg [.int .i64 x42.Level, .int .i64 x42.Window, .str x42.Service, .str x42.Op, .int .i64 x42.Counter.Count, .int .i64 x42.Counter.Errs, .int .i64 x42.Counter.By.c0, .int .i64 x42.Counter.By.c1, .int .i64 x42.Counter.By.c2, .int .i64 x42.Counter.By.c3, .int .i64 x42.Counter.By.c4, .int .i64 x42.Counter.By.c5, .int .i64 x42.Counter.By.c6, .int .i64 x42.Counter.By.c7]) (by conv => lhs; whnf) (by conv => lhs; whnf) ty22 ty28 g41 (by exact map_get hx42)) (by decide) ?_
              refine aoP (some 70) rfl rfl (does_fieldAddr (q := .rptr [.str x42.Op, .int .i64 x42.Counter.Count, .int .i64 x42.Counter.Errs, .int .i64 x42.Counter.By.c0, .int .i64 x42.Counter.By.c1, .int .i64 x42.Counter.By.c2, .int .i64 x42.Counter.By.c3, .int .i64 x42.Counter.By.c4, .int .i64 x42.Counter.By.c5, .int .i64 x42.Counter.By.c6, .int .i64 x42.Counter.By.c7]) (by conv => lhs; whnf) ty28 rfl ty9 (by decide) (by exact rfl)) (by decide) ?_
              refine aoR (some 71) rfl rfl (does_load (v := .str x42.Op) (by conv => lhs; whnf) (by conv => lhs; whnf) ty9 (by exact rfl)) (by decide) ?_
              refine aoP (some 72) rfl rfl (do_build_struct (cs := [.str x40.Service, .str x42.Op, .int .i64 0, .int .i64 0]) ty34 rfl [⟨.str, 1, 16, [.str ByteArray.empty]⟩, ⟨.str, 1, 16, [.str ByteArray.empty]⟩, ⟨.int .i64, 1, 8, [.int .i64 0]⟩, ⟨.int .i64, 1, 8, [.int .i64 0]⟩] (by simp only [List.map, ty3, ty9]) (by rfl) (by exact rfl)) (by decide) ?_
              refine aoD (some 73) rfl rfl (do_buildSlice (xs := List.map enc33 [(Busy.mk x40.Service x42.Op 0 0)]) ty30 ty34 rfl rfl rfl rfl rfl rfl rfl rfl) (by decide) ?_
              obtain ⟨g43, h⟩ := gd_some h
              refine aoD (some 74) rfl rfl (do_append (v := List.map enc33 (v7_s_1 ++ [(Busy.mk x40.Service x42.Op 0 0)])) (by conv => lhs; whnf) (by conv => lhs; whnf) ty30 ty34 rfl rfl (by conv => lhs; whnf) (by first | exact .inl rfl | exact .inr ⟨rfl, rfl⟩) (by conv => lhs; whnf) (by first | exact .inr rfl | exact .inl rfl) (map_app _ _) (fit_map g43)) (by decide) ?_
              refine aoP (some 7) rfl rfl (does_assign (v := .own 74 0) (by exact rfl)) (by decide) ?_
              refine ao_nil_d (by kernel_rfl) ?_
              obtain rfl := Option.some.inj h
              have h := hk36
              exact ⟨_, reb_lit [(0, .sl 14 (List.map enc27 a0)), (1, .int .i64 a1), (2, .int .i64 a2), (7, .own 74 0), (8, .int .i64 v8_1), (9, .int .i64 v9_2)] [(74, 0)] [((74, 0), .arr 34 4 false (List.map enc33 (v7_s_1 ++ [(Busy.mk x40.Service x42.Op 0 0)])))] [(74, 1)] (envOk_cons (by conv => lhs; whnf) (by exact rfl) (envOk_cons (by conv => lhs; whnf) (by exact rfl) (envOk_cons (by conv => lhs; whnf) (by exact rfl) (envOk_cons (by conv => lhs; whnf) (by exact rfl) (envOk_cons (by conv => lhs; whnf) (by exact rfl) (envOk_cons (by conv => lhs; whnf) (by exact rfl) envOk_nil)))))) (objOk_cons (by conv => lhs; whnf) (by conv => lhs; whnf) (by exact rfl) (by simp) objOk_nil) (nodup_b rfl) (nodup_b rfl) rfl rfl, (v7_s_1 ++ [(Busy.mk x40.Service x42.Op 0 0)]), h, rfl⟩
            · have h := ifF c38 h
              refine aw_cond_f (by decide) rfl ?_
              refine aw_skip ?_
              obtain rfl := Option.some.inj h
              have h := hk36
              exact ⟨_, reb_lit [(0, .sl 14 (List.map enc27 a0)), (1, .int .i64 a1), (2, .int .i64 a2), (7, .own 74 0), (8, .int .i64 v8_1), (9, .int .i64 v9_2)] [(7, 0)] [((74, 0), .arr 34 4 false (List.map enc33 v7_s_1))] [(74, 1)] (envOk_cons (by conv => lhs; whnf) (by exact rfl) (envOk_cons (by conv => lhs; whnf) (by exact rfl) (envOk_cons (by conv => lhs; whnf) (by exact rfl) (envOk_cons (by conv => lhs; whnf) (by exact rfl) (envOk_cons (by conv => lhs; whnf) (by exact rfl) (envOk_cons (by conv => lhs; whnf) (by exact rfl) envOk_nil)))))) (objOk_cons (by conv => lhs; whnf) (by conv => lhs; whnf) (by exact rfl) (by simp) objOk_nil) (nodup_b rfl) (nodup_b rfl) rfl rfl, v7_s_1, h, rfl⟩
          · rintro s ⟨v7_s_4, h, rfl⟩
            unfold gleaningref28_Busy_k4 at h
            refine aw_seq_k (fun K44 hK44 => ?_)
            refine aw_regd (by kernel_rfl) (by decide +kernel) ?_
            refine aoP (some 75) rfl rfl (does_move (v := .own 74 0) (by exact rfl)) (by decide) ?_
            refine aoP (some 76) rfl rfl (does_move (v := .int .i64 v9_2) (by exact rfl)) (by decide) ?_
            refine aoP (some 77) rfl rfl (does_move (v := .own 74 0) (by exact rfl)) (by decide) ?_
            refine aoP (some 78) rfl rfl (does_move (v := .int .i64 v9_2) (by exact rfl)) (by decide) ?_
            obtain ⟨g45, h⟩ := gd_some h
            obtain ⟨x46, hx46, h⟩ := bnd_some h
            refine aoR (some 79) rfl rfl (does_indexAddr_own (by conv => lhs; whnf) (by conv => lhs; whnf) (by conv => lhs; whnf) ty30 ty34 g45 (by exact own_lt hx46)) (by decide) ?_
            refine aoP (some 80) rfl rfl (does_fieldAddr (q := .eptr 74 0 4 (Int.toNat v9_2) 2) (by conv => lhs; whnf) ty34 rfl ty3 (by decide) (by exact rfl)) (by decide) ?_
            refine aoR (some 81) rfl rfl (does_load (v := .int .i64 x46.Count) (by conv => lhs; whnf) (cellsAt_eptr (by conv => lhs; whnf) (by exact map_get hx46)) ty3 (by exact rfl)) (by decide) ?_
            refine aoP (some 82) rfl rfl (does_move (v := .sl 14 (List.map enc27 a0)) (by exact rfl)) (by decide) ?_
            refine aoP (some 83) rfl rfl (does_move (v := .int .i64 v8_1) (by exact rfl)) (by decide) ?_
            obtain ⟨g47, h⟩ := gd_some h
            obtain ⟨x48, hx48, h⟩ := bnd_some h
            refine aoP (some 84) rfl rfl (does_indexAddr_sl (el := .agg [.int .i64 x48.Level, .int .i64 x48.Window, .str x48.Service, .str x48.Op, .int .i64 x48.Counter.Count, .int .i64 x48.Counter.Errs, .int .i64 x48.Counter.By.c0, .int .i64 x48.Counter.By.c1, .int .i64 x48.Counter.By.c2, .int .i64 x48.Counter.By.c3, .int .i64 x48.Counter.By.c4, .int .i64 x48.Counter.By.c5, .int .i64 x48.Counter.By.c6, .int .i64 x48.Counter.By.c7]) (by conv => lhs; whnf) (by conv => lhs; whnf) ty22 ty28 g47 (by exact map_get hx48)) (by decide) ?_
            refine aoP (some 85) rfl rfl (does_fieldAddr (q := .rptr [.int .i64 x48.Counter.Count, .int .i64 x48.Counter.Errs, .int .i64 x48.Counter.By.c0, .int .i64 x48.Counter.By.c1, .int .i64 x48.Counter.By.c2, .int .i64 x48.Counter.By.c3, .int .i64 x48.Counter.By.c4, .int .i64 x48.Counter.By.c5, .int .i64 x48.Counter.By.c6, .int .i64 x48.Counter.By.c7]) (by conv => lhs; whnf) ty28 rfl ty26 (by decide) (by exact rfl)) (by decide) ?_
            refine aoP (some 86) rfl rfl (does_fieldAddr (q := .rptr [.int .i64 x48.Counter.Count, .int .i64 x48.Counter.Errs, .int .i64 x48.Counter.By.c0, .int .i64 x48.Counter.By.c1, .int .i64 x48.Counter.By.c2, .int .i64 x48.Counter.By.c3, .int .i64 x48.Counter.By.c4, .int .i64 x48.Counter.By.c5, .int .i64 x48.Counter.By.c6, .int .i64 x48.Counter.By.c7]) (by conv => lhs; whnf) ty26 rfl ty3 (by decide) (by exact rfl)) (by decide) ?_
            refine aoR (some 87) rfl rfl (does_load (v := .int .i64 x48.Counter.Count) (by conv => lhs; whnf) (by conv => lhs; whnf) ty3 (by exact rfl)) (by decide) ?_
            obtain ⟨x49, hx49, h⟩ := bnd_some h
            refine aoD (some 88) rfl rfl (do_call0 88 false (gleaningref28_plus_ok x46.Count x48.Counter.Count hx49) rfl ent17 rfl rfl) (by decide) ?_
            obtain ⟨g50, h⟩ := gd_some h
            obtain ⟨x51, hx51, h⟩ := bnd_some h
            refine aoR (some 89) rfl rfl (does_indexAddr_own (by conv => lhs; whnf) (by conv => lhs; whnf) (by conv => lhs; whnf) ty30 ty34 g50 (by exact own_lt hx51)) (by decide) ?_
            refine aoP (some 90) rfl rfl (does_fieldAddr (q := .eptr 74 0 4 (Int.toNat v9_2) 2) (by conv => lhs; whnf) ty34 rfl ty3 (by decide) (by exact rfl)) (by decide) ?_
            refine aoD none rfl rfl (does_storeE (old := .agg [.str x51.Service, .str x51.Op, .int .i64 x51.Count, .int .i64 x51.Errs]) (el := .agg [.str x51.Service, .str x51.Op, .int .i64 x49, .int .i64 x51.Errs]) (xs' := List.map enc33 (List.set v7_s_4 (Int.toNat v9_2) (Busy.mk x51.Service x51.Op x49 x51.Errs))) (by conv => lhs; whnf) (by conv => lhs; whnf) (by conv => lhs; whnf) ty3 (by rfl) (by rfl) (by exact map_get hx51) (by rfl) (by exact rfl) (by exact map_set' _ _ (Busy.mk x51.Service x51.Op x49 x51.Errs)) (by rfl)) (by decide) ?_
            refine ao_nil_d (by kernel_rfl) ?_
            refine hK44 _ ?_
            refine aw_regd (by kernel_rfl) (by decide +kernel) ?_
            refine aoP (some 91) rfl rfl (does_move (v := .own 74 0) (by exact rfl)) (by decide) ?_
            refine aoP (some 92) rfl rfl (does_move (v := .int .i64 v9_2) (by exact rfl)) (by decide) ?_
            refine aoP (some 93) rfl rfl (does_move (v := .own 74 0) (by exact rfl)) (by decide) ?_
            refine aoP (some 94) rfl rfl (does_move (v := .int .i64 v9_2) (by exact rfl)) (by decide) ?_
            obtain ⟨g52, h⟩ := gd_some h
            obtain ⟨x53, hx53, h⟩ := bnd_some h
            refine aoR (some 95) rfl rfl (does_indexAddr_own (by conv => lhs; whnf) (by conv => lhs; whnf) (by conv => lhs; whnf) ty30 ty34 g52 (by exact own_lt hx53)) (by decide) ?_
            refine aoP (some 96) rfl rfl (does_fieldAddr (q := .eptr 74 0 4 (Int.toNat v9_2) 3) (by conv => lhs; whnf) ty34 rfl ty3 (by decide) (by exact rfl)) (by decide) ?_
            refine aoR (some 97) rfl rfl (does_load (v := .int .i64 x53.Errs) (by conv => lhs; whnf) (cellsAt_eptr (by conv => lhs; whnf) (by exact map_get hx53)) ty3 (by exact rfl)) (by decide) ?_
            refine aoP (some 98) rfl rfl (does_move (v := .sl 14 (List.map enc27 a0)) (by exact rfl)) (by decide) ?_
            refine aoP (some 99) rfl rfl (does_move (v := .int .i64 v8_1) (by exact rfl)) (by decide) ?_
            obtain ⟨g54, h⟩ := gd_some h
            obtain ⟨x55, hx55, h⟩ := bnd_some h
            refine aoP (some 100) rfl rfl (does_indexAddr_sl (el := .agg [.int .i64 x55.Level, .int .i64 x55.Window, .str x55.Service, .str x55.Op, .int .i64 x55.Counter.Count, .int .i64 x55.Counter.Errs, .int .i64 x55.Counter.By.c0, .int .i64 x55.Counter.By.c1, .int .i64 x55.Counter.By.c2, .int .i64 x55.Counter.By.c3, .int .i64 x55.Counter.By.c4, .int .i64 x55.Counter.By.c5, .int .i64 x55.Counter.By.c6, .int .i64 x55.Counter.By.c7]) (by conv => lhs; whnf) (by conv => lhs; whnf) ty22 ty28 g54 (by exact map_get hx55)) (by decide) ?_
            refine aoP (some 101) rfl rfl (does_fieldAddr (q := .rptr [.int .i64 x55.Counter.Count, .int .i64 x55.Counter.Errs, .int .i64 x55.Counter.By.c0, .int .i64 x55.Counter.By.c1, .int .i64 x55.Counter.By.c2, .int .i64 x55.Counter.By.c3, .int .i64 x55.Counter.By.c4, .int .i64 x55.Counter.By.c5, .int .i64 x55.Counter.By.c6, .int .i64 x55.Counter.By.c7]) (by conv => lhs; whnf) ty28 rfl ty26 (by decide) (by exact rfl)) (by decide) ?_
            refine aoP (some 102) rfl rfl (does_fieldAddr (q := .rptr [.int .i64 x55.Counter.Errs, .int .i64 x55.Counter.By.c0, .int .i64 x55.Counter.By.c1, .int .i64 x55.Counter.By.c2, .int .i64 x55.Counter.By.c3, .int .i64 x55.Counter.By.c4, .int .i64 x55.Counter.By.c5, .int .i64 x55.Counter.By.c6, .int .i64 x55.Counter.By.c7]) (by conv => lhs; whnf) ty26 rfl ty3 (by decide) (by exact rfl)) (by decide) ?_
            refine aoR (some 103) rfl rfl (does_load (v := .int .i64 x55.Counter.Errs) (by conv => lhs; whnf) (by conv => lhs; whnf) ty3 (by exact rfl)) (by decide) ?_
            obtain ⟨x56, hx56, h⟩ := bnd_some h
            refine aoD (some 104) rfl rfl (do_call0 104 false (gleaningref28_plus_ok x53.Errs x55.Counter.Errs hx56) rfl ent17 rfl rfl) (by decide) ?_
            obtain ⟨g57, h⟩ := gd_some h
            obtain ⟨x58, hx58, h⟩ := bnd_some h
            refine aoR (some 105) rfl rfl (does_indexAddr_own (by conv => lhs; whnf) (by conv => lhs; whnf) (by conv => lhs; whnf) ty30 ty34 g57 (by exact own_lt hx58)) (by decide) ?_
            refine aoP (some 106) rfl rfl (does_fieldAddr (q := .eptr 74 0 4 (Int.toNat v9_2) 3) (by conv => lhs; whnf) ty34 rfl ty3 (by decide) (by exact rfl)) (by decide) ?_
            refine aoD none rfl rfl (does_storeE (old := .agg [.str x58.Service, .str x58.Op, .int .i64 x58.Count, .int .i64 x58.Errs]) (el := .agg [.str x58.Service, .str x58.Op, .int .i64 x58.Count, .int .i64 x56]) (xs' := List.map enc33 (List.set (List.set v7_s_4 (Int.toNat v9_2) (Busy.mk x51.Service x51.Op x49 x51.Errs)) (Int.toNat v9_2) (Busy.mk x58.Service x58.Op x58.Count x56))) (by conv => lhs; whnf) (by conv => lhs; whnf) (by conv => lhs; whnf) ty3 (by rfl) (by rfl) (by exact map_get hx58) (by rfl) (by exact rfl) (by exact map_set' _ _ (Busy.mk x58.Service x58.Op x58.Count x56)) (by rfl)) (by decide) ?_
            refine ao_nil_d (by kernel_rfl) ?_
            refine hK11 _ ?_
            refine aw_regL ?_
            refine alP (some 16) rfl rfl (does_move (v := .int .i64 v8_1) (by exact rfl)) (by decide) ?_
            refine alP (some 17) rfl rfl (does_bin (v := .int .i64 (IntKind.i64.wrap (v8_1 + 1))) (by conv => lhs; whnf) (by conv => lhs; whnf) rfl) (by decide) ?_
            refine alP (some 8) rfl rfl (does_assign (v := .int .i64 (IntKind.i64.wrap (v8_1 + 1))) (by exact rfl)) (by decide) ?_
            refine al_nil ?_
            have h := leafL h hq7
            exact ⟨m1, Nat.lt_succ_self _, _, reb_lit [(0, .sl 14 (List.map enc27 a0)), (1, .int .i64 a1), (2, .int .i64 a2), (7, .own 7 0), (8, .int .i64 (IntKind.i64.wrap (v8_1 + 1)))] [(74, 0)] [((7, 0), .arr 34 4 false (List.map enc33 (List.set (List.set v7_s_4 (Int.toNat v9_2) (Busy.mk x51.Service x51.Op x49 x51.Errs)) (Int.toNat v9_2) (Busy.mk x58.Service x58.Op x58.Count x56))))] [(7, 1)] (envOk_cons (by conv => lhs; whnf) (by exact rfl) (envOk_cons (by conv => lhs; whnf) (by exact rfl) (envOk_cons (by conv => lhs; whnf) (by exact rfl) (envOk_cons (by conv => lhs; whnf) (by exact rfl) (envOk_cons (by conv => lhs; whnf) (by exact rfl) envOk_nil))))) (objOk_cons (by conv => lhs; whnf) (by conv => lhs; whnf) (by exact rfl) (by simp) objOk_nil) (nodup_b rfl) (nodup_b rfl) rfl rfl, (List.set (List.set v7_s_4 (Int.toNat v9_2) (Busy.mk x51.Service x51.Op x49 x51.Errs)) (Int.toNat v9_2) (Busy.mk x58.Service x58.Op x58.Count x56)), (IntKind.i64.wrap (v8_1 + 1)), h, rfl⟩
    · have h := ifF c10 h
      refine aw_cond_f (by decide) rfl ?_
      refine aw_exit ?_
      have h := leafR h hq7
      obtain rfl := Option.some.inj h
      have h := hk4
      exact ⟨_, reb_lit [(2, .int .i64 a2), (7, .own 7 0)] [(7, 0)] [((7, 0), .arr 34 4 false (List.map enc33 v7_s_1))] [(7, 1)] (envOk_cons (by conv => lhs; whnf) (by exact rfl) (envOk_cons (by conv => lhs; whnf) (by exact rfl) envOk_nil)) (objOk_cons (by conv => lhs; whnf) (by conv => lhs; whnf) (by exact rfl) (by simp) objOk_nil) (nodup_b rfl) (nodup_b rfl) rfl rfl, v7_s_1, h, rfl⟩
  · rintro s ⟨v7_s_0, h, rfl⟩
    unfold gleaningref28_Busy_k0 at h
    obtain ⟨q59, h, hk60⟩ := bnd_some h
    refine aw_cut (fun s => ∃ (v7_s_5 : List Busy), gleaningref28_Busy_k5 a2 v7_s_5 = some r ∧ s = lit [(2, .int .i64 a2), (7, .own 7 0)] [((7, 0), .arr 34 4 false (List.map enc33 v7_s_5))] [(7, 1)] X) ?_ ?_
    · skip
      refine aw_seq_k (fun K61 hK61 => ?_)
      refine aw_regL ?_
      refine alP (some 10) rfl rfl (does_assign (v := .int .i64 0) (by exact rfl)) (by decide) ?_
      refine al_nil ?_
      refine hK61 _ ?_
      refine aw_block ?_
      refine aw_loop' (fun m s => ∃ (v7_s_6 : List Busy), ∃ (v10_6 : Int), loopN (fun (s : List Busy × Int) => gleaningref28_Busy_l6 s.1 s.2) m (v7_s_6, v10_6) = some q59 ∧ s = lit [(2, .int .i64 a2), (7, .own 7 0), (10, .int .i64 v10_6)] [((7, 0), .arr 34 4 false (List.map enc33 v7_s_6))] [(7, 1)] X) Fu
        ⟨_, reb_lit [(2, .int .i64 a2), (7, .own 7 0), (10, .int .i64 (0))] [(7, 0)] [((7, 0), .arr 34 4 false (List.map enc33 v7_s_0))] [(7, 1)] (envOk_cons (by conv => lhs; whnf) (by exact rfl) (envOk_cons (by conv => lhs; whnf) (by exact rfl) (envOk_cons (by conv => lhs; whnf) (by exact rfl) envOk_nil))) (objOk_cons (by conv => lhs; whnf) (by conv => lhs; whnf) (by exact rfl) (by simp) objOk_nil) (nodup_b rfl) (nodup_b rfl) rfl rfl, v7_s_0, 0, h, rfl⟩ ?_
      rintro m s ⟨v7_s_6, v10_6, h, rfl⟩
      obtain ⟨m6, q62, rfl, h, hq63⟩ := loop_some h
      replace h : gleaningref28_Busy_l6 v7_s_6 v10_6 = some q62 := h
      unfold gleaningref28_Busy_l6 at h
      refine aw_seq_k (fun K64 hK64 => ?_)
      refine aw_seq_k (fun K65 hK65 => ?_)
      refine aw_regL ?_
      refine alP (some 107) rfl rfl (does_move (v := .int .i64 v10_6) (by exact rfl)) (by decide) ?_
      refine alP (some 108) rfl rfl (does_move (v := .own 7 0) (by exact rfl)) (by decide) ?_
      refine alR (some 109) rfl rfl ((does_len_own (by conv => lhs; whnf) (by conv => lhs; whnf) ty30).cast (v' := .int .i64 (List.length v7_s_6 : Int)) (by exact len_map _)) (by decide) ?_
      refine alP (some 110) rfl rfl (does_bin (v := .bool (decide (v10_6 < (List.length v7_s_6 : Int)))) (by conv => lhs; whnf) (by conv => lhs; whnf) rfl) (by decide) ?_
      refine al_nil ?_
      refine hK65 _ ?_
      refine aw_bool (b := (decide (v10_6 < (List.length v7_s_6 : Int)))) 110 rfl (fun c66 => ?_) (fun c66 => ?_)
      · have h := ifT c66 h
        refine aw_cond_t (by decide) rfl ?_
        refine aw_skip ?_
        refine hK64 _ ?_
        refine aw_seq_k (fun K67 hK67 => ?_)
        refine aw_block ?_
        refine aw_seq_k (fun K68 hK68 => ?_)
        refine aw_regL ?_
        refine alP (some 113) rfl rfl (does_move (v := .int .i64 v10_6) (by exact rfl)) (by decide) ?_
        refine alP (some 11) rfl rfl (does_assign (v := .int .i64 v10_6) (by exact rfl)) (by decide) ?_
        refine al_nil ?_
        refine hK68 _ ?_
        refine aw_block ?_
        refine aw_loop' (fun m s => ∃ (v7_s_7 : List Busy), ∃ (v11_7 : Int), loopN (fun (s : List Busy × Int) => gleaningref28_Busy_l7 v10_6 s.1 s.2) m (v7_s_7, v11_7) = some q62 ∧ s = lit [(2, .int .i64 a2), (7, .own 7 0), (10, .int .i64 v10_6), (11, .int .i64 v11_7)] [((7, 0), .arr 34 4 false (List.map enc33 v7_s_7))] [(7, 1)] X) Fu
          ⟨_, reb_lit [(2, .int .i64 a2), (7, .own 7 0), (10, .int .i64 v10_6), (11, .int .i64 v10_6)] [(7, 0)] [((7, 0), .arr 34 4 false (List.map enc33 v7_s_6))] [(7, 1)] (envOk_cons (by conv => lhs; whnf) (by exact rfl) (envOk_cons (by conv => lhs; whnf) (by exact rfl) (envOk_cons (by conv => lhs; whnf) (by exact rfl) (envOk_cons (by conv => lhs; whnf) (by exact rfl) envOk_nil)))) (objOk_cons (by conv => lhs; whnf) (by conv => lhs; whnf) (by exact rfl) (by simp) objOk_nil) (nodup_b rfl) (nodup_b rfl) rfl rfl, v7_s_6, v10_6, h, rfl⟩ ?_
        rintro m s ⟨v7_s_7, v11_7, h, rfl⟩
        obtain ⟨m7, q69, rfl, h, hq70⟩ := loop_some h
        replace h : gleaningref28_Busy_l7 v10_6 v7_s_7 v11_7 = some q69 := h
        unfold gleaningref28_Busy_l7 at h
        obtain ⟨q71, h, hk72⟩ := bnd_some h
        refine aw_cut (fun s => gleaningref28_Busy_k8 v7_s_7 v11_7 = some q69 ∧ s = lit [(2, .int .i64 a2), (7, .own 7 0), (10, .int .i64 v10_6), (11, .int .i64 v11_7)] [((7, 0), .arr 34 4 false (List.map enc33 v7_s_7))] [(7, 1)] X) ?_ ?_
        · skip
          refine aw_seq_k (fun K73 hK73 => ?_)
          refine aw_regd (by kernel_rfl) (by decide +kernel) ?_
          refine aoP (some 114) rfl rfl (does_move (v := .int .i64 v11_7) (by exact rfl)) (by decide) ?_
          refine aoP (some 115) rfl rfl (does_bin (v := .bool (decide ((0 : Int) < v11_7))) (by conv => lhs; whnf) (by conv => lhs; whnf) rfl) (by decide) ?_
          refine aoP (some 116) rfl rfl (does_move (v := .bool (decide ((0 : Int) < v11_7))) (by exact rfl)) (by decide) ?_
          refine ao_bool (c := (decide ((0 : Int) < v11_7))) 116 rfl (fun c74 => ?_) (fun c74 => ?_)
          · have h := ifT c74 h
            refine aoP (some 117) rfl rfl (does_move (v := .own 7 0) (by exact rfl)) (by decide) ?_
            refine aoP (some 118) rfl rfl (does_move (v := .int .i64 v11_7) (by exact rfl)) (by decide) ?_
            obtain ⟨g75, h⟩ := gd_some h
            obtain ⟨x76, hx76, h⟩ := bnd_some h
            refine aoR (some 119) rfl rfl (does_indexAddr_own (by conv => lhs; whnf) (by conv => lhs; whnf) (by conv => lhs; whnf) ty30 ty34 g75 (by exact own_lt hx76)) (by decide) ?_
            refine aoR (some 120) rfl rfl (does_load (v := .agg [.str x76.Service, .str x76.Op, .int .i64 x76.Count, .int .i64 x76.Errs]) (by conv => lhs; whnf) (cellsAt_eptr (by conv => lhs; whnf) (by exact map_get hx76)) ty34 (by exact rfl)) (by decide) ?_
            refine aoP (some 121) rfl rfl (does_move (v := .own 7 0) (by exact rfl)) (by decide) ?_
            refine aoP (some 122) rfl rfl (does_move (v := .int .i64 v11_7) (by exact rfl)) (by decide) ?_
            refine aoP (some 123) rfl rfl (does_bin (v := .int .i64 (IntKind.i64.wrap (v11_7 - 1))) (by conv => lhs; whnf) (by conv => lhs; whnf) rfl) (by decide) ?_
            obtain ⟨g77, h⟩ := gd_some h
            obtain ⟨x78, hx78, h⟩ := bnd_some h
            refine aoR (some 124) rfl rfl (does_indexAddr_own (by conv => lhs; whnf) (by conv => lhs; whnf) (by conv => lhs; whnf) ty30 ty34 g77 (by exact own_lt hx78)) (by decide) ?_
            refine aoR (some 125) rfl rfl (does_load (v := .agg [.str x78.Service, .str x78.Op, .int .i64 x78.Count, .int .i64 x78.Errs]) (by conv => lhs; whnf) (cellsAt_eptr (by conv => lhs; whnf) (by exact map_get hx78)) ty34 (by exact rfl)) (by decide) ?_
            obtain ⟨x79, hx79, h⟩ := bnd_some h
            refine aoD (some 126) rfl rfl (do_call0 126 false (gleaningref28_busier_ok x76 x78 hx79) rfl ent18 rfl rfl) (by decide) ?_
            refine aoP (some 127) rfl rfl (does_pick (v := .bool x79) (by conv => lhs; whnf) (by exact rfl)) (by decide) ?_
            refine ao_nil_d (by kernel_rfl) ?_
            refine hK73 _ ?_
            refine aw_bool (b := x79) 127 rfl (fun c80 => ?_) (fun c80 => ?_)
            · have h := ifT c80 h
              refine aw_cond_t (by decide) rfl ?_
              refine aw_skip ?_
              have h := leafL h hk72
              exact ⟨_, reb_lit [(2, .int .i64 a2), (7, .own 7 0), (10, .int .i64 v10_6), (11, .int .i64 v11_7)] [(7, 0)] [((7, 0), .arr 34 4 false (List.map enc33 v7_s_7))] [(7, 1)] (envOk_cons (by conv => lhs; whnf) (by exact rfl) (envOk_cons (by conv => lhs; whnf) (by exact rfl) (envOk_cons (by conv => lhs; whnf) (by exact rfl) (envOk_cons (by conv => lhs; whnf) (by exact rfl) envOk_nil)))) (objOk_cons (by conv => lhs; whnf) (by conv => lhs; whnf) (by exact rfl) (by simp) objOk_nil) (nodup_b rfl) (nodup_b rfl) rfl rfl, h, rfl⟩
            · have h := ifF c80 h
              refine aw_cond_f (by decide) rfl ?_
              refine aw_exit ?_
              have h := leafR h hk72
              have h := leafR h hq70
              refine hK67 _ ?_
              refine aw_regL ?_
              refine alP (some 111) rfl rfl (does_move (v := .int .i64 v10_6) (by exact rfl)) (by decide) ?_
              refine alP (some 112) rfl rfl (does_bin (v := .int .i64 (IntKind.i64.wrap (v10_6 + 1))) (by conv => lhs; whnf) (by conv => lhs; whnf) rfl) (by decide) ?_
              refine alP (some 10) rfl rfl (does_assign (v := .int .i64 (IntKind.i64.wrap (v10_6 + 1))) (by exact rfl)) (by decide) ?_
              refine al_nil ?_
              have h := leafL h hq63
              exact ⟨m6, Nat.lt_succ_self _, _, reb_lit [(2, .int .i64 a2), (7, .own 7 0), (10, .int .i64 (IntKind.i64.wrap (v10_6 + 1)))] [(7, 0)] [((7, 0), .arr 34 4 false (List.map enc33 v7_s_7))] [(7, 1)] (envOk_cons (by conv => lhs; whnf) (by exact rfl) (envOk_cons (by conv => lhs; whnf) (by exact rfl) (envOk_cons (by conv => lhs; whnf) (by exact rfl) envOk_nil))) (objOk_cons (by conv => lhs; whnf) (by conv => lhs; whnf) (by exact rfl) (by simp) objOk_nil) (nodup_b rfl) (nodup_b rfl) rfl rfl, v7_s_7, (IntKind.i64.wrap (v10_6 + 1)), h, rfl⟩
          · have h := ifF c74 h
            refine aoS (some 117) rfl rfl (by decide) ?_
            refine aoS (some 118) rfl rfl (by decide) ?_
            refine aoS (some 119) rfl rfl (by decide) ?_
            refine aoS (some 120) rfl rfl (by decide) ?_
            refine aoS (some 121) rfl rfl (by decide) ?_
            refine aoS (some 122) rfl rfl (by decide) ?_
            refine aoS (some 123) rfl rfl (by decide) ?_
            refine aoS (some 124) rfl rfl (by decide) ?_
            refine aoS (some 125) rfl rfl (by decide) ?_
            refine aoS (some 126) rfl rfl (by decide) ?_
            refine aoP (some 127) rfl rfl (does_pick (v := .bool false) (by conv => lhs; whnf) (by exact rfl)) (by decide) ?_
            refine ao_nil_d (by kernel_rfl) ?_
            refine hK73 _ ?_
            refine aw_cond_f (by decide) rfl ?_
            refine aw_exit ?_
            have h := leafR h hk72
            have h := leafR h hq70
            refine hK67 _ ?_
            refine aw_regL ?_
            refine alP (some 111) rfl rfl (does_move (v := .int .i64 v10_6) (by exact rfl)) (by decide) ?_
            refine alP (some 112) rfl rfl (does_bin (v := .int .i64 (IntKind.i64.wrap (v10_6 + 1))) (by conv => lhs; whnf) (by conv => lhs; whnf) rfl) (by decide) ?_
            refine alP (some 10) rfl rfl (does_assign (v := .int .i64 (IntKind.i64.wrap (v10_6 + 1))) (by exact rfl)) (by decide) ?_
            refine al_nil ?_
            have h := leafL h hq63
            exact ⟨m6, Nat.lt_succ_self _, _, reb_lit [(2, .int .i64 a2), (7, .own 7 0), (10, .int .i64 (IntKind.i64.wrap (v10_6 + 1)))] [(7, 0)] [((7, 0), .arr 34 4 false (List.map enc33 v7_s_7))] [(7, 1)] (envOk_cons (by conv => lhs; whnf) (by exact rfl) (envOk_cons (by conv => lhs; whnf) (by exact rfl) (envOk_cons (by conv => lhs; whnf) (by exact rfl) envOk_nil))) (objOk_cons (by conv => lhs; whnf) (by conv => lhs; whnf) (by exact rfl) (by simp) objOk_nil) (nodup_b rfl) (nodup_b rfl) rfl rfl, v7_s_7, (IntKind.i64.wrap (v10_6 + 1)), h, rfl⟩
        · rintro s ⟨h, rfl⟩
          unfold gleaningref28_Busy_k8 at h
          refine aw_seq_k (fun K81 hK81 => ?_)
          refine aw_block ?_
          refine aw_regd (by kernel_rfl) (by decide +kernel) ?_
          refine aoP (some 130) rfl rfl (does_move (v := .own 7 0) (by exact rfl)) (by decide) ?_
          refine aoP (some 131) rfl rfl (does_move (v := .int .i64 v11_7) (by exact rfl)) (by decide) ?_
          refine aoP (some 132) rfl rfl (does_move (v := .own 7 0) (by exact rfl)) (by decide) ?_
          refine aoP (some 133) rfl rfl (does_move (v := .int .i64 v11_7) (by exact rfl)) (by decide) ?_
          refine aoP (some 134) rfl rfl (does_bin (v := .int .i64 (IntKind.i64.wrap (v11_7 - 1))) (by conv => lhs; whnf) (by conv => lhs; whnf) rfl) (by decide) ?_
          refine aoP (some 135) rfl rfl (does_move (v := .own 7 0) (by exact rfl)) (by decide) ?_
          refine aoP (some 136) rfl rfl (does_move (v := .int .i64 v11_7) (by exact rfl)) (by decide) ?_
          refine aoP (some 137) rfl rfl (does_bin (v := .int .i64 (IntKind.i64.wrap (v11_7 - 1))) (by conv => lhs; whnf) (by conv => lhs; whnf) rfl) (by decide) ?_
          obtain ⟨g82, h⟩ := gd_some h
          obtain ⟨x83, hx83, h⟩ := bnd_some h
          refine aoR (some 138) rfl rfl (does_indexAddr_own (by conv => lhs; whnf) (by conv => lhs; whnf) (by conv => lhs; whnf) ty30 ty34 g82 (by exact own_lt hx83)) (by decide) ?_
          refine aoR (some 139) rfl rfl (does_load (v := .agg [.str x83.Service, .str x83.Op, .int .i64 x83.Count, .int .i64 x83.Errs]) (by conv => lhs; whnf) (cellsAt_eptr (by conv => lhs; whnf) (by exact map_get hx83)) ty34 (by exact rfl)) (by decide) ?_
          refine aoP (some 140) rfl rfl (does_move (v := .own 7 0) (by exact rfl)) (by decide) ?_
          refine aoP (some 141) rfl rfl (does_move (v := .int .i64 v11_7) (by exact rfl)) (by decide) ?_
          obtain ⟨g84, h⟩ := gd_some h
          obtain ⟨x85, hx85, h⟩ := bnd_some h
          refine aoR (some 142) rfl rfl (does_indexAddr_own (by conv => lhs; whnf) (by conv => lhs; whnf) (by conv => lhs; whnf) ty30 ty34 g84 (by exact own_lt hx85)) (by decide) ?_
          refine aoR (some 143) rfl rfl (does_load (v := .agg [.str x85.Service, .str x85.Op, .int .i64 x85.Count, .int .i64 x85.Errs]) (by conv => lhs; whnf) (cellsAt_eptr (by conv => lhs; whnf) (by exact map_get hx85)) ty34 (by exact rfl)) (by decide) ?_
          obtain ⟨g86, h⟩ := gd_some h
          obtain ⟨x87, hx87, h⟩ := bnd_some h
          refine aoR (some 144) rfl rfl (does_indexAddr_own (by conv => lhs; whnf) (by conv => lhs; whnf) (by conv => lhs; whnf) ty30 ty34 g86 (by exact own_lt hx87)) (by decide) ?_
          refine aoD none rfl rfl (does_storeE (old := .agg [.str x87.Service, .str x87.Op, .int .i64 x87.Count, .int .i64 x87.Errs]) (el := .agg [.str x83.Service, .str x83.Op, .int .i64 x83.Count, .int .i64 x83.Errs]) (xs' := List.map enc33 (List.set v7_s_7 (Int.toNat v11_7) x83)) (by conv => lhs; whnf) (by conv => lhs; whnf) (by conv => lhs; whnf) ty34 (by rfl) (by rfl) (by exact map_get hx87) (by rfl) (by exact rfl) (by exact map_set' _ _ x83) (by rfl)) (by decide) ?_
          obtain ⟨g88, h⟩ := gd_some h
          obtain ⟨x89, hx89, h⟩ := bnd_some h
          refine aoR (some 145) rfl rfl (does_indexAddr_own (by conv => lhs; whnf) (by conv => lhs; whnf) (by conv => lhs; whnf) ty30 ty34 g88 (by exact own_lt hx89)) (by decide) ?_
          refine aoD none rfl rfl (does_storeE (old := .agg [.str x89.Service, .str x89.Op, .int .i64 x89.Count, .int .i64 x89.Errs]) (el := .agg [.str x85.Service, .str x85.Op, .int .i64 x85.Count, .int .i64 x85.Errs]) (xs' := List.map enc33 (List.set (List.set v7_s_7 (Int.toNat v11_7) x83) (Int.toNat (IntKind.i64.wrap (v11_7 - 1))) x85)) (by conv => lhs; whnf) (by conv => lhs; whnf) (by conv => lhs; whnf) ty34 (by rfl) (by rfl) (by exact map_get hx89) (by rfl) (by exact rfl) (by exact map_set' _ _ x85) (by rfl)) (by decide) ?_
          refine ao_nil_d (by kernel_rfl) ?_
          refine hK81 _ ?_
          refine aw_regL ?_
          refine alP (some 128) rfl rfl (does_move (v := .int .i64 v11_7) (by exact rfl)) (by decide) ?_
          refine alP (some 129) rfl rfl (does_bin (v := .int .i64 (IntKind.i64.wrap (v11_7 - 1))) (by conv => lhs; whnf) (by conv => lhs; whnf) rfl) (by decide) ?_
          refine alP (some 11) rfl rfl (does_assign (v := .int .i64 (IntKind.i64.wrap (v11_7 - 1))) (by exact rfl)) (by decide) ?_
          refine al_nil ?_
          have h := leafL h hq70
          exact ⟨m7, Nat.lt_succ_self _, _, reb_lit [(2, .int .i64 a2), (7, .own 7 0), (10, .int .i64 v10_6), (11, .int .i64 (IntKind.i64.wrap (v11_7 - 1)))] [(7, 0)] [((7, 0), .arr 34 4 false (List.map enc33 (List.set (List.set v7_s_7 (Int.toNat v11_7) x83) (Int.toNat (IntKind.i64.wrap (v11_7 - 1))) x85)))] [(7, 1)] (envOk_cons (by conv => lhs; whnf) (by exact rfl) (envOk_cons (by conv => lhs; whnf) (by exact rfl) (envOk_cons (by conv => lhs; whnf) (by exact rfl) (envOk_cons (by conv => lhs; whnf) (by exact rfl) envOk_nil)))) (objOk_cons (by conv => lhs; whnf) (by conv => lhs; whnf) (by exact rfl) (by simp) objOk_nil) (nodup_b rfl) (nodup_b rfl) rfl rfl, (List.set (List.set v7_s_7 (Int.toNat v11_7) x83) (Int.toNat (IntKind.i64.wrap (v11_7 - 1))) x85), (IntKind.i64.wrap (v11_7 - 1)), h, rfl⟩
      · have h := ifF c66 h
        refine aw_cond_f (by decide) rfl ?_
        refine aw_exit ?_
        have h := leafR h hq63
        obtain rfl := Option.some.inj h
        have h := hk60
        exact ⟨_, reb_lit [(2, .int .i64 a2), (7, .own 7 0)] [(7, 0)] [((7, 0), .arr 34 4 false (List.map enc33 v7_s_6))] [(7, 1)] (envOk_cons (by conv => lhs; whnf) (by exact rfl) (envOk_cons (by conv => lhs; whnf) (by exact rfl) envOk_nil)) (objOk_cons (by conv => lhs; whnf) (by conv => lhs; whnf) (by exact rfl) (by simp) objOk_nil) (nodup_b rfl) (nodup_b rfl) rfl rfl, v7_s_6, h, rfl⟩
    · rintro s ⟨v7_s_5, h, rfl⟩
      unfold gleaningref28_Busy_k5 at h
      refine aw_seq_k (fun K90 hK90 => ?_)
      refine aw_regL ?_
      refine alP (some 146) rfl rfl (does_move (v := .own 7 0) (by exact rfl)) (by decide) ?_
      refine alP (some 147) rfl rfl (does_move (v := .int .i64 a2) (by exact rfl)) (by decide) ?_
      refine alP (some 148) rfl rfl (does_move (v := .own 7 0) (by exact rfl)) (by decide) ?_
      refine alR (some 149) rfl rfl ((does_len_own (by conv => lhs; whnf) (by conv => lhs; whnf) ty30).cast (v' := .int .i64 (List.length v7_s_5 : Int)) (by exact len_map _)) (by decide) ?_
      obtain ⟨x91, hx91, h⟩ := bnd_some h
      refine alD (some 150) rfl rfl (do_call0 150 false (gleaningref1_Cap_ok a2 0 (List.length v7_s_5 : Int) hx91) rfl ent19 rfl rfl) (by decide) ?_
      obtain ⟨g92, h⟩ := gd_some h
      obtain ⟨g93, h⟩ := gd_some h
      refine alD (some 151) rfl rfl (does_frz (d := 7) (n := 0) (by conv => lhs; whnf) (does_slice_own (l := 0) (k := (Int.toNat x91)) (by conv => lhs; whnf) (by conv => lhs; whnf) ty30 ty34 bd_none (bd_some (by conv => lhs; whnf) (by exact (nat_of (by omega)))) (by (try simp only [List.length_map]); omega) (by (try simp only [List.length_map]); omega) (by exact part_h _ _))) (by decide) ?_
      refine alP (some 6) rfl rfl (does_assign (v := .sl 4 (List.map enc33 (List.take (Int.toNat x91) v7_s_5))) (by exact rfl)) (by decide) ?_
      refine al_nil ?_
      refine hK90 _ ?_
      refine aw_ret ?_
      obtain rfl := Option.some.inj h
      exact ret_ok1 (by conv => lhs; whnf) (by conv => lhs; whnf) (by exact rfl) (.inr rfl) rfl
def gleaningref28_SameBusy_l0 (a0 : List Busy) (a1 : List Busy) (v5_0 : Int) : Option (Int ⊕ Bool) :=
  if (decide (v5_0 < (List.length a0 : Int))) = true then (gd (0 ≤ v5_0) (Option.bind (a0[(Int.toNat v5_0)]?) (fun (x16 : Busy) => gd (0 ≤ v5_0) (Option.bind (a1[(Int.toNat v5_0)]?) (fun (x18 : Busy) => if (!((ByteArray.toList x16.Service == ByteArray.toList x18.Service) && ((ByteArray.toList x16.Op == ByteArray.toList x18.Op) && ((x16.Count == x18.Count) && ((x16.Errs == x18.Errs) && true))))) = true then (some (Sum.inr false)) else (some (Sum.inl (IntKind.i64.wrap (v5_0 + 1))))))))) else (some (Sum.inr true))
def gleaningref28_SameBusy (a0 : List Busy) (a1 : List Busy) : Option Bool :=
  if ((List.length a0 : Int) != (List.length a1 : Int)) = true then (some false) else (loopN (fun (s : Int) => gleaningref28_SameBusy_l0 a0 a1 s) Fu 0)
set_option maxRecDepth 100000 in
set_option maxHeartbeats 8000000 in
/-- gleaning/gleaningref28.SameBusy -/
theorem gleaningref28_SameBusy_ok (a0 : List Busy) (a1 : List Busy) {r : Bool} (h : gleaningref28_SameBusy a0 a1 = some r) : Ok Try.prog 6 [.sl 4 (List.map enc33 a0), .sl 4 (List.map enc33 a1)] [] [] (.bool r) [] [] := by
  unfold gleaningref28_SameBusy at h
  refine ok_of_code Try.func6 rfl (by show (2 : Nat) ≤ _; decide) (Nat.le_refl _) fun X => ?_
  refine aw_seq_k (fun K1 hK1 => ?_)
  refine aw_regL ?_
  refine alP (some 4) rfl rfl (does_assign (v := .bool false) (by exact rfl)) (by decide) ?_
  refine al_nil ?_
  refine hK1 _ ?_
  refine aw_seq_k (fun K2 hK2 => ?_)
  refine aw_seq_k (fun K3 hK3 => ?_)
  refine aw_regL ?_
  refine alP (some 6) rfl rfl (does_move (v := .sl 4 (List.map enc33 a0)) (by exact rfl)) (by decide) ?_
  refine alP (some 7) rfl rfl ((does_len_sl (by conv => lhs; whnf) ty30).castp (v' := .int .i64 (List.length a0 : Int)) (by exact len_map _)) (by decide) ?_
  refine alP (some 8) rfl rfl (does_move (v := .sl 4 (List.map enc33 a1)) (by exact rfl)) (by decide) ?_
  refine alP (some 9) rfl rfl ((does_len_sl (by conv => lhs; whnf) ty30).castp (v' := .int .i64 (List.length a1 : Int)) (by exact len_map _)) (by decide) ?_
  refine alP (some 10) rfl rfl (does_bin (v := .bool ((List.length a0 : Int) != (List.length a1 : Int))) (by conv => lhs; whnf) (by conv => lhs; whnf) rfl) (by decide) ?_
  refine al_nil ?_
  refine hK3 _ ?_
  refine aw_bool (b := ((List.length a0 : Int) != (List.length a1 : Int))) 10 rfl (fun c4 => ?_) (fun c4 => ?_)
  · have h := ifT c4 h
    refine aw_cond_t (by decide) rfl ?_
    refine aw_seq_k (fun K5 hK5 => ?_)
    refine aw_regL ?_
    refine alP (some 4) rfl rfl (does_assign (v := .bool false) (by exact rfl)) (by decide) ?_
    refine al_nil ?_
    refine hK5 _ ?_
    refine aw_ret ?_
    obtain rfl := Option.some.inj h
    exact ret_ok1 (by conv => lhs; whnf) (by conv => lhs; whnf) (by exact rfl) (.inr rfl) rfl
  · have h := ifF c4 h
    refine aw_cond_f (by decide) rfl ?_
    refine aw_skip ?_
    refine hK2 _ ?_
    refine aw_seq_k (fun K6 hK6 => ?_)
    refine aw_seq_k (fun K7 hK7 => ?_)
    refine aw_regL ?_
    refine alP (some 5) rfl rfl (does_assign (v := .int .i64 0) (by exact rfl)) (by decide) ?_
    refine al_nil ?_
    refine hK7 _ ?_
    refine aw_block ?_
    refine aw_loop' (fun m s => ∃ (v5_0 : Int), loopN (fun (s : Int) => gleaningref28_SameBusy_l0 a0 a1 s) m v5_0 = some r ∧ s = lit [(0, .sl 4 (List.map enc33 a0)), (1, .sl 4 (List.map enc33 a1)), (5, .int .i64 v5_0)] [] [] X) Fu
      ⟨_, reb_lit [(0, .sl 4 (List.map enc33 a0)), (1, .sl 4 (List.map enc33 a1)), (5, .int .i64 (0))] [] [] [] (envOk_cons (by conv => lhs; whnf) (by exact rfl) (envOk_cons (by conv => lhs; whnf) (by exact rfl) (envOk_cons (by conv => lhs; whnf) (by exact rfl) envOk_nil))) objOk_nil (nodup_b rfl) (nodup_b rfl) rfl rfl, 0, h, rfl⟩ ?_
    rintro m s ⟨v5_0, h, rfl⟩
    obtain ⟨m0, q8, rfl, h, hq9⟩ := loop_some h
    replace h : gleaningref28_SameBusy_l0 a0 a1 v5_0 = some q8 := h
    unfold gleaningref28_SameBusy_l0 at h
    refine aw_seq_k (fun K10 hK10 => ?_)
    refine aw_seq_k (fun K11 hK11 => ?_)
    refine aw_regL ?_
    refine alP (some 11) rfl rfl (does_move (v := .int .i64 v5_0) (by exact rfl)) (by decide) ?_
    refine alP (some 12) rfl rfl (does_move (v := .sl 4 (List.map enc33 a0)) (by exact rfl)) (by decide) ?_
    refine alP (some 13) rfl rfl ((does_len_sl (by conv => lhs; whnf) ty30).castp (v' := .int .i64 (List.length a0 : Int)) (by exact len_map _)) (by decide) ?_
    refine alP (some 14) rfl rfl (does_bin (v := .bool (decide (v5_0 < (List.length a0 : Int)))) (by conv => lhs; whnf) (by conv => lhs; whnf) rfl) (by decide) ?_
    refine al_nil ?_
    refine hK11 _ ?_
    refine aw_bool (b := (decide (v5_0 < (List.length a0 : Int)))) 14 rfl (fun c12 => ?_) (fun c12 => ?_)
    · have h := ifT c12 h
      refine aw_cond_t (by decide) rfl ?_
      refine aw_skip ?_
      refine hK10 _ ?_
      refine aw_seq_k (fun K13 hK13 => ?_)
      refine aw_block ?_
      refine aw_seq_k (fun K14 hK14 => ?_)
      refine aw_regd (by kernel_rfl) (by decide +kernel) ?_
      refine aoP (some 17) rfl rfl (does_move (v := .sl 4 (List.map enc33 a0)) (by exact rfl)) (by decide) ?_
      refine aoP (some 18) rfl rfl (does_move (v := .int .i64 v5_0) (by exact rfl)) (by decide) ?_
      obtain ⟨g15, h⟩ := gd_some h
      obtain ⟨x16, hx16, h⟩ := bnd_some h
      refine aoP (some 19) rfl rfl (does_indexAddr_sl (el := .agg [.str x16.Service, .str x16.Op, .int .i64 x16.Count, .int .i64 x16.Errs]) (by conv => lhs; whnf) (by conv => lhs; whnf) ty30 ty34 g15 (by exact map_get hx16)) (by decide) ?_
      refine aoR (some 20) rfl rfl (does_load (v := .agg [.str x16.Service, .str x16.Op, .int .i64 x16.Count, .int .i64 x16.Errs]) (by conv => lhs; whnf) (by conv => lhs; whnf) ty34 (by exact rfl)) (by decide) ?_
      refine aoP (some 21) rfl rfl (does_move (v := .sl 4 (List.map enc33 a1)) (by exact rfl)) (by decide) ?_
      refine aoP (some 22) rfl rfl (does_move (v := .int .i64 v5_0) (by exact rfl)) (by decide) ?_
      obtain ⟨g17, h⟩ := gd_some h
      obtain ⟨x18, hx18, h⟩ := bnd_some h
      refine aoP (some 23) rfl rfl (does_indexAddr_sl (el := .agg [.str x18.Service, .str x18.Op, .int .i64 x18.Count, .int .i64 x18.Errs]) (by conv => lhs; whnf) (by conv => lhs; whnf) ty30 ty34 g17 (by exact map_get hx18)) (by decide) ?_
      refine aoR (some 24) rfl rfl (does_load (v := .agg [.str x18.Service, .str x18.Op, .int .i64 x18.Count, .int .i64 x18.Errs]) (by conv => lhs; whnf) (by conv => lhs; whnf) ty34 (by exact rfl)) (by decide) ?_
      refine aoP (some 25) rfl rfl (does_eq_struct (v := .bool (!((ByteArray.toList x16.Service == ByteArray.toList x18.Service) && ((ByteArray.toList x16.Op == ByteArray.toList x18.Op) && ((x16.Count == x18.Count) && ((x16.Errs == x18.Errs) && true)))))) (by conv => lhs; whnf) (by conv => lhs; whnf) fk34 rfl ag34 eg34 (by conv => lhs; whnf) rfl) (by decide) ?_
      refine ao_nil_d (by kernel_rfl) ?_
      refine hK14 _ ?_
      refine aw_bool (b := (!((ByteArray.toList x16.Service == ByteArray.toList x18.Service) && ((ByteArray.toList x16.Op == ByteArray.toList x18.Op) && ((x16.Count == x18.Count) && ((x16.Errs == x18.Errs) && true)))))) 25 rfl (fun c19 => ?_) (fun c19 => ?_)
      · have h := ifT c19 h
        refine aw_cond_t (by decide) rfl ?_
        refine aw_seq_k (fun K20 hK20 => ?_)
        refine aw_regL ?_
        refine alP (some 4) rfl rfl (does_assign (v := .bool false) (by exact rfl)) (by decide) ?_
        refine al_nil ?_
        refine hK20 _ ?_
        refine aw_ret ?_
        have h := leafR h hq9
        obtain rfl := Option.some.inj h
        exact ret_ok1 (by conv => lhs; whnf) (by conv => lhs; whnf) (by exact rfl) (.inr rfl) rfl
      · have h := ifF c19 h
        refine aw_cond_f (by decide) rfl ?_
        refine aw_skip ?_
        refine hK13 _ ?_
        refine aw_regL ?_
        refine alP (some 15) rfl rfl (does_move (v := .int .i64 v5_0) (by exact rfl)) (by decide) ?_
        refine alP (some 16) rfl rfl (does_bin (v := .int .i64 (IntKind.i64.wrap (v5_0 + 1))) (by conv => lhs; whnf) (by conv => lhs; whnf) rfl) (by decide) ?_
        refine alP (some 5) rfl rfl (does_assign (v := .int .i64 (IntKind.i64.wrap (v5_0 + 1))) (by exact rfl)) (by decide) ?_
        refine al_nil ?_
        have h := leafL h hq9
        exact ⟨m0, Nat.lt_succ_self _, _, reb_lit [(0, .sl 4 (List.map enc33 a0)), (1, .sl 4 (List.map enc33 a1)), (5, .int .i64 (IntKind.i64.wrap (v5_0 + 1)))] [] [] [] (envOk_cons (by conv => lhs; whnf) (by exact rfl) (envOk_cons (by conv => lhs; whnf) (by exact rfl) (envOk_cons (by conv => lhs; whnf) (by exact rfl) envOk_nil))) objOk_nil (nodup_b rfl) (nodup_b rfl) rfl rfl, (IntKind.i64.wrap (v5_0 + 1)), h, rfl⟩
    · have h := ifF c12 h
      refine aw_cond_f (by decide) rfl ?_
      refine aw_exit ?_
      have h := leafR h hq9
      refine hK6 _ ?_
      refine aw_seq_k (fun K21 hK21 => ?_)
      refine aw_regL ?_
      refine alP (some 4) rfl rfl (does_assign (v := .bool true) (by exact rfl)) (by decide) ?_
      refine al_nil ?_
      refine hK21 _ ?_
      refine aw_ret ?_
      obtain rfl := Option.some.inj h
      exact ret_ok1 (by conv => lhs; whnf) (by conv => lhs; whnf) (by exact rfl) (.inr rfl) rfl
end Go.Proofs.Ytoecalgfdphghaa.Ab
