/- Chapter 17: verdicts. -/
import Derived.Test.YtomjoccpkknamaaXWindow
import Derived.Test.YtomjoccpkknamaaProg
namespace Go.Proofs.Ytomjoccpkknamaa.Ab
open Go Go.RowKit
set_option linter.unusedVariables false
set_option linter.unusedSimpArgs false
def enc4 (x : Bool) : PV := .bool x
structure Trace where
  Hi : Int
  Lo : Int
  deriving DecidableEq
structure Verdict where
  Trace : Trace
  Kept : Bool
  deriving DecidableEq
def enc37 (x : Verdict) : PV := .agg [.int .u64 x.Trace.Hi, .int .u64 x.Trace.Lo, .bool x.Kept]
theorem ty32 : tyOf Try.prog 32 = some ⟨.slice 38, 1, 24, [.nil]⟩ := by kernel_rfl
theorem ty35 : tyOf Try.prog 35 = some ⟨.struct [(0, 33), (1, 33)], 2, 16, [.int .u64 0, .int .u64 0]⟩ := by kernel_rfl
theorem ty38 : tyOf Try.prog 38 = some ⟨.struct [(0, 35), (2, 4)], 3, 24, [.int .u64 0, .int .u64 0, .bool false]⟩ := by kernel_rfl
theorem ty44 : tyOf Try.prog 44 = some ⟨.slice 4, 1, 24, [.nil]⟩ := by kernel_rfl
theorem ty45 : tyOf Try.prog 45 = some ⟨.arr 32 4, 32, 32, [.bool false, .bool false, .bool false, .bool false, .bool false, .bool false, .bool false, .bool false, .bool false, .bool false, .bool false, .bool false, .bool false, .bool false, .bool false, .bool false, .bool false, .bool false, .bool false, .bool false, .bool false, .bool false, .bool false, .bool false, .bool false, .bool false, .bool false, .bool false, .bool false, .bool false, .bool false, .bool false]⟩ := by kernel_rfl
theorem fk35 : flatK Try.prog 8 35 = some [.i .u64, .i .u64] := by kernel_rfl
theorem ag35 : aggT Try.prog 35 = true := by kernel_rfl
theorem eg35 : Try.prog.eqGuardType Try.prog.depth 35 = false := by kernel_rfl
theorem fk38 : flatK Try.prog 8 38 = some [.i .u64, .i .u64, .b] := by kernel_rfl
theorem ag38 : aggT Try.prog 38 = true := by kernel_rfl
theorem eg38 : Try.prog.eqGuardType Try.prog.depth 38 = false := by kernel_rfl
theorem ent20 : Ent Try.prog 20 := ⟨_, Try.func20, by kernel_rfl, rfl⟩
theorem ent21 : Ent Try.prog 21 := ⟨_, Try.func21, by kernel_rfl, rfl⟩
theorem ent24 : Ent Try.prog 24 := ⟨_, Try.func24, by kernel_rfl, rfl⟩
theorem ent44 : Ent Try.prog 44 := ⟨_, Try.func44, by kernel_rfl, rfl⟩
theorem ent45 : Ent Try.prog 45 := ⟨_, Try.func45, by kernel_rfl, rfl⟩
def memo_Find_c1 (a0 : Verdict) (a1 : Trace) : Option Bool :=
  some ((a0.Trace.Hi == a1.Hi) && ((a0.Trace.Lo == a1.Lo) && true))
set_option maxRecDepth 100000 in
set_option maxHeartbeats 8000000 in
/-- gleaning/memo.Find$1 -/
theorem memo_Find_c1_ok (a0 : Verdict) (a1 : Trace) {r : Bool} (h : memo_Find_c1 a0 a1 = some r) : Ok Try.prog 45 [.agg [.int .u64 a0.Trace.Hi, .int .u64 a0.Trace.Lo, .bool a0.Kept], .rptr [.int .u64 a1.Hi, .int .u64 a1.Lo]] [] [] (.bool r) [] [] := by
  unfold memo_Find_c1 at h
  refine ok_of_code Try.func45 rfl (by show (2 : Nat) ≤ _; decide) (Nat.le_refl _) fun X => ?_
  refine aw_seq_k (fun K1 hK1 => ?_)
  refine aw_reg ?_
  refine ao_cons (acts_of rfl (do_box (by conv => lhs; whnf) rfl rfl)) (by decide) ?_
  refine ao_cons (acts_of rfl (does_assign (v := .bool false) (by exact rfl))) (by decide) ?_
  refine ao_nil_n ?_
  refine hK1 _ ?_
  refine aw_seq_k (fun K2 hK2 => ?_)
  refine aw_reg ?_
  refine ao_cons (acts_of rfl (does_fieldAddr (q := .ptr 2 0 0) (by conv => lhs; whnf) ty38 rfl ty35 (by decide) (by exact rfl))) (by decide) ?_
  refine ao_cons (acts_of rfl (does_load (v := .agg [.int .u64 a0.Trace.Hi, .int .u64 a0.Trace.Lo]) (by conv => lhs; whnf) (by conv => lhs; whnf) ty35 (by exact rfl))) (by decide) ?_
  refine ao_cons (acts_of rfl (does_load (v := .agg [.int .u64 a1.Hi, .int .u64 a1.Lo]) (by conv => lhs; whnf) (by conv => lhs; whnf) ty35 (by exact rfl))) (by decide) ?_
  refine ao_cons (acts_of rfl (does_eq_struct (v := .bool ((a0.Trace.Hi == a1.Hi) && ((a0.Trace.Lo == a1.Lo) && true))) (by conv => lhs; whnf) (by conv => lhs; whnf) fk35 rfl ag35 eg35 (by conv => lhs; whnf) rfl)) (by decide) ?_
  refine ao_cons (acts_of rfl (does_assign (v := .bool ((a0.Trace.Hi == a1.Hi) && ((a0.Trace.Lo == a1.Lo) && true))) (by exact rfl))) (by decide) ?_
  refine ao_nil_n ?_
  refine hK2 _ ?_
  refine aw_ret ?_
  obtain rfl := Option.some.inj h
  exact ret_ok1 (by conv => lhs; whnf) (by conv => lhs; whnf) (by exact rfl) (.inr rfl) rfl
def slices_IndexFunc_Verdict_memo_Find_c1_l0 (a0 : List Verdict) (a1_0 : Trace) (v8_0 : Int) : Option (Int ⊕ Int) :=
  if (decide (v8_0 < (List.length a0 : Int))) = true then (gd (0 ≤ v8_0) (Option.bind (a0[(Int.toNat v8_0)]?) (fun (x13 : Verdict) => Option.bind (memo_Find_c1 x13 a1_0) (fun (x14 : Bool) => if x14 = true then (some (Sum.inr v8_0)) else (some (Sum.inl (IntKind.i64.wrap (v8_0 + 1)))))))) else (some (Sum.inr (-1)))
def slices_IndexFunc_Verdict_memo_Find_c1 (a0 : List Verdict) (a1_0 : Trace) : Option Int :=
  loopN (fun (s : Int) => slices_IndexFunc_Verdict_memo_Find_c1_l0 a0 a1_0 s) Fu 0
set_option maxRecDepth 100000 in
set_option maxHeartbeats 8000000 in
/-- slices.IndexFunc[[]gleaning/api.Verdict,gleaning/api.Verdict] -/
theorem slices_IndexFunc_Verdict_memo_Find_c1_ok (a0 : List Verdict) (a1_0 : Trace) {r : Int} (h : slices_IndexFunc_Verdict_memo_Find_c1 a0 a1_0 = some r) : Ok Try.prog 44 [.sl 3 (List.map enc37 a0), .fn 45 [.rptr [.int .u64 a1_0.Hi, .int .u64 a1_0.Lo]]] [] [] (.int .i64 r) [] [] := by
  unfold slices_IndexFunc_Verdict_memo_Find_c1 at h
  refine ok_of_code Try.func44 rfl (by show (2 : Nat) ≤ _; decide) (Nat.le_refl _) fun X => ?_
  refine aw_seq_k (fun K1 hK1 => ?_)
  refine aw_reg ?_
  refine ao_cons (acts_of rfl (does_assign (v := .int .i64 0) (by exact rfl))) (by decide) ?_
  refine ao_nil_n ?_
  refine hK1 _ ?_
  refine aw_seq_k (fun K2 hK2 => ?_)
  refine aw_seq_k (fun K3 hK3 => ?_)
  refine aw_reg ?_
  refine ao_cons (acts_of rfl (does_move (v := .sl 3 (List.map enc37 a0)) (by exact rfl))) (by decide) ?_
  refine ao_cons (acts_of rfl ((does_len_sl (by conv => lhs; whnf) ty32).castp (v' := .int .i64 (List.length a0 : Int)) (by exact len_map _))) (by decide) ?_
  refine ao_cons (acts_of rfl (does_move (v := .int .i64 0) (by exact rfl))) (by decide) ?_
  refine ao_nil_n ?_
  refine hK3 _ ?_
  refine aw_block ?_
  refine aw_loop' (fun m s => ∃ (v8_0 : Int), loopN (fun (s : Int) => slices_IndexFunc_Verdict_memo_Find_c1_l0 a0 a1_0 s) m v8_0 = some r ∧ s = lit [(0, .sl 3 (List.map enc37 a0)), (1, .fn 45 [.rptr [.int .u64 a1_0.Hi, .int .u64 a1_0.Lo]]), (7, .int .i64 (List.length a0 : Int)), (8, .int .i64 v8_0)] [] [] X) Fu
    ⟨_, reb_lit [(0, .sl 3 (List.map enc37 a0)), (1, .fn 45 [.rptr [.int .u64 a1_0.Hi, .int .u64 a1_0.Lo]]), (7, .int .i64 (List.length a0 : Int)), (8, .int .i64 (0))] [] [] [] (envOk_cons (by conv => lhs; whnf) (by exact rfl) (envOk_cons (by conv => lhs; whnf) (by exact rfl) (envOk_cons (by conv => lhs; whnf) (by exact rfl) (envOk_cons (by conv => lhs; whnf) (by exact rfl) envOk_nil)))) objOk_nil (nodup_b rfl) (nodup_b rfl) rfl rfl, 0, h, rfl⟩ ?_
  rintro m s ⟨v8_0, h, rfl⟩
  obtain ⟨m0, q4, rfl, h, hq5⟩ := loop_some h
  replace h : slices_IndexFunc_Verdict_memo_Find_c1_l0 a0 a1_0 v8_0 = some q4 := h
  unfold slices_IndexFunc_Verdict_memo_Find_c1_l0 at h
  refine aw_seq_k (fun K6 hK6 => ?_)
  refine aw_reg ?_
  refine ao_cons (acts_of rfl (does_bin (v := .bool (decide (v8_0 < (List.length a0 : Int)))) (by conv => lhs; whnf) (by conv => lhs; whnf) rfl)) (by decide) ?_
  refine ao_nil_n ?_
  refine hK6 _ ?_
  refine aw_seq_k (fun K7 hK7 => ?_)
  refine aw_bool (b := (decide (v8_0 < (List.length a0 : Int)))) 9 rfl (fun c8 => ?_) (fun c8 => ?_)
  · have h := ifT c8 h
    refine aw_cond_t (by decide) rfl ?_
    refine aw_skip ?_
    refine hK7 _ ?_
    refine aw_seq_k (fun K9 hK9 => ?_)
    refine aw_block ?_
    refine aw_seq_k (fun K10 hK10 => ?_)
    refine aw_reg ?_
    refine ao_cons (acts_of rfl (does_move (v := .int .i64 v8_0) (by exact rfl))) (by decide) ?_
    refine ao_cons (acts_of rfl (does_assign (v := .int .i64 v8_0) (by exact rfl))) (by decide) ?_
    refine ao_nil_n ?_
    refine hK10 _ ?_
    refine aw_seq_k (fun K11 hK11 => ?_)
    refine aw_reg ?_
    refine ao_cons (acts_of rfl (does_move (v := .fn 45 [.rptr [.int .u64 a1_0.Hi, .int .u64 a1_0.Lo]]) (by exact rfl))) (by decide) ?_
    refine ao_cons (acts_of rfl (does_move (v := .sl 3 (List.map enc37 a0)) (by exact rfl))) (by decide) ?_
    refine ao_cons (acts_of rfl (does_move (v := .int .i64 v8_0) (by exact rfl))) (by decide) ?_
    obtain ⟨g12, h⟩ := gd_some h
    obtain ⟨x13, hx13, h⟩ := bnd_some h
    refine ao_cons (acts_of rfl (does_indexAddr_sl (el := .agg [.int .u64 x13.Trace.Hi, .int .u64 x13.Trace.Lo, .bool x13.Kept]) (by conv => lhs; whnf) (by conv => lhs; whnf) ty32 ty38 g12 (by exact map_get hx13))) (by decide) ?_
    refine ao_cons (acts_of rfl (does_load (v := .agg [.int .u64 x13.Trace.Hi, .int .u64 x13.Trace.Lo, .bool x13.Kept]) (by conv => lhs; whnf) (by conv => lhs; whnf) ty38 (by exact rfl))) (by decide) ?_
    obtain ⟨x14, hx14, h⟩ := bnd_some h
    refine ao_cons (acts_of rfl (do_call0 16 false (memo_Find_c1_ok x13 a1_0 hx14) rfl ent45 rfl rfl)) (by decide) ?_
    refine ao_nil_n ?_
    refine hK11 _ ?_
    refine aw_bool (b := x14) 16 rfl (fun c15 => ?_) (fun c15 => ?_)
    · have h := ifT c15 h
      refine aw_cond_t (by decide) rfl ?_
      refine aw_seq_k (fun K16 hK16 => ?_)
      refine aw_reg ?_
      refine ao_cons (acts_of rfl (does_move (v := .int .i64 v8_0) (by exact rfl))) (by decide) ?_
      refine ao_cons (acts_of rfl (does_assign (v := .int .i64 v8_0) (by exact rfl))) (by decide) ?_
      refine ao_nil_n ?_
      refine hK16 _ ?_
      refine aw_ret ?_
      have h := leafR h hq5
      obtain rfl := Option.some.inj h
      exact ret_ok1 (by conv => lhs; whnf) (by conv => lhs; whnf) (by exact rfl) (.inr rfl) rfl
    · have h := ifF c15 h
      refine aw_cond_f (by decide) rfl ?_
      refine aw_skip ?_
      refine hK9 _ ?_
      refine aw_reg ?_
      refine ao_cons (acts_of rfl (does_bin (v := .int .i64 (IntKind.i64.wrap (v8_0 + 1))) (by conv => lhs; whnf) (by conv => lhs; whnf) rfl)) (by decide) ?_
      refine ao_cons (acts_of rfl (does_move (v := .int .i64 (IntKind.i64.wrap (v8_0 + 1))) (by exact rfl))) (by decide) ?_
      refine ao_nil_n ?_
      have h := leafL h hq5
      exact ⟨m0, Nat.lt_succ_self _, _, reb_lit [(0, .sl 3 (List.map enc37 a0)), (1, .fn 45 [.rptr [.int .u64 a1_0.Hi, .int .u64 a1_0.Lo]]), (7, .int .i64 (List.length a0 : Int)), (8, .int .i64 (IntKind.i64.wrap (v8_0 + 1)))] [] [] [] (envOk_cons (by conv => lhs; whnf) (by exact rfl) (envOk_cons (by conv => lhs; whnf) (by exact rfl) (envOk_cons (by conv => lhs; whnf) (by exact rfl) (envOk_cons (by conv => lhs; whnf) (by exact rfl) envOk_nil)))) objOk_nil (nodup_b rfl) (nodup_b rfl) rfl rfl, (IntKind.i64.wrap (v8_0 + 1)), h, rfl⟩
  · have h := ifF c8 h
    refine aw_cond_f (by decide) rfl ?_
    refine aw_exit ?_
    have h := leafR h hq5
    refine hK2 _ ?_
    refine aw_seq_k (fun K17 hK17 => ?_)
    refine aw_reg ?_
    refine ao_cons (acts_of rfl (does_assign (v := .int .i64 (-1)) (by exact rfl))) (by decide) ?_
    refine ao_nil_n ?_
    refine hK17 _ ?_
    refine aw_ret ?_
    obtain rfl := Option.some.inj h
    exact ret_ok1 (by conv => lhs; whnf) (by conv => lhs; whnf) (by exact rfl) (.inr rfl) rfl
def memo_Find (a0 : List Verdict) (a1 : Trace) : Option (Bool × Bool) :=
  Option.bind (slices_IndexFunc_Verdict_memo_Find_c1 a0 a1) (fun (x3 : Int) => if (decide (x3 < 0)) = true then (some (false, false)) else (gd (0 ≤ x3) (Option.bind (a0[(Int.toNat x3)]?) (fun (x10 : Verdict) => some (x10.Kept, true)))))
set_option maxRecDepth 100000 in
set_option maxHeartbeats 8000000 in
/-- gleaning/memo.Find -/
theorem memo_Find_ok (a0 : List Verdict) (a1 : Trace) {r : Bool × Bool} (h : memo_Find a0 a1 = some r) : Ok Try.prog 24 [.sl 3 (List.map enc37 a0), .agg [.int .u64 a1.Hi, .int .u64 a1.Lo]] [] [] (.tup [.bool r.1, .bool r.2]) [] [] := by
  unfold memo_Find at h
  refine ok_of_code Try.func24 rfl (by show (2 : Nat) ≤ _; decide) (Nat.le_refl _) fun X => ?_
  refine aw_seq_k (fun K1 hK1 => ?_)
  refine aw_reg ?_
  refine ao_cons (acts_of rfl (do_box (by conv => lhs; whnf) rfl rfl)) (by decide) ?_
  refine ao_cons (acts_of rfl (does_assign (v := .bool false) (by exact rfl))) (by decide) ?_
  refine ao_cons (acts_of rfl (does_assign (v := .bool false) (by exact rfl))) (by decide) ?_
  refine ao_nil_n ?_
  refine hK1 _ ?_
  refine aw_seq_k (fun K2 hK2 => ?_)
  refine aw_reg ?_
  refine ao_cons (acts_of rfl (does_move (v := .sl 3 (List.map enc37 a0)) (by exact rfl))) (by decide) ?_
  refine ao_cons (acts_of rfl (does_makeFunc (vs := [.ptr 3 0 0]) rfl)) (by decide) ?_
  obtain ⟨x3, hx3, h⟩ := bnd_some h
  refine ao_cons (acts_of rfl (do_callG (bcs := []) [] [] [(3, 0)] 9 false (slices_IndexFunc_Verdict_memo_Find_c1_ok a0 a1 hx3) rfl ent44 trivial trivial rfl rfl rfl rfl rfl rfl rfl rfl (.inr ⟨rfl, rfl, trivial⟩))) (by decide) ?_
  refine ao_cons (acts_of rfl (does_assign (v := .int .i64 x3) (by exact rfl))) (by decide) ?_
  refine ao_nil_n ?_
  refine hK2 _ ?_
  refine aw_seq_k (fun K4 hK4 => ?_)
  refine aw_seq_k (fun K5 hK5 => ?_)
  refine aw_reg ?_
  refine ao_cons (acts_of rfl (does_move (v := .int .i64 x3) (by exact rfl))) (by decide) ?_
  refine ao_cons (acts_of rfl (does_bin (v := .bool (decide (x3 < 0))) (by conv => lhs; whnf) (by conv => lhs; whnf) rfl)) (by decide) ?_
  refine ao_nil_n ?_
  refine hK5 _ ?_
  refine aw_bool (b := (decide (x3 < 0))) 11 rfl (fun c6 => ?_) (fun c6 => ?_)
  · have h := ifT c6 h
    refine aw_cond_t (by decide) rfl ?_
    refine aw_seq_k (fun K7 hK7 => ?_)
    refine aw_reg ?_
    refine ao_cons (acts_of rfl (does_assign (v := .bool false) (by exact rfl))) (by decide) ?_
    refine ao_cons (acts_of rfl (does_assign (v := .bool false) (by exact rfl))) (by decide) ?_
    refine ao_nil_n ?_
    refine hK7 _ ?_
    refine aw_ret ?_
    obtain rfl := Option.some.inj h
    exact ret_ok1 (by conv => lhs; whnf) (by conv => lhs; whnf) (by exact rfl) (.inr rfl) rfl
  · have h := ifF c6 h
    refine aw_cond_f (by decide) rfl ?_
    refine aw_skip ?_
    refine hK4 _ ?_
    refine aw_seq_k (fun K8 hK8 => ?_)
    refine aw_reg ?_
    refine ao_cons (acts_of rfl (does_move (v := .sl 3 (List.map enc37 a0)) (by exact rfl))) (by decide) ?_
    refine ao_cons (acts_of rfl (does_move (v := .int .i64 x3) (by exact rfl))) (by decide) ?_
    obtain ⟨g9, h⟩ := gd_some h
    obtain ⟨x10, hx10, h⟩ := bnd_some h
    refine ao_cons (acts_of rfl (does_indexAddr_sl (el := .agg [.int .u64 x10.Trace.Hi, .int .u64 x10.Trace.Lo, .bool x10.Kept]) (by conv => lhs; whnf) (by conv => lhs; whnf) ty32 ty38 g9 (by exact map_get hx10))) (by decide) ?_
    refine ao_cons (acts_of rfl (does_fieldAddr (q := .rptr [.bool x10.Kept]) (by conv => lhs; whnf) ty38 rfl ty4 (by decide) (by exact rfl))) (by decide) ?_
    refine ao_cons (acts_of rfl (does_load (v := .bool x10.Kept) (by conv => lhs; whnf) (by conv => lhs; whnf) ty4 (by exact rfl))) (by decide) ?_
    refine ao_cons (acts_of rfl (does_assign (v := .bool x10.Kept) (by exact rfl))) (by decide) ?_
    refine ao_cons (acts_of rfl (does_assign (v := .bool true) (by exact rfl))) (by decide) ?_
    refine ao_nil_n ?_
    refine hK8 _ ?_
    refine aw_ret ?_
    obtain rfl := Option.some.inj h
    exact ret_ok1 (by conv => lhs; whnf) (by conv => lhs; whnf) (by exact rfl) (.inr rfl) rfl
def memo_Put_l1 (a0 : List Verdict) (a1 : Verdict) (v7_s_1 : List Verdict) (v14_1 : Int) : Option ((List Verdict × Int) ⊕ (List Verdict)) :=
  if (decide (v14_1 < (List.length a0 : Int))) = true then (gd (0 ≤ v14_1) (Option.bind (a0[(Int.toNat v14_1)]?) (fun (x14 : Verdict) => if (!((x14.Trace.Hi == a1.Trace.Hi) && ((x14.Trace.Lo == a1.Trace.Lo) && true))) = true then (gd ((List.length (v7_s_1 ++ [x14])) * 24 ≤ 140737488355328 ∧ (List.length (v7_s_1 ++ [x14])) ≤ 140737488355328) (some (Sum.inl ((v7_s_1 ++ [x14]), (IntKind.i64.wrap (v14_1 + 1)))))) else (some (Sum.inl (v7_s_1, (IntKind.i64.wrap (v14_1 + 1)))))))) else (some (Sum.inr v7_s_1))
def memo_Put_k0 (a2 : Int) (v7_s_0 : List Verdict) : Option (List Verdict) :=
  gd (0 ≤ (if (if a2 < (List.length v7_s_0 : Int) then a2 else (List.length v7_s_0 : Int)) > 0 then (if a2 < (List.length v7_s_0 : Int) then a2 else (List.length v7_s_0 : Int)) else 0)) (gd ((if (if a2 < (List.length v7_s_0 : Int) then a2 else (List.length v7_s_0 : Int)) > 0 then (if a2 < (List.length v7_s_0 : Int) then a2 else (List.length v7_s_0 : Int)) else 0) ≤ (List.length v7_s_0 : Int)) (some (List.take (Int.toNat (if (if a2 < (List.length v7_s_0 : Int) then a2 else (List.length v7_s_0 : Int)) > 0 then (if a2 < (List.length v7_s_0 : Int) then a2 else (List.length v7_s_0 : Int)) else 0)) v7_s_0)))
def memo_Put (a0 : List Verdict) (a1 : Verdict) (a2 : Int) : Option (List Verdict) :=
  Option.bind (loopN (fun (s : List Verdict × Int) => memo_Put_l1 a0 a1 s.1 s.2) Fu ([a1], 0)) (fun (s : List Verdict) => memo_Put_k0 a2 s)
set_option maxRecDepth 100000 in
set_option maxHeartbeats 8000000 in
/-- gleaning/memo.Put -/
theorem memo_Put_ok (a0 : List Verdict) (a1 : Verdict) (a2 : Int) {r : List Verdict} (h : memo_Put a0 a1 a2 = some r) : Ok Try.prog 21 [.sl 3 (List.map enc37 a0), .agg [.int .u64 a1.Trace.Hi, .int .u64 a1.Trace.Lo, .bool a1.Kept], .int .i64 a2] [] [] (.sl 3 (List.map enc37 r)) [] [] := by
  unfold memo_Put at h
  refine ok_of_code Try.func21 rfl (by show (3 : Nat) ≤ _; decide) (Nat.le_refl _) fun X => ?_
  refine aw_seq_k (fun K1 hK1 => ?_)
  refine aw_reg ?_
  refine ao_cons (acts_of rfl (do_box (by conv => lhs; whnf) rfl rfl)) (by decide) ?_
  refine ao_cons (acts_of rfl (does_assign (v := .nil) (by exact rfl))) (by decide) ?_
  refine ao_nil_n ?_
  refine hK1 _ ?_
  refine aw_seq_k (fun K2 hK2 => ?_)
  refine aw_reg ?_
  refine ao_cons (acts_of rfl (does_load (v := .agg [.int .u64 a1.Trace.Hi, .int .u64 a1.Trace.Lo, .bool a1.Kept]) (by conv => lhs; whnf) (by conv => lhs; whnf) ty38 (by exact rfl))) (by decide) ?_
  refine ao_cons (acts_of rfl (do_buildSlice (xs := List.map enc37 [a1]) ty32 ty38 rfl rfl rfl rfl rfl rfl rfl rfl)) (by decide) ?_
  refine ao_cons (acts_of rfl (does_assign (v := .own 11 0) (by exact rfl))) (by decide) ?_
  refine ao_nil_n ?_
  refine hK2 _ ?_
  obtain ⟨q3, h, hk4⟩ := bnd_some h
  refine aw_cut (fun s => ∃ (v7_s_0 : List Verdict), memo_Put_k0 a2 v7_s_0 = some r ∧ s = lit [(2, .int .i64 a2), (7, .own 11 0)] [((11, 0), .arr 38 3 false (List.map enc37 v7_s_0))] [(11, 1)] X) ?_ ?_
  · skip
    refine aw_seq_k (fun K5 hK5 => ?_)
    refine aw_reg ?_
    refine ao_cons (acts_of rfl (does_move (v := .sl 3 (List.map enc37 a0)) (by exact rfl))) (by decide) ?_
    refine ao_cons (acts_of rfl ((does_len_sl (by conv => lhs; whnf) ty32).castp (v' := .int .i64 (List.length a0 : Int)) (by exact len_map _))) (by decide) ?_
    refine ao_cons (acts_of rfl (does_move (v := .int .i64 0) (by exact rfl))) (by decide) ?_
    refine ao_nil_n ?_
    refine hK5 _ ?_
    refine aw_block ?_
    refine aw_loop' (fun m s => ∃ (v7_s_1 : List Verdict), ∃ (v14_1 : Int), loopN (fun (s : List Verdict × Int) => memo_Put_l1 a0 a1 s.1 s.2) m (v7_s_1, v14_1) = some q3 ∧ s = lit [(2, .int .i64 a2), (4, .ptr 4 0 0), (7, .own 11 0), (12, .sl 3 (List.map enc37 a0)), (13, .int .i64 (List.length a0 : Int)), (14, .int .i64 v14_1)] [((4, 0), .box [.int .u64 a1.Trace.Hi, .int .u64 a1.Trace.Lo, .bool a1.Kept]), ((11, 0), .arr 38 3 false (List.map enc37 v7_s_1))] [(4, 1), (11, 1)] X) Fu
      ⟨_, reb_lit [(2, .int .i64 a2), (4, .ptr 4 0 0), (7, .own 11 0), (12, .sl 3 (List.map enc37 a0)), (13, .int .i64 (List.length a0 : Int)), (14, .int .i64 (0))] [(4, 0), (11, 0)] [((4, 0), .box [.int .u64 a1.Trace.Hi, .int .u64 a1.Trace.Lo, .bool a1.Kept]), ((11, 0), .arr 38 3 false (List.map enc37 [a1]))] [(4, 1), (11, 1)] (envOk_cons (by conv => lhs; whnf) (by exact rfl) (envOk_cons (by conv => lhs; whnf) (by exact rfl) (envOk_cons (by conv => lhs; whnf) (by exact rfl) (envOk_cons (by conv => lhs; whnf) (by exact rfl) (envOk_cons (by conv => lhs; whnf) (by exact rfl) (envOk_cons (by conv => lhs; whnf) (by exact rfl) envOk_nil)))))) (objOk_cons (by conv => lhs; whnf) (by conv => lhs; whnf) (by exact rfl) (by simp) (objOk_cons (by conv => lhs; whnf) (by conv => lhs; whnf) (by exact rfl) (by simp) objOk_nil)) (nodup_b rfl) (nodup_b rfl) rfl rfl, [a1], 0, h, rfl⟩ ?_
    rintro m s ⟨v7_s_1, v14_1, h, rfl⟩
    obtain ⟨m1, q6, rfl, h, hq7⟩ := loop_some h
    replace h : memo_Put_l1 a0 a1 v7_s_1 v14_1 = some q6 := h
    unfold memo_Put_l1 at h
    refine aw_seq_k (fun K8 hK8 => ?_)
    refine aw_reg ?_
    refine ao_cons (acts_of rfl (does_bin (v := .bool (decide (v14_1 < (List.length a0 : Int)))) (by conv => lhs; whnf) (by conv => lhs; whnf) rfl)) (by decide) ?_
    refine ao_nil_n ?_
    refine hK8 _ ?_
    refine aw_seq_k (fun K9 hK9 => ?_)
    refine aw_bool (b := (decide (v14_1 < (List.length a0 : Int)))) 15 rfl (fun c10 => ?_) (fun c10 => ?_)
    · have h := ifT c10 h
      refine aw_cond_t (by decide) rfl ?_
      refine aw_skip ?_
      refine hK9 _ ?_
      refine aw_seq_k (fun K11 hK11 => ?_)
      refine aw_block ?_
      refine aw_seq_k (fun K12 hK12 => ?_)
      refine aw_reg ?_
      obtain ⟨g13, h⟩ := gd_some h
      obtain ⟨x14, hx14, h⟩ := bnd_some h
      refine ao_cons (acts_of rfl (does_indexAddr_sl (el := .agg [.int .u64 x14.Trace.Hi, .int .u64 x14.Trace.Lo, .bool x14.Kept]) (by conv => lhs; whnf) (by conv => lhs; whnf) ty32 ty38 g13 (by exact map_get hx14))) (by decide) ?_
      refine ao_cons (acts_of rfl (does_load (v := .agg [.int .u64 x14.Trace.Hi, .int .u64 x14.Trace.Lo, .bool x14.Kept]) (by conv => lhs; whnf) (by conv => lhs; whnf) ty38 (by exact rfl))) (by decide) ?_
      refine ao_cons (acts_of rfl (do_new ty38 rfl rfl)) (by decide) ?_
      refine ao_cons (acts_of rfl (do_store (cs' := [.int .u64 x14.Trace.Hi, .int .u64 x14.Trace.Lo, .bool x14.Kept]) (by conv => lhs; whnf) (by conv => lhs; whnf) (by conv => lhs; whnf) ty38 rfl rfl rfl (by exact rfl))) (by decide) ?_
      refine ao_nil_n ?_
      refine hK12 _ ?_
      refine aw_seq_k (fun K15 hK15 => ?_)
      refine aw_reg ?_
      refine ao_cons (acts_of rfl (does_fieldAddr (q := .ptr 9 0 0) (by conv => lhs; whnf) ty38 rfl ty35 (by decide) (by exact rfl))) (by decide) ?_
      refine ao_cons (acts_of rfl (does_load (v := .agg [.int .u64 x14.Trace.Hi, .int .u64 x14.Trace.Lo]) (by conv => lhs; whnf) (by conv => lhs; whnf) ty35 (by exact rfl))) (by decide) ?_
      refine ao_cons (acts_of rfl (does_fieldAddr (q := .ptr 4 0 0) (by conv => lhs; whnf) ty38 rfl ty35 (by decide) (by exact rfl))) (by decide) ?_
      refine ao_cons (acts_of rfl (does_load (v := .agg [.int .u64 a1.Trace.Hi, .int .u64 a1.Trace.Lo]) (by conv => lhs; whnf) (by conv => lhs; whnf) ty35 (by exact rfl))) (by decide) ?_
      refine ao_cons (acts_of rfl (does_eq_struct (v := .bool (!((x14.Trace.Hi == a1.Trace.Hi) && ((x14.Trace.Lo == a1.Trace.Lo) && true)))) (by conv => lhs; whnf) (by conv => lhs; whnf) fk35 rfl ag35 eg35 (by conv => lhs; whnf) rfl)) (by decide) ?_
      refine ao_nil_n ?_
      refine hK15 _ ?_
      refine aw_bool (b := (!((x14.Trace.Hi == a1.Trace.Hi) && ((x14.Trace.Lo == a1.Trace.Lo) && true)))) 22 rfl (fun c16 => ?_) (fun c16 => ?_)
      · have h := ifT c16 h
        refine aw_cond_t (by decide) rfl ?_
        refine aw_reg ?_
        refine ao_cons (acts_of rfl (does_move (v := .own 11 0) (by exact rfl))) (by decide) ?_
        refine ao_cons (acts_of rfl (does_load (v := .agg [.int .u64 x14.Trace.Hi, .int .u64 x14.Trace.Lo, .bool x14.Kept]) (by conv => lhs; whnf) (by conv => lhs; whnf) ty38 (by exact rfl))) (by decide) ?_
        refine ao_cons (acts_of rfl (do_buildSlice (xs := List.map enc37 [x14]) ty32 ty38 rfl rfl rfl rfl rfl rfl rfl rfl)) (by decide) ?_
        obtain ⟨g17, h⟩ := gd_some h
        refine ao_cons (acts_of rfl (do_append (v := List.map enc37 (v7_s_1 ++ [x14])) (by conv => lhs; whnf) (by conv => lhs; whnf) ty32 ty38 rfl rfl (by conv => lhs; whnf) (by first | exact .inl rfl | exact .inr ⟨rfl, rfl⟩) (by conv => lhs; whnf) (by first | exact .inr rfl | exact .inl rfl) (map_app _ _) (fit_map g17))) (by decide) ?_
        refine ao_cons (acts_of rfl (does_assign (v := .own 26 0) (by exact rfl))) (by decide) ?_
        refine ao_nil_n ?_
        refine hK11 _ ?_
        refine aw_reg ?_
        refine ao_cons (acts_of rfl (does_bin (v := .int .i64 (IntKind.i64.wrap (v14_1 + 1))) (by conv => lhs; whnf) (by conv => lhs; whnf) rfl)) (by decide) ?_
        refine ao_cons (acts_of rfl (does_move (v := .int .i64 (IntKind.i64.wrap (v14_1 + 1))) (by exact rfl))) (by decide) ?_
        refine ao_nil_n ?_
        have h := leafL h hq7
        exact ⟨m1, Nat.lt_succ_self _, _, reb_lit [(2, .int .i64 a2), (4, .ptr 4 0 0), (7, .own 11 0), (12, .sl 3 (List.map enc37 a0)), (13, .int .i64 (List.length a0 : Int)), (14, .int .i64 (IntKind.i64.wrap (v14_1 + 1)))] [(4, 0), (26, 0)] [((4, 0), .box [.int .u64 a1.Trace.Hi, .int .u64 a1.Trace.Lo, .bool a1.Kept]), ((11, 0), .arr 38 3 false (List.map enc37 (v7_s_1 ++ [x14])))] [(4, 1), (11, 1)] (envOk_cons (by conv => lhs; whnf) (by exact rfl) (envOk_cons (by conv => lhs; whnf) (by exact rfl) (envOk_cons (by conv => lhs; whnf) (by exact rfl) (envOk_cons (by conv => lhs; whnf) (by exact rfl) (envOk_cons (by conv => lhs; whnf) (by exact rfl) (envOk_cons (by conv => lhs; whnf) (by exact rfl) envOk_nil)))))) (objOk_cons (by conv => lhs; whnf) (by conv => lhs; whnf) (by exact rfl) (by simp) (objOk_cons (by conv => lhs; whnf) (by conv => lhs; whnf) (by exact rfl) (by simp) objOk_nil)) (nodup_b rfl) (nodup_b rfl) rfl rfl, (v7_s_1 ++ [x14]), (IntKind.i64.wrap (v14_1 + 1)), h, rfl⟩
      · have h := ifF c16 h
        refine aw_cond_f (by decide) rfl ?_
        refine aw_skip ?_
        refine hK11 _ ?_
        refine aw_reg ?_
        refine ao_cons (acts_of rfl (does_bin (v := .int .i64 (IntKind.i64.wrap (v14_1 + 1))) (by conv => lhs; whnf) (by conv => lhs; whnf) rfl)) (by decide) ?_
        refine ao_cons (acts_of rfl (does_move (v := .int .i64 (IntKind.i64.wrap (v14_1 + 1))) (by exact rfl))) (by decide) ?_
        refine ao_nil_n ?_
        have h := leafL h hq7
        exact ⟨m1, Nat.lt_succ_self _, _, reb_lit [(2, .int .i64 a2), (4, .ptr 4 0 0), (7, .own 11 0), (12, .sl 3 (List.map enc37 a0)), (13, .int .i64 (List.length a0 : Int)), (14, .int .i64 (IntKind.i64.wrap (v14_1 + 1)))] [(4, 0), (11, 0)] [((4, 0), .box [.int .u64 a1.Trace.Hi, .int .u64 a1.Trace.Lo, .bool a1.Kept]), ((11, 0), .arr 38 3 false (List.map enc37 v7_s_1))] [(4, 1), (11, 1)] (envOk_cons (by conv => lhs; whnf) (by exact rfl) (envOk_cons (by conv => lhs; whnf) (by exact rfl) (envOk_cons (by conv => lhs; whnf) (by exact rfl) (envOk_cons (by conv => lhs; whnf) (by exact rfl) (envOk_cons (by conv => lhs; whnf) (by exact rfl) (envOk_cons (by conv => lhs; whnf) (by exact rfl) envOk_nil)))))) (objOk_cons (by conv => lhs; whnf) (by conv => lhs; whnf) (by exact rfl) (by simp) (objOk_cons (by conv => lhs; whnf) (by conv => lhs; whnf) (by exact rfl) (by simp) objOk_nil)) (nodup_b rfl) (nodup_b rfl) rfl rfl, v7_s_1, (IntKind.i64.wrap (v14_1 + 1)), h, rfl⟩
    · have h := ifF c10 h
      refine aw_cond_f (by decide) rfl ?_
      refine aw_exit ?_
      have h := leafR h hq7
      obtain rfl := Option.some.inj h
      have h := hk4
      exact ⟨_, reb_lit [(2, .int .i64 a2), (7, .own 11 0)] [(11, 0)] [((11, 0), .arr 38 3 false (List.map enc37 v7_s_1))] [(11, 1)] (envOk_cons (by conv => lhs; whnf) (by exact rfl) (envOk_cons (by conv => lhs; whnf) (by exact rfl) envOk_nil)) (objOk_cons (by conv => lhs; whnf) (by conv => lhs; whnf) (by exact rfl) (by simp) objOk_nil) (nodup_b rfl) (nodup_b rfl) rfl rfl, v7_s_1, h, rfl⟩
  · rintro s ⟨v7_s_0, h, rfl⟩
    unfold memo_Put_k0 at h
    refine aw_seq_k (fun K18 hK18 => ?_)
    refine aw_reg ?_
    refine ao_cons (acts_of rfl (does_move (v := .own 11 0) (by exact rfl))) (by decide) ?_
    refine ao_cons (acts_of rfl (does_move (v := .own 11 0) (by exact rfl))) (by decide) ?_
    refine ao_cons (acts_of rfl ((does_len_own (by conv => lhs; whnf) (by conv => lhs; whnf) ty32).cast (v' := .int .i64 (List.length v7_s_0 : Int)) (by exact len_map _))) (by decide) ?_
    refine ao_cons (acts_of rfl (does_move (v := .int .i64 a2) (by exact rfl))) (by decide) ?_
    refine ao_cons (acts_of rfl ((does_min (by conv => lhs; whnf) (by conv => lhs; whnf)).castp (v' := .int .i64 (if a2 < (List.length v7_s_0 : Int) then a2 else (List.length v7_s_0 : Int))) rfl)) (by decide) ?_
    refine ao_cons (acts_of rfl ((does_max (by conv => lhs; whnf) (by conv => lhs; whnf)).castp (v' := .int .i64 (if (if a2 < (List.length v7_s_0 : Int) then a2 else (List.length v7_s_0 : Int)) > 0 then (if a2 < (List.length v7_s_0 : Int) then a2 else (List.length v7_s_0 : Int)) else 0)) rfl)) (by decide) ?_
    obtain ⟨g19, h⟩ := gd_some h
    obtain ⟨g20, h⟩ := gd_some h
    refine ao_cons (acts_of rfl (does_frz (d := 11) (n := 0) (by conv => lhs; whnf) (does_slice_own (l := 0) (k := (Int.toNat (if (if a2 < (List.length v7_s_0 : Int) then a2 else (List.length v7_s_0 : Int)) > 0 then (if a2 < (List.length v7_s_0 : Int) then a2 else (List.length v7_s_0 : Int)) else 0))) (by conv => lhs; whnf) (by conv => lhs; whnf) ty32 ty38 bd_none (bd_some (by conv => lhs; whnf) (by exact (nat_of (by omega)))) (by (try simp only [List.length_map]); omega) (by (try simp only [List.length_map]); omega) (by exact part_h _ _)))) (by decide) ?_
    refine ao_cons (acts_of rfl (does_assign (v := .sl 3 (List.map enc37 (List.take (Int.toNat (if (if a2 < (List.length v7_s_0 : Int) then a2 else (List.length v7_s_0 : Int)) > 0 then (if a2 < (List.length v7_s_0 : Int) then a2 else (List.length v7_s_0 : Int)) else 0)) v7_s_0))) (by exact rfl))) (by decide) ?_
    refine ao_nil_n ?_
    refine hK18 _ ?_
    refine aw_ret ?_
    obtain rfl := Option.some.inj h
    exact ret_ok1 (by conv => lhs; whnf) (by conv => lhs; whnf) (by exact rfl) (.inr rfl) rfl
def gleaninglaw17_alive : Option Bool :=
  Option.bind (memo_Find [] (Trace.mk 0 0)) (fun (x3 : Bool × Bool) => Option.bind (memo_Put [] (Verdict.mk (Trace.mk 0 0) true) 3) (fun (x5 : List Verdict) => Option.bind (memo_Find x5 (Trace.mk 0 0)) (fun (x7 : Bool × Bool) => if (!x3.2) = true then (if ((List.length x5 : Int) == 1) = true then (if x7.1 = true then (some x7.2) else (some false)) else (some false)) else (some false))))
set_option maxRecDepth 100000 in
set_option maxHeartbeats 8000000 in
/-- gleaning/gleaninglaw17.alive -/
theorem gleaninglaw17_alive_ok {r : Bool} (h : gleaninglaw17_alive = some r) : Ok Try.prog 20 [] [] [] (.bool r) [] [] := by
  unfold gleaninglaw17_alive at h
  refine ok_of_code Try.func20 rfl (by show (0 : Nat) ≤ _; decide) (Nat.le_refl _) fun X => ?_
  refine aw_seq_k (fun K1 hK1 => ?_)
  refine aw_reg ?_
  refine ao_cons (acts_of rfl (does_assign (v := .bool false) (by exact rfl))) (by decide) ?_
  refine ao_nil_n ?_
  refine hK1 _ ?_
  refine aw_seq_k (fun K2 hK2 => ?_)
  refine aw_reg ?_
  refine ao_cons (acts_of rfl (do_build_struct (cs := [.int .u64 0, .int .u64 0]) ty35 rfl [⟨.int .u64, 1, 8, [.int .u64 0]⟩, ⟨.int .u64, 1, 8, [.int .u64 0]⟩] (by simp only [List.map, ty33]) (by rfl) (by exact rfl))) (by decide) ?_
  obtain ⟨x3, hx3, h⟩ := bnd_some h
  refine ao_cons (acts_of rfl (do_call0 8 false ((memo_Find_ok [] (Trace.mk 0 0) hx3).weak (args' := [.nil, _]) ⟨le_nil _, le_refl _, trivial⟩) rfl ent24 rfl rfl)) (by decide) ?_
  refine ao_cons (acts_of rfl (does_move (v := .tup [.bool x3.1, .bool x3.2]) (by exact rfl))) (by decide) ?_
  refine ao_cons (acts_of rfl (does_extract (v := .bool x3.1) (by conv => lhs; whnf) (by exact rfl))) (by decide) ?_
  refine ao_cons (acts_of rfl (does_extract (v := .bool x3.2) (by conv => lhs; whnf) (by exact rfl))) (by decide) ?_
  refine ao_cons (acts_of rfl (does_assign (v := .bool x3.1) (by exact rfl))) (by decide) ?_
  refine ao_cons (acts_of rfl (does_assign (v := .bool x3.2) (by exact rfl))) (by decide) ?_
  refine ao_nil_n ?_
  refine hK2 _ ?_
  refine aw_seq_k (fun K4 hK4 => ?_)
  refine aw_reg ?_
  refine ao_cons (acts_of rfl (do_build_struct (cs := [.int .u64 0, .int .u64 0, .bool true]) ty38 rfl [⟨.struct [(0, 33), (1, 33)], 2, 16, [.int .u64 0, .int .u64 0]⟩, ⟨.bool, 1, 1, [.bool false]⟩] (by simp only [List.map, ty35, ty4]) (by rfl) (by exact rfl))) (by decide) ?_
  obtain ⟨x5, hx5, h⟩ := bnd_some h
  refine ao_cons (acts_of rfl (do_call0 12 false ((memo_Put_ok [] (Verdict.mk (Trace.mk 0 0) true) 3 hx5).weak (args' := [.nil, _, _]) ⟨le_nil _, le_refl _, le_refl _, trivial⟩) rfl ent21 rfl rfl)) (by decide) ?_
  refine ao_cons (acts_of rfl (does_assign (v := .sl 3 (List.map enc37 x5)) (by exact rfl))) (by decide) ?_
  refine ao_nil_n ?_
  refine hK4 _ ?_
  refine aw_seq_k (fun K6 hK6 => ?_)
  refine aw_reg ?_
  refine ao_cons (acts_of rfl (does_move (v := .sl 3 (List.map enc37 x5)) (by exact rfl))) (by decide) ?_
  refine ao_cons (acts_of rfl (do_build_struct (cs := [.int .u64 0, .int .u64 0]) ty35 rfl [⟨.int .u64, 1, 8, [.int .u64 0]⟩, ⟨.int .u64, 1, 8, [.int .u64 0]⟩] (by simp only [List.map, ty33]) (by rfl) (by exact rfl))) (by decide) ?_
  obtain ⟨x7, hx7, h⟩ := bnd_some h
  refine ao_cons (acts_of rfl (do_call0 16 false (memo_Find_ok x5 (Trace.mk 0 0) hx7) rfl ent24 rfl rfl)) (by decide) ?_
  refine ao_cons (acts_of rfl (does_move (v := .tup [.bool x7.1, .bool x7.2]) (by exact rfl))) (by decide) ?_
  refine ao_cons (acts_of rfl (does_extract (v := .bool x7.1) (by conv => lhs; whnf) (by exact rfl))) (by decide) ?_
  refine ao_cons (acts_of rfl (does_extract (v := .bool x7.2) (by conv => lhs; whnf) (by exact rfl))) (by decide) ?_
  refine ao_cons (acts_of rfl (does_assign (v := .bool x7.1) (by exact rfl))) (by decide) ?_
  refine ao_cons (acts_of rfl (does_assign (v := .bool x7.2) (by exact rfl))) (by decide) ?_
  refine ao_nil_n ?_
  refine hK6 _ ?_
  refine aw_seq_k (fun K8 hK8 => ?_)
  refine aw_reg ?_
  refine ao_cons (acts_of rfl (does_move (v := .bool x3.2) (by exact rfl))) (by decide) ?_
  refine ao_cons (acts_of rfl (does_un (v := .bool (!x3.2)) (by conv => lhs; whnf) rfl)) (by decide) ?_
  refine ao_cons (acts_of rfl (does_move (v := .bool (!x3.2)) (by exact rfl))) (by decide) ?_
  refine ao_bool (c := (!x3.2)) 21 rfl (fun c9 => ?_) (fun c9 => ?_)
  · have h := ifT c9 h
    refine ao_cons (acts_of rfl (does_move (v := .sl 3 (List.map enc37 x5)) (by exact rfl))) (by decide) ?_
    refine ao_cons (acts_of rfl ((does_len_sl (by conv => lhs; whnf) ty32).castp (v' := .int .i64 (List.length x5 : Int)) (by exact len_map _))) (by decide) ?_
    refine ao_cons (acts_of rfl (does_bin (v := .bool ((List.length x5 : Int) == 1)) (by conv => lhs; whnf) (by conv => lhs; whnf) rfl)) (by decide) ?_
    refine ao_cons (acts_of rfl (does_pick (v := .bool ((List.length x5 : Int) == 1)) (by conv => lhs; whnf) (by exact rfl))) (by decide) ?_
    refine ao_cons (acts_of rfl (does_move (v := .bool ((List.length x5 : Int) == 1)) (by exact rfl))) (by decide) ?_
    refine ao_bool (c := ((List.length x5 : Int) == 1)) 26 rfl (fun c10 => ?_) (fun c10 => ?_)
    · have h := ifT c10 h
      refine ao_cons (acts_of rfl (does_move (v := .bool x7.1) (by exact rfl))) (by decide) ?_
      refine ao_cons (acts_of rfl (does_pick (v := .bool x7.1) (by conv => lhs; whnf) (by exact rfl))) (by decide) ?_
      refine ao_cons (acts_of rfl (does_move (v := .bool x7.1) (by exact rfl))) (by decide) ?_
      refine ao_bool (c := x7.1) 29 rfl (fun c11 => ?_) (fun c11 => ?_)
      · have h := ifT c11 h
        refine ao_cons (acts_of rfl (does_move (v := .bool x7.2) (by exact rfl))) (by decide) ?_
        refine ao_cons (acts_of rfl (does_pick (v := .bool x7.2) (by conv => lhs; whnf) (by exact rfl))) (by decide) ?_
        refine ao_cons (acts_of rfl (does_assign (v := .bool x7.2) (by exact rfl))) (by decide) ?_
        refine ao_nil_n ?_
        refine hK8 _ ?_
        refine aw_ret ?_
        obtain rfl := Option.some.inj h
        exact ret_ok1 (by conv => lhs; whnf) (by conv => lhs; whnf) (by exact rfl) (.inr rfl) rfl
      · have h := ifF c11 h
        refine ao_cons (acts_skip rfl) (by decide) ?_
        refine ao_cons (acts_of rfl (does_pick (v := .bool false) (by conv => lhs; whnf) (by exact rfl))) (by decide) ?_
        refine ao_cons (acts_of rfl (does_assign (v := .bool false) (by exact rfl))) (by decide) ?_
        refine ao_nil_n ?_
        refine hK8 _ ?_
        refine aw_ret ?_
        obtain rfl := Option.some.inj h
        exact ret_ok1 (by conv => lhs; whnf) (by conv => lhs; whnf) (by exact rfl) (.inr rfl) rfl
    · have h := ifF c10 h
      refine ao_cons (acts_skip rfl) (by decide) ?_
      refine ao_cons (acts_of rfl (does_pick (v := .bool false) (by conv => lhs; whnf) (by exact rfl))) (by decide) ?_
      refine ao_cons (acts_of rfl (does_move (v := .bool false) (by exact rfl))) (by decide) ?_
      refine ao_cons (acts_skip rfl) (by decide) ?_
      refine ao_cons (acts_of rfl (does_pick (v := .bool false) (by conv => lhs; whnf) (by exact rfl))) (by decide) ?_
      refine ao_cons (acts_of rfl (does_assign (v := .bool false) (by exact rfl))) (by decide) ?_
      refine ao_nil_n ?_
      refine hK8 _ ?_
      refine aw_ret ?_
      obtain rfl := Option.some.inj h
      exact ret_ok1 (by conv => lhs; whnf) (by conv => lhs; whnf) (by exact rfl) (.inr rfl) rfl
  · have h := ifF c9 h
    refine ao_cons (acts_skip rfl) (by decide) ?_
    refine ao_cons (acts_skip rfl) (by decide) ?_
    refine ao_cons (acts_skip rfl) (by decide) ?_
    refine ao_cons (acts_of rfl (does_pick (v := .bool false) (by conv => lhs; whnf) (by exact rfl))) (by decide) ?_
    refine ao_cons (acts_of rfl (does_move (v := .bool false) (by exact rfl))) (by decide) ?_
    refine ao_cons (acts_skip rfl) (by decide) ?_
    refine ao_cons (acts_of rfl (does_pick (v := .bool false) (by conv => lhs; whnf) (by exact rfl))) (by decide) ?_
    refine ao_cons (acts_of rfl (does_move (v := .bool false) (by exact rfl))) (by decide) ?_
    refine ao_cons (acts_skip rfl) (by decide) ?_
    refine ao_cons (acts_of rfl (does_pick (v := .bool false) (by conv => lhs; whnf) (by exact rfl))) (by decide) ?_
    refine ao_cons (acts_of rfl (does_assign (v := .bool false) (by exact rfl))) (by decide) ?_
    refine ao_nil_n ?_
    refine hK8 _ ?_
    refine aw_ret ?_
    obtain rfl := Option.some.inj h
    exact ret_ok1 (by conv => lhs; whnf) (by conv => lhs; whnf) (by exact rfl) (.inr rfl) rfl
def gleaninglaw17_MemoLast_l2 (a0 : List Int) (a1 : List Bool) (a2 : Int) (v8_2 : List Verdict) (v9_2 : Int) : Option ((List Verdict × Int) ⊕ (List Verdict)) :=
  if (decide (v9_2 < (List.length a0 : Int))) = true then (gd (0 ≤ v9_2) (Option.bind (a0[(Int.toNat v9_2)]?) (fun (x28 : Int) => gd (0 ≤ v9_2) (Option.bind (a1[(Int.toNat v9_2)]?) (fun (x30 : Bool) => Option.bind (memo_Put v8_2 (Verdict.mk (Trace.mk 0 (IntKind.u64.wrap (bits .and .i64 x28 31))) x30) a2) (fun (x31 : List Verdict) => some (Sum.inl (x31, (IntKind.i64.wrap (v9_2 + 1)))))))))) else (some (Sum.inr v8_2))
def gleaninglaw17_MemoLast_l4 (a0 : List Int) (a1 : List Bool) (a2 : Int) (v8_1 : List Verdict) (v10_4 : Int) (v11_s_4 : List Bool) (v12_4 : Int) : Option ((Int × List Bool × Int) ⊕ (Int ⊕ Bool)) :=
  if (decide ((0 : Int) ≤ v12_4)) = true then (gd (0 ≤ v12_4) (Option.bind (a0[(Int.toNat v12_4)]?) (fun (x45 : Int) => gd (0 ≤ (bits .and .i64 x45 31)) (gd ((bits .and .i64 x45 31) < 32) (Option.bind (v11_s_4[(Int.toNat (bits .and .i64 x45 31))]?) (fun (x50 : Bool) => if x50 = true then (some (Sum.inl (v10_4, v11_s_4, (IntKind.i64.wrap (v12_4 - 1))))) else (gd (0 ≤ (bits .and .i64 x45 31)) (gd ((bits .and .i64 x45 31) < 32) (Option.bind (v11_s_4[(Int.toNat (bits .and .i64 x45 31))]?) (fun (x55 : Bool) => if (decide (v10_4 < a2)) = true then (if (decide ((List.length v8_1 : Int) ≤ v10_4)) = true then (some (Sum.inr (Sum.inr false))) else (gd (0 ≤ v10_4) (Option.bind (v8_1[(Int.toNat v10_4)]?) (fun (x63 : Verdict) => gd (0 ≤ v12_4) (Option.bind (a1[(Int.toNat v12_4)]?) (fun (x65 : Bool) => if (!((x63.Trace.Hi == 0) && ((x63.Trace.Lo == (IntKind.u64.wrap (bits .and .i64 x45 31))) && ((x63.Kept == x65) && true)))) = true then (some (Sum.inr (Sum.inr false))) else (some (Sum.inl ((IntKind.i64.wrap (v10_4 + 1)), (List.set v11_s_4 (Int.toNat (bits .and .i64 x45 31)) true), (IntKind.i64.wrap (v12_4 - 1))))))))))) else (some (Sum.inl ((IntKind.i64.wrap (v10_4 + 1)), (List.set v11_s_4 (Int.toNat (bits .and .i64 x45 31)) true), (IntKind.i64.wrap (v12_4 - 1))))))))))))))) else (some (Sum.inr (Sum.inl v10_4)))
def gleaninglaw17_MemoLast_k5 (v8_1 : List Verdict) (v10_5 : Int) : Option Bool :=
  some ((List.length v8_1 : Int) == v10_5)
def gleaninglaw17_MemoLast_k3 (a2 : Int) (v8_1 : List Verdict) (v10_3 : Int) : Option Bool :=
  Option.bind (if (decide (a2 < v10_3)) = true then (some a2) else (some v10_3)) (fun (s : Int) => gleaninglaw17_MemoLast_k5 v8_1 s)
def gleaninglaw17_MemoLast_k1 (a0 : List Int) (a1 : List Bool) (a2 : Int) (v8_1 : List Verdict) : Option Bool :=
  Option.bind (loopN (fun (s : Int × List Bool × Int) => gleaninglaw17_MemoLast_l4 a0 a1 a2 v8_1 s.1 s.2.1 s.2.2) Fu (0, (List.replicate 32 false), (IntKind.i64.wrap ((List.length a0 : Int) - 1)))) (Sum.elim (fun (s : Int) => gleaninglaw17_MemoLast_k3 a2 v8_1 s) some)
def gleaninglaw17_MemoLast_k0 (a0 : List Int) (a1 : List Bool) (a2 : Int) : Option Bool :=
  Option.bind (loopN (fun (s : List Verdict × Int) => gleaninglaw17_MemoLast_l2 a0 a1 a2 s.1 s.2) Fu ([], 0)) (fun (s : List Verdict) => gleaninglaw17_MemoLast_k1 a0 a1 a2 s)
def gleaninglaw17_MemoLast (a0 : List Int) (a1 : List Bool) (a2 : Int) : Option Bool :=
  Option.bind (gleaninglaw17_alive) (fun (x3 : Bool) => Option.bind (if (!x3) = true then (some (Sum.inr x3)) else (if (decide ((80 : Int) < (List.length a0 : Int))) = true then (some (Sum.inr x3)) else (if (decide ((List.length a1 : Int) < (List.length a0 : Int))) = true then (some (Sum.inr x3)) else (if (decide (a2 < 0)) = true then (some (Sum.inr x3)) else (if (decide ((40 : Int) < a2)) = true then (some (Sum.inr x3)) else (some (Sum.inl ()))))))) (Sum.elim (fun (s : Unit) => gleaninglaw17_MemoLast_k0 a0 a1 a2) some))
set_option maxRecDepth 100000 in
set_option maxHeartbeats 8000000 in
/-- gleaning/gleaninglaw17.MemoLast -/
theorem gleaninglaw17_MemoLast_ok (a0 : List Int) (a1 : List Bool) (a2 : Int) {r : Bool} (h : gleaninglaw17_MemoLast a0 a1 a2 = some r) : Ok Try.prog 8 [.sl 1 (List.map enc2 a0), .sl 1 (List.map enc4 a1), .int .i64 a2] [] [] (.bool r) [] [] := by
  unfold gleaninglaw17_MemoLast at h
  refine ok_of_code Try.func8 rfl (by show (3 : Nat) ≤ _; decide) (Nat.le_refl _) fun X => ?_
  refine aw_seq_k (fun K1 hK1 => ?_)
  refine aw_reg ?_
  refine ao_cons (acts_of rfl (does_assign (v := .bool false) (by exact rfl))) (by decide) ?_
  refine ao_nil_n ?_
  refine hK1 _ ?_
  refine aw_seq_k (fun K2 hK2 => ?_)
  refine aw_reg ?_
  obtain ⟨x3, hx3, h⟩ := bnd_some h
  refine ao_cons (acts_of rfl (do_call0 14 false (gleaninglaw17_alive_ok hx3) rfl ent20 rfl rfl)) (by decide) ?_
  refine ao_cons (acts_of rfl (does_assign (v := .bool x3) (by exact rfl))) (by decide) ?_
  refine ao_nil_n ?_
  refine hK2 _ ?_
  obtain ⟨q4, h, hk5⟩ := bnd_some h
  refine aw_cut (fun s => gleaninglaw17_MemoLast_k0 a0 a1 a2 = some r ∧ s = lit [(0, .sl 1 (List.map enc2 a0)), (1, .sl 1 (List.map enc4 a1)), (2, .int .i64 a2)] [] [] X) ?_ ?_
  · skip
    refine aw_seq_k (fun K6 hK6 => ?_)
    refine aw_reg ?_
    refine ao_cons (acts_of rfl (does_move (v := .bool x3) (by exact rfl))) (by decide) ?_
    refine ao_cons (acts_of rfl (does_un (v := .bool (!x3)) (by conv => lhs; whnf) rfl)) (by decide) ?_
    refine ao_cons (acts_of rfl (does_move (v := .bool (!x3)) (by exact rfl))) (by decide) ?_
    refine ao_bool (c := (!x3)) 17 rfl (fun c7 => ?_) (fun c7 => ?_)
    · have h := ifT c7 h
      refine ao_cons (acts_skip rfl) (by decide) ?_
      refine ao_cons (acts_skip rfl) (by decide) ?_
      refine ao_cons (acts_skip rfl) (by decide) ?_
      refine ao_cons (acts_of rfl (does_pick (v := .bool true) (by conv => lhs; whnf) (by exact rfl))) (by decide) ?_
      refine ao_cons (acts_of rfl (does_move (v := .bool true) (by exact rfl))) (by decide) ?_
      refine ao_cons (acts_skip rfl) (by decide) ?_
      refine ao_cons (acts_skip rfl) (by decide) ?_
      refine ao_cons (acts_skip rfl) (by decide) ?_
      refine ao_cons (acts_skip rfl) (by decide) ?_
      refine ao_cons (acts_skip rfl) (by decide) ?_
      refine ao_cons (acts_of rfl (does_pick (v := .bool true) (by conv => lhs; whnf) (by exact rfl))) (by decide) ?_
      refine ao_cons (acts_of rfl (does_move (v := .bool true) (by exact rfl))) (by decide) ?_
      refine ao_cons (acts_skip rfl) (by decide) ?_
      refine ao_cons (acts_skip rfl) (by decide) ?_
      refine ao_cons (acts_of rfl (does_pick (v := .bool true) (by conv => lhs; whnf) (by exact rfl))) (by decide) ?_
      refine ao_cons (acts_of rfl (does_move (v := .bool true) (by exact rfl))) (by decide) ?_
      refine ao_cons (acts_skip rfl) (by decide) ?_
      refine ao_cons (acts_skip rfl) (by decide) ?_
      refine ao_cons (acts_of rfl (does_pick (v := .bool true) (by conv => lhs; whnf) (by exact rfl))) (by decide) ?_
      refine ao_nil_n ?_
      refine hK6 _ ?_
      refine aw_cond_t (by decide) rfl ?_
      refine aw_seq_k (fun K8 hK8 => ?_)
      refine aw_reg ?_
      refine ao_cons (acts_of rfl (does_move (v := .bool x3) (by exact rfl))) (by decide) ?_
      refine ao_cons (acts_of rfl (does_assign (v := .bool x3) (by exact rfl))) (by decide) ?_
      refine ao_nil_n ?_
      refine hK8 _ ?_
      refine aw_ret ?_
      have h := leafR h hk5
      obtain rfl := Option.some.inj h
      exact ret_ok1 (by conv => lhs; whnf) (by conv => lhs; whnf) (by exact rfl) (.inr rfl) rfl
    · have h := ifF c7 h
      refine ao_cons (acts_of rfl (does_move (v := .sl 1 (List.map enc2 a0)) (by exact rfl))) (by decide) ?_
      refine ao_cons (acts_of rfl ((does_len_sl (by conv => lhs; whnf) ty43).castp (v' := .int .i64 (List.length a0 : Int)) (by exact len_map _))) (by decide) ?_
      refine ao_cons (acts_of rfl (does_bin (v := .bool (decide ((80 : Int) < (List.length a0 : Int)))) (by conv => lhs; whnf) (by conv => lhs; whnf) rfl)) (by decide) ?_
      refine ao_cons (acts_of rfl (does_pick (v := .bool (decide ((80 : Int) < (List.length a0 : Int)))) (by conv => lhs; whnf) (by exact rfl))) (by decide) ?_
      refine ao_cons (acts_of rfl (does_move (v := .bool (decide ((80 : Int) < (List.length a0 : Int)))) (by exact rfl))) (by decide) ?_
      refine ao_bool (c := (decide ((80 : Int) < (List.length a0 : Int)))) 22 rfl (fun c9 => ?_) (fun c9 => ?_)
      · have h := ifT c9 h
        refine ao_cons (acts_skip rfl) (by decide) ?_
        refine ao_cons (acts_skip rfl) (by decide) ?_
        refine ao_cons (acts_skip rfl) (by decide) ?_
        refine ao_cons (acts_skip rfl) (by decide) ?_
        refine ao_cons (acts_skip rfl) (by decide) ?_
        refine ao_cons (acts_of rfl (does_pick (v := .bool true) (by conv => lhs; whnf) (by exact rfl))) (by decide) ?_
        refine ao_cons (acts_of rfl (does_move (v := .bool true) (by exact rfl))) (by decide) ?_
        refine ao_cons (acts_skip rfl) (by decide) ?_
        refine ao_cons (acts_skip rfl) (by decide) ?_
        refine ao_cons (acts_of rfl (does_pick (v := .bool true) (by conv => lhs; whnf) (by exact rfl))) (by decide) ?_
        refine ao_cons (acts_of rfl (does_move (v := .bool true) (by exact rfl))) (by decide) ?_
        refine ao_cons (acts_skip rfl) (by decide) ?_
        refine ao_cons (acts_skip rfl) (by decide) ?_
        refine ao_cons (acts_of rfl (does_pick (v := .bool true) (by conv => lhs; whnf) (by exact rfl))) (by decide) ?_
        refine ao_nil_n ?_
        refine hK6 _ ?_
        refine aw_cond_t (by decide) rfl ?_
        refine aw_seq_k (fun K10 hK10 => ?_)
        refine aw_reg ?_
        refine ao_cons (acts_of rfl (does_move (v := .bool x3) (by exact rfl))) (by decide) ?_
        refine ao_cons (acts_of rfl (does_assign (v := .bool x3) (by exact rfl))) (by decide) ?_
        refine ao_nil_n ?_
        refine hK10 _ ?_
        refine aw_ret ?_
        have h := leafR h hk5
        obtain rfl := Option.some.inj h
        exact ret_ok1 (by conv => lhs; whnf) (by conv => lhs; whnf) (by exact rfl) (.inr rfl) rfl
      · have h := ifF c9 h
        refine ao_cons (acts_of rfl (does_move (v := .sl 1 (List.map enc4 a1)) (by exact rfl))) (by decide) ?_
        refine ao_cons (acts_of rfl ((does_len_sl (by conv => lhs; whnf) ty44).castp (v' := .int .i64 (List.length a1 : Int)) (by exact len_map _))) (by decide) ?_
        refine ao_cons (acts_of rfl (does_move (v := .sl 1 (List.map enc2 a0)) (by exact rfl))) (by decide) ?_
        refine ao_cons (acts_of rfl ((does_len_sl (by conv => lhs; whnf) ty43).castp (v' := .int .i64 (List.length a0 : Int)) (by exact len_map _))) (by decide) ?_
        refine ao_cons (acts_of rfl (does_bin (v := .bool (decide ((List.length a1 : Int) < (List.length a0 : Int)))) (by conv => lhs; whnf) (by conv => lhs; whnf) rfl)) (by decide) ?_
        refine ao_cons (acts_of rfl (does_pick (v := .bool (decide ((List.length a1 : Int) < (List.length a0 : Int)))) (by conv => lhs; whnf) (by exact rfl))) (by decide) ?_
        refine ao_cons (acts_of rfl (does_move (v := .bool (decide ((List.length a1 : Int) < (List.length a0 : Int)))) (by exact rfl))) (by decide) ?_
        refine ao_bool (c := (decide ((List.length a1 : Int) < (List.length a0 : Int)))) 29 rfl (fun c11 => ?_) (fun c11 => ?_)
        · have h := ifT c11 h
          refine ao_cons (acts_skip rfl) (by decide) ?_
          refine ao_cons (acts_skip rfl) (by decide) ?_
          refine ao_cons (acts_of rfl (does_pick (v := .bool true) (by conv => lhs; whnf) (by exact rfl))) (by decide) ?_
          refine ao_cons (acts_of rfl (does_move (v := .bool true) (by exact rfl))) (by decide) ?_
          refine ao_cons (acts_skip rfl) (by decide) ?_
          refine ao_cons (acts_skip rfl) (by decide) ?_
          refine ao_cons (acts_of rfl (does_pick (v := .bool true) (by conv => lhs; whnf) (by exact rfl))) (by decide) ?_
          refine ao_nil_n ?_
          refine hK6 _ ?_
          refine aw_cond_t (by decide) rfl ?_
          refine aw_seq_k (fun K12 hK12 => ?_)
          refine aw_reg ?_
          refine ao_cons (acts_of rfl (does_move (v := .bool x3) (by exact rfl))) (by decide) ?_
          refine ao_cons (acts_of rfl (does_assign (v := .bool x3) (by exact rfl))) (by decide) ?_
          refine ao_nil_n ?_
          refine hK12 _ ?_
          refine aw_ret ?_
          have h := leafR h hk5
          obtain rfl := Option.some.inj h
          exact ret_ok1 (by conv => lhs; whnf) (by conv => lhs; whnf) (by exact rfl) (.inr rfl) rfl
        · have h := ifF c11 h
          refine ao_cons (acts_of rfl (does_move (v := .int .i64 a2) (by exact rfl))) (by decide) ?_
          refine ao_cons (acts_of rfl (does_bin (v := .bool (decide (a2 < 0))) (by conv => lhs; whnf) (by conv => lhs; whnf) rfl)) (by decide) ?_
          refine ao_cons (acts_of rfl (does_pick (v := .bool (decide (a2 < 0))) (by conv => lhs; whnf) (by exact rfl))) (by decide) ?_
          refine ao_cons (acts_of rfl (does_move (v := .bool (decide (a2 < 0))) (by exact rfl))) (by decide) ?_
          refine ao_bool (c := (decide (a2 < 0))) 33 rfl (fun c13 => ?_) (fun c13 => ?_)
          · have h := ifT c13 h
            refine ao_cons (acts_skip rfl) (by decide) ?_
            refine ao_cons (acts_skip rfl) (by decide) ?_
            refine ao_cons (acts_of rfl (does_pick (v := .bool true) (by conv => lhs; whnf) (by exact rfl))) (by decide) ?_
            refine ao_nil_n ?_
            refine hK6 _ ?_
            refine aw_cond_t (by decide) rfl ?_
            refine aw_seq_k (fun K14 hK14 => ?_)
            refine aw_reg ?_
            refine ao_cons (acts_of rfl (does_move (v := .bool x3) (by exact rfl))) (by decide) ?_
            refine ao_cons (acts_of rfl (does_assign (v := .bool x3) (by exact rfl))) (by decide) ?_
            refine ao_nil_n ?_
            refine hK14 _ ?_
            refine aw_ret ?_
            have h := leafR h hk5
            obtain rfl := Option.some.inj h
            exact ret_ok1 (by conv => lhs; whnf) (by conv => lhs; whnf) (by exact rfl) (.inr rfl) rfl
          · have h := ifF c13 h
            refine ao_cons (acts_of rfl (does_move (v := .int .i64 a2) (by exact rfl))) (by decide) ?_
            refine ao_cons (acts_of rfl (does_bin (v := .bool (decide ((40 : Int) < a2))) (by conv => lhs; whnf) (by conv => lhs; whnf) rfl)) (by decide) ?_
            refine ao_cons (acts_of rfl (does_pick (v := .bool (decide ((40 : Int) < a2))) (by conv => lhs; whnf) (by exact rfl))) (by decide) ?_
            refine ao_nil_n ?_
            refine hK6 _ ?_
            refine aw_bool (b := (decide ((40 : Int) < a2))) 36 rfl (fun c15 => ?_) (fun c15 => ?_)
            · have h := ifT c15 h
              refine aw_cond_t (by decide) rfl ?_
              refine aw_seq_k (fun K16 hK16 => ?_)
              refine aw_reg ?_
              refine ao_cons (acts_of rfl (does_move (v := .bool x3) (by exact rfl))) (by decide) ?_
              refine ao_cons (acts_of rfl (does_assign (v := .bool x3) (by exact rfl))) (by decide) ?_
              refine ao_nil_n ?_
              refine hK16 _ ?_
              refine aw_ret ?_
              have h := leafR h hk5
              obtain rfl := Option.some.inj h
              exact ret_ok1 (by conv => lhs; whnf) (by conv => lhs; whnf) (by exact rfl) (.inr rfl) rfl
            · have h := ifF c15 h
              refine aw_cond_f (by decide) rfl ?_
              refine aw_skip ?_
              have h := leafL h hk5
              exact ⟨_, reb_lit [(0, .sl 1 (List.map enc2 a0)), (1, .sl 1 (List.map enc4 a1)), (2, .int .i64 a2)] [] [] [] (envOk_cons (by conv => lhs; whnf) (by exact rfl) (envOk_cons (by conv => lhs; whnf) (by exact rfl) (envOk_cons (by conv => lhs; whnf) (by exact rfl) envOk_nil))) objOk_nil (nodup_b rfl) (nodup_b rfl) rfl rfl, h, rfl⟩
  · rintro s ⟨h, rfl⟩
    unfold gleaninglaw17_MemoLast_k0 at h
    refine aw_seq_k (fun K17 hK17 => ?_)
    refine aw_reg ?_
    refine ao_cons (acts_of rfl (does_assign (v := .nil) (by exact rfl))) (by decide) ?_
    refine ao_nil_n ?_
    refine hK17 _ ?_
    obtain ⟨q18, h, hk19⟩ := bnd_some h
    refine aw_cut (fun s => ∃ (v8_1 : List Verdict), gleaninglaw17_MemoLast_k1 a0 a1 a2 v8_1 = some r ∧ s = lit [(0, .sl 1 (List.map enc2 a0)), (1, .sl 1 (List.map enc4 a1)), (2, .int .i64 a2), (8, .sl 3 (List.map enc37 v8_1))] [] [] X) ?_ ?_
    · skip
      refine aw_seq_k (fun K20 hK20 => ?_)
      refine aw_reg ?_
      refine ao_cons (acts_of rfl (does_assign (v := .int .i64 0) (by exact rfl))) (by decide) ?_
      refine ao_nil_n ?_
      refine hK20 _ ?_
      refine aw_block ?_
      refine aw_loop' (fun m s => ∃ (v8_2 : List Verdict), ∃ (v9_2 : Int), loopN (fun (s : List Verdict × Int) => gleaninglaw17_MemoLast_l2 a0 a1 a2 s.1 s.2) m (v8_2, v9_2) = some q18 ∧ s = lit [(0, .sl 1 (List.map enc2 a0)), (1, .sl 1 (List.map enc4 a1)), (2, .int .i64 a2), (8, .sl 3 (List.map enc37 v8_2)), (9, .int .i64 v9_2)] [] [] X) Fu
        ⟨_, reb_w (tl' := [(0, .sl 1 (List.map enc2 a0)), (1, .sl 1 (List.map enc4 a1)), (2, .int .i64 a2), (8, .sl 3 (List.map enc37 [])), (9, .int .i64 (0))]) (ol' := []) (reb_lit [(0, .sl 1 (List.map enc2 a0)), (1, .sl 1 (List.map enc4 a1)), (2, .int .i64 a2), (8, .nil), (9, .int .i64 (0))] [] [] [] (envOk_cons (by conv => lhs; whnf) (by exact rfl) (envOk_cons (by conv => lhs; whnf) (by exact rfl) (envOk_cons (by conv => lhs; whnf) (by exact rfl) (envOk_cons (by conv => lhs; whnf) (by exact rfl) (envOk_cons (by conv => lhs; whnf) (by exact rfl) envOk_nil))))) objOk_nil (nodup_b rfl) (nodup_b rfl) rfl rfl) ⟨rfl, le_refl _, rfl, le_refl _, rfl, le_refl _, rfl, (le_nil _), rfl, le_refl _, trivial⟩ trivial, [], 0, h, rfl⟩ ?_
      rintro m s ⟨v8_2, v9_2, h, rfl⟩
      obtain ⟨m2, q21, rfl, h, hq22⟩ := loop_some h
      replace h : gleaninglaw17_MemoLast_l2 a0 a1 a2 v8_2 v9_2 = some q21 := h
      unfold gleaninglaw17_MemoLast_l2 at h
      refine aw_seq_k (fun K23 hK23 => ?_)
      refine aw_seq_k (fun K24 hK24 => ?_)
      refine aw_reg ?_
      refine ao_cons (acts_of rfl (does_move (v := .int .i64 v9_2) (by exact rfl))) (by decide) ?_
      refine ao_cons (acts_of rfl (does_move (v := .sl 1 (List.map enc2 a0)) (by exact rfl))) (by decide) ?_
      refine ao_cons (acts_of rfl ((does_len_sl (by conv => lhs; whnf) ty43).castp (v' := .int .i64 (List.length a0 : Int)) (by exact len_map _))) (by decide) ?_
      refine ao_cons (acts_of rfl (does_bin (v := .bool (decide (v9_2 < (List.length a0 : Int)))) (by conv => lhs; whnf) (by conv => lhs; whnf) rfl)) (by decide) ?_
      refine ao_nil_n ?_
      refine hK24 _ ?_
      refine aw_bool (b := (decide (v9_2 < (List.length a0 : Int)))) 41 rfl (fun c25 => ?_) (fun c25 => ?_)
      · have h := ifT c25 h
        refine aw_cond_t (by decide) rfl ?_
        refine aw_skip ?_
        refine hK23 _ ?_
        refine aw_seq_k (fun K26 hK26 => ?_)
        refine aw_block ?_
        refine aw_regd (by kernel_rfl) (by decide +kernel) ?_
        refine ao_cons (acts_of rfl (does_move (v := .sl 3 (List.map enc37 v8_2)) (by exact rfl))) (by decide) ?_
        refine ao_cons (acts_of rfl (does_move (v := .sl 1 (List.map enc2 a0)) (by exact rfl))) (by decide) ?_
        refine ao_cons (acts_of rfl (does_move (v := .int .i64 v9_2) (by exact rfl))) (by decide) ?_
        obtain ⟨g27, h⟩ := gd_some h
        obtain ⟨x28, hx28, h⟩ := bnd_some h
        refine ao_cons (acts_of rfl (does_indexAddr_sl (el := .int .i64 x28) (by conv => lhs; whnf) (by conv => lhs; whnf) ty43 ty3 g27 (by exact map_get hx28))) (by decide) ?_
        refine ao_cons (acts_of rfl (does_load (v := .int .i64 x28) (by conv => lhs; whnf) (by conv => lhs; whnf) ty3 (by exact rfl))) (by decide) ?_
        refine ao_cons (acts_of rfl (does_bin (v := .int .i64 (bits .and .i64 x28 31)) (by conv => lhs; whnf) (by conv => lhs; whnf) rfl)) (by decide) ?_
        refine ao_cons (acts_of rfl (does_conv_int (v := .int .u64 (IntKind.u64.wrap (bits .and .i64 x28 31))) (by conv => lhs; whnf) (ty_some ty3) (ty_int ty33) rfl)) (by decide) ?_
        refine ao_cons (acts_of rfl (do_build_struct (cs := [.int .u64 0, .int .u64 (IntKind.u64.wrap (bits .and .i64 x28 31))]) ty35 rfl [⟨.int .u64, 1, 8, [.int .u64 0]⟩, ⟨.int .u64, 1, 8, [.int .u64 0]⟩] (by simp only [List.map, ty33]) (by rfl) (by exact rfl))) (by decide) ?_
        refine ao_cons (acts_of rfl (does_move (v := .sl 1 (List.map enc4 a1)) (by exact rfl))) (by decide) ?_
        refine ao_cons (acts_of rfl (does_move (v := .int .i64 v9_2) (by exact rfl))) (by decide) ?_
        obtain ⟨g29, h⟩ := gd_some h
        obtain ⟨x30, hx30, h⟩ := bnd_some h
        refine ao_cons (acts_of rfl (does_indexAddr_sl (el := .bool x30) (by conv => lhs; whnf) (by conv => lhs; whnf) ty44 ty4 g29 (by exact map_get hx30))) (by decide) ?_
        refine ao_cons (acts_of rfl (does_load (v := .bool x30) (by conv => lhs; whnf) (by conv => lhs; whnf) ty4 (by exact rfl))) (by decide) ?_
        refine ao_cons (acts_of rfl (do_build_struct (cs := [.int .u64 0, .int .u64 (IntKind.u64.wrap (bits .and .i64 x28 31)), .bool x30]) ty38 rfl [⟨.struct [(0, 33), (1, 33)], 2, 16, [.int .u64 0, .int .u64 0]⟩, ⟨.bool, 1, 1, [.bool false]⟩] (by simp only [List.map, ty35, ty4]) (by rfl) (by exact rfl))) (by decide) ?_
        refine ao_cons (acts_of rfl (does_move (v := .int .i64 a2) (by exact rfl))) (by decide) ?_
        obtain ⟨x31, hx31, h⟩ := bnd_some h
        refine ao_cons (acts_of rfl (do_call0 58 false (memo_Put_ok v8_2 (Verdict.mk (Trace.mk 0 (IntKind.u64.wrap (bits .and .i64 x28 31))) x30) a2 hx31) rfl ent21 rfl rfl)) (by decide) ?_
        refine ao_cons (acts_of rfl (does_assign (v := .sl 3 (List.map enc37 x31)) (by exact rfl))) (by decide) ?_
        refine ao_nil_d (by kernel_rfl) ?_
        refine hK26 _ ?_
        refine aw_reg ?_
        refine ao_cons (acts_of rfl (does_move (v := .int .i64 v9_2) (by exact rfl))) (by decide) ?_
        refine ao_cons (acts_of rfl (does_bin (v := .int .i64 (IntKind.i64.wrap (v9_2 + 1))) (by conv => lhs; whnf) (by conv => lhs; whnf) rfl)) (by decide) ?_
        refine ao_cons (acts_of rfl (does_assign (v := .int .i64 (IntKind.i64.wrap (v9_2 + 1))) (by exact rfl))) (by decide) ?_
        refine ao_nil_n ?_
        have h := leafL h hq22
        exact ⟨m2, Nat.lt_succ_self _, _, reb_lit [(0, .sl 1 (List.map enc2 a0)), (1, .sl 1 (List.map enc4 a1)), (2, .int .i64 a2), (8, .sl 3 (List.map enc37 x31)), (9, .int .i64 (IntKind.i64.wrap (v9_2 + 1)))] [] [] [] (envOk_cons (by conv => lhs; whnf) (by exact rfl) (envOk_cons (by conv => lhs; whnf) (by exact rfl) (envOk_cons (by conv => lhs; whnf) (by exact rfl) (envOk_cons (by conv => lhs; whnf) (by exact rfl) (envOk_cons (by conv => lhs; whnf) (by exact rfl) envOk_nil))))) objOk_nil (nodup_b rfl) (nodup_b rfl) rfl rfl, x31, (IntKind.i64.wrap (v9_2 + 1)), h, rfl⟩
      · have h := ifF c25 h
        refine aw_cond_f (by decide) rfl ?_
        refine aw_exit ?_
        have h := leafR h hq22
        obtain rfl := Option.some.inj h
        have h := hk19
        exact ⟨_, reb_lit [(0, .sl 1 (List.map enc2 a0)), (1, .sl 1 (List.map enc4 a1)), (2, .int .i64 a2), (8, .sl 3 (List.map enc37 v8_2))] [] [] [] (envOk_cons (by conv => lhs; whnf) (by exact rfl) (envOk_cons (by conv => lhs; whnf) (by exact rfl) (envOk_cons (by conv => lhs; whnf) (by exact rfl) (envOk_cons (by conv => lhs; whnf) (by exact rfl) envOk_nil)))) objOk_nil (nodup_b rfl) (nodup_b rfl) rfl rfl, v8_2, h, rfl⟩
    · rintro s ⟨v8_1, h, rfl⟩
      unfold gleaninglaw17_MemoLast_k1 at h
      refine aw_seq_k (fun K32 hK32 => ?_)
      refine aw_reg ?_
      refine ao_cons (acts_of rfl (does_assign (v := .int .i64 0) (by exact rfl))) (by decide) ?_
      refine ao_nil_n ?_
      refine hK32 _ ?_
      refine aw_seq_k (fun K33 hK33 => ?_)
      refine aw_reg ?_
      refine ao_cons (acts_of rfl (do_new ty45 rfl rfl)) (by decide) ?_
      refine ao_nil_n ?_
      refine hK33 _ ?_
      obtain ⟨q34, h, hk35⟩ := bnd_some h
      refine aw_cut (fun s => ∃ (v10_3 : Int), gleaninglaw17_MemoLast_k3 a2 v8_1 v10_3 = some r ∧ s = lit [(2, .int .i64 a2), (8, .sl 3 (List.map enc37 v8_1)), (10, .int .i64 v10_3)] [] [] X) ?_ ?_
      · skip
        refine aw_seq_k (fun K36 hK36 => ?_)
        refine aw_reg ?_
        refine ao_cons (acts_of rfl (does_move (v := .sl 1 (List.map enc2 a0)) (by exact rfl))) (by decide) ?_
        refine ao_cons (acts_of rfl ((does_len_sl (by conv => lhs; whnf) ty43).castp (v' := .int .i64 (List.length a0 : Int)) (by exact len_map _))) (by decide) ?_
        refine ao_cons (acts_of rfl (does_bin (v := .int .i64 (IntKind.i64.wrap ((List.length a0 : Int) - 1))) (by conv => lhs; whnf) (by conv => lhs; whnf) rfl)) (by decide) ?_
        refine ao_cons (acts_of rfl (does_assign (v := .int .i64 (IntKind.i64.wrap ((List.length a0 : Int) - 1))) (by exact rfl))) (by decide) ?_
        refine ao_nil_n ?_
        refine hK36 _ ?_
        refine aw_block ?_
        refine aw_loop' (fun m s => ∃ (v10_4 : Int), ∃ (v11_s_4 : List Bool), ∃ (v12_4 : Int), loopN (fun (s : Int × List Bool × Int) => gleaninglaw17_MemoLast_l4 a0 a1 a2 v8_1 s.1 s.2.1 s.2.2) m (v10_4, v11_s_4, v12_4) = some q34 ∧ s = lit [(0, .sl 1 (List.map enc2 a0)), (1, .sl 1 (List.map enc4 a1)), (2, .int .i64 a2), (8, .sl 3 (List.map enc37 v8_1)), (10, .int .i64 v10_4), (11, .ptr 11 0 0), (12, .int .i64 v12_4)] [((11, 0), .box (List.map enc4 v11_s_4))] [(11, 1)] X) Fu
          ⟨_, reb_lit [(0, .sl 1 (List.map enc2 a0)), (1, .sl 1 (List.map enc4 a1)), (2, .int .i64 a2), (8, .sl 3 (List.map enc37 v8_1)), (10, .int .i64 (0)), (11, .ptr 11 0 0), (12, .int .i64 (IntKind.i64.wrap ((List.length a0 : Int) - 1)))] [(11, 0)] [((11, 0), .box (List.map enc4 (List.replicate 32 false)))] [(11, 1)] (envOk_cons (by conv => lhs; whnf) (by exact rfl) (envOk_cons (by conv => lhs; whnf) (by exact rfl) (envOk_cons (by conv => lhs; whnf) (by exact rfl) (envOk_cons (by conv => lhs; whnf) (by exact rfl) (envOk_cons (by conv => lhs; whnf) (by exact rfl) (envOk_cons (by conv => lhs; whnf) (by exact rfl) (envOk_cons (by conv => lhs; whnf) (by exact rfl) envOk_nil))))))) (objOk_cons (by exact rfl) (renO_list (f := enc4) (l := (List.replicate 32 false)) fun _ => rfl) (by exact rfl) (by simp) objOk_nil) (nodup_b rfl) (nodup_b rfl) rfl rfl, 0, (List.replicate 32 false), (IntKind.i64.wrap ((List.length a0 : Int) - 1)), h, rfl⟩ ?_
        rintro m s ⟨v10_4, v11_s_4, v12_4, h, rfl⟩
        obtain ⟨m4, q37, rfl, h, hq38⟩ := loop_some h
        replace h : gleaninglaw17_MemoLast_l4 a0 a1 a2 v8_1 v10_4 v11_s_4 v12_4 = some q37 := h
        unfold gleaninglaw17_MemoLast_l4 at h
        refine aw_seq_k (fun K39 hK39 => ?_)
        refine aw_seq_k (fun K40 hK40 => ?_)
        refine aw_reg ?_
        refine ao_cons (acts_of rfl (does_move (v := .int .i64 v12_4) (by exact rfl))) (by decide) ?_
        refine ao_cons (acts_of rfl (does_bin (v := .bool (decide ((0 : Int) ≤ v12_4))) (by conv => lhs; whnf) (by conv => lhs; whnf) rfl)) (by decide) ?_
        refine ao_nil_n ?_
        refine hK40 _ ?_
        refine aw_bool (b := (decide ((0 : Int) ≤ v12_4))) 63 rfl (fun c41 => ?_) (fun c41 => ?_)
        · have h := ifT c41 h
          refine aw_cond_t (by decide) rfl ?_
          refine aw_skip ?_
          refine hK39 _ ?_
          refine aw_seq_k (fun K42 hK42 => ?_)
          refine aw_block ?_
          refine aw_seq_k (fun K43 hK43 => ?_)
          refine aw_reg ?_
          refine ao_cons (acts_of rfl (does_move (v := .sl 1 (List.map enc2 a0)) (by exact rfl))) (by decide) ?_
          refine ao_cons (acts_of rfl (does_move (v := .int .i64 v12_4) (by exact rfl))) (by decide) ?_
          obtain ⟨g44, h⟩ := gd_some h
          obtain ⟨x45, hx45, h⟩ := bnd_some h
          refine ao_cons (acts_of rfl (does_indexAddr_sl (el := .int .i64 x45) (by conv => lhs; whnf) (by conv => lhs; whnf) ty43 ty3 g44 (by exact map_get hx45))) (by decide) ?_
          refine ao_cons (acts_of rfl (does_load (v := .int .i64 x45) (by conv => lhs; whnf) (by conv => lhs; whnf) ty3 (by exact rfl))) (by decide) ?_
          refine ao_cons (acts_of rfl (does_bin (v := .int .i64 (bits .and .i64 x45 31)) (by conv => lhs; whnf) (by conv => lhs; whnf) rfl)) (by decide) ?_
          refine ao_cons (acts_of rfl (does_assign (v := .int .i64 (bits .and .i64 x45 31)) (by exact rfl))) (by decide) ?_
          refine ao_nil_n ?_
          refine hK43 _ ?_
          refine aw_seq_k (fun K46 hK46 => ?_)
          refine aw_seq_k (fun K47 hK47 => ?_)
          refine aw_reg ?_
          refine ao_cons (acts_of rfl (does_move (v := .int .i64 (bits .and .i64 x45 31)) (by exact rfl))) (by decide) ?_
          obtain ⟨g48, h⟩ := gd_some h
          obtain ⟨g49, h⟩ := gd_some h
          refine ao_cons (acts_of rfl (does_indexAddr_arr (q := .ptr 11 0 (0 + (Int.toNat (bits .and .i64 x45 31)) * 1)) (by conv => lhs; whnf) (by conv => lhs; whnf) ty45 ty4 g48 g49 rfl)) (by decide) ?_
          obtain ⟨x50, hx50, h⟩ := bnd_some h
          refine ao_cons (acts_of rfl (does_load (v := .bool x50) (by conv => lhs; whnf) (cellsAt_box (by exact rfl)) ty4 (loadPV_list (f := enc4) (l := v11_s_4) (i := (Int.toNat (bits .and .i64 x45 31))) rfl hx50))) (by decide) ?_
          refine ao_nil_n ?_
          refine hK47 _ ?_
          refine aw_bool (b := x50) 73 rfl (fun c51 => ?_) (fun c51 => ?_)
          · have h := ifT c51 h
            refine aw_cond_t (by decide) rfl ?_
            refine aw_exit ?_
            refine hK42 _ ?_
            refine aw_reg ?_
            refine ao_cons (acts_of rfl (does_move (v := .int .i64 v12_4) (by exact rfl))) (by decide) ?_
            refine ao_cons (acts_of rfl (does_bin (v := .int .i64 (IntKind.i64.wrap (v12_4 - 1))) (by conv => lhs; whnf) (by conv => lhs; whnf) rfl)) (by decide) ?_
            refine ao_cons (acts_of rfl (does_assign (v := .int .i64 (IntKind.i64.wrap (v12_4 - 1))) (by exact rfl))) (by decide) ?_
            refine ao_nil_n ?_
            have h := leafL h hq38
            exact ⟨m4, Nat.lt_succ_self _, _, reb_lit [(0, .sl 1 (List.map enc2 a0)), (1, .sl 1 (List.map enc4 a1)), (2, .int .i64 a2), (8, .sl 3 (List.map enc37 v8_1)), (10, .int .i64 v10_4), (11, .ptr 11 0 0), (12, .int .i64 (IntKind.i64.wrap (v12_4 - 1)))] [(11, 0)] [((11, 0), .box (List.map enc4 v11_s_4))] [(11, 1)] (envOk_cons (by conv => lhs; whnf) (by exact rfl) (envOk_cons (by conv => lhs; whnf) (by exact rfl) (envOk_cons (by conv => lhs; whnf) (by exact rfl) (envOk_cons (by conv => lhs; whnf) (by exact rfl) (envOk_cons (by conv => lhs; whnf) (by exact rfl) (envOk_cons (by conv => lhs; whnf) (by exact rfl) (envOk_cons (by conv => lhs; whnf) (by exact rfl) envOk_nil))))))) (objOk_cons (by exact rfl) (renO_list (f := enc4) (l := v11_s_4) fun _ => rfl) (by exact rfl) (by simp) objOk_nil) (nodup_b rfl) (nodup_b rfl) rfl rfl, v10_4, v11_s_4, (IntKind.i64.wrap (v12_4 - 1)), h, rfl⟩
          · have h := ifF c51 h
            refine aw_cond_f (by decide) rfl ?_
            refine aw_skip ?_
            refine hK46 _ ?_
            refine aw_seq_k (fun K52 hK52 => ?_)
            refine aw_reg ?_
            refine ao_cons (acts_of rfl (does_move (v := .int .i64 (bits .and .i64 x45 31)) (by exact rfl))) (by decide) ?_
            obtain ⟨g53, h⟩ := gd_some h
            obtain ⟨g54, h⟩ := gd_some h
            refine ao_cons (acts_of rfl (does_indexAddr_arr (q := .ptr 11 0 (0 + (Int.toNat (bits .and .i64 x45 31)) * 1)) (by conv => lhs; whnf) (by conv => lhs; whnf) ty45 ty4 g53 g54 rfl)) (by decide) ?_
            obtain ⟨x55, hx55, h⟩ := bnd_some h
            refine ao_cons (acts_of rfl (do_storeA (f := enc4) (l := v11_s_4) (i := (Int.toNat (bits .and .i64 x45 31))) (a := true) (by conv => lhs; whnf) (by exact rfl) (by conv => lhs; whnf) ty4 rfl rfl rfl hx55)) (by decide) ?_
            refine ao_nil_n ?_
            refine hK52 _ ?_
            refine aw_seq_k (fun K56 hK56 => ?_)
            refine aw_seq_k (fun K57 hK57 => ?_)
            refine aw_reg ?_
            refine ao_cons (acts_of rfl (does_move (v := .int .i64 v10_4) (by exact rfl))) (by decide) ?_
            refine ao_cons (acts_of rfl (does_move (v := .int .i64 a2) (by exact rfl))) (by decide) ?_
            refine ao_cons (acts_of rfl (does_bin (v := .bool (decide (v10_4 < a2))) (by conv => lhs; whnf) (by conv => lhs; whnf) rfl)) (by decide) ?_
            refine ao_nil_n ?_
            refine hK57 _ ?_
            refine aw_bool (b := (decide (v10_4 < a2))) 78 rfl (fun c58 => ?_) (fun c58 => ?_)
            · have h := ifT c58 h
              refine aw_cond_t (by decide) rfl ?_
              refine aw_seq_k (fun K59 hK59 => ?_)
              refine aw_regd (by kernel_rfl) (by decide +kernel) ?_
              refine ao_cons (acts_of rfl (does_move (v := .int .i64 v10_4) (by exact rfl))) (by decide) ?_
              refine ao_cons (acts_of rfl (does_move (v := .sl 3 (List.map enc37 v8_1)) (by exact rfl))) (by decide) ?_
              refine ao_cons (acts_of rfl ((does_len_sl (by conv => lhs; whnf) ty32).castp (v' := .int .i64 (List.length v8_1 : Int)) (by exact len_map _))) (by decide) ?_
              refine ao_cons (acts_of rfl (does_bin (v := .bool (decide ((List.length v8_1 : Int) ≤ v10_4))) (by conv => lhs; whnf) (by conv => lhs; whnf) rfl)) (by decide) ?_
              refine ao_cons (acts_of rfl (does_move (v := .bool (decide ((List.length v8_1 : Int) ≤ v10_4))) (by exact rfl))) (by decide) ?_
              refine ao_bool (c := (decide ((List.length v8_1 : Int) ≤ v10_4))) 83 rfl (fun c60 => ?_) (fun c60 => ?_)
              · have h := ifT c60 h
                refine ao_cons (acts_skip rfl) (by decide) ?_
                refine ao_cons (acts_skip rfl) (by decide) ?_
                refine ao_cons (acts_skip rfl) (by decide) ?_
                refine ao_cons (acts_skip rfl) (by decide) ?_
                refine ao_cons (acts_skip rfl) (by decide) ?_
                refine ao_cons (acts_skip rfl) (by decide) ?_
                refine ao_cons (acts_skip rfl) (by decide) ?_
                refine ao_cons (acts_skip rfl) (by decide) ?_
                refine ao_cons (acts_skip rfl) (by decide) ?_
                refine ao_cons (acts_skip rfl) (by decide) ?_
                refine ao_cons (acts_skip rfl) (by decide) ?_
                refine ao_cons (acts_skip rfl) (by decide) ?_
                refine ao_cons (acts_skip rfl) (by decide) ?_
                refine ao_cons (acts_of rfl (does_pick (v := .bool true) (by conv => lhs; whnf) (by exact rfl))) (by decide) ?_
                refine ao_nil_d (by kernel_rfl) ?_
                refine hK59 _ ?_
                refine aw_cond_t (by decide) rfl ?_
                refine aw_seq_k (fun K61 hK61 => ?_)
                refine aw_reg ?_
                refine ao_cons (acts_of rfl (does_assign (v := .bool false) (by exact rfl))) (by decide) ?_
                refine ao_nil_n ?_
                refine hK61 _ ?_
                refine aw_ret ?_
                have h := leafR h hq38
                have h := leafR h hk35
                obtain rfl := Option.some.inj h
                exact ret_ok1 (by conv => lhs; whnf) (by conv => lhs; whnf) (by exact rfl) (.inr rfl) rfl
              · have h := ifF c60 h
                refine ao_cons (acts_of rfl (does_move (v := .sl 3 (List.map enc37 v8_1)) (by exact rfl))) (by decide) ?_
                refine ao_cons (acts_of rfl (does_move (v := .int .i64 v10_4) (by exact rfl))) (by decide) ?_
                obtain ⟨g62, h⟩ := gd_some h
                obtain ⟨x63, hx63, h⟩ := bnd_some h
                refine ao_cons (acts_of rfl (does_indexAddr_sl (el := .agg [.int .u64 x63.Trace.Hi, .int .u64 x63.Trace.Lo, .bool x63.Kept]) (by conv => lhs; whnf) (by conv => lhs; whnf) ty32 ty38 g62 (by exact map_get hx63))) (by decide) ?_
                refine ao_cons (acts_of rfl (does_load (v := .agg [.int .u64 x63.Trace.Hi, .int .u64 x63.Trace.Lo, .bool x63.Kept]) (by conv => lhs; whnf) (by conv => lhs; whnf) ty38 (by exact rfl))) (by decide) ?_
                refine ao_cons (acts_of rfl (does_move (v := .int .i64 (bits .and .i64 x45 31)) (by exact rfl))) (by decide) ?_
                refine ao_cons (acts_of rfl (does_conv_int (v := .int .u64 (IntKind.u64.wrap (bits .and .i64 x45 31))) (by conv => lhs; whnf) (ty_some ty3) (ty_int ty33) rfl)) (by decide) ?_
                refine ao_cons (acts_of rfl (do_build_struct (cs := [.int .u64 0, .int .u64 (IntKind.u64.wrap (bits .and .i64 x45 31))]) ty35 rfl [⟨.int .u64, 1, 8, [.int .u64 0]⟩, ⟨.int .u64, 1, 8, [.int .u64 0]⟩] (by simp only [List.map, ty33]) (by rfl) (by exact rfl))) (by decide) ?_
                refine ao_cons (acts_of rfl (does_move (v := .sl 1 (List.map enc4 a1)) (by exact rfl))) (by decide) ?_
                refine ao_cons (acts_of rfl (does_move (v := .int .i64 v12_4) (by exact rfl))) (by decide) ?_
                obtain ⟨g64, h⟩ := gd_some h
                obtain ⟨x65, hx65, h⟩ := bnd_some h
                refine ao_cons (acts_of rfl (does_indexAddr_sl (el := .bool x65) (by conv => lhs; whnf) (by conv => lhs; whnf) ty44 ty4 g64 (by exact map_get hx65))) (by decide) ?_
                refine ao_cons (acts_of rfl (does_load (v := .bool x65) (by conv => lhs; whnf) (by conv => lhs; whnf) ty4 (by exact rfl))) (by decide) ?_
                refine ao_cons (acts_of rfl (do_build_struct (cs := [.int .u64 0, .int .u64 (IntKind.u64.wrap (bits .and .i64 x45 31)), .bool x65]) ty38 rfl [⟨.struct [(0, 33), (1, 33)], 2, 16, [.int .u64 0, .int .u64 0]⟩, ⟨.bool, 1, 1, [.bool false]⟩] (by simp only [List.map, ty35, ty4]) (by rfl) (by exact rfl))) (by decide) ?_
                refine ao_cons (acts_of rfl (does_eq_struct (v := .bool (!((x63.Trace.Hi == 0) && ((x63.Trace.Lo == (IntKind.u64.wrap (bits .and .i64 x45 31))) && ((x63.Kept == x65) && true))))) (by conv => lhs; whnf) (by conv => lhs; whnf) fk38 rfl ag38 eg38 (by conv => lhs; whnf) rfl)) (by decide) ?_
                refine ao_cons (acts_of rfl (does_pick (v := .bool (!((x63.Trace.Hi == 0) && ((x63.Trace.Lo == (IntKind.u64.wrap (bits .and .i64 x45 31))) && ((x63.Kept == x65) && true))))) (by conv => lhs; whnf) (by exact rfl))) (by decide) ?_
                refine ao_nil_d (by kernel_rfl) ?_
                refine hK59 _ ?_
                refine aw_bool (b := (!((x63.Trace.Hi == 0) && ((x63.Trace.Lo == (IntKind.u64.wrap (bits .and .i64 x45 31))) && ((x63.Kept == x65) && true))))) 97 rfl (fun c66 => ?_) (fun c66 => ?_)
                · have h := ifT c66 h
                  refine aw_cond_t (by decide) rfl ?_
                  refine aw_seq_k (fun K67 hK67 => ?_)
                  refine aw_reg ?_
                  refine ao_cons (acts_of rfl (does_assign (v := .bool false) (by exact rfl))) (by decide) ?_
                  refine ao_nil_n ?_
                  refine hK67 _ ?_
                  refine aw_ret ?_
                  have h := leafR h hq38
                  have h := leafR h hk35
                  obtain rfl := Option.some.inj h
                  exact ret_ok1 (by conv => lhs; whnf) (by conv => lhs; whnf) (by exact rfl) (.inr rfl) rfl
                · have h := ifF c66 h
                  refine aw_cond_f (by decide) rfl ?_
                  refine aw_skip ?_
                  refine hK56 _ ?_
                  refine aw_reg ?_
                  refine ao_cons (acts_of rfl (does_move (v := .int .i64 v10_4) (by exact rfl))) (by decide) ?_
                  refine ao_cons (acts_of rfl (does_bin (v := .int .i64 (IntKind.i64.wrap (v10_4 + 1))) (by conv => lhs; whnf) (by conv => lhs; whnf) rfl)) (by decide) ?_
                  refine ao_cons (acts_of rfl (does_assign (v := .int .i64 (IntKind.i64.wrap (v10_4 + 1))) (by exact rfl))) (by decide) ?_
                  refine ao_nil_n ?_
                  refine hK42 _ ?_
                  refine aw_reg ?_
                  refine ao_cons (acts_of rfl (does_move (v := .int .i64 v12_4) (by exact rfl))) (by decide) ?_
                  refine ao_cons (acts_of rfl (does_bin (v := .int .i64 (IntKind.i64.wrap (v12_4 - 1))) (by conv => lhs; whnf) (by conv => lhs; whnf) rfl)) (by decide) ?_
                  refine ao_cons (acts_of rfl (does_assign (v := .int .i64 (IntKind.i64.wrap (v12_4 - 1))) (by exact rfl))) (by decide) ?_
                  refine ao_nil_n ?_
                  have h := leafL h hq38
                  exact ⟨m4, Nat.lt_succ_self _, _, reb_lit [(0, .sl 1 (List.map enc2 a0)), (1, .sl 1 (List.map enc4 a1)), (2, .int .i64 a2), (8, .sl 3 (List.map enc37 v8_1)), (10, .int .i64 (IntKind.i64.wrap (v10_4 + 1))), (11, .ptr 11 0 0), (12, .int .i64 (IntKind.i64.wrap (v12_4 - 1)))] [(11, 0)] [((11, 0), .box (List.map enc4 (List.set v11_s_4 (Int.toNat (bits .and .i64 x45 31)) true)))] [(11, 1)] (envOk_cons (by conv => lhs; whnf) (by exact rfl) (envOk_cons (by conv => lhs; whnf) (by exact rfl) (envOk_cons (by conv => lhs; whnf) (by exact rfl) (envOk_cons (by conv => lhs; whnf) (by exact rfl) (envOk_cons (by conv => lhs; whnf) (by exact rfl) (envOk_cons (by conv => lhs; whnf) (by exact rfl) (envOk_cons (by conv => lhs; whnf) (by exact rfl) envOk_nil))))))) (objOk_cons (by exact rfl) (renO_list (f := enc4) (l := (List.set v11_s_4 (Int.toNat (bits .and .i64 x45 31)) true)) fun _ => rfl) (by exact rfl) (by simp) objOk_nil) (nodup_b rfl) (nodup_b rfl) rfl rfl, (IntKind.i64.wrap (v10_4 + 1)), (List.set v11_s_4 (Int.toNat (bits .and .i64 x45 31)) true), (IntKind.i64.wrap (v12_4 - 1)), h, rfl⟩
            · have h := ifF c58 h
              refine aw_cond_f (by decide) rfl ?_
              refine aw_skip ?_
              refine hK56 _ ?_
              refine aw_reg ?_
              refine ao_cons (acts_of rfl (does_move (v := .int .i64 v10_4) (by exact rfl))) (by decide) ?_
              refine ao_cons (acts_of rfl (does_bin (v := .int .i64 (IntKind.i64.wrap (v10_4 + 1))) (by conv => lhs; whnf) (by conv => lhs; whnf) rfl)) (by decide) ?_
              refine ao_cons (acts_of rfl (does_assign (v := .int .i64 (IntKind.i64.wrap (v10_4 + 1))) (by exact rfl))) (by decide) ?_
              refine ao_nil_n ?_
              refine hK42 _ ?_
              refine aw_reg ?_
              refine ao_cons (acts_of rfl (does_move (v := .int .i64 v12_4) (by exact rfl))) (by decide) ?_
              refine ao_cons (acts_of rfl (does_bin (v := .int .i64 (IntKind.i64.wrap (v12_4 - 1))) (by conv => lhs; whnf) (by conv => lhs; whnf) rfl)) (by decide) ?_
              refine ao_cons (acts_of rfl (does_assign (v := .int .i64 (IntKind.i64.wrap (v12_4 - 1))) (by exact rfl))) (by decide) ?_
              refine ao_nil_n ?_
              have h := leafL h hq38
              exact ⟨m4, Nat.lt_succ_self _, _, reb_lit [(0, .sl 1 (List.map enc2 a0)), (1, .sl 1 (List.map enc4 a1)), (2, .int .i64 a2), (8, .sl 3 (List.map enc37 v8_1)), (10, .int .i64 (IntKind.i64.wrap (v10_4 + 1))), (11, .ptr 11 0 0), (12, .int .i64 (IntKind.i64.wrap (v12_4 - 1)))] [(11, 0)] [((11, 0), .box (List.map enc4 (List.set v11_s_4 (Int.toNat (bits .and .i64 x45 31)) true)))] [(11, 1)] (envOk_cons (by conv => lhs; whnf) (by exact rfl) (envOk_cons (by conv => lhs; whnf) (by exact rfl) (envOk_cons (by conv => lhs; whnf) (by exact rfl) (envOk_cons (by conv => lhs; whnf) (by exact rfl) (envOk_cons (by conv => lhs; whnf) (by exact rfl) (envOk_cons (by conv => lhs; whnf) (by exact rfl) (envOk_cons (by conv => lhs; whnf) (by exact rfl) envOk_nil))))))) (objOk_cons (by exact rfl) (renO_list (f := enc4) (l := (List.set v11_s_4 (Int.toNat (bits .and .i64 x45 31)) true)) fun _ => rfl) (by exact rfl) (by simp) objOk_nil) (nodup_b rfl) (nodup_b rfl) rfl rfl, (IntKind.i64.wrap (v10_4 + 1)), (List.set v11_s_4 (Int.toNat (bits .and .i64 x45 31)) true), (IntKind.i64.wrap (v12_4 - 1)), h, rfl⟩
        · have h := ifF c41 h
          refine aw_cond_f (by decide) rfl ?_
          refine aw_exit ?_
          have h := leafR h hq38
          have h := leafL h hk35
          exact ⟨_, reb_lit [(2, .int .i64 a2), (8, .sl 3 (List.map enc37 v8_1)), (10, .int .i64 v10_4)] [] [] [] (envOk_cons (by conv => lhs; whnf) (by exact rfl) (envOk_cons (by conv => lhs; whnf) (by exact rfl) (envOk_cons (by conv => lhs; whnf) (by exact rfl) envOk_nil))) objOk_nil (nodup_b rfl) (nodup_b rfl) rfl rfl, v10_4, h, rfl⟩
      · rintro s ⟨v10_3, h, rfl⟩
        unfold gleaninglaw17_MemoLast_k3 at h
        obtain ⟨q68, h, hk69⟩ := bnd_some h
        refine aw_cut (fun s => ∃ (v10_5 : Int), gleaninglaw17_MemoLast_k5 v8_1 v10_5 = some r ∧ s = lit [(8, .sl 3 (List.map enc37 v8_1)), (10, .int .i64 v10_5)] [] [] X) ?_ ?_
        · skip
          refine aw_seq_k (fun K70 hK70 => ?_)
          refine aw_reg ?_
          refine ao_cons (acts_of rfl (does_move (v := .int .i64 v10_3) (by exact rfl))) (by decide) ?_
          refine ao_cons (acts_of rfl (does_move (v := .int .i64 a2) (by exact rfl))) (by decide) ?_
          refine ao_cons (acts_of rfl (does_bin (v := .bool (decide (a2 < v10_3))) (by conv => lhs; whnf) (by conv => lhs; whnf) rfl)) (by decide) ?_
          refine ao_nil_n ?_
          refine hK70 _ ?_
          refine aw_bool (b := (decide (a2 < v10_3))) 102 rfl (fun c71 => ?_) (fun c71 => ?_)
          · have h := ifT c71 h
            refine aw_cond_t (by decide) rfl ?_
            refine aw_reg ?_
            refine ao_cons (acts_of rfl (does_move (v := .int .i64 a2) (by exact rfl))) (by decide) ?_
            refine ao_cons (acts_of rfl (does_assign (v := .int .i64 a2) (by exact rfl))) (by decide) ?_
            refine ao_nil_n ?_
            obtain rfl := Option.some.inj h
            have h := hk69
            exact ⟨_, reb_lit [(8, .sl 3 (List.map enc37 v8_1)), (10, .int .i64 a2)] [] [] [] (envOk_cons (by conv => lhs; whnf) (by exact rfl) (envOk_cons (by conv => lhs; whnf) (by exact rfl) envOk_nil)) objOk_nil (nodup_b rfl) (nodup_b rfl) rfl rfl, a2, h, rfl⟩
          · have h := ifF c71 h
            refine aw_cond_f (by decide) rfl ?_
            refine aw_skip ?_
            obtain rfl := Option.some.inj h
            have h := hk69
            exact ⟨_, reb_lit [(8, .sl 3 (List.map enc37 v8_1)), (10, .int .i64 v10_3)] [] [] [] (envOk_cons (by conv => lhs; whnf) (by exact rfl) (envOk_cons (by conv => lhs; whnf) (by exact rfl) envOk_nil)) objOk_nil (nodup_b rfl) (nodup_b rfl) rfl rfl, v10_3, h, rfl⟩
        · rintro s ⟨v10_5, h, rfl⟩
          unfold gleaninglaw17_MemoLast_k5 at h
          refine aw_seq_k (fun K72 hK72 => ?_)
          refine aw_reg ?_
          refine ao_cons (acts_of rfl (does_move (v := .sl 3 (List.map enc37 v8_1)) (by exact rfl))) (by decide) ?_
          refine ao_cons (acts_of rfl ((does_len_sl (by conv => lhs; whnf) ty32).castp (v' := .int .i64 (List.length v8_1 : Int)) (by exact len_map _))) (by decide) ?_
          refine ao_cons (acts_of rfl (does_move (v := .int .i64 v10_5) (by exact rfl))) (by decide) ?_
          refine ao_cons (acts_of rfl (does_bin (v := .bool ((List.length v8_1 : Int) == v10_5)) (by conv => lhs; whnf) (by conv => lhs; whnf) rfl)) (by decide) ?_
          refine ao_cons (acts_of rfl (does_assign (v := .bool ((List.length v8_1 : Int) == v10_5)) (by exact rfl))) (by decide) ?_
          refine ao_nil_n ?_
          refine hK72 _ ?_
          refine aw_ret ?_
          obtain rfl := Option.some.inj h
          exact ret_ok1 (by conv => lhs; whnf) (by conv => lhs; whnf) (by exact rfl) (.inr rfl) rfl
theorem sh43 : ∀ (m : Nat) (cs : List PV), Shape Try.prog m 43 cs → ∃ a : List Int, cs = [.sl 1 (List.map enc2 a)] ∧ ((List.length a) ≤ maxLen ∧ ∀ y ∈ a, inI .i64 y) := fun m cs h => by
  obtain ⟨l, h1, h2, h3⟩ := shape_rows (f := enc2) (Q := fun y => inI .i64 y) h Try.underlying43 (fun m ps hs => by
    obtain ⟨a, rfl, hw⟩ := sh3 m ps hs
    exact ⟨a, by rw [show aggT Try.prog 3 = false by kernel_rfl]; rfl, hw⟩)
  exact ⟨l, h1.trans (by rw [show Try.prog.cellsOf 3 = 1 by kernel_rfl]), h2, h3⟩
theorem sh4 : ∀ (m : Nat) (cs : List PV), Shape Try.prog m 4 cs → ∃ a : Bool, cs = [.bool a] ∧ True := fun m cs h => shape_b h Try.underlying4
theorem sh44 : ∀ (m : Nat) (cs : List PV), Shape Try.prog m 44 cs → ∃ a : List Bool, cs = [.sl 1 (List.map enc4 a)] ∧ ((List.length a) ≤ maxLen ∧ ∀ y ∈ a, True) := fun m cs h => by
  obtain ⟨l, h1, h2, h3⟩ := shape_rows (f := enc4) (Q := fun y => True) h Try.underlying44 (fun m ps hs => by
    obtain ⟨a, rfl, hw⟩ := sh4 m ps hs
    exact ⟨a, by rw [show aggT Try.prog 4 = false by kernel_rfl]; rfl, hw⟩)
  exact ⟨l, h1.trans (by rw [show Try.prog.cellsOf 4 = 1 by kernel_rfl]), h2, h3⟩
end Go.Proofs.Ytomjoccpkknamaa.Ab
