/- Chapter 14: judge, the program. -/
import Derived.Test.YtbfmmaabaenhgaaXJ0
import Derived.Test.YtbfmmaabaenhgaaProg
namespace Go.Proofs.Ytbfmmaabaenhgaa.Ab
open Go Go.RowKit
set_option linter.unusedVariables false
set_option linter.unusedSimpArgs false
structure Episode where
  Trace : Trace
  First : Int
  Last : Int
  Sure : Bool
  Spans : List Span
  deriving DecidableEq
theorem ty27 : tyOf Try.prog 27 = some ⟨.struct [(0, 25), (1, 25)], 2, 16, [.int .u64 0, .int .u64 0]⟩ := by kernel_rfl
theorem ty30 : tyOf Try.prog 30 = some ⟨.struct [(0, 27), (2, 3), (3, 3), (4, 4), (5, 28)], 6, 64, [.int .u64 0, .int .u64 0, .int .i64 0, .int .i64 0, .bool false, .nil]⟩ := by kernel_rfl
theorem ty32 : tyOf Try.prog 32 = some ⟨.other, 1, 8, [.nilf]⟩ := by kernel_rfl
theorem ty82 : tyOf Try.prog 82 = some ⟨.int .u32, 1, 4, [.int .u32 0]⟩ := by kernel_rfl
theorem fk53 : flatK Try.prog 8 53 = some [.s, .s] := by kernel_rfl
theorem ag53 : aggT Try.prog 53 = true := by kernel_rfl
theorem eg53 : Try.prog.eqGuardType Try.prog.depth 53 = false := by kernel_rfl
theorem ent21 : Ent Try.prog 21 := ⟨_, Try.func21, by kernel_rfl, rfl⟩
theorem ent42 : Ent Try.prog 42 := ⟨_, Try.func42, by kernel_rfl, rfl⟩
theorem ent56 : Ent Try.prog 56 := ⟨_, Try.func56, by kernel_rfl, rfl⟩
theorem ent58 : Ent Try.prog 58 := ⟨_, Try.func58, by kernel_rfl, rfl⟩
theorem ent86 : Ent Try.prog 86 := ⟨_, Try.func86, by kernel_rfl, rfl⟩
theorem ent88 : Ent Try.prog 88 := ⟨_, Try.func88, by kernel_rfl, rfl⟩
theorem ent89 : Ent Try.prog 89 := ⟨_, Try.func89, by kernel_rfl, rfl⟩
theorem ent90 : Ent Try.prog 90 := ⟨_, Try.func90, by kernel_rfl, rfl⟩
theorem ent91 : Ent Try.prog 91 := ⟨_, Try.func91, by kernel_rfl, rfl⟩
theorem ent92 : Ent Try.prog 92 := ⟨_, Try.func92, by kernel_rfl, rfl⟩
theorem ent93 : Ent Try.prog 93 := ⟨_, Try.func93, by kernel_rfl, rfl⟩
theorem ent116 : Ent Try.prog 116 := ⟨_, Try.func116, by kernel_rfl, rfl⟩
theorem ent117 : Ent Try.prog 117 := ⟨_, Try.func117, by kernel_rfl, rfl⟩
theorem ent118 : Ent Try.prog 118 := ⟨_, Try.func118, by kernel_rfl, rfl⟩
theorem ent125 : Ent Try.prog 125 := ⟨_, Try.func125, by kernel_rfl, rfl⟩
def check_More_l1 (v12_0 : Int) (v5_1 : Int) (v20_1 : Int) : Option ((Int × Int) ⊕ ((Int × Int) ⊕ Int)) :=
  if (decide (v20_1 < 8)) = true then (some (Sum.inl ((bits .xor .u32 (Int.fdiv v5_1 (2 ^ (min (Int.toNat 1) (IntKind.bits .u32)))) (IntKind.u32.wrap (3988292384 * (bits .and .u32 v5_1 1)))), (IntKind.i64.wrap (v20_1 + 1))))) else (some (Sum.inr (Sum.inl (v5_1, (IntKind.i64.wrap (v12_0 + 1))))))
def check_More_l0 (a1 : List UInt8) (v5_0 : Int) (v12_0 : Int) : Option ((Int × Int) ⊕ Int) :=
  if (decide (v12_0 < (List.length a1 : Int))) = true then (gd (0 ≤ v12_0) (Option.bind (a1[(Int.toNat v12_0)]?) (fun (x13 : UInt8) => loopN (fun (s : Int × Int) => check_More_l1 v12_0 s.1 s.2) Fu ((bits .xor .u32 v5_0 (IntKind.u32.wrap (x13.toNat : Int))), 0)))) else (some (Sum.inr (bits .xor .u32 (if IntKind.signed .u32 then -1 else IntKind.max .u32) v5_0)))
def check_More (a0 : Int) (a1 : List UInt8) : Option Int :=
  loopN (fun (s : Int × Int) => check_More_l0 a1 s.1 s.2) Fu ((bits .xor .u32 (if IntKind.signed .u32 then -1 else IntKind.max .u32) a0), 0)
set_option maxRecDepth 100000 in
set_option maxHeartbeats 8000000 in
/-- gleaning/check.More -/
theorem check_More_ok (a0 : Int) (a1 : List UInt8) {r : Int} (h : check_More a0 a1 = some r) : Ok Try.prog 86 [.int .u32 a0, .sl 1 (List.map enc5 a1)] [] [] (.int .u32 r) [] [] := by
  unfold check_More at h
  refine ok_of_code Try.func86 rfl (by show (2 : Nat) ≤ _; decide) (Nat.le_refl _) fun X => ?_
  refine aw_seq_k (fun K1 hK1 => ?_)
  refine aw_reg ?_
  refine ao_cons (acts_of rfl (does_assign (v := .int .u32 0) (by exact rfl))) (by decide) ?_
  refine ao_nil_n ?_
  refine hK1 _ ?_
  refine aw_seq_k (fun K2 hK2 => ?_)
  refine aw_reg ?_
  refine ao_cons (acts_of rfl (does_move (v := .int .u32 a0) (by exact rfl))) (by decide) ?_
  refine ao_cons (acts_of rfl (does_un (v := .int .u32 (bits .xor .u32 (if IntKind.signed .u32 then -1 else IntKind.max .u32) a0)) (by conv => lhs; whnf) rfl)) (by decide) ?_
  refine ao_cons (acts_of rfl (does_assign (v := .int .u32 (bits .xor .u32 (if IntKind.signed .u32 then -1 else IntKind.max .u32) a0)) (by exact rfl))) (by decide) ?_
  refine ao_nil_n ?_
  refine hK2 _ ?_
  refine aw_seq_k (fun K3 hK3 => ?_)
  refine aw_seq_k (fun K4 hK4 => ?_)
  refine aw_reg ?_
  refine ao_cons (acts_of rfl (does_move (v := .sl 1 (List.map enc5 a1)) (by exact rfl))) (by decide) ?_
  refine ao_cons (acts_of rfl ((does_len_sl (by conv => lhs; whnf) ty43).castp (v' := .int .i64 (List.length a1 : Int)) (by exact len_map _))) (by decide) ?_
  refine ao_cons (acts_of rfl (does_move (v := .int .i64 0) (by exact rfl))) (by decide) ?_
  refine ao_nil_n ?_
  refine hK4 _ ?_
  refine aw_block ?_
  refine aw_loop' (fun m s => ∃ (v5_0 : Int), ∃ (v12_0 : Int), loopN (fun (s : Int × Int) => check_More_l0 a1 s.1 s.2) m (v5_0, v12_0) = some r ∧ s = lit [(5, .int .u32 v5_0), (10, .sl 1 (List.map enc5 a1)), (11, .int .i64 (List.length a1 : Int)), (12, .int .i64 v12_0)] [] [] X) Fu
    ⟨_, reb_lit [(5, .int .u32 (bits .xor .u32 (if IntKind.signed .u32 then -1 else IntKind.max .u32) a0)), (10, .sl 1 (List.map enc5 a1)), (11, .int .i64 (List.length a1 : Int)), (12, .int .i64 (0))] [] [] [] (envOk_cons (by conv => lhs; whnf) (by exact rfl) (envOk_cons (by conv => lhs; whnf) (by exact rfl) (envOk_cons (by conv => lhs; whnf) (by exact rfl) (envOk_cons (by conv => lhs; whnf) (by exact rfl) envOk_nil)))) objOk_nil (nodup_b rfl) (nodup_b rfl) rfl rfl, (bits .xor .u32 (if IntKind.signed .u32 then -1 else IntKind.max .u32) a0), 0, h, rfl⟩ ?_
  rintro m s ⟨v5_0, v12_0, h, rfl⟩
  obtain ⟨m0, q5, rfl, h, hq6⟩ := loop_some h
  replace h : check_More_l0 a1 v5_0 v12_0 = some q5 := h
  unfold check_More_l0 at h
  refine aw_seq_k (fun K7 hK7 => ?_)
  refine aw_reg ?_
  refine ao_cons (acts_of rfl (does_bin (v := .bool (decide (v12_0 < (List.length a1 : Int)))) (by conv => lhs; whnf) (by conv => lhs; whnf) rfl)) (by decide) ?_
  refine ao_nil_n ?_
  refine hK7 _ ?_
  refine aw_seq_k (fun K8 hK8 => ?_)
  refine aw_bool (b := (decide (v12_0 < (List.length a1 : Int)))) 13 rfl (fun c9 => ?_) (fun c9 => ?_)
  · have h := ifT c9 h
    refine aw_cond_t (by decide) rfl ?_
    refine aw_skip ?_
    refine hK8 _ ?_
    refine aw_seq_k (fun K10 hK10 => ?_)
    refine aw_block ?_
    refine aw_seq_k (fun K11 hK11 => ?_)
    refine aw_reg ?_
    obtain ⟨g12, h⟩ := gd_some h
    obtain ⟨x13, hx13, h⟩ := bnd_some h
    refine ao_cons (acts_of rfl (does_indexAddr_sl (el := .int .u8 (x13.toNat : Int)) (by conv => lhs; whnf) (by conv => lhs; whnf) ty43 ty5 g12 (by exact map_get hx13))) (by decide) ?_
    refine ao_cons (acts_of rfl (does_load (v := .int .u8 (x13.toNat : Int)) (by conv => lhs; whnf) (by conv => lhs; whnf) ty5 (by exact rfl))) (by decide) ?_
    refine ao_cons (acts_of rfl (does_assign (v := .int .u8 (x13.toNat : Int)) (by exact rfl))) (by decide) ?_
    refine ao_nil_n ?_
    refine hK11 _ ?_
    refine aw_seq_k (fun K14 hK14 => ?_)
    refine aw_reg ?_
    refine ao_cons (acts_of rfl (does_move (v := .int .u32 v5_0) (by exact rfl))) (by decide) ?_
    refine ao_cons (acts_of rfl (does_move (v := .int .u8 (x13.toNat : Int)) (by exact rfl))) (by decide) ?_
    refine ao_cons (acts_of rfl (does_conv_int (v := .int .u32 (IntKind.u32.wrap (x13.toNat : Int))) (by conv => lhs; whnf) (ty_some ty5) (ty_int ty82) rfl)) (by decide) ?_
    refine ao_cons (acts_of rfl (does_bin (v := .int .u32 (bits .xor .u32 v5_0 (IntKind.u32.wrap (x13.toNat : Int)))) (by conv => lhs; whnf) (by conv => lhs; whnf) rfl)) (by decide) ?_
    refine ao_cons (acts_of rfl (does_assign (v := .int .u32 (bits .xor .u32 v5_0 (IntKind.u32.wrap (x13.toNat : Int)))) (by exact rfl))) (by decide) ?_
    refine ao_nil_n ?_
    refine hK14 _ ?_
    refine aw_seq_k (fun K15 hK15 => ?_)
    refine aw_reg ?_
    refine ao_cons (acts_of rfl (does_move (v := .int .i64 0) (by exact rfl))) (by decide) ?_
    refine ao_nil_n ?_
    refine hK15 _ ?_
    refine aw_block ?_
    refine aw_loop' (fun m s => ∃ (v5_1 : Int), ∃ (v20_1 : Int), loopN (fun (s : Int × Int) => check_More_l1 v12_0 s.1 s.2) m (v5_1, v20_1) = some q5 ∧ s = lit [(5, .int .u32 v5_1), (10, .sl 1 (List.map enc5 a1)), (11, .int .i64 (List.length a1 : Int)), (12, .int .i64 v12_0), (20, .int .i64 v20_1)] [] [] X) Fu
      ⟨_, reb_lit [(5, .int .u32 (bits .xor .u32 v5_0 (IntKind.u32.wrap (x13.toNat : Int)))), (10, .sl 1 (List.map enc5 a1)), (11, .int .i64 (List.length a1 : Int)), (12, .int .i64 v12_0), (20, .int .i64 (0))] [] [] [] (envOk_cons (by conv => lhs; whnf) (by exact rfl) (envOk_cons (by conv => lhs; whnf) (by exact rfl) (envOk_cons (by conv => lhs; whnf) (by exact rfl) (envOk_cons (by conv => lhs; whnf) (by exact rfl) (envOk_cons (by conv => lhs; whnf) (by exact rfl) envOk_nil))))) objOk_nil (nodup_b rfl) (nodup_b rfl) rfl rfl, (bits .xor .u32 v5_0 (IntKind.u32.wrap (x13.toNat : Int))), 0, h, rfl⟩ ?_
    rintro m s ⟨v5_1, v20_1, h, rfl⟩
    obtain ⟨m1, q16, rfl, h, hq17⟩ := loop_some h
    replace h : check_More_l1 v12_0 v5_1 v20_1 = some q16 := h
    unfold check_More_l1 at h
    refine aw_seq_k (fun K18 hK18 => ?_)
    refine aw_reg ?_
    refine ao_cons (acts_of rfl (does_bin (v := .bool (decide (v20_1 < 8))) (by conv => lhs; whnf) (by conv => lhs; whnf) rfl)) (by decide) ?_
    refine ao_nil_n ?_
    refine hK18 _ ?_
    refine aw_seq_k (fun K19 hK19 => ?_)
    refine aw_bool (b := (decide (v20_1 < 8))) 21 rfl (fun c20 => ?_) (fun c20 => ?_)
    · have h := ifT c20 h
      refine aw_cond_t (by decide) rfl ?_
      refine aw_skip ?_
      refine hK19 _ ?_
      refine aw_seq_k (fun K21 hK21 => ?_)
      refine aw_block ?_
      refine aw_reg ?_
      refine ao_cons (acts_of rfl (does_move (v := .int .u32 v5_1) (by exact rfl))) (by decide) ?_
      refine ao_cons (acts_of rfl (does_bin (v := .int .u32 (Int.fdiv v5_1 (2 ^ (min (Int.toNat 1) (IntKind.bits .u32))))) (by conv => lhs; whnf) (by conv => lhs; whnf) rfl)) (by decide) ?_
      refine ao_cons (acts_of rfl (does_move (v := .int .u32 v5_1) (by exact rfl))) (by decide) ?_
      refine ao_cons (acts_of rfl (does_bin (v := .int .u32 (bits .and .u32 v5_1 1)) (by conv => lhs; whnf) (by conv => lhs; whnf) rfl)) (by decide) ?_
      refine ao_cons (acts_of rfl (does_bin (v := .int .u32 (IntKind.u32.wrap (3988292384 * (bits .and .u32 v5_1 1)))) (by conv => lhs; whnf) (by conv => lhs; whnf) rfl)) (by decide) ?_
      refine ao_cons (acts_of rfl (does_bin (v := .int .u32 (bits .xor .u32 (Int.fdiv v5_1 (2 ^ (min (Int.toNat 1) (IntKind.bits .u32)))) (IntKind.u32.wrap (3988292384 * (bits .and .u32 v5_1 1))))) (by conv => lhs; whnf) (by conv => lhs; whnf) rfl)) (by decide) ?_
      refine ao_cons (acts_of rfl (does_assign (v := .int .u32 (bits .xor .u32 (Int.fdiv v5_1 (2 ^ (min (Int.toNat 1) (IntKind.bits .u32)))) (IntKind.u32.wrap (3988292384 * (bits .and .u32 v5_1 1))))) (by exact rfl))) (by decide) ?_
      refine ao_nil_n ?_
      refine hK21 _ ?_
      refine aw_reg ?_
      refine ao_cons (acts_of rfl (does_bin (v := .int .i64 (IntKind.i64.wrap (v20_1 + 1))) (by conv => lhs; whnf) (by conv => lhs; whnf) rfl)) (by decide) ?_
      refine ao_cons (acts_of rfl (does_move (v := .int .i64 (IntKind.i64.wrap (v20_1 + 1))) (by exact rfl))) (by decide) ?_
      refine ao_nil_n ?_
      have h := leafL h hq17
      exact ⟨m1, Nat.lt_succ_self _, _, reb_lit [(5, .int .u32 (bits .xor .u32 (Int.fdiv v5_1 (2 ^ (min (Int.toNat 1) (IntKind.bits .u32)))) (IntKind.u32.wrap (3988292384 * (bits .and .u32 v5_1 1))))), (10, .sl 1 (List.map enc5 a1)), (11, .int .i64 (List.length a1 : Int)), (12, .int .i64 v12_0), (20, .int .i64 (IntKind.i64.wrap (v20_1 + 1)))] [] [] [] (envOk_cons (by conv => lhs; whnf) (by exact rfl) (envOk_cons (by conv => lhs; whnf) (by exact rfl) (envOk_cons (by conv => lhs; whnf) (by exact rfl) (envOk_cons (by conv => lhs; whnf) (by exact rfl) (envOk_cons (by conv => lhs; whnf) (by exact rfl) envOk_nil))))) objOk_nil (nodup_b rfl) (nodup_b rfl) rfl rfl, (bits .xor .u32 (Int.fdiv v5_1 (2 ^ (min (Int.toNat 1) (IntKind.bits .u32)))) (IntKind.u32.wrap (3988292384 * (bits .and .u32 v5_1 1)))), (IntKind.i64.wrap (v20_1 + 1)), h, rfl⟩
    · have h := ifF c20 h
      refine aw_cond_f (by decide) rfl ?_
      refine aw_exit ?_
      have h := leafR h hq17
      refine hK10 _ ?_
      refine aw_reg ?_
      refine ao_cons (acts_of rfl (does_bin (v := .int .i64 (IntKind.i64.wrap (v12_0 + 1))) (by conv => lhs; whnf) (by conv => lhs; whnf) rfl)) (by decide) ?_
      refine ao_cons (acts_of rfl (does_move (v := .int .i64 (IntKind.i64.wrap (v12_0 + 1))) (by exact rfl))) (by decide) ?_
      refine ao_nil_n ?_
      have h := leafL h hq6
      exact ⟨m0, Nat.lt_succ_self _, _, reb_lit [(5, .int .u32 v5_1), (10, .sl 1 (List.map enc5 a1)), (11, .int .i64 (List.length a1 : Int)), (12, .int .i64 (IntKind.i64.wrap (v12_0 + 1)))] [] [] [] (envOk_cons (by conv => lhs; whnf) (by exact rfl) (envOk_cons (by conv => lhs; whnf) (by exact rfl) (envOk_cons (by conv => lhs; whnf) (by exact rfl) (envOk_cons (by conv => lhs; whnf) (by exact rfl) envOk_nil)))) objOk_nil (nodup_b rfl) (nodup_b rfl) rfl rfl, v5_1, (IntKind.i64.wrap (v12_0 + 1)), h, rfl⟩
  · have h := ifF c9 h
    refine aw_cond_f (by decide) rfl ?_
    refine aw_exit ?_
    have h := leafR h hq6
    refine hK3 _ ?_
    refine aw_seq_k (fun K22 hK22 => ?_)
    refine aw_reg ?_
    refine ao_cons (acts_of rfl (does_move (v := .int .u32 v5_0) (by exact rfl))) (by decide) ?_
    refine ao_cons (acts_of rfl (does_un (v := .int .u32 (bits .xor .u32 (if IntKind.signed .u32 then -1 else IntKind.max .u32) v5_0)) (by conv => lhs; whnf) rfl)) (by decide) ?_
    refine ao_cons (acts_of rfl (does_assign (v := .int .u32 (bits .xor .u32 (if IntKind.signed .u32 then -1 else IntKind.max .u32) v5_0)) (by exact rfl))) (by decide) ?_
    refine ao_nil_n ?_
    refine hK22 _ ?_
    refine aw_ret ?_
    obtain rfl := Option.some.inj h
    exact ret_ok1 (by conv => lhs; whnf) (by conv => lhs; whnf) (by exact rfl) (.inr rfl) rfl
def check_Sum (a0 : List UInt8) : Option Int :=
  Option.bind (check_More 0 a0) (fun (x3 : Int) => some x3)
set_option maxRecDepth 100000 in
set_option maxHeartbeats 8000000 in
/-- gleaning/check.Sum -/
theorem check_Sum_ok (a0 : List UInt8) {r : Int} (h : check_Sum a0 = some r) : Ok Try.prog 56 [.sl 1 (List.map enc5 a0)] [] [] (.int .u32 r) [] [] := by
  unfold check_Sum at h
  refine ok_of_code Try.func56 rfl (by show (1 : Nat) ≤ _; decide) (Nat.le_refl _) fun X => ?_
  refine aw_seq_k (fun K1 hK1 => ?_)
  refine aw_reg ?_
  refine ao_cons (acts_of rfl (does_assign (v := .int .u32 0) (by exact rfl))) (by decide) ?_
  refine ao_nil_n ?_
  refine hK1 _ ?_
  refine aw_seq_k (fun K2 hK2 => ?_)
  refine aw_reg ?_
  refine ao_cons (acts_of rfl (does_move (v := .sl 1 (List.map enc5 a0)) (by exact rfl))) (by decide) ?_
  obtain ⟨x3, hx3, h⟩ := bnd_some h
  refine ao_cons (acts_of rfl (do_call0 4 false (check_More_ok 0 a0 hx3) rfl ent86 rfl rfl)) (by decide) ?_
  refine ao_cons (acts_of rfl (does_assign (v := .int .u32 x3) (by exact rfl))) (by decide) ?_
  refine ao_nil_n ?_
  refine hK2 _ ?_
  refine aw_ret ?_
  obtain rfl := Option.some.inj h
  exact ret_ok1 (by conv => lhs; whnf) (by conv => lhs; whnf) (by exact rfl) (.inr rfl) rfl
def judge_Hash_l2 (v13_1 : Int) (x14 : Int) (v3_s_2 : List UInt8) (v6_2 : Int) : Option ((List UInt8 × Int) ⊕ ((List UInt8 × Int) ⊕ (List UInt8))) :=
  if (decide ((0 : Int) ≤ v6_2)) = true then (gd (¬ v6_2 < 0) (gd ((List.length (v3_s_2 ++ [(u8 (IntKind.u8.wrap (Int.fdiv x14 (2 ^ (min (Int.toNat v6_2) (IntKind.bits .u64))))))])) * 1 ≤ 140737488355328 ∧ (List.length (v3_s_2 ++ [(u8 (IntKind.u8.wrap (Int.fdiv x14 (2 ^ (min (Int.toNat v6_2) (IntKind.bits .u64))))))])) ≤ 140737488355328) (some (Sum.inl ((v3_s_2 ++ [(u8 (IntKind.u8.wrap (Int.fdiv x14 (2 ^ (min (Int.toNat v6_2) (IntKind.bits .u64))))))]), (IntKind.i64.wrap (v6_2 - 8))))))) else (some (Sum.inr (Sum.inl (v3_s_2, (IntKind.i64.wrap (v13_1 + 1))))))
def judge_Hash_l1 (a0 : Trace) (v3_s_1 : List UInt8) (v13_1 : Int) : Option ((List UInt8 × Int) ⊕ (List UInt8)) :=
  if (decide (v13_1 < (List.length [a0.Hi, a0.Lo] : Int))) = true then (gd (0 ≤ v13_1) (Option.bind ([a0.Hi, a0.Lo][(Int.toNat v13_1)]?) (fun (x14 : Int) => loopN (fun (s : List UInt8 × Int) => judge_Hash_l2 v13_1 x14 s.1 s.2) Fu (v3_s_1, 56)))) else (some (Sum.inr v3_s_1))
def judge_Hash_k0 (v3_s_0 : List UInt8) : Option Int :=
  Option.bind (check_Sum v3_s_0) (fun (x25 : Int) => some (IntKind.i64.wrap (Int.tmod x25 1000)))
def judge_Hash (a0 : Trace) : Option Int :=
  Option.bind (loopN (fun (s : List UInt8 × Int) => judge_Hash_l1 a0 s.1 s.2) Fu ([], 0)) (fun (s : List UInt8) => judge_Hash_k0 s)
set_option maxRecDepth 100000 in
set_option maxHeartbeats 8000000 in
/-- gleaning/judge.Hash -/
theorem judge_Hash_ok (a0 : Trace) {r : Int} (h : judge_Hash a0 = some r) : Ok Try.prog 21 [.agg [.int .u64 a0.Hi, .int .u64 a0.Lo]] [] [] (.int .i64 r) [] [] := by
  unfold judge_Hash at h
  refine ok_of_code Try.func21 rfl (by show (1 : Nat) ≤ _; decide) (Nat.le_refl _) fun X => ?_
  refine aw_seq_k (fun K1 hK1 => ?_)
  refine aw_reg ?_
  refine ao_cons (acts_of rfl (do_box (by conv => lhs; whnf) rfl rfl)) (by decide) ?_
  refine ao_cons (acts_of rfl (does_assign (v := .int .i64 0) (by exact rfl))) (by decide) ?_
  refine ao_nil_n ?_
  refine hK1 _ ?_
  refine aw_seq_k (fun K2 hK2 => ?_)
  refine aw_reg ?_
  refine ao_cons (acts_of rfl (does_assign (v := .nil) (by exact rfl))) (by decide) ?_
  refine ao_nil_n ?_
  refine hK2 _ ?_
  obtain ⟨q3, h, hk4⟩ := bnd_some h
  refine aw_cut (fun s => ∃ (v3_s_0 : List UInt8), judge_Hash_k0 v3_s_0 = some r ∧ s = lit [(3, .own 3 0)] [((3, 0), .arr 5 1 false (List.map enc5 v3_s_0))] [(3, 1)] X) ?_ ?_
  · skip
    refine aw_seq_k (fun K5 hK5 => ?_)
    refine aw_reg ?_
    refine ao_cons (acts_of rfl (does_fieldAddr (q := .ptr 1 0 0) (by conv => lhs; whnf) ty27 rfl ty25 (by decide) (by exact rfl))) (by decide) ?_
    refine ao_cons (acts_of rfl (does_load (v := .int .u64 a0.Hi) (by conv => lhs; whnf) (by conv => lhs; whnf) ty25 (by exact rfl))) (by decide) ?_
    refine ao_cons (acts_of rfl (does_fieldAddr (q := .ptr 1 0 1) (by conv => lhs; whnf) ty27 rfl ty25 (by decide) (by exact rfl))) (by decide) ?_
    refine ao_cons (acts_of rfl (does_load (v := .int .u64 a0.Lo) (by conv => lhs; whnf) (by conv => lhs; whnf) ty25 (by exact rfl))) (by decide) ?_
    refine ao_cons (acts_of rfl (do_buildSlice (xs := List.map enc12 [a0.Hi, a0.Lo]) ty81 ty25 rfl rfl rfl rfl rfl rfl rfl rfl)) (by decide) ?_
    refine ao_cons (acts_of rfl ((does_len_own (by conv => lhs; whnf) (by conv => lhs; whnf) ty81).cast (v' := .int .i64 (List.length [a0.Hi, a0.Lo] : Int)) (by exact len_map _))) (by decide) ?_
    refine ao_cons (acts_of rfl (does_move (v := .int .i64 0) (by exact rfl))) (by decide) ?_
    refine ao_nil_n ?_
    refine hK5 _ ?_
    refine aw_block ?_
    refine aw_nilOwn 3 5 1 (by conv => lhs; whnf) (by decide) (by decide) ?_
    refine aw_loop' (fun m s => ∃ (v3_s_1 : List UInt8), ∃ (v13_1 : Int), loopN (fun (s : List UInt8 × Int) => judge_Hash_l1 a0 s.1 s.2) m (v3_s_1, v13_1) = some q3 ∧ s = lit [(3, .own 3 0), (11, .own 11 0), (12, .int .i64 (List.length [a0.Hi, a0.Lo] : Int)), (13, .int .i64 v13_1)] [((3, 0), .arr 5 1 false (List.map enc5 v3_s_1)), ((11, 0), .arr 25 1 false (List.map enc12 [a0.Hi, a0.Lo]))] [(3, 1), (11, 1)] X) Fu
      ⟨_, reb_lit [(3, .own 3 0), (11, .own 11 0), (12, .int .i64 (List.length [a0.Hi, a0.Lo] : Int)), (13, .int .i64 (0))] [(3, 0), (11, 0)] [((3, 0), .arr 5 1 false (List.map enc5 [])), ((11, 0), .arr 25 1 false (List.map enc12 [a0.Hi, a0.Lo]))] [(3, 1), (11, 1)] (envOk_cons (by conv => lhs; whnf) (by exact rfl) (envOk_cons (by conv => lhs; whnf) (by exact rfl) (envOk_cons (by conv => lhs; whnf) (by exact rfl) (envOk_cons (by conv => lhs; whnf) (by exact rfl) envOk_nil)))) (objOk_cons (by conv => lhs; whnf) (by conv => lhs; whnf) (by exact rfl) (by simp) (objOk_cons (by conv => lhs; whnf) (by conv => lhs; whnf) (by exact rfl) (by simp) objOk_nil)) (nodup_b rfl) (nodup_b rfl) rfl rfl, [], 0, h, rfl⟩ ?_
    rintro m s ⟨v3_s_1, v13_1, h, rfl⟩
    obtain ⟨m1, q6, rfl, h, hq7⟩ := loop_some h
    replace h : judge_Hash_l1 a0 v3_s_1 v13_1 = some q6 := h
    unfold judge_Hash_l1 at h
    refine aw_seq_k (fun K8 hK8 => ?_)
    refine aw_reg ?_
    refine ao_cons (acts_of rfl (does_bin (v := .bool (decide (v13_1 < (List.length [a0.Hi, a0.Lo] : Int)))) (by conv => lhs; whnf) (by conv => lhs; whnf) rfl)) (by decide) ?_
    refine ao_nil_n ?_
    refine hK8 _ ?_
    refine aw_seq_k (fun K9 hK9 => ?_)
    refine aw_bool (b := (decide (v13_1 < (List.length [a0.Hi, a0.Lo] : Int)))) 14 rfl (fun c10 => ?_) (fun c10 => ?_)
    · have h := ifT c10 h
      refine aw_cond_t (by decide) rfl ?_
      refine aw_skip ?_
      refine hK9 _ ?_
      refine aw_seq_k (fun K11 hK11 => ?_)
      refine aw_block ?_
      refine aw_seq_k (fun K12 hK12 => ?_)
      refine aw_reg ?_
      obtain ⟨g13, h⟩ := gd_some h
      obtain ⟨x14, hx14, h⟩ := bnd_some h
      refine ao_cons (acts_of rfl (does_indexAddr_own (by conv => lhs; whnf) (by conv => lhs; whnf) (by conv => lhs; whnf) ty81 ty25 g13 (by exact own_lt hx14))) (by decide) ?_
      refine ao_cons (acts_of rfl (does_load (v := .int .u64 x14) (by conv => lhs; whnf) (cellsAt_eptr (by conv => lhs; whnf) (by exact map_get hx14)) ty25 (by exact rfl))) (by decide) ?_
      refine ao_cons (acts_of rfl (does_assign (v := .int .u64 x14) (by exact rfl))) (by decide) ?_
      refine ao_nil_n ?_
      refine hK12 _ ?_
      refine aw_seq_k (fun K15 hK15 => ?_)
      refine aw_reg ?_
      refine ao_cons (acts_of rfl (does_assign (v := .int .i64 56) (by exact rfl))) (by decide) ?_
      refine ao_nil_n ?_
      refine hK15 _ ?_
      refine aw_block ?_
      refine aw_loop' (fun m s => ∃ (v3_s_2 : List UInt8), ∃ (v6_2 : Int), loopN (fun (s : List UInt8 × Int) => judge_Hash_l2 v13_1 x14 s.1 s.2) m (v3_s_2, v6_2) = some q6 ∧ s = lit [(3, .own 3 0), (5, .int .u64 x14), (6, .int .i64 v6_2), (11, .own 11 0), (12, .int .i64 (List.length [a0.Hi, a0.Lo] : Int)), (13, .int .i64 v13_1)] [((3, 0), .arr 5 1 false (List.map enc5 v3_s_2)), ((11, 0), .arr 25 1 false (List.map enc12 [a0.Hi, a0.Lo]))] [(3, 1), (11, 1)] X) Fu
        ⟨_, reb_lit [(3, .own 3 0), (5, .int .u64 x14), (6, .int .i64 (56)), (11, .own 11 0), (12, .int .i64 (List.length [a0.Hi, a0.Lo] : Int)), (13, .int .i64 v13_1)] [(3, 0), (11, 0)] [((3, 0), .arr 5 1 false (List.map enc5 v3_s_1)), ((11, 0), .arr 25 1 false (List.map enc12 [a0.Hi, a0.Lo]))] [(3, 1), (11, 1)] (envOk_cons (by conv => lhs; whnf) (by exact rfl) (envOk_cons (by conv => lhs; whnf) (by exact rfl) (envOk_cons (by conv => lhs; whnf) (by exact rfl) (envOk_cons (by conv => lhs; whnf) (by exact rfl) (envOk_cons (by conv => lhs; whnf) (by exact rfl) (envOk_cons (by conv => lhs; whnf) (by exact rfl) envOk_nil)))))) (objOk_cons (by conv => lhs; whnf) (by conv => lhs; whnf) (by exact rfl) (by simp) (objOk_cons (by conv => lhs; whnf) (by conv => lhs; whnf) (by exact rfl) (by simp) objOk_nil)) (nodup_b rfl) (nodup_b rfl) rfl rfl, v3_s_1, 56, h, rfl⟩ ?_
      rintro m s ⟨v3_s_2, v6_2, h, rfl⟩
      obtain ⟨m2, q16, rfl, h, hq17⟩ := loop_some h
      replace h : judge_Hash_l2 v13_1 x14 v3_s_2 v6_2 = some q16 := h
      unfold judge_Hash_l2 at h
      refine aw_seq_k (fun K18 hK18 => ?_)
      refine aw_seq_k (fun K19 hK19 => ?_)
      refine aw_reg ?_
      refine ao_cons (acts_of rfl (does_move (v := .int .i64 v6_2) (by exact rfl))) (by decide) ?_
      refine ao_cons (acts_of rfl (does_bin (v := .bool (decide ((0 : Int) ≤ v6_2))) (by conv => lhs; whnf) (by conv => lhs; whnf) rfl)) (by decide) ?_
      refine ao_nil_n ?_
      refine hK19 _ ?_
      refine aw_bool (b := (decide ((0 : Int) ≤ v6_2))) 18 rfl (fun c20 => ?_) (fun c20 => ?_)
      · have h := ifT c20 h
        refine aw_cond_t (by decide) rfl ?_
        refine aw_skip ?_
        refine hK18 _ ?_
        refine aw_seq_k (fun K21 hK21 => ?_)
        refine aw_block ?_
        refine aw_reg ?_
        refine ao_cons (acts_of rfl (does_move (v := .own 3 0) (by exact rfl))) (by decide) ?_
        refine ao_cons (acts_of rfl (does_move (v := .int .u64 x14) (by exact rfl))) (by decide) ?_
        refine ao_cons (acts_of rfl (does_move (v := .int .i64 v6_2) (by exact rfl))) (by decide) ?_
        obtain ⟨g22, h⟩ := gd_some h
        refine ao_cons (acts_of rfl (does_bin (v := .int .u64 (Int.fdiv x14 (2 ^ (min (Int.toNat v6_2) (IntKind.bits .u64))))) (by conv => lhs; whnf) (by conv => lhs; whnf) (shr_hv g22))) (by decide) ?_
        refine ao_cons (acts_of rfl ((does_conv_int (v := .int .u8 (IntKind.u8.wrap (Int.fdiv x14 (2 ^ (min (Int.toNat v6_2) (IntKind.bits .u64)))))) (by conv => lhs; whnf) (ty_some ty25) (ty_int ty5) rfl).castp (v' := .int .u8 ((u8 (IntKind.u8.wrap (Int.fdiv x14 (2 ^ (min (Int.toNat v6_2) (IntKind.bits .u64)))))).toNat : Int)) (by exact congrArg _ (u8_eq (u8_wrap _))))) (by decide) ?_
        refine ao_cons (acts_of rfl (do_buildSlice (xs := List.map enc5 [(u8 (IntKind.u8.wrap (Int.fdiv x14 (2 ^ (min (Int.toNat v6_2) (IntKind.bits .u64))))))]) ty43 ty5 rfl rfl rfl rfl rfl rfl rfl rfl)) (by decide) ?_
        obtain ⟨g23, h⟩ := gd_some h
        refine ao_cons (acts_of rfl (do_append (v := List.map enc5 (v3_s_2 ++ [(u8 (IntKind.u8.wrap (Int.fdiv x14 (2 ^ (min (Int.toNat v6_2) (IntKind.bits .u64))))))])) (by conv => lhs; whnf) (by conv => lhs; whnf) ty43 ty5 rfl rfl (by conv => lhs; whnf) (by first | exact .inl rfl | exact .inr ⟨rfl, rfl⟩) (by conv => lhs; whnf) (by first | exact .inr rfl | exact .inl rfl) (map_app _ _) (fit_map g23))) (by decide) ?_
        refine ao_cons (acts_of rfl (does_assign (v := .own 27 0) (by exact rfl))) (by decide) ?_
        refine ao_nil_n ?_
        refine hK21 _ ?_
        refine aw_reg ?_
        refine ao_cons (acts_of rfl (does_move (v := .int .i64 v6_2) (by exact rfl))) (by decide) ?_
        refine ao_cons (acts_of rfl (does_bin (v := .int .i64 (IntKind.i64.wrap (v6_2 - 8))) (by conv => lhs; whnf) (by conv => lhs; whnf) rfl)) (by decide) ?_
        refine ao_cons (acts_of rfl (does_assign (v := .int .i64 (IntKind.i64.wrap (v6_2 - 8))) (by exact rfl))) (by decide) ?_
        refine ao_nil_n ?_
        have h := leafL h hq17
        exact ⟨m2, Nat.lt_succ_self _, _, reb_lit [(3, .own 3 0), (5, .int .u64 x14), (6, .int .i64 (IntKind.i64.wrap (v6_2 - 8))), (11, .own 11 0), (12, .int .i64 (List.length [a0.Hi, a0.Lo] : Int)), (13, .int .i64 v13_1)] [(27, 0), (11, 0)] [((3, 0), .arr 5 1 false (List.map enc5 (v3_s_2 ++ [(u8 (IntKind.u8.wrap (Int.fdiv x14 (2 ^ (min (Int.toNat v6_2) (IntKind.bits .u64))))))]))), ((11, 0), .arr 25 1 false (List.map enc12 [a0.Hi, a0.Lo]))] [(3, 1), (11, 1)] (envOk_cons (by conv => lhs; whnf) (by exact rfl) (envOk_cons (by conv => lhs; whnf) (by exact rfl) (envOk_cons (by conv => lhs; whnf) (by exact rfl) (envOk_cons (by conv => lhs; whnf) (by exact rfl) (envOk_cons (by conv => lhs; whnf) (by exact rfl) (envOk_cons (by conv => lhs; whnf) (by exact rfl) envOk_nil)))))) (objOk_cons (by conv => lhs; whnf) (by conv => lhs; whnf) (by exact rfl) (by simp) (objOk_cons (by conv => lhs; whnf) (by conv => lhs; whnf) (by exact rfl) (by simp) objOk_nil)) (nodup_b rfl) (nodup_b rfl) rfl rfl, (v3_s_2 ++ [(u8 (IntKind.u8.wrap (Int.fdiv x14 (2 ^ (min (Int.toNat v6_2) (IntKind.bits .u64))))))]), (IntKind.i64.wrap (v6_2 - 8)), h, rfl⟩
      · have h := ifF c20 h
        refine aw_cond_f (by decide) rfl ?_
        refine aw_exit ?_
        have h := leafR h hq17
        refine hK11 _ ?_
        refine aw_reg ?_
        refine ao_cons (acts_of rfl (does_bin (v := .int .i64 (IntKind.i64.wrap (v13_1 + 1))) (by conv => lhs; whnf) (by conv => lhs; whnf) rfl)) (by decide) ?_
        refine ao_cons (acts_of rfl (does_move (v := .int .i64 (IntKind.i64.wrap (v13_1 + 1))) (by exact rfl))) (by decide) ?_
        refine ao_nil_n ?_
        have h := leafL h hq7
        exact ⟨m1, Nat.lt_succ_self _, _, reb_lit [(3, .own 3 0), (11, .own 11 0), (12, .int .i64 (List.length [a0.Hi, a0.Lo] : Int)), (13, .int .i64 (IntKind.i64.wrap (v13_1 + 1)))] [(3, 0), (11, 0)] [((3, 0), .arr 5 1 false (List.map enc5 v3_s_2)), ((11, 0), .arr 25 1 false (List.map enc12 [a0.Hi, a0.Lo]))] [(3, 1), (11, 1)] (envOk_cons (by conv => lhs; whnf) (by exact rfl) (envOk_cons (by conv => lhs; whnf) (by exact rfl) (envOk_cons (by conv => lhs; whnf) (by exact rfl) (envOk_cons (by conv => lhs; whnf) (by exact rfl) envOk_nil)))) (objOk_cons (by conv => lhs; whnf) (by conv => lhs; whnf) (by exact rfl) (by simp) (objOk_cons (by conv => lhs; whnf) (by conv => lhs; whnf) (by exact rfl) (by simp) objOk_nil)) (nodup_b rfl) (nodup_b rfl) rfl rfl, v3_s_2, (IntKind.i64.wrap (v13_1 + 1)), h, rfl⟩
    · have h := ifF c10 h
      refine aw_cond_f (by decide) rfl ?_
      refine aw_exit ?_
      have h := leafR h hq7
      obtain rfl := Option.some.inj h
      have h := hk4
      exact ⟨_, reb_lit [(3, .own 3 0)] [(3, 0)] [((3, 0), .arr 5 1 false (List.map enc5 v3_s_1))] [(3, 1)] (envOk_cons (by conv => lhs; whnf) (by exact rfl) envOk_nil) (objOk_cons (by conv => lhs; whnf) (by conv => lhs; whnf) (by exact rfl) (by simp) objOk_nil) (nodup_b rfl) (nodup_b rfl) rfl rfl, v3_s_1, h, rfl⟩
  · rintro s ⟨v3_s_0, h, rfl⟩
    unfold judge_Hash_k0 at h
    refine aw_seq_k (fun K24 hK24 => ?_)
    refine aw_reg ?_
    refine ao_cons (acts_of rfl (does_move (v := .own 3 0) (by exact rfl))) (by decide) ?_
    obtain ⟨x25, hx25, h⟩ := bnd_some h
    refine ao_cons (acts_of rfl (do_callG (bcs := []) [] [] [(3, 0)] 30 false (check_Sum_ok v3_s_0 hx25) rfl ent56 trivial trivial rfl rfl rfl rfl rfl rfl rfl rfl (.inr ⟨rfl, rfl, trivial⟩))) (by decide) ?_
    refine ao_cons (acts_of rfl (does_bin (v := .int .u32 (Int.tmod x25 1000)) (by conv => lhs; whnf) (by conv => lhs; whnf) rfl)) (by decide) ?_
    refine ao_cons (acts_of rfl (does_conv_int (v := .int .i64 (IntKind.i64.wrap (Int.tmod x25 1000))) (by conv => lhs; whnf) (ty_some ty82) (ty_int ty3) rfl)) (by decide) ?_
    refine ao_cons (acts_of rfl (does_assign (v := .int .i64 (IntKind.i64.wrap (Int.tmod x25 1000))) (by exact rfl))) (by decide) ?_
    refine ao_nil_n ?_
    refine hK24 _ ?_
    refine aw_ret ?_
    obtain rfl := Option.some.inj h
    exact ret_ok1 (by conv => lhs; whnf) (by conv => lhs; whnf) (by exact rfl) (.inr rfl) rfl
def judge_keep_c1 (K : Rule → Episode → Int → Option Bool) (a0 : Rule) (a1 : Episode) (a2 : Int) : Option Bool :=
  Option.bind (K a0 a1 a2) (fun (x3 : Bool) => some x3)
set_option maxRecDepth 100000 in
set_option maxHeartbeats 8000000 in
/-- gleaning/judge.keep$1 -/
theorem judge_keep_c1_ok (K : Rule → Episode → Int → Option Bool) (hK : ∀ (a0 : Rule) (a1 : Episode) (a2 : Int) {r : Bool}, K a0 a1 a2 = some r → Ok Try.prog 58 [.agg [.int .i64 a0.Kind, .int .i64 a0.N, .str a0.Key, .str a0.Value, .sl 5 (List.map enc23 a0.Kids)], .agg [.int .u64 a1.Trace.Hi, .int .u64 a1.Trace.Lo, .int .i64 a1.First, .int .i64 a1.Last, .bool a1.Sure, .sl 10 (List.map enc41 a1.Spans)], .int .i64 a2] [] [] (.bool r) [] []) (a0 : Rule) (a1 : Episode) (a2 : Int) {r : Bool} (h : judge_keep_c1 K a0 a1 a2 = some r) : Ok Try.prog 88 [.agg [.int .i64 a0.Kind, .int .i64 a0.N, .str a0.Key, .str a0.Value, .sl 5 (List.map enc23 a0.Kids)], .rptr [.int .u64 a1.Trace.Hi, .int .u64 a1.Trace.Lo, .int .i64 a1.First, .int .i64 a1.Last, .bool a1.Sure, .sl 10 (List.map enc41 a1.Spans)], .rptr [.int .i64 a2]] [] [] (.bool r) [] [] := by
  unfold judge_keep_c1 at h
  refine ok_of_code Try.func88 rfl (by show (3 : Nat) ≤ _; decide) (Nat.le_refl _) fun X => ?_
  refine aw_seq_k (fun K1 hK1 => ?_)
  refine aw_reg ?_
  refine ao_cons (acts_of rfl (do_box (by conv => lhs; whnf) rfl rfl)) (by decide) ?_
  refine ao_cons (acts_of rfl (does_assign (v := .bool false) (by exact rfl))) (by decide) ?_
  refine ao_nil_n ?_
  refine hK1 _ ?_
  refine aw_seq_k (fun K2 hK2 => ?_)
  refine aw_reg ?_
  refine ao_cons (acts_of rfl (does_load (v := .agg [.int .i64 a0.Kind, .int .i64 a0.N, .str a0.Key, .str a0.Value, .sl 5 (List.map enc23 a0.Kids)]) (by conv => lhs; whnf) (by conv => lhs; whnf) ty24 (by exact rfl))) (by decide) ?_
  refine ao_cons (acts_of rfl (does_load (v := .agg [.int .u64 a1.Trace.Hi, .int .u64 a1.Trace.Lo, .int .i64 a1.First, .int .i64 a1.Last, .bool a1.Sure, .sl 10 (List.map enc41 a1.Spans)]) (by conv => lhs; whnf) (by conv => lhs; whnf) ty30 (by exact rfl))) (by decide) ?_
  refine ao_cons (acts_of rfl (does_load (v := .int .i64 a2) (by conv => lhs; whnf) (by conv => lhs; whnf) ty3 (by exact rfl))) (by decide) ?_
  obtain ⟨x3, hx3, h⟩ := bnd_some h
  refine ao_cons (acts_of rfl (do_call0 8 false (hK a0 a1 a2 hx3) rfl ent58 rfl rfl)) (by decide) ?_
  refine ao_cons (acts_of rfl (does_assign (v := .bool x3) (by exact rfl))) (by decide) ?_
  refine ao_nil_n ?_
  refine hK2 _ ?_
  refine aw_ret ?_
  obtain rfl := Option.some.inj h
  exact ret_ok1 (by conv => lhs; whnf) (by conv => lhs; whnf) (by exact rfl) (.inr rfl) rfl
def judge_keep_c2_judge_keep_c1 (K : Rule → Episode → Int → Option Bool) (a0 : Rule) (a1_0 : Episode) (a1_1 : Int) : Option Bool :=
  Option.bind (judge_keep_c1 K a0 a1_0 a1_1) (fun (x3 : Bool) => some (!x3))
set_option maxRecDepth 100000 in
set_option maxHeartbeats 8000000 in
/-- gleaning/judge.keep$2 -/
theorem judge_keep_c2_judge_keep_c1_ok (K : Rule → Episode → Int → Option Bool) (hK : ∀ (a0 : Rule) (a1 : Episode) (a2 : Int) {r : Bool}, K a0 a1 a2 = some r → Ok Try.prog 58 [.agg [.int .i64 a0.Kind, .int .i64 a0.N, .str a0.Key, .str a0.Value, .sl 5 (List.map enc23 a0.Kids)], .agg [.int .u64 a1.Trace.Hi, .int .u64 a1.Trace.Lo, .int .i64 a1.First, .int .i64 a1.Last, .bool a1.Sure, .sl 10 (List.map enc41 a1.Spans)], .int .i64 a2] [] [] (.bool r) [] []) (a0 : Rule) (a1_0 : Episode) (a1_1 : Int) {r : Bool} (h : judge_keep_c2_judge_keep_c1 K a0 a1_0 a1_1 = some r) : Ok Try.prog 90 [.agg [.int .i64 a0.Kind, .int .i64 a0.N, .str a0.Key, .str a0.Value, .sl 5 (List.map enc23 a0.Kids)], .rptr [.fn 88 [.rptr [.int .u64 a1_0.Trace.Hi, .int .u64 a1_0.Trace.Lo, .int .i64 a1_0.First, .int .i64 a1_0.Last, .bool a1_0.Sure, .sl 10 (List.map enc41 a1_0.Spans)], .rptr [.int .i64 a1_1]]]] [] [] (.bool r) [] [] := by
  unfold judge_keep_c2_judge_keep_c1 at h
  refine ok_of_code Try.func90 rfl (by show (2 : Nat) ≤ _; decide) (Nat.le_refl _) fun X => ?_
  refine aw_seq_k (fun K1 hK1 => ?_)
  refine aw_reg ?_
  refine ao_cons (acts_of rfl (do_box (by conv => lhs; whnf) rfl rfl)) (by decide) ?_
  refine ao_cons (acts_of rfl (does_assign (v := .bool false) (by exact rfl))) (by decide) ?_
  refine ao_nil_n ?_
  refine hK1 _ ?_
  refine aw_seq_k (fun K2 hK2 => ?_)
  refine aw_reg ?_
  refine ao_cons (acts_of rfl (does_load (v := .fn 88 [.rptr [.int .u64 a1_0.Trace.Hi, .int .u64 a1_0.Trace.Lo, .int .i64 a1_0.First, .int .i64 a1_0.Last, .bool a1_0.Sure, .sl 10 (List.map enc41 a1_0.Spans)], .rptr [.int .i64 a1_1]]) (by conv => lhs; whnf) (by conv => lhs; whnf) ty32 (by exact rfl))) (by decide) ?_
  refine ao_cons (acts_of rfl (does_load (v := .agg [.int .i64 a0.Kind, .int .i64 a0.N, .str a0.Key, .str a0.Value, .sl 5 (List.map enc23 a0.Kids)]) (by conv => lhs; whnf) (by conv => lhs; whnf) ty24 (by exact rfl))) (by decide) ?_
  obtain ⟨x3, hx3, h⟩ := bnd_some h
  refine ao_cons (acts_of rfl (do_call0 6 false (judge_keep_c1_ok K hK a0 a1_0 a1_1 hx3) rfl ent88 rfl rfl)) (by decide) ?_
  refine ao_cons (acts_of rfl (does_un (v := .bool (!x3)) (by conv => lhs; whnf) rfl)) (by decide) ?_
  refine ao_cons (acts_of rfl (does_assign (v := .bool (!x3)) (by exact rfl))) (by decide) ?_
  refine ao_nil_n ?_
  refine hK2 _ ?_
  refine aw_ret ?_
  obtain rfl := Option.some.inj h
  exact ret_ok1 (by conv => lhs; whnf) (by conv => lhs; whnf) (by exact rfl) (.inr rfl) rfl
def slices_IndexFunc_Rule_judge_keep_c2_judge_keep_c1_l0 (K : Rule → Episode → Int → Option Bool) (a0 : List Rule) (a1_0_0 : Episode) (a1_0_1 : Int) (v8_0 : Int) : Option (Int ⊕ Int) :=
  if (decide (v8_0 < (List.length a0 : Int))) = true then (gd (0 ≤ v8_0) (Option.bind (a0[(Int.toNat v8_0)]?) (fun (x13 : Rule) => Option.bind (judge_keep_c2_judge_keep_c1 K x13 a1_0_0 a1_0_1) (fun (x14 : Bool) => if x14 = true then (some (Sum.inr v8_0)) else (some (Sum.inl (IntKind.i64.wrap (v8_0 + 1)))))))) else (some (Sum.inr (-1)))
def slices_IndexFunc_Rule_judge_keep_c2_judge_keep_c1 (K : Rule → Episode → Int → Option Bool) (a0 : List Rule) (a1_0_0 : Episode) (a1_0_1 : Int) : Option Int :=
  loopN (fun (s : Int) => slices_IndexFunc_Rule_judge_keep_c2_judge_keep_c1_l0 K a0 a1_0_0 a1_0_1 s) Fu 0
set_option maxRecDepth 100000 in
set_option maxHeartbeats 8000000 in
/-- slices.IndexFunc[[]gleaning/api.Rule,gleaning/api.Rule] -/
theorem slices_IndexFunc_Rule_judge_keep_c2_judge_keep_c1_ok (K : Rule → Episode → Int → Option Bool) (hK : ∀ (a0 : Rule) (a1 : Episode) (a2 : Int) {r : Bool}, K a0 a1 a2 = some r → Ok Try.prog 58 [.agg [.int .i64 a0.Kind, .int .i64 a0.N, .str a0.Key, .str a0.Value, .sl 5 (List.map enc23 a0.Kids)], .agg [.int .u64 a1.Trace.Hi, .int .u64 a1.Trace.Lo, .int .i64 a1.First, .int .i64 a1.Last, .bool a1.Sure, .sl 10 (List.map enc41 a1.Spans)], .int .i64 a2] [] [] (.bool r) [] []) (a0 : List Rule) (a1_0_0 : Episode) (a1_0_1 : Int) {r : Int} (h : slices_IndexFunc_Rule_judge_keep_c2_judge_keep_c1 K a0 a1_0_0 a1_0_1 = some r) : Ok Try.prog 116 [.sl 5 (List.map enc23 a0), .fn 90 [.rptr [.fn 88 [.rptr [.int .u64 a1_0_0.Trace.Hi, .int .u64 a1_0_0.Trace.Lo, .int .i64 a1_0_0.First, .int .i64 a1_0_0.Last, .bool a1_0_0.Sure, .sl 10 (List.map enc41 a1_0_0.Spans)], .rptr [.int .i64 a1_0_1]]]]] [] [] (.int .i64 r) [] [] := by
  unfold slices_IndexFunc_Rule_judge_keep_c2_judge_keep_c1 at h
  refine ok_of_code Try.func116 rfl (by show (2 : Nat) ≤ _; decide) (Nat.le_refl _) fun X => ?_
  refine aw_seq_k (fun K1 hK1 => ?_)
  refine aw_reg ?_
  refine ao_cons (acts_of rfl (does_assign (v := .int .i64 0) (by exact rfl))) (by decide) ?_
  refine ao_nil_n ?_
  refine hK1 _ ?_
  refine aw_seq_k (fun K2 hK2 => ?_)
  refine aw_seq_k (fun K3 hK3 => ?_)
  refine aw_reg ?_
  refine ao_cons (acts_of rfl (does_move (v := .sl 5 (List.map enc23 a0)) (by exact rfl))) (by decide) ?_
  refine ao_cons (acts_of rfl ((does_len_sl (by conv => lhs; whnf) ty22).castp (v' := .int .i64 (List.length a0 : Int)) (by exact len_map _))) (by decide) ?_
  refine ao_cons (acts_of rfl (does_move (v := .int .i64 0) (by exact rfl))) (by decide) ?_
  refine ao_nil_n ?_
  refine hK3 _ ?_
  refine aw_block ?_
  refine aw_loop' (fun m s => ∃ (v8_0 : Int), loopN (fun (s : Int) => slices_IndexFunc_Rule_judge_keep_c2_judge_keep_c1_l0 K a0 a1_0_0 a1_0_1 s) m v8_0 = some r ∧ s = lit [(0, .sl 5 (List.map enc23 a0)), (1, .fn 90 [.rptr [.fn 88 [.rptr [.int .u64 a1_0_0.Trace.Hi, .int .u64 a1_0_0.Trace.Lo, .int .i64 a1_0_0.First, .int .i64 a1_0_0.Last, .bool a1_0_0.Sure, .sl 10 (List.map enc41 a1_0_0.Spans)], .rptr [.int .i64 a1_0_1]]]]), (7, .int .i64 (List.length a0 : Int)), (8, .int .i64 v8_0)] [] [] X) Fu
    ⟨_, reb_lit [(0, .sl 5 (List.map enc23 a0)), (1, .fn 90 [.rptr [.fn 88 [.rptr [.int .u64 a1_0_0.Trace.Hi, .int .u64 a1_0_0.Trace.Lo, .int .i64 a1_0_0.First, .int .i64 a1_0_0.Last, .bool a1_0_0.Sure, .sl 10 (List.map enc41 a1_0_0.Spans)], .rptr [.int .i64 a1_0_1]]]]), (7, .int .i64 (List.length a0 : Int)), (8, .int .i64 (0))] [] [] [] (envOk_cons (by conv => lhs; whnf) (by exact rfl) (envOk_cons (by conv => lhs; whnf) (by exact rfl) (envOk_cons (by conv => lhs; whnf) (by exact rfl) (envOk_cons (by conv => lhs; whnf) (by exact rfl) envOk_nil)))) objOk_nil (nodup_b rfl) (nodup_b rfl) rfl rfl, 0, h, rfl⟩ ?_
  rintro m s ⟨v8_0, h, rfl⟩
  obtain ⟨m0, q4, rfl, h, hq5⟩ := loop_some h
  replace h : slices_IndexFunc_Rule_judge_keep_c2_judge_keep_c1_l0 K a0 a1_0_0 a1_0_1 v8_0 = some q4 := h
  unfold slices_IndexFunc_Rule_judge_keep_c2_judge_keep_c1_l0 at h
  refine aw_seq_k (fun K6 hK6 => ?_)
  refine aw_reg ?_
  refine ao_cons (acts_of rfl (does_bin (v := .bool (decide (v8_0 < (List.length a0 : Int)))) (by conv => lhs; whnf) (by conv => lhs; whnf) rfl)) (by decide) ?_
  refine ao_nil_n ?_
  refine hK6 _ ?_
  refine aw_seq_k (fun K7 hK7 => ?_)
  refine aw_bool (b := (decide (v8_0 < (List.length a0 : Int)))) 9 rfl (fun c8 => ?_) (fun c8 => ?_)
  · have h := ifT c8 h
    refine aw_cond_t (by decide) rfl ?_
    refine aw_skip ?_
    refine hK7 _ ?_
    refine aw_seq_k (fun K9 hK9 => ?_)
    refine aw_block ?_
    refine aw_seq_k (fun K10 hK10 => ?_)
    refine aw_reg ?_
    refine ao_cons (acts_of rfl (does_move (v := .int .i64 v8_0) (by exact rfl))) (by decide) ?_
    refine ao_cons (acts_of rfl (does_assign (v := .int .i64 v8_0) (by exact rfl))) (by decide) ?_
    refine ao_nil_n ?_
    refine hK10 _ ?_
    refine aw_seq_k (fun K11 hK11 => ?_)
    refine aw_reg ?_
    refine ao_cons (acts_of rfl (does_move (v := .fn 90 [.rptr [.fn 88 [.rptr [.int .u64 a1_0_0.Trace.Hi, .int .u64 a1_0_0.Trace.Lo, .int .i64 a1_0_0.First, .int .i64 a1_0_0.Last, .bool a1_0_0.Sure, .sl 10 (List.map enc41 a1_0_0.Spans)], .rptr [.int .i64 a1_0_1]]]]) (by exact rfl))) (by decide) ?_
    refine ao_cons (acts_of rfl (does_move (v := .sl 5 (List.map enc23 a0)) (by exact rfl))) (by decide) ?_
    refine ao_cons (acts_of rfl (does_move (v := .int .i64 v8_0) (by exact rfl))) (by decide) ?_
    obtain ⟨g12, h⟩ := gd_some h
    obtain ⟨x13, hx13, h⟩ := bnd_some h
    refine ao_cons (acts_of rfl (does_indexAddr_sl (el := .agg [.int .i64 x13.Kind, .int .i64 x13.N, .str x13.Key, .str x13.Value, .sl 5 (List.map enc23 x13.Kids)]) (by conv => lhs; whnf) (by conv => lhs; whnf) ty22 ty24 g12 (by exact map_getE (enc23_eq _) hx13))) (by decide) ?_
    refine ao_cons (acts_of rfl (does_load (v := .agg [.int .i64 x13.Kind, .int .i64 x13.N, .str x13.Key, .str x13.Value, .sl 5 (List.map enc23 x13.Kids)]) (by conv => lhs; whnf) (by conv => lhs; whnf) ty24 (by exact rfl))) (by decide) ?_
    obtain ⟨x14, hx14, h⟩ := bnd_some h
    refine ao_cons (acts_of rfl (do_call0 16 false (judge_keep_c2_judge_keep_c1_ok K hK x13 a1_0_0 a1_0_1 hx14) rfl ent90 rfl rfl)) (by decide) ?_
    refine ao_nil_n ?_
    refine hK11 _ ?_
    refine aw_bool (b := x14) 16 rfl (fun c15 => ?_) (fun c15 => ?_)
    · have h := ifT c15 h
      refine aw_cond_t (by decide) rfl ?_
      refine aw_seq_k (fun K16 hK16 => ?_)
      refine aw_reg ?_
      refine ao_cons (acts_of rfl (does_move (v := .int .i64 v8_0) (by exact rfl))) (by decide) ?_
      refine ao_cons (acts_of rfl (does_assign (v := .int .i64 v8_0) (by exact rfl))) (by decide) ?_
      refine ao_nil_n ?_
      refine hK16 _ ?_
      refine aw_ret ?_
      have h := leafR h hq5
      obtain rfl := Option.some.inj h
      exact ret_ok1 (by conv => lhs; whnf) (by conv => lhs; whnf) (by exact rfl) (.inr rfl) rfl
    · have h := ifF c15 h
      refine aw_cond_f (by decide) rfl ?_
      refine aw_skip ?_
      refine hK9 _ ?_
      refine aw_reg ?_
      refine ao_cons (acts_of rfl (does_bin (v := .int .i64 (IntKind.i64.wrap (v8_0 + 1))) (by conv => lhs; whnf) (by conv => lhs; whnf) rfl)) (by decide) ?_
      refine ao_cons (acts_of rfl (does_move (v := .int .i64 (IntKind.i64.wrap (v8_0 + 1))) (by exact rfl))) (by decide) ?_
      refine ao_nil_n ?_
      have h := leafL h hq5
      exact ⟨m0, Nat.lt_succ_self _, _, reb_lit [(0, .sl 5 (List.map enc23 a0)), (1, .fn 90 [.rptr [.fn 88 [.rptr [.int .u64 a1_0_0.Trace.Hi, .int .u64 a1_0_0.Trace.Lo, .int .i64 a1_0_0.First, .int .i64 a1_0_0.Last, .bool a1_0_0.Sure, .sl 10 (List.map enc41 a1_0_0.Spans)], .rptr [.int .i64 a1_0_1]]]]), (7, .int .i64 (List.length a0 : Int)), (8, .int .i64 (IntKind.i64.wrap (v8_0 + 1)))] [] [] [] (envOk_cons (by conv => lhs; whnf) (by exact rfl) (envOk_cons (by conv => lhs; whnf) (by exact rfl) (envOk_cons (by conv => lhs; whnf) (by exact rfl) (envOk_cons (by conv => lhs; whnf) (by exact rfl) envOk_nil)))) objOk_nil (nodup_b rfl) (nodup_b rfl) rfl rfl, (IntKind.i64.wrap (v8_0 + 1)), h, rfl⟩
  · have h := ifF c8 h
    refine aw_cond_f (by decide) rfl ?_
    refine aw_exit ?_
    have h := leafR h hq5
    refine hK2 _ ?_
    refine aw_seq_k (fun K17 hK17 => ?_)
    refine aw_reg ?_
    refine ao_cons (acts_of rfl (does_assign (v := .int .i64 (-1)) (by exact rfl))) (by decide) ?_
    refine ao_nil_n ?_
    refine hK17 _ ?_
    refine aw_ret ?_
    obtain rfl := Option.some.inj h
    exact ret_ok1 (by conv => lhs; whnf) (by conv => lhs; whnf) (by exact rfl) (.inr rfl) rfl
def slices_ContainsFunc_Rule_judge_keep_c2_judge_keep_c1 (K : Rule → Episode → Int → Option Bool) (a0 : List Rule) (a1_0_0 : Episode) (a1_0_1 : Int) : Option Bool :=
  Option.bind (slices_IndexFunc_Rule_judge_keep_c2_judge_keep_c1 K a0 a1_0_0 a1_0_1) (fun (x3 : Int) => some (decide ((0 : Int) ≤ x3)))
set_option maxRecDepth 100000 in
set_option maxHeartbeats 8000000 in
/-- slices.ContainsFunc[[]gleaning/api.Rule,gleaning/api.Rule] -/
theorem slices_ContainsFunc_Rule_judge_keep_c2_judge_keep_c1_ok (K : Rule → Episode → Int → Option Bool) (hK : ∀ (a0 : Rule) (a1 : Episode) (a2 : Int) {r : Bool}, K a0 a1 a2 = some r → Ok Try.prog 58 [.agg [.int .i64 a0.Kind, .int .i64 a0.N, .str a0.Key, .str a0.Value, .sl 5 (List.map enc23 a0.Kids)], .agg [.int .u64 a1.Trace.Hi, .int .u64 a1.Trace.Lo, .int .i64 a1.First, .int .i64 a1.Last, .bool a1.Sure, .sl 10 (List.map enc41 a1.Spans)], .int .i64 a2] [] [] (.bool r) [] []) (a0 : List Rule) (a1_0_0 : Episode) (a1_0_1 : Int) {r : Bool} (h : slices_ContainsFunc_Rule_judge_keep_c2_judge_keep_c1 K a0 a1_0_0 a1_0_1 = some r) : Ok Try.prog 89 [.sl 5 (List.map enc23 a0), .fn 90 [.rptr [.fn 88 [.rptr [.int .u64 a1_0_0.Trace.Hi, .int .u64 a1_0_0.Trace.Lo, .int .i64 a1_0_0.First, .int .i64 a1_0_0.Last, .bool a1_0_0.Sure, .sl 10 (List.map enc41 a1_0_0.Spans)], .rptr [.int .i64 a1_0_1]]]]] [] [] (.bool r) [] [] := by
  unfold slices_ContainsFunc_Rule_judge_keep_c2_judge_keep_c1 at h
  refine ok_of_code Try.func89 rfl (by show (2 : Nat) ≤ _; decide) (Nat.le_refl _) fun X => ?_
  refine aw_seq_k (fun K1 hK1 => ?_)
  refine aw_reg ?_
  refine ao_cons (acts_of rfl (does_assign (v := .bool false) (by exact rfl))) (by decide) ?_
  refine ao_nil_n ?_
  refine hK1 _ ?_
  refine aw_seq_k (fun K2 hK2 => ?_)
  refine aw_reg ?_
  refine ao_cons (acts_of rfl (does_move (v := .sl 5 (List.map enc23 a0)) (by exact rfl))) (by decide) ?_
  refine ao_cons (acts_of rfl (does_move (v := .fn 90 [.rptr [.fn 88 [.rptr [.int .u64 a1_0_0.Trace.Hi, .int .u64 a1_0_0.Trace.Lo, .int .i64 a1_0_0.First, .int .i64 a1_0_0.Last, .bool a1_0_0.Sure, .sl 10 (List.map enc41 a1_0_0.Spans)], .rptr [.int .i64 a1_0_1]]]]) (by exact rfl))) (by decide) ?_
  obtain ⟨x3, hx3, h⟩ := bnd_some h
  refine ao_cons (acts_of rfl (do_call0 7 false (slices_IndexFunc_Rule_judge_keep_c2_judge_keep_c1_ok K hK a0 a1_0_0 a1_0_1 hx3) rfl ent116 rfl rfl)) (by decide) ?_
  refine ao_cons (acts_of rfl (does_bin (v := .bool (decide ((0 : Int) ≤ x3))) (by conv => lhs; whnf) (by conv => lhs; whnf) rfl)) (by decide) ?_
  refine ao_cons (acts_of rfl (does_assign (v := .bool (decide ((0 : Int) ≤ x3))) (by exact rfl))) (by decide) ?_
  refine ao_nil_n ?_
  refine hK2 _ ?_
  refine aw_ret ?_
  obtain rfl := Option.some.inj h
  exact ret_ok1 (by conv => lhs; whnf) (by conv => lhs; whnf) (by exact rfl) (.inr rfl) rfl
def slices_IndexFunc_Rule_judge_keep_c1_l0 (K : Rule → Episode → Int → Option Bool) (a0 : List Rule) (a1_0 : Episode) (a1_1 : Int) (v8_0 : Int) : Option (Int ⊕ Int) :=
  if (decide (v8_0 < (List.length a0 : Int))) = true then (gd (0 ≤ v8_0) (Option.bind (a0[(Int.toNat v8_0)]?) (fun (x13 : Rule) => Option.bind (judge_keep_c1 K x13 a1_0 a1_1) (fun (x14 : Bool) => if x14 = true then (some (Sum.inr v8_0)) else (some (Sum.inl (IntKind.i64.wrap (v8_0 + 1)))))))) else (some (Sum.inr (-1)))
def slices_IndexFunc_Rule_judge_keep_c1 (K : Rule → Episode → Int → Option Bool) (a0 : List Rule) (a1_0 : Episode) (a1_1 : Int) : Option Int :=
  loopN (fun (s : Int) => slices_IndexFunc_Rule_judge_keep_c1_l0 K a0 a1_0 a1_1 s) Fu 0
set_option maxRecDepth 100000 in
set_option maxHeartbeats 8000000 in
/-- slices.IndexFunc[[]gleaning/api.Rule,gleaning/api.Rule] -/
theorem slices_IndexFunc_Rule_judge_keep_c1_ok (K : Rule → Episode → Int → Option Bool) (hK : ∀ (a0 : Rule) (a1 : Episode) (a2 : Int) {r : Bool}, K a0 a1 a2 = some r → Ok Try.prog 58 [.agg [.int .i64 a0.Kind, .int .i64 a0.N, .str a0.Key, .str a0.Value, .sl 5 (List.map enc23 a0.Kids)], .agg [.int .u64 a1.Trace.Hi, .int .u64 a1.Trace.Lo, .int .i64 a1.First, .int .i64 a1.Last, .bool a1.Sure, .sl 10 (List.map enc41 a1.Spans)], .int .i64 a2] [] [] (.bool r) [] []) (a0 : List Rule) (a1_0 : Episode) (a1_1 : Int) {r : Int} (h : slices_IndexFunc_Rule_judge_keep_c1 K a0 a1_0 a1_1 = some r) : Ok Try.prog 116 [.sl 5 (List.map enc23 a0), .fn 88 [.rptr [.int .u64 a1_0.Trace.Hi, .int .u64 a1_0.Trace.Lo, .int .i64 a1_0.First, .int .i64 a1_0.Last, .bool a1_0.Sure, .sl 10 (List.map enc41 a1_0.Spans)], .rptr [.int .i64 a1_1]]] [] [] (.int .i64 r) [] [] := by
  unfold slices_IndexFunc_Rule_judge_keep_c1 at h
  refine ok_of_code Try.func116 rfl (by show (2 : Nat) ≤ _; decide) (Nat.le_refl _) fun X => ?_
  refine aw_seq_k (fun K1 hK1 => ?_)
  refine aw_reg ?_
  refine ao_cons (acts_of rfl (does_assign (v := .int .i64 0) (by exact rfl))) (by decide) ?_
  refine ao_nil_n ?_
  refine hK1 _ ?_
  refine aw_seq_k (fun K2 hK2 => ?_)
  refine aw_seq_k (fun K3 hK3 => ?_)
  refine aw_reg ?_
  refine ao_cons (acts_of rfl (does_move (v := .sl 5 (List.map enc23 a0)) (by exact rfl))) (by decide) ?_
  refine ao_cons (acts_of rfl ((does_len_sl (by conv => lhs; whnf) ty22).castp (v' := .int .i64 (List.length a0 : Int)) (by exact len_map _))) (by decide) ?_
  refine ao_cons (acts_of rfl (does_move (v := .int .i64 0) (by exact rfl))) (by decide) ?_
  refine ao_nil_n ?_
  refine hK3 _ ?_
  refine aw_block ?_
  refine aw_loop' (fun m s => ∃ (v8_0 : Int), loopN (fun (s : Int) => slices_IndexFunc_Rule_judge_keep_c1_l0 K a0 a1_0 a1_1 s) m v8_0 = some r ∧ s = lit [(0, .sl 5 (List.map enc23 a0)), (1, .fn 88 [.rptr [.int .u64 a1_0.Trace.Hi, .int .u64 a1_0.Trace.Lo, .int .i64 a1_0.First, .int .i64 a1_0.Last, .bool a1_0.Sure, .sl 10 (List.map enc41 a1_0.Spans)], .rptr [.int .i64 a1_1]]), (7, .int .i64 (List.length a0 : Int)), (8, .int .i64 v8_0)] [] [] X) Fu
    ⟨_, reb_lit [(0, .sl 5 (List.map enc23 a0)), (1, .fn 88 [.rptr [.int .u64 a1_0.Trace.Hi, .int .u64 a1_0.Trace.Lo, .int .i64 a1_0.First, .int .i64 a1_0.Last, .bool a1_0.Sure, .sl 10 (List.map enc41 a1_0.Spans)], .rptr [.int .i64 a1_1]]), (7, .int .i64 (List.length a0 : Int)), (8, .int .i64 (0))] [] [] [] (envOk_cons (by conv => lhs; whnf) (by exact rfl) (envOk_cons (by conv => lhs; whnf) (by exact rfl) (envOk_cons (by conv => lhs; whnf) (by exact rfl) (envOk_cons (by conv => lhs; whnf) (by exact rfl) envOk_nil)))) objOk_nil (nodup_b rfl) (nodup_b rfl) rfl rfl, 0, h, rfl⟩ ?_
  rintro m s ⟨v8_0, h, rfl⟩
  obtain ⟨m0, q4, rfl, h, hq5⟩ := loop_some h
  replace h : slices_IndexFunc_Rule_judge_keep_c1_l0 K a0 a1_0 a1_1 v8_0 = some q4 := h
  unfold slices_IndexFunc_Rule_judge_keep_c1_l0 at h
  refine aw_seq_k (fun K6 hK6 => ?_)
  refine aw_reg ?_
  refine ao_cons (acts_of rfl (does_bin (v := .bool (decide (v8_0 < (List.length a0 : Int)))) (by conv => lhs; whnf) (by conv => lhs; whnf) rfl)) (by decide) ?_
  refine ao_nil_n ?_
  refine hK6 _ ?_
  refine aw_seq_k (fun K7 hK7 => ?_)
  refine aw_bool (b := (decide (v8_0 < (List.length a0 : Int)))) 9 rfl (fun c8 => ?_) (fun c8 => ?_)
  · have h := ifT c8 h
    refine aw_cond_t (by decide) rfl ?_
    refine aw_skip ?_
    refine hK7 _ ?_
    refine aw_seq_k (fun K9 hK9 => ?_)
    refine aw_block ?_
    refine aw_seq_k (fun K10 hK10 => ?_)
    refine aw_reg ?_
    refine ao_cons (acts_of rfl (does_move (v := .int .i64 v8_0) (by exact rfl))) (by decide) ?_
    refine ao_cons (acts_of rfl (does_assign (v := .int .i64 v8_0) (by exact rfl))) (by decide) ?_
    refine ao_nil_n ?_
    refine hK10 _ ?_
    refine aw_seq_k (fun K11 hK11 => ?_)
    refine aw_reg ?_
    refine ao_cons (acts_of rfl (does_move (v := .fn 88 [.rptr [.int .u64 a1_0.Trace.Hi, .int .u64 a1_0.Trace.Lo, .int .i64 a1_0.First, .int .i64 a1_0.Last, .bool a1_0.Sure, .sl 10 (List.map enc41 a1_0.Spans)], .rptr [.int .i64 a1_1]]) (by exact rfl))) (by decide) ?_
    refine ao_cons (acts_of rfl (does_move (v := .sl 5 (List.map enc23 a0)) (by exact rfl))) (by decide) ?_
    refine ao_cons (acts_of rfl (does_move (v := .int .i64 v8_0) (by exact rfl))) (by decide) ?_
    obtain ⟨g12, h⟩ := gd_some h
    obtain ⟨x13, hx13, h⟩ := bnd_some h
    refine ao_cons (acts_of rfl (does_indexAddr_sl (el := .agg [.int .i64 x13.Kind, .int .i64 x13.N, .str x13.Key, .str x13.Value, .sl 5 (List.map enc23 x13.Kids)]) (by conv => lhs; whnf) (by conv => lhs; whnf) ty22 ty24 g12 (by exact map_getE (enc23_eq _) hx13))) (by decide) ?_
    refine ao_cons (acts_of rfl (does_load (v := .agg [.int .i64 x13.Kind, .int .i64 x13.N, .str x13.Key, .str x13.Value, .sl 5 (List.map enc23 x13.Kids)]) (by conv => lhs; whnf) (by conv => lhs; whnf) ty24 (by exact rfl))) (by decide) ?_
    obtain ⟨x14, hx14, h⟩ := bnd_some h
    refine ao_cons (acts_of rfl (do_call0 16 false (judge_keep_c1_ok K hK x13 a1_0 a1_1 hx14) rfl ent88 rfl rfl)) (by decide) ?_
    refine ao_nil_n ?_
    refine hK11 _ ?_
    refine aw_bool (b := x14) 16 rfl (fun c15 => ?_) (fun c15 => ?_)
    · have h := ifT c15 h
      refine aw_cond_t (by decide) rfl ?_
      refine aw_seq_k (fun K16 hK16 => ?_)
      refine aw_reg ?_
      refine ao_cons (acts_of rfl (does_move (v := .int .i64 v8_0) (by exact rfl))) (by decide) ?_
      refine ao_cons (acts_of rfl (does_assign (v := .int .i64 v8_0) (by exact rfl))) (by decide) ?_
      refine ao_nil_n ?_
      refine hK16 _ ?_
      refine aw_ret ?_
      have h := leafR h hq5
      obtain rfl := Option.some.inj h
      exact ret_ok1 (by conv => lhs; whnf) (by conv => lhs; whnf) (by exact rfl) (.inr rfl) rfl
    · have h := ifF c15 h
      refine aw_cond_f (by decide) rfl ?_
      refine aw_skip ?_
      refine hK9 _ ?_
      refine aw_reg ?_
      refine ao_cons (acts_of rfl (does_bin (v := .int .i64 (IntKind.i64.wrap (v8_0 + 1))) (by conv => lhs; whnf) (by conv => lhs; whnf) rfl)) (by decide) ?_
      refine ao_cons (acts_of rfl (does_move (v := .int .i64 (IntKind.i64.wrap (v8_0 + 1))) (by exact rfl))) (by decide) ?_
      refine ao_nil_n ?_
      have h := leafL h hq5
      exact ⟨m0, Nat.lt_succ_self _, _, reb_lit [(0, .sl 5 (List.map enc23 a0)), (1, .fn 88 [.rptr [.int .u64 a1_0.Trace.Hi, .int .u64 a1_0.Trace.Lo, .int .i64 a1_0.First, .int .i64 a1_0.Last, .bool a1_0.Sure, .sl 10 (List.map enc41 a1_0.Spans)], .rptr [.int .i64 a1_1]]), (7, .int .i64 (List.length a0 : Int)), (8, .int .i64 (IntKind.i64.wrap (v8_0 + 1)))] [] [] [] (envOk_cons (by conv => lhs; whnf) (by exact rfl) (envOk_cons (by conv => lhs; whnf) (by exact rfl) (envOk_cons (by conv => lhs; whnf) (by exact rfl) (envOk_cons (by conv => lhs; whnf) (by exact rfl) envOk_nil)))) objOk_nil (nodup_b rfl) (nodup_b rfl) rfl rfl, (IntKind.i64.wrap (v8_0 + 1)), h, rfl⟩
  · have h := ifF c8 h
    refine aw_cond_f (by decide) rfl ?_
    refine aw_exit ?_
    have h := leafR h hq5
    refine hK2 _ ?_
    refine aw_seq_k (fun K17 hK17 => ?_)
    refine aw_reg ?_
    refine ao_cons (acts_of rfl (does_assign (v := .int .i64 (-1)) (by exact rfl))) (by decide) ?_
    refine ao_nil_n ?_
    refine hK17 _ ?_
    refine aw_ret ?_
    obtain rfl := Option.some.inj h
    exact ret_ok1 (by conv => lhs; whnf) (by conv => lhs; whnf) (by exact rfl) (.inr rfl) rfl
def slices_ContainsFunc_Rule_judge_keep_c1 (K : Rule → Episode → Int → Option Bool) (a0 : List Rule) (a1_0 : Episode) (a1_1 : Int) : Option Bool :=
  Option.bind (slices_IndexFunc_Rule_judge_keep_c1 K a0 a1_0 a1_1) (fun (x3 : Int) => some (decide ((0 : Int) ≤ x3)))
set_option maxRecDepth 100000 in
set_option maxHeartbeats 8000000 in
/-- slices.ContainsFunc[[]gleaning/api.Rule,gleaning/api.Rule] -/
theorem slices_ContainsFunc_Rule_judge_keep_c1_ok (K : Rule → Episode → Int → Option Bool) (hK : ∀ (a0 : Rule) (a1 : Episode) (a2 : Int) {r : Bool}, K a0 a1 a2 = some r → Ok Try.prog 58 [.agg [.int .i64 a0.Kind, .int .i64 a0.N, .str a0.Key, .str a0.Value, .sl 5 (List.map enc23 a0.Kids)], .agg [.int .u64 a1.Trace.Hi, .int .u64 a1.Trace.Lo, .int .i64 a1.First, .int .i64 a1.Last, .bool a1.Sure, .sl 10 (List.map enc41 a1.Spans)], .int .i64 a2] [] [] (.bool r) [] []) (a0 : List Rule) (a1_0 : Episode) (a1_1 : Int) {r : Bool} (h : slices_ContainsFunc_Rule_judge_keep_c1 K a0 a1_0 a1_1 = some r) : Ok Try.prog 89 [.sl 5 (List.map enc23 a0), .fn 88 [.rptr [.int .u64 a1_0.Trace.Hi, .int .u64 a1_0.Trace.Lo, .int .i64 a1_0.First, .int .i64 a1_0.Last, .bool a1_0.Sure, .sl 10 (List.map enc41 a1_0.Spans)], .rptr [.int .i64 a1_1]]] [] [] (.bool r) [] [] := by
  unfold slices_ContainsFunc_Rule_judge_keep_c1 at h
  refine ok_of_code Try.func89 rfl (by show (2 : Nat) ≤ _; decide) (Nat.le_refl _) fun X => ?_
  refine aw_seq_k (fun K1 hK1 => ?_)
  refine aw_reg ?_
  refine ao_cons (acts_of rfl (does_assign (v := .bool false) (by exact rfl))) (by decide) ?_
  refine ao_nil_n ?_
  refine hK1 _ ?_
  refine aw_seq_k (fun K2 hK2 => ?_)
  refine aw_reg ?_
  refine ao_cons (acts_of rfl (does_move (v := .sl 5 (List.map enc23 a0)) (by exact rfl))) (by decide) ?_
  refine ao_cons (acts_of rfl (does_move (v := .fn 88 [.rptr [.int .u64 a1_0.Trace.Hi, .int .u64 a1_0.Trace.Lo, .int .i64 a1_0.First, .int .i64 a1_0.Last, .bool a1_0.Sure, .sl 10 (List.map enc41 a1_0.Spans)], .rptr [.int .i64 a1_1]]) (by exact rfl))) (by decide) ?_
  obtain ⟨x3, hx3, h⟩ := bnd_some h
  refine ao_cons (acts_of rfl (do_call0 7 false (slices_IndexFunc_Rule_judge_keep_c1_ok K hK a0 a1_0 a1_1 hx3) rfl ent116 rfl rfl)) (by decide) ?_
  refine ao_cons (acts_of rfl (does_bin (v := .bool (decide ((0 : Int) ≤ x3))) (by conv => lhs; whnf) (by conv => lhs; whnf) rfl)) (by decide) ?_
  refine ao_cons (acts_of rfl (does_assign (v := .bool (decide ((0 : Int) ≤ x3))) (by exact rfl))) (by decide) ?_
  refine ao_nil_n ?_
  refine hK2 _ ?_
  refine aw_ret ?_
  obtain rfl := Option.some.inj h
  exact ret_ok1 (by conv => lhs; whnf) (by conv => lhs; whnf) (by exact rfl) (.inr rfl) rfl
def slices_Index_Attr_l0 (a0 : List Attr) (a1 : Attr) (v8_0 : Int) : Option (Int ⊕ Int) :=
  if (decide (v8_0 < (List.length a0 : Int))) = true then (gd (0 ≤ v8_0) (Option.bind (a0[(Int.toNat v8_0)]?) (fun (x13 : Attr) => if ((ByteArray.toList a1.Key == ByteArray.toList x13.Key) && ((ByteArray.toList a1.Value == ByteArray.toList x13.Value) && true)) = true then (some (Sum.inr v8_0)) else (some (Sum.inl (IntKind.i64.wrap (v8_0 + 1))))))) else (some (Sum.inr (-1)))
def slices_Index_Attr (a0 : List Attr) (a1 : Attr) : Option Int :=
  loopN (fun (s : Int) => slices_Index_Attr_l0 a0 a1 s) Fu 0
set_option maxRecDepth 100000 in
set_option maxHeartbeats 8000000 in
/-- slices.Index[[]gleaning/api.Attr,gleaning/api.Attr] -/
theorem slices_Index_Attr_ok (a0 : List Attr) (a1 : Attr) {r : Int} (h : slices_Index_Attr a0 a1 = some r) : Ok Try.prog 125 [.sl 2 (List.map enc52 a0), .agg [.str a1.Key, .str a1.Value]] [] [] (.int .i64 r) [] [] := by
  unfold slices_Index_Attr at h
  refine ok_of_code Try.func125 rfl (by show (2 : Nat) ≤ _; decide) (Nat.le_refl _) fun X => ?_
  refine aw_seq_k (fun K1 hK1 => ?_)
  refine aw_reg ?_
  refine ao_cons (acts_of rfl (do_box (by conv => lhs; whnf) rfl rfl)) (by decide) ?_
  refine ao_cons (acts_of rfl (does_assign (v := .int .i64 0) (by exact rfl))) (by decide) ?_
  refine ao_nil_n ?_
  refine hK1 _ ?_
  refine aw_seq_k (fun K2 hK2 => ?_)
  refine aw_seq_k (fun K3 hK3 => ?_)
  refine aw_reg ?_
  refine ao_cons (acts_of rfl (does_move (v := .sl 2 (List.map enc52 a0)) (by exact rfl))) (by decide) ?_
  refine ao_cons (acts_of rfl ((does_len_sl (by conv => lhs; whnf) ty40).castp (v' := .int .i64 (List.length a0 : Int)) (by exact len_map _))) (by decide) ?_
  refine ao_cons (acts_of rfl (does_move (v := .int .i64 0) (by exact rfl))) (by decide) ?_
  refine ao_nil_n ?_
  refine hK3 _ ?_
  refine aw_block ?_
  refine aw_loop' (fun m s => ∃ (v8_0 : Int), loopN (fun (s : Int) => slices_Index_Attr_l0 a0 a1 s) m v8_0 = some r ∧ s = lit [(0, .sl 2 (List.map enc52 a0)), (3, .ptr 3 0 0), (7, .int .i64 (List.length a0 : Int)), (8, .int .i64 v8_0)] [((3, 0), .box [.str a1.Key, .str a1.Value])] [(3, 1)] X) Fu
    ⟨_, reb_lit [(0, .sl 2 (List.map enc52 a0)), (3, .ptr 3 0 0), (7, .int .i64 (List.length a0 : Int)), (8, .int .i64 (0))] [(3, 0)] [((3, 0), .box [.str a1.Key, .str a1.Value])] [(3, 1)] (envOk_cons (by conv => lhs; whnf) (by exact rfl) (envOk_cons (by conv => lhs; whnf) (by exact rfl) (envOk_cons (by conv => lhs; whnf) (by exact rfl) (envOk_cons (by conv => lhs; whnf) (by exact rfl) envOk_nil)))) (objOk_cons (by conv => lhs; whnf) (by conv => lhs; whnf) (by exact rfl) (by simp) objOk_nil) (nodup_b rfl) (nodup_b rfl) rfl rfl, 0, h, rfl⟩ ?_
  rintro m s ⟨v8_0, h, rfl⟩
  obtain ⟨m0, q4, rfl, h, hq5⟩ := loop_some h
  replace h : slices_Index_Attr_l0 a0 a1 v8_0 = some q4 := h
  unfold slices_Index_Attr_l0 at h
  refine aw_seq_k (fun K6 hK6 => ?_)
  refine aw_reg ?_
  refine ao_cons (acts_of rfl (does_bin (v := .bool (decide (v8_0 < (List.length a0 : Int)))) (by conv => lhs; whnf) (by conv => lhs; whnf) rfl)) (by decide) ?_
  refine ao_nil_n ?_
  refine hK6 _ ?_
  refine aw_seq_k (fun K7 hK7 => ?_)
  refine aw_bool (b := (decide (v8_0 < (List.length a0 : Int)))) 9 rfl (fun c8 => ?_) (fun c8 => ?_)
  · have h := ifT c8 h
    refine aw_cond_t (by decide) rfl ?_
    refine aw_skip ?_
    refine hK7 _ ?_
    refine aw_seq_k (fun K9 hK9 => ?_)
    refine aw_block ?_
    refine aw_seq_k (fun K10 hK10 => ?_)
    refine aw_reg ?_
    refine ao_cons (acts_of rfl (does_move (v := .int .i64 v8_0) (by exact rfl))) (by decide) ?_
    refine ao_cons (acts_of rfl (does_assign (v := .int .i64 v8_0) (by exact rfl))) (by decide) ?_
    refine ao_nil_n ?_
    refine hK10 _ ?_
    refine aw_seq_k (fun K11 hK11 => ?_)
    refine aw_regd (by kernel_rfl) (by decide +kernel) ?_
    refine ao_cons (acts_of rfl (does_load (v := .agg [.str a1.Key, .str a1.Value]) (by conv => lhs; whnf) (by conv => lhs; whnf) ty53 (by exact rfl))) (by decide) ?_
    refine ao_cons (acts_of rfl (does_move (v := .sl 2 (List.map enc52 a0)) (by exact rfl))) (by decide) ?_
    refine ao_cons (acts_of rfl (does_move (v := .int .i64 v8_0) (by exact rfl))) (by decide) ?_
    obtain ⟨g12, h⟩ := gd_some h
    obtain ⟨x13, hx13, h⟩ := bnd_some h
    refine ao_cons (acts_of rfl (does_indexAddr_sl (el := .agg [.str x13.Key, .str x13.Value]) (by conv => lhs; whnf) (by conv => lhs; whnf) ty40 ty53 g12 (by exact map_get hx13))) (by decide) ?_
    refine ao_cons (acts_of rfl (does_load (v := .agg [.str x13.Key, .str x13.Value]) (by conv => lhs; whnf) (by conv => lhs; whnf) ty53 (by exact rfl))) (by decide) ?_
    refine ao_cons (acts_of rfl (does_eq_struct (v := .bool ((ByteArray.toList a1.Key == ByteArray.toList x13.Key) && ((ByteArray.toList a1.Value == ByteArray.toList x13.Value) && true))) (by conv => lhs; whnf) (by conv => lhs; whnf) fk53 rfl ag53 eg53 (by conv => lhs; whnf) rfl)) (by decide) ?_
    refine ao_nil_d (by kernel_rfl) ?_
    refine hK11 _ ?_
    refine aw_bool (b := ((ByteArray.toList a1.Key == ByteArray.toList x13.Key) && ((ByteArray.toList a1.Value == ByteArray.toList x13.Value) && true))) 16 rfl (fun c14 => ?_) (fun c14 => ?_)
    · have h := ifT c14 h
      refine aw_cond_t (by decide) rfl ?_
      refine aw_seq_k (fun K15 hK15 => ?_)
      refine aw_reg ?_
      refine ao_cons (acts_of rfl (does_move (v := .int .i64 v8_0) (by exact rfl))) (by decide) ?_
      refine ao_cons (acts_of rfl (does_assign (v := .int .i64 v8_0) (by exact rfl))) (by decide) ?_
      refine ao_nil_n ?_
      refine hK15 _ ?_
      refine aw_ret ?_
      have h := leafR h hq5
      obtain rfl := Option.some.inj h
      exact ret_ok1 (by conv => lhs; whnf) (by conv => lhs; whnf) (by exact rfl) (.inr rfl) rfl
    · have h := ifF c14 h
      refine aw_cond_f (by decide) rfl ?_
      refine aw_skip ?_
      refine hK9 _ ?_
      refine aw_reg ?_
      refine ao_cons (acts_of rfl (does_bin (v := .int .i64 (IntKind.i64.wrap (v8_0 + 1))) (by conv => lhs; whnf) (by conv => lhs; whnf) rfl)) (by decide) ?_
      refine ao_cons (acts_of rfl (does_move (v := .int .i64 (IntKind.i64.wrap (v8_0 + 1))) (by exact rfl))) (by decide) ?_
      refine ao_nil_n ?_
      have h := leafL h hq5
      exact ⟨m0, Nat.lt_succ_self _, _, reb_lit [(0, .sl 2 (List.map enc52 a0)), (3, .ptr 3 0 0), (7, .int .i64 (List.length a0 : Int)), (8, .int .i64 (IntKind.i64.wrap (v8_0 + 1)))] [(3, 0)] [((3, 0), .box [.str a1.Key, .str a1.Value])] [(3, 1)] (envOk_cons (by conv => lhs; whnf) (by exact rfl) (envOk_cons (by conv => lhs; whnf) (by exact rfl) (envOk_cons (by conv => lhs; whnf) (by exact rfl) (envOk_cons (by conv => lhs; whnf) (by exact rfl) envOk_nil)))) (objOk_cons (by conv => lhs; whnf) (by conv => lhs; whnf) (by exact rfl) (by simp) objOk_nil) (nodup_b rfl) (nodup_b rfl) rfl rfl, (IntKind.i64.wrap (v8_0 + 1)), h, rfl⟩
  · have h := ifF c8 h
    refine aw_cond_f (by decide) rfl ?_
    refine aw_exit ?_
    have h := leafR h hq5
    refine hK2 _ ?_
    refine aw_seq_k (fun K16 hK16 => ?_)
    refine aw_reg ?_
    refine ao_cons (acts_of rfl (does_assign (v := .int .i64 (-1)) (by exact rfl))) (by decide) ?_
    refine ao_nil_n ?_
    refine hK16 _ ?_
    refine aw_ret ?_
    obtain rfl := Option.some.inj h
    exact ret_ok1 (by conv => lhs; whnf) (by conv => lhs; whnf) (by exact rfl) (.inr rfl) rfl
def slices_Contains_Attr (a0 : List Attr) (a1 : Attr) : Option Bool :=
  Option.bind (slices_Index_Attr a0 a1) (fun (x3 : Int) => some (decide ((0 : Int) ≤ x3)))
set_option maxRecDepth 100000 in
set_option maxHeartbeats 8000000 in
/-- slices.Contains[[]gleaning/api.Attr,gleaning/api.Attr] -/
theorem slices_Contains_Attr_ok (a0 : List Attr) (a1 : Attr) {r : Bool} (h : slices_Contains_Attr a0 a1 = some r) : Ok Try.prog 118 [.sl 2 (List.map enc52 a0), .agg [.str a1.Key, .str a1.Value]] [] [] (.bool r) [] [] := by
  unfold slices_Contains_Attr at h
  refine ok_of_code Try.func118 rfl (by show (2 : Nat) ≤ _; decide) (Nat.le_refl _) fun X => ?_
  refine aw_seq_k (fun K1 hK1 => ?_)
  refine aw_reg ?_
  refine ao_cons (acts_of rfl (do_box (by conv => lhs; whnf) rfl rfl)) (by decide) ?_
  refine ao_cons (acts_of rfl (does_assign (v := .bool false) (by exact rfl))) (by decide) ?_
  refine ao_nil_n ?_
  refine hK1 _ ?_
  refine aw_seq_k (fun K2 hK2 => ?_)
  refine aw_reg ?_
  refine ao_cons (acts_of rfl (does_move (v := .sl 2 (List.map enc52 a0)) (by exact rfl))) (by decide) ?_
  refine ao_cons (acts_of rfl (does_load (v := .agg [.str a1.Key, .str a1.Value]) (by conv => lhs; whnf) (by conv => lhs; whnf) ty53 (by exact rfl))) (by decide) ?_
  obtain ⟨x3, hx3, h⟩ := bnd_some h
  refine ao_cons (acts_of rfl (do_call0 7 false (slices_Index_Attr_ok a0 a1 hx3) rfl ent125 rfl rfl)) (by decide) ?_
  refine ao_cons (acts_of rfl (does_bin (v := .bool (decide ((0 : Int) ≤ x3))) (by conv => lhs; whnf) (by conv => lhs; whnf) rfl)) (by decide) ?_
  refine ao_cons (acts_of rfl (does_assign (v := .bool (decide ((0 : Int) ≤ x3))) (by exact rfl))) (by decide) ?_
  refine ao_nil_n ?_
  refine hK2 _ ?_
  refine aw_ret ?_
  obtain rfl := Option.some.inj h
  exact ret_ok1 (by conv => lhs; whnf) (by conv => lhs; whnf) (by exact rfl) (.inr rfl) rfl
def judge_some (a0 : Rule) (a1 : Span) : Option Bool :=
  if (a0.Kind == 4) = true then (some (decide (a0.N ≤ a1.Dur))) else (if (a0.Kind == 5) = true then (some a1.Err) else (Option.bind (slices_Contains_Attr a1.Attrs (Attr.mk a0.Key a0.Value)) (fun (x11 : Bool) => some x11)))
set_option maxRecDepth 100000 in
set_option maxHeartbeats 8000000 in
/-- gleaning/judge.some -/
theorem judge_some_ok (a0 : Rule) (a1 : Span) {r : Bool} (h : judge_some a0 a1 = some r) : Ok Try.prog 93 [.agg [.int .i64 a0.Kind, .int .i64 a0.N, .str a0.Key, .str a0.Value, .sl 5 (List.map enc23 a0.Kids)], .agg [.int .u64 a1.Trace.Hi, .int .u64 a1.Trace.Lo, .int .u64 a1.Id, .int .u64 a1.Parent, .str a1.Service, .str a1.Op, .int .i64 a1.Start, .int .i64 a1.Dur, .bool a1.Err, .sl 2 (List.map enc52 a1.Attrs)]] [] [] (.bool r) [] [] := by
  unfold judge_some at h
  refine ok_of_code Try.func93 rfl (by show (2 : Nat) ≤ _; decide) (Nat.le_refl _) fun X => ?_
  refine aw_seq_k (fun K1 hK1 => ?_)
  refine aw_reg ?_
  refine ao_cons (acts_of rfl (do_box (by conv => lhs; whnf) rfl rfl)) (by decide) ?_
  refine ao_cons (acts_of rfl (do_box (by conv => lhs; whnf) rfl rfl)) (by decide) ?_
  refine ao_cons (acts_of rfl (does_assign (v := .bool false) (by exact rfl))) (by decide) ?_
  refine ao_nil_n ?_
  refine hK1 _ ?_
  refine aw_seq_k (fun K2 hK2 => ?_)
  refine aw_seq_k (fun K3 hK3 => ?_)
  refine aw_reg ?_
  refine ao_cons (acts_of rfl (does_fieldAddr (q := .ptr 2 0 0) (by conv => lhs; whnf) ty24 rfl ty3 (by decide) (by exact rfl))) (by decide) ?_
  refine ao_cons (acts_of rfl (does_load (v := .int .i64 a0.Kind) (by conv => lhs; whnf) (by conv => lhs; whnf) ty3 (by exact rfl))) (by decide) ?_
  refine ao_nil_n ?_
  refine hK3 _ ?_
  refine aw_block ?_
  refine aw_seq_k (fun K4 hK4 => ?_)
  refine aw_reg ?_
  refine ao_cons (acts_of rfl (does_bin (v := .bool (a0.Kind == 4)) (by conv => lhs; whnf) (by conv => lhs; whnf) rfl)) (by decide) ?_
  refine ao_cons (acts_of rfl (does_assign (v := .bool (a0.Kind == 4)) (by exact rfl))) (by decide) ?_
  refine ao_nil_n ?_
  refine hK4 _ ?_
  refine aw_bool (b := (a0.Kind == 4)) 7 rfl (fun c5 => ?_) (fun c5 => ?_)
  · have h := ifT c5 h
    refine aw_cond_t (by decide) rfl ?_
    refine aw_seq_k (fun K6 hK6 => ?_)
    refine aw_reg ?_
    refine ao_cons (acts_of rfl (does_fieldAddr (q := .ptr 3 0 7) (by conv => lhs; whnf) ty42 rfl ty3 (by decide) (by exact rfl))) (by decide) ?_
    refine ao_cons (acts_of rfl (does_load (v := .int .i64 a1.Dur) (by conv => lhs; whnf) (by conv => lhs; whnf) ty3 (by exact rfl))) (by decide) ?_
    refine ao_cons (acts_of rfl (does_fieldAddr (q := .ptr 2 0 1) (by conv => lhs; whnf) ty24 rfl ty3 (by decide) (by exact rfl))) (by decide) ?_
    refine ao_cons (acts_of rfl (does_load (v := .int .i64 a0.N) (by conv => lhs; whnf) (by conv => lhs; whnf) ty3 (by exact rfl))) (by decide) ?_
    refine ao_cons (acts_of rfl (does_bin (v := .bool (decide (a0.N ≤ a1.Dur))) (by conv => lhs; whnf) (by conv => lhs; whnf) rfl)) (by decide) ?_
    refine ao_cons (acts_of rfl (does_assign (v := .bool (decide (a0.N ≤ a1.Dur))) (by exact rfl))) (by decide) ?_
    refine ao_nil_n ?_
    refine hK6 _ ?_
    refine aw_ret ?_
    obtain rfl := Option.some.inj h
    exact ret_ok1 (by conv => lhs; whnf) (by conv => lhs; whnf) (by exact rfl) (.inr rfl) rfl
  · have h := ifF c5 h
    refine aw_cond_f (by decide) rfl ?_
    refine aw_seq_k (fun K7 hK7 => ?_)
    refine aw_reg ?_
    refine ao_cons (acts_of rfl (does_bin (v := .bool (a0.Kind == 5)) (by conv => lhs; whnf) (by conv => lhs; whnf) rfl)) (by decide) ?_
    refine ao_cons (acts_of rfl (does_assign (v := .bool (a0.Kind == 5)) (by exact rfl))) (by decide) ?_
    refine ao_nil_n ?_
    refine hK7 _ ?_
    refine aw_bool (b := (a0.Kind == 5)) 14 rfl (fun c8 => ?_) (fun c8 => ?_)
    · have h := ifT c8 h
      refine aw_cond_t (by decide) rfl ?_
      refine aw_seq_k (fun K9 hK9 => ?_)
      refine aw_reg ?_
      refine ao_cons (acts_of rfl (does_fieldAddr (q := .ptr 3 0 8) (by conv => lhs; whnf) ty42 rfl ty4 (by decide) (by exact rfl))) (by decide) ?_
      refine ao_cons (acts_of rfl (does_load (v := .bool a1.Err) (by conv => lhs; whnf) (by conv => lhs; whnf) ty4 (by exact rfl))) (by decide) ?_
      refine ao_cons (acts_of rfl (does_assign (v := .bool a1.Err) (by exact rfl))) (by decide) ?_
      refine ao_nil_n ?_
      refine hK9 _ ?_
      refine aw_ret ?_
      obtain rfl := Option.some.inj h
      exact ret_ok1 (by conv => lhs; whnf) (by conv => lhs; whnf) (by exact rfl) (.inr rfl) rfl
    · have h := ifF c8 h
      refine aw_cond_f (by decide) rfl ?_
      refine aw_skip ?_
      refine hK2 _ ?_
      refine aw_seq_k (fun K10 hK10 => ?_)
      refine aw_reg ?_
      refine ao_cons (acts_of rfl (does_fieldAddr (q := .ptr 3 0 9) (by conv => lhs; whnf) ty42 rfl ty40 (by decide) (by exact rfl))) (by decide) ?_
      refine ao_cons (acts_of rfl (does_load (v := .sl 2 (List.map enc52 a1.Attrs)) (by conv => lhs; whnf) (by conv => lhs; whnf) ty40 (by exact rfl))) (by decide) ?_
      refine ao_cons (acts_of rfl (does_fieldAddr (q := .ptr 2 0 2) (by conv => lhs; whnf) ty24 rfl ty9 (by decide) (by exact rfl))) (by decide) ?_
      refine ao_cons (acts_of rfl (does_load (v := .str a0.Key) (by conv => lhs; whnf) (by conv => lhs; whnf) ty9 (by exact rfl))) (by decide) ?_
      refine ao_cons (acts_of rfl (does_fieldAddr (q := .ptr 2 0 3) (by conv => lhs; whnf) ty24 rfl ty9 (by decide) (by exact rfl))) (by decide) ?_
      refine ao_cons (acts_of rfl (does_load (v := .str a0.Value) (by conv => lhs; whnf) (by conv => lhs; whnf) ty9 (by exact rfl))) (by decide) ?_
      refine ao_cons (acts_of rfl (do_build_struct (cs := [.str a0.Key, .str a0.Value]) ty53 rfl [⟨.str, 1, 16, [.str ByteArray.empty]⟩, ⟨.str, 1, 16, [.str ByteArray.empty]⟩] (by simp only [List.map, ty9]) (by rfl) (by exact rfl))) (by decide) ?_
      obtain ⟨x11, hx11, h⟩ := bnd_some h
      refine ao_cons (acts_of rfl (do_call0 25 false (slices_Contains_Attr_ok a1.Attrs (Attr.mk a0.Key a0.Value) hx11) rfl ent118 rfl rfl)) (by decide) ?_
      refine ao_cons (acts_of rfl (does_assign (v := .bool x11) (by exact rfl))) (by decide) ?_
      refine ao_nil_n ?_
      refine hK10 _ ?_
      refine aw_ret ?_
      obtain rfl := Option.some.inj h
      exact ret_ok1 (by conv => lhs; whnf) (by conv => lhs; whnf) (by exact rfl) (.inr rfl) rfl
def judge_keep_c3 (a0 : Span) (a1 : Rule) : Option Bool :=
  Option.bind (judge_some a1 a0) (fun (x3 : Bool) => some x3)
set_option maxRecDepth 100000 in
set_option maxHeartbeats 8000000 in
/-- gleaning/judge.keep$3 -/
theorem judge_keep_c3_ok (a0 : Span) (a1 : Rule) {r : Bool} (h : judge_keep_c3 a0 a1 = some r) : Ok Try.prog 92 [.agg [.int .u64 a0.Trace.Hi, .int .u64 a0.Trace.Lo, .int .u64 a0.Id, .int .u64 a0.Parent, .str a0.Service, .str a0.Op, .int .i64 a0.Start, .int .i64 a0.Dur, .bool a0.Err, .sl 2 (List.map enc52 a0.Attrs)], .rptr [.int .i64 a1.Kind, .int .i64 a1.N, .str a1.Key, .str a1.Value, .sl 5 (List.map enc23 a1.Kids)]] [] [] (.bool r) [] [] := by
  unfold judge_keep_c3 at h
  refine ok_of_code Try.func92 rfl (by show (2 : Nat) ≤ _; decide) (Nat.le_refl _) fun X => ?_
  refine aw_seq_k (fun K1 hK1 => ?_)
  refine aw_reg ?_
  refine ao_cons (acts_of rfl (do_box (by conv => lhs; whnf) rfl rfl)) (by decide) ?_
  refine ao_cons (acts_of rfl (does_assign (v := .bool false) (by exact rfl))) (by decide) ?_
  refine ao_nil_n ?_
  refine hK1 _ ?_
  refine aw_seq_k (fun K2 hK2 => ?_)
  refine aw_reg ?_
  refine ao_cons (acts_of rfl (does_load (v := .agg [.int .i64 a1.Kind, .int .i64 a1.N, .str a1.Key, .str a1.Value, .sl 5 (List.map enc23 a1.Kids)]) (by conv => lhs; whnf) (by conv => lhs; whnf) ty24 (by exact rfl))) (by decide) ?_
  refine ao_cons (acts_of rfl (does_load (v := .agg [.int .u64 a0.Trace.Hi, .int .u64 a0.Trace.Lo, .int .u64 a0.Id, .int .u64 a0.Parent, .str a0.Service, .str a0.Op, .int .i64 a0.Start, .int .i64 a0.Dur, .bool a0.Err, .sl 2 (List.map enc52 a0.Attrs)]) (by conv => lhs; whnf) (by conv => lhs; whnf) ty42 (by exact rfl))) (by decide) ?_
  obtain ⟨x3, hx3, h⟩ := bnd_some h
  refine ao_cons (acts_of rfl (do_call0 6 false (judge_some_ok a1 a0 hx3) rfl ent93 rfl rfl)) (by decide) ?_
  refine ao_cons (acts_of rfl (does_assign (v := .bool x3) (by exact rfl))) (by decide) ?_
  refine ao_nil_n ?_
  refine hK2 _ ?_
  refine aw_ret ?_
  obtain rfl := Option.some.inj h
  exact ret_ok1 (by conv => lhs; whnf) (by conv => lhs; whnf) (by exact rfl) (.inr rfl) rfl
def slices_IndexFunc_Span_judge_keep_c3_l0 (a0 : List Span) (a1_0 : Rule) (v8_0 : Int) : Option (Int ⊕ Int) :=
  if (decide (v8_0 < (List.length a0 : Int))) = true then (gd (0 ≤ v8_0) (Option.bind (a0[(Int.toNat v8_0)]?) (fun (x13 : Span) => Option.bind (judge_keep_c3 x13 a1_0) (fun (x14 : Bool) => if x14 = true then (some (Sum.inr v8_0)) else (some (Sum.inl (IntKind.i64.wrap (v8_0 + 1)))))))) else (some (Sum.inr (-1)))
def slices_IndexFunc_Span_judge_keep_c3 (a0 : List Span) (a1_0 : Rule) : Option Int :=
  loopN (fun (s : Int) => slices_IndexFunc_Span_judge_keep_c3_l0 a0 a1_0 s) Fu 0
set_option maxRecDepth 100000 in
set_option maxHeartbeats 8000000 in
/-- slices.IndexFunc[[]gleaning/api.Span,gleaning/api.Span] -/
theorem slices_IndexFunc_Span_judge_keep_c3_ok (a0 : List Span) (a1_0 : Rule) {r : Int} (h : slices_IndexFunc_Span_judge_keep_c3 a0 a1_0 = some r) : Ok Try.prog 117 [.sl 10 (List.map enc41 a0), .fn 92 [.rptr [.int .i64 a1_0.Kind, .int .i64 a1_0.N, .str a1_0.Key, .str a1_0.Value, .sl 5 (List.map enc23 a1_0.Kids)]]] [] [] (.int .i64 r) [] [] := by
  unfold slices_IndexFunc_Span_judge_keep_c3 at h
  refine ok_of_code Try.func117 rfl (by show (2 : Nat) ≤ _; decide) (Nat.le_refl _) fun X => ?_
  refine aw_seq_k (fun K1 hK1 => ?_)
  refine aw_reg ?_
  refine ao_cons (acts_of rfl (does_assign (v := .int .i64 0) (by exact rfl))) (by decide) ?_
  refine ao_nil_n ?_
  refine hK1 _ ?_
  refine aw_seq_k (fun K2 hK2 => ?_)
  refine aw_seq_k (fun K3 hK3 => ?_)
  refine aw_reg ?_
  refine ao_cons (acts_of rfl (does_move (v := .sl 10 (List.map enc41 a0)) (by exact rfl))) (by decide) ?_
  refine ao_cons (acts_of rfl ((does_len_sl (by conv => lhs; whnf) ty28).castp (v' := .int .i64 (List.length a0 : Int)) (by exact len_map _))) (by decide) ?_
  refine ao_cons (acts_of rfl (does_move (v := .int .i64 0) (by exact rfl))) (by decide) ?_
  refine ao_nil_n ?_
  refine hK3 _ ?_
  refine aw_block ?_
  refine aw_loop' (fun m s => ∃ (v8_0 : Int), loopN (fun (s : Int) => slices_IndexFunc_Span_judge_keep_c3_l0 a0 a1_0 s) m v8_0 = some r ∧ s = lit [(0, .sl 10 (List.map enc41 a0)), (1, .fn 92 [.rptr [.int .i64 a1_0.Kind, .int .i64 a1_0.N, .str a1_0.Key, .str a1_0.Value, .sl 5 (List.map enc23 a1_0.Kids)]]), (7, .int .i64 (List.length a0 : Int)), (8, .int .i64 v8_0)] [] [] X) Fu
    ⟨_, reb_lit [(0, .sl 10 (List.map enc41 a0)), (1, .fn 92 [.rptr [.int .i64 a1_0.Kind, .int .i64 a1_0.N, .str a1_0.Key, .str a1_0.Value, .sl 5 (List.map enc23 a1_0.Kids)]]), (7, .int .i64 (List.length a0 : Int)), (8, .int .i64 (0))] [] [] [] (envOk_cons (by conv => lhs; whnf) (by exact rfl) (envOk_cons (by conv => lhs; whnf) (by exact rfl) (envOk_cons (by conv => lhs; whnf) (by exact rfl) (envOk_cons (by conv => lhs; whnf) (by exact rfl) envOk_nil)))) objOk_nil (nodup_b rfl) (nodup_b rfl) rfl rfl, 0, h, rfl⟩ ?_
  rintro m s ⟨v8_0, h, rfl⟩
  obtain ⟨m0, q4, rfl, h, hq5⟩ := loop_some h
  replace h : slices_IndexFunc_Span_judge_keep_c3_l0 a0 a1_0 v8_0 = some q4 := h
  unfold slices_IndexFunc_Span_judge_keep_c3_l0 at h
  refine aw_seq_k (fun K6 hK6 => ?_)
  refine aw_reg ?_
  refine ao_cons (acts_of rfl (does_bin (v := .bool (decide (v8_0 < (List.length a0 : Int)))) (by conv => lhs; whnf) (by conv => lhs; whnf) rfl)) (by decide) ?_
  refine ao_nil_n ?_
  refine hK6 _ ?_
  refine aw_seq_k (fun K7 hK7 => ?_)
  refine aw_bool (b := (decide (v8_0 < (List.length a0 : Int)))) 9 rfl (fun c8 => ?_) (fun c8 => ?_)
  · have h := ifT c8 h
    refine aw_cond_t (by decide) rfl ?_
    refine aw_skip ?_
    refine hK7 _ ?_
    refine aw_seq_k (fun K9 hK9 => ?_)
    refine aw_block ?_
    refine aw_seq_k (fun K10 hK10 => ?_)
    refine aw_reg ?_
    refine ao_cons (acts_of rfl (does_move (v := .int .i64 v8_0) (by exact rfl))) (by decide) ?_
    refine ao_cons (acts_of rfl (does_assign (v := .int .i64 v8_0) (by exact rfl))) (by decide) ?_
    refine ao_nil_n ?_
    refine hK10 _ ?_
    refine aw_seq_k (fun K11 hK11 => ?_)
    refine aw_reg ?_
    refine ao_cons (acts_of rfl (does_move (v := .fn 92 [.rptr [.int .i64 a1_0.Kind, .int .i64 a1_0.N, .str a1_0.Key, .str a1_0.Value, .sl 5 (List.map enc23 a1_0.Kids)]]) (by exact rfl))) (by decide) ?_
    refine ao_cons (acts_of rfl (does_move (v := .sl 10 (List.map enc41 a0)) (by exact rfl))) (by decide) ?_
    refine ao_cons (acts_of rfl (does_move (v := .int .i64 v8_0) (by exact rfl))) (by decide) ?_
    obtain ⟨g12, h⟩ := gd_some h
    obtain ⟨x13, hx13, h⟩ := bnd_some h
    refine ao_cons (acts_of rfl (does_indexAddr_sl (el := .agg [.int .u64 x13.Trace.Hi, .int .u64 x13.Trace.Lo, .int .u64 x13.Id, .int .u64 x13.Parent, .str x13.Service, .str x13.Op, .int .i64 x13.Start, .int .i64 x13.Dur, .bool x13.Err, .sl 2 (List.map enc52 x13.Attrs)]) (by conv => lhs; whnf) (by conv => lhs; whnf) ty28 ty42 g12 (by exact map_get hx13))) (by decide) ?_
    refine ao_cons (acts_of rfl (does_load (v := .agg [.int .u64 x13.Trace.Hi, .int .u64 x13.Trace.Lo, .int .u64 x13.Id, .int .u64 x13.Parent, .str x13.Service, .str x13.Op, .int .i64 x13.Start, .int .i64 x13.Dur, .bool x13.Err, .sl 2 (List.map enc52 x13.Attrs)]) (by conv => lhs; whnf) (by conv => lhs; whnf) ty42 (by exact rfl))) (by decide) ?_
    obtain ⟨x14, hx14, h⟩ := bnd_some h
    refine ao_cons (acts_of rfl (do_call0 16 false (judge_keep_c3_ok x13 a1_0 hx14) rfl ent92 rfl rfl)) (by decide) ?_
    refine ao_nil_n ?_
    refine hK11 _ ?_
    refine aw_bool (b := x14) 16 rfl (fun c15 => ?_) (fun c15 => ?_)
    · have h := ifT c15 h
      refine aw_cond_t (by decide) rfl ?_
      refine aw_seq_k (fun K16 hK16 => ?_)
      refine aw_reg ?_
      refine ao_cons (acts_of rfl (does_move (v := .int .i64 v8_0) (by exact rfl))) (by decide) ?_
      refine ao_cons (acts_of rfl (does_assign (v := .int .i64 v8_0) (by exact rfl))) (by decide) ?_
      refine ao_nil_n ?_
      refine hK16 _ ?_
      refine aw_ret ?_
      have h := leafR h hq5
      obtain rfl := Option.some.inj h
      exact ret_ok1 (by conv => lhs; whnf) (by conv => lhs; whnf) (by exact rfl) (.inr rfl) rfl
    · have h := ifF c15 h
      refine aw_cond_f (by decide) rfl ?_
      refine aw_skip ?_
      refine hK9 _ ?_
      refine aw_reg ?_
      refine ao_cons (acts_of rfl (does_bin (v := .int .i64 (IntKind.i64.wrap (v8_0 + 1))) (by conv => lhs; whnf) (by conv => lhs; whnf) rfl)) (by decide) ?_
      refine ao_cons (acts_of rfl (does_move (v := .int .i64 (IntKind.i64.wrap (v8_0 + 1))) (by exact rfl))) (by decide) ?_
      refine ao_nil_n ?_
      have h := leafL h hq5
      exact ⟨m0, Nat.lt_succ_self _, _, reb_lit [(0, .sl 10 (List.map enc41 a0)), (1, .fn 92 [.rptr [.int .i64 a1_0.Kind, .int .i64 a1_0.N, .str a1_0.Key, .str a1_0.Value, .sl 5 (List.map enc23 a1_0.Kids)]]), (7, .int .i64 (List.length a0 : Int)), (8, .int .i64 (IntKind.i64.wrap (v8_0 + 1)))] [] [] [] (envOk_cons (by conv => lhs; whnf) (by exact rfl) (envOk_cons (by conv => lhs; whnf) (by exact rfl) (envOk_cons (by conv => lhs; whnf) (by exact rfl) (envOk_cons (by conv => lhs; whnf) (by exact rfl) envOk_nil)))) objOk_nil (nodup_b rfl) (nodup_b rfl) rfl rfl, (IntKind.i64.wrap (v8_0 + 1)), h, rfl⟩
  · have h := ifF c8 h
    refine aw_cond_f (by decide) rfl ?_
    refine aw_exit ?_
    have h := leafR h hq5
    refine hK2 _ ?_
    refine aw_seq_k (fun K17 hK17 => ?_)
    refine aw_reg ?_
    refine ao_cons (acts_of rfl (does_assign (v := .int .i64 (-1)) (by exact rfl))) (by decide) ?_
    refine ao_nil_n ?_
    refine hK17 _ ?_
    refine aw_ret ?_
    obtain rfl := Option.some.inj h
    exact ret_ok1 (by conv => lhs; whnf) (by conv => lhs; whnf) (by exact rfl) (.inr rfl) rfl
def slices_ContainsFunc_Span_judge_keep_c3 (a0 : List Span) (a1_0 : Rule) : Option Bool :=
  Option.bind (slices_IndexFunc_Span_judge_keep_c3 a0 a1_0) (fun (x3 : Int) => some (decide ((0 : Int) ≤ x3)))
set_option maxRecDepth 100000 in
set_option maxHeartbeats 8000000 in
/-- slices.ContainsFunc[[]gleaning/api.Span,gleaning/api.Span] -/
theorem slices_ContainsFunc_Span_judge_keep_c3_ok (a0 : List Span) (a1_0 : Rule) {r : Bool} (h : slices_ContainsFunc_Span_judge_keep_c3 a0 a1_0 = some r) : Ok Try.prog 91 [.sl 10 (List.map enc41 a0), .fn 92 [.rptr [.int .i64 a1_0.Kind, .int .i64 a1_0.N, .str a1_0.Key, .str a1_0.Value, .sl 5 (List.map enc23 a1_0.Kids)]]] [] [] (.bool r) [] [] := by
  unfold slices_ContainsFunc_Span_judge_keep_c3 at h
  refine ok_of_code Try.func91 rfl (by show (2 : Nat) ≤ _; decide) (Nat.le_refl _) fun X => ?_
  refine aw_seq_k (fun K1 hK1 => ?_)
  refine aw_reg ?_
  refine ao_cons (acts_of rfl (does_assign (v := .bool false) (by exact rfl))) (by decide) ?_
  refine ao_nil_n ?_
  refine hK1 _ ?_
  refine aw_seq_k (fun K2 hK2 => ?_)
  refine aw_reg ?_
  refine ao_cons (acts_of rfl (does_move (v := .sl 10 (List.map enc41 a0)) (by exact rfl))) (by decide) ?_
  refine ao_cons (acts_of rfl (does_move (v := .fn 92 [.rptr [.int .i64 a1_0.Kind, .int .i64 a1_0.N, .str a1_0.Key, .str a1_0.Value, .sl 5 (List.map enc23 a1_0.Kids)]]) (by exact rfl))) (by decide) ?_
  obtain ⟨x3, hx3, h⟩ := bnd_some h
  refine ao_cons (acts_of rfl (do_call0 7 false (slices_IndexFunc_Span_judge_keep_c3_ok a0 a1_0 hx3) rfl ent117 rfl rfl)) (by decide) ?_
  refine ao_cons (acts_of rfl (does_bin (v := .bool (decide ((0 : Int) ≤ x3))) (by conv => lhs; whnf) (by conv => lhs; whnf) rfl)) (by decide) ?_
  refine ao_cons (acts_of rfl (does_assign (v := .bool (decide ((0 : Int) ≤ x3))) (by exact rfl))) (by decide) ?_
  refine ao_nil_n ?_
  refine hK2 _ ?_
  refine aw_ret ?_
  obtain rfl := Option.some.inj h
  exact ret_ok1 (by conv => lhs; whnf) (by conv => lhs; whnf) (by exact rfl) (.inr rfl) rfl
def judge_keep_b (K : Rule → Episode → Int → Option Bool) (a0 : Rule) (a1 : Episode) (a2 : Int) : Option Bool :=
  if (a0.Kind == 1) = true then (Option.bind (slices_ContainsFunc_Rule_judge_keep_c2_judge_keep_c1 K a0.Kids a1 a2) (fun (x8 : Bool) => some (!x8))) else (if (a0.Kind == 2) = true then (Option.bind (slices_ContainsFunc_Rule_judge_keep_c1 K a0.Kids a1 a2) (fun (x12 : Bool) => some x12)) else (if (a0.Kind == 3) = true then (Option.bind (a0.Kids[0]?) (fun (x16 : Rule) => Option.bind (judge_keep_c1 K x16 a1 a2) (fun (x17 : Bool) => some (!x17)))) else (if (a0.Kind == 7) = true then (some (decide (a0.N ≤ (List.length a1.Spans : Int)))) else (if (a0.Kind == 8) = true then (Option.bind (judge_Hash a1.Trace) (fun (x24 : Int) => some (decide (x24 < a0.N)))) else (if (a0.Kind == 9) = true then (some (decide (a2 < a0.N))) else (Option.bind (slices_ContainsFunc_Span_judge_keep_c3 a1.Spans a0) (fun (x29 : Bool) => some x29)))))))
set_option maxRecDepth 100000 in
set_option maxHeartbeats 8000000 in
/-- gleaning/judge.keep -/
theorem judge_keep_b_ok (K : Rule → Episode → Int → Option Bool) (hK : ∀ (a0 : Rule) (a1 : Episode) (a2 : Int) {r : Bool}, K a0 a1 a2 = some r → Ok Try.prog 58 [.agg [.int .i64 a0.Kind, .int .i64 a0.N, .str a0.Key, .str a0.Value, .sl 5 (List.map enc23 a0.Kids)], .agg [.int .u64 a1.Trace.Hi, .int .u64 a1.Trace.Lo, .int .i64 a1.First, .int .i64 a1.Last, .bool a1.Sure, .sl 10 (List.map enc41 a1.Spans)], .int .i64 a2] [] [] (.bool r) [] []) (a0 : Rule) (a1 : Episode) (a2 : Int) {r : Bool} (h : judge_keep_b K a0 a1 a2 = some r) : Ok Try.prog 58 [.agg [.int .i64 a0.Kind, .int .i64 a0.N, .str a0.Key, .str a0.Value, .sl 5 (List.map enc23 a0.Kids)], .agg [.int .u64 a1.Trace.Hi, .int .u64 a1.Trace.Lo, .int .i64 a1.First, .int .i64 a1.Last, .bool a1.Sure, .sl 10 (List.map enc41 a1.Spans)], .int .i64 a2] [] [] (.bool r) [] [] := by
  unfold judge_keep_b at h
  refine ok_of_code Try.func58 rfl (by show (3 : Nat) ≤ _; decide) (Nat.le_refl _) fun X => ?_
  refine aw_seq_k (fun K1 hK1 => ?_)
  refine aw_reg ?_
  refine ao_cons (acts_of rfl (do_box (by conv => lhs; whnf) rfl rfl)) (by decide) ?_
  refine ao_cons (acts_of rfl (do_box (by conv => lhs; whnf) rfl rfl)) (by decide) ?_
  refine ao_cons (acts_of rfl (do_box (by conv => lhs; whnf) rfl rfl)) (by decide) ?_
  refine ao_cons (acts_of rfl (does_assign (v := .bool false) (by exact rfl))) (by decide) ?_
  refine ao_nil_n ?_
  refine hK1 _ ?_
  refine aw_seq_k (fun K2 hK2 => ?_)
  refine aw_reg ?_
  refine ao_cons (acts_of rfl (does_makeFunc (vs := [.ptr 4 0 0, .ptr 5 0 0]) rfl)) (by decide) ?_
  refine ao_cons (acts_of rfl (do_new ty32 rfl rfl)) (by decide) ?_
  refine ao_cons (acts_of rfl (do_store (cs' := [.fn 88 [.ptr 4 0 0, .ptr 5 0 0]]) (by conv => lhs; whnf) (by conv => lhs; whnf) (by conv => lhs; whnf) ty32 rfl rfl rfl (by exact rfl))) (by decide) ?_
  refine ao_nil_n ?_
  refine hK2 _ ?_
  refine aw_seq_k (fun K3 hK3 => ?_)
  refine aw_seq_k (fun K4 hK4 => ?_)
  refine aw_reg ?_
  refine ao_cons (acts_of rfl (does_fieldAddr (q := .ptr 3 0 0) (by conv => lhs; whnf) ty24 rfl ty3 (by decide) (by exact rfl))) (by decide) ?_
  refine ao_cons (acts_of rfl (does_load (v := .int .i64 a0.Kind) (by conv => lhs; whnf) (by conv => lhs; whnf) ty3 (by exact rfl))) (by decide) ?_
  refine ao_nil_n ?_
  refine hK4 _ ?_
  refine aw_block ?_
  refine aw_seq_k (fun K5 hK5 => ?_)
  refine aw_reg ?_
  refine ao_cons (acts_of rfl (does_bin (v := .bool (a0.Kind == 1)) (by conv => lhs; whnf) (by conv => lhs; whnf) rfl)) (by decide) ?_
  refine ao_cons (acts_of rfl (does_assign (v := .bool (a0.Kind == 1)) (by exact rfl))) (by decide) ?_
  refine ao_nil_n ?_
  refine hK5 _ ?_
  refine aw_bool (b := (a0.Kind == 1)) 11 rfl (fun c6 => ?_) (fun c6 => ?_)
  · have h := ifT c6 h
    refine aw_cond_t (by decide) rfl ?_
    refine aw_seq_k (fun K7 hK7 => ?_)
    refine aw_reg ?_
    refine ao_cons (acts_of rfl (does_fieldAddr (q := .ptr 3 0 4) (by conv => lhs; whnf) ty24 rfl ty22 (by decide) (by exact rfl))) (by decide) ?_
    refine ao_cons (acts_of rfl (does_load (v := .sl 5 (List.map enc23 a0.Kids)) (by conv => lhs; whnf) (by conv => lhs; whnf) ty22 (by exact rfl))) (by decide) ?_
    refine ao_cons (acts_of rfl (does_makeFunc (vs := [.ptr 7 0 0]) rfl)) (by decide) ?_
    obtain ⟨x8, hx8, h⟩ := bnd_some h
    refine ao_cons (acts_of rfl (do_callG (bcs := []) [] [] [(4, 0), (5, 0), (7, 0)] 16 false (slices_ContainsFunc_Rule_judge_keep_c2_judge_keep_c1_ok K hK a0.Kids a1 a2 hx8) rfl ent89 trivial trivial rfl rfl rfl rfl rfl rfl rfl rfl (.inr ⟨rfl, rfl, trivial⟩))) (by decide) ?_
    refine ao_cons (acts_of rfl (does_un (v := .bool (!x8)) (by conv => lhs; whnf) rfl)) (by decide) ?_
    refine ao_cons (acts_of rfl (does_assign (v := .bool (!x8)) (by exact rfl))) (by decide) ?_
    refine ao_nil_n ?_
    refine hK7 _ ?_
    refine aw_ret ?_
    obtain rfl := Option.some.inj h
    exact ret_ok1 (by conv => lhs; whnf) (by conv => lhs; whnf) (by exact rfl) (.inr rfl) rfl
  · have h := ifF c6 h
    refine aw_cond_f (by decide) rfl ?_
    refine aw_seq_k (fun K9 hK9 => ?_)
    refine aw_reg ?_
    refine ao_cons (acts_of rfl (does_bin (v := .bool (a0.Kind == 2)) (by conv => lhs; whnf) (by conv => lhs; whnf) rfl)) (by decide) ?_
    refine ao_cons (acts_of rfl (does_assign (v := .bool (a0.Kind == 2)) (by exact rfl))) (by decide) ?_
    refine ao_nil_n ?_
    refine hK9 _ ?_
    refine aw_bool (b := (a0.Kind == 2)) 18 rfl (fun c10 => ?_) (fun c10 => ?_)
    · have h := ifT c10 h
      refine aw_cond_t (by decide) rfl ?_
      refine aw_seq_k (fun K11 hK11 => ?_)
      refine aw_reg ?_
      refine ao_cons (acts_of rfl (does_fieldAddr (q := .ptr 3 0 4) (by conv => lhs; whnf) ty24 rfl ty22 (by decide) (by exact rfl))) (by decide) ?_
      refine ao_cons (acts_of rfl (does_load (v := .sl 5 (List.map enc23 a0.Kids)) (by conv => lhs; whnf) (by conv => lhs; whnf) ty22 (by exact rfl))) (by decide) ?_
      refine ao_cons (acts_of rfl (does_load (v := .fn 88 [.ptr 4 0 0, .ptr 5 0 0]) (by conv => lhs; whnf) (by conv => lhs; whnf) ty32 (by exact rfl))) (by decide) ?_
      obtain ⟨x12, hx12, h⟩ := bnd_some h
      refine ao_cons (acts_of rfl (do_callG (bcs := []) [] [] [(4, 0), (5, 0)] 23 false (slices_ContainsFunc_Rule_judge_keep_c1_ok K hK a0.Kids a1 a2 hx12) rfl ent89 trivial trivial rfl rfl rfl rfl rfl rfl rfl rfl (.inr ⟨rfl, rfl, trivial⟩))) (by decide) ?_
      refine ao_cons (acts_of rfl (does_assign (v := .bool x12) (by exact rfl))) (by decide) ?_
      refine ao_nil_n ?_
      refine hK11 _ ?_
      refine aw_ret ?_
      obtain rfl := Option.some.inj h
      exact ret_ok1 (by conv => lhs; whnf) (by conv => lhs; whnf) (by exact rfl) (.inr rfl) rfl
    · have h := ifF c10 h
      refine aw_cond_f (by decide) rfl ?_
      refine aw_seq_k (fun K13 hK13 => ?_)
      refine aw_reg ?_
      refine ao_cons (acts_of rfl (does_bin (v := .bool (a0.Kind == 3)) (by conv => lhs; whnf) (by conv => lhs; whnf) rfl)) (by decide) ?_
      refine ao_cons (acts_of rfl (does_assign (v := .bool (a0.Kind == 3)) (by exact rfl))) (by decide) ?_
      refine ao_nil_n ?_
      refine hK13 _ ?_
      refine aw_bool (b := (a0.Kind == 3)) 24 rfl (fun c14 => ?_) (fun c14 => ?_)
      · have h := ifT c14 h
        refine aw_cond_t (by decide) rfl ?_
        refine aw_seq_k (fun K15 hK15 => ?_)
        refine aw_regd (by kernel_rfl) (by decide +kernel) ?_
        refine ao_cons (acts_of rfl (does_load (v := .fn 88 [.ptr 4 0 0, .ptr 5 0 0]) (by conv => lhs; whnf) (by conv => lhs; whnf) ty32 (by exact rfl))) (by decide) ?_
        refine ao_cons (acts_of rfl (does_fieldAddr (q := .ptr 3 0 4) (by conv => lhs; whnf) ty24 rfl ty22 (by decide) (by exact rfl))) (by decide) ?_
        refine ao_cons (acts_of rfl (does_load (v := .sl 5 (List.map enc23 a0.Kids)) (by conv => lhs; whnf) (by conv => lhs; whnf) ty22 (by exact rfl))) (by decide) ?_
        obtain ⟨x16, hx16, h⟩ := bnd_some h
        refine ao_cons (acts_of rfl (does_indexAddr_sl (el := .agg [.int .i64 x16.Kind, .int .i64 x16.N, .str x16.Key, .str x16.Value, .sl 5 (List.map enc23 x16.Kids)]) (by conv => lhs; whnf) (by conv => lhs; whnf) ty22 ty24 (by decide) (by exact map_getE (enc23_eq _) hx16))) (by decide) ?_
        refine ao_cons (acts_of rfl (does_load (v := .agg [.int .i64 x16.Kind, .int .i64 x16.N, .str x16.Key, .str x16.Value, .sl 5 (List.map enc23 x16.Kids)]) (by conv => lhs; whnf) (by conv => lhs; whnf) ty24 (by exact rfl))) (by decide) ?_
        obtain ⟨x17, hx17, h⟩ := bnd_some h
        refine ao_cons (acts_of rfl (do_callG (bcs := []) [] [] [(4, 0), (5, 0)] 31 false (judge_keep_c1_ok K hK x16 a1 a2 hx17) rfl ent88 trivial trivial rfl rfl rfl rfl rfl rfl rfl rfl (.inr ⟨rfl, rfl, trivial⟩))) (by decide) ?_
        refine ao_cons (acts_of rfl (does_un (v := .bool (!x17)) (by conv => lhs; whnf) rfl)) (by decide) ?_
        refine ao_cons (acts_of rfl (does_assign (v := .bool (!x17)) (by exact rfl))) (by decide) ?_
        refine ao_nil_d (by kernel_rfl) ?_
        refine hK15 _ ?_
        refine aw_ret ?_
        obtain rfl := Option.some.inj h
        exact ret_ok1 (by conv => lhs; whnf) (by conv => lhs; whnf) (by exact rfl) (.inr rfl) rfl
      · have h := ifF c14 h
        refine aw_cond_f (by decide) rfl ?_
        refine aw_seq_k (fun K18 hK18 => ?_)
        refine aw_reg ?_
        refine ao_cons (acts_of rfl (does_bin (v := .bool (a0.Kind == 7)) (by conv => lhs; whnf) (by conv => lhs; whnf) rfl)) (by decide) ?_
        refine ao_cons (acts_of rfl (does_assign (v := .bool (a0.Kind == 7)) (by exact rfl))) (by decide) ?_
        refine ao_nil_n ?_
        refine hK18 _ ?_
        refine aw_bool (b := (a0.Kind == 7)) 33 rfl (fun c19 => ?_) (fun c19 => ?_)
        · have h := ifT c19 h
          refine aw_cond_t (by decide) rfl ?_
          refine aw_seq_k (fun K20 hK20 => ?_)
          refine aw_reg ?_
          refine ao_cons (acts_of rfl (does_fieldAddr (q := .ptr 4 0 5) (by conv => lhs; whnf) ty30 rfl ty28 (by decide) (by exact rfl))) (by decide) ?_
          refine ao_cons (acts_of rfl (does_load (v := .sl 10 (List.map enc41 a1.Spans)) (by conv => lhs; whnf) (by conv => lhs; whnf) ty28 (by exact rfl))) (by decide) ?_
          refine ao_cons (acts_of rfl ((does_len_sl (by conv => lhs; whnf) ty28).castp (v' := .int .i64 (List.length a1.Spans : Int)) (by exact len_map _))) (by decide) ?_
          refine ao_cons (acts_of rfl (does_fieldAddr (q := .ptr 3 0 1) (by conv => lhs; whnf) ty24 rfl ty3 (by decide) (by exact rfl))) (by decide) ?_
          refine ao_cons (acts_of rfl (does_load (v := .int .i64 a0.N) (by conv => lhs; whnf) (by conv => lhs; whnf) ty3 (by exact rfl))) (by decide) ?_
          refine ao_cons (acts_of rfl (does_bin (v := .bool (decide (a0.N ≤ (List.length a1.Spans : Int)))) (by conv => lhs; whnf) (by conv => lhs; whnf) rfl)) (by decide) ?_
          refine ao_cons (acts_of rfl (does_assign (v := .bool (decide (a0.N ≤ (List.length a1.Spans : Int)))) (by exact rfl))) (by decide) ?_
          refine ao_nil_n ?_
          refine hK20 _ ?_
          refine aw_ret ?_
          obtain rfl := Option.some.inj h
          exact ret_ok1 (by conv => lhs; whnf) (by conv => lhs; whnf) (by exact rfl) (.inr rfl) rfl
        · have h := ifF c19 h
          refine aw_cond_f (by decide) rfl ?_
          refine aw_seq_k (fun K21 hK21 => ?_)
          refine aw_reg ?_
          refine ao_cons (acts_of rfl (does_bin (v := .bool (a0.Kind == 8)) (by conv => lhs; whnf) (by conv => lhs; whnf) rfl)) (by decide) ?_
          refine ao_cons (acts_of rfl (does_assign (v := .bool (a0.Kind == 8)) (by exact rfl))) (by decide) ?_
          refine ao_nil_n ?_
          refine hK21 _ ?_
          refine aw_bool (b := (a0.Kind == 8)) 41 rfl (fun c22 => ?_) (fun c22 => ?_)
          · have h := ifT c22 h
            refine aw_cond_t (by decide) rfl ?_
            refine aw_seq_k (fun K23 hK23 => ?_)
            refine aw_regd (by kernel_rfl) (by decide +kernel) ?_
            refine ao_cons (acts_of rfl (does_fieldAddr (q := .ptr 4 0 0) (by conv => lhs; whnf) ty30 rfl ty27 (by decide) (by exact rfl))) (by decide) ?_
            refine ao_cons (acts_of rfl (does_load (v := .agg [.int .u64 a1.Trace.Hi, .int .u64 a1.Trace.Lo]) (by conv => lhs; whnf) (by conv => lhs; whnf) ty27 (by exact rfl))) (by decide) ?_
            obtain ⟨x24, hx24, h⟩ := bnd_some h
            refine ao_cons (acts_of rfl (do_call0 45 false (judge_Hash_ok a1.Trace hx24) rfl ent21 rfl rfl)) (by decide) ?_
            refine ao_cons (acts_of rfl (does_fieldAddr (q := .ptr 3 0 1) (by conv => lhs; whnf) ty24 rfl ty3 (by decide) (by exact rfl))) (by decide) ?_
            refine ao_cons (acts_of rfl (does_load (v := .int .i64 a0.N) (by conv => lhs; whnf) (by conv => lhs; whnf) ty3 (by exact rfl))) (by decide) ?_
            refine ao_cons (acts_of rfl (does_bin (v := .bool (decide (x24 < a0.N))) (by conv => lhs; whnf) (by conv => lhs; whnf) rfl)) (by decide) ?_
            refine ao_cons (acts_of rfl (does_assign (v := .bool (decide (x24 < a0.N))) (by exact rfl))) (by decide) ?_
            refine ao_nil_d (by kernel_rfl) ?_
            refine hK23 _ ?_
            refine aw_ret ?_
            obtain rfl := Option.some.inj h
            exact ret_ok1 (by conv => lhs; whnf) (by conv => lhs; whnf) (by exact rfl) (.inr rfl) rfl
          · have h := ifF c22 h
            refine aw_cond_f (by decide) rfl ?_
            refine aw_seq_k (fun K25 hK25 => ?_)
            refine aw_reg ?_
            refine ao_cons (acts_of rfl (does_bin (v := .bool (a0.Kind == 9)) (by conv => lhs; whnf) (by conv => lhs; whnf) rfl)) (by decide) ?_
            refine ao_cons (acts_of rfl (does_assign (v := .bool (a0.Kind == 9)) (by exact rfl))) (by decide) ?_
            refine ao_nil_n ?_
            refine hK25 _ ?_
            refine aw_bool (b := (a0.Kind == 9)) 49 rfl (fun c26 => ?_) (fun c26 => ?_)
            · have h := ifT c26 h
              refine aw_cond_t (by decide) rfl ?_
              refine aw_seq_k (fun K27 hK27 => ?_)
              refine aw_reg ?_
              refine ao_cons (acts_of rfl (does_load (v := .int .i64 a2) (by conv => lhs; whnf) (by conv => lhs; whnf) ty3 (by exact rfl))) (by decide) ?_
              refine ao_cons (acts_of rfl (does_fieldAddr (q := .ptr 3 0 1) (by conv => lhs; whnf) ty24 rfl ty3 (by decide) (by exact rfl))) (by decide) ?_
              refine ao_cons (acts_of rfl (does_load (v := .int .i64 a0.N) (by conv => lhs; whnf) (by conv => lhs; whnf) ty3 (by exact rfl))) (by decide) ?_
              refine ao_cons (acts_of rfl (does_bin (v := .bool (decide (a2 < a0.N))) (by conv => lhs; whnf) (by conv => lhs; whnf) rfl)) (by decide) ?_
              refine ao_cons (acts_of rfl (does_assign (v := .bool (decide (a2 < a0.N))) (by exact rfl))) (by decide) ?_
              refine ao_nil_n ?_
              refine hK27 _ ?_
              refine aw_ret ?_
              obtain rfl := Option.some.inj h
              exact ret_ok1 (by conv => lhs; whnf) (by conv => lhs; whnf) (by exact rfl) (.inr rfl) rfl
            · have h := ifF c26 h
              refine aw_cond_f (by decide) rfl ?_
              refine aw_skip ?_
              refine hK3 _ ?_
              refine aw_seq_k (fun K28 hK28 => ?_)
              refine aw_reg ?_
              refine ao_cons (acts_of rfl (does_fieldAddr (q := .ptr 4 0 5) (by conv => lhs; whnf) ty30 rfl ty28 (by decide) (by exact rfl))) (by decide) ?_
              refine ao_cons (acts_of rfl (does_load (v := .sl 10 (List.map enc41 a1.Spans)) (by conv => lhs; whnf) (by conv => lhs; whnf) ty28 (by exact rfl))) (by decide) ?_
              refine ao_cons (acts_of rfl (does_makeFunc (vs := [.ptr 3 0 0]) rfl)) (by decide) ?_
              obtain ⟨x29, hx29, h⟩ := bnd_some h
              refine ao_cons (acts_of rfl (do_callG (bcs := []) [] [] [(3, 0)] 58 false (slices_ContainsFunc_Span_judge_keep_c3_ok a1.Spans a0 hx29) rfl ent91 trivial trivial rfl rfl rfl rfl rfl rfl rfl rfl (.inr ⟨rfl, rfl, trivial⟩))) (by decide) ?_
              refine ao_cons (acts_of rfl (does_assign (v := .bool x29) (by exact rfl))) (by decide) ?_
              refine ao_nil_n ?_
              refine hK28 _ ?_
              refine aw_ret ?_
              obtain rfl := Option.some.inj h
              exact ret_ok1 (by conv => lhs; whnf) (by conv => lhs; whnf) (by exact rfl) (.inr rfl) rfl
def judge_keepN : Nat → Rule → Episode → Int → Option Bool
  | 0, _, _, _ => none
  | n + 1, a0, a1, a2 => judge_keep_b (judge_keepN n) a0 a1 a2
theorem judge_keepN_ok : ∀ (n : Nat) (a0 : Rule) (a1 : Episode) (a2 : Int) {r : Bool}, judge_keepN n a0 a1 a2 = some r → Ok Try.prog 58 [.agg [.int .i64 a0.Kind, .int .i64 a0.N, .str a0.Key, .str a0.Value, .sl 5 (List.map enc23 a0.Kids)], .agg [.int .u64 a1.Trace.Hi, .int .u64 a1.Trace.Lo, .int .i64 a1.First, .int .i64 a1.Last, .bool a1.Sure, .sl 10 (List.map enc41 a1.Spans)], .int .i64 a2] [] [] (.bool r) [] []
  | 0, _, _, _, _, h => by simp [judge_keepN] at h
  | n + 1, a0, a1, a2, _, h => judge_keep_b_ok (judge_keepN n) (judge_keepN_ok n) a0 a1 a2 h
def judge_keep (a0 : Rule) (a1 : Episode) (a2 : Int) : Option Bool := judge_keepN Fu a0 a1 a2
theorem judge_keep_ok (a0 : Rule) (a1 : Episode) (a2 : Int) {r : Bool} (h : judge_keep a0 a1 a2 = some r) : Ok Try.prog 58 [.agg [.int .i64 a0.Kind, .int .i64 a0.N, .str a0.Key, .str a0.Value, .sl 5 (List.map enc23 a0.Kids)], .agg [.int .u64 a1.Trace.Hi, .int .u64 a1.Trace.Lo, .int .i64 a1.First, .int .i64 a1.Last, .bool a1.Sure, .sl 10 (List.map enc41 a1.Spans)], .int .i64 a2] [] [] (.bool r) [] [] := judge_keepN_ok Fu a0 a1 a2 h
def judge_Keep (a0 : Rule) (a1 : Episode) (a2 : Int) : Option Bool :=
  Option.bind (rule_Right a0) (fun (x3 : Bool) => if x3 = true then (Option.bind (judge_keep a0 a1 a2) (fun (x5 : Bool) => some x5)) else (some false))
set_option maxRecDepth 100000 in
set_option maxHeartbeats 8000000 in
/-- gleaning/judge.Keep -/
theorem judge_Keep_ok (a0 : Rule) (a1 : Episode) (a2 : Int) {r : Bool} (h : judge_Keep a0 a1 a2 = some r) : Ok Try.prog 23 [.agg [.int .i64 a0.Kind, .int .i64 a0.N, .str a0.Key, .str a0.Value, .sl 5 (List.map enc23 a0.Kids)], .agg [.int .u64 a1.Trace.Hi, .int .u64 a1.Trace.Lo, .int .i64 a1.First, .int .i64 a1.Last, .bool a1.Sure, .sl 10 (List.map enc41 a1.Spans)], .int .i64 a2] [] [] (.bool r) [] [] := by
  unfold judge_Keep at h
  refine ok_of_code Try.func23 rfl (by show (3 : Nat) ≤ _; decide) (Nat.le_refl _) fun X => ?_
  refine aw_seq_k (fun K1 hK1 => ?_)
  refine aw_reg ?_
  refine ao_cons (acts_of rfl (do_box (by conv => lhs; whnf) rfl rfl)) (by decide) ?_
  refine ao_cons (acts_of rfl (do_box (by conv => lhs; whnf) rfl rfl)) (by decide) ?_
  refine ao_cons (acts_of rfl (does_assign (v := .bool false) (by exact rfl))) (by decide) ?_
  refine ao_nil_n ?_
  refine hK1 _ ?_
  refine aw_seq_k (fun K2 hK2 => ?_)
  refine aw_reg ?_
  refine ao_cons (acts_of rfl (does_load (v := .agg [.int .i64 a0.Kind, .int .i64 a0.N, .str a0.Key, .str a0.Value, .sl 5 (List.map enc23 a0.Kids)]) (by conv => lhs; whnf) (by conv => lhs; whnf) ty24 (by exact rfl))) (by decide) ?_
  obtain ⟨x3, hx3, h⟩ := bnd_some h
  refine ao_cons (acts_of rfl (do_call0 8 false (rule_Right_ok a0 hx3) rfl ent42 rfl rfl)) (by decide) ?_
  refine ao_cons (acts_of rfl (does_move (v := .bool x3) (by exact rfl))) (by decide) ?_
  refine ao_bool (c := x3) 9 rfl (fun c4 => ?_) (fun c4 => ?_)
  · have h := ifT c4 h
    refine ao_cons (acts_of rfl (does_load (v := .agg [.int .i64 a0.Kind, .int .i64 a0.N, .str a0.Key, .str a0.Value, .sl 5 (List.map enc23 a0.Kids)]) (by conv => lhs; whnf) (by conv => lhs; whnf) ty24 (by exact rfl))) (by decide) ?_
    refine ao_cons (acts_of rfl (does_load (v := .agg [.int .u64 a1.Trace.Hi, .int .u64 a1.Trace.Lo, .int .i64 a1.First, .int .i64 a1.Last, .bool a1.Sure, .sl 10 (List.map enc41 a1.Spans)]) (by conv => lhs; whnf) (by conv => lhs; whnf) ty30 (by exact rfl))) (by decide) ?_
    refine ao_cons (acts_of rfl (does_move (v := .int .i64 a2) (by exact rfl))) (by decide) ?_
    obtain ⟨x5, hx5, h⟩ := bnd_some h
    refine ao_cons (acts_of rfl (do_call0 13 false (judge_keep_ok a0 a1 a2 hx5) rfl ent58 rfl rfl)) (by decide) ?_
    refine ao_cons (acts_of rfl (does_pick (v := .bool x5) (by conv => lhs; whnf) (by exact rfl))) (by decide) ?_
    refine ao_cons (acts_of rfl (does_assign (v := .bool x5) (by exact rfl))) (by decide) ?_
    refine ao_nil_n ?_
    refine hK2 _ ?_
    refine aw_ret ?_
    obtain rfl := Option.some.inj h
    exact ret_ok1 (by conv => lhs; whnf) (by conv => lhs; whnf) (by exact rfl) (.inr rfl) rfl
  · have h := ifF c4 h
    refine ao_cons (acts_skip rfl) (by decide) ?_
    refine ao_cons (acts_skip rfl) (by decide) ?_
    refine ao_cons (acts_skip rfl) (by decide) ?_
    refine ao_cons (acts_skip rfl) (by decide) ?_
    refine ao_cons (acts_of rfl (does_pick (v := .bool false) (by conv => lhs; whnf) (by exact rfl))) (by decide) ?_
    refine ao_cons (acts_of rfl (does_assign (v := .bool false) (by exact rfl))) (by decide) ?_
    refine ao_nil_n ?_
    refine hK2 _ ?_
    refine aw_ret ?_
    obtain rfl := Option.some.inj h
    exact ret_ok1 (by conv => lhs; whnf) (by conv => lhs; whnf) (by exact rfl) (.inr rfl) rfl
end Go.Proofs.Ytbfmmaabaenhgaa.Ab
