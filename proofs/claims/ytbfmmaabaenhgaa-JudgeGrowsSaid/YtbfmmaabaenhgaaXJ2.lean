/- Chapter 14: judge, the document. -/
import Derived.Test.YtbfmmaabaenhgaaXJ1
import Derived.Test.YtbfmmaabaenhgaaProg
namespace Go.Proofs.Ytbfmmaabaenhgaa.Ab
open Go Go.RowKit
set_option linter.unusedVariables false
set_option linter.unusedSimpArgs false
theorem ent22 : Ent Try.prog 22 := ⟨_, Try.func22, by kernel_rfl, rfl⟩
theorem ent25 : Ent Try.prog 25 := ⟨_, Try.func25, by kernel_rfl, rfl⟩
theorem ent57 : Ent Try.prog 57 := ⟨_, Try.func57, by kernel_rfl, rfl⟩
theorem ent59 : Ent Try.prog 59 := ⟨_, Try.func59, by kernel_rfl, rfl⟩
theorem ent87 : Ent Try.prog 87 := ⟨_, Try.func87, by kernel_rfl, rfl⟩
theorem ent94 : Ent Try.prog 94 := ⟨_, Try.func94, by kernel_rfl, rfl⟩
def gleaningref1_More_l1 (v6_0 : Int) (v5_1 : Int) (v7_1 : Int) : Option ((Int × Int) ⊕ ((Int × Int) ⊕ Int)) :=
  if (decide (v7_1 < 8)) = true then (if ((bits .and .u32 v5_1 1) == 1) = true then (some (Sum.inl ((bits .xor .u32 (Int.fdiv v5_1 (2 ^ (min (Int.toNat 1) (IntKind.bits .u32)))) 3988292384), (IntKind.i64.wrap (v7_1 + 1))))) else (some (Sum.inl ((Int.fdiv v5_1 (2 ^ (min (Int.toNat 1) (IntKind.bits .u32)))), (IntKind.i64.wrap (v7_1 + 1)))))) else (some (Sum.inr (Sum.inl (v5_1, (IntKind.i64.wrap (v6_0 + 1))))))
def gleaningref1_More_l0 (a1 : List UInt8) (v5_0 : Int) (v6_0 : Int) : Option ((Int × Int) ⊕ Int) :=
  if (decide (v6_0 < (List.length a1 : Int))) = true then (gd (0 ≤ v6_0) (Option.bind (a1[(Int.toNat v6_0)]?) (fun (x13 : UInt8) => loopN (fun (s : Int × Int) => gleaningref1_More_l1 v6_0 s.1 s.2) Fu ((bits .xor .u32 v5_0 (IntKind.u32.wrap (x13.toNat : Int))), 0)))) else (some (Sum.inr (bits .xor .u32 (if IntKind.signed .u32 then -1 else IntKind.max .u32) v5_0)))
def gleaningref1_More (a0 : Int) (a1 : List UInt8) : Option Int :=
  loopN (fun (s : Int × Int) => gleaningref1_More_l0 a1 s.1 s.2) Fu ((bits .xor .u32 (if IntKind.signed .u32 then -1 else IntKind.max .u32) a0), 0)
set_option maxRecDepth 100000 in
set_option maxHeartbeats 8000000 in
/-- gleaning/gleaningref1.More -/
theorem gleaningref1_More_ok (a0 : Int) (a1 : List UInt8) {r : Int} (h : gleaningref1_More a0 a1 = some r) : Ok Try.prog 87 [.int .u32 a0, .sl 1 (List.map enc5 a1)] [] [] (.int .u32 r) [] [] := by
  unfold gleaningref1_More at h
  refine ok_of_code Try.func87 rfl (by show (2 : Nat) ≤ _; decide) (Nat.le_refl _) fun X => ?_
  refine aw_seq_k (fun K1 hK1 => ?_)
  refine aw_reg ?_
  refine ao_cons (acts_of rfl (does_assign (v := .int .u32 0) (by exact rfl))) (by decide) ?_
  refine ao_nil_n ?_
  refine hK1 _ ?_
  refine aw_seq_k (fun K2 hK2 => ?_)
  refine aw_reg ?_
  refine ao_cons (acts_of rfl (does_move (v := .int .u32 a0) (by exact rfl))) (by decide) ?_
  refine ao_cons (acts_of rfl (does_un (v := .int .u32 (bits .xor .u32 (if IntKind.signed .u32 then -1 else IntKind.max .u32) a0)) (by conv => lhs; whnf) rfl)) (by decide) ?_
  refine ao_cons (acts_of rfl (does_assign (v := .int .u32 (bits .xor .u32 (if IntKind.signed .u32 then -1 else IntKind.max .u32) a0)) (by exact rfl))) (by decide) ?_
  refine ao_nil_n ?_
  refine hK2 _ ?_
  refine aw_seq_k (fun K3 hK3 => ?_)
  refine aw_seq_k (fun K4 hK4 => ?_)
  refine aw_reg ?_
  refine ao_cons (acts_of rfl (does_assign (v := .int .i64 0) (by exact rfl))) (by decide) ?_
  refine ao_nil_n ?_
  refine hK4 _ ?_
  refine aw_block ?_
  refine aw_loop' (fun m s => ∃ (v5_0 : Int), ∃ (v6_0 : Int), loopN (fun (s : Int × Int) => gleaningref1_More_l0 a1 s.1 s.2) m (v5_0, v6_0) = some r ∧ s = lit [(1, .sl 1 (List.map enc5 a1)), (5, .int .u32 v5_0), (6, .int .i64 v6_0)] [] [] X) Fu
    ⟨_, reb_lit [(1, .sl 1 (List.map enc5 a1)), (5, .int .u32 (bits .xor .u32 (if IntKind.signed .u32 then -1 else IntKind.max .u32) a0)), (6, .int .i64 (0))] [] [] [] (envOk_cons (by conv => lhs; whnf) (by exact rfl) (envOk_cons (by conv => lhs; whnf) (by exact rfl) (envOk_cons (by conv => lhs; whnf) (by exact rfl) envOk_nil))) objOk_nil (nodup_b rfl) (nodup_b rfl) rfl rfl, (bits .xor .u32 (if IntKind.signed .u32 then -1 else IntKind.max .u32) a0), 0, h, rfl⟩ ?_
  rintro m s ⟨v5_0, v6_0, h, rfl⟩
  obtain ⟨m0, q5, rfl, h, hq6⟩ := loop_some h
  replace h : gleaningref1_More_l0 a1 v5_0 v6_0 = some q5 := h
  unfold gleaningref1_More_l0 at h
  refine aw_seq_k (fun K7 hK7 => ?_)
  refine aw_seq_k (fun K8 hK8 => ?_)
  refine aw_reg ?_
  refine ao_cons (acts_of rfl (does_move (v := .int .i64 v6_0) (by exact rfl))) (by decide) ?_
  refine ao_cons (acts_of rfl (does_move (v := .sl 1 (List.map enc5 a1)) (by exact rfl))) (by decide) ?_
  refine ao_cons (acts_of rfl ((does_len_sl (by conv => lhs; whnf) ty43).castp (v' := .int .i64 (List.length a1 : Int)) (by exact len_map _))) (by decide) ?_
  refine ao_cons (acts_of rfl (does_bin (v := .bool (decide (v6_0 < (List.length a1 : Int)))) (by conv => lhs; whnf) (by conv => lhs; whnf) rfl)) (by decide) ?_
  refine ao_nil_n ?_
  refine hK8 _ ?_
  refine aw_bool (b := (decide (v6_0 < (List.length a1 : Int)))) 13 rfl (fun c9 => ?_) (fun c9 => ?_)
  · have h := ifT c9 h
    refine aw_cond_t (by decide) rfl ?_
    refine aw_skip ?_
    refine hK7 _ ?_
    refine aw_seq_k (fun K10 hK10 => ?_)
    refine aw_block ?_
    refine aw_seq_k (fun K11 hK11 => ?_)
    refine aw_reg ?_
    refine ao_cons (acts_of rfl (does_move (v := .int .u32 v5_0) (by exact rfl))) (by decide) ?_
    refine ao_cons (acts_of rfl (does_move (v := .sl 1 (List.map enc5 a1)) (by exact rfl))) (by decide) ?_
    refine ao_cons (acts_of rfl (does_move (v := .int .i64 v6_0) (by exact rfl))) (by decide) ?_
    obtain ⟨g12, h⟩ := gd_some h
    obtain ⟨x13, hx13, h⟩ := bnd_some h
    refine ao_cons (acts_of rfl (does_indexAddr_sl (el := .int .u8 (x13.toNat : Int)) (by conv => lhs; whnf) (by conv => lhs; whnf) ty43 ty5 g12 (by exact map_get hx13))) (by decide) ?_
    refine ao_cons (acts_of rfl (does_load (v := .int .u8 (x13.toNat : Int)) (by conv => lhs; whnf) (by conv => lhs; whnf) ty5 (by exact rfl))) (by decide) ?_
    refine ao_cons (acts_of rfl (does_conv_int (v := .int .u32 (IntKind.u32.wrap (x13.toNat : Int))) (by conv => lhs; whnf) (ty_some ty5) (ty_int ty82) rfl)) (by decide) ?_
    refine ao_cons (acts_of rfl (does_bin (v := .int .u32 (bits .xor .u32 v5_0 (IntKind.u32.wrap (x13.toNat : Int)))) (by conv => lhs; whnf) (by conv => lhs; whnf) rfl)) (by decide) ?_
    refine ao_cons (acts_of rfl (does_assign (v := .int .u32 (bits .xor .u32 v5_0 (IntKind.u32.wrap (x13.toNat : Int)))) (by exact rfl))) (by decide) ?_
    refine ao_nil_n ?_
    refine hK11 _ ?_
    refine aw_seq_k (fun K14 hK14 => ?_)
    refine aw_reg ?_
    refine ao_cons (acts_of rfl (does_assign (v := .int .i64 0) (by exact rfl))) (by decide) ?_
    refine ao_nil_n ?_
    refine hK14 _ ?_
    refine aw_block ?_
    refine aw_loop' (fun m s => ∃ (v5_1 : Int), ∃ (v7_1 : Int), loopN (fun (s : Int × Int) => gleaningref1_More_l1 v6_0 s.1 s.2) m (v5_1, v7_1) = some q5 ∧ s = lit [(1, .sl 1 (List.map enc5 a1)), (5, .int .u32 v5_1), (6, .int .i64 v6_0), (7, .int .i64 v7_1)] [] [] X) Fu
      ⟨_, reb_lit [(1, .sl 1 (List.map enc5 a1)), (5, .int .u32 (bits .xor .u32 v5_0 (IntKind.u32.wrap (x13.toNat : Int)))), (6, .int .i64 v6_0), (7, .int .i64 (0))] [] [] [] (envOk_cons (by conv => lhs; whnf) (by exact rfl) (envOk_cons (by conv => lhs; whnf) (by exact rfl) (envOk_cons (by conv => lhs; whnf) (by exact rfl) (envOk_cons (by conv => lhs; whnf) (by exact rfl) envOk_nil)))) objOk_nil (nodup_b rfl) (nodup_b rfl) rfl rfl, (bits .xor .u32 v5_0 (IntKind.u32.wrap (x13.toNat : Int))), 0, h, rfl⟩ ?_
    rintro m s ⟨v5_1, v7_1, h, rfl⟩
    obtain ⟨m1, q15, rfl, h, hq16⟩ := loop_some h
    replace h : gleaningref1_More_l1 v6_0 v5_1 v7_1 = some q15 := h
    unfold gleaningref1_More_l1 at h
    refine aw_seq_k (fun K17 hK17 => ?_)
    refine aw_seq_k (fun K18 hK18 => ?_)
    refine aw_reg ?_
    refine ao_cons (acts_of rfl (does_move (v := .int .i64 v7_1) (by exact rfl))) (by decide) ?_
    refine ao_cons (acts_of rfl (does_bin (v := .bool (decide (v7_1 < 8))) (by conv => lhs; whnf) (by conv => lhs; whnf) rfl)) (by decide) ?_
    refine ao_nil_n ?_
    refine hK18 _ ?_
    refine aw_bool (b := (decide (v7_1 < 8))) 24 rfl (fun c19 => ?_) (fun c19 => ?_)
    · have h := ifT c19 h
      refine aw_cond_t (by decide) rfl ?_
      refine aw_skip ?_
      refine hK17 _ ?_
      refine aw_seq_k (fun K20 hK20 => ?_)
      refine aw_block ?_
      refine aw_seq_k (fun K21 hK21 => ?_)
      refine aw_reg ?_
      refine ao_cons (acts_of rfl (does_move (v := .int .u32 v5_1) (by exact rfl))) (by decide) ?_
      refine ao_cons (acts_of rfl (does_bin (v := .int .u32 (bits .and .u32 v5_1 1)) (by conv => lhs; whnf) (by conv => lhs; whnf) rfl)) (by decide) ?_
      refine ao_cons (acts_of rfl (does_bin (v := .bool ((bits .and .u32 v5_1 1) == 1)) (by conv => lhs; whnf) (by conv => lhs; whnf) rfl)) (by decide) ?_
      refine ao_nil_n ?_
      refine hK21 _ ?_
      refine aw_bool (b := ((bits .and .u32 v5_1 1) == 1)) 29 rfl (fun c22 => ?_) (fun c22 => ?_)
      · have h := ifT c22 h
        refine aw_cond_t (by decide) rfl ?_
        refine aw_reg ?_
        refine ao_cons (acts_of rfl (does_move (v := .int .u32 v5_1) (by exact rfl))) (by decide) ?_
        refine ao_cons (acts_of rfl (does_bin (v := .int .u32 (Int.fdiv v5_1 (2 ^ (min (Int.toNat 1) (IntKind.bits .u32))))) (by conv => lhs; whnf) (by conv => lhs; whnf) rfl)) (by decide) ?_
        refine ao_cons (acts_of rfl (does_bin (v := .int .u32 (bits .xor .u32 (Int.fdiv v5_1 (2 ^ (min (Int.toNat 1) (IntKind.bits .u32)))) 3988292384)) (by conv => lhs; whnf) (by conv => lhs; whnf) rfl)) (by decide) ?_
        refine ao_cons (acts_of rfl (does_assign (v := .int .u32 (bits .xor .u32 (Int.fdiv v5_1 (2 ^ (min (Int.toNat 1) (IntKind.bits .u32)))) 3988292384)) (by exact rfl))) (by decide) ?_
        refine ao_nil_n ?_
        refine hK20 _ ?_
        refine aw_reg ?_
        refine ao_cons (acts_of rfl (does_move (v := .int .i64 v7_1) (by exact rfl))) (by decide) ?_
        refine ao_cons (acts_of rfl (does_bin (v := .int .i64 (IntKind.i64.wrap (v7_1 + 1))) (by conv => lhs; whnf) (by conv => lhs; whnf) rfl)) (by decide) ?_
        refine ao_cons (acts_of rfl (does_assign (v := .int .i64 (IntKind.i64.wrap (v7_1 + 1))) (by exact rfl))) (by decide) ?_
        refine ao_nil_n ?_
        have h := leafL h hq16
        exact ⟨m1, Nat.lt_succ_self _, _, reb_lit [(1, .sl 1 (List.map enc5 a1)), (5, .int .u32 (bits .xor .u32 (Int.fdiv v5_1 (2 ^ (min (Int.toNat 1) (IntKind.bits .u32)))) 3988292384)), (6, .int .i64 v6_0), (7, .int .i64 (IntKind.i64.wrap (v7_1 + 1)))] [] [] [] (envOk_cons (by conv => lhs; whnf) (by exact rfl) (envOk_cons (by conv => lhs; whnf) (by exact rfl) (envOk_cons (by conv => lhs; whnf) (by exact rfl) (envOk_cons (by conv => lhs; whnf) (by exact rfl) envOk_nil)))) objOk_nil (nodup_b rfl) (nodup_b rfl) rfl rfl, (bits .xor .u32 (Int.fdiv v5_1 (2 ^ (min (Int.toNat 1) (IntKind.bits .u32)))) 3988292384), (IntKind.i64.wrap (v7_1 + 1)), h, rfl⟩
      · have h := ifF c22 h
        refine aw_cond_f (by decide) rfl ?_
        refine aw_reg ?_
        refine ao_cons (acts_of rfl (does_move (v := .int .u32 v5_1) (by exact rfl))) (by decide) ?_
        refine ao_cons (acts_of rfl (does_bin (v := .int .u32 (Int.fdiv v5_1 (2 ^ (min (Int.toNat 1) (IntKind.bits .u32))))) (by conv => lhs; whnf) (by conv => lhs; whnf) rfl)) (by decide) ?_
        refine ao_cons (acts_of rfl (does_assign (v := .int .u32 (Int.fdiv v5_1 (2 ^ (min (Int.toNat 1) (IntKind.bits .u32))))) (by exact rfl))) (by decide) ?_
        refine ao_nil_n ?_
        refine hK20 _ ?_
        refine aw_reg ?_
        refine ao_cons (acts_of rfl (does_move (v := .int .i64 v7_1) (by exact rfl))) (by decide) ?_
        refine ao_cons (acts_of rfl (does_bin (v := .int .i64 (IntKind.i64.wrap (v7_1 + 1))) (by conv => lhs; whnf) (by conv => lhs; whnf) rfl)) (by decide) ?_
        refine ao_cons (acts_of rfl (does_assign (v := .int .i64 (IntKind.i64.wrap (v7_1 + 1))) (by exact rfl))) (by decide) ?_
        refine ao_nil_n ?_
        have h := leafL h hq16
        exact ⟨m1, Nat.lt_succ_self _, _, reb_lit [(1, .sl 1 (List.map enc5 a1)), (5, .int .u32 (Int.fdiv v5_1 (2 ^ (min (Int.toNat 1) (IntKind.bits .u32))))), (6, .int .i64 v6_0), (7, .int .i64 (IntKind.i64.wrap (v7_1 + 1)))] [] [] [] (envOk_cons (by conv => lhs; whnf) (by exact rfl) (envOk_cons (by conv => lhs; whnf) (by exact rfl) (envOk_cons (by conv => lhs; whnf) (by exact rfl) (envOk_cons (by conv => lhs; whnf) (by exact rfl) envOk_nil)))) objOk_nil (nodup_b rfl) (nodup_b rfl) rfl rfl, (Int.fdiv v5_1 (2 ^ (min (Int.toNat 1) (IntKind.bits .u32)))), (IntKind.i64.wrap (v7_1 + 1)), h, rfl⟩
    · have h := ifF c19 h
      refine aw_cond_f (by decide) rfl ?_
      refine aw_exit ?_
      have h := leafR h hq16
      refine hK10 _ ?_
      refine aw_reg ?_
      refine ao_cons (acts_of rfl (does_move (v := .int .i64 v6_0) (by exact rfl))) (by decide) ?_
      refine ao_cons (acts_of rfl (does_bin (v := .int .i64 (IntKind.i64.wrap (v6_0 + 1))) (by conv => lhs; whnf) (by conv => lhs; whnf) rfl)) (by decide) ?_
      refine ao_cons (acts_of rfl (does_assign (v := .int .i64 (IntKind.i64.wrap (v6_0 + 1))) (by exact rfl))) (by decide) ?_
      refine ao_nil_n ?_
      have h := leafL h hq6
      exact ⟨m0, Nat.lt_succ_self _, _, reb_lit [(1, .sl 1 (List.map enc5 a1)), (5, .int .u32 v5_1), (6, .int .i64 (IntKind.i64.wrap (v6_0 + 1)))] [] [] [] (envOk_cons (by conv => lhs; whnf) (by exact rfl) (envOk_cons (by conv => lhs; whnf) (by exact rfl) (envOk_cons (by conv => lhs; whnf) (by exact rfl) envOk_nil))) objOk_nil (nodup_b rfl) (nodup_b rfl) rfl rfl, v5_1, (IntKind.i64.wrap (v6_0 + 1)), h, rfl⟩
  · have h := ifF c9 h
    refine aw_cond_f (by decide) rfl ?_
    refine aw_exit ?_
    have h := leafR h hq6
    refine hK3 _ ?_
    refine aw_seq_k (fun K23 hK23 => ?_)
    refine aw_reg ?_
    refine ao_cons (acts_of rfl (does_move (v := .int .u32 v5_0) (by exact rfl))) (by decide) ?_
    refine ao_cons (acts_of rfl (does_un (v := .int .u32 (bits .xor .u32 (if IntKind.signed .u32 then -1 else IntKind.max .u32) v5_0)) (by conv => lhs; whnf) rfl)) (by decide) ?_
    refine ao_cons (acts_of rfl (does_assign (v := .int .u32 (bits .xor .u32 (if IntKind.signed .u32 then -1 else IntKind.max .u32) v5_0)) (by exact rfl))) (by decide) ?_
    refine ao_nil_n ?_
    refine hK23 _ ?_
    refine aw_ret ?_
    obtain rfl := Option.some.inj h
    exact ret_ok1 (by conv => lhs; whnf) (by conv => lhs; whnf) (by exact rfl) (.inr rfl) rfl
def gleaningref1_Sum (a0 : List UInt8) : Option Int :=
  Option.bind (gleaningref1_More 0 a0) (fun (x3 : Int) => some x3)
set_option maxRecDepth 100000 in
set_option maxHeartbeats 8000000 in
/-- gleaning/gleaningref1.Sum -/
theorem gleaningref1_Sum_ok (a0 : List UInt8) {r : Int} (h : gleaningref1_Sum a0 = some r) : Ok Try.prog 57 [.sl 1 (List.map enc5 a0)] [] [] (.int .u32 r) [] [] := by
  unfold gleaningref1_Sum at h
  refine ok_of_code Try.func57 rfl (by show (1 : Nat) ≤ _; decide) (Nat.le_refl _) fun X => ?_
  refine aw_seq_k (fun K1 hK1 => ?_)
  refine aw_reg ?_
  refine ao_cons (acts_of rfl (does_assign (v := .int .u32 0) (by exact rfl))) (by decide) ?_
  refine ao_nil_n ?_
  refine hK1 _ ?_
  refine aw_seq_k (fun K2 hK2 => ?_)
  refine aw_reg ?_
  refine ao_cons (acts_of rfl (does_move (v := .sl 1 (List.map enc5 a0)) (by exact rfl))) (by decide) ?_
  obtain ⟨x3, hx3, h⟩ := bnd_some h
  refine ao_cons (acts_of rfl (do_call0 4 false (gleaningref1_More_ok 0 a0 hx3) rfl ent87 rfl rfl)) (by decide) ?_
  refine ao_cons (acts_of rfl (does_assign (v := .int .u32 x3) (by exact rfl))) (by decide) ?_
  refine ao_nil_n ?_
  refine hK2 _ ?_
  refine aw_ret ?_
  obtain rfl := Option.some.inj h
  exact ret_ok1 (by conv => lhs; whnf) (by conv => lhs; whnf) (by exact rfl) (.inr rfl) rfl
def gleaningref1_Hash_l2 (a0 : Trace) (v5_1 : Int) (v3_s_2 : List UInt8) (v6_2 : Int) : Option ((List UInt8 × Int) ⊕ ((List UInt8 × Int) ⊕ (List UInt8))) :=
  if (decide ((0 : Int) ≤ v6_2)) = true then (gd (0 ≤ v5_1) (Option.bind ([a0.Hi, a0.Lo][(Int.toNat v5_1)]?) (fun (x21 : Int) => gd (¬ (IntKind.u64.wrap (IntKind.i64.wrap (8 * v6_2))) < 0) (gd ((List.length (v3_s_2 ++ [(u8 (IntKind.u8.wrap (bits .and .u64 (Int.fdiv x21 (2 ^ (min (Int.toNat (IntKind.u64.wrap (IntKind.i64.wrap (8 * v6_2)))) (IntKind.bits .u64)))) 255)))])) * 1 ≤ 140737488355328 ∧ (List.length (v3_s_2 ++ [(u8 (IntKind.u8.wrap (bits .and .u64 (Int.fdiv x21 (2 ^ (min (Int.toNat (IntKind.u64.wrap (IntKind.i64.wrap (8 * v6_2)))) (IntKind.bits .u64)))) 255)))])) ≤ 140737488355328) (some (Sum.inl ((v3_s_2 ++ [(u8 (IntKind.u8.wrap (bits .and .u64 (Int.fdiv x21 (2 ^ (min (Int.toNat (IntKind.u64.wrap (IntKind.i64.wrap (8 * v6_2)))) (IntKind.bits .u64)))) 255)))]), (IntKind.i64.wrap (v6_2 - 1))))))))) else (some (Sum.inr (Sum.inl (v3_s_2, (IntKind.i64.wrap (v5_1 + 1))))))
def gleaningref1_Hash_l1 (a0 : Trace) (v3_s_1 : List UInt8) (v5_1 : Int) : Option ((List UInt8 × Int) ⊕ (List UInt8)) :=
  if (decide (v5_1 < 2)) = true then (loopN (fun (s : List UInt8 × Int) => gleaningref1_Hash_l2 a0 v5_1 s.1 s.2) Fu (v3_s_1, 7)) else (some (Sum.inr v3_s_1))
def gleaningref1_Hash_k0 (v3_s_0 : List UInt8) : Option Int :=
  Option.bind (gleaningref1_Sum v3_s_0) (fun (x25 : Int) => some (IntKind.i64.wrap (Int.tmod x25 1000)))
def gleaningref1_Hash (a0 : Trace) : Option Int :=
  Option.bind (loopN (fun (s : List UInt8 × Int) => gleaningref1_Hash_l1 a0 s.1 s.2) Fu ([], 0)) (fun (s : List UInt8) => gleaningref1_Hash_k0 s)
set_option maxRecDepth 100000 in
set_option maxHeartbeats 8000000 in
/-- gleaning/gleaningref1.Hash -/
theorem gleaningref1_Hash_ok (a0 : Trace) {r : Int} (h : gleaningref1_Hash a0 = some r) : Ok Try.prog 22 [.agg [.int .u64 a0.Hi, .int .u64 a0.Lo]] [] [] (.int .i64 r) [] [] := by
  unfold gleaningref1_Hash at h
  refine ok_of_code Try.func22 rfl (by show (1 : Nat) ≤ _; decide) (Nat.le_refl _) fun X => ?_
  refine aw_seq_k (fun K1 hK1 => ?_)
  refine aw_reg ?_
  refine ao_cons (acts_of rfl (do_box (by conv => lhs; whnf) rfl rfl)) (by decide) ?_
  refine ao_cons (acts_of rfl (does_assign (v := .int .i64 0) (by exact rfl))) (by decide) ?_
  refine ao_nil_n ?_
  refine hK1 _ ?_
  refine aw_seq_k (fun K2 hK2 => ?_)
  refine aw_reg ?_
  refine ao_cons (acts_of rfl (does_assign (v := .nil) (by exact rfl))) (by decide) ?_
  refine ao_nil_n ?_
  refine hK2 _ ?_
  refine aw_seq_k (fun K3 hK3 => ?_)
  refine aw_reg ?_
  refine ao_cons (acts_of rfl (does_fieldAddr (q := .ptr 1 0 0) (by conv => lhs; whnf) ty27 rfl ty25 (by decide) (by exact rfl))) (by decide) ?_
  refine ao_cons (acts_of rfl (does_load (v := .int .u64 a0.Hi) (by conv => lhs; whnf) (by conv => lhs; whnf) ty25 (by exact rfl))) (by decide) ?_
  refine ao_cons (acts_of rfl (does_fieldAddr (q := .ptr 1 0 1) (by conv => lhs; whnf) ty27 rfl ty25 (by decide) (by exact rfl))) (by decide) ?_
  refine ao_cons (acts_of rfl (does_load (v := .int .u64 a0.Lo) (by conv => lhs; whnf) (by conv => lhs; whnf) ty25 (by exact rfl))) (by decide) ?_
  refine ao_cons (acts_of rfl (do_buildSlice (xs := List.map enc12 [a0.Hi, a0.Lo]) ty81 ty25 rfl rfl rfl rfl rfl rfl rfl rfl)) (by decide) ?_
  refine ao_cons (acts_of rfl (does_assign (v := .own 11 0) (by exact rfl))) (by decide) ?_
  refine ao_nil_n ?_
  refine hK3 _ ?_
  obtain ⟨q4, h, hk5⟩ := bnd_some h
  refine aw_cut (fun s => ∃ (v3_s_0 : List UInt8), gleaningref1_Hash_k0 v3_s_0 = some r ∧ s = lit [(3, .own 3 0)] [((3, 0), .arr 5 1 false (List.map enc5 v3_s_0))] [(3, 1)] X) ?_ ?_
  · skip
    refine aw_seq_k (fun K6 hK6 => ?_)
    refine aw_reg ?_
    refine ao_cons (acts_of rfl (does_assign (v := .int .i64 0) (by exact rfl))) (by decide) ?_
    refine ao_nil_n ?_
    refine hK6 _ ?_
    refine aw_block ?_
    refine aw_nilOwn 3 5 1 (by conv => lhs; whnf) (by decide) (by decide) ?_
    refine aw_loop' (fun m s => ∃ (v3_s_1 : List UInt8), ∃ (v5_1 : Int), loopN (fun (s : List UInt8 × Int) => gleaningref1_Hash_l1 a0 s.1 s.2) m (v3_s_1, v5_1) = some q4 ∧ s = lit [(3, .own 3 0), (4, .own 11 0), (5, .int .i64 v5_1)] [((3, 0), .arr 5 1 false (List.map enc5 v3_s_1)), ((11, 0), .arr 25 1 false (List.map enc12 [a0.Hi, a0.Lo]))] [(3, 1), (11, 1)] X) Fu
      ⟨_, reb_lit [(3, .own 3 0), (4, .own 11 0), (5, .int .i64 (0))] [(3, 0), (11, 0)] [((3, 0), .arr 5 1 false (List.map enc5 [])), ((11, 0), .arr 25 1 false (List.map enc12 [a0.Hi, a0.Lo]))] [(3, 1), (11, 1)] (envOk_cons (by conv => lhs; whnf) (by exact rfl) (envOk_cons (by conv => lhs; whnf) (by exact rfl) (envOk_cons (by conv => lhs; whnf) (by exact rfl) envOk_nil))) (objOk_cons (by conv => lhs; whnf) (by conv => lhs; whnf) (by exact rfl) (by simp) (objOk_cons (by conv => lhs; whnf) (by conv => lhs; whnf) (by exact rfl) (by simp) objOk_nil)) (nodup_b rfl) (nodup_b rfl) rfl rfl, [], 0, h, rfl⟩ ?_
    rintro m s ⟨v3_s_1, v5_1, h, rfl⟩
    obtain ⟨m1, q7, rfl, h, hq8⟩ := loop_some h
    replace h : gleaningref1_Hash_l1 a0 v3_s_1 v5_1 = some q7 := h
    unfold gleaningref1_Hash_l1 at h
    refine aw_seq_k (fun K9 hK9 => ?_)
    refine aw_seq_k (fun K10 hK10 => ?_)
    refine aw_reg ?_
    refine ao_cons (acts_of rfl (does_move (v := .int .i64 v5_1) (by exact rfl))) (by decide) ?_
    refine ao_cons (acts_of rfl (does_bin (v := .bool (decide (v5_1 < 2))) (by conv => lhs; whnf) (by conv => lhs; whnf) rfl)) (by decide) ?_
    refine ao_nil_n ?_
    refine hK10 _ ?_
    refine aw_bool (b := (decide (v5_1 < 2))) 13 rfl (fun c11 => ?_) (fun c11 => ?_)
    · have h := ifT c11 h
      refine aw_cond_t (by decide) rfl ?_
      refine aw_skip ?_
      refine hK9 _ ?_
      refine aw_seq_k (fun K12 hK12 => ?_)
      refine aw_block ?_
      refine aw_seq_k (fun K13 hK13 => ?_)
      refine aw_reg ?_
      refine ao_cons (acts_of rfl (does_assign (v := .int .i64 7) (by exact rfl))) (by decide) ?_
      refine ao_nil_n ?_
      refine hK13 _ ?_
      refine aw_block ?_
      refine aw_loop' (fun m s => ∃ (v3_s_2 : List UInt8), ∃ (v6_2 : Int), loopN (fun (s : List UInt8 × Int) => gleaningref1_Hash_l2 a0 v5_1 s.1 s.2) m (v3_s_2, v6_2) = some q7 ∧ s = lit [(3, .own 3 0), (4, .own 11 0), (5, .int .i64 v5_1), (6, .int .i64 v6_2)] [((3, 0), .arr 5 1 false (List.map enc5 v3_s_2)), ((11, 0), .arr 25 1 false (List.map enc12 [a0.Hi, a0.Lo]))] [(3, 1), (11, 1)] X) Fu
        ⟨_, reb_lit [(3, .own 3 0), (4, .own 11 0), (5, .int .i64 v5_1), (6, .int .i64 (7))] [(3, 0), (11, 0)] [((3, 0), .arr 5 1 false (List.map enc5 v3_s_1)), ((11, 0), .arr 25 1 false (List.map enc12 [a0.Hi, a0.Lo]))] [(3, 1), (11, 1)] (envOk_cons (by conv => lhs; whnf) (by exact rfl) (envOk_cons (by conv => lhs; whnf) (by exact rfl) (envOk_cons (by conv => lhs; whnf) (by exact rfl) (envOk_cons (by conv => lhs; whnf) (by exact rfl) envOk_nil)))) (objOk_cons (by conv => lhs; whnf) (by conv => lhs; whnf) (by exact rfl) (by simp) (objOk_cons (by conv => lhs; whnf) (by conv => lhs; whnf) (by exact rfl) (by simp) objOk_nil)) (nodup_b rfl) (nodup_b rfl) rfl rfl, v3_s_1, 7, h, rfl⟩ ?_
      rintro m s ⟨v3_s_2, v6_2, h, rfl⟩
      obtain ⟨m2, q14, rfl, h, hq15⟩ := loop_some h
      replace h : gleaningref1_Hash_l2 a0 v5_1 v3_s_2 v6_2 = some q14 := h
      unfold gleaningref1_Hash_l2 at h
      refine aw_seq_k (fun K16 hK16 => ?_)
      refine aw_seq_k (fun K17 hK17 => ?_)
      refine aw_reg ?_
      refine ao_cons (acts_of rfl (does_move (v := .int .i64 v6_2) (by exact rfl))) (by decide) ?_
      refine ao_cons (acts_of rfl (does_bin (v := .bool (decide ((0 : Int) ≤ v6_2))) (by conv => lhs; whnf) (by conv => lhs; whnf) rfl)) (by decide) ?_
      refine ao_nil_n ?_
      refine hK17 _ ?_
      refine aw_bool (b := (decide ((0 : Int) ≤ v6_2))) 17 rfl (fun c18 => ?_) (fun c18 => ?_)
      · have h := ifT c18 h
        refine aw_cond_t (by decide) rfl ?_
        refine aw_skip ?_
        refine hK16 _ ?_
        refine aw_seq_k (fun K19 hK19 => ?_)
        refine aw_block ?_
        refine aw_reg ?_
        refine ao_cons (acts_of rfl (does_move (v := .own 3 0) (by exact rfl))) (by decide) ?_
        refine ao_cons (acts_of rfl (does_move (v := .own 11 0) (by exact rfl))) (by decide) ?_
        refine ao_cons (acts_of rfl (does_move (v := .int .i64 v5_1) (by exact rfl))) (by decide) ?_
        obtain ⟨g20, h⟩ := gd_some h
        obtain ⟨x21, hx21, h⟩ := bnd_some h
        refine ao_cons (acts_of rfl (does_indexAddr_own (by conv => lhs; whnf) (by conv => lhs; whnf) (by conv => lhs; whnf) ty81 ty25 g20 (by exact own_lt hx21))) (by decide) ?_
        refine ao_cons (acts_of rfl (does_load (v := .int .u64 x21) (by conv => lhs; whnf) (cellsAt_eptr (by conv => lhs; whnf) (by exact map_get hx21)) ty25 (by exact rfl))) (by decide) ?_
        refine ao_cons (acts_of rfl (does_move (v := .int .i64 v6_2) (by exact rfl))) (by decide) ?_
        refine ao_cons (acts_of rfl (does_bin (v := .int .i64 (IntKind.i64.wrap (8 * v6_2))) (by conv => lhs; whnf) (by conv => lhs; whnf) rfl)) (by decide) ?_
        refine ao_cons (acts_of rfl (does_conv_int (v := .int .u64 (IntKind.u64.wrap (IntKind.i64.wrap (8 * v6_2)))) (by conv => lhs; whnf) (ty_some ty3) (ty_int ty76) rfl)) (by decide) ?_
        obtain ⟨g22, h⟩ := gd_some h
        refine ao_cons (acts_of rfl (does_bin (v := .int .u64 (Int.fdiv x21 (2 ^ (min (Int.toNat (IntKind.u64.wrap (IntKind.i64.wrap (8 * v6_2)))) (IntKind.bits .u64))))) (by conv => lhs; whnf) (by conv => lhs; whnf) (shr_hv g22))) (by decide) ?_
        refine ao_cons (acts_of rfl (does_bin (v := .int .u64 (bits .and .u64 (Int.fdiv x21 (2 ^ (min (Int.toNat (IntKind.u64.wrap (IntKind.i64.wrap (8 * v6_2)))) (IntKind.bits .u64)))) 255)) (by conv => lhs; whnf) (by conv => lhs; whnf) rfl)) (by decide) ?_
        refine ao_cons (acts_of rfl ((does_conv_int (v := .int .u8 (IntKind.u8.wrap (bits .and .u64 (Int.fdiv x21 (2 ^ (min (Int.toNat (IntKind.u64.wrap (IntKind.i64.wrap (8 * v6_2)))) (IntKind.bits .u64)))) 255))) (by conv => lhs; whnf) (ty_some ty25) (ty_int ty5) rfl).castp (v' := .int .u8 ((u8 (IntKind.u8.wrap (bits .and .u64 (Int.fdiv x21 (2 ^ (min (Int.toNat (IntKind.u64.wrap (IntKind.i64.wrap (8 * v6_2)))) (IntKind.bits .u64)))) 255))).toNat : Int)) (by exact congrArg _ (u8_eq (u8_wrap _))))) (by decide) ?_
        refine ao_cons (acts_of rfl (do_buildSlice (xs := List.map enc5 [(u8 (IntKind.u8.wrap (bits .and .u64 (Int.fdiv x21 (2 ^ (min (Int.toNat (IntKind.u64.wrap (IntKind.i64.wrap (8 * v6_2)))) (IntKind.bits .u64)))) 255)))]) ty43 ty5 rfl rfl rfl rfl rfl rfl rfl rfl)) (by decide) ?_
        obtain ⟨g23, h⟩ := gd_some h
        refine ao_cons (acts_of rfl (do_append (v := List.map enc5 (v3_s_2 ++ [(u8 (IntKind.u8.wrap (bits .and .u64 (Int.fdiv x21 (2 ^ (min (Int.toNat (IntKind.u64.wrap (IntKind.i64.wrap (8 * v6_2)))) (IntKind.bits .u64)))) 255)))])) (by conv => lhs; whnf) (by conv => lhs; whnf) ty43 ty5 rfl rfl (by conv => lhs; whnf) (by first | exact .inl rfl | exact .inr ⟨rfl, rfl⟩) (by conv => lhs; whnf) (by first | exact .inr rfl | exact .inl rfl) (map_app _ _) (fit_map g23))) (by decide) ?_
        refine ao_cons (acts_of rfl (does_assign (v := .own 32 0) (by exact rfl))) (by decide) ?_
        refine ao_nil_n ?_
        refine hK19 _ ?_
        refine aw_reg ?_
        refine ao_cons (acts_of rfl (does_move (v := .int .i64 v6_2) (by exact rfl))) (by decide) ?_
        refine ao_cons (acts_of rfl (does_bin (v := .int .i64 (IntKind.i64.wrap (v6_2 - 1))) (by conv => lhs; whnf) (by conv => lhs; whnf) rfl)) (by decide) ?_
        refine ao_cons (acts_of rfl (does_assign (v := .int .i64 (IntKind.i64.wrap (v6_2 - 1))) (by exact rfl))) (by decide) ?_
        refine ao_nil_n ?_
        have h := leafL h hq15
        exact ⟨m2, Nat.lt_succ_self _, _, reb_lit [(3, .own 3 0), (4, .own 11 0), (5, .int .i64 v5_1), (6, .int .i64 (IntKind.i64.wrap (v6_2 - 1)))] [(32, 0), (11, 0)] [((3, 0), .arr 5 1 false (List.map enc5 (v3_s_2 ++ [(u8 (IntKind.u8.wrap (bits .and .u64 (Int.fdiv x21 (2 ^ (min (Int.toNat (IntKind.u64.wrap (IntKind.i64.wrap (8 * v6_2)))) (IntKind.bits .u64)))) 255)))]))), ((11, 0), .arr 25 1 false (List.map enc12 [a0.Hi, a0.Lo]))] [(3, 1), (11, 1)] (envOk_cons (by conv => lhs; whnf) (by exact rfl) (envOk_cons (by conv => lhs; whnf) (by exact rfl) (envOk_cons (by conv => lhs; whnf) (by exact rfl) (envOk_cons (by conv => lhs; whnf) (by exact rfl) envOk_nil)))) (objOk_cons (by conv => lhs; whnf) (by conv => lhs; whnf) (by exact rfl) (by simp) (objOk_cons (by conv => lhs; whnf) (by conv => lhs; whnf) (by exact rfl) (by simp) objOk_nil)) (nodup_b rfl) (nodup_b rfl) rfl rfl, (v3_s_2 ++ [(u8 (IntKind.u8.wrap (bits .and .u64 (Int.fdiv x21 (2 ^ (min (Int.toNat (IntKind.u64.wrap (IntKind.i64.wrap (8 * v6_2)))) (IntKind.bits .u64)))) 255)))]), (IntKind.i64.wrap (v6_2 - 1)), h, rfl⟩
      · have h := ifF c18 h
        refine aw_cond_f (by decide) rfl ?_
        refine aw_exit ?_
        have h := leafR h hq15
        refine hK12 _ ?_
        refine aw_reg ?_
        refine ao_cons (acts_of rfl (does_move (v := .int .i64 v5_1) (by exact rfl))) (by decide) ?_
        refine ao_cons (acts_of rfl (does_bin (v := .int .i64 (IntKind.i64.wrap (v5_1 + 1))) (by conv => lhs; whnf) (by conv => lhs; whnf) rfl)) (by decide) ?_
        refine ao_cons (acts_of rfl (does_assign (v := .int .i64 (IntKind.i64.wrap (v5_1 + 1))) (by exact rfl))) (by decide) ?_
        refine ao_nil_n ?_
        have h := leafL h hq8
        exact ⟨m1, Nat.lt_succ_self _, _, reb_lit [(3, .own 3 0), (4, .own 11 0), (5, .int .i64 (IntKind.i64.wrap (v5_1 + 1)))] [(3, 0), (11, 0)] [((3, 0), .arr 5 1 false (List.map enc5 v3_s_2)), ((11, 0), .arr 25 1 false (List.map enc12 [a0.Hi, a0.Lo]))] [(3, 1), (11, 1)] (envOk_cons (by conv => lhs; whnf) (by exact rfl) (envOk_cons (by conv => lhs; whnf) (by exact rfl) (envOk_cons (by conv => lhs; whnf) (by exact rfl) envOk_nil))) (objOk_cons (by conv => lhs; whnf) (by conv => lhs; whnf) (by exact rfl) (by simp) (objOk_cons (by conv => lhs; whnf) (by conv => lhs; whnf) (by exact rfl) (by simp) objOk_nil)) (nodup_b rfl) (nodup_b rfl) rfl rfl, v3_s_2, (IntKind.i64.wrap (v5_1 + 1)), h, rfl⟩
    · have h := ifF c11 h
      refine aw_cond_f (by decide) rfl ?_
      refine aw_exit ?_
      have h := leafR h hq8
      obtain rfl := Option.some.inj h
      have h := hk5
      exact ⟨_, reb_lit [(3, .own 3 0)] [(3, 0)] [((3, 0), .arr 5 1 false (List.map enc5 v3_s_1))] [(3, 1)] (envOk_cons (by conv => lhs; whnf) (by exact rfl) envOk_nil) (objOk_cons (by conv => lhs; whnf) (by conv => lhs; whnf) (by exact rfl) (by simp) objOk_nil) (nodup_b rfl) (nodup_b rfl) rfl rfl, v3_s_1, h, rfl⟩
  · rintro s ⟨v3_s_0, h, rfl⟩
    unfold gleaningref1_Hash_k0 at h
    refine aw_seq_k (fun K24 hK24 => ?_)
    refine aw_reg ?_
    refine ao_cons (acts_of rfl (does_move (v := .own 3 0) (by exact rfl))) (by decide) ?_
    obtain ⟨x25, hx25, h⟩ := bnd_some h
    refine ao_cons (acts_of rfl (do_callG (bcs := []) [] [] [(3, 0)] 34 false (gleaningref1_Sum_ok v3_s_0 hx25) rfl ent57 trivial trivial rfl rfl rfl rfl rfl rfl rfl rfl (.inr ⟨rfl, rfl, trivial⟩))) (by decide) ?_
    refine ao_cons (acts_of rfl (does_bin (v := .int .u32 (Int.tmod x25 1000)) (by conv => lhs; whnf) (by conv => lhs; whnf) rfl)) (by decide) ?_
    refine ao_cons (acts_of rfl (does_conv_int (v := .int .i64 (IntKind.i64.wrap (Int.tmod x25 1000))) (by conv => lhs; whnf) (ty_some ty82) (ty_int ty3) rfl)) (by decide) ?_
    refine ao_cons (acts_of rfl (does_assign (v := .int .i64 (IntKind.i64.wrap (Int.tmod x25 1000))) (by exact rfl))) (by decide) ?_
    refine ao_nil_n ?_
    refine hK24 _ ?_
    refine aw_ret ?_
    obtain rfl := Option.some.inj h
    exact ret_ok1 (by conv => lhs; whnf) (by conv => lhs; whnf) (by exact rfl) (.inr rfl) rfl
def gleaningref1_some_k3 (a0 : Rule) (x12 : Span) (v7_2 : Int) : Option (Int ⊕ (Int ⊕ Bool)) :=
  gd (0 ≤ v7_2) (Option.bind (x12.Attrs[(Int.toNat v7_2)]?) (fun (x36 : Attr) => if (ByteArray.toList x36.Key == ByteArray.toList a0.Key) = true then (gd (0 ≤ v7_2) (Option.bind (x12.Attrs[(Int.toNat v7_2)]?) (fun (x39 : Attr) => if (ByteArray.toList x39.Value == ByteArray.toList a0.Value) = true then (some (Sum.inr (Sum.inr true))) else (some (Sum.inl (IntKind.i64.wrap (v7_2 + 1))))))) else (some (Sum.inl (IntKind.i64.wrap (v7_2 + 1))))))
def gleaningref1_some_l2 (a0 : Rule) (v5_0 : Int) (x12 : Span) (v7_2 : Int) : Option (Int ⊕ (Int ⊕ Bool)) :=
  Option.bind (if (decide (v7_2 < (List.length x12.Attrs : Int))) = true then (if (a0.Kind == 6) = true then (some (Sum.inl ())) else (some (Sum.inr (Sum.inr (Sum.inl (IntKind.i64.wrap (v5_0 + 1))))))) else (some (Sum.inr (Sum.inr (Sum.inl (IntKind.i64.wrap (v5_0 + 1))))))) (Sum.elim (fun (s : Unit) => gleaningref1_some_k3 a0 x12 v7_2) some)
def gleaningref1_some_k1 (a0 : Rule) (v5_0 : Int) (x12 : Span) : Option (Int ⊕ Bool) :=
  loopN (fun (s : Int) => gleaningref1_some_l2 a0 v5_0 x12 s) Fu 0
def gleaningref1_some_l0 (a0 : Rule) (a1 : List Span) (v5_0 : Int) : Option (Int ⊕ Bool) :=
  if (decide (v5_0 < (List.length a1 : Int))) = true then (gd (0 ≤ v5_0) (Option.bind (a1[(Int.toNat v5_0)]?) (fun (x12 : Span) => Option.bind (if (a0.Kind == 4) = true then (if (decide (a0.N ≤ x12.Dur)) = true then (some (Sum.inr (Sum.inr true))) else (if (a0.Kind == 5) = true then (if x12.Err = true then (some (Sum.inr (Sum.inr true))) else (some (Sum.inl ()))) else (some (Sum.inl ())))) else (if (a0.Kind == 5) = true then (if x12.Err = true then (some (Sum.inr (Sum.inr true))) else (some (Sum.inl ()))) else (some (Sum.inl ())))) (Sum.elim (fun (s : Unit) => gleaningref1_some_k1 a0 v5_0 x12) some)))) else (some (Sum.inr false))
def gleaningref1_some (a0 : Rule) (a1 : List Span) : Option Bool :=
  loopN (fun (s : Int) => gleaningref1_some_l0 a0 a1 s) Fu 0
set_option maxRecDepth 100000 in
set_option maxHeartbeats 8000000 in
/-- gleaning/gleaningref1.some -/
theorem gleaningref1_some_ok (a0 : Rule) (a1 : List Span) {r : Bool} (h : gleaningref1_some a0 a1 = some r) : Ok Try.prog 94 [.agg [.int .i64 a0.Kind, .int .i64 a0.N, .str a0.Key, .str a0.Value, .sl 5 (List.map enc23 a0.Kids)], .sl 10 (List.map enc41 a1)] [] [] (.bool r) [] [] := by
  unfold gleaningref1_some at h
  refine ok_of_code Try.func94 rfl (by show (2 : Nat) ≤ _; decide) (Nat.le_refl _) fun X => ?_
  refine aw_seq_k (fun K1 hK1 => ?_)
  refine aw_reg ?_
  refine ao_cons (acts_of rfl (do_box (by conv => lhs; whnf) rfl rfl)) (by decide) ?_
  refine ao_cons (acts_of rfl (does_assign (v := .bool false) (by exact rfl))) (by decide) ?_
  refine ao_nil_n ?_
  refine hK1 _ ?_
  refine aw_seq_k (fun K2 hK2 => ?_)
  refine aw_seq_k (fun K3 hK3 => ?_)
  refine aw_reg ?_
  refine ao_cons (acts_of rfl (does_assign (v := .int .i64 0) (by exact rfl))) (by decide) ?_
  refine ao_nil_n ?_
  refine hK3 _ ?_
  refine aw_block ?_
  refine aw_loop' (fun m s => ∃ (v5_0 : Int), loopN (fun (s : Int) => gleaningref1_some_l0 a0 a1 s) m v5_0 = some r ∧ s = lit [(1, .sl 10 (List.map enc41 a1)), (2, .ptr 2 0 0), (5, .int .i64 v5_0)] [((2, 0), .box [.int .i64 a0.Kind, .int .i64 a0.N, .str a0.Key, .str a0.Value, .sl 5 (List.map enc23 a0.Kids)])] [(2, 1)] X) Fu
    ⟨_, reb_lit [(1, .sl 10 (List.map enc41 a1)), (2, .ptr 2 0 0), (5, .int .i64 (0))] [(2, 0)] [((2, 0), .box [.int .i64 a0.Kind, .int .i64 a0.N, .str a0.Key, .str a0.Value, .sl 5 (List.map enc23 a0.Kids)])] [(2, 1)] (envOk_cons (by conv => lhs; whnf) (by exact rfl) (envOk_cons (by conv => lhs; whnf) (by exact rfl) (envOk_cons (by conv => lhs; whnf) (by exact rfl) envOk_nil))) (objOk_cons (by conv => lhs; whnf) (by conv => lhs; whnf) (by exact rfl) (by simp) objOk_nil) (nodup_b rfl) (nodup_b rfl) rfl rfl, 0, h, rfl⟩ ?_
  rintro m s ⟨v5_0, h, rfl⟩
  obtain ⟨m0, q4, rfl, h, hq5⟩ := loop_some h
  replace h : gleaningref1_some_l0 a0 a1 v5_0 = some q4 := h
  unfold gleaningref1_some_l0 at h
  refine aw_seq_k (fun K6 hK6 => ?_)
  refine aw_seq_k (fun K7 hK7 => ?_)
  refine aw_reg ?_
  refine ao_cons (acts_of rfl (does_move (v := .int .i64 v5_0) (by exact rfl))) (by decide) ?_
  refine ao_cons (acts_of rfl (does_move (v := .sl 10 (List.map enc41 a1)) (by exact rfl))) (by decide) ?_
  refine ao_cons (acts_of rfl ((does_len_sl (by conv => lhs; whnf) ty28).castp (v' := .int .i64 (List.length a1 : Int)) (by exact len_map _))) (by decide) ?_
  refine ao_cons (acts_of rfl (does_bin (v := .bool (decide (v5_0 < (List.length a1 : Int)))) (by conv => lhs; whnf) (by conv => lhs; whnf) rfl)) (by decide) ?_
  refine ao_nil_n ?_
  refine hK7 _ ?_
  refine aw_bool (b := (decide (v5_0 < (List.length a1 : Int)))) 11 rfl (fun c8 => ?_) (fun c8 => ?_)
  · have h := ifT c8 h
    refine aw_cond_t (by decide) rfl ?_
    refine aw_skip ?_
    refine hK6 _ ?_
    refine aw_seq_k (fun K9 hK9 => ?_)
    refine aw_block ?_
    refine aw_seq_k (fun K10 hK10 => ?_)
    refine aw_reg ?_
    refine ao_cons (acts_of rfl (does_move (v := .sl 10 (List.map enc41 a1)) (by exact rfl))) (by decide) ?_
    refine ao_cons (acts_of rfl (does_move (v := .int .i64 v5_0) (by exact rfl))) (by decide) ?_
    obtain ⟨g11, h⟩ := gd_some h
    obtain ⟨x12, hx12, h⟩ := bnd_some h
    refine ao_cons (acts_of rfl (does_indexAddr_sl (el := .agg [.int .u64 x12.Trace.Hi, .int .u64 x12.Trace.Lo, .int .u64 x12.Id, .int .u64 x12.Parent, .str x12.Service, .str x12.Op, .int .i64 x12.Start, .int .i64 x12.Dur, .bool x12.Err, .sl 2 (List.map enc52 x12.Attrs)]) (by conv => lhs; whnf) (by conv => lhs; whnf) ty28 ty42 g11 (by exact map_get hx12))) (by decide) ?_
    refine ao_cons (acts_of rfl (does_load (v := .agg [.int .u64 x12.Trace.Hi, .int .u64 x12.Trace.Lo, .int .u64 x12.Id, .int .u64 x12.Parent, .str x12.Service, .str x12.Op, .int .i64 x12.Start, .int .i64 x12.Dur, .bool x12.Err, .sl 2 (List.map enc52 x12.Attrs)]) (by conv => lhs; whnf) (by conv => lhs; whnf) ty42 (by exact rfl))) (by decide) ?_
    refine ao_cons (acts_of rfl (do_new ty42 rfl rfl)) (by decide) ?_
    refine ao_cons (acts_of rfl (do_store (cs' := [.int .u64 x12.Trace.Hi, .int .u64 x12.Trace.Lo, .int .u64 x12.Id, .int .u64 x12.Parent, .str x12.Service, .str x12.Op, .int .i64 x12.Start, .int .i64 x12.Dur, .bool x12.Err, .sl 2 (List.map enc52 x12.Attrs)]) (by conv => lhs; whnf) (by conv => lhs; whnf) (by conv => lhs; whnf) ty42 rfl rfl rfl (by exact rfl))) (by decide) ?_
    refine ao_nil_n ?_
    refine hK10 _ ?_
    obtain ⟨q13, h, hk14⟩ := bnd_some h
    refine aw_cut (fun s => gleaningref1_some_k1 a0 v5_0 x12 = some q4 ∧ s = lit [(1, .sl 10 (List.map enc41 a1)), (2, .ptr 2 0 0), (5, .int .i64 v5_0), (6, .ptr 6 0 0)] [((2, 0), .box [.int .i64 a0.Kind, .int .i64 a0.N, .str a0.Key, .str a0.Value, .sl 5 (List.map enc23 a0.Kids)]), ((6, 0), .box [.int .u64 x12.Trace.Hi, .int .u64 x12.Trace.Lo, .int .u64 x12.Id, .int .u64 x12.Parent, .str x12.Service, .str x12.Op, .int .i64 x12.Start, .int .i64 x12.Dur, .bool x12.Err, .sl 2 (List.map enc52 x12.Attrs)])] [(2, 1), (6, 1)] X) ?_ ?_
    · skip
      refine aw_seq_k (fun K15 hK15 => ?_)
      refine aw_reg ?_
      refine ao_cons (acts_of rfl (does_fieldAddr (q := .ptr 2 0 0) (by conv => lhs; whnf) ty24 rfl ty3 (by decide) (by exact rfl))) (by decide) ?_
      refine ao_cons (acts_of rfl (does_load (v := .int .i64 a0.Kind) (by conv => lhs; whnf) (by conv => lhs; whnf) ty3 (by exact rfl))) (by decide) ?_
      refine ao_cons (acts_of rfl (does_bin (v := .bool (a0.Kind == 4)) (by conv => lhs; whnf) (by conv => lhs; whnf) rfl)) (by decide) ?_
      refine ao_cons (acts_of rfl (does_move (v := .bool (a0.Kind == 4)) (by exact rfl))) (by decide) ?_
      refine ao_bool (c := (a0.Kind == 4)) 21 rfl (fun c16 => ?_) (fun c16 => ?_)
      · have h := ifT c16 h
        refine ao_cons (acts_of rfl (does_fieldAddr (q := .ptr 6 0 7) (by conv => lhs; whnf) ty42 rfl ty3 (by decide) (by exact rfl))) (by decide) ?_
        refine ao_cons (acts_of rfl (does_load (v := .int .i64 x12.Dur) (by conv => lhs; whnf) (by conv => lhs; whnf) ty3 (by exact rfl))) (by decide) ?_
        refine ao_cons (acts_of rfl (does_fieldAddr (q := .ptr 2 0 1) (by conv => lhs; whnf) ty24 rfl ty3 (by decide) (by exact rfl))) (by decide) ?_
        refine ao_cons (acts_of rfl (does_load (v := .int .i64 a0.N) (by conv => lhs; whnf) (by conv => lhs; whnf) ty3 (by exact rfl))) (by decide) ?_
        refine ao_cons (acts_of rfl (does_bin (v := .bool (decide (a0.N ≤ x12.Dur))) (by conv => lhs; whnf) (by conv => lhs; whnf) rfl)) (by decide) ?_
        refine ao_cons (acts_of rfl (does_pick (v := .bool (decide (a0.N ≤ x12.Dur))) (by conv => lhs; whnf) (by exact rfl))) (by decide) ?_
        refine ao_cons (acts_of rfl (does_move (v := .bool (decide (a0.N ≤ x12.Dur))) (by exact rfl))) (by decide) ?_
        refine ao_bool (c := (decide (a0.N ≤ x12.Dur))) 28 rfl (fun c17 => ?_) (fun c17 => ?_)
        · have h := ifT c17 h
          refine ao_cons (acts_skip rfl) (by decide) ?_
          refine ao_cons (acts_skip rfl) (by decide) ?_
          refine ao_cons (acts_skip rfl) (by decide) ?_
          refine ao_cons (acts_skip rfl) (by decide) ?_
          refine ao_cons (acts_skip rfl) (by decide) ?_
          refine ao_cons (acts_skip rfl) (by decide) ?_
          refine ao_cons (acts_skip rfl) (by decide) ?_
          refine ao_cons (acts_of rfl (does_pick (v := .bool true) (by conv => lhs; whnf) (by exact rfl))) (by decide) ?_
          refine ao_nil_n ?_
          refine hK15 _ ?_
          refine aw_cond_t (by decide) rfl ?_
          refine aw_seq_k (fun K18 hK18 => ?_)
          refine aw_reg ?_
          refine ao_cons (acts_of rfl (does_assign (v := .bool true) (by exact rfl))) (by decide) ?_
          refine ao_nil_n ?_
          refine hK18 _ ?_
          refine aw_ret ?_
          have h := leafR h hk14
          have h := leafR h hq5
          obtain rfl := Option.some.inj h
          exact ret_ok1 (by conv => lhs; whnf) (by conv => lhs; whnf) (by exact rfl) (.inr rfl) rfl
        · have h := ifF c17 h
          refine ao_cons (acts_of rfl (does_fieldAddr (q := .ptr 2 0 0) (by conv => lhs; whnf) ty24 rfl ty3 (by decide) (by exact rfl))) (by decide) ?_
          refine ao_cons (acts_of rfl (does_load (v := .int .i64 a0.Kind) (by conv => lhs; whnf) (by conv => lhs; whnf) ty3 (by exact rfl))) (by decide) ?_
          refine ao_cons (acts_of rfl (does_bin (v := .bool (a0.Kind == 5)) (by conv => lhs; whnf) (by conv => lhs; whnf) rfl)) (by decide) ?_
          refine ao_cons (acts_of rfl (does_move (v := .bool (a0.Kind == 5)) (by exact rfl))) (by decide) ?_
          refine ao_bool (c := (a0.Kind == 5)) 32 rfl (fun c19 => ?_) (fun c19 => ?_)
          · have h := ifT c19 h
            refine ao_cons (acts_of rfl (does_fieldAddr (q := .ptr 6 0 8) (by conv => lhs; whnf) ty42 rfl ty4 (by decide) (by exact rfl))) (by decide) ?_
            refine ao_cons (acts_of rfl (does_load (v := .bool x12.Err) (by conv => lhs; whnf) (by conv => lhs; whnf) ty4 (by exact rfl))) (by decide) ?_
            refine ao_cons (acts_of rfl (does_pick (v := .bool x12.Err) (by conv => lhs; whnf) (by exact rfl))) (by decide) ?_
            refine ao_cons (acts_of rfl (does_pick (v := .bool x12.Err) (by conv => lhs; whnf) (by exact rfl))) (by decide) ?_
            refine ao_nil_n ?_
            refine hK15 _ ?_
            refine aw_bool (b := x12.Err) 36 rfl (fun c20 => ?_) (fun c20 => ?_)
            · have h := ifT c20 h
              refine aw_cond_t (by decide) rfl ?_
              refine aw_seq_k (fun K21 hK21 => ?_)
              refine aw_reg ?_
              refine ao_cons (acts_of rfl (does_assign (v := .bool true) (by exact rfl))) (by decide) ?_
              refine ao_nil_n ?_
              refine hK21 _ ?_
              refine aw_ret ?_
              have h := leafR h hk14
              have h := leafR h hq5
              obtain rfl := Option.some.inj h
              exact ret_ok1 (by conv => lhs; whnf) (by conv => lhs; whnf) (by exact rfl) (.inr rfl) rfl
            · have h := ifF c20 h
              refine aw_cond_f (by decide) rfl ?_
              refine aw_skip ?_
              have h := leafL h hk14
              exact ⟨_, reb_lit [(1, .sl 10 (List.map enc41 a1)), (2, .ptr 2 0 0), (5, .int .i64 v5_0), (6, .ptr 6 0 0)] [(2, 0), (6, 0)] [((2, 0), .box [.int .i64 a0.Kind, .int .i64 a0.N, .str a0.Key, .str a0.Value, .sl 5 (List.map enc23 a0.Kids)]), ((6, 0), .box [.int .u64 x12.Trace.Hi, .int .u64 x12.Trace.Lo, .int .u64 x12.Id, .int .u64 x12.Parent, .str x12.Service, .str x12.Op, .int .i64 x12.Start, .int .i64 x12.Dur, .bool x12.Err, .sl 2 (List.map enc52 x12.Attrs)])] [(2, 1), (6, 1)] (envOk_cons (by conv => lhs; whnf) (by exact rfl) (envOk_cons (by conv => lhs; whnf) (by exact rfl) (envOk_cons (by conv => lhs; whnf) (by exact rfl) (envOk_cons (by conv => lhs; whnf) (by exact rfl) envOk_nil)))) (objOk_cons (by conv => lhs; whnf) (by conv => lhs; whnf) (by exact rfl) (by simp) (objOk_cons (by conv => lhs; whnf) (by conv => lhs; whnf) (by exact rfl) (by simp) objOk_nil)) (nodup_b rfl) (nodup_b rfl) rfl rfl, h, rfl⟩
          · have h := ifF c19 h
            refine ao_cons (acts_skip rfl) (by decide) ?_
            refine ao_cons (acts_skip rfl) (by decide) ?_
            refine ao_cons (acts_of rfl (does_pick (v := .bool false) (by conv => lhs; whnf) (by exact rfl))) (by decide) ?_
            refine ao_cons (acts_of rfl (does_pick (v := .bool false) (by conv => lhs; whnf) (by exact rfl))) (by decide) ?_
            refine ao_nil_n ?_
            refine hK15 _ ?_
            refine aw_cond_f (by decide) rfl ?_
            refine aw_skip ?_
            have h := leafL h hk14
            exact ⟨_, reb_lit [(1, .sl 10 (List.map enc41 a1)), (2, .ptr 2 0 0), (5, .int .i64 v5_0), (6, .ptr 6 0 0)] [(2, 0), (6, 0)] [((2, 0), .box [.int .i64 a0.Kind, .int .i64 a0.N, .str a0.Key, .str a0.Value, .sl 5 (List.map enc23 a0.Kids)]), ((6, 0), .box [.int .u64 x12.Trace.Hi, .int .u64 x12.Trace.Lo, .int .u64 x12.Id, .int .u64 x12.Parent, .str x12.Service, .str x12.Op, .int .i64 x12.Start, .int .i64 x12.Dur, .bool x12.Err, .sl 2 (List.map enc52 x12.Attrs)])] [(2, 1), (6, 1)] (envOk_cons (by conv => lhs; whnf) (by exact rfl) (envOk_cons (by conv => lhs; whnf) (by exact rfl) (envOk_cons (by conv => lhs; whnf) (by exact rfl) (envOk_cons (by conv => lhs; whnf) (by exact rfl) envOk_nil)))) (objOk_cons (by conv => lhs; whnf) (by conv => lhs; whnf) (by exact rfl) (by simp) (objOk_cons (by conv => lhs; whnf) (by conv => lhs; whnf) (by exact rfl) (by simp) objOk_nil)) (nodup_b rfl) (nodup_b rfl) rfl rfl, h, rfl⟩
      · have h := ifF c16 h
        refine ao_cons (acts_skip rfl) (by decide) ?_
        refine ao_cons (acts_skip rfl) (by decide) ?_
        refine ao_cons (acts_skip rfl) (by decide) ?_
        refine ao_cons (acts_skip rfl) (by decide) ?_
        refine ao_cons (acts_skip rfl) (by decide) ?_
        refine ao_cons (acts_of rfl (does_pick (v := .bool false) (by conv => lhs; whnf) (by exact rfl))) (by decide) ?_
        refine ao_cons (acts_of rfl (does_move (v := .bool false) (by exact rfl))) (by decide) ?_
        refine ao_cons (acts_of rfl (does_fieldAddr (q := .ptr 2 0 0) (by conv => lhs; whnf) ty24 rfl ty3 (by decide) (by exact rfl))) (by decide) ?_
        refine ao_cons (acts_of rfl (does_load (v := .int .i64 a0.Kind) (by conv => lhs; whnf) (by conv => lhs; whnf) ty3 (by exact rfl))) (by decide) ?_
        refine ao_cons (acts_of rfl (does_bin (v := .bool (a0.Kind == 5)) (by conv => lhs; whnf) (by conv => lhs; whnf) rfl)) (by decide) ?_
        refine ao_cons (acts_of rfl (does_move (v := .bool (a0.Kind == 5)) (by exact rfl))) (by decide) ?_
        refine ao_bool (c := (a0.Kind == 5)) 32 rfl (fun c22 => ?_) (fun c22 => ?_)
        · have h := ifT c22 h
          refine ao_cons (acts_of rfl (does_fieldAddr (q := .ptr 6 0 8) (by conv => lhs; whnf) ty42 rfl ty4 (by decide) (by exact rfl))) (by decide) ?_
          refine ao_cons (acts_of rfl (does_load (v := .bool x12.Err) (by conv => lhs; whnf) (by conv => lhs; whnf) ty4 (by exact rfl))) (by decide) ?_
          refine ao_cons (acts_of rfl (does_pick (v := .bool x12.Err) (by conv => lhs; whnf) (by exact rfl))) (by decide) ?_
          refine ao_cons (acts_of rfl (does_pick (v := .bool x12.Err) (by conv => lhs; whnf) (by exact rfl))) (by decide) ?_
          refine ao_nil_n ?_
          refine hK15 _ ?_
          refine aw_bool (b := x12.Err) 36 rfl (fun c23 => ?_) (fun c23 => ?_)
          · have h := ifT c23 h
            refine aw_cond_t (by decide) rfl ?_
            refine aw_seq_k (fun K24 hK24 => ?_)
            refine aw_reg ?_
            refine ao_cons (acts_of rfl (does_assign (v := .bool true) (by exact rfl))) (by decide) ?_
            refine ao_nil_n ?_
            refine hK24 _ ?_
            refine aw_ret ?_
            have h := leafR h hk14
            have h := leafR h hq5
            obtain rfl := Option.some.inj h
            exact ret_ok1 (by conv => lhs; whnf) (by conv => lhs; whnf) (by exact rfl) (.inr rfl) rfl
          · have h := ifF c23 h
            refine aw_cond_f (by decide) rfl ?_
            refine aw_skip ?_
            have h := leafL h hk14
            exact ⟨_, reb_lit [(1, .sl 10 (List.map enc41 a1)), (2, .ptr 2 0 0), (5, .int .i64 v5_0), (6, .ptr 6 0 0)] [(2, 0), (6, 0)] [((2, 0), .box [.int .i64 a0.Kind, .int .i64 a0.N, .str a0.Key, .str a0.Value, .sl 5 (List.map enc23 a0.Kids)]), ((6, 0), .box [.int .u64 x12.Trace.Hi, .int .u64 x12.Trace.Lo, .int .u64 x12.Id, .int .u64 x12.Parent, .str x12.Service, .str x12.Op, .int .i64 x12.Start, .int .i64 x12.Dur, .bool x12.Err, .sl 2 (List.map enc52 x12.Attrs)])] [(2, 1), (6, 1)] (envOk_cons (by conv => lhs; whnf) (by exact rfl) (envOk_cons (by conv => lhs; whnf) (by exact rfl) (envOk_cons (by conv => lhs; whnf) (by exact rfl) (envOk_cons (by conv => lhs; whnf) (by exact rfl) envOk_nil)))) (objOk_cons (by conv => lhs; whnf) (by conv => lhs; whnf) (by exact rfl) (by simp) (objOk_cons (by conv => lhs; whnf) (by conv => lhs; whnf) (by exact rfl) (by simp) objOk_nil)) (nodup_b rfl) (nodup_b rfl) rfl rfl, h, rfl⟩
        · have h := ifF c22 h
          refine ao_cons (acts_skip rfl) (by decide) ?_
          refine ao_cons (acts_skip rfl) (by decide) ?_
          refine ao_cons (acts_of rfl (does_pick (v := .bool false) (by conv => lhs; whnf) (by exact rfl))) (by decide) ?_
          refine ao_cons (acts_of rfl (does_pick (v := .bool false) (by conv => lhs; whnf) (by exact rfl))) (by decide) ?_
          refine ao_nil_n ?_
          refine hK15 _ ?_
          refine aw_cond_f (by decide) rfl ?_
          refine aw_skip ?_
          have h := leafL h hk14
          exact ⟨_, reb_lit [(1, .sl 10 (List.map enc41 a1)), (2, .ptr 2 0 0), (5, .int .i64 v5_0), (6, .ptr 6 0 0)] [(2, 0), (6, 0)] [((2, 0), .box [.int .i64 a0.Kind, .int .i64 a0.N, .str a0.Key, .str a0.Value, .sl 5 (List.map enc23 a0.Kids)]), ((6, 0), .box [.int .u64 x12.Trace.Hi, .int .u64 x12.Trace.Lo, .int .u64 x12.Id, .int .u64 x12.Parent, .str x12.Service, .str x12.Op, .int .i64 x12.Start, .int .i64 x12.Dur, .bool x12.Err, .sl 2 (List.map enc52 x12.Attrs)])] [(2, 1), (6, 1)] (envOk_cons (by conv => lhs; whnf) (by exact rfl) (envOk_cons (by conv => lhs; whnf) (by exact rfl) (envOk_cons (by conv => lhs; whnf) (by exact rfl) (envOk_cons (by conv => lhs; whnf) (by exact rfl) envOk_nil)))) (objOk_cons (by conv => lhs; whnf) (by conv => lhs; whnf) (by exact rfl) (by simp) (objOk_cons (by conv => lhs; whnf) (by conv => lhs; whnf) (by exact rfl) (by simp) objOk_nil)) (nodup_b rfl) (nodup_b rfl) rfl rfl, h, rfl⟩
    · rintro s ⟨h, rfl⟩
      unfold gleaningref1_some_k1 at h
      refine aw_seq_k (fun K25 hK25 => ?_)
      refine aw_reg ?_
      refine ao_cons (acts_of rfl (does_assign (v := .int .i64 0) (by exact rfl))) (by decide) ?_
      refine ao_nil_n ?_
      refine hK25 _ ?_
      refine aw_block ?_
      refine aw_loop' (fun m s => ∃ (v7_2 : Int), loopN (fun (s : Int) => gleaningref1_some_l2 a0 v5_0 x12 s) m v7_2 = some q4 ∧ s = lit [(1, .sl 10 (List.map enc41 a1)), (2, .ptr 2 0 0), (5, .int .i64 v5_0), (6, .ptr 6 0 0), (7, .int .i64 v7_2)] [((2, 0), .box [.int .i64 a0.Kind, .int .i64 a0.N, .str a0.Key, .str a0.Value, .sl 5 (List.map enc23 a0.Kids)]), ((6, 0), .box [.int .u64 x12.Trace.Hi, .int .u64 x12.Trace.Lo, .int .u64 x12.Id, .int .u64 x12.Parent, .str x12.Service, .str x12.Op, .int .i64 x12.Start, .int .i64 x12.Dur, .bool x12.Err, .sl 2 (List.map enc52 x12.Attrs)])] [(2, 1), (6, 1)] X) Fu
        ⟨_, reb_lit [(1, .sl 10 (List.map enc41 a1)), (2, .ptr 2 0 0), (5, .int .i64 v5_0), (6, .ptr 6 0 0), (7, .int .i64 (0))] [(2, 0), (6, 0)] [((2, 0), .box [.int .i64 a0.Kind, .int .i64 a0.N, .str a0.Key, .str a0.Value, .sl 5 (List.map enc23 a0.Kids)]), ((6, 0), .box [.int .u64 x12.Trace.Hi, .int .u64 x12.Trace.Lo, .int .u64 x12.Id, .int .u64 x12.Parent, .str x12.Service, .str x12.Op, .int .i64 x12.Start, .int .i64 x12.Dur, .bool x12.Err, .sl 2 (List.map enc52 x12.Attrs)])] [(2, 1), (6, 1)] (envOk_cons (by conv => lhs; whnf) (by exact rfl) (envOk_cons (by conv => lhs; whnf) (by exact rfl) (envOk_cons (by conv => lhs; whnf) (by exact rfl) (envOk_cons (by conv => lhs; whnf) (by exact rfl) (envOk_cons (by conv => lhs; whnf) (by exact rfl) envOk_nil))))) (objOk_cons (by conv => lhs; whnf) (by conv => lhs; whnf) (by exact rfl) (by simp) (objOk_cons (by conv => lhs; whnf) (by conv => lhs; whnf) (by exact rfl) (by simp) objOk_nil)) (nodup_b rfl) (nodup_b rfl) rfl rfl, 0, h, rfl⟩ ?_
      rintro m s ⟨v7_2, h, rfl⟩
      obtain ⟨m2, q26, rfl, h, hq27⟩ := loop_some h
      replace h : gleaningref1_some_l2 a0 v5_0 x12 v7_2 = some q26 := h
      unfold gleaningref1_some_l2 at h
      obtain ⟨q28, h, hk29⟩ := bnd_some h
      refine aw_cut (fun s => gleaningref1_some_k3 a0 x12 v7_2 = some q26 ∧ s = lit [(1, .sl 10 (List.map enc41 a1)), (2, .ptr 2 0 0), (5, .int .i64 v5_0), (6, .ptr 6 0 0), (7, .int .i64 v7_2)] [((2, 0), .box [.int .i64 a0.Kind, .int .i64 a0.N, .str a0.Key, .str a0.Value, .sl 5 (List.map enc23 a0.Kids)]), ((6, 0), .box [.int .u64 x12.Trace.Hi, .int .u64 x12.Trace.Lo, .int .u64 x12.Id, .int .u64 x12.Parent, .str x12.Service, .str x12.Op, .int .i64 x12.Start, .int .i64 x12.Dur, .bool x12.Err, .sl 2 (List.map enc52 x12.Attrs)])] [(2, 1), (6, 1)] X) ?_ ?_
      · skip
        refine aw_seq_k (fun K30 hK30 => ?_)
        refine aw_reg ?_
        refine ao_cons (acts_of rfl (does_move (v := .int .i64 v7_2) (by exact rfl))) (by decide) ?_
        refine ao_cons (acts_of rfl (does_fieldAddr (q := .ptr 6 0 9) (by conv => lhs; whnf) ty42 rfl ty40 (by decide) (by exact rfl))) (by decide) ?_
        refine ao_cons (acts_of rfl (does_load (v := .sl 2 (List.map enc52 x12.Attrs)) (by conv => lhs; whnf) (by conv => lhs; whnf) ty40 (by exact rfl))) (by decide) ?_
        refine ao_cons (acts_of rfl ((does_len_sl (by conv => lhs; whnf) ty40).castp (v' := .int .i64 (List.length x12.Attrs : Int)) (by exact len_map _))) (by decide) ?_
        refine ao_cons (acts_of rfl (does_bin (v := .bool (decide (v7_2 < (List.length x12.Attrs : Int)))) (by conv => lhs; whnf) (by conv => lhs; whnf) rfl)) (by decide) ?_
        refine ao_cons (acts_of rfl (does_move (v := .bool (decide (v7_2 < (List.length x12.Attrs : Int)))) (by exact rfl))) (by decide) ?_
        refine ao_bool (c := (decide (v7_2 < (List.length x12.Attrs : Int)))) 42 rfl (fun c31 => ?_) (fun c31 => ?_)
        · have h := ifT c31 h
          refine ao_cons (acts_of rfl (does_fieldAddr (q := .ptr 2 0 0) (by conv => lhs; whnf) ty24 rfl ty3 (by decide) (by exact rfl))) (by decide) ?_
          refine ao_cons (acts_of rfl (does_load (v := .int .i64 a0.Kind) (by conv => lhs; whnf) (by conv => lhs; whnf) ty3 (by exact rfl))) (by decide) ?_
          refine ao_cons (acts_of rfl (does_bin (v := .bool (a0.Kind == 6)) (by conv => lhs; whnf) (by conv => lhs; whnf) rfl)) (by decide) ?_
          refine ao_cons (acts_of rfl (does_pick (v := .bool (a0.Kind == 6)) (by conv => lhs; whnf) (by exact rfl))) (by decide) ?_
          refine ao_nil_n ?_
          refine hK30 _ ?_
          refine aw_bool (b := (a0.Kind == 6)) 46 rfl (fun c32 => ?_) (fun c32 => ?_)
          · have h := ifT c32 h
            refine aw_cond_t (by decide) rfl ?_
            refine aw_skip ?_
            have h := leafL h hk29
            exact ⟨_, reb_lit [(1, .sl 10 (List.map enc41 a1)), (2, .ptr 2 0 0), (5, .int .i64 v5_0), (6, .ptr 6 0 0), (7, .int .i64 v7_2)] [(2, 0), (6, 0)] [((2, 0), .box [.int .i64 a0.Kind, .int .i64 a0.N, .str a0.Key, .str a0.Value, .sl 5 (List.map enc23 a0.Kids)]), ((6, 0), .box [.int .u64 x12.Trace.Hi, .int .u64 x12.Trace.Lo, .int .u64 x12.Id, .int .u64 x12.Parent, .str x12.Service, .str x12.Op, .int .i64 x12.Start, .int .i64 x12.Dur, .bool x12.Err, .sl 2 (List.map enc52 x12.Attrs)])] [(2, 1), (6, 1)] (envOk_cons (by conv => lhs; whnf) (by exact rfl) (envOk_cons (by conv => lhs; whnf) (by exact rfl) (envOk_cons (by conv => lhs; whnf) (by exact rfl) (envOk_cons (by conv => lhs; whnf) (by exact rfl) (envOk_cons (by conv => lhs; whnf) (by exact rfl) envOk_nil))))) (objOk_cons (by conv => lhs; whnf) (by conv => lhs; whnf) (by exact rfl) (by simp) (objOk_cons (by conv => lhs; whnf) (by conv => lhs; whnf) (by exact rfl) (by simp) objOk_nil)) (nodup_b rfl) (nodup_b rfl) rfl rfl, h, rfl⟩
          · have h := ifF c32 h
            refine aw_cond_f (by decide) rfl ?_
            refine aw_exit ?_
            have h := leafR h hk29
            have h := leafR h hq27
            refine hK9 _ ?_
            refine aw_reg ?_
            refine ao_cons (acts_of rfl (does_move (v := .int .i64 v5_0) (by exact rfl))) (by decide) ?_
            refine ao_cons (acts_of rfl (does_bin (v := .int .i64 (IntKind.i64.wrap (v5_0 + 1))) (by conv => lhs; whnf) (by conv => lhs; whnf) rfl)) (by decide) ?_
            refine ao_cons (acts_of rfl (does_assign (v := .int .i64 (IntKind.i64.wrap (v5_0 + 1))) (by exact rfl))) (by decide) ?_
            refine ao_nil_n ?_
            have h := leafL h hq5
            exact ⟨m0, Nat.lt_succ_self _, _, reb_lit [(1, .sl 10 (List.map enc41 a1)), (2, .ptr 2 0 0), (5, .int .i64 (IntKind.i64.wrap (v5_0 + 1)))] [(2, 0)] [((2, 0), .box [.int .i64 a0.Kind, .int .i64 a0.N, .str a0.Key, .str a0.Value, .sl 5 (List.map enc23 a0.Kids)])] [(2, 1)] (envOk_cons (by conv => lhs; whnf) (by exact rfl) (envOk_cons (by conv => lhs; whnf) (by exact rfl) (envOk_cons (by conv => lhs; whnf) (by exact rfl) envOk_nil))) (objOk_cons (by conv => lhs; whnf) (by conv => lhs; whnf) (by exact rfl) (by simp) objOk_nil) (nodup_b rfl) (nodup_b rfl) rfl rfl, (IntKind.i64.wrap (v5_0 + 1)), h, rfl⟩
        · have h := ifF c31 h
          refine ao_cons (acts_skip rfl) (by decide) ?_
          refine ao_cons (acts_skip rfl) (by decide) ?_
          refine ao_cons (acts_skip rfl) (by decide) ?_
          refine ao_cons (acts_of rfl (does_pick (v := .bool false) (by conv => lhs; whnf) (by exact rfl))) (by decide) ?_
          refine ao_nil_n ?_
          refine hK30 _ ?_
          refine aw_cond_f (by decide) rfl ?_
          refine aw_exit ?_
          have h := leafR h hk29
          have h := leafR h hq27
          refine hK9 _ ?_
          refine aw_reg ?_
          refine ao_cons (acts_of rfl (does_move (v := .int .i64 v5_0) (by exact rfl))) (by decide) ?_
          refine ao_cons (acts_of rfl (does_bin (v := .int .i64 (IntKind.i64.wrap (v5_0 + 1))) (by conv => lhs; whnf) (by conv => lhs; whnf) rfl)) (by decide) ?_
          refine ao_cons (acts_of rfl (does_assign (v := .int .i64 (IntKind.i64.wrap (v5_0 + 1))) (by exact rfl))) (by decide) ?_
          refine ao_nil_n ?_
          have h := leafL h hq5
          exact ⟨m0, Nat.lt_succ_self _, _, reb_lit [(1, .sl 10 (List.map enc41 a1)), (2, .ptr 2 0 0), (5, .int .i64 (IntKind.i64.wrap (v5_0 + 1)))] [(2, 0)] [((2, 0), .box [.int .i64 a0.Kind, .int .i64 a0.N, .str a0.Key, .str a0.Value, .sl 5 (List.map enc23 a0.Kids)])] [(2, 1)] (envOk_cons (by conv => lhs; whnf) (by exact rfl) (envOk_cons (by conv => lhs; whnf) (by exact rfl) (envOk_cons (by conv => lhs; whnf) (by exact rfl) envOk_nil))) (objOk_cons (by conv => lhs; whnf) (by conv => lhs; whnf) (by exact rfl) (by simp) objOk_nil) (nodup_b rfl) (nodup_b rfl) rfl rfl, (IntKind.i64.wrap (v5_0 + 1)), h, rfl⟩
      · rintro s ⟨h, rfl⟩
        unfold gleaningref1_some_k3 at h
        refine aw_seq_k (fun K33 hK33 => ?_)
        refine aw_block ?_
        refine aw_seq_k (fun K34 hK34 => ?_)
        refine aw_regd (by kernel_rfl) (by decide +kernel) ?_
        refine ao_cons (acts_of rfl (does_fieldAddr (q := .ptr 6 0 9) (by conv => lhs; whnf) ty42 rfl ty40 (by decide) (by exact rfl))) (by decide) ?_
        refine ao_cons (acts_of rfl (does_load (v := .sl 2 (List.map enc52 x12.Attrs)) (by conv => lhs; whnf) (by conv => lhs; whnf) ty40 (by exact rfl))) (by decide) ?_
        refine ao_cons (acts_of rfl (does_move (v := .int .i64 v7_2) (by exact rfl))) (by decide) ?_
        obtain ⟨g35, h⟩ := gd_some h
        obtain ⟨x36, hx36, h⟩ := bnd_some h
        refine ao_cons (acts_of rfl (does_indexAddr_sl (el := .agg [.str x36.Key, .str x36.Value]) (by conv => lhs; whnf) (by conv => lhs; whnf) ty40 ty53 g35 (by exact map_get hx36))) (by decide) ?_
        refine ao_cons (acts_of rfl (does_fieldAddr (q := .rptr [.str x36.Key, .str x36.Value]) (by conv => lhs; whnf) ty53 rfl ty9 (by decide) (by exact rfl))) (by decide) ?_
        refine ao_cons (acts_of rfl (does_load (v := .str x36.Key) (by conv => lhs; whnf) (by conv => lhs; whnf) ty9 (by exact rfl))) (by decide) ?_
        refine ao_cons (acts_of rfl (does_fieldAddr (q := .ptr 2 0 2) (by conv => lhs; whnf) ty24 rfl ty9 (by decide) (by exact rfl))) (by decide) ?_
        refine ao_cons (acts_of rfl (does_load (v := .str a0.Key) (by conv => lhs; whnf) (by conv => lhs; whnf) ty9 (by exact rfl))) (by decide) ?_
        refine ao_cons (acts_of rfl (does_bin (v := .bool (ByteArray.toList x36.Key == ByteArray.toList a0.Key)) (by conv => lhs; whnf) (by conv => lhs; whnf) rfl)) (by decide) ?_
        refine ao_cons (acts_of rfl (does_move (v := .bool (ByteArray.toList x36.Key == ByteArray.toList a0.Key)) (by exact rfl))) (by decide) ?_
        refine ao_bool (c := (ByteArray.toList x36.Key == ByteArray.toList a0.Key)) 58 rfl (fun c37 => ?_) (fun c37 => ?_)
        · have h := ifT c37 h
          refine ao_cons (acts_of rfl (does_fieldAddr (q := .ptr 6 0 9) (by conv => lhs; whnf) ty42 rfl ty40 (by decide) (by exact rfl))) (by decide) ?_
          refine ao_cons (acts_of rfl (does_load (v := .sl 2 (List.map enc52 x12.Attrs)) (by conv => lhs; whnf) (by conv => lhs; whnf) ty40 (by exact rfl))) (by decide) ?_
          refine ao_cons (acts_of rfl (does_move (v := .int .i64 v7_2) (by exact rfl))) (by decide) ?_
          obtain ⟨g38, h⟩ := gd_some h
          obtain ⟨x39, hx39, h⟩ := bnd_some h
          refine ao_cons (acts_of rfl (does_indexAddr_sl (el := .agg [.str x39.Key, .str x39.Value]) (by conv => lhs; whnf) (by conv => lhs; whnf) ty40 ty53 g38 (by exact map_get hx39))) (by decide) ?_
          refine ao_cons (acts_of rfl (does_fieldAddr (q := .rptr [.str x39.Value]) (by conv => lhs; whnf) ty53 rfl ty9 (by decide) (by exact rfl))) (by decide) ?_
          refine ao_cons (acts_of rfl (does_load (v := .str x39.Value) (by conv => lhs; whnf) (by conv => lhs; whnf) ty9 (by exact rfl))) (by decide) ?_
          refine ao_cons (acts_of rfl (does_fieldAddr (q := .ptr 2 0 3) (by conv => lhs; whnf) ty24 rfl ty9 (by decide) (by exact rfl))) (by decide) ?_
          refine ao_cons (acts_of rfl (does_load (v := .str a0.Value) (by conv => lhs; whnf) (by conv => lhs; whnf) ty9 (by exact rfl))) (by decide) ?_
          refine ao_cons (acts_of rfl (does_bin (v := .bool (ByteArray.toList x39.Value == ByteArray.toList a0.Value)) (by conv => lhs; whnf) (by conv => lhs; whnf) rfl)) (by decide) ?_
          refine ao_cons (acts_of rfl (does_pick (v := .bool (ByteArray.toList x39.Value == ByteArray.toList a0.Value)) (by conv => lhs; whnf) (by exact rfl))) (by decide) ?_
          refine ao_nil_d (by kernel_rfl) ?_
          refine hK34 _ ?_
          refine aw_bool (b := (ByteArray.toList x39.Value == ByteArray.toList a0.Value)) 68 rfl (fun c40 => ?_) (fun c40 => ?_)
          · have h := ifT c40 h
            refine aw_cond_t (by decide) rfl ?_
            refine aw_seq_k (fun K41 hK41 => ?_)
            refine aw_reg ?_
            refine ao_cons (acts_of rfl (does_assign (v := .bool true) (by exact rfl))) (by decide) ?_
            refine ao_nil_n ?_
            refine hK41 _ ?_
            refine aw_ret ?_
            have h := leafR h hq27
            have h := leafR h hq5
            obtain rfl := Option.some.inj h
            exact ret_ok1 (by conv => lhs; whnf) (by conv => lhs; whnf) (by exact rfl) (.inr rfl) rfl
          · have h := ifF c40 h
            refine aw_cond_f (by decide) rfl ?_
            refine aw_skip ?_
            refine hK33 _ ?_
            refine aw_reg ?_
            refine ao_cons (acts_of rfl (does_move (v := .int .i64 v7_2) (by exact rfl))) (by decide) ?_
            refine ao_cons (acts_of rfl (does_bin (v := .int .i64 (IntKind.i64.wrap (v7_2 + 1))) (by conv => lhs; whnf) (by conv => lhs; whnf) rfl)) (by decide) ?_
            refine ao_cons (acts_of rfl (does_assign (v := .int .i64 (IntKind.i64.wrap (v7_2 + 1))) (by exact rfl))) (by decide) ?_
            refine ao_nil_n ?_
            have h := leafL h hq27
            exact ⟨m2, Nat.lt_succ_self _, _, reb_lit [(1, .sl 10 (List.map enc41 a1)), (2, .ptr 2 0 0), (5, .int .i64 v5_0), (6, .ptr 6 0 0), (7, .int .i64 (IntKind.i64.wrap (v7_2 + 1)))] [(2, 0), (6, 0)] [((2, 0), .box [.int .i64 a0.Kind, .int .i64 a0.N, .str a0.Key, .str a0.Value, .sl 5 (List.map enc23 a0.Kids)]), ((6, 0), .box [.int .u64 x12.Trace.Hi, .int .u64 x12.Trace.Lo, .int .u64 x12.Id, .int .u64 x12.Parent, .str x12.Service, .str x12.Op, .int .i64 x12.Start, .int .i64 x12.Dur, .bool x12.Err, .sl 2 (List.map enc52 x12.Attrs)])] [(2, 1), (6, 1)] (envOk_cons (by conv => lhs; whnf) (by exact rfl) (envOk_cons (by conv => lhs; whnf) (by exact rfl) (envOk_cons (by conv => lhs; whnf) (by exact rfl) (envOk_cons (by conv => lhs; whnf) (by exact rfl) (envOk_cons (by conv => lhs; whnf) (by exact rfl) envOk_nil))))) (objOk_cons (by conv => lhs; whnf) (by conv => lhs; whnf) (by exact rfl) (by simp) (objOk_cons (by conv => lhs; whnf) (by conv => lhs; whnf) (by exact rfl) (by simp) objOk_nil)) (nodup_b rfl) (nodup_b rfl) rfl rfl, (IntKind.i64.wrap (v7_2 + 1)), h, rfl⟩
        · have h := ifF c37 h
          refine ao_cons (acts_skip rfl) (by decide) ?_
          refine ao_cons (acts_skip rfl) (by decide) ?_
          refine ao_cons (acts_skip rfl) (by decide) ?_
          refine ao_cons (acts_skip rfl) (by decide) ?_
          refine ao_cons (acts_skip rfl) (by decide) ?_
          refine ao_cons (acts_skip rfl) (by decide) ?_
          refine ao_cons (acts_skip rfl) (by decide) ?_
          refine ao_cons (acts_skip rfl) (by decide) ?_
          refine ao_cons (acts_skip rfl) (by decide) ?_
          refine ao_cons (acts_of rfl (does_pick (v := .bool false) (by conv => lhs; whnf) (by exact rfl))) (by decide) ?_
          refine ao_nil_d (by kernel_rfl) ?_
          refine hK34 _ ?_
          refine aw_cond_f (by decide) rfl ?_
          refine aw_skip ?_
          refine hK33 _ ?_
          refine aw_reg ?_
          refine ao_cons (acts_of rfl (does_move (v := .int .i64 v7_2) (by exact rfl))) (by decide) ?_
          refine ao_cons (acts_of rfl (does_bin (v := .int .i64 (IntKind.i64.wrap (v7_2 + 1))) (by conv => lhs; whnf) (by conv => lhs; whnf) rfl)) (by decide) ?_
          refine ao_cons (acts_of rfl (does_assign (v := .int .i64 (IntKind.i64.wrap (v7_2 + 1))) (by exact rfl))) (by decide) ?_
          refine ao_nil_n ?_
          have h := leafL h hq27
          exact ⟨m2, Nat.lt_succ_self _, _, reb_lit [(1, .sl 10 (List.map enc41 a1)), (2, .ptr 2 0 0), (5, .int .i64 v5_0), (6, .ptr 6 0 0), (7, .int .i64 (IntKind.i64.wrap (v7_2 + 1)))] [(2, 0), (6, 0)] [((2, 0), .box [.int .i64 a0.Kind, .int .i64 a0.N, .str a0.Key, .str a0.Value, .sl 5 (List.map enc23 a0.Kids)]), ((6, 0), .box [.int .u64 x12.Trace.Hi, .int .u64 x12.Trace.Lo, .int .u64 x12.Id, .int .u64 x12.Parent, .str x12.Service, .str x12.Op, .int .i64 x12.Start, .int .i64 x12.Dur, .bool x12.Err, .sl 2 (List.map enc52 x12.Attrs)])] [(2, 1), (6, 1)] (envOk_cons (by conv => lhs; whnf) (by exact rfl) (envOk_cons (by conv => lhs; whnf) (by exact rfl) (envOk_cons (by conv => lhs; whnf) (by exact rfl) (envOk_cons (by conv => lhs; whnf) (by exact rfl) (envOk_cons (by conv => lhs; whnf) (by exact rfl) envOk_nil))))) (objOk_cons (by conv => lhs; whnf) (by conv => lhs; whnf) (by exact rfl) (by simp) (objOk_cons (by conv => lhs; whnf) (by conv => lhs; whnf) (by exact rfl) (by simp) objOk_nil)) (nodup_b rfl) (nodup_b rfl) rfl rfl, (IntKind.i64.wrap (v7_2 + 1)), h, rfl⟩
  · have h := ifF c8 h
    refine aw_cond_f (by decide) rfl ?_
    refine aw_exit ?_
    have h := leafR h hq5
    refine hK2 _ ?_
    refine aw_seq_k (fun K42 hK42 => ?_)
    refine aw_reg ?_
    refine ao_cons (acts_of rfl (does_assign (v := .bool false) (by exact rfl))) (by decide) ?_
    refine ao_nil_n ?_
    refine hK42 _ ?_
    refine aw_ret ?_
    obtain rfl := Option.some.inj h
    exact ret_ok1 (by conv => lhs; whnf) (by conv => lhs; whnf) (by exact rfl) (.inr rfl) rfl
def gleaningref1_keep_b_l0 (K : Rule → Episode → Int → Option Bool) (a0 : Rule) (a1 : Episode) (a2 : Int) (v7_0 : Int) : Option (Int ⊕ Bool) :=
  if (decide (v7_0 < (List.length a0.Kids : Int))) = true then (gd (0 ≤ v7_0) (Option.bind (a0.Kids[(Int.toNat v7_0)]?) (fun (x16 : Rule) => Option.bind (K x16 a1 a2) (fun (x17 : Bool) => if (!x17) = true then (some (Sum.inr false)) else (some (Sum.inl (IntKind.i64.wrap (v7_0 + 1)))))))) else (some (Sum.inr true))
def gleaningref1_keep_b_l1 (K : Rule → Episode → Int → Option Bool) (a0 : Rule) (a1 : Episode) (a2 : Int) (v8_1 : Int) : Option (Int ⊕ Bool) :=
  if (decide (v8_1 < (List.length a0.Kids : Int))) = true then (gd (0 ≤ v8_1) (Option.bind (a0.Kids[(Int.toNat v8_1)]?) (fun (x33 : Rule) => Option.bind (K x33 a1 a2) (fun (x34 : Bool) => if x34 = true then (some (Sum.inr true)) else (some (Sum.inl (IntKind.i64.wrap (v8_1 + 1)))))))) else (some (Sum.inr false))
def gleaningref1_keep_b (K : Rule → Episode → Int → Option Bool) (a0 : Rule) (a1 : Episode) (a2 : Int) : Option Bool :=
  if (a0.Kind == 1) = true then (loopN (fun (s : Int) => gleaningref1_keep_b_l0 K a0 a1 a2 s) Fu 0) else (if (a0.Kind == 2) = true then (loopN (fun (s : Int) => gleaningref1_keep_b_l1 K a0 a1 a2 s) Fu 0) else (if (a0.Kind == 3) = true then (Option.bind (a0.Kids[0]?) (fun (x41 : Rule) => Option.bind (K x41 a1 a2) (fun (x42 : Bool) => some (!x42)))) else (if (a0.Kind == 7) = true then (some (decide (a0.N ≤ (List.length a1.Spans : Int)))) else (if (a0.Kind == 8) = true then (Option.bind (gleaningref1_Hash a1.Trace) (fun (x49 : Int) => some (decide (x49 < a0.N)))) else (if (a0.Kind == 9) = true then (some (decide (a2 < a0.N))) else (Option.bind (gleaningref1_some a0 a1.Spans) (fun (x54 : Bool) => some x54)))))))
set_option maxRecDepth 100000 in
set_option maxHeartbeats 8000000 in
/-- gleaning/gleaningref1.keep -/
theorem gleaningref1_keep_b_ok (K : Rule → Episode → Int → Option Bool) (hK : ∀ (a0 : Rule) (a1 : Episode) (a2 : Int) {r : Bool}, K a0 a1 a2 = some r → Ok Try.prog 59 [.agg [.int .i64 a0.Kind, .int .i64 a0.N, .str a0.Key, .str a0.Value, .sl 5 (List.map enc23 a0.Kids)], .agg [.int .u64 a1.Trace.Hi, .int .u64 a1.Trace.Lo, .int .i64 a1.First, .int .i64 a1.Last, .bool a1.Sure, .sl 10 (List.map enc41 a1.Spans)], .int .i64 a2] [] [] (.bool r) [] []) (a0 : Rule) (a1 : Episode) (a2 : Int) {r : Bool} (h : gleaningref1_keep_b K a0 a1 a2 = some r) : Ok Try.prog 59 [.agg [.int .i64 a0.Kind, .int .i64 a0.N, .str a0.Key, .str a0.Value, .sl 5 (List.map enc23 a0.Kids)], .agg [.int .u64 a1.Trace.Hi, .int .u64 a1.Trace.Lo, .int .i64 a1.First, .int .i64 a1.Last, .bool a1.Sure, .sl 10 (List.map enc41 a1.Spans)], .int .i64 a2] [] [] (.bool r) [] [] := by
  unfold gleaningref1_keep_b at h
  refine ok_of_code Try.func59 rfl (by show (3 : Nat) ≤ _; decide) (Nat.le_refl _) fun X => ?_
  refine aw_seq_k (fun K1 hK1 => ?_)
  refine aw_reg ?_
  refine ao_cons (acts_of rfl (do_box (by conv => lhs; whnf) rfl rfl)) (by decide) ?_
  refine ao_cons (acts_of rfl (do_box (by conv => lhs; whnf) rfl rfl)) (by decide) ?_
  refine ao_cons (acts_of rfl (does_assign (v := .bool false) (by exact rfl))) (by decide) ?_
  refine ao_nil_n ?_
  refine hK1 _ ?_
  refine aw_seq_k (fun K2 hK2 => ?_)
  refine aw_seq_k (fun K3 hK3 => ?_)
  refine aw_reg ?_
  refine ao_cons (acts_of rfl (does_fieldAddr (q := .ptr 3 0 0) (by conv => lhs; whnf) ty24 rfl ty3 (by decide) (by exact rfl))) (by decide) ?_
  refine ao_cons (acts_of rfl (does_load (v := .int .i64 a0.Kind) (by conv => lhs; whnf) (by conv => lhs; whnf) ty3 (by exact rfl))) (by decide) ?_
  refine ao_nil_n ?_
  refine hK3 _ ?_
  refine aw_block ?_
  refine aw_seq_k (fun K4 hK4 => ?_)
  refine aw_reg ?_
  refine ao_cons (acts_of rfl (does_bin (v := .bool (a0.Kind == 1)) (by conv => lhs; whnf) (by conv => lhs; whnf) rfl)) (by decide) ?_
  refine ao_cons (acts_of rfl (does_assign (v := .bool (a0.Kind == 1)) (by exact rfl))) (by decide) ?_
  refine ao_nil_n ?_
  refine hK4 _ ?_
  refine aw_bool (b := (a0.Kind == 1)) 11 rfl (fun c5 => ?_) (fun c5 => ?_)
  · have h := ifT c5 h
    refine aw_cond_t (by decide) rfl ?_
    refine aw_seq_k (fun K6 hK6 => ?_)
    refine aw_seq_k (fun K7 hK7 => ?_)
    refine aw_reg ?_
    refine ao_cons (acts_of rfl (does_assign (v := .int .i64 0) (by exact rfl))) (by decide) ?_
    refine ao_nil_n ?_
    refine hK7 _ ?_
    refine aw_block ?_
    refine aw_loop' (fun m s => ∃ (v7_0 : Int), loopN (fun (s : Int) => gleaningref1_keep_b_l0 K a0 a1 a2 s) m v7_0 = some r ∧ s = lit [(2, .int .i64 a2), (3, .ptr 3 0 0), (4, .ptr 4 0 0), (7, .int .i64 v7_0)] [((3, 0), .box [.int .i64 a0.Kind, .int .i64 a0.N, .str a0.Key, .str a0.Value, .sl 5 (List.map enc23 a0.Kids)]), ((4, 0), .box [.int .u64 a1.Trace.Hi, .int .u64 a1.Trace.Lo, .int .i64 a1.First, .int .i64 a1.Last, .bool a1.Sure, .sl 10 (List.map enc41 a1.Spans)])] [(3, 1), (4, 1)] X) Fu
      ⟨_, reb_lit [(2, .int .i64 a2), (3, .ptr 3 0 0), (4, .ptr 4 0 0), (7, .int .i64 (0))] [(3, 0), (4, 0)] [((3, 0), .box [.int .i64 a0.Kind, .int .i64 a0.N, .str a0.Key, .str a0.Value, .sl 5 (List.map enc23 a0.Kids)]), ((4, 0), .box [.int .u64 a1.Trace.Hi, .int .u64 a1.Trace.Lo, .int .i64 a1.First, .int .i64 a1.Last, .bool a1.Sure, .sl 10 (List.map enc41 a1.Spans)])] [(3, 1), (4, 1)] (envOk_cons (by conv => lhs; whnf) (by exact rfl) (envOk_cons (by conv => lhs; whnf) (by exact rfl) (envOk_cons (by conv => lhs; whnf) (by exact rfl) (envOk_cons (by conv => lhs; whnf) (by exact rfl) envOk_nil)))) (objOk_cons (by conv => lhs; whnf) (by conv => lhs; whnf) (by exact rfl) (by simp) (objOk_cons (by conv => lhs; whnf) (by conv => lhs; whnf) (by exact rfl) (by simp) objOk_nil)) (nodup_b rfl) (nodup_b rfl) rfl rfl, 0, h, rfl⟩ ?_
    rintro m s ⟨v7_0, h, rfl⟩
    obtain ⟨m0, q8, rfl, h, hq9⟩ := loop_some h
    replace h : gleaningref1_keep_b_l0 K a0 a1 a2 v7_0 = some q8 := h
    unfold gleaningref1_keep_b_l0 at h
    refine aw_seq_k (fun K10 hK10 => ?_)
    refine aw_seq_k (fun K11 hK11 => ?_)
    refine aw_reg ?_
    refine ao_cons (acts_of rfl (does_move (v := .int .i64 v7_0) (by exact rfl))) (by decide) ?_
    refine ao_cons (acts_of rfl (does_fieldAddr (q := .ptr 3 0 4) (by conv => lhs; whnf) ty24 rfl ty22 (by decide) (by exact rfl))) (by decide) ?_
    refine ao_cons (acts_of rfl (does_load (v := .sl 5 (List.map enc23 a0.Kids)) (by conv => lhs; whnf) (by conv => lhs; whnf) ty22 (by exact rfl))) (by decide) ?_
    refine ao_cons (acts_of rfl ((does_len_sl (by conv => lhs; whnf) ty22).castp (v' := .int .i64 (List.length a0.Kids : Int)) (by exact len_map _))) (by decide) ?_
    refine ao_cons (acts_of rfl (does_bin (v := .bool (decide (v7_0 < (List.length a0.Kids : Int)))) (by conv => lhs; whnf) (by conv => lhs; whnf) rfl)) (by decide) ?_
    refine ao_nil_n ?_
    refine hK11 _ ?_
    refine aw_bool (b := (decide (v7_0 < (List.length a0.Kids : Int)))) 17 rfl (fun c12 => ?_) (fun c12 => ?_)
    · have h := ifT c12 h
      refine aw_cond_t (by decide) rfl ?_
      refine aw_skip ?_
      refine hK10 _ ?_
      refine aw_seq_k (fun K13 hK13 => ?_)
      refine aw_block ?_
      refine aw_seq_k (fun K14 hK14 => ?_)
      refine aw_regd (by kernel_rfl) (by decide +kernel) ?_
      refine ao_cons (acts_of rfl (does_fieldAddr (q := .ptr 3 0 4) (by conv => lhs; whnf) ty24 rfl ty22 (by decide) (by exact rfl))) (by decide) ?_
      refine ao_cons (acts_of rfl (does_load (v := .sl 5 (List.map enc23 a0.Kids)) (by conv => lhs; whnf) (by conv => lhs; whnf) ty22 (by exact rfl))) (by decide) ?_
      refine ao_cons (acts_of rfl (does_move (v := .int .i64 v7_0) (by exact rfl))) (by decide) ?_
      obtain ⟨g15, h⟩ := gd_some h
      obtain ⟨x16, hx16, h⟩ := bnd_some h
      refine ao_cons (acts_of rfl (does_indexAddr_sl (el := .agg [.int .i64 x16.Kind, .int .i64 x16.N, .str x16.Key, .str x16.Value, .sl 5 (List.map enc23 x16.Kids)]) (by conv => lhs; whnf) (by conv => lhs; whnf) ty22 ty24 g15 (by exact map_getE (enc23_eq _) hx16))) (by decide) ?_
      refine ao_cons (acts_of rfl (does_load (v := .agg [.int .i64 x16.Kind, .int .i64 x16.N, .str x16.Key, .str x16.Value, .sl 5 (List.map enc23 x16.Kids)]) (by conv => lhs; whnf) (by conv => lhs; whnf) ty24 (by exact rfl))) (by decide) ?_
      refine ao_cons (acts_of rfl (does_load (v := .agg [.int .u64 a1.Trace.Hi, .int .u64 a1.Trace.Lo, .int .i64 a1.First, .int .i64 a1.Last, .bool a1.Sure, .sl 10 (List.map enc41 a1.Spans)]) (by conv => lhs; whnf) (by conv => lhs; whnf) ty30 (by exact rfl))) (by decide) ?_
      refine ao_cons (acts_of rfl (does_move (v := .int .i64 a2) (by exact rfl))) (by decide) ?_
      obtain ⟨x17, hx17, h⟩ := bnd_some h
      refine ao_cons (acts_of rfl (do_call0 27 false (hK x16 a1 a2 hx17) rfl ent59 rfl rfl)) (by decide) ?_
      refine ao_cons (acts_of rfl (does_un (v := .bool (!x17)) (by conv => lhs; whnf) rfl)) (by decide) ?_
      refine ao_nil_d (by kernel_rfl) ?_
      refine hK14 _ ?_
      refine aw_bool (b := (!x17)) 28 rfl (fun c18 => ?_) (fun c18 => ?_)
      · have h := ifT c18 h
        refine aw_cond_t (by decide) rfl ?_
        refine aw_seq_k (fun K19 hK19 => ?_)
        refine aw_reg ?_
        refine ao_cons (acts_of rfl (does_assign (v := .bool false) (by exact rfl))) (by decide) ?_
        refine ao_nil_n ?_
        refine hK19 _ ?_
        refine aw_ret ?_
        have h := leafR h hq9
        obtain rfl := Option.some.inj h
        exact ret_ok1 (by conv => lhs; whnf) (by conv => lhs; whnf) (by exact rfl) (.inr rfl) rfl
      · have h := ifF c18 h
        refine aw_cond_f (by decide) rfl ?_
        refine aw_skip ?_
        refine hK13 _ ?_
        refine aw_reg ?_
        refine ao_cons (acts_of rfl (does_move (v := .int .i64 v7_0) (by exact rfl))) (by decide) ?_
        refine ao_cons (acts_of rfl (does_bin (v := .int .i64 (IntKind.i64.wrap (v7_0 + 1))) (by conv => lhs; whnf) (by conv => lhs; whnf) rfl)) (by decide) ?_
        refine ao_cons (acts_of rfl (does_assign (v := .int .i64 (IntKind.i64.wrap (v7_0 + 1))) (by exact rfl))) (by decide) ?_
        refine ao_nil_n ?_
        have h := leafL h hq9
        exact ⟨m0, Nat.lt_succ_self _, _, reb_lit [(2, .int .i64 a2), (3, .ptr 3 0 0), (4, .ptr 4 0 0), (7, .int .i64 (IntKind.i64.wrap (v7_0 + 1)))] [(3, 0), (4, 0)] [((3, 0), .box [.int .i64 a0.Kind, .int .i64 a0.N, .str a0.Key, .str a0.Value, .sl 5 (List.map enc23 a0.Kids)]), ((4, 0), .box [.int .u64 a1.Trace.Hi, .int .u64 a1.Trace.Lo, .int .i64 a1.First, .int .i64 a1.Last, .bool a1.Sure, .sl 10 (List.map enc41 a1.Spans)])] [(3, 1), (4, 1)] (envOk_cons (by conv => lhs; whnf) (by exact rfl) (envOk_cons (by conv => lhs; whnf) (by exact rfl) (envOk_cons (by conv => lhs; whnf) (by exact rfl) (envOk_cons (by conv => lhs; whnf) (by exact rfl) envOk_nil)))) (objOk_cons (by conv => lhs; whnf) (by conv => lhs; whnf) (by exact rfl) (by simp) (objOk_cons (by conv => lhs; whnf) (by conv => lhs; whnf) (by exact rfl) (by simp) objOk_nil)) (nodup_b rfl) (nodup_b rfl) rfl rfl, (IntKind.i64.wrap (v7_0 + 1)), h, rfl⟩
    · have h := ifF c12 h
      refine aw_cond_f (by decide) rfl ?_
      refine aw_exit ?_
      have h := leafR h hq9
      refine hK6 _ ?_
      refine aw_seq_k (fun K20 hK20 => ?_)
      refine aw_reg ?_
      refine ao_cons (acts_of rfl (does_assign (v := .bool true) (by exact rfl))) (by decide) ?_
      refine ao_nil_n ?_
      refine hK20 _ ?_
      refine aw_ret ?_
      obtain rfl := Option.some.inj h
      exact ret_ok1 (by conv => lhs; whnf) (by conv => lhs; whnf) (by exact rfl) (.inr rfl) rfl
  · have h := ifF c5 h
    refine aw_cond_f (by decide) rfl ?_
    refine aw_seq_k (fun K21 hK21 => ?_)
    refine aw_reg ?_
    refine ao_cons (acts_of rfl (does_bin (v := .bool (a0.Kind == 2)) (by conv => lhs; whnf) (by conv => lhs; whnf) rfl)) (by decide) ?_
    refine ao_cons (acts_of rfl (does_assign (v := .bool (a0.Kind == 2)) (by exact rfl))) (by decide) ?_
    refine ao_nil_n ?_
    refine hK21 _ ?_
    refine aw_bool (b := (a0.Kind == 2)) 29 rfl (fun c22 => ?_) (fun c22 => ?_)
    · have h := ifT c22 h
      refine aw_cond_t (by decide) rfl ?_
      refine aw_seq_k (fun K23 hK23 => ?_)
      refine aw_seq_k (fun K24 hK24 => ?_)
      refine aw_reg ?_
      refine ao_cons (acts_of rfl (does_assign (v := .int .i64 0) (by exact rfl))) (by decide) ?_
      refine ao_nil_n ?_
      refine hK24 _ ?_
      refine aw_block ?_
      refine aw_loop' (fun m s => ∃ (v8_1 : Int), loopN (fun (s : Int) => gleaningref1_keep_b_l1 K a0 a1 a2 s) m v8_1 = some r ∧ s = lit [(2, .int .i64 a2), (3, .ptr 3 0 0), (4, .ptr 4 0 0), (8, .int .i64 v8_1)] [((3, 0), .box [.int .i64 a0.Kind, .int .i64 a0.N, .str a0.Key, .str a0.Value, .sl 5 (List.map enc23 a0.Kids)]), ((4, 0), .box [.int .u64 a1.Trace.Hi, .int .u64 a1.Trace.Lo, .int .i64 a1.First, .int .i64 a1.Last, .bool a1.Sure, .sl 10 (List.map enc41 a1.Spans)])] [(3, 1), (4, 1)] X) Fu
        ⟨_, reb_lit [(2, .int .i64 a2), (3, .ptr 3 0 0), (4, .ptr 4 0 0), (8, .int .i64 (0))] [(3, 0), (4, 0)] [((3, 0), .box [.int .i64 a0.Kind, .int .i64 a0.N, .str a0.Key, .str a0.Value, .sl 5 (List.map enc23 a0.Kids)]), ((4, 0), .box [.int .u64 a1.Trace.Hi, .int .u64 a1.Trace.Lo, .int .i64 a1.First, .int .i64 a1.Last, .bool a1.Sure, .sl 10 (List.map enc41 a1.Spans)])] [(3, 1), (4, 1)] (envOk_cons (by conv => lhs; whnf) (by exact rfl) (envOk_cons (by conv => lhs; whnf) (by exact rfl) (envOk_cons (by conv => lhs; whnf) (by exact rfl) (envOk_cons (by conv => lhs; whnf) (by exact rfl) envOk_nil)))) (objOk_cons (by conv => lhs; whnf) (by conv => lhs; whnf) (by exact rfl) (by simp) (objOk_cons (by conv => lhs; whnf) (by conv => lhs; whnf) (by exact rfl) (by simp) objOk_nil)) (nodup_b rfl) (nodup_b rfl) rfl rfl, 0, h, rfl⟩ ?_
      rintro m s ⟨v8_1, h, rfl⟩
      obtain ⟨m1, q25, rfl, h, hq26⟩ := loop_some h
      replace h : gleaningref1_keep_b_l1 K a0 a1 a2 v8_1 = some q25 := h
      unfold gleaningref1_keep_b_l1 at h
      refine aw_seq_k (fun K27 hK27 => ?_)
      refine aw_seq_k (fun K28 hK28 => ?_)
      refine aw_reg ?_
      refine ao_cons (acts_of rfl (does_move (v := .int .i64 v8_1) (by exact rfl))) (by decide) ?_
      refine ao_cons (acts_of rfl (does_fieldAddr (q := .ptr 3 0 4) (by conv => lhs; whnf) ty24 rfl ty22 (by decide) (by exact rfl))) (by decide) ?_
      refine ao_cons (acts_of rfl (does_load (v := .sl 5 (List.map enc23 a0.Kids)) (by conv => lhs; whnf) (by conv => lhs; whnf) ty22 (by exact rfl))) (by decide) ?_
      refine ao_cons (acts_of rfl ((does_len_sl (by conv => lhs; whnf) ty22).castp (v' := .int .i64 (List.length a0.Kids : Int)) (by exact len_map _))) (by decide) ?_
      refine ao_cons (acts_of rfl (does_bin (v := .bool (decide (v8_1 < (List.length a0.Kids : Int)))) (by conv => lhs; whnf) (by conv => lhs; whnf) rfl)) (by decide) ?_
      refine ao_nil_n ?_
      refine hK28 _ ?_
      refine aw_bool (b := (decide (v8_1 < (List.length a0.Kids : Int)))) 35 rfl (fun c29 => ?_) (fun c29 => ?_)
      · have h := ifT c29 h
        refine aw_cond_t (by decide) rfl ?_
        refine aw_skip ?_
        refine hK27 _ ?_
        refine aw_seq_k (fun K30 hK30 => ?_)
        refine aw_block ?_
        refine aw_seq_k (fun K31 hK31 => ?_)
        refine aw_regd (by kernel_rfl) (by decide +kernel) ?_
        refine ao_cons (acts_of rfl (does_fieldAddr (q := .ptr 3 0 4) (by conv => lhs; whnf) ty24 rfl ty22 (by decide) (by exact rfl))) (by decide) ?_
        refine ao_cons (acts_of rfl (does_load (v := .sl 5 (List.map enc23 a0.Kids)) (by conv => lhs; whnf) (by conv => lhs; whnf) ty22 (by exact rfl))) (by decide) ?_
        refine ao_cons (acts_of rfl (does_move (v := .int .i64 v8_1) (by exact rfl))) (by decide) ?_
        obtain ⟨g32, h⟩ := gd_some h
        obtain ⟨x33, hx33, h⟩ := bnd_some h
        refine ao_cons (acts_of rfl (does_indexAddr_sl (el := .agg [.int .i64 x33.Kind, .int .i64 x33.N, .str x33.Key, .str x33.Value, .sl 5 (List.map enc23 x33.Kids)]) (by conv => lhs; whnf) (by conv => lhs; whnf) ty22 ty24 g32 (by exact map_getE (enc23_eq _) hx33))) (by decide) ?_
        refine ao_cons (acts_of rfl (does_load (v := .agg [.int .i64 x33.Kind, .int .i64 x33.N, .str x33.Key, .str x33.Value, .sl 5 (List.map enc23 x33.Kids)]) (by conv => lhs; whnf) (by conv => lhs; whnf) ty24 (by exact rfl))) (by decide) ?_
        refine ao_cons (acts_of rfl (does_load (v := .agg [.int .u64 a1.Trace.Hi, .int .u64 a1.Trace.Lo, .int .i64 a1.First, .int .i64 a1.Last, .bool a1.Sure, .sl 10 (List.map enc41 a1.Spans)]) (by conv => lhs; whnf) (by conv => lhs; whnf) ty30 (by exact rfl))) (by decide) ?_
        refine ao_cons (acts_of rfl (does_move (v := .int .i64 a2) (by exact rfl))) (by decide) ?_
        obtain ⟨x34, hx34, h⟩ := bnd_some h
        refine ao_cons (acts_of rfl (do_call0 45 false (hK x33 a1 a2 hx34) rfl ent59 rfl rfl)) (by decide) ?_
        refine ao_nil_d (by kernel_rfl) ?_
        refine hK31 _ ?_
        refine aw_bool (b := x34) 45 rfl (fun c35 => ?_) (fun c35 => ?_)
        · have h := ifT c35 h
          refine aw_cond_t (by decide) rfl ?_
          refine aw_seq_k (fun K36 hK36 => ?_)
          refine aw_reg ?_
          refine ao_cons (acts_of rfl (does_assign (v := .bool true) (by exact rfl))) (by decide) ?_
          refine ao_nil_n ?_
          refine hK36 _ ?_
          refine aw_ret ?_
          have h := leafR h hq26
          obtain rfl := Option.some.inj h
          exact ret_ok1 (by conv => lhs; whnf) (by conv => lhs; whnf) (by exact rfl) (.inr rfl) rfl
        · have h := ifF c35 h
          refine aw_cond_f (by decide) rfl ?_
          refine aw_skip ?_
          refine hK30 _ ?_
          refine aw_reg ?_
          refine ao_cons (acts_of rfl (does_move (v := .int .i64 v8_1) (by exact rfl))) (by decide) ?_
          refine ao_cons (acts_of rfl (does_bin (v := .int .i64 (IntKind.i64.wrap (v8_1 + 1))) (by conv => lhs; whnf) (by conv => lhs; whnf) rfl)) (by decide) ?_
          refine ao_cons (acts_of rfl (does_assign (v := .int .i64 (IntKind.i64.wrap (v8_1 + 1))) (by exact rfl))) (by decide) ?_
          refine ao_nil_n ?_
          have h := leafL h hq26
          exact ⟨m1, Nat.lt_succ_self _, _, reb_lit [(2, .int .i64 a2), (3, .ptr 3 0 0), (4, .ptr 4 0 0), (8, .int .i64 (IntKind.i64.wrap (v8_1 + 1)))] [(3, 0), (4, 0)] [((3, 0), .box [.int .i64 a0.Kind, .int .i64 a0.N, .str a0.Key, .str a0.Value, .sl 5 (List.map enc23 a0.Kids)]), ((4, 0), .box [.int .u64 a1.Trace.Hi, .int .u64 a1.Trace.Lo, .int .i64 a1.First, .int .i64 a1.Last, .bool a1.Sure, .sl 10 (List.map enc41 a1.Spans)])] [(3, 1), (4, 1)] (envOk_cons (by conv => lhs; whnf) (by exact rfl) (envOk_cons (by conv => lhs; whnf) (by exact rfl) (envOk_cons (by conv => lhs; whnf) (by exact rfl) (envOk_cons (by conv => lhs; whnf) (by exact rfl) envOk_nil)))) (objOk_cons (by conv => lhs; whnf) (by conv => lhs; whnf) (by exact rfl) (by simp) (objOk_cons (by conv => lhs; whnf) (by conv => lhs; whnf) (by exact rfl) (by simp) objOk_nil)) (nodup_b rfl) (nodup_b rfl) rfl rfl, (IntKind.i64.wrap (v8_1 + 1)), h, rfl⟩
      · have h := ifF c29 h
        refine aw_cond_f (by decide) rfl ?_
        refine aw_exit ?_
        have h := leafR h hq26
        refine hK23 _ ?_
        refine aw_seq_k (fun K37 hK37 => ?_)
        refine aw_reg ?_
        refine ao_cons (acts_of rfl (does_assign (v := .bool false) (by exact rfl))) (by decide) ?_
        refine ao_nil_n ?_
        refine hK37 _ ?_
        refine aw_ret ?_
        obtain rfl := Option.some.inj h
        exact ret_ok1 (by conv => lhs; whnf) (by conv => lhs; whnf) (by exact rfl) (.inr rfl) rfl
    · have h := ifF c22 h
      refine aw_cond_f (by decide) rfl ?_
      refine aw_seq_k (fun K38 hK38 => ?_)
      refine aw_reg ?_
      refine ao_cons (acts_of rfl (does_bin (v := .bool (a0.Kind == 3)) (by conv => lhs; whnf) (by conv => lhs; whnf) rfl)) (by decide) ?_
      refine ao_cons (acts_of rfl (does_assign (v := .bool (a0.Kind == 3)) (by exact rfl))) (by decide) ?_
      refine ao_nil_n ?_
      refine hK38 _ ?_
      refine aw_bool (b := (a0.Kind == 3)) 46 rfl (fun c39 => ?_) (fun c39 => ?_)
      · have h := ifT c39 h
        refine aw_cond_t (by decide) rfl ?_
        refine aw_seq_k (fun K40 hK40 => ?_)
        refine aw_regd (by kernel_rfl) (by decide +kernel) ?_
        refine ao_cons (acts_of rfl (does_fieldAddr (q := .ptr 3 0 4) (by conv => lhs; whnf) ty24 rfl ty22 (by decide) (by exact rfl))) (by decide) ?_
        refine ao_cons (acts_of rfl (does_load (v := .sl 5 (List.map enc23 a0.Kids)) (by conv => lhs; whnf) (by conv => lhs; whnf) ty22 (by exact rfl))) (by decide) ?_
        obtain ⟨x41, hx41, h⟩ := bnd_some h
        refine ao_cons (acts_of rfl (does_indexAddr_sl (el := .agg [.int .i64 x41.Kind, .int .i64 x41.N, .str x41.Key, .str x41.Value, .sl 5 (List.map enc23 x41.Kids)]) (by conv => lhs; whnf) (by conv => lhs; whnf) ty22 ty24 (by decide) (by exact map_getE (enc23_eq _) hx41))) (by decide) ?_
        refine ao_cons (acts_of rfl (does_load (v := .agg [.int .i64 x41.Kind, .int .i64 x41.N, .str x41.Key, .str x41.Value, .sl 5 (List.map enc23 x41.Kids)]) (by conv => lhs; whnf) (by conv => lhs; whnf) ty24 (by exact rfl))) (by decide) ?_
        refine ao_cons (acts_of rfl (does_load (v := .agg [.int .u64 a1.Trace.Hi, .int .u64 a1.Trace.Lo, .int .i64 a1.First, .int .i64 a1.Last, .bool a1.Sure, .sl 10 (List.map enc41 a1.Spans)]) (by conv => lhs; whnf) (by conv => lhs; whnf) ty30 (by exact rfl))) (by decide) ?_
        refine ao_cons (acts_of rfl (does_move (v := .int .i64 a2) (by exact rfl))) (by decide) ?_
        obtain ⟨x42, hx42, h⟩ := bnd_some h
        refine ao_cons (acts_of rfl (do_call0 54 false (hK x41 a1 a2 hx42) rfl ent59 rfl rfl)) (by decide) ?_
        refine ao_cons (acts_of rfl (does_un (v := .bool (!x42)) (by conv => lhs; whnf) rfl)) (by decide) ?_
        refine ao_cons (acts_of rfl (does_assign (v := .bool (!x42)) (by exact rfl))) (by decide) ?_
        refine ao_nil_d (by kernel_rfl) ?_
        refine hK40 _ ?_
        refine aw_ret ?_
        obtain rfl := Option.some.inj h
        exact ret_ok1 (by conv => lhs; whnf) (by conv => lhs; whnf) (by exact rfl) (.inr rfl) rfl
      · have h := ifF c39 h
        refine aw_cond_f (by decide) rfl ?_
        refine aw_seq_k (fun K43 hK43 => ?_)
        refine aw_reg ?_
        refine ao_cons (acts_of rfl (does_bin (v := .bool (a0.Kind == 7)) (by conv => lhs; whnf) (by conv => lhs; whnf) rfl)) (by decide) ?_
        refine ao_cons (acts_of rfl (does_assign (v := .bool (a0.Kind == 7)) (by exact rfl))) (by decide) ?_
        refine ao_nil_n ?_
        refine hK43 _ ?_
        refine aw_bool (b := (a0.Kind == 7)) 56 rfl (fun c44 => ?_) (fun c44 => ?_)
        · have h := ifT c44 h
          refine aw_cond_t (by decide) rfl ?_
          refine aw_seq_k (fun K45 hK45 => ?_)
          refine aw_reg ?_
          refine ao_cons (acts_of rfl (does_fieldAddr (q := .ptr 4 0 5) (by conv => lhs; whnf) ty30 rfl ty28 (by decide) (by exact rfl))) (by decide) ?_
          refine ao_cons (acts_of rfl (does_load (v := .sl 10 (List.map enc41 a1.Spans)) (by conv => lhs; whnf) (by conv => lhs; whnf) ty28 (by exact rfl))) (by decide) ?_
          refine ao_cons (acts_of rfl ((does_len_sl (by conv => lhs; whnf) ty28).castp (v' := .int .i64 (List.length a1.Spans : Int)) (by exact len_map _))) (by decide) ?_
          refine ao_cons (acts_of rfl (does_fieldAddr (q := .ptr 3 0 1) (by conv => lhs; whnf) ty24 rfl ty3 (by decide) (by exact rfl))) (by decide) ?_
          refine ao_cons (acts_of rfl (does_load (v := .int .i64 a0.N) (by conv => lhs; whnf) (by conv => lhs; whnf) ty3 (by exact rfl))) (by decide) ?_
          refine ao_cons (acts_of rfl (does_bin (v := .bool (decide (a0.N ≤ (List.length a1.Spans : Int)))) (by conv => lhs; whnf) (by conv => lhs; whnf) rfl)) (by decide) ?_
          refine ao_cons (acts_of rfl (does_assign (v := .bool (decide (a0.N ≤ (List.length a1.Spans : Int)))) (by exact rfl))) (by decide) ?_
          refine ao_nil_n ?_
          refine hK45 _ ?_
          refine aw_ret ?_
          obtain rfl := Option.some.inj h
          exact ret_ok1 (by conv => lhs; whnf) (by conv => lhs; whnf) (by exact rfl) (.inr rfl) rfl
        · have h := ifF c44 h
          refine aw_cond_f (by decide) rfl ?_
          refine aw_seq_k (fun K46 hK46 => ?_)
          refine aw_reg ?_
          refine ao_cons (acts_of rfl (does_bin (v := .bool (a0.Kind == 8)) (by conv => lhs; whnf) (by conv => lhs; whnf) rfl)) (by decide) ?_
          refine ao_cons (acts_of rfl (does_assign (v := .bool (a0.Kind == 8)) (by exact rfl))) (by decide) ?_
          refine ao_nil_n ?_
          refine hK46 _ ?_
          refine aw_bool (b := (a0.Kind == 8)) 64 rfl (fun c47 => ?_) (fun c47 => ?_)
          · have h := ifT c47 h
            refine aw_cond_t (by decide) rfl ?_
            refine aw_seq_k (fun K48 hK48 => ?_)
            refine aw_regd (by kernel_rfl) (by decide +kernel) ?_
            refine ao_cons (acts_of rfl (does_fieldAddr (q := .ptr 4 0 0) (by conv => lhs; whnf) ty30 rfl ty27 (by decide) (by exact rfl))) (by decide) ?_
            refine ao_cons (acts_of rfl (does_load (v := .agg [.int .u64 a1.Trace.Hi, .int .u64 a1.Trace.Lo]) (by conv => lhs; whnf) (by conv => lhs; whnf) ty27 (by exact rfl))) (by decide) ?_
            obtain ⟨x49, hx49, h⟩ := bnd_some h
            refine ao_cons (acts_of rfl (do_call0 68 false (gleaningref1_Hash_ok a1.Trace hx49) rfl ent22 rfl rfl)) (by decide) ?_
            refine ao_cons (acts_of rfl (does_fieldAddr (q := .ptr 3 0 1) (by conv => lhs; whnf) ty24 rfl ty3 (by decide) (by exact rfl))) (by decide) ?_
            refine ao_cons (acts_of rfl (does_load (v := .int .i64 a0.N) (by conv => lhs; whnf) (by conv => lhs; whnf) ty3 (by exact rfl))) (by decide) ?_
            refine ao_cons (acts_of rfl (does_bin (v := .bool (decide (x49 < a0.N))) (by conv => lhs; whnf) (by conv => lhs; whnf) rfl)) (by decide) ?_
            refine ao_cons (acts_of rfl (does_assign (v := .bool (decide (x49 < a0.N))) (by exact rfl))) (by decide) ?_
            refine ao_nil_d (by kernel_rfl) ?_
            refine hK48 _ ?_
            refine aw_ret ?_
            obtain rfl := Option.some.inj h
            exact ret_ok1 (by conv => lhs; whnf) (by conv => lhs; whnf) (by exact rfl) (.inr rfl) rfl
          · have h := ifF c47 h
            refine aw_cond_f (by decide) rfl ?_
            refine aw_seq_k (fun K50 hK50 => ?_)
            refine aw_reg ?_
            refine ao_cons (acts_of rfl (does_bin (v := .bool (a0.Kind == 9)) (by conv => lhs; whnf) (by conv => lhs; whnf) rfl)) (by decide) ?_
            refine ao_cons (acts_of rfl (does_assign (v := .bool (a0.Kind == 9)) (by exact rfl))) (by decide) ?_
            refine ao_nil_n ?_
            refine hK50 _ ?_
            refine aw_bool (b := (a0.Kind == 9)) 72 rfl (fun c51 => ?_) (fun c51 => ?_)
            · have h := ifT c51 h
              refine aw_cond_t (by decide) rfl ?_
              refine aw_seq_k (fun K52 hK52 => ?_)
              refine aw_reg ?_
              refine ao_cons (acts_of rfl (does_move (v := .int .i64 a2) (by exact rfl))) (by decide) ?_
              refine ao_cons (acts_of rfl (does_fieldAddr (q := .ptr 3 0 1) (by conv => lhs; whnf) ty24 rfl ty3 (by decide) (by exact rfl))) (by decide) ?_
              refine ao_cons (acts_of rfl (does_load (v := .int .i64 a0.N) (by conv => lhs; whnf) (by conv => lhs; whnf) ty3 (by exact rfl))) (by decide) ?_
              refine ao_cons (acts_of rfl (does_bin (v := .bool (decide (a2 < a0.N))) (by conv => lhs; whnf) (by conv => lhs; whnf) rfl)) (by decide) ?_
              refine ao_cons (acts_of rfl (does_assign (v := .bool (decide (a2 < a0.N))) (by exact rfl))) (by decide) ?_
              refine ao_nil_n ?_
              refine hK52 _ ?_
              refine aw_ret ?_
              obtain rfl := Option.some.inj h
              exact ret_ok1 (by conv => lhs; whnf) (by conv => lhs; whnf) (by exact rfl) (.inr rfl) rfl
            · have h := ifF c51 h
              refine aw_cond_f (by decide) rfl ?_
              refine aw_skip ?_
              refine hK2 _ ?_
              refine aw_seq_k (fun K53 hK53 => ?_)
              refine aw_reg ?_
              refine ao_cons (acts_of rfl (does_load (v := .agg [.int .i64 a0.Kind, .int .i64 a0.N, .str a0.Key, .str a0.Value, .sl 5 (List.map enc23 a0.Kids)]) (by conv => lhs; whnf) (by conv => lhs; whnf) ty24 (by exact rfl))) (by decide) ?_
              refine ao_cons (acts_of rfl (does_fieldAddr (q := .ptr 4 0 5) (by conv => lhs; whnf) ty30 rfl ty28 (by decide) (by exact rfl))) (by decide) ?_
              refine ao_cons (acts_of rfl (does_load (v := .sl 10 (List.map enc41 a1.Spans)) (by conv => lhs; whnf) (by conv => lhs; whnf) ty28 (by exact rfl))) (by decide) ?_
              obtain ⟨x54, hx54, h⟩ := bnd_some h
              refine ao_cons (acts_of rfl (do_call0 81 false (gleaningref1_some_ok a0 a1.Spans hx54) rfl ent94 rfl rfl)) (by decide) ?_
              refine ao_cons (acts_of rfl (does_assign (v := .bool x54) (by exact rfl))) (by decide) ?_
              refine ao_nil_n ?_
              refine hK53 _ ?_
              refine aw_ret ?_
              obtain rfl := Option.some.inj h
              exact ret_ok1 (by conv => lhs; whnf) (by conv => lhs; whnf) (by exact rfl) (.inr rfl) rfl
def gleaningref1_keepN : Nat → Rule → Episode → Int → Option Bool
  | 0, _, _, _ => none
  | n + 1, a0, a1, a2 => gleaningref1_keep_b (gleaningref1_keepN n) a0 a1 a2
theorem gleaningref1_keepN_ok : ∀ (n : Nat) (a0 : Rule) (a1 : Episode) (a2 : Int) {r : Bool}, gleaningref1_keepN n a0 a1 a2 = some r → Ok Try.prog 59 [.agg [.int .i64 a0.Kind, .int .i64 a0.N, .str a0.Key, .str a0.Value, .sl 5 (List.map enc23 a0.Kids)], .agg [.int .u64 a1.Trace.Hi, .int .u64 a1.Trace.Lo, .int .i64 a1.First, .int .i64 a1.Last, .bool a1.Sure, .sl 10 (List.map enc41 a1.Spans)], .int .i64 a2] [] [] (.bool r) [] []
  | 0, _, _, _, _, h => by simp [gleaningref1_keepN] at h
  | n + 1, a0, a1, a2, _, h => gleaningref1_keep_b_ok (gleaningref1_keepN n) (gleaningref1_keepN_ok n) a0 a1 a2 h
def gleaningref1_keep (a0 : Rule) (a1 : Episode) (a2 : Int) : Option Bool := gleaningref1_keepN Fu a0 a1 a2
theorem gleaningref1_keep_ok (a0 : Rule) (a1 : Episode) (a2 : Int) {r : Bool} (h : gleaningref1_keep a0 a1 a2 = some r) : Ok Try.prog 59 [.agg [.int .i64 a0.Kind, .int .i64 a0.N, .str a0.Key, .str a0.Value, .sl 5 (List.map enc23 a0.Kids)], .agg [.int .u64 a1.Trace.Hi, .int .u64 a1.Trace.Lo, .int .i64 a1.First, .int .i64 a1.Last, .bool a1.Sure, .sl 10 (List.map enc41 a1.Spans)], .int .i64 a2] [] [] (.bool r) [] [] := gleaningref1_keepN_ok Fu a0 a1 a2 h
def gleaningref1_Keep (a0 : Rule) (a1 : Episode) (a2 : Int) : Option Bool :=
  Option.bind (gleaningref1_RightRule a0) (fun (x3 : Bool) => if x3 = true then (Option.bind (gleaningref1_keep a0 a1 a2) (fun (x5 : Bool) => some x5)) else (some false))
set_option maxRecDepth 100000 in
set_option maxHeartbeats 8000000 in
/-- gleaning/gleaningref1.Keep -/
theorem gleaningref1_Keep_ok (a0 : Rule) (a1 : Episode) (a2 : Int) {r : Bool} (h : gleaningref1_Keep a0 a1 a2 = some r) : Ok Try.prog 24 [.agg [.int .i64 a0.Kind, .int .i64 a0.N, .str a0.Key, .str a0.Value, .sl 5 (List.map enc23 a0.Kids)], .agg [.int .u64 a1.Trace.Hi, .int .u64 a1.Trace.Lo, .int .i64 a1.First, .int .i64 a1.Last, .bool a1.Sure, .sl 10 (List.map enc41 a1.Spans)], .int .i64 a2] [] [] (.bool r) [] [] := by
  unfold gleaningref1_Keep at h
  refine ok_of_code Try.func24 rfl (by show (3 : Nat) ≤ _; decide) (Nat.le_refl _) fun X => ?_
  refine aw_seq_k (fun K1 hK1 => ?_)
  refine aw_reg ?_
  refine ao_cons (acts_of rfl (do_box (by conv => lhs; whnf) rfl rfl)) (by decide) ?_
  refine ao_cons (acts_of rfl (do_box (by conv => lhs; whnf) rfl rfl)) (by decide) ?_
  refine ao_cons (acts_of rfl (does_assign (v := .bool false) (by exact rfl))) (by decide) ?_
  refine ao_nil_n ?_
  refine hK1 _ ?_
  refine aw_seq_k (fun K2 hK2 => ?_)
  refine aw_reg ?_
  refine ao_cons (acts_of rfl (does_load (v := .agg [.int .i64 a0.Kind, .int .i64 a0.N, .str a0.Key, .str a0.Value, .sl 5 (List.map enc23 a0.Kids)]) (by conv => lhs; whnf) (by conv => lhs; whnf) ty24 (by exact rfl))) (by decide) ?_
  obtain ⟨x3, hx3, h⟩ := bnd_some h
  refine ao_cons (acts_of rfl (do_call0 8 false (gleaningref1_RightRule_ok a0 hx3) rfl ent25 rfl rfl)) (by decide) ?_
  refine ao_cons (acts_of rfl (does_move (v := .bool x3) (by exact rfl))) (by decide) ?_
  refine ao_bool (c := x3) 9 rfl (fun c4 => ?_) (fun c4 => ?_)
  · have h := ifT c4 h
    refine ao_cons (acts_of rfl (does_load (v := .agg [.int .i64 a0.Kind, .int .i64 a0.N, .str a0.Key, .str a0.Value, .sl 5 (List.map enc23 a0.Kids)]) (by conv => lhs; whnf) (by conv => lhs; whnf) ty24 (by exact rfl))) (by decide) ?_
    refine ao_cons (acts_of rfl (does_load (v := .agg [.int .u64 a1.Trace.Hi, .int .u64 a1.Trace.Lo, .int .i64 a1.First, .int .i64 a1.Last, .bool a1.Sure, .sl 10 (List.map enc41 a1.Spans)]) (by conv => lhs; whnf) (by conv => lhs; whnf) ty30 (by exact rfl))) (by decide) ?_
    refine ao_cons (acts_of rfl (does_move (v := .int .i64 a2) (by exact rfl))) (by decide) ?_
    obtain ⟨x5, hx5, h⟩ := bnd_some h
    refine ao_cons (acts_of rfl (do_call0 13 false (gleaningref1_keep_ok a0 a1 a2 hx5) rfl ent59 rfl rfl)) (by decide) ?_
    refine ao_cons (acts_of rfl (does_pick (v := .bool x5) (by conv => lhs; whnf) (by exact rfl))) (by decide) ?_
    refine ao_cons (acts_of rfl (does_assign (v := .bool x5) (by exact rfl))) (by decide) ?_
    refine ao_nil_n ?_
    refine hK2 _ ?_
    refine aw_ret ?_
    obtain rfl := Option.some.inj h
    exact ret_ok1 (by conv => lhs; whnf) (by conv => lhs; whnf) (by exact rfl) (.inr rfl) rfl
  · have h := ifF c4 h
    refine ao_cons (acts_skip rfl) (by decide) ?_
    refine ao_cons (acts_skip rfl) (by decide) ?_
    refine ao_cons (acts_skip rfl) (by decide) ?_
    refine ao_cons (acts_skip rfl) (by decide) ?_
    refine ao_cons (acts_of rfl (does_pick (v := .bool false) (by conv => lhs; whnf) (by exact rfl))) (by decide) ?_
    refine ao_cons (acts_of rfl (does_assign (v := .bool false) (by exact rfl))) (by decide) ?_
    refine ao_nil_n ?_
    refine hK2 _ ?_
    refine aw_ret ?_
    obtain rfl := Option.some.inj h
    exact ret_ok1 (by conv => lhs; whnf) (by conv => lhs; whnf) (by exact rfl) (.inr rfl) rfl
end Go.Proofs.Ytbfmmaabaenhgaa.Ab
