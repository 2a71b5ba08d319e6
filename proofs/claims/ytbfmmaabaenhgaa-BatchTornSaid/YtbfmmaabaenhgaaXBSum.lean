/- The sum of bytes. -/
import Derived.Test.YtbfmmaabaenhgaaXSpan2
import Derived.Test.YtbfmmaabaenhgaaProg
namespace Go.Proofs.Ytbfmmaabaenhgaa.Ab
open Go Go.RowKit
set_option linter.unusedVariables false
set_option linter.unusedSimpArgs false
theorem ty82 : tyOf Try.prog 82 = some ⟨.int .u32, 1, 4, [.int .u32 0]⟩ := by kernel_rfl
theorem ent56 : Ent Try.prog 56 := ⟨_, Try.func56, by kernel_rfl, rfl⟩
theorem ent57 : Ent Try.prog 57 := ⟨_, Try.func57, by kernel_rfl, rfl⟩
theorem ent86 : Ent Try.prog 86 := ⟨_, Try.func86, by kernel_rfl, rfl⟩
theorem ent87 : Ent Try.prog 87 := ⟨_, Try.func87, by kernel_rfl, rfl⟩
theorem ent113 : Ent Try.prog 113 := ⟨_, Try.func113, by kernel_rfl, rfl⟩
theorem ent114 : Ent Try.prog 114 := ⟨_, Try.func114, by kernel_rfl, rfl⟩
theorem ent115 : Ent Try.prog 115 := ⟨_, Try.func115, by kernel_rfl, rfl⟩
def check_More_l1 (v12_0 : Int) (v5_1 : Int) (v20_1 : Int) : Option ((Int × Int) ⊕ ((Int × Int) ⊕ Int)) :=
  if (decide (v20_1 < 8)) = true then (some (Sum.inl ((bits .xor .u32 (Int.fdiv v5_1 (2 ^ (min (Int.toNat 1) (IntKind.bits .u32)))) (IntKind.u32.wrap (3988292384 * (bits .and .u32 v5_1 1)))), (IntKind.i64.wrap (v20_1 + 1))))) else (some (Sum.inr (Sum.inl (v5_1, (IntKind.i64.wrap (v12_0 + 1))))))
def check_More_l0 (a1 : List UInt8) (v5_0 : Int) (v12_0 : Int) : Option ((Int × Int) ⊕ Int) :=
  if (decide (v12_0 < (List.length a1 : Int))) = true then (gd (0 ≤ v12_0) (Option.bind (a1[(Int.toNat v12_0)]?) (fun (x13 : UInt8) => loopN (fun (s : Int × Int) => check_More_l1 v12_0 s.1 s.2) Fu ((bits .xor .u32 v5_0 (IntKind.u32.wrap (x13.toNat : Int))), 0)))) else (some (Sum.inr (bits .xor .u32 (if IntKind.signed .u32 then -1 else IntKind.max .u32) v5_0)))
def check_More (a0 : Int) (a1 : List UInt8) : Option Int :=
  loopN (fun (s : Int × Int) => check_More_l0 a1 s.1 s.2) Fu ((bits .xor .u32 (if IntKind.signed .u32 then -1 else IntKind.max .u32) a0), 0)
set_option maxRecDepth 100000 in
set_option maxHeartbeats 8000000 in
/-- gleaning/check.More -/
theorem check_More_ok (a0 : Int) (a1 : List UInt8) {r : Int} (h : check_More a0 a1 = some r) : Ok Try.prog 86 [.int .u32 a0, .sl 1 (List.map enc5 a1)] [] [] (.int .u32 r) [] [] := by
  unfold check_More at h
  refine ok_of_code Try.func86 rfl (by show (2 : Nat) ≤ _; decide) (Nat.le_refl _) fun X => ?_
  refine aw_seq_k (fun K1 hK1 => ?_)
  refine aw_regL ?_
  refine alP (some 4) rfl rfl (does_assign (v := .int .u32 0) (by exact rfl)) (by decide) ?_
  refine al_nil ?_
  refine hK1 _ ?_
  refine aw_seq_k (fun K2 hK2 => ?_)
  refine aw_regL ?_
  refine alP (some 8) rfl rfl (does_move (v := .int .u32 a0) (by exact rfl)) (by decide) ?_
  refine alP (some 9) rfl rfl (does_un (v := .int .u32 (bits .xor .u32 (if IntKind.signed .u32 then -1 else IntKind.max .u32) a0)) (by conv => lhs; whnf) rfl) (by decide) ?_
  refine alP (some 5) rfl rfl (does_assign (v := .int .u32 (bits .xor .u32 (if IntKind.signed .u32 then -1 else IntKind.max .u32) a0)) (by exact rfl)) (by decide) ?_
  refine al_nil ?_
  refine hK2 _ ?_
  refine aw_seq_k (fun K3 hK3 => ?_)
  refine aw_seq_k (fun K4 hK4 => ?_)
  refine aw_regL ?_
  refine alP (some 10) rfl rfl (does_move (v := .sl 1 (List.map enc5 a1)) (by exact rfl)) (by decide) ?_
  refine alP (some 11) rfl rfl ((does_len_sl (by conv => lhs; whnf) ty43).castp (v' := .int .i64 (List.length a1 : Int)) (by exact len_map _)) (by decide) ?_
  refine alP (some 12) rfl rfl (does_move (v := .int .i64 0) (by exact rfl)) (by decide) ?_
  refine al_nil ?_
  refine hK4 _ ?_
  refine aw_block ?_
  refine aw_loop' (fun m s => ∃ (v5_0 : Int), ∃ (v12_0 : Int), loopN (fun (s : Int × Int) => check_More_l0 a1 s.1 s.2) m (v5_0, v12_0) = some r ∧ s = lit [(5, .int .u32 v5_0), (10, .sl 1 (List.map enc5 a1)), (11, .int .i64 (List.length a1 : Int)), (12, .int .i64 v12_0)] [] [] X) Fu
    ⟨_, reb_lit [(5, .int .u32 (bits .xor .u32 (if IntKind.signed .u32 then -1 else IntKind.max .u32) a0)), (10, .sl 1 (List.map enc5 a1)), (11, .int .i64 (List.length a1 : Int)), (12, .int .i64 (0))] [] [] [] (envOk_cons (by conv => lhs; whnf) (by exact rfl) (envOk_cons (by conv => lhs; whnf) (by exact rfl) (envOk_cons (by conv => lhs; whnf) (by exact rfl) (envOk_cons (by conv => lhs; whnf) (by exact rfl) envOk_nil)))) objOk_nil (nodup_b rfl) (nodup_b rfl) rfl rfl, (bits .xor .u32 (if IntKind.signed .u32 then -1 else IntKind.max .u32) a0), 0, h, rfl⟩ ?_
  rintro m s ⟨v5_0, v12_0, h, rfl⟩
  obtain ⟨m0, q5, rfl, h, hq6⟩ := loop_some h
  replace h : check_More_l0 a1 v5_0 v12_0 = some q5 := h
  unfold check_More_l0 at h
  refine aw_seq_k (fun K7 hK7 => ?_)
  refine aw_regL ?_
  refine alP (some 13) rfl rfl (does_bin (v := .bool (decide (v12_0 < (List.length a1 : Int)))) (by conv => lhs; whnf) (by conv => lhs; whnf) rfl) (by decide) ?_
  refine al_nil ?_
  refine hK7 _ ?_
  refine aw_seq_k (fun K8 hK8 => ?_)
  refine aw_bool (b := (decide (v12_0 < (List.length a1 : Int)))) 13 rfl (fun c9 => ?_) (fun c9 => ?_)
  · have h := ifT c9 h
    refine aw_cond_t (by decide) rfl ?_
    refine aw_skip ?_
    refine hK8 _ ?_
    refine aw_seq_k (fun K10 hK10 => ?_)
    refine aw_block ?_
    refine aw_seq_k (fun K11 hK11 => ?_)
    refine aw_regL ?_
    obtain ⟨g12, h⟩ := gd_some h
    obtain ⟨x13, hx13, h⟩ := bnd_some h
    refine alP (some 14) rfl rfl (does_indexAddr_sl (el := .int .u8 (x13.toNat : Int)) (by conv => lhs; whnf) (by conv => lhs; whnf) ty43 ty5 g12 (by exact map_get hx13)) (by decide) ?_
    refine alR (some 15) rfl rfl (does_load (v := .int .u8 (x13.toNat : Int)) (by conv => lhs; whnf) (by conv => lhs; whnf) ty5 (by exact rfl)) (by decide) ?_
    refine alP (some 7) rfl rfl (does_assign (v := .int .u8 (x13.toNat : Int)) (by exact rfl)) (by decide) ?_
    refine al_nil ?_
    refine hK11 _ ?_
    refine aw_seq_k (fun K14 hK14 => ?_)
    refine aw_regL ?_
    refine alP (some 16) rfl rfl (does_move (v := .int .u32 v5_0) (by exact rfl)) (by decide) ?_
    refine alP (some 17) rfl rfl (does_move (v := .int .u8 (x13.toNat : Int)) (by exact rfl)) (by decide) ?_
    refine alP (some 18) rfl rfl (does_conv_int (v := .int .u32 (IntKind.u32.wrap (x13.toNat : Int))) (by conv => lhs; whnf) (ty_some ty5) (ty_int ty82) rfl) (by decide) ?_
    refine alP (some 19) rfl rfl (does_bin (v := .int .u32 (bits .xor .u32 v5_0 (IntKind.u32.wrap (x13.toNat : Int)))) (by conv => lhs; whnf) (by conv => lhs; whnf) rfl) (by decide) ?_
    refine alP (some 5) rfl rfl (does_assign (v := .int .u32 (bits .xor .u32 v5_0 (IntKind.u32.wrap (x13.toNat : Int)))) (by exact rfl)) (by decide) ?_
    refine al_nil ?_
    refine hK14 _ ?_
    refine aw_seq_k (fun K15 hK15 => ?_)
    refine aw_regL ?_
    refine alP (some 20) rfl rfl (does_move (v := .int .i64 0) (by exact rfl)) (by decide) ?_
    refine al_nil ?_
    refine hK15 _ ?_
    refine aw_block ?_
    refine aw_loop' (fun m s => ∃ (v5_1 : Int), ∃ (v20_1 : Int), loopN (fun (s : Int × Int) => check_More_l1 v12_0 s.1 s.2) m (v5_1, v20_1) = some q5 ∧ s = lit [(5, .int .u32 v5_1), (10, .sl 1 (List.map enc5 a1)), (11, .int .i64 (List.length a1 : Int)), (12, .int .i64 v12_0), (20, .int .i64 v20_1)] [] [] X) Fu
      ⟨_, reb_lit [(5, .int .u32 (bits .xor .u32 v5_0 (IntKind.u32.wrap (x13.toNat : Int)))), (10, .sl 1 (List.map enc5 a1)), (11, .int .i64 (List.length a1 : Int)), (12, .int .i64 v12_0), (20, .int .i64 (0))] [] [] [] (envOk_cons (by conv => lhs; whnf) (by exact rfl) (envOk_cons (by conv => lhs; whnf) (by exact rfl) (envOk_cons (by conv => lhs; whnf) (by exact rfl) (envOk_cons (by conv => lhs; whnf) (by exact rfl) (envOk_cons (by conv => lhs; whnf) (by exact rfl) envOk_nil))))) objOk_nil (nodup_b rfl) (nodup_b rfl) rfl rfl, (bits .xor .u32 v5_0 (IntKind.u32.wrap (x13.toNat : Int))), 0, h, rfl⟩ ?_
    rintro m s ⟨v5_1, v20_1, h, rfl⟩
    obtain ⟨m1, q16, rfl, h, hq17⟩ := loop_some h
    replace h : check_More_l1 v12_0 v5_1 v20_1 = some q16 := h
    unfold check_More_l1 at h
    refine aw_seq_k (fun K18 hK18 => ?_)
    refine aw_regL ?_
    refine alP (some 21) rfl rfl (does_bin (v := .bool (decide (v20_1 < 8))) (by conv => lhs; whnf) (by conv => lhs; whnf) rfl) (by decide) ?_
    refine al_nil ?_
    refine hK18 _ ?_
    refine aw_seq_k (fun K19 hK19 => ?_)
    refine aw_bool (b := (decide (v20_1 < 8))) 21 rfl (fun c20 => ?_) (fun c20 => ?_)
    · have h := ifT c20 h
      refine aw_cond_t (by decide) rfl ?_
      refine aw_skip ?_
      refine hK19 _ ?_
      refine aw_seq_k (fun K21 hK21 => ?_)
      refine aw_block ?_
      refine aw_regL ?_
      refine alP (some 22) rfl rfl (does_move (v := .int .u32 v5_1) (by exact rfl)) (by decide) ?_
      refine alP (some 23) rfl rfl (does_bin (v := .int .u32 (Int.fdiv v5_1 (2 ^ (min (Int.toNat 1) (IntKind.bits .u32))))) (by conv => lhs; whnf) (by conv => lhs; whnf) rfl) (by decide) ?_
      refine alP (some 24) rfl rfl (does_move (v := .int .u32 v5_1) (by exact rfl)) (by decide) ?_
      refine alP (some 25) rfl rfl (does_bin (v := .int .u32 (bits .and .u32 v5_1 1)) (by conv => lhs; whnf) (by conv => lhs; whnf) rfl) (by decide) ?_
      refine alP (some 26) rfl rfl (does_bin (v := .int .u32 (IntKind.u32.wrap (3988292384 * (bits .and .u32 v5_1 1)))) (by conv => lhs; whnf) (by conv => lhs; whnf) rfl) (by decide) ?_
      refine alP (some 27) rfl rfl (does_bin (v := .int .u32 (bits .xor .u32 (Int.fdiv v5_1 (2 ^ (min (Int.toNat 1) (IntKind.bits .u32)))) (IntKind.u32.wrap (3988292384 * (bits .and .u32 v5_1 1))))) (by conv => lhs; whnf) (by conv => lhs; whnf) rfl) (by decide) ?_
      refine alP (some 5) rfl rfl (does_assign (v := .int .u32 (bits .xor .u32 (Int.fdiv v5_1 (2 ^ (min (Int.toNat 1) (IntKind.bits .u32)))) (IntKind.u32.wrap (3988292384 * (bits .and .u32 v5_1 1))))) (by exact rfl)) (by decide) ?_
      refine al_nil ?_
      refine hK21 _ ?_
      refine aw_regL ?_
      refine alP (some 28) rfl rfl (does_bin (v := .int .i64 (IntKind.i64.wrap (v20_1 + 1))) (by conv => lhs; whnf) (by conv => lhs; whnf) rfl) (by decide) ?_
      refine alP (some 20) rfl rfl (does_move (v := .int .i64 (IntKind.i64.wrap (v20_1 + 1))) (by exact rfl)) (by decide) ?_
      refine al_nil ?_
      have h := leafL h hq17
      exact ⟨m1, Nat.lt_succ_self _, _, reb_lit [(5, .int .u32 (bits .xor .u32 (Int.fdiv v5_1 (2 ^ (min (Int.toNat 1) (IntKind.bits .u32)))) (IntKind.u32.wrap (3988292384 * (bits .and .u32 v5_1 1))))), (10, .sl 1 (List.map enc5 a1)), (11, .int .i64 (List.length a1 : Int)), (12, .int .i64 v12_0), (20, .int .i64 (IntKind.i64.wrap (v20_1 + 1)))] [] [] [] (envOk_cons (by conv => lhs; whnf) (by exact rfl) (envOk_cons (by conv => lhs; whnf) (by exact rfl) (envOk_cons (by conv => lhs; whnf) (by exact rfl) (envOk_cons (by conv => lhs; whnf) (by exact rfl) (envOk_cons (by conv => lhs; whnf) (by exact rfl) envOk_nil))))) objOk_nil (nodup_b rfl) (nodup_b rfl) rfl rfl, (bits .xor .u32 (Int.fdiv v5_1 (2 ^ (min (Int.toNat 1) (IntKind.bits .u32)))) (IntKind.u32.wrap (3988292384 * (bits .and .u32 v5_1 1)))), (IntKind.i64.wrap (v20_1 + 1)), h, rfl⟩
    · have h := ifF c20 h
      refine aw_cond_f (by decide) rfl ?_
      refine aw_exit ?_
      have h := leafR h hq17
      refine hK10 _ ?_
      refine aw_regL ?_
      refine alP (some 29) rfl rfl (does_bin (v := .int .i64 (IntKind.i64.wrap (v12_0 + 1))) (by conv => lhs; whnf) (by conv => lhs; whnf) rfl) (by decide) ?_
      refine alP (some 12) rfl rfl (does_move (v := .int .i64 (IntKind.i64.wrap (v12_0 + 1))) (by exact rfl)) (by decide) ?_
      refine al_nil ?_
      have h := leafL h hq6
      exact ⟨m0, Nat.lt_succ_self _, _, reb_lit [(5, .int .u32 v5_1), (10, .sl 1 (List.map enc5 a1)), (11, .int .i64 (List.length a1 : Int)), (12, .int .i64 (IntKind.i64.wrap (v12_0 + 1)))] [] [] [] (envOk_cons (by conv => lhs; whnf) (by exact rfl) (envOk_cons (by conv => lhs; whnf) (by exact rfl) (envOk_cons (by conv => lhs; whnf) (by exact rfl) (envOk_cons (by conv => lhs; whnf) (by exact rfl) envOk_nil)))) objOk_nil (nodup_b rfl) (nodup_b rfl) rfl rfl, v5_1, (IntKind.i64.wrap (v12_0 + 1)), h, rfl⟩
  · have h := ifF c9 h
    refine aw_cond_f (by decide) rfl ?_
    refine aw_exit ?_
    have h := leafR h hq6
    refine hK3 _ ?_
    refine aw_seq_k (fun K22 hK22 => ?_)
    refine aw_regL ?_
    refine alP (some 30) rfl rfl (does_move (v := .int .u32 v5_0) (by exact rfl)) (by decide) ?_
    refine alP (some 31) rfl rfl (does_un (v := .int .u32 (bits .xor .u32 (if IntKind.signed .u32 then -1 else IntKind.max .u32) v5_0)) (by conv => lhs; whnf) rfl) (by decide) ?_
    refine alP (some 4) rfl rfl (does_assign (v := .int .u32 (bits .xor .u32 (if IntKind.signed .u32 then -1 else IntKind.max .u32) v5_0)) (by exact rfl)) (by decide) ?_
    refine al_nil ?_
    refine hK22 _ ?_
    refine aw_ret ?_
    obtain rfl := Option.some.inj h
    exact ret_ok1 (by conv => lhs; whnf) (by conv => lhs; whnf) (by exact rfl) (.inr rfl) rfl
def check_Sum (a0 : List UInt8) : Option Int :=
  Option.bind (check_More 0 a0) (fun (x3 : Int) => some x3)
set_option maxRecDepth 100000 in
set_option maxHeartbeats 8000000 in
/-- gleaning/check.Sum -/
theorem check_Sum_ok (a0 : List UInt8) {r : Int} (h : check_Sum a0 = some r) : Ok Try.prog 56 [.sl 1 (List.map enc5 a0)] [] [] (.int .u32 r) [] [] := by
  unfold check_Sum at h
  refine ok_of_code Try.func56 rfl (by show (1 : Nat) ≤ _; decide) (Nat.le_refl _) fun X => ?_
  refine aw_seq_k (fun K1 hK1 => ?_)
  refine aw_regL ?_
  refine alP (some 2) rfl rfl (does_assign (v := .int .u32 0) (by exact rfl)) (by decide) ?_
  refine al_nil ?_
  refine hK1 _ ?_
  refine aw_seq_k (fun K2 hK2 => ?_)
  refine aw_regL ?_
  refine alP (some 3) rfl rfl (does_move (v := .sl 1 (List.map enc5 a0)) (by exact rfl)) (by decide) ?_
  obtain ⟨x3, hx3, h⟩ := bnd_some h
  refine alD (some 4) rfl rfl (do_call0 4 false (check_More_ok 0 a0 hx3) rfl ent86 rfl rfl) (by decide) ?_
  refine alP (some 2) rfl rfl (does_assign (v := .int .u32 x3) (by exact rfl)) (by decide) ?_
  refine al_nil ?_
  refine hK2 _ ?_
  refine aw_ret ?_
  obtain rfl := Option.some.inj h
  exact ret_ok1 (by conv => lhs; whnf) (by conv => lhs; whnf) (by exact rfl) (.inr rfl) rfl
def check_Put_l0 (a1 : Int) (v0_s_0 : List UInt8) (v6_0 : Int) : Option ((List UInt8 × Int) ⊕ (List UInt8)) :=
  if (decide (v6_0 < 4)) = true then (gd (¬ (IntKind.i64.wrap (8 * v6_0)) < 0) (gd ((List.length (v0_s_0 ++ [(u8 (IntKind.u8.wrap (Int.fdiv a1 (2 ^ (min (Int.toNat (IntKind.i64.wrap (8 * v6_0))) (IntKind.bits .u32))))))])) * 1 ≤ 140737488355328 ∧ (List.length (v0_s_0 ++ [(u8 (IntKind.u8.wrap (Int.fdiv a1 (2 ^ (min (Int.toNat (IntKind.i64.wrap (8 * v6_0))) (IntKind.bits .u32))))))])) ≤ 140737488355328) (some (Sum.inl ((v0_s_0 ++ [(u8 (IntKind.u8.wrap (Int.fdiv a1 (2 ^ (min (Int.toNat (IntKind.i64.wrap (8 * v6_0))) (IntKind.bits .u32))))))]), (IntKind.i64.wrap (v6_0 + 1))))))) else (some (Sum.inr v0_s_0))
def check_Put (a0 : List UInt8) (a1 : Int) : Option (List UInt8) :=
  loopN (fun (s : List UInt8 × Int) => check_Put_l0 a1 s.1 s.2) Fu (a0, 0)
set_option maxRecDepth 100000 in
set_option maxHeartbeats 8000000 in
/-- gleaning/check.Put -/
theorem check_Put_ok (a0 : List UInt8) (a1 : Int) {r : List UInt8} (h : check_Put a0 a1 = some r) : Ok Try.prog 113 [.own 1 0, .int .u32 a1] [] [(5, 1, List.map enc5 a0)] (.own 2 0) [] [(5, 1, List.map enc5 r)] := by
  unfold check_Put at h
  refine ok_of_code Try.func113 rfl (by show (2 : Nat) ≤ _; decide) (Nat.le_refl _) fun X => ?_
  refine aw_seq_k (fun K1 hK1 => ?_)
  refine aw_regL ?_
  refine alP (some 4) rfl rfl (does_assign (v := .nil) (by exact rfl)) (by decide) ?_
  refine al_nil ?_
  refine hK1 _ ?_
  refine aw_seq_k (fun K2 hK2 => ?_)
  refine aw_seq_k (fun K3 hK3 => ?_)
  refine aw_regL ?_
  refine alP (some 6) rfl rfl (does_move (v := .int .i64 0) (by exact rfl)) (by decide) ?_
  refine al_nil ?_
  refine hK3 _ ?_
  refine aw_block ?_
  refine aw_loop' (fun m s => ∃ (v0_s_0 : List UInt8), ∃ (v6_0 : Int), loopN (fun (s : List UInt8 × Int) => check_Put_l0 a1 s.1 s.2) m (v0_s_0, v6_0) = some r ∧ s = lit [(0, .own 1 0), (1, .int .u32 a1), (6, .int .i64 v6_0)] [((1, 0), .arr 5 1 false (List.map enc5 v0_s_0))] [(1, 1)] X) Fu
    ⟨_, reb_lit [(0, .own 1 0), (1, .int .u32 a1), (6, .int .i64 (0))] [(1, 0)] [((1, 0), .arr 5 1 false (List.map enc5 a0))] [(1, 1)] (envOk_cons (by conv => lhs; whnf) (by exact rfl) (envOk_cons (by conv => lhs; whnf) (by exact rfl) (envOk_cons (by conv => lhs; whnf) (by exact rfl) envOk_nil))) (objOk_cons (by conv => lhs; whnf) (by conv => lhs; whnf) (by exact rfl) (by simp) objOk_nil) (nodup_b rfl) (nodup_b rfl) rfl rfl, a0, 0, h, rfl⟩ ?_
  rintro m s ⟨v0_s_0, v6_0, h, rfl⟩
  obtain ⟨m0, q4, rfl, h, hq5⟩ := loop_some h
  replace h : check_Put_l0 a1 v0_s_0 v6_0 = some q4 := h
  unfold check_Put_l0 at h
  refine aw_seq_k (fun K6 hK6 => ?_)
  refine aw_regL ?_
  refine alP (some 7) rfl rfl (does_bin (v := .bool (decide (v6_0 < 4))) (by conv => lhs; whnf) (by conv => lhs; whnf) rfl) (by decide) ?_
  refine al_nil ?_
  refine hK6 _ ?_
  refine aw_seq_k (fun K7 hK7 => ?_)
  refine aw_bool (b := (decide (v6_0 < 4))) 7 rfl (fun c8 => ?_) (fun c8 => ?_)
  · have h := ifT c8 h
    refine aw_cond_t (by decide) rfl ?_
    refine aw_skip ?_
    refine hK7 _ ?_
    refine aw_seq_k (fun K9 hK9 => ?_)
    refine aw_block ?_
    refine aw_seq_k (fun K10 hK10 => ?_)
    refine aw_regL ?_
    refine alP (some 8) rfl rfl (does_move (v := .int .i64 v6_0) (by exact rfl)) (by decide) ?_
    refine alP (some 5) rfl rfl (does_assign (v := .int .i64 v6_0) (by exact rfl)) (by decide) ?_
    refine al_nil ?_
    refine hK10 _ ?_
    refine aw_regL ?_
    refine alP (some 9) rfl rfl (does_move (v := .own 1 0) (by exact rfl)) (by decide) ?_
    refine alP (some 10) rfl rfl (does_move (v := .int .u32 a1) (by exact rfl)) (by decide) ?_
    refine alP (some 11) rfl rfl (does_move (v := .int .i64 v6_0) (by exact rfl)) (by decide) ?_
    refine alP (some 12) rfl rfl (does_bin (v := .int .i64 (IntKind.i64.wrap (8 * v6_0))) (by conv => lhs; whnf) (by conv => lhs; whnf) rfl) (by decide) ?_
    obtain ⟨g11, h⟩ := gd_some h
    refine alP (some 13) rfl rfl (does_bin (v := .int .u32 (Int.fdiv a1 (2 ^ (min (Int.toNat (IntKind.i64.wrap (8 * v6_0))) (IntKind.bits .u32))))) (by conv => lhs; whnf) (by conv => lhs; whnf) (shr_hv g11)) (by decide) ?_
    refine alP (some 14) rfl rfl ((does_conv_int (v := .int .u8 (IntKind.u8.wrap (Int.fdiv a1 (2 ^ (min (Int.toNat (IntKind.i64.wrap (8 * v6_0))) (IntKind.bits .u32)))))) (by conv => lhs; whnf) (ty_some ty82) (ty_int ty5) rfl).castp (v' := .int .u8 ((u8 (IntKind.u8.wrap (Int.fdiv a1 (2 ^ (min (Int.toNat (IntKind.i64.wrap (8 * v6_0))) (IntKind.bits .u32)))))).toNat : Int)) (by exact congrArg _ (u8_eq (u8_wrap _)))) (by decide) ?_
    refine alD (some 15) rfl rfl (do_buildSlice (xs := List.map enc5 [(u8 (IntKind.u8.wrap (Int.fdiv a1 (2 ^ (min (Int.toNat (IntKind.i64.wrap (8 * v6_0))) (IntKind.bits .u32))))))]) ty43 ty5 rfl rfl rfl rfl rfl rfl rfl rfl) (by decide) ?_
    obtain ⟨g12, h⟩ := gd_some h
    refine alD (some 16) rfl rfl (do_append (v := List.map enc5 (v0_s_0 ++ [(u8 (IntKind.u8.wrap (Int.fdiv a1 (2 ^ (min (Int.toNat (IntKind.i64.wrap (8 * v6_0))) (IntKind.bits .u32))))))])) (by conv => lhs; whnf) (by conv => lhs; whnf) ty43 ty5 rfl rfl (by conv => lhs; whnf) (by first | exact .inl rfl | exact .inr ⟨rfl, rfl⟩) (by conv => lhs; whnf) (by first | exact .inr rfl | exact .inl rfl) (map_app _ _) (fit_map g12)) (by decide) ?_
    refine alP (some 0) rfl rfl (does_assign (v := .own 16 0) (by exact rfl)) (by decide) ?_
    refine al_nil ?_
    refine hK9 _ ?_
    refine aw_regL ?_
    refine alP (some 17) rfl rfl (does_bin (v := .int .i64 (IntKind.i64.wrap (v6_0 + 1))) (by conv => lhs; whnf) (by conv => lhs; whnf) rfl) (by decide) ?_
    refine alP (some 6) rfl rfl (does_move (v := .int .i64 (IntKind.i64.wrap (v6_0 + 1))) (by exact rfl)) (by decide) ?_
    refine al_nil ?_
    have h := leafL h hq5
    exact ⟨m0, Nat.lt_succ_self _, _, reb_lit [(0, .own 1 0), (1, .int .u32 a1), (6, .int .i64 (IntKind.i64.wrap (v6_0 + 1)))] [(16, 0)] [((1, 0), .arr 5 1 false (List.map enc5 (v0_s_0 ++ [(u8 (IntKind.u8.wrap (Int.fdiv a1 (2 ^ (min (Int.toNat (IntKind.i64.wrap (8 * v6_0))) (IntKind.bits .u32))))))])))] [(1, 1)] (envOk_cons (by conv => lhs; whnf) (by exact rfl) (envOk_cons (by conv => lhs; whnf) (by exact rfl) (envOk_cons (by conv => lhs; whnf) (by exact rfl) envOk_nil))) (objOk_cons (by conv => lhs; whnf) (by conv => lhs; whnf) (by exact rfl) (by simp) objOk_nil) (nodup_b rfl) (nodup_b rfl) rfl rfl, (v0_s_0 ++ [(u8 (IntKind.u8.wrap (Int.fdiv a1 (2 ^ (min (Int.toNat (IntKind.i64.wrap (8 * v6_0))) (IntKind.bits .u32))))))]), (IntKind.i64.wrap (v6_0 + 1)), h, rfl⟩
  · have h := ifF c8 h
    refine aw_cond_f (by decide) rfl ?_
    refine aw_exit ?_
    have h := leafR h hq5
    refine hK2 _ ?_
    refine aw_seq_k (fun K13 hK13 => ?_)
    refine aw_regL ?_
    refine alP (some 18) rfl rfl (does_move (v := .own 1 0) (by exact rfl)) (by decide) ?_
    refine alP (some 4) rfl rfl (does_assign (v := .own 1 0) (by exact rfl)) (by decide) ?_
    refine al_nil ?_
    refine hK13 _ ?_
    refine aw_ret ?_
    obtain rfl := Option.some.inj h
    exact ret_okR [(1, 0)] (by conv => lhs; whnf) (by conv => lhs; whnf) (by exact rfl) (rowsOk_cons (by conv => lhs; whnf) (by exact rfl) trivial) (nodup_b rfl) (.inr rfl) rfl
def check_Seal (a0 : List UInt8) : Option (List UInt8) :=
  gd ((List.length a0) * 1 ≤ 140737488355328 ∧ (List.length a0) ≤ 140737488355328) (Option.bind (check_Sum a0) (fun (x4 : Int) => Option.bind (check_Put a0 x4) (fun (x5 : List UInt8) => some x5)))
set_option maxRecDepth 100000 in
set_option maxHeartbeats 8000000 in
/-- gleaning/check.Seal -/
theorem check_Seal_ok (a0 : List UInt8) {r : List UInt8} (h : check_Seal a0 = some r) : Ok Try.prog 78 [.sl 1 (List.map enc5 a0)] [] [] (.own 2 0) [] [(5, 1, List.map enc5 r)] := by
  unfold check_Seal at h
  refine ok_of_code Try.func78 rfl (by show (1 : Nat) ≤ _; decide) (Nat.le_refl _) fun X => ?_
  refine aw_seq_k (fun K1 hK1 => ?_)
  refine aw_regL ?_
  refine alP (some 2) rfl rfl (does_assign (v := .nil) (by exact rfl)) (by decide) ?_
  refine al_nil ?_
  refine hK1 _ ?_
  refine aw_seq_k (fun K2 hK2 => ?_)
  refine aw_regL ?_
  refine alP (some 3) rfl rfl (does_move (v := .sl 1 (List.map enc5 a0)) (by exact rfl)) (by decide) ?_
  obtain ⟨g3, h⟩ := gd_some h
  refine alD (some 4) rfl rfl (do_append (v := List.map enc5 a0) (by conv => lhs; whnf) (by conv => lhs; whnf) ty43 ty5 rfl rfl (by conv => lhs; whnf) (by first | exact .inl rfl | exact .inr ⟨rfl, rfl⟩) (by conv => lhs; whnf) (by first | exact .inr rfl | exact .inl rfl) (List.nil_append _) (fit_map g3)) (by decide) ?_
  refine alP (some 5) rfl rfl (does_move (v := .sl 1 (List.map enc5 a0)) (by exact rfl)) (by decide) ?_
  obtain ⟨x4, hx4, h⟩ := bnd_some h
  refine alD (some 6) rfl rfl (do_call0 6 false (check_Sum_ok a0 hx4) rfl ent56 rfl rfl) (by decide) ?_
  obtain ⟨x5, hx5, h⟩ := bnd_some h
  refine alD (some 7) rfl rfl (do_callG (bcs := []) [] [(4, 0)] [] 7 false (check_Put_ok a0 x4 hx5) rfl ent113 trivial (rowsOk_cons (by conv => lhs; whnf) (by exact rfl) trivial) rfl rfl rfl rfl rfl rfl rfl rfl (.inr ⟨rfl, rfl, ⟨plain_map (fun _ => rfl), trivial⟩⟩)) (by decide) ?_
  refine alP (some 2) rfl rfl (does_assign (v := .own 7 0) (by exact rfl)) (by decide) ?_
  refine al_nil ?_
  refine hK2 _ ?_
  refine aw_ret ?_
  obtain rfl := Option.some.inj h
  exact ret_okR [(7, 0)] (by conv => lhs; whnf) (by conv => lhs; whnf) (by exact rfl) (rowsOk_cons (by conv => lhs; whnf) (by exact rfl) trivial) (nodup_b rfl) (.inr rfl) rfl
def check_Get_l0 (a0 : List UInt8) (v4_0 : Int) (v9_0 : Int) : Option ((Int × Int) ⊕ (Int × Bool)) :=
  if (decide (v9_0 < 4)) = true then (gd (0 ≤ v9_0) (Option.bind (a0[(Int.toNat v9_0)]?) (fun (x17 : UInt8) => gd (¬ (IntKind.i64.wrap (8 * v9_0)) < 0) (some (Sum.inl ((bits .or .u32 v4_0 (IntKind.u32.wrap ((IntKind.u32.wrap (x17.toNat : Int)) * 2 ^ (min (Int.toNat (IntKind.i64.wrap (8 * v9_0))) (IntKind.bits .u32))))), (IntKind.i64.wrap (v9_0 + 1)))))))) else (some (Sum.inr (v4_0, true)))
def check_Get (a0 : List UInt8) : Option (Int × Bool) :=
  if (decide ((List.length a0 : Int) < 4)) = true then (some (0, false)) else (loopN (fun (s : Int × Int) => check_Get_l0 a0 s.1 s.2) Fu (0, 0))
set_option maxRecDepth 100000 in
set_option maxHeartbeats 8000000 in
/-- gleaning/check.Get -/
theorem check_Get_ok (a0 : List UInt8) {r : Int × Bool} (h : check_Get a0 = some r) : Ok Try.prog 114 [.sl 1 (List.map enc5 a0)] [] [] (.tup [.int .u32 r.1, .bool r.2]) [] [] := by
  unfold check_Get at h
  refine ok_of_code Try.func114 rfl (by show (1 : Nat) ≤ _; decide) (Nat.le_refl _) fun X => ?_
  refine aw_seq_k (fun K1 hK1 => ?_)
  refine aw_regL ?_
  refine alP (some 2) rfl rfl (does_assign (v := .int .u32 0) (by exact rfl)) (by decide) ?_
  refine alP (some 3) rfl rfl (does_assign (v := .bool false) (by exact rfl)) (by decide) ?_
  refine al_nil ?_
  refine hK1 _ ?_
  refine aw_seq_k (fun K2 hK2 => ?_)
  refine aw_seq_k (fun K3 hK3 => ?_)
  refine aw_regL ?_
  refine alP (some 6) rfl rfl (does_move (v := .sl 1 (List.map enc5 a0)) (by exact rfl)) (by decide) ?_
  refine alP (some 7) rfl rfl ((does_len_sl (by conv => lhs; whnf) ty43).castp (v' := .int .i64 (List.length a0 : Int)) (by exact len_map _)) (by decide) ?_
  refine alP (some 8) rfl rfl (does_bin (v := .bool (decide ((List.length a0 : Int) < 4))) (by conv => lhs; whnf) (by conv => lhs; whnf) rfl) (by decide) ?_
  refine al_nil ?_
  refine hK3 _ ?_
  refine aw_bool (b := (decide ((List.length a0 : Int) < 4))) 8 rfl (fun c4 => ?_) (fun c4 => ?_)
  · have h := ifT c4 h
    refine aw_cond_t (by decide) rfl ?_
    refine aw_seq_k (fun K5 hK5 => ?_)
    refine aw_regL ?_
    refine alP (some 2) rfl rfl (does_assign (v := .int .u32 0) (by exact rfl)) (by decide) ?_
    refine alP (some 3) rfl rfl (does_assign (v := .bool false) (by exact rfl)) (by decide) ?_
    refine al_nil ?_
    refine hK5 _ ?_
    refine aw_ret ?_
    obtain rfl := Option.some.inj h
    exact ret_ok1 (by conv => lhs; whnf) (by conv => lhs; whnf) (by exact rfl) (.inr rfl) rfl
  · have h := ifF c4 h
    refine aw_cond_f (by decide) rfl ?_
    refine aw_skip ?_
    refine hK2 _ ?_
    refine aw_seq_k (fun K6 hK6 => ?_)
    refine aw_regL ?_
    refine alP (some 4) rfl rfl (does_assign (v := .int .u32 0) (by exact rfl)) (by decide) ?_
    refine al_nil ?_
    refine hK6 _ ?_
    refine aw_seq_k (fun K7 hK7 => ?_)
    refine aw_seq_k (fun K8 hK8 => ?_)
    refine aw_regL ?_
    refine alP (some 9) rfl rfl (does_move (v := .int .i64 0) (by exact rfl)) (by decide) ?_
    refine al_nil ?_
    refine hK8 _ ?_
    refine aw_block ?_
    refine aw_loop' (fun m s => ∃ (v4_0 : Int), ∃ (v9_0 : Int), loopN (fun (s : Int × Int) => check_Get_l0 a0 s.1 s.2) m (v4_0, v9_0) = some r ∧ s = lit [(0, .sl 1 (List.map enc5 a0)), (4, .int .u32 v4_0), (9, .int .i64 v9_0)] [] [] X) Fu
      ⟨_, reb_lit [(0, .sl 1 (List.map enc5 a0)), (4, .int .u32 (0)), (9, .int .i64 (0))] [] [] [] (envOk_cons (by conv => lhs; whnf) (by exact rfl) (envOk_cons (by conv => lhs; whnf) (by exact rfl) (envOk_cons (by conv => lhs; whnf) (by exact rfl) envOk_nil))) objOk_nil (nodup_b rfl) (nodup_b rfl) rfl rfl, 0, 0, h, rfl⟩ ?_
    rintro m s ⟨v4_0, v9_0, h, rfl⟩
    obtain ⟨m0, q9, rfl, h, hq10⟩ := loop_some h
    replace h : check_Get_l0 a0 v4_0 v9_0 = some q9 := h
    unfold check_Get_l0 at h
    refine aw_seq_k (fun K11 hK11 => ?_)
    refine aw_regL ?_
    refine alP (some 10) rfl rfl (does_bin (v := .bool (decide (v9_0 < 4))) (by conv => lhs; whnf) (by conv => lhs; whnf) rfl) (by decide) ?_
    refine al_nil ?_
    refine hK11 _ ?_
    refine aw_seq_k (fun K12 hK12 => ?_)
    refine aw_bool (b := (decide (v9_0 < 4))) 10 rfl (fun c13 => ?_) (fun c13 => ?_)
    · have h := ifT c13 h
      refine aw_cond_t (by decide) rfl ?_
      refine aw_skip ?_
      refine hK12 _ ?_
      refine aw_seq_k (fun K14 hK14 => ?_)
      refine aw_block ?_
      refine aw_seq_k (fun K15 hK15 => ?_)
      refine aw_regL ?_
      refine alP (some 11) rfl rfl (does_move (v := .int .i64 v9_0) (by exact rfl)) (by decide) ?_
      refine alP (some 5) rfl rfl (does_assign (v := .int .i64 v9_0) (by exact rfl)) (by decide) ?_
      refine al_nil ?_
      refine hK15 _ ?_
      refine aw_regL ?_
      refine alP (some 12) rfl rfl (does_move (v := .int .u32 v4_0) (by exact rfl)) (by decide) ?_
      refine alP (some 13) rfl rfl (does_move (v := .sl 1 (List.map enc5 a0)) (by exact rfl)) (by decide) ?_
      refine alP (some 14) rfl rfl (does_move (v := .int .i64 v9_0) (by exact rfl)) (by decide) ?_
      obtain ⟨g16, h⟩ := gd_some h
      obtain ⟨x17, hx17, h⟩ := bnd_some h
      refine alP (some 15) rfl rfl (does_indexAddr_sl (el := .int .u8 (x17.toNat : Int)) (by conv => lhs; whnf) (by conv => lhs; whnf) ty43 ty5 g16 (by exact map_get hx17)) (by decide) ?_
      refine alR (some 16) rfl rfl (does_load (v := .int .u8 (x17.toNat : Int)) (by conv => lhs; whnf) (by conv => lhs; whnf) ty5 (by exact rfl)) (by decide) ?_
      refine alP (some 17) rfl rfl (does_conv_int (v := .int .u32 (IntKind.u32.wrap (x17.toNat : Int))) (by conv => lhs; whnf) (ty_some ty5) (ty_int ty82) rfl) (by decide) ?_
      refine alP (some 18) rfl rfl (does_move (v := .int .i64 v9_0) (by exact rfl)) (by decide) ?_
      refine alP (some 19) rfl rfl (does_bin (v := .int .i64 (IntKind.i64.wrap (8 * v9_0))) (by conv => lhs; whnf) (by conv => lhs; whnf) rfl) (by decide) ?_
      obtain ⟨g18, h⟩ := gd_some h
      refine alP (some 20) rfl rfl (does_bin (v := .int .u32 (IntKind.u32.wrap ((IntKind.u32.wrap (x17.toNat : Int)) * 2 ^ (min (Int.toNat (IntKind.i64.wrap (8 * v9_0))) (IntKind.bits .u32))))) (by conv => lhs; whnf) (by conv => lhs; whnf) (shl_hv g18)) (by decide) ?_
      refine alP (some 21) rfl rfl (does_bin (v := .int .u32 (bits .or .u32 v4_0 (IntKind.u32.wrap ((IntKind.u32.wrap (x17.toNat : Int)) * 2 ^ (min (Int.toNat (IntKind.i64.wrap (8 * v9_0))) (IntKind.bits .u32)))))) (by conv => lhs; whnf) (by conv => lhs; whnf) rfl) (by decide) ?_
      refine alP (some 4) rfl rfl (does_assign (v := .int .u32 (bits .or .u32 v4_0 (IntKind.u32.wrap ((IntKind.u32.wrap (x17.toNat : Int)) * 2 ^ (min (Int.toNat (IntKind.i64.wrap (8 * v9_0))) (IntKind.bits .u32)))))) (by exact rfl)) (by decide) ?_
      refine al_nil ?_
      refine hK14 _ ?_
      refine aw_regL ?_
      refine alP (some 22) rfl rfl (does_bin (v := .int .i64 (IntKind.i64.wrap (v9_0 + 1))) (by conv => lhs; whnf) (by conv => lhs; whnf) rfl) (by decide) ?_
      refine alP (some 9) rfl rfl (does_move (v := .int .i64 (IntKind.i64.wrap (v9_0 + 1))) (by exact rfl)) (by decide) ?_
      refine al_nil ?_
      have h := leafL h hq10
      exact ⟨m0, Nat.lt_succ_self _, _, reb_lit [(0, .sl 1 (List.map enc5 a0)), (4, .int .u32 (bits .or .u32 v4_0 (IntKind.u32.wrap ((IntKind.u32.wrap (x17.toNat : Int)) * 2 ^ (min (Int.toNat (IntKind.i64.wrap (8 * v9_0))) (IntKind.bits .u32)))))), (9, .int .i64 (IntKind.i64.wrap (v9_0 + 1)))] [] [] [] (envOk_cons (by conv => lhs; whnf) (by exact rfl) (envOk_cons (by conv => lhs; whnf) (by exact rfl) (envOk_cons (by conv => lhs; whnf) (by exact rfl) envOk_nil))) objOk_nil (nodup_b rfl) (nodup_b rfl) rfl rfl, (bits .or .u32 v4_0 (IntKind.u32.wrap ((IntKind.u32.wrap (x17.toNat : Int)) * 2 ^ (min (Int.toNat (IntKind.i64.wrap (8 * v9_0))) (IntKind.bits .u32))))), (IntKind.i64.wrap (v9_0 + 1)), h, rfl⟩
    · have h := ifF c13 h
      refine aw_cond_f (by decide) rfl ?_
      refine aw_exit ?_
      have h := leafR h hq10
      refine hK7 _ ?_
      refine aw_seq_k (fun K19 hK19 => ?_)
      refine aw_regL ?_
      refine alP (some 23) rfl rfl (does_move (v := .int .u32 v4_0) (by exact rfl)) (by decide) ?_
      refine alP (some 2) rfl rfl (does_assign (v := .int .u32 v4_0) (by exact rfl)) (by decide) ?_
      refine alP (some 3) rfl rfl (does_assign (v := .bool true) (by exact rfl)) (by decide) ?_
      refine al_nil ?_
      refine hK19 _ ?_
      refine aw_ret ?_
      obtain rfl := Option.some.inj h
      exact ret_ok1 (by conv => lhs; whnf) (by conv => lhs; whnf) (by exact rfl) (.inr rfl) rfl
def check_Open (a0 : List UInt8) : Option (List UInt8 × Bool) :=
  if (decide ((IntKind.i64.wrap ((List.length a0 : Int) - 4)) < 0)) = true then (some ([], false)) else (gd (0 ≤ (IntKind.i64.wrap ((List.length a0 : Int) - 4))) (gd ((IntKind.i64.wrap ((List.length a0 : Int) - 4)) ≤ (List.length a0 : Int)) (Option.bind (check_Get (List.drop (Int.toNat (IntKind.i64.wrap ((List.length a0 : Int) - 4))) a0)) (fun (x10 : Int × Bool) => gd (0 ≤ (IntKind.i64.wrap ((List.length a0 : Int) - 4))) (gd ((IntKind.i64.wrap ((List.length a0 : Int) - 4)) ≤ (List.length a0 : Int)) (if x10.2 = true then (gd (0 ≤ (IntKind.i64.wrap ((List.length a0 : Int) - 4))) (gd ((IntKind.i64.wrap ((List.length a0 : Int) - 4)) ≤ (List.length a0 : Int)) (Option.bind (check_Sum (List.take (Int.toNat (IntKind.i64.wrap ((List.length a0 : Int) - 4))) a0)) (fun (x17 : Int) => some ((List.take (Int.toNat (IntKind.i64.wrap ((List.length a0 : Int) - 4))) a0), (x10.1 == x17)))))) else (some ((List.take (Int.toNat (IntKind.i64.wrap ((List.length a0 : Int) - 4))) a0), false))))))))
set_option maxRecDepth 100000 in
set_option maxHeartbeats 8000000 in
/-- gleaning/check.Open -/
theorem check_Open_ok (a0 : List UInt8) {r : List UInt8 × Bool} (h : check_Open a0 = some r) : Ok Try.prog 79 [.sl 1 (List.map enc5 a0)] [] [] (.tup [.sl 1 (List.map enc5 r.1), .bool r.2]) [] [] := by
  unfold check_Open at h
  refine ok_of_code Try.func79 rfl (by show (1 : Nat) ≤ _; decide) (Nat.le_refl _) fun X => ?_
  refine aw_seq_k (fun K1 hK1 => ?_)
  refine aw_regL ?_
  refine alP (some 2) rfl rfl (does_assign (v := .nil) (by exact rfl)) (by decide) ?_
  refine alP (some 3) rfl rfl (does_assign (v := .bool false) (by exact rfl)) (by decide) ?_
  refine al_nil ?_
  refine hK1 _ ?_
  refine aw_seq_k (fun K2 hK2 => ?_)
  refine aw_regL ?_
  refine alP (some 7) rfl rfl (does_move (v := .sl 1 (List.map enc5 a0)) (by exact rfl)) (by decide) ?_
  refine alP (some 8) rfl rfl ((does_len_sl (by conv => lhs; whnf) ty43).castp (v' := .int .i64 (List.length a0 : Int)) (by exact len_map _)) (by decide) ?_
  refine alP (some 9) rfl rfl (does_bin (v := .int .i64 (IntKind.i64.wrap ((List.length a0 : Int) - 4))) (by conv => lhs; whnf) (by conv => lhs; whnf) rfl) (by decide) ?_
  refine alP (some 4) rfl rfl (does_assign (v := .int .i64 (IntKind.i64.wrap ((List.length a0 : Int) - 4))) (by exact rfl)) (by decide) ?_
  refine al_nil ?_
  refine hK2 _ ?_
  refine aw_seq_k (fun K3 hK3 => ?_)
  refine aw_seq_k (fun K4 hK4 => ?_)
  refine aw_regL ?_
  refine alP (some 10) rfl rfl (does_move (v := .int .i64 (IntKind.i64.wrap ((List.length a0 : Int) - 4))) (by exact rfl)) (by decide) ?_
  refine alP (some 11) rfl rfl (does_bin (v := .bool (decide ((IntKind.i64.wrap ((List.length a0 : Int) - 4)) < 0))) (by conv => lhs; whnf) (by conv => lhs; whnf) rfl) (by decide) ?_
  refine al_nil ?_
  refine hK4 _ ?_
  refine aw_bool (b := (decide ((IntKind.i64.wrap ((List.length a0 : Int) - 4)) < 0))) 11 rfl (fun c5 => ?_) (fun c5 => ?_)
  · have h := ifT c5 h
    refine aw_cond_t (by decide) rfl ?_
    refine aw_seq_k (fun K6 hK6 => ?_)
    refine aw_regL ?_
    refine alP (some 2) rfl rfl (does_assign (v := .nil) (by exact rfl)) (by decide) ?_
    refine alP (some 3) rfl rfl (does_assign (v := .bool false) (by exact rfl)) (by decide) ?_
    refine al_nil ?_
    refine hK6 _ ?_
    refine aw_reb (reb_w (tl' := [(2, .sl 1 (List.map enc5 [])), (3, .bool false)]) (ol' := []) (reb_lit [(2, .nil), (3, .bool false)] [] [] [] (envOk_cons (by conv => lhs; whnf) (by exact rfl) (envOk_cons (by conv => lhs; whnf) (by exact rfl) envOk_nil)) objOk_nil (nodup_b rfl) (nodup_b rfl) rfl rfl) ⟨rfl, (le_nil _), rfl, le_refl _, trivial⟩ trivial) ?_
    refine aw_ret ?_
    obtain rfl := Option.some.inj h
    exact ret_ok1 (by conv => lhs; whnf) (by conv => lhs; whnf) (by exact rfl) (.inr rfl) rfl
  · have h := ifF c5 h
    refine aw_cond_f (by decide) rfl ?_
    refine aw_skip ?_
    refine hK3 _ ?_
    refine aw_seq_k (fun K7 hK7 => ?_)
    refine aw_regL ?_
    refine alP (some 13) rfl rfl (does_move (v := .sl 1 (List.map enc5 a0)) (by exact rfl)) (by decide) ?_
    refine alP (some 14) rfl rfl (does_move (v := .int .i64 (IntKind.i64.wrap ((List.length a0 : Int) - 4))) (by exact rfl)) (by decide) ?_
    obtain ⟨g8, h⟩ := gd_some h
    obtain ⟨g9, h⟩ := gd_some h
    refine alP (some 15) rfl rfl (does_slice_sl (l := (Int.toNat (IntKind.i64.wrap ((List.length a0 : Int) - 4)))) (by conv => lhs; whnf) ty43 ty5 (bd_some (by conv => lhs; whnf) (by exact (nat_of g8))) bd_none (by (try simp only [List.length_map]); omega) (by (try simp only [List.length_map]); omega) (by exact part_l _ _)) (by decide) ?_
    obtain ⟨x10, hx10, h⟩ := bnd_some h
    refine alD (some 16) rfl rfl (do_call0 16 false (check_Get_ok (List.drop (Int.toNat (IntKind.i64.wrap ((List.length a0 : Int) - 4))) a0) hx10) rfl ent114 rfl rfl) (by decide) ?_
    refine alP (some 12) rfl rfl (does_move (v := .tup [.int .u32 x10.1, .bool x10.2]) (by exact rfl)) (by decide) ?_
    refine alP (some 17) rfl rfl (does_extract (v := .int .u32 x10.1) (by conv => lhs; whnf) (by exact rfl)) (by decide) ?_
    refine alP (some 18) rfl rfl (does_extract (v := .bool x10.2) (by conv => lhs; whnf) (by exact rfl)) (by decide) ?_
    refine alP (some 5) rfl rfl (does_assign (v := .int .u32 x10.1) (by exact rfl)) (by decide) ?_
    refine alP (some 6) rfl rfl (does_assign (v := .bool x10.2) (by exact rfl)) (by decide) ?_
    refine al_nil ?_
    refine hK7 _ ?_
    refine aw_seq_k (fun K11 hK11 => ?_)
    refine aw_regd (by kernel_rfl) (by decide +kernel) ?_
    refine aoP (some 19) rfl rfl (does_move (v := .sl 1 (List.map enc5 a0)) (by exact rfl)) (by decide) ?_
    refine aoP (some 20) rfl rfl (does_move (v := .int .i64 (IntKind.i64.wrap ((List.length a0 : Int) - 4))) (by exact rfl)) (by decide) ?_
    obtain ⟨g12, h⟩ := gd_some h
    obtain ⟨g13, h⟩ := gd_some h
    refine aoP (some 21) rfl rfl (does_slice_sl (l := 0) (k := (Int.toNat (IntKind.i64.wrap ((List.length a0 : Int) - 4)))) (by conv => lhs; whnf) ty43 ty5 bd_none (bd_some (by conv => lhs; whnf) (by exact (nat_of (by omega)))) (by (try simp only [List.length_map]); omega) (by (try simp only [List.length_map]); omega) (by exact part_h _ _)) (by decide) ?_
    refine aoP (some 22) rfl rfl (does_move (v := .bool x10.2) (by exact rfl)) (by decide) ?_
    refine aoP (some 23) rfl rfl (does_move (v := .bool x10.2) (by exact rfl)) (by decide) ?_
    refine ao_bool (c := x10.2) 23 rfl (fun c14 => ?_) (fun c14 => ?_)
    · have h := ifT c14 h
      refine aoP (some 24) rfl rfl (does_move (v := .int .u32 x10.1) (by exact rfl)) (by decide) ?_
      refine aoP (some 25) rfl rfl (does_move (v := .sl 1 (List.map enc5 a0)) (by exact rfl)) (by decide) ?_
      refine aoP (some 26) rfl rfl (does_move (v := .int .i64 (IntKind.i64.wrap ((List.length a0 : Int) - 4))) (by exact rfl)) (by decide) ?_
      obtain ⟨g15, h⟩ := gd_some h
      obtain ⟨g16, h⟩ := gd_some h
      refine aoP (some 27) rfl rfl (does_slice_sl (l := 0) (k := (Int.toNat (IntKind.i64.wrap ((List.length a0 : Int) - 4)))) (by conv => lhs; whnf) ty43 ty5 bd_none (bd_some (by conv => lhs; whnf) (by exact (nat_of (by omega)))) (by (try simp only [List.length_map]); omega) (by (try simp only [List.length_map]); omega) (by exact part_h _ _)) (by decide) ?_
      obtain ⟨x17, hx17, h⟩ := bnd_some h
      refine aoD (some 28) rfl rfl (do_call0 28 false (check_Sum_ok (List.take (Int.toNat (IntKind.i64.wrap ((List.length a0 : Int) - 4))) a0) hx17) rfl ent56 rfl rfl) (by decide) ?_
      refine aoP (some 29) rfl rfl (does_bin (v := .bool (x10.1 == x17)) (by conv => lhs; whnf) (by conv => lhs; whnf) rfl) (by decide) ?_
      refine aoP (some 30) rfl rfl (does_pick (v := .bool (x10.1 == x17)) (by conv => lhs; whnf) (by exact rfl)) (by decide) ?_
      refine aoP (some 2) rfl rfl (does_assign (v := .sl 1 (List.map enc5 (List.take (Int.toNat (IntKind.i64.wrap ((List.length a0 : Int) - 4))) a0))) (by exact rfl)) (by decide) ?_
      refine aoP (some 3) rfl rfl (does_assign (v := .bool (x10.1 == x17)) (by exact rfl)) (by decide) ?_
      refine ao_nil_d (by kernel_rfl) ?_
      refine hK11 _ ?_
      refine aw_ret ?_
      obtain rfl := Option.some.inj h
      exact ret_ok1 (by conv => lhs; whnf) (by conv => lhs; whnf) (by exact rfl) (.inr rfl) rfl
    · have h := ifF c14 h
      refine aoS (some 24) rfl rfl (by decide) ?_
      refine aoS (some 25) rfl rfl (by decide) ?_
      refine aoS (some 26) rfl rfl (by decide) ?_
      refine aoS (some 27) rfl rfl (by decide) ?_
      refine aoS (some 28) rfl rfl (by decide) ?_
      refine aoS (some 29) rfl rfl (by decide) ?_
      refine aoP (some 30) rfl rfl (does_pick (v := .bool false) (by conv => lhs; whnf) (by exact rfl)) (by decide) ?_
      refine aoP (some 2) rfl rfl (does_assign (v := .sl 1 (List.map enc5 (List.take (Int.toNat (IntKind.i64.wrap ((List.length a0 : Int) - 4))) a0))) (by exact rfl)) (by decide) ?_
      refine aoP (some 3) rfl rfl (does_assign (v := .bool false) (by exact rfl)) (by decide) ?_
      refine ao_nil_d (by kernel_rfl) ?_
      refine hK11 _ ?_
      refine aw_ret ?_
      obtain rfl := Option.some.inj h
      exact ret_ok1 (by conv => lhs; whnf) (by conv => lhs; whnf) (by exact rfl) (.inr rfl) rfl
def gleaningref1_More_l1 (v6_0 : Int) (v5_1 : Int) (v7_1 : Int) : Option ((Int × Int) ⊕ ((Int × Int) ⊕ Int)) :=
  if (decide (v7_1 < 8)) = true then (if ((bits .and .u32 v5_1 1) == 1) = true then (some (Sum.inl ((bits .xor .u32 (Int.fdiv v5_1 (2 ^ (min (Int.toNat 1) (IntKind.bits .u32)))) 3988292384), (IntKind.i64.wrap (v7_1 + 1))))) else (some (Sum.inl ((Int.fdiv v5_1 (2 ^ (min (Int.toNat 1) (IntKind.bits .u32)))), (IntKind.i64.wrap (v7_1 + 1)))))) else (some (Sum.inr (Sum.inl (v5_1, (IntKind.i64.wrap (v6_0 + 1))))))
def gleaningref1_More_l0 (a1 : List UInt8) (v5_0 : Int) (v6_0 : Int) : Option ((Int × Int) ⊕ Int) :=
  if (decide (v6_0 < (List.length a1 : Int))) = true then (gd (0 ≤ v6_0) (Option.bind (a1[(Int.toNat v6_0)]?) (fun (x13 : UInt8) => loopN (fun (s : Int × Int) => gleaningref1_More_l1 v6_0 s.1 s.2) Fu ((bits .xor .u32 v5_0 (IntKind.u32.wrap (x13.toNat : Int))), 0)))) else (some (Sum.inr (bits .xor .u32 (if IntKind.signed .u32 then -1 else IntKind.max .u32) v5_0)))
def gleaningref1_More (a0 : Int) (a1 : List UInt8) : Option Int :=
  loopN (fun (s : Int × Int) => gleaningref1_More_l0 a1 s.1 s.2) Fu ((bits .xor .u32 (if IntKind.signed .u32 then -1 else IntKind.max .u32) a0), 0)
set_option maxRecDepth 100000 in
set_option maxHeartbeats 8000000 in
/-- gleaning/gleaningref1.More -/
theorem gleaningref1_More_ok (a0 : Int) (a1 : List UInt8) {r : Int} (h : gleaningref1_More a0 a1 = some r) : Ok Try.prog 87 [.int .u32 a0, .sl 1 (List.map enc5 a1)] [] [] (.int .u32 r) [] [] := by
  unfold gleaningref1_More at h
  refine ok_of_code Try.func87 rfl (by show (2 : Nat) ≤ _; decide) (Nat.le_refl _) fun X => ?_
  refine aw_seq_k (fun K1 hK1 => ?_)
  refine aw_regL ?_
  refine alP (some 4) rfl rfl (does_assign (v := .int .u32 0) (by exact rfl)) (by decide) ?_
  refine al_nil ?_
  refine hK1 _ ?_
  refine aw_seq_k (fun K2 hK2 => ?_)
  refine aw_regL ?_
  refine alP (some 8) rfl rfl (does_move (v := .int .u32 a0) (by exact rfl)) (by decide) ?_
  refine alP (some 9) rfl rfl (does_un (v := .int .u32 (bits .xor .u32 (if IntKind.signed .u32 then -1 else IntKind.max .u32) a0)) (by conv => lhs; whnf) rfl) (by decide) ?_
  refine alP (some 5) rfl rfl (does_assign (v := .int .u32 (bits .xor .u32 (if IntKind.signed .u32 then -1 else IntKind.max .u32) a0)) (by exact rfl)) (by decide) ?_
  refine al_nil ?_
  refine hK2 _ ?_
  refine aw_seq_k (fun K3 hK3 => ?_)
  refine aw_seq_k (fun K4 hK4 => ?_)
  refine aw_regL ?_
  refine alP (some 6) rfl rfl (does_assign (v := .int .i64 0) (by exact rfl)) (by decide) ?_
  refine al_nil ?_
  refine hK4 _ ?_
  refine aw_block ?_
  refine aw_loop' (fun m s => ∃ (v5_0 : Int), ∃ (v6_0 : Int), loopN (fun (s : Int × Int) => gleaningref1_More_l0 a1 s.1 s.2) m (v5_0, v6_0) = some r ∧ s = lit [(1, .sl 1 (List.map enc5 a1)), (5, .int .u32 v5_0), (6, .int .i64 v6_0)] [] [] X) Fu
    ⟨_, reb_lit [(1, .sl 1 (List.map enc5 a1)), (5, .int .u32 (bits .xor .u32 (if IntKind.signed .u32 then -1 else IntKind.max .u32) a0)), (6, .int .i64 (0))] [] [] [] (envOk_cons (by conv => lhs; whnf) (by exact rfl) (envOk_cons (by conv => lhs; whnf) (by exact rfl) (envOk_cons (by conv => lhs; whnf) (by exact rfl) envOk_nil))) objOk_nil (nodup_b rfl) (nodup_b rfl) rfl rfl, (bits .xor .u32 (if IntKind.signed .u32 then -1 else IntKind.max .u32) a0), 0, h, rfl⟩ ?_
  rintro m s ⟨v5_0, v6_0, h, rfl⟩
  obtain ⟨m0, q5, rfl, h, hq6⟩ := loop_some h
  replace h : gleaningref1_More_l0 a1 v5_0 v6_0 = some q5 := h
  unfold gleaningref1_More_l0 at h
  refine aw_seq_k (fun K7 hK7 => ?_)
  refine aw_seq_k (fun K8 hK8 => ?_)
  refine aw_regL ?_
  refine alP (some 10) rfl rfl (does_move (v := .int .i64 v6_0) (by exact rfl)) (by decide) ?_
  refine alP (some 11) rfl rfl (does_move (v := .sl 1 (List.map enc5 a1)) (by exact rfl)) (by decide) ?_
  refine alP (some 12) rfl rfl ((does_len_sl (by conv => lhs; whnf) ty43).castp (v' := .int .i64 (List.length a1 : Int)) (by exact len_map _)) (by decide) ?_
  refine alP (some 13) rfl rfl (does_bin (v := .bool (decide (v6_0 < (List.length a1 : Int)))) (by conv => lhs; whnf) (by conv => lhs; whnf) rfl) (by decide) ?_
  refine al_nil ?_
  refine hK8 _ ?_
  refine aw_bool (b := (decide (v6_0 < (List.length a1 : Int)))) 13 rfl (fun c9 => ?_) (fun c9 => ?_)
  · have h := ifT c9 h
    refine aw_cond_t (by decide) rfl ?_
    refine aw_skip ?_
    refine hK7 _ ?_
    refine aw_seq_k (fun K10 hK10 => ?_)
    refine aw_block ?_
    refine aw_seq_k (fun K11 hK11 => ?_)
    refine aw_regL ?_
    refine alP (some 16) rfl rfl (does_move (v := .int .u32 v5_0) (by exact rfl)) (by decide) ?_
    refine alP (some 17) rfl rfl (does_move (v := .sl 1 (List.map enc5 a1)) (by exact rfl)) (by decide) ?_
    refine alP (some 18) rfl rfl (does_move (v := .int .i64 v6_0) (by exact rfl)) (by decide) ?_
    obtain ⟨g12, h⟩ := gd_some h
    obtain ⟨x13, hx13, h⟩ := bnd_some h
    refine alP (some 19) rfl rfl (does_indexAddr_sl (el := .int .u8 (x13.toNat : Int)) (by conv => lhs; whnf) (by conv => lhs; whnf) ty43 ty5 g12 (by exact map_get hx13)) (by decide) ?_
    refine alR (some 20) rfl rfl (does_load (v := .int .u8 (x13.toNat : Int)) (by conv => lhs; whnf) (by conv => lhs; whnf) ty5 (by exact rfl)) (by decide) ?_
    refine alP (some 21) rfl rfl (does_conv_int (v := .int .u32 (IntKind.u32.wrap (x13.toNat : Int))) (by conv => lhs; whnf) (ty_some ty5) (ty_int ty82) rfl) (by decide) ?_
    refine alP (some 22) rfl rfl (does_bin (v := .int .u32 (bits .xor .u32 v5_0 (IntKind.u32.wrap (x13.toNat : Int)))) (by conv => lhs; whnf) (by conv => lhs; whnf) rfl) (by decide) ?_
    refine alP (some 5) rfl rfl (does_assign (v := .int .u32 (bits .xor .u32 v5_0 (IntKind.u32.wrap (x13.toNat : Int)))) (by exact rfl)) (by decide) ?_
    refine al_nil ?_
    refine hK11 _ ?_
    refine aw_seq_k (fun K14 hK14 => ?_)
    refine aw_regL ?_
    refine alP (some 7) rfl rfl (does_assign (v := .int .i64 0) (by exact rfl)) (by decide) ?_
    refine al_nil ?_
    refine hK14 _ ?_
    refine aw_block ?_
    refine aw_loop' (fun m s => ∃ (v5_1 : Int), ∃ (v7_1 : Int), loopN (fun (s : Int × Int) => gleaningref1_More_l1 v6_0 s.1 s.2) m (v5_1, v7_1) = some q5 ∧ s = lit [(1, .sl 1 (List.map enc5 a1)), (5, .int .u32 v5_1), (6, .int .i64 v6_0), (7, .int .i64 v7_1)] [] [] X) Fu
      ⟨_, reb_lit [(1, .sl 1 (List.map enc5 a1)), (5, .int .u32 (bits .xor .u32 v5_0 (IntKind.u32.wrap (x13.toNat : Int)))), (6, .int .i64 v6_0), (7, .int .i64 (0))] [] [] [] (envOk_cons (by conv => lhs; whnf) (by exact rfl) (envOk_cons (by conv => lhs; whnf) (by exact rfl) (envOk_cons (by conv => lhs; whnf) (by exact rfl) (envOk_cons (by conv => lhs; whnf) (by exact rfl) envOk_nil)))) objOk_nil (nodup_b rfl) (nodup_b rfl) rfl rfl, (bits .xor .u32 v5_0 (IntKind.u32.wrap (x13.toNat : Int))), 0, h, rfl⟩ ?_
    rintro m s ⟨v5_1, v7_1, h, rfl⟩
    obtain ⟨m1, q15, rfl, h, hq16⟩ := loop_some h
    replace h : gleaningref1_More_l1 v6_0 v5_1 v7_1 = some q15 := h
    unfold gleaningref1_More_l1 at h
    refine aw_seq_k (fun K17 hK17 => ?_)
    refine aw_seq_k (fun K18 hK18 => ?_)
    refine aw_regL ?_
    refine alP (some 23) rfl rfl (does_move (v := .int .i64 v7_1) (by exact rfl)) (by decide) ?_
    refine alP (some 24) rfl rfl (does_bin (v := .bool (decide (v7_1 < 8))) (by conv => lhs; whnf) (by conv => lhs; whnf) rfl) (by decide) ?_
    refine al_nil ?_
    refine hK18 _ ?_
    refine aw_bool (b := (decide (v7_1 < 8))) 24 rfl (fun c19 => ?_) (fun c19 => ?_)
    · have h := ifT c19 h
      refine aw_cond_t (by decide) rfl ?_
      refine aw_skip ?_
      refine hK17 _ ?_
      refine aw_seq_k (fun K20 hK20 => ?_)
      refine aw_block ?_
      refine aw_seq_k (fun K21 hK21 => ?_)
      refine aw_regL ?_
      refine alP (some 27) rfl rfl (does_move (v := .int .u32 v5_1) (by exact rfl)) (by decide) ?_
      refine alP (some 28) rfl rfl (does_bin (v := .int .u32 (bits .and .u32 v5_1 1)) (by conv => lhs; whnf) (by conv => lhs; whnf) rfl) (by decide) ?_
      refine alP (some 29) rfl rfl (does_bin (v := .bool ((bits .and .u32 v5_1 1) == 1)) (by conv => lhs; whnf) (by conv => lhs; whnf) rfl) (by decide) ?_
      refine al_nil ?_
      refine hK21 _ ?_
      refine aw_bool (b := ((bits .and .u32 v5_1 1) == 1)) 29 rfl (fun c22 => ?_) (fun c22 => ?_)
      · have h := ifT c22 h
        refine aw_cond_t (by decide) rfl ?_
        refine aw_regL ?_
        refine alP (some 30) rfl rfl (does_move (v := .int .u32 v5_1) (by exact rfl)) (by decide) ?_
        refine alP (some 31) rfl rfl (does_bin (v := .int .u32 (Int.fdiv v5_1 (2 ^ (min (Int.toNat 1) (IntKind.bits .u32))))) (by conv => lhs; whnf) (by conv => lhs; whnf) rfl) (by decide) ?_
        refine alP (some 32) rfl rfl (does_bin (v := .int .u32 (bits .xor .u32 (Int.fdiv v5_1 (2 ^ (min (Int.toNat 1) (IntKind.bits .u32)))) 3988292384)) (by conv => lhs; whnf) (by conv => lhs; whnf) rfl) (by decide) ?_
        refine alP (some 5) rfl rfl (does_assign (v := .int .u32 (bits .xor .u32 (Int.fdiv v5_1 (2 ^ (min (Int.toNat 1) (IntKind.bits .u32)))) 3988292384)) (by exact rfl)) (by decide) ?_
        refine al_nil ?_
        refine hK20 _ ?_
        refine aw_regL ?_
        refine alP (some 25) rfl rfl (does_move (v := .int .i64 v7_1) (by exact rfl)) (by decide) ?_
        refine alP (some 26) rfl rfl (does_bin (v := .int .i64 (IntKind.i64.wrap (v7_1 + 1))) (by conv => lhs; whnf) (by conv => lhs; whnf) rfl) (by decide) ?_
        refine alP (some 7) rfl rfl (does_assign (v := .int .i64 (IntKind.i64.wrap (v7_1 + 1))) (by exact rfl)) (by decide) ?_
        refine al_nil ?_
        have h := leafL h hq16
        exact ⟨m1, Nat.lt_succ_self _, _, reb_lit [(1, .sl 1 (List.map enc5 a1)), (5, .int .u32 (bits .xor .u32 (Int.fdiv v5_1 (2 ^ (min (Int.toNat 1) (IntKind.bits .u32)))) 3988292384)), (6, .int .i64 v6_0), (7, .int .i64 (IntKind.i64.wrap (v7_1 + 1)))] [] [] [] (envOk_cons (by conv => lhs; whnf) (by exact rfl) (envOk_cons (by conv => lhs; whnf) (by exact rfl) (envOk_cons (by conv => lhs; whnf) (by exact rfl) (envOk_cons (by conv => lhs; whnf) (by exact rfl) envOk_nil)))) objOk_nil (nodup_b rfl) (nodup_b rfl) rfl rfl, (bits .xor .u32 (Int.fdiv v5_1 (2 ^ (min (Int.toNat 1) (IntKind.bits .u32)))) 3988292384), (IntKind.i64.wrap (v7_1 + 1)), h, rfl⟩
      · have h := ifF c22 h
        refine aw_cond_f (by decide) rfl ?_
        refine aw_regL ?_
        refine alP (some 33) rfl rfl (does_move (v := .int .u32 v5_1) (by exact rfl)) (by decide) ?_
        refine alP (some 34) rfl rfl (does_bin (v := .int .u32 (Int.fdiv v5_1 (2 ^ (min (Int.toNat 1) (IntKind.bits .u32))))) (by conv => lhs; whnf) (by conv => lhs; whnf) rfl) (by decide) ?_
        refine alP (some 5) rfl rfl (does_assign (v := .int .u32 (Int.fdiv v5_1 (2 ^ (min (Int.toNat 1) (IntKind.bits .u32))))) (by exact rfl)) (by decide) ?_
        refine al_nil ?_
        refine hK20 _ ?_
        refine aw_regL ?_
        refine alP (some 25) rfl rfl (does_move (v := .int .i64 v7_1) (by exact rfl)) (by decide) ?_
        refine alP (some 26) rfl rfl (does_bin (v := .int .i64 (IntKind.i64.wrap (v7_1 + 1))) (by conv => lhs; whnf) (by conv => lhs; whnf) rfl) (by decide) ?_
        refine alP (some 7) rfl rfl (does_assign (v := .int .i64 (IntKind.i64.wrap (v7_1 + 1))) (by exact rfl)) (by decide) ?_
        refine al_nil ?_
        have h := leafL h hq16
        exact ⟨m1, Nat.lt_succ_self _, _, reb_lit [(1, .sl 1 (List.map enc5 a1)), (5, .int .u32 (Int.fdiv v5_1 (2 ^ (min (Int.toNat 1) (IntKind.bits .u32))))), (6, .int .i64 v6_0), (7, .int .i64 (IntKind.i64.wrap (v7_1 + 1)))] [] [] [] (envOk_cons (by conv => lhs; whnf) (by exact rfl) (envOk_cons (by conv => lhs; whnf) (by exact rfl) (envOk_cons (by conv => lhs; whnf) (by exact rfl) (envOk_cons (by conv => lhs; whnf) (by exact rfl) envOk_nil)))) objOk_nil (nodup_b rfl) (nodup_b rfl) rfl rfl, (Int.fdiv v5_1 (2 ^ (min (Int.toNat 1) (IntKind.bits .u32)))), (IntKind.i64.wrap (v7_1 + 1)), h, rfl⟩
    · have h := ifF c19 h
      refine aw_cond_f (by decide) rfl ?_
      refine aw_exit ?_
      have h := leafR h hq16
      refine hK10 _ ?_
      refine aw_regL ?_
      refine alP (some 14) rfl rfl (does_move (v := .int .i64 v6_0) (by exact rfl)) (by decide) ?_
      refine alP (some 15) rfl rfl (does_bin (v := .int .i64 (IntKind.i64.wrap (v6_0 + 1))) (by conv => lhs; whnf) (by conv => lhs; whnf) rfl) (by decide) ?_
      refine alP (some 6) rfl rfl (does_assign (v := .int .i64 (IntKind.i64.wrap (v6_0 + 1))) (by exact rfl)) (by decide) ?_
      refine al_nil ?_
      have h := leafL h hq6
      exact ⟨m0, Nat.lt_succ_self _, _, reb_lit [(1, .sl 1 (List.map enc5 a1)), (5, .int .u32 v5_1), (6, .int .i64 (IntKind.i64.wrap (v6_0 + 1)))] [] [] [] (envOk_cons (by conv => lhs; whnf) (by exact rfl) (envOk_cons (by conv => lhs; whnf) (by exact rfl) (envOk_cons (by conv => lhs; whnf) (by exact rfl) envOk_nil))) objOk_nil (nodup_b rfl) (nodup_b rfl) rfl rfl, v5_1, (IntKind.i64.wrap (v6_0 + 1)), h, rfl⟩
  · have h := ifF c9 h
    refine aw_cond_f (by decide) rfl ?_
    refine aw_exit ?_
    have h := leafR h hq6
    refine hK3 _ ?_
    refine aw_seq_k (fun K23 hK23 => ?_)
    refine aw_regL ?_
    refine alP (some 35) rfl rfl (does_move (v := .int .u32 v5_0) (by exact rfl)) (by decide) ?_
    refine alP (some 36) rfl rfl (does_un (v := .int .u32 (bits .xor .u32 (if IntKind.signed .u32 then -1 else IntKind.max .u32) v5_0)) (by conv => lhs; whnf) rfl) (by decide) ?_
    refine alP (some 4) rfl rfl (does_assign (v := .int .u32 (bits .xor .u32 (if IntKind.signed .u32 then -1 else IntKind.max .u32) v5_0)) (by exact rfl)) (by decide) ?_
    refine al_nil ?_
    refine hK23 _ ?_
    refine aw_ret ?_
    obtain rfl := Option.some.inj h
    exact ret_ok1 (by conv => lhs; whnf) (by conv => lhs; whnf) (by exact rfl) (.inr rfl) rfl
def gleaningref1_Sum (a0 : List UInt8) : Option Int :=
  Option.bind (gleaningref1_More 0 a0) (fun (x3 : Int) => some x3)
set_option maxRecDepth 100000 in
set_option maxHeartbeats 8000000 in
/-- gleaning/gleaningref1.Sum -/
theorem gleaningref1_Sum_ok (a0 : List UInt8) {r : Int} (h : gleaningref1_Sum a0 = some r) : Ok Try.prog 57 [.sl 1 (List.map enc5 a0)] [] [] (.int .u32 r) [] [] := by
  unfold gleaningref1_Sum at h
  refine ok_of_code Try.func57 rfl (by show (1 : Nat) ≤ _; decide) (Nat.le_refl _) fun X => ?_
  refine aw_seq_k (fun K1 hK1 => ?_)
  refine aw_regL ?_
  refine alP (some 2) rfl rfl (does_assign (v := .int .u32 0) (by exact rfl)) (by decide) ?_
  refine al_nil ?_
  refine hK1 _ ?_
  refine aw_seq_k (fun K2 hK2 => ?_)
  refine aw_regL ?_
  refine alP (some 3) rfl rfl (does_move (v := .sl 1 (List.map enc5 a0)) (by exact rfl)) (by decide) ?_
  obtain ⟨x3, hx3, h⟩ := bnd_some h
  refine alD (some 4) rfl rfl (do_call0 4 false (gleaningref1_More_ok 0 a0 hx3) rfl ent87 rfl rfl) (by decide) ?_
  refine alP (some 2) rfl rfl (does_assign (v := .int .u32 x3) (by exact rfl)) (by decide) ?_
  refine al_nil ?_
  refine hK2 _ ?_
  refine aw_ret ?_
  obtain rfl := Option.some.inj h
  exact ret_ok1 (by conv => lhs; whnf) (by conv => lhs; whnf) (by exact rfl) (.inr rfl) rfl
def gleaningref1_four (a0 : Int) : Option (List UInt8) :=
  some [(u8 (IntKind.u8.wrap (bits .and .u32 a0 255))), (u8 (IntKind.u8.wrap (bits .and .u32 (Int.fdiv a0 (2 ^ (min (Int.toNat 8) (IntKind.bits .u32)))) 255))), (u8 (IntKind.u8.wrap (bits .and .u32 (Int.fdiv a0 (2 ^ (min (Int.toNat 16) (IntKind.bits .u32)))) 255))), (u8 (IntKind.u8.wrap (Int.fdiv a0 (2 ^ (min (Int.toNat 24) (IntKind.bits .u32))))))]
set_option maxRecDepth 100000 in
set_option maxHeartbeats 8000000 in
/-- gleaning/gleaningref1.four -/
theorem gleaningref1_four_ok (a0 : Int) {r : List UInt8} (h : gleaningref1_four a0 = some r) : Ok Try.prog 115 [.int .u32 a0] [] [] (.own 2 0) [] [(5, 1, List.map enc5 r)] := by
  unfold gleaningref1_four at h
  refine ok_of_code Try.func115 rfl (by show (1 : Nat) ≤ _; decide) (Nat.le_refl _) fun X => ?_
  refine aw_seq_k (fun K1 hK1 => ?_)
  refine aw_regL ?_
  refine alP (some 2) rfl rfl (does_assign (v := .nil) (by exact rfl)) (by decide) ?_
  refine al_nil ?_
  refine hK1 _ ?_
  refine aw_seq_k (fun K2 hK2 => ?_)
  refine aw_regL ?_
  refine alP (some 3) rfl rfl (does_move (v := .int .u32 a0) (by exact rfl)) (by decide) ?_
  refine alP (some 4) rfl rfl (does_bin (v := .int .u32 (bits .and .u32 a0 255)) (by conv => lhs; whnf) (by conv => lhs; whnf) rfl) (by decide) ?_
  refine alP (some 5) rfl rfl ((does_conv_int (v := .int .u8 (IntKind.u8.wrap (bits .and .u32 a0 255))) (by conv => lhs; whnf) (ty_some ty82) (ty_int ty5) rfl).castp (v' := .int .u8 ((u8 (IntKind.u8.wrap (bits .and .u32 a0 255))).toNat : Int)) (by exact congrArg _ (u8_eq (u8_wrap _)))) (by decide) ?_
  refine alP (some 6) rfl rfl (does_move (v := .int .u32 a0) (by exact rfl)) (by decide) ?_
  refine alP (some 7) rfl rfl (does_bin (v := .int .u32 (Int.fdiv a0 (2 ^ (min (Int.toNat 8) (IntKind.bits .u32))))) (by conv => lhs; whnf) (by conv => lhs; whnf) rfl) (by decide) ?_
  refine alP (some 8) rfl rfl (does_bin (v := .int .u32 (bits .and .u32 (Int.fdiv a0 (2 ^ (min (Int.toNat 8) (IntKind.bits .u32)))) 255)) (by conv => lhs; whnf) (by conv => lhs; whnf) rfl) (by decide) ?_
  refine alP (some 9) rfl rfl ((does_conv_int (v := .int .u8 (IntKind.u8.wrap (bits .and .u32 (Int.fdiv a0 (2 ^ (min (Int.toNat 8) (IntKind.bits .u32)))) 255))) (by conv => lhs; whnf) (ty_some ty82) (ty_int ty5) rfl).castp (v' := .int .u8 ((u8 (IntKind.u8.wrap (bits .and .u32 (Int.fdiv a0 (2 ^ (min (Int.toNat 8) (IntKind.bits .u32)))) 255))).toNat : Int)) (by exact congrArg _ (u8_eq (u8_wrap _)))) (by decide) ?_
  refine alP (some 10) rfl rfl (does_move (v := .int .u32 a0) (by exact rfl)) (by decide) ?_
  refine alP (some 11) rfl rfl (does_bin (v := .int .u32 (Int.fdiv a0 (2 ^ (min (Int.toNat 16) (IntKind.bits .u32))))) (by conv => lhs; whnf) (by conv => lhs; whnf) rfl) (by decide) ?_
  refine alP (some 12) rfl rfl (does_bin (v := .int .u32 (bits .and .u32 (Int.fdiv a0 (2 ^ (min (Int.toNat 16) (IntKind.bits .u32)))) 255)) (by conv => lhs; whnf) (by conv => lhs; whnf) rfl) (by decide) ?_
  refine alP (some 13) rfl rfl ((does_conv_int (v := .int .u8 (IntKind.u8.wrap (bits .and .u32 (Int.fdiv a0 (2 ^ (min (Int.toNat 16) (IntKind.bits .u32)))) 255))) (by conv => lhs; whnf) (ty_some ty82) (ty_int ty5) rfl).castp (v' := .int .u8 ((u8 (IntKind.u8.wrap (bits .and .u32 (Int.fdiv a0 (2 ^ (min (Int.toNat 16) (IntKind.bits .u32)))) 255))).toNat : Int)) (by exact congrArg _ (u8_eq (u8_wrap _)))) (by decide) ?_
  refine alP (some 14) rfl rfl (does_move (v := .int .u32 a0) (by exact rfl)) (by decide) ?_
  refine alP (some 15) rfl rfl (does_bin (v := .int .u32 (Int.fdiv a0 (2 ^ (min (Int.toNat 24) (IntKind.bits .u32))))) (by conv => lhs; whnf) (by conv => lhs; whnf) rfl) (by decide) ?_
  refine alP (some 16) rfl rfl ((does_conv_int (v := .int .u8 (IntKind.u8.wrap (Int.fdiv a0 (2 ^ (min (Int.toNat 24) (IntKind.bits .u32)))))) (by conv => lhs; whnf) (ty_some ty82) (ty_int ty5) rfl).castp (v' := .int .u8 ((u8 (IntKind.u8.wrap (Int.fdiv a0 (2 ^ (min (Int.toNat 24) (IntKind.bits .u32)))))).toNat : Int)) (by exact congrArg _ (u8_eq (u8_wrap _)))) (by decide) ?_
  refine alD (some 17) rfl rfl (do_buildSlice (xs := List.map enc5 [(u8 (IntKind.u8.wrap (bits .and .u32 a0 255))), (u8 (IntKind.u8.wrap (bits .and .u32 (Int.fdiv a0 (2 ^ (min (Int.toNat 8) (IntKind.bits .u32)))) 255))), (u8 (IntKind.u8.wrap (bits .and .u32 (Int.fdiv a0 (2 ^ (min (Int.toNat 16) (IntKind.bits .u32)))) 255))), (u8 (IntKind.u8.wrap (Int.fdiv a0 (2 ^ (min (Int.toNat 24) (IntKind.bits .u32))))))]) ty43 ty5 rfl rfl rfl rfl rfl rfl rfl rfl) (by decide) ?_
  refine alP (some 2) rfl rfl (does_assign (v := .own 17 0) (by exact rfl)) (by decide) ?_
  refine al_nil ?_
  refine hK2 _ ?_
  refine aw_ret ?_
  obtain rfl := Option.some.inj h
  exact ret_okR [(17, 0)] (by conv => lhs; whnf) (by conv => lhs; whnf) (by exact rfl) (rowsOk_cons (by conv => lhs; whnf) (by exact rfl) trivial) (nodup_b rfl) (.inr rfl) rfl
def gleaningref1_Sealed (a0 : List UInt8) : Option (List UInt8) :=
  gd ((List.length a0) * 1 ≤ 140737488355328 ∧ (List.length a0) ≤ 140737488355328) (Option.bind (gleaningref1_Sum a0) (fun (x4 : Int) => Option.bind (gleaningref1_four x4) (fun (x5 : List UInt8) => gd ((List.length (a0 ++ x5)) * 1 ≤ 140737488355328 ∧ (List.length (a0 ++ x5)) ≤ 140737488355328) (some (a0 ++ x5)))))
set_option maxRecDepth 100000 in
set_option maxHeartbeats 8000000 in
/-- gleaning/gleaningref1.Sealed -/
theorem gleaningref1_Sealed_ok (a0 : List UInt8) {r : List UInt8} (h : gleaningref1_Sealed a0 = some r) : Ok Try.prog 85 [.sl 1 (List.map enc5 a0)] [] [] (.own 2 0) [] [(5, 1, List.map enc5 r)] := by
  unfold gleaningref1_Sealed at h
  refine ok_of_code Try.func85 rfl (by show (1 : Nat) ≤ _; decide) (Nat.le_refl _) fun X => ?_
  refine aw_seq_k (fun K1 hK1 => ?_)
  refine aw_regL ?_
  refine alP (some 2) rfl rfl (does_assign (v := .nil) (by exact rfl)) (by decide) ?_
  refine al_nil ?_
  refine hK1 _ ?_
  refine aw_seq_k (fun K2 hK2 => ?_)
  refine aw_regL ?_
  refine alP (some 3) rfl rfl (does_move (v := .sl 1 (List.map enc5 a0)) (by exact rfl)) (by decide) ?_
  obtain ⟨g3, h⟩ := gd_some h
  refine alD (some 4) rfl rfl (do_append (v := List.map enc5 a0) (by conv => lhs; whnf) (by conv => lhs; whnf) ty43 ty5 rfl rfl (by conv => lhs; whnf) (by first | exact .inl rfl | exact .inr ⟨rfl, rfl⟩) (by conv => lhs; whnf) (by first | exact .inr rfl | exact .inl rfl) (List.nil_append _) (fit_map g3)) (by decide) ?_
  refine alP (some 5) rfl rfl (does_move (v := .sl 1 (List.map enc5 a0)) (by exact rfl)) (by decide) ?_
  obtain ⟨x4, hx4, h⟩ := bnd_some h
  refine alD (some 6) rfl rfl (do_call0 6 false (gleaningref1_Sum_ok a0 hx4) rfl ent57 rfl rfl) (by decide) ?_
  obtain ⟨x5, hx5, h⟩ := bnd_some h
  refine alD (some 7) rfl rfl (do_call0 7 false (gleaningref1_four_ok x4 hx5) rfl ent115 rfl rfl) (by decide) ?_
  obtain ⟨g6, h⟩ := gd_some h
  refine alD (some 8) rfl rfl (do_append (v := List.map enc5 (a0 ++ x5)) (by conv => lhs; whnf) (by conv => lhs; whnf) ty43 ty5 rfl rfl (by conv => lhs; whnf) (by first | exact .inl rfl | exact .inr ⟨rfl, rfl⟩) (by conv => lhs; whnf) (by first | exact .inr rfl | exact .inl rfl) (map_app _ _) (fit_map g6)) (by decide) ?_
  refine alP (some 2) rfl rfl (does_assign (v := .own 8 0) (by exact rfl)) (by decide) ?_
  refine al_nil ?_
  refine hK2 _ ?_
  refine aw_ret ?_
  obtain rfl := Option.some.inj h
  exact ret_okR [(8, 0)] (by conv => lhs; whnf) (by conv => lhs; whnf) (by exact rfl) (rowsOk_cons (by conv => lhs; whnf) (by exact rfl) trivial) (nodup_b rfl) (.inr rfl) rfl
def gleaningref1_Open_k0 (a0 : List UInt8) : Option (List UInt8 × Bool) :=
  gd (0 ≤ (IntKind.i64.wrap ((List.length a0 : Int) - 4))) (gd ((IntKind.i64.wrap ((List.length a0 : Int) - 4)) ≤ (List.length a0 : Int)) (some ((List.take (Int.toNat (IntKind.i64.wrap ((List.length a0 : Int) - 4))) a0), true)))
def gleaningref1_Open (a0 : List UInt8) : Option (List UInt8 × Bool) :=
  Option.bind (if (decide ((IntKind.i64.wrap ((List.length a0 : Int) - 4)) < 0)) = true then (some (Sum.inr ([], false))) else (gd (0 ≤ (IntKind.i64.wrap ((List.length a0 : Int) - 4))) (gd ((IntKind.i64.wrap ((List.length a0 : Int) - 4)) ≤ (List.length a0 : Int)) (Option.bind (gleaningref1_Sum (List.take (Int.toNat (IntKind.i64.wrap ((List.length a0 : Int) - 4))) a0)) (fun (x10 : Int) => Option.bind (gleaningref1_four x10) (fun (x11 : List UInt8) => gd (0 ≤ (IntKind.i64.wrap ((List.length a0 : Int) - 4))) (gd ((IntKind.i64.wrap ((List.length a0 : Int) - 4)) ≤ (List.length a0 : Int)) (if (!(ByteArray.toList (strOf x11) == ByteArray.toList (strOf (List.drop (Int.toNat (IntKind.i64.wrap ((List.length a0 : Int) - 4))) a0)))) = true then (some (Sum.inr ([], false))) else (some (Sum.inl ())))))))))) (Sum.elim (fun (s : Unit) => gleaningref1_Open_k0 a0) some)
set_option maxRecDepth 100000 in
set_option maxHeartbeats 8000000 in
/-- gleaning/gleaningref1.Open -/
theorem gleaningref1_Open_ok (a0 : List UInt8) {r : List UInt8 × Bool} (h : gleaningref1_Open a0 = some r) : Ok Try.prog 81 [.sl 1 (List.map enc5 a0)] [] [] (.tup [.sl 1 (List.map enc5 r.1), .bool r.2]) [] [] := by
  unfold gleaningref1_Open at h
  refine ok_of_code Try.func81 rfl (by show (1 : Nat) ≤ _; decide) (Nat.le_refl _) fun X => ?_
  refine aw_seq_k (fun K1 hK1 => ?_)
  refine aw_regL ?_
  refine alP (some 2) rfl rfl (does_assign (v := .nil) (by exact rfl)) (by decide) ?_
  refine alP (some 3) rfl rfl (does_assign (v := .bool false) (by exact rfl)) (by decide) ?_
  refine al_nil ?_
  refine hK1 _ ?_
  refine aw_seq_k (fun K2 hK2 => ?_)
  refine aw_regL ?_
  refine alP (some 5) rfl rfl (does_move (v := .sl 1 (List.map enc5 a0)) (by exact rfl)) (by decide) ?_
  refine alP (some 6) rfl rfl ((does_len_sl (by conv => lhs; whnf) ty43).castp (v' := .int .i64 (List.length a0 : Int)) (by exact len_map _)) (by decide) ?_
  refine alP (some 7) rfl rfl (does_bin (v := .int .i64 (IntKind.i64.wrap ((List.length a0 : Int) - 4))) (by conv => lhs; whnf) (by conv => lhs; whnf) rfl) (by decide) ?_
  refine alP (some 4) rfl rfl (does_assign (v := .int .i64 (IntKind.i64.wrap ((List.length a0 : Int) - 4))) (by exact rfl)) (by decide) ?_
  refine al_nil ?_
  refine hK2 _ ?_
  obtain ⟨q3, h, hk4⟩ := bnd_some h
  refine aw_cut (fun s => gleaningref1_Open_k0 a0 = some r ∧ s = lit [(0, .sl 1 (List.map enc5 a0)), (4, .int .i64 (IntKind.i64.wrap ((List.length a0 : Int) - 4)))] [] [] X) ?_ ?_
  · skip
    refine aw_seq_k (fun K5 hK5 => ?_)
    refine aw_regd (by kernel_rfl) (by decide +kernel) ?_
    refine aoP (some 8) rfl rfl (does_move (v := .int .i64 (IntKind.i64.wrap ((List.length a0 : Int) - 4))) (by exact rfl)) (by decide) ?_
    refine aoP (some 9) rfl rfl (does_bin (v := .bool (decide ((IntKind.i64.wrap ((List.length a0 : Int) - 4)) < 0))) (by conv => lhs; whnf) (by conv => lhs; whnf) rfl) (by decide) ?_
    refine aoP (some 10) rfl rfl (does_move (v := .bool (decide ((IntKind.i64.wrap ((List.length a0 : Int) - 4)) < 0))) (by exact rfl)) (by decide) ?_
    refine ao_bool (c := (decide ((IntKind.i64.wrap ((List.length a0 : Int) - 4)) < 0))) 10 rfl (fun c6 => ?_) (fun c6 => ?_)
    · have h := ifT c6 h
      refine aoS (some 11) rfl rfl (by decide) ?_
      refine aoS (some 12) rfl rfl (by decide) ?_
      refine aoS (some 13) rfl rfl (by decide) ?_
      refine aoS (some 14) rfl rfl (by decide) ?_
      refine aoS (some 15) rfl rfl (by decide) ?_
      refine aoS (some 16) rfl rfl (by decide) ?_
      refine aoS (some 17) rfl rfl (by decide) ?_
      refine aoS (some 18) rfl rfl (by decide) ?_
      refine aoS (some 19) rfl rfl (by decide) ?_
      refine aoS (some 20) rfl rfl (by decide) ?_
      refine aoS (some 21) rfl rfl (by decide) ?_
      refine aoP (some 22) rfl rfl (does_pick (v := .bool true) (by conv => lhs; whnf) (by exact rfl)) (by decide) ?_
      refine ao_nil_d (by kernel_rfl) ?_
      refine hK5 _ ?_
      refine aw_cond_t (by decide) rfl ?_
      refine aw_seq_k (fun K7 hK7 => ?_)
      refine aw_regL ?_
      refine alP (some 2) rfl rfl (does_assign (v := .nil) (by exact rfl)) (by decide) ?_
      refine alP (some 3) rfl rfl (does_assign (v := .bool false) (by exact rfl)) (by decide) ?_
      refine al_nil ?_
      refine hK7 _ ?_
      refine aw_reb (reb_w (tl' := [(2, .sl 1 (List.map enc5 [])), (3, .bool false)]) (ol' := []) (reb_lit [(2, .nil), (3, .bool false)] [] [] [] (envOk_cons (by conv => lhs; whnf) (by exact rfl) (envOk_cons (by conv => lhs; whnf) (by exact rfl) envOk_nil)) objOk_nil (nodup_b rfl) (nodup_b rfl) rfl rfl) ⟨rfl, (le_nil _), rfl, le_refl _, trivial⟩ trivial) ?_
      refine aw_ret ?_
      have h := leafR h hk4
      obtain rfl := Option.some.inj h
      exact ret_ok1 (by conv => lhs; whnf) (by conv => lhs; whnf) (by exact rfl) (.inr rfl) rfl
    · have h := ifF c6 h
      refine aoP (some 11) rfl rfl (does_move (v := .sl 1 (List.map enc5 a0)) (by exact rfl)) (by decide) ?_
      refine aoP (some 12) rfl rfl (does_move (v := .int .i64 (IntKind.i64.wrap ((List.length a0 : Int) - 4))) (by exact rfl)) (by decide) ?_
      obtain ⟨g8, h⟩ := gd_some h
      obtain ⟨g9, h⟩ := gd_some h
      refine aoP (some 13) rfl rfl (does_slice_sl (l := 0) (k := (Int.toNat (IntKind.i64.wrap ((List.length a0 : Int) - 4)))) (by conv => lhs; whnf) ty43 ty5 bd_none (bd_some (by conv => lhs; whnf) (by exact (nat_of (by omega)))) (by (try simp only [List.length_map]); omega) (by (try simp only [List.length_map]); omega) (by exact part_h _ _)) (by decide) ?_
      obtain ⟨x10, hx10, h⟩ := bnd_some h
      refine aoD (some 14) rfl rfl (do_call0 14 false (gleaningref1_Sum_ok (List.take (Int.toNat (IntKind.i64.wrap ((List.length a0 : Int) - 4))) a0) hx10) rfl ent57 rfl rfl) (by decide) ?_
      obtain ⟨x11, hx11, h⟩ := bnd_some h
      refine aoD (some 15) rfl rfl (do_call0 15 false (gleaningref1_four_ok x10 hx11) rfl ent115 rfl rfl) (by decide) ?_
      refine aoR (some 16) rfl rfl (does_bytes_str (l := x11) (f := enc5) (by conv => lhs; whnf) (by conv => lhs; whnf) (Nat.le_refl 1) (ty_slice ty43) (ty_int ty5) (ty_str ty9) (fun _ => rfl)) (by decide) ?_
      refine aoP (some 17) rfl rfl (does_move (v := .sl 1 (List.map enc5 a0)) (by exact rfl)) (by decide) ?_
      refine aoP (some 18) rfl rfl (does_move (v := .int .i64 (IntKind.i64.wrap ((List.length a0 : Int) - 4))) (by exact rfl)) (by decide) ?_
      obtain ⟨g12, h⟩ := gd_some h
      obtain ⟨g13, h⟩ := gd_some h
      refine aoP (some 19) rfl rfl (does_slice_sl (l := (Int.toNat (IntKind.i64.wrap ((List.length a0 : Int) - 4)))) (by conv => lhs; whnf) ty43 ty5 (bd_some (by conv => lhs; whnf) (by exact (nat_of g12))) bd_none (by (try simp only [List.length_map]); omega) (by (try simp only [List.length_map]); omega) (by exact part_l _ _)) (by decide) ?_
      refine aoR (some 20) rfl rfl (does_bytes_str (l := (List.drop (Int.toNat (IntKind.i64.wrap ((List.length a0 : Int) - 4))) a0)) (f := enc5) (by conv => lhs; whnf) (by conv => lhs; whnf) (Nat.le_refl 1) (ty_slice ty43) (ty_int ty5) (ty_str ty9) (fun _ => rfl)) (by decide) ?_
      refine aoP (some 21) rfl rfl (does_bin (v := .bool (!(ByteArray.toList (strOf x11) == ByteArray.toList (strOf (List.drop (Int.toNat (IntKind.i64.wrap ((List.length a0 : Int) - 4))) a0))))) (by conv => lhs; whnf) (by conv => lhs; whnf) rfl) (by decide) ?_
      refine aoP (some 22) rfl rfl (does_pick (v := .bool (!(ByteArray.toList (strOf x11) == ByteArray.toList (strOf (List.drop (Int.toNat (IntKind.i64.wrap ((List.length a0 : Int) - 4))) a0))))) (by conv => lhs; whnf) (by exact rfl)) (by decide) ?_
      refine ao_nil_d (by kernel_rfl) ?_
      refine hK5 _ ?_
      refine aw_bool (b := (!(ByteArray.toList (strOf x11) == ByteArray.toList (strOf (List.drop (Int.toNat (IntKind.i64.wrap ((List.length a0 : Int) - 4))) a0))))) 22 rfl (fun c14 => ?_) (fun c14 => ?_)
      · have h := ifT c14 h
        refine aw_cond_t (by decide) rfl ?_
        refine aw_seq_k (fun K15 hK15 => ?_)
        refine aw_regL ?_
        refine alP (some 2) rfl rfl (does_assign (v := .nil) (by exact rfl)) (by decide) ?_
        refine alP (some 3) rfl rfl (does_assign (v := .bool false) (by exact rfl)) (by decide) ?_
        refine al_nil ?_
        refine hK15 _ ?_
        refine aw_reb (reb_w (tl' := [(2, .sl 1 (List.map enc5 [])), (3, .bool false)]) (ol' := []) (reb_lit [(2, .nil), (3, .bool false)] [] [] [] (envOk_cons (by conv => lhs; whnf) (by exact rfl) (envOk_cons (by conv => lhs; whnf) (by exact rfl) envOk_nil)) objOk_nil (nodup_b rfl) (nodup_b rfl) rfl rfl) ⟨rfl, (le_nil _), rfl, le_refl _, trivial⟩ trivial) ?_
        refine aw_ret ?_
        have h := leafR h hk4
        obtain rfl := Option.some.inj h
        exact ret_ok1 (by conv => lhs; whnf) (by conv => lhs; whnf) (by exact rfl) (.inr rfl) rfl
      · have h := ifF c14 h
        refine aw_cond_f (by decide) rfl ?_
        refine aw_skip ?_
        have h := leafL h hk4
        exact ⟨_, reb_lit [(0, .sl 1 (List.map enc5 a0)), (4, .int .i64 (IntKind.i64.wrap ((List.length a0 : Int) - 4)))] [] [] [] (envOk_cons (by conv => lhs; whnf) (by exact rfl) (envOk_cons (by conv => lhs; whnf) (by exact rfl) envOk_nil)) objOk_nil (nodup_b rfl) (nodup_b rfl) rfl rfl, h, rfl⟩
  · rintro s ⟨h, rfl⟩
    unfold gleaningref1_Open_k0 at h
    refine aw_seq_k (fun K16 hK16 => ?_)
    refine aw_regL ?_
    refine alP (some 23) rfl rfl (does_move (v := .sl 1 (List.map enc5 a0)) (by exact rfl)) (by decide) ?_
    refine alP (some 24) rfl rfl (does_move (v := .int .i64 (IntKind.i64.wrap ((List.length a0 : Int) - 4))) (by exact rfl)) (by decide) ?_
    obtain ⟨g17, h⟩ := gd_some h
    obtain ⟨g18, h⟩ := gd_some h
    refine alP (some 25) rfl rfl (does_slice_sl (l := 0) (k := (Int.toNat (IntKind.i64.wrap ((List.length a0 : Int) - 4)))) (by conv => lhs; whnf) ty43 ty5 bd_none (bd_some (by conv => lhs; whnf) (by exact (nat_of (by omega)))) (by (try simp only [List.length_map]); omega) (by (try simp only [List.length_map]); omega) (by exact part_h _ _)) (by decide) ?_
    refine alP (some 2) rfl rfl (does_assign (v := .sl 1 (List.map enc5 (List.take (Int.toNat (IntKind.i64.wrap ((List.length a0 : Int) - 4))) a0))) (by exact rfl)) (by decide) ?_
    refine alP (some 3) rfl rfl (does_assign (v := .bool true) (by exact rfl)) (by decide) ?_
    refine al_nil ?_
    refine hK16 _ ?_
    refine aw_ret ?_
    obtain rfl := Option.some.inj h
    exact ret_ok1 (by conv => lhs; whnf) (by conv => lhs; whnf) (by exact rfl) (.inr rfl) rfl
end Go.Proofs.Ytbfmmaabaenhgaa.Ab
