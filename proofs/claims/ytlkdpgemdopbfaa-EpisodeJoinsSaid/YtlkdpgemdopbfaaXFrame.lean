/- Chapter 5: records. -/
import Derived.Test.YtlkdpgemdopbfaaXNames
import Derived.Test.YtlkdpgemdopbfaaProg
namespace Go.Proofs.Ytlkdpgemdopbfaa.Ab
open Go Go.RowKit
set_option linter.unusedVariables false
set_option linter.unusedSimpArgs false
def enc51 (x : List UInt8) : PV := .sl 1 (List.map enc5 x)
def enc2 (x : Int) : PV := .int .i64 x
theorem ty9 : tyOf Try.prog 9 = some ⟨.str, 1, 16, [.str ByteArray.empty]⟩ := by kernel_rfl
theorem ty41 : tyOf Try.prog 41 = some ⟨.slice 3, 1, 24, [.nil]⟩ := by kernel_rfl
theorem ty52 : tyOf Try.prog 52 = some ⟨.slice 51, 1, 24, [.nil]⟩ := by kernel_rfl
theorem ty85 : tyOf Try.prog 85 = some ⟨.int .u32, 1, 4, [.int .u32 0]⟩ := by kernel_rfl
theorem ent31 : Ent Try.prog 31 := ⟨_, Try.func31, by kernel_rfl, rfl⟩
theorem ent32 : Ent Try.prog 32 := ⟨_, Try.func32, by kernel_rfl, rfl⟩
theorem ent33 : Ent Try.prog 33 := ⟨_, Try.func33, by kernel_rfl, rfl⟩
theorem ent34 : Ent Try.prog 34 := ⟨_, Try.func34, by kernel_rfl, rfl⟩
theorem ent35 : Ent Try.prog 35 := ⟨_, Try.func35, by kernel_rfl, rfl⟩
theorem ent36 : Ent Try.prog 36 := ⟨_, Try.func36, by kernel_rfl, rfl⟩
theorem ent51 : Ent Try.prog 51 := ⟨_, Try.func51, by kernel_rfl, rfl⟩
theorem ent52 : Ent Try.prog 52 := ⟨_, Try.func52, by kernel_rfl, rfl⟩
theorem ent53 : Ent Try.prog 53 := ⟨_, Try.func53, by kernel_rfl, rfl⟩
theorem ent54 : Ent Try.prog 54 := ⟨_, Try.func54, by kernel_rfl, rfl⟩
theorem ent55 : Ent Try.prog 55 := ⟨_, Try.func55, by kernel_rfl, rfl⟩
theorem ent56 : Ent Try.prog 56 := ⟨_, Try.func56, by kernel_rfl, rfl⟩
theorem ent57 : Ent Try.prog 57 := ⟨_, Try.func57, by kernel_rfl, rfl⟩
theorem ent58 : Ent Try.prog 58 := ⟨_, Try.func58, by kernel_rfl, rfl⟩
theorem ent66 : Ent Try.prog 66 := ⟨_, Try.func66, by kernel_rfl, rfl⟩
theorem ent67 : Ent Try.prog 67 := ⟨_, Try.func67, by kernel_rfl, rfl⟩
theorem ent68 : Ent Try.prog 68 := ⟨_, Try.func68, by kernel_rfl, rfl⟩
theorem ent69 : Ent Try.prog 69 := ⟨_, Try.func69, by kernel_rfl, rfl⟩
theorem ent70 : Ent Try.prog 70 := ⟨_, Try.func70, by kernel_rfl, rfl⟩
def check_Get_l0 (a0 : List UInt8) (v4_0 : Int) (v9_0 : Int) : Option ((Int × Int) ⊕ (Int × Bool)) :=
  if (decide (v9_0 < 4)) = true then (gd (0 ≤ v9_0) (Option.bind (a0[(Int.toNat v9_0)]?) (fun (x17 : UInt8) => gd (¬ (IntKind.i64.wrap (8 * v9_0)) < 0) (some (Sum.inl ((bits .or .u32 v4_0 (IntKind.u32.wrap ((IntKind.u32.wrap (x17.toNat : Int)) * 2 ^ (min (Int.toNat (IntKind.i64.wrap (8 * v9_0))) (IntKind.bits .u32))))), (IntKind.i64.wrap (v9_0 + 1)))))))) else (some (Sum.inr (v4_0, true)))
def check_Get (a0 : List UInt8) : Option (Int × Bool) :=
  if (decide ((List.length a0 : Int) < 4)) = true then (some (0, false)) else (loopN (fun (s : Int × Int) => check_Get_l0 a0 s.1 s.2) Fu (0, 0))
set_option maxRecDepth 100000 in
set_option maxHeartbeats 8000000 in
/-- gleaning/check.Get -/
theorem check_Get_ok (a0 : List UInt8) {r : Int × Bool} (h : check_Get a0 = some r) : Ok Try.prog 67 [.sl 1 (List.map enc5 a0)] [] [] (.tup [.int .u32 r.1, .bool r.2]) [] [] := by
  unfold check_Get at h
  refine ok_of_code Try.func67 rfl (by show (1 : Nat) ≤ _; decide) (Nat.le_refl _) fun X => ?_
  refine aw_seq_k (fun K1 hK1 => ?_)
  refine aw_reg ?_
  refine ao_cons (acts_of rfl (does_assign (v := .int .u32 0) (by exact rfl))) (by decide) ?_
  refine ao_cons (acts_of rfl (does_assign (v := .bool false) (by exact rfl))) (by decide) ?_
  refine ao_nil_n ?_
  refine hK1 _ ?_
  refine aw_seq_k (fun K2 hK2 => ?_)
  refine aw_seq_k (fun K3 hK3 => ?_)
  refine aw_reg ?_
  refine ao_cons (acts_of rfl (does_move (v := .sl 1 (List.map enc5 a0)) (by exact rfl))) (by decide) ?_
  refine ao_cons (acts_of rfl ((does_len_sl (by conv => lhs; whnf) ty51).castp (v' := .int .i64 (List.length a0 : Int)) (by exact len_map _))) (by decide) ?_
  refine ao_cons (acts_of rfl (does_bin (v := .bool (decide ((List.length a0 : Int) < 4))) (by conv => lhs; whnf) (by conv => lhs; whnf) rfl)) (by decide) ?_
  refine ao_nil_n ?_
  refine hK3 _ ?_
  refine aw_bool (b := (decide ((List.length a0 : Int) < 4))) 8 rfl (fun c4 => ?_) (fun c4 => ?_)
  · have h := ifT c4 h
    refine aw_cond_t (by decide) rfl ?_
    refine aw_seq_k (fun K5 hK5 => ?_)
    refine aw_reg ?_
    refine ao_cons (acts_of rfl (does_assign (v := .int .u32 0) (by exact rfl))) (by decide) ?_
    refine ao_cons (acts_of rfl (does_assign (v := .bool false) (by exact rfl))) (by decide) ?_
    refine ao_nil_n ?_
    refine hK5 _ ?_
    refine aw_ret ?_
    obtain rfl := Option.some.inj h
    exact ret_ok1 (by conv => lhs; whnf) (by conv => lhs; whnf) (by exact rfl) (.inr rfl) rfl
  · have h := ifF c4 h
    refine aw_cond_f (by decide) rfl ?_
    refine aw_skip ?_
    refine hK2 _ ?_
    refine aw_seq_k (fun K6 hK6 => ?_)
    refine aw_reg ?_
    refine ao_cons (acts_of rfl (does_assign (v := .int .u32 0) (by exact rfl))) (by decide) ?_
    refine ao_nil_n ?_
    refine hK6 _ ?_
    refine aw_seq_k (fun K7 hK7 => ?_)
    refine aw_seq_k (fun K8 hK8 => ?_)
    refine aw_reg ?_
    refine ao_cons (acts_of rfl (does_move (v := .int .i64 0) (by exact rfl))) (by decide) ?_
    refine ao_nil_n ?_
    refine hK8 _ ?_
    refine aw_block ?_
    refine aw_loop' (fun m s => ∃ (v4_0 : Int), ∃ (v9_0 : Int), loopN (fun (s : Int × Int) => check_Get_l0 a0 s.1 s.2) m (v4_0, v9_0) = some r ∧ s = lit [(0, .sl 1 (List.map enc5 a0)), (4, .int .u32 v4_0), (9, .int .i64 v9_0)] [] [] X) Fu
      ⟨_, reb_lit [(0, .sl 1 (List.map enc5 a0)), (4, .int .u32 (0)), (9, .int .i64 (0))] [] [] [] (envOk_cons (by conv => lhs; whnf) (by exact rfl) (envOk_cons (by conv => lhs; whnf) (by exact rfl) (envOk_cons (by conv => lhs; whnf) (by exact rfl) envOk_nil))) objOk_nil (nodup_b rfl) (nodup_b rfl) rfl rfl, 0, 0, h, rfl⟩ ?_
    rintro m s ⟨v4_0, v9_0, h, rfl⟩
    obtain ⟨m0, q9, rfl, h, hq10⟩ := loop_some h
    replace h : check_Get_l0 a0 v4_0 v9_0 = some q9 := h
    unfold check_Get_l0 at h
    refine aw_seq_k (fun K11 hK11 => ?_)
    refine aw_reg ?_
    refine ao_cons (acts_of rfl (does_bin (v := .bool (decide (v9_0 < 4))) (by conv => lhs; whnf) (by conv => lhs; whnf) rfl)) (by decide) ?_
    refine ao_nil_n ?_
    refine hK11 _ ?_
    refine aw_seq_k (fun K12 hK12 => ?_)
    refine aw_bool (b := (decide (v9_0 < 4))) 10 rfl (fun c13 => ?_) (fun c13 => ?_)
    · have h := ifT c13 h
      refine aw_cond_t (by decide) rfl ?_
      refine aw_skip ?_
      refine hK12 _ ?_
      refine aw_seq_k (fun K14 hK14 => ?_)
      refine aw_block ?_
      refine aw_seq_k (fun K15 hK15 => ?_)
      refine aw_reg ?_
      refine ao_cons (acts_of rfl (does_move (v := .int .i64 v9_0) (by exact rfl))) (by decide) ?_
      refine ao_cons (acts_of rfl (does_assign (v := .int .i64 v9_0) (by exact rfl))) (by decide) ?_
      refine ao_nil_n ?_
      refine hK15 _ ?_
      refine aw_reg ?_
      refine ao_cons (acts_of rfl (does_move (v := .int .u32 v4_0) (by exact rfl))) (by decide) ?_
      refine ao_cons (acts_of rfl (does_move (v := .sl 1 (List.map enc5 a0)) (by exact rfl))) (by decide) ?_
      refine ao_cons (acts_of rfl (does_move (v := .int .i64 v9_0) (by exact rfl))) (by decide) ?_
      obtain ⟨g16, h⟩ := gd_some h
      obtain ⟨x17, hx17, h⟩ := bnd_some h
      refine ao_cons (acts_of rfl (does_indexAddr_sl (el := .int .u8 (x17.toNat : Int)) (by conv => lhs; whnf) (by conv => lhs; whnf) ty51 ty5 g16 (by exact map_get hx17))) (by decide) ?_
      refine ao_cons (acts_of rfl (does_load (v := .int .u8 (x17.toNat : Int)) (by conv => lhs; whnf) (by conv => lhs; whnf) ty5 (by exact rfl))) (by decide) ?_
      refine ao_cons (acts_of rfl (does_conv_int (v := .int .u32 (IntKind.u32.wrap (x17.toNat : Int))) (by conv => lhs; whnf) (ty_some ty5) (ty_int ty85) rfl)) (by decide) ?_
      refine ao_cons (acts_of rfl (does_move (v := .int .i64 v9_0) (by exact rfl))) (by decide) ?_
      refine ao_cons (acts_of rfl (does_bin (v := .int .i64 (IntKind.i64.wrap (8 * v9_0))) (by conv => lhs; whnf) (by conv => lhs; whnf) rfl)) (by decide) ?_
      obtain ⟨g18, h⟩ := gd_some h
      refine ao_cons (acts_of rfl (does_bin (v := .int .u32 (IntKind.u32.wrap ((IntKind.u32.wrap (x17.toNat : Int)) * 2 ^ (min (Int.toNat (IntKind.i64.wrap (8 * v9_0))) (IntKind.bits .u32))))) (by conv => lhs; whnf) (by conv => lhs; whnf) (shl_hv g18))) (by decide) ?_
      refine ao_cons (acts_of rfl (does_bin (v := .int .u32 (bits .or .u32 v4_0 (IntKind.u32.wrap ((IntKind.u32.wrap (x17.toNat : Int)) * 2 ^ (min (Int.toNat (IntKind.i64.wrap (8 * v9_0))) (IntKind.bits .u32)))))) (by conv => lhs; whnf) (by conv => lhs; whnf) rfl)) (by decide) ?_
      refine ao_cons (acts_of rfl (does_assign (v := .int .u32 (bits .or .u32 v4_0 (IntKind.u32.wrap ((IntKind.u32.wrap (x17.toNat : Int)) * 2 ^ (min (Int.toNat (IntKind.i64.wrap (8 * v9_0))) (IntKind.bits .u32)))))) (by exact rfl))) (by decide) ?_
      refine ao_nil_n ?_
      refine hK14 _ ?_
      refine aw_reg ?_
      refine ao_cons (acts_of rfl (does_bin (v := .int .i64 (IntKind.i64.wrap (v9_0 + 1))) (by conv => lhs; whnf) (by conv => lhs; whnf) rfl)) (by decide) ?_
      refine ao_cons (acts_of rfl (does_move (v := .int .i64 (IntKind.i64.wrap (v9_0 + 1))) (by exact rfl))) (by decide) ?_
      refine ao_nil_n ?_
      have h := leafL h hq10
      exact ⟨m0, Nat.lt_succ_self _, _, reb_lit [(0, .sl 1 (List.map enc5 a0)), (4, .int .u32 (bits .or .u32 v4_0 (IntKind.u32.wrap ((IntKind.u32.wrap (x17.toNat : Int)) * 2 ^ (min (Int.toNat (IntKind.i64.wrap (8 * v9_0))) (IntKind.bits .u32)))))), (9, .int .i64 (IntKind.i64.wrap (v9_0 + 1)))] [] [] [] (envOk_cons (by conv => lhs; whnf) (by exact rfl) (envOk_cons (by conv => lhs; whnf) (by exact rfl) (envOk_cons (by conv => lhs; whnf) (by exact rfl) envOk_nil))) objOk_nil (nodup_b rfl) (nodup_b rfl) rfl rfl, (bits .or .u32 v4_0 (IntKind.u32.wrap ((IntKind.u32.wrap (x17.toNat : Int)) * 2 ^ (min (Int.toNat (IntKind.i64.wrap (8 * v9_0))) (IntKind.bits .u32))))), (IntKind.i64.wrap (v9_0 + 1)), h, rfl⟩
    · have h := ifF c13 h
      refine aw_cond_f (by decide) rfl ?_
      refine aw_exit ?_
      have h := leafR h hq10
      refine hK7 _ ?_
      refine aw_seq_k (fun K19 hK19 => ?_)
      refine aw_reg ?_
      refine ao_cons (acts_of rfl (does_move (v := .int .u32 v4_0) (by exact rfl))) (by decide) ?_
      refine ao_cons (acts_of rfl (does_assign (v := .int .u32 v4_0) (by exact rfl))) (by decide) ?_
      refine ao_cons (acts_of rfl (does_assign (v := .bool true) (by exact rfl))) (by decide) ?_
      refine ao_nil_n ?_
      refine hK19 _ ?_
      refine aw_ret ?_
      obtain rfl := Option.some.inj h
      exact ret_ok1 (by conv => lhs; whnf) (by conv => lhs; whnf) (by exact rfl) (.inr rfl) rfl
def bytes_Clone (a0 : List UInt8) : Option (List UInt8) :=
  if List.isEmpty a0 = true then gd (((some []) : Option (List UInt8)) = (gd ((List.length ([] ++ a0)) * 1 ≤ 140737488355328 ∧ (List.length ([] ++ a0)) ≤ 140737488355328) (some ([] ++ a0)))) (some []) else (gd ((List.length ([] ++ a0)) * 1 ≤ 140737488355328 ∧ (List.length ([] ++ a0)) ≤ 140737488355328) (some ([] ++ a0)))
set_option maxRecDepth 100000 in
set_option maxHeartbeats 8000000 in
/-- bytes.Clone -/
theorem bytes_Clone_ok (a0 : List UInt8) {r : List UInt8} (h : bytes_Clone a0 = some r) : Ok Try.prog 68 [.sl 1 (List.map enc5 a0)] [] [] (.own 2 0) [] [(5, 1, List.map enc5 r)] := by
  unfold bytes_Clone at h
  refine ok_of_code Try.func68 rfl (by show (1 : Nat) ≤ _; decide) (Nat.le_refl _) fun X => ?_
  refine aw_seq_k (fun K1 hK1 => ?_)
  refine aw_reg ?_
  refine ao_cons (acts_of rfl (does_assign (v := .nil) (by exact rfl))) (by decide) ?_
  refine ao_nil_n ?_
  refine hK1 _ ?_
  refine aw_seq_k (fun K2 hK2 => ?_)
  refine aw_seq_k (fun K3 hK3 => ?_)
  refine aw_region_nil (l1 := [_]) (.cons (acts_of rfl (does_move (v := .sl 1 (List.map enc5 a0)) (by exact rfl))) (by decide) (.nil _)) (ty_slice ty51) (by conv => lhs; whnf) (by conv => lhs; whnf) (fun t e => by cases e; decide) (by kernel_rfl) (fun b hb => ?_)
  cases b
  · have h := nilF h
    refine hK3 _ ?_
    refine aw_cond_f (by decide) rfl ?_
    refine aw_skip ?_
    refine hK2 _ ?_
    refine aw_seq_k (fun K4 hK4 => ?_)
    refine aw_reg ?_
    refine ao_cons (acts_of rfl (do_buildSlice (xs := List.map enc5 []) ty51 ty5 rfl rfl rfl rfl rfl rfl rfl rfl)) (by decide) ?_
    refine ao_cons (acts_of rfl (does_move (v := .sl 1 (List.map enc5 a0)) (by exact rfl))) (by decide) ?_
    obtain ⟨g5, h⟩ := gd_some h
    refine ao_cons (acts_of rfl (do_append (v := List.map enc5 ([] ++ a0)) (by conv => lhs; whnf) (by conv => lhs; whnf) ty51 ty5 rfl rfl (by conv => lhs; whnf) (by first | exact .inl rfl | exact .inr ⟨rfl, rfl⟩) (by conv => lhs; whnf) (by first | exact .inr rfl | exact .inl rfl) (map_app _ _) (fit_map g5))) (by decide) ?_
    refine ao_cons (acts_of rfl (does_assign (v := .own 7 0) (by exact rfl))) (by decide) ?_
    refine ao_nil_n ?_
    refine hK4 _ ?_
    refine aw_ret ?_
    obtain rfl := Option.some.inj h
    exact ret_okR [(7, 0)] (by conv => lhs; whnf) (by conv => lhs; whnf) (by exact rfl) (rowsOk_cons (by conv => lhs; whnf) (by exact rfl) trivial) (nodup_b rfl) (.inr rfl) rfl
  · have h := nilT hb h
    refine hK3 _ ?_
    refine aw_cond_t (by decide) rfl ?_
    refine aw_seq_k (fun K6 hK6 => ?_)
    refine aw_reg ?_
    refine ao_cons (acts_of rfl (does_assign (v := .nil) (by exact rfl))) (by decide) ?_
    refine ao_nil_n ?_
    refine hK6 _ ?_
    refine aw_nilOwn 2 5 1 (by conv => lhs; whnf) (by decide) (by decide) ?_
    refine aw_ret ?_
    obtain rfl := Option.some.inj h
    exact ret_okR [(2, 0)] (by conv => lhs; whnf) (by conv => lhs; whnf) (by exact rfl) (rowsOk_cons (by conv => lhs; whnf) (by exact rfl) trivial) (nodup_b rfl) (.inr rfl) rfl
def check_More_l1 (v12_0 : Int) (v5_1 : Int) (v20_1 : Int) : Option ((Int × Int) ⊕ ((Int × Int) ⊕ Int)) :=
  if (decide (v20_1 < 8)) = true then (some (Sum.inl ((bits .xor .u32 (Int.fdiv v5_1 (2 ^ (min (Int.toNat 1) (IntKind.bits .u32)))) (IntKind.u32.wrap (3988292384 * (bits .and .u32 v5_1 1)))), (IntKind.i64.wrap (v20_1 + 1))))) else (some (Sum.inr (Sum.inl (v5_1, (IntKind.i64.wrap (v12_0 + 1))))))
def check_More_l0 (a1 : List UInt8) (v5_0 : Int) (v12_0 : Int) : Option ((Int × Int) ⊕ Int) :=
  if (decide (v12_0 < (List.length a1 : Int))) = true then (gd (0 ≤ v12_0) (Option.bind (a1[(Int.toNat v12_0)]?) (fun (x13 : UInt8) => loopN (fun (s : Int × Int) => check_More_l1 v12_0 s.1 s.2) Fu ((bits .xor .u32 v5_0 (IntKind.u32.wrap (x13.toNat : Int))), 0)))) else (some (Sum.inr (bits .xor .u32 (if IntKind.signed .u32 then -1 else IntKind.max .u32) v5_0)))
def check_More (a0 : Int) (a1 : List UInt8) : Option Int :=
  loopN (fun (s : Int × Int) => check_More_l0 a1 s.1 s.2) Fu ((bits .xor .u32 (if IntKind.signed .u32 then -1 else IntKind.max .u32) a0), 0)
set_option maxRecDepth 100000 in
set_option maxHeartbeats 8000000 in
/-- gleaning/check.More -/
theorem check_More_ok (a0 : Int) (a1 : List UInt8) {r : Int} (h : check_More a0 a1 = some r) : Ok Try.prog 70 [.int .u32 a0, .sl 1 (List.map enc5 a1)] [] [] (.int .u32 r) [] [] := by
  unfold check_More at h
  refine ok_of_code Try.func70 rfl (by show (2 : Nat) ≤ _; decide) (Nat.le_refl _) fun X => ?_
  refine aw_seq_k (fun K1 hK1 => ?_)
  refine aw_reg ?_
  refine ao_cons (acts_of rfl (does_assign (v := .int .u32 0) (by exact rfl))) (by decide) ?_
  refine ao_nil_n ?_
  refine hK1 _ ?_
  refine aw_seq_k (fun K2 hK2 => ?_)
  refine aw_reg ?_
  refine ao_cons (acts_of rfl (does_move (v := .int .u32 a0) (by exact rfl))) (by decide) ?_
  refine ao_cons (acts_of rfl (does_un (v := .int .u32 (bits .xor .u32 (if IntKind.signed .u32 then -1 else IntKind.max .u32) a0)) (by conv => lhs; whnf) rfl)) (by decide) ?_
  refine ao_cons (acts_of rfl (does_assign (v := .int .u32 (bits .xor .u32 (if IntKind.signed .u32 then -1 else IntKind.max .u32) a0)) (by exact rfl))) (by decide) ?_
  refine ao_nil_n ?_
  refine hK2 _ ?_
  refine aw_seq_k (fun K3 hK3 => ?_)
  refine aw_seq_k (fun K4 hK4 => ?_)
  refine aw_reg ?_
  refine ao_cons (acts_of rfl (does_move (v := .sl 1 (List.map enc5 a1)) (by exact rfl))) (by decide) ?_
  refine ao_cons (acts_of rfl ((does_len_sl (by conv => lhs; whnf) ty51).castp (v' := .int .i64 (List.length a1 : Int)) (by exact len_map _))) (by decide) ?_
  refine ao_cons (acts_of rfl (does_move (v := .int .i64 0) (by exact rfl))) (by decide) ?_
  refine ao_nil_n ?_
  refine hK4 _ ?_
  refine aw_block ?_
  refine aw_loop' (fun m s => ∃ (v5_0 : Int), ∃ (v12_0 : Int), loopN (fun (s : Int × Int) => check_More_l0 a1 s.1 s.2) m (v5_0, v12_0) = some r ∧ s = lit [(5, .int .u32 v5_0), (10, .sl 1 (List.map enc5 a1)), (11, .int .i64 (List.length a1 : Int)), (12, .int .i64 v12_0)] [] [] X) Fu
    ⟨_, reb_lit [(5, .int .u32 (bits .xor .u32 (if IntKind.signed .u32 then -1 else IntKind.max .u32) a0)), (10, .sl 1 (List.map enc5 a1)), (11, .int .i64 (List.length a1 : Int)), (12, .int .i64 (0))] [] [] [] (envOk_cons (by conv => lhs; whnf) (by exact rfl) (envOk_cons (by conv => lhs; whnf) (by exact rfl) (envOk_cons (by conv => lhs; whnf) (by exact rfl) (envOk_cons (by conv => lhs; whnf) (by exact rfl) envOk_nil)))) objOk_nil (nodup_b rfl) (nodup_b rfl) rfl rfl, (bits .xor .u32 (if IntKind.signed .u32 then -1 else IntKind.max .u32) a0), 0, h, rfl⟩ ?_
  rintro m s ⟨v5_0, v12_0, h, rfl⟩
  obtain ⟨m0, q5, rfl, h, hq6⟩ := loop_some h
  replace h : check_More_l0 a1 v5_0 v12_0 = some q5 := h
  unfold check_More_l0 at h
  refine aw_seq_k (fun K7 hK7 => ?_)
  refine aw_reg ?_
  refine ao_cons (acts_of rfl (does_bin (v := .bool (decide (v12_0 < (List.length a1 : Int)))) (by conv => lhs; whnf) (by conv => lhs; whnf) rfl)) (by decide) ?_
  refine ao_nil_n ?_
  refine hK7 _ ?_
  refine aw_seq_k (fun K8 hK8 => ?_)
  refine aw_bool (b := (decide (v12_0 < (List.length a1 : Int)))) 13 rfl (fun c9 => ?_) (fun c9 => ?_)
  · have h := ifT c9 h
    refine aw_cond_t (by decide) rfl ?_
    refine aw_skip ?_
    refine hK8 _ ?_
    refine aw_seq_k (fun K10 hK10 => ?_)
    refine aw_block ?_
    refine aw_seq_k (fun K11 hK11 => ?_)
    refine aw_reg ?_
    obtain ⟨g12, h⟩ := gd_some h
    obtain ⟨x13, hx13, h⟩ := bnd_some h
    refine ao_cons (acts_of rfl (does_indexAddr_sl (el := .int .u8 (x13.toNat : Int)) (by conv => lhs; whnf) (by conv => lhs; whnf) ty51 ty5 g12 (by exact map_get hx13))) (by decide) ?_
    refine ao_cons (acts_of rfl (does_load (v := .int .u8 (x13.toNat : Int)) (by conv => lhs; whnf) (by conv => lhs; whnf) ty5 (by exact rfl))) (by decide) ?_
    refine ao_cons (acts_of rfl (does_assign (v := .int .u8 (x13.toNat : Int)) (by exact rfl))) (by decide) ?_
    refine ao_nil_n ?_
    refine hK11 _ ?_
    refine aw_seq_k (fun K14 hK14 => ?_)
    refine aw_reg ?_
    refine ao_cons (acts_of rfl (does_move (v := .int .u32 v5_0) (by exact rfl))) (by decide) ?_
    refine ao_cons (acts_of rfl (does_move (v := .int .u8 (x13.toNat : Int)) (by exact rfl))) (by decide) ?_
    refine ao_cons (acts_of rfl (does_conv_int (v := .int .u32 (IntKind.u32.wrap (x13.toNat : Int))) (by conv => lhs; whnf) (ty_some ty5) (ty_int ty85) rfl)) (by decide) ?_
    refine ao_cons (acts_of rfl (does_bin (v := .int .u32 (bits .xor .u32 v5_0 (IntKind.u32.wrap (x13.toNat : Int)))) (by conv => lhs; whnf) (by conv => lhs; whnf) rfl)) (by decide) ?_
    refine ao_cons (acts_of rfl (does_assign (v := .int .u32 (bits .xor .u32 v5_0 (IntKind.u32.wrap (x13.toNat : Int)))) (by exact rfl))) (by decide) ?_
    refine ao_nil_n ?_
    refine hK14 _ ?_
    refine aw_seq_k (fun K15 hK15 => ?_)
    refine aw_reg ?_
    refine ao_cons (acts_of rfl (does_move (v := .int .i64 0) (by exact rfl))) (by decide) ?_
    refine ao_nil_n ?_
    refine hK15 _ ?_
    refine aw_block ?_
    refine aw_loop' (fun m s => ∃ (v5_1 : Int), ∃ (v20_1 : Int), loopN (fun (s : Int × Int) => check_More_l1 v12_0 s.1 s.2) m (v5_1, v20_1) = some q5 ∧ s = lit [(5, .int .u32 v5_1), (10, .sl 1 (List.map enc5 a1)), (11, .int .i64 (List.length a1 : Int)), (12, .int .i64 v12_0), (20, .int .i64 v20_1)] [] [] X) Fu
      ⟨_, reb_lit [(5, .int .u32 (bits .xor .u32 v5_0 (IntKind.u32.wrap (x13.toNat : Int)))), (10, .sl 1 (List.map enc5 a1)), (11, .int .i64 (List.length a1 : Int)), (12, .int .i64 v12_0), (20, .int .i64 (0))] [] [] [] (envOk_cons (by conv => lhs; whnf) (by exact rfl) (envOk_cons (by conv => lhs; whnf) (by exact rfl) (envOk_cons (by conv => lhs; whnf) (by exact rfl) (envOk_cons (by conv => lhs; whnf) (by exact rfl) (envOk_cons (by conv => lhs; whnf) (by exact rfl) envOk_nil))))) objOk_nil (nodup_b rfl) (nodup_b rfl) rfl rfl, (bits .xor .u32 v5_0 (IntKind.u32.wrap (x13.toNat : Int))), 0, h, rfl⟩ ?_
    rintro m s ⟨v5_1, v20_1, h, rfl⟩
    obtain ⟨m1, q16, rfl, h, hq17⟩ := loop_some h
    replace h : check_More_l1 v12_0 v5_1 v20_1 = some q16 := h
    unfold check_More_l1 at h
    refine aw_seq_k (fun K18 hK18 => ?_)
    refine aw_reg ?_
    refine ao_cons (acts_of rfl (does_bin (v := .bool (decide (v20_1 < 8))) (by conv => lhs; whnf) (by conv => lhs; whnf) rfl)) (by decide) ?_
    refine ao_nil_n ?_
    refine hK18 _ ?_
    refine aw_seq_k (fun K19 hK19 => ?_)
    refine aw_bool (b := (decide (v20_1 < 8))) 21 rfl (fun c20 => ?_) (fun c20 => ?_)
    · have h := ifT c20 h
      refine aw_cond_t (by decide) rfl ?_
      refine aw_skip ?_
      refine hK19 _ ?_
      refine aw_seq_k (fun K21 hK21 => ?_)
      refine aw_block ?_
      refine aw_reg ?_
      refine ao_cons (acts_of rfl (does_move (v := .int .u32 v5_1) (by exact rfl))) (by decide) ?_
      refine ao_cons (acts_of rfl (does_bin (v := .int .u32 (Int.fdiv v5_1 (2 ^ (min (Int.toNat 1) (IntKind.bits .u32))))) (by conv => lhs; whnf) (by conv => lhs; whnf) rfl)) (by decide) ?_
      refine ao_cons (acts_of rfl (does_move (v := .int .u32 v5_1) (by exact rfl))) (by decide) ?_
      refine ao_cons (acts_of rfl (does_bin (v := .int .u32 (bits .and .u32 v5_1 1)) (by conv => lhs; whnf) (by conv => lhs; whnf) rfl)) (by decide) ?_
      refine ao_cons (acts_of rfl (does_bin (v := .int .u32 (IntKind.u32.wrap (3988292384 * (bits .and .u32 v5_1 1)))) (by conv => lhs; whnf) (by conv => lhs; whnf) rfl)) (by decide) ?_
      refine ao_cons (acts_of rfl (does_bin (v := .int .u32 (bits .xor .u32 (Int.fdiv v5_1 (2 ^ (min (Int.toNat 1) (IntKind.bits .u32)))) (IntKind.u32.wrap (3988292384 * (bits .and .u32 v5_1 1))))) (by conv => lhs; whnf) (by conv => lhs; whnf) rfl)) (by decide) ?_
      refine ao_cons (acts_of rfl (does_assign (v := .int .u32 (bits .xor .u32 (Int.fdiv v5_1 (2 ^ (min (Int.toNat 1) (IntKind.bits .u32)))) (IntKind.u32.wrap (3988292384 * (bits .and .u32 v5_1 1))))) (by exact rfl))) (by decide) ?_
      refine ao_nil_n ?_
      refine hK21 _ ?_
      refine aw_reg ?_
      refine ao_cons (acts_of rfl (does_bin (v := .int .i64 (IntKind.i64.wrap (v20_1 + 1))) (by conv => lhs; whnf) (by conv => lhs; whnf) rfl)) (by decide) ?_
      refine ao_cons (acts_of rfl (does_move (v := .int .i64 (IntKind.i64.wrap (v20_1 + 1))) (by exact rfl))) (by decide) ?_
      refine ao_nil_n ?_
      have h := leafL h hq17
      exact ⟨m1, Nat.lt_succ_self _, _, reb_lit [(5, .int .u32 (bits .xor .u32 (Int.fdiv v5_1 (2 ^ (min (Int.toNat 1) (IntKind.bits .u32)))) (IntKind.u32.wrap (3988292384 * (bits .and .u32 v5_1 1))))), (10, .sl 1 (List.map enc5 a1)), (11, .int .i64 (List.length a1 : Int)), (12, .int .i64 v12_0), (20, .int .i64 (IntKind.i64.wrap (v20_1 + 1)))] [] [] [] (envOk_cons (by conv => lhs; whnf) (by exact rfl) (envOk_cons (by conv => lhs; whnf) (by exact rfl) (envOk_cons (by conv => lhs; whnf) (by exact rfl) (envOk_cons (by conv => lhs; whnf) (by exact rfl) (envOk_cons (by conv => lhs; whnf) (by exact rfl) envOk_nil))))) objOk_nil (nodup_b rfl) (nodup_b rfl) rfl rfl, (bits .xor .u32 (Int.fdiv v5_1 (2 ^ (min (Int.toNat 1) (IntKind.bits .u32)))) (IntKind.u32.wrap (3988292384 * (bits .and .u32 v5_1 1)))), (IntKind.i64.wrap (v20_1 + 1)), h, rfl⟩
    · have h := ifF c20 h
      refine aw_cond_f (by decide) rfl ?_
      refine aw_exit ?_
      have h := leafR h hq17
      refine hK10 _ ?_
      refine aw_reg ?_
      refine ao_cons (acts_of rfl (does_bin (v := .int .i64 (IntKind.i64.wrap (v12_0 + 1))) (by conv => lhs; whnf) (by conv => lhs; whnf) rfl)) (by decide) ?_
      refine ao_cons (acts_of rfl (does_move (v := .int .i64 (IntKind.i64.wrap (v12_0 + 1))) (by exact rfl))) (by decide) ?_
      refine ao_nil_n ?_
      have h := leafL h hq6
      exact ⟨m0, Nat.lt_succ_self _, _, reb_lit [(5, .int .u32 v5_1), (10, .sl 1 (List.map enc5 a1)), (11, .int .i64 (List.length a1 : Int)), (12, .int .i64 (IntKind.i64.wrap (v12_0 + 1)))] [] [] [] (envOk_cons (by conv => lhs; whnf) (by exact rfl) (envOk_cons (by conv => lhs; whnf) (by exact rfl) (envOk_cons (by conv => lhs; whnf) (by exact rfl) (envOk_cons (by conv => lhs; whnf) (by exact rfl) envOk_nil)))) objOk_nil (nodup_b rfl) (nodup_b rfl) rfl rfl, v5_1, (IntKind.i64.wrap (v12_0 + 1)), h, rfl⟩
  · have h := ifF c9 h
    refine aw_cond_f (by decide) rfl ?_
    refine aw_exit ?_
    have h := leafR h hq6
    refine hK3 _ ?_
    refine aw_seq_k (fun K22 hK22 => ?_)
    refine aw_reg ?_
    refine ao_cons (acts_of rfl (does_move (v := .int .u32 v5_0) (by exact rfl))) (by decide) ?_
    refine ao_cons (acts_of rfl (does_un (v := .int .u32 (bits .xor .u32 (if IntKind.signed .u32 then -1 else IntKind.max .u32) v5_0)) (by conv => lhs; whnf) rfl)) (by decide) ?_
    refine ao_cons (acts_of rfl (does_assign (v := .int .u32 (bits .xor .u32 (if IntKind.signed .u32 then -1 else IntKind.max .u32) v5_0)) (by exact rfl))) (by decide) ?_
    refine ao_nil_n ?_
    refine hK22 _ ?_
    refine aw_ret ?_
    obtain rfl := Option.some.inj h
    exact ret_ok1 (by conv => lhs; whnf) (by conv => lhs; whnf) (by exact rfl) (.inr rfl) rfl
def check_Sum (a0 : List UInt8) : Option Int :=
  Option.bind (check_More 0 a0) (fun (x3 : Int) => some x3)
set_option maxRecDepth 100000 in
set_option maxHeartbeats 8000000 in
/-- gleaning/check.Sum -/
theorem check_Sum_ok (a0 : List UInt8) {r : Int} (h : check_Sum a0 = some r) : Ok Try.prog 57 [.sl 1 (List.map enc5 a0)] [] [] (.int .u32 r) [] [] := by
  unfold check_Sum at h
  refine ok_of_code Try.func57 rfl (by show (1 : Nat) ≤ _; decide) (Nat.le_refl _) fun X => ?_
  refine aw_seq_k (fun K1 hK1 => ?_)
  refine aw_reg ?_
  refine ao_cons (acts_of rfl (does_assign (v := .int .u32 0) (by exact rfl))) (by decide) ?_
  refine ao_nil_n ?_
  refine hK1 _ ?_
  refine aw_seq_k (fun K2 hK2 => ?_)
  refine aw_reg ?_
  refine ao_cons (acts_of rfl (does_move (v := .sl 1 (List.map enc5 a0)) (by exact rfl))) (by decide) ?_
  obtain ⟨x3, hx3, h⟩ := bnd_some h
  refine ao_cons (acts_of rfl (do_call0 4 false (check_More_ok 0 a0 hx3) rfl ent70 rfl rfl)) (by decide) ?_
  refine ao_cons (acts_of rfl (does_assign (v := .int .u32 x3) (by exact rfl))) (by decide) ?_
  refine ao_nil_n ?_
  refine hK2 _ ?_
  refine aw_ret ?_
  obtain rfl := Option.some.inj h
  exact ret_ok1 (by conv => lhs; whnf) (by conv => lhs; whnf) (by exact rfl) (.inr rfl) rfl
def frame_one_k0 (a0 : List UInt8) (x3 : Int × Int × Bool) (x12 : Int × Bool) : Option (List UInt8 × List UInt8 × Bool) :=
  gd ((4 : Int) ≤ (IntKind.i64.wrap (4 + (IntKind.i64.wrap x3.1)))) (gd ((IntKind.i64.wrap (4 + (IntKind.i64.wrap x3.1))) ≤ (List.length (List.drop (Int.toNat x3.2.1) a0) : Int)) (Option.bind (bytes_Clone (List.drop 4 (List.take (Int.toNat (IntKind.i64.wrap (4 + (IntKind.i64.wrap x3.1)))) (List.drop (Int.toNat x3.2.1) a0)))) (fun (x25 : List UInt8) => gd (0 ≤ (IntKind.i64.wrap (4 + (IntKind.i64.wrap x3.1)))) (gd ((IntKind.i64.wrap (4 + (IntKind.i64.wrap x3.1))) ≤ (List.length (List.drop (Int.toNat x3.2.1) a0) : Int)) (Option.bind (check_Sum (List.drop 4 (List.take (Int.toNat (IntKind.i64.wrap (4 + (IntKind.i64.wrap x3.1)))) (List.drop (Int.toNat x3.2.1) a0)))) (fun (x28 : Int) => some (x25, (List.drop (Int.toNat (IntKind.i64.wrap (4 + (IntKind.i64.wrap x3.1)))) (List.drop (Int.toNat x3.2.1) a0)), (x28 == x12.1))))))))
def frame_one (a0 : List UInt8) : Option (List UInt8 × List UInt8 × Bool) :=
  Option.bind (ints_Get a0) (fun (x3 : Int × Int × Bool) => if (!x3.2.2) = true then (some ([], [], false)) else (gd (0 ≤ x3.2.1) (gd (x3.2.1 ≤ (List.length a0 : Int)) (Option.bind (check_Get (List.drop (Int.toNat x3.2.1) a0)) (fun (x12 : Int × Bool) => Option.bind (if (!x12.2) = true then (some (Sum.inr ([], [], false))) else (if (decide ((IntKind.u64.wrap (IntKind.i64.wrap ((List.length (List.drop (Int.toNat x3.2.1) a0) : Int) - 4))) < x3.1)) = true then (some (Sum.inr ([], [], false))) else (some (Sum.inl ())))) (Sum.elim (fun (s : Unit) => frame_one_k0 a0 x3 x12) some))))))
set_option maxRecDepth 100000 in
set_option maxHeartbeats 8000000 in
/-- gleaning/frame.one -/
theorem frame_one_ok (a0 : List UInt8) {r : List UInt8 × List UInt8 × Bool} (h : frame_one a0 = some r) : Ok Try.prog 51 [.sl 1 (List.map enc5 a0)] [] [] (.tup [.own 2 0, .sl 1 (List.map enc5 r.2.1), .bool r.2.2]) [] [(5, 1, List.map enc5 r.1)] := by
  unfold frame_one at h
  refine ok_of_code Try.func51 rfl (by show (1 : Nat) ≤ _; decide) (Nat.le_refl _) fun X => ?_
  refine aw_seq_k (fun K1 hK1 => ?_)
  refine aw_reg ?_
  refine ao_cons (acts_of rfl (does_assign (v := .nil) (by exact rfl))) (by decide) ?_
  refine ao_cons (acts_of rfl (does_assign (v := .nil) (by exact rfl))) (by decide) ?_
  refine ao_cons (acts_of rfl (does_assign (v := .bool false) (by exact rfl))) (by decide) ?_
  refine ao_nil_n ?_
  refine hK1 _ ?_
  refine aw_seq_k (fun K2 hK2 => ?_)
  refine aw_reg ?_
  refine ao_cons (acts_of rfl (does_move (v := .sl 1 (List.map enc5 a0)) (by exact rfl))) (by decide) ?_
  obtain ⟨x3, hx3, h⟩ := bnd_some h
  refine ao_cons (acts_of rfl (do_call0 13 false (ints_Get_ok a0 hx3) rfl ent66 rfl rfl)) (by decide) ?_
  refine ao_cons (acts_of rfl (does_move (v := .tup [.int .u64 x3.1, .int .i64 x3.2.1, .bool x3.2.2]) (by exact rfl))) (by decide) ?_
  refine ao_cons (acts_of rfl (does_extract (v := .int .u64 x3.1) (by conv => lhs; whnf) (by exact rfl))) (by decide) ?_
  refine ao_cons (acts_of rfl (does_extract (v := .int .i64 x3.2.1) (by conv => lhs; whnf) (by exact rfl))) (by decide) ?_
  refine ao_cons (acts_of rfl (does_extract (v := .bool x3.2.2) (by conv => lhs; whnf) (by exact rfl))) (by decide) ?_
  refine ao_cons (acts_of rfl (does_assign (v := .int .u64 x3.1) (by exact rfl))) (by decide) ?_
  refine ao_cons (acts_of rfl (does_assign (v := .int .i64 x3.2.1) (by exact rfl))) (by decide) ?_
  refine ao_cons (acts_of rfl (does_assign (v := .bool x3.2.2) (by exact rfl))) (by decide) ?_
  refine ao_nil_n ?_
  refine hK2 _ ?_
  refine aw_seq_k (fun K4 hK4 => ?_)
  refine aw_seq_k (fun K5 hK5 => ?_)
  refine aw_reg ?_
  refine ao_cons (acts_of rfl (does_move (v := .bool x3.2.2) (by exact rfl))) (by decide) ?_
  refine ao_cons (acts_of rfl (does_un (v := .bool (!x3.2.2)) (by conv => lhs; whnf) rfl)) (by decide) ?_
  refine ao_nil_n ?_
  refine hK5 _ ?_
  refine aw_bool (b := (!x3.2.2)) 18 rfl (fun c6 => ?_) (fun c6 => ?_)
  · have h := ifT c6 h
    refine aw_cond_t (by decide) rfl ?_
    refine aw_seq_k (fun K7 hK7 => ?_)
    refine aw_reg ?_
    refine ao_cons (acts_of rfl (does_assign (v := .nil) (by exact rfl))) (by decide) ?_
    refine ao_cons (acts_of rfl (does_assign (v := .nil) (by exact rfl))) (by decide) ?_
    refine ao_cons (acts_of rfl (does_assign (v := .bool false) (by exact rfl))) (by decide) ?_
    refine ao_nil_n ?_
    refine hK7 _ ?_
    refine aw_nilOwn 2 5 1 (by conv => lhs; whnf) (by decide) (by decide) ?_
    refine aw_reb (reb_w (tl' := [(2, .own 2 0), (3, .sl 1 (List.map enc5 [])), (4, .bool false)]) (ol' := [((2, 0), .arr 5 1 false (List.map enc5 []))]) (reb_lit [(2, .own 2 0), (3, .nil), (4, .bool false)] [(2, 0)] [((2, 0), .arr 5 1 false (List.map enc5 []))] [(2, 1)] (envOk_cons (by conv => lhs; whnf) (by exact rfl) (envOk_cons (by conv => lhs; whnf) (by exact rfl) (envOk_cons (by conv => lhs; whnf) (by exact rfl) envOk_nil))) (objOk_cons (by conv => lhs; whnf) (by conv => lhs; whnf) (by exact rfl) (by simp) objOk_nil) (nodup_b rfl) (nodup_b rfl) rfl rfl) ⟨rfl, le_refl _, rfl, (le_nil _), rfl, le_refl _, trivial⟩ ⟨rfl, .rfl _, trivial⟩) ?_
    refine aw_ret ?_
    obtain rfl := Option.some.inj h
    exact ret_okR [(2, 0)] (by conv => lhs; whnf) (by conv => lhs; whnf) (by exact rfl) (rowsOk_cons (by conv => lhs; whnf) (by exact rfl) trivial) (nodup_b rfl) (.inr rfl) rfl
  · have h := ifF c6 h
    refine aw_cond_f (by decide) rfl ?_
    refine aw_skip ?_
    refine hK4 _ ?_
    refine aw_seq_k (fun K8 hK8 => ?_)
    refine aw_reg ?_
    refine ao_cons (acts_of rfl (does_move (v := .sl 1 (List.map enc5 a0)) (by exact rfl))) (by decide) ?_
    refine ao_cons (acts_of rfl (does_move (v := .int .i64 x3.2.1) (by exact rfl))) (by decide) ?_
    obtain ⟨g9, h⟩ := gd_some h
    obtain ⟨g10, h⟩ := gd_some h
    refine ao_cons (acts_of rfl (does_slice_sl (l := (Int.toNat x3.2.1)) (by conv => lhs; whnf) ty51 ty5 (bd_some (by conv => lhs; whnf) (by exact (nat_of g9))) bd_none (by (try simp only [List.length_map]); omega) (by (try simp only [List.length_map]); omega) (by exact part_l _ _))) (by decide) ?_
    refine ao_cons (acts_of rfl (does_assign (v := .sl 1 (List.map enc5 (List.drop (Int.toNat x3.2.1) a0))) (by exact rfl))) (by decide) ?_
    refine ao_nil_n ?_
    refine hK8 _ ?_
    refine aw_seq_k (fun K11 hK11 => ?_)
    refine aw_reg ?_
    refine ao_cons (acts_of rfl (does_move (v := .sl 1 (List.map enc5 (List.drop (Int.toNat x3.2.1) a0))) (by exact rfl))) (by decide) ?_
    obtain ⟨x12, hx12, h⟩ := bnd_some h
    refine ao_cons (acts_of rfl (do_call0 24 false (check_Get_ok (List.drop (Int.toNat x3.2.1) a0) hx12) rfl ent67 rfl rfl)) (by decide) ?_
    refine ao_cons (acts_of rfl (does_move (v := .tup [.int .u32 x12.1, .bool x12.2]) (by exact rfl))) (by decide) ?_
    refine ao_cons (acts_of rfl (does_extract (v := .int .u32 x12.1) (by conv => lhs; whnf) (by exact rfl))) (by decide) ?_
    refine ao_cons (acts_of rfl (does_extract (v := .bool x12.2) (by conv => lhs; whnf) (by exact rfl))) (by decide) ?_
    refine ao_cons (acts_of rfl (does_assign (v := .int .u32 x12.1) (by exact rfl))) (by decide) ?_
    refine ao_cons (acts_of rfl (does_assign (v := .bool x12.2) (by exact rfl))) (by decide) ?_
    refine ao_nil_n ?_
    refine hK11 _ ?_
    obtain ⟨q13, h, hk14⟩ := bnd_some h
    refine aw_cut (fun s => frame_one_k0 a0 x3 x12 = some r ∧ s = lit [(0, .sl 1 (List.map enc5 (List.drop (Int.toNat x3.2.1) a0))), (5, .int .u64 x3.1), (8, .int .u32 x12.1)] [] [] X) ?_ ?_
    · skip
      refine aw_seq_k (fun K15 hK15 => ?_)
      refine aw_reg ?_
      refine ao_cons (acts_of rfl (does_move (v := .bool x12.2) (by exact rfl))) (by decide) ?_
      refine ao_cons (acts_of rfl (does_un (v := .bool (!x12.2)) (by conv => lhs; whnf) rfl)) (by decide) ?_
      refine ao_cons (acts_of rfl (does_move (v := .bool (!x12.2)) (by exact rfl))) (by decide) ?_
      refine ao_bool (c := (!x12.2)) 29 rfl (fun c16 => ?_) (fun c16 => ?_)
      · have h := ifT c16 h
        refine ao_cons (acts_skip rfl) (by decide) ?_
        refine ao_cons (acts_skip rfl) (by decide) ?_
        refine ao_cons (acts_skip rfl) (by decide) ?_
        refine ao_cons (acts_skip rfl) (by decide) ?_
        refine ao_cons (acts_skip rfl) (by decide) ?_
        refine ao_cons (acts_skip rfl) (by decide) ?_
        refine ao_cons (acts_of rfl (does_pick (v := .bool true) (by conv => lhs; whnf) (by exact rfl))) (by decide) ?_
        refine ao_nil_n ?_
        refine hK15 _ ?_
        refine aw_cond_t (by decide) rfl ?_
        refine aw_seq_k (fun K17 hK17 => ?_)
        refine aw_reg ?_
        refine ao_cons (acts_of rfl (does_assign (v := .nil) (by exact rfl))) (by decide) ?_
        refine ao_cons (acts_of rfl (does_assign (v := .nil) (by exact rfl))) (by decide) ?_
        refine ao_cons (acts_of rfl (does_assign (v := .bool false) (by exact rfl))) (by decide) ?_
        refine ao_nil_n ?_
        refine hK17 _ ?_
        refine aw_nilOwn 2 5 1 (by conv => lhs; whnf) (by decide) (by decide) ?_
        refine aw_reb (reb_w (tl' := [(2, .own 2 0), (3, .sl 1 (List.map enc5 [])), (4, .bool false)]) (ol' := [((2, 0), .arr 5 1 false (List.map enc5 []))]) (reb_lit [(2, .own 2 0), (3, .nil), (4, .bool false)] [(2, 0)] [((2, 0), .arr 5 1 false (List.map enc5 []))] [(2, 1)] (envOk_cons (by conv => lhs; whnf) (by exact rfl) (envOk_cons (by conv => lhs; whnf) (by exact rfl) (envOk_cons (by conv => lhs; whnf) (by exact rfl) envOk_nil))) (objOk_cons (by conv => lhs; whnf) (by conv => lhs; whnf) (by exact rfl) (by simp) objOk_nil) (nodup_b rfl) (nodup_b rfl) rfl rfl) ⟨rfl, le_refl _, rfl, (le_nil _), rfl, le_refl _, trivial⟩ ⟨rfl, .rfl _, trivial⟩) ?_
        refine aw_ret ?_
        have h := leafR h hk14
        obtain rfl := Option.some.inj h
        exact ret_okR [(2, 0)] (by conv => lhs; whnf) (by conv => lhs; whnf) (by exact rfl) (rowsOk_cons (by conv => lhs; whnf) (by exact rfl) trivial) (nodup_b rfl) (.inr rfl) rfl
      · have h := ifF c16 h
        refine ao_cons (acts_of rfl (does_move (v := .int .u64 x3.1) (by exact rfl))) (by decide) ?_
        refine ao_cons (acts_of rfl (does_move (v := .sl 1 (List.map enc5 (List.drop (Int.toNat x3.2.1) a0))) (by exact rfl))) (by decide) ?_
        refine ao_cons (acts_of rfl ((does_len_sl (by conv => lhs; whnf) ty51).castp (v' := .int .i64 (List.length (List.drop (Int.toNat x3.2.1) a0) : Int)) (by exact len_map _))) (by decide) ?_
        refine ao_cons (acts_of rfl (does_bin (v := .int .i64 (IntKind.i64.wrap ((List.length (List.drop (Int.toNat x3.2.1) a0) : Int) - 4))) (by conv => lhs; whnf) (by conv => lhs; whnf) rfl)) (by decide) ?_
        refine ao_cons (acts_of rfl (does_conv_int (v := .int .u64 (IntKind.u64.wrap (IntKind.i64.wrap ((List.length (List.drop (Int.toNat x3.2.1) a0) : Int) - 4)))) (by conv => lhs; whnf) (ty_some ty3) (ty_int ty23) rfl)) (by decide) ?_
        refine ao_cons (acts_of rfl (does_bin (v := .bool (decide ((IntKind.u64.wrap (IntKind.i64.wrap ((List.length (List.drop (Int.toNat x3.2.1) a0) : Int) - 4))) < x3.1))) (by conv => lhs; whnf) (by conv => lhs; whnf) rfl)) (by decide) ?_
        refine ao_cons (acts_of rfl (does_pick (v := .bool (decide ((IntKind.u64.wrap (IntKind.i64.wrap ((List.length (List.drop (Int.toNat x3.2.1) a0) : Int) - 4))) < x3.1))) (by conv => lhs; whnf) (by exact rfl))) (by decide) ?_
        refine ao_nil_n ?_
        refine hK15 _ ?_
        refine aw_bool (b := (decide ((IntKind.u64.wrap (IntKind.i64.wrap ((List.length (List.drop (Int.toNat x3.2.1) a0) : Int) - 4))) < x3.1))) 36 rfl (fun c18 => ?_) (fun c18 => ?_)
        · have h := ifT c18 h
          refine aw_cond_t (by decide) rfl ?_
          refine aw_seq_k (fun K19 hK19 => ?_)
          refine aw_reg ?_
          refine ao_cons (acts_of rfl (does_assign (v := .nil) (by exact rfl))) (by decide) ?_
          refine ao_cons (acts_of rfl (does_assign (v := .nil) (by exact rfl))) (by decide) ?_
          refine ao_cons (acts_of rfl (does_assign (v := .bool false) (by exact rfl))) (by decide) ?_
          refine ao_nil_n ?_
          refine hK19 _ ?_
          refine aw_nilOwn 2 5 1 (by conv => lhs; whnf) (by decide) (by decide) ?_
          refine aw_reb (reb_w (tl' := [(2, .own 2 0), (3, .sl 1 (List.map enc5 [])), (4, .bool false)]) (ol' := [((2, 0), .arr 5 1 false (List.map enc5 []))]) (reb_lit [(2, .own 2 0), (3, .nil), (4, .bool false)] [(2, 0)] [((2, 0), .arr 5 1 false (List.map enc5 []))] [(2, 1)] (envOk_cons (by conv => lhs; whnf) (by exact rfl) (envOk_cons (by conv => lhs; whnf) (by exact rfl) (envOk_cons (by conv => lhs; whnf) (by exact rfl) envOk_nil))) (objOk_cons (by conv => lhs; whnf) (by conv => lhs; whnf) (by exact rfl) (by simp) objOk_nil) (nodup_b rfl) (nodup_b rfl) rfl rfl) ⟨rfl, le_refl _, rfl, (le_nil _), rfl, le_refl _, trivial⟩ ⟨rfl, .rfl _, trivial⟩) ?_
          refine aw_ret ?_
          have h := leafR h hk14
          obtain rfl := Option.some.inj h
          exact ret_okR [(2, 0)] (by conv => lhs; whnf) (by conv => lhs; whnf) (by exact rfl) (rowsOk_cons (by conv => lhs; whnf) (by exact rfl) trivial) (nodup_b rfl) (.inr rfl) rfl
        · have h := ifF c18 h
          refine aw_cond_f (by decide) rfl ?_
          refine aw_skip ?_
          have h := leafL h hk14
          exact ⟨_, reb_lit [(0, .sl 1 (List.map enc5 (List.drop (Int.toNat x3.2.1) a0))), (5, .int .u64 x3.1), (8, .int .u32 x12.1)] [] [] [] (envOk_cons (by conv => lhs; whnf) (by exact rfl) (envOk_cons (by conv => lhs; whnf) (by exact rfl) (envOk_cons (by conv => lhs; whnf) (by exact rfl) envOk_nil))) objOk_nil (nodup_b rfl) (nodup_b rfl) rfl rfl, h, rfl⟩
    · rintro s ⟨h, rfl⟩
      unfold frame_one_k0 at h
      refine aw_seq_k (fun K20 hK20 => ?_)
      refine aw_reg ?_
      refine ao_cons (acts_of rfl (does_move (v := .int .u64 x3.1) (by exact rfl))) (by decide) ?_
      refine ao_cons (acts_of rfl (does_conv_int (v := .int .i64 (IntKind.i64.wrap x3.1)) (by conv => lhs; whnf) (ty_some ty23) (ty_int ty3) rfl)) (by decide) ?_
      refine ao_cons (acts_of rfl (does_bin (v := .int .i64 (IntKind.i64.wrap (4 + (IntKind.i64.wrap x3.1)))) (by conv => lhs; whnf) (by conv => lhs; whnf) rfl)) (by decide) ?_
      refine ao_cons (acts_of rfl (does_assign (v := .int .i64 (IntKind.i64.wrap (4 + (IntKind.i64.wrap x3.1)))) (by exact rfl))) (by decide) ?_
      refine ao_nil_n ?_
      refine hK20 _ ?_
      refine aw_seq_k (fun K21 hK21 => ?_)
      refine aw_reg ?_
      refine ao_cons (acts_of rfl (does_move (v := .sl 1 (List.map enc5 (List.drop (Int.toNat x3.2.1) a0))) (by exact rfl))) (by decide) ?_
      refine ao_cons (acts_of rfl (does_move (v := .int .i64 (IntKind.i64.wrap (4 + (IntKind.i64.wrap x3.1)))) (by exact rfl))) (by decide) ?_
      obtain ⟨g22, h⟩ := gd_some h
      obtain ⟨g23, h⟩ := gd_some h
      refine ao_cons (acts_of rfl (does_slice_sl (l := 4) (k := (Int.toNat (IntKind.i64.wrap (4 + (IntKind.i64.wrap x3.1))))) (by conv => lhs; whnf) ty51 ty5 (bd_some (by conv => lhs; whnf) (by exact rfl)) (bd_some (by conv => lhs; whnf) (by exact (nat_of (by omega)))) (by (try simp only [List.length_map]); omega) (by (try simp only [List.length_map]); omega) (by exact map_part _ _ _))) (by decide) ?_
      refine ao_cons (acts_of rfl (does_assign (v := .sl 1 (List.map enc5 (List.drop 4 (List.take (Int.toNat (IntKind.i64.wrap (4 + (IntKind.i64.wrap x3.1)))) (List.drop (Int.toNat x3.2.1) a0))))) (by exact rfl))) (by decide) ?_
      refine ao_nil_n ?_
      refine hK21 _ ?_
      refine aw_seq_k (fun K24 hK24 => ?_)
      refine aw_regd (by kernel_rfl) (by decide +kernel) ?_
      refine ao_cons (acts_of rfl (does_move (v := .sl 1 (List.map enc5 (List.drop 4 (List.take (Int.toNat (IntKind.i64.wrap (4 + (IntKind.i64.wrap x3.1)))) (List.drop (Int.toNat x3.2.1) a0))))) (by exact rfl))) (by decide) ?_
      obtain ⟨x25, hx25, h⟩ := bnd_some h
      refine ao_cons (acts_of rfl (do_call0 44 false (bytes_Clone_ok (List.drop 4 (List.take (Int.toNat (IntKind.i64.wrap (4 + (IntKind.i64.wrap x3.1)))) (List.drop (Int.toNat x3.2.1) a0))) hx25) rfl ent68 rfl rfl)) (by decide) ?_
      refine ao_cons (acts_of rfl (does_move (v := .sl 1 (List.map enc5 (List.drop (Int.toNat x3.2.1) a0))) (by exact rfl))) (by decide) ?_
      refine ao_cons (acts_of rfl (does_move (v := .int .i64 (IntKind.i64.wrap (4 + (IntKind.i64.wrap x3.1)))) (by exact rfl))) (by decide) ?_
      obtain ⟨g26, h⟩ := gd_some h
      obtain ⟨g27, h⟩ := gd_some h
      refine ao_cons (acts_of rfl (does_slice_sl (l := (Int.toNat (IntKind.i64.wrap (4 + (IntKind.i64.wrap x3.1))))) (by conv => lhs; whnf) ty51 ty5 (bd_some (by conv => lhs; whnf) (by exact (nat_of g26))) bd_none (by (try simp only [List.length_map]); omega) (by (try simp only [List.length_map]); omega) (by exact part_l _ _))) (by decide) ?_
      refine ao_cons (acts_of rfl (does_move (v := .sl 1 (List.map enc5 (List.drop 4 (List.take (Int.toNat (IntKind.i64.wrap (4 + (IntKind.i64.wrap x3.1)))) (List.drop (Int.toNat x3.2.1) a0))))) (by exact rfl))) (by decide) ?_
      obtain ⟨x28, hx28, h⟩ := bnd_some h
      refine ao_cons (acts_of rfl (do_call0 49 false (check_Sum_ok (List.drop 4 (List.take (Int.toNat (IntKind.i64.wrap (4 + (IntKind.i64.wrap x3.1)))) (List.drop (Int.toNat x3.2.1) a0))) hx28) rfl ent57 rfl rfl)) (by decide) ?_
      refine ao_cons (acts_of rfl (does_move (v := .int .u32 x12.1) (by exact rfl))) (by decide) ?_
      refine ao_cons (acts_of rfl (does_bin (v := .bool (x28 == x12.1)) (by conv => lhs; whnf) (by conv => lhs; whnf) rfl)) (by decide) ?_
      refine ao_cons (acts_of rfl (does_assign (v := .own 44 0) (by exact rfl))) (by decide) ?_
      refine ao_cons (acts_of rfl (does_assign (v := .sl 1 (List.map enc5 (List.drop (Int.toNat (IntKind.i64.wrap (4 + (IntKind.i64.wrap x3.1)))) (List.drop (Int.toNat x3.2.1) a0)))) (by exact rfl))) (by decide) ?_
      refine ao_cons (acts_of rfl (does_assign (v := .bool (x28 == x12.1)) (by exact rfl))) (by decide) ?_
      refine ao_nil_d (by kernel_rfl) ?_
      refine hK24 _ ?_
      refine aw_ret ?_
      obtain rfl := Option.some.inj h
      exact ret_okR [(44, 0)] (by conv => lhs; whnf) (by conv => lhs; whnf) (by exact rfl) (rowsOk_cons (by conv => lhs; whnf) (by exact rfl) trivial) (nodup_b rfl) (.inr rfl) rfl
def frame_Split_l0 (a0 : List UInt8) (v4_s_0 : List (List UInt8)) (v5_0 : List UInt8) : Option ((List (List UInt8) × List UInt8) ⊕ (List (List UInt8) × Int)) :=
  Option.bind (frame_one v5_0) (fun (x7 : List UInt8 × List UInt8 × Bool) => if (!x7.2.2) = true then (some (Sum.inr (v4_s_0, (IntKind.i64.wrap ((List.length a0 : Int) - (List.length v5_0 : Int)))))) else (gd ((List.length (v4_s_0 ++ [x7.1])) * 24 ≤ 140737488355328 ∧ (List.length (v4_s_0 ++ [x7.1])) ≤ 140737488355328) (some (Sum.inl ((v4_s_0 ++ [x7.1]), x7.2.1)))))
def frame_Split (a0 : List UInt8) : Option (List (List UInt8) × Int) :=
  loopN (fun (s : List (List UInt8) × List UInt8) => frame_Split_l0 a0 s.1 s.2) Fu ([], a0)
set_option maxRecDepth 100000 in
set_option maxHeartbeats 8000000 in
/-- gleaning/frame.Split -/
theorem frame_Split_ok (a0 : List UInt8) {r : List (List UInt8) × Int} (h : frame_Split a0 = some r) : Ok Try.prog 32 [.sl 1 (List.map enc5 a0)] [] [] (.tup [.own 2 0, .int .i64 r.2]) [] [(51, 1, List.map enc51 r.1)] := by
  unfold frame_Split at h
  refine ok_of_code Try.func32 rfl (by show (1 : Nat) ≤ _; decide) (Nat.le_refl _) fun X => ?_
  refine aw_seq_k (fun K1 hK1 => ?_)
  refine aw_reg ?_
  refine ao_cons (acts_of rfl (does_assign (v := .nil) (by exact rfl))) (by decide) ?_
  refine ao_cons (acts_of rfl (does_assign (v := .int .i64 0) (by exact rfl))) (by decide) ?_
  refine ao_nil_n ?_
  refine hK1 _ ?_
  refine aw_seq_k (fun K2 hK2 => ?_)
  refine aw_reg ?_
  refine ao_cons (acts_of rfl (does_assign (v := .nil) (by exact rfl))) (by decide) ?_
  refine ao_nil_n ?_
  refine hK2 _ ?_
  refine aw_seq_k (fun K3 hK3 => ?_)
  refine aw_reg ?_
  refine ao_cons (acts_of rfl (does_move (v := .sl 1 (List.map enc5 a0)) (by exact rfl))) (by decide) ?_
  refine ao_cons (acts_of rfl (does_assign (v := .sl 1 (List.map enc5 a0)) (by exact rfl))) (by decide) ?_
  refine ao_nil_n ?_
  refine hK3 _ ?_
  refine aw_block ?_
  refine aw_nilOwn 4 51 1 (by conv => lhs; whnf) (by decide) (by decide) ?_
  refine aw_loop' (fun m s => ∃ (v4_s_0 : List (List UInt8)), ∃ (v5_0 : List UInt8), loopN (fun (s : List (List UInt8) × List UInt8) => frame_Split_l0 a0 s.1 s.2) m (v4_s_0, v5_0) = some r ∧ s = lit [(0, .sl 1 (List.map enc5 a0)), (4, .own 4 0), (5, .sl 1 (List.map enc5 v5_0))] [((4, 0), .arr 51 1 false (List.map enc51 v4_s_0))] [(4, 1)] X) Fu
    ⟨_, reb_lit [(0, .sl 1 (List.map enc5 a0)), (4, .own 4 0), (5, .sl 1 (List.map enc5 a0))] [(4, 0)] [((4, 0), .arr 51 1 false (List.map enc51 []))] [(4, 1)] (envOk_cons (by conv => lhs; whnf) (by exact rfl) (envOk_cons (by conv => lhs; whnf) (by exact rfl) (envOk_cons (by conv => lhs; whnf) (by exact rfl) envOk_nil))) (objOk_cons (by conv => lhs; whnf) (by conv => lhs; whnf) (by exact rfl) (by simp) objOk_nil) (nodup_b rfl) (nodup_b rfl) rfl rfl, [], a0, h, rfl⟩ ?_
  rintro m s ⟨v4_s_0, v5_0, h, rfl⟩
  obtain ⟨m0, q4, rfl, h, hq5⟩ := loop_some h
  replace h : frame_Split_l0 a0 v4_s_0 v5_0 = some q4 := h
  unfold frame_Split_l0 at h
  refine aw_block ?_
  refine aw_seq_k (fun K6 hK6 => ?_)
  refine aw_reg ?_
  refine ao_cons (acts_of rfl (does_move (v := .sl 1 (List.map enc5 v5_0)) (by exact rfl))) (by decide) ?_
  obtain ⟨x7, hx7, h⟩ := bnd_some h
  refine ao_cons (acts_of rfl (do_call0 12 false (frame_one_ok v5_0 hx7) rfl ent51 rfl rfl)) (by decide) ?_
  refine ao_cons (acts_of rfl (does_move (v := .tup [.own 12 0, .sl 1 (List.map enc5 x7.2.1), .bool x7.2.2]) (by exact rfl))) (by decide) ?_
  refine ao_cons (acts_of rfl (does_extract (v := .own 12 0) (by conv => lhs; whnf) (by exact rfl))) (by decide) ?_
  refine ao_cons (acts_of rfl (does_extract (v := .sl 1 (List.map enc5 x7.2.1)) (by conv => lhs; whnf) (by exact rfl))) (by decide) ?_
  refine ao_cons (acts_of rfl (does_extract (v := .bool x7.2.2) (by conv => lhs; whnf) (by exact rfl))) (by decide) ?_
  refine ao_cons (acts_of rfl (does_assign (v := .own 12 0) (by exact rfl))) (by decide) ?_
  refine ao_cons (acts_of rfl (does_assign (v := .sl 1 (List.map enc5 x7.2.1)) (by exact rfl))) (by decide) ?_
  refine ao_cons (acts_of rfl (does_assign (v := .bool x7.2.2) (by exact rfl))) (by decide) ?_
  refine ao_nil_n ?_
  refine hK6 _ ?_
  refine aw_seq_k (fun K8 hK8 => ?_)
  refine aw_seq_k (fun K9 hK9 => ?_)
  refine aw_reg ?_
  refine ao_cons (acts_of rfl (does_move (v := .bool x7.2.2) (by exact rfl))) (by decide) ?_
  refine ao_cons (acts_of rfl (does_un (v := .bool (!x7.2.2)) (by conv => lhs; whnf) rfl)) (by decide) ?_
  refine ao_nil_n ?_
  refine hK9 _ ?_
  refine aw_bool (b := (!x7.2.2)) 17 rfl (fun c10 => ?_) (fun c10 => ?_)
  · have h := ifT c10 h
    refine aw_cond_t (by decide) rfl ?_
    refine aw_seq_k (fun K11 hK11 => ?_)
    refine aw_reg ?_
    refine ao_cons (acts_of rfl (does_move (v := .own 4 0) (by exact rfl))) (by decide) ?_
    refine ao_cons (acts_of rfl (does_move (v := .sl 1 (List.map enc5 a0)) (by exact rfl))) (by decide) ?_
    refine ao_cons (acts_of rfl ((does_len_sl (by conv => lhs; whnf) ty51).castp (v' := .int .i64 (List.length a0 : Int)) (by exact len_map _))) (by decide) ?_
    refine ao_cons (acts_of rfl (does_move (v := .sl 1 (List.map enc5 v5_0)) (by exact rfl))) (by decide) ?_
    refine ao_cons (acts_of rfl ((does_len_sl (by conv => lhs; whnf) ty51).castp (v' := .int .i64 (List.length v5_0 : Int)) (by exact len_map _))) (by decide) ?_
    refine ao_cons (acts_of rfl (does_bin (v := .int .i64 (IntKind.i64.wrap ((List.length a0 : Int) - (List.length v5_0 : Int)))) (by conv => lhs; whnf) (by conv => lhs; whnf) rfl)) (by decide) ?_
    refine ao_cons (acts_of rfl (does_assign (v := .own 4 0) (by exact rfl))) (by decide) ?_
    refine ao_cons (acts_of rfl (does_assign (v := .int .i64 (IntKind.i64.wrap ((List.length a0 : Int) - (List.length v5_0 : Int)))) (by exact rfl))) (by decide) ?_
    refine ao_nil_n ?_
    refine hK11 _ ?_
    refine aw_ret ?_
    have h := leafR h hq5
    obtain rfl := Option.some.inj h
    exact ret_okR [(4, 0)] (by conv => lhs; whnf) (by conv => lhs; whnf) (by exact rfl) (rowsOk_cons (by conv => lhs; whnf) (by exact rfl) trivial) (nodup_b rfl) (.inr rfl) rfl
  · have h := ifF c10 h
    refine aw_cond_f (by decide) rfl ?_
    refine aw_skip ?_
    refine hK8 _ ?_
    refine aw_reg ?_
    refine ao_cons (acts_of rfl (does_move (v := .own 4 0) (by exact rfl))) (by decide) ?_
    refine ao_cons (acts_of rfl (does_move (v := .own 12 0) (by exact rfl))) (by decide) ?_
    refine ao_cons (acts_of rfl (does_frz (d := 12) (n := 0) (by conv => lhs; whnf) (do_buildSlice (xs := List.map enc51 [x7.1]) ty52 ty51 rfl rfl rfl rfl rfl rfl rfl rfl))) (by decide) ?_
    obtain ⟨g12, h⟩ := gd_some h
    refine ao_cons (acts_of rfl (do_append (v := List.map enc51 (v4_s_0 ++ [x7.1])) (by conv => lhs; whnf) (by conv => lhs; whnf) ty52 ty51 rfl rfl (by conv => lhs; whnf) (by first | exact .inl rfl | exact .inr ⟨rfl, rfl⟩) (by conv => lhs; whnf) (by first | exact .inr rfl | exact .inl rfl) (map_app _ _) (fit_map g12))) (by decide) ?_
    refine ao_cons (acts_of rfl (does_move (v := .sl 1 (List.map enc5 x7.2.1)) (by exact rfl))) (by decide) ?_
    refine ao_cons (acts_of rfl (does_assign (v := .own 27 0) (by exact rfl))) (by decide) ?_
    refine ao_cons (acts_of rfl (does_assign (v := .sl 1 (List.map enc5 x7.2.1)) (by exact rfl))) (by decide) ?_
    refine ao_nil_n ?_
    have h := leafL h hq5
    exact ⟨m0, Nat.lt_succ_self _, _, reb_lit [(0, .sl 1 (List.map enc5 a0)), (4, .own 4 0), (5, .sl 1 (List.map enc5 x7.2.1))] [(27, 0)] [((4, 0), .arr 51 1 false (List.map enc51 (v4_s_0 ++ [x7.1])))] [(4, 1)] (envOk_cons (by conv => lhs; whnf) (by exact rfl) (envOk_cons (by conv => lhs; whnf) (by exact rfl) (envOk_cons (by conv => lhs; whnf) (by exact rfl) envOk_nil))) (objOk_cons (by conv => lhs; whnf) (by conv => lhs; whnf) (by exact rfl) (by simp) objOk_nil) (nodup_b rfl) (nodup_b rfl) rfl rfl, (v4_s_0 ++ [x7.1]), x7.2.1, h, rfl⟩
def check_Put_l0 (a1 : Int) (v0_s_0 : List UInt8) (v6_0 : Int) : Option ((List UInt8 × Int) ⊕ (List UInt8)) :=
  if (decide (v6_0 < 4)) = true then (gd (¬ (IntKind.i64.wrap (8 * v6_0)) < 0) (gd ((List.length (v0_s_0 ++ [(u8 (IntKind.u8.wrap (Int.fdiv a1 (2 ^ (min (Int.toNat (IntKind.i64.wrap (8 * v6_0))) (IntKind.bits .u32))))))])) * 1 ≤ 140737488355328 ∧ (List.length (v0_s_0 ++ [(u8 (IntKind.u8.wrap (Int.fdiv a1 (2 ^ (min (Int.toNat (IntKind.i64.wrap (8 * v6_0))) (IntKind.bits .u32))))))])) ≤ 140737488355328) (some (Sum.inl ((v0_s_0 ++ [(u8 (IntKind.u8.wrap (Int.fdiv a1 (2 ^ (min (Int.toNat (IntKind.i64.wrap (8 * v6_0))) (IntKind.bits .u32))))))]), (IntKind.i64.wrap (v6_0 + 1))))))) else (some (Sum.inr v0_s_0))
def check_Put (a0 : List UInt8) (a1 : Int) : Option (List UInt8) :=
  loopN (fun (s : List UInt8 × Int) => check_Put_l0 a1 s.1 s.2) Fu (a0, 0)
set_option maxRecDepth 100000 in
set_option maxHeartbeats 8000000 in
/-- gleaning/check.Put -/
theorem check_Put_ok (a0 : List UInt8) (a1 : Int) {r : List UInt8} (h : check_Put a0 a1 = some r) : Ok Try.prog 55 [.own 1 0, .int .u32 a1] [] [(5, 1, List.map enc5 a0)] (.own 2 0) [] [(5, 1, List.map enc5 r)] := by
  unfold check_Put at h
  refine ok_of_code Try.func55 rfl (by show (2 : Nat) ≤ _; decide) (Nat.le_refl _) fun X => ?_
  refine aw_seq_k (fun K1 hK1 => ?_)
  refine aw_reg ?_
  refine ao_cons (acts_of rfl (does_assign (v := .nil) (by exact rfl))) (by decide) ?_
  refine ao_nil_n ?_
  refine hK1 _ ?_
  refine aw_seq_k (fun K2 hK2 => ?_)
  refine aw_seq_k (fun K3 hK3 => ?_)
  refine aw_reg ?_
  refine ao_cons (acts_of rfl (does_move (v := .int .i64 0) (by exact rfl))) (by decide) ?_
  refine ao_nil_n ?_
  refine hK3 _ ?_
  refine aw_block ?_
  refine aw_loop' (fun m s => ∃ (v0_s_0 : List UInt8), ∃ (v6_0 : Int), loopN (fun (s : List UInt8 × Int) => check_Put_l0 a1 s.1 s.2) m (v0_s_0, v6_0) = some r ∧ s = lit [(0, .own 1 0), (1, .int .u32 a1), (6, .int .i64 v6_0)] [((1, 0), .arr 5 1 false (List.map enc5 v0_s_0))] [(1, 1)] X) Fu
    ⟨_, reb_lit [(0, .own 1 0), (1, .int .u32 a1), (6, .int .i64 (0))] [(1, 0)] [((1, 0), .arr 5 1 false (List.map enc5 a0))] [(1, 1)] (envOk_cons (by conv => lhs; whnf) (by exact rfl) (envOk_cons (by conv => lhs; whnf) (by exact rfl) (envOk_cons (by conv => lhs; whnf) (by exact rfl) envOk_nil))) (objOk_cons (by conv => lhs; whnf) (by conv => lhs; whnf) (by exact rfl) (by simp) objOk_nil) (nodup_b rfl) (nodup_b rfl) rfl rfl, a0, 0, h, rfl⟩ ?_
  rintro m s ⟨v0_s_0, v6_0, h, rfl⟩
  obtain ⟨m0, q4, rfl, h, hq5⟩ := loop_some h
  replace h : check_Put_l0 a1 v0_s_0 v6_0 = some q4 := h
  unfold check_Put_l0 at h
  refine aw_seq_k (fun K6 hK6 => ?_)
  refine aw_reg ?_
  refine ao_cons (acts_of rfl (does_bin (v := .bool (decide (v6_0 < 4))) (by conv => lhs; whnf) (by conv => lhs; whnf) rfl)) (by decide) ?_
  refine ao_nil_n ?_
  refine hK6 _ ?_
  refine aw_seq_k (fun K7 hK7 => ?_)
  refine aw_bool (b := (decide (v6_0 < 4))) 7 rfl (fun c8 => ?_) (fun c8 => ?_)
  · have h := ifT c8 h
    refine aw_cond_t (by decide) rfl ?_
    refine aw_skip ?_
    refine hK7 _ ?_
    refine aw_seq_k (fun K9 hK9 => ?_)
    refine aw_block ?_
    refine aw_seq_k (fun K10 hK10 => ?_)
    refine aw_reg ?_
    refine ao_cons (acts_of rfl (does_move (v := .int .i64 v6_0) (by exact rfl))) (by decide) ?_
    refine ao_cons (acts_of rfl (does_assign (v := .int .i64 v6_0) (by exact rfl))) (by decide) ?_
    refine ao_nil_n ?_
    refine hK10 _ ?_
    refine aw_reg ?_
    refine ao_cons (acts_of rfl (does_move (v := .own 1 0) (by exact rfl))) (by decide) ?_
    refine ao_cons (acts_of rfl (does_move (v := .int .u32 a1) (by exact rfl))) (by decide) ?_
    refine ao_cons (acts_of rfl (does_move (v := .int .i64 v6_0) (by exact rfl))) (by decide) ?_
    refine ao_cons (acts_of rfl (does_bin (v := .int .i64 (IntKind.i64.wrap (8 * v6_0))) (by conv => lhs; whnf) (by conv => lhs; whnf) rfl)) (by decide) ?_
    obtain ⟨g11, h⟩ := gd_some h
    refine ao_cons (acts_of rfl (does_bin (v := .int .u32 (Int.fdiv a1 (2 ^ (min (Int.toNat (IntKind.i64.wrap (8 * v6_0))) (IntKind.bits .u32))))) (by conv => lhs; whnf) (by conv => lhs; whnf) (shr_hv g11))) (by decide) ?_
    refine ao_cons (acts_of rfl ((does_conv_int (v := .int .u8 (IntKind.u8.wrap (Int.fdiv a1 (2 ^ (min (Int.toNat (IntKind.i64.wrap (8 * v6_0))) (IntKind.bits .u32)))))) (by conv => lhs; whnf) (ty_some ty85) (ty_int ty5) rfl).castp (v' := .int .u8 ((u8 (IntKind.u8.wrap (Int.fdiv a1 (2 ^ (min (Int.toNat (IntKind.i64.wrap (8 * v6_0))) (IntKind.bits .u32)))))).toNat : Int)) (by exact congrArg _ (u8_eq (u8_wrap _))))) (by decide) ?_
    refine ao_cons (acts_of rfl (do_buildSlice (xs := List.map enc5 [(u8 (IntKind.u8.wrap (Int.fdiv a1 (2 ^ (min (Int.toNat (IntKind.i64.wrap (8 * v6_0))) (IntKind.bits .u32))))))]) ty51 ty5 rfl rfl rfl rfl rfl rfl rfl rfl)) (by decide) ?_
    obtain ⟨g12, h⟩ := gd_some h
    refine ao_cons (acts_of rfl (do_append (v := List.map enc5 (v0_s_0 ++ [(u8 (IntKind.u8.wrap (Int.fdiv a1 (2 ^ (min (Int.toNat (IntKind.i64.wrap (8 * v6_0))) (IntKind.bits .u32))))))])) (by conv => lhs; whnf) (by conv => lhs; whnf) ty51 ty5 rfl rfl (by conv => lhs; whnf) (by first | exact .inl rfl | exact .inr ⟨rfl, rfl⟩) (by conv => lhs; whnf) (by first | exact .inr rfl | exact .inl rfl) (map_app _ _) (fit_map g12))) (by decide) ?_
    refine ao_cons (acts_of rfl (does_assign (v := .own 16 0) (by exact rfl))) (by decide) ?_
    refine ao_nil_n ?_
    refine hK9 _ ?_
    refine aw_reg ?_
    refine ao_cons (acts_of rfl (does_bin (v := .int .i64 (IntKind.i64.wrap (v6_0 + 1))) (by conv => lhs; whnf) (by conv => lhs; whnf) rfl)) (by decide) ?_
    refine ao_cons (acts_of rfl (does_move (v := .int .i64 (IntKind.i64.wrap (v6_0 + 1))) (by exact rfl))) (by decide) ?_
    refine ao_nil_n ?_
    have h := leafL h hq5
    exact ⟨m0, Nat.lt_succ_self _, _, reb_lit [(0, .own 1 0), (1, .int .u32 a1), (6, .int .i64 (IntKind.i64.wrap (v6_0 + 1)))] [(16, 0)] [((1, 0), .arr 5 1 false (List.map enc5 (v0_s_0 ++ [(u8 (IntKind.u8.wrap (Int.fdiv a1 (2 ^ (min (Int.toNat (IntKind.i64.wrap (8 * v6_0))) (IntKind.bits .u32))))))])))] [(1, 1)] (envOk_cons (by conv => lhs; whnf) (by exact rfl) (envOk_cons (by conv => lhs; whnf) (by exact rfl) (envOk_cons (by conv => lhs; whnf) (by exact rfl) envOk_nil))) (objOk_cons (by conv => lhs; whnf) (by conv => lhs; whnf) (by exact rfl) (by simp) objOk_nil) (nodup_b rfl) (nodup_b rfl) rfl rfl, (v0_s_0 ++ [(u8 (IntKind.u8.wrap (Int.fdiv a1 (2 ^ (min (Int.toNat (IntKind.i64.wrap (8 * v6_0))) (IntKind.bits .u32))))))]), (IntKind.i64.wrap (v6_0 + 1)), h, rfl⟩
  · have h := ifF c8 h
    refine aw_cond_f (by decide) rfl ?_
    refine aw_exit ?_
    have h := leafR h hq5
    refine hK2 _ ?_
    refine aw_seq_k (fun K13 hK13 => ?_)
    refine aw_reg ?_
    refine ao_cons (acts_of rfl (does_move (v := .own 1 0) (by exact rfl))) (by decide) ?_
    refine ao_cons (acts_of rfl (does_assign (v := .own 1 0) (by exact rfl))) (by decide) ?_
    refine ao_nil_n ?_
    refine hK13 _ ?_
    refine aw_ret ?_
    obtain rfl := Option.some.inj h
    exact ret_okR [(1, 0)] (by conv => lhs; whnf) (by conv => lhs; whnf) (by exact rfl) (rowsOk_cons (by conv => lhs; whnf) (by exact rfl) trivial) (nodup_b rfl) (.inr rfl) rfl
def frame_Bytes (a0 : List UInt8) : Option (List UInt8) :=
  Option.bind (ints_Put [] (IntKind.u64.wrap (List.length a0 : Int))) (fun (x3 : List UInt8) => Option.bind (check_Sum a0) (fun (x4 : Int) => Option.bind (check_Put x3 x4) (fun (x5 : List UInt8) => gd ((List.length (x5 ++ a0)) * 1 ≤ 140737488355328 ∧ (List.length (x5 ++ a0)) ≤ 140737488355328) (some (x5 ++ a0)))))
set_option maxRecDepth 100000 in
set_option maxHeartbeats 8000000 in
/-- gleaning/frame.Bytes -/
theorem frame_Bytes_ok (a0 : List UInt8) {r : List UInt8} (h : frame_Bytes a0 = some r) : Ok Try.prog 34 [.sl 1 (List.map enc5 a0)] [] [] (.own 2 0) [] [(5, 1, List.map enc5 r)] := by
  unfold frame_Bytes at h
  refine ok_of_code Try.func34 rfl (by show (1 : Nat) ≤ _; decide) (Nat.le_refl _) fun X => ?_
  refine aw_seq_k (fun K1 hK1 => ?_)
  refine aw_reg ?_
  refine ao_cons (acts_of rfl (does_assign (v := .nil) (by exact rfl))) (by decide) ?_
  refine ao_nil_n ?_
  refine hK1 _ ?_
  refine aw_seq_k (fun K2 hK2 => ?_)
  refine aw_reg ?_
  refine ao_cons (acts_of rfl (does_move (v := .sl 1 (List.map enc5 a0)) (by exact rfl))) (by decide) ?_
  refine ao_cons (acts_of rfl ((does_len_sl (by conv => lhs; whnf) ty51).castp (v' := .int .i64 (List.length a0 : Int)) (by exact len_map _))) (by decide) ?_
  refine ao_cons (acts_of rfl (does_conv_int (v := .int .u64 (IntKind.u64.wrap (List.length a0 : Int))) (by conv => lhs; whnf) (ty_some ty3) (ty_int ty23) rfl)) (by decide) ?_
  obtain ⟨x3, hx3, h⟩ := bnd_some h
  refine ao_cons (acts_of rfl (do_call0 6 false ((ints_Put_ok [] (IntKind.u64.wrap (List.length a0 : Int)) hx3).weak (args' := [.nil, _]) ⟨le_nil _, le_refl _, trivial⟩) rfl ent56 rfl rfl)) (by decide) ?_
  refine ao_cons (acts_of rfl (does_move (v := .sl 1 (List.map enc5 a0)) (by exact rfl))) (by decide) ?_
  obtain ⟨x4, hx4, h⟩ := bnd_some h
  refine ao_cons (acts_of rfl (do_call0 8 false (check_Sum_ok a0 hx4) rfl ent57 rfl rfl)) (by decide) ?_
  obtain ⟨x5, hx5, h⟩ := bnd_some h
  refine ao_cons (acts_of rfl (do_callG (bcs := []) [] [(6, 0)] [] 9 false (check_Put_ok x3 x4 hx5) rfl ent55 trivial (rowsOk_cons (by conv => lhs; whnf) (by exact rfl) trivial) rfl rfl rfl rfl rfl rfl rfl rfl (.inr ⟨rfl, rfl, ⟨plain_map (fun _ => rfl), trivial⟩⟩))) (by decide) ?_
  refine ao_cons (acts_of rfl (does_move (v := .sl 1 (List.map enc5 a0)) (by exact rfl))) (by decide) ?_
  obtain ⟨g6, h⟩ := gd_some h
  refine ao_cons (acts_of rfl (do_append (v := List.map enc5 (x5 ++ a0)) (by conv => lhs; whnf) (by conv => lhs; whnf) ty51 ty5 rfl rfl (by conv => lhs; whnf) (by first | exact .inl rfl | exact .inr ⟨rfl, rfl⟩) (by conv => lhs; whnf) (by first | exact .inr rfl | exact .inl rfl) (map_app _ _) (fit_map g6))) (by decide) ?_
  refine ao_cons (acts_of rfl (does_assign (v := .own 11 0) (by exact rfl))) (by decide) ?_
  refine ao_nil_n ?_
  refine hK2 _ ?_
  refine aw_ret ?_
  obtain rfl := Option.some.inj h
  exact ret_okR [(11, 0)] (by conv => lhs; whnf) (by conv => lhs; whnf) (by exact rfl) (rowsOk_cons (by conv => lhs; whnf) (by exact rfl) trivial) (nodup_b rfl) (.inr rfl) rfl
def gleaninglaw5_alive : Option Bool :=
  Option.bind (frame_Split []) (fun (x3 : List (List UInt8) × Int) => Option.bind (frame_Bytes [(97 : UInt8), (98 : UInt8)]) (fun (x5 : List UInt8) => Option.bind (frame_Split x5) (fun (x6 : List (List UInt8) × Int) => if ((List.length x3.1 : Int) == 0) = true then (if (x3.2 == 0) = true then (if ((List.length x6.1 : Int) == 1) = true then (Option.bind (x6.1[0]?) (fun (x11 : List UInt8) => if (ByteArray.toList (strOf x11) == ByteArray.toList (strOf [97, 98])) = true then (some (x6.2 == 7)) else (some false))) else (some false)) else (some false)) else (some false))))
set_option maxRecDepth 100000 in
set_option maxHeartbeats 8000000 in
/-- gleaning/gleaninglaw5.alive -/
theorem gleaninglaw5_alive_ok {r : Bool} (h : gleaninglaw5_alive = some r) : Ok Try.prog 31 [] [] [] (.bool r) [] [] := by
  unfold gleaninglaw5_alive at h
  refine ok_of_code Try.func31 rfl (by show (0 : Nat) ≤ _; decide) (Nat.le_refl _) fun X => ?_
  refine aw_seq_k (fun K1 hK1 => ?_)
  refine aw_reg ?_
  refine ao_cons (acts_of rfl (does_assign (v := .bool false) (by exact rfl))) (by decide) ?_
  refine ao_nil_n ?_
  refine hK1 _ ?_
  refine aw_seq_k (fun K2 hK2 => ?_)
  refine aw_reg ?_
  obtain ⟨x3, hx3, h⟩ := bnd_some h
  refine ao_cons (acts_of rfl (do_call0 6 false ((frame_Split_ok [] hx3).weak (args' := [.nil]) ⟨le_nil _, trivial⟩) rfl ent32 rfl rfl)) (by decide) ?_
  refine ao_cons (acts_of rfl (does_move (v := .tup [.own 6 0, .int .i64 x3.2]) (by exact rfl))) (by decide) ?_
  refine ao_cons (acts_of rfl (does_extract (v := .own 6 0) (by conv => lhs; whnf) (by exact rfl))) (by decide) ?_
  refine ao_cons (acts_of rfl (does_extract (v := .int .i64 x3.2) (by conv => lhs; whnf) (by exact rfl))) (by decide) ?_
  refine ao_cons (acts_of rfl (does_assign (v := .own 6 0) (by exact rfl))) (by decide) ?_
  refine ao_cons (acts_of rfl (does_assign (v := .int .i64 x3.2) (by exact rfl))) (by decide) ?_
  refine ao_nil_n ?_
  refine hK2 _ ?_
  refine aw_seq_k (fun K4 hK4 => ?_)
  refine aw_reg ?_
  refine ao_cons (acts_of rfl (do_buildSlice (xs := List.map enc5 [(97 : UInt8), (98 : UInt8)]) ty51 ty5 rfl rfl rfl rfl rfl rfl rfl rfl)) (by decide) ?_
  refine ao_cons (acts_of rfl (does_conv_bytes (fz := false) (by conv => lhs; whnf) (by conv => lhs; whnf) (ty_slice ty51) (ty_int ty5) (by simp))) (by decide) ?_
  obtain ⟨x5, hx5, h⟩ := bnd_some h
  refine ao_cons (acts_of rfl (do_call0 12 false (frame_Bytes_ok [(97 : UInt8), (98 : UInt8)] hx5) rfl ent34 rfl rfl)) (by decide) ?_
  obtain ⟨x6, hx6, h⟩ := bnd_some h
  refine ao_cons (acts_of rfl (does_frz (d := 12) (n := 0) (by conv => lhs; whnf) (do_callG (bcs := []) [] [] [(12, 0)] 13 false (frame_Split_ok x5 hx6) rfl ent32 trivial trivial rfl rfl rfl rfl rfl rfl rfl rfl (.inl ⟨⟨_, _, _, rfl⟩, trivial⟩)))) (by decide) ?_
  refine ao_cons (acts_of rfl (does_move (v := .tup [.own 13 0, .int .i64 x6.2]) (by exact rfl))) (by decide) ?_
  refine ao_cons (acts_of rfl (does_extract (v := .own 13 0) (by conv => lhs; whnf) (by exact rfl))) (by decide) ?_
  refine ao_cons (acts_of rfl (does_extract (v := .int .i64 x6.2) (by conv => lhs; whnf) (by exact rfl))) (by decide) ?_
  refine ao_cons (acts_of rfl (does_assign (v := .own 13 0) (by exact rfl))) (by decide) ?_
  refine ao_cons (acts_of rfl (does_assign (v := .int .i64 x6.2) (by exact rfl))) (by decide) ?_
  refine ao_nil_n ?_
  refine hK4 _ ?_
  refine aw_seq_k (fun K7 hK7 => ?_)
  refine aw_reg ?_
  refine ao_cons (acts_of rfl (does_move (v := .own 6 0) (by exact rfl))) (by decide) ?_
  refine ao_cons (acts_of rfl ((does_len_own (by conv => lhs; whnf) (by conv => lhs; whnf) ty52).cast (v' := .int .i64 (List.length x3.1 : Int)) (by exact len_map _))) (by decide) ?_
  refine ao_cons (acts_of rfl (does_bin (v := .bool ((List.length x3.1 : Int) == 0)) (by conv => lhs; whnf) (by conv => lhs; whnf) rfl)) (by decide) ?_
  refine ao_cons (acts_of rfl (does_move (v := .bool ((List.length x3.1 : Int) == 0)) (by exact rfl))) (by decide) ?_
  refine ao_bool (c := ((List.length x3.1 : Int) == 0)) 19 rfl (fun c8 => ?_) (fun c8 => ?_)
  · have h := ifT c8 h
    refine ao_cons (acts_of rfl (does_move (v := .int .i64 x3.2) (by exact rfl))) (by decide) ?_
    refine ao_cons (acts_of rfl (does_bin (v := .bool (x3.2 == 0)) (by conv => lhs; whnf) (by conv => lhs; whnf) rfl)) (by decide) ?_
    refine ao_cons (acts_of rfl (does_pick (v := .bool (x3.2 == 0)) (by conv => lhs; whnf) (by exact rfl))) (by decide) ?_
    refine ao_cons (acts_of rfl (does_move (v := .bool (x3.2 == 0)) (by exact rfl))) (by decide) ?_
    refine ao_bool (c := (x3.2 == 0)) 23 rfl (fun c9 => ?_) (fun c9 => ?_)
    · have h := ifT c9 h
      refine ao_cons (acts_of rfl (does_move (v := .own 13 0) (by exact rfl))) (by decide) ?_
      refine ao_cons (acts_of rfl ((does_len_own (by conv => lhs; whnf) (by conv => lhs; whnf) ty52).cast (v' := .int .i64 (List.length x6.1 : Int)) (by exact len_map _))) (by decide) ?_
      refine ao_cons (acts_of rfl (does_bin (v := .bool ((List.length x6.1 : Int) == 1)) (by conv => lhs; whnf) (by conv => lhs; whnf) rfl)) (by decide) ?_
      refine ao_cons (acts_of rfl (does_pick (v := .bool ((List.length x6.1 : Int) == 1)) (by conv => lhs; whnf) (by exact rfl))) (by decide) ?_
      refine ao_cons (acts_of rfl (does_move (v := .bool ((List.length x6.1 : Int) == 1)) (by exact rfl))) (by decide) ?_
      refine ao_bool (c := ((List.length x6.1 : Int) == 1)) 28 rfl (fun c10 => ?_) (fun c10 => ?_)
      · have h := ifT c10 h
        refine ao_cons (acts_of rfl (does_move (v := .own 13 0) (by exact rfl))) (by decide) ?_
        obtain ⟨x11, hx11, h⟩ := bnd_some h
        refine ao_cons (acts_of rfl (does_indexAddr_own (by conv => lhs; whnf) (by conv => lhs; whnf) (by conv => lhs; whnf) ty52 ty51 (by decide) (by exact own_lt hx11))) (by decide) ?_
        refine ao_cons (acts_of rfl (does_load (v := .sl 1 (List.map enc5 x11)) (by conv => lhs; whnf) (cellsAt_eptr (by conv => lhs; whnf) (by exact map_get hx11)) ty51 (by exact rfl))) (by decide) ?_
        refine ao_cons (acts_of rfl (does_bytes_str (l := x11) (f := enc5) (by conv => lhs; whnf) (by conv => lhs; whnf) (Nat.le_refl 1) (ty_slice ty51) (ty_int ty5) (ty_str ty9) (fun _ => rfl))) (by decide) ?_
        refine ao_cons (acts_of rfl (does_bin (v := .bool (ByteArray.toList (strOf x11) == ByteArray.toList (strOf [97, 98]))) (by conv => lhs; whnf) (by conv => lhs; whnf) rfl)) (by decide) ?_
        refine ao_cons (acts_of rfl (does_pick (v := .bool (ByteArray.toList (strOf x11) == ByteArray.toList (strOf [97, 98]))) (by conv => lhs; whnf) (by exact rfl))) (by decide) ?_
        refine ao_cons (acts_of rfl (does_move (v := .bool (ByteArray.toList (strOf x11) == ByteArray.toList (strOf [97, 98]))) (by exact rfl))) (by decide) ?_
        refine ao_bool (c := (ByteArray.toList (strOf x11) == ByteArray.toList (strOf [97, 98]))) 35 rfl (fun c12 => ?_) (fun c12 => ?_)
        · have h := ifT c12 h
          refine ao_cons (acts_of rfl (does_move (v := .int .i64 x6.2) (by exact rfl))) (by decide) ?_
          refine ao_cons (acts_of rfl (does_bin (v := .bool (x6.2 == 7)) (by conv => lhs; whnf) (by conv => lhs; whnf) rfl)) (by decide) ?_
          refine ao_cons (acts_of rfl (does_pick (v := .bool (x6.2 == 7)) (by conv => lhs; whnf) (by exact rfl))) (by decide) ?_
          refine ao_cons (acts_of rfl (does_assign (v := .bool (x6.2 == 7)) (by exact rfl))) (by decide) ?_
          refine ao_nil_n ?_
          refine hK7 _ ?_
          refine aw_ret ?_
          obtain rfl := Option.some.inj h
          exact ret_ok1 (by conv => lhs; whnf) (by conv => lhs; whnf) (by exact rfl) (.inr rfl) rfl
        · have h := ifF c12 h
          refine ao_cons (acts_skip rfl) (by decide) ?_
          refine ao_cons (acts_skip rfl) (by decide) ?_
          refine ao_cons (acts_of rfl (does_pick (v := .bool false) (by conv => lhs; whnf) (by exact rfl))) (by decide) ?_
          refine ao_cons (acts_of rfl (does_assign (v := .bool false) (by exact rfl))) (by decide) ?_
          refine ao_nil_n ?_
          refine hK7 _ ?_
          refine aw_ret ?_
          obtain rfl := Option.some.inj h
          exact ret_ok1 (by conv => lhs; whnf) (by conv => lhs; whnf) (by exact rfl) (.inr rfl) rfl
      · have h := ifF c10 h
        refine ao_cons (acts_skip rfl) (by decide) ?_
        refine ao_cons (acts_skip rfl) (by decide) ?_
        refine ao_cons (acts_skip rfl) (by decide) ?_
        refine ao_cons (acts_skip rfl) (by decide) ?_
        refine ao_cons (acts_skip rfl) (by decide) ?_
        refine ao_cons (acts_of rfl (does_pick (v := .bool false) (by conv => lhs; whnf) (by exact rfl))) (by decide) ?_
        refine ao_cons (acts_of rfl (does_move (v := .bool false) (by exact rfl))) (by decide) ?_
        refine ao_cons (acts_skip rfl) (by decide) ?_
        refine ao_cons (acts_skip rfl) (by decide) ?_
        refine ao_cons (acts_of rfl (does_pick (v := .bool false) (by conv => lhs; whnf) (by exact rfl))) (by decide) ?_
        refine ao_cons (acts_of rfl (does_assign (v := .bool false) (by exact rfl))) (by decide) ?_
        refine ao_nil_n ?_
        refine hK7 _ ?_
        refine aw_ret ?_
        obtain rfl := Option.some.inj h
        exact ret_ok1 (by conv => lhs; whnf) (by conv => lhs; whnf) (by exact rfl) (.inr rfl) rfl
    · have h := ifF c9 h
      refine ao_cons (acts_skip rfl) (by decide) ?_
      refine ao_cons (acts_skip rfl) (by decide) ?_
      refine ao_cons (acts_skip rfl) (by decide) ?_
      refine ao_cons (acts_of rfl (does_pick (v := .bool false) (by conv => lhs; whnf) (by exact rfl))) (by decide) ?_
      refine ao_cons (acts_of rfl (does_move (v := .bool false) (by exact rfl))) (by decide) ?_
      refine ao_cons (acts_skip rfl) (by decide) ?_
      refine ao_cons (acts_skip rfl) (by decide) ?_
      refine ao_cons (acts_skip rfl) (by decide) ?_
      refine ao_cons (acts_skip rfl) (by decide) ?_
      refine ao_cons (acts_skip rfl) (by decide) ?_
      refine ao_cons (acts_of rfl (does_pick (v := .bool false) (by conv => lhs; whnf) (by exact rfl))) (by decide) ?_
      refine ao_cons (acts_of rfl (does_move (v := .bool false) (by exact rfl))) (by decide) ?_
      refine ao_cons (acts_skip rfl) (by decide) ?_
      refine ao_cons (acts_skip rfl) (by decide) ?_
      refine ao_cons (acts_of rfl (does_pick (v := .bool false) (by conv => lhs; whnf) (by exact rfl))) (by decide) ?_
      refine ao_cons (acts_of rfl (does_assign (v := .bool false) (by exact rfl))) (by decide) ?_
      refine ao_nil_n ?_
      refine hK7 _ ?_
      refine aw_ret ?_
      obtain rfl := Option.some.inj h
      exact ret_ok1 (by conv => lhs; whnf) (by conv => lhs; whnf) (by exact rfl) (.inr rfl) rfl
  · have h := ifF c8 h
    refine ao_cons (acts_skip rfl) (by decide) ?_
    refine ao_cons (acts_skip rfl) (by decide) ?_
    refine ao_cons (acts_of rfl (does_pick (v := .bool false) (by conv => lhs; whnf) (by exact rfl))) (by decide) ?_
    refine ao_cons (acts_of rfl (does_move (v := .bool false) (by exact rfl))) (by decide) ?_
    refine ao_cons (acts_skip rfl) (by decide) ?_
    refine ao_cons (acts_skip rfl) (by decide) ?_
    refine ao_cons (acts_skip rfl) (by decide) ?_
    refine ao_cons (acts_of rfl (does_pick (v := .bool false) (by conv => lhs; whnf) (by exact rfl))) (by decide) ?_
    refine ao_cons (acts_of rfl (does_move (v := .bool false) (by exact rfl))) (by decide) ?_
    refine ao_cons (acts_skip rfl) (by decide) ?_
    refine ao_cons (acts_skip rfl) (by decide) ?_
    refine ao_cons (acts_skip rfl) (by decide) ?_
    refine ao_cons (acts_skip rfl) (by decide) ?_
    refine ao_cons (acts_skip rfl) (by decide) ?_
    refine ao_cons (acts_of rfl (does_pick (v := .bool false) (by conv => lhs; whnf) (by exact rfl))) (by decide) ?_
    refine ao_cons (acts_of rfl (does_move (v := .bool false) (by exact rfl))) (by decide) ?_
    refine ao_cons (acts_skip rfl) (by decide) ?_
    refine ao_cons (acts_skip rfl) (by decide) ?_
    refine ao_cons (acts_of rfl (does_pick (v := .bool false) (by conv => lhs; whnf) (by exact rfl))) (by decide) ?_
    refine ao_cons (acts_of rfl (does_assign (v := .bool false) (by exact rfl))) (by decide) ?_
    refine ao_nil_n ?_
    refine hK7 _ ?_
    refine aw_ret ?_
    obtain rfl := Option.some.inj h
    exact ret_ok1 (by conv => lhs; whnf) (by conv => lhs; whnf) (by exact rfl) (.inr rfl) rfl
def gleaningref1_More_l1 (v6_0 : Int) (v5_1 : Int) (v7_1 : Int) : Option ((Int × Int) ⊕ ((Int × Int) ⊕ Int)) :=
  if (decide (v7_1 < 8)) = true then (if ((bits .and .u32 v5_1 1) == 1) = true then (some (Sum.inl ((bits .xor .u32 (Int.fdiv v5_1 (2 ^ (min (Int.toNat 1) (IntKind.bits .u32)))) 3988292384), (IntKind.i64.wrap (v7_1 + 1))))) else (some (Sum.inl ((Int.fdiv v5_1 (2 ^ (min (Int.toNat 1) (IntKind.bits .u32)))), (IntKind.i64.wrap (v7_1 + 1)))))) else (some (Sum.inr (Sum.inl (v5_1, (IntKind.i64.wrap (v6_0 + 1))))))
def gleaningref1_More_l0 (a1 : List UInt8) (v5_0 : Int) (v6_0 : Int) : Option ((Int × Int) ⊕ Int) :=
  if (decide (v6_0 < (List.length a1 : Int))) = true then (gd (0 ≤ v6_0) (Option.bind (a1[(Int.toNat v6_0)]?) (fun (x13 : UInt8) => loopN (fun (s : Int × Int) => gleaningref1_More_l1 v6_0 s.1 s.2) Fu ((bits .xor .u32 v5_0 (IntKind.u32.wrap (x13.toNat : Int))), 0)))) else (some (Sum.inr (bits .xor .u32 (if IntKind.signed .u32 then -1 else IntKind.max .u32) v5_0)))
def gleaningref1_More (a0 : Int) (a1 : List UInt8) : Option Int :=
  loopN (fun (s : Int × Int) => gleaningref1_More_l0 a1 s.1 s.2) Fu ((bits .xor .u32 (if IntKind.signed .u32 then -1 else IntKind.max .u32) a0), 0)
set_option maxRecDepth 100000 in
set_option maxHeartbeats 8000000 in
/-- gleaning/gleaningref1.More -/
theorem gleaningref1_More_ok (a0 : Int) (a1 : List UInt8) {r : Int} (h : gleaningref1_More a0 a1 = some r) : Ok Try.prog 69 [.int .u32 a0, .sl 1 (List.map enc5 a1)] [] [] (.int .u32 r) [] [] := by
  unfold gleaningref1_More at h
  refine ok_of_code Try.func69 rfl (by show (2 : Nat) ≤ _; decide) (Nat.le_refl _) fun X => ?_
  refine aw_seq_k (fun K1 hK1 => ?_)
  refine aw_reg ?_
  refine ao_cons (acts_of rfl (does_assign (v := .int .u32 0) (by exact rfl))) (by decide) ?_
  refine ao_nil_n ?_
  refine hK1 _ ?_
  refine aw_seq_k (fun K2 hK2 => ?_)
  refine aw_reg ?_
  refine ao_cons (acts_of rfl (does_move (v := .int .u32 a0) (by exact rfl))) (by decide) ?_
  refine ao_cons (acts_of rfl (does_un (v := .int .u32 (bits .xor .u32 (if IntKind.signed .u32 then -1 else IntKind.max .u32) a0)) (by conv => lhs; whnf) rfl)) (by decide) ?_
  refine ao_cons (acts_of rfl (does_assign (v := .int .u32 (bits .xor .u32 (if IntKind.signed .u32 then -1 else IntKind.max .u32) a0)) (by exact rfl))) (by decide) ?_
  refine ao_nil_n ?_
  refine hK2 _ ?_
  refine aw_seq_k (fun K3 hK3 => ?_)
  refine aw_seq_k (fun K4 hK4 => ?_)
  refine aw_reg ?_
  refine ao_cons (acts_of rfl (does_assign (v := .int .i64 0) (by exact rfl))) (by decide) ?_
  refine ao_nil_n ?_
  refine hK4 _ ?_
  refine aw_block ?_
  refine aw_loop' (fun m s => ∃ (v5_0 : Int), ∃ (v6_0 : Int), loopN (fun (s : Int × Int) => gleaningref1_More_l0 a1 s.1 s.2) m (v5_0, v6_0) = some r ∧ s = lit [(1, .sl 1 (List.map enc5 a1)), (5, .int .u32 v5_0), (6, .int .i64 v6_0)] [] [] X) Fu
    ⟨_, reb_lit [(1, .sl 1 (List.map enc5 a1)), (5, .int .u32 (bits .xor .u32 (if IntKind.signed .u32 then -1 else IntKind.max .u32) a0)), (6, .int .i64 (0))] [] [] [] (envOk_cons (by conv => lhs; whnf) (by exact rfl) (envOk_cons (by conv => lhs; whnf) (by exact rfl) (envOk_cons (by conv => lhs; whnf) (by exact rfl) envOk_nil))) objOk_nil (nodup_b rfl) (nodup_b rfl) rfl rfl, (bits .xor .u32 (if IntKind.signed .u32 then -1 else IntKind.max .u32) a0), 0, h, rfl⟩ ?_
  rintro m s ⟨v5_0, v6_0, h, rfl⟩
  obtain ⟨m0, q5, rfl, h, hq6⟩ := loop_some h
  replace h : gleaningref1_More_l0 a1 v5_0 v6_0 = some q5 := h
  unfold gleaningref1_More_l0 at h
  refine aw_seq_k (fun K7 hK7 => ?_)
  refine aw_seq_k (fun K8 hK8 => ?_)
  refine aw_reg ?_
  refine ao_cons (acts_of rfl (does_move (v := .int .i64 v6_0) (by exact rfl))) (by decide) ?_
  refine ao_cons (acts_of rfl (does_move (v := .sl 1 (List.map enc5 a1)) (by exact rfl))) (by decide) ?_
  refine ao_cons (acts_of rfl ((does_len_sl (by conv => lhs; whnf) ty51).castp (v' := .int .i64 (List.length a1 : Int)) (by exact len_map _))) (by decide) ?_
  refine ao_cons (acts_of rfl (does_bin (v := .bool (decide (v6_0 < (List.length a1 : Int)))) (by conv => lhs; whnf) (by conv => lhs; whnf) rfl)) (by decide) ?_
  refine ao_nil_n ?_
  refine hK8 _ ?_
  refine aw_bool (b := (decide (v6_0 < (List.length a1 : Int)))) 13 rfl (fun c9 => ?_) (fun c9 => ?_)
  · have h := ifT c9 h
    refine aw_cond_t (by decide) rfl ?_
    refine aw_skip ?_
    refine hK7 _ ?_
    refine aw_seq_k (fun K10 hK10 => ?_)
    refine aw_block ?_
    refine aw_seq_k (fun K11 hK11 => ?_)
    refine aw_reg ?_
    refine ao_cons (acts_of rfl (does_move (v := .int .u32 v5_0) (by exact rfl))) (by decide) ?_
    refine ao_cons (acts_of rfl (does_move (v := .sl 1 (List.map enc5 a1)) (by exact rfl))) (by decide) ?_
    refine ao_cons (acts_of rfl (does_move (v := .int .i64 v6_0) (by exact rfl))) (by decide) ?_
    obtain ⟨g12, h⟩ := gd_some h
    obtain ⟨x13, hx13, h⟩ := bnd_some h
    refine ao_cons (acts_of rfl (does_indexAddr_sl (el := .int .u8 (x13.toNat : Int)) (by conv => lhs; whnf) (by conv => lhs; whnf) ty51 ty5 g12 (by exact map_get hx13))) (by decide) ?_
    refine ao_cons (acts_of rfl (does_load (v := .int .u8 (x13.toNat : Int)) (by conv => lhs; whnf) (by conv => lhs; whnf) ty5 (by exact rfl))) (by decide) ?_
    refine ao_cons (acts_of rfl (does_conv_int (v := .int .u32 (IntKind.u32.wrap (x13.toNat : Int))) (by conv => lhs; whnf) (ty_some ty5) (ty_int ty85) rfl)) (by decide) ?_
    refine ao_cons (acts_of rfl (does_bin (v := .int .u32 (bits .xor .u32 v5_0 (IntKind.u32.wrap (x13.toNat : Int)))) (by conv => lhs; whnf) (by conv => lhs; whnf) rfl)) (by decide) ?_
    refine ao_cons (acts_of rfl (does_assign (v := .int .u32 (bits .xor .u32 v5_0 (IntKind.u32.wrap (x13.toNat : Int)))) (by exact rfl))) (by decide) ?_
    refine ao_nil_n ?_
    refine hK11 _ ?_
    refine aw_seq_k (fun K14 hK14 => ?_)
    refine aw_reg ?_
    refine ao_cons (acts_of rfl (does_assign (v := .int .i64 0) (by exact rfl))) (by decide) ?_
    refine ao_nil_n ?_
    refine hK14 _ ?_
    refine aw_block ?_
    refine aw_loop' (fun m s => ∃ (v5_1 : Int), ∃ (v7_1 : Int), loopN (fun (s : Int × Int) => gleaningref1_More_l1 v6_0 s.1 s.2) m (v5_1, v7_1) = some q5 ∧ s = lit [(1, .sl 1 (List.map enc5 a1)), (5, .int .u32 v5_1), (6, .int .i64 v6_0), (7, .int .i64 v7_1)] [] [] X) Fu
      ⟨_, reb_lit [(1, .sl 1 (List.map enc5 a1)), (5, .int .u32 (bits .xor .u32 v5_0 (IntKind.u32.wrap (x13.toNat : Int)))), (6, .int .i64 v6_0), (7, .int .i64 (0))] [] [] [] (envOk_cons (by conv => lhs; whnf) (by exact rfl) (envOk_cons (by conv => lhs; whnf) (by exact rfl) (envOk_cons (by conv => lhs; whnf) (by exact rfl) (envOk_cons (by conv => lhs; whnf) (by exact rfl) envOk_nil)))) objOk_nil (nodup_b rfl) (nodup_b rfl) rfl rfl, (bits .xor .u32 v5_0 (IntKind.u32.wrap (x13.toNat : Int))), 0, h, rfl⟩ ?_
    rintro m s ⟨v5_1, v7_1, h, rfl⟩
    obtain ⟨m1, q15, rfl, h, hq16⟩ := loop_some h
    replace h : gleaningref1_More_l1 v6_0 v5_1 v7_1 = some q15 := h
    unfold gleaningref1_More_l1 at h
    refine aw_seq_k (fun K17 hK17 => ?_)
    refine aw_seq_k (fun K18 hK18 => ?_)
    refine aw_reg ?_
    refine ao_cons (acts_of rfl (does_move (v := .int .i64 v7_1) (by exact rfl))) (by decide) ?_
    refine ao_cons (acts_of rfl (does_bin (v := .bool (decide (v7_1 < 8))) (by conv => lhs; whnf) (by conv => lhs; whnf) rfl)) (by decide) ?_
    refine ao_nil_n ?_
    refine hK18 _ ?_
    refine aw_bool (b := (decide (v7_1 < 8))) 24 rfl (fun c19 => ?_) (fun c19 => ?_)
    · have h := ifT c19 h
      refine aw_cond_t (by decide) rfl ?_
      refine aw_skip ?_
      refine hK17 _ ?_
      refine aw_seq_k (fun K20 hK20 => ?_)
      refine aw_block ?_
      refine aw_seq_k (fun K21 hK21 => ?_)
      refine aw_reg ?_
      refine ao_cons (acts_of rfl (does_move (v := .int .u32 v5_1) (by exact rfl))) (by decide) ?_
      refine ao_cons (acts_of rfl (does_bin (v := .int .u32 (bits .and .u32 v5_1 1)) (by conv => lhs; whnf) (by conv => lhs; whnf) rfl)) (by decide) ?_
      refine ao_cons (acts_of rfl (does_bin (v := .bool ((bits .and .u32 v5_1 1) == 1)) (by conv => lhs; whnf) (by conv => lhs; whnf) rfl)) (by decide) ?_
      refine ao_nil_n ?_
      refine hK21 _ ?_
      refine aw_bool (b := ((bits .and .u32 v5_1 1) == 1)) 29 rfl (fun c22 => ?_) (fun c22 => ?_)
      · have h := ifT c22 h
        refine aw_cond_t (by decide) rfl ?_
        refine aw_reg ?_
        refine ao_cons (acts_of rfl (does_move (v := .int .u32 v5_1) (by exact rfl))) (by decide) ?_
        refine ao_cons (acts_of rfl (does_bin (v := .int .u32 (Int.fdiv v5_1 (2 ^ (min (Int.toNat 1) (IntKind.bits .u32))))) (by conv => lhs; whnf) (by conv => lhs; whnf) rfl)) (by decide) ?_
        refine ao_cons (acts_of rfl (does_bin (v := .int .u32 (bits .xor .u32 (Int.fdiv v5_1 (2 ^ (min (Int.toNat 1) (IntKind.bits .u32)))) 3988292384)) (by conv => lhs; whnf) (by conv => lhs; whnf) rfl)) (by decide) ?_
        refine ao_cons (acts_of rfl (does_assign (v := .int .u32 (bits .xor .u32 (Int.fdiv v5_1 (2 ^ (min (Int.toNat 1) (IntKind.bits .u32)))) 3988292384)) (by exact rfl))) (by decide) ?_
        refine ao_nil_n ?_
        refine hK20 _ ?_
        refine aw_reg ?_
        refine ao_cons (acts_of rfl (does_move (v := .int .i64 v7_1) (by exact rfl))) (by decide) ?_
        refine ao_cons (acts_of rfl (does_bin (v := .int .i64 (IntKind.i64.wrap (v7_1 + 1))) (by conv => lhs; whnf) (by conv => lhs; whnf) rfl)) (by decide) ?_
        refine ao_cons (acts_of rfl (does_assign (v := .int .i64 (IntKind.i64.wrap (v7_1 + 1))) (by exact rfl))) (by decide) ?_
        refine ao_nil_n ?_
        have h := leafL h hq16
        exact ⟨m1, Nat.lt_succ_self _, _, reb_lit [(1, .sl 1 (List.map enc5 a1)), (5, .int .u32 (bits .xor .u32 (Int.fdiv v5_1 (2 ^ (min (Int.toNat 1) (IntKind.bits .u32)))) 3988292384)), (6, .int .i64 v6_0), (7, .int .i64 (IntKind.i64.wrap (v7_1 + 1)))] [] [] [] (envOk_cons (by conv => lhs; whnf) (by exact rfl) (envOk_cons (by conv => lhs; whnf) (by exact rfl) (envOk_cons (by conv => lhs; whnf) (by exact rfl) (envOk_cons (by conv => lhs; whnf) (by exact rfl) envOk_nil)))) objOk_nil (nodup_b rfl) (nodup_b rfl) rfl rfl, (bits .xor .u32 (Int.fdiv v5_1 (2 ^ (min (Int.toNat 1) (IntKind.bits .u32)))) 3988292384), (IntKind.i64.wrap (v7_1 + 1)), h, rfl⟩
      · have h := ifF c22 h
        refine aw_cond_f (by decide) rfl ?_
        refine aw_reg ?_
        refine ao_cons (acts_of rfl (does_move (v := .int .u32 v5_1) (by exact rfl))) (by decide) ?_
        refine ao_cons (acts_of rfl (does_bin (v := .int .u32 (Int.fdiv v5_1 (2 ^ (min (Int.toNat 1) (IntKind.bits .u32))))) (by conv => lhs; whnf) (by conv => lhs; whnf) rfl)) (by decide) ?_
        refine ao_cons (acts_of rfl (does_assign (v := .int .u32 (Int.fdiv v5_1 (2 ^ (min (Int.toNat 1) (IntKind.bits .u32))))) (by exact rfl))) (by decide) ?_
        refine ao_nil_n ?_
        refine hK20 _ ?_
        refine aw_reg ?_
        refine ao_cons (acts_of rfl (does_move (v := .int .i64 v7_1) (by exact rfl))) (by decide) ?_
        refine ao_cons (acts_of rfl (does_bin (v := .int .i64 (IntKind.i64.wrap (v7_1 + 1))) (by conv => lhs; whnf) (by conv => lhs; whnf) rfl)) (by decide) ?_
        refine ao_cons (acts_of rfl (does_assign (v := .int .i64 (IntKind.i64.wrap (v7_1 + 1))) (by exact rfl))) (by decide) ?_
        refine ao_nil_n ?_
        have h := leafL h hq16
        exact ⟨m1, Nat.lt_succ_self _, _, reb_lit [(1, .sl 1 (List.map enc5 a1)), (5, .int .u32 (Int.fdiv v5_1 (2 ^ (min (Int.toNat 1) (IntKind.bits .u32))))), (6, .int .i64 v6_0), (7, .int .i64 (IntKind.i64.wrap (v7_1 + 1)))] [] [] [] (envOk_cons (by conv => lhs; whnf) (by exact rfl) (envOk_cons (by conv => lhs; whnf) (by exact rfl) (envOk_cons (by conv => lhs; whnf) (by exact rfl) (envOk_cons (by conv => lhs; whnf) (by exact rfl) envOk_nil)))) objOk_nil (nodup_b rfl) (nodup_b rfl) rfl rfl, (Int.fdiv v5_1 (2 ^ (min (Int.toNat 1) (IntKind.bits .u32)))), (IntKind.i64.wrap (v7_1 + 1)), h, rfl⟩
    · have h := ifF c19 h
      refine aw_cond_f (by decide) rfl ?_
      refine aw_exit ?_
      have h := leafR h hq16
      refine hK10 _ ?_
      refine aw_reg ?_
      refine ao_cons (acts_of rfl (does_move (v := .int .i64 v6_0) (by exact rfl))) (by decide) ?_
      refine ao_cons (acts_of rfl (does_bin (v := .int .i64 (IntKind.i64.wrap (v6_0 + 1))) (by conv => lhs; whnf) (by conv => lhs; whnf) rfl)) (by decide) ?_
      refine ao_cons (acts_of rfl (does_assign (v := .int .i64 (IntKind.i64.wrap (v6_0 + 1))) (by exact rfl))) (by decide) ?_
      refine ao_nil_n ?_
      have h := leafL h hq6
      exact ⟨m0, Nat.lt_succ_self _, _, reb_lit [(1, .sl 1 (List.map enc5 a1)), (5, .int .u32 v5_1), (6, .int .i64 (IntKind.i64.wrap (v6_0 + 1)))] [] [] [] (envOk_cons (by conv => lhs; whnf) (by exact rfl) (envOk_cons (by conv => lhs; whnf) (by exact rfl) (envOk_cons (by conv => lhs; whnf) (by exact rfl) envOk_nil))) objOk_nil (nodup_b rfl) (nodup_b rfl) rfl rfl, v5_1, (IntKind.i64.wrap (v6_0 + 1)), h, rfl⟩
  · have h := ifF c9 h
    refine aw_cond_f (by decide) rfl ?_
    refine aw_exit ?_
    have h := leafR h hq6
    refine hK3 _ ?_
    refine aw_seq_k (fun K23 hK23 => ?_)
    refine aw_reg ?_
    refine ao_cons (acts_of rfl (does_move (v := .int .u32 v5_0) (by exact rfl))) (by decide) ?_
    refine ao_cons (acts_of rfl (does_un (v := .int .u32 (bits .xor .u32 (if IntKind.signed .u32 then -1 else IntKind.max .u32) v5_0)) (by conv => lhs; whnf) rfl)) (by decide) ?_
    refine ao_cons (acts_of rfl (does_assign (v := .int .u32 (bits .xor .u32 (if IntKind.signed .u32 then -1 else IntKind.max .u32) v5_0)) (by exact rfl))) (by decide) ?_
    refine ao_nil_n ?_
    refine hK23 _ ?_
    refine aw_ret ?_
    obtain rfl := Option.some.inj h
    exact ret_ok1 (by conv => lhs; whnf) (by conv => lhs; whnf) (by exact rfl) (.inr rfl) rfl
def gleaningref1_Sum (a0 : List UInt8) : Option Int :=
  Option.bind (gleaningref1_More 0 a0) (fun (x3 : Int) => some x3)
set_option maxRecDepth 100000 in
set_option maxHeartbeats 8000000 in
/-- gleaning/gleaningref1.Sum -/
theorem gleaningref1_Sum_ok (a0 : List UInt8) {r : Int} (h : gleaningref1_Sum a0 = some r) : Ok Try.prog 54 [.sl 1 (List.map enc5 a0)] [] [] (.int .u32 r) [] [] := by
  unfold gleaningref1_Sum at h
  refine ok_of_code Try.func54 rfl (by show (1 : Nat) ≤ _; decide) (Nat.le_refl _) fun X => ?_
  refine aw_seq_k (fun K1 hK1 => ?_)
  refine aw_reg ?_
  refine ao_cons (acts_of rfl (does_assign (v := .int .u32 0) (by exact rfl))) (by decide) ?_
  refine ao_nil_n ?_
  refine hK1 _ ?_
  refine aw_seq_k (fun K2 hK2 => ?_)
  refine aw_reg ?_
  refine ao_cons (acts_of rfl (does_move (v := .sl 1 (List.map enc5 a0)) (by exact rfl))) (by decide) ?_
  obtain ⟨x3, hx3, h⟩ := bnd_some h
  refine ao_cons (acts_of rfl (do_call0 4 false (gleaningref1_More_ok 0 a0 hx3) rfl ent69 rfl rfl)) (by decide) ?_
  refine ao_cons (acts_of rfl (does_assign (v := .int .u32 x3) (by exact rfl))) (by decide) ?_
  refine ao_nil_n ?_
  refine hK2 _ ?_
  refine aw_ret ?_
  obtain rfl := Option.some.inj h
  exact ret_ok1 (by conv => lhs; whnf) (by conv => lhs; whnf) (by exact rfl) (.inr rfl) rfl
def gleaningref1_four (a0 : Int) : Option (List UInt8) :=
  some [(u8 (IntKind.u8.wrap (bits .and .u32 a0 255))), (u8 (IntKind.u8.wrap (bits .and .u32 (Int.fdiv a0 (2 ^ (min (Int.toNat 8) (IntKind.bits .u32)))) 255))), (u8 (IntKind.u8.wrap (bits .and .u32 (Int.fdiv a0 (2 ^ (min (Int.toNat 16) (IntKind.bits .u32)))) 255))), (u8 (IntKind.u8.wrap (Int.fdiv a0 (2 ^ (min (Int.toNat 24) (IntKind.bits .u32))))))]
set_option maxRecDepth 100000 in
set_option maxHeartbeats 8000000 in
/-- gleaning/gleaningref1.four -/
theorem gleaningref1_four_ok (a0 : Int) {r : List UInt8} (h : gleaningref1_four a0 = some r) : Ok Try.prog 53 [.int .u32 a0] [] [] (.own 2 0) [] [(5, 1, List.map enc5 r)] := by
  unfold gleaningref1_four at h
  refine ok_of_code Try.func53 rfl (by show (1 : Nat) ≤ _; decide) (Nat.le_refl _) fun X => ?_
  refine aw_seq_k (fun K1 hK1 => ?_)
  refine aw_reg ?_
  refine ao_cons (acts_of rfl (does_assign (v := .nil) (by exact rfl))) (by decide) ?_
  refine ao_nil_n ?_
  refine hK1 _ ?_
  refine aw_seq_k (fun K2 hK2 => ?_)
  refine aw_reg ?_
  refine ao_cons (acts_of rfl (does_move (v := .int .u32 a0) (by exact rfl))) (by decide) ?_
  refine ao_cons (acts_of rfl (does_bin (v := .int .u32 (bits .and .u32 a0 255)) (by conv => lhs; whnf) (by conv => lhs; whnf) rfl)) (by decide) ?_
  refine ao_cons (acts_of rfl ((does_conv_int (v := .int .u8 (IntKind.u8.wrap (bits .and .u32 a0 255))) (by conv => lhs; whnf) (ty_some ty85) (ty_int ty5) rfl).castp (v' := .int .u8 ((u8 (IntKind.u8.wrap (bits .and .u32 a0 255))).toNat : Int)) (by exact congrArg _ (u8_eq (u8_wrap _))))) (by decide) ?_
  refine ao_cons (acts_of rfl (does_move (v := .int .u32 a0) (by exact rfl))) (by decide) ?_
  refine ao_cons (acts_of rfl (does_bin (v := .int .u32 (Int.fdiv a0 (2 ^ (min (Int.toNat 8) (IntKind.bits .u32))))) (by conv => lhs; whnf) (by conv => lhs; whnf) rfl)) (by decide) ?_
  refine ao_cons (acts_of rfl (does_bin (v := .int .u32 (bits .and .u32 (Int.fdiv a0 (2 ^ (min (Int.toNat 8) (IntKind.bits .u32)))) 255)) (by conv => lhs; whnf) (by conv => lhs; whnf) rfl)) (by decide) ?_
  refine ao_cons (acts_of rfl ((does_conv_int (v := .int .u8 (IntKind.u8.wrap (bits .and .u32 (Int.fdiv a0 (2 ^ (min (Int.toNat 8) (IntKind.bits .u32)))) 255))) (by conv => lhs; whnf) (ty_some ty85) (ty_int ty5) rfl).castp (v' := .int .u8 ((u8 (IntKind.u8.wrap (bits .and .u32 (Int.fdiv a0 (2 ^ (min (Int.toNat 8) (IntKind.bits .u32)))) 255))).toNat : Int)) (by exact congrArg _ (u8_eq (u8_wrap _))))) (by decide) ?_
  refine ao_cons (acts_of rfl (does_move (v := .int .u32 a0) (by exact rfl))) (by decide) ?_
  refine ao_cons (acts_of rfl (does_bin (v := .int .u32 (Int.fdiv a0 (2 ^ (min (Int.toNat 16) (IntKind.bits .u32))))) (by conv => lhs; whnf) (by conv => lhs; whnf) rfl)) (by decide) ?_
  refine ao_cons (acts_of rfl (does_bin (v := .int .u32 (bits .and .u32 (Int.fdiv a0 (2 ^ (min (Int.toNat 16) (IntKind.bits .u32)))) 255)) (by conv => lhs; whnf) (by conv => lhs; whnf) rfl)) (by decide) ?_
  refine ao_cons (acts_of rfl ((does_conv_int (v := .int .u8 (IntKind.u8.wrap (bits .and .u32 (Int.fdiv a0 (2 ^ (min (Int.toNat 16) (IntKind.bits .u32)))) 255))) (by conv => lhs; whnf) (ty_some ty85) (ty_int ty5) rfl).castp (v' := .int .u8 ((u8 (IntKind.u8.wrap (bits .and .u32 (Int.fdiv a0 (2 ^ (min (Int.toNat 16) (IntKind.bits .u32)))) 255))).toNat : Int)) (by exact congrArg _ (u8_eq (u8_wrap _))))) (by decide) ?_
  refine ao_cons (acts_of rfl (does_move (v := .int .u32 a0) (by exact rfl))) (by decide) ?_
  refine ao_cons (acts_of rfl (does_bin (v := .int .u32 (Int.fdiv a0 (2 ^ (min (Int.toNat 24) (IntKind.bits .u32))))) (by conv => lhs; whnf) (by conv => lhs; whnf) rfl)) (by decide) ?_
  refine ao_cons (acts_of rfl ((does_conv_int (v := .int .u8 (IntKind.u8.wrap (Int.fdiv a0 (2 ^ (min (Int.toNat 24) (IntKind.bits .u32)))))) (by conv => lhs; whnf) (ty_some ty85) (ty_int ty5) rfl).castp (v' := .int .u8 ((u8 (IntKind.u8.wrap (Int.fdiv a0 (2 ^ (min (Int.toNat 24) (IntKind.bits .u32)))))).toNat : Int)) (by exact congrArg _ (u8_eq (u8_wrap _))))) (by decide) ?_
  refine ao_cons (acts_of rfl (do_buildSlice (xs := List.map enc5 [(u8 (IntKind.u8.wrap (bits .and .u32 a0 255))), (u8 (IntKind.u8.wrap (bits .and .u32 (Int.fdiv a0 (2 ^ (min (Int.toNat 8) (IntKind.bits .u32)))) 255))), (u8 (IntKind.u8.wrap (bits .and .u32 (Int.fdiv a0 (2 ^ (min (Int.toNat 16) (IntKind.bits .u32)))) 255))), (u8 (IntKind.u8.wrap (Int.fdiv a0 (2 ^ (min (Int.toNat 24) (IntKind.bits .u32))))))]) ty51 ty5 rfl rfl rfl rfl rfl rfl rfl rfl)) (by decide) ?_
  refine ao_cons (acts_of rfl (does_assign (v := .own 17 0) (by exact rfl))) (by decide) ?_
  refine ao_nil_n ?_
  refine hK2 _ ?_
  refine aw_ret ?_
  obtain rfl := Option.some.inj h
  exact ret_okR [(17, 0)] (by conv => lhs; whnf) (by conv => lhs; whnf) (by exact rfl) (rowsOk_cons (by conv => lhs; whnf) (by exact rfl) trivial) (nodup_b rfl) (.inr rfl) rfl
def gleaningref1_Split_k2 (a0 : List UInt8) (v4_s_1 : List (List UInt8)) (v5_1 : Int) (x14 : Int × Int × Bool) : Option ((List (List UInt8) × Int) ⊕ (List (List UInt8) × Int)) :=
  gd (0 ≤ (IntKind.i64.wrap ((IntKind.i64.wrap (v5_1 + x14.2.1)) + 4))) (gd ((IntKind.i64.wrap ((IntKind.i64.wrap (v5_1 + x14.2.1)) + 4)) ≤ (IntKind.i64.wrap ((IntKind.i64.wrap ((IntKind.i64.wrap (v5_1 + x14.2.1)) + 4)) + (IntKind.i64.wrap x14.1)))) (gd ((IntKind.i64.wrap ((IntKind.i64.wrap ((IntKind.i64.wrap (v5_1 + x14.2.1)) + 4)) + (IntKind.i64.wrap x14.1))) ≤ (List.length a0 : Int)) (Option.bind (gleaningref1_Sum (List.drop (Int.toNat (IntKind.i64.wrap ((IntKind.i64.wrap (v5_1 + x14.2.1)) + 4))) (List.take (Int.toNat (IntKind.i64.wrap ((IntKind.i64.wrap ((IntKind.i64.wrap (v5_1 + x14.2.1)) + 4)) + (IntKind.i64.wrap x14.1)))) a0))) (fun (x28 : Int) => Option.bind (gleaningref1_four x28) (fun (x29 : List UInt8) => gd (0 ≤ (IntKind.i64.wrap (v5_1 + x14.2.1))) (gd ((IntKind.i64.wrap (v5_1 + x14.2.1)) ≤ (IntKind.i64.wrap ((IntKind.i64.wrap (v5_1 + x14.2.1)) + 4))) (gd ((IntKind.i64.wrap ((IntKind.i64.wrap (v5_1 + x14.2.1)) + 4)) ≤ (List.length a0 : Int)) (if (!(ByteArray.toList (strOf x29) == ByteArray.toList (strOf (List.drop (Int.toNat (IntKind.i64.wrap (v5_1 + x14.2.1))) (List.take (Int.toNat (IntKind.i64.wrap ((IntKind.i64.wrap (v5_1 + x14.2.1)) + 4))) a0))))) = true then (some (Sum.inr (v4_s_1, v5_1))) else (gd ((List.length (List.drop (Int.toNat (IntKind.i64.wrap ((IntKind.i64.wrap (v5_1 + x14.2.1)) + 4))) (List.take (Int.toNat (IntKind.i64.wrap ((IntKind.i64.wrap ((IntKind.i64.wrap (v5_1 + x14.2.1)) + 4)) + (IntKind.i64.wrap x14.1)))) a0))) * 1 ≤ 140737488355328 ∧ (List.length (List.drop (Int.toNat (IntKind.i64.wrap ((IntKind.i64.wrap (v5_1 + x14.2.1)) + 4))) (List.take (Int.toNat (IntKind.i64.wrap ((IntKind.i64.wrap ((IntKind.i64.wrap (v5_1 + x14.2.1)) + 4)) + (IntKind.i64.wrap x14.1)))) a0))) ≤ 140737488355328) (gd ((List.length (v4_s_1 ++ [(List.drop (Int.toNat (IntKind.i64.wrap ((IntKind.i64.wrap (v5_1 + x14.2.1)) + 4))) (List.take (Int.toNat (IntKind.i64.wrap ((IntKind.i64.wrap ((IntKind.i64.wrap (v5_1 + x14.2.1)) + 4)) + (IntKind.i64.wrap x14.1)))) a0))])) * 24 ≤ 140737488355328 ∧ (List.length (v4_s_1 ++ [(List.drop (Int.toNat (IntKind.i64.wrap ((IntKind.i64.wrap (v5_1 + x14.2.1)) + 4))) (List.take (Int.toNat (IntKind.i64.wrap ((IntKind.i64.wrap ((IntKind.i64.wrap (v5_1 + x14.2.1)) + 4)) + (IntKind.i64.wrap x14.1)))) a0))])) ≤ 140737488355328) (some (Sum.inl ((v4_s_1 ++ [(List.drop (Int.toNat (IntKind.i64.wrap ((IntKind.i64.wrap (v5_1 + x14.2.1)) + 4))) (List.take (Int.toNat (IntKind.i64.wrap ((IntKind.i64.wrap ((IntKind.i64.wrap (v5_1 + x14.2.1)) + 4)) + (IntKind.i64.wrap x14.1)))) a0))]), (IntKind.i64.wrap ((IntKind.i64.wrap ((IntKind.i64.wrap (v5_1 + x14.2.1)) + 4)) + (IntKind.i64.wrap x14.1))))))))))))))))
def gleaningref1_Split_l1 (a0 : List UInt8) (v4_s_1 : List (List UInt8)) (v5_1 : Int) : Option ((List (List UInt8) × Int) ⊕ (List (List UInt8) × Int)) :=
  if (decide (v5_1 < (List.length a0 : Int))) = true then (gd (0 ≤ v5_1) (gd (v5_1 ≤ (List.length a0 : Int)) (Option.bind (gleaningref1_Get (List.drop (Int.toNat v5_1) a0)) (fun (x14 : Int × Int × Bool) => Option.bind (if (!x14.2.2) = true then (some (Sum.inr (Sum.inr (v4_s_1, v5_1)))) else (if (decide ((IntKind.i64.wrap ((IntKind.i64.wrap ((IntKind.i64.wrap ((List.length a0 : Int) - v5_1)) - x14.2.1)) - 4)) < 0)) = true then (some (Sum.inr (Sum.inr (v4_s_1, v5_1)))) else (if (decide ((IntKind.u64.wrap (IntKind.i64.wrap ((IntKind.i64.wrap ((IntKind.i64.wrap ((List.length a0 : Int) - v5_1)) - x14.2.1)) - 4))) < x14.1)) = true then (some (Sum.inr (Sum.inr (v4_s_1, v5_1)))) else (some (Sum.inl ()))))) (Sum.elim (fun (s : Unit) => gleaningref1_Split_k2 a0 v4_s_1 v5_1 x14) some))))) else (some (Sum.inr (v4_s_1, v5_1)))
def gleaningref1_Split_k0 (v4_s_0 : List (List UInt8)) (v5_0 : Int) : Option (List (List UInt8) × Int) :=
  some (v4_s_0, v5_0)
def gleaningref1_Split (a0 : List UInt8) : Option (List (List UInt8) × Int) :=
  Option.bind (loopN (fun (s : List (List UInt8) × Int) => gleaningref1_Split_l1 a0 s.1 s.2) Fu ([], 0)) (fun (s : List (List UInt8) × Int) => gleaningref1_Split_k0 s.1 s.2)
set_option maxRecDepth 100000 in
set_option maxHeartbeats 8000000 in
/-- gleaning/gleaningref1.Split -/
theorem gleaningref1_Split_ok (a0 : List UInt8) {r : List (List UInt8) × Int} (h : gleaningref1_Split a0 = some r) : Ok Try.prog 33 [.sl 1 (List.map enc5 a0)] [] [] (.tup [.own 2 0, .int .i64 r.2]) [] [(51, 1, List.map enc51 r.1)] := by
  unfold gleaningref1_Split at h
  refine ok_of_code Try.func33 rfl (by show (1 : Nat) ≤ _; decide) (Nat.le_refl _) fun X => ?_
  refine aw_seq_k (fun K1 hK1 => ?_)
  refine aw_reg ?_
  refine ao_cons (acts_of rfl (does_assign (v := .nil) (by exact rfl))) (by decide) ?_
  refine ao_cons (acts_of rfl (does_assign (v := .int .i64 0) (by exact rfl))) (by decide) ?_
  refine ao_nil_n ?_
  refine hK1 _ ?_
  refine aw_seq_k (fun K2 hK2 => ?_)
  refine aw_reg ?_
  refine ao_cons (acts_of rfl (does_assign (v := .nil) (by exact rfl))) (by decide) ?_
  refine ao_nil_n ?_
  refine hK2 _ ?_
  refine aw_seq_k (fun K3 hK3 => ?_)
  refine aw_reg ?_
  refine ao_cons (acts_of rfl (does_assign (v := .int .i64 0) (by exact rfl))) (by decide) ?_
  refine ao_nil_n ?_
  refine hK3 _ ?_
  obtain ⟨q4, h, hk5⟩ := bnd_some h
  refine aw_cut (fun s => ∃ (v4_s_0 : List (List UInt8)), ∃ (v5_0 : Int), gleaningref1_Split_k0 v4_s_0 v5_0 = some r ∧ s = lit [(4, .own 4 0), (5, .int .i64 v5_0)] [((4, 0), .arr 51 1 false (List.map enc51 v4_s_0))] [(4, 1)] X) ?_ ?_
  · skip
    refine aw_block ?_
    refine aw_nilOwn 4 51 1 (by conv => lhs; whnf) (by decide) (by decide) ?_
    refine aw_loop' (fun m s => ∃ (v4_s_1 : List (List UInt8)), ∃ (v5_1 : Int), loopN (fun (s : List (List UInt8) × Int) => gleaningref1_Split_l1 a0 s.1 s.2) m (v4_s_1, v5_1) = some q4 ∧ s = lit [(0, .sl 1 (List.map enc5 a0)), (4, .own 4 0), (5, .int .i64 v5_1)] [((4, 0), .arr 51 1 false (List.map enc51 v4_s_1))] [(4, 1)] X) Fu
      ⟨_, reb_lit [(0, .sl 1 (List.map enc5 a0)), (4, .own 4 0), (5, .int .i64 (0))] [(4, 0)] [((4, 0), .arr 51 1 false (List.map enc51 []))] [(4, 1)] (envOk_cons (by conv => lhs; whnf) (by exact rfl) (envOk_cons (by conv => lhs; whnf) (by exact rfl) (envOk_cons (by conv => lhs; whnf) (by exact rfl) envOk_nil))) (objOk_cons (by conv => lhs; whnf) (by conv => lhs; whnf) (by exact rfl) (by simp) objOk_nil) (nodup_b rfl) (nodup_b rfl) rfl rfl, [], 0, h, rfl⟩ ?_
    rintro m s ⟨v4_s_1, v5_1, h, rfl⟩
    obtain ⟨m1, q6, rfl, h, hq7⟩ := loop_some h
    replace h : gleaningref1_Split_l1 a0 v4_s_1 v5_1 = some q6 := h
    unfold gleaningref1_Split_l1 at h
    refine aw_seq_k (fun K8 hK8 => ?_)
    refine aw_seq_k (fun K9 hK9 => ?_)
    refine aw_reg ?_
    refine ao_cons (acts_of rfl (does_move (v := .int .i64 v5_1) (by exact rfl))) (by decide) ?_
    refine ao_cons (acts_of rfl (does_move (v := .sl 1 (List.map enc5 a0)) (by exact rfl))) (by decide) ?_
    refine ao_cons (acts_of rfl ((does_len_sl (by conv => lhs; whnf) ty51).castp (v' := .int .i64 (List.length a0 : Int)) (by exact len_map _))) (by decide) ?_
    refine ao_cons (acts_of rfl (does_bin (v := .bool (decide (v5_1 < (List.length a0 : Int)))) (by conv => lhs; whnf) (by conv => lhs; whnf) rfl)) (by decide) ?_
    refine ao_nil_n ?_
    refine hK9 _ ?_
    refine aw_bool (b := (decide (v5_1 < (List.length a0 : Int)))) 14 rfl (fun c10 => ?_) (fun c10 => ?_)
    · have h := ifT c10 h
      refine aw_cond_t (by decide) rfl ?_
      refine aw_skip ?_
      refine hK8 _ ?_
      refine aw_block ?_
      refine aw_seq_k (fun K11 hK11 => ?_)
      refine aw_reg ?_
      refine ao_cons (acts_of rfl (does_move (v := .sl 1 (List.map enc5 a0)) (by exact rfl))) (by decide) ?_
      refine ao_cons (acts_of rfl (does_move (v := .int .i64 v5_1) (by exact rfl))) (by decide) ?_
      obtain ⟨g12, h⟩ := gd_some h
      obtain ⟨g13, h⟩ := gd_some h
      refine ao_cons (acts_of rfl (does_slice_sl (l := (Int.toNat v5_1)) (by conv => lhs; whnf) ty51 ty5 (bd_some (by conv => lhs; whnf) (by exact (nat_of g12))) bd_none (by (try simp only [List.length_map]); omega) (by (try simp only [List.length_map]); omega) (by exact part_l _ _))) (by decide) ?_
      obtain ⟨x14, hx14, h⟩ := bnd_some h
      refine ao_cons (acts_of rfl (do_call0 19 false (gleaningref1_Get_ok (List.drop (Int.toNat v5_1) a0) hx14) rfl ent52 rfl rfl)) (by decide) ?_
      refine ao_cons (acts_of rfl (does_move (v := .tup [.int .u64 x14.1, .int .i64 x14.2.1, .bool x14.2.2]) (by exact rfl))) (by decide) ?_
      refine ao_cons (acts_of rfl (does_extract (v := .int .u64 x14.1) (by conv => lhs; whnf) (by exact rfl))) (by decide) ?_
      refine ao_cons (acts_of rfl (does_extract (v := .int .i64 x14.2.1) (by conv => lhs; whnf) (by exact rfl))) (by decide) ?_
      refine ao_cons (acts_of rfl (does_extract (v := .bool x14.2.2) (by conv => lhs; whnf) (by exact rfl))) (by decide) ?_
      refine ao_cons (acts_of rfl (does_assign (v := .int .u64 x14.1) (by exact rfl))) (by decide) ?_
      refine ao_cons (acts_of rfl (does_assign (v := .int .i64 x14.2.1) (by exact rfl))) (by decide) ?_
      refine ao_cons (acts_of rfl (does_assign (v := .bool x14.2.2) (by exact rfl))) (by decide) ?_
      refine ao_nil_n ?_
      refine hK11 _ ?_
      refine aw_seq_k (fun K15 hK15 => ?_)
      refine aw_reg ?_
      refine ao_cons (acts_of rfl (does_move (v := .sl 1 (List.map enc5 a0)) (by exact rfl))) (by decide) ?_
      refine ao_cons (acts_of rfl ((does_len_sl (by conv => lhs; whnf) ty51).castp (v' := .int .i64 (List.length a0 : Int)) (by exact len_map _))) (by decide) ?_
      refine ao_cons (acts_of rfl (does_move (v := .int .i64 v5_1) (by exact rfl))) (by decide) ?_
      refine ao_cons (acts_of rfl (does_bin (v := .int .i64 (IntKind.i64.wrap ((List.length a0 : Int) - v5_1))) (by conv => lhs; whnf) (by conv => lhs; whnf) rfl)) (by decide) ?_
      refine ao_cons (acts_of rfl (does_move (v := .int .i64 x14.2.1) (by exact rfl))) (by decide) ?_
      refine ao_cons (acts_of rfl (does_bin (v := .int .i64 (IntKind.i64.wrap ((IntKind.i64.wrap ((List.length a0 : Int) - v5_1)) - x14.2.1))) (by conv => lhs; whnf) (by conv => lhs; whnf) rfl)) (by decide) ?_
      refine ao_cons (acts_of rfl (does_bin (v := .int .i64 (IntKind.i64.wrap ((IntKind.i64.wrap ((IntKind.i64.wrap ((List.length a0 : Int) - v5_1)) - x14.2.1)) - 4))) (by conv => lhs; whnf) (by conv => lhs; whnf) rfl)) (by decide) ?_
      refine ao_cons (acts_of rfl (does_assign (v := .int .i64 (IntKind.i64.wrap ((IntKind.i64.wrap ((IntKind.i64.wrap ((List.length a0 : Int) - v5_1)) - x14.2.1)) - 4))) (by exact rfl))) (by decide) ?_
      refine ao_nil_n ?_
      refine hK15 _ ?_
      obtain ⟨q16, h, hk17⟩ := bnd_some h
      refine aw_cut (fun s => gleaningref1_Split_k2 a0 v4_s_1 v5_1 x14 = some q6 ∧ s = lit [(0, .sl 1 (List.map enc5 a0)), (4, .own 4 0), (5, .int .i64 v5_1), (6, .int .u64 x14.1), (7, .int .i64 x14.2.1)] [((4, 0), .arr 51 1 false (List.map enc51 v4_s_1))] [(4, 1)] X) ?_ ?_
      · skip
        refine aw_seq_k (fun K18 hK18 => ?_)
        refine aw_reg ?_
        refine ao_cons (acts_of rfl (does_move (v := .bool x14.2.2) (by exact rfl))) (by decide) ?_
        refine ao_cons (acts_of rfl (does_un (v := .bool (!x14.2.2)) (by conv => lhs; whnf) rfl)) (by decide) ?_
        refine ao_cons (acts_of rfl (does_move (v := .bool (!x14.2.2)) (by exact rfl))) (by decide) ?_
        refine ao_bool (c := (!x14.2.2)) 32 rfl (fun c19 => ?_) (fun c19 => ?_)
        · have h := ifT c19 h
          refine ao_cons (acts_skip rfl) (by decide) ?_
          refine ao_cons (acts_skip rfl) (by decide) ?_
          refine ao_cons (acts_of rfl (does_pick (v := .bool true) (by conv => lhs; whnf) (by exact rfl))) (by decide) ?_
          refine ao_cons (acts_of rfl (does_move (v := .bool true) (by exact rfl))) (by decide) ?_
          refine ao_cons (acts_skip rfl) (by decide) ?_
          refine ao_cons (acts_skip rfl) (by decide) ?_
          refine ao_cons (acts_skip rfl) (by decide) ?_
          refine ao_cons (acts_skip rfl) (by decide) ?_
          refine ao_cons (acts_of rfl (does_pick (v := .bool true) (by conv => lhs; whnf) (by exact rfl))) (by decide) ?_
          refine ao_nil_n ?_
          refine hK18 _ ?_
          refine aw_cond_t (by decide) rfl ?_
          refine aw_exit ?_
          have h := leafR h hk17
          have h := leafR h hq7
          obtain rfl := Option.some.inj h
          have h := hk5
          exact ⟨_, reb_lit [(4, .own 4 0), (5, .int .i64 v5_1)] [(4, 0)] [((4, 0), .arr 51 1 false (List.map enc51 v4_s_1))] [(4, 1)] (envOk_cons (by conv => lhs; whnf) (by exact rfl) (envOk_cons (by conv => lhs; whnf) (by exact rfl) envOk_nil)) (objOk_cons (by conv => lhs; whnf) (by conv => lhs; whnf) (by exact rfl) (by simp) objOk_nil) (nodup_b rfl) (nodup_b rfl) rfl rfl, v4_s_1, v5_1, h, rfl⟩
        · have h := ifF c19 h
          refine ao_cons (acts_of rfl (does_move (v := .int .i64 (IntKind.i64.wrap ((IntKind.i64.wrap ((IntKind.i64.wrap ((List.length a0 : Int) - v5_1)) - x14.2.1)) - 4))) (by exact rfl))) (by decide) ?_
          refine ao_cons (acts_of rfl (does_bin (v := .bool (decide ((IntKind.i64.wrap ((IntKind.i64.wrap ((IntKind.i64.wrap ((List.length a0 : Int) - v5_1)) - x14.2.1)) - 4)) < 0))) (by conv => lhs; whnf) (by conv => lhs; whnf) rfl)) (by decide) ?_
          refine ao_cons (acts_of rfl (does_pick (v := .bool (decide ((IntKind.i64.wrap ((IntKind.i64.wrap ((IntKind.i64.wrap ((List.length a0 : Int) - v5_1)) - x14.2.1)) - 4)) < 0))) (by conv => lhs; whnf) (by exact rfl))) (by decide) ?_
          refine ao_cons (acts_of rfl (does_move (v := .bool (decide ((IntKind.i64.wrap ((IntKind.i64.wrap ((IntKind.i64.wrap ((List.length a0 : Int) - v5_1)) - x14.2.1)) - 4)) < 0))) (by exact rfl))) (by decide) ?_
          refine ao_bool (c := (decide ((IntKind.i64.wrap ((IntKind.i64.wrap ((IntKind.i64.wrap ((List.length a0 : Int) - v5_1)) - x14.2.1)) - 4)) < 0))) 36 rfl (fun c20 => ?_) (fun c20 => ?_)
          · have h := ifT c20 h
            refine ao_cons (acts_skip rfl) (by decide) ?_
            refine ao_cons (acts_skip rfl) (by decide) ?_
            refine ao_cons (acts_skip rfl) (by decide) ?_
            refine ao_cons (acts_skip rfl) (by decide) ?_
            refine ao_cons (acts_of rfl (does_pick (v := .bool true) (by conv => lhs; whnf) (by exact rfl))) (by decide) ?_
            refine ao_nil_n ?_
            refine hK18 _ ?_
            refine aw_cond_t (by decide) rfl ?_
            refine aw_exit ?_
            have h := leafR h hk17
            have h := leafR h hq7
            obtain rfl := Option.some.inj h
            have h := hk5
            exact ⟨_, reb_lit [(4, .own 4 0), (5, .int .i64 v5_1)] [(4, 0)] [((4, 0), .arr 51 1 false (List.map enc51 v4_s_1))] [(4, 1)] (envOk_cons (by conv => lhs; whnf) (by exact rfl) (envOk_cons (by conv => lhs; whnf) (by exact rfl) envOk_nil)) (objOk_cons (by conv => lhs; whnf) (by conv => lhs; whnf) (by exact rfl) (by simp) objOk_nil) (nodup_b rfl) (nodup_b rfl) rfl rfl, v4_s_1, v5_1, h, rfl⟩
          · have h := ifF c20 h
            refine ao_cons (acts_of rfl (does_move (v := .int .u64 x14.1) (by exact rfl))) (by decide) ?_
            refine ao_cons (acts_of rfl (does_move (v := .int .i64 (IntKind.i64.wrap ((IntKind.i64.wrap ((IntKind.i64.wrap ((List.length a0 : Int) - v5_1)) - x14.2.1)) - 4))) (by exact rfl))) (by decide) ?_
            refine ao_cons (acts_of rfl (does_conv_int (v := .int .u64 (IntKind.u64.wrap (IntKind.i64.wrap ((IntKind.i64.wrap ((IntKind.i64.wrap ((List.length a0 : Int) - v5_1)) - x14.2.1)) - 4)))) (by conv => lhs; whnf) (ty_some ty3) (ty_int ty23) rfl)) (by decide) ?_
            refine ao_cons (acts_of rfl (does_bin (v := .bool (decide ((IntKind.u64.wrap (IntKind.i64.wrap ((IntKind.i64.wrap ((IntKind.i64.wrap ((List.length a0 : Int) - v5_1)) - x14.2.1)) - 4))) < x14.1))) (by conv => lhs; whnf) (by conv => lhs; whnf) rfl)) (by decide) ?_
            refine ao_cons (acts_of rfl (does_pick (v := .bool (decide ((IntKind.u64.wrap (IntKind.i64.wrap ((IntKind.i64.wrap ((IntKind.i64.wrap ((List.length a0 : Int) - v5_1)) - x14.2.1)) - 4))) < x14.1))) (by conv => lhs; whnf) (by exact rfl))) (by decide) ?_
            refine ao_nil_n ?_
            refine hK18 _ ?_
            refine aw_bool (b := (decide ((IntKind.u64.wrap (IntKind.i64.wrap ((IntKind.i64.wrap ((IntKind.i64.wrap ((List.length a0 : Int) - v5_1)) - x14.2.1)) - 4))) < x14.1))) 41 rfl (fun c21 => ?_) (fun c21 => ?_)
            · have h := ifT c21 h
              refine aw_cond_t (by decide) rfl ?_
              refine aw_exit ?_
              have h := leafR h hk17
              have h := leafR h hq7
              obtain rfl := Option.some.inj h
              have h := hk5
              exact ⟨_, reb_lit [(4, .own 4 0), (5, .int .i64 v5_1)] [(4, 0)] [((4, 0), .arr 51 1 false (List.map enc51 v4_s_1))] [(4, 1)] (envOk_cons (by conv => lhs; whnf) (by exact rfl) (envOk_cons (by conv => lhs; whnf) (by exact rfl) envOk_nil)) (objOk_cons (by conv => lhs; whnf) (by conv => lhs; whnf) (by exact rfl) (by simp) objOk_nil) (nodup_b rfl) (nodup_b rfl) rfl rfl, v4_s_1, v5_1, h, rfl⟩
            · have h := ifF c21 h
              refine aw_cond_f (by decide) rfl ?_
              refine aw_skip ?_
              have h := leafL h hk17
              exact ⟨_, reb_lit [(0, .sl 1 (List.map enc5 a0)), (4, .own 4 0), (5, .int .i64 v5_1), (6, .int .u64 x14.1), (7, .int .i64 x14.2.1)] [(4, 0)] [((4, 0), .arr 51 1 false (List.map enc51 v4_s_1))] [(4, 1)] (envOk_cons (by conv => lhs; whnf) (by exact rfl) (envOk_cons (by conv => lhs; whnf) (by exact rfl) (envOk_cons (by conv => lhs; whnf) (by exact rfl) (envOk_cons (by conv => lhs; whnf) (by exact rfl) (envOk_cons (by conv => lhs; whnf) (by exact rfl) envOk_nil))))) (objOk_cons (by conv => lhs; whnf) (by conv => lhs; whnf) (by exact rfl) (by simp) objOk_nil) (nodup_b rfl) (nodup_b rfl) rfl rfl, h, rfl⟩
      · rintro s ⟨h, rfl⟩
        unfold gleaningref1_Split_k2 at h
        refine aw_seq_k (fun K22 hK22 => ?_)
        refine aw_reg ?_
        refine ao_cons (acts_of rfl (does_move (v := .sl 1 (List.map enc5 a0)) (by exact rfl))) (by decide) ?_
        refine ao_cons (acts_of rfl (does_move (v := .int .i64 v5_1) (by exact rfl))) (by decide) ?_
        refine ao_cons (acts_of rfl (does_move (v := .int .i64 x14.2.1) (by exact rfl))) (by decide) ?_
        refine ao_cons (acts_of rfl (does_bin (v := .int .i64 (IntKind.i64.wrap (v5_1 + x14.2.1))) (by conv => lhs; whnf) (by conv => lhs; whnf) rfl)) (by decide) ?_
        refine ao_cons (acts_of rfl (does_bin (v := .int .i64 (IntKind.i64.wrap ((IntKind.i64.wrap (v5_1 + x14.2.1)) + 4))) (by conv => lhs; whnf) (by conv => lhs; whnf) rfl)) (by decide) ?_
        refine ao_cons (acts_of rfl (does_move (v := .int .i64 v5_1) (by exact rfl))) (by decide) ?_
        refine ao_cons (acts_of rfl (does_move (v := .int .i64 x14.2.1) (by exact rfl))) (by decide) ?_
        refine ao_cons (acts_of rfl (does_bin (v := .int .i64 (IntKind.i64.wrap (v5_1 + x14.2.1))) (by conv => lhs; whnf) (by conv => lhs; whnf) rfl)) (by decide) ?_
        refine ao_cons (acts_of rfl (does_bin (v := .int .i64 (IntKind.i64.wrap ((IntKind.i64.wrap (v5_1 + x14.2.1)) + 4))) (by conv => lhs; whnf) (by conv => lhs; whnf) rfl)) (by decide) ?_
        refine ao_cons (acts_of rfl (does_move (v := .int .u64 x14.1) (by exact rfl))) (by decide) ?_
        refine ao_cons (acts_of rfl (does_conv_int (v := .int .i64 (IntKind.i64.wrap x14.1)) (by conv => lhs; whnf) (ty_some ty23) (ty_int ty3) rfl)) (by decide) ?_
        refine ao_cons (acts_of rfl (does_bin (v := .int .i64 (IntKind.i64.wrap ((IntKind.i64.wrap ((IntKind.i64.wrap (v5_1 + x14.2.1)) + 4)) + (IntKind.i64.wrap x14.1)))) (by conv => lhs; whnf) (by conv => lhs; whnf) rfl)) (by decide) ?_
        obtain ⟨g23, h⟩ := gd_some h
        obtain ⟨g24, h⟩ := gd_some h
        obtain ⟨g25, h⟩ := gd_some h
        refine ao_cons (acts_of rfl (does_slice_sl (l := (Int.toNat (IntKind.i64.wrap ((IntKind.i64.wrap (v5_1 + x14.2.1)) + 4)))) (k := (Int.toNat (IntKind.i64.wrap ((IntKind.i64.wrap ((IntKind.i64.wrap (v5_1 + x14.2.1)) + 4)) + (IntKind.i64.wrap x14.1))))) (by conv => lhs; whnf) ty51 ty5 (bd_some (by conv => lhs; whnf) (by exact (nat_of g23))) (bd_some (by conv => lhs; whnf) (by exact (nat_of (by omega)))) (by (try simp only [List.length_map]); omega) (by (try simp only [List.length_map]); omega) (by exact map_part _ _ _))) (by decide) ?_
        refine ao_cons (acts_of rfl (does_assign (v := .sl 1 (List.map enc5 (List.drop (Int.toNat (IntKind.i64.wrap ((IntKind.i64.wrap (v5_1 + x14.2.1)) + 4))) (List.take (Int.toNat (IntKind.i64.wrap ((IntKind.i64.wrap ((IntKind.i64.wrap (v5_1 + x14.2.1)) + 4)) + (IntKind.i64.wrap x14.1)))) a0)))) (by exact rfl))) (by decide) ?_
        refine ao_nil_n ?_
        refine hK22 _ ?_
        refine aw_seq_k (fun K26 hK26 => ?_)
        refine aw_seq_k (fun K27 hK27 => ?_)
        refine aw_regd (by kernel_rfl) (by decide +kernel) ?_
        refine ao_cons (acts_of rfl (does_move (v := .sl 1 (List.map enc5 (List.drop (Int.toNat (IntKind.i64.wrap ((IntKind.i64.wrap (v5_1 + x14.2.1)) + 4))) (List.take (Int.toNat (IntKind.i64.wrap ((IntKind.i64.wrap ((IntKind.i64.wrap (v5_1 + x14.2.1)) + 4)) + (IntKind.i64.wrap x14.1)))) a0)))) (by exact rfl))) (by decide) ?_
        obtain ⟨x28, hx28, h⟩ := bnd_some h
        refine ao_cons (acts_of rfl (do_call0 56 false (gleaningref1_Sum_ok (List.drop (Int.toNat (IntKind.i64.wrap ((IntKind.i64.wrap (v5_1 + x14.2.1)) + 4))) (List.take (Int.toNat (IntKind.i64.wrap ((IntKind.i64.wrap ((IntKind.i64.wrap (v5_1 + x14.2.1)) + 4)) + (IntKind.i64.wrap x14.1)))) a0)) hx28) rfl ent54 rfl rfl)) (by decide) ?_
        obtain ⟨x29, hx29, h⟩ := bnd_some h
        refine ao_cons (acts_of rfl (do_call0 57 false (gleaningref1_four_ok x28 hx29) rfl ent53 rfl rfl)) (by decide) ?_
        refine ao_cons (acts_of rfl (does_bytes_str (l := x29) (f := enc5) (by conv => lhs; whnf) (by conv => lhs; whnf) (Nat.le_refl 1) (ty_slice ty51) (ty_int ty5) (ty_str ty9) (fun _ => rfl))) (by decide) ?_
        refine ao_cons (acts_of rfl (does_move (v := .sl 1 (List.map enc5 a0)) (by exact rfl))) (by decide) ?_
        refine ao_cons (acts_of rfl (does_move (v := .int .i64 v5_1) (by exact rfl))) (by decide) ?_
        refine ao_cons (acts_of rfl (does_move (v := .int .i64 x14.2.1) (by exact rfl))) (by decide) ?_
        refine ao_cons (acts_of rfl (does_bin (v := .int .i64 (IntKind.i64.wrap (v5_1 + x14.2.1))) (by conv => lhs; whnf) (by conv => lhs; whnf) rfl)) (by decide) ?_
        refine ao_cons (acts_of rfl (does_move (v := .int .i64 v5_1) (by exact rfl))) (by decide) ?_
        refine ao_cons (acts_of rfl (does_move (v := .int .i64 x14.2.1) (by exact rfl))) (by decide) ?_
        refine ao_cons (acts_of rfl (does_bin (v := .int .i64 (IntKind.i64.wrap (v5_1 + x14.2.1))) (by conv => lhs; whnf) (by conv => lhs; whnf) rfl)) (by decide) ?_
        refine ao_cons (acts_of rfl (does_bin (v := .int .i64 (IntKind.i64.wrap ((IntKind.i64.wrap (v5_1 + x14.2.1)) + 4))) (by conv => lhs; whnf) (by conv => lhs; whnf) rfl)) (by decide) ?_
        obtain ⟨g30, h⟩ := gd_some h
        obtain ⟨g31, h⟩ := gd_some h
        obtain ⟨g32, h⟩ := gd_some h
        refine ao_cons (acts_of rfl (does_slice_sl (l := (Int.toNat (IntKind.i64.wrap (v5_1 + x14.2.1)))) (k := (Int.toNat (IntKind.i64.wrap ((IntKind.i64.wrap (v5_1 + x14.2.1)) + 4)))) (by conv => lhs; whnf) ty51 ty5 (bd_some (by conv => lhs; whnf) (by exact (nat_of g30))) (bd_some (by conv => lhs; whnf) (by exact (nat_of (by omega)))) (by (try simp only [List.length_map]); omega) (by (try simp only [List.length_map]); omega) (by exact map_part _ _ _))) (by decide) ?_
        refine ao_cons (acts_of rfl (does_bytes_str (l := (List.drop (Int.toNat (IntKind.i64.wrap (v5_1 + x14.2.1))) (List.take (Int.toNat (IntKind.i64.wrap ((IntKind.i64.wrap (v5_1 + x14.2.1)) + 4))) a0))) (f := enc5) (by conv => lhs; whnf) (by conv => lhs; whnf) (Nat.le_refl 1) (ty_slice ty51) (ty_int ty5) (ty_str ty9) (fun _ => rfl))) (by decide) ?_
        refine ao_cons (acts_of rfl (does_bin (v := .bool (!(ByteArray.toList (strOf x29) == ByteArray.toList (strOf (List.drop (Int.toNat (IntKind.i64.wrap (v5_1 + x14.2.1))) (List.take (Int.toNat (IntKind.i64.wrap ((IntKind.i64.wrap (v5_1 + x14.2.1)) + 4))) a0)))))) (by conv => lhs; whnf) (by conv => lhs; whnf) rfl)) (by decide) ?_
        refine ao_nil_d (by kernel_rfl) ?_
        refine hK27 _ ?_
        refine aw_bool (b := (!(ByteArray.toList (strOf x29) == ByteArray.toList (strOf (List.drop (Int.toNat (IntKind.i64.wrap (v5_1 + x14.2.1))) (List.take (Int.toNat (IntKind.i64.wrap ((IntKind.i64.wrap (v5_1 + x14.2.1)) + 4))) a0)))))) 69 rfl (fun c33 => ?_) (fun c33 => ?_)
        · have h := ifT c33 h
          refine aw_cond_t (by decide) rfl ?_
          refine aw_exit ?_
          have h := leafR h hq7
          obtain rfl := Option.some.inj h
          have h := hk5
          exact ⟨_, reb_lit [(4, .own 4 0), (5, .int .i64 v5_1)] [(4, 0)] [((4, 0), .arr 51 1 false (List.map enc51 v4_s_1))] [(4, 1)] (envOk_cons (by conv => lhs; whnf) (by exact rfl) (envOk_cons (by conv => lhs; whnf) (by exact rfl) envOk_nil)) (objOk_cons (by conv => lhs; whnf) (by conv => lhs; whnf) (by exact rfl) (by simp) objOk_nil) (nodup_b rfl) (nodup_b rfl) rfl rfl, v4_s_1, v5_1, h, rfl⟩
        · have h := ifF c33 h
          refine aw_cond_f (by decide) rfl ?_
          refine aw_skip ?_
          refine hK26 _ ?_
          refine aw_seq_k (fun K34 hK34 => ?_)
          refine aw_reg ?_
          refine ao_cons (acts_of rfl (does_move (v := .own 4 0) (by exact rfl))) (by decide) ?_
          refine ao_cons (acts_of rfl (does_move (v := .sl 1 (List.map enc5 (List.drop (Int.toNat (IntKind.i64.wrap ((IntKind.i64.wrap (v5_1 + x14.2.1)) + 4))) (List.take (Int.toNat (IntKind.i64.wrap ((IntKind.i64.wrap ((IntKind.i64.wrap (v5_1 + x14.2.1)) + 4)) + (IntKind.i64.wrap x14.1)))) a0)))) (by exact rfl))) (by decide) ?_
          obtain ⟨g35, h⟩ := gd_some h
          refine ao_cons (acts_of rfl (do_append (v := List.map enc5 (List.drop (Int.toNat (IntKind.i64.wrap ((IntKind.i64.wrap (v5_1 + x14.2.1)) + 4))) (List.take (Int.toNat (IntKind.i64.wrap ((IntKind.i64.wrap ((IntKind.i64.wrap (v5_1 + x14.2.1)) + 4)) + (IntKind.i64.wrap x14.1)))) a0))) (by conv => lhs; whnf) (by conv => lhs; whnf) ty51 ty5 rfl rfl (by conv => lhs; whnf) (by first | exact .inl rfl | exact .inr ⟨rfl, rfl⟩) (by conv => lhs; whnf) (by first | exact .inr rfl | exact .inl rfl) (List.nil_append _) (fit_map g35))) (by decide) ?_
          refine ao_cons (acts_of rfl (does_frz (d := 72) (n := 0) (by conv => lhs; whnf) (do_buildSlice (xs := List.map enc51 [(List.drop (Int.toNat (IntKind.i64.wrap ((IntKind.i64.wrap (v5_1 + x14.2.1)) + 4))) (List.take (Int.toNat (IntKind.i64.wrap ((IntKind.i64.wrap ((IntKind.i64.wrap (v5_1 + x14.2.1)) + 4)) + (IntKind.i64.wrap x14.1)))) a0))]) ty52 ty51 rfl rfl rfl rfl rfl rfl rfl rfl))) (by decide) ?_
          obtain ⟨g36, h⟩ := gd_some h
          refine ao_cons (acts_of rfl (do_append (v := List.map enc51 (v4_s_1 ++ [(List.drop (Int.toNat (IntKind.i64.wrap ((IntKind.i64.wrap (v5_1 + x14.2.1)) + 4))) (List.take (Int.toNat (IntKind.i64.wrap ((IntKind.i64.wrap ((IntKind.i64.wrap (v5_1 + x14.2.1)) + 4)) + (IntKind.i64.wrap x14.1)))) a0))])) (by conv => lhs; whnf) (by conv => lhs; whnf) ty52 ty51 rfl rfl (by conv => lhs; whnf) (by first | exact .inl rfl | exact .inr ⟨rfl, rfl⟩) (by conv => lhs; whnf) (by first | exact .inr rfl | exact .inl rfl) (map_app _ _) (fit_map g36))) (by decide) ?_
          refine ao_cons (acts_of rfl (does_assign (v := .own 74 0) (by exact rfl))) (by decide) ?_
          refine ao_nil_n ?_
          refine hK34 _ ?_
          refine aw_reg ?_
          refine ao_cons (acts_of rfl (does_move (v := .int .i64 v5_1) (by exact rfl))) (by decide) ?_
          refine ao_cons (acts_of rfl (does_move (v := .int .i64 x14.2.1) (by exact rfl))) (by decide) ?_
          refine ao_cons (acts_of rfl (does_bin (v := .int .i64 (IntKind.i64.wrap (v5_1 + x14.2.1))) (by conv => lhs; whnf) (by conv => lhs; whnf) rfl)) (by decide) ?_
          refine ao_cons (acts_of rfl (does_bin (v := .int .i64 (IntKind.i64.wrap ((IntKind.i64.wrap (v5_1 + x14.2.1)) + 4))) (by conv => lhs; whnf) (by conv => lhs; whnf) rfl)) (by decide) ?_
          refine ao_cons (acts_of rfl (does_move (v := .int .u64 x14.1) (by exact rfl))) (by decide) ?_
          refine ao_cons (acts_of rfl (does_conv_int (v := .int .i64 (IntKind.i64.wrap x14.1)) (by conv => lhs; whnf) (ty_some ty23) (ty_int ty3) rfl)) (by decide) ?_
          refine ao_cons (acts_of rfl (does_bin (v := .int .i64 (IntKind.i64.wrap ((IntKind.i64.wrap ((IntKind.i64.wrap (v5_1 + x14.2.1)) + 4)) + (IntKind.i64.wrap x14.1)))) (by conv => lhs; whnf) (by conv => lhs; whnf) rfl)) (by decide) ?_
          refine ao_cons (acts_of rfl (does_assign (v := .int .i64 (IntKind.i64.wrap ((IntKind.i64.wrap ((IntKind.i64.wrap (v5_1 + x14.2.1)) + 4)) + (IntKind.i64.wrap x14.1)))) (by exact rfl))) (by decide) ?_
          refine ao_nil_n ?_
          have h := leafL h hq7
          exact ⟨m1, Nat.lt_succ_self _, _, reb_lit [(0, .sl 1 (List.map enc5 a0)), (4, .own 4 0), (5, .int .i64 (IntKind.i64.wrap ((IntKind.i64.wrap ((IntKind.i64.wrap (v5_1 + x14.2.1)) + 4)) + (IntKind.i64.wrap x14.1))))] [(74, 0)] [((4, 0), .arr 51 1 false (List.map enc51 (v4_s_1 ++ [(List.drop (Int.toNat (IntKind.i64.wrap ((IntKind.i64.wrap (v5_1 + x14.2.1)) + 4))) (List.take (Int.toNat (IntKind.i64.wrap ((IntKind.i64.wrap ((IntKind.i64.wrap (v5_1 + x14.2.1)) + 4)) + (IntKind.i64.wrap x14.1)))) a0))])))] [(4, 1)] (envOk_cons (by conv => lhs; whnf) (by exact rfl) (envOk_cons (by conv => lhs; whnf) (by exact rfl) (envOk_cons (by conv => lhs; whnf) (by exact rfl) envOk_nil))) (objOk_cons (by conv => lhs; whnf) (by conv => lhs; whnf) (by exact rfl) (by simp) objOk_nil) (nodup_b rfl) (nodup_b rfl) rfl rfl, (v4_s_1 ++ [(List.drop (Int.toNat (IntKind.i64.wrap ((IntKind.i64.wrap (v5_1 + x14.2.1)) + 4))) (List.take (Int.toNat (IntKind.i64.wrap ((IntKind.i64.wrap ((IntKind.i64.wrap (v5_1 + x14.2.1)) + 4)) + (IntKind.i64.wrap x14.1)))) a0))]), (IntKind.i64.wrap ((IntKind.i64.wrap ((IntKind.i64.wrap (v5_1 + x14.2.1)) + 4)) + (IntKind.i64.wrap x14.1))), h, rfl⟩
    · have h := ifF c10 h
      refine aw_cond_f (by decide) rfl ?_
      refine aw_exit ?_
      have h := leafR h hq7
      obtain rfl := Option.some.inj h
      have h := hk5
      exact ⟨_, reb_lit [(4, .own 4 0), (5, .int .i64 v5_1)] [(4, 0)] [((4, 0), .arr 51 1 false (List.map enc51 v4_s_1))] [(4, 1)] (envOk_cons (by conv => lhs; whnf) (by exact rfl) (envOk_cons (by conv => lhs; whnf) (by exact rfl) envOk_nil)) (objOk_cons (by conv => lhs; whnf) (by conv => lhs; whnf) (by exact rfl) (by simp) objOk_nil) (nodup_b rfl) (nodup_b rfl) rfl rfl, v4_s_1, v5_1, h, rfl⟩
  · rintro s ⟨v4_s_0, v5_0, h, rfl⟩
    unfold gleaningref1_Split_k0 at h
    refine aw_seq_k (fun K37 hK37 => ?_)
    refine aw_reg ?_
    refine ao_cons (acts_of rfl (does_move (v := .own 4 0) (by exact rfl))) (by decide) ?_
    refine ao_cons (acts_of rfl (does_move (v := .int .i64 v5_0) (by exact rfl))) (by decide) ?_
    refine ao_cons (acts_of rfl (does_assign (v := .own 4 0) (by exact rfl))) (by decide) ?_
    refine ao_cons (acts_of rfl (does_assign (v := .int .i64 v5_0) (by exact rfl))) (by decide) ?_
    refine ao_nil_n ?_
    refine hK37 _ ?_
    refine aw_ret ?_
    obtain rfl := Option.some.inj h
    exact ret_okR [(4, 0)] (by conv => lhs; whnf) (by conv => lhs; whnf) (by exact rfl) (rowsOk_cons (by conv => lhs; whnf) (by exact rfl) trivial) (nodup_b rfl) (.inr rfl) rfl
def gleaningref1_Frame (a0 : List UInt8) : Option (List UInt8) :=
  Option.bind (gleaningref1_Put [] (IntKind.u64.wrap (List.length a0 : Int))) (fun (x3 : List UInt8) => Option.bind (gleaningref1_Sum a0) (fun (x4 : Int) => Option.bind (gleaningref1_four x4) (fun (x5 : List UInt8) => gd ((List.length (x3 ++ x5)) * 1 ≤ 140737488355328 ∧ (List.length (x3 ++ x5)) ≤ 140737488355328) (gd ((List.length ((x3 ++ x5) ++ a0)) * 1 ≤ 140737488355328 ∧ (List.length ((x3 ++ x5) ++ a0)) ≤ 140737488355328) (some ((x3 ++ x5) ++ a0))))))
set_option maxRecDepth 100000 in
set_option maxHeartbeats 8000000 in
/-- gleaning/gleaningref1.Frame -/
theorem gleaningref1_Frame_ok (a0 : List UInt8) {r : List UInt8} (h : gleaningref1_Frame a0 = some r) : Ok Try.prog 35 [.sl 1 (List.map enc5 a0)] [] [] (.own 2 0) [] [(5, 1, List.map enc5 r)] := by
  unfold gleaningref1_Frame at h
  refine ok_of_code Try.func35 rfl (by show (1 : Nat) ≤ _; decide) (Nat.le_refl _) fun X => ?_
  refine aw_seq_k (fun K1 hK1 => ?_)
  refine aw_reg ?_
  refine ao_cons (acts_of rfl (does_assign (v := .nil) (by exact rfl))) (by decide) ?_
  refine ao_nil_n ?_
  refine hK1 _ ?_
  refine aw_seq_k (fun K2 hK2 => ?_)
  refine aw_reg ?_
  refine ao_cons (acts_of rfl (does_move (v := .sl 1 (List.map enc5 a0)) (by exact rfl))) (by decide) ?_
  refine ao_cons (acts_of rfl ((does_len_sl (by conv => lhs; whnf) ty51).castp (v' := .int .i64 (List.length a0 : Int)) (by exact len_map _))) (by decide) ?_
  refine ao_cons (acts_of rfl (does_conv_int (v := .int .u64 (IntKind.u64.wrap (List.length a0 : Int))) (by conv => lhs; whnf) (ty_some ty3) (ty_int ty23) rfl)) (by decide) ?_
  obtain ⟨x3, hx3, h⟩ := bnd_some h
  refine ao_cons (acts_of rfl (do_call0 6 false ((gleaningref1_Put_ok [] (IntKind.u64.wrap (List.length a0 : Int)) hx3).nilRow0) rfl ent58 rfl rfl)) (by decide) ?_
  refine ao_cons (acts_of rfl (does_move (v := .sl 1 (List.map enc5 a0)) (by exact rfl))) (by decide) ?_
  obtain ⟨x4, hx4, h⟩ := bnd_some h
  refine ao_cons (acts_of rfl (do_call0 8 false (gleaningref1_Sum_ok a0 hx4) rfl ent54 rfl rfl)) (by decide) ?_
  obtain ⟨x5, hx5, h⟩ := bnd_some h
  refine ao_cons (acts_of rfl (do_call0 9 false (gleaningref1_four_ok x4 hx5) rfl ent53 rfl rfl)) (by decide) ?_
  obtain ⟨g6, h⟩ := gd_some h
  refine ao_cons (acts_of rfl (do_append (v := List.map enc5 (x3 ++ x5)) (by conv => lhs; whnf) (by conv => lhs; whnf) ty51 ty5 rfl rfl (by conv => lhs; whnf) (by first | exact .inl rfl | exact .inr ⟨rfl, rfl⟩) (by conv => lhs; whnf) (by first | exact .inr rfl | exact .inl rfl) (map_app _ _) (fit_map g6))) (by decide) ?_
  refine ao_cons (acts_of rfl (does_move (v := .sl 1 (List.map enc5 a0)) (by exact rfl))) (by decide) ?_
  obtain ⟨g7, h⟩ := gd_some h
  refine ao_cons (acts_of rfl (do_append (v := List.map enc5 ((x3 ++ x5) ++ a0)) (by conv => lhs; whnf) (by conv => lhs; whnf) ty51 ty5 rfl rfl (by conv => lhs; whnf) (by first | exact .inl rfl | exact .inr ⟨rfl, rfl⟩) (by conv => lhs; whnf) (by first | exact .inr rfl | exact .inl rfl) (map_app _ _) (fit_map g7))) (by decide) ?_
  refine ao_cons (acts_of rfl (does_assign (v := .own 12 0) (by exact rfl))) (by decide) ?_
  refine ao_nil_n ?_
  refine hK2 _ ?_
  refine aw_ret ?_
  obtain rfl := Option.some.inj h
  exact ret_okR [(12, 0)] (by conv => lhs; whnf) (by conv => lhs; whnf) (by exact rfl) (rowsOk_cons (by conv => lhs; whnf) (by exact rfl) trivial) (nodup_b rfl) (.inr rfl) rfl
def gleaninglaw5_same_l0 (a0 : List (List UInt8)) (a1 : List (List UInt8)) (v5_0 : Int) : Option (Int ⊕ Bool) :=
  if (decide (v5_0 < (List.length a0 : Int))) = true then (gd (0 ≤ v5_0) (Option.bind (a0[(Int.toNat v5_0)]?) (fun (x16 : List UInt8) => gd (0 ≤ v5_0) (Option.bind (a1[(Int.toNat v5_0)]?) (fun (x18 : List UInt8) => if (!(ByteArray.toList (strOf x16) == ByteArray.toList (strOf x18))) = true then (some (Sum.inr false)) else (some (Sum.inl (IntKind.i64.wrap (v5_0 + 1))))))))) else (some (Sum.inr true))
def gleaninglaw5_same (a0 : List (List UInt8)) (a1 : List (List UInt8)) : Option Bool :=
  if ((List.length a0 : Int) != (List.length a1 : Int)) = true then (some false) else (loopN (fun (s : Int) => gleaninglaw5_same_l0 a0 a1 s) Fu 0)
set_option maxRecDepth 100000 in
set_option maxHeartbeats 8000000 in
/-- gleaning/gleaninglaw5.same -/
theorem gleaninglaw5_same_ok (a0 : List (List UInt8)) (a1 : List (List UInt8)) {r : Bool} (h : gleaninglaw5_same a0 a1 = some r) : Ok Try.prog 36 [.sl 1 (List.map enc51 a0), .sl 1 (List.map enc51 a1)] [] [] (.bool r) [] [] := by
  unfold gleaninglaw5_same at h
  refine ok_of_code Try.func36 rfl (by show (2 : Nat) ≤ _; decide) (Nat.le_refl _) fun X => ?_
  refine aw_seq_k (fun K1 hK1 => ?_)
  refine aw_reg ?_
  refine ao_cons (acts_of rfl (does_assign (v := .bool false) (by exact rfl))) (by decide) ?_
  refine ao_nil_n ?_
  refine hK1 _ ?_
  refine aw_seq_k (fun K2 hK2 => ?_)
  refine aw_seq_k (fun K3 hK3 => ?_)
  refine aw_reg ?_
  refine ao_cons (acts_of rfl (does_move (v := .sl 1 (List.map enc51 a0)) (by exact rfl))) (by decide) ?_
  refine ao_cons (acts_of rfl ((does_len_sl (by conv => lhs; whnf) ty52).castp (v' := .int .i64 (List.length a0 : Int)) (by exact len_map _))) (by decide) ?_
  refine ao_cons (acts_of rfl (does_move (v := .sl 1 (List.map enc51 a1)) (by exact rfl))) (by decide) ?_
  refine ao_cons (acts_of rfl ((does_len_sl (by conv => lhs; whnf) ty52).castp (v' := .int .i64 (List.length a1 : Int)) (by exact len_map _))) (by decide) ?_
  refine ao_cons (acts_of rfl (does_bin (v := .bool ((List.length a0 : Int) != (List.length a1 : Int))) (by conv => lhs; whnf) (by conv => lhs; whnf) rfl)) (by decide) ?_
  refine ao_nil_n ?_
  refine hK3 _ ?_
  refine aw_bool (b := ((List.length a0 : Int) != (List.length a1 : Int))) 10 rfl (fun c4 => ?_) (fun c4 => ?_)
  · have h := ifT c4 h
    refine aw_cond_t (by decide) rfl ?_
    refine aw_seq_k (fun K5 hK5 => ?_)
    refine aw_reg ?_
    refine ao_cons (acts_of rfl (does_assign (v := .bool false) (by exact rfl))) (by decide) ?_
    refine ao_nil_n ?_
    refine hK5 _ ?_
    refine aw_ret ?_
    obtain rfl := Option.some.inj h
    exact ret_ok1 (by conv => lhs; whnf) (by conv => lhs; whnf) (by exact rfl) (.inr rfl) rfl
  · have h := ifF c4 h
    refine aw_cond_f (by decide) rfl ?_
    refine aw_skip ?_
    refine hK2 _ ?_
    refine aw_seq_k (fun K6 hK6 => ?_)
    refine aw_seq_k (fun K7 hK7 => ?_)
    refine aw_reg ?_
    refine ao_cons (acts_of rfl (does_assign (v := .int .i64 0) (by exact rfl))) (by decide) ?_
    refine ao_nil_n ?_
    refine hK7 _ ?_
    refine aw_block ?_
    refine aw_loop' (fun m s => ∃ (v5_0 : Int), loopN (fun (s : Int) => gleaninglaw5_same_l0 a0 a1 s) m v5_0 = some r ∧ s = lit [(0, .sl 1 (List.map enc51 a0)), (1, .sl 1 (List.map enc51 a1)), (5, .int .i64 v5_0)] [] [] X) Fu
      ⟨_, reb_lit [(0, .sl 1 (List.map enc51 a0)), (1, .sl 1 (List.map enc51 a1)), (5, .int .i64 (0))] [] [] [] (envOk_cons (by conv => lhs; whnf) (by exact rfl) (envOk_cons (by conv => lhs; whnf) (by exact rfl) (envOk_cons (by conv => lhs; whnf) (by exact rfl) envOk_nil))) objOk_nil (nodup_b rfl) (nodup_b rfl) rfl rfl, 0, h, rfl⟩ ?_
    rintro m s ⟨v5_0, h, rfl⟩
    obtain ⟨m0, q8, rfl, h, hq9⟩ := loop_some h
    replace h : gleaninglaw5_same_l0 a0 a1 v5_0 = some q8 := h
    unfold gleaninglaw5_same_l0 at h
    refine aw_seq_k (fun K10 hK10 => ?_)
    refine aw_seq_k (fun K11 hK11 => ?_)
    refine aw_reg ?_
    refine ao_cons (acts_of rfl (does_move (v := .int .i64 v5_0) (by exact rfl))) (by decide) ?_
    refine ao_cons (acts_of rfl (does_move (v := .sl 1 (List.map enc51 a0)) (by exact rfl))) (by decide) ?_
    refine ao_cons (acts_of rfl ((does_len_sl (by conv => lhs; whnf) ty52).castp (v' := .int .i64 (List.length a0 : Int)) (by exact len_map _))) (by decide) ?_
    refine ao_cons (acts_of rfl (does_bin (v := .bool (decide (v5_0 < (List.length a0 : Int)))) (by conv => lhs; whnf) (by conv => lhs; whnf) rfl)) (by decide) ?_
    refine ao_nil_n ?_
    refine hK11 _ ?_
    refine aw_bool (b := (decide (v5_0 < (List.length a0 : Int)))) 14 rfl (fun c12 => ?_) (fun c12 => ?_)
    · have h := ifT c12 h
      refine aw_cond_t (by decide) rfl ?_
      refine aw_skip ?_
      refine hK10 _ ?_
      refine aw_seq_k (fun K13 hK13 => ?_)
      refine aw_block ?_
      refine aw_seq_k (fun K14 hK14 => ?_)
      refine aw_regd (by kernel_rfl) (by decide +kernel) ?_
      refine ao_cons (acts_of rfl (does_move (v := .sl 1 (List.map enc51 a0)) (by exact rfl))) (by decide) ?_
      refine ao_cons (acts_of rfl (does_move (v := .int .i64 v5_0) (by exact rfl))) (by decide) ?_
      obtain ⟨g15, h⟩ := gd_some h
      obtain ⟨x16, hx16, h⟩ := bnd_some h
      refine ao_cons (acts_of rfl (does_indexAddr_sl (el := .sl 1 (List.map enc5 x16)) (by conv => lhs; whnf) (by conv => lhs; whnf) ty52 ty51 g15 (by exact map_get hx16))) (by decide) ?_
      refine ao_cons (acts_of rfl (does_load (v := .sl 1 (List.map enc5 x16)) (by conv => lhs; whnf) (by conv => lhs; whnf) ty51 (by exact rfl))) (by decide) ?_
      refine ao_cons (acts_of rfl (does_bytes_str (l := x16) (f := enc5) (by conv => lhs; whnf) (by conv => lhs; whnf) (Nat.le_refl 1) (ty_slice ty51) (ty_int ty5) (ty_str ty9) (fun _ => rfl))) (by decide) ?_
      refine ao_cons (acts_of rfl (does_move (v := .sl 1 (List.map enc51 a1)) (by exact rfl))) (by decide) ?_
      refine ao_cons (acts_of rfl (does_move (v := .int .i64 v5_0) (by exact rfl))) (by decide) ?_
      obtain ⟨g17, h⟩ := gd_some h
      obtain ⟨x18, hx18, h⟩ := bnd_some h
      refine ao_cons (acts_of rfl (does_indexAddr_sl (el := .sl 1 (List.map enc5 x18)) (by conv => lhs; whnf) (by conv => lhs; whnf) ty52 ty51 g17 (by exact map_get hx18))) (by decide) ?_
      refine ao_cons (acts_of rfl (does_load (v := .sl 1 (List.map enc5 x18)) (by conv => lhs; whnf) (by conv => lhs; whnf) ty51 (by exact rfl))) (by decide) ?_
      refine ao_cons (acts_of rfl (does_bytes_str (l := x18) (f := enc5) (by conv => lhs; whnf) (by conv => lhs; whnf) (Nat.le_refl 1) (ty_slice ty51) (ty_int ty5) (ty_str ty9) (fun _ => rfl))) (by decide) ?_
      refine ao_cons (acts_of rfl (does_bin (v := .bool (!(ByteArray.toList (strOf x16) == ByteArray.toList (strOf x18)))) (by conv => lhs; whnf) (by conv => lhs; whnf) rfl)) (by decide) ?_
      refine ao_nil_d (by kernel_rfl) ?_
      refine hK14 _ ?_
      refine aw_bool (b := (!(ByteArray.toList (strOf x16) == ByteArray.toList (strOf x18)))) 27 rfl (fun c19 => ?_) (fun c19 => ?_)
      · have h := ifT c19 h
        refine aw_cond_t (by decide) rfl ?_
        refine aw_seq_k (fun K20 hK20 => ?_)
        refine aw_reg ?_
        refine ao_cons (acts_of rfl (does_assign (v := .bool false) (by exact rfl))) (by decide) ?_
        refine ao_nil_n ?_
        refine hK20 _ ?_
        refine aw_ret ?_
        have h := leafR h hq9
        obtain rfl := Option.some.inj h
        exact ret_ok1 (by conv => lhs; whnf) (by conv => lhs; whnf) (by exact rfl) (.inr rfl) rfl
      · have h := ifF c19 h
        refine aw_cond_f (by decide) rfl ?_
        refine aw_skip ?_
        refine hK13 _ ?_
        refine aw_reg ?_
        refine ao_cons (acts_of rfl (does_move (v := .int .i64 v5_0) (by exact rfl))) (by decide) ?_
        refine ao_cons (acts_of rfl (does_bin (v := .int .i64 (IntKind.i64.wrap (v5_0 + 1))) (by conv => lhs; whnf) (by conv => lhs; whnf) rfl)) (by decide) ?_
        refine ao_cons (acts_of rfl (does_assign (v := .int .i64 (IntKind.i64.wrap (v5_0 + 1))) (by exact rfl))) (by decide) ?_
        refine ao_nil_n ?_
        have h := leafL h hq9
        exact ⟨m0, Nat.lt_succ_self _, _, reb_lit [(0, .sl 1 (List.map enc51 a0)), (1, .sl 1 (List.map enc51 a1)), (5, .int .i64 (IntKind.i64.wrap (v5_0 + 1)))] [] [] [] (envOk_cons (by conv => lhs; whnf) (by exact rfl) (envOk_cons (by conv => lhs; whnf) (by exact rfl) (envOk_cons (by conv => lhs; whnf) (by exact rfl) envOk_nil))) objOk_nil (nodup_b rfl) (nodup_b rfl) rfl rfl, (IntKind.i64.wrap (v5_0 + 1)), h, rfl⟩
    · have h := ifF c12 h
      refine aw_cond_f (by decide) rfl ?_
      refine aw_exit ?_
      have h := leafR h hq9
      refine hK6 _ ?_
      refine aw_seq_k (fun K21 hK21 => ?_)
      refine aw_reg ?_
      refine ao_cons (acts_of rfl (does_assign (v := .bool true) (by exact rfl))) (by decide) ?_
      refine ao_nil_n ?_
      refine hK21 _ ?_
      refine aw_ret ?_
      obtain rfl := Option.some.inj h
      exact ret_ok1 (by conv => lhs; whnf) (by conv => lhs; whnf) (by exact rfl) (.inr rfl) rfl
def gleaninglaw5_FrameTells_k0 (a0 : List UInt8) (a1 : List UInt8) : Option Bool :=
  gd ((List.length a1) * 1 ≤ 140737488355328 ∧ (List.length a1) ≤ 140737488355328) (Option.bind (frame_Split a1) (fun (x15 : List (List UInt8) × Int) => Option.bind (gleaningref1_Split a1) (fun (x17 : List (List UInt8) × Int) => Option.bind (frame_Bytes a0) (fun (x19 : List UInt8) => Option.bind (gleaningref1_Frame a0) (fun (x20 : List UInt8) => if (ByteArray.toList (strOf x19) == ByteArray.toList (strOf x20)) = true then (Option.bind (gleaninglaw5_same x15.1 x17.1) (fun (x22 : Bool) => if x22 = true then (some (x15.2 == x17.2)) else (some false))) else (some false))))))
def gleaninglaw5_FrameTells (a0 : List UInt8) (a1 : List UInt8) : Option Bool :=
  Option.bind (gleaninglaw5_alive) (fun (x3 : Bool) => Option.bind (if (!x3) = true then (some (Sum.inr x3)) else (if (decide ((500 : Int) < (List.length a0 : Int))) = true then (some (Sum.inr x3)) else (if (decide ((1000 : Int) < (List.length a1 : Int))) = true then (some (Sum.inr x3)) else (some (Sum.inl ()))))) (Sum.elim (fun (s : Unit) => gleaninglaw5_FrameTells_k0 a0 a1) some))
set_option maxRecDepth 100000 in
set_option maxHeartbeats 8000000 in
/-- gleaning/gleaninglaw5.FrameTells -/
theorem gleaninglaw5_FrameTells_ok (a0 : List UInt8) (a1 : List UInt8) {r : Bool} (h : gleaninglaw5_FrameTells a0 a1 = some r) : Ok Try.prog 8 [.sl 1 (List.map enc5 a0), .sl 1 (List.map enc5 a1)] [] [] (.bool r) [] [] := by
  unfold gleaninglaw5_FrameTells at h
  refine ok_of_code Try.func8 rfl (by show (2 : Nat) ≤ _; decide) (Nat.le_refl _) fun X => ?_
  refine aw_seq_k (fun K1 hK1 => ?_)
  refine aw_reg ?_
  refine ao_cons (acts_of rfl (does_assign (v := .bool false) (by exact rfl))) (by decide) ?_
  refine ao_nil_n ?_
  refine hK1 _ ?_
  refine aw_seq_k (fun K2 hK2 => ?_)
  refine aw_reg ?_
  obtain ⟨x3, hx3, h⟩ := bnd_some h
  refine ao_cons (acts_of rfl (do_call0 10 false (gleaninglaw5_alive_ok hx3) rfl ent31 rfl rfl)) (by decide) ?_
  refine ao_cons (acts_of rfl (does_assign (v := .bool x3) (by exact rfl))) (by decide) ?_
  refine ao_nil_n ?_
  refine hK2 _ ?_
  obtain ⟨q4, h, hk5⟩ := bnd_some h
  refine aw_cut (fun s => gleaninglaw5_FrameTells_k0 a0 a1 = some r ∧ s = lit [(0, .sl 1 (List.map enc5 a0)), (1, .sl 1 (List.map enc5 a1))] [] [] X) ?_ ?_
  · skip
    refine aw_seq_k (fun K6 hK6 => ?_)
    refine aw_reg ?_
    refine ao_cons (acts_of rfl (does_move (v := .bool x3) (by exact rfl))) (by decide) ?_
    refine ao_cons (acts_of rfl (does_un (v := .bool (!x3)) (by conv => lhs; whnf) rfl)) (by decide) ?_
    refine ao_cons (acts_of rfl (does_move (v := .bool (!x3)) (by exact rfl))) (by decide) ?_
    refine ao_bool (c := (!x3)) 13 rfl (fun c7 => ?_) (fun c7 => ?_)
    · have h := ifT c7 h
      refine ao_cons (acts_skip rfl) (by decide) ?_
      refine ao_cons (acts_skip rfl) (by decide) ?_
      refine ao_cons (acts_skip rfl) (by decide) ?_
      refine ao_cons (acts_of rfl (does_pick (v := .bool true) (by conv => lhs; whnf) (by exact rfl))) (by decide) ?_
      refine ao_cons (acts_of rfl (does_move (v := .bool true) (by exact rfl))) (by decide) ?_
      refine ao_cons (acts_skip rfl) (by decide) ?_
      refine ao_cons (acts_skip rfl) (by decide) ?_
      refine ao_cons (acts_skip rfl) (by decide) ?_
      refine ao_cons (acts_of rfl (does_pick (v := .bool true) (by conv => lhs; whnf) (by exact rfl))) (by decide) ?_
      refine ao_nil_n ?_
      refine hK6 _ ?_
      refine aw_cond_t (by decide) rfl ?_
      refine aw_seq_k (fun K8 hK8 => ?_)
      refine aw_reg ?_
      refine ao_cons (acts_of rfl (does_move (v := .bool x3) (by exact rfl))) (by decide) ?_
      refine ao_cons (acts_of rfl (does_assign (v := .bool x3) (by exact rfl))) (by decide) ?_
      refine ao_nil_n ?_
      refine hK8 _ ?_
      refine aw_ret ?_
      have h := leafR h hk5
      obtain rfl := Option.some.inj h
      exact ret_ok1 (by conv => lhs; whnf) (by conv => lhs; whnf) (by exact rfl) (.inr rfl) rfl
    · have h := ifF c7 h
      refine ao_cons (acts_of rfl (does_move (v := .sl 1 (List.map enc5 a0)) (by exact rfl))) (by decide) ?_
      refine ao_cons (acts_of rfl ((does_len_sl (by conv => lhs; whnf) ty51).castp (v' := .int .i64 (List.length a0 : Int)) (by exact len_map _))) (by decide) ?_
      refine ao_cons (acts_of rfl (does_bin (v := .bool (decide ((500 : Int) < (List.length a0 : Int)))) (by conv => lhs; whnf) (by conv => lhs; whnf) rfl)) (by decide) ?_
      refine ao_cons (acts_of rfl (does_pick (v := .bool (decide ((500 : Int) < (List.length a0 : Int)))) (by conv => lhs; whnf) (by exact rfl))) (by decide) ?_
      refine ao_cons (acts_of rfl (does_move (v := .bool (decide ((500 : Int) < (List.length a0 : Int)))) (by exact rfl))) (by decide) ?_
      refine ao_bool (c := (decide ((500 : Int) < (List.length a0 : Int)))) 18 rfl (fun c9 => ?_) (fun c9 => ?_)
      · have h := ifT c9 h
        refine ao_cons (acts_skip rfl) (by decide) ?_
        refine ao_cons (acts_skip rfl) (by decide) ?_
        refine ao_cons (acts_skip rfl) (by decide) ?_
        refine ao_cons (acts_of rfl (does_pick (v := .bool true) (by conv => lhs; whnf) (by exact rfl))) (by decide) ?_
        refine ao_nil_n ?_
        refine hK6 _ ?_
        refine aw_cond_t (by decide) rfl ?_
        refine aw_seq_k (fun K10 hK10 => ?_)
        refine aw_reg ?_
        refine ao_cons (acts_of rfl (does_move (v := .bool x3) (by exact rfl))) (by decide) ?_
        refine ao_cons (acts_of rfl (does_assign (v := .bool x3) (by exact rfl))) (by decide) ?_
        refine ao_nil_n ?_
        refine hK10 _ ?_
        refine aw_ret ?_
        have h := leafR h hk5
        obtain rfl := Option.some.inj h
        exact ret_ok1 (by conv => lhs; whnf) (by conv => lhs; whnf) (by exact rfl) (.inr rfl) rfl
      · have h := ifF c9 h
        refine ao_cons (acts_of rfl (does_move (v := .sl 1 (List.map enc5 a1)) (by exact rfl))) (by decide) ?_
        refine ao_cons (acts_of rfl ((does_len_sl (by conv => lhs; whnf) ty51).castp (v' := .int .i64 (List.length a1 : Int)) (by exact len_map _))) (by decide) ?_
        refine ao_cons (acts_of rfl (does_bin (v := .bool (decide ((1000 : Int) < (List.length a1 : Int)))) (by conv => lhs; whnf) (by conv => lhs; whnf) rfl)) (by decide) ?_
        refine ao_cons (acts_of rfl (does_pick (v := .bool (decide ((1000 : Int) < (List.length a1 : Int)))) (by conv => lhs; whnf) (by exact rfl))) (by decide) ?_
        refine ao_nil_n ?_
        refine hK6 _ ?_
        refine aw_bool (b := (decide ((1000 : Int) < (List.length a1 : Int)))) 22 rfl (fun c11 => ?_) (fun c11 => ?_)
        · have h := ifT c11 h
          refine aw_cond_t (by decide) rfl ?_
          refine aw_seq_k (fun K12 hK12 => ?_)
          refine aw_reg ?_
          refine ao_cons (acts_of rfl (does_move (v := .bool x3) (by exact rfl))) (by decide) ?_
          refine ao_cons (acts_of rfl (does_assign (v := .bool x3) (by exact rfl))) (by decide) ?_
          refine ao_nil_n ?_
          refine hK12 _ ?_
          refine aw_ret ?_
          have h := leafR h hk5
          obtain rfl := Option.some.inj h
          exact ret_ok1 (by conv => lhs; whnf) (by conv => lhs; whnf) (by exact rfl) (.inr rfl) rfl
        · have h := ifF c11 h
          refine aw_cond_f (by decide) rfl ?_
          refine aw_skip ?_
          have h := leafL h hk5
          exact ⟨_, reb_lit [(0, .sl 1 (List.map enc5 a0)), (1, .sl 1 (List.map enc5 a1))] [] [] [] (envOk_cons (by conv => lhs; whnf) (by exact rfl) (envOk_cons (by conv => lhs; whnf) (by exact rfl) envOk_nil)) objOk_nil (nodup_b rfl) (nodup_b rfl) rfl rfl, h, rfl⟩
  · rintro s ⟨h, rfl⟩
    unfold gleaninglaw5_FrameTells_k0 at h
    refine aw_seq_k (fun K13 hK13 => ?_)
    refine aw_reg ?_
    refine ao_cons (acts_of rfl (does_move (v := .sl 1 (List.map enc5 a1)) (by exact rfl))) (by decide) ?_
    obtain ⟨g14, h⟩ := gd_some h
    refine ao_cons (acts_of rfl (do_append (v := List.map enc5 a1) (by conv => lhs; whnf) (by conv => lhs; whnf) ty51 ty5 rfl rfl (by conv => lhs; whnf) (by first | exact .inl rfl | exact .inr ⟨rfl, rfl⟩) (by conv => lhs; whnf) (by first | exact .inr rfl | exact .inl rfl) (List.nil_append _) (fit_map g14))) (by decide) ?_
    obtain ⟨x15, hx15, h⟩ := bnd_some h
    refine ao_cons (acts_of rfl (does_frz (d := 26) (n := 0) (by conv => lhs; whnf) (do_callG (bcs := []) [] [] [(26, 0)] 27 false (frame_Split_ok a1 hx15) rfl ent32 trivial trivial rfl rfl rfl rfl rfl rfl rfl rfl (.inl ⟨⟨_, _, _, rfl⟩, trivial⟩)))) (by decide) ?_
    refine ao_cons (acts_of rfl (does_move (v := .tup [.own 27 0, .int .i64 x15.2]) (by exact rfl))) (by decide) ?_
    refine ao_cons (acts_of rfl (does_extract (v := .own 27 0) (by conv => lhs; whnf) (by exact rfl))) (by decide) ?_
    refine ao_cons (acts_of rfl (does_extract (v := .int .i64 x15.2) (by conv => lhs; whnf) (by exact rfl))) (by decide) ?_
    refine ao_cons (acts_of rfl (does_assign (v := .own 27 0) (by exact rfl))) (by decide) ?_
    refine ao_cons (acts_of rfl (does_assign (v := .int .i64 x15.2) (by exact rfl))) (by decide) ?_
    refine ao_nil_n ?_
    refine hK13 _ ?_
    refine aw_seq_k (fun K16 hK16 => ?_)
    refine aw_reg ?_
    refine ao_cons (acts_of rfl (does_move (v := .sl 1 (List.map enc5 a1)) (by exact rfl))) (by decide) ?_
    obtain ⟨x17, hx17, h⟩ := bnd_some h
    refine ao_cons (acts_of rfl (do_call0 32 false (gleaningref1_Split_ok a1 hx17) rfl ent33 rfl rfl)) (by decide) ?_
    refine ao_cons (acts_of rfl (does_move (v := .tup [.own 32 0, .int .i64 x17.2]) (by exact rfl))) (by decide) ?_
    refine ao_cons (acts_of rfl (does_extract (v := .own 32 0) (by conv => lhs; whnf) (by exact rfl))) (by decide) ?_
    refine ao_cons (acts_of rfl (does_extract (v := .int .i64 x17.2) (by conv => lhs; whnf) (by exact rfl))) (by decide) ?_
    refine ao_cons (acts_of rfl (does_assign (v := .own 32 0) (by exact rfl))) (by decide) ?_
    refine ao_cons (acts_of rfl (does_assign (v := .int .i64 x17.2) (by exact rfl))) (by decide) ?_
    refine ao_nil_n ?_
    refine hK16 _ ?_
    refine aw_seq_k (fun K18 hK18 => ?_)
    refine aw_regd (by kernel_rfl) (by decide +kernel) ?_
    refine ao_cons (acts_of rfl (does_move (v := .sl 1 (List.map enc5 a0)) (by exact rfl))) (by decide) ?_
    obtain ⟨x19, hx19, h⟩ := bnd_some h
    refine ao_cons (acts_of rfl (do_call0 36 false (frame_Bytes_ok a0 hx19) rfl ent34 rfl rfl)) (by decide) ?_
    refine ao_cons (acts_of rfl (does_bytes_str (l := x19) (f := enc5) (by conv => lhs; whnf) (by conv => lhs; whnf) (Nat.le_refl 1) (ty_slice ty51) (ty_int ty5) (ty_str ty9) (fun _ => rfl))) (by decide) ?_
    refine ao_cons (acts_of rfl (does_move (v := .sl 1 (List.map enc5 a0)) (by exact rfl))) (by decide) ?_
    obtain ⟨x20, hx20, h⟩ := bnd_some h
    refine ao_cons (acts_of rfl (do_call0 39 false (gleaningref1_Frame_ok a0 hx20) rfl ent35 rfl rfl)) (by decide) ?_
    refine ao_cons (acts_of rfl (does_bytes_str (l := x20) (f := enc5) (by conv => lhs; whnf) (by conv => lhs; whnf) (Nat.le_refl 1) (ty_slice ty51) (ty_int ty5) (ty_str ty9) (fun _ => rfl))) (by decide) ?_
    refine ao_cons (acts_of rfl (does_bin (v := .bool (ByteArray.toList (strOf x19) == ByteArray.toList (strOf x20))) (by conv => lhs; whnf) (by conv => lhs; whnf) rfl)) (by decide) ?_
    refine ao_cons (acts_of rfl (does_move (v := .bool (ByteArray.toList (strOf x19) == ByteArray.toList (strOf x20))) (by exact rfl))) (by decide) ?_
    refine ao_bool (c := (ByteArray.toList (strOf x19) == ByteArray.toList (strOf x20))) 42 rfl (fun c21 => ?_) (fun c21 => ?_)
    · have h := ifT c21 h
      refine ao_cons (acts_of rfl (does_move (v := .own 27 0) (by exact rfl))) (by decide) ?_
      refine ao_cons (acts_of rfl (does_move (v := .own 32 0) (by exact rfl))) (by decide) ?_
      obtain ⟨x22, hx22, h⟩ := bnd_some h
      refine ao_cons (acts_of rfl (do_callG (bcs := []) [] [] [(27, 0), (32, 0)] 45 false (gleaninglaw5_same_ok x15.1 x17.1 hx22) rfl ent36 trivial trivial rfl rfl rfl rfl rfl rfl rfl rfl (.inr ⟨rfl, rfl, trivial⟩))) (by decide) ?_
      refine ao_cons (acts_of rfl (does_pick (v := .bool x22) (by conv => lhs; whnf) (by exact rfl))) (by decide) ?_
      refine ao_cons (acts_of rfl (does_move (v := .bool x22) (by exact rfl))) (by decide) ?_
      refine ao_bool (c := x22) 47 rfl (fun c23 => ?_) (fun c23 => ?_)
      · have h := ifT c23 h
        refine ao_cons (acts_of rfl (does_move (v := .int .i64 x15.2) (by exact rfl))) (by decide) ?_
        refine ao_cons (acts_of rfl (does_move (v := .int .i64 x17.2) (by exact rfl))) (by decide) ?_
        refine ao_cons (acts_of rfl (does_bin (v := .bool (x15.2 == x17.2)) (by conv => lhs; whnf) (by conv => lhs; whnf) rfl)) (by decide) ?_
        refine ao_cons (acts_of rfl (does_pick (v := .bool (x15.2 == x17.2)) (by conv => lhs; whnf) (by exact rfl))) (by decide) ?_
        refine ao_cons (acts_of rfl (does_assign (v := .bool (x15.2 == x17.2)) (by exact rfl))) (by decide) ?_
        refine ao_nil_d (by kernel_rfl) ?_
        refine hK18 _ ?_
        refine aw_ret ?_
        obtain rfl := Option.some.inj h
        exact ret_ok1 (by conv => lhs; whnf) (by conv => lhs; whnf) (by exact rfl) (.inr rfl) rfl
      · have h := ifF c23 h
        refine ao_cons (acts_skip rfl) (by decide) ?_
        refine ao_cons (acts_skip rfl) (by decide) ?_
        refine ao_cons (acts_skip rfl) (by decide) ?_
        refine ao_cons (acts_of rfl (does_pick (v := .bool false) (by conv => lhs; whnf) (by exact rfl))) (by decide) ?_
        refine ao_cons (acts_of rfl (does_assign (v := .bool false) (by exact rfl))) (by decide) ?_
        refine ao_nil_d (by kernel_rfl) ?_
        refine hK18 _ ?_
        refine aw_ret ?_
        obtain rfl := Option.some.inj h
        exact ret_ok1 (by conv => lhs; whnf) (by conv => lhs; whnf) (by exact rfl) (.inr rfl) rfl
    · have h := ifF c21 h
      refine ao_cons (acts_skip rfl) (by decide) ?_
      refine ao_cons (acts_skip rfl) (by decide) ?_
      refine ao_cons (acts_skip rfl) (by decide) ?_
      refine ao_cons (acts_of rfl (does_pick (v := .bool false) (by conv => lhs; whnf) (by exact rfl))) (by decide) ?_
      refine ao_cons (acts_of rfl (does_move (v := .bool false) (by exact rfl))) (by decide) ?_
      refine ao_cons (acts_skip rfl) (by decide) ?_
      refine ao_cons (acts_skip rfl) (by decide) ?_
      refine ao_cons (acts_skip rfl) (by decide) ?_
      refine ao_cons (acts_of rfl (does_pick (v := .bool false) (by conv => lhs; whnf) (by exact rfl))) (by decide) ?_
      refine ao_cons (acts_of rfl (does_assign (v := .bool false) (by exact rfl))) (by decide) ?_
      refine ao_nil_d (by kernel_rfl) ?_
      refine hK18 _ ?_
      refine aw_ret ?_
      obtain rfl := Option.some.inj h
      exact ret_ok1 (by conv => lhs; whnf) (by conv => lhs; whnf) (by exact rfl) (.inr rfl) rfl
theorem sh51 : ∀ (m : Nat) (cs : List PV), Shape Try.prog m 51 cs → ∃ a : List UInt8, cs = [.sl 1 (List.map enc5 a)] ∧ ((List.length a) ≤ maxLen) := fun m cs h => shape_bytes h Try.underlying51 Try.underlying5 (by kernel_rfl)
def gleaninglaw5_FrameTorn_l2 (a0 : List (List UInt8)) (v6_s_2 : List UInt8) (v7_s_2 : List Int) (v8_2 : Int) : Option ((List UInt8 × List Int × Int) ⊕ ((List UInt8 × List Int) ⊕ Bool)) :=
  if (decide (v8_2 < (List.length a0 : Int))) = true then (gd (0 ≤ v8_2) (Option.bind (a0[(Int.toNat v8_2)]?) (fun (x27 : List UInt8) => if (decide ((200 : Int) < (List.length x27 : Int))) = true then (some (Sum.inr (Sum.inr true))) else (gd (0 ≤ v8_2) (Option.bind (a0[(Int.toNat v8_2)]?) (fun (x32 : List UInt8) => Option.bind (frame_Bytes x32) (fun (x33 : List UInt8) => gd ((List.length (v6_s_2 ++ x33)) * 1 ≤ 140737488355328 ∧ (List.length (v6_s_2 ++ x33)) ≤ 140737488355328) (gd ((List.length (v7_s_2 ++ [(List.length (v6_s_2 ++ x33) : Int)])) * 8 ≤ 140737488355328 ∧ (List.length (v7_s_2 ++ [(List.length (v6_s_2 ++ x33) : Int)])) ≤ 140737488355328) (some (Sum.inl ((v6_s_2 ++ x33), (v7_s_2 ++ [(List.length (v6_s_2 ++ x33) : Int)]), (IntKind.i64.wrap (v8_2 + 1))))))))))))) else (some (Sum.inr (Sum.inl (v6_s_2, v7_s_2))))
def gleaninglaw5_FrameTorn_k6 (v7_s_1 : List Int) (v12_5 : Int) : Option ((Int × Int) ⊕ (Int × Int)) :=
  gd (0 ≤ v12_5) (Option.bind (v7_s_1[(Int.toNat v12_5)]?) (fun (x63 : Int) => some (Sum.inl ((IntKind.i64.wrap (v12_5 + 1)), x63))))
def gleaninglaw5_FrameTorn_l5 (a0 : List (List UInt8)) (a1 : Int) (v6_s_1 : List UInt8) (v7_s_1 : List Int) (v12_5 : Int) (v13_5 : Int) : Option ((Int × Int) ⊕ (Int × Int)) :=
  Option.bind (if (decide (v12_5 < (List.length a0 : Int))) = true then (gd (0 ≤ v12_5) (Option.bind (v7_s_1[(Int.toNat v12_5)]?) (fun (x59 : Int) => if (decide (x59 ≤ (Int.tmod a1 (IntKind.i64.wrap ((List.length v6_s_1 : Int) + 1))))) = true then (some (Sum.inl ())) else (some (Sum.inr (Sum.inr (v12_5, v13_5))))))) else (some (Sum.inr (Sum.inr (v12_5, v13_5))))) (Sum.elim (fun (s : Unit) => gleaninglaw5_FrameTorn_k6 v7_s_1 v12_5) some)
def gleaninglaw5_FrameTorn_k4 (a0 : List (List UInt8)) (a1 : Int) (v6_s_1 : List UInt8) (v12_4 : Int) (v13_4 : Int) : Option Bool :=
  gd (0 ≤ (Int.tmod a1 (IntKind.i64.wrap ((List.length v6_s_1 : Int) + 1)))) (gd ((Int.tmod a1 (IntKind.i64.wrap ((List.length v6_s_1 : Int) + 1))) ≤ (List.length v6_s_1 : Int)) (Option.bind (frame_Split (List.take (Int.toNat (Int.tmod a1 (IntKind.i64.wrap ((List.length v6_s_1 : Int) + 1)))) v6_s_1)) (fun (x67 : List (List UInt8) × Int) => gd (0 ≤ v12_4) (gd (v12_4 ≤ (List.length a0 : Int)) (Option.bind (gleaninglaw5_same x67.1 (List.take (Int.toNat v12_4) a0)) (fun (x71 : Bool) => if x71 = true then (some (x67.2 == v13_4)) else (some false)))))))
def gleaninglaw5_FrameTorn_k3 (a0 : List (List UInt8)) (a1 : Int) (v6_s_1 : List UInt8) (v7_s_1 : List Int) : Option Bool :=
  gd (¬ (IntKind.i64.wrap ((List.length v6_s_1 : Int) + 1)) = 0) (Option.bind (loopN (fun (s : Int × Int) => gleaninglaw5_FrameTorn_l5 a0 a1 v6_s_1 v7_s_1 s.1 s.2) Fu (0, 0)) (fun (s : Int × Int) => gleaninglaw5_FrameTorn_k4 a0 a1 v6_s_1 s.1 s.2))
def gleaninglaw5_FrameTorn_k1 (a0 : List (List UInt8)) (a1 : Int) (v6_s_1 : List UInt8) (v7_s_1 : List Int) : Option Bool :=
  Option.bind (frame_Split v6_s_1) (fun (x37 : List (List UInt8) × Int) => Option.bind (Option.bind (gleaninglaw5_same x37.1 a0) (fun (x41 : Bool) => if (!x41) = true then (some (Sum.inr false)) else (if (x37.2 != (List.length v6_s_1 : Int)) = true then (some (Sum.inr false)) else (some (Sum.inl ()))))) (Sum.elim (fun (s : Unit) => gleaninglaw5_FrameTorn_k3 a0 a1 v6_s_1 v7_s_1) some))
def gleaninglaw5_FrameTorn_k0 (a0 : List (List UInt8)) (a1 : Int) : Option Bool :=
  Option.bind (loopN (fun (s : List UInt8 × List Int × Int) => gleaninglaw5_FrameTorn_l2 a0 s.1 s.2.1 s.2.2) Fu ([], [], 0)) (Sum.elim (fun (s : List UInt8 × List Int) => gleaninglaw5_FrameTorn_k1 a0 a1 s.1 s.2) some)
def gleaninglaw5_FrameTorn (a0 : List (List UInt8)) (a1 : Int) : Option Bool :=
  Option.bind (gleaninglaw5_alive) (fun (x3 : Bool) => Option.bind (if (!x3) = true then (some (Sum.inr x3)) else (if (decide ((20 : Int) < (List.length a0 : Int))) = true then (some (Sum.inr x3)) else (if (decide (a1 < 0)) = true then (some (Sum.inr x3)) else (some (Sum.inl ()))))) (Sum.elim (fun (s : Unit) => gleaninglaw5_FrameTorn_k0 a0 a1) some))
set_option maxRecDepth 100000 in
set_option maxHeartbeats 8000000 in
/-- gleaning/gleaninglaw5.FrameTorn -/
theorem gleaninglaw5_FrameTorn_ok (a0 : List (List UInt8)) (a1 : Int) {r : Bool} (h : gleaninglaw5_FrameTorn a0 a1 = some r) : Ok Try.prog 9 [.sl 1 (List.map enc51 a0), .int .i64 a1] [] [] (.bool r) [] [] := by
  unfold gleaninglaw5_FrameTorn at h
  refine ok_of_code Try.func9 rfl (by show (2 : Nat) ≤ _; decide) (Nat.le_refl _) fun X => ?_
  refine aw_seq_k (fun K1 hK1 => ?_)
  refine aw_reg ?_
  refine ao_cons (acts_of rfl (does_assign (v := .bool false) (by exact rfl))) (by decide) ?_
  refine ao_nil_n ?_
  refine hK1 _ ?_
  refine aw_seq_k (fun K2 hK2 => ?_)
  refine aw_reg ?_
  obtain ⟨x3, hx3, h⟩ := bnd_some h
  refine ao_cons (acts_of rfl (do_call0 16 false (gleaninglaw5_alive_ok hx3) rfl ent31 rfl rfl)) (by decide) ?_
  refine ao_cons (acts_of rfl (does_assign (v := .bool x3) (by exact rfl))) (by decide) ?_
  refine ao_nil_n ?_
  refine hK2 _ ?_
  obtain ⟨q4, h, hk5⟩ := bnd_some h
  refine aw_cut (fun s => gleaninglaw5_FrameTorn_k0 a0 a1 = some r ∧ s = lit [(0, .sl 1 (List.map enc51 a0)), (1, .int .i64 a1)] [] [] X) ?_ ?_
  · skip
    refine aw_seq_k (fun K6 hK6 => ?_)
    refine aw_reg ?_
    refine ao_cons (acts_of rfl (does_move (v := .bool x3) (by exact rfl))) (by decide) ?_
    refine ao_cons (acts_of rfl (does_un (v := .bool (!x3)) (by conv => lhs; whnf) rfl)) (by decide) ?_
    refine ao_cons (acts_of rfl (does_move (v := .bool (!x3)) (by exact rfl))) (by decide) ?_
    refine ao_bool (c := (!x3)) 19 rfl (fun c7 => ?_) (fun c7 => ?_)
    · have h := ifT c7 h
      refine ao_cons (acts_skip rfl) (by decide) ?_
      refine ao_cons (acts_skip rfl) (by decide) ?_
      refine ao_cons (acts_skip rfl) (by decide) ?_
      refine ao_cons (acts_of rfl (does_pick (v := .bool true) (by conv => lhs; whnf) (by exact rfl))) (by decide) ?_
      refine ao_cons (acts_of rfl (does_move (v := .bool true) (by exact rfl))) (by decide) ?_
      refine ao_cons (acts_skip rfl) (by decide) ?_
      refine ao_cons (acts_skip rfl) (by decide) ?_
      refine ao_cons (acts_of rfl (does_pick (v := .bool true) (by conv => lhs; whnf) (by exact rfl))) (by decide) ?_
      refine ao_nil_n ?_
      refine hK6 _ ?_
      refine aw_cond_t (by decide) rfl ?_
      refine aw_seq_k (fun K8 hK8 => ?_)
      refine aw_reg ?_
      refine ao_cons (acts_of rfl (does_move (v := .bool x3) (by exact rfl))) (by decide) ?_
      refine ao_cons (acts_of rfl (does_assign (v := .bool x3) (by exact rfl))) (by decide) ?_
      refine ao_nil_n ?_
      refine hK8 _ ?_
      refine aw_ret ?_
      have h := leafR h hk5
      obtain rfl := Option.some.inj h
      exact ret_ok1 (by conv => lhs; whnf) (by conv => lhs; whnf) (by exact rfl) (.inr rfl) rfl
    · have h := ifF c7 h
      refine ao_cons (acts_of rfl (does_move (v := .sl 1 (List.map enc51 a0)) (by exact rfl))) (by decide) ?_
      refine ao_cons (acts_of rfl ((does_len_sl (by conv => lhs; whnf) ty52).castp (v' := .int .i64 (List.length a0 : Int)) (by exact len_map _))) (by decide) ?_
      refine ao_cons (acts_of rfl (does_bin (v := .bool (decide ((20 : Int) < (List.length a0 : Int)))) (by conv => lhs; whnf) (by conv => lhs; whnf) rfl)) (by decide) ?_
      refine ao_cons (acts_of rfl (does_pick (v := .bool (decide ((20 : Int) < (List.length a0 : Int)))) (by conv => lhs; whnf) (by exact rfl))) (by decide) ?_
      refine ao_cons (acts_of rfl (does_move (v := .bool (decide ((20 : Int) < (List.length a0 : Int)))) (by exact rfl))) (by decide) ?_
      refine ao_bool (c := (decide ((20 : Int) < (List.length a0 : Int)))) 24 rfl (fun c9 => ?_) (fun c9 => ?_)
      · have h := ifT c9 h
        refine ao_cons (acts_skip rfl) (by decide) ?_
        refine ao_cons (acts_skip rfl) (by decide) ?_
        refine ao_cons (acts_of rfl (does_pick (v := .bool true) (by conv => lhs; whnf) (by exact rfl))) (by decide) ?_
        refine ao_nil_n ?_
        refine hK6 _ ?_
        refine aw_cond_t (by decide) rfl ?_
        refine aw_seq_k (fun K10 hK10 => ?_)
        refine aw_reg ?_
        refine ao_cons (acts_of rfl (does_move (v := .bool x3) (by exact rfl))) (by decide) ?_
        refine ao_cons (acts_of rfl (does_assign (v := .bool x3) (by exact rfl))) (by decide) ?_
        refine ao_nil_n ?_
        refine hK10 _ ?_
        refine aw_ret ?_
        have h := leafR h hk5
        obtain rfl := Option.some.inj h
        exact ret_ok1 (by conv => lhs; whnf) (by conv => lhs; whnf) (by exact rfl) (.inr rfl) rfl
      · have h := ifF c9 h
        refine ao_cons (acts_of rfl (does_move (v := .int .i64 a1) (by exact rfl))) (by decide) ?_
        refine ao_cons (acts_of rfl (does_bin (v := .bool (decide (a1 < 0))) (by conv => lhs; whnf) (by conv => lhs; whnf) rfl)) (by decide) ?_
        refine ao_cons (acts_of rfl (does_pick (v := .bool (decide (a1 < 0))) (by conv => lhs; whnf) (by exact rfl))) (by decide) ?_
        refine ao_nil_n ?_
        refine hK6 _ ?_
        refine aw_bool (b := (decide (a1 < 0))) 27 rfl (fun c11 => ?_) (fun c11 => ?_)
        · have h := ifT c11 h
          refine aw_cond_t (by decide) rfl ?_
          refine aw_seq_k (fun K12 hK12 => ?_)
          refine aw_reg ?_
          refine ao_cons (acts_of rfl (does_move (v := .bool x3) (by exact rfl))) (by decide) ?_
          refine ao_cons (acts_of rfl (does_assign (v := .bool x3) (by exact rfl))) (by decide) ?_
          refine ao_nil_n ?_
          refine hK12 _ ?_
          refine aw_ret ?_
          have h := leafR h hk5
          obtain rfl := Option.some.inj h
          exact ret_ok1 (by conv => lhs; whnf) (by conv => lhs; whnf) (by exact rfl) (.inr rfl) rfl
        · have h := ifF c11 h
          refine aw_cond_f (by decide) rfl ?_
          refine aw_skip ?_
          have h := leafL h hk5
          exact ⟨_, reb_lit [(0, .sl 1 (List.map enc51 a0)), (1, .int .i64 a1)] [] [] [] (envOk_cons (by conv => lhs; whnf) (by exact rfl) (envOk_cons (by conv => lhs; whnf) (by exact rfl) envOk_nil)) objOk_nil (nodup_b rfl) (nodup_b rfl) rfl rfl, h, rfl⟩
  · rintro s ⟨h, rfl⟩
    unfold gleaninglaw5_FrameTorn_k0 at h
    refine aw_seq_k (fun K13 hK13 => ?_)
    refine aw_reg ?_
    refine ao_cons (acts_of rfl (does_assign (v := .nil) (by exact rfl))) (by decide) ?_
    refine ao_nil_n ?_
    refine hK13 _ ?_
    refine aw_seq_k (fun K14 hK14 => ?_)
    refine aw_reg ?_
    refine ao_cons (acts_of rfl (does_assign (v := .nil) (by exact rfl))) (by decide) ?_
    refine ao_nil_n ?_
    refine hK14 _ ?_
    obtain ⟨q15, h, hk16⟩ := bnd_some h
    refine aw_cut (fun s => ∃ (v6_s_1 : List UInt8), ∃ (v7_s_1 : List Int), gleaninglaw5_FrameTorn_k1 a0 a1 v6_s_1 v7_s_1 = some r ∧ s = lit [(0, .sl 1 (List.map enc51 a0)), (1, .int .i64 a1), (6, .own 6 0), (7, .own 7 0)] [((6, 0), .arr 5 1 false (List.map enc5 v6_s_1)), ((7, 0), .arr 3 1 false (List.map enc2 v7_s_1))] [(6, 1), (7, 1)] X) ?_ ?_
    · skip
      refine aw_seq_k (fun K17 hK17 => ?_)
      refine aw_reg ?_
      refine ao_cons (acts_of rfl (does_assign (v := .int .i64 0) (by exact rfl))) (by decide) ?_
      refine ao_nil_n ?_
      refine hK17 _ ?_
      refine aw_block ?_
      refine aw_nilOwn 6 5 1 (by conv => lhs; whnf) (by decide) (by decide) ?_
      refine aw_nilOwn 7 3 1 (by conv => lhs; whnf) (by decide) (by decide) ?_
      refine aw_loop' (fun m s => ∃ (v6_s_2 : List UInt8), ∃ (v7_s_2 : List Int), ∃ (v8_2 : Int), loopN (fun (s : List UInt8 × List Int × Int) => gleaninglaw5_FrameTorn_l2 a0 s.1 s.2.1 s.2.2) m (v6_s_2, v7_s_2, v8_2) = some q15 ∧ s = lit [(0, .sl 1 (List.map enc51 a0)), (1, .int .i64 a1), (6, .own 6 0), (7, .own 7 0), (8, .int .i64 v8_2)] [((6, 0), .arr 5 1 false (List.map enc5 v6_s_2)), ((7, 0), .arr 3 1 false (List.map enc2 v7_s_2))] [(6, 1), (7, 1)] X) Fu
        ⟨_, reb_lit [(0, .sl 1 (List.map enc51 a0)), (1, .int .i64 a1), (6, .own 6 0), (7, .own 7 0), (8, .int .i64 (0))] [(6, 0), (7, 0)] [((6, 0), .arr 5 1 false (List.map enc5 [])), ((7, 0), .arr 3 1 false (List.map enc2 []))] [(6, 1), (7, 1)] (envOk_cons (by conv => lhs; whnf) (by exact rfl) (envOk_cons (by conv => lhs; whnf) (by exact rfl) (envOk_cons (by conv => lhs; whnf) (by exact rfl) (envOk_cons (by conv => lhs; whnf) (by exact rfl) (envOk_cons (by conv => lhs; whnf) (by exact rfl) envOk_nil))))) (objOk_cons (by conv => lhs; whnf) (by conv => lhs; whnf) (by exact rfl) (by simp) (objOk_cons (by conv => lhs; whnf) (by conv => lhs; whnf) (by exact rfl) (by simp) objOk_nil)) (nodup_b rfl) (nodup_b rfl) rfl rfl, [], [], 0, h, rfl⟩ ?_
      rintro m s ⟨v6_s_2, v7_s_2, v8_2, h, rfl⟩
      obtain ⟨m2, q18, rfl, h, hq19⟩ := loop_some h
      replace h : gleaninglaw5_FrameTorn_l2 a0 v6_s_2 v7_s_2 v8_2 = some q18 := h
      unfold gleaninglaw5_FrameTorn_l2 at h
      refine aw_seq_k (fun K20 hK20 => ?_)
      refine aw_seq_k (fun K21 hK21 => ?_)
      refine aw_reg ?_
      refine ao_cons (acts_of rfl (does_move (v := .int .i64 v8_2) (by exact rfl))) (by decide) ?_
      refine ao_cons (acts_of rfl (does_move (v := .sl 1 (List.map enc51 a0)) (by exact rfl))) (by decide) ?_
      refine ao_cons (acts_of rfl ((does_len_sl (by conv => lhs; whnf) ty52).castp (v' := .int .i64 (List.length a0 : Int)) (by exact len_map _))) (by decide) ?_
      refine ao_cons (acts_of rfl (does_bin (v := .bool (decide (v8_2 < (List.length a0 : Int)))) (by conv => lhs; whnf) (by conv => lhs; whnf) rfl)) (by decide) ?_
      refine ao_nil_n ?_
      refine hK21 _ ?_
      refine aw_bool (b := (decide (v8_2 < (List.length a0 : Int)))) 32 rfl (fun c22 => ?_) (fun c22 => ?_)
      · have h := ifT c22 h
        refine aw_cond_t (by decide) rfl ?_
        refine aw_skip ?_
        refine hK20 _ ?_
        refine aw_seq_k (fun K23 hK23 => ?_)
        refine aw_block ?_
        refine aw_seq_k (fun K24 hK24 => ?_)
        refine aw_seq_k (fun K25 hK25 => ?_)
        refine aw_reg ?_
        refine ao_cons (acts_of rfl (does_move (v := .sl 1 (List.map enc51 a0)) (by exact rfl))) (by decide) ?_
        refine ao_cons (acts_of rfl (does_move (v := .int .i64 v8_2) (by exact rfl))) (by decide) ?_
        obtain ⟨g26, h⟩ := gd_some h
        obtain ⟨x27, hx27, h⟩ := bnd_some h
        refine ao_cons (acts_of rfl (does_indexAddr_sl (el := .sl 1 (List.map enc5 x27)) (by conv => lhs; whnf) (by conv => lhs; whnf) ty52 ty51 g26 (by exact map_get hx27))) (by decide) ?_
        refine ao_cons (acts_of rfl (does_load (v := .sl 1 (List.map enc5 x27)) (by conv => lhs; whnf) (by conv => lhs; whnf) ty51 (by exact rfl))) (by decide) ?_
        refine ao_cons (acts_of rfl ((does_len_sl (by conv => lhs; whnf) ty51).castp (v' := .int .i64 (List.length x27 : Int)) (by exact len_map _))) (by decide) ?_
        refine ao_cons (acts_of rfl (does_bin (v := .bool (decide ((200 : Int) < (List.length x27 : Int)))) (by conv => lhs; whnf) (by conv => lhs; whnf) rfl)) (by decide) ?_
        refine ao_nil_n ?_
        refine hK25 _ ?_
        refine aw_bool (b := (decide ((200 : Int) < (List.length x27 : Int)))) 40 rfl (fun c28 => ?_) (fun c28 => ?_)
        · have h := ifT c28 h
          refine aw_cond_t (by decide) rfl ?_
          refine aw_seq_k (fun K29 hK29 => ?_)
          refine aw_reg ?_
          refine ao_cons (acts_of rfl (does_assign (v := .bool true) (by exact rfl))) (by decide) ?_
          refine ao_nil_n ?_
          refine hK29 _ ?_
          refine aw_ret ?_
          have h := leafR h hq19
          have h := leafR h hk16
          obtain rfl := Option.some.inj h
          exact ret_ok1 (by conv => lhs; whnf) (by conv => lhs; whnf) (by exact rfl) (.inr rfl) rfl
        · have h := ifF c28 h
          refine aw_cond_f (by decide) rfl ?_
          refine aw_skip ?_
          refine hK24 _ ?_
          refine aw_seq_k (fun K30 hK30 => ?_)
          refine aw_reg ?_
          refine ao_cons (acts_of rfl (does_move (v := .own 6 0) (by exact rfl))) (by decide) ?_
          refine ao_cons (acts_of rfl (does_move (v := .sl 1 (List.map enc51 a0)) (by exact rfl))) (by decide) ?_
          refine ao_cons (acts_of rfl (does_move (v := .int .i64 v8_2) (by exact rfl))) (by decide) ?_
          obtain ⟨g31, h⟩ := gd_some h
          obtain ⟨x32, hx32, h⟩ := bnd_some h
          refine ao_cons (acts_of rfl (does_indexAddr_sl (el := .sl 1 (List.map enc5 x32)) (by conv => lhs; whnf) (by conv => lhs; whnf) ty52 ty51 g31 (by exact map_get hx32))) (by decide) ?_
          refine ao_cons (acts_of rfl (does_load (v := .sl 1 (List.map enc5 x32)) (by conv => lhs; whnf) (by conv => lhs; whnf) ty51 (by exact rfl))) (by decide) ?_
          obtain ⟨x33, hx33, h⟩ := bnd_some h
          refine ao_cons (acts_of rfl (do_call0 46 false (frame_Bytes_ok x32 hx33) rfl ent34 rfl rfl)) (by decide) ?_
          obtain ⟨g34, h⟩ := gd_some h
          refine ao_cons (acts_of rfl (do_append (v := List.map enc5 (v6_s_2 ++ x33)) (by conv => lhs; whnf) (by conv => lhs; whnf) ty51 ty5 rfl rfl (by conv => lhs; whnf) (by first | exact .inl rfl | exact .inr ⟨rfl, rfl⟩) (by conv => lhs; whnf) (by first | exact .inr rfl | exact .inl rfl) (map_app _ _) (fit_map g34))) (by decide) ?_
          refine ao_cons (acts_of rfl (does_assign (v := .own 47 0) (by exact rfl))) (by decide) ?_
          refine ao_nil_n ?_
          refine hK30 _ ?_
          refine aw_reg ?_
          refine ao_cons (acts_of rfl (does_move (v := .own 7 0) (by exact rfl))) (by decide) ?_
          refine ao_cons (acts_of rfl (does_move (v := .own 47 0) (by exact rfl))) (by decide) ?_
          refine ao_cons (acts_of rfl ((does_len_own (by conv => lhs; whnf) (by conv => lhs; whnf) ty51).cast (v' := .int .i64 (List.length (v6_s_2 ++ x33) : Int)) (by exact len_map _))) (by decide) ?_
          refine ao_cons (acts_of rfl (do_buildSlice (xs := List.map enc2 [(List.length (v6_s_2 ++ x33) : Int)]) ty41 ty3 rfl rfl rfl rfl rfl rfl rfl rfl)) (by decide) ?_
          obtain ⟨g35, h⟩ := gd_some h
          refine ao_cons (acts_of rfl (do_append (v := List.map enc2 (v7_s_2 ++ [(List.length (v6_s_2 ++ x33) : Int)])) (by conv => lhs; whnf) (by conv => lhs; whnf) ty41 ty3 rfl rfl (by conv => lhs; whnf) (by first | exact .inl rfl | exact .inr ⟨rfl, rfl⟩) (by conv => lhs; whnf) (by first | exact .inr rfl | exact .inl rfl) (map_app _ _) (fit_map g35))) (by decide) ?_
          refine ao_cons (acts_of rfl (does_assign (v := .own 52 0) (by exact rfl))) (by decide) ?_
          refine ao_nil_n ?_
          refine hK23 _ ?_
          refine aw_reg ?_
          refine ao_cons (acts_of rfl (does_move (v := .int .i64 v8_2) (by exact rfl))) (by decide) ?_
          refine ao_cons (acts_of rfl (does_bin (v := .int .i64 (IntKind.i64.wrap (v8_2 + 1))) (by conv => lhs; whnf) (by conv => lhs; whnf) rfl)) (by decide) ?_
          refine ao_cons (acts_of rfl (does_assign (v := .int .i64 (IntKind.i64.wrap (v8_2 + 1))) (by exact rfl))) (by decide) ?_
          refine ao_nil_n ?_
          have h := leafL h hq19
          exact ⟨m2, Nat.lt_succ_self _, _, reb_lit [(0, .sl 1 (List.map enc51 a0)), (1, .int .i64 a1), (6, .own 6 0), (7, .own 7 0), (8, .int .i64 (IntKind.i64.wrap (v8_2 + 1)))] [(47, 0), (52, 0)] [((6, 0), .arr 5 1 false (List.map enc5 (v6_s_2 ++ x33))), ((7, 0), .arr 3 1 false (List.map enc2 (v7_s_2 ++ [(List.length (v6_s_2 ++ x33) : Int)])))] [(6, 1), (7, 1)] (envOk_cons (by conv => lhs; whnf) (by exact rfl) (envOk_cons (by conv => lhs; whnf) (by exact rfl) (envOk_cons (by conv => lhs; whnf) (by exact rfl) (envOk_cons (by conv => lhs; whnf) (by exact rfl) (envOk_cons (by conv => lhs; whnf) (by exact rfl) envOk_nil))))) (objOk_cons (by conv => lhs; whnf) (by conv => lhs; whnf) (by exact rfl) (by simp) (objOk_cons (by conv => lhs; whnf) (by conv => lhs; whnf) (by exact rfl) (by simp) objOk_nil)) (nodup_b rfl) (nodup_b rfl) rfl rfl, (v6_s_2 ++ x33), (v7_s_2 ++ [(List.length (v6_s_2 ++ x33) : Int)]), (IntKind.i64.wrap (v8_2 + 1)), h, rfl⟩
      · have h := ifF c22 h
        refine aw_cond_f (by decide) rfl ?_
        refine aw_exit ?_
        have h := leafR h hq19
        have h := leafL h hk16
        exact ⟨_, reb_lit [(0, .sl 1 (List.map enc51 a0)), (1, .int .i64 a1), (6, .own 6 0), (7, .own 7 0)] [(6, 0), (7, 0)] [((6, 0), .arr 5 1 false (List.map enc5 v6_s_2)), ((7, 0), .arr 3 1 false (List.map enc2 v7_s_2))] [(6, 1), (7, 1)] (envOk_cons (by conv => lhs; whnf) (by exact rfl) (envOk_cons (by conv => lhs; whnf) (by exact rfl) (envOk_cons (by conv => lhs; whnf) (by exact rfl) (envOk_cons (by conv => lhs; whnf) (by exact rfl) envOk_nil)))) (objOk_cons (by conv => lhs; whnf) (by conv => lhs; whnf) (by exact rfl) (by simp) (objOk_cons (by conv => lhs; whnf) (by conv => lhs; whnf) (by exact rfl) (by simp) objOk_nil)) (nodup_b rfl) (nodup_b rfl) rfl rfl, v6_s_2, v7_s_2, h, rfl⟩
    · rintro s ⟨v6_s_1, v7_s_1, h, rfl⟩
      unfold gleaninglaw5_FrameTorn_k1 at h
      refine aw_seq_k (fun K36 hK36 => ?_)
      refine aw_reg ?_
      refine ao_cons (acts_of rfl (does_move (v := .own 6 0) (by exact rfl))) (by decide) ?_
      obtain ⟨x37, hx37, h⟩ := bnd_some h
      refine ao_cons (acts_of rfl (does_frz (d := 6) (n := 0) (by conv => lhs; whnf) (do_callG (bcs := []) [] [] [(6, 0)] 55 false (frame_Split_ok v6_s_1 hx37) rfl ent32 trivial trivial rfl rfl rfl rfl rfl rfl rfl rfl (.inl ⟨⟨_, _, _, rfl⟩, trivial⟩)))) (by decide) ?_
      refine ao_cons (acts_of rfl (does_move (v := .tup [.own 55 0, .int .i64 x37.2]) (by exact rfl))) (by decide) ?_
      refine ao_cons (acts_of rfl (does_extract (v := .own 55 0) (by conv => lhs; whnf) (by exact rfl))) (by decide) ?_
      refine ao_cons (acts_of rfl (does_extract (v := .int .i64 x37.2) (by conv => lhs; whnf) (by exact rfl))) (by decide) ?_
      refine ao_cons (acts_of rfl (does_assign (v := .own 55 0) (by exact rfl))) (by decide) ?_
      refine ao_cons (acts_of rfl (does_assign (v := .int .i64 x37.2) (by exact rfl))) (by decide) ?_
      refine ao_nil_n ?_
      refine hK36 _ ?_
      obtain ⟨q38, h, hk39⟩ := bnd_some h
      refine aw_cut (fun s => gleaninglaw5_FrameTorn_k3 a0 a1 v6_s_1 v7_s_1 = some r ∧ s = lit [(0, .sl 1 (List.map enc51 a0)), (1, .int .i64 a1), (6, .own 6 0), (7, .own 7 0)] [((6, 0), .arr 5 1 true (List.map enc5 v6_s_1)), ((7, 0), .arr 3 1 false (List.map enc2 v7_s_1))] [(6, 1), (7, 1)] X) ?_ ?_
      · skip
        refine aw_seq_k (fun K40 hK40 => ?_)
        refine aw_reg ?_
        refine ao_cons (acts_of rfl (does_move (v := .own 55 0) (by exact rfl))) (by decide) ?_
        refine ao_cons (acts_of rfl (does_move (v := .sl 1 (List.map enc51 a0)) (by exact rfl))) (by decide) ?_
        obtain ⟨x41, hx41, h⟩ := bnd_some h
        refine ao_cons (acts_of rfl (do_callG (bcs := []) [] [] [(55, 0)] 60 false (gleaninglaw5_same_ok x37.1 a0 hx41) rfl ent36 trivial trivial rfl rfl rfl rfl rfl rfl rfl rfl (.inr ⟨rfl, rfl, trivial⟩))) (by decide) ?_
        refine ao_cons (acts_of rfl (does_un (v := .bool (!x41)) (by conv => lhs; whnf) rfl)) (by decide) ?_
        refine ao_cons (acts_of rfl (does_move (v := .bool (!x41)) (by exact rfl))) (by decide) ?_
        refine ao_bool (c := (!x41)) 62 rfl (fun c42 => ?_) (fun c42 => ?_)
        · have h := ifT c42 h
          refine ao_cons (acts_skip rfl) (by decide) ?_
          refine ao_cons (acts_skip rfl) (by decide) ?_
          refine ao_cons (acts_skip rfl) (by decide) ?_
          refine ao_cons (acts_skip rfl) (by decide) ?_
          refine ao_cons (acts_of rfl (does_pick (v := .bool true) (by conv => lhs; whnf) (by exact rfl))) (by decide) ?_
          refine ao_nil_n ?_
          refine hK40 _ ?_
          refine aw_cond_t (by decide) rfl ?_
          refine aw_seq_k (fun K43 hK43 => ?_)
          refine aw_reg ?_
          refine ao_cons (acts_of rfl (does_assign (v := .bool false) (by exact rfl))) (by decide) ?_
          refine ao_nil_n ?_
          refine hK43 _ ?_
          refine aw_ret ?_
          have h := leafR h hk39
          obtain rfl := Option.some.inj h
          exact ret_ok1 (by conv => lhs; whnf) (by conv => lhs; whnf) (by exact rfl) (.inr rfl) rfl
        · have h := ifF c42 h
          refine ao_cons (acts_of rfl (does_move (v := .int .i64 x37.2) (by exact rfl))) (by decide) ?_
          refine ao_cons (acts_of rfl (does_move (v := .own 6 0) (by exact rfl))) (by decide) ?_
          refine ao_cons (acts_of rfl ((does_len_own (by conv => lhs; whnf) (by conv => lhs; whnf) ty51).cast (v' := .int .i64 (List.length v6_s_1 : Int)) (by exact len_map _))) (by decide) ?_
          refine ao_cons (acts_of rfl (does_bin (v := .bool (x37.2 != (List.length v6_s_1 : Int))) (by conv => lhs; whnf) (by conv => lhs; whnf) rfl)) (by decide) ?_
          refine ao_cons (acts_of rfl (does_pick (v := .bool (x37.2 != (List.length v6_s_1 : Int))) (by conv => lhs; whnf) (by exact rfl))) (by decide) ?_
          refine ao_nil_n ?_
          refine hK40 _ ?_
          refine aw_bool (b := (x37.2 != (List.length v6_s_1 : Int))) 67 rfl (fun c44 => ?_) (fun c44 => ?_)
          · have h := ifT c44 h
            refine aw_cond_t (by decide) rfl ?_
            refine aw_seq_k (fun K45 hK45 => ?_)
            refine aw_reg ?_
            refine ao_cons (acts_of rfl (does_assign (v := .bool false) (by exact rfl))) (by decide) ?_
            refine ao_nil_n ?_
            refine hK45 _ ?_
            refine aw_ret ?_
            have h := leafR h hk39
            obtain rfl := Option.some.inj h
            exact ret_ok1 (by conv => lhs; whnf) (by conv => lhs; whnf) (by exact rfl) (.inr rfl) rfl
          · have h := ifF c44 h
            refine aw_cond_f (by decide) rfl ?_
            refine aw_skip ?_
            have h := leafL h hk39
            exact ⟨_, reb_lit [(0, .sl 1 (List.map enc51 a0)), (1, .int .i64 a1), (6, .own 6 0), (7, .own 7 0)] [(6, 0), (7, 0)] [((6, 0), .arr 5 1 true (List.map enc5 v6_s_1)), ((7, 0), .arr 3 1 false (List.map enc2 v7_s_1))] [(6, 1), (7, 1)] (envOk_cons (by conv => lhs; whnf) (by exact rfl) (envOk_cons (by conv => lhs; whnf) (by exact rfl) (envOk_cons (by conv => lhs; whnf) (by exact rfl) (envOk_cons (by conv => lhs; whnf) (by exact rfl) envOk_nil)))) (objOk_cons (by conv => lhs; whnf) (by conv => lhs; whnf) (by exact rfl) (by simp) (objOk_cons (by conv => lhs; whnf) (by conv => lhs; whnf) (by exact rfl) (by simp) objOk_nil)) (nodup_b rfl) (nodup_b rfl) rfl rfl, h, rfl⟩
      · rintro s ⟨h, rfl⟩
        unfold gleaninglaw5_FrameTorn_k3 at h
        refine aw_seq_k (fun K46 hK46 => ?_)
        refine aw_reg ?_
        refine ao_cons (acts_of rfl (does_move (v := .int .i64 a1) (by exact rfl))) (by decide) ?_
        refine ao_cons (acts_of rfl (does_move (v := .own 6 0) (by exact rfl))) (by decide) ?_
        refine ao_cons (acts_of rfl ((does_len_own (by conv => lhs; whnf) (by conv => lhs; whnf) ty51).cast (v' := .int .i64 (List.length v6_s_1 : Int)) (by exact len_map _))) (by decide) ?_
        refine ao_cons (acts_of rfl (does_bin (v := .int .i64 (IntKind.i64.wrap ((List.length v6_s_1 : Int) + 1))) (by conv => lhs; whnf) (by conv => lhs; whnf) rfl)) (by decide) ?_
        obtain ⟨g47, h⟩ := gd_some h
        refine ao_cons (acts_of rfl (does_bin (v := .int .i64 (Int.tmod a1 (IntKind.i64.wrap ((List.length v6_s_1 : Int) + 1)))) (by conv => lhs; whnf) (by conv => lhs; whnf) (rem_hv g47))) (by decide) ?_
        refine ao_cons (acts_of rfl (does_assign (v := .int .i64 (Int.tmod a1 (IntKind.i64.wrap ((List.length v6_s_1 : Int) + 1)))) (by exact rfl))) (by decide) ?_
        refine ao_nil_n ?_
        refine hK46 _ ?_
        refine aw_seq_k (fun K48 hK48 => ?_)
        refine aw_reg ?_
        refine ao_cons (acts_of rfl (does_assign (v := .int .i64 0) (by exact rfl))) (by decide) ?_
        refine ao_nil_n ?_
        refine hK48 _ ?_
        refine aw_seq_k (fun K49 hK49 => ?_)
        refine aw_reg ?_
        refine ao_cons (acts_of rfl (does_assign (v := .int .i64 0) (by exact rfl))) (by decide) ?_
        refine ao_nil_n ?_
        refine hK49 _ ?_
        obtain ⟨q50, h, hk51⟩ := bnd_some h
        refine aw_cut (fun s => ∃ (v12_4 : Int), ∃ (v13_4 : Int), gleaninglaw5_FrameTorn_k4 a0 a1 v6_s_1 v12_4 v13_4 = some r ∧ s = lit [(0, .sl 1 (List.map enc51 a0)), (6, .own 6 0), (11, .int .i64 (Int.tmod a1 (IntKind.i64.wrap ((List.length v6_s_1 : Int) + 1)))), (12, .int .i64 v12_4), (13, .int .i64 v13_4)] [((6, 0), .arr 5 1 true (List.map enc5 v6_s_1))] [(6, 1)] X) ?_ ?_
        · skip
          refine aw_block ?_
          refine aw_loop' (fun m s => ∃ (v12_5 : Int), ∃ (v13_5 : Int), loopN (fun (s : Int × Int) => gleaninglaw5_FrameTorn_l5 a0 a1 v6_s_1 v7_s_1 s.1 s.2) m (v12_5, v13_5) = some q50 ∧ s = lit [(0, .sl 1 (List.map enc51 a0)), (6, .own 6 0), (7, .own 7 0), (11, .int .i64 (Int.tmod a1 (IntKind.i64.wrap ((List.length v6_s_1 : Int) + 1)))), (12, .int .i64 v12_5), (13, .int .i64 v13_5)] [((6, 0), .arr 5 1 true (List.map enc5 v6_s_1)), ((7, 0), .arr 3 1 false (List.map enc2 v7_s_1))] [(6, 1), (7, 1)] X) Fu
            ⟨_, reb_lit [(0, .sl 1 (List.map enc51 a0)), (6, .own 6 0), (7, .own 7 0), (11, .int .i64 (Int.tmod a1 (IntKind.i64.wrap ((List.length v6_s_1 : Int) + 1)))), (12, .int .i64 (0)), (13, .int .i64 (0))] [(6, 0), (7, 0)] [((6, 0), .arr 5 1 true (List.map enc5 v6_s_1)), ((7, 0), .arr 3 1 false (List.map enc2 v7_s_1))] [(6, 1), (7, 1)] (envOk_cons (by conv => lhs; whnf) (by exact rfl) (envOk_cons (by conv => lhs; whnf) (by exact rfl) (envOk_cons (by conv => lhs; whnf) (by exact rfl) (envOk_cons (by conv => lhs; whnf) (by exact rfl) (envOk_cons (by conv => lhs; whnf) (by exact rfl) (envOk_cons (by conv => lhs; whnf) (by exact rfl) envOk_nil)))))) (objOk_cons (by conv => lhs; whnf) (by conv => lhs; whnf) (by exact rfl) (by simp) (objOk_cons (by conv => lhs; whnf) (by conv => lhs; whnf) (by exact rfl) (by simp) objOk_nil)) (nodup_b rfl) (nodup_b rfl) rfl rfl, 0, 0, h, rfl⟩ ?_
          rintro m s ⟨v12_5, v13_5, h, rfl⟩
          obtain ⟨m5, q52, rfl, h, hq53⟩ := loop_some h
          replace h : gleaninglaw5_FrameTorn_l5 a0 a1 v6_s_1 v7_s_1 v12_5 v13_5 = some q52 := h
          unfold gleaninglaw5_FrameTorn_l5 at h
          obtain ⟨q54, h, hk55⟩ := bnd_some h
          refine aw_cut (fun s => gleaninglaw5_FrameTorn_k6 v7_s_1 v12_5 = some q52 ∧ s = lit [(0, .sl 1 (List.map enc51 a0)), (6, .own 6 0), (7, .own 7 0), (11, .int .i64 (Int.tmod a1 (IntKind.i64.wrap ((List.length v6_s_1 : Int) + 1)))), (12, .int .i64 v12_5)] [((6, 0), .arr 5 1 true (List.map enc5 v6_s_1)), ((7, 0), .arr 3 1 false (List.map enc2 v7_s_1))] [(6, 1), (7, 1)] X) ?_ ?_
          · skip
            refine aw_seq_k (fun K56 hK56 => ?_)
            refine aw_reg ?_
            refine ao_cons (acts_of rfl (does_move (v := .int .i64 v12_5) (by exact rfl))) (by decide) ?_
            refine ao_cons (acts_of rfl (does_move (v := .sl 1 (List.map enc51 a0)) (by exact rfl))) (by decide) ?_
            refine ao_cons (acts_of rfl ((does_len_sl (by conv => lhs; whnf) ty52).castp (v' := .int .i64 (List.length a0 : Int)) (by exact len_map _))) (by decide) ?_
            refine ao_cons (acts_of rfl (does_bin (v := .bool (decide (v12_5 < (List.length a0 : Int)))) (by conv => lhs; whnf) (by conv => lhs; whnf) rfl)) (by decide) ?_
            refine ao_cons (acts_of rfl (does_move (v := .bool (decide (v12_5 < (List.length a0 : Int)))) (by exact rfl))) (by decide) ?_
            refine ao_bool (c := (decide (v12_5 < (List.length a0 : Int)))) 77 rfl (fun c57 => ?_) (fun c57 => ?_)
            · have h := ifT c57 h
              refine ao_cons (acts_of rfl (does_move (v := .own 7 0) (by exact rfl))) (by decide) ?_
              refine ao_cons (acts_of rfl (does_move (v := .int .i64 v12_5) (by exact rfl))) (by decide) ?_
              obtain ⟨g58, h⟩ := gd_some h
              obtain ⟨x59, hx59, h⟩ := bnd_some h
              refine ao_cons (acts_of rfl (does_indexAddr_own (by conv => lhs; whnf) (by conv => lhs; whnf) (by conv => lhs; whnf) ty41 ty3 g58 (by exact own_lt hx59))) (by decide) ?_
              refine ao_cons (acts_of rfl (does_load (v := .int .i64 x59) (by conv => lhs; whnf) (cellsAt_eptr (by conv => lhs; whnf) (by exact map_get hx59)) ty3 (by exact rfl))) (by decide) ?_
              refine ao_cons (acts_of rfl (does_move (v := .int .i64 (Int.tmod a1 (IntKind.i64.wrap ((List.length v6_s_1 : Int) + 1)))) (by exact rfl))) (by decide) ?_
              refine ao_cons (acts_of rfl (does_bin (v := .bool (decide (x59 ≤ (Int.tmod a1 (IntKind.i64.wrap ((List.length v6_s_1 : Int) + 1)))))) (by conv => lhs; whnf) (by conv => lhs; whnf) rfl)) (by decide) ?_
              refine ao_cons (acts_of rfl (does_pick (v := .bool (decide (x59 ≤ (Int.tmod a1 (IntKind.i64.wrap ((List.length v6_s_1 : Int) + 1)))))) (by conv => lhs; whnf) (by exact rfl))) (by decide) ?_
              refine ao_nil_n ?_
              refine hK56 _ ?_
              refine aw_bool (b := (decide (x59 ≤ (Int.tmod a1 (IntKind.i64.wrap ((List.length v6_s_1 : Int) + 1)))))) 84 rfl (fun c60 => ?_) (fun c60 => ?_)
              · have h := ifT c60 h
                refine aw_cond_t (by decide) rfl ?_
                refine aw_skip ?_
                have h := leafL h hk55
                exact ⟨_, reb_lit [(0, .sl 1 (List.map enc51 a0)), (6, .own 6 0), (7, .own 7 0), (11, .int .i64 (Int.tmod a1 (IntKind.i64.wrap ((List.length v6_s_1 : Int) + 1)))), (12, .int .i64 v12_5)] [(6, 0), (7, 0)] [((6, 0), .arr 5 1 true (List.map enc5 v6_s_1)), ((7, 0), .arr 3 1 false (List.map enc2 v7_s_1))] [(6, 1), (7, 1)] (envOk_cons (by conv => lhs; whnf) (by exact rfl) (envOk_cons (by conv => lhs; whnf) (by exact rfl) (envOk_cons (by conv => lhs; whnf) (by exact rfl) (envOk_cons (by conv => lhs; whnf) (by exact rfl) (envOk_cons (by conv => lhs; whnf) (by exact rfl) envOk_nil))))) (objOk_cons (by conv => lhs; whnf) (by conv => lhs; whnf) (by exact rfl) (by simp) (objOk_cons (by conv => lhs; whnf) (by conv => lhs; whnf) (by exact rfl) (by simp) objOk_nil)) (nodup_b rfl) (nodup_b rfl) rfl rfl, h, rfl⟩
              · have h := ifF c60 h
                refine aw_cond_f (by decide) rfl ?_
                refine aw_exit ?_
                have h := leafR h hk55
                have h := leafR h hq53
                obtain rfl := Option.some.inj h
                have h := hk51
                exact ⟨_, reb_lit [(0, .sl 1 (List.map enc51 a0)), (6, .own 6 0), (11, .int .i64 (Int.tmod a1 (IntKind.i64.wrap ((List.length v6_s_1 : Int) + 1)))), (12, .int .i64 v12_5), (13, .int .i64 v13_5)] [(6, 0)] [((6, 0), .arr 5 1 true (List.map enc5 v6_s_1))] [(6, 1)] (envOk_cons (by conv => lhs; whnf) (by exact rfl) (envOk_cons (by conv => lhs; whnf) (by exact rfl) (envOk_cons (by conv => lhs; whnf) (by exact rfl) (envOk_cons (by conv => lhs; whnf) (by exact rfl) (envOk_cons (by conv => lhs; whnf) (by exact rfl) envOk_nil))))) (objOk_cons (by conv => lhs; whnf) (by conv => lhs; whnf) (by exact rfl) (by simp) objOk_nil) (nodup_b rfl) (nodup_b rfl) rfl rfl, v12_5, v13_5, h, rfl⟩
            · have h := ifF c57 h
              refine ao_cons (acts_skip rfl) (by decide) ?_
              refine ao_cons (acts_skip rfl) (by decide) ?_
              refine ao_cons (acts_skip rfl) (by decide) ?_
              refine ao_cons (acts_skip rfl) (by decide) ?_
              refine ao_cons (acts_skip rfl) (by decide) ?_
              refine ao_cons (acts_skip rfl) (by decide) ?_
              refine ao_cons (acts_of rfl (does_pick (v := .bool false) (by conv => lhs; whnf) (by exact rfl))) (by decide) ?_
              refine ao_nil_n ?_
              refine hK56 _ ?_
              refine aw_cond_f (by decide) rfl ?_
              refine aw_exit ?_
              have h := leafR h hk55
              have h := leafR h hq53
              obtain rfl := Option.some.inj h
              have h := hk51
              exact ⟨_, reb_lit [(0, .sl 1 (List.map enc51 a0)), (6, .own 6 0), (11, .int .i64 (Int.tmod a1 (IntKind.i64.wrap ((List.length v6_s_1 : Int) + 1)))), (12, .int .i64 v12_5), (13, .int .i64 v13_5)] [(6, 0)] [((6, 0), .arr 5 1 true (List.map enc5 v6_s_1))] [(6, 1)] (envOk_cons (by conv => lhs; whnf) (by exact rfl) (envOk_cons (by conv => lhs; whnf) (by exact rfl) (envOk_cons (by conv => lhs; whnf) (by exact rfl) (envOk_cons (by conv => lhs; whnf) (by exact rfl) (envOk_cons (by conv => lhs; whnf) (by exact rfl) envOk_nil))))) (objOk_cons (by conv => lhs; whnf) (by conv => lhs; whnf) (by exact rfl) (by simp) objOk_nil) (nodup_b rfl) (nodup_b rfl) rfl rfl, v12_5, v13_5, h, rfl⟩
          · rintro s ⟨h, rfl⟩
            unfold gleaninglaw5_FrameTorn_k6 at h
            refine aw_block ?_
            refine aw_seq_k (fun K61 hK61 => ?_)
            refine aw_reg ?_
            refine ao_cons (acts_of rfl (does_move (v := .own 7 0) (by exact rfl))) (by decide) ?_
            refine ao_cons (acts_of rfl (does_move (v := .int .i64 v12_5) (by exact rfl))) (by decide) ?_
            obtain ⟨g62, h⟩ := gd_some h
            obtain ⟨x63, hx63, h⟩ := bnd_some h
            refine ao_cons (acts_of rfl (does_indexAddr_own (by conv => lhs; whnf) (by conv => lhs; whnf) (by conv => lhs; whnf) ty41 ty3 g62 (by exact own_lt hx63))) (by decide) ?_
            refine ao_cons (acts_of rfl (does_load (v := .int .i64 x63) (by conv => lhs; whnf) (cellsAt_eptr (by conv => lhs; whnf) (by exact map_get hx63)) ty3 (by exact rfl))) (by decide) ?_
            refine ao_cons (acts_of rfl (does_assign (v := .int .i64 x63) (by exact rfl))) (by decide) ?_
            refine ao_nil_n ?_
            refine hK61 _ ?_
            refine aw_reg ?_
            refine ao_cons (acts_of rfl (does_move (v := .int .i64 v12_5) (by exact rfl))) (by decide) ?_
            refine ao_cons (acts_of rfl (does_bin (v := .int .i64 (IntKind.i64.wrap (v12_5 + 1))) (by conv => lhs; whnf) (by conv => lhs; whnf) rfl)) (by decide) ?_
            refine ao_cons (acts_of rfl (does_assign (v := .int .i64 (IntKind.i64.wrap (v12_5 + 1))) (by exact rfl))) (by decide) ?_
            refine ao_nil_n ?_
            have h := leafL h hq53
            exact ⟨m5, Nat.lt_succ_self _, _, reb_lit [(0, .sl 1 (List.map enc51 a0)), (6, .own 6 0), (7, .own 7 0), (11, .int .i64 (Int.tmod a1 (IntKind.i64.wrap ((List.length v6_s_1 : Int) + 1)))), (12, .int .i64 (IntKind.i64.wrap (v12_5 + 1))), (13, .int .i64 x63)] [(6, 0), (7, 0)] [((6, 0), .arr 5 1 true (List.map enc5 v6_s_1)), ((7, 0), .arr 3 1 false (List.map enc2 v7_s_1))] [(6, 1), (7, 1)] (envOk_cons (by conv => lhs; whnf) (by exact rfl) (envOk_cons (by conv => lhs; whnf) (by exact rfl) (envOk_cons (by conv => lhs; whnf) (by exact rfl) (envOk_cons (by conv => lhs; whnf) (by exact rfl) (envOk_cons (by conv => lhs; whnf) (by exact rfl) (envOk_cons (by conv => lhs; whnf) (by exact rfl) envOk_nil)))))) (objOk_cons (by conv => lhs; whnf) (by conv => lhs; whnf) (by exact rfl) (by simp) (objOk_cons (by conv => lhs; whnf) (by conv => lhs; whnf) (by exact rfl) (by simp) objOk_nil)) (nodup_b rfl) (nodup_b rfl) rfl rfl, (IntKind.i64.wrap (v12_5 + 1)), x63, h, rfl⟩
        · rintro s ⟨v12_4, v13_4, h, rfl⟩
          unfold gleaninglaw5_FrameTorn_k4 at h
          refine aw_seq_k (fun K64 hK64 => ?_)
          refine aw_reg ?_
          refine ao_cons (acts_of rfl (does_move (v := .own 6 0) (by exact rfl))) (by decide) ?_
          refine ao_cons (acts_of rfl (does_move (v := .int .i64 (Int.tmod a1 (IntKind.i64.wrap ((List.length v6_s_1 : Int) + 1)))) (by exact rfl))) (by decide) ?_
          obtain ⟨g65, h⟩ := gd_some h
          obtain ⟨g66, h⟩ := gd_some h
          refine ao_cons (acts_of rfl (does_slice_own (l := 0) (k := (Int.toNat (Int.tmod a1 (IntKind.i64.wrap ((List.length v6_s_1 : Int) + 1))))) (by conv => lhs; whnf) (by conv => lhs; whnf) ty51 ty5 bd_none (bd_some (by conv => lhs; whnf) (by exact (nat_of (by omega)))) (by (try simp only [List.length_map]); omega) (by (try simp only [List.length_map]); omega) (by exact part_h _ _))) (by decide) ?_
          obtain ⟨x67, hx67, h⟩ := bnd_some h
          refine ao_cons (acts_of rfl (do_call0 95 false (frame_Split_ok (List.take (Int.toNat (Int.tmod a1 (IntKind.i64.wrap ((List.length v6_s_1 : Int) + 1)))) v6_s_1) hx67) rfl ent32 rfl rfl)) (by decide) ?_
          refine ao_cons (acts_of rfl (does_move (v := .tup [.own 95 0, .int .i64 x67.2]) (by exact rfl))) (by decide) ?_
          refine ao_cons (acts_of rfl (does_extract (v := .own 95 0) (by conv => lhs; whnf) (by exact rfl))) (by decide) ?_
          refine ao_cons (acts_of rfl (does_extract (v := .int .i64 x67.2) (by conv => lhs; whnf) (by exact rfl))) (by decide) ?_
          refine ao_cons (acts_of rfl (does_assign (v := .own 95 0) (by exact rfl))) (by decide) ?_
          refine ao_cons (acts_of rfl (does_assign (v := .int .i64 x67.2) (by exact rfl))) (by decide) ?_
          refine ao_nil_n ?_
          refine hK64 _ ?_
          refine aw_seq_k (fun K68 hK68 => ?_)
          refine aw_reg ?_
          refine ao_cons (acts_of rfl (does_move (v := .own 95 0) (by exact rfl))) (by decide) ?_
          refine ao_cons (acts_of rfl (does_move (v := .sl 1 (List.map enc51 a0)) (by exact rfl))) (by decide) ?_
          refine ao_cons (acts_of rfl (does_move (v := .int .i64 v12_4) (by exact rfl))) (by decide) ?_
          obtain ⟨g69, h⟩ := gd_some h
          obtain ⟨g70, h⟩ := gd_some h
          refine ao_cons (acts_of rfl (does_slice_sl (l := 0) (k := (Int.toNat v12_4)) (by conv => lhs; whnf) ty52 ty51 bd_none (bd_some (by conv => lhs; whnf) (by exact (nat_of (by omega)))) (by (try simp only [List.length_map]); omega) (by (try simp only [List.length_map]); omega) (by exact part_h _ _))) (by decide) ?_
          obtain ⟨x71, hx71, h⟩ := bnd_some h
          refine ao_cons (acts_of rfl (do_callG (bcs := []) [] [] [(95, 0)] 102 false (gleaninglaw5_same_ok x67.1 (List.take (Int.toNat v12_4) a0) hx71) rfl ent36 trivial trivial rfl rfl rfl rfl rfl rfl rfl rfl (.inr ⟨rfl, rfl, trivial⟩))) (by decide) ?_
          refine ao_cons (acts_of rfl (does_move (v := .bool x71) (by exact rfl))) (by decide) ?_
          refine ao_bool (c := x71) 103 rfl (fun c72 => ?_) (fun c72 => ?_)
          · have h := ifT c72 h
            refine ao_cons (acts_of rfl (does_move (v := .int .i64 x67.2) (by exact rfl))) (by decide) ?_
            refine ao_cons (acts_of rfl (does_move (v := .int .i64 v13_4) (by exact rfl))) (by decide) ?_
            refine ao_cons (acts_of rfl (does_bin (v := .bool (x67.2 == v13_4)) (by conv => lhs; whnf) (by conv => lhs; whnf) rfl)) (by decide) ?_
            refine ao_cons (acts_of rfl (does_pick (v := .bool (x67.2 == v13_4)) (by conv => lhs; whnf) (by exact rfl))) (by decide) ?_
            refine ao_cons (acts_of rfl (does_assign (v := .bool (x67.2 == v13_4)) (by exact rfl))) (by decide) ?_
            refine ao_nil_n ?_
            refine hK68 _ ?_
            refine aw_ret ?_
            obtain rfl := Option.some.inj h
            exact ret_ok1 (by conv => lhs; whnf) (by conv => lhs; whnf) (by exact rfl) (.inr rfl) rfl
          · have h := ifF c72 h
            refine ao_cons (acts_skip rfl) (by decide) ?_
            refine ao_cons (acts_skip rfl) (by decide) ?_
            refine ao_cons (acts_skip rfl) (by decide) ?_
            refine ao_cons (acts_of rfl (does_pick (v := .bool false) (by conv => lhs; whnf) (by exact rfl))) (by decide) ?_
            refine ao_cons (acts_of rfl (does_assign (v := .bool false) (by exact rfl))) (by decide) ?_
            refine ao_nil_n ?_
            refine hK68 _ ?_
            refine aw_ret ?_
            obtain rfl := Option.some.inj h
            exact ret_ok1 (by conv => lhs; whnf) (by conv => lhs; whnf) (by exact rfl) (.inr rfl) rfl
theorem sh52 : ∀ (m : Nat) (cs : List PV), Shape Try.prog m 52 cs → ∃ a : List (List UInt8), cs = [.sl 1 (List.map enc51 a)] ∧ ((List.length a) ≤ maxLen ∧ ∀ y ∈ a, (List.length y) ≤ maxLen) := fun m cs h => by
  obtain ⟨l, h1, h2, h3⟩ := shape_rows (f := enc51) (Q := fun y => (List.length y) ≤ maxLen) h Try.underlying52 (fun m ps hs => by
    obtain ⟨a, rfl, hw⟩ := sh51 m ps hs
    exact ⟨a, by rw [show aggT Try.prog 51 = false by kernel_rfl]; rfl, hw⟩)
  exact ⟨l, h1.trans (by rw [show Try.prog.cellsOf 51 = 1 by kernel_rfl]), h2, h3⟩
theorem sh3 : ∀ (m : Nat) (cs : List PV), Shape Try.prog m 3 cs → ∃ a : Int, cs = [.int .i64 a] ∧ (inI .i64 a) := fun m cs h => shape_i h Try.underlying3
def gleaninglaw5_FrameJoin_l2 (a0 : List (List UInt8)) (v8_s_2 : List UInt8) (v10_2 : Int) : Option ((List UInt8 × Int) ⊕ ((List UInt8) ⊕ Bool)) :=
  if (decide (v10_2 < (List.length a0 : Int))) = true then (gd (0 ≤ v10_2) (Option.bind (a0[(Int.toNat v10_2)]?) (fun (x26 : List UInt8) => if (decide ((200 : Int) < (List.length x26 : Int))) = true then (some (Sum.inr (Sum.inr true))) else (gd (0 ≤ v10_2) (Option.bind (a0[(Int.toNat v10_2)]?) (fun (x30 : List UInt8) => Option.bind (frame_Bytes x30) (fun (x31 : List UInt8) => gd ((List.length (v8_s_2 ++ x31)) * 1 ≤ 140737488355328 ∧ (List.length (v8_s_2 ++ x31)) ≤ 140737488355328) (some (Sum.inl ((v8_s_2 ++ x31), (IntKind.i64.wrap (v10_2 + 1)))))))))))) else (some (Sum.inr (Sum.inl v8_s_2)))
def gleaninglaw5_FrameJoin_l4 (a1 : List (List UInt8)) (v9_s_4 : List UInt8) (v11_4 : Int) : Option ((List UInt8 × Int) ⊕ ((List UInt8) ⊕ Bool)) :=
  if (decide (v11_4 < (List.length a1 : Int))) = true then (gd (0 ≤ v11_4) (Option.bind (a1[(Int.toNat v11_4)]?) (fun (x45 : List UInt8) => if (decide ((200 : Int) < (List.length x45 : Int))) = true then (some (Sum.inr (Sum.inr true))) else (gd (0 ≤ v11_4) (Option.bind (a1[(Int.toNat v11_4)]?) (fun (x49 : List UInt8) => Option.bind (frame_Bytes x49) (fun (x50 : List UInt8) => gd ((List.length (v9_s_4 ++ x50)) * 1 ≤ 140737488355328 ∧ (List.length (v9_s_4 ++ x50)) ≤ 140737488355328) (some (Sum.inl ((v9_s_4 ++ x50), (IntKind.i64.wrap (v11_4 + 1)))))))))))) else (some (Sum.inr (Sum.inl v9_s_4)))
def gleaninglaw5_FrameJoin_k3 (a0 : List (List UInt8)) (a1 : List (List UInt8)) (a2 : Int) (v8_s_1 : List UInt8) (v9_s_3 : List UInt8) : Option Bool :=
  gd ((List.length v8_s_1) * 1 ≤ 140737488355328 ∧ (List.length v8_s_1) ≤ 140737488355328) (gd ((List.length (v8_s_1 ++ v9_s_3)) * 1 ≤ 140737488355328 ∧ (List.length (v8_s_1 ++ v9_s_3)) ≤ 140737488355328) (Option.bind (frame_Split (v8_s_1 ++ v9_s_3)) (fun (x55 : List (List UInt8) × Int) => gd ((List.length v8_s_1) * 1 ≤ 140737488355328 ∧ (List.length v8_s_1) ≤ 140737488355328) (gd ((List.length (v8_s_1 ++ [(u8 (bits .or .u8 a2 128)), (0 : UInt8)])) * 1 ≤ 140737488355328 ∧ (List.length (v8_s_1 ++ [(u8 (bits .or .u8 a2 128)), (0 : UInt8)])) ≤ 140737488355328) (gd ((List.length ((v8_s_1 ++ [(u8 (bits .or .u8 a2 128)), (0 : UInt8)]) ++ v9_s_3)) * 1 ≤ 140737488355328 ∧ (List.length ((v8_s_1 ++ [(u8 (bits .or .u8 a2 128)), (0 : UInt8)]) ++ v9_s_3)) ≤ 140737488355328) (Option.bind (frame_Split ((v8_s_1 ++ [(u8 (bits .or .u8 a2 128)), (0 : UInt8)]) ++ v9_s_3)) (fun (x60 : List (List UInt8) × Int) => gd ((List.length a0) * 24 ≤ 140737488355328 ∧ (List.length a0) ≤ 140737488355328) (gd ((List.length (a0 ++ a1)) * 24 ≤ 140737488355328 ∧ (List.length (a0 ++ a1)) ≤ 140737488355328) (Option.bind (gleaninglaw5_same x55.1 (a0 ++ a1)) (fun (x64 : Bool) => if x64 = true then (if (x55.2 == (IntKind.i64.wrap ((List.length v8_s_1 : Int) + (List.length v9_s_3 : Int)))) = true then (Option.bind (gleaninglaw5_same x60.1 a0) (fun (x67 : Bool) => if x67 = true then (some (x60.2 == (List.length v8_s_1 : Int))) else (some false))) else (some false)) else (some false)))))))))))
def gleaninglaw5_FrameJoin_k1 (a0 : List (List UInt8)) (a1 : List (List UInt8)) (a2 : Int) (v8_s_1 : List UInt8) : Option Bool :=
  Option.bind (loopN (fun (s : List UInt8 × Int) => gleaninglaw5_FrameJoin_l4 a1 s.1 s.2) Fu ([], 0)) (Sum.elim (fun (s : List UInt8) => gleaninglaw5_FrameJoin_k3 a0 a1 a2 v8_s_1 s) some)
def gleaninglaw5_FrameJoin_k0 (a0 : List (List UInt8)) (a1 : List (List UInt8)) (a2 : Int) : Option Bool :=
  Option.bind (loopN (fun (s : List UInt8 × Int) => gleaninglaw5_FrameJoin_l2 a0 s.1 s.2) Fu ([], 0)) (Sum.elim (fun (s : List UInt8) => gleaninglaw5_FrameJoin_k1 a0 a1 a2 s) some)
def gleaninglaw5_FrameJoin (a0 : List (List UInt8)) (a1 : List (List UInt8)) (a2 : Int) : Option Bool :=
  Option.bind (gleaninglaw5_alive) (fun (x3 : Bool) => Option.bind (if (!x3) = true then (some (Sum.inr x3)) else (if (decide ((12 : Int) < (List.length a0 : Int))) = true then (some (Sum.inr x3)) else (if (decide ((12 : Int) < (List.length a1 : Int))) = true then (some (Sum.inr x3)) else (some (Sum.inl ()))))) (Sum.elim (fun (s : Unit) => gleaninglaw5_FrameJoin_k0 a0 a1 a2) some))
set_option maxRecDepth 100000 in
set_option maxHeartbeats 8000000 in
/-- gleaning/gleaninglaw5.FrameJoin -/
theorem gleaninglaw5_FrameJoin_ok (a0 : List (List UInt8)) (a1 : List (List UInt8)) (a2 : Int) {r : Bool} (h : gleaninglaw5_FrameJoin a0 a1 a2 = some r) : Ok Try.prog 10 [.sl 1 (List.map enc51 a0), .sl 1 (List.map enc51 a1), .int .u8 a2] [] [] (.bool r) [] [] := by
  unfold gleaninglaw5_FrameJoin at h
  refine ok_of_code Try.func10 rfl (by show (3 : Nat) ≤ _; decide) (Nat.le_refl _) fun X => ?_
  refine aw_seq_k (fun K1 hK1 => ?_)
  refine aw_reg ?_
  refine ao_cons (acts_of rfl (does_assign (v := .bool false) (by exact rfl))) (by decide) ?_
  refine ao_nil_n ?_
  refine hK1 _ ?_
  refine aw_seq_k (fun K2 hK2 => ?_)
  refine aw_reg ?_
  obtain ⟨x3, hx3, h⟩ := bnd_some h
  refine ao_cons (acts_of rfl (do_call0 16 false (gleaninglaw5_alive_ok hx3) rfl ent31 rfl rfl)) (by decide) ?_
  refine ao_cons (acts_of rfl (does_assign (v := .bool x3) (by exact rfl))) (by decide) ?_
  refine ao_nil_n ?_
  refine hK2 _ ?_
  obtain ⟨q4, h, hk5⟩ := bnd_some h
  refine aw_cut (fun s => gleaninglaw5_FrameJoin_k0 a0 a1 a2 = some r ∧ s = lit [(0, .sl 1 (List.map enc51 a0)), (1, .sl 1 (List.map enc51 a1)), (2, .int .u8 a2)] [] [] X) ?_ ?_
  · skip
    refine aw_seq_k (fun K6 hK6 => ?_)
    refine aw_reg ?_
    refine ao_cons (acts_of rfl (does_move (v := .bool x3) (by exact rfl))) (by decide) ?_
    refine ao_cons (acts_of rfl (does_un (v := .bool (!x3)) (by conv => lhs; whnf) rfl)) (by decide) ?_
    refine ao_cons (acts_of rfl (does_move (v := .bool (!x3)) (by exact rfl))) (by decide) ?_
    refine ao_bool (c := (!x3)) 19 rfl (fun c7 => ?_) (fun c7 => ?_)
    · have h := ifT c7 h
      refine ao_cons (acts_skip rfl) (by decide) ?_
      refine ao_cons (acts_skip rfl) (by decide) ?_
      refine ao_cons (acts_skip rfl) (by decide) ?_
      refine ao_cons (acts_of rfl (does_pick (v := .bool true) (by conv => lhs; whnf) (by exact rfl))) (by decide) ?_
      refine ao_cons (acts_of rfl (does_move (v := .bool true) (by exact rfl))) (by decide) ?_
      refine ao_cons (acts_skip rfl) (by decide) ?_
      refine ao_cons (acts_skip rfl) (by decide) ?_
      refine ao_cons (acts_skip rfl) (by decide) ?_
      refine ao_cons (acts_of rfl (does_pick (v := .bool true) (by conv => lhs; whnf) (by exact rfl))) (by decide) ?_
      refine ao_nil_n ?_
      refine hK6 _ ?_
      refine aw_cond_t (by decide) rfl ?_
      refine aw_seq_k (fun K8 hK8 => ?_)
      refine aw_reg ?_
      refine ao_cons (acts_of rfl (does_move (v := .bool x3) (by exact rfl))) (by decide) ?_
      refine ao_cons (acts_of rfl (does_assign (v := .bool x3) (by exact rfl))) (by decide) ?_
      refine ao_nil_n ?_
      refine hK8 _ ?_
      refine aw_ret ?_
      have h := leafR h hk5
      obtain rfl := Option.some.inj h
      exact ret_ok1 (by conv => lhs; whnf) (by conv => lhs; whnf) (by exact rfl) (.inr rfl) rfl
    · have h := ifF c7 h
      refine ao_cons (acts_of rfl (does_move (v := .sl 1 (List.map enc51 a0)) (by exact rfl))) (by decide) ?_
      refine ao_cons (acts_of rfl ((does_len_sl (by conv => lhs; whnf) ty52).castp (v' := .int .i64 (List.length a0 : Int)) (by exact len_map _))) (by decide) ?_
      refine ao_cons (acts_of rfl (does_bin (v := .bool (decide ((12 : Int) < (List.length a0 : Int)))) (by conv => lhs; whnf) (by conv => lhs; whnf) rfl)) (by decide) ?_
      refine ao_cons (acts_of rfl (does_pick (v := .bool (decide ((12 : Int) < (List.length a0 : Int)))) (by conv => lhs; whnf) (by exact rfl))) (by decide) ?_
      refine ao_cons (acts_of rfl (does_move (v := .bool (decide ((12 : Int) < (List.length a0 : Int)))) (by exact rfl))) (by decide) ?_
      refine ao_bool (c := (decide ((12 : Int) < (List.length a0 : Int)))) 24 rfl (fun c9 => ?_) (fun c9 => ?_)
      · have h := ifT c9 h
        refine ao_cons (acts_skip rfl) (by decide) ?_
        refine ao_cons (acts_skip rfl) (by decide) ?_
        refine ao_cons (acts_skip rfl) (by decide) ?_
        refine ao_cons (acts_of rfl (does_pick (v := .bool true) (by conv => lhs; whnf) (by exact rfl))) (by decide) ?_
        refine ao_nil_n ?_
        refine hK6 _ ?_
        refine aw_cond_t (by decide) rfl ?_
        refine aw_seq_k (fun K10 hK10 => ?_)
        refine aw_reg ?_
        refine ao_cons (acts_of rfl (does_move (v := .bool x3) (by exact rfl))) (by decide) ?_
        refine ao_cons (acts_of rfl (does_assign (v := .bool x3) (by exact rfl))) (by decide) ?_
        refine ao_nil_n ?_
        refine hK10 _ ?_
        refine aw_ret ?_
        have h := leafR h hk5
        obtain rfl := Option.some.inj h
        exact ret_ok1 (by conv => lhs; whnf) (by conv => lhs; whnf) (by exact rfl) (.inr rfl) rfl
      · have h := ifF c9 h
        refine ao_cons (acts_of rfl (does_move (v := .sl 1 (List.map enc51 a1)) (by exact rfl))) (by decide) ?_
        refine ao_cons (acts_of rfl ((does_len_sl (by conv => lhs; whnf) ty52).castp (v' := .int .i64 (List.length a1 : Int)) (by exact len_map _))) (by decide) ?_
        refine ao_cons (acts_of rfl (does_bin (v := .bool (decide ((12 : Int) < (List.length a1 : Int)))) (by conv => lhs; whnf) (by conv => lhs; whnf) rfl)) (by decide) ?_
        refine ao_cons (acts_of rfl (does_pick (v := .bool (decide ((12 : Int) < (List.length a1 : Int)))) (by conv => lhs; whnf) (by exact rfl))) (by decide) ?_
        refine ao_nil_n ?_
        refine hK6 _ ?_
        refine aw_bool (b := (decide ((12 : Int) < (List.length a1 : Int)))) 28 rfl (fun c11 => ?_) (fun c11 => ?_)
        · have h := ifT c11 h
          refine aw_cond_t (by decide) rfl ?_
          refine aw_seq_k (fun K12 hK12 => ?_)
          refine aw_reg ?_
          refine ao_cons (acts_of rfl (does_move (v := .bool x3) (by exact rfl))) (by decide) ?_
          refine ao_cons (acts_of rfl (does_assign (v := .bool x3) (by exact rfl))) (by decide) ?_
          refine ao_nil_n ?_
          refine hK12 _ ?_
          refine aw_ret ?_
          have h := leafR h hk5
          obtain rfl := Option.some.inj h
          exact ret_ok1 (by conv => lhs; whnf) (by conv => lhs; whnf) (by exact rfl) (.inr rfl) rfl
        · have h := ifF c11 h
          refine aw_cond_f (by decide) rfl ?_
          refine aw_skip ?_
          have h := leafL h hk5
          exact ⟨_, reb_lit [(0, .sl 1 (List.map enc51 a0)), (1, .sl 1 (List.map enc51 a1)), (2, .int .u8 a2)] [] [] [] (envOk_cons (by conv => lhs; whnf) (by exact rfl) (envOk_cons (by conv => lhs; whnf) (by exact rfl) (envOk_cons (by conv => lhs; whnf) (by exact rfl) envOk_nil))) objOk_nil (nodup_b rfl) (nodup_b rfl) rfl rfl, h, rfl⟩
  · rintro s ⟨h, rfl⟩
    unfold gleaninglaw5_FrameJoin_k0 at h
    refine aw_seq_k (fun K13 hK13 => ?_)
    refine aw_reg ?_
    refine ao_cons (acts_of rfl (does_assign (v := .nil) (by exact rfl))) (by decide) ?_
    refine ao_cons (acts_of rfl (does_assign (v := .nil) (by exact rfl))) (by decide) ?_
    refine ao_nil_n ?_
    refine hK13 _ ?_
    obtain ⟨q14, h, hk15⟩ := bnd_some h
    refine aw_cut (fun s => ∃ (v8_s_1 : List UInt8), gleaninglaw5_FrameJoin_k1 a0 a1 a2 v8_s_1 = some r ∧ s = lit [(0, .sl 1 (List.map enc51 a0)), (1, .sl 1 (List.map enc51 a1)), (2, .int .u8 a2), (8, .own 8 0), (9, .nil)] [((8, 0), .arr 5 1 false (List.map enc5 v8_s_1))] [(8, 1)] X) ?_ ?_
    · skip
      refine aw_seq_k (fun K16 hK16 => ?_)
      refine aw_reg ?_
      refine ao_cons (acts_of rfl (does_assign (v := .int .i64 0) (by exact rfl))) (by decide) ?_
      refine ao_nil_n ?_
      refine hK16 _ ?_
      refine aw_block ?_
      refine aw_nilOwn 8 5 1 (by conv => lhs; whnf) (by decide) (by decide) ?_
      refine aw_loop' (fun m s => ∃ (v8_s_2 : List UInt8), ∃ (v10_2 : Int), loopN (fun (s : List UInt8 × Int) => gleaninglaw5_FrameJoin_l2 a0 s.1 s.2) m (v8_s_2, v10_2) = some q14 ∧ s = lit [(0, .sl 1 (List.map enc51 a0)), (1, .sl 1 (List.map enc51 a1)), (2, .int .u8 a2), (8, .own 8 0), (9, .nil), (10, .int .i64 v10_2)] [((8, 0), .arr 5 1 false (List.map enc5 v8_s_2))] [(8, 1)] X) Fu
        ⟨_, reb_lit [(0, .sl 1 (List.map enc51 a0)), (1, .sl 1 (List.map enc51 a1)), (2, .int .u8 a2), (8, .own 8 0), (9, .nil), (10, .int .i64 (0))] [(8, 0)] [((8, 0), .arr 5 1 false (List.map enc5 []))] [(8, 1)] (envOk_cons (by conv => lhs; whnf) (by exact rfl) (envOk_cons (by conv => lhs; whnf) (by exact rfl) (envOk_cons (by conv => lhs; whnf) (by exact rfl) (envOk_cons (by conv => lhs; whnf) (by exact rfl) (envOk_cons (by conv => lhs; whnf) (by exact rfl) (envOk_cons (by conv => lhs; whnf) (by exact rfl) envOk_nil)))))) (objOk_cons (by conv => lhs; whnf) (by conv => lhs; whnf) (by exact rfl) (by simp) objOk_nil) (nodup_b rfl) (nodup_b rfl) rfl rfl, [], 0, h, rfl⟩ ?_
      rintro m s ⟨v8_s_2, v10_2, h, rfl⟩
      obtain ⟨m2, q17, rfl, h, hq18⟩ := loop_some h
      replace h : gleaninglaw5_FrameJoin_l2 a0 v8_s_2 v10_2 = some q17 := h
      unfold gleaninglaw5_FrameJoin_l2 at h
      refine aw_seq_k (fun K19 hK19 => ?_)
      refine aw_seq_k (fun K20 hK20 => ?_)
      refine aw_reg ?_
      refine ao_cons (acts_of rfl (does_move (v := .int .i64 v10_2) (by exact rfl))) (by decide) ?_
      refine ao_cons (acts_of rfl (does_move (v := .sl 1 (List.map enc51 a0)) (by exact rfl))) (by decide) ?_
      refine ao_cons (acts_of rfl ((does_len_sl (by conv => lhs; whnf) ty52).castp (v' := .int .i64 (List.length a0 : Int)) (by exact len_map _))) (by decide) ?_
      refine ao_cons (acts_of rfl (does_bin (v := .bool (decide (v10_2 < (List.length a0 : Int)))) (by conv => lhs; whnf) (by conv => lhs; whnf) rfl)) (by decide) ?_
      refine ao_nil_n ?_
      refine hK20 _ ?_
      refine aw_bool (b := (decide (v10_2 < (List.length a0 : Int)))) 33 rfl (fun c21 => ?_) (fun c21 => ?_)
      · have h := ifT c21 h
        refine aw_cond_t (by decide) rfl ?_
        refine aw_skip ?_
        refine hK19 _ ?_
        refine aw_seq_k (fun K22 hK22 => ?_)
        refine aw_block ?_
        refine aw_seq_k (fun K23 hK23 => ?_)
        refine aw_seq_k (fun K24 hK24 => ?_)
        refine aw_reg ?_
        refine ao_cons (acts_of rfl (does_move (v := .sl 1 (List.map enc51 a0)) (by exact rfl))) (by decide) ?_
        refine ao_cons (acts_of rfl (does_move (v := .int .i64 v10_2) (by exact rfl))) (by decide) ?_
        obtain ⟨g25, h⟩ := gd_some h
        obtain ⟨x26, hx26, h⟩ := bnd_some h
        refine ao_cons (acts_of rfl (does_indexAddr_sl (el := .sl 1 (List.map enc5 x26)) (by conv => lhs; whnf) (by conv => lhs; whnf) ty52 ty51 g25 (by exact map_get hx26))) (by decide) ?_
        refine ao_cons (acts_of rfl (does_load (v := .sl 1 (List.map enc5 x26)) (by conv => lhs; whnf) (by conv => lhs; whnf) ty51 (by exact rfl))) (by decide) ?_
        refine ao_cons (acts_of rfl ((does_len_sl (by conv => lhs; whnf) ty51).castp (v' := .int .i64 (List.length x26 : Int)) (by exact len_map _))) (by decide) ?_
        refine ao_cons (acts_of rfl (does_bin (v := .bool (decide ((200 : Int) < (List.length x26 : Int)))) (by conv => lhs; whnf) (by conv => lhs; whnf) rfl)) (by decide) ?_
        refine ao_nil_n ?_
        refine hK24 _ ?_
        refine aw_bool (b := (decide ((200 : Int) < (List.length x26 : Int)))) 41 rfl (fun c27 => ?_) (fun c27 => ?_)
        · have h := ifT c27 h
          refine aw_cond_t (by decide) rfl ?_
          refine aw_seq_k (fun K28 hK28 => ?_)
          refine aw_reg ?_
          refine ao_cons (acts_of rfl (does_assign (v := .bool true) (by exact rfl))) (by decide) ?_
          refine ao_nil_n ?_
          refine hK28 _ ?_
          refine aw_ret ?_
          have h := leafR h hq18
          have h := leafR h hk15
          obtain rfl := Option.some.inj h
          exact ret_ok1 (by conv => lhs; whnf) (by conv => lhs; whnf) (by exact rfl) (.inr rfl) rfl
        · have h := ifF c27 h
          refine aw_cond_f (by decide) rfl ?_
          refine aw_skip ?_
          refine hK23 _ ?_
          refine aw_reg ?_
          refine ao_cons (acts_of rfl (does_move (v := .own 8 0) (by exact rfl))) (by decide) ?_
          refine ao_cons (acts_of rfl (does_move (v := .sl 1 (List.map enc51 a0)) (by exact rfl))) (by decide) ?_
          refine ao_cons (acts_of rfl (does_move (v := .int .i64 v10_2) (by exact rfl))) (by decide) ?_
          obtain ⟨g29, h⟩ := gd_some h
          obtain ⟨x30, hx30, h⟩ := bnd_some h
          refine ao_cons (acts_of rfl (does_indexAddr_sl (el := .sl 1 (List.map enc5 x30)) (by conv => lhs; whnf) (by conv => lhs; whnf) ty52 ty51 g29 (by exact map_get hx30))) (by decide) ?_
          refine ao_cons (acts_of rfl (does_load (v := .sl 1 (List.map enc5 x30)) (by conv => lhs; whnf) (by conv => lhs; whnf) ty51 (by exact rfl))) (by decide) ?_
          obtain ⟨x31, hx31, h⟩ := bnd_some h
          refine ao_cons (acts_of rfl (do_call0 47 false (frame_Bytes_ok x30 hx31) rfl ent34 rfl rfl)) (by decide) ?_
          obtain ⟨g32, h⟩ := gd_some h
          refine ao_cons (acts_of rfl (do_append (v := List.map enc5 (v8_s_2 ++ x31)) (by conv => lhs; whnf) (by conv => lhs; whnf) ty51 ty5 rfl rfl (by conv => lhs; whnf) (by first | exact .inl rfl | exact .inr ⟨rfl, rfl⟩) (by conv => lhs; whnf) (by first | exact .inr rfl | exact .inl rfl) (map_app _ _) (fit_map g32))) (by decide) ?_
          refine ao_cons (acts_of rfl (does_assign (v := .own 48 0) (by exact rfl))) (by decide) ?_
          refine ao_nil_n ?_
          refine hK22 _ ?_
          refine aw_reg ?_
          refine ao_cons (acts_of rfl (does_move (v := .int .i64 v10_2) (by exact rfl))) (by decide) ?_
          refine ao_cons (acts_of rfl (does_bin (v := .int .i64 (IntKind.i64.wrap (v10_2 + 1))) (by conv => lhs; whnf) (by conv => lhs; whnf) rfl)) (by decide) ?_
          refine ao_cons (acts_of rfl (does_assign (v := .int .i64 (IntKind.i64.wrap (v10_2 + 1))) (by exact rfl))) (by decide) ?_
          refine ao_nil_n ?_
          have h := leafL h hq18
          exact ⟨m2, Nat.lt_succ_self _, _, reb_lit [(0, .sl 1 (List.map enc51 a0)), (1, .sl 1 (List.map enc51 a1)), (2, .int .u8 a2), (8, .own 8 0), (9, .nil), (10, .int .i64 (IntKind.i64.wrap (v10_2 + 1)))] [(48, 0)] [((8, 0), .arr 5 1 false (List.map enc5 (v8_s_2 ++ x31)))] [(8, 1)] (envOk_cons (by conv => lhs; whnf) (by exact rfl) (envOk_cons (by conv => lhs; whnf) (by exact rfl) (envOk_cons (by conv => lhs; whnf) (by exact rfl) (envOk_cons (by conv => lhs; whnf) (by exact rfl) (envOk_cons (by conv => lhs; whnf) (by exact rfl) (envOk_cons (by conv => lhs; whnf) (by exact rfl) envOk_nil)))))) (objOk_cons (by conv => lhs; whnf) (by conv => lhs; whnf) (by exact rfl) (by simp) objOk_nil) (nodup_b rfl) (nodup_b rfl) rfl rfl, (v8_s_2 ++ x31), (IntKind.i64.wrap (v10_2 + 1)), h, rfl⟩
      · have h := ifF c21 h
        refine aw_cond_f (by decide) rfl ?_
        refine aw_exit ?_
        have h := leafR h hq18
        have h := leafL h hk15
        exact ⟨_, reb_lit [(0, .sl 1 (List.map enc51 a0)), (1, .sl 1 (List.map enc51 a1)), (2, .int .u8 a2), (8, .own 8 0), (9, .nil)] [(8, 0)] [((8, 0), .arr 5 1 false (List.map enc5 v8_s_2))] [(8, 1)] (envOk_cons (by conv => lhs; whnf) (by exact rfl) (envOk_cons (by conv => lhs; whnf) (by exact rfl) (envOk_cons (by conv => lhs; whnf) (by exact rfl) (envOk_cons (by conv => lhs; whnf) (by exact rfl) (envOk_cons (by conv => lhs; whnf) (by exact rfl) envOk_nil))))) (objOk_cons (by conv => lhs; whnf) (by conv => lhs; whnf) (by exact rfl) (by simp) objOk_nil) (nodup_b rfl) (nodup_b rfl) rfl rfl, v8_s_2, h, rfl⟩
    · rintro s ⟨v8_s_1, h, rfl⟩
      unfold gleaninglaw5_FrameJoin_k1 at h
      obtain ⟨q33, h, hk34⟩ := bnd_some h
      refine aw_cut (fun s => ∃ (v9_s_3 : List UInt8), gleaninglaw5_FrameJoin_k3 a0 a1 a2 v8_s_1 v9_s_3 = some r ∧ s = lit [(0, .sl 1 (List.map enc51 a0)), (1, .sl 1 (List.map enc51 a1)), (2, .int .u8 a2), (8, .own 8 0), (9, .own 9 0)] [((8, 0), .arr 5 1 false (List.map enc5 v8_s_1)), ((9, 0), .arr 5 1 false (List.map enc5 v9_s_3))] [(8, 1), (9, 1)] X) ?_ ?_
      · skip
        refine aw_seq_k (fun K35 hK35 => ?_)
        refine aw_reg ?_
        refine ao_cons (acts_of rfl (does_assign (v := .int .i64 0) (by exact rfl))) (by decide) ?_
        refine ao_nil_n ?_
        refine hK35 _ ?_
        refine aw_block ?_
        refine aw_nilOwn 9 5 1 (by conv => lhs; whnf) (by decide) (by decide) ?_
        refine aw_loop' (fun m s => ∃ (v9_s_4 : List UInt8), ∃ (v11_4 : Int), loopN (fun (s : List UInt8 × Int) => gleaninglaw5_FrameJoin_l4 a1 s.1 s.2) m (v9_s_4, v11_4) = some q33 ∧ s = lit [(0, .sl 1 (List.map enc51 a0)), (1, .sl 1 (List.map enc51 a1)), (2, .int .u8 a2), (8, .own 8 0), (9, .own 9 0), (11, .int .i64 v11_4)] [((8, 0), .arr 5 1 false (List.map enc5 v8_s_1)), ((9, 0), .arr 5 1 false (List.map enc5 v9_s_4))] [(8, 1), (9, 1)] X) Fu
          ⟨_, reb_lit [(0, .sl 1 (List.map enc51 a0)), (1, .sl 1 (List.map enc51 a1)), (2, .int .u8 a2), (8, .own 8 0), (9, .own 9 0), (11, .int .i64 (0))] [(8, 0), (9, 0)] [((8, 0), .arr 5 1 false (List.map enc5 v8_s_1)), ((9, 0), .arr 5 1 false (List.map enc5 []))] [(8, 1), (9, 1)] (envOk_cons (by conv => lhs; whnf) (by exact rfl) (envOk_cons (by conv => lhs; whnf) (by exact rfl) (envOk_cons (by conv => lhs; whnf) (by exact rfl) (envOk_cons (by conv => lhs; whnf) (by exact rfl) (envOk_cons (by conv => lhs; whnf) (by exact rfl) (envOk_cons (by conv => lhs; whnf) (by exact rfl) envOk_nil)))))) (objOk_cons (by conv => lhs; whnf) (by conv => lhs; whnf) (by exact rfl) (by simp) (objOk_cons (by conv => lhs; whnf) (by conv => lhs; whnf) (by exact rfl) (by simp) objOk_nil)) (nodup_b rfl) (nodup_b rfl) rfl rfl, [], 0, h, rfl⟩ ?_
        rintro m s ⟨v9_s_4, v11_4, h, rfl⟩
        obtain ⟨m4, q36, rfl, h, hq37⟩ := loop_some h
        replace h : gleaninglaw5_FrameJoin_l4 a1 v9_s_4 v11_4 = some q36 := h
        unfold gleaninglaw5_FrameJoin_l4 at h
        refine aw_seq_k (fun K38 hK38 => ?_)
        refine aw_seq_k (fun K39 hK39 => ?_)
        refine aw_reg ?_
        refine ao_cons (acts_of rfl (does_move (v := .int .i64 v11_4) (by exact rfl))) (by decide) ?_
        refine ao_cons (acts_of rfl (does_move (v := .sl 1 (List.map enc51 a1)) (by exact rfl))) (by decide) ?_
        refine ao_cons (acts_of rfl ((does_len_sl (by conv => lhs; whnf) ty52).castp (v' := .int .i64 (List.length a1 : Int)) (by exact len_map _))) (by decide) ?_
        refine ao_cons (acts_of rfl (does_bin (v := .bool (decide (v11_4 < (List.length a1 : Int)))) (by conv => lhs; whnf) (by conv => lhs; whnf) rfl)) (by decide) ?_
        refine ao_nil_n ?_
        refine hK39 _ ?_
        refine aw_bool (b := (decide (v11_4 < (List.length a1 : Int)))) 52 rfl (fun c40 => ?_) (fun c40 => ?_)
        · have h := ifT c40 h
          refine aw_cond_t (by decide) rfl ?_
          refine aw_skip ?_
          refine hK38 _ ?_
          refine aw_seq_k (fun K41 hK41 => ?_)
          refine aw_block ?_
          refine aw_seq_k (fun K42 hK42 => ?_)
          refine aw_seq_k (fun K43 hK43 => ?_)
          refine aw_reg ?_
          refine ao_cons (acts_of rfl (does_move (v := .sl 1 (List.map enc51 a1)) (by exact rfl))) (by decide) ?_
          refine ao_cons (acts_of rfl (does_move (v := .int .i64 v11_4) (by exact rfl))) (by decide) ?_
          obtain ⟨g44, h⟩ := gd_some h
          obtain ⟨x45, hx45, h⟩ := bnd_some h
          refine ao_cons (acts_of rfl (does_indexAddr_sl (el := .sl 1 (List.map enc5 x45)) (by conv => lhs; whnf) (by conv => lhs; whnf) ty52 ty51 g44 (by exact map_get hx45))) (by decide) ?_
          refine ao_cons (acts_of rfl (does_load (v := .sl 1 (List.map enc5 x45)) (by conv => lhs; whnf) (by conv => lhs; whnf) ty51 (by exact rfl))) (by decide) ?_
          refine ao_cons (acts_of rfl ((does_len_sl (by conv => lhs; whnf) ty51).castp (v' := .int .i64 (List.length x45 : Int)) (by exact len_map _))) (by decide) ?_
          refine ao_cons (acts_of rfl (does_bin (v := .bool (decide ((200 : Int) < (List.length x45 : Int)))) (by conv => lhs; whnf) (by conv => lhs; whnf) rfl)) (by decide) ?_
          refine ao_nil_n ?_
          refine hK43 _ ?_
          refine aw_bool (b := (decide ((200 : Int) < (List.length x45 : Int)))) 60 rfl (fun c46 => ?_) (fun c46 => ?_)
          · have h := ifT c46 h
            refine aw_cond_t (by decide) rfl ?_
            refine aw_seq_k (fun K47 hK47 => ?_)
            refine aw_reg ?_
            refine ao_cons (acts_of rfl (does_assign (v := .bool true) (by exact rfl))) (by decide) ?_
            refine ao_nil_n ?_
            refine hK47 _ ?_
            refine aw_ret ?_
            have h := leafR h hq37
            have h := leafR h hk34
            obtain rfl := Option.some.inj h
            exact ret_ok1 (by conv => lhs; whnf) (by conv => lhs; whnf) (by exact rfl) (.inr rfl) rfl
          · have h := ifF c46 h
            refine aw_cond_f (by decide) rfl ?_
            refine aw_skip ?_
            refine hK42 _ ?_
            refine aw_reg ?_
            refine ao_cons (acts_of rfl (does_move (v := .own 9 0) (by exact rfl))) (by decide) ?_
            refine ao_cons (acts_of rfl (does_move (v := .sl 1 (List.map enc51 a1)) (by exact rfl))) (by decide) ?_
            refine ao_cons (acts_of rfl (does_move (v := .int .i64 v11_4) (by exact rfl))) (by decide) ?_
            obtain ⟨g48, h⟩ := gd_some h
            obtain ⟨x49, hx49, h⟩ := bnd_some h
            refine ao_cons (acts_of rfl (does_indexAddr_sl (el := .sl 1 (List.map enc5 x49)) (by conv => lhs; whnf) (by conv => lhs; whnf) ty52 ty51 g48 (by exact map_get hx49))) (by decide) ?_
            refine ao_cons (acts_of rfl (does_load (v := .sl 1 (List.map enc5 x49)) (by conv => lhs; whnf) (by conv => lhs; whnf) ty51 (by exact rfl))) (by decide) ?_
            obtain ⟨x50, hx50, h⟩ := bnd_some h
            refine ao_cons (acts_of rfl (do_call0 66 false (frame_Bytes_ok x49 hx50) rfl ent34 rfl rfl)) (by decide) ?_
            obtain ⟨g51, h⟩ := gd_some h
            refine ao_cons (acts_of rfl (do_append (v := List.map enc5 (v9_s_4 ++ x50)) (by conv => lhs; whnf) (by conv => lhs; whnf) ty51 ty5 rfl rfl (by conv => lhs; whnf) (by first | exact .inl rfl | exact .inr ⟨rfl, rfl⟩) (by conv => lhs; whnf) (by first | exact .inr rfl | exact .inl rfl) (map_app _ _) (fit_map g51))) (by decide) ?_
            refine ao_cons (acts_of rfl (does_assign (v := .own 67 0) (by exact rfl))) (by decide) ?_
            refine ao_nil_n ?_
            refine hK41 _ ?_
            refine aw_reg ?_
            refine ao_cons (acts_of rfl (does_move (v := .int .i64 v11_4) (by exact rfl))) (by decide) ?_
            refine ao_cons (acts_of rfl (does_bin (v := .int .i64 (IntKind.i64.wrap (v11_4 + 1))) (by conv => lhs; whnf) (by conv => lhs; whnf) rfl)) (by decide) ?_
            refine ao_cons (acts_of rfl (does_assign (v := .int .i64 (IntKind.i64.wrap (v11_4 + 1))) (by exact rfl))) (by decide) ?_
            refine ao_nil_n ?_
            have h := leafL h hq37
            exact ⟨m4, Nat.lt_succ_self _, _, reb_lit [(0, .sl 1 (List.map enc51 a0)), (1, .sl 1 (List.map enc51 a1)), (2, .int .u8 a2), (8, .own 8 0), (9, .own 9 0), (11, .int .i64 (IntKind.i64.wrap (v11_4 + 1)))] [(8, 0), (67, 0)] [((8, 0), .arr 5 1 false (List.map enc5 v8_s_1)), ((9, 0), .arr 5 1 false (List.map enc5 (v9_s_4 ++ x50)))] [(8, 1), (9, 1)] (envOk_cons (by conv => lhs; whnf) (by exact rfl) (envOk_cons (by conv => lhs; whnf) (by exact rfl) (envOk_cons (by conv => lhs; whnf) (by exact rfl) (envOk_cons (by conv => lhs; whnf) (by exact rfl) (envOk_cons (by conv => lhs; whnf) (by exact rfl) (envOk_cons (by conv => lhs; whnf) (by exact rfl) envOk_nil)))))) (objOk_cons (by conv => lhs; whnf) (by conv => lhs; whnf) (by exact rfl) (by simp) (objOk_cons (by conv => lhs; whnf) (by conv => lhs; whnf) (by exact rfl) (by simp) objOk_nil)) (nodup_b rfl) (nodup_b rfl) rfl rfl, (v9_s_4 ++ x50), (IntKind.i64.wrap (v11_4 + 1)), h, rfl⟩
        · have h := ifF c40 h
          refine aw_cond_f (by decide) rfl ?_
          refine aw_exit ?_
          have h := leafR h hq37
          have h := leafL h hk34
          exact ⟨_, reb_lit [(0, .sl 1 (List.map enc51 a0)), (1, .sl 1 (List.map enc51 a1)), (2, .int .u8 a2), (8, .own 8 0), (9, .own 9 0)] [(8, 0), (9, 0)] [((8, 0), .arr 5 1 false (List.map enc5 v8_s_1)), ((9, 0), .arr 5 1 false (List.map enc5 v9_s_4))] [(8, 1), (9, 1)] (envOk_cons (by conv => lhs; whnf) (by exact rfl) (envOk_cons (by conv => lhs; whnf) (by exact rfl) (envOk_cons (by conv => lhs; whnf) (by exact rfl) (envOk_cons (by conv => lhs; whnf) (by exact rfl) (envOk_cons (by conv => lhs; whnf) (by exact rfl) envOk_nil))))) (objOk_cons (by conv => lhs; whnf) (by conv => lhs; whnf) (by exact rfl) (by simp) (objOk_cons (by conv => lhs; whnf) (by conv => lhs; whnf) (by exact rfl) (by simp) objOk_nil)) (nodup_b rfl) (nodup_b rfl) rfl rfl, v9_s_4, h, rfl⟩
      · rintro s ⟨v9_s_3, h, rfl⟩
        unfold gleaninglaw5_FrameJoin_k3 at h
        refine aw_seq_k (fun K52 hK52 => ?_)
        refine aw_reg ?_
        refine ao_cons (acts_of rfl (does_move (v := .own 8 0) (by exact rfl))) (by decide) ?_
        obtain ⟨g53, h⟩ := gd_some h
        refine ao_cons (acts_of rfl (do_append (v := List.map enc5 v8_s_1) (by conv => lhs; whnf) (by conv => lhs; whnf) ty51 ty5 rfl rfl (by conv => lhs; whnf) (by first | exact .inl rfl | exact .inr ⟨rfl, rfl⟩) (by conv => lhs; whnf) (by first | exact .inr rfl | exact .inl rfl) (List.nil_append _) (fit_map g53))) (by decide) ?_
        refine ao_cons (acts_of rfl (does_move (v := .own 9 0) (by exact rfl))) (by decide) ?_
        obtain ⟨g54, h⟩ := gd_some h
        refine ao_cons (acts_of rfl (do_append (v := List.map enc5 (v8_s_1 ++ v9_s_3)) (by conv => lhs; whnf) (by conv => lhs; whnf) ty51 ty5 rfl rfl (by conv => lhs; whnf) (by first | exact .inl rfl | exact .inr ⟨rfl, rfl⟩) (by conv => lhs; whnf) (by first | exact .inr rfl | exact .inl rfl) (map_app _ _) (fit_map g54))) (by decide) ?_
        obtain ⟨x55, hx55, h⟩ := bnd_some h
        refine ao_cons (acts_of rfl (does_frz (d := 72) (n := 0) (by conv => lhs; whnf) (do_callG (bcs := []) [] [] [(72, 0)] 73 false (frame_Split_ok (v8_s_1 ++ v9_s_3) hx55) rfl ent32 trivial trivial rfl rfl rfl rfl rfl rfl rfl rfl (.inl ⟨⟨_, _, _, rfl⟩, trivial⟩)))) (by decide) ?_
        refine ao_cons (acts_of rfl (does_move (v := .tup [.own 73 0, .int .i64 x55.2]) (by exact rfl))) (by decide) ?_
        refine ao_cons (acts_of rfl (does_extract (v := .own 73 0) (by conv => lhs; whnf) (by exact rfl))) (by decide) ?_
        refine ao_cons (acts_of rfl (does_extract (v := .int .i64 x55.2) (by conv => lhs; whnf) (by exact rfl))) (by decide) ?_
        refine ao_cons (acts_of rfl (does_assign (v := .own 73 0) (by exact rfl))) (by decide) ?_
        refine ao_cons (acts_of rfl (does_assign (v := .int .i64 x55.2) (by exact rfl))) (by decide) ?_
        refine ao_nil_n ?_
        refine hK52 _ ?_
        refine aw_seq_k (fun K56 hK56 => ?_)
        refine aw_reg ?_
        refine ao_cons (acts_of rfl (does_move (v := .own 8 0) (by exact rfl))) (by decide) ?_
        obtain ⟨g57, h⟩ := gd_some h
        refine ao_cons (acts_of rfl (do_append (v := List.map enc5 v8_s_1) (by conv => lhs; whnf) (by conv => lhs; whnf) ty51 ty5 rfl rfl (by conv => lhs; whnf) (by first | exact .inl rfl | exact .inr ⟨rfl, rfl⟩) (by conv => lhs; whnf) (by first | exact .inr rfl | exact .inl rfl) (List.nil_append _) (fit_map g57))) (by decide) ?_
        refine ao_cons (acts_of rfl (does_move (v := .int .u8 a2) (by exact rfl))) (by decide) ?_
        refine ao_cons (acts_of rfl ((does_bin (v := .int .u8 (bits .or .u8 a2 128)) (by conv => lhs; whnf) (by conv => lhs; whnf) rfl).castp (v' := .int .u8 ((u8 (bits .or .u8 a2 128)).toNat : Int)) (by exact congrArg _ (u8_eq (u8_bits _ _ _))))) (by decide) ?_
        refine ao_cons (acts_of rfl (do_buildSlice (xs := List.map enc5 [(u8 (bits .or .u8 a2 128)), (0 : UInt8)]) ty51 ty5 rfl rfl rfl rfl rfl rfl rfl rfl)) (by decide) ?_
        obtain ⟨g58, h⟩ := gd_some h
        refine ao_cons (acts_of rfl (do_append (v := List.map enc5 (v8_s_1 ++ [(u8 (bits .or .u8 a2 128)), (0 : UInt8)])) (by conv => lhs; whnf) (by conv => lhs; whnf) ty51 ty5 rfl rfl (by conv => lhs; whnf) (by first | exact .inl rfl | exact .inr ⟨rfl, rfl⟩) (by conv => lhs; whnf) (by first | exact .inr rfl | exact .inl rfl) (map_app _ _) (fit_map g58))) (by decide) ?_
        refine ao_cons (acts_of rfl (does_move (v := .own 9 0) (by exact rfl))) (by decide) ?_
        obtain ⟨g59, h⟩ := gd_some h
        refine ao_cons (acts_of rfl (do_append (v := List.map enc5 ((v8_s_1 ++ [(u8 (bits .or .u8 a2 128)), (0 : UInt8)]) ++ v9_s_3)) (by conv => lhs; whnf) (by conv => lhs; whnf) ty51 ty5 rfl rfl (by conv => lhs; whnf) (by first | exact .inl rfl | exact .inr ⟨rfl, rfl⟩) (by conv => lhs; whnf) (by first | exact .inr rfl | exact .inl rfl) (map_app _ _) (fit_map g59))) (by decide) ?_
        obtain ⟨x60, hx60, h⟩ := bnd_some h
        refine ao_cons (acts_of rfl (does_frz (d := 84) (n := 0) (by conv => lhs; whnf) (do_callG (bcs := []) [] [] [(84, 0)] 85 false (frame_Split_ok ((v8_s_1 ++ [(u8 (bits .or .u8 a2 128)), (0 : UInt8)]) ++ v9_s_3) hx60) rfl ent32 trivial trivial rfl rfl rfl rfl rfl rfl rfl rfl (.inl ⟨⟨_, _, _, rfl⟩, trivial⟩)))) (by decide) ?_
        refine ao_cons (acts_of rfl (does_move (v := .tup [.own 85 0, .int .i64 x60.2]) (by exact rfl))) (by decide) ?_
        refine ao_cons (acts_of rfl (does_extract (v := .own 85 0) (by conv => lhs; whnf) (by exact rfl))) (by decide) ?_
        refine ao_cons (acts_of rfl (does_extract (v := .int .i64 x60.2) (by conv => lhs; whnf) (by exact rfl))) (by decide) ?_
        refine ao_cons (acts_of rfl (does_assign (v := .own 85 0) (by exact rfl))) (by decide) ?_
        refine ao_cons (acts_of rfl (does_assign (v := .int .i64 x60.2) (by exact rfl))) (by decide) ?_
        refine ao_nil_n ?_
        refine hK56 _ ?_
        refine aw_seq_k (fun K61 hK61 => ?_)
        refine aw_reg ?_
        refine ao_cons (acts_of rfl (does_move (v := .own 73 0) (by exact rfl))) (by decide) ?_
        refine ao_cons (acts_of rfl (does_move (v := .sl 1 (List.map enc51 a0)) (by exact rfl))) (by decide) ?_
        obtain ⟨g62, h⟩ := gd_some h
        refine ao_cons (acts_of rfl (do_append (v := List.map enc51 a0) (by conv => lhs; whnf) (by conv => lhs; whnf) ty52 ty51 rfl rfl (by conv => lhs; whnf) (by first | exact .inl rfl | exact .inr ⟨rfl, rfl⟩) (by conv => lhs; whnf) (by first | exact .inr rfl | exact .inl rfl) (List.nil_append _) (fit_map g62))) (by decide) ?_
        refine ao_cons (acts_of rfl (does_move (v := .sl 1 (List.map enc51 a1)) (by exact rfl))) (by decide) ?_
        obtain ⟨g63, h⟩ := gd_some h
        refine ao_cons (acts_of rfl (do_append (v := List.map enc51 (a0 ++ a1)) (by conv => lhs; whnf) (by conv => lhs; whnf) ty52 ty51 rfl rfl (by conv => lhs; whnf) (by first | exact .inl rfl | exact .inr ⟨rfl, rfl⟩) (by conv => lhs; whnf) (by first | exact .inr rfl | exact .inl rfl) (map_app _ _) (fit_map g63))) (by decide) ?_
        obtain ⟨x64, hx64, h⟩ := bnd_some h
        refine ao_cons (acts_of rfl (do_callG (bcs := []) [] [] [(73, 0), (92, 0)] 93 false (gleaninglaw5_same_ok x55.1 (a0 ++ a1) hx64) rfl ent36 trivial trivial rfl rfl rfl rfl rfl rfl rfl rfl (.inr ⟨rfl, rfl, trivial⟩))) (by decide) ?_
        refine ao_cons (acts_of rfl (does_move (v := .bool x64) (by exact rfl))) (by decide) ?_
        refine ao_bool (c := x64) 94 rfl (fun c65 => ?_) (fun c65 => ?_)
        · have h := ifT c65 h
          refine ao_cons (acts_of rfl (does_move (v := .int .i64 x55.2) (by exact rfl))) (by decide) ?_
          refine ao_cons (acts_of rfl (does_move (v := .own 8 0) (by exact rfl))) (by decide) ?_
          refine ao_cons (acts_of rfl ((does_len_own (by conv => lhs; whnf) (by conv => lhs; whnf) ty51).cast (v' := .int .i64 (List.length v8_s_1 : Int)) (by exact len_map _))) (by decide) ?_
          refine ao_cons (acts_of rfl (does_move (v := .own 9 0) (by exact rfl))) (by decide) ?_
          refine ao_cons (acts_of rfl ((does_len_own (by conv => lhs; whnf) (by conv => lhs; whnf) ty51).cast (v' := .int .i64 (List.length v9_s_3 : Int)) (by exact len_map _))) (by decide) ?_
          refine ao_cons (acts_of rfl (does_bin (v := .int .i64 (IntKind.i64.wrap ((List.length v8_s_1 : Int) + (List.length v9_s_3 : Int)))) (by conv => lhs; whnf) (by conv => lhs; whnf) rfl)) (by decide) ?_
          refine ao_cons (acts_of rfl (does_bin (v := .bool (x55.2 == (IntKind.i64.wrap ((List.length v8_s_1 : Int) + (List.length v9_s_3 : Int))))) (by conv => lhs; whnf) (by conv => lhs; whnf) rfl)) (by decide) ?_
          refine ao_cons (acts_of rfl (does_pick (v := .bool (x55.2 == (IntKind.i64.wrap ((List.length v8_s_1 : Int) + (List.length v9_s_3 : Int))))) (by conv => lhs; whnf) (by exact rfl))) (by decide) ?_
          refine ao_cons (acts_of rfl (does_move (v := .bool (x55.2 == (IntKind.i64.wrap ((List.length v8_s_1 : Int) + (List.length v9_s_3 : Int))))) (by exact rfl))) (by decide) ?_
          refine ao_bool (c := (x55.2 == (IntKind.i64.wrap ((List.length v8_s_1 : Int) + (List.length v9_s_3 : Int))))) 103 rfl (fun c66 => ?_) (fun c66 => ?_)
          · have h := ifT c66 h
            refine ao_cons (acts_of rfl (does_move (v := .own 85 0) (by exact rfl))) (by decide) ?_
            refine ao_cons (acts_of rfl (does_move (v := .sl 1 (List.map enc51 a0)) (by exact rfl))) (by decide) ?_
            obtain ⟨x67, hx67, h⟩ := bnd_some h
            refine ao_cons (acts_of rfl (do_callG (bcs := []) [] [] [(85, 0)] 106 false (gleaninglaw5_same_ok x60.1 a0 hx67) rfl ent36 trivial trivial rfl rfl rfl rfl rfl rfl rfl rfl (.inr ⟨rfl, rfl, trivial⟩))) (by decide) ?_
            refine ao_cons (acts_of rfl (does_pick (v := .bool x67) (by conv => lhs; whnf) (by exact rfl))) (by decide) ?_
            refine ao_cons (acts_of rfl (does_move (v := .bool x67) (by exact rfl))) (by decide) ?_
            refine ao_bool (c := x67) 108 rfl (fun c68 => ?_) (fun c68 => ?_)
            · have h := ifT c68 h
              refine ao_cons (acts_of rfl (does_move (v := .int .i64 x60.2) (by exact rfl))) (by decide) ?_
              refine ao_cons (acts_of rfl (does_move (v := .own 8 0) (by exact rfl))) (by decide) ?_
              refine ao_cons (acts_of rfl ((does_len_own (by conv => lhs; whnf) (by conv => lhs; whnf) ty51).cast (v' := .int .i64 (List.length v8_s_1 : Int)) (by exact len_map _))) (by decide) ?_
              refine ao_cons (acts_of rfl (does_bin (v := .bool (x60.2 == (List.length v8_s_1 : Int))) (by conv => lhs; whnf) (by conv => lhs; whnf) rfl)) (by decide) ?_
              refine ao_cons (acts_of rfl (does_pick (v := .bool (x60.2 == (List.length v8_s_1 : Int))) (by conv => lhs; whnf) (by exact rfl))) (by decide) ?_
              refine ao_cons (acts_of rfl (does_assign (v := .bool (x60.2 == (List.length v8_s_1 : Int))) (by exact rfl))) (by decide) ?_
              refine ao_nil_n ?_
              refine hK61 _ ?_
              refine aw_ret ?_
              obtain rfl := Option.some.inj h
              exact ret_ok1 (by conv => lhs; whnf) (by conv => lhs; whnf) (by exact rfl) (.inr rfl) rfl
            · have h := ifF c68 h
              refine ao_cons (acts_skip rfl) (by decide) ?_
              refine ao_cons (acts_skip rfl) (by decide) ?_
              refine ao_cons (acts_skip rfl) (by decide) ?_
              refine ao_cons (acts_skip rfl) (by decide) ?_
              refine ao_cons (acts_of rfl (does_pick (v := .bool false) (by conv => lhs; whnf) (by exact rfl))) (by decide) ?_
              refine ao_cons (acts_of rfl (does_assign (v := .bool false) (by exact rfl))) (by decide) ?_
              refine ao_nil_n ?_
              refine hK61 _ ?_
              refine aw_ret ?_
              obtain rfl := Option.some.inj h
              exact ret_ok1 (by conv => lhs; whnf) (by conv => lhs; whnf) (by exact rfl) (.inr rfl) rfl
          · have h := ifF c66 h
            refine ao_cons (acts_skip rfl) (by decide) ?_
            refine ao_cons (acts_skip rfl) (by decide) ?_
            refine ao_cons (acts_skip rfl) (by decide) ?_
            refine ao_cons (acts_of rfl (does_pick (v := .bool false) (by conv => lhs; whnf) (by exact rfl))) (by decide) ?_
            refine ao_cons (acts_of rfl (does_move (v := .bool false) (by exact rfl))) (by decide) ?_
            refine ao_cons (acts_skip rfl) (by decide) ?_
            refine ao_cons (acts_skip rfl) (by decide) ?_
            refine ao_cons (acts_skip rfl) (by decide) ?_
            refine ao_cons (acts_skip rfl) (by decide) ?_
            refine ao_cons (acts_of rfl (does_pick (v := .bool false) (by conv => lhs; whnf) (by exact rfl))) (by decide) ?_
            refine ao_cons (acts_of rfl (does_assign (v := .bool false) (by exact rfl))) (by decide) ?_
            refine ao_nil_n ?_
            refine hK61 _ ?_
            refine aw_ret ?_
            obtain rfl := Option.some.inj h
            exact ret_ok1 (by conv => lhs; whnf) (by conv => lhs; whnf) (by exact rfl) (.inr rfl) rfl
        · have h := ifF c65 h
          refine ao_cons (acts_skip rfl) (by decide) ?_
          refine ao_cons (acts_skip rfl) (by decide) ?_
          refine ao_cons (acts_skip rfl) (by decide) ?_
          refine ao_cons (acts_skip rfl) (by decide) ?_
          refine ao_cons (acts_skip rfl) (by decide) ?_
          refine ao_cons (acts_skip rfl) (by decide) ?_
          refine ao_cons (acts_skip rfl) (by decide) ?_
          refine ao_cons (acts_of rfl (does_pick (v := .bool false) (by conv => lhs; whnf) (by exact rfl))) (by decide) ?_
          refine ao_cons (acts_of rfl (does_move (v := .bool false) (by exact rfl))) (by decide) ?_
          refine ao_cons (acts_skip rfl) (by decide) ?_
          refine ao_cons (acts_skip rfl) (by decide) ?_
          refine ao_cons (acts_skip rfl) (by decide) ?_
          refine ao_cons (acts_of rfl (does_pick (v := .bool false) (by conv => lhs; whnf) (by exact rfl))) (by decide) ?_
          refine ao_cons (acts_of rfl (does_move (v := .bool false) (by exact rfl))) (by decide) ?_
          refine ao_cons (acts_skip rfl) (by decide) ?_
          refine ao_cons (acts_skip rfl) (by decide) ?_
          refine ao_cons (acts_skip rfl) (by decide) ?_
          refine ao_cons (acts_skip rfl) (by decide) ?_
          refine ao_cons (acts_of rfl (does_pick (v := .bool false) (by conv => lhs; whnf) (by exact rfl))) (by decide) ?_
          refine ao_cons (acts_of rfl (does_assign (v := .bool false) (by exact rfl))) (by decide) ?_
          refine ao_nil_n ?_
          refine hK61 _ ?_
          refine aw_ret ?_
          obtain rfl := Option.some.inj h
          exact ret_ok1 (by conv => lhs; whnf) (by conv => lhs; whnf) (by exact rfl) (.inr rfl) rfl
theorem sh5 : ∀ (m : Nat) (cs : List PV), Shape Try.prog m 5 cs → ∃ a : Int, cs = [.int .u8 a] ∧ (inI .u8 a) := fun m cs h => shape_i h Try.underlying5
def gleaninglaw5_FrameTurned_k3 (a0 : List (List UInt8)) (v10_s_2 : List UInt8) (v12_2 : Int) (v11_3 : Int) : Option ((List UInt8 × Int × Int) ⊕ ((List UInt8 × Int) ⊕ Bool)) :=
  gd (0 ≤ v12_2) (Option.bind (a0[(Int.toNat v12_2)]?) (fun (x45 : List UInt8) => Option.bind (frame_Bytes x45) (fun (x46 : List UInt8) => gd ((List.length (v10_s_2 ++ x46)) * 1 ≤ 140737488355328 ∧ (List.length (v10_s_2 ++ x46)) ≤ 140737488355328) (some (Sum.inl ((v10_s_2 ++ x46), v11_3, (IntKind.i64.wrap (v12_2 + 1))))))))
def gleaninglaw5_FrameTurned_l2 (a0 : List (List UInt8)) (a1 : Int) (v10_s_2 : List UInt8) (v11_2 : Int) (v12_2 : Int) : Option ((List UInt8 × Int × Int) ⊕ ((List UInt8 × Int) ⊕ Bool)) :=
  if (decide (v12_2 < (List.length a0 : Int))) = true then (gd (0 ≤ v12_2) (Option.bind (a0[(Int.toNat v12_2)]?) (fun (x37 : List UInt8) => if (decide ((100 : Int) < (List.length x37 : Int))) = true then (some (Sum.inr (Sum.inr true))) else (Option.bind (if (v12_2 == a1) = true then (some (List.length v10_s_2 : Int)) else (some v11_2)) (fun (s : Int) => gleaninglaw5_FrameTurned_k3 a0 v10_s_2 v12_2 s))))) else (some (Sum.inr (Sum.inl (v10_s_2, v11_2))))
def gleaninglaw5_FrameTurned_k1 (a0 : List (List UInt8)) (a1 : Int) (a2 : Int) (a3 : Int) (v10_s_1 : List UInt8) (v11_1 : Int) : Option Bool :=
  gd (0 ≤ a1) (Option.bind (a0[(Int.toNat a1)]?) (fun (x51 : List UInt8) => if ((List.length x51 : Int) == 0) = true then (some true) else (gd (0 ≤ a1) (Option.bind (a0[(Int.toNat a1)]?) (fun (x56 : List UInt8) => gd (¬ (List.length x56 : Int) = 0) (if (decide ((List.length v10_s_1 : Int) ≤ (IntKind.i64.wrap ((IntKind.i64.wrap (v11_1 + 5)) + (Int.tmod a2 (List.length x56 : Int)))))) = true then (some false) else (gd (0 ≤ (IntKind.i64.wrap ((IntKind.i64.wrap (v11_1 + 5)) + (Int.tmod a2 (List.length x56 : Int))))) (Option.bind (v10_s_1[(Int.toNat (IntKind.i64.wrap ((IntKind.i64.wrap (v11_1 + 5)) + (Int.tmod a2 (List.length x56 : Int)))))]?) (fun (x64 : UInt8) => gd (¬ (IntKind.u64.wrap a3) < 0) (gd (0 ≤ (IntKind.i64.wrap ((IntKind.i64.wrap (v11_1 + 5)) + (Int.tmod a2 (List.length x56 : Int))))) (Option.bind (v10_s_1[(Int.toNat (IntKind.i64.wrap ((IntKind.i64.wrap (v11_1 + 5)) + (Int.tmod a2 (List.length x56 : Int)))))]?) (fun (x67 : UInt8) => Option.bind (frame_Split (List.set v10_s_1 (Int.toNat (IntKind.i64.wrap ((IntKind.i64.wrap (v11_1 + 5)) + (Int.tmod a2 (List.length x56 : Int))))) (u8 (bits .xor .u8 (x64.toNat : Int) ((u8 (IntKind.u8.wrap (1 * 2 ^ (min (Int.toNat (IntKind.u64.wrap a3)) (IntKind.bits .u8))))).toNat : Int))))) (fun (x69 : List (List UInt8) × Int) => gd (0 ≤ a1) (gd (a1 ≤ (List.length a0 : Int)) (Option.bind (gleaninglaw5_same x69.1 (List.take (Int.toNat a1) a0)) (fun (x73 : Bool) => if x73 = true then (some (x69.2 == v11_1)) else (some false)))))))))))))))))
def gleaninglaw5_FrameTurned_k0 (a0 : List (List UInt8)) (a1 : Int) (a2 : Int) (a3 : Int) : Option Bool :=
  Option.bind (loopN (fun (s : List UInt8 × Int × Int) => gleaninglaw5_FrameTurned_l2 a0 a1 s.1 s.2.1 s.2.2) Fu ([], 0, 0)) (Sum.elim (fun (s : List UInt8 × Int) => gleaninglaw5_FrameTurned_k1 a0 a1 a2 a3 s.1 s.2) some)
def gleaninglaw5_FrameTurned (a0 : List (List UInt8)) (a1 : Int) (a2 : Int) (a3 : Int) : Option Bool :=
  Option.bind (gleaninglaw5_alive) (fun (x3 : Bool) => Option.bind (if (!x3) = true then (some (Sum.inr x3)) else (if (decide ((List.length a0 : Int) < 1)) = true then (some (Sum.inr x3)) else (if (decide ((12 : Int) < (List.length a0 : Int))) = true then (some (Sum.inr x3)) else (if (decide (a1 < 0)) = true then (some (Sum.inr x3)) else (if (decide ((List.length a0 : Int) ≤ a1)) = true then (some (Sum.inr x3)) else (if (decide (a2 < 0)) = true then (some (Sum.inr x3)) else (if (decide (a3 < 0)) = true then (some (Sum.inr x3)) else (if (decide ((7 : Int) < a3)) = true then (some (Sum.inr x3)) else (some (Sum.inl ())))))))))) (Sum.elim (fun (s : Unit) => gleaninglaw5_FrameTurned_k0 a0 a1 a2 a3) some))
set_option maxRecDepth 100000 in
set_option maxHeartbeats 8000000 in
/-- gleaning/gleaninglaw5.FrameTurned -/
theorem gleaninglaw5_FrameTurned_ok (a0 : List (List UInt8)) (a1 : Int) (a2 : Int) (a3 : Int) {r : Bool} (h : gleaninglaw5_FrameTurned a0 a1 a2 a3 = some r) : Ok Try.prog 11 [.sl 1 (List.map enc51 a0), .int .i64 a1, .int .i64 a2, .int .i64 a3] [] [] (.bool r) [] [] := by
  unfold gleaninglaw5_FrameTurned at h
  refine ok_of_code Try.func11 rfl (by show (4 : Nat) ≤ _; decide) (Nat.le_refl _) fun X => ?_
  refine aw_seq_k (fun K1 hK1 => ?_)
  refine aw_reg ?_
  refine ao_cons (acts_of rfl (does_assign (v := .bool false) (by exact rfl))) (by decide) ?_
  refine ao_nil_n ?_
  refine hK1 _ ?_
  refine aw_seq_k (fun K2 hK2 => ?_)
  refine aw_reg ?_
  obtain ⟨x3, hx3, h⟩ := bnd_some h
  refine ao_cons (acts_of rfl (do_call0 16 false (gleaninglaw5_alive_ok hx3) rfl ent31 rfl rfl)) (by decide) ?_
  refine ao_cons (acts_of rfl (does_assign (v := .bool x3) (by exact rfl))) (by decide) ?_
  refine ao_nil_n ?_
  refine hK2 _ ?_
  obtain ⟨q4, h, hk5⟩ := bnd_some h
  refine aw_cut (fun s => gleaninglaw5_FrameTurned_k0 a0 a1 a2 a3 = some r ∧ s = lit [(0, .sl 1 (List.map enc51 a0)), (1, .int .i64 a1), (2, .int .i64 a2), (3, .int .i64 a3)] [] [] X) ?_ ?_
  · skip
    refine aw_seq_k (fun K6 hK6 => ?_)
    refine aw_reg ?_
    refine ao_cons (acts_of rfl (does_move (v := .bool x3) (by exact rfl))) (by decide) ?_
    refine ao_cons (acts_of rfl (does_un (v := .bool (!x3)) (by conv => lhs; whnf) rfl)) (by decide) ?_
    refine ao_cons (acts_of rfl (does_move (v := .bool (!x3)) (by exact rfl))) (by decide) ?_
    refine ao_bool (c := (!x3)) 19 rfl (fun c7 => ?_) (fun c7 => ?_)
    · have h := ifT c7 h
      refine ao_cons (acts_skip rfl) (by decide) ?_
      refine ao_cons (acts_skip rfl) (by decide) ?_
      refine ao_cons (acts_skip rfl) (by decide) ?_
      refine ao_cons (acts_of rfl (does_pick (v := .bool true) (by conv => lhs; whnf) (by exact rfl))) (by decide) ?_
      refine ao_cons (acts_of rfl (does_move (v := .bool true) (by exact rfl))) (by decide) ?_
      refine ao_cons (acts_skip rfl) (by decide) ?_
      refine ao_cons (acts_skip rfl) (by decide) ?_
      refine ao_cons (acts_skip rfl) (by decide) ?_
      refine ao_cons (acts_of rfl (does_pick (v := .bool true) (by conv => lhs; whnf) (by exact rfl))) (by decide) ?_
      refine ao_cons (acts_of rfl (does_move (v := .bool true) (by exact rfl))) (by decide) ?_
      refine ao_cons (acts_skip rfl) (by decide) ?_
      refine ao_cons (acts_skip rfl) (by decide) ?_
      refine ao_cons (acts_of rfl (does_pick (v := .bool true) (by conv => lhs; whnf) (by exact rfl))) (by decide) ?_
      refine ao_cons (acts_of rfl (does_move (v := .bool true) (by exact rfl))) (by decide) ?_
      refine ao_cons (acts_skip rfl) (by decide) ?_
      refine ao_cons (acts_skip rfl) (by decide) ?_
      refine ao_cons (acts_skip rfl) (by decide) ?_
      refine ao_cons (acts_skip rfl) (by decide) ?_
      refine ao_cons (acts_of rfl (does_pick (v := .bool true) (by conv => lhs; whnf) (by exact rfl))) (by decide) ?_
      refine ao_cons (acts_of rfl (does_move (v := .bool true) (by exact rfl))) (by decide) ?_
      refine ao_cons (acts_skip rfl) (by decide) ?_
      refine ao_cons (acts_skip rfl) (by decide) ?_
      refine ao_cons (acts_of rfl (does_pick (v := .bool true) (by conv => lhs; whnf) (by exact rfl))) (by decide) ?_
      refine ao_cons (acts_of rfl (does_move (v := .bool true) (by exact rfl))) (by decide) ?_
      refine ao_cons (acts_skip rfl) (by decide) ?_
      refine ao_cons (acts_skip rfl) (by decide) ?_
      refine ao_cons (acts_of rfl (does_pick (v := .bool true) (by conv => lhs; whnf) (by exact rfl))) (by decide) ?_
      refine ao_cons (acts_of rfl (does_move (v := .bool true) (by exact rfl))) (by decide) ?_
      refine ao_cons (acts_skip rfl) (by decide) ?_
      refine ao_cons (acts_skip rfl) (by decide) ?_
      refine ao_cons (acts_of rfl (does_pick (v := .bool true) (by conv => lhs; whnf) (by exact rfl))) (by decide) ?_
      refine ao_nil_n ?_
      refine hK6 _ ?_
      refine aw_cond_t (by decide) rfl ?_
      refine aw_seq_k (fun K8 hK8 => ?_)
      refine aw_reg ?_
      refine ao_cons (acts_of rfl (does_move (v := .bool x3) (by exact rfl))) (by decide) ?_
      refine ao_cons (acts_of rfl (does_assign (v := .bool x3) (by exact rfl))) (by decide) ?_
      refine ao_nil_n ?_
      refine hK8 _ ?_
      refine aw_ret ?_
      have h := leafR h hk5
      obtain rfl := Option.some.inj h
      exact ret_ok1 (by conv => lhs; whnf) (by conv => lhs; whnf) (by exact rfl) (.inr rfl) rfl
    · have h := ifF c7 h
      refine ao_cons (acts_of rfl (does_move (v := .sl 1 (List.map enc51 a0)) (by exact rfl))) (by decide) ?_
      refine ao_cons (acts_of rfl ((does_len_sl (by conv => lhs; whnf) ty52).castp (v' := .int .i64 (List.length a0 : Int)) (by exact len_map _))) (by decide) ?_
      refine ao_cons (acts_of rfl (does_bin (v := .bool (decide ((List.length a0 : Int) < 1))) (by conv => lhs; whnf) (by conv => lhs; whnf) rfl)) (by decide) ?_
      refine ao_cons (acts_of rfl (does_pick (v := .bool (decide ((List.length a0 : Int) < 1))) (by conv => lhs; whnf) (by exact rfl))) (by decide) ?_
      refine ao_cons (acts_of rfl (does_move (v := .bool (decide ((List.length a0 : Int) < 1))) (by exact rfl))) (by decide) ?_
      refine ao_bool (c := (decide ((List.length a0 : Int) < 1))) 24 rfl (fun c9 => ?_) (fun c9 => ?_)
      · have h := ifT c9 h
        refine ao_cons (acts_skip rfl) (by decide) ?_
        refine ao_cons (acts_skip rfl) (by decide) ?_
        refine ao_cons (acts_skip rfl) (by decide) ?_
        refine ao_cons (acts_of rfl (does_pick (v := .bool true) (by conv => lhs; whnf) (by exact rfl))) (by decide) ?_
        refine ao_cons (acts_of rfl (does_move (v := .bool true) (by exact rfl))) (by decide) ?_
        refine ao_cons (acts_skip rfl) (by decide) ?_
        refine ao_cons (acts_skip rfl) (by decide) ?_
        refine ao_cons (acts_of rfl (does_pick (v := .bool true) (by conv => lhs; whnf) (by exact rfl))) (by decide) ?_
        refine ao_cons (acts_of rfl (does_move (v := .bool true) (by exact rfl))) (by decide) ?_
        refine ao_cons (acts_skip rfl) (by decide) ?_
        refine ao_cons (acts_skip rfl) (by decide) ?_
        refine ao_cons (acts_skip rfl) (by decide) ?_
        refine ao_cons (acts_skip rfl) (by decide) ?_
        refine ao_cons (acts_of rfl (does_pick (v := .bool true) (by conv => lhs; whnf) (by exact rfl))) (by decide) ?_
        refine ao_cons (acts_of rfl (does_move (v := .bool true) (by exact rfl))) (by decide) ?_
        refine ao_cons (acts_skip rfl) (by decide) ?_
        refine ao_cons (acts_skip rfl) (by decide) ?_
        refine ao_cons (acts_of rfl (does_pick (v := .bool true) (by conv => lhs; whnf) (by exact rfl))) (by decide) ?_
        refine ao_cons (acts_of rfl (does_move (v := .bool true) (by exact rfl))) (by decide) ?_
        refine ao_cons (acts_skip rfl) (by decide) ?_
        refine ao_cons (acts_skip rfl) (by decide) ?_
        refine ao_cons (acts_of rfl (does_pick (v := .bool true) (by conv => lhs; whnf) (by exact rfl))) (by decide) ?_
        refine ao_cons (acts_of rfl (does_move (v := .bool true) (by exact rfl))) (by decide) ?_
        refine ao_cons (acts_skip rfl) (by decide) ?_
        refine ao_cons (acts_skip rfl) (by decide) ?_
        refine ao_cons (acts_of rfl (does_pick (v := .bool true) (by conv => lhs; whnf) (by exact rfl))) (by decide) ?_
        refine ao_nil_n ?_
        refine hK6 _ ?_
        refine aw_cond_t (by decide) rfl ?_
        refine aw_seq_k (fun K10 hK10 => ?_)
        refine aw_reg ?_
        refine ao_cons (acts_of rfl (does_move (v := .bool x3) (by exact rfl))) (by decide) ?_
        refine ao_cons (acts_of rfl (does_assign (v := .bool x3) (by exact rfl))) (by decide) ?_
        refine ao_nil_n ?_
        refine hK10 _ ?_
        refine aw_ret ?_
        have h := leafR h hk5
        obtain rfl := Option.some.inj h
        exact ret_ok1 (by conv => lhs; whnf) (by conv => lhs; whnf) (by exact rfl) (.inr rfl) rfl
      · have h := ifF c9 h
        refine ao_cons (acts_of rfl (does_move (v := .sl 1 (List.map enc51 a0)) (by exact rfl))) (by decide) ?_
        refine ao_cons (acts_of rfl ((does_len_sl (by conv => lhs; whnf) ty52).castp (v' := .int .i64 (List.length a0 : Int)) (by exact len_map _))) (by decide) ?_
        refine ao_cons (acts_of rfl (does_bin (v := .bool (decide ((12 : Int) < (List.length a0 : Int)))) (by conv => lhs; whnf) (by conv => lhs; whnf) rfl)) (by decide) ?_
        refine ao_cons (acts_of rfl (does_pick (v := .bool (decide ((12 : Int) < (List.length a0 : Int)))) (by conv => lhs; whnf) (by exact rfl))) (by decide) ?_
        refine ao_cons (acts_of rfl (does_move (v := .bool (decide ((12 : Int) < (List.length a0 : Int)))) (by exact rfl))) (by decide) ?_
        refine ao_bool (c := (decide ((12 : Int) < (List.length a0 : Int)))) 29 rfl (fun c11 => ?_) (fun c11 => ?_)
        · have h := ifT c11 h
          refine ao_cons (acts_skip rfl) (by decide) ?_
          refine ao_cons (acts_skip rfl) (by decide) ?_
          refine ao_cons (acts_of rfl (does_pick (v := .bool true) (by conv => lhs; whnf) (by exact rfl))) (by decide) ?_
          refine ao_cons (acts_of rfl (does_move (v := .bool true) (by exact rfl))) (by decide) ?_
          refine ao_cons (acts_skip rfl) (by decide) ?_
          refine ao_cons (acts_skip rfl) (by decide) ?_
          refine ao_cons (acts_skip rfl) (by decide) ?_
          refine ao_cons (acts_skip rfl) (by decide) ?_
          refine ao_cons (acts_of rfl (does_pick (v := .bool true) (by conv => lhs; whnf) (by exact rfl))) (by decide) ?_
          refine ao_cons (acts_of rfl (does_move (v := .bool true) (by exact rfl))) (by decide) ?_
          refine ao_cons (acts_skip rfl) (by decide) ?_
          refine ao_cons (acts_skip rfl) (by decide) ?_
          refine ao_cons (acts_of rfl (does_pick (v := .bool true) (by conv => lhs; whnf) (by exact rfl))) (by decide) ?_
          refine ao_cons (acts_of rfl (does_move (v := .bool true) (by exact rfl))) (by decide) ?_
          refine ao_cons (acts_skip rfl) (by decide) ?_
          refine ao_cons (acts_skip rfl) (by decide) ?_
          refine ao_cons (acts_of rfl (does_pick (v := .bool true) (by conv => lhs; whnf) (by exact rfl))) (by decide) ?_
          refine ao_cons (acts_of rfl (does_move (v := .bool true) (by exact rfl))) (by decide) ?_
          refine ao_cons (acts_skip rfl) (by decide) ?_
          refine ao_cons (acts_skip rfl) (by decide) ?_
          refine ao_cons (acts_of rfl (does_pick (v := .bool true) (by conv => lhs; whnf) (by exact rfl))) (by decide) ?_
          refine ao_nil_n ?_
          refine hK6 _ ?_
          refine aw_cond_t (by decide) rfl ?_
          refine aw_seq_k (fun K12 hK12 => ?_)
          refine aw_reg ?_
          refine ao_cons (acts_of rfl (does_move (v := .bool x3) (by exact rfl))) (by decide) ?_
          refine ao_cons (acts_of rfl (does_assign (v := .bool x3) (by exact rfl))) (by decide) ?_
          refine ao_nil_n ?_
          refine hK12 _ ?_
          refine aw_ret ?_
          have h := leafR h hk5
          obtain rfl := Option.some.inj h
          exact ret_ok1 (by conv => lhs; whnf) (by conv => lhs; whnf) (by exact rfl) (.inr rfl) rfl
        · have h := ifF c11 h
          refine ao_cons (acts_of rfl (does_move (v := .int .i64 a1) (by exact rfl))) (by decide) ?_
          refine ao_cons (acts_of rfl (does_bin (v := .bool (decide (a1 < 0))) (by conv => lhs; whnf) (by conv => lhs; whnf) rfl)) (by decide) ?_
          refine ao_cons (acts_of rfl (does_pick (v := .bool (decide (a1 < 0))) (by conv => lhs; whnf) (by exact rfl))) (by decide) ?_
          refine ao_cons (acts_of rfl (does_move (v := .bool (decide (a1 < 0))) (by exact rfl))) (by decide) ?_
          refine ao_bool (c := (decide (a1 < 0))) 33 rfl (fun c13 => ?_) (fun c13 => ?_)
          · have h := ifT c13 h
            refine ao_cons (acts_skip rfl) (by decide) ?_
            refine ao_cons (acts_skip rfl) (by decide) ?_
            refine ao_cons (acts_skip rfl) (by decide) ?_
            refine ao_cons (acts_skip rfl) (by decide) ?_
            refine ao_cons (acts_of rfl (does_pick (v := .bool true) (by conv => lhs; whnf) (by exact rfl))) (by decide) ?_
            refine ao_cons (acts_of rfl (does_move (v := .bool true) (by exact rfl))) (by decide) ?_
            refine ao_cons (acts_skip rfl) (by decide) ?_
            refine ao_cons (acts_skip rfl) (by decide) ?_
            refine ao_cons (acts_of rfl (does_pick (v := .bool true) (by conv => lhs; whnf) (by exact rfl))) (by decide) ?_
            refine ao_cons (acts_of rfl (does_move (v := .bool true) (by exact rfl))) (by decide) ?_
            refine ao_cons (acts_skip rfl) (by decide) ?_
            refine ao_cons (acts_skip rfl) (by decide) ?_
            refine ao_cons (acts_of rfl (does_pick (v := .bool true) (by conv => lhs; whnf) (by exact rfl))) (by decide) ?_
            refine ao_cons (acts_of rfl (does_move (v := .bool true) (by exact rfl))) (by decide) ?_
            refine ao_cons (acts_skip rfl) (by decide) ?_
            refine ao_cons (acts_skip rfl) (by decide) ?_
            refine ao_cons (acts_of rfl (does_pick (v := .bool true) (by conv => lhs; whnf) (by exact rfl))) (by decide) ?_
            refine ao_nil_n ?_
            refine hK6 _ ?_
            refine aw_cond_t (by decide) rfl ?_
            refine aw_seq_k (fun K14 hK14 => ?_)
            refine aw_reg ?_
            refine ao_cons (acts_of rfl (does_move (v := .bool x3) (by exact rfl))) (by decide) ?_
            refine ao_cons (acts_of rfl (does_assign (v := .bool x3) (by exact rfl))) (by decide) ?_
            refine ao_nil_n ?_
            refine hK14 _ ?_
            refine aw_ret ?_
            have h := leafR h hk5
            obtain rfl := Option.some.inj h
            exact ret_ok1 (by conv => lhs; whnf) (by conv => lhs; whnf) (by exact rfl) (.inr rfl) rfl
          · have h := ifF c13 h
            refine ao_cons (acts_of rfl (does_move (v := .int .i64 a1) (by exact rfl))) (by decide) ?_
            refine ao_cons (acts_of rfl (does_move (v := .sl 1 (List.map enc51 a0)) (by exact rfl))) (by decide) ?_
            refine ao_cons (acts_of rfl ((does_len_sl (by conv => lhs; whnf) ty52).castp (v' := .int .i64 (List.length a0 : Int)) (by exact len_map _))) (by decide) ?_
            refine ao_cons (acts_of rfl (does_bin (v := .bool (decide ((List.length a0 : Int) ≤ a1))) (by conv => lhs; whnf) (by conv => lhs; whnf) rfl)) (by decide) ?_
            refine ao_cons (acts_of rfl (does_pick (v := .bool (decide ((List.length a0 : Int) ≤ a1))) (by conv => lhs; whnf) (by exact rfl))) (by decide) ?_
            refine ao_cons (acts_of rfl (does_move (v := .bool (decide ((List.length a0 : Int) ≤ a1))) (by exact rfl))) (by decide) ?_
            refine ao_bool (c := (decide ((List.length a0 : Int) ≤ a1))) 39 rfl (fun c15 => ?_) (fun c15 => ?_)
            · have h := ifT c15 h
              refine ao_cons (acts_skip rfl) (by decide) ?_
              refine ao_cons (acts_skip rfl) (by decide) ?_
              refine ao_cons (acts_of rfl (does_pick (v := .bool true) (by conv => lhs; whnf) (by exact rfl))) (by decide) ?_
              refine ao_cons (acts_of rfl (does_move (v := .bool true) (by exact rfl))) (by decide) ?_
              refine ao_cons (acts_skip rfl) (by decide) ?_
              refine ao_cons (acts_skip rfl) (by decide) ?_
              refine ao_cons (acts_of rfl (does_pick (v := .bool true) (by conv => lhs; whnf) (by exact rfl))) (by decide) ?_
              refine ao_cons (acts_of rfl (does_move (v := .bool true) (by exact rfl))) (by decide) ?_
              refine ao_cons (acts_skip rfl) (by decide) ?_
              refine ao_cons (acts_skip rfl) (by decide) ?_
              refine ao_cons (acts_of rfl (does_pick (v := .bool true) (by conv => lhs; whnf) (by exact rfl))) (by decide) ?_
              refine ao_nil_n ?_
              refine hK6 _ ?_
              refine aw_cond_t (by decide) rfl ?_
              refine aw_seq_k (fun K16 hK16 => ?_)
              refine aw_reg ?_
              refine ao_cons (acts_of rfl (does_move (v := .bool x3) (by exact rfl))) (by decide) ?_
              refine ao_cons (acts_of rfl (does_assign (v := .bool x3) (by exact rfl))) (by decide) ?_
              refine ao_nil_n ?_
              refine hK16 _ ?_
              refine aw_ret ?_
              have h := leafR h hk5
              obtain rfl := Option.some.inj h
              exact ret_ok1 (by conv => lhs; whnf) (by conv => lhs; whnf) (by exact rfl) (.inr rfl) rfl
            · have h := ifF c15 h
              refine ao_cons (acts_of rfl (does_move (v := .int .i64 a2) (by exact rfl))) (by decide) ?_
              refine ao_cons (acts_of rfl (does_bin (v := .bool (decide (a2 < 0))) (by conv => lhs; whnf) (by conv => lhs; whnf) rfl)) (by decide) ?_
              refine ao_cons (acts_of rfl (does_pick (v := .bool (decide (a2 < 0))) (by conv => lhs; whnf) (by exact rfl))) (by decide) ?_
              refine ao_cons (acts_of rfl (does_move (v := .bool (decide (a2 < 0))) (by exact rfl))) (by decide) ?_
              refine ao_bool (c := (decide (a2 < 0))) 43 rfl (fun c17 => ?_) (fun c17 => ?_)
              · have h := ifT c17 h
                refine ao_cons (acts_skip rfl) (by decide) ?_
                refine ao_cons (acts_skip rfl) (by decide) ?_
                refine ao_cons (acts_of rfl (does_pick (v := .bool true) (by conv => lhs; whnf) (by exact rfl))) (by decide) ?_
                refine ao_cons (acts_of rfl (does_move (v := .bool true) (by exact rfl))) (by decide) ?_
                refine ao_cons (acts_skip rfl) (by decide) ?_
                refine ao_cons (acts_skip rfl) (by decide) ?_
                refine ao_cons (acts_of rfl (does_pick (v := .bool true) (by conv => lhs; whnf) (by exact rfl))) (by decide) ?_
                refine ao_nil_n ?_
                refine hK6 _ ?_
                refine aw_cond_t (by decide) rfl ?_
                refine aw_seq_k (fun K18 hK18 => ?_)
                refine aw_reg ?_
                refine ao_cons (acts_of rfl (does_move (v := .bool x3) (by exact rfl))) (by decide) ?_
                refine ao_cons (acts_of rfl (does_assign (v := .bool x3) (by exact rfl))) (by decide) ?_
                refine ao_nil_n ?_
                refine hK18 _ ?_
                refine aw_ret ?_
                have h := leafR h hk5
                obtain rfl := Option.some.inj h
                exact ret_ok1 (by conv => lhs; whnf) (by conv => lhs; whnf) (by exact rfl) (.inr rfl) rfl
              · have h := ifF c17 h
                refine ao_cons (acts_of rfl (does_move (v := .int .i64 a3) (by exact rfl))) (by decide) ?_
                refine ao_cons (acts_of rfl (does_bin (v := .bool (decide (a3 < 0))) (by conv => lhs; whnf) (by conv => lhs; whnf) rfl)) (by decide) ?_
                refine ao_cons (acts_of rfl (does_pick (v := .bool (decide (a3 < 0))) (by conv => lhs; whnf) (by exact rfl))) (by decide) ?_
                refine ao_cons (acts_of rfl (does_move (v := .bool (decide (a3 < 0))) (by exact rfl))) (by decide) ?_
                refine ao_bool (c := (decide (a3 < 0))) 47 rfl (fun c19 => ?_) (fun c19 => ?_)
                · have h := ifT c19 h
                  refine ao_cons (acts_skip rfl) (by decide) ?_
                  refine ao_cons (acts_skip rfl) (by decide) ?_
                  refine ao_cons (acts_of rfl (does_pick (v := .bool true) (by conv => lhs; whnf) (by exact rfl))) (by decide) ?_
                  refine ao_nil_n ?_
                  refine hK6 _ ?_
                  refine aw_cond_t (by decide) rfl ?_
                  refine aw_seq_k (fun K20 hK20 => ?_)
                  refine aw_reg ?_
                  refine ao_cons (acts_of rfl (does_move (v := .bool x3) (by exact rfl))) (by decide) ?_
                  refine ao_cons (acts_of rfl (does_assign (v := .bool x3) (by exact rfl))) (by decide) ?_
                  refine ao_nil_n ?_
                  refine hK20 _ ?_
                  refine aw_ret ?_
                  have h := leafR h hk5
                  obtain rfl := Option.some.inj h
                  exact ret_ok1 (by conv => lhs; whnf) (by conv => lhs; whnf) (by exact rfl) (.inr rfl) rfl
                · have h := ifF c19 h
                  refine ao_cons (acts_of rfl (does_move (v := .int .i64 a3) (by exact rfl))) (by decide) ?_
                  refine ao_cons (acts_of rfl (does_bin (v := .bool (decide ((7 : Int) < a3))) (by conv => lhs; whnf) (by conv => lhs; whnf) rfl)) (by decide) ?_
                  refine ao_cons (acts_of rfl (does_pick (v := .bool (decide ((7 : Int) < a3))) (by conv => lhs; whnf) (by exact rfl))) (by decide) ?_
                  refine ao_nil_n ?_
                  refine hK6 _ ?_
                  refine aw_bool (b := (decide ((7 : Int) < a3))) 50 rfl (fun c21 => ?_) (fun c21 => ?_)
                  · have h := ifT c21 h
                    refine aw_cond_t (by decide) rfl ?_
                    refine aw_seq_k (fun K22 hK22 => ?_)
                    refine aw_reg ?_
                    refine ao_cons (acts_of rfl (does_move (v := .bool x3) (by exact rfl))) (by decide) ?_
                    refine ao_cons (acts_of rfl (does_assign (v := .bool x3) (by exact rfl))) (by decide) ?_
                    refine ao_nil_n ?_
                    refine hK22 _ ?_
                    refine aw_ret ?_
                    have h := leafR h hk5
                    obtain rfl := Option.some.inj h
                    exact ret_ok1 (by conv => lhs; whnf) (by conv => lhs; whnf) (by exact rfl) (.inr rfl) rfl
                  · have h := ifF c21 h
                    refine aw_cond_f (by decide) rfl ?_
                    refine aw_skip ?_
                    have h := leafL h hk5
                    exact ⟨_, reb_lit [(0, .sl 1 (List.map enc51 a0)), (1, .int .i64 a1), (2, .int .i64 a2), (3, .int .i64 a3)] [] [] [] (envOk_cons (by conv => lhs; whnf) (by exact rfl) (envOk_cons (by conv => lhs; whnf) (by exact rfl) (envOk_cons (by conv => lhs; whnf) (by exact rfl) (envOk_cons (by conv => lhs; whnf) (by exact rfl) envOk_nil)))) objOk_nil (nodup_b rfl) (nodup_b rfl) rfl rfl, h, rfl⟩
  · rintro s ⟨h, rfl⟩
    unfold gleaninglaw5_FrameTurned_k0 at h
    refine aw_seq_k (fun K23 hK23 => ?_)
    refine aw_reg ?_
    refine ao_cons (acts_of rfl (does_assign (v := .nil) (by exact rfl))) (by decide) ?_
    refine ao_nil_n ?_
    refine hK23 _ ?_
    refine aw_seq_k (fun K24 hK24 => ?_)
    refine aw_reg ?_
    refine ao_cons (acts_of rfl (does_assign (v := .int .i64 0) (by exact rfl))) (by decide) ?_
    refine ao_nil_n ?_
    refine hK24 _ ?_
    obtain ⟨q25, h, hk26⟩ := bnd_some h
    refine aw_cut (fun s => ∃ (v10_s_1 : List UInt8), ∃ (v11_1 : Int), gleaninglaw5_FrameTurned_k1 a0 a1 a2 a3 v10_s_1 v11_1 = some r ∧ s = lit [(0, .sl 1 (List.map enc51 a0)), (1, .int .i64 a1), (2, .int .i64 a2), (3, .int .i64 a3), (10, .own 10 0), (11, .int .i64 v11_1)] [((10, 0), .arr 5 1 false (List.map enc5 v10_s_1))] [(10, 1)] X) ?_ ?_
    · skip
      refine aw_seq_k (fun K27 hK27 => ?_)
      refine aw_reg ?_
      refine ao_cons (acts_of rfl (does_assign (v := .int .i64 0) (by exact rfl))) (by decide) ?_
      refine ao_nil_n ?_
      refine hK27 _ ?_
      refine aw_block ?_
      refine aw_nilOwn 10 5 1 (by conv => lhs; whnf) (by decide) (by decide) ?_
      refine aw_loop' (fun m s => ∃ (v10_s_2 : List UInt8), ∃ (v11_2 : Int), ∃ (v12_2 : Int), loopN (fun (s : List UInt8 × Int × Int) => gleaninglaw5_FrameTurned_l2 a0 a1 s.1 s.2.1 s.2.2) m (v10_s_2, v11_2, v12_2) = some q25 ∧ s = lit [(0, .sl 1 (List.map enc51 a0)), (1, .int .i64 a1), (2, .int .i64 a2), (3, .int .i64 a3), (10, .own 10 0), (11, .int .i64 v11_2), (12, .int .i64 v12_2)] [((10, 0), .arr 5 1 false (List.map enc5 v10_s_2))] [(10, 1)] X) Fu
        ⟨_, reb_lit [(0, .sl 1 (List.map enc51 a0)), (1, .int .i64 a1), (2, .int .i64 a2), (3, .int .i64 a3), (10, .own 10 0), (11, .int .i64 (0)), (12, .int .i64 (0))] [(10, 0)] [((10, 0), .arr 5 1 false (List.map enc5 []))] [(10, 1)] (envOk_cons (by conv => lhs; whnf) (by exact rfl) (envOk_cons (by conv => lhs; whnf) (by exact rfl) (envOk_cons (by conv => lhs; whnf) (by exact rfl) (envOk_cons (by conv => lhs; whnf) (by exact rfl) (envOk_cons (by conv => lhs; whnf) (by exact rfl) (envOk_cons (by conv => lhs; whnf) (by exact rfl) (envOk_cons (by conv => lhs; whnf) (by exact rfl) envOk_nil))))))) (objOk_cons (by conv => lhs; whnf) (by conv => lhs; whnf) (by exact rfl) (by simp) objOk_nil) (nodup_b rfl) (nodup_b rfl) rfl rfl, [], 0, 0, h, rfl⟩ ?_
      rintro m s ⟨v10_s_2, v11_2, v12_2, h, rfl⟩
      obtain ⟨m2, q28, rfl, h, hq29⟩ := loop_some h
      replace h : gleaninglaw5_FrameTurned_l2 a0 a1 v10_s_2 v11_2 v12_2 = some q28 := h
      unfold gleaninglaw5_FrameTurned_l2 at h
      refine aw_seq_k (fun K30 hK30 => ?_)
      refine aw_seq_k (fun K31 hK31 => ?_)
      refine aw_reg ?_
      refine ao_cons (acts_of rfl (does_move (v := .int .i64 v12_2) (by exact rfl))) (by decide) ?_
      refine ao_cons (acts_of rfl (does_move (v := .sl 1 (List.map enc51 a0)) (by exact rfl))) (by decide) ?_
      refine ao_cons (acts_of rfl ((does_len_sl (by conv => lhs; whnf) ty52).castp (v' := .int .i64 (List.length a0 : Int)) (by exact len_map _))) (by decide) ?_
      refine ao_cons (acts_of rfl (does_bin (v := .bool (decide (v12_2 < (List.length a0 : Int)))) (by conv => lhs; whnf) (by conv => lhs; whnf) rfl)) (by decide) ?_
      refine ao_nil_n ?_
      refine hK31 _ ?_
      refine aw_bool (b := (decide (v12_2 < (List.length a0 : Int)))) 55 rfl (fun c32 => ?_) (fun c32 => ?_)
      · have h := ifT c32 h
        refine aw_cond_t (by decide) rfl ?_
        refine aw_skip ?_
        refine hK30 _ ?_
        refine aw_seq_k (fun K33 hK33 => ?_)
        refine aw_block ?_
        refine aw_seq_k (fun K34 hK34 => ?_)
        refine aw_seq_k (fun K35 hK35 => ?_)
        refine aw_reg ?_
        refine ao_cons (acts_of rfl (does_move (v := .sl 1 (List.map enc51 a0)) (by exact rfl))) (by decide) ?_
        refine ao_cons (acts_of rfl (does_move (v := .int .i64 v12_2) (by exact rfl))) (by decide) ?_
        obtain ⟨g36, h⟩ := gd_some h
        obtain ⟨x37, hx37, h⟩ := bnd_some h
        refine ao_cons (acts_of rfl (does_indexAddr_sl (el := .sl 1 (List.map enc5 x37)) (by conv => lhs; whnf) (by conv => lhs; whnf) ty52 ty51 g36 (by exact map_get hx37))) (by decide) ?_
        refine ao_cons (acts_of rfl (does_load (v := .sl 1 (List.map enc5 x37)) (by conv => lhs; whnf) (by conv => lhs; whnf) ty51 (by exact rfl))) (by decide) ?_
        refine ao_cons (acts_of rfl ((does_len_sl (by conv => lhs; whnf) ty51).castp (v' := .int .i64 (List.length x37 : Int)) (by exact len_map _))) (by decide) ?_
        refine ao_cons (acts_of rfl (does_bin (v := .bool (decide ((100 : Int) < (List.length x37 : Int)))) (by conv => lhs; whnf) (by conv => lhs; whnf) rfl)) (by decide) ?_
        refine ao_nil_n ?_
        refine hK35 _ ?_
        refine aw_bool (b := (decide ((100 : Int) < (List.length x37 : Int)))) 63 rfl (fun c38 => ?_) (fun c38 => ?_)
        · have h := ifT c38 h
          refine aw_cond_t (by decide) rfl ?_
          refine aw_seq_k (fun K39 hK39 => ?_)
          refine aw_reg ?_
          refine ao_cons (acts_of rfl (does_assign (v := .bool true) (by exact rfl))) (by decide) ?_
          refine ao_nil_n ?_
          refine hK39 _ ?_
          refine aw_ret ?_
          have h := leafR h hq29
          have h := leafR h hk26
          obtain rfl := Option.some.inj h
          exact ret_ok1 (by conv => lhs; whnf) (by conv => lhs; whnf) (by exact rfl) (.inr rfl) rfl
        · have h := ifF c38 h
          refine aw_cond_f (by decide) rfl ?_
          refine aw_skip ?_
          refine hK34 _ ?_
          obtain ⟨q40, h, hk41⟩ := bnd_some h
          refine aw_cut (fun s => ∃ (v11_3 : Int), gleaninglaw5_FrameTurned_k3 a0 v10_s_2 v12_2 v11_3 = some q28 ∧ s = lit [(0, .sl 1 (List.map enc51 a0)), (1, .int .i64 a1), (2, .int .i64 a2), (3, .int .i64 a3), (10, .own 10 0), (11, .int .i64 v11_3), (12, .int .i64 v12_2)] [((10, 0), .arr 5 1 false (List.map enc5 v10_s_2))] [(10, 1)] X) ?_ ?_
          · skip
            refine aw_seq_k (fun K42 hK42 => ?_)
            refine aw_reg ?_
            refine ao_cons (acts_of rfl (does_move (v := .int .i64 v12_2) (by exact rfl))) (by decide) ?_
            refine ao_cons (acts_of rfl (does_move (v := .int .i64 a1) (by exact rfl))) (by decide) ?_
            refine ao_cons (acts_of rfl (does_bin (v := .bool (v12_2 == a1)) (by conv => lhs; whnf) (by conv => lhs; whnf) rfl)) (by decide) ?_
            refine ao_nil_n ?_
            refine hK42 _ ?_
            refine aw_bool (b := (v12_2 == a1)) 66 rfl (fun c43 => ?_) (fun c43 => ?_)
            · have h := ifT c43 h
              refine aw_cond_t (by decide) rfl ?_
              refine aw_reg ?_
              refine ao_cons (acts_of rfl (does_move (v := .own 10 0) (by exact rfl))) (by decide) ?_
              refine ao_cons (acts_of rfl ((does_len_own (by conv => lhs; whnf) (by conv => lhs; whnf) ty51).cast (v' := .int .i64 (List.length v10_s_2 : Int)) (by exact len_map _))) (by decide) ?_
              refine ao_cons (acts_of rfl (does_assign (v := .int .i64 (List.length v10_s_2 : Int)) (by exact rfl))) (by decide) ?_
              refine ao_nil_n ?_
              obtain rfl := Option.some.inj h
              have h := hk41
              exact ⟨_, reb_lit [(0, .sl 1 (List.map enc51 a0)), (1, .int .i64 a1), (2, .int .i64 a2), (3, .int .i64 a3), (10, .own 10 0), (11, .int .i64 (List.length v10_s_2 : Int)), (12, .int .i64 v12_2)] [(10, 0)] [((10, 0), .arr 5 1 false (List.map enc5 v10_s_2))] [(10, 1)] (envOk_cons (by conv => lhs; whnf) (by exact rfl) (envOk_cons (by conv => lhs; whnf) (by exact rfl) (envOk_cons (by conv => lhs; whnf) (by exact rfl) (envOk_cons (by conv => lhs; whnf) (by exact rfl) (envOk_cons (by conv => lhs; whnf) (by exact rfl) (envOk_cons (by conv => lhs; whnf) (by exact rfl) (envOk_cons (by conv => lhs; whnf) (by exact rfl) envOk_nil))))))) (objOk_cons (by conv => lhs; whnf) (by conv => lhs; whnf) (by exact rfl) (by simp) objOk_nil) (nodup_b rfl) (nodup_b rfl) rfl rfl, (List.length v10_s_2 : Int), h, rfl⟩
            · have h := ifF c43 h
              refine aw_cond_f (by decide) rfl ?_
              refine aw_skip ?_
              obtain rfl := Option.some.inj h
              have h := hk41
              exact ⟨_, reb_lit [(0, .sl 1 (List.map enc51 a0)), (1, .int .i64 a1), (2, .int .i64 a2), (3, .int .i64 a3), (10, .own 10 0), (11, .int .i64 v11_2), (12, .int .i64 v12_2)] [(10, 0)] [((10, 0), .arr 5 1 false (List.map enc5 v10_s_2))] [(10, 1)] (envOk_cons (by conv => lhs; whnf) (by exact rfl) (envOk_cons (by conv => lhs; whnf) (by exact rfl) (envOk_cons (by conv => lhs; whnf) (by exact rfl) (envOk_cons (by conv => lhs; whnf) (by exact rfl) (envOk_cons (by conv => lhs; whnf) (by exact rfl) (envOk_cons (by conv => lhs; whnf) (by exact rfl) (envOk_cons (by conv => lhs; whnf) (by exact rfl) envOk_nil))))))) (objOk_cons (by conv => lhs; whnf) (by conv => lhs; whnf) (by exact rfl) (by simp) objOk_nil) (nodup_b rfl) (nodup_b rfl) rfl rfl, v11_2, h, rfl⟩
          · rintro s ⟨v11_3, h, rfl⟩
            unfold gleaninglaw5_FrameTurned_k3 at h
            refine aw_reg ?_
            refine ao_cons (acts_of rfl (does_move (v := .own 10 0) (by exact rfl))) (by decide) ?_
            refine ao_cons (acts_of rfl (does_move (v := .sl 1 (List.map enc51 a0)) (by exact rfl))) (by decide) ?_
            refine ao_cons (acts_of rfl (does_move (v := .int .i64 v12_2) (by exact rfl))) (by decide) ?_
            obtain ⟨g44, h⟩ := gd_some h
            obtain ⟨x45, hx45, h⟩ := bnd_some h
            refine ao_cons (acts_of rfl (does_indexAddr_sl (el := .sl 1 (List.map enc5 x45)) (by conv => lhs; whnf) (by conv => lhs; whnf) ty52 ty51 g44 (by exact map_get hx45))) (by decide) ?_
            refine ao_cons (acts_of rfl (does_load (v := .sl 1 (List.map enc5 x45)) (by conv => lhs; whnf) (by conv => lhs; whnf) ty51 (by exact rfl))) (by decide) ?_
            obtain ⟨x46, hx46, h⟩ := bnd_some h
            refine ao_cons (acts_of rfl (do_call0 74 false (frame_Bytes_ok x45 hx46) rfl ent34 rfl rfl)) (by decide) ?_
            obtain ⟨g47, h⟩ := gd_some h
            refine ao_cons (acts_of rfl (do_append (v := List.map enc5 (v10_s_2 ++ x46)) (by conv => lhs; whnf) (by conv => lhs; whnf) ty51 ty5 rfl rfl (by conv => lhs; whnf) (by first | exact .inl rfl | exact .inr ⟨rfl, rfl⟩) (by conv => lhs; whnf) (by first | exact .inr rfl | exact .inl rfl) (map_app _ _) (fit_map g47))) (by decide) ?_
            refine ao_cons (acts_of rfl (does_assign (v := .own 75 0) (by exact rfl))) (by decide) ?_
            refine ao_nil_n ?_
            refine hK33 _ ?_
            refine aw_reg ?_
            refine ao_cons (acts_of rfl (does_move (v := .int .i64 v12_2) (by exact rfl))) (by decide) ?_
            refine ao_cons (acts_of rfl (does_bin (v := .int .i64 (IntKind.i64.wrap (v12_2 + 1))) (by conv => lhs; whnf) (by conv => lhs; whnf) rfl)) (by decide) ?_
            refine ao_cons (acts_of rfl (does_assign (v := .int .i64 (IntKind.i64.wrap (v12_2 + 1))) (by exact rfl))) (by decide) ?_
            refine ao_nil_n ?_
            have h := leafL h hq29
            exact ⟨m2, Nat.lt_succ_self _, _, reb_lit [(0, .sl 1 (List.map enc51 a0)), (1, .int .i64 a1), (2, .int .i64 a2), (3, .int .i64 a3), (10, .own 10 0), (11, .int .i64 v11_3), (12, .int .i64 (IntKind.i64.wrap (v12_2 + 1)))] [(75, 0)] [((10, 0), .arr 5 1 false (List.map enc5 (v10_s_2 ++ x46)))] [(10, 1)] (envOk_cons (by conv => lhs; whnf) (by exact rfl) (envOk_cons (by conv => lhs; whnf) (by exact rfl) (envOk_cons (by conv => lhs; whnf) (by exact rfl) (envOk_cons (by conv => lhs; whnf) (by exact rfl) (envOk_cons (by conv => lhs; whnf) (by exact rfl) (envOk_cons (by conv => lhs; whnf) (by exact rfl) (envOk_cons (by conv => lhs; whnf) (by exact rfl) envOk_nil))))))) (objOk_cons (by conv => lhs; whnf) (by conv => lhs; whnf) (by exact rfl) (by simp) objOk_nil) (nodup_b rfl) (nodup_b rfl) rfl rfl, (v10_s_2 ++ x46), v11_3, (IntKind.i64.wrap (v12_2 + 1)), h, rfl⟩
      · have h := ifF c32 h
        refine aw_cond_f (by decide) rfl ?_
        refine aw_exit ?_
        have h := leafR h hq29
        have h := leafL h hk26
        exact ⟨_, reb_lit [(0, .sl 1 (List.map enc51 a0)), (1, .int .i64 a1), (2, .int .i64 a2), (3, .int .i64 a3), (10, .own 10 0), (11, .int .i64 v11_2)] [(10, 0)] [((10, 0), .arr 5 1 false (List.map enc5 v10_s_2))] [(10, 1)] (envOk_cons (by conv => lhs; whnf) (by exact rfl) (envOk_cons (by conv => lhs; whnf) (by exact rfl) (envOk_cons (by conv => lhs; whnf) (by exact rfl) (envOk_cons (by conv => lhs; whnf) (by exact rfl) (envOk_cons (by conv => lhs; whnf) (by exact rfl) (envOk_cons (by conv => lhs; whnf) (by exact rfl) envOk_nil)))))) (objOk_cons (by conv => lhs; whnf) (by conv => lhs; whnf) (by exact rfl) (by simp) objOk_nil) (nodup_b rfl) (nodup_b rfl) rfl rfl, v10_s_2, v11_2, h, rfl⟩
    · rintro s ⟨v10_s_1, v11_1, h, rfl⟩
      unfold gleaninglaw5_FrameTurned_k1 at h
      refine aw_seq_k (fun K48 hK48 => ?_)
      refine aw_seq_k (fun K49 hK49 => ?_)
      refine aw_reg ?_
      refine ao_cons (acts_of rfl (does_move (v := .sl 1 (List.map enc51 a0)) (by exact rfl))) (by decide) ?_
      refine ao_cons (acts_of rfl (does_move (v := .int .i64 a1) (by exact rfl))) (by decide) ?_
      obtain ⟨g50, h⟩ := gd_some h
      obtain ⟨x51, hx51, h⟩ := bnd_some h
      refine ao_cons (acts_of rfl (does_indexAddr_sl (el := .sl 1 (List.map enc5 x51)) (by conv => lhs; whnf) (by conv => lhs; whnf) ty52 ty51 g50 (by exact map_get hx51))) (by decide) ?_
      refine ao_cons (acts_of rfl (does_load (v := .sl 1 (List.map enc5 x51)) (by conv => lhs; whnf) (by conv => lhs; whnf) ty51 (by exact rfl))) (by decide) ?_
      refine ao_cons (acts_of rfl ((does_len_sl (by conv => lhs; whnf) ty51).castp (v' := .int .i64 (List.length x51 : Int)) (by exact len_map _))) (by decide) ?_
      refine ao_cons (acts_of rfl (does_bin (v := .bool ((List.length x51 : Int) == 0)) (by conv => lhs; whnf) (by conv => lhs; whnf) rfl)) (by decide) ?_
      refine ao_nil_n ?_
      refine hK49 _ ?_
      refine aw_bool (b := ((List.length x51 : Int) == 0)) 81 rfl (fun c52 => ?_) (fun c52 => ?_)
      · have h := ifT c52 h
        refine aw_cond_t (by decide) rfl ?_
        refine aw_seq_k (fun K53 hK53 => ?_)
        refine aw_reg ?_
        refine ao_cons (acts_of rfl (does_assign (v := .bool true) (by exact rfl))) (by decide) ?_
        refine ao_nil_n ?_
        refine hK53 _ ?_
        refine aw_ret ?_
        obtain rfl := Option.some.inj h
        exact ret_ok1 (by conv => lhs; whnf) (by conv => lhs; whnf) (by exact rfl) (.inr rfl) rfl
      · have h := ifF c52 h
        refine aw_cond_f (by decide) rfl ?_
        refine aw_skip ?_
        refine hK48 _ ?_
        refine aw_seq_k (fun K54 hK54 => ?_)
        refine aw_reg ?_
        refine ao_cons (acts_of rfl (does_move (v := .int .i64 v11_1) (by exact rfl))) (by decide) ?_
        refine ao_cons (acts_of rfl (does_bin (v := .int .i64 (IntKind.i64.wrap (v11_1 + 5))) (by conv => lhs; whnf) (by conv => lhs; whnf) rfl)) (by decide) ?_
        refine ao_cons (acts_of rfl (does_move (v := .int .i64 a2) (by exact rfl))) (by decide) ?_
        refine ao_cons (acts_of rfl (does_move (v := .sl 1 (List.map enc51 a0)) (by exact rfl))) (by decide) ?_
        refine ao_cons (acts_of rfl (does_move (v := .int .i64 a1) (by exact rfl))) (by decide) ?_
        obtain ⟨g55, h⟩ := gd_some h
        obtain ⟨x56, hx56, h⟩ := bnd_some h
        refine ao_cons (acts_of rfl (does_indexAddr_sl (el := .sl 1 (List.map enc5 x56)) (by conv => lhs; whnf) (by conv => lhs; whnf) ty52 ty51 g55 (by exact map_get hx56))) (by decide) ?_
        refine ao_cons (acts_of rfl (does_load (v := .sl 1 (List.map enc5 x56)) (by conv => lhs; whnf) (by conv => lhs; whnf) ty51 (by exact rfl))) (by decide) ?_
        refine ao_cons (acts_of rfl ((does_len_sl (by conv => lhs; whnf) ty51).castp (v' := .int .i64 (List.length x56 : Int)) (by exact len_map _))) (by decide) ?_
        obtain ⟨g57, h⟩ := gd_some h
        refine ao_cons (acts_of rfl (does_bin (v := .int .i64 (Int.tmod a2 (List.length x56 : Int))) (by conv => lhs; whnf) (by conv => lhs; whnf) (rem_hv g57))) (by decide) ?_
        refine ao_cons (acts_of rfl (does_bin (v := .int .i64 (IntKind.i64.wrap ((IntKind.i64.wrap (v11_1 + 5)) + (Int.tmod a2 (List.length x56 : Int))))) (by conv => lhs; whnf) (by conv => lhs; whnf) rfl)) (by decide) ?_
        refine ao_cons (acts_of rfl (does_assign (v := .int .i64 (IntKind.i64.wrap ((IntKind.i64.wrap (v11_1 + 5)) + (Int.tmod a2 (List.length x56 : Int))))) (by exact rfl))) (by decide) ?_
        refine ao_nil_n ?_
        refine hK54 _ ?_
        refine aw_seq_k (fun K58 hK58 => ?_)
        refine aw_seq_k (fun K59 hK59 => ?_)
        refine aw_reg ?_
        refine ao_cons (acts_of rfl (does_move (v := .int .i64 (IntKind.i64.wrap ((IntKind.i64.wrap (v11_1 + 5)) + (Int.tmod a2 (List.length x56 : Int))))) (by exact rfl))) (by decide) ?_
        refine ao_cons (acts_of rfl (does_move (v := .own 10 0) (by exact rfl))) (by decide) ?_
        refine ao_cons (acts_of rfl ((does_len_own (by conv => lhs; whnf) (by conv => lhs; whnf) ty51).cast (v' := .int .i64 (List.length v10_s_1 : Int)) (by exact len_map _))) (by decide) ?_
        refine ao_cons (acts_of rfl (does_bin (v := .bool (decide ((List.length v10_s_1 : Int) ≤ (IntKind.i64.wrap ((IntKind.i64.wrap (v11_1 + 5)) + (Int.tmod a2 (List.length x56 : Int))))))) (by conv => lhs; whnf) (by conv => lhs; whnf) rfl)) (by decide) ?_
        refine ao_nil_n ?_
        refine hK59 _ ?_
        refine aw_bool (b := (decide ((List.length v10_s_1 : Int) ≤ (IntKind.i64.wrap ((IntKind.i64.wrap (v11_1 + 5)) + (Int.tmod a2 (List.length x56 : Int))))))) 95 rfl (fun c60 => ?_) (fun c60 => ?_)
        · have h := ifT c60 h
          refine aw_cond_t (by decide) rfl ?_
          refine aw_seq_k (fun K61 hK61 => ?_)
          refine aw_reg ?_
          refine ao_cons (acts_of rfl (does_assign (v := .bool false) (by exact rfl))) (by decide) ?_
          refine ao_nil_n ?_
          refine hK61 _ ?_
          refine aw_ret ?_
          obtain rfl := Option.some.inj h
          exact ret_ok1 (by conv => lhs; whnf) (by conv => lhs; whnf) (by exact rfl) (.inr rfl) rfl
        · have h := ifF c60 h
          refine aw_cond_f (by decide) rfl ?_
          refine aw_skip ?_
          refine hK58 _ ?_
          refine aw_seq_k (fun K62 hK62 => ?_)
          refine aw_reg ?_
          refine ao_cons (acts_of rfl (does_move (v := .own 10 0) (by exact rfl))) (by decide) ?_
          refine ao_cons (acts_of rfl (does_move (v := .int .i64 (IntKind.i64.wrap ((IntKind.i64.wrap (v11_1 + 5)) + (Int.tmod a2 (List.length x56 : Int))))) (by exact rfl))) (by decide) ?_
          refine ao_cons (acts_of rfl (does_move (v := .own 10 0) (by exact rfl))) (by decide) ?_
          refine ao_cons (acts_of rfl (does_move (v := .int .i64 (IntKind.i64.wrap ((IntKind.i64.wrap (v11_1 + 5)) + (Int.tmod a2 (List.length x56 : Int))))) (by exact rfl))) (by decide) ?_
          obtain ⟨g63, h⟩ := gd_some h
          obtain ⟨x64, hx64, h⟩ := bnd_some h
          refine ao_cons (acts_of rfl (does_indexAddr_own (by conv => lhs; whnf) (by conv => lhs; whnf) (by conv => lhs; whnf) ty51 ty5 g63 (by exact own_lt hx64))) (by decide) ?_
          refine ao_cons (acts_of rfl (does_load (v := .int .u8 (x64.toNat : Int)) (by conv => lhs; whnf) (cellsAt_eptr (by conv => lhs; whnf) (by exact map_get hx64)) ty5 (by exact rfl))) (by decide) ?_
          refine ao_cons (acts_of rfl (does_move (v := .int .i64 a3) (by exact rfl))) (by decide) ?_
          refine ao_cons (acts_of rfl (does_conv_int (v := .int .u64 (IntKind.u64.wrap a3)) (by conv => lhs; whnf) (ty_some ty3) (ty_int ty60) rfl)) (by decide) ?_
          obtain ⟨g65, h⟩ := gd_some h
          refine ao_cons (acts_of rfl ((does_bin (v := .int .u8 (IntKind.u8.wrap (1 * 2 ^ (min (Int.toNat (IntKind.u64.wrap a3)) (IntKind.bits .u8))))) (by conv => lhs; whnf) (by conv => lhs; whnf) (shl_hv g65)).castp (v' := .int .u8 ((u8 (IntKind.u8.wrap (1 * 2 ^ (min (Int.toNat (IntKind.u64.wrap a3)) (IntKind.bits .u8))))).toNat : Int)) (by exact congrArg _ (u8_eq (u8_wrap _))))) (by decide) ?_
          refine ao_cons (acts_of rfl ((does_bin (v := .int .u8 (bits .xor .u8 (x64.toNat : Int) ((u8 (IntKind.u8.wrap (1 * 2 ^ (min (Int.toNat (IntKind.u64.wrap a3)) (IntKind.bits .u8))))).toNat : Int))) (by conv => lhs; whnf) (by conv => lhs; whnf) rfl).castp (v' := .int .u8 ((u8 (bits .xor .u8 (x64.toNat : Int) ((u8 (IntKind.u8.wrap (1 * 2 ^ (min (Int.toNat (IntKind.u64.wrap a3)) (IntKind.bits .u8))))).toNat : Int))).toNat : Int)) (by exact congrArg _ (u8_eq (u8_bits _ _ _))))) (by decide) ?_
          obtain ⟨g66, h⟩ := gd_some h
          obtain ⟨x67, hx67, h⟩ := bnd_some h
          refine ao_cons (acts_of rfl (does_indexAddr_own (by conv => lhs; whnf) (by conv => lhs; whnf) (by conv => lhs; whnf) ty51 ty5 g66 (by exact own_lt hx67))) (by decide) ?_
          refine ao_cons (acts_of rfl (does_storeE (old := .int .u8 (x67.toNat : Int)) (el := .int .u8 ((u8 (bits .xor .u8 (x64.toNat : Int) ((u8 (IntKind.u8.wrap (1 * 2 ^ (min (Int.toNat (IntKind.u64.wrap a3)) (IntKind.bits .u8))))).toNat : Int))).toNat : Int)) (xs' := List.map enc5 (List.set v10_s_1 (Int.toNat (IntKind.i64.wrap ((IntKind.i64.wrap (v11_1 + 5)) + (Int.tmod a2 (List.length x56 : Int))))) (u8 (bits .xor .u8 (x64.toNat : Int) ((u8 (IntKind.u8.wrap (1 * 2 ^ (min (Int.toNat (IntKind.u64.wrap a3)) (IntKind.bits .u8))))).toNat : Int))))) (by conv => lhs; whnf) (by conv => lhs; whnf) (by conv => lhs; whnf) ty5 (by rfl) (by rfl) (by exact map_get hx67) (by rfl) (by exact rfl) (by exact map_set' _ _ (u8 (bits .xor .u8 (x64.toNat : Int) ((u8 (IntKind.u8.wrap (1 * 2 ^ (min (Int.toNat (IntKind.u64.wrap a3)) (IntKind.bits .u8))))).toNat : Int)))) (by rfl))) (by decide) ?_
          refine ao_nil_n ?_
          refine hK62 _ ?_
          refine aw_seq_k (fun K68 hK68 => ?_)
          refine aw_reg ?_
          refine ao_cons (acts_of rfl (does_move (v := .own 10 0) (by exact rfl))) (by decide) ?_
          obtain ⟨x69, hx69, h⟩ := bnd_some h
          refine ao_cons (acts_of rfl (does_frz (d := 10) (n := 0) (by conv => lhs; whnf) (do_callG (bcs := []) [] [] [(10, 0)] 109 false (frame_Split_ok (List.set v10_s_1 (Int.toNat (IntKind.i64.wrap ((IntKind.i64.wrap (v11_1 + 5)) + (Int.tmod a2 (List.length x56 : Int))))) (u8 (bits .xor .u8 (x64.toNat : Int) ((u8 (IntKind.u8.wrap (1 * 2 ^ (min (Int.toNat (IntKind.u64.wrap a3)) (IntKind.bits .u8))))).toNat : Int)))) hx69) rfl ent32 trivial trivial rfl rfl rfl rfl rfl rfl rfl rfl (.inl ⟨⟨_, _, _, rfl⟩, trivial⟩)))) (by decide) ?_
          refine ao_cons (acts_of rfl (does_move (v := .tup [.own 109 0, .int .i64 x69.2]) (by exact rfl))) (by decide) ?_
          refine ao_cons (acts_of rfl (does_extract (v := .own 109 0) (by conv => lhs; whnf) (by exact rfl))) (by decide) ?_
          refine ao_cons (acts_of rfl (does_extract (v := .int .i64 x69.2) (by conv => lhs; whnf) (by exact rfl))) (by decide) ?_
          refine ao_cons (acts_of rfl (does_assign (v := .own 109 0) (by exact rfl))) (by decide) ?_
          refine ao_cons (acts_of rfl (does_assign (v := .int .i64 x69.2) (by exact rfl))) (by decide) ?_
          refine ao_nil_n ?_
          refine hK68 _ ?_
          refine aw_seq_k (fun K70 hK70 => ?_)
          refine aw_reg ?_
          refine ao_cons (acts_of rfl (does_move (v := .own 109 0) (by exact rfl))) (by decide) ?_
          refine ao_cons (acts_of rfl (does_move (v := .sl 1 (List.map enc51 a0)) (by exact rfl))) (by decide) ?_
          refine ao_cons (acts_of rfl (does_move (v := .int .i64 a1) (by exact rfl))) (by decide) ?_
          obtain ⟨g71, h⟩ := gd_some h
          obtain ⟨g72, h⟩ := gd_some h
          refine ao_cons (acts_of rfl (does_slice_sl (l := 0) (k := (Int.toNat a1)) (by conv => lhs; whnf) ty52 ty51 bd_none (bd_some (by conv => lhs; whnf) (by exact (nat_of (by omega)))) (by (try simp only [List.length_map]); omega) (by (try simp only [List.length_map]); omega) (by exact part_h _ _))) (by decide) ?_
          obtain ⟨x73, hx73, h⟩ := bnd_some h
          refine ao_cons (acts_of rfl (do_callG (bcs := []) [] [] [(109, 0)] 116 false (gleaninglaw5_same_ok x69.1 (List.take (Int.toNat a1) a0) hx73) rfl ent36 trivial trivial rfl rfl rfl rfl rfl rfl rfl rfl (.inr ⟨rfl, rfl, trivial⟩))) (by decide) ?_
          refine ao_cons (acts_of rfl (does_move (v := .bool x73) (by exact rfl))) (by decide) ?_
          refine ao_bool (c := x73) 117 rfl (fun c74 => ?_) (fun c74 => ?_)
          · have h := ifT c74 h
            refine ao_cons (acts_of rfl (does_move (v := .int .i64 x69.2) (by exact rfl))) (by decide) ?_
            refine ao_cons (acts_of rfl (does_move (v := .int .i64 v11_1) (by exact rfl))) (by decide) ?_
            refine ao_cons (acts_of rfl (does_bin (v := .bool (x69.2 == v11_1)) (by conv => lhs; whnf) (by conv => lhs; whnf) rfl)) (by decide) ?_
            refine ao_cons (acts_of rfl (does_pick (v := .bool (x69.2 == v11_1)) (by conv => lhs; whnf) (by exact rfl))) (by decide) ?_
            refine ao_cons (acts_of rfl (does_assign (v := .bool (x69.2 == v11_1)) (by exact rfl))) (by decide) ?_
            refine ao_nil_n ?_
            refine hK70 _ ?_
            refine aw_ret ?_
            obtain rfl := Option.some.inj h
            exact ret_ok1 (by conv => lhs; whnf) (by conv => lhs; whnf) (by exact rfl) (.inr rfl) rfl
          · have h := ifF c74 h
            refine ao_cons (acts_skip rfl) (by decide) ?_
            refine ao_cons (acts_skip rfl) (by decide) ?_
            refine ao_cons (acts_skip rfl) (by decide) ?_
            refine ao_cons (acts_of rfl (does_pick (v := .bool false) (by conv => lhs; whnf) (by exact rfl))) (by decide) ?_
            refine ao_cons (acts_of rfl (does_assign (v := .bool false) (by exact rfl))) (by decide) ?_
            refine ao_nil_n ?_
            refine hK70 _ ?_
            refine aw_ret ?_
            obtain rfl := Option.some.inj h
            exact ret_ok1 (by conv => lhs; whnf) (by conv => lhs; whnf) (by exact rfl) (.inr rfl) rfl
end Go.Proofs.Ytlkdpgemdopbfaa.Ab
