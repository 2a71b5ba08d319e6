/- Chapter 1: numbers and texts, told as pure functions, and that the code comes to them. -/
import Derived.Test.YtomjoccpkknamaaAbOps10
import Derived.Test.YtomjoccpkknamaaProg
namespace Go.Proofs.Ytomjoccpkknamaa.Ab
open Go Go.RowKit
set_option linter.unusedVariables false
set_option linter.unusedSimpArgs false
def enc5 (c : UInt8) : PV := .int .u8 (c.toNat : Int)
def enc12 (x : Int) : PV := .int .u64 x
def enc9 (x : ByteArray) : PV := .str x
theorem ty3 : tyOf Try.prog 3 = some ⟨.int .i64, 1, 8, [.int .i64 0]⟩ := by kernel_rfl
theorem ty4 : tyOf Try.prog 4 = some ⟨.bool, 1, 1, [.bool false]⟩ := by kernel_rfl
theorem ty5 : tyOf Try.prog 5 = some ⟨.int .u8, 1, 1, [.int .u8 0]⟩ := by kernel_rfl
theorem ty9 : tyOf Try.prog 9 = some ⟨.str, 1, 16, [.str ByteArray.empty]⟩ := by kernel_rfl
theorem ty22 : tyOf Try.prog 22 = some ⟨.slice 5, 1, 24, [.nil]⟩ := by kernel_rfl
theorem ty28 : tyOf Try.prog 28 = some ⟨.int .u64, 1, 8, [.int .u64 0]⟩ := by kernel_rfl
theorem ty33 : tyOf Try.prog 33 = some ⟨.int .u64, 1, 8, [.int .u64 0]⟩ := by kernel_rfl
theorem ty61 : tyOf Try.prog 61 = some ⟨.slice 33, 1, 24, [.nil]⟩ := by kernel_rfl
theorem ty62 : tyOf Try.prog 62 = some ⟨.slice 9, 1, 24, [.nil]⟩ := by kernel_rfl
theorem zr5 : (Try.prog.info? 5).bind (·.zero) = some (.int .u8 0) := by kernel_rfl
theorem ent26 : Ent Try.prog 26 := ⟨_, Try.func26, by kernel_rfl, rfl⟩
theorem ent27 : Ent Try.prog 27 := ⟨_, Try.func27, by kernel_rfl, rfl⟩
theorem ent28 : Ent Try.prog 28 := ⟨_, Try.func28, by kernel_rfl, rfl⟩
theorem ent36 : Ent Try.prog 36 := ⟨_, Try.func36, by kernel_rfl, rfl⟩
theorem ent37 : Ent Try.prog 37 := ⟨_, Try.func37, by kernel_rfl, rfl⟩
theorem ent38 : Ent Try.prog 38 := ⟨_, Try.func38, by kernel_rfl, rfl⟩
theorem ent39 : Ent Try.prog 39 := ⟨_, Try.func39, by kernel_rfl, rfl⟩
theorem ent40 : Ent Try.prog 40 := ⟨_, Try.func40, by kernel_rfl, rfl⟩
theorem ent41 : Ent Try.prog 41 := ⟨_, Try.func41, by kernel_rfl, rfl⟩
def ints_Get_k3 (a0 : List UInt8) (v5_0 : Int) (v6_0 : Int) (x17 : UInt8) (v36_3 : Bool) : Option ((Int × Int) ⊕ (Int × Int × Bool)) :=
  if v36_3 = true then (some (Sum.inr (0, 0, false))) else (gd (0 ≤ v6_0) (Option.bind (a0[(Int.toNat v6_0)]?) (fun (x35 : UInt8) => if (decide ((x35.toNat : Int) < 128)) = true then (some (Sum.inr ((bits .or .u64 v5_0 (IntKind.u64.wrap ((IntKind.u64.wrap ((u8 (bits .andNot .u8 (x17.toNat : Int) 128)).toNat : Int)) * 2 ^ (min (Int.toNat (IntKind.i64.wrap (7 * v6_0))) (IntKind.bits .u64))))), (IntKind.i64.wrap (v6_0 + 1)), true))) else (some (Sum.inl ((bits .or .u64 v5_0 (IntKind.u64.wrap ((IntKind.u64.wrap ((u8 (bits .andNot .u8 (x17.toNat : Int) 128)).toNat : Int)) * 2 ^ (min (Int.toNat (IntKind.i64.wrap (7 * v6_0))) (IntKind.bits .u64))))), (IntKind.i64.wrap (v6_0 + 1))))))))
def ints_Get_k2 (a0 : List UInt8) (v5_0 : Int) (v6_0 : Int) (x17 : UInt8) : Option ((Int × Int) ⊕ (Int × Int × Bool)) :=
  gd (¬ (IntKind.i64.wrap (7 * v6_0)) < 0) (Option.bind (gd (0 ≤ v6_0) (Option.bind (a0[(Int.toNat v6_0)]?) (fun (x29 : UInt8) => if ((x29.toNat : Int) == 0) = true then (some (decide ((0 : Int) < v6_0))) else (some false)))) (fun (s : Bool) => ints_Get_k3 a0 v5_0 v6_0 x17 s))
def ints_Get_k1 (a0 : List UInt8) (v5_0 : Int) (v6_0 : Int) : Option ((Int × Int) ⊕ (Int × Int × Bool)) :=
  gd (0 ≤ v6_0) (Option.bind (a0[(Int.toNat v6_0)]?) (fun (x17 : UInt8) => Option.bind (if (v6_0 == 9) = true then (if (decide ((1 : Int) < (IntKind.u64.wrap ((u8 (bits .andNot .u8 (x17.toNat : Int) 128)).toNat : Int)))) = true then (some (Sum.inr (Sum.inr (0, 0, false)))) else (some (Sum.inl ()))) else (some (Sum.inl ()))) (Sum.elim (fun (s : Unit) => ints_Get_k2 a0 v5_0 v6_0 x17) some)))
def ints_Get_l0 (a0 : List UInt8) (v5_0 : Int) (v6_0 : Int) : Option ((Int × Int) ⊕ (Int × Int × Bool)) :=
  Option.bind (if (decide (v6_0 < (List.length a0 : Int))) = true then (if (decide (v6_0 < 10)) = true then (some (Sum.inl ())) else (some (Sum.inr (Sum.inr (0, 0, false))))) else (some (Sum.inr (Sum.inr (0, 0, false))))) (Sum.elim (fun (s : Unit) => ints_Get_k1 a0 v5_0 v6_0) some)
def ints_Get (a0 : List UInt8) : Option (Int × Int × Bool) :=
  loopN (fun (s : Int × Int) => ints_Get_l0 a0 s.1 s.2) Fu (0, 0)
set_option maxRecDepth 100000 in
set_option maxHeartbeats 8000000 in
/-- gleaning/ints.Get -/
theorem ints_Get_ok (a0 : List UInt8) {r : Int × Int × Bool} (h : ints_Get a0 = some r) : Ok Try.prog 28 [.sl 1 (List.map enc5 a0)] [] [] (.tup [.int .u64 r.1, .int .i64 r.2.1, .bool r.2.2]) [] [] := by
  unfold ints_Get at h
  refine ok_of_code Try.func28 rfl (by show (1 : Nat) ≤ _; decide) (Nat.le_refl _) fun X => ?_
  refine aw_seq_k (fun K1 hK1 => ?_)
  refine aw_reg ?_
  refine ao_cons (acts_of rfl (does_assign (v := .int .u64 0) (by exact rfl))) (by decide) ?_
  refine ao_cons (acts_of rfl (does_assign (v := .int .i64 0) (by exact rfl))) (by decide) ?_
  refine ao_cons (acts_of rfl (does_assign (v := .bool false) (by exact rfl))) (by decide) ?_
  refine ao_nil_n ?_
  refine hK1 _ ?_
  refine aw_seq_k (fun K2 hK2 => ?_)
  refine aw_reg ?_
  refine ao_cons (acts_of rfl (does_assign (v := .int .u64 0) (by exact rfl))) (by decide) ?_
  refine ao_nil_n ?_
  refine hK2 _ ?_
  refine aw_seq_k (fun K3 hK3 => ?_)
  refine aw_seq_k (fun K4 hK4 => ?_)
  refine aw_reg ?_
  refine ao_cons (acts_of rfl (does_assign (v := .int .i64 0) (by exact rfl))) (by decide) ?_
  refine ao_nil_n ?_
  refine hK4 _ ?_
  refine aw_block ?_
  refine aw_loop' (fun m s => ∃ (v5_0 : Int), ∃ (v6_0 : Int), loopN (fun (s : Int × Int) => ints_Get_l0 a0 s.1 s.2) m (v5_0, v6_0) = some r ∧ s = lit [(0, .sl 1 (List.map enc5 a0)), (5, .int .u64 v5_0), (6, .int .i64 v6_0)] [] [] X) Fu
    ⟨_, reb_lit [(0, .sl 1 (List.map enc5 a0)), (5, .int .u64 (0)), (6, .int .i64 (0))] [] [] [] (envOk_cons (by conv => lhs; whnf) (by exact rfl) (envOk_cons (by conv => lhs; whnf) (by exact rfl) (envOk_cons (by conv => lhs; whnf) (by exact rfl) envOk_nil))) objOk_nil (nodup_b rfl) (nodup_b rfl) rfl rfl, 0, 0, h, rfl⟩ ?_
  rintro m s ⟨v5_0, v6_0, h, rfl⟩
  obtain ⟨m0, q5, rfl, h, hq6⟩ := loop_some h
  replace h : ints_Get_l0 a0 v5_0 v6_0 = some q5 := h
  unfold ints_Get_l0 at h
  obtain ⟨q7, h, hk8⟩ := bnd_some h
  refine aw_cut (fun s => ints_Get_k1 a0 v5_0 v6_0 = some q5 ∧ s = lit [(0, .sl 1 (List.map enc5 a0)), (5, .int .u64 v5_0), (6, .int .i64 v6_0)] [] [] X) ?_ ?_
  · skip
    refine aw_seq_k (fun K9 hK9 => ?_)
    refine aw_reg ?_
    refine ao_cons (acts_of rfl (does_move (v := .int .i64 v6_0) (by exact rfl))) (by decide) ?_
    refine ao_cons (acts_of rfl (does_move (v := .sl 1 (List.map enc5 a0)) (by exact rfl))) (by decide) ?_
    refine ao_cons (acts_of rfl ((does_len_sl (by conv => lhs; whnf) ty22).castp (v' := .int .i64 (List.length a0 : Int)) (by exact len_map _))) (by decide) ?_
    refine ao_cons (acts_of rfl (does_bin (v := .bool (decide (v6_0 < (List.length a0 : Int)))) (by conv => lhs; whnf) (by conv => lhs; whnf) rfl)) (by decide) ?_
    refine ao_cons (acts_of rfl (does_move (v := .bool (decide (v6_0 < (List.length a0 : Int)))) (by exact rfl))) (by decide) ?_
    refine ao_bool (c := (decide (v6_0 < (List.length a0 : Int)))) 12 rfl (fun c10 => ?_) (fun c10 => ?_)
    · have h := ifT c10 h
      refine ao_cons (acts_of rfl (does_move (v := .int .i64 v6_0) (by exact rfl))) (by decide) ?_
      refine ao_cons (acts_of rfl (does_bin (v := .bool (decide (v6_0 < 10))) (by conv => lhs; whnf) (by conv => lhs; whnf) rfl)) (by decide) ?_
      refine ao_cons (acts_of rfl (does_pick (v := .bool (decide (v6_0 < 10))) (by conv => lhs; whnf) (by exact rfl))) (by decide) ?_
      refine ao_nil_n ?_
      refine hK9 _ ?_
      refine aw_bool (b := (decide (v6_0 < 10))) 15 rfl (fun c11 => ?_) (fun c11 => ?_)
      · have h := ifT c11 h
        refine aw_cond_t (by decide) rfl ?_
        refine aw_skip ?_
        have h := leafL h hk8
        exact ⟨_, reb_lit [(0, .sl 1 (List.map enc5 a0)), (5, .int .u64 v5_0), (6, .int .i64 v6_0)] [] [] [] (envOk_cons (by conv => lhs; whnf) (by exact rfl) (envOk_cons (by conv => lhs; whnf) (by exact rfl) (envOk_cons (by conv => lhs; whnf) (by exact rfl) envOk_nil))) objOk_nil (nodup_b rfl) (nodup_b rfl) rfl rfl, h, rfl⟩
      · have h := ifF c11 h
        refine aw_cond_f (by decide) rfl ?_
        refine aw_exit ?_
        have h := leafR h hk8
        have h := leafR h hq6
        refine hK3 _ ?_
        refine aw_seq_k (fun K12 hK12 => ?_)
        refine aw_reg ?_
        refine ao_cons (acts_of rfl (does_assign (v := .int .u64 0) (by exact rfl))) (by decide) ?_
        refine ao_cons (acts_of rfl (does_assign (v := .int .i64 0) (by exact rfl))) (by decide) ?_
        refine ao_cons (acts_of rfl (does_assign (v := .bool false) (by exact rfl))) (by decide) ?_
        refine ao_nil_n ?_
        refine hK12 _ ?_
        refine aw_ret ?_
        obtain rfl := Option.some.inj h
        exact ret_ok1 (by conv => lhs; whnf) (by conv => lhs; whnf) (by exact rfl) (.inr rfl) rfl
    · have h := ifF c10 h
      refine ao_cons (acts_skip rfl) (by decide) ?_
      refine ao_cons (acts_skip rfl) (by decide) ?_
      refine ao_cons (acts_of rfl (does_pick (v := .bool false) (by conv => lhs; whnf) (by exact rfl))) (by decide) ?_
      refine ao_nil_n ?_
      refine hK9 _ ?_
      refine aw_cond_f (by decide) rfl ?_
      refine aw_exit ?_
      have h := leafR h hk8
      have h := leafR h hq6
      refine hK3 _ ?_
      refine aw_seq_k (fun K13 hK13 => ?_)
      refine aw_reg ?_
      refine ao_cons (acts_of rfl (does_assign (v := .int .u64 0) (by exact rfl))) (by decide) ?_
      refine ao_cons (acts_of rfl (does_assign (v := .int .i64 0) (by exact rfl))) (by decide) ?_
      refine ao_cons (acts_of rfl (does_assign (v := .bool false) (by exact rfl))) (by decide) ?_
      refine ao_nil_n ?_
      refine hK13 _ ?_
      refine aw_ret ?_
      obtain rfl := Option.some.inj h
      exact ret_ok1 (by conv => lhs; whnf) (by conv => lhs; whnf) (by exact rfl) (.inr rfl) rfl
  · rintro s ⟨h, rfl⟩
    unfold ints_Get_k1 at h
    refine aw_seq_k (fun K14 hK14 => ?_)
    refine aw_block ?_
    refine aw_seq_k (fun K15 hK15 => ?_)
    refine aw_reg ?_
    refine ao_cons (acts_of rfl (does_move (v := .sl 1 (List.map enc5 a0)) (by exact rfl))) (by decide) ?_
    refine ao_cons (acts_of rfl (does_move (v := .int .i64 v6_0) (by exact rfl))) (by decide) ?_
    obtain ⟨g16, h⟩ := gd_some h
    obtain ⟨x17, hx17, h⟩ := bnd_some h
    refine ao_cons (acts_of rfl (does_indexAddr_sl (el := .int .u8 (x17.toNat : Int)) (by conv => lhs; whnf) (by conv => lhs; whnf) ty22 ty5 g16 (by exact map_get hx17))) (by decide) ?_
    refine ao_cons (acts_of rfl (does_load (v := .int .u8 (x17.toNat : Int)) (by conv => lhs; whnf) (by conv => lhs; whnf) ty5 (by exact rfl))) (by decide) ?_
    refine ao_cons (acts_of rfl ((does_bin (v := .int .u8 (bits .andNot .u8 (x17.toNat : Int) 128)) (by conv => lhs; whnf) (by conv => lhs; whnf) rfl).castp (v' := .int .u8 ((u8 (bits .andNot .u8 (x17.toNat : Int) 128)).toNat : Int)) (by exact congrArg _ (u8_eq (u8_bits _ _ _))))) (by decide) ?_
    refine ao_cons (acts_of rfl (does_conv_int (v := .int .u64 (IntKind.u64.wrap ((u8 (bits .andNot .u8 (x17.toNat : Int) 128)).toNat : Int))) (by conv => lhs; whnf) (ty_some ty5) (ty_int ty33) rfl)) (by decide) ?_
    refine ao_cons (acts_of rfl (does_assign (v := .int .u64 (IntKind.u64.wrap ((u8 (bits .andNot .u8 (x17.toNat : Int) 128)).toNat : Int))) (by exact rfl))) (by decide) ?_
    refine ao_nil_n ?_
    refine hK15 _ ?_
    obtain ⟨q18, h, hk19⟩ := bnd_some h
    refine aw_cut (fun s => ints_Get_k2 a0 v5_0 v6_0 x17 = some q5 ∧ s = lit [(0, .sl 1 (List.map enc5 a0)), (5, .int .u64 v5_0), (6, .int .i64 v6_0), (7, .int .u64 (IntKind.u64.wrap ((u8 (bits .andNot .u8 (x17.toNat : Int) 128)).toNat : Int)))] [] [] X) ?_ ?_
    · skip
      refine aw_seq_k (fun K20 hK20 => ?_)
      refine aw_reg ?_
      refine ao_cons (acts_of rfl (does_move (v := .int .i64 v6_0) (by exact rfl))) (by decide) ?_
      refine ao_cons (acts_of rfl (does_bin (v := .bool (v6_0 == 9)) (by conv => lhs; whnf) (by conv => lhs; whnf) rfl)) (by decide) ?_
      refine ao_cons (acts_of rfl (does_move (v := .bool (v6_0 == 9)) (by exact rfl))) (by decide) ?_
      refine ao_bool (c := (v6_0 == 9)) 26 rfl (fun c21 => ?_) (fun c21 => ?_)
      · have h := ifT c21 h
        refine ao_cons (acts_of rfl (does_move (v := .int .u64 (IntKind.u64.wrap ((u8 (bits .andNot .u8 (x17.toNat : Int) 128)).toNat : Int))) (by exact rfl))) (by decide) ?_
        refine ao_cons (acts_of rfl (does_bin (v := .bool (decide ((1 : Int) < (IntKind.u64.wrap ((u8 (bits .andNot .u8 (x17.toNat : Int) 128)).toNat : Int))))) (by conv => lhs; whnf) (by conv => lhs; whnf) rfl)) (by decide) ?_
        refine ao_cons (acts_of rfl (does_pick (v := .bool (decide ((1 : Int) < (IntKind.u64.wrap ((u8 (bits .andNot .u8 (x17.toNat : Int) 128)).toNat : Int))))) (by conv => lhs; whnf) (by exact rfl))) (by decide) ?_
        refine ao_nil_n ?_
        refine hK20 _ ?_
        refine aw_bool (b := (decide ((1 : Int) < (IntKind.u64.wrap ((u8 (bits .andNot .u8 (x17.toNat : Int) 128)).toNat : Int))))) 29 rfl (fun c22 => ?_) (fun c22 => ?_)
        · have h := ifT c22 h
          refine aw_cond_t (by decide) rfl ?_
          refine aw_seq_k (fun K23 hK23 => ?_)
          refine aw_reg ?_
          refine ao_cons (acts_of rfl (does_assign (v := .int .u64 0) (by exact rfl))) (by decide) ?_
          refine ao_cons (acts_of rfl (does_assign (v := .int .i64 0) (by exact rfl))) (by decide) ?_
          refine ao_cons (acts_of rfl (does_assign (v := .bool false) (by exact rfl))) (by decide) ?_
          refine ao_nil_n ?_
          refine hK23 _ ?_
          refine aw_ret ?_
          have h := leafR h hk19
          have h := leafR h hq6
          obtain rfl := Option.some.inj h
          exact ret_ok1 (by conv => lhs; whnf) (by conv => lhs; whnf) (by exact rfl) (.inr rfl) rfl
        · have h := ifF c22 h
          refine aw_cond_f (by decide) rfl ?_
          refine aw_skip ?_
          have h := leafL h hk19
          exact ⟨_, reb_lit [(0, .sl 1 (List.map enc5 a0)), (5, .int .u64 v5_0), (6, .int .i64 v6_0), (7, .int .u64 (IntKind.u64.wrap ((u8 (bits .andNot .u8 (x17.toNat : Int) 128)).toNat : Int)))] [] [] [] (envOk_cons (by conv => lhs; whnf) (by exact rfl) (envOk_cons (by conv => lhs; whnf) (by exact rfl) (envOk_cons (by conv => lhs; whnf) (by exact rfl) (envOk_cons (by conv => lhs; whnf) (by exact rfl) envOk_nil)))) objOk_nil (nodup_b rfl) (nodup_b rfl) rfl rfl, h, rfl⟩
      · have h := ifF c21 h
        refine ao_cons (acts_skip rfl) (by decide) ?_
        refine ao_cons (acts_skip rfl) (by decide) ?_
        refine ao_cons (acts_of rfl (does_pick (v := .bool false) (by conv => lhs; whnf) (by exact rfl))) (by decide) ?_
        refine ao_nil_n ?_
        refine hK20 _ ?_
        refine aw_cond_f (by decide) rfl ?_
        refine aw_skip ?_
        have h := leafL h hk19
        exact ⟨_, reb_lit [(0, .sl 1 (List.map enc5 a0)), (5, .int .u64 v5_0), (6, .int .i64 v6_0), (7, .int .u64 (IntKind.u64.wrap ((u8 (bits .andNot .u8 (x17.toNat : Int) 128)).toNat : Int)))] [] [] [] (envOk_cons (by conv => lhs; whnf) (by exact rfl) (envOk_cons (by conv => lhs; whnf) (by exact rfl) (envOk_cons (by conv => lhs; whnf) (by exact rfl) (envOk_cons (by conv => lhs; whnf) (by exact rfl) envOk_nil)))) objOk_nil (nodup_b rfl) (nodup_b rfl) rfl rfl, h, rfl⟩
    · rintro s ⟨h, rfl⟩
      unfold ints_Get_k2 at h
      refine aw_seq_k (fun K24 hK24 => ?_)
      refine aw_reg ?_
      refine ao_cons (acts_of rfl (does_move (v := .int .u64 v5_0) (by exact rfl))) (by decide) ?_
      refine ao_cons (acts_of rfl (does_move (v := .int .u64 (IntKind.u64.wrap ((u8 (bits .andNot .u8 (x17.toNat : Int) 128)).toNat : Int))) (by exact rfl))) (by decide) ?_
      refine ao_cons (acts_of rfl (does_move (v := .int .i64 v6_0) (by exact rfl))) (by decide) ?_
      refine ao_cons (acts_of rfl (does_bin (v := .int .i64 (IntKind.i64.wrap (7 * v6_0))) (by conv => lhs; whnf) (by conv => lhs; whnf) rfl)) (by decide) ?_
      obtain ⟨g25, h⟩ := gd_some h
      refine ao_cons (acts_of rfl (does_bin (v := .int .u64 (IntKind.u64.wrap ((IntKind.u64.wrap ((u8 (bits .andNot .u8 (x17.toNat : Int) 128)).toNat : Int)) * 2 ^ (min (Int.toNat (IntKind.i64.wrap (7 * v6_0))) (IntKind.bits .u64))))) (by conv => lhs; whnf) (by conv => lhs; whnf) (shl_hv g25))) (by decide) ?_
      refine ao_cons (acts_of rfl (does_bin (v := .int .u64 (bits .or .u64 v5_0 (IntKind.u64.wrap ((IntKind.u64.wrap ((u8 (bits .andNot .u8 (x17.toNat : Int) 128)).toNat : Int)) * 2 ^ (min (Int.toNat (IntKind.i64.wrap (7 * v6_0))) (IntKind.bits .u64)))))) (by conv => lhs; whnf) (by conv => lhs; whnf) rfl)) (by decide) ?_
      refine ao_cons (acts_of rfl (does_assign (v := .int .u64 (bits .or .u64 v5_0 (IntKind.u64.wrap ((IntKind.u64.wrap ((u8 (bits .andNot .u8 (x17.toNat : Int) 128)).toNat : Int)) * 2 ^ (min (Int.toNat (IntKind.i64.wrap (7 * v6_0))) (IntKind.bits .u64)))))) (by exact rfl))) (by decide) ?_
      refine ao_nil_n ?_
      refine hK24 _ ?_
      refine aw_block ?_
      obtain ⟨q26, h, hk27⟩ := bnd_some h
      refine aw_cut (fun s => ∃ (v36_3 : Bool), ints_Get_k3 a0 v5_0 v6_0 x17 v36_3 = some q5 ∧ s = lit [(0, .sl 1 (List.map enc5 a0)), (5, .int .u64 (bits .or .u64 v5_0 (IntKind.u64.wrap ((IntKind.u64.wrap ((u8 (bits .andNot .u8 (x17.toNat : Int) 128)).toNat : Int)) * 2 ^ (min (Int.toNat (IntKind.i64.wrap (7 * v6_0))) (IntKind.bits .u64)))))), (6, .int .i64 v6_0), (36, .bool v36_3)] [] [] X) ?_ ?_
      · skip
        refine aw_reg ?_
        refine ao_cons (acts_of rfl (does_move (v := .sl 1 (List.map enc5 a0)) (by exact rfl))) (by decide) ?_
        refine ao_cons (acts_of rfl (does_move (v := .int .i64 v6_0) (by exact rfl))) (by decide) ?_
        obtain ⟨g28, h⟩ := gd_some h
        obtain ⟨x29, hx29, h⟩ := bnd_some h
        refine ao_cons (acts_of rfl (does_indexAddr_sl (el := .int .u8 (x29.toNat : Int)) (by conv => lhs; whnf) (by conv => lhs; whnf) ty22 ty5 g28 (by exact map_get hx29))) (by decide) ?_
        refine ao_cons (acts_of rfl (does_load (v := .int .u8 (x29.toNat : Int)) (by conv => lhs; whnf) (by conv => lhs; whnf) ty5 (by exact rfl))) (by decide) ?_
        refine ao_cons (acts_of rfl (does_bin (v := .bool ((x29.toNat : Int) == 0)) (by conv => lhs; whnf) (by conv => lhs; whnf) rfl)) (by decide) ?_
        refine ao_cons (acts_of rfl (does_move (v := .bool ((x29.toNat : Int) == 0)) (by exact rfl))) (by decide) ?_
        refine ao_bool (c := ((x29.toNat : Int) == 0)) 42 rfl (fun c30 => ?_) (fun c30 => ?_)
        · have h := ifT c30 h
          refine ao_cons (acts_of rfl (does_move (v := .int .i64 v6_0) (by exact rfl))) (by decide) ?_
          refine ao_cons (acts_of rfl (does_bin (v := .bool (decide ((0 : Int) < v6_0))) (by conv => lhs; whnf) (by conv => lhs; whnf) rfl)) (by decide) ?_
          refine ao_cons (acts_of rfl (does_pick (v := .bool (decide ((0 : Int) < v6_0))) (by conv => lhs; whnf) (by exact rfl))) (by decide) ?_
          refine ao_cons (acts_of rfl (does_assign (v := .bool (decide ((0 : Int) < v6_0))) (by exact rfl))) (by decide) ?_
          refine ao_nil_n ?_
          obtain rfl := Option.some.inj h
          have h := hk27
          exact ⟨_, reb_lit [(0, .sl 1 (List.map enc5 a0)), (5, .int .u64 (bits .or .u64 v5_0 (IntKind.u64.wrap ((IntKind.u64.wrap ((u8 (bits .andNot .u8 (x17.toNat : Int) 128)).toNat : Int)) * 2 ^ (min (Int.toNat (IntKind.i64.wrap (7 * v6_0))) (IntKind.bits .u64)))))), (6, .int .i64 v6_0), (36, .bool (decide ((0 : Int) < v6_0)))] [] [] [] (envOk_cons (by conv => lhs; whnf) (by exact rfl) (envOk_cons (by conv => lhs; whnf) (by exact rfl) (envOk_cons (by conv => lhs; whnf) (by exact rfl) (envOk_cons (by conv => lhs; whnf) (by exact rfl) envOk_nil)))) objOk_nil (nodup_b rfl) (nodup_b rfl) rfl rfl, (decide ((0 : Int) < v6_0)), h, rfl⟩
        · have h := ifF c30 h
          refine ao_cons (acts_skip rfl) (by decide) ?_
          refine ao_cons (acts_skip rfl) (by decide) ?_
          refine ao_cons (acts_of rfl (does_pick (v := .bool false) (by conv => lhs; whnf) (by exact rfl))) (by decide) ?_
          refine ao_cons (acts_of rfl (does_assign (v := .bool false) (by exact rfl))) (by decide) ?_
          refine ao_nil_n ?_
          obtain rfl := Option.some.inj h
          have h := hk27
          exact ⟨_, reb_lit [(0, .sl 1 (List.map enc5 a0)), (5, .int .u64 (bits .or .u64 v5_0 (IntKind.u64.wrap ((IntKind.u64.wrap ((u8 (bits .andNot .u8 (x17.toNat : Int) 128)).toNat : Int)) * 2 ^ (min (Int.toNat (IntKind.i64.wrap (7 * v6_0))) (IntKind.bits .u64)))))), (6, .int .i64 v6_0), (36, .bool false)] [] [] [] (envOk_cons (by conv => lhs; whnf) (by exact rfl) (envOk_cons (by conv => lhs; whnf) (by exact rfl) (envOk_cons (by conv => lhs; whnf) (by exact rfl) (envOk_cons (by conv => lhs; whnf) (by exact rfl) envOk_nil)))) objOk_nil (nodup_b rfl) (nodup_b rfl) rfl rfl, false, h, rfl⟩
      · rintro s ⟨v36_3, h, rfl⟩
        unfold ints_Get_k3 at h
        refine aw_bool (b := v36_3) 36 rfl (fun c31 => ?_) (fun c31 => ?_)
        · have h := ifT c31 h
          refine aw_cond_t (by decide) rfl ?_
          refine aw_seq_k (fun K32 hK32 => ?_)
          refine aw_reg ?_
          refine ao_cons (acts_of rfl (does_assign (v := .int .u64 0) (by exact rfl))) (by decide) ?_
          refine ao_cons (acts_of rfl (does_assign (v := .int .i64 0) (by exact rfl))) (by decide) ?_
          refine ao_cons (acts_of rfl (does_assign (v := .bool false) (by exact rfl))) (by decide) ?_
          refine ao_nil_n ?_
          refine hK32 _ ?_
          refine aw_ret ?_
          have h := leafR h hq6
          obtain rfl := Option.some.inj h
          exact ret_ok1 (by conv => lhs; whnf) (by conv => lhs; whnf) (by exact rfl) (.inr rfl) rfl
        · have h := ifF c31 h
          refine aw_cond_f (by decide) rfl ?_
          refine aw_seq_k (fun K33 hK33 => ?_)
          refine aw_reg ?_
          refine ao_cons (acts_of rfl (does_move (v := .sl 1 (List.map enc5 a0)) (by exact rfl))) (by decide) ?_
          refine ao_cons (acts_of rfl (does_move (v := .int .i64 v6_0) (by exact rfl))) (by decide) ?_
          obtain ⟨g34, h⟩ := gd_some h
          obtain ⟨x35, hx35, h⟩ := bnd_some h
          refine ao_cons (acts_of rfl (does_indexAddr_sl (el := .int .u8 (x35.toNat : Int)) (by conv => lhs; whnf) (by conv => lhs; whnf) ty22 ty5 g34 (by exact map_get hx35))) (by decide) ?_
          refine ao_cons (acts_of rfl (does_load (v := .int .u8 (x35.toNat : Int)) (by conv => lhs; whnf) (by conv => lhs; whnf) ty5 (by exact rfl))) (by decide) ?_
          refine ao_cons (acts_of rfl (does_bin (v := .bool (decide ((x35.toNat : Int) < 128))) (by conv => lhs; whnf) (by conv => lhs; whnf) rfl)) (by decide) ?_
          refine ao_cons (acts_of rfl (does_assign (v := .bool (decide ((x35.toNat : Int) < 128))) (by exact rfl))) (by decide) ?_
          refine ao_nil_n ?_
          refine hK33 _ ?_
          refine aw_bool (b := (decide ((x35.toNat : Int) < 128))) 46 rfl (fun c36 => ?_) (fun c36 => ?_)
          · have h := ifT c36 h
            refine aw_cond_t (by decide) rfl ?_
            refine aw_seq_k (fun K37 hK37 => ?_)
            refine aw_reg ?_
            refine ao_cons (acts_of rfl (does_move (v := .int .u64 (bits .or .u64 v5_0 (IntKind.u64.wrap ((IntKind.u64.wrap ((u8 (bits .andNot .u8 (x17.toNat : Int) 128)).toNat : Int)) * 2 ^ (min (Int.toNat (IntKind.i64.wrap (7 * v6_0))) (IntKind.bits .u64)))))) (by exact rfl))) (by decide) ?_
            refine ao_cons (acts_of rfl (does_move (v := .int .i64 v6_0) (by exact rfl))) (by decide) ?_
            refine ao_cons (acts_of rfl (does_bin (v := .int .i64 (IntKind.i64.wrap (v6_0 + 1))) (by conv => lhs; whnf) (by conv => lhs; whnf) rfl)) (by decide) ?_
            refine ao_cons (acts_of rfl (does_assign (v := .int .u64 (bits .or .u64 v5_0 (IntKind.u64.wrap ((IntKind.u64.wrap ((u8 (bits .andNot .u8 (x17.toNat : Int) 128)).toNat : Int)) * 2 ^ (min (Int.toNat (IntKind.i64.wrap (7 * v6_0))) (IntKind.bits .u64)))))) (by exact rfl))) (by decide) ?_
            refine ao_cons (acts_of rfl (does_assign (v := .int .i64 (IntKind.i64.wrap (v6_0 + 1))) (by exact rfl))) (by decide) ?_
            refine ao_cons (acts_of rfl (does_assign (v := .bool true) (by exact rfl))) (by decide) ?_
            refine ao_nil_n ?_
            refine hK37 _ ?_
            refine aw_ret ?_
            have h := leafR h hq6
            obtain rfl := Option.some.inj h
            exact ret_ok1 (by conv => lhs; whnf) (by conv => lhs; whnf) (by exact rfl) (.inr rfl) rfl
          · have h := ifF c36 h
            refine aw_cond_f (by decide) rfl ?_
            refine aw_skip ?_
            refine hK14 _ ?_
            refine aw_reg ?_
            refine ao_cons (acts_of rfl (does_move (v := .int .i64 v6_0) (by exact rfl))) (by decide) ?_
            refine ao_cons (acts_of rfl (does_bin (v := .int .i64 (IntKind.i64.wrap (v6_0 + 1))) (by conv => lhs; whnf) (by conv => lhs; whnf) rfl)) (by decide) ?_
            refine ao_cons (acts_of rfl (does_assign (v := .int .i64 (IntKind.i64.wrap (v6_0 + 1))) (by exact rfl))) (by decide) ?_
            refine ao_nil_n ?_
            have h := leafL h hq6
            exact ⟨m0, Nat.lt_succ_self _, _, reb_lit [(0, .sl 1 (List.map enc5 a0)), (5, .int .u64 (bits .or .u64 v5_0 (IntKind.u64.wrap ((IntKind.u64.wrap ((u8 (bits .andNot .u8 (x17.toNat : Int) 128)).toNat : Int)) * 2 ^ (min (Int.toNat (IntKind.i64.wrap (7 * v6_0))) (IntKind.bits .u64)))))), (6, .int .i64 (IntKind.i64.wrap (v6_0 + 1)))] [] [] [] (envOk_cons (by conv => lhs; whnf) (by exact rfl) (envOk_cons (by conv => lhs; whnf) (by exact rfl) (envOk_cons (by conv => lhs; whnf) (by exact rfl) envOk_nil))) objOk_nil (nodup_b rfl) (nodup_b rfl) rfl rfl, (bits .or .u64 v5_0 (IntKind.u64.wrap ((IntKind.u64.wrap ((u8 (bits .andNot .u8 (x17.toNat : Int) 128)).toNat : Int)) * 2 ^ (min (Int.toNat (IntKind.i64.wrap (7 * v6_0))) (IntKind.bits .u64))))), (IntKind.i64.wrap (v6_0 + 1)), h, rfl⟩
def ints_Put_l1 (v1_1 : Int) (v5_s_1 : List UInt8) : Option ((Int × List UInt8) ⊕ (Int × List UInt8)) :=
  if (decide ((128 : Int) ≤ v1_1)) = true then (gd ((List.length (v5_s_1 ++ [(u8 (bits .or .u8 ((u8 (IntKind.u8.wrap v1_1)).toNat : Int) 128))])) * 1 ≤ 140737488355328 ∧ (List.length (v5_s_1 ++ [(u8 (bits .or .u8 ((u8 (IntKind.u8.wrap v1_1)).toNat : Int) 128))])) ≤ 140737488355328) (some (Sum.inl ((Int.fdiv v1_1 (2 ^ (min (Int.toNat 7) (IntKind.bits .u64)))), (v5_s_1 ++ [(u8 (bits .or .u8 ((u8 (IntKind.u8.wrap v1_1)).toNat : Int) 128))]))))) else (some (Sum.inr (v1_1, v5_s_1)))
def ints_Put_k0 (v1_0 : Int) (v5_s_0 : List UInt8) : Option (List UInt8) :=
  gd ((List.length (v5_s_0 ++ [(u8 (IntKind.u8.wrap v1_0))])) * 1 ≤ 140737488355328 ∧ (List.length (v5_s_0 ++ [(u8 (IntKind.u8.wrap v1_0))])) ≤ 140737488355328) (some (v5_s_0 ++ [(u8 (IntKind.u8.wrap v1_0))]))
def ints_Put (a0 : List UInt8) (a1 : Int) : Option (List UInt8) :=
  gd ((List.length a0) * 1 ≤ 140737488355328 ∧ (List.length a0) ≤ 140737488355328) (Option.bind (loopN (fun (s : Int × List UInt8) => ints_Put_l1 s.1 s.2) Fu (a1, a0)) (fun (s : Int × List UInt8) => ints_Put_k0 s.1 s.2))
set_option maxRecDepth 100000 in
set_option maxHeartbeats 8000000 in
/-- gleaning/ints.Put -/
theorem ints_Put_ok (a0 : List UInt8) (a1 : Int) {r : List UInt8} (h : ints_Put a0 a1 = some r) : Ok Try.prog 27 [.sl 1 (List.map enc5 a0), .int .u64 a1] [] [] (.own 2 0) [] [(5, 1, List.map enc5 r)] := by
  unfold ints_Put at h
  refine ok_of_code Try.func27 rfl (by show (2 : Nat) ≤ _; decide) (Nat.le_refl _) fun X => ?_
  refine aw_seq_k (fun K1 hK1 => ?_)
  refine aw_reg ?_
  refine ao_cons (acts_of rfl (does_assign (v := .nil) (by exact rfl))) (by decide) ?_
  refine ao_nil_n ?_
  refine hK1 _ ?_
  refine aw_seq_k (fun K2 hK2 => ?_)
  refine aw_reg ?_
  refine ao_cons (acts_of rfl (does_move (v := .sl 1 (List.map enc5 a0)) (by exact rfl))) (by decide) ?_
  obtain ⟨g3, h⟩ := gd_some h
  refine ao_cons (acts_of rfl (do_append (v := List.map enc5 a0) (by conv => lhs; whnf) (by conv => lhs; whnf) ty22 ty5 rfl rfl (by conv => lhs; whnf) (by first | exact .inl rfl | exact .inr ⟨rfl, rfl⟩) (by conv => lhs; whnf) (by first | exact .inr rfl | exact .inl rfl) (List.nil_append _) (fit_map g3))) (by decide) ?_
  refine ao_cons (acts_of rfl (does_assign (v := .own 7 0) (by exact rfl))) (by decide) ?_
  refine ao_nil_n ?_
  refine hK2 _ ?_
  obtain ⟨q4, h, hk5⟩ := bnd_some h
  refine aw_cut (fun s => ∃ (v1_0 : Int), ∃ (v5_s_0 : List UInt8), ints_Put_k0 v1_0 v5_s_0 = some r ∧ s = lit [(1, .int .u64 v1_0), (5, .own 7 0)] [((7, 0), .arr 5 1 false (List.map enc5 v5_s_0))] [(7, 1)] X) ?_ ?_
  · skip
    refine aw_block ?_
    refine aw_loop' (fun m s => ∃ (v1_1 : Int), ∃ (v5_s_1 : List UInt8), loopN (fun (s : Int × List UInt8) => ints_Put_l1 s.1 s.2) m (v1_1, v5_s_1) = some q4 ∧ s = lit [(1, .int .u64 v1_1), (5, .own 7 0)] [((7, 0), .arr 5 1 false (List.map enc5 v5_s_1))] [(7, 1)] X) Fu
      ⟨_, reb_lit [(1, .int .u64 a1), (5, .own 7 0)] [(7, 0)] [((7, 0), .arr 5 1 false (List.map enc5 a0))] [(7, 1)] (envOk_cons (by conv => lhs; whnf) (by exact rfl) (envOk_cons (by conv => lhs; whnf) (by exact rfl) envOk_nil)) (objOk_cons (by conv => lhs; whnf) (by conv => lhs; whnf) (by exact rfl) (by simp) objOk_nil) (nodup_b rfl) (nodup_b rfl) rfl rfl, a1, a0, h, rfl⟩ ?_
    rintro m s ⟨v1_1, v5_s_1, h, rfl⟩
    obtain ⟨m1, q6, rfl, h, hq7⟩ := loop_some h
    replace h : ints_Put_l1 v1_1 v5_s_1 = some q6 := h
    unfold ints_Put_l1 at h
    refine aw_seq_k (fun K8 hK8 => ?_)
    refine aw_seq_k (fun K9 hK9 => ?_)
    refine aw_reg ?_
    refine ao_cons (acts_of rfl (does_move (v := .int .u64 v1_1) (by exact rfl))) (by decide) ?_
    refine ao_cons (acts_of rfl (does_bin (v := .bool (decide ((128 : Int) ≤ v1_1))) (by conv => lhs; whnf) (by conv => lhs; whnf) rfl)) (by decide) ?_
    refine ao_nil_n ?_
    refine hK9 _ ?_
    refine aw_bool (b := (decide ((128 : Int) ≤ v1_1))) 9 rfl (fun c10 => ?_) (fun c10 => ?_)
    · have h := ifT c10 h
      refine aw_cond_t (by decide) rfl ?_
      refine aw_skip ?_
      refine hK8 _ ?_
      refine aw_seq_k (fun K11 hK11 => ?_)
      refine aw_block ?_
      refine aw_reg ?_
      refine ao_cons (acts_of rfl (does_move (v := .own 7 0) (by exact rfl))) (by decide) ?_
      refine ao_cons (acts_of rfl (does_move (v := .int .u64 v1_1) (by exact rfl))) (by decide) ?_
      refine ao_cons (acts_of rfl ((does_conv_int (v := .int .u8 (IntKind.u8.wrap v1_1)) (by conv => lhs; whnf) (ty_some ty33) (ty_int ty5) rfl).castp (v' := .int .u8 ((u8 (IntKind.u8.wrap v1_1)).toNat : Int)) (by exact congrArg _ (u8_eq (u8_wrap _))))) (by decide) ?_
      refine ao_cons (acts_of rfl ((does_bin (v := .int .u8 (bits .or .u8 ((u8 (IntKind.u8.wrap v1_1)).toNat : Int) 128)) (by conv => lhs; whnf) (by conv => lhs; whnf) rfl).castp (v' := .int .u8 ((u8 (bits .or .u8 ((u8 (IntKind.u8.wrap v1_1)).toNat : Int) 128)).toNat : Int)) (by exact congrArg _ (u8_eq (u8_bits _ _ _))))) (by decide) ?_
      refine ao_cons (acts_of rfl (do_buildSlice (xs := List.map enc5 [(u8 (bits .or .u8 ((u8 (IntKind.u8.wrap v1_1)).toNat : Int) 128))]) ty22 ty5 rfl rfl rfl rfl rfl rfl rfl rfl)) (by decide) ?_
      obtain ⟨g12, h⟩ := gd_some h
      refine ao_cons (acts_of rfl (do_append (v := List.map enc5 (v5_s_1 ++ [(u8 (bits .or .u8 ((u8 (IntKind.u8.wrap v1_1)).toNat : Int) 128))])) (by conv => lhs; whnf) (by conv => lhs; whnf) ty22 ty5 rfl rfl (by conv => lhs; whnf) (by first | exact .inl rfl | exact .inr ⟨rfl, rfl⟩) (by conv => lhs; whnf) (by first | exact .inr rfl | exact .inl rfl) (map_app _ _) (fit_map g12))) (by decide) ?_
      refine ao_cons (acts_of rfl (does_assign (v := .own 17 0) (by exact rfl))) (by decide) ?_
      refine ao_nil_n ?_
      refine hK11 _ ?_
      refine aw_reg ?_
      refine ao_cons (acts_of rfl (does_move (v := .int .u64 v1_1) (by exact rfl))) (by decide) ?_
      refine ao_cons (acts_of rfl (does_bin (v := .int .u64 (Int.fdiv v1_1 (2 ^ (min (Int.toNat 7) (IntKind.bits .u64))))) (by conv => lhs; whnf) (by conv => lhs; whnf) rfl)) (by decide) ?_
      refine ao_cons (acts_of rfl (does_assign (v := .int .u64 (Int.fdiv v1_1 (2 ^ (min (Int.toNat 7) (IntKind.bits .u64))))) (by exact rfl))) (by decide) ?_
      refine ao_nil_n ?_
      have h := leafL h hq7
      exact ⟨m1, Nat.lt_succ_self _, _, reb_lit [(1, .int .u64 (Int.fdiv v1_1 (2 ^ (min (Int.toNat 7) (IntKind.bits .u64))))), (5, .own 7 0)] [(17, 0)] [((7, 0), .arr 5 1 false (List.map enc5 (v5_s_1 ++ [(u8 (bits .or .u8 ((u8 (IntKind.u8.wrap v1_1)).toNat : Int) 128))])))] [(7, 1)] (envOk_cons (by conv => lhs; whnf) (by exact rfl) (envOk_cons (by conv => lhs; whnf) (by exact rfl) envOk_nil)) (objOk_cons (by conv => lhs; whnf) (by conv => lhs; whnf) (by exact rfl) (by simp) objOk_nil) (nodup_b rfl) (nodup_b rfl) rfl rfl, (Int.fdiv v1_1 (2 ^ (min (Int.toNat 7) (IntKind.bits .u64)))), (v5_s_1 ++ [(u8 (bits .or .u8 ((u8 (IntKind.u8.wrap v1_1)).toNat : Int) 128))]), h, rfl⟩
    · have h := ifF c10 h
      refine aw_cond_f (by decide) rfl ?_
      refine aw_exit ?_
      have h := leafR h hq7
      obtain rfl := Option.some.inj h
      have h := hk5
      exact ⟨_, reb_lit [(1, .int .u64 v1_1), (5, .own 7 0)] [(7, 0)] [((7, 0), .arr 5 1 false (List.map enc5 v5_s_1))] [(7, 1)] (envOk_cons (by conv => lhs; whnf) (by exact rfl) (envOk_cons (by conv => lhs; whnf) (by exact rfl) envOk_nil)) (objOk_cons (by conv => lhs; whnf) (by conv => lhs; whnf) (by exact rfl) (by simp) objOk_nil) (nodup_b rfl) (nodup_b rfl) rfl rfl, v1_1, v5_s_1, h, rfl⟩
  · rintro s ⟨v1_0, v5_s_0, h, rfl⟩
    unfold ints_Put_k0 at h
    refine aw_seq_k (fun K13 hK13 => ?_)
    refine aw_reg ?_
    refine ao_cons (acts_of rfl (does_move (v := .own 7 0) (by exact rfl))) (by decide) ?_
    refine ao_cons (acts_of rfl (does_move (v := .int .u64 v1_0) (by exact rfl))) (by decide) ?_
    refine ao_cons (acts_of rfl ((does_conv_int (v := .int .u8 (IntKind.u8.wrap v1_0)) (by conv => lhs; whnf) (ty_some ty33) (ty_int ty5) rfl).castp (v' := .int .u8 ((u8 (IntKind.u8.wrap v1_0)).toNat : Int)) (by exact congrArg _ (u8_eq (u8_wrap _))))) (by decide) ?_
    refine ao_cons (acts_of rfl (do_buildSlice (xs := List.map enc5 [(u8 (IntKind.u8.wrap v1_0))]) ty22 ty5 rfl rfl rfl rfl rfl rfl rfl rfl)) (by decide) ?_
    obtain ⟨g14, h⟩ := gd_some h
    refine ao_cons (acts_of rfl (do_append (v := List.map enc5 (v5_s_0 ++ [(u8 (IntKind.u8.wrap v1_0))])) (by conv => lhs; whnf) (by conv => lhs; whnf) ty22 ty5 rfl rfl (by conv => lhs; whnf) (by first | exact .inl rfl | exact .inr ⟨rfl, rfl⟩) (by conv => lhs; whnf) (by first | exact .inr rfl | exact .inl rfl) (map_app _ _) (fit_map g14))) (by decide) ?_
    refine ao_cons (acts_of rfl (does_assign (v := .own 22 0) (by exact rfl))) (by decide) ?_
    refine ao_nil_n ?_
    refine hK13 _ ?_
    refine aw_ret ?_
    obtain rfl := Option.some.inj h
    exact ret_okR [(22, 0)] (by conv => lhs; whnf) (by conv => lhs; whnf) (by exact rfl) (rowsOk_cons (by conv => lhs; whnf) (by exact rfl) trivial) (nodup_b rfl) (.inr rfl) rfl
def ints_Text (a0 : List UInt8) (a1 : ByteArray) : Option (List UInt8) :=
  Option.bind (ints_Put a0 (IntKind.u64.wrap (ByteArray.size a1 : Int))) (fun (x3 : List UInt8) => gd ((List.length (x3 ++ (bytesOf a1))) ≤ 140737488355328) (some (x3 ++ (bytesOf a1))))
set_option maxRecDepth 100000 in
set_option maxHeartbeats 8000000 in
/-- gleaning/ints.Text -/
theorem ints_Text_ok (a0 : List UInt8) (a1 : ByteArray) {r : List UInt8} (h : ints_Text a0 a1 = some r) : Ok Try.prog 40 [.sl 1 (List.map enc5 a0), .str a1] [] [] (.own 2 0) [] [(5, 1, List.map enc5 r)] := by
  unfold ints_Text at h
  refine ok_of_code Try.func40 rfl (by show (2 : Nat) ≤ _; decide) (Nat.le_refl _) fun X => ?_
  refine aw_seq_k (fun K1 hK1 => ?_)
  refine aw_reg ?_
  refine ao_cons (acts_of rfl (does_assign (v := .nil) (by exact rfl))) (by decide) ?_
  refine ao_nil_n ?_
  refine hK1 _ ?_
  refine aw_seq_k (fun K2 hK2 => ?_)
  refine aw_reg ?_
  refine ao_cons (acts_of rfl (does_move (v := .sl 1 (List.map enc5 a0)) (by exact rfl))) (by decide) ?_
  refine ao_cons (acts_of rfl (does_move (v := .str a1) (by exact rfl))) (by decide) ?_
  refine ao_cons (acts_of rfl (does_len_str (by conv => lhs; whnf) ty9)) (by decide) ?_
  refine ao_cons (acts_of rfl (does_conv_int (v := .int .u64 (IntKind.u64.wrap (ByteArray.size a1 : Int))) (by conv => lhs; whnf) (ty_some ty3) (ty_int ty33) rfl)) (by decide) ?_
  obtain ⟨x3, hx3, h⟩ := bnd_some h
  refine ao_cons (acts_of rfl (do_call0 9 false (ints_Put_ok a0 (IntKind.u64.wrap (ByteArray.size a1 : Int)) hx3) rfl ent27 rfl rfl)) (by decide) ?_
  refine ao_cons (acts_of rfl (does_move (v := .str a1) (by exact rfl))) (by decide) ?_
  obtain ⟨g4, h⟩ := gd_some h
  refine ao_cons (acts_of rfl (do_append_str (l := x3) (f := enc5) (by conv => lhs; whnf) (by conv => lhs; whnf) ty22 ty5 zr5 (ty_str ty9) (by conv => lhs; whnf) (by first | exact .inl rfl | exact .inr ⟨rfl, rfl⟩) (fun _ => rfl) (g4))) (by decide) ?_
  refine ao_cons (acts_of rfl (does_assign (v := .own 11 0) (by exact rfl))) (by decide) ?_
  refine ao_nil_n ?_
  refine hK2 _ ?_
  refine aw_ret ?_
  obtain rfl := Option.some.inj h
  exact ret_okR [(11, 0)] (by conv => lhs; whnf) (by conv => lhs; whnf) (by exact rfl) (rowsOk_cons (by conv => lhs; whnf) (by exact rfl) trivial) (nodup_b rfl) (.inr rfl) rfl
def gleaninglaw1_alive : Option Bool :=
  Option.bind (ints_Get [(172 : UInt8), (2 : UInt8), (9 : UInt8)]) (fun (x3 : Int × Int × Bool) => Option.bind (ints_Put [] 300) (fun (x5 : List UInt8) => if (ByteArray.toList (strOf x5) == ByteArray.toList (strOf [172, 2])) = true then (if (x3.1 == 300) = true then (if (x3.2.1 == 2) = true then (if x3.2.2 = true then (Option.bind (ints_Text [] (strOf [97, 98])) (fun (x10 : List UInt8) => some (ByteArray.toList (strOf x10) == ByteArray.toList (strOf [2, 97, 98])))) else (some false)) else (some false)) else (some false)) else (some false)))
set_option maxRecDepth 100000 in
set_option maxHeartbeats 8000000 in
/-- gleaning/gleaninglaw1.alive -/
theorem gleaninglaw1_alive_ok {r : Bool} (h : gleaninglaw1_alive = some r) : Ok Try.prog 26 [] [] [] (.bool r) [] [] := by
  unfold gleaninglaw1_alive at h
  refine ok_of_code Try.func26 rfl (by show (0 : Nat) ≤ _; decide) (Nat.le_refl _) fun X => ?_
  refine aw_seq_k (fun K1 hK1 => ?_)
  refine aw_reg ?_
  refine ao_cons (acts_of rfl (does_assign (v := .bool false) (by exact rfl))) (by decide) ?_
  refine ao_nil_n ?_
  refine hK1 _ ?_
  refine aw_seq_k (fun K2 hK2 => ?_)
  refine aw_reg ?_
  refine ao_cons (acts_of rfl (do_buildSlice (xs := List.map enc5 [(172 : UInt8), (2 : UInt8), (9 : UInt8)]) ty22 ty5 rfl rfl rfl rfl rfl rfl rfl rfl)) (by decide) ?_
  obtain ⟨x3, hx3, h⟩ := bnd_some h
  refine ao_cons (acts_of rfl (do_callG (bcs := []) [] [] [(5, 0)] 6 false (ints_Get_ok [(172 : UInt8), (2 : UInt8), (9 : UInt8)] hx3) rfl ent28 trivial trivial rfl rfl rfl rfl rfl rfl rfl rfl (.inr ⟨rfl, rfl, trivial⟩))) (by decide) ?_
  refine ao_cons (acts_of rfl (does_move (v := .tup [.int .u64 x3.1, .int .i64 x3.2.1, .bool x3.2.2]) (by exact rfl))) (by decide) ?_
  refine ao_cons (acts_of rfl (does_extract (v := .int .u64 x3.1) (by conv => lhs; whnf) (by exact rfl))) (by decide) ?_
  refine ao_cons (acts_of rfl (does_extract (v := .int .i64 x3.2.1) (by conv => lhs; whnf) (by exact rfl))) (by decide) ?_
  refine ao_cons (acts_of rfl (does_extract (v := .bool x3.2.2) (by conv => lhs; whnf) (by exact rfl))) (by decide) ?_
  refine ao_cons (acts_of rfl (does_assign (v := .int .u64 x3.1) (by exact rfl))) (by decide) ?_
  refine ao_cons (acts_of rfl (does_assign (v := .int .i64 x3.2.1) (by exact rfl))) (by decide) ?_
  refine ao_cons (acts_of rfl (does_assign (v := .bool x3.2.2) (by exact rfl))) (by decide) ?_
  refine ao_nil_n ?_
  refine hK2 _ ?_
  refine aw_seq_k (fun K4 hK4 => ?_)
  refine aw_reg ?_
  obtain ⟨x5, hx5, h⟩ := bnd_some h
  refine ao_cons (acts_of rfl (do_call0 10 false ((ints_Put_ok [] 300 hx5).weak (args' := [.nil, _]) ⟨le_nil _, le_refl _, trivial⟩) rfl ent27 rfl rfl)) (by decide) ?_
  refine ao_cons (acts_of rfl (does_bytes_str (l := x5) (f := enc5) (by conv => lhs; whnf) (by conv => lhs; whnf) (Nat.le_refl 1) (ty_slice ty22) (ty_int ty5) (ty_str ty9) (fun _ => rfl))) (by decide) ?_
  refine ao_cons (acts_of rfl (does_bin (v := .bool (ByteArray.toList (strOf x5) == ByteArray.toList (strOf [172, 2]))) (by conv => lhs; whnf) (by conv => lhs; whnf) rfl)) (by decide) ?_
  refine ao_cons (acts_of rfl (does_move (v := .bool (ByteArray.toList (strOf x5) == ByteArray.toList (strOf [172, 2]))) (by exact rfl))) (by decide) ?_
  refine ao_bool (c := (ByteArray.toList (strOf x5) == ByteArray.toList (strOf [172, 2]))) 13 rfl (fun c6 => ?_) (fun c6 => ?_)
  · have h := ifT c6 h
    refine ao_cons (acts_of rfl (does_move (v := .int .u64 x3.1) (by exact rfl))) (by decide) ?_
    refine ao_cons (acts_of rfl (does_bin (v := .bool (x3.1 == 300)) (by conv => lhs; whnf) (by conv => lhs; whnf) rfl)) (by decide) ?_
    refine ao_cons (acts_of rfl (does_pick (v := .bool (x3.1 == 300)) (by conv => lhs; whnf) (by exact rfl))) (by decide) ?_
    refine ao_cons (acts_of rfl (does_move (v := .bool (x3.1 == 300)) (by exact rfl))) (by decide) ?_
    refine ao_bool (c := (x3.1 == 300)) 17 rfl (fun c7 => ?_) (fun c7 => ?_)
    · have h := ifT c7 h
      refine ao_cons (acts_of rfl (does_move (v := .int .i64 x3.2.1) (by exact rfl))) (by decide) ?_
      refine ao_cons (acts_of rfl (does_bin (v := .bool (x3.2.1 == 2)) (by conv => lhs; whnf) (by conv => lhs; whnf) rfl)) (by decide) ?_
      refine ao_cons (acts_of rfl (does_pick (v := .bool (x3.2.1 == 2)) (by conv => lhs; whnf) (by exact rfl))) (by decide) ?_
      refine ao_cons (acts_of rfl (does_move (v := .bool (x3.2.1 == 2)) (by exact rfl))) (by decide) ?_
      refine ao_bool (c := (x3.2.1 == 2)) 21 rfl (fun c8 => ?_) (fun c8 => ?_)
      · have h := ifT c8 h
        refine ao_cons (acts_of rfl (does_move (v := .bool x3.2.2) (by exact rfl))) (by decide) ?_
        refine ao_cons (acts_of rfl (does_pick (v := .bool x3.2.2) (by conv => lhs; whnf) (by exact rfl))) (by decide) ?_
        refine ao_cons (acts_of rfl (does_move (v := .bool x3.2.2) (by exact rfl))) (by decide) ?_
        refine ao_bool (c := x3.2.2) 24 rfl (fun c9 => ?_) (fun c9 => ?_)
        · have h := ifT c9 h
          obtain ⟨x10, hx10, h⟩ := bnd_some h
          refine ao_cons (acts_of rfl (do_call0 25 false ((ints_Text_ok [] (strOf [97, 98]) hx10).weak (args' := [.nil, _]) ⟨le_nil _, le_refl _, trivial⟩) rfl ent40 rfl rfl)) (by decide) ?_
          refine ao_cons (acts_of rfl (does_bytes_str (l := x10) (f := enc5) (by conv => lhs; whnf) (by conv => lhs; whnf) (Nat.le_refl 1) (ty_slice ty22) (ty_int ty5) (ty_str ty9) (fun _ => rfl))) (by decide) ?_
          refine ao_cons (acts_of rfl (does_bin (v := .bool (ByteArray.toList (strOf x10) == ByteArray.toList (strOf [2, 97, 98]))) (by conv => lhs; whnf) (by conv => lhs; whnf) rfl)) (by decide) ?_
          refine ao_cons (acts_of rfl (does_pick (v := .bool (ByteArray.toList (strOf x10) == ByteArray.toList (strOf [2, 97, 98]))) (by conv => lhs; whnf) (by exact rfl))) (by decide) ?_
          refine ao_cons (acts_of rfl (does_assign (v := .bool (ByteArray.toList (strOf x10) == ByteArray.toList (strOf [2, 97, 98]))) (by exact rfl))) (by decide) ?_
          refine ao_nil_n ?_
          refine hK4 _ ?_
          refine aw_ret ?_
          obtain rfl := Option.some.inj h
          exact ret_ok1 (by conv => lhs; whnf) (by conv => lhs; whnf) (by exact rfl) (.inr rfl) rfl
        · have h := ifF c9 h
          refine ao_cons (acts_skip rfl) (by decide) ?_
          refine ao_cons (acts_skip rfl) (by decide) ?_
          refine ao_cons (acts_skip rfl) (by decide) ?_
          refine ao_cons (acts_of rfl (does_pick (v := .bool false) (by conv => lhs; whnf) (by exact rfl))) (by decide) ?_
          refine ao_cons (acts_of rfl (does_assign (v := .bool false) (by exact rfl))) (by decide) ?_
          refine ao_nil_n ?_
          refine hK4 _ ?_
          refine aw_ret ?_
          obtain rfl := Option.some.inj h
          exact ret_ok1 (by conv => lhs; whnf) (by conv => lhs; whnf) (by exact rfl) (.inr rfl) rfl
      · have h := ifF c8 h
        refine ao_cons (acts_skip rfl) (by decide) ?_
        refine ao_cons (acts_of rfl (does_pick (v := .bool false) (by conv => lhs; whnf) (by exact rfl))) (by decide) ?_
        refine ao_cons (acts_of rfl (does_move (v := .bool false) (by exact rfl))) (by decide) ?_
        refine ao_cons (acts_skip rfl) (by decide) ?_
        refine ao_cons (acts_skip rfl) (by decide) ?_
        refine ao_cons (acts_skip rfl) (by decide) ?_
        refine ao_cons (acts_of rfl (does_pick (v := .bool false) (by conv => lhs; whnf) (by exact rfl))) (by decide) ?_
        refine ao_cons (acts_of rfl (does_assign (v := .bool false) (by exact rfl))) (by decide) ?_
        refine ao_nil_n ?_
        refine hK4 _ ?_
        refine aw_ret ?_
        obtain rfl := Option.some.inj h
        exact ret_ok1 (by conv => lhs; whnf) (by conv => lhs; whnf) (by exact rfl) (.inr rfl) rfl
    · have h := ifF c7 h
      refine ao_cons (acts_skip rfl) (by decide) ?_
      refine ao_cons (acts_skip rfl) (by decide) ?_
      refine ao_cons (acts_of rfl (does_pick (v := .bool false) (by conv => lhs; whnf) (by exact rfl))) (by decide) ?_
      refine ao_cons (acts_of rfl (does_move (v := .bool false) (by exact rfl))) (by decide) ?_
      refine ao_cons (acts_skip rfl) (by decide) ?_
      refine ao_cons (acts_of rfl (does_pick (v := .bool false) (by conv => lhs; whnf) (by exact rfl))) (by decide) ?_
      refine ao_cons (acts_of rfl (does_move (v := .bool false) (by exact rfl))) (by decide) ?_
      refine ao_cons (acts_skip rfl) (by decide) ?_
      refine ao_cons (acts_skip rfl) (by decide) ?_
      refine ao_cons (acts_skip rfl) (by decide) ?_
      refine ao_cons (acts_of rfl (does_pick (v := .bool false) (by conv => lhs; whnf) (by exact rfl))) (by decide) ?_
      refine ao_cons (acts_of rfl (does_assign (v := .bool false) (by exact rfl))) (by decide) ?_
      refine ao_nil_n ?_
      refine hK4 _ ?_
      refine aw_ret ?_
      obtain rfl := Option.some.inj h
      exact ret_ok1 (by conv => lhs; whnf) (by conv => lhs; whnf) (by exact rfl) (.inr rfl) rfl
  · have h := ifF c6 h
    refine ao_cons (acts_skip rfl) (by decide) ?_
    refine ao_cons (acts_skip rfl) (by decide) ?_
    refine ao_cons (acts_of rfl (does_pick (v := .bool false) (by conv => lhs; whnf) (by exact rfl))) (by decide) ?_
    refine ao_cons (acts_of rfl (does_move (v := .bool false) (by exact rfl))) (by decide) ?_
    refine ao_cons (acts_skip rfl) (by decide) ?_
    refine ao_cons (acts_skip rfl) (by decide) ?_
    refine ao_cons (acts_of rfl (does_pick (v := .bool false) (by conv => lhs; whnf) (by exact rfl))) (by decide) ?_
    refine ao_cons (acts_of rfl (does_move (v := .bool false) (by exact rfl))) (by decide) ?_
    refine ao_cons (acts_skip rfl) (by decide) ?_
    refine ao_cons (acts_of rfl (does_pick (v := .bool false) (by conv => lhs; whnf) (by exact rfl))) (by decide) ?_
    refine ao_cons (acts_of rfl (does_move (v := .bool false) (by exact rfl))) (by decide) ?_
    refine ao_cons (acts_skip rfl) (by decide) ?_
    refine ao_cons (acts_skip rfl) (by decide) ?_
    refine ao_cons (acts_skip rfl) (by decide) ?_
    refine ao_cons (acts_of rfl (does_pick (v := .bool false) (by conv => lhs; whnf) (by exact rfl))) (by decide) ?_
    refine ao_cons (acts_of rfl (does_assign (v := .bool false) (by exact rfl))) (by decide) ?_
    refine ao_nil_n ?_
    refine hK4 _ ?_
    refine aw_ret ?_
    obtain rfl := Option.some.inj h
    exact ret_ok1 (by conv => lhs; whnf) (by conv => lhs; whnf) (by exact rfl) (.inr rfl) rfl
def gleaninglaw1_IntsShort_l2 (v7_2 : Int) (v8_2 : Int) : Option ((Int × Int) ⊕ Int) :=
  if (decide ((0 : Int) < v8_2)) = true then (some (Sum.inl ((IntKind.i64.wrap (v7_2 + 1)), (Int.fdiv v8_2 (2 ^ (min (Int.toNat 7) (IntKind.bits .u64))))))) else (some (Sum.inr v7_2))
def gleaninglaw1_IntsShort_l4 (a1 : Int) (v9_s_4 : List UInt8) (v10_4 : Int) : Option ((List UInt8 × Int) ⊕ (List UInt8)) :=
  if (decide (v10_4 < a1)) = true then (gd ((List.length (v9_s_4 ++ [(128 : UInt8)])) * 1 ≤ 140737488355328 ∧ (List.length (v9_s_4 ++ [(128 : UInt8)])) ≤ 140737488355328) (some (Sum.inl ((v9_s_4 ++ [(128 : UInt8)]), (IntKind.i64.wrap (v10_4 + 1)))))) else (some (Sum.inr v9_s_4))
def gleaninglaw1_IntsShort_k3 (v9_s_3 : List UInt8) : Option Bool :=
  gd ((List.length (v9_s_3 ++ [(0 : UInt8)])) * 1 ≤ 140737488355328 ∧ (List.length (v9_s_3 ++ [(0 : UInt8)])) ≤ 140737488355328) (Option.bind (ints_Get (v9_s_3 ++ [(0 : UInt8)])) (fun (x48 : Int × Int × Bool) => some (!x48.2.2)))
def gleaninglaw1_IntsShort_k1 (a1 : Int) (x14 : List UInt8) (v7_1 : Int) : Option Bool :=
  if ((List.length x14 : Int) != v7_1) = true then (some false) else (gd ((List.length x14) * 1 ≤ 140737488355328 ∧ (List.length x14) ≤ 140737488355328) (gd (0 ≤ (IntKind.i64.wrap ((List.length x14 : Int) - 1))) (Option.bind (x14[(Int.toNat (IntKind.i64.wrap ((List.length x14 : Int) - 1)))]?) (fun (x33 : UInt8) => gd (0 ≤ (IntKind.i64.wrap ((List.length x14 : Int) - 1))) (Option.bind (x14[(Int.toNat (IntKind.i64.wrap ((List.length x14 : Int) - 1)))]?) (fun (x35 : UInt8) => Option.bind (loopN (fun (s : List UInt8 × Int) => gleaninglaw1_IntsShort_l4 a1 s.1 s.2) Fu ((List.set x14 (Int.toNat (IntKind.i64.wrap ((List.length x14 : Int) - 1))) (u8 (bits .or .u8 (x33.toNat : Int) 128))), 1)) (fun (s : List UInt8) => gleaninglaw1_IntsShort_k3 s)))))))
def gleaninglaw1_IntsShort_k0 (a0 : Int) (a1 : Int) : Option Bool :=
  Option.bind (ints_Put [] a0) (fun (x14 : List UInt8) => Option.bind (loopN (fun (s : Int × Int) => gleaninglaw1_IntsShort_l2 s.1 s.2) Fu (1, (Int.fdiv a0 (2 ^ (min (Int.toNat 7) (IntKind.bits .u64)))))) (fun (s : Int) => gleaninglaw1_IntsShort_k1 a1 x14 s))
def gleaninglaw1_IntsShort (a0 : Int) (a1 : Int) : Option Bool :=
  Option.bind (gleaninglaw1_alive) (fun (x3 : Bool) => Option.bind (if (!x3) = true then (some (Sum.inr x3)) else (if (decide (a1 < 1)) = true then (some (Sum.inr x3)) else (if (decide ((5 : Int) < a1)) = true then (some (Sum.inr x3)) else (some (Sum.inl ()))))) (Sum.elim (fun (s : Unit) => gleaninglaw1_IntsShort_k0 a0 a1) some))
set_option maxRecDepth 100000 in
set_option maxHeartbeats 8000000 in
/-- gleaning/gleaninglaw1.IntsShort -/
theorem gleaninglaw1_IntsShort_ok (a0 : Int) (a1 : Int) {r : Bool} (h : gleaninglaw1_IntsShort a0 a1 = some r) : Ok Try.prog 9 [.int .u64 a0, .int .i64 a1] [] [] (.bool r) [] [] := by
  unfold gleaninglaw1_IntsShort at h
  refine ok_of_code Try.func9 rfl (by show (2 : Nat) ≤ _; decide) (Nat.le_refl _) fun X => ?_
  refine aw_seq_k (fun K1 hK1 => ?_)
  refine aw_reg ?_
  refine ao_cons (acts_of rfl (does_assign (v := .bool false) (by exact rfl))) (by decide) ?_
  refine ao_nil_n ?_
  refine hK1 _ ?_
  refine aw_seq_k (fun K2 hK2 => ?_)
  refine aw_reg ?_
  obtain ⟨x3, hx3, h⟩ := bnd_some h
  refine ao_cons (acts_of rfl (do_call0 14 false (gleaninglaw1_alive_ok hx3) rfl ent26 rfl rfl)) (by decide) ?_
  refine ao_cons (acts_of rfl (does_assign (v := .bool x3) (by exact rfl))) (by decide) ?_
  refine ao_nil_n ?_
  refine hK2 _ ?_
  obtain ⟨q4, h, hk5⟩ := bnd_some h
  refine aw_cut (fun s => gleaninglaw1_IntsShort_k0 a0 a1 = some r ∧ s = lit [(0, .int .u64 a0), (1, .int .i64 a1)] [] [] X) ?_ ?_
  · skip
    refine aw_seq_k (fun K6 hK6 => ?_)
    refine aw_reg ?_
    refine ao_cons (acts_of rfl (does_move (v := .bool x3) (by exact rfl))) (by decide) ?_
    refine ao_cons (acts_of rfl (does_un (v := .bool (!x3)) (by conv => lhs; whnf) rfl)) (by decide) ?_
    refine ao_cons (acts_of rfl (does_move (v := .bool (!x3)) (by exact rfl))) (by decide) ?_
    refine ao_bool (c := (!x3)) 17 rfl (fun c7 => ?_) (fun c7 => ?_)
    · have h := ifT c7 h
      refine ao_cons (acts_skip rfl) (by decide) ?_
      refine ao_cons (acts_skip rfl) (by decide) ?_
      refine ao_cons (acts_of rfl (does_pick (v := .bool true) (by conv => lhs; whnf) (by exact rfl))) (by decide) ?_
      refine ao_cons (acts_of rfl (does_move (v := .bool true) (by exact rfl))) (by decide) ?_
      refine ao_cons (acts_skip rfl) (by decide) ?_
      refine ao_cons (acts_skip rfl) (by decide) ?_
      refine ao_cons (acts_of rfl (does_pick (v := .bool true) (by conv => lhs; whnf) (by exact rfl))) (by decide) ?_
      refine ao_nil_n ?_
      refine hK6 _ ?_
      refine aw_cond_t (by decide) rfl ?_
      refine aw_seq_k (fun K8 hK8 => ?_)
      refine aw_reg ?_
      refine ao_cons (acts_of rfl (does_move (v := .bool x3) (by exact rfl))) (by decide) ?_
      refine ao_cons (acts_of rfl (does_assign (v := .bool x3) (by exact rfl))) (by decide) ?_
      refine ao_nil_n ?_
      refine hK8 _ ?_
      refine aw_ret ?_
      have h := leafR h hk5
      obtain rfl := Option.some.inj h
      exact ret_ok1 (by conv => lhs; whnf) (by conv => lhs; whnf) (by exact rfl) (.inr rfl) rfl
    · have h := ifF c7 h
      refine ao_cons (acts_of rfl (does_move (v := .int .i64 a1) (by exact rfl))) (by decide) ?_
      refine ao_cons (acts_of rfl (does_bin (v := .bool (decide (a1 < 1))) (by conv => lhs; whnf) (by conv => lhs; whnf) rfl)) (by decide) ?_
      refine ao_cons (acts_of rfl (does_pick (v := .bool (decide (a1 < 1))) (by conv => lhs; whnf) (by exact rfl))) (by decide) ?_
      refine ao_cons (acts_of rfl (does_move (v := .bool (decide (a1 < 1))) (by exact rfl))) (by decide) ?_
      refine ao_bool (c := (decide (a1 < 1))) 21 rfl (fun c9 => ?_) (fun c9 => ?_)
      · have h := ifT c9 h
        refine ao_cons (acts_skip rfl) (by decide) ?_
        refine ao_cons (acts_skip rfl) (by decide) ?_
        refine ao_cons (acts_of rfl (does_pick (v := .bool true) (by conv => lhs; whnf) (by exact rfl))) (by decide) ?_
        refine ao_nil_n ?_
        refine hK6 _ ?_
        refine aw_cond_t (by decide) rfl ?_
        refine aw_seq_k (fun K10 hK10 => ?_)
        refine aw_reg ?_
        refine ao_cons (acts_of rfl (does_move (v := .bool x3) (by exact rfl))) (by decide) ?_
        refine ao_cons (acts_of rfl (does_assign (v := .bool x3) (by exact rfl))) (by decide) ?_
        refine ao_nil_n ?_
        refine hK10 _ ?_
        refine aw_ret ?_
        have h := leafR h hk5
        obtain rfl := Option.some.inj h
        exact ret_ok1 (by conv => lhs; whnf) (by conv => lhs; whnf) (by exact rfl) (.inr rfl) rfl
      · have h := ifF c9 h
        refine ao_cons (acts_of rfl (does_move (v := .int .i64 a1) (by exact rfl))) (by decide) ?_
        refine ao_cons (acts_of rfl (does_bin (v := .bool (decide ((5 : Int) < a1))) (by conv => lhs; whnf) (by conv => lhs; whnf) rfl)) (by decide) ?_
        refine ao_cons (acts_of rfl (does_pick (v := .bool (decide ((5 : Int) < a1))) (by conv => lhs; whnf) (by exact rfl))) (by decide) ?_
        refine ao_nil_n ?_
        refine hK6 _ ?_
        refine aw_bool (b := (decide ((5 : Int) < a1))) 24 rfl (fun c11 => ?_) (fun c11 => ?_)
        · have h := ifT c11 h
          refine aw_cond_t (by decide) rfl ?_
          refine aw_seq_k (fun K12 hK12 => ?_)
          refine aw_reg ?_
          refine ao_cons (acts_of rfl (does_move (v := .bool x3) (by exact rfl))) (by decide) ?_
          refine ao_cons (acts_of rfl (does_assign (v := .bool x3) (by exact rfl))) (by decide) ?_
          refine ao_nil_n ?_
          refine hK12 _ ?_
          refine aw_ret ?_
          have h := leafR h hk5
          obtain rfl := Option.some.inj h
          exact ret_ok1 (by conv => lhs; whnf) (by conv => lhs; whnf) (by exact rfl) (.inr rfl) rfl
        · have h := ifF c11 h
          refine aw_cond_f (by decide) rfl ?_
          refine aw_skip ?_
          have h := leafL h hk5
          exact ⟨_, reb_lit [(0, .int .u64 a0), (1, .int .i64 a1)] [] [] [] (envOk_cons (by conv => lhs; whnf) (by exact rfl) (envOk_cons (by conv => lhs; whnf) (by exact rfl) envOk_nil)) objOk_nil (nodup_b rfl) (nodup_b rfl) rfl rfl, h, rfl⟩
  · rintro s ⟨h, rfl⟩
    unfold gleaninglaw1_IntsShort_k0 at h
    refine aw_seq_k (fun K13 hK13 => ?_)
    refine aw_reg ?_
    refine ao_cons (acts_of rfl (does_move (v := .int .u64 a0) (by exact rfl))) (by decide) ?_
    obtain ⟨x14, hx14, h⟩ := bnd_some h
    refine ao_cons (acts_of rfl (do_call0 27 false ((ints_Put_ok [] a0 hx14).weak (args' := [.nil, _]) ⟨le_nil _, le_refl _, trivial⟩) rfl ent27 rfl rfl)) (by decide) ?_
    refine ao_cons (acts_of rfl (does_assign (v := .own 27 0) (by exact rfl))) (by decide) ?_
    refine ao_nil_n ?_
    refine hK13 _ ?_
    refine aw_seq_k (fun K15 hK15 => ?_)
    refine aw_reg ?_
    refine ao_cons (acts_of rfl (does_assign (v := .int .i64 1) (by exact rfl))) (by decide) ?_
    refine ao_nil_n ?_
    refine hK15 _ ?_
    obtain ⟨q16, h, hk17⟩ := bnd_some h
    refine aw_cut (fun s => ∃ (v7_1 : Int), gleaninglaw1_IntsShort_k1 a1 x14 v7_1 = some r ∧ s = lit [(1, .int .i64 a1), (6, .own 27 0), (7, .int .i64 v7_1)] [((27, 0), .arr 5 1 false (List.map enc5 x14))] [(27, 1)] X) ?_ ?_
    · skip
      refine aw_seq_k (fun K18 hK18 => ?_)
      refine aw_reg ?_
      refine ao_cons (acts_of rfl (does_move (v := .int .u64 a0) (by exact rfl))) (by decide) ?_
      refine ao_cons (acts_of rfl (does_bin (v := .int .u64 (Int.fdiv a0 (2 ^ (min (Int.toNat 7) (IntKind.bits .u64))))) (by conv => lhs; whnf) (by conv => lhs; whnf) rfl)) (by decide) ?_
      refine ao_cons (acts_of rfl (does_assign (v := .int .u64 (Int.fdiv a0 (2 ^ (min (Int.toNat 7) (IntKind.bits .u64))))) (by exact rfl))) (by decide) ?_
      refine ao_nil_n ?_
      refine hK18 _ ?_
      refine aw_block ?_
      refine aw_loop' (fun m s => ∃ (v7_2 : Int), ∃ (v8_2 : Int), loopN (fun (s : Int × Int) => gleaninglaw1_IntsShort_l2 s.1 s.2) m (v7_2, v8_2) = some q16 ∧ s = lit [(1, .int .i64 a1), (6, .own 27 0), (7, .int .i64 v7_2), (8, .int .u64 v8_2)] [((27, 0), .arr 5 1 false (List.map enc5 x14))] [(27, 1)] X) Fu
        ⟨_, reb_lit [(1, .int .i64 a1), (6, .own 27 0), (7, .int .i64 (1)), (8, .int .u64 (Int.fdiv a0 (2 ^ (min (Int.toNat 7) (IntKind.bits .u64)))))] [(27, 0)] [((27, 0), .arr 5 1 false (List.map enc5 x14))] [(27, 1)] (envOk_cons (by conv => lhs; whnf) (by exact rfl) (envOk_cons (by conv => lhs; whnf) (by exact rfl) (envOk_cons (by conv => lhs; whnf) (by exact rfl) (envOk_cons (by conv => lhs; whnf) (by exact rfl) envOk_nil)))) (objOk_cons (by conv => lhs; whnf) (by conv => lhs; whnf) (by exact rfl) (by simp) objOk_nil) (nodup_b rfl) (nodup_b rfl) rfl rfl, 1, (Int.fdiv a0 (2 ^ (min (Int.toNat 7) (IntKind.bits .u64)))), h, rfl⟩ ?_
      rintro m s ⟨v7_2, v8_2, h, rfl⟩
      obtain ⟨m2, q19, rfl, h, hq20⟩ := loop_some h
      replace h : gleaninglaw1_IntsShort_l2 v7_2 v8_2 = some q19 := h
      unfold gleaninglaw1_IntsShort_l2 at h
      refine aw_seq_k (fun K21 hK21 => ?_)
      refine aw_seq_k (fun K22 hK22 => ?_)
      refine aw_reg ?_
      refine ao_cons (acts_of rfl (does_move (v := .int .u64 v8_2) (by exact rfl))) (by decide) ?_
      refine ao_cons (acts_of rfl (does_bin (v := .bool (decide ((0 : Int) < v8_2))) (by conv => lhs; whnf) (by conv => lhs; whnf) rfl)) (by decide) ?_
      refine ao_nil_n ?_
      refine hK22 _ ?_
      refine aw_bool (b := (decide ((0 : Int) < v8_2))) 31 rfl (fun c23 => ?_) (fun c23 => ?_)
      · have h := ifT c23 h
        refine aw_cond_t (by decide) rfl ?_
        refine aw_skip ?_
        refine hK21 _ ?_
        refine aw_seq_k (fun K24 hK24 => ?_)
        refine aw_block ?_
        refine aw_reg ?_
        refine ao_cons (acts_of rfl (does_move (v := .int .i64 v7_2) (by exact rfl))) (by decide) ?_
        refine ao_cons (acts_of rfl (does_bin (v := .int .i64 (IntKind.i64.wrap (v7_2 + 1))) (by conv => lhs; whnf) (by conv => lhs; whnf) rfl)) (by decide) ?_
        refine ao_cons (acts_of rfl (does_assign (v := .int .i64 (IntKind.i64.wrap (v7_2 + 1))) (by exact rfl))) (by decide) ?_
        refine ao_nil_n ?_
        refine hK24 _ ?_
        refine aw_reg ?_
        refine ao_cons (acts_of rfl (does_move (v := .int .u64 v8_2) (by exact rfl))) (by decide) ?_
        refine ao_cons (acts_of rfl (does_bin (v := .int .u64 (Int.fdiv v8_2 (2 ^ (min (Int.toNat 7) (IntKind.bits .u64))))) (by conv => lhs; whnf) (by conv => lhs; whnf) rfl)) (by decide) ?_
        refine ao_cons (acts_of rfl (does_assign (v := .int .u64 (Int.fdiv v8_2 (2 ^ (min (Int.toNat 7) (IntKind.bits .u64))))) (by exact rfl))) (by decide) ?_
        refine ao_nil_n ?_
        have h := leafL h hq20
        exact ⟨m2, Nat.lt_succ_self _, _, reb_lit [(1, .int .i64 a1), (6, .own 27 0), (7, .int .i64 (IntKind.i64.wrap (v7_2 + 1))), (8, .int .u64 (Int.fdiv v8_2 (2 ^ (min (Int.toNat 7) (IntKind.bits .u64)))))] [(27, 0)] [((27, 0), .arr 5 1 false (List.map enc5 x14))] [(27, 1)] (envOk_cons (by conv => lhs; whnf) (by exact rfl) (envOk_cons (by conv => lhs; whnf) (by exact rfl) (envOk_cons (by conv => lhs; whnf) (by exact rfl) (envOk_cons (by conv => lhs; whnf) (by exact rfl) envOk_nil)))) (objOk_cons (by conv => lhs; whnf) (by conv => lhs; whnf) (by exact rfl) (by simp) objOk_nil) (nodup_b rfl) (nodup_b rfl) rfl rfl, (IntKind.i64.wrap (v7_2 + 1)), (Int.fdiv v8_2 (2 ^ (min (Int.toNat 7) (IntKind.bits .u64)))), h, rfl⟩
      · have h := ifF c23 h
        refine aw_cond_f (by decide) rfl ?_
        refine aw_exit ?_
        have h := leafR h hq20
        obtain rfl := Option.some.inj h
        have h := hk17
        exact ⟨_, reb_lit [(1, .int .i64 a1), (6, .own 27 0), (7, .int .i64 v7_2)] [(27, 0)] [((27, 0), .arr 5 1 false (List.map enc5 x14))] [(27, 1)] (envOk_cons (by conv => lhs; whnf) (by exact rfl) (envOk_cons (by conv => lhs; whnf) (by exact rfl) (envOk_cons (by conv => lhs; whnf) (by exact rfl) envOk_nil))) (objOk_cons (by conv => lhs; whnf) (by conv => lhs; whnf) (by exact rfl) (by simp) objOk_nil) (nodup_b rfl) (nodup_b rfl) rfl rfl, v7_2, h, rfl⟩
    · rintro s ⟨v7_1, h, rfl⟩
      unfold gleaninglaw1_IntsShort_k1 at h
      refine aw_seq_k (fun K25 hK25 => ?_)
      refine aw_seq_k (fun K26 hK26 => ?_)
      refine aw_reg ?_
      refine ao_cons (acts_of rfl (does_move (v := .own 27 0) (by exact rfl))) (by decide) ?_
      refine ao_cons (acts_of rfl ((does_len_own (by conv => lhs; whnf) (by conv => lhs; whnf) ty22).cast (v' := .int .i64 (List.length x14 : Int)) (by exact len_map _))) (by decide) ?_
      refine ao_cons (acts_of rfl (does_move (v := .int .i64 v7_1) (by exact rfl))) (by decide) ?_
      refine ao_cons (acts_of rfl (does_bin (v := .bool ((List.length x14 : Int) != v7_1)) (by conv => lhs; whnf) (by conv => lhs; whnf) rfl)) (by decide) ?_
      refine ao_nil_n ?_
      refine hK26 _ ?_
      refine aw_bool (b := ((List.length x14 : Int) != v7_1)) 39 rfl (fun c27 => ?_) (fun c27 => ?_)
      · have h := ifT c27 h
        refine aw_cond_t (by decide) rfl ?_
        refine aw_seq_k (fun K28 hK28 => ?_)
        refine aw_reg ?_
        refine ao_cons (acts_of rfl (does_assign (v := .bool false) (by exact rfl))) (by decide) ?_
        refine ao_nil_n ?_
        refine hK28 _ ?_
        refine aw_ret ?_
        obtain rfl := Option.some.inj h
        exact ret_ok1 (by conv => lhs; whnf) (by conv => lhs; whnf) (by exact rfl) (.inr rfl) rfl
      · have h := ifF c27 h
        refine aw_cond_f (by decide) rfl ?_
        refine aw_skip ?_
        refine hK25 _ ?_
        refine aw_seq_k (fun K29 hK29 => ?_)
        refine aw_reg ?_
        refine ao_cons (acts_of rfl (does_move (v := .own 27 0) (by exact rfl))) (by decide) ?_
        obtain ⟨g30, h⟩ := gd_some h
        refine ao_cons (acts_of rfl (do_append (v := List.map enc5 x14) (by conv => lhs; whnf) (by conv => lhs; whnf) ty22 ty5 rfl rfl (by conv => lhs; whnf) (by first | exact .inl rfl | exact .inr ⟨rfl, rfl⟩) (by conv => lhs; whnf) (by first | exact .inr rfl | exact .inl rfl) (List.nil_append _) (fit_map g30))) (by decide) ?_
        refine ao_cons (acts_of rfl (does_assign (v := .own 41 0) (by exact rfl))) (by decide) ?_
        refine ao_nil_n ?_
        refine hK29 _ ?_
        refine aw_seq_k (fun K31 hK31 => ?_)
        refine aw_reg ?_
        refine ao_cons (acts_of rfl (does_move (v := .own 41 0) (by exact rfl))) (by decide) ?_
        refine ao_cons (acts_of rfl (does_move (v := .own 41 0) (by exact rfl))) (by decide) ?_
        refine ao_cons (acts_of rfl ((does_len_own (by conv => lhs; whnf) (by conv => lhs; whnf) ty22).cast (v' := .int .i64 (List.length x14 : Int)) (by exact len_map _))) (by decide) ?_
        refine ao_cons (acts_of rfl (does_bin (v := .int .i64 (IntKind.i64.wrap ((List.length x14 : Int) - 1))) (by conv => lhs; whnf) (by conv => lhs; whnf) rfl)) (by decide) ?_
        refine ao_cons (acts_of rfl (does_move (v := .own 41 0) (by exact rfl))) (by decide) ?_
        refine ao_cons (acts_of rfl (does_move (v := .own 41 0) (by exact rfl))) (by decide) ?_
        refine ao_cons (acts_of rfl ((does_len_own (by conv => lhs; whnf) (by conv => lhs; whnf) ty22).cast (v' := .int .i64 (List.length x14 : Int)) (by exact len_map _))) (by decide) ?_
        refine ao_cons (acts_of rfl (does_bin (v := .int .i64 (IntKind.i64.wrap ((List.length x14 : Int) - 1))) (by conv => lhs; whnf) (by conv => lhs; whnf) rfl)) (by decide) ?_
        obtain ⟨g32, h⟩ := gd_some h
        obtain ⟨x33, hx33, h⟩ := bnd_some h
        refine ao_cons (acts_of rfl (does_indexAddr_own (by conv => lhs; whnf) (by conv => lhs; whnf) (by conv => lhs; whnf) ty22 ty5 g32 (by exact own_lt hx33))) (by decide) ?_
        refine ao_cons (acts_of rfl (does_load (v := .int .u8 (x33.toNat : Int)) (by conv => lhs; whnf) (cellsAt_eptr (by conv => lhs; whnf) (by exact map_get hx33)) ty5 (by exact rfl))) (by decide) ?_
        refine ao_cons (acts_of rfl ((does_bin (v := .int .u8 (bits .or .u8 (x33.toNat : Int) 128)) (by conv => lhs; whnf) (by conv => lhs; whnf) rfl).castp (v' := .int .u8 ((u8 (bits .or .u8 (x33.toNat : Int) 128)).toNat : Int)) (by exact congrArg _ (u8_eq (u8_bits _ _ _))))) (by decide) ?_
        obtain ⟨g34, h⟩ := gd_some h
        obtain ⟨x35, hx35, h⟩ := bnd_some h
        refine ao_cons (acts_of rfl (does_indexAddr_own (by conv => lhs; whnf) (by conv => lhs; whnf) (by conv => lhs; whnf) ty22 ty5 g34 (by exact own_lt hx35))) (by decide) ?_
        refine ao_cons (acts_of rfl (does_storeE (old := .int .u8 (x35.toNat : Int)) (el := .int .u8 ((u8 (bits .or .u8 (x33.toNat : Int) 128)).toNat : Int)) (xs' := List.map enc5 (List.set x14 (Int.toNat (IntKind.i64.wrap ((List.length x14 : Int) - 1))) (u8 (bits .or .u8 (x33.toNat : Int) 128)))) (by conv => lhs; whnf) (by conv => lhs; whnf) (by conv => lhs; whnf) ty5 (by rfl) (by rfl) (by exact map_get hx35) (by rfl) (by exact rfl) (by exact map_set' _ _ (u8 (bits .or .u8 (x33.toNat : Int) 128))) (by rfl))) (by decide) ?_
        refine ao_nil_n ?_
        refine hK31 _ ?_
        obtain ⟨q36, h, hk37⟩ := bnd_some h
        refine aw_cut (fun s => ∃ (v9_s_3 : List UInt8), gleaninglaw1_IntsShort_k3 v9_s_3 = some r ∧ s = lit [(9, .own 41 0)] [((41, 0), .arr 5 1 false (List.map enc5 v9_s_3))] [(41, 1)] X) ?_ ?_
        · skip
          refine aw_seq_k (fun K38 hK38 => ?_)
          refine aw_reg ?_
          refine ao_cons (acts_of rfl (does_assign (v := .int .i64 1) (by exact rfl))) (by decide) ?_
          refine ao_nil_n ?_
          refine hK38 _ ?_
          refine aw_block ?_
          refine aw_loop' (fun m s => ∃ (v9_s_4 : List UInt8), ∃ (v10_4 : Int), loopN (fun (s : List UInt8 × Int) => gleaninglaw1_IntsShort_l4 a1 s.1 s.2) m (v9_s_4, v10_4) = some q36 ∧ s = lit [(1, .int .i64 a1), (9, .own 41 0), (10, .int .i64 v10_4)] [((41, 0), .arr 5 1 false (List.map enc5 v9_s_4))] [(41, 1)] X) Fu
            ⟨_, reb_lit [(1, .int .i64 a1), (9, .own 41 0), (10, .int .i64 (1))] [(41, 0)] [((41, 0), .arr 5 1 false (List.map enc5 (List.set x14 (Int.toNat (IntKind.i64.wrap ((List.length x14 : Int) - 1))) (u8 (bits .or .u8 (x33.toNat : Int) 128)))))] [(41, 1)] (envOk_cons (by conv => lhs; whnf) (by exact rfl) (envOk_cons (by conv => lhs; whnf) (by exact rfl) (envOk_cons (by conv => lhs; whnf) (by exact rfl) envOk_nil))) (objOk_cons (by conv => lhs; whnf) (by conv => lhs; whnf) (by exact rfl) (by simp) objOk_nil) (nodup_b rfl) (nodup_b rfl) rfl rfl, (List.set x14 (Int.toNat (IntKind.i64.wrap ((List.length x14 : Int) - 1))) (u8 (bits .or .u8 (x33.toNat : Int) 128))), 1, h, rfl⟩ ?_
          rintro m s ⟨v9_s_4, v10_4, h, rfl⟩
          obtain ⟨m4, q39, rfl, h, hq40⟩ := loop_some h
          replace h : gleaninglaw1_IntsShort_l4 a1 v9_s_4 v10_4 = some q39 := h
          unfold gleaninglaw1_IntsShort_l4 at h
          refine aw_seq_k (fun K41 hK41 => ?_)
          refine aw_seq_k (fun K42 hK42 => ?_)
          refine aw_reg ?_
          refine ao_cons (acts_of rfl (does_move (v := .int .i64 v10_4) (by exact rfl))) (by decide) ?_
          refine ao_cons (acts_of rfl (does_move (v := .int .i64 a1) (by exact rfl))) (by decide) ?_
          refine ao_cons (acts_of rfl (does_bin (v := .bool (decide (v10_4 < a1))) (by conv => lhs; whnf) (by conv => lhs; whnf) rfl)) (by decide) ?_
          refine ao_nil_n ?_
          refine hK42 _ ?_
          refine aw_bool (b := (decide (v10_4 < a1))) 56 rfl (fun c43 => ?_) (fun c43 => ?_)
          · have h := ifT c43 h
            refine aw_cond_t (by decide) rfl ?_
            refine aw_skip ?_
            refine hK41 _ ?_
            refine aw_seq_k (fun K44 hK44 => ?_)
            refine aw_block ?_
            refine aw_reg ?_
            refine ao_cons (acts_of rfl (does_move (v := .own 41 0) (by exact rfl))) (by decide) ?_
            refine ao_cons (acts_of rfl (do_buildSlice (xs := List.map enc5 [(128 : UInt8)]) ty22 ty5 rfl rfl rfl rfl rfl rfl rfl rfl)) (by decide) ?_
            obtain ⟨g45, h⟩ := gd_some h
            refine ao_cons (acts_of rfl (do_append (v := List.map enc5 (v9_s_4 ++ [(128 : UInt8)])) (by conv => lhs; whnf) (by conv => lhs; whnf) ty22 ty5 rfl rfl (by conv => lhs; whnf) (by first | exact .inl rfl | exact .inr ⟨rfl, rfl⟩) (by conv => lhs; whnf) (by first | exact .inr rfl | exact .inl rfl) (map_app _ _) (fit_map g45))) (by decide) ?_
            refine ao_cons (acts_of rfl (does_assign (v := .own 61 0) (by exact rfl))) (by decide) ?_
            refine ao_nil_n ?_
            refine hK44 _ ?_
            refine aw_reg ?_
            refine ao_cons (acts_of rfl (does_move (v := .int .i64 v10_4) (by exact rfl))) (by decide) ?_
            refine ao_cons (acts_of rfl (does_bin (v := .int .i64 (IntKind.i64.wrap (v10_4 + 1))) (by conv => lhs; whnf) (by conv => lhs; whnf) rfl)) (by decide) ?_
            refine ao_cons (acts_of rfl (does_assign (v := .int .i64 (IntKind.i64.wrap (v10_4 + 1))) (by exact rfl))) (by decide) ?_
            refine ao_nil_n ?_
            have h := leafL h hq40
            exact ⟨m4, Nat.lt_succ_self _, _, reb_lit [(1, .int .i64 a1), (9, .own 41 0), (10, .int .i64 (IntKind.i64.wrap (v10_4 + 1)))] [(61, 0)] [((41, 0), .arr 5 1 false (List.map enc5 (v9_s_4 ++ [(128 : UInt8)])))] [(41, 1)] (envOk_cons (by conv => lhs; whnf) (by exact rfl) (envOk_cons (by conv => lhs; whnf) (by exact rfl) (envOk_cons (by conv => lhs; whnf) (by exact rfl) envOk_nil))) (objOk_cons (by conv => lhs; whnf) (by conv => lhs; whnf) (by exact rfl) (by simp) objOk_nil) (nodup_b rfl) (nodup_b rfl) rfl rfl, (v9_s_4 ++ [(128 : UInt8)]), (IntKind.i64.wrap (v10_4 + 1)), h, rfl⟩
          · have h := ifF c43 h
            refine aw_cond_f (by decide) rfl ?_
            refine aw_exit ?_
            have h := leafR h hq40
            obtain rfl := Option.some.inj h
            have h := hk37
            exact ⟨_, reb_lit [(9, .own 41 0)] [(41, 0)] [((41, 0), .arr 5 1 false (List.map enc5 v9_s_4))] [(41, 1)] (envOk_cons (by conv => lhs; whnf) (by exact rfl) envOk_nil) (objOk_cons (by conv => lhs; whnf) (by conv => lhs; whnf) (by exact rfl) (by simp) objOk_nil) (nodup_b rfl) (nodup_b rfl) rfl rfl, v9_s_4, h, rfl⟩
        · rintro s ⟨v9_s_3, h, rfl⟩
          unfold gleaninglaw1_IntsShort_k3 at h
          refine aw_seq_k (fun K46 hK46 => ?_)
          refine aw_reg ?_
          refine ao_cons (acts_of rfl (does_move (v := .own 41 0) (by exact rfl))) (by decide) ?_
          refine ao_cons (acts_of rfl (do_buildSlice (xs := List.map enc5 [(0 : UInt8)]) ty22 ty5 rfl rfl rfl rfl rfl rfl rfl rfl)) (by decide) ?_
          obtain ⟨g47, h⟩ := gd_some h
          refine ao_cons (acts_of rfl (do_append (v := List.map enc5 (v9_s_3 ++ [(0 : UInt8)])) (by conv => lhs; whnf) (by conv => lhs; whnf) ty22 ty5 rfl rfl (by conv => lhs; whnf) (by first | exact .inl rfl | exact .inr ⟨rfl, rfl⟩) (by conv => lhs; whnf) (by first | exact .inr rfl | exact .inl rfl) (map_app _ _) (fit_map g47))) (by decide) ?_
          obtain ⟨x48, hx48, h⟩ := bnd_some h
          refine ao_cons (acts_of rfl (do_callG (bcs := []) [] [] [(65, 0)] 66 false (ints_Get_ok (v9_s_3 ++ [(0 : UInt8)]) hx48) rfl ent28 trivial trivial rfl rfl rfl rfl rfl rfl rfl rfl (.inr ⟨rfl, rfl, trivial⟩))) (by decide) ?_
          refine ao_cons (acts_of rfl (does_move (v := .tup [.int .u64 x48.1, .int .i64 x48.2.1, .bool x48.2.2]) (by exact rfl))) (by decide) ?_
          refine ao_cons (acts_of rfl (does_extract (v := .int .u64 x48.1) (by conv => lhs; whnf) (by exact rfl))) (by decide) ?_
          refine ao_cons (acts_of rfl (does_extract (v := .int .i64 x48.2.1) (by conv => lhs; whnf) (by exact rfl))) (by decide) ?_
          refine ao_cons (acts_of rfl (does_extract (v := .bool x48.2.2) (by conv => lhs; whnf) (by exact rfl))) (by decide) ?_
          refine ao_cons (acts_of rfl (does_assign (v := .int .u64 x48.1) (by exact rfl))) (by decide) ?_
          refine ao_cons (acts_of rfl (does_assign (v := .int .i64 x48.2.1) (by exact rfl))) (by decide) ?_
          refine ao_cons (acts_of rfl (does_assign (v := .bool x48.2.2) (by exact rfl))) (by decide) ?_
          refine ao_nil_n ?_
          refine hK46 _ ?_
          refine aw_seq_k (fun K49 hK49 => ?_)
          refine aw_reg ?_
          refine ao_cons (acts_of rfl (does_move (v := .bool x48.2.2) (by exact rfl))) (by decide) ?_
          refine ao_cons (acts_of rfl (does_un (v := .bool (!x48.2.2)) (by conv => lhs; whnf) rfl)) (by decide) ?_
          refine ao_cons (acts_of rfl (does_assign (v := .bool (!x48.2.2)) (by exact rfl))) (by decide) ?_
          refine ao_nil_n ?_
          refine hK49 _ ?_
          refine aw_ret ?_
          obtain rfl := Option.some.inj h
          exact ret_ok1 (by conv => lhs; whnf) (by conv => lhs; whnf) (by exact rfl) (.inr rfl) rfl
theorem sh33 : ∀ (m : Nat) (cs : List PV), Shape Try.prog m 33 cs → ∃ a : Int, cs = [.int .u64 a] ∧ (inI .u64 a) := fun m cs h => shape_i h Try.underlying33
theorem sh3 : ∀ (m : Nat) (cs : List PV), Shape Try.prog m 3 cs → ∃ a : Int, cs = [.int .i64 a] ∧ (inI .i64 a) := fun m cs h => shape_i h Try.underlying3
def gleaningref1_Get_k3 (v5_0 : Int) (v6_0 : Int) (x25 : UInt8) : Option ((Int × Int) ⊕ (Int × Int × Bool)) :=
  some (Sum.inr ((bits .or .u64 v5_0 (IntKind.u64.wrap ((IntKind.u64.wrap ((u8 (bits .and .u8 (x25.toNat : Int) 127)).toNat : Int)) * 2 ^ (min (Int.toNat (IntKind.u64.wrap (IntKind.i64.wrap (7 * v6_0)))) (IntKind.bits .u64))))), (IntKind.i64.wrap (v6_0 + 1)), true))
def gleaningref1_Get_k2 (a0 : List UInt8) (v5_0 : Int) (v6_0 : Int) : Option ((Int × Int) ⊕ (Int × Int × Bool)) :=
  gd (0 ≤ v6_0) (Option.bind (a0[(Int.toNat v6_0)]?) (fun (x25 : UInt8) => gd (¬ (IntKind.u64.wrap (IntKind.i64.wrap (7 * v6_0))) < 0) (gd (0 ≤ v6_0) (Option.bind (a0[(Int.toNat v6_0)]?) (fun (x29 : UInt8) => if (decide ((x29.toNat : Int) < 128)) = true then (Option.bind (if (decide ((0 : Int) < v6_0)) = true then (gd (0 ≤ v6_0) (Option.bind (a0[(Int.toNat v6_0)]?) (fun (x36 : UInt8) => if ((x36.toNat : Int) == 0) = true then (some (Sum.inr (Sum.inr (0, 0, false)))) else (some (Sum.inl ()))))) else (some (Sum.inl ()))) (Sum.elim (fun (s : Unit) => gleaningref1_Get_k3 v5_0 v6_0 x25) some)) else (some (Sum.inl ((bits .or .u64 v5_0 (IntKind.u64.wrap ((IntKind.u64.wrap ((u8 (bits .and .u8 (x25.toNat : Int) 127)).toNat : Int)) * 2 ^ (min (Int.toNat (IntKind.u64.wrap (IntKind.i64.wrap (7 * v6_0)))) (IntKind.bits .u64))))), (IntKind.i64.wrap (v6_0 + 1))))))))))
def gleaningref1_Get_k1 (a0 : List UInt8) (v5_0 : Int) (v6_0 : Int) : Option ((Int × Int) ⊕ (Int × Int × Bool)) :=
  Option.bind (if (v6_0 == 9) = true then (gd (0 ≤ v6_0) (Option.bind (a0[(Int.toNat v6_0)]?) (fun (x20 : UInt8) => if (decide ((1 : Int) < (x20.toNat : Int))) = true then (some (Sum.inr (Sum.inr (0, 0, false)))) else (some (Sum.inl ()))))) else (some (Sum.inl ()))) (Sum.elim (fun (s : Unit) => gleaningref1_Get_k2 a0 v5_0 v6_0) some)
def gleaningref1_Get_l0 (a0 : List UInt8) (v5_0 : Int) (v6_0 : Int) : Option ((Int × Int) ⊕ (Int × Int × Bool)) :=
  Option.bind (if (decide (v6_0 < (List.length a0 : Int))) = true then (if (decide (v6_0 < 10)) = true then (some (Sum.inl ())) else (some (Sum.inr (Sum.inr (0, 0, false))))) else (some (Sum.inr (Sum.inr (0, 0, false))))) (Sum.elim (fun (s : Unit) => gleaningref1_Get_k1 a0 v5_0 v6_0) some)
def gleaningref1_Get (a0 : List UInt8) : Option (Int × Int × Bool) :=
  loopN (fun (s : Int × Int) => gleaningref1_Get_l0 a0 s.1 s.2) Fu (0, 0)
set_option maxRecDepth 100000 in
set_option maxHeartbeats 8000000 in
/-- gleaning/gleaningref1.Get -/
theorem gleaningref1_Get_ok (a0 : List UInt8) {r : Int × Int × Bool} (h : gleaningref1_Get a0 = some r) : Ok Try.prog 36 [.sl 1 (List.map enc5 a0)] [] [] (.tup [.int .u64 r.1, .int .i64 r.2.1, .bool r.2.2]) [] [] := by
  unfold gleaningref1_Get at h
  refine ok_of_code Try.func36 rfl (by show (1 : Nat) ≤ _; decide) (Nat.le_refl _) fun X => ?_
  refine aw_seq_k (fun K1 hK1 => ?_)
  refine aw_reg ?_
  refine ao_cons (acts_of rfl (does_assign (v := .int .u64 0) (by exact rfl))) (by decide) ?_
  refine ao_cons (acts_of rfl (does_assign (v := .int .i64 0) (by exact rfl))) (by decide) ?_
  refine ao_cons (acts_of rfl (does_assign (v := .bool false) (by exact rfl))) (by decide) ?_
  refine ao_nil_n ?_
  refine hK1 _ ?_
  refine aw_seq_k (fun K2 hK2 => ?_)
  refine aw_reg ?_
  refine ao_cons (acts_of rfl (does_assign (v := .int .u64 0) (by exact rfl))) (by decide) ?_
  refine ao_nil_n ?_
  refine hK2 _ ?_
  refine aw_seq_k (fun K3 hK3 => ?_)
  refine aw_seq_k (fun K4 hK4 => ?_)
  refine aw_reg ?_
  refine ao_cons (acts_of rfl (does_assign (v := .int .i64 0) (by exact rfl))) (by decide) ?_
  refine ao_nil_n ?_
  refine hK4 _ ?_
  refine aw_block ?_
  refine aw_loop' (fun m s => ∃ (v5_0 : Int), ∃ (v6_0 : Int), loopN (fun (s : Int × Int) => gleaningref1_Get_l0 a0 s.1 s.2) m (v5_0, v6_0) = some r ∧ s = lit [(0, .sl 1 (List.map enc5 a0)), (5, .int .u64 v5_0), (6, .int .i64 v6_0)] [] [] X) Fu
    ⟨_, reb_lit [(0, .sl 1 (List.map enc5 a0)), (5, .int .u64 (0)), (6, .int .i64 (0))] [] [] [] (envOk_cons (by conv => lhs; whnf) (by exact rfl) (envOk_cons (by conv => lhs; whnf) (by exact rfl) (envOk_cons (by conv => lhs; whnf) (by exact rfl) envOk_nil))) objOk_nil (nodup_b rfl) (nodup_b rfl) rfl rfl, 0, 0, h, rfl⟩ ?_
  rintro m s ⟨v5_0, v6_0, h, rfl⟩
  obtain ⟨m0, q5, rfl, h, hq6⟩ := loop_some h
  replace h : gleaningref1_Get_l0 a0 v5_0 v6_0 = some q5 := h
  unfold gleaningref1_Get_l0 at h
  obtain ⟨q7, h, hk8⟩ := bnd_some h
  refine aw_cut (fun s => gleaningref1_Get_k1 a0 v5_0 v6_0 = some q5 ∧ s = lit [(0, .sl 1 (List.map enc5 a0)), (5, .int .u64 v5_0), (6, .int .i64 v6_0)] [] [] X) ?_ ?_
  · skip
    refine aw_seq_k (fun K9 hK9 => ?_)
    refine aw_reg ?_
    refine ao_cons (acts_of rfl (does_move (v := .int .i64 v6_0) (by exact rfl))) (by decide) ?_
    refine ao_cons (acts_of rfl (does_move (v := .sl 1 (List.map enc5 a0)) (by exact rfl))) (by decide) ?_
    refine ao_cons (acts_of rfl ((does_len_sl (by conv => lhs; whnf) ty22).castp (v' := .int .i64 (List.length a0 : Int)) (by exact len_map _))) (by decide) ?_
    refine ao_cons (acts_of rfl (does_bin (v := .bool (decide (v6_0 < (List.length a0 : Int)))) (by conv => lhs; whnf) (by conv => lhs; whnf) rfl)) (by decide) ?_
    refine ao_cons (acts_of rfl (does_move (v := .bool (decide (v6_0 < (List.length a0 : Int)))) (by exact rfl))) (by decide) ?_
    refine ao_bool (c := (decide (v6_0 < (List.length a0 : Int)))) 11 rfl (fun c10 => ?_) (fun c10 => ?_)
    · have h := ifT c10 h
      refine ao_cons (acts_of rfl (does_move (v := .int .i64 v6_0) (by exact rfl))) (by decide) ?_
      refine ao_cons (acts_of rfl (does_bin (v := .bool (decide (v6_0 < 10))) (by conv => lhs; whnf) (by conv => lhs; whnf) rfl)) (by decide) ?_
      refine ao_cons (acts_of rfl (does_pick (v := .bool (decide (v6_0 < 10))) (by conv => lhs; whnf) (by exact rfl))) (by decide) ?_
      refine ao_nil_n ?_
      refine hK9 _ ?_
      refine aw_bool (b := (decide (v6_0 < 10))) 14 rfl (fun c11 => ?_) (fun c11 => ?_)
      · have h := ifT c11 h
        refine aw_cond_t (by decide) rfl ?_
        refine aw_skip ?_
        have h := leafL h hk8
        exact ⟨_, reb_lit [(0, .sl 1 (List.map enc5 a0)), (5, .int .u64 v5_0), (6, .int .i64 v6_0)] [] [] [] (envOk_cons (by conv => lhs; whnf) (by exact rfl) (envOk_cons (by conv => lhs; whnf) (by exact rfl) (envOk_cons (by conv => lhs; whnf) (by exact rfl) envOk_nil))) objOk_nil (nodup_b rfl) (nodup_b rfl) rfl rfl, h, rfl⟩
      · have h := ifF c11 h
        refine aw_cond_f (by decide) rfl ?_
        refine aw_exit ?_
        have h := leafR h hk8
        have h := leafR h hq6
        refine hK3 _ ?_
        refine aw_seq_k (fun K12 hK12 => ?_)
        refine aw_reg ?_
        refine ao_cons (acts_of rfl (does_assign (v := .int .u64 0) (by exact rfl))) (by decide) ?_
        refine ao_cons (acts_of rfl (does_assign (v := .int .i64 0) (by exact rfl))) (by decide) ?_
        refine ao_cons (acts_of rfl (does_assign (v := .bool false) (by exact rfl))) (by decide) ?_
        refine ao_nil_n ?_
        refine hK12 _ ?_
        refine aw_ret ?_
        obtain rfl := Option.some.inj h
        exact ret_ok1 (by conv => lhs; whnf) (by conv => lhs; whnf) (by exact rfl) (.inr rfl) rfl
    · have h := ifF c10 h
      refine ao_cons (acts_skip rfl) (by decide) ?_
      refine ao_cons (acts_skip rfl) (by decide) ?_
      refine ao_cons (acts_of rfl (does_pick (v := .bool false) (by conv => lhs; whnf) (by exact rfl))) (by decide) ?_
      refine ao_nil_n ?_
      refine hK9 _ ?_
      refine aw_cond_f (by decide) rfl ?_
      refine aw_exit ?_
      have h := leafR h hk8
      have h := leafR h hq6
      refine hK3 _ ?_
      refine aw_seq_k (fun K13 hK13 => ?_)
      refine aw_reg ?_
      refine ao_cons (acts_of rfl (does_assign (v := .int .u64 0) (by exact rfl))) (by decide) ?_
      refine ao_cons (acts_of rfl (does_assign (v := .int .i64 0) (by exact rfl))) (by decide) ?_
      refine ao_cons (acts_of rfl (does_assign (v := .bool false) (by exact rfl))) (by decide) ?_
      refine ao_nil_n ?_
      refine hK13 _ ?_
      refine aw_ret ?_
      obtain rfl := Option.some.inj h
      exact ret_ok1 (by conv => lhs; whnf) (by conv => lhs; whnf) (by exact rfl) (.inr rfl) rfl
  · rintro s ⟨h, rfl⟩
    unfold gleaningref1_Get_k1 at h
    refine aw_seq_k (fun K14 hK14 => ?_)
    refine aw_block ?_
    obtain ⟨q15, h, hk16⟩ := bnd_some h
    refine aw_cut (fun s => gleaningref1_Get_k2 a0 v5_0 v6_0 = some q5 ∧ s = lit [(0, .sl 1 (List.map enc5 a0)), (5, .int .u64 v5_0), (6, .int .i64 v6_0)] [] [] X) ?_ ?_
    · skip
      refine aw_seq_k (fun K17 hK17 => ?_)
      refine aw_reg ?_
      refine ao_cons (acts_of rfl (does_move (v := .int .i64 v6_0) (by exact rfl))) (by decide) ?_
      refine ao_cons (acts_of rfl (does_bin (v := .bool (v6_0 == 9)) (by conv => lhs; whnf) (by conv => lhs; whnf) rfl)) (by decide) ?_
      refine ao_cons (acts_of rfl (does_move (v := .bool (v6_0 == 9)) (by exact rfl))) (by decide) ?_
      refine ao_bool (c := (v6_0 == 9)) 19 rfl (fun c18 => ?_) (fun c18 => ?_)
      · have h := ifT c18 h
        refine ao_cons (acts_of rfl (does_move (v := .sl 1 (List.map enc5 a0)) (by exact rfl))) (by decide) ?_
        refine ao_cons (acts_of rfl (does_move (v := .int .i64 v6_0) (by exact rfl))) (by decide) ?_
        obtain ⟨g19, h⟩ := gd_some h
        obtain ⟨x20, hx20, h⟩ := bnd_some h
        refine ao_cons (acts_of rfl (does_indexAddr_sl (el := .int .u8 (x20.toNat : Int)) (by conv => lhs; whnf) (by conv => lhs; whnf) ty22 ty5 g19 (by exact map_get hx20))) (by decide) ?_
        refine ao_cons (acts_of rfl (does_load (v := .int .u8 (x20.toNat : Int)) (by conv => lhs; whnf) (by conv => lhs; whnf) ty5 (by exact rfl))) (by decide) ?_
        refine ao_cons (acts_of rfl (does_bin (v := .bool (decide ((1 : Int) < (x20.toNat : Int)))) (by conv => lhs; whnf) (by conv => lhs; whnf) rfl)) (by decide) ?_
        refine ao_cons (acts_of rfl (does_pick (v := .bool (decide ((1 : Int) < (x20.toNat : Int)))) (by conv => lhs; whnf) (by exact rfl))) (by decide) ?_
        refine ao_nil_n ?_
        refine hK17 _ ?_
        refine aw_bool (b := (decide ((1 : Int) < (x20.toNat : Int)))) 25 rfl (fun c21 => ?_) (fun c21 => ?_)
        · have h := ifT c21 h
          refine aw_cond_t (by decide) rfl ?_
          refine aw_seq_k (fun K22 hK22 => ?_)
          refine aw_reg ?_
          refine ao_cons (acts_of rfl (does_assign (v := .int .u64 0) (by exact rfl))) (by decide) ?_
          refine ao_cons (acts_of rfl (does_assign (v := .int .i64 0) (by exact rfl))) (by decide) ?_
          refine ao_cons (acts_of rfl (does_assign (v := .bool false) (by exact rfl))) (by decide) ?_
          refine ao_nil_n ?_
          refine hK22 _ ?_
          refine aw_ret ?_
          have h := leafR h hk16
          have h := leafR h hq6
          obtain rfl := Option.some.inj h
          exact ret_ok1 (by conv => lhs; whnf) (by conv => lhs; whnf) (by exact rfl) (.inr rfl) rfl
        · have h := ifF c21 h
          refine aw_cond_f (by decide) rfl ?_
          refine aw_skip ?_
          have h := leafL h hk16
          exact ⟨_, reb_lit [(0, .sl 1 (List.map enc5 a0)), (5, .int .u64 v5_0), (6, .int .i64 v6_0)] [] [] [] (envOk_cons (by conv => lhs; whnf) (by exact rfl) (envOk_cons (by conv => lhs; whnf) (by exact rfl) (envOk_cons (by conv => lhs; whnf) (by exact rfl) envOk_nil))) objOk_nil (nodup_b rfl) (nodup_b rfl) rfl rfl, h, rfl⟩
      · have h := ifF c18 h
        refine ao_cons (acts_skip rfl) (by decide) ?_
        refine ao_cons (acts_skip rfl) (by decide) ?_
        refine ao_cons (acts_skip rfl) (by decide) ?_
        refine ao_cons (acts_skip rfl) (by decide) ?_
        refine ao_cons (acts_skip rfl) (by decide) ?_
        refine ao_cons (acts_of rfl (does_pick (v := .bool false) (by conv => lhs; whnf) (by exact rfl))) (by decide) ?_
        refine ao_nil_n ?_
        refine hK17 _ ?_
        refine aw_cond_f (by decide) rfl ?_
        refine aw_skip ?_
        have h := leafL h hk16
        exact ⟨_, reb_lit [(0, .sl 1 (List.map enc5 a0)), (5, .int .u64 v5_0), (6, .int .i64 v6_0)] [] [] [] (envOk_cons (by conv => lhs; whnf) (by exact rfl) (envOk_cons (by conv => lhs; whnf) (by exact rfl) (envOk_cons (by conv => lhs; whnf) (by exact rfl) envOk_nil))) objOk_nil (nodup_b rfl) (nodup_b rfl) rfl rfl, h, rfl⟩
    · rintro s ⟨h, rfl⟩
      unfold gleaningref1_Get_k2 at h
      refine aw_seq_k (fun K23 hK23 => ?_)
      refine aw_reg ?_
      refine ao_cons (acts_of rfl (does_move (v := .int .u64 v5_0) (by exact rfl))) (by decide) ?_
      refine ao_cons (acts_of rfl (does_move (v := .sl 1 (List.map enc5 a0)) (by exact rfl))) (by decide) ?_
      refine ao_cons (acts_of rfl (does_move (v := .int .i64 v6_0) (by exact rfl))) (by decide) ?_
      obtain ⟨g24, h⟩ := gd_some h
      obtain ⟨x25, hx25, h⟩ := bnd_some h
      refine ao_cons (acts_of rfl (does_indexAddr_sl (el := .int .u8 (x25.toNat : Int)) (by conv => lhs; whnf) (by conv => lhs; whnf) ty22 ty5 g24 (by exact map_get hx25))) (by decide) ?_
      refine ao_cons (acts_of rfl (does_load (v := .int .u8 (x25.toNat : Int)) (by conv => lhs; whnf) (by conv => lhs; whnf) ty5 (by exact rfl))) (by decide) ?_
      refine ao_cons (acts_of rfl ((does_bin (v := .int .u8 (bits .and .u8 (x25.toNat : Int) 127)) (by conv => lhs; whnf) (by conv => lhs; whnf) rfl).castp (v' := .int .u8 ((u8 (bits .and .u8 (x25.toNat : Int) 127)).toNat : Int)) (by exact congrArg _ (u8_eq (u8_bits _ _ _))))) (by decide) ?_
      refine ao_cons (acts_of rfl (does_conv_int (v := .int .u64 (IntKind.u64.wrap ((u8 (bits .and .u8 (x25.toNat : Int) 127)).toNat : Int))) (by conv => lhs; whnf) (ty_some ty5) (ty_int ty33) rfl)) (by decide) ?_
      refine ao_cons (acts_of rfl (does_move (v := .int .i64 v6_0) (by exact rfl))) (by decide) ?_
      refine ao_cons (acts_of rfl (does_bin (v := .int .i64 (IntKind.i64.wrap (7 * v6_0))) (by conv => lhs; whnf) (by conv => lhs; whnf) rfl)) (by decide) ?_
      refine ao_cons (acts_of rfl (does_conv_int (v := .int .u64 (IntKind.u64.wrap (IntKind.i64.wrap (7 * v6_0)))) (by conv => lhs; whnf) (ty_some ty3) (ty_int ty28) rfl)) (by decide) ?_
      obtain ⟨g26, h⟩ := gd_some h
      refine ao_cons (acts_of rfl (does_bin (v := .int .u64 (IntKind.u64.wrap ((IntKind.u64.wrap ((u8 (bits .and .u8 (x25.toNat : Int) 127)).toNat : Int)) * 2 ^ (min (Int.toNat (IntKind.u64.wrap (IntKind.i64.wrap (7 * v6_0)))) (IntKind.bits .u64))))) (by conv => lhs; whnf) (by conv => lhs; whnf) (shl_hv g26))) (by decide) ?_
      refine ao_cons (acts_of rfl (does_bin (v := .int .u64 (bits .or .u64 v5_0 (IntKind.u64.wrap ((IntKind.u64.wrap ((u8 (bits .and .u8 (x25.toNat : Int) 127)).toNat : Int)) * 2 ^ (min (Int.toNat (IntKind.u64.wrap (IntKind.i64.wrap (7 * v6_0)))) (IntKind.bits .u64)))))) (by conv => lhs; whnf) (by conv => lhs; whnf) rfl)) (by decide) ?_
      refine ao_cons (acts_of rfl (does_assign (v := .int .u64 (bits .or .u64 v5_0 (IntKind.u64.wrap ((IntKind.u64.wrap ((u8 (bits .and .u8 (x25.toNat : Int) 127)).toNat : Int)) * 2 ^ (min (Int.toNat (IntKind.u64.wrap (IntKind.i64.wrap (7 * v6_0)))) (IntKind.bits .u64)))))) (by exact rfl))) (by decide) ?_
      refine ao_nil_n ?_
      refine hK23 _ ?_
      refine aw_seq_k (fun K27 hK27 => ?_)
      refine aw_reg ?_
      refine ao_cons (acts_of rfl (does_move (v := .sl 1 (List.map enc5 a0)) (by exact rfl))) (by decide) ?_
      refine ao_cons (acts_of rfl (does_move (v := .int .i64 v6_0) (by exact rfl))) (by decide) ?_
      obtain ⟨g28, h⟩ := gd_some h
      obtain ⟨x29, hx29, h⟩ := bnd_some h
      refine ao_cons (acts_of rfl (does_indexAddr_sl (el := .int .u8 (x29.toNat : Int)) (by conv => lhs; whnf) (by conv => lhs; whnf) ty22 ty5 g28 (by exact map_get hx29))) (by decide) ?_
      refine ao_cons (acts_of rfl (does_load (v := .int .u8 (x29.toNat : Int)) (by conv => lhs; whnf) (by conv => lhs; whnf) ty5 (by exact rfl))) (by decide) ?_
      refine ao_cons (acts_of rfl (does_bin (v := .bool (decide ((x29.toNat : Int) < 128))) (by conv => lhs; whnf) (by conv => lhs; whnf) rfl)) (by decide) ?_
      refine ao_nil_n ?_
      refine hK27 _ ?_
      refine aw_bool (b := (decide ((x29.toNat : Int) < 128))) 42 rfl (fun c30 => ?_) (fun c30 => ?_)
      · have h := ifT c30 h
        refine aw_cond_t (by decide) rfl ?_
        obtain ⟨q31, h, hk32⟩ := bnd_some h
        refine aw_cut (fun s => gleaningref1_Get_k3 v5_0 v6_0 x25 = some q5 ∧ s = lit [(5, .int .u64 (bits .or .u64 v5_0 (IntKind.u64.wrap ((IntKind.u64.wrap ((u8 (bits .and .u8 (x25.toNat : Int) 127)).toNat : Int)) * 2 ^ (min (Int.toNat (IntKind.u64.wrap (IntKind.i64.wrap (7 * v6_0)))) (IntKind.bits .u64)))))), (6, .int .i64 v6_0)] [] [] X) ?_ ?_
        · skip
          refine aw_seq_k (fun K33 hK33 => ?_)
          refine aw_reg ?_
          refine ao_cons (acts_of rfl (does_move (v := .int .i64 v6_0) (by exact rfl))) (by decide) ?_
          refine ao_cons (acts_of rfl (does_bin (v := .bool (decide ((0 : Int) < v6_0))) (by conv => lhs; whnf) (by conv => lhs; whnf) rfl)) (by decide) ?_
          refine ao_cons (acts_of rfl (does_move (v := .bool (decide ((0 : Int) < v6_0))) (by exact rfl))) (by decide) ?_
          refine ao_bool (c := (decide ((0 : Int) < v6_0))) 45 rfl (fun c34 => ?_) (fun c34 => ?_)
          · have h := ifT c34 h
            refine ao_cons (acts_of rfl (does_move (v := .sl 1 (List.map enc5 a0)) (by exact rfl))) (by decide) ?_
            refine ao_cons (acts_of rfl (does_move (v := .int .i64 v6_0) (by exact rfl))) (by decide) ?_
            obtain ⟨g35, h⟩ := gd_some h
            obtain ⟨x36, hx36, h⟩ := bnd_some h
            refine ao_cons (acts_of rfl (does_indexAddr_sl (el := .int .u8 (x36.toNat : Int)) (by conv => lhs; whnf) (by conv => lhs; whnf) ty22 ty5 g35 (by exact map_get hx36))) (by decide) ?_
            refine ao_cons (acts_of rfl (does_load (v := .int .u8 (x36.toNat : Int)) (by conv => lhs; whnf) (by conv => lhs; whnf) ty5 (by exact rfl))) (by decide) ?_
            refine ao_cons (acts_of rfl (does_bin (v := .bool ((x36.toNat : Int) == 0)) (by conv => lhs; whnf) (by conv => lhs; whnf) rfl)) (by decide) ?_
            refine ao_cons (acts_of rfl (does_pick (v := .bool ((x36.toNat : Int) == 0)) (by conv => lhs; whnf) (by exact rfl))) (by decide) ?_
            refine ao_nil_n ?_
            refine hK33 _ ?_
            refine aw_bool (b := ((x36.toNat : Int) == 0)) 51 rfl (fun c37 => ?_) (fun c37 => ?_)
            · have h := ifT c37 h
              refine aw_cond_t (by decide) rfl ?_
              refine aw_seq_k (fun K38 hK38 => ?_)
              refine aw_reg ?_
              refine ao_cons (acts_of rfl (does_assign (v := .int .u64 0) (by exact rfl))) (by decide) ?_
              refine ao_cons (acts_of rfl (does_assign (v := .int .i64 0) (by exact rfl))) (by decide) ?_
              refine ao_cons (acts_of rfl (does_assign (v := .bool false) (by exact rfl))) (by decide) ?_
              refine ao_nil_n ?_
              refine hK38 _ ?_
              refine aw_ret ?_
              have h := leafR h hk32
              have h := leafR h hq6
              obtain rfl := Option.some.inj h
              exact ret_ok1 (by conv => lhs; whnf) (by conv => lhs; whnf) (by exact rfl) (.inr rfl) rfl
            · have h := ifF c37 h
              refine aw_cond_f (by decide) rfl ?_
              refine aw_skip ?_
              have h := leafL h hk32
              exact ⟨_, reb_lit [(5, .int .u64 (bits .or .u64 v5_0 (IntKind.u64.wrap ((IntKind.u64.wrap ((u8 (bits .and .u8 (x25.toNat : Int) 127)).toNat : Int)) * 2 ^ (min (Int.toNat (IntKind.u64.wrap (IntKind.i64.wrap (7 * v6_0)))) (IntKind.bits .u64)))))), (6, .int .i64 v6_0)] [] [] [] (envOk_cons (by conv => lhs; whnf) (by exact rfl) (envOk_cons (by conv => lhs; whnf) (by exact rfl) envOk_nil)) objOk_nil (nodup_b rfl) (nodup_b rfl) rfl rfl, h, rfl⟩
          · have h := ifF c34 h
            refine ao_cons (acts_skip rfl) (by decide) ?_
            refine ao_cons (acts_skip rfl) (by decide) ?_
            refine ao_cons (acts_skip rfl) (by decide) ?_
            refine ao_cons (acts_skip rfl) (by decide) ?_
            refine ao_cons (acts_skip rfl) (by decide) ?_
            refine ao_cons (acts_of rfl (does_pick (v := .bool false) (by conv => lhs; whnf) (by exact rfl))) (by decide) ?_
            refine ao_nil_n ?_
            refine hK33 _ ?_
            refine aw_cond_f (by decide) rfl ?_
            refine aw_skip ?_
            have h := leafL h hk32
            exact ⟨_, reb_lit [(5, .int .u64 (bits .or .u64 v5_0 (IntKind.u64.wrap ((IntKind.u64.wrap ((u8 (bits .and .u8 (x25.toNat : Int) 127)).toNat : Int)) * 2 ^ (min (Int.toNat (IntKind.u64.wrap (IntKind.i64.wrap (7 * v6_0)))) (IntKind.bits .u64)))))), (6, .int .i64 v6_0)] [] [] [] (envOk_cons (by conv => lhs; whnf) (by exact rfl) (envOk_cons (by conv => lhs; whnf) (by exact rfl) envOk_nil)) objOk_nil (nodup_b rfl) (nodup_b rfl) rfl rfl, h, rfl⟩
        · rintro s ⟨h, rfl⟩
          unfold gleaningref1_Get_k3 at h
          refine aw_seq_k (fun K39 hK39 => ?_)
          refine aw_reg ?_
          refine ao_cons (acts_of rfl (does_move (v := .int .u64 (bits .or .u64 v5_0 (IntKind.u64.wrap ((IntKind.u64.wrap ((u8 (bits .and .u8 (x25.toNat : Int) 127)).toNat : Int)) * 2 ^ (min (Int.toNat (IntKind.u64.wrap (IntKind.i64.wrap (7 * v6_0)))) (IntKind.bits .u64)))))) (by exact rfl))) (by decide) ?_
          refine ao_cons (acts_of rfl (does_move (v := .int .i64 v6_0) (by exact rfl))) (by decide) ?_
          refine ao_cons (acts_of rfl (does_bin (v := .int .i64 (IntKind.i64.wrap (v6_0 + 1))) (by conv => lhs; whnf) (by conv => lhs; whnf) rfl)) (by decide) ?_
          refine ao_cons (acts_of rfl (does_assign (v := .int .u64 (bits .or .u64 v5_0 (IntKind.u64.wrap ((IntKind.u64.wrap ((u8 (bits .and .u8 (x25.toNat : Int) 127)).toNat : Int)) * 2 ^ (min (Int.toNat (IntKind.u64.wrap (IntKind.i64.wrap (7 * v6_0)))) (IntKind.bits .u64)))))) (by exact rfl))) (by decide) ?_
          refine ao_cons (acts_of rfl (does_assign (v := .int .i64 (IntKind.i64.wrap (v6_0 + 1))) (by exact rfl))) (by decide) ?_
          refine ao_cons (acts_of rfl (does_assign (v := .bool true) (by exact rfl))) (by decide) ?_
          refine ao_nil_n ?_
          refine hK39 _ ?_
          refine aw_ret ?_
          have h := leafR h hq6
          obtain rfl := Option.some.inj h
          exact ret_ok1 (by conv => lhs; whnf) (by conv => lhs; whnf) (by exact rfl) (.inr rfl) rfl
      · have h := ifF c30 h
        refine aw_cond_f (by decide) rfl ?_
        refine aw_skip ?_
        refine hK14 _ ?_
        refine aw_reg ?_
        refine ao_cons (acts_of rfl (does_move (v := .int .i64 v6_0) (by exact rfl))) (by decide) ?_
        refine ao_cons (acts_of rfl (does_bin (v := .int .i64 (IntKind.i64.wrap (v6_0 + 1))) (by conv => lhs; whnf) (by conv => lhs; whnf) rfl)) (by decide) ?_
        refine ao_cons (acts_of rfl (does_assign (v := .int .i64 (IntKind.i64.wrap (v6_0 + 1))) (by exact rfl))) (by decide) ?_
        refine ao_nil_n ?_
        have h := leafL h hq6
        exact ⟨m0, Nat.lt_succ_self _, _, reb_lit [(0, .sl 1 (List.map enc5 a0)), (5, .int .u64 (bits .or .u64 v5_0 (IntKind.u64.wrap ((IntKind.u64.wrap ((u8 (bits .and .u8 (x25.toNat : Int) 127)).toNat : Int)) * 2 ^ (min (Int.toNat (IntKind.u64.wrap (IntKind.i64.wrap (7 * v6_0)))) (IntKind.bits .u64)))))), (6, .int .i64 (IntKind.i64.wrap (v6_0 + 1)))] [] [] [] (envOk_cons (by conv => lhs; whnf) (by exact rfl) (envOk_cons (by conv => lhs; whnf) (by exact rfl) (envOk_cons (by conv => lhs; whnf) (by exact rfl) envOk_nil))) objOk_nil (nodup_b rfl) (nodup_b rfl) rfl rfl, (bits .or .u64 v5_0 (IntKind.u64.wrap ((IntKind.u64.wrap ((u8 (bits .and .u8 (x25.toNat : Int) 127)).toNat : Int)) * 2 ^ (min (Int.toNat (IntKind.u64.wrap (IntKind.i64.wrap (7 * v6_0)))) (IntKind.bits .u64))))), (IntKind.i64.wrap (v6_0 + 1)), h, rfl⟩
def ints_GetText_k0 (a0 : List UInt8) (x3 : Int × Int × Bool) : Option (ByteArray × Int × Bool) :=
  gd (0 ≤ x3.2.1) (gd (x3.2.1 ≤ (IntKind.i64.wrap (x3.2.1 + (IntKind.i64.wrap x3.1)))) (gd ((IntKind.i64.wrap (x3.2.1 + (IntKind.i64.wrap x3.1))) ≤ (List.length a0 : Int)) (some ((strOf (List.drop (Int.toNat x3.2.1) (List.take (Int.toNat (IntKind.i64.wrap (x3.2.1 + (IntKind.i64.wrap x3.1)))) a0))), (IntKind.i64.wrap (x3.2.1 + (IntKind.i64.wrap x3.1))), true))))
def ints_GetText (a0 : List UInt8) : Option (ByteArray × Int × Bool) :=
  Option.bind (ints_Get a0) (fun (x3 : Int × Int × Bool) => Option.bind (if (!x3.2.2) = true then (some (Sum.inr ((strOf []), 0, false))) else (if (decide ((IntKind.u64.wrap (IntKind.i64.wrap ((List.length a0 : Int) - x3.2.1))) < x3.1)) = true then (some (Sum.inr ((strOf []), 0, false))) else (some (Sum.inl ())))) (Sum.elim (fun (s : Unit) => ints_GetText_k0 a0 x3) some))
set_option maxRecDepth 100000 in
set_option maxHeartbeats 8000000 in
/-- gleaning/ints.GetText -/
theorem ints_GetText_ok (a0 : List UInt8) {r : ByteArray × Int × Bool} (h : ints_GetText a0 = some r) : Ok Try.prog 37 [.sl 1 (List.map enc5 a0)] [] [] (.tup [.str r.1, .int .i64 r.2.1, .bool r.2.2]) [] [] := by
  unfold ints_GetText at h
  refine ok_of_code Try.func37 rfl (by show (1 : Nat) ≤ _; decide) (Nat.le_refl _) fun X => ?_
  refine aw_seq_k (fun K1 hK1 => ?_)
  refine aw_reg ?_
  refine ao_cons (acts_of rfl (does_assign (v := .str (strOf [])) (by exact rfl))) (by decide) ?_
  refine ao_cons (acts_of rfl (does_assign (v := .int .i64 0) (by exact rfl))) (by decide) ?_
  refine ao_cons (acts_of rfl (does_assign (v := .bool false) (by exact rfl))) (by decide) ?_
  refine ao_nil_n ?_
  refine hK1 _ ?_
  refine aw_seq_k (fun K2 hK2 => ?_)
  refine aw_reg ?_
  refine ao_cons (acts_of rfl (does_move (v := .sl 1 (List.map enc5 a0)) (by exact rfl))) (by decide) ?_
  obtain ⟨x3, hx3, h⟩ := bnd_some h
  refine ao_cons (acts_of rfl (do_call0 11 false (ints_Get_ok a0 hx3) rfl ent28 rfl rfl)) (by decide) ?_
  refine ao_cons (acts_of rfl (does_move (v := .tup [.int .u64 x3.1, .int .i64 x3.2.1, .bool x3.2.2]) (by exact rfl))) (by decide) ?_
  refine ao_cons (acts_of rfl (does_extract (v := .int .u64 x3.1) (by conv => lhs; whnf) (by exact rfl))) (by decide) ?_
  refine ao_cons (acts_of rfl (does_extract (v := .int .i64 x3.2.1) (by conv => lhs; whnf) (by exact rfl))) (by decide) ?_
  refine ao_cons (acts_of rfl (does_extract (v := .bool x3.2.2) (by conv => lhs; whnf) (by exact rfl))) (by decide) ?_
  refine ao_cons (acts_of rfl (does_assign (v := .int .u64 x3.1) (by exact rfl))) (by decide) ?_
  refine ao_cons (acts_of rfl (does_assign (v := .int .i64 x3.2.1) (by exact rfl))) (by decide) ?_
  refine ao_cons (acts_of rfl (does_assign (v := .bool x3.2.2) (by exact rfl))) (by decide) ?_
  refine ao_nil_n ?_
  refine hK2 _ ?_
  obtain ⟨q4, h, hk5⟩ := bnd_some h
  refine aw_cut (fun s => ints_GetText_k0 a0 x3 = some r ∧ s = lit [(0, .sl 1 (List.map enc5 a0)), (5, .int .u64 x3.1), (6, .int .i64 x3.2.1)] [] [] X) ?_ ?_
  · skip
    refine aw_seq_k (fun K6 hK6 => ?_)
    refine aw_reg ?_
    refine ao_cons (acts_of rfl (does_move (v := .bool x3.2.2) (by exact rfl))) (by decide) ?_
    refine ao_cons (acts_of rfl (does_un (v := .bool (!x3.2.2)) (by conv => lhs; whnf) rfl)) (by decide) ?_
    refine ao_cons (acts_of rfl (does_move (v := .bool (!x3.2.2)) (by exact rfl))) (by decide) ?_
    refine ao_bool (c := (!x3.2.2)) 17 rfl (fun c7 => ?_) (fun c7 => ?_)
    · have h := ifT c7 h
      refine ao_cons (acts_skip rfl) (by decide) ?_
      refine ao_cons (acts_skip rfl) (by decide) ?_
      refine ao_cons (acts_skip rfl) (by decide) ?_
      refine ao_cons (acts_skip rfl) (by decide) ?_
      refine ao_cons (acts_skip rfl) (by decide) ?_
      refine ao_cons (acts_skip rfl) (by decide) ?_
      refine ao_cons (acts_skip rfl) (by decide) ?_
      refine ao_cons (acts_of rfl (does_pick (v := .bool true) (by conv => lhs; whnf) (by exact rfl))) (by decide) ?_
      refine ao_nil_n ?_
      refine hK6 _ ?_
      refine aw_cond_t (by decide) rfl ?_
      refine aw_seq_k (fun K8 hK8 => ?_)
      refine aw_reg ?_
      refine ao_cons (acts_of rfl (does_assign (v := .str (strOf [])) (by exact rfl))) (by decide) ?_
      refine ao_cons (acts_of rfl (does_assign (v := .int .i64 0) (by exact rfl))) (by decide) ?_
      refine ao_cons (acts_of rfl (does_assign (v := .bool false) (by exact rfl))) (by decide) ?_
      refine ao_nil_n ?_
      refine hK8 _ ?_
      refine aw_ret ?_
      have h := leafR h hk5
      obtain rfl := Option.some.inj h
      exact ret_ok1 (by conv => lhs; whnf) (by conv => lhs; whnf) (by exact rfl) (.inr rfl) rfl
    · have h := ifF c7 h
      refine ao_cons (acts_of rfl (does_move (v := .int .u64 x3.1) (by exact rfl))) (by decide) ?_
      refine ao_cons (acts_of rfl (does_move (v := .sl 1 (List.map enc5 a0)) (by exact rfl))) (by decide) ?_
      refine ao_cons (acts_of rfl ((does_len_sl (by conv => lhs; whnf) ty22).castp (v' := .int .i64 (List.length a0 : Int)) (by exact len_map _))) (by decide) ?_
      refine ao_cons (acts_of rfl (does_move (v := .int .i64 x3.2.1) (by exact rfl))) (by decide) ?_
      refine ao_cons (acts_of rfl (does_bin (v := .int .i64 (IntKind.i64.wrap ((List.length a0 : Int) - x3.2.1))) (by conv => lhs; whnf) (by conv => lhs; whnf) rfl)) (by decide) ?_
      refine ao_cons (acts_of rfl (does_conv_int (v := .int .u64 (IntKind.u64.wrap (IntKind.i64.wrap ((List.length a0 : Int) - x3.2.1)))) (by conv => lhs; whnf) (ty_some ty3) (ty_int ty33) rfl)) (by decide) ?_
      refine ao_cons (acts_of rfl (does_bin (v := .bool (decide ((IntKind.u64.wrap (IntKind.i64.wrap ((List.length a0 : Int) - x3.2.1))) < x3.1))) (by conv => lhs; whnf) (by conv => lhs; whnf) rfl)) (by decide) ?_
      refine ao_cons (acts_of rfl (does_pick (v := .bool (decide ((IntKind.u64.wrap (IntKind.i64.wrap ((List.length a0 : Int) - x3.2.1))) < x3.1))) (by conv => lhs; whnf) (by exact rfl))) (by decide) ?_
      refine ao_nil_n ?_
      refine hK6 _ ?_
      refine aw_bool (b := (decide ((IntKind.u64.wrap (IntKind.i64.wrap ((List.length a0 : Int) - x3.2.1))) < x3.1))) 25 rfl (fun c9 => ?_) (fun c9 => ?_)
      · have h := ifT c9 h
        refine aw_cond_t (by decide) rfl ?_
        refine aw_seq_k (fun K10 hK10 => ?_)
        refine aw_reg ?_
        refine ao_cons (acts_of rfl (does_assign (v := .str (strOf [])) (by exact rfl))) (by decide) ?_
        refine ao_cons (acts_of rfl (does_assign (v := .int .i64 0) (by exact rfl))) (by decide) ?_
        refine ao_cons (acts_of rfl (does_assign (v := .bool false) (by exact rfl))) (by decide) ?_
        refine ao_nil_n ?_
        refine hK10 _ ?_
        refine aw_ret ?_
        have h := leafR h hk5
        obtain rfl := Option.some.inj h
        exact ret_ok1 (by conv => lhs; whnf) (by conv => lhs; whnf) (by exact rfl) (.inr rfl) rfl
      · have h := ifF c9 h
        refine aw_cond_f (by decide) rfl ?_
        refine aw_skip ?_
        have h := leafL h hk5
        exact ⟨_, reb_lit [(0, .sl 1 (List.map enc5 a0)), (5, .int .u64 x3.1), (6, .int .i64 x3.2.1)] [] [] [] (envOk_cons (by conv => lhs; whnf) (by exact rfl) (envOk_cons (by conv => lhs; whnf) (by exact rfl) (envOk_cons (by conv => lhs; whnf) (by exact rfl) envOk_nil))) objOk_nil (nodup_b rfl) (nodup_b rfl) rfl rfl, h, rfl⟩
  · rintro s ⟨h, rfl⟩
    unfold ints_GetText_k0 at h
    refine aw_seq_k (fun K11 hK11 => ?_)
    refine aw_reg ?_
    refine ao_cons (acts_of rfl (does_move (v := .int .i64 x3.2.1) (by exact rfl))) (by decide) ?_
    refine ao_cons (acts_of rfl (does_move (v := .int .u64 x3.1) (by exact rfl))) (by decide) ?_
    refine ao_cons (acts_of rfl (does_conv_int (v := .int .i64 (IntKind.i64.wrap x3.1)) (by conv => lhs; whnf) (ty_some ty33) (ty_int ty3) rfl)) (by decide) ?_
    refine ao_cons (acts_of rfl (does_bin (v := .int .i64 (IntKind.i64.wrap (x3.2.1 + (IntKind.i64.wrap x3.1)))) (by conv => lhs; whnf) (by conv => lhs; whnf) rfl)) (by decide) ?_
    refine ao_cons (acts_of rfl (does_assign (v := .int .i64 (IntKind.i64.wrap (x3.2.1 + (IntKind.i64.wrap x3.1)))) (by exact rfl))) (by decide) ?_
    refine ao_nil_n ?_
    refine hK11 _ ?_
    refine aw_seq_k (fun K12 hK12 => ?_)
    refine aw_reg ?_
    refine ao_cons (acts_of rfl (does_move (v := .sl 1 (List.map enc5 a0)) (by exact rfl))) (by decide) ?_
    refine ao_cons (acts_of rfl (does_move (v := .int .i64 x3.2.1) (by exact rfl))) (by decide) ?_
    refine ao_cons (acts_of rfl (does_move (v := .int .i64 (IntKind.i64.wrap (x3.2.1 + (IntKind.i64.wrap x3.1)))) (by exact rfl))) (by decide) ?_
    obtain ⟨g13, h⟩ := gd_some h
    obtain ⟨g14, h⟩ := gd_some h
    obtain ⟨g15, h⟩ := gd_some h
    refine ao_cons (acts_of rfl (does_slice_sl (l := (Int.toNat x3.2.1)) (k := (Int.toNat (IntKind.i64.wrap (x3.2.1 + (IntKind.i64.wrap x3.1))))) (by conv => lhs; whnf) ty22 ty5 (bd_some (by conv => lhs; whnf) (by exact (nat_of g13))) (bd_some (by conv => lhs; whnf) (by exact (nat_of (by omega)))) (by (try simp only [List.length_map]); omega) (by (try simp only [List.length_map]); omega) (by exact map_part _ _ _))) (by decide) ?_
    refine ao_cons (acts_of rfl (does_bytes_str (l := (List.drop (Int.toNat x3.2.1) (List.take (Int.toNat (IntKind.i64.wrap (x3.2.1 + (IntKind.i64.wrap x3.1)))) a0))) (f := enc5) (by conv => lhs; whnf) (by conv => lhs; whnf) (Nat.le_refl 1) (ty_slice ty22) (ty_int ty5) (ty_str ty9) (fun _ => rfl))) (by decide) ?_
    refine ao_cons (acts_of rfl (does_move (v := .int .i64 (IntKind.i64.wrap (x3.2.1 + (IntKind.i64.wrap x3.1)))) (by exact rfl))) (by decide) ?_
    refine ao_cons (acts_of rfl (does_assign (v := .str (strOf (List.drop (Int.toNat x3.2.1) (List.take (Int.toNat (IntKind.i64.wrap (x3.2.1 + (IntKind.i64.wrap x3.1)))) a0)))) (by exact rfl))) (by decide) ?_
    refine ao_cons (acts_of rfl (does_assign (v := .int .i64 (IntKind.i64.wrap (x3.2.1 + (IntKind.i64.wrap x3.1)))) (by exact rfl))) (by decide) ?_
    refine ao_cons (acts_of rfl (does_assign (v := .bool true) (by exact rfl))) (by decide) ?_
    refine ao_nil_n ?_
    refine hK12 _ ?_
    refine aw_ret ?_
    obtain rfl := Option.some.inj h
    exact ret_ok1 (by conv => lhs; whnf) (by conv => lhs; whnf) (by exact rfl) (.inr rfl) rfl
def gleaningref1_GetText_k0 (a0 : List UInt8) (x3 : Int × Int × Bool) : Option (ByteArray × Int × Bool) :=
  gd (0 ≤ x3.2.1) (gd (x3.2.1 ≤ (IntKind.i64.wrap (x3.2.1 + (IntKind.i64.wrap x3.1)))) (gd ((IntKind.i64.wrap (x3.2.1 + (IntKind.i64.wrap x3.1))) ≤ (List.length a0 : Int)) (some ((strOf (List.drop (Int.toNat x3.2.1) (List.take (Int.toNat (IntKind.i64.wrap (x3.2.1 + (IntKind.i64.wrap x3.1)))) a0))), (IntKind.i64.wrap (x3.2.1 + (IntKind.i64.wrap x3.1))), true))))
def gleaningref1_GetText (a0 : List UInt8) : Option (ByteArray × Int × Bool) :=
  Option.bind (gleaningref1_Get a0) (fun (x3 : Int × Int × Bool) => Option.bind (if (!x3.2.2) = true then (some (Sum.inr ((strOf []), 0, false))) else (if (decide ((IntKind.u64.wrap (IntKind.i64.wrap ((List.length a0 : Int) - x3.2.1))) < x3.1)) = true then (some (Sum.inr ((strOf []), 0, false))) else (some (Sum.inl ())))) (Sum.elim (fun (s : Unit) => gleaningref1_GetText_k0 a0 x3) some))
set_option maxRecDepth 100000 in
set_option maxHeartbeats 8000000 in
/-- gleaning/gleaningref1.GetText -/
theorem gleaningref1_GetText_ok (a0 : List UInt8) {r : ByteArray × Int × Bool} (h : gleaningref1_GetText a0 = some r) : Ok Try.prog 38 [.sl 1 (List.map enc5 a0)] [] [] (.tup [.str r.1, .int .i64 r.2.1, .bool r.2.2]) [] [] := by
  unfold gleaningref1_GetText at h
  refine ok_of_code Try.func38 rfl (by show (1 : Nat) ≤ _; decide) (Nat.le_refl _) fun X => ?_
  refine aw_seq_k (fun K1 hK1 => ?_)
  refine aw_reg ?_
  refine ao_cons (acts_of rfl (does_assign (v := .str (strOf [])) (by exact rfl))) (by decide) ?_
  refine ao_cons (acts_of rfl (does_assign (v := .int .i64 0) (by exact rfl))) (by decide) ?_
  refine ao_cons (acts_of rfl (does_assign (v := .bool false) (by exact rfl))) (by decide) ?_
  refine ao_nil_n ?_
  refine hK1 _ ?_
  refine aw_seq_k (fun K2 hK2 => ?_)
  refine aw_reg ?_
  refine ao_cons (acts_of rfl (does_move (v := .sl 1 (List.map enc5 a0)) (by exact rfl))) (by decide) ?_
  obtain ⟨x3, hx3, h⟩ := bnd_some h
  refine ao_cons (acts_of rfl (do_call0 10 false (gleaningref1_Get_ok a0 hx3) rfl ent36 rfl rfl)) (by decide) ?_
  refine ao_cons (acts_of rfl (does_move (v := .tup [.int .u64 x3.1, .int .i64 x3.2.1, .bool x3.2.2]) (by exact rfl))) (by decide) ?_
  refine ao_cons (acts_of rfl (does_extract (v := .int .u64 x3.1) (by conv => lhs; whnf) (by exact rfl))) (by decide) ?_
  refine ao_cons (acts_of rfl (does_extract (v := .int .i64 x3.2.1) (by conv => lhs; whnf) (by exact rfl))) (by decide) ?_
  refine ao_cons (acts_of rfl (does_extract (v := .bool x3.2.2) (by conv => lhs; whnf) (by exact rfl))) (by decide) ?_
  refine ao_cons (acts_of rfl (does_assign (v := .int .u64 x3.1) (by exact rfl))) (by decide) ?_
  refine ao_cons (acts_of rfl (does_assign (v := .int .i64 x3.2.1) (by exact rfl))) (by decide) ?_
  refine ao_cons (acts_of rfl (does_assign (v := .bool x3.2.2) (by exact rfl))) (by decide) ?_
  refine ao_nil_n ?_
  refine hK2 _ ?_
  obtain ⟨q4, h, hk5⟩ := bnd_some h
  refine aw_cut (fun s => gleaningref1_GetText_k0 a0 x3 = some r ∧ s = lit [(0, .sl 1 (List.map enc5 a0)), (5, .int .u64 x3.1), (6, .int .i64 x3.2.1)] [] [] X) ?_ ?_
  · skip
    refine aw_seq_k (fun K6 hK6 => ?_)
    refine aw_reg ?_
    refine ao_cons (acts_of rfl (does_move (v := .bool x3.2.2) (by exact rfl))) (by decide) ?_
    refine ao_cons (acts_of rfl (does_un (v := .bool (!x3.2.2)) (by conv => lhs; whnf) rfl)) (by decide) ?_
    refine ao_cons (acts_of rfl (does_move (v := .bool (!x3.2.2)) (by exact rfl))) (by decide) ?_
    refine ao_bool (c := (!x3.2.2)) 16 rfl (fun c7 => ?_) (fun c7 => ?_)
    · have h := ifT c7 h
      refine ao_cons (acts_skip rfl) (by decide) ?_
      refine ao_cons (acts_skip rfl) (by decide) ?_
      refine ao_cons (acts_skip rfl) (by decide) ?_
      refine ao_cons (acts_skip rfl) (by decide) ?_
      refine ao_cons (acts_skip rfl) (by decide) ?_
      refine ao_cons (acts_skip rfl) (by decide) ?_
      refine ao_cons (acts_skip rfl) (by decide) ?_
      refine ao_cons (acts_of rfl (does_pick (v := .bool true) (by conv => lhs; whnf) (by exact rfl))) (by decide) ?_
      refine ao_nil_n ?_
      refine hK6 _ ?_
      refine aw_cond_t (by decide) rfl ?_
      refine aw_seq_k (fun K8 hK8 => ?_)
      refine aw_reg ?_
      refine ao_cons (acts_of rfl (does_assign (v := .str (strOf [])) (by exact rfl))) (by decide) ?_
      refine ao_cons (acts_of rfl (does_assign (v := .int .i64 0) (by exact rfl))) (by decide) ?_
      refine ao_cons (acts_of rfl (does_assign (v := .bool false) (by exact rfl))) (by decide) ?_
      refine ao_nil_n ?_
      refine hK8 _ ?_
      refine aw_ret ?_
      have h := leafR h hk5
      obtain rfl := Option.some.inj h
      exact ret_ok1 (by conv => lhs; whnf) (by conv => lhs; whnf) (by exact rfl) (.inr rfl) rfl
    · have h := ifF c7 h
      refine ao_cons (acts_of rfl (does_move (v := .int .u64 x3.1) (by exact rfl))) (by decide) ?_
      refine ao_cons (acts_of rfl (does_move (v := .sl 1 (List.map enc5 a0)) (by exact rfl))) (by decide) ?_
      refine ao_cons (acts_of rfl ((does_len_sl (by conv => lhs; whnf) ty22).castp (v' := .int .i64 (List.length a0 : Int)) (by exact len_map _))) (by decide) ?_
      refine ao_cons (acts_of rfl (does_move (v := .int .i64 x3.2.1) (by exact rfl))) (by decide) ?_
      refine ao_cons (acts_of rfl (does_bin (v := .int .i64 (IntKind.i64.wrap ((List.length a0 : Int) - x3.2.1))) (by conv => lhs; whnf) (by conv => lhs; whnf) rfl)) (by decide) ?_
      refine ao_cons (acts_of rfl (does_conv_int (v := .int .u64 (IntKind.u64.wrap (IntKind.i64.wrap ((List.length a0 : Int) - x3.2.1)))) (by conv => lhs; whnf) (ty_some ty3) (ty_int ty33) rfl)) (by decide) ?_
      refine ao_cons (acts_of rfl (does_bin (v := .bool (decide ((IntKind.u64.wrap (IntKind.i64.wrap ((List.length a0 : Int) - x3.2.1))) < x3.1))) (by conv => lhs; whnf) (by conv => lhs; whnf) rfl)) (by decide) ?_
      refine ao_cons (acts_of rfl (does_pick (v := .bool (decide ((IntKind.u64.wrap (IntKind.i64.wrap ((List.length a0 : Int) - x3.2.1))) < x3.1))) (by conv => lhs; whnf) (by exact rfl))) (by decide) ?_
      refine ao_nil_n ?_
      refine hK6 _ ?_
      refine aw_bool (b := (decide ((IntKind.u64.wrap (IntKind.i64.wrap ((List.length a0 : Int) - x3.2.1))) < x3.1))) 24 rfl (fun c9 => ?_) (fun c9 => ?_)
      · have h := ifT c9 h
        refine aw_cond_t (by decide) rfl ?_
        refine aw_seq_k (fun K10 hK10 => ?_)
        refine aw_reg ?_
        refine ao_cons (acts_of rfl (does_assign (v := .str (strOf [])) (by exact rfl))) (by decide) ?_
        refine ao_cons (acts_of rfl (does_assign (v := .int .i64 0) (by exact rfl))) (by decide) ?_
        refine ao_cons (acts_of rfl (does_assign (v := .bool false) (by exact rfl))) (by decide) ?_
        refine ao_nil_n ?_
        refine hK10 _ ?_
        refine aw_ret ?_
        have h := leafR h hk5
        obtain rfl := Option.some.inj h
        exact ret_ok1 (by conv => lhs; whnf) (by conv => lhs; whnf) (by exact rfl) (.inr rfl) rfl
      · have h := ifF c9 h
        refine aw_cond_f (by decide) rfl ?_
        refine aw_skip ?_
        have h := leafL h hk5
        exact ⟨_, reb_lit [(0, .sl 1 (List.map enc5 a0)), (5, .int .u64 x3.1), (6, .int .i64 x3.2.1)] [] [] [] (envOk_cons (by conv => lhs; whnf) (by exact rfl) (envOk_cons (by conv => lhs; whnf) (by exact rfl) (envOk_cons (by conv => lhs; whnf) (by exact rfl) envOk_nil))) objOk_nil (nodup_b rfl) (nodup_b rfl) rfl rfl, h, rfl⟩
  · rintro s ⟨h, rfl⟩
    unfold gleaningref1_GetText_k0 at h
    refine aw_seq_k (fun K11 hK11 => ?_)
    refine aw_reg ?_
    refine ao_cons (acts_of rfl (does_move (v := .sl 1 (List.map enc5 a0)) (by exact rfl))) (by decide) ?_
    refine ao_cons (acts_of rfl (does_move (v := .int .i64 x3.2.1) (by exact rfl))) (by decide) ?_
    refine ao_cons (acts_of rfl (does_move (v := .int .i64 x3.2.1) (by exact rfl))) (by decide) ?_
    refine ao_cons (acts_of rfl (does_move (v := .int .u64 x3.1) (by exact rfl))) (by decide) ?_
    refine ao_cons (acts_of rfl (does_conv_int (v := .int .i64 (IntKind.i64.wrap x3.1)) (by conv => lhs; whnf) (ty_some ty33) (ty_int ty3) rfl)) (by decide) ?_
    refine ao_cons (acts_of rfl (does_bin (v := .int .i64 (IntKind.i64.wrap (x3.2.1 + (IntKind.i64.wrap x3.1)))) (by conv => lhs; whnf) (by conv => lhs; whnf) rfl)) (by decide) ?_
    obtain ⟨g12, h⟩ := gd_some h
    obtain ⟨g13, h⟩ := gd_some h
    obtain ⟨g14, h⟩ := gd_some h
    refine ao_cons (acts_of rfl (does_slice_sl (l := (Int.toNat x3.2.1)) (k := (Int.toNat (IntKind.i64.wrap (x3.2.1 + (IntKind.i64.wrap x3.1))))) (by conv => lhs; whnf) ty22 ty5 (bd_some (by conv => lhs; whnf) (by exact (nat_of g12))) (bd_some (by conv => lhs; whnf) (by exact (nat_of (by omega)))) (by (try simp only [List.length_map]); omega) (by (try simp only [List.length_map]); omega) (by exact map_part _ _ _))) (by decide) ?_
    refine ao_cons (acts_of rfl (does_bytes_str (l := (List.drop (Int.toNat x3.2.1) (List.take (Int.toNat (IntKind.i64.wrap (x3.2.1 + (IntKind.i64.wrap x3.1)))) a0))) (f := enc5) (by conv => lhs; whnf) (by conv => lhs; whnf) (Nat.le_refl 1) (ty_slice ty22) (ty_int ty5) (ty_str ty9) (fun _ => rfl))) (by decide) ?_
    refine ao_cons (acts_of rfl (does_move (v := .int .i64 x3.2.1) (by exact rfl))) (by decide) ?_
    refine ao_cons (acts_of rfl (does_move (v := .int .u64 x3.1) (by exact rfl))) (by decide) ?_
    refine ao_cons (acts_of rfl (does_conv_int (v := .int .i64 (IntKind.i64.wrap x3.1)) (by conv => lhs; whnf) (ty_some ty33) (ty_int ty3) rfl)) (by decide) ?_
    refine ao_cons (acts_of rfl (does_bin (v := .int .i64 (IntKind.i64.wrap (x3.2.1 + (IntKind.i64.wrap x3.1)))) (by conv => lhs; whnf) (by conv => lhs; whnf) rfl)) (by decide) ?_
    refine ao_cons (acts_of rfl (does_assign (v := .str (strOf (List.drop (Int.toNat x3.2.1) (List.take (Int.toNat (IntKind.i64.wrap (x3.2.1 + (IntKind.i64.wrap x3.1)))) a0)))) (by exact rfl))) (by decide) ?_
    refine ao_cons (acts_of rfl (does_assign (v := .int .i64 (IntKind.i64.wrap (x3.2.1 + (IntKind.i64.wrap x3.1)))) (by exact rfl))) (by decide) ?_
    refine ao_cons (acts_of rfl (does_assign (v := .bool true) (by exact rfl))) (by decide) ?_
    refine ao_nil_n ?_
    refine hK11 _ ?_
    refine aw_ret ?_
    obtain rfl := Option.some.inj h
    exact ret_ok1 (by conv => lhs; whnf) (by conv => lhs; whnf) (by exact rfl) (.inr rfl) rfl
def gleaningref1_Put_l1 (v0_s_1 : List UInt8) (v1_1 : Int) : Option ((List UInt8 × Int) ⊕ (List UInt8 × Int)) :=
  if (decide ((127 : Int) < v1_1)) = true then (gd ((List.length (v0_s_1 ++ [(u8 (bits .or .u8 ((u8 (IntKind.u8.wrap (bits .and .u64 v1_1 127))).toNat : Int) 128))])) * 1 ≤ 140737488355328 ∧ (List.length (v0_s_1 ++ [(u8 (bits .or .u8 ((u8 (IntKind.u8.wrap (bits .and .u64 v1_1 127))).toNat : Int) 128))])) ≤ 140737488355328) (some (Sum.inl ((v0_s_1 ++ [(u8 (bits .or .u8 ((u8 (IntKind.u8.wrap (bits .and .u64 v1_1 127))).toNat : Int) 128))]), (Int.fdiv v1_1 (2 ^ (min (Int.toNat 7) (IntKind.bits .u64)))))))) else (some (Sum.inr (v0_s_1, v1_1)))
def gleaningref1_Put_k0 (v0_s_0 : List UInt8) (v1_0 : Int) : Option (List UInt8) :=
  gd ((List.length (v0_s_0 ++ [(u8 (IntKind.u8.wrap v1_0))])) * 1 ≤ 140737488355328 ∧ (List.length (v0_s_0 ++ [(u8 (IntKind.u8.wrap v1_0))])) ≤ 140737488355328) (some (v0_s_0 ++ [(u8 (IntKind.u8.wrap v1_0))]))
def gleaningref1_Put (a0 : List UInt8) (a1 : Int) : Option (List UInt8) :=
  Option.bind (loopN (fun (s : List UInt8 × Int) => gleaningref1_Put_l1 s.1 s.2) Fu (a0, a1)) (fun (s : List UInt8 × Int) => gleaningref1_Put_k0 s.1 s.2)
set_option maxRecDepth 100000 in
set_option maxHeartbeats 8000000 in
/-- gleaning/gleaningref1.Put -/
theorem gleaningref1_Put_ok (a0 : List UInt8) (a1 : Int) {r : List UInt8} (h : gleaningref1_Put a0 a1 = some r) : Ok Try.prog 39 [.own 1 0, .int .u64 a1] [] [(5, 1, List.map enc5 a0)] (.own 2 0) [] [(5, 1, List.map enc5 r)] := by
  unfold gleaningref1_Put at h
  refine ok_of_code Try.func39 rfl (by show (2 : Nat) ≤ _; decide) (Nat.le_refl _) fun X => ?_
  refine aw_seq_k (fun K1 hK1 => ?_)
  refine aw_reg ?_
  refine ao_cons (acts_of rfl (does_assign (v := .nil) (by exact rfl))) (by decide) ?_
  refine ao_nil_n ?_
  refine hK1 _ ?_
  obtain ⟨q2, h, hk3⟩ := bnd_some h
  refine aw_cut (fun s => ∃ (v0_s_0 : List UInt8), ∃ (v1_0 : Int), gleaningref1_Put_k0 v0_s_0 v1_0 = some r ∧ s = lit [(0, .own 1 0), (1, .int .u64 v1_0)] [((1, 0), .arr 5 1 false (List.map enc5 v0_s_0))] [(1, 1)] X) ?_ ?_
  · skip
    refine aw_block ?_
    refine aw_loop' (fun m s => ∃ (v0_s_1 : List UInt8), ∃ (v1_1 : Int), loopN (fun (s : List UInt8 × Int) => gleaningref1_Put_l1 s.1 s.2) m (v0_s_1, v1_1) = some q2 ∧ s = lit [(0, .own 1 0), (1, .int .u64 v1_1)] [((1, 0), .arr 5 1 false (List.map enc5 v0_s_1))] [(1, 1)] X) Fu
      ⟨_, reb_lit [(0, .own 1 0), (1, .int .u64 a1)] [(1, 0)] [((1, 0), .arr 5 1 false (List.map enc5 a0))] [(1, 1)] (envOk_cons (by conv => lhs; whnf) (by exact rfl) (envOk_cons (by conv => lhs; whnf) (by exact rfl) envOk_nil)) (objOk_cons (by conv => lhs; whnf) (by conv => lhs; whnf) (by exact rfl) (by simp) objOk_nil) (nodup_b rfl) (nodup_b rfl) rfl rfl, a0, a1, h, rfl⟩ ?_
    rintro m s ⟨v0_s_1, v1_1, h, rfl⟩
    obtain ⟨m1, q4, rfl, h, hq5⟩ := loop_some h
    replace h : gleaningref1_Put_l1 v0_s_1 v1_1 = some q4 := h
    unfold gleaningref1_Put_l1 at h
    refine aw_seq_k (fun K6 hK6 => ?_)
    refine aw_seq_k (fun K7 hK7 => ?_)
    refine aw_reg ?_
    refine ao_cons (acts_of rfl (does_move (v := .int .u64 v1_1) (by exact rfl))) (by decide) ?_
    refine ao_cons (acts_of rfl (does_bin (v := .bool (decide ((127 : Int) < v1_1))) (by conv => lhs; whnf) (by conv => lhs; whnf) rfl)) (by decide) ?_
    refine ao_nil_n ?_
    refine hK7 _ ?_
    refine aw_bool (b := (decide ((127 : Int) < v1_1))) 6 rfl (fun c8 => ?_) (fun c8 => ?_)
    · have h := ifT c8 h
      refine aw_cond_t (by decide) rfl ?_
      refine aw_skip ?_
      refine hK6 _ ?_
      refine aw_block ?_
      refine aw_seq_k (fun K9 hK9 => ?_)
      refine aw_reg ?_
      refine ao_cons (acts_of rfl (does_move (v := .own 1 0) (by exact rfl))) (by decide) ?_
      refine ao_cons (acts_of rfl (does_move (v := .int .u64 v1_1) (by exact rfl))) (by decide) ?_
      refine ao_cons (acts_of rfl (does_bin (v := .int .u64 (bits .and .u64 v1_1 127)) (by conv => lhs; whnf) (by conv => lhs; whnf) rfl)) (by decide) ?_
      refine ao_cons (acts_of rfl ((does_conv_int (v := .int .u8 (IntKind.u8.wrap (bits .and .u64 v1_1 127))) (by conv => lhs; whnf) (ty_some ty33) (ty_int ty5) rfl).castp (v' := .int .u8 ((u8 (IntKind.u8.wrap (bits .and .u64 v1_1 127))).toNat : Int)) (by exact congrArg _ (u8_eq (u8_wrap _))))) (by decide) ?_
      refine ao_cons (acts_of rfl ((does_bin (v := .int .u8 (bits .or .u8 ((u8 (IntKind.u8.wrap (bits .and .u64 v1_1 127))).toNat : Int) 128)) (by conv => lhs; whnf) (by conv => lhs; whnf) rfl).castp (v' := .int .u8 ((u8 (bits .or .u8 ((u8 (IntKind.u8.wrap (bits .and .u64 v1_1 127))).toNat : Int) 128)).toNat : Int)) (by exact congrArg _ (u8_eq (u8_bits _ _ _))))) (by decide) ?_
      refine ao_cons (acts_of rfl (do_buildSlice (xs := List.map enc5 [(u8 (bits .or .u8 ((u8 (IntKind.u8.wrap (bits .and .u64 v1_1 127))).toNat : Int) 128))]) ty22 ty5 rfl rfl rfl rfl rfl rfl rfl rfl)) (by decide) ?_
      obtain ⟨g10, h⟩ := gd_some h
      refine ao_cons (acts_of rfl (do_append (v := List.map enc5 (v0_s_1 ++ [(u8 (bits .or .u8 ((u8 (IntKind.u8.wrap (bits .and .u64 v1_1 127))).toNat : Int) 128))])) (by conv => lhs; whnf) (by conv => lhs; whnf) ty22 ty5 rfl rfl (by conv => lhs; whnf) (by first | exact .inl rfl | exact .inr ⟨rfl, rfl⟩) (by conv => lhs; whnf) (by first | exact .inr rfl | exact .inl rfl) (map_app _ _) (fit_map g10))) (by decide) ?_
      refine ao_cons (acts_of rfl (does_assign (v := .own 13 0) (by exact rfl))) (by decide) ?_
      refine ao_nil_n ?_
      refine hK9 _ ?_
      refine aw_reg ?_
      refine ao_cons (acts_of rfl (does_move (v := .int .u64 v1_1) (by exact rfl))) (by decide) ?_
      refine ao_cons (acts_of rfl (does_bin (v := .int .u64 (Int.fdiv v1_1 (2 ^ (min (Int.toNat 7) (IntKind.bits .u64))))) (by conv => lhs; whnf) (by conv => lhs; whnf) rfl)) (by decide) ?_
      refine ao_cons (acts_of rfl (does_assign (v := .int .u64 (Int.fdiv v1_1 (2 ^ (min (Int.toNat 7) (IntKind.bits .u64))))) (by exact rfl))) (by decide) ?_
      refine ao_nil_n ?_
      have h := leafL h hq5
      exact ⟨m1, Nat.lt_succ_self _, _, reb_lit [(0, .own 1 0), (1, .int .u64 (Int.fdiv v1_1 (2 ^ (min (Int.toNat 7) (IntKind.bits .u64)))))] [(13, 0)] [((1, 0), .arr 5 1 false (List.map enc5 (v0_s_1 ++ [(u8 (bits .or .u8 ((u8 (IntKind.u8.wrap (bits .and .u64 v1_1 127))).toNat : Int) 128))])))] [(1, 1)] (envOk_cons (by conv => lhs; whnf) (by exact rfl) (envOk_cons (by conv => lhs; whnf) (by exact rfl) envOk_nil)) (objOk_cons (by conv => lhs; whnf) (by conv => lhs; whnf) (by exact rfl) (by simp) objOk_nil) (nodup_b rfl) (nodup_b rfl) rfl rfl, (v0_s_1 ++ [(u8 (bits .or .u8 ((u8 (IntKind.u8.wrap (bits .and .u64 v1_1 127))).toNat : Int) 128))]), (Int.fdiv v1_1 (2 ^ (min (Int.toNat 7) (IntKind.bits .u64)))), h, rfl⟩
    · have h := ifF c8 h
      refine aw_cond_f (by decide) rfl ?_
      refine aw_exit ?_
      have h := leafR h hq5
      obtain rfl := Option.some.inj h
      have h := hk3
      exact ⟨_, reb_lit [(0, .own 1 0), (1, .int .u64 v1_1)] [(1, 0)] [((1, 0), .arr 5 1 false (List.map enc5 v0_s_1))] [(1, 1)] (envOk_cons (by conv => lhs; whnf) (by exact rfl) (envOk_cons (by conv => lhs; whnf) (by exact rfl) envOk_nil)) (objOk_cons (by conv => lhs; whnf) (by conv => lhs; whnf) (by exact rfl) (by simp) objOk_nil) (nodup_b rfl) (nodup_b rfl) rfl rfl, v0_s_1, v1_1, h, rfl⟩
  · rintro s ⟨v0_s_0, v1_0, h, rfl⟩
    unfold gleaningref1_Put_k0 at h
    refine aw_seq_k (fun K11 hK11 => ?_)
    refine aw_reg ?_
    refine ao_cons (acts_of rfl (does_move (v := .own 1 0) (by exact rfl))) (by decide) ?_
    refine ao_cons (acts_of rfl (does_move (v := .int .u64 v1_0) (by exact rfl))) (by decide) ?_
    refine ao_cons (acts_of rfl ((does_conv_int (v := .int .u8 (IntKind.u8.wrap v1_0)) (by conv => lhs; whnf) (ty_some ty33) (ty_int ty5) rfl).castp (v' := .int .u8 ((u8 (IntKind.u8.wrap v1_0)).toNat : Int)) (by exact congrArg _ (u8_eq (u8_wrap _))))) (by decide) ?_
    refine ao_cons (acts_of rfl (do_buildSlice (xs := List.map enc5 [(u8 (IntKind.u8.wrap v1_0))]) ty22 ty5 rfl rfl rfl rfl rfl rfl rfl rfl)) (by decide) ?_
    obtain ⟨g12, h⟩ := gd_some h
    refine ao_cons (acts_of rfl (do_append (v := List.map enc5 (v0_s_0 ++ [(u8 (IntKind.u8.wrap v1_0))])) (by conv => lhs; whnf) (by conv => lhs; whnf) ty22 ty5 rfl rfl (by conv => lhs; whnf) (by first | exact .inl rfl | exact .inr ⟨rfl, rfl⟩) (by conv => lhs; whnf) (by first | exact .inr rfl | exact .inl rfl) (map_app _ _) (fit_map g12))) (by decide) ?_
    refine ao_cons (acts_of rfl (does_assign (v := .own 20 0) (by exact rfl))) (by decide) ?_
    refine ao_nil_n ?_
    refine hK11 _ ?_
    refine aw_ret ?_
    obtain rfl := Option.some.inj h
    exact ret_okR [(20, 0)] (by conv => lhs; whnf) (by conv => lhs; whnf) (by exact rfl) (rowsOk_cons (by conv => lhs; whnf) (by exact rfl) trivial) (nodup_b rfl) (.inr rfl) rfl
def gleaningref1_Text (a0 : List UInt8) (a1 : ByteArray) : Option (List UInt8) :=
  Option.bind (gleaningref1_Put a0 (IntKind.u64.wrap (ByteArray.size a1 : Int))) (fun (x3 : List UInt8) => gd ((List.length (x3 ++ (bytesOf a1))) ≤ 140737488355328) (some (x3 ++ (bytesOf a1))))
set_option maxRecDepth 100000 in
set_option maxHeartbeats 8000000 in
/-- gleaning/gleaningref1.Text -/
theorem gleaningref1_Text_ok (a0 : List UInt8) (a1 : ByteArray) {r : List UInt8} (h : gleaningref1_Text a0 a1 = some r) : Ok Try.prog 41 [.own 1 0, .str a1] [] [(5, 1, List.map enc5 a0)] (.own 2 0) [] [(5, 1, List.map enc5 r)] := by
  unfold gleaningref1_Text at h
  refine ok_of_code Try.func41 rfl (by show (2 : Nat) ≤ _; decide) (Nat.le_refl _) fun X => ?_
  refine aw_seq_k (fun K1 hK1 => ?_)
  refine aw_reg ?_
  refine ao_cons (acts_of rfl (does_assign (v := .nil) (by exact rfl))) (by decide) ?_
  refine ao_nil_n ?_
  refine hK1 _ ?_
  refine aw_seq_k (fun K2 hK2 => ?_)
  refine aw_reg ?_
  refine ao_cons (acts_of rfl (does_move (v := .own 1 0) (by exact rfl))) (by decide) ?_
  refine ao_cons (acts_of rfl (does_move (v := .str a1) (by exact rfl))) (by decide) ?_
  refine ao_cons (acts_of rfl (does_len_str (by conv => lhs; whnf) ty9)) (by decide) ?_
  refine ao_cons (acts_of rfl (does_conv_int (v := .int .u64 (IntKind.u64.wrap (ByteArray.size a1 : Int))) (by conv => lhs; whnf) (ty_some ty3) (ty_int ty33) rfl)) (by decide) ?_
  obtain ⟨x3, hx3, h⟩ := bnd_some h
  refine ao_cons (acts_of rfl (do_callG (bcs := []) [] [(1, 0)] [] 9 false (gleaningref1_Put_ok a0 (IntKind.u64.wrap (ByteArray.size a1 : Int)) hx3) rfl ent39 trivial (rowsOk_cons (by conv => lhs; whnf) (by exact rfl) trivial) rfl rfl rfl rfl rfl rfl rfl rfl (.inr ⟨rfl, rfl, ⟨plain_map (fun _ => rfl), trivial⟩⟩))) (by decide) ?_
  refine ao_cons (acts_of rfl (does_move (v := .str a1) (by exact rfl))) (by decide) ?_
  obtain ⟨g4, h⟩ := gd_some h
  refine ao_cons (acts_of rfl (do_append_str (l := x3) (f := enc5) (by conv => lhs; whnf) (by conv => lhs; whnf) ty22 ty5 zr5 (ty_str ty9) (by conv => lhs; whnf) (by first | exact .inl rfl | exact .inr ⟨rfl, rfl⟩) (fun _ => rfl) (g4))) (by decide) ?_
  refine ao_cons (acts_of rfl (does_assign (v := .own 11 0) (by exact rfl))) (by decide) ?_
  refine ao_nil_n ?_
  refine hK2 _ ?_
  refine aw_ret ?_
  obtain rfl := Option.some.inj h
  exact ret_okR [(11, 0)] (by conv => lhs; whnf) (by conv => lhs; whnf) (by exact rfl) (rowsOk_cons (by conv => lhs; whnf) (by exact rfl) trivial) (nodup_b rfl) (.inr rfl) rfl
def gleaninglaw1_IntsTell_k0 (a0 : List UInt8) (a1 : Int) (a2 : ByteArray) : Option Bool :=
  gd ((List.length a0) * 1 ≤ 140737488355328 ∧ (List.length a0) ≤ 140737488355328) (Option.bind (ints_Get a0) (fun (x15 : Int × Int × Bool) => Option.bind (gleaningref1_Get a0) (fun (x17 : Int × Int × Bool) => Option.bind (ints_GetText a0) (fun (x19 : ByteArray × Int × Bool) => Option.bind (gleaningref1_GetText a0) (fun (x21 : ByteArray × Int × Bool) => if (x15.1 == x17.1) = true then (if (x15.2.1 == x17.2.1) = true then (if (x15.2.2 == x17.2.2) = true then (if (ByteArray.toList x19.1 == ByteArray.toList x21.1) = true then (if (x19.2.1 == x21.2.1) = true then (if (x19.2.2 == x21.2.2) = true then (Option.bind (ints_Put a0 a1) (fun (x29 : List UInt8) => gd ((List.length a0) * 1 ≤ 140737488355328 ∧ (List.length a0) ≤ 140737488355328) (Option.bind (gleaningref1_Put a0 a1) (fun (x31 : List UInt8) => if (ByteArray.toList (strOf x29) == ByteArray.toList (strOf x31)) = true then (Option.bind (ints_Text a0 a2) (fun (x33 : List UInt8) => gd ((List.length a0) * 1 ≤ 140737488355328 ∧ (List.length a0) ≤ 140737488355328) (Option.bind (gleaningref1_Text a0 a2) (fun (x35 : List UInt8) => some (ByteArray.toList (strOf x33) == ByteArray.toList (strOf x35)))))) else (some false))))) else (some false)) else (some false)) else (some false)) else (some false)) else (some false)) else (some false))))))
def gleaninglaw1_IntsTell (a0 : List UInt8) (a1 : Int) (a2 : ByteArray) : Option Bool :=
  Option.bind (gleaninglaw1_alive) (fun (x3 : Bool) => Option.bind (if (!x3) = true then (some (Sum.inr x3)) else (if (decide ((300 : Int) < (List.length a0 : Int))) = true then (some (Sum.inr x3)) else (if (decide ((300 : Int) < (ByteArray.size a2 : Int))) = true then (some (Sum.inr x3)) else (some (Sum.inl ()))))) (Sum.elim (fun (s : Unit) => gleaninglaw1_IntsTell_k0 a0 a1 a2) some))
set_option maxRecDepth 100000 in
set_option maxHeartbeats 8000000 in
/-- gleaning/gleaninglaw1.IntsTell -/
theorem gleaninglaw1_IntsTell_ok (a0 : List UInt8) (a1 : Int) (a2 : ByteArray) {r : Bool} (h : gleaninglaw1_IntsTell a0 a1 a2 = some r) : Ok Try.prog 13 [.sl 1 (List.map enc5 a0), .int .u64 a1, .str a2] [] [] (.bool r) [] [] := by
  unfold gleaninglaw1_IntsTell at h
  refine ok_of_code Try.func13 rfl (by show (3 : Nat) ≤ _; decide) (Nat.le_refl _) fun X => ?_
  refine aw_seq_k (fun K1 hK1 => ?_)
  refine aw_reg ?_
  refine ao_cons (acts_of rfl (does_assign (v := .bool false) (by exact rfl))) (by decide) ?_
  refine ao_nil_n ?_
  refine hK1 _ ?_
  refine aw_seq_k (fun K2 hK2 => ?_)
  refine aw_reg ?_
  obtain ⟨x3, hx3, h⟩ := bnd_some h
  refine ao_cons (acts_of rfl (do_call0 20 false (gleaninglaw1_alive_ok hx3) rfl ent26 rfl rfl)) (by decide) ?_
  refine ao_cons (acts_of rfl (does_assign (v := .bool x3) (by exact rfl))) (by decide) ?_
  refine ao_nil_n ?_
  refine hK2 _ ?_
  obtain ⟨q4, h, hk5⟩ := bnd_some h
  refine aw_cut (fun s => gleaninglaw1_IntsTell_k0 a0 a1 a2 = some r ∧ s = lit [(0, .sl 1 (List.map enc5 a0)), (1, .int .u64 a1), (2, .str a2)] [] [] X) ?_ ?_
  · skip
    refine aw_seq_k (fun K6 hK6 => ?_)
    refine aw_reg ?_
    refine ao_cons (acts_of rfl (does_move (v := .bool x3) (by exact rfl))) (by decide) ?_
    refine ao_cons (acts_of rfl (does_un (v := .bool (!x3)) (by conv => lhs; whnf) rfl)) (by decide) ?_
    refine ao_cons (acts_of rfl (does_move (v := .bool (!x3)) (by exact rfl))) (by decide) ?_
    refine ao_bool (c := (!x3)) 23 rfl (fun c7 => ?_) (fun c7 => ?_)
    · have h := ifT c7 h
      refine ao_cons (acts_skip rfl) (by decide) ?_
      refine ao_cons (acts_skip rfl) (by decide) ?_
      refine ao_cons (acts_skip rfl) (by decide) ?_
      refine ao_cons (acts_of rfl (does_pick (v := .bool true) (by conv => lhs; whnf) (by exact rfl))) (by decide) ?_
      refine ao_cons (acts_of rfl (does_move (v := .bool true) (by exact rfl))) (by decide) ?_
      refine ao_cons (acts_skip rfl) (by decide) ?_
      refine ao_cons (acts_skip rfl) (by decide) ?_
      refine ao_cons (acts_skip rfl) (by decide) ?_
      refine ao_cons (acts_of rfl (does_pick (v := .bool true) (by conv => lhs; whnf) (by exact rfl))) (by decide) ?_
      refine ao_nil_n ?_
      refine hK6 _ ?_
      refine aw_cond_t (by decide) rfl ?_
      refine aw_seq_k (fun K8 hK8 => ?_)
      refine aw_reg ?_
      refine ao_cons (acts_of rfl (does_move (v := .bool x3) (by exact rfl))) (by decide) ?_
      refine ao_cons (acts_of rfl (does_assign (v := .bool x3) (by exact rfl))) (by decide) ?_
      refine ao_nil_n ?_
      refine hK8 _ ?_
      refine aw_ret ?_
      have h := leafR h hk5
      obtain rfl := Option.some.inj h
      exact ret_ok1 (by conv => lhs; whnf) (by conv => lhs; whnf) (by exact rfl) (.inr rfl) rfl
    · have h := ifF c7 h
      refine ao_cons (acts_of rfl (does_move (v := .sl 1 (List.map enc5 a0)) (by exact rfl))) (by decide) ?_
      refine ao_cons (acts_of rfl ((does_len_sl (by conv => lhs; whnf) ty22).castp (v' := .int .i64 (List.length a0 : Int)) (by exact len_map _))) (by decide) ?_
      refine ao_cons (acts_of rfl (does_bin (v := .bool (decide ((300 : Int) < (List.length a0 : Int)))) (by conv => lhs; whnf) (by conv => lhs; whnf) rfl)) (by decide) ?_
      refine ao_cons (acts_of rfl (does_pick (v := .bool (decide ((300 : Int) < (List.length a0 : Int)))) (by conv => lhs; whnf) (by exact rfl))) (by decide) ?_
      refine ao_cons (acts_of rfl (does_move (v := .bool (decide ((300 : Int) < (List.length a0 : Int)))) (by exact rfl))) (by decide) ?_
      refine ao_bool (c := (decide ((300 : Int) < (List.length a0 : Int)))) 28 rfl (fun c9 => ?_) (fun c9 => ?_)
      · have h := ifT c9 h
        refine ao_cons (acts_skip rfl) (by decide) ?_
        refine ao_cons (acts_skip rfl) (by decide) ?_
        refine ao_cons (acts_skip rfl) (by decide) ?_
        refine ao_cons (acts_of rfl (does_pick (v := .bool true) (by conv => lhs; whnf) (by exact rfl))) (by decide) ?_
        refine ao_nil_n ?_
        refine hK6 _ ?_
        refine aw_cond_t (by decide) rfl ?_
        refine aw_seq_k (fun K10 hK10 => ?_)
        refine aw_reg ?_
        refine ao_cons (acts_of rfl (does_move (v := .bool x3) (by exact rfl))) (by decide) ?_
        refine ao_cons (acts_of rfl (does_assign (v := .bool x3) (by exact rfl))) (by decide) ?_
        refine ao_nil_n ?_
        refine hK10 _ ?_
        refine aw_ret ?_
        have h := leafR h hk5
        obtain rfl := Option.some.inj h
        exact ret_ok1 (by conv => lhs; whnf) (by conv => lhs; whnf) (by exact rfl) (.inr rfl) rfl
      · have h := ifF c9 h
        refine ao_cons (acts_of rfl (does_move (v := .str a2) (by exact rfl))) (by decide) ?_
        refine ao_cons (acts_of rfl (does_len_str (by conv => lhs; whnf) ty9)) (by decide) ?_
        refine ao_cons (acts_of rfl (does_bin (v := .bool (decide ((300 : Int) < (ByteArray.size a2 : Int)))) (by conv => lhs; whnf) (by conv => lhs; whnf) rfl)) (by decide) ?_
        refine ao_cons (acts_of rfl (does_pick (v := .bool (decide ((300 : Int) < (ByteArray.size a2 : Int)))) (by conv => lhs; whnf) (by exact rfl))) (by decide) ?_
        refine ao_nil_n ?_
        refine hK6 _ ?_
        refine aw_bool (b := (decide ((300 : Int) < (ByteArray.size a2 : Int)))) 32 rfl (fun c11 => ?_) (fun c11 => ?_)
        · have h := ifT c11 h
          refine aw_cond_t (by decide) rfl ?_
          refine aw_seq_k (fun K12 hK12 => ?_)
          refine aw_reg ?_
          refine ao_cons (acts_of rfl (does_move (v := .bool x3) (by exact rfl))) (by decide) ?_
          refine ao_cons (acts_of rfl (does_assign (v := .bool x3) (by exact rfl))) (by decide) ?_
          refine ao_nil_n ?_
          refine hK12 _ ?_
          refine aw_ret ?_
          have h := leafR h hk5
          obtain rfl := Option.some.inj h
          exact ret_ok1 (by conv => lhs; whnf) (by conv => lhs; whnf) (by exact rfl) (.inr rfl) rfl
        · have h := ifF c11 h
          refine aw_cond_f (by decide) rfl ?_
          refine aw_skip ?_
          have h := leafL h hk5
          exact ⟨_, reb_lit [(0, .sl 1 (List.map enc5 a0)), (1, .int .u64 a1), (2, .str a2)] [] [] [] (envOk_cons (by conv => lhs; whnf) (by exact rfl) (envOk_cons (by conv => lhs; whnf) (by exact rfl) (envOk_cons (by conv => lhs; whnf) (by exact rfl) envOk_nil))) objOk_nil (nodup_b rfl) (nodup_b rfl) rfl rfl, h, rfl⟩
  · rintro s ⟨h, rfl⟩
    unfold gleaninglaw1_IntsTell_k0 at h
    refine aw_seq_k (fun K13 hK13 => ?_)
    refine aw_reg ?_
    refine ao_cons (acts_of rfl (does_move (v := .sl 1 (List.map enc5 a0)) (by exact rfl))) (by decide) ?_
    obtain ⟨g14, h⟩ := gd_some h
    refine ao_cons (acts_of rfl (do_append (v := List.map enc5 a0) (by conv => lhs; whnf) (by conv => lhs; whnf) ty22 ty5 rfl rfl (by conv => lhs; whnf) (by first | exact .inl rfl | exact .inr ⟨rfl, rfl⟩) (by conv => lhs; whnf) (by first | exact .inr rfl | exact .inl rfl) (List.nil_append _) (fit_map g14))) (by decide) ?_
    obtain ⟨x15, hx15, h⟩ := bnd_some h
    refine ao_cons (acts_of rfl (do_callG (bcs := []) [] [] [(36, 0)] 37 false (ints_Get_ok a0 hx15) rfl ent28 trivial trivial rfl rfl rfl rfl rfl rfl rfl rfl (.inr ⟨rfl, rfl, trivial⟩))) (by decide) ?_
    refine ao_cons (acts_of rfl (does_move (v := .tup [.int .u64 x15.1, .int .i64 x15.2.1, .bool x15.2.2]) (by exact rfl))) (by decide) ?_
    refine ao_cons (acts_of rfl (does_extract (v := .int .u64 x15.1) (by conv => lhs; whnf) (by exact rfl))) (by decide) ?_
    refine ao_cons (acts_of rfl (does_extract (v := .int .i64 x15.2.1) (by conv => lhs; whnf) (by exact rfl))) (by decide) ?_
    refine ao_cons (acts_of rfl (does_extract (v := .bool x15.2.2) (by conv => lhs; whnf) (by exact rfl))) (by decide) ?_
    refine ao_cons (acts_of rfl (does_assign (v := .int .u64 x15.1) (by exact rfl))) (by decide) ?_
    refine ao_cons (acts_of rfl (does_assign (v := .int .i64 x15.2.1) (by exact rfl))) (by decide) ?_
    refine ao_cons (acts_of rfl (does_assign (v := .bool x15.2.2) (by exact rfl))) (by decide) ?_
    refine ao_nil_n ?_
    refine hK13 _ ?_
    refine aw_seq_k (fun K16 hK16 => ?_)
    refine aw_reg ?_
    refine ao_cons (acts_of rfl (does_move (v := .sl 1 (List.map enc5 a0)) (by exact rfl))) (by decide) ?_
    obtain ⟨x17, hx17, h⟩ := bnd_some h
    refine ao_cons (acts_of rfl (do_call0 43 false (gleaningref1_Get_ok a0 hx17) rfl ent36 rfl rfl)) (by decide) ?_
    refine ao_cons (acts_of rfl (does_move (v := .tup [.int .u64 x17.1, .int .i64 x17.2.1, .bool x17.2.2]) (by exact rfl))) (by decide) ?_
    refine ao_cons (acts_of rfl (does_extract (v := .int .u64 x17.1) (by conv => lhs; whnf) (by exact rfl))) (by decide) ?_
    refine ao_cons (acts_of rfl (does_extract (v := .int .i64 x17.2.1) (by conv => lhs; whnf) (by exact rfl))) (by decide) ?_
    refine ao_cons (acts_of rfl (does_extract (v := .bool x17.2.2) (by conv => lhs; whnf) (by exact rfl))) (by decide) ?_
    refine ao_cons (acts_of rfl (does_assign (v := .int .u64 x17.1) (by exact rfl))) (by decide) ?_
    refine ao_cons (acts_of rfl (does_assign (v := .int .i64 x17.2.1) (by exact rfl))) (by decide) ?_
    refine ao_cons (acts_of rfl (does_assign (v := .bool x17.2.2) (by exact rfl))) (by decide) ?_
    refine ao_nil_n ?_
    refine hK16 _ ?_
    refine aw_seq_k (fun K18 hK18 => ?_)
    refine aw_reg ?_
    refine ao_cons (acts_of rfl (does_move (v := .sl 1 (List.map enc5 a0)) (by exact rfl))) (by decide) ?_
    obtain ⟨x19, hx19, h⟩ := bnd_some h
    refine ao_cons (acts_of rfl (do_call0 49 false (ints_GetText_ok a0 hx19) rfl ent37 rfl rfl)) (by decide) ?_
    refine ao_cons (acts_of rfl (does_move (v := .tup [.str x19.1, .int .i64 x19.2.1, .bool x19.2.2]) (by exact rfl))) (by decide) ?_
    refine ao_cons (acts_of rfl (does_extract (v := .str x19.1) (by conv => lhs; whnf) (by exact rfl))) (by decide) ?_
    refine ao_cons (acts_of rfl (does_extract (v := .int .i64 x19.2.1) (by conv => lhs; whnf) (by exact rfl))) (by decide) ?_
    refine ao_cons (acts_of rfl (does_extract (v := .bool x19.2.2) (by conv => lhs; whnf) (by exact rfl))) (by decide) ?_
    refine ao_cons (acts_of rfl (does_assign (v := .str x19.1) (by exact rfl))) (by decide) ?_
    refine ao_cons (acts_of rfl (does_assign (v := .int .i64 x19.2.1) (by exact rfl))) (by decide) ?_
    refine ao_cons (acts_of rfl (does_assign (v := .bool x19.2.2) (by exact rfl))) (by decide) ?_
    refine ao_nil_n ?_
    refine hK18 _ ?_
    refine aw_seq_k (fun K20 hK20 => ?_)
    refine aw_reg ?_
    refine ao_cons (acts_of rfl (does_move (v := .sl 1 (List.map enc5 a0)) (by exact rfl))) (by decide) ?_
    obtain ⟨x21, hx21, h⟩ := bnd_some h
    refine ao_cons (acts_of rfl (do_call0 55 false (gleaningref1_GetText_ok a0 hx21) rfl ent38 rfl rfl)) (by decide) ?_
    refine ao_cons (acts_of rfl (does_move (v := .tup [.str x21.1, .int .i64 x21.2.1, .bool x21.2.2]) (by exact rfl))) (by decide) ?_
    refine ao_cons (acts_of rfl (does_extract (v := .str x21.1) (by conv => lhs; whnf) (by exact rfl))) (by decide) ?_
    refine ao_cons (acts_of rfl (does_extract (v := .int .i64 x21.2.1) (by conv => lhs; whnf) (by exact rfl))) (by decide) ?_
    refine ao_cons (acts_of rfl (does_extract (v := .bool x21.2.2) (by conv => lhs; whnf) (by exact rfl))) (by decide) ?_
    refine ao_cons (acts_of rfl (does_assign (v := .str x21.1) (by exact rfl))) (by decide) ?_
    refine ao_cons (acts_of rfl (does_assign (v := .int .i64 x21.2.1) (by exact rfl))) (by decide) ?_
    refine ao_cons (acts_of rfl (does_assign (v := .bool x21.2.2) (by exact rfl))) (by decide) ?_
    refine ao_nil_n ?_
    refine hK20 _ ?_
    refine aw_seq_k (fun K22 hK22 => ?_)
    refine aw_regd (by kernel_rfl) (by decide +kernel) ?_
    refine ao_cons (acts_of rfl (does_move (v := .int .u64 x15.1) (by exact rfl))) (by decide) ?_
    refine ao_cons (acts_of rfl (does_move (v := .int .u64 x17.1) (by exact rfl))) (by decide) ?_
    refine ao_cons (acts_of rfl (does_bin (v := .bool (x15.1 == x17.1)) (by conv => lhs; whnf) (by conv => lhs; whnf) rfl)) (by decide) ?_
    refine ao_cons (acts_of rfl (does_move (v := .bool (x15.1 == x17.1)) (by exact rfl))) (by decide) ?_
    refine ao_bool (c := (x15.1 == x17.1)) 62 rfl (fun c23 => ?_) (fun c23 => ?_)
    · have h := ifT c23 h
      refine ao_cons (acts_of rfl (does_move (v := .int .i64 x15.2.1) (by exact rfl))) (by decide) ?_
      refine ao_cons (acts_of rfl (does_move (v := .int .i64 x17.2.1) (by exact rfl))) (by decide) ?_
      refine ao_cons (acts_of rfl (does_bin (v := .bool (x15.2.1 == x17.2.1)) (by conv => lhs; whnf) (by conv => lhs; whnf) rfl)) (by decide) ?_
      refine ao_cons (acts_of rfl (does_pick (v := .bool (x15.2.1 == x17.2.1)) (by conv => lhs; whnf) (by exact rfl))) (by decide) ?_
      refine ao_cons (acts_of rfl (does_move (v := .bool (x15.2.1 == x17.2.1)) (by exact rfl))) (by decide) ?_
      refine ao_bool (c := (x15.2.1 == x17.2.1)) 67 rfl (fun c24 => ?_) (fun c24 => ?_)
      · have h := ifT c24 h
        refine ao_cons (acts_of rfl (does_move (v := .bool x15.2.2) (by exact rfl))) (by decide) ?_
        refine ao_cons (acts_of rfl (does_move (v := .bool x17.2.2) (by exact rfl))) (by decide) ?_
        refine ao_cons (acts_of rfl (does_eq_bool (v := .bool (x15.2.2 == x17.2.2)) (by conv => lhs; whnf) (by conv => lhs; whnf) (ty_bool ty4) rfl)) (by decide) ?_
        refine ao_cons (acts_of rfl (does_pick (v := .bool (x15.2.2 == x17.2.2)) (by conv => lhs; whnf) (by exact rfl))) (by decide) ?_
        refine ao_cons (acts_of rfl (does_move (v := .bool (x15.2.2 == x17.2.2)) (by exact rfl))) (by decide) ?_
        refine ao_bool (c := (x15.2.2 == x17.2.2)) 72 rfl (fun c25 => ?_) (fun c25 => ?_)
        · have h := ifT c25 h
          refine ao_cons (acts_of rfl (does_move (v := .str x19.1) (by exact rfl))) (by decide) ?_
          refine ao_cons (acts_of rfl (does_move (v := .str x21.1) (by exact rfl))) (by decide) ?_
          refine ao_cons (acts_of rfl (does_bin (v := .bool (ByteArray.toList x19.1 == ByteArray.toList x21.1)) (by conv => lhs; whnf) (by conv => lhs; whnf) rfl)) (by decide) ?_
          refine ao_cons (acts_of rfl (does_pick (v := .bool (ByteArray.toList x19.1 == ByteArray.toList x21.1)) (by conv => lhs; whnf) (by exact rfl))) (by decide) ?_
          refine ao_cons (acts_of rfl (does_move (v := .bool (ByteArray.toList x19.1 == ByteArray.toList x21.1)) (by exact rfl))) (by decide) ?_
          refine ao_bool (c := (ByteArray.toList x19.1 == ByteArray.toList x21.1)) 77 rfl (fun c26 => ?_) (fun c26 => ?_)
          · have h := ifT c26 h
            refine ao_cons (acts_of rfl (does_move (v := .int .i64 x19.2.1) (by exact rfl))) (by decide) ?_
            refine ao_cons (acts_of rfl (does_move (v := .int .i64 x21.2.1) (by exact rfl))) (by decide) ?_
            refine ao_cons (acts_of rfl (does_bin (v := .bool (x19.2.1 == x21.2.1)) (by conv => lhs; whnf) (by conv => lhs; whnf) rfl)) (by decide) ?_
            refine ao_cons (acts_of rfl (does_pick (v := .bool (x19.2.1 == x21.2.1)) (by conv => lhs; whnf) (by exact rfl))) (by decide) ?_
            refine ao_cons (acts_of rfl (does_move (v := .bool (x19.2.1 == x21.2.1)) (by exact rfl))) (by decide) ?_
            refine ao_bool (c := (x19.2.1 == x21.2.1)) 82 rfl (fun c27 => ?_) (fun c27 => ?_)
            · have h := ifT c27 h
              refine ao_cons (acts_of rfl (does_move (v := .bool x19.2.2) (by exact rfl))) (by decide) ?_
              refine ao_cons (acts_of rfl (does_move (v := .bool x21.2.2) (by exact rfl))) (by decide) ?_
              refine ao_cons (acts_of rfl (does_eq_bool (v := .bool (x19.2.2 == x21.2.2)) (by conv => lhs; whnf) (by conv => lhs; whnf) (ty_bool ty4) rfl)) (by decide) ?_
              refine ao_cons (acts_of rfl (does_pick (v := .bool (x19.2.2 == x21.2.2)) (by conv => lhs; whnf) (by exact rfl))) (by decide) ?_
              refine ao_cons (acts_of rfl (does_move (v := .bool (x19.2.2 == x21.2.2)) (by exact rfl))) (by decide) ?_
              refine ao_bool (c := (x19.2.2 == x21.2.2)) 87 rfl (fun c28 => ?_) (fun c28 => ?_)
              · have h := ifT c28 h
                refine ao_cons (acts_of rfl (does_move (v := .sl 1 (List.map enc5 a0)) (by exact rfl))) (by decide) ?_
                refine ao_cons (acts_of rfl (does_move (v := .int .u64 a1) (by exact rfl))) (by decide) ?_
                obtain ⟨x29, hx29, h⟩ := bnd_some h
                refine ao_cons (acts_of rfl (do_call0 90 false (ints_Put_ok a0 a1 hx29) rfl ent27 rfl rfl)) (by decide) ?_
                refine ao_cons (acts_of rfl (does_bytes_str (l := x29) (f := enc5) (by conv => lhs; whnf) (by conv => lhs; whnf) (Nat.le_refl 1) (ty_slice ty22) (ty_int ty5) (ty_str ty9) (fun _ => rfl))) (by decide) ?_
                refine ao_cons (acts_of rfl (does_move (v := .sl 1 (List.map enc5 a0)) (by exact rfl))) (by decide) ?_
                obtain ⟨g30, h⟩ := gd_some h
                refine ao_cons (acts_of rfl (do_append (v := List.map enc5 a0) (by conv => lhs; whnf) (by conv => lhs; whnf) ty22 ty5 rfl rfl (by conv => lhs; whnf) (by first | exact .inl rfl | exact .inr ⟨rfl, rfl⟩) (by conv => lhs; whnf) (by first | exact .inr rfl | exact .inl rfl) (List.nil_append _) (fit_map g30))) (by decide) ?_
                refine ao_cons (acts_of rfl (does_move (v := .int .u64 a1) (by exact rfl))) (by decide) ?_
                obtain ⟨x31, hx31, h⟩ := bnd_some h
                refine ao_cons (acts_of rfl (do_callG (bcs := []) [] [(93, 0)] [] 95 false (gleaningref1_Put_ok a0 a1 hx31) rfl ent39 trivial (rowsOk_cons (by conv => lhs; whnf) (by exact rfl) trivial) rfl rfl rfl rfl rfl rfl rfl rfl (.inr ⟨rfl, rfl, ⟨plain_map (fun _ => rfl), trivial⟩⟩))) (by decide) ?_
                refine ao_cons (acts_of rfl (does_bytes_str (l := x31) (f := enc5) (by conv => lhs; whnf) (by conv => lhs; whnf) (Nat.le_refl 1) (ty_slice ty22) (ty_int ty5) (ty_str ty9) (fun _ => rfl))) (by decide) ?_
                refine ao_cons (acts_of rfl (does_bin (v := .bool (ByteArray.toList (strOf x29) == ByteArray.toList (strOf x31))) (by conv => lhs; whnf) (by conv => lhs; whnf) rfl)) (by decide) ?_
                refine ao_cons (acts_of rfl (does_pick (v := .bool (ByteArray.toList (strOf x29) == ByteArray.toList (strOf x31))) (by conv => lhs; whnf) (by exact rfl))) (by decide) ?_
                refine ao_cons (acts_of rfl (does_move (v := .bool (ByteArray.toList (strOf x29) == ByteArray.toList (strOf x31))) (by exact rfl))) (by decide) ?_
                refine ao_bool (c := (ByteArray.toList (strOf x29) == ByteArray.toList (strOf x31))) 99 rfl (fun c32 => ?_) (fun c32 => ?_)
                · have h := ifT c32 h
                  refine ao_cons (acts_of rfl (does_move (v := .sl 1 (List.map enc5 a0)) (by exact rfl))) (by decide) ?_
                  refine ao_cons (acts_of rfl (does_move (v := .str a2) (by exact rfl))) (by decide) ?_
                  obtain ⟨x33, hx33, h⟩ := bnd_some h
                  refine ao_cons (acts_of rfl (do_call0 102 false (ints_Text_ok a0 a2 hx33) rfl ent40 rfl rfl)) (by decide) ?_
                  refine ao_cons (acts_of rfl (does_bytes_str (l := x33) (f := enc5) (by conv => lhs; whnf) (by conv => lhs; whnf) (Nat.le_refl 1) (ty_slice ty22) (ty_int ty5) (ty_str ty9) (fun _ => rfl))) (by decide) ?_
                  refine ao_cons (acts_of rfl (does_move (v := .sl 1 (List.map enc5 a0)) (by exact rfl))) (by decide) ?_
                  obtain ⟨g34, h⟩ := gd_some h
                  refine ao_cons (acts_of rfl (do_append (v := List.map enc5 a0) (by conv => lhs; whnf) (by conv => lhs; whnf) ty22 ty5 rfl rfl (by conv => lhs; whnf) (by first | exact .inl rfl | exact .inr ⟨rfl, rfl⟩) (by conv => lhs; whnf) (by first | exact .inr rfl | exact .inl rfl) (List.nil_append _) (fit_map g34))) (by decide) ?_
                  refine ao_cons (acts_of rfl (does_move (v := .str a2) (by exact rfl))) (by decide) ?_
                  obtain ⟨x35, hx35, h⟩ := bnd_some h
                  refine ao_cons (acts_of rfl (do_callG (bcs := []) [] [(105, 0)] [] 107 false (gleaningref1_Text_ok a0 a2 hx35) rfl ent41 trivial (rowsOk_cons (by conv => lhs; whnf) (by exact rfl) trivial) rfl rfl rfl rfl rfl rfl rfl rfl (.inr ⟨rfl, rfl, ⟨plain_map (fun _ => rfl), trivial⟩⟩))) (by decide) ?_
                  refine ao_cons (acts_of rfl (does_bytes_str (l := x35) (f := enc5) (by conv => lhs; whnf) (by conv => lhs; whnf) (Nat.le_refl 1) (ty_slice ty22) (ty_int ty5) (ty_str ty9) (fun _ => rfl))) (by decide) ?_
                  refine ao_cons (acts_of rfl (does_bin (v := .bool (ByteArray.toList (strOf x33) == ByteArray.toList (strOf x35))) (by conv => lhs; whnf) (by conv => lhs; whnf) rfl)) (by decide) ?_
                  refine ao_cons (acts_of rfl (does_pick (v := .bool (ByteArray.toList (strOf x33) == ByteArray.toList (strOf x35))) (by conv => lhs; whnf) (by exact rfl))) (by decide) ?_
                  refine ao_cons (acts_of rfl (does_assign (v := .bool (ByteArray.toList (strOf x33) == ByteArray.toList (strOf x35))) (by exact rfl))) (by decide) ?_
                  refine ao_nil_d (by kernel_rfl) ?_
                  refine hK22 _ ?_
                  refine aw_ret ?_
                  obtain rfl := Option.some.inj h
                  exact ret_ok1 (by conv => lhs; whnf) (by conv => lhs; whnf) (by exact rfl) (.inr rfl) rfl
                · have h := ifF c32 h
                  refine ao_cons (acts_skip rfl) (by decide) ?_
                  refine ao_cons (acts_skip rfl) (by decide) ?_
                  refine ao_cons (acts_skip rfl) (by decide) ?_
                  refine ao_cons (acts_skip rfl) (by decide) ?_
                  refine ao_cons (acts_skip rfl) (by decide) ?_
                  refine ao_cons (acts_skip rfl) (by decide) ?_
                  refine ao_cons (acts_skip rfl) (by decide) ?_
                  refine ao_cons (acts_skip rfl) (by decide) ?_
                  refine ao_cons (acts_skip rfl) (by decide) ?_
                  refine ao_cons (acts_skip rfl) (by decide) ?_
                  refine ao_cons (acts_of rfl (does_pick (v := .bool false) (by conv => lhs; whnf) (by exact rfl))) (by decide) ?_
                  refine ao_cons (acts_of rfl (does_assign (v := .bool false) (by exact rfl))) (by decide) ?_
                  refine ao_nil_d (by kernel_rfl) ?_
                  refine hK22 _ ?_
                  refine aw_ret ?_
                  obtain rfl := Option.some.inj h
                  exact ret_ok1 (by conv => lhs; whnf) (by conv => lhs; whnf) (by exact rfl) (.inr rfl) rfl
              · have h := ifF c28 h
                refine ao_cons (acts_skip rfl) (by decide) ?_
                refine ao_cons (acts_skip rfl) (by decide) ?_
                refine ao_cons (acts_skip rfl) (by decide) ?_
                refine ao_cons (acts_skip rfl) (by decide) ?_
                refine ao_cons (acts_skip rfl) (by decide) ?_
                refine ao_cons (acts_skip rfl) (by decide) ?_
                refine ao_cons (acts_skip rfl) (by decide) ?_
                refine ao_cons (acts_skip rfl) (by decide) ?_
                refine ao_cons (acts_skip rfl) (by decide) ?_
                refine ao_cons (acts_skip rfl) (by decide) ?_
                refine ao_cons (acts_of rfl (does_pick (v := .bool false) (by conv => lhs; whnf) (by exact rfl))) (by decide) ?_
                refine ao_cons (acts_of rfl (does_move (v := .bool false) (by exact rfl))) (by decide) ?_
                refine ao_cons (acts_skip rfl) (by decide) ?_
                refine ao_cons (acts_skip rfl) (by decide) ?_
                refine ao_cons (acts_skip rfl) (by decide) ?_
                refine ao_cons (acts_skip rfl) (by decide) ?_
                refine ao_cons (acts_skip rfl) (by decide) ?_
                refine ao_cons (acts_skip rfl) (by decide) ?_
                refine ao_cons (acts_skip rfl) (by decide) ?_
                refine ao_cons (acts_skip rfl) (by decide) ?_
                refine ao_cons (acts_skip rfl) (by decide) ?_
                refine ao_cons (acts_skip rfl) (by decide) ?_
                refine ao_cons (acts_of rfl (does_pick (v := .bool false) (by conv => lhs; whnf) (by exact rfl))) (by decide) ?_
                refine ao_cons (acts_of rfl (does_assign (v := .bool false) (by exact rfl))) (by decide) ?_
                refine ao_nil_d (by kernel_rfl) ?_
                refine hK22 _ ?_
                refine aw_ret ?_
                obtain rfl := Option.some.inj h
                exact ret_ok1 (by conv => lhs; whnf) (by conv => lhs; whnf) (by exact rfl) (.inr rfl) rfl
            · have h := ifF c27 h
              refine ao_cons (acts_skip rfl) (by decide) ?_
              refine ao_cons (acts_skip rfl) (by decide) ?_
              refine ao_cons (acts_skip rfl) (by decide) ?_
              refine ao_cons (acts_of rfl (does_pick (v := .bool false) (by conv => lhs; whnf) (by exact rfl))) (by decide) ?_
              refine ao_cons (acts_of rfl (does_move (v := .bool false) (by exact rfl))) (by decide) ?_
              refine ao_cons (acts_skip rfl) (by decide) ?_
              refine ao_cons (acts_skip rfl) (by decide) ?_
              refine ao_cons (acts_skip rfl) (by decide) ?_
              refine ao_cons (acts_skip rfl) (by decide) ?_
              refine ao_cons (acts_skip rfl) (by decide) ?_
              refine ao_cons (acts_skip rfl) (by decide) ?_
              refine ao_cons (acts_skip rfl) (by decide) ?_
              refine ao_cons (acts_skip rfl) (by decide) ?_
              refine ao_cons (acts_skip rfl) (by decide) ?_
              refine ao_cons (acts_skip rfl) (by decide) ?_
              refine ao_cons (acts_of rfl (does_pick (v := .bool false) (by conv => lhs; whnf) (by exact rfl))) (by decide) ?_
              refine ao_cons (acts_of rfl (does_move (v := .bool false) (by exact rfl))) (by decide) ?_
              refine ao_cons (acts_skip rfl) (by decide) ?_
              refine ao_cons (acts_skip rfl) (by decide) ?_
              refine ao_cons (acts_skip rfl) (by decide) ?_
              refine ao_cons (acts_skip rfl) (by decide) ?_
              refine ao_cons (acts_skip rfl) (by decide) ?_
              refine ao_cons (acts_skip rfl) (by decide) ?_
              refine ao_cons (acts_skip rfl) (by decide) ?_
              refine ao_cons (acts_skip rfl) (by decide) ?_
              refine ao_cons (acts_skip rfl) (by decide) ?_
              refine ao_cons (acts_skip rfl) (by decide) ?_
              refine ao_cons (acts_of rfl (does_pick (v := .bool false) (by conv => lhs; whnf) (by exact rfl))) (by decide) ?_
              refine ao_cons (acts_of rfl (does_assign (v := .bool false) (by exact rfl))) (by decide) ?_
              refine ao_nil_d (by kernel_rfl) ?_
              refine hK22 _ ?_
              refine aw_ret ?_
              obtain rfl := Option.some.inj h
              exact ret_ok1 (by conv => lhs; whnf) (by conv => lhs; whnf) (by exact rfl) (.inr rfl) rfl
          · have h := ifF c26 h
            refine ao_cons (acts_skip rfl) (by decide) ?_
            refine ao_cons (acts_skip rfl) (by decide) ?_
            refine ao_cons (acts_skip rfl) (by decide) ?_
            refine ao_cons (acts_of rfl (does_pick (v := .bool false) (by conv => lhs; whnf) (by exact rfl))) (by decide) ?_
            refine ao_cons (acts_of rfl (does_move (v := .bool false) (by exact rfl))) (by decide) ?_
            refine ao_cons (acts_skip rfl) (by decide) ?_
            refine ao_cons (acts_skip rfl) (by decide) ?_
            refine ao_cons (acts_skip rfl) (by decide) ?_
            refine ao_cons (acts_of rfl (does_pick (v := .bool false) (by conv => lhs; whnf) (by exact rfl))) (by decide) ?_
            refine ao_cons (acts_of rfl (does_move (v := .bool false) (by exact rfl))) (by decide) ?_
            refine ao_cons (acts_skip rfl) (by decide) ?_
            refine ao_cons (acts_skip rfl) (by decide) ?_
            refine ao_cons (acts_skip rfl) (by decide) ?_
            refine ao_cons (acts_skip rfl) (by decide) ?_
            refine ao_cons (acts_skip rfl) (by decide) ?_
            refine ao_cons (acts_skip rfl) (by decide) ?_
            refine ao_cons (acts_skip rfl) (by decide) ?_
            refine ao_cons (acts_skip rfl) (by decide) ?_
            refine ao_cons (acts_skip rfl) (by decide) ?_
            refine ao_cons (acts_skip rfl) (by decide) ?_
            refine ao_cons (acts_of rfl (does_pick (v := .bool false) (by conv => lhs; whnf) (by exact rfl))) (by decide) ?_
            refine ao_cons (acts_of rfl (does_move (v := .bool false) (by exact rfl))) (by decide) ?_
            refine ao_cons (acts_skip rfl) (by decide) ?_
            refine ao_cons (acts_skip rfl) (by decide) ?_
            refine ao_cons (acts_skip rfl) (by decide) ?_
            refine ao_cons (acts_skip rfl) (by decide) ?_
            refine ao_cons (acts_skip rfl) (by decide) ?_
            refine ao_cons (acts_skip rfl) (by decide) ?_
            refine ao_cons (acts_skip rfl) (by decide) ?_
            refine ao_cons (acts_skip rfl) (by decide) ?_
            refine ao_cons (acts_skip rfl) (by decide) ?_
            refine ao_cons (acts_skip rfl) (by decide) ?_
            refine ao_cons (acts_of rfl (does_pick (v := .bool false) (by conv => lhs; whnf) (by exact rfl))) (by decide) ?_
            refine ao_cons (acts_of rfl (does_assign (v := .bool false) (by exact rfl))) (by decide) ?_
            refine ao_nil_d (by kernel_rfl) ?_
            refine hK22 _ ?_
            refine aw_ret ?_
            obtain rfl := Option.some.inj h
            exact ret_ok1 (by conv => lhs; whnf) (by conv => lhs; whnf) (by exact rfl) (.inr rfl) rfl
        · have h := ifF c25 h
          refine ao_cons (acts_skip rfl) (by decide) ?_
          refine ao_cons (acts_skip rfl) (by decide) ?_
          refine ao_cons (acts_skip rfl) (by decide) ?_
          refine ao_cons (acts_of rfl (does_pick (v := .bool false) (by conv => lhs; whnf) (by exact rfl))) (by decide) ?_
          refine ao_cons (acts_of rfl (does_move (v := .bool false) (by exact rfl))) (by decide) ?_
          refine ao_cons (acts_skip rfl) (by decide) ?_
          refine ao_cons (acts_skip rfl) (by decide) ?_
          refine ao_cons (acts_skip rfl) (by decide) ?_
          refine ao_cons (acts_of rfl (does_pick (v := .bool false) (by conv => lhs; whnf) (by exact rfl))) (by decide) ?_
          refine ao_cons (acts_of rfl (does_move (v := .bool false) (by exact rfl))) (by decide) ?_
          refine ao_cons (acts_skip rfl) (by decide) ?_
          refine ao_cons (acts_skip rfl) (by decide) ?_
          refine ao_cons (acts_skip rfl) (by decide) ?_
          refine ao_cons (acts_of rfl (does_pick (v := .bool false) (by conv => lhs; whnf) (by exact rfl))) (by decide) ?_
          refine ao_cons (acts_of rfl (does_move (v := .bool false) (by exact rfl))) (by decide) ?_
          refine ao_cons (acts_skip rfl) (by decide) ?_
          refine ao_cons (acts_skip rfl) (by decide) ?_
          refine ao_cons (acts_skip rfl) (by decide) ?_
          refine ao_cons (acts_skip rfl) (by decide) ?_
          refine ao_cons (acts_skip rfl) (by decide) ?_
          refine ao_cons (acts_skip rfl) (by decide) ?_
          refine ao_cons (acts_skip rfl) (by decide) ?_
          refine ao_cons (acts_skip rfl) (by decide) ?_
          refine ao_cons (acts_skip rfl) (by decide) ?_
          refine ao_cons (acts_skip rfl) (by decide) ?_
          refine ao_cons (acts_of rfl (does_pick (v := .bool false) (by conv => lhs; whnf) (by exact rfl))) (by decide) ?_
          refine ao_cons (acts_of rfl (does_move (v := .bool false) (by exact rfl))) (by decide) ?_
          refine ao_cons (acts_skip rfl) (by decide) ?_
          refine ao_cons (acts_skip rfl) (by decide) ?_
          refine ao_cons (acts_skip rfl) (by decide) ?_
          refine ao_cons (acts_skip rfl) (by decide) ?_
          refine ao_cons (acts_skip rfl) (by decide) ?_
          refine ao_cons (acts_skip rfl) (by decide) ?_
          refine ao_cons (acts_skip rfl) (by decide) ?_
          refine ao_cons (acts_skip rfl) (by decide) ?_
          refine ao_cons (acts_skip rfl) (by decide) ?_
          refine ao_cons (acts_skip rfl) (by decide) ?_
          refine ao_cons (acts_of rfl (does_pick (v := .bool false) (by conv => lhs; whnf) (by exact rfl))) (by decide) ?_
          refine ao_cons (acts_of rfl (does_assign (v := .bool false) (by exact rfl))) (by decide) ?_
          refine ao_nil_d (by kernel_rfl) ?_
          refine hK22 _ ?_
          refine aw_ret ?_
          obtain rfl := Option.some.inj h
          exact ret_ok1 (by conv => lhs; whnf) (by conv => lhs; whnf) (by exact rfl) (.inr rfl) rfl
      · have h := ifF c24 h
        refine ao_cons (acts_skip rfl) (by decide) ?_
        refine ao_cons (acts_skip rfl) (by decide) ?_
        refine ao_cons (acts_skip rfl) (by decide) ?_
        refine ao_cons (acts_of rfl (does_pick (v := .bool false) (by conv => lhs; whnf) (by exact rfl))) (by decide) ?_
        refine ao_cons (acts_of rfl (does_move (v := .bool false) (by exact rfl))) (by decide) ?_
        refine ao_cons (acts_skip rfl) (by decide) ?_
        refine ao_cons (acts_skip rfl) (by decide) ?_
        refine ao_cons (acts_skip rfl) (by decide) ?_
        refine ao_cons (acts_of rfl (does_pick (v := .bool false) (by conv => lhs; whnf) (by exact rfl))) (by decide) ?_
        refine ao_cons (acts_of rfl (does_move (v := .bool false) (by exact rfl))) (by decide) ?_
        refine ao_cons (acts_skip rfl) (by decide) ?_
        refine ao_cons (acts_skip rfl) (by decide) ?_
        refine ao_cons (acts_skip rfl) (by decide) ?_
        refine ao_cons (acts_of rfl (does_pick (v := .bool false) (by conv => lhs; whnf) (by exact rfl))) (by decide) ?_
        refine ao_cons (acts_of rfl (does_move (v := .bool false) (by exact rfl))) (by decide) ?_
        refine ao_cons (acts_skip rfl) (by decide) ?_
        refine ao_cons (acts_skip rfl) (by decide) ?_
        refine ao_cons (acts_skip rfl) (by decide) ?_
        refine ao_cons (acts_of rfl (does_pick (v := .bool false) (by conv => lhs; whnf) (by exact rfl))) (by decide) ?_
        refine ao_cons (acts_of rfl (does_move (v := .bool false) (by exact rfl))) (by decide) ?_
        refine ao_cons (acts_skip rfl) (by decide) ?_
        refine ao_cons (acts_skip rfl) (by decide) ?_
        refine ao_cons (acts_skip rfl) (by decide) ?_
        refine ao_cons (acts_skip rfl) (by decide) ?_
        refine ao_cons (acts_skip rfl) (by decide) ?_
        refine ao_cons (acts_skip rfl) (by decide) ?_
        refine ao_cons (acts_skip rfl) (by decide) ?_
        refine ao_cons (acts_skip rfl) (by decide) ?_
        refine ao_cons (acts_skip rfl) (by decide) ?_
        refine ao_cons (acts_skip rfl) (by decide) ?_
        refine ao_cons (acts_of rfl (does_pick (v := .bool false) (by conv => lhs; whnf) (by exact rfl))) (by decide) ?_
        refine ao_cons (acts_of rfl (does_move (v := .bool false) (by exact rfl))) (by decide) ?_
        refine ao_cons (acts_skip rfl) (by decide) ?_
        refine ao_cons (acts_skip rfl) (by decide) ?_
        refine ao_cons (acts_skip rfl) (by decide) ?_
        refine ao_cons (acts_skip rfl) (by decide) ?_
        refine ao_cons (acts_skip rfl) (by decide) ?_
        refine ao_cons (acts_skip rfl) (by decide) ?_
        refine ao_cons (acts_skip rfl) (by decide) ?_
        refine ao_cons (acts_skip rfl) (by decide) ?_
        refine ao_cons (acts_skip rfl) (by decide) ?_
        refine ao_cons (acts_skip rfl) (by decide) ?_
        refine ao_cons (acts_of rfl (does_pick (v := .bool false) (by conv => lhs; whnf) (by exact rfl))) (by decide) ?_
        refine ao_cons (acts_of rfl (does_assign (v := .bool false) (by exact rfl))) (by decide) ?_
        refine ao_nil_d (by kernel_rfl) ?_
        refine hK22 _ ?_
        refine aw_ret ?_
        obtain rfl := Option.some.inj h
        exact ret_ok1 (by conv => lhs; whnf) (by conv => lhs; whnf) (by exact rfl) (.inr rfl) rfl
    · have h := ifF c23 h
      refine ao_cons (acts_skip rfl) (by decide) ?_
      refine ao_cons (acts_skip rfl) (by decide) ?_
      refine ao_cons (acts_skip rfl) (by decide) ?_
      refine ao_cons (acts_of rfl (does_pick (v := .bool false) (by conv => lhs; whnf) (by exact rfl))) (by decide) ?_
      refine ao_cons (acts_of rfl (does_move (v := .bool false) (by exact rfl))) (by decide) ?_
      refine ao_cons (acts_skip rfl) (by decide) ?_
      refine ao_cons (acts_skip rfl) (by decide) ?_
      refine ao_cons (acts_skip rfl) (by decide) ?_
      refine ao_cons (acts_of rfl (does_pick (v := .bool false) (by conv => lhs; whnf) (by exact rfl))) (by decide) ?_
      refine ao_cons (acts_of rfl (does_move (v := .bool false) (by exact rfl))) (by decide) ?_
      refine ao_cons (acts_skip rfl) (by decide) ?_
      refine ao_cons (acts_skip rfl) (by decide) ?_
      refine ao_cons (acts_skip rfl) (by decide) ?_
      refine ao_cons (acts_of rfl (does_pick (v := .bool false) (by conv => lhs; whnf) (by exact rfl))) (by decide) ?_
      refine ao_cons (acts_of rfl (does_move (v := .bool false) (by exact rfl))) (by decide) ?_
      refine ao_cons (acts_skip rfl) (by decide) ?_
      refine ao_cons (acts_skip rfl) (by decide) ?_
      refine ao_cons (acts_skip rfl) (by decide) ?_
      refine ao_cons (acts_of rfl (does_pick (v := .bool false) (by conv => lhs; whnf) (by exact rfl))) (by decide) ?_
      refine ao_cons (acts_of rfl (does_move (v := .bool false) (by exact rfl))) (by decide) ?_
      refine ao_cons (acts_skip rfl) (by decide) ?_
      refine ao_cons (acts_skip rfl) (by decide) ?_
      refine ao_cons (acts_skip rfl) (by decide) ?_
      refine ao_cons (acts_of rfl (does_pick (v := .bool false) (by conv => lhs; whnf) (by exact rfl))) (by decide) ?_
      refine ao_cons (acts_of rfl (does_move (v := .bool false) (by exact rfl))) (by decide) ?_
      refine ao_cons (acts_skip rfl) (by decide) ?_
      refine ao_cons (acts_skip rfl) (by decide) ?_
      refine ao_cons (acts_skip rfl) (by decide) ?_
      refine ao_cons (acts_skip rfl) (by decide) ?_
      refine ao_cons (acts_skip rfl) (by decide) ?_
      refine ao_cons (acts_skip rfl) (by decide) ?_
      refine ao_cons (acts_skip rfl) (by decide) ?_
      refine ao_cons (acts_skip rfl) (by decide) ?_
      refine ao_cons (acts_skip rfl) (by decide) ?_
      refine ao_cons (acts_skip rfl) (by decide) ?_
      refine ao_cons (acts_of rfl (does_pick (v := .bool false) (by conv => lhs; whnf) (by exact rfl))) (by decide) ?_
      refine ao_cons (acts_of rfl (does_move (v := .bool false) (by exact rfl))) (by decide) ?_
      refine ao_cons (acts_skip rfl) (by decide) ?_
      refine ao_cons (acts_skip rfl) (by decide) ?_
      refine ao_cons (acts_skip rfl) (by decide) ?_
      refine ao_cons (acts_skip rfl) (by decide) ?_
      refine ao_cons (acts_skip rfl) (by decide) ?_
      refine ao_cons (acts_skip rfl) (by decide) ?_
      refine ao_cons (acts_skip rfl) (by decide) ?_
      refine ao_cons (acts_skip rfl) (by decide) ?_
      refine ao_cons (acts_skip rfl) (by decide) ?_
      refine ao_cons (acts_skip rfl) (by decide) ?_
      refine ao_cons (acts_of rfl (does_pick (v := .bool false) (by conv => lhs; whnf) (by exact rfl))) (by decide) ?_
      refine ao_cons (acts_of rfl (does_assign (v := .bool false) (by exact rfl))) (by decide) ?_
      refine ao_nil_d (by kernel_rfl) ?_
      refine hK22 _ ?_
      refine aw_ret ?_
      obtain rfl := Option.some.inj h
      exact ret_ok1 (by conv => lhs; whnf) (by conv => lhs; whnf) (by exact rfl) (.inr rfl) rfl
theorem sh22 : ∀ (m : Nat) (cs : List PV), Shape Try.prog m 22 cs → ∃ a : List UInt8, cs = [.sl 1 (List.map enc5 a)] ∧ ((List.length a) ≤ maxLen) := fun m cs h => shape_bytes h Try.underlying22 Try.underlying5 (by kernel_rfl)
theorem sh9 : ∀ (m : Nat) (cs : List PV), Shape Try.prog m 9 cs → ∃ a : ByteArray, cs = [.str a] ∧ ((ByteArray.size a) ≤ maxLen) := fun m cs h => shape_str h Try.underlying9
def gleaninglaw1_IntsBack_k1 (a0 : Int) (a1 : ByteArray) (a2 : List UInt8) (a3 : Int) (x16 : List UInt8) (x18 : List UInt8) : Option Bool :=
  gd ((List.length x16) * 1 ≤ 140737488355328 ∧ (List.length x16) ≤ 140737488355328) (gd ((List.length (x16 ++ a2)) * 1 ≤ 140737488355328 ∧ (List.length (x16 ++ a2)) ≤ 140737488355328) (Option.bind (ints_Get (x16 ++ a2)) (fun (x29 : Int × Int × Bool) => gd ((List.length x18) * 1 ≤ 140737488355328 ∧ (List.length x18) ≤ 140737488355328) (gd ((List.length (x18 ++ a2)) * 1 ≤ 140737488355328 ∧ (List.length (x18 ++ a2)) ≤ 140737488355328) (Option.bind (ints_GetText (x18 ++ a2)) (fun (x33 : ByteArray × Int × Bool) => gd (¬ (List.length x16 : Int) = 0) (gd (0 ≤ (Int.tmod a3 (List.length x16 : Int))) (gd ((Int.tmod a3 (List.length x16 : Int)) ≤ (List.length x16 : Int)) (Option.bind (ints_Get (List.take (Int.toNat (Int.tmod a3 (List.length x16 : Int))) x16)) (fun (x38 : Int × Int × Bool) => gd (¬ (List.length x18 : Int) = 0) (gd (0 ≤ (Int.tmod a3 (List.length x18 : Int))) (gd ((Int.tmod a3 (List.length x18 : Int)) ≤ (List.length x18 : Int)) (Option.bind (ints_GetText (List.take (Int.toNat (Int.tmod a3 (List.length x18 : Int))) x18)) (fun (x43 : ByteArray × Int × Bool) => if x29.2.2 = true then (if x33.2.2 = true then (if (!x38.2.2) = true then (if (!x43.2.2) = true then (if (x29.1 == a0) = true then (if (x29.2.1 == (List.length x16 : Int)) = true then (if (ByteArray.toList x33.1 == ByteArray.toList a1) = true then (if (x33.2.1 == (List.length x18 : Int)) = true then (some (decide ((List.length x16 : Int) ≤ 10))) else (some false)) else (some false)) else (some false)) else (some false)) else (some false)) else (some false)) else (some false)) else (some false)))))))))))))))
def gleaninglaw1_IntsBack_k0 (a0 : Int) (a1 : ByteArray) (a2 : List UInt8) (a3 : Int) : Option Bool :=
  Option.bind (ints_Put [] a0) (fun (x16 : List UInt8) => Option.bind (ints_Text [] a1) (fun (x18 : List UInt8) => Option.bind (if ((List.length x16 : Int) == 0) = true then (some (Sum.inr false)) else (if ((List.length x18 : Int) == 0) = true then (some (Sum.inr false)) else (some (Sum.inl ())))) (Sum.elim (fun (s : Unit) => gleaninglaw1_IntsBack_k1 a0 a1 a2 a3 x16 x18) some)))
def gleaninglaw1_IntsBack (a0 : Int) (a1 : ByteArray) (a2 : List UInt8) (a3 : Int) : Option Bool :=
  Option.bind (gleaninglaw1_alive) (fun (x3 : Bool) => Option.bind (if (!x3) = true then (some (Sum.inr x3)) else (if (decide ((300 : Int) < (ByteArray.size a1 : Int))) = true then (some (Sum.inr x3)) else (if (decide ((100 : Int) < (List.length a2 : Int))) = true then (some (Sum.inr x3)) else (if (decide (a3 < 0)) = true then (some (Sum.inr x3)) else (some (Sum.inl ())))))) (Sum.elim (fun (s : Unit) => gleaninglaw1_IntsBack_k0 a0 a1 a2 a3) some))
set_option maxRecDepth 100000 in
set_option maxHeartbeats 8000000 in
/-- gleaning/gleaninglaw1.IntsBack -/
theorem gleaninglaw1_IntsBack_ok (a0 : Int) (a1 : ByteArray) (a2 : List UInt8) (a3 : Int) {r : Bool} (h : gleaninglaw1_IntsBack a0 a1 a2 a3 = some r) : Ok Try.prog 14 [.int .u64 a0, .str a1, .sl 1 (List.map enc5 a2), .int .i64 a3] [] [] (.bool r) [] [] := by
  unfold gleaninglaw1_IntsBack at h
  refine ok_of_code Try.func14 rfl (by show (4 : Nat) ≤ _; decide) (Nat.le_refl _) fun X => ?_
  refine aw_seq_k (fun K1 hK1 => ?_)
  refine aw_reg ?_
  refine ao_cons (acts_of rfl (does_assign (v := .bool false) (by exact rfl))) (by decide) ?_
  refine ao_nil_n ?_
  refine hK1 _ ?_
  refine aw_seq_k (fun K2 hK2 => ?_)
  refine aw_reg ?_
  obtain ⟨x3, hx3, h⟩ := bnd_some h
  refine ao_cons (acts_of rfl (do_call0 24 false (gleaninglaw1_alive_ok hx3) rfl ent26 rfl rfl)) (by decide) ?_
  refine ao_cons (acts_of rfl (does_assign (v := .bool x3) (by exact rfl))) (by decide) ?_
  refine ao_nil_n ?_
  refine hK2 _ ?_
  obtain ⟨q4, h, hk5⟩ := bnd_some h
  refine aw_cut (fun s => gleaninglaw1_IntsBack_k0 a0 a1 a2 a3 = some r ∧ s = lit [(0, .int .u64 a0), (1, .str a1), (2, .sl 1 (List.map enc5 a2)), (3, .int .i64 a3)] [] [] X) ?_ ?_
  · skip
    refine aw_seq_k (fun K6 hK6 => ?_)
    refine aw_reg ?_
    refine ao_cons (acts_of rfl (does_move (v := .bool x3) (by exact rfl))) (by decide) ?_
    refine ao_cons (acts_of rfl (does_un (v := .bool (!x3)) (by conv => lhs; whnf) rfl)) (by decide) ?_
    refine ao_cons (acts_of rfl (does_move (v := .bool (!x3)) (by exact rfl))) (by decide) ?_
    refine ao_bool (c := (!x3)) 27 rfl (fun c7 => ?_) (fun c7 => ?_)
    · have h := ifT c7 h
      refine ao_cons (acts_skip rfl) (by decide) ?_
      refine ao_cons (acts_skip rfl) (by decide) ?_
      refine ao_cons (acts_skip rfl) (by decide) ?_
      refine ao_cons (acts_of rfl (does_pick (v := .bool true) (by conv => lhs; whnf) (by exact rfl))) (by decide) ?_
      refine ao_cons (acts_of rfl (does_move (v := .bool true) (by exact rfl))) (by decide) ?_
      refine ao_cons (acts_skip rfl) (by decide) ?_
      refine ao_cons (acts_skip rfl) (by decide) ?_
      refine ao_cons (acts_skip rfl) (by decide) ?_
      refine ao_cons (acts_of rfl (does_pick (v := .bool true) (by conv => lhs; whnf) (by exact rfl))) (by decide) ?_
      refine ao_cons (acts_of rfl (does_move (v := .bool true) (by exact rfl))) (by decide) ?_
      refine ao_cons (acts_skip rfl) (by decide) ?_
      refine ao_cons (acts_skip rfl) (by decide) ?_
      refine ao_cons (acts_of rfl (does_pick (v := .bool true) (by conv => lhs; whnf) (by exact rfl))) (by decide) ?_
      refine ao_nil_n ?_
      refine hK6 _ ?_
      refine aw_cond_t (by decide) rfl ?_
      refine aw_seq_k (fun K8 hK8 => ?_)
      refine aw_reg ?_
      refine ao_cons (acts_of rfl (does_move (v := .bool x3) (by exact rfl))) (by decide) ?_
      refine ao_cons (acts_of rfl (does_assign (v := .bool x3) (by exact rfl))) (by decide) ?_
      refine ao_nil_n ?_
      refine hK8 _ ?_
      refine aw_ret ?_
      have h := leafR h hk5
      obtain rfl := Option.some.inj h
      exact ret_ok1 (by conv => lhs; whnf) (by conv => lhs; whnf) (by exact rfl) (.inr rfl) rfl
    · have h := ifF c7 h
      refine ao_cons (acts_of rfl (does_move (v := .str a1) (by exact rfl))) (by decide) ?_
      refine ao_cons (acts_of rfl (does_len_str (by conv => lhs; whnf) ty9)) (by decide) ?_
      refine ao_cons (acts_of rfl (does_bin (v := .bool (decide ((300 : Int) < (ByteArray.size a1 : Int)))) (by conv => lhs; whnf) (by conv => lhs; whnf) rfl)) (by decide) ?_
      refine ao_cons (acts_of rfl (does_pick (v := .bool (decide ((300 : Int) < (ByteArray.size a1 : Int)))) (by conv => lhs; whnf) (by exact rfl))) (by decide) ?_
      refine ao_cons (acts_of rfl (does_move (v := .bool (decide ((300 : Int) < (ByteArray.size a1 : Int)))) (by exact rfl))) (by decide) ?_
      refine ao_bool (c := (decide ((300 : Int) < (ByteArray.size a1 : Int)))) 32 rfl (fun c9 => ?_) (fun c9 => ?_)
      · have h := ifT c9 h
        refine ao_cons (acts_skip rfl) (by decide) ?_
        refine ao_cons (acts_skip rfl) (by decide) ?_
        refine ao_cons (acts_skip rfl) (by decide) ?_
        refine ao_cons (acts_of rfl (does_pick (v := .bool true) (by conv => lhs; whnf) (by exact rfl))) (by decide) ?_
        refine ao_cons (acts_of rfl (does_move (v := .bool true) (by exact rfl))) (by decide) ?_
        refine ao_cons (acts_skip rfl) (by decide) ?_
        refine ao_cons (acts_skip rfl) (by decide) ?_
        refine ao_cons (acts_of rfl (does_pick (v := .bool true) (by conv => lhs; whnf) (by exact rfl))) (by decide) ?_
        refine ao_nil_n ?_
        refine hK6 _ ?_
        refine aw_cond_t (by decide) rfl ?_
        refine aw_seq_k (fun K10 hK10 => ?_)
        refine aw_reg ?_
        refine ao_cons (acts_of rfl (does_move (v := .bool x3) (by exact rfl))) (by decide) ?_
        refine ao_cons (acts_of rfl (does_assign (v := .bool x3) (by exact rfl))) (by decide) ?_
        refine ao_nil_n ?_
        refine hK10 _ ?_
        refine aw_ret ?_
        have h := leafR h hk5
        obtain rfl := Option.some.inj h
        exact ret_ok1 (by conv => lhs; whnf) (by conv => lhs; whnf) (by exact rfl) (.inr rfl) rfl
      · have h := ifF c9 h
        refine ao_cons (acts_of rfl (does_move (v := .sl 1 (List.map enc5 a2)) (by exact rfl))) (by decide) ?_
        refine ao_cons (acts_of rfl ((does_len_sl (by conv => lhs; whnf) ty22).castp (v' := .int .i64 (List.length a2 : Int)) (by exact len_map _))) (by decide) ?_
        refine ao_cons (acts_of rfl (does_bin (v := .bool (decide ((100 : Int) < (List.length a2 : Int)))) (by conv => lhs; whnf) (by conv => lhs; whnf) rfl)) (by decide) ?_
        refine ao_cons (acts_of rfl (does_pick (v := .bool (decide ((100 : Int) < (List.length a2 : Int)))) (by conv => lhs; whnf) (by exact rfl))) (by decide) ?_
        refine ao_cons (acts_of rfl (does_move (v := .bool (decide ((100 : Int) < (List.length a2 : Int)))) (by exact rfl))) (by decide) ?_
        refine ao_bool (c := (decide ((100 : Int) < (List.length a2 : Int)))) 37 rfl (fun c11 => ?_) (fun c11 => ?_)
        · have h := ifT c11 h
          refine ao_cons (acts_skip rfl) (by decide) ?_
          refine ao_cons (acts_skip rfl) (by decide) ?_
          refine ao_cons (acts_of rfl (does_pick (v := .bool true) (by conv => lhs; whnf) (by exact rfl))) (by decide) ?_
          refine ao_nil_n ?_
          refine hK6 _ ?_
          refine aw_cond_t (by decide) rfl ?_
          refine aw_seq_k (fun K12 hK12 => ?_)
          refine aw_reg ?_
          refine ao_cons (acts_of rfl (does_move (v := .bool x3) (by exact rfl))) (by decide) ?_
          refine ao_cons (acts_of rfl (does_assign (v := .bool x3) (by exact rfl))) (by decide) ?_
          refine ao_nil_n ?_
          refine hK12 _ ?_
          refine aw_ret ?_
          have h := leafR h hk5
          obtain rfl := Option.some.inj h
          exact ret_ok1 (by conv => lhs; whnf) (by conv => lhs; whnf) (by exact rfl) (.inr rfl) rfl
        · have h := ifF c11 h
          refine ao_cons (acts_of rfl (does_move (v := .int .i64 a3) (by exact rfl))) (by decide) ?_
          refine ao_cons (acts_of rfl (does_bin (v := .bool (decide (a3 < 0))) (by conv => lhs; whnf) (by conv => lhs; whnf) rfl)) (by decide) ?_
          refine ao_cons (acts_of rfl (does_pick (v := .bool (decide (a3 < 0))) (by conv => lhs; whnf) (by exact rfl))) (by decide) ?_
          refine ao_nil_n ?_
          refine hK6 _ ?_
          refine aw_bool (b := (decide (a3 < 0))) 40 rfl (fun c13 => ?_) (fun c13 => ?_)
          · have h := ifT c13 h
            refine aw_cond_t (by decide) rfl ?_
            refine aw_seq_k (fun K14 hK14 => ?_)
            refine aw_reg ?_
            refine ao_cons (acts_of rfl (does_move (v := .bool x3) (by exact rfl))) (by decide) ?_
            refine ao_cons (acts_of rfl (does_assign (v := .bool x3) (by exact rfl))) (by decide) ?_
            refine ao_nil_n ?_
            refine hK14 _ ?_
            refine aw_ret ?_
            have h := leafR h hk5
            obtain rfl := Option.some.inj h
            exact ret_ok1 (by conv => lhs; whnf) (by conv => lhs; whnf) (by exact rfl) (.inr rfl) rfl
          · have h := ifF c13 h
            refine aw_cond_f (by decide) rfl ?_
            refine aw_skip ?_
            have h := leafL h hk5
            exact ⟨_, reb_lit [(0, .int .u64 a0), (1, .str a1), (2, .sl 1 (List.map enc5 a2)), (3, .int .i64 a3)] [] [] [] (envOk_cons (by conv => lhs; whnf) (by exact rfl) (envOk_cons (by conv => lhs; whnf) (by exact rfl) (envOk_cons (by conv => lhs; whnf) (by exact rfl) (envOk_cons (by conv => lhs; whnf) (by exact rfl) envOk_nil)))) objOk_nil (nodup_b rfl) (nodup_b rfl) rfl rfl, h, rfl⟩
  · rintro s ⟨h, rfl⟩
    unfold gleaninglaw1_IntsBack_k0 at h
    refine aw_seq_k (fun K15 hK15 => ?_)
    refine aw_reg ?_
    refine ao_cons (acts_of rfl (does_move (v := .int .u64 a0) (by exact rfl))) (by decide) ?_
    obtain ⟨x16, hx16, h⟩ := bnd_some h
    refine ao_cons (acts_of rfl (do_call0 43 false ((ints_Put_ok [] a0 hx16).weak (args' := [.nil, _]) ⟨le_nil _, le_refl _, trivial⟩) rfl ent27 rfl rfl)) (by decide) ?_
    refine ao_cons (acts_of rfl (does_assign (v := .own 43 0) (by exact rfl))) (by decide) ?_
    refine ao_nil_n ?_
    refine hK15 _ ?_
    refine aw_seq_k (fun K17 hK17 => ?_)
    refine aw_reg ?_
    refine ao_cons (acts_of rfl (does_move (v := .str a1) (by exact rfl))) (by decide) ?_
    obtain ⟨x18, hx18, h⟩ := bnd_some h
    refine ao_cons (acts_of rfl (do_call0 45 false ((ints_Text_ok [] a1 hx18).weak (args' := [.nil, _]) ⟨le_nil _, le_refl _, trivial⟩) rfl ent40 rfl rfl)) (by decide) ?_
    refine ao_cons (acts_of rfl (does_assign (v := .own 45 0) (by exact rfl))) (by decide) ?_
    refine ao_nil_n ?_
    refine hK17 _ ?_
    obtain ⟨q19, h, hk20⟩ := bnd_some h
    refine aw_cut (fun s => gleaninglaw1_IntsBack_k1 a0 a1 a2 a3 x16 x18 = some r ∧ s = lit [(0, .int .u64 a0), (1, .str a1), (2, .sl 1 (List.map enc5 a2)), (3, .int .i64 a3), (10, .own 43 0), (11, .own 45 0)] [((43, 0), .arr 5 1 false (List.map enc5 x16)), ((45, 0), .arr 5 1 false (List.map enc5 x18))] [(43, 1), (45, 1)] X) ?_ ?_
    · skip
      refine aw_seq_k (fun K21 hK21 => ?_)
      refine aw_reg ?_
      refine ao_cons (acts_of rfl (does_move (v := .own 43 0) (by exact rfl))) (by decide) ?_
      refine ao_cons (acts_of rfl ((does_len_own (by conv => lhs; whnf) (by conv => lhs; whnf) ty22).cast (v' := .int .i64 (List.length x16 : Int)) (by exact len_map _))) (by decide) ?_
      refine ao_cons (acts_of rfl (does_bin (v := .bool ((List.length x16 : Int) == 0)) (by conv => lhs; whnf) (by conv => lhs; whnf) rfl)) (by decide) ?_
      refine ao_cons (acts_of rfl (does_move (v := .bool ((List.length x16 : Int) == 0)) (by exact rfl))) (by decide) ?_
      refine ao_bool (c := ((List.length x16 : Int) == 0)) 49 rfl (fun c22 => ?_) (fun c22 => ?_)
      · have h := ifT c22 h
        refine ao_cons (acts_skip rfl) (by decide) ?_
        refine ao_cons (acts_skip rfl) (by decide) ?_
        refine ao_cons (acts_skip rfl) (by decide) ?_
        refine ao_cons (acts_of rfl (does_pick (v := .bool true) (by conv => lhs; whnf) (by exact rfl))) (by decide) ?_
        refine ao_nil_n ?_
        refine hK21 _ ?_
        refine aw_cond_t (by decide) rfl ?_
        refine aw_seq_k (fun K23 hK23 => ?_)
        refine aw_reg ?_
        refine ao_cons (acts_of rfl (does_assign (v := .bool false) (by exact rfl))) (by decide) ?_
        refine ao_nil_n ?_
        refine hK23 _ ?_
        refine aw_ret ?_
        have h := leafR h hk20
        obtain rfl := Option.some.inj h
        exact ret_ok1 (by conv => lhs; whnf) (by conv => lhs; whnf) (by exact rfl) (.inr rfl) rfl
      · have h := ifF c22 h
        refine ao_cons (acts_of rfl (does_move (v := .own 45 0) (by exact rfl))) (by decide) ?_
        refine ao_cons (acts_of rfl ((does_len_own (by conv => lhs; whnf) (by conv => lhs; whnf) ty22).cast (v' := .int .i64 (List.length x18 : Int)) (by exact len_map _))) (by decide) ?_
        refine ao_cons (acts_of rfl (does_bin (v := .bool ((List.length x18 : Int) == 0)) (by conv => lhs; whnf) (by conv => lhs; whnf) rfl)) (by decide) ?_
        refine ao_cons (acts_of rfl (does_pick (v := .bool ((List.length x18 : Int) == 0)) (by conv => lhs; whnf) (by exact rfl))) (by decide) ?_
        refine ao_nil_n ?_
        refine hK21 _ ?_
        refine aw_bool (b := ((List.length x18 : Int) == 0)) 53 rfl (fun c24 => ?_) (fun c24 => ?_)
        · have h := ifT c24 h
          refine aw_cond_t (by decide) rfl ?_
          refine aw_seq_k (fun K25 hK25 => ?_)
          refine aw_reg ?_
          refine ao_cons (acts_of rfl (does_assign (v := .bool false) (by exact rfl))) (by decide) ?_
          refine ao_nil_n ?_
          refine hK25 _ ?_
          refine aw_ret ?_
          have h := leafR h hk20
          obtain rfl := Option.some.inj h
          exact ret_ok1 (by conv => lhs; whnf) (by conv => lhs; whnf) (by exact rfl) (.inr rfl) rfl
        · have h := ifF c24 h
          refine aw_cond_f (by decide) rfl ?_
          refine aw_skip ?_
          have h := leafL h hk20
          exact ⟨_, reb_lit [(0, .int .u64 a0), (1, .str a1), (2, .sl 1 (List.map enc5 a2)), (3, .int .i64 a3), (10, .own 43 0), (11, .own 45 0)] [(43, 0), (45, 0)] [((43, 0), .arr 5 1 false (List.map enc5 x16)), ((45, 0), .arr 5 1 false (List.map enc5 x18))] [(43, 1), (45, 1)] (envOk_cons (by conv => lhs; whnf) (by exact rfl) (envOk_cons (by conv => lhs; whnf) (by exact rfl) (envOk_cons (by conv => lhs; whnf) (by exact rfl) (envOk_cons (by conv => lhs; whnf) (by exact rfl) (envOk_cons (by conv => lhs; whnf) (by exact rfl) (envOk_cons (by conv => lhs; whnf) (by exact rfl) envOk_nil)))))) (objOk_cons (by conv => lhs; whnf) (by conv => lhs; whnf) (by exact rfl) (by simp) (objOk_cons (by conv => lhs; whnf) (by conv => lhs; whnf) (by exact rfl) (by simp) objOk_nil)) (nodup_b rfl) (nodup_b rfl) rfl rfl, h, rfl⟩
    · rintro s ⟨h, rfl⟩
      unfold gleaninglaw1_IntsBack_k1 at h
      refine aw_seq_k (fun K26 hK26 => ?_)
      refine aw_reg ?_
      refine ao_cons (acts_of rfl (does_move (v := .own 43 0) (by exact rfl))) (by decide) ?_
      obtain ⟨g27, h⟩ := gd_some h
      refine ao_cons (acts_of rfl (do_append (v := List.map enc5 x16) (by conv => lhs; whnf) (by conv => lhs; whnf) ty22 ty5 rfl rfl (by conv => lhs; whnf) (by first | exact .inl rfl | exact .inr ⟨rfl, rfl⟩) (by conv => lhs; whnf) (by first | exact .inr rfl | exact .inl rfl) (List.nil_append _) (fit_map g27))) (by decide) ?_
      refine ao_cons (acts_of rfl (does_move (v := .sl 1 (List.map enc5 a2)) (by exact rfl))) (by decide) ?_
      obtain ⟨g28, h⟩ := gd_some h
      refine ao_cons (acts_of rfl (do_append (v := List.map enc5 (x16 ++ a2)) (by conv => lhs; whnf) (by conv => lhs; whnf) ty22 ty5 rfl rfl (by conv => lhs; whnf) (by first | exact .inl rfl | exact .inr ⟨rfl, rfl⟩) (by conv => lhs; whnf) (by first | exact .inr rfl | exact .inl rfl) (map_app _ _) (fit_map g28))) (by decide) ?_
      obtain ⟨x29, hx29, h⟩ := bnd_some h
      refine ao_cons (acts_of rfl (do_callG (bcs := []) [] [] [(58, 0)] 59 false (ints_Get_ok (x16 ++ a2) hx29) rfl ent28 trivial trivial rfl rfl rfl rfl rfl rfl rfl rfl (.inr ⟨rfl, rfl, trivial⟩))) (by decide) ?_
      refine ao_cons (acts_of rfl (does_move (v := .tup [.int .u64 x29.1, .int .i64 x29.2.1, .bool x29.2.2]) (by exact rfl))) (by decide) ?_
      refine ao_cons (acts_of rfl (does_extract (v := .int .u64 x29.1) (by conv => lhs; whnf) (by exact rfl))) (by decide) ?_
      refine ao_cons (acts_of rfl (does_extract (v := .int .i64 x29.2.1) (by conv => lhs; whnf) (by exact rfl))) (by decide) ?_
      refine ao_cons (acts_of rfl (does_extract (v := .bool x29.2.2) (by conv => lhs; whnf) (by exact rfl))) (by decide) ?_
      refine ao_cons (acts_of rfl (does_assign (v := .int .u64 x29.1) (by exact rfl))) (by decide) ?_
      refine ao_cons (acts_of rfl (does_assign (v := .int .i64 x29.2.1) (by exact rfl))) (by decide) ?_
      refine ao_cons (acts_of rfl (does_assign (v := .bool x29.2.2) (by exact rfl))) (by decide) ?_
      refine ao_nil_n ?_
      refine hK26 _ ?_
      refine aw_seq_k (fun K30 hK30 => ?_)
      refine aw_reg ?_
      refine ao_cons (acts_of rfl (does_move (v := .own 45 0) (by exact rfl))) (by decide) ?_
      obtain ⟨g31, h⟩ := gd_some h
      refine ao_cons (acts_of rfl (do_append (v := List.map enc5 x18) (by conv => lhs; whnf) (by conv => lhs; whnf) ty22 ty5 rfl rfl (by conv => lhs; whnf) (by first | exact .inl rfl | exact .inr ⟨rfl, rfl⟩) (by conv => lhs; whnf) (by first | exact .inr rfl | exact .inl rfl) (List.nil_append _) (fit_map g31))) (by decide) ?_
      refine ao_cons (acts_of rfl (does_move (v := .sl 1 (List.map enc5 a2)) (by exact rfl))) (by decide) ?_
      obtain ⟨g32, h⟩ := gd_some h
      refine ao_cons (acts_of rfl (do_append (v := List.map enc5 (x18 ++ a2)) (by conv => lhs; whnf) (by conv => lhs; whnf) ty22 ty5 rfl rfl (by conv => lhs; whnf) (by first | exact .inl rfl | exact .inr ⟨rfl, rfl⟩) (by conv => lhs; whnf) (by first | exact .inr rfl | exact .inl rfl) (map_app _ _) (fit_map g32))) (by decide) ?_
      obtain ⟨x33, hx33, h⟩ := bnd_some h
      refine ao_cons (acts_of rfl (do_callG (bcs := []) [] [] [(67, 0)] 68 false (ints_GetText_ok (x18 ++ a2) hx33) rfl ent37 trivial trivial rfl rfl rfl rfl rfl rfl rfl rfl (.inr ⟨rfl, rfl, trivial⟩))) (by decide) ?_
      refine ao_cons (acts_of rfl (does_move (v := .tup [.str x33.1, .int .i64 x33.2.1, .bool x33.2.2]) (by exact rfl))) (by decide) ?_
      refine ao_cons (acts_of rfl (does_extract (v := .str x33.1) (by conv => lhs; whnf) (by exact rfl))) (by decide) ?_
      refine ao_cons (acts_of rfl (does_extract (v := .int .i64 x33.2.1) (by conv => lhs; whnf) (by exact rfl))) (by decide) ?_
      refine ao_cons (acts_of rfl (does_extract (v := .bool x33.2.2) (by conv => lhs; whnf) (by exact rfl))) (by decide) ?_
      refine ao_cons (acts_of rfl (does_assign (v := .str x33.1) (by exact rfl))) (by decide) ?_
      refine ao_cons (acts_of rfl (does_assign (v := .int .i64 x33.2.1) (by exact rfl))) (by decide) ?_
      refine ao_cons (acts_of rfl (does_assign (v := .bool x33.2.2) (by exact rfl))) (by decide) ?_
      refine ao_nil_n ?_
      refine hK30 _ ?_
      refine aw_seq_k (fun K34 hK34 => ?_)
      refine aw_reg ?_
      refine ao_cons (acts_of rfl (does_move (v := .own 43 0) (by exact rfl))) (by decide) ?_
      refine ao_cons (acts_of rfl (does_move (v := .int .i64 a3) (by exact rfl))) (by decide) ?_
      refine ao_cons (acts_of rfl (does_move (v := .own 43 0) (by exact rfl))) (by decide) ?_
      refine ao_cons (acts_of rfl ((does_len_own (by conv => lhs; whnf) (by conv => lhs; whnf) ty22).cast (v' := .int .i64 (List.length x16 : Int)) (by exact len_map _))) (by decide) ?_
      obtain ⟨g35, h⟩ := gd_some h
      refine ao_cons (acts_of rfl (does_bin (v := .int .i64 (Int.tmod a3 (List.length x16 : Int))) (by conv => lhs; whnf) (by conv => lhs; whnf) (rem_hv g35))) (by decide) ?_
      obtain ⟨g36, h⟩ := gd_some h
      obtain ⟨g37, h⟩ := gd_some h
      refine ao_cons (acts_of rfl (does_frz (d := 43) (n := 0) (by conv => lhs; whnf) (does_slice_own (l := 0) (k := (Int.toNat (Int.tmod a3 (List.length x16 : Int)))) (by conv => lhs; whnf) (by conv => lhs; whnf) ty22 ty5 bd_none (bd_some (by conv => lhs; whnf) (by exact (nat_of (by omega)))) (by (try simp only [List.length_map]); omega) (by (try simp only [List.length_map]); omega) (by exact part_h _ _)))) (by decide) ?_
      obtain ⟨x38, hx38, h⟩ := bnd_some h
      refine ao_cons (acts_of rfl (do_call0 79 false (ints_Get_ok (List.take (Int.toNat (Int.tmod a3 (List.length x16 : Int))) x16) hx38) rfl ent28 rfl rfl)) (by decide) ?_
      refine ao_cons (acts_of rfl (does_move (v := .tup [.int .u64 x38.1, .int .i64 x38.2.1, .bool x38.2.2]) (by exact rfl))) (by decide) ?_
      refine ao_cons (acts_of rfl (does_extract (v := .int .u64 x38.1) (by conv => lhs; whnf) (by exact rfl))) (by decide) ?_
      refine ao_cons (acts_of rfl (does_extract (v := .int .i64 x38.2.1) (by conv => lhs; whnf) (by exact rfl))) (by decide) ?_
      refine ao_cons (acts_of rfl (does_extract (v := .bool x38.2.2) (by conv => lhs; whnf) (by exact rfl))) (by decide) ?_
      refine ao_cons (acts_of rfl (does_assign (v := .int .u64 x38.1) (by exact rfl))) (by decide) ?_
      refine ao_cons (acts_of rfl (does_assign (v := .int .i64 x38.2.1) (by exact rfl))) (by decide) ?_
      refine ao_cons (acts_of rfl (does_assign (v := .bool x38.2.2) (by exact rfl))) (by decide) ?_
      refine ao_nil_n ?_
      refine hK34 _ ?_
      refine aw_seq_k (fun K39 hK39 => ?_)
      refine aw_reg ?_
      refine ao_cons (acts_of rfl (does_move (v := .own 45 0) (by exact rfl))) (by decide) ?_
      refine ao_cons (acts_of rfl (does_move (v := .int .i64 a3) (by exact rfl))) (by decide) ?_
      refine ao_cons (acts_of rfl (does_move (v := .own 45 0) (by exact rfl))) (by decide) ?_
      refine ao_cons (acts_of rfl ((does_len_own (by conv => lhs; whnf) (by conv => lhs; whnf) ty22).cast (v' := .int .i64 (List.length x18 : Int)) (by exact len_map _))) (by decide) ?_
      obtain ⟨g40, h⟩ := gd_some h
      refine ao_cons (acts_of rfl (does_bin (v := .int .i64 (Int.tmod a3 (List.length x18 : Int))) (by conv => lhs; whnf) (by conv => lhs; whnf) (rem_hv g40))) (by decide) ?_
      obtain ⟨g41, h⟩ := gd_some h
      obtain ⟨g42, h⟩ := gd_some h
      refine ao_cons (acts_of rfl (does_frz (d := 45) (n := 0) (by conv => lhs; whnf) (does_slice_own (l := 0) (k := (Int.toNat (Int.tmod a3 (List.length x18 : Int)))) (by conv => lhs; whnf) (by conv => lhs; whnf) ty22 ty5 bd_none (bd_some (by conv => lhs; whnf) (by exact (nat_of (by omega)))) (by (try simp only [List.length_map]); omega) (by (try simp only [List.length_map]); omega) (by exact part_h _ _)))) (by decide) ?_
      obtain ⟨x43, hx43, h⟩ := bnd_some h
      refine ao_cons (acts_of rfl (do_call0 90 false (ints_GetText_ok (List.take (Int.toNat (Int.tmod a3 (List.length x18 : Int))) x18) hx43) rfl ent37 rfl rfl)) (by decide) ?_
      refine ao_cons (acts_of rfl (does_move (v := .tup [.str x43.1, .int .i64 x43.2.1, .bool x43.2.2]) (by exact rfl))) (by decide) ?_
      refine ao_cons (acts_of rfl (does_extract (v := .str x43.1) (by conv => lhs; whnf) (by exact rfl))) (by decide) ?_
      refine ao_cons (acts_of rfl (does_extract (v := .int .i64 x43.2.1) (by conv => lhs; whnf) (by exact rfl))) (by decide) ?_
      refine ao_cons (acts_of rfl (does_extract (v := .bool x43.2.2) (by conv => lhs; whnf) (by exact rfl))) (by decide) ?_
      refine ao_cons (acts_of rfl (does_assign (v := .str x43.1) (by exact rfl))) (by decide) ?_
      refine ao_cons (acts_of rfl (does_assign (v := .int .i64 x43.2.1) (by exact rfl))) (by decide) ?_
      refine ao_cons (acts_of rfl (does_assign (v := .bool x43.2.2) (by exact rfl))) (by decide) ?_
      refine ao_nil_n ?_
      refine hK39 _ ?_
      refine aw_seq_k (fun K44 hK44 => ?_)
      refine aw_reg ?_
      refine ao_cons (acts_of rfl (does_move (v := .bool x29.2.2) (by exact rfl))) (by decide) ?_
      refine ao_cons (acts_of rfl (does_move (v := .bool x29.2.2) (by exact rfl))) (by decide) ?_
      refine ao_bool (c := x29.2.2) 95 rfl (fun c45 => ?_) (fun c45 => ?_)
      · have h := ifT c45 h
        refine ao_cons (acts_of rfl (does_move (v := .bool x33.2.2) (by exact rfl))) (by decide) ?_
        refine ao_cons (acts_of rfl (does_pick (v := .bool x33.2.2) (by conv => lhs; whnf) (by exact rfl))) (by decide) ?_
        refine ao_cons (acts_of rfl (does_move (v := .bool x33.2.2) (by exact rfl))) (by decide) ?_
        refine ao_bool (c := x33.2.2) 98 rfl (fun c46 => ?_) (fun c46 => ?_)
        · have h := ifT c46 h
          refine ao_cons (acts_of rfl (does_move (v := .bool x38.2.2) (by exact rfl))) (by decide) ?_
          refine ao_cons (acts_of rfl (does_un (v := .bool (!x38.2.2)) (by conv => lhs; whnf) rfl)) (by decide) ?_
          refine ao_cons (acts_of rfl (does_pick (v := .bool (!x38.2.2)) (by conv => lhs; whnf) (by exact rfl))) (by decide) ?_
          refine ao_cons (acts_of rfl (does_move (v := .bool (!x38.2.2)) (by exact rfl))) (by decide) ?_
          refine ao_bool (c := (!x38.2.2)) 102 rfl (fun c47 => ?_) (fun c47 => ?_)
          · have h := ifT c47 h
            refine ao_cons (acts_of rfl (does_move (v := .bool x43.2.2) (by exact rfl))) (by decide) ?_
            refine ao_cons (acts_of rfl (does_un (v := .bool (!x43.2.2)) (by conv => lhs; whnf) rfl)) (by decide) ?_
            refine ao_cons (acts_of rfl (does_pick (v := .bool (!x43.2.2)) (by conv => lhs; whnf) (by exact rfl))) (by decide) ?_
            refine ao_cons (acts_of rfl (does_move (v := .bool (!x43.2.2)) (by exact rfl))) (by decide) ?_
            refine ao_bool (c := (!x43.2.2)) 106 rfl (fun c48 => ?_) (fun c48 => ?_)
            · have h := ifT c48 h
              refine ao_cons (acts_of rfl (does_move (v := .int .u64 x29.1) (by exact rfl))) (by decide) ?_
              refine ao_cons (acts_of rfl (does_move (v := .int .u64 a0) (by exact rfl))) (by decide) ?_
              refine ao_cons (acts_of rfl (does_bin (v := .bool (x29.1 == a0)) (by conv => lhs; whnf) (by conv => lhs; whnf) rfl)) (by decide) ?_
              refine ao_cons (acts_of rfl (does_pick (v := .bool (x29.1 == a0)) (by conv => lhs; whnf) (by exact rfl))) (by decide) ?_
              refine ao_cons (acts_of rfl (does_move (v := .bool (x29.1 == a0)) (by exact rfl))) (by decide) ?_
              refine ao_bool (c := (x29.1 == a0)) 111 rfl (fun c49 => ?_) (fun c49 => ?_)
              · have h := ifT c49 h
                refine ao_cons (acts_of rfl (does_move (v := .int .i64 x29.2.1) (by exact rfl))) (by decide) ?_
                refine ao_cons (acts_of rfl (does_move (v := .own 43 0) (by exact rfl))) (by decide) ?_
                refine ao_cons (acts_of rfl ((does_len_own (by conv => lhs; whnf) (by conv => lhs; whnf) ty22).cast (v' := .int .i64 (List.length x16 : Int)) (by exact len_map _))) (by decide) ?_
                refine ao_cons (acts_of rfl (does_bin (v := .bool (x29.2.1 == (List.length x16 : Int))) (by conv => lhs; whnf) (by conv => lhs; whnf) rfl)) (by decide) ?_
                refine ao_cons (acts_of rfl (does_pick (v := .bool (x29.2.1 == (List.length x16 : Int))) (by conv => lhs; whnf) (by exact rfl))) (by decide) ?_
                refine ao_cons (acts_of rfl (does_move (v := .bool (x29.2.1 == (List.length x16 : Int))) (by exact rfl))) (by decide) ?_
                refine ao_bool (c := (x29.2.1 == (List.length x16 : Int))) 117 rfl (fun c50 => ?_) (fun c50 => ?_)
                · have h := ifT c50 h
                  refine ao_cons (acts_of rfl (does_move (v := .str x33.1) (by exact rfl))) (by decide) ?_
                  refine ao_cons (acts_of rfl (does_move (v := .str a1) (by exact rfl))) (by decide) ?_
                  refine ao_cons (acts_of rfl (does_bin (v := .bool (ByteArray.toList x33.1 == ByteArray.toList a1)) (by conv => lhs; whnf) (by conv => lhs; whnf) rfl)) (by decide) ?_
                  refine ao_cons (acts_of rfl (does_pick (v := .bool (ByteArray.toList x33.1 == ByteArray.toList a1)) (by conv => lhs; whnf) (by exact rfl))) (by decide) ?_
                  refine ao_cons (acts_of rfl (does_move (v := .bool (ByteArray.toList x33.1 == ByteArray.toList a1)) (by exact rfl))) (by decide) ?_
                  refine ao_bool (c := (ByteArray.toList x33.1 == ByteArray.toList a1)) 122 rfl (fun c51 => ?_) (fun c51 => ?_)
                  · have h := ifT c51 h
                    refine ao_cons (acts_of rfl (does_move (v := .int .i64 x33.2.1) (by exact rfl))) (by decide) ?_
                    refine ao_cons (acts_of rfl (does_move (v := .own 45 0) (by exact rfl))) (by decide) ?_
                    refine ao_cons (acts_of rfl ((does_len_own (by conv => lhs; whnf) (by conv => lhs; whnf) ty22).cast (v' := .int .i64 (List.length x18 : Int)) (by exact len_map _))) (by decide) ?_
                    refine ao_cons (acts_of rfl (does_bin (v := .bool (x33.2.1 == (List.length x18 : Int))) (by conv => lhs; whnf) (by conv => lhs; whnf) rfl)) (by decide) ?_
                    refine ao_cons (acts_of rfl (does_pick (v := .bool (x33.2.1 == (List.length x18 : Int))) (by conv => lhs; whnf) (by exact rfl))) (by decide) ?_
                    refine ao_cons (acts_of rfl (does_move (v := .bool (x33.2.1 == (List.length x18 : Int))) (by exact rfl))) (by decide) ?_
                    refine ao_bool (c := (x33.2.1 == (List.length x18 : Int))) 128 rfl (fun c52 => ?_) (fun c52 => ?_)
                    · have h := ifT c52 h
                      refine ao_cons (acts_of rfl (does_move (v := .own 43 0) (by exact rfl))) (by decide) ?_
                      refine ao_cons (acts_of rfl ((does_len_own (by conv => lhs; whnf) (by conv => lhs; whnf) ty22).cast (v' := .int .i64 (List.length x16 : Int)) (by exact len_map _))) (by decide) ?_
                      refine ao_cons (acts_of rfl (does_bin (v := .bool (decide ((List.length x16 : Int) ≤ 10))) (by conv => lhs; whnf) (by conv => lhs; whnf) rfl)) (by decide) ?_
                      refine ao_cons (acts_of rfl (does_pick (v := .bool (decide ((List.length x16 : Int) ≤ 10))) (by conv => lhs; whnf) (by exact rfl))) (by decide) ?_
                      refine ao_cons (acts_of rfl (does_assign (v := .bool (decide ((List.length x16 : Int) ≤ 10))) (by exact rfl))) (by decide) ?_
                      refine ao_nil_n ?_
                      refine hK44 _ ?_
                      refine aw_ret ?_
                      obtain rfl := Option.some.inj h
                      exact ret_ok1 (by conv => lhs; whnf) (by conv => lhs; whnf) (by exact rfl) (.inr rfl) rfl
                    · have h := ifF c52 h
                      refine ao_cons (acts_skip rfl) (by decide) ?_
                      refine ao_cons (acts_skip rfl) (by decide) ?_
                      refine ao_cons (acts_skip rfl) (by decide) ?_
                      refine ao_cons (acts_of rfl (does_pick (v := .bool false) (by conv => lhs; whnf) (by exact rfl))) (by decide) ?_
                      refine ao_cons (acts_of rfl (does_assign (v := .bool false) (by exact rfl))) (by decide) ?_
                      refine ao_nil_n ?_
                      refine hK44 _ ?_
                      refine aw_ret ?_
                      obtain rfl := Option.some.inj h
                      exact ret_ok1 (by conv => lhs; whnf) (by conv => lhs; whnf) (by exact rfl) (.inr rfl) rfl
                  · have h := ifF c51 h
                    refine ao_cons (acts_skip rfl) (by decide) ?_
                    refine ao_cons (acts_skip rfl) (by decide) ?_
                    refine ao_cons (acts_skip rfl) (by decide) ?_
                    refine ao_cons (acts_skip rfl) (by decide) ?_
                    refine ao_cons (acts_of rfl (does_pick (v := .bool false) (by conv => lhs; whnf) (by exact rfl))) (by decide) ?_
                    refine ao_cons (acts_of rfl (does_move (v := .bool false) (by exact rfl))) (by decide) ?_
                    refine ao_cons (acts_skip rfl) (by decide) ?_
                    refine ao_cons (acts_skip rfl) (by decide) ?_
                    refine ao_cons (acts_skip rfl) (by decide) ?_
                    refine ao_cons (acts_of rfl (does_pick (v := .bool false) (by conv => lhs; whnf) (by exact rfl))) (by decide) ?_
                    refine ao_cons (acts_of rfl (does_assign (v := .bool false) (by exact rfl))) (by decide) ?_
                    refine ao_nil_n ?_
                    refine hK44 _ ?_
                    refine aw_ret ?_
                    obtain rfl := Option.some.inj h
                    exact ret_ok1 (by conv => lhs; whnf) (by conv => lhs; whnf) (by exact rfl) (.inr rfl) rfl
                · have h := ifF c50 h
                  refine ao_cons (acts_skip rfl) (by decide) ?_
                  refine ao_cons (acts_skip rfl) (by decide) ?_
                  refine ao_cons (acts_skip rfl) (by decide) ?_
                  refine ao_cons (acts_of rfl (does_pick (v := .bool false) (by conv => lhs; whnf) (by exact rfl))) (by decide) ?_
                  refine ao_cons (acts_of rfl (does_move (v := .bool false) (by exact rfl))) (by decide) ?_
                  refine ao_cons (acts_skip rfl) (by decide) ?_
                  refine ao_cons (acts_skip rfl) (by decide) ?_
                  refine ao_cons (acts_skip rfl) (by decide) ?_
                  refine ao_cons (acts_skip rfl) (by decide) ?_
                  refine ao_cons (acts_of rfl (does_pick (v := .bool false) (by conv => lhs; whnf) (by exact rfl))) (by decide) ?_
                  refine ao_cons (acts_of rfl (does_move (v := .bool false) (by exact rfl))) (by decide) ?_
                  refine ao_cons (acts_skip rfl) (by decide) ?_
                  refine ao_cons (acts_skip rfl) (by decide) ?_
                  refine ao_cons (acts_skip rfl) (by decide) ?_
                  refine ao_cons (acts_of rfl (does_pick (v := .bool false) (by conv => lhs; whnf) (by exact rfl))) (by decide) ?_
                  refine ao_cons (acts_of rfl (does_assign (v := .bool false) (by exact rfl))) (by decide) ?_
                  refine ao_nil_n ?_
                  refine hK44 _ ?_
                  refine aw_ret ?_
                  obtain rfl := Option.some.inj h
                  exact ret_ok1 (by conv => lhs; whnf) (by conv => lhs; whnf) (by exact rfl) (.inr rfl) rfl
              · have h := ifF c49 h
                refine ao_cons (acts_skip rfl) (by decide) ?_
                refine ao_cons (acts_skip rfl) (by decide) ?_
                refine ao_cons (acts_skip rfl) (by decide) ?_
                refine ao_cons (acts_skip rfl) (by decide) ?_
                refine ao_cons (acts_of rfl (does_pick (v := .bool false) (by conv => lhs; whnf) (by exact rfl))) (by decide) ?_
                refine ao_cons (acts_of rfl (does_move (v := .bool false) (by exact rfl))) (by decide) ?_
                refine ao_cons (acts_skip rfl) (by decide) ?_
                refine ao_cons (acts_skip rfl) (by decide) ?_
                refine ao_cons (acts_skip rfl) (by decide) ?_
                refine ao_cons (acts_of rfl (does_pick (v := .bool false) (by conv => lhs; whnf) (by exact rfl))) (by decide) ?_
                refine ao_cons (acts_of rfl (does_move (v := .bool false) (by exact rfl))) (by decide) ?_
                refine ao_cons (acts_skip rfl) (by decide) ?_
                refine ao_cons (acts_skip rfl) (by decide) ?_
                refine ao_cons (acts_skip rfl) (by decide) ?_
                refine ao_cons (acts_skip rfl) (by decide) ?_
                refine ao_cons (acts_of rfl (does_pick (v := .bool false) (by conv => lhs; whnf) (by exact rfl))) (by decide) ?_
                refine ao_cons (acts_of rfl (does_move (v := .bool false) (by exact rfl))) (by decide) ?_
                refine ao_cons (acts_skip rfl) (by decide) ?_
                refine ao_cons (acts_skip rfl) (by decide) ?_
                refine ao_cons (acts_skip rfl) (by decide) ?_
                refine ao_cons (acts_of rfl (does_pick (v := .bool false) (by conv => lhs; whnf) (by exact rfl))) (by decide) ?_
                refine ao_cons (acts_of rfl (does_assign (v := .bool false) (by exact rfl))) (by decide) ?_
                refine ao_nil_n ?_
                refine hK44 _ ?_
                refine aw_ret ?_
                obtain rfl := Option.some.inj h
                exact ret_ok1 (by conv => lhs; whnf) (by conv => lhs; whnf) (by exact rfl) (.inr rfl) rfl
            · have h := ifF c48 h
              refine ao_cons (acts_skip rfl) (by decide) ?_
              refine ao_cons (acts_skip rfl) (by decide) ?_
              refine ao_cons (acts_skip rfl) (by decide) ?_
              refine ao_cons (acts_of rfl (does_pick (v := .bool false) (by conv => lhs; whnf) (by exact rfl))) (by decide) ?_
              refine ao_cons (acts_of rfl (does_move (v := .bool false) (by exact rfl))) (by decide) ?_
              refine ao_cons (acts_skip rfl) (by decide) ?_
              refine ao_cons (acts_skip rfl) (by decide) ?_
              refine ao_cons (acts_skip rfl) (by decide) ?_
              refine ao_cons (acts_skip rfl) (by decide) ?_
              refine ao_cons (acts_of rfl (does_pick (v := .bool false) (by conv => lhs; whnf) (by exact rfl))) (by decide) ?_
              refine ao_cons (acts_of rfl (does_move (v := .bool false) (by exact rfl))) (by decide) ?_
              refine ao_cons (acts_skip rfl) (by decide) ?_
              refine ao_cons (acts_skip rfl) (by decide) ?_
              refine ao_cons (acts_skip rfl) (by decide) ?_
              refine ao_cons (acts_of rfl (does_pick (v := .bool false) (by conv => lhs; whnf) (by exact rfl))) (by decide) ?_
              refine ao_cons (acts_of rfl (does_move (v := .bool false) (by exact rfl))) (by decide) ?_
              refine ao_cons (acts_skip rfl) (by decide) ?_
              refine ao_cons (acts_skip rfl) (by decide) ?_
              refine ao_cons (acts_skip rfl) (by decide) ?_
              refine ao_cons (acts_skip rfl) (by decide) ?_
              refine ao_cons (acts_of rfl (does_pick (v := .bool false) (by conv => lhs; whnf) (by exact rfl))) (by decide) ?_
              refine ao_cons (acts_of rfl (does_move (v := .bool false) (by exact rfl))) (by decide) ?_
              refine ao_cons (acts_skip rfl) (by decide) ?_
              refine ao_cons (acts_skip rfl) (by decide) ?_
              refine ao_cons (acts_skip rfl) (by decide) ?_
              refine ao_cons (acts_of rfl (does_pick (v := .bool false) (by conv => lhs; whnf) (by exact rfl))) (by decide) ?_
              refine ao_cons (acts_of rfl (does_assign (v := .bool false) (by exact rfl))) (by decide) ?_
              refine ao_nil_n ?_
              refine hK44 _ ?_
              refine aw_ret ?_
              obtain rfl := Option.some.inj h
              exact ret_ok1 (by conv => lhs; whnf) (by conv => lhs; whnf) (by exact rfl) (.inr rfl) rfl
          · have h := ifF c47 h
            refine ao_cons (acts_skip rfl) (by decide) ?_
            refine ao_cons (acts_skip rfl) (by decide) ?_
            refine ao_cons (acts_of rfl (does_pick (v := .bool false) (by conv => lhs; whnf) (by exact rfl))) (by decide) ?_
            refine ao_cons (acts_of rfl (does_move (v := .bool false) (by exact rfl))) (by decide) ?_
            refine ao_cons (acts_skip rfl) (by decide) ?_
            refine ao_cons (acts_skip rfl) (by decide) ?_
            refine ao_cons (acts_skip rfl) (by decide) ?_
            refine ao_cons (acts_of rfl (does_pick (v := .bool false) (by conv => lhs; whnf) (by exact rfl))) (by decide) ?_
            refine ao_cons (acts_of rfl (does_move (v := .bool false) (by exact rfl))) (by decide) ?_
            refine ao_cons (acts_skip rfl) (by decide) ?_
            refine ao_cons (acts_skip rfl) (by decide) ?_
            refine ao_cons (acts_skip rfl) (by decide) ?_
            refine ao_cons (acts_skip rfl) (by decide) ?_
            refine ao_cons (acts_of rfl (does_pick (v := .bool false) (by conv => lhs; whnf) (by exact rfl))) (by decide) ?_
            refine ao_cons (acts_of rfl (does_move (v := .bool false) (by exact rfl))) (by decide) ?_
            refine ao_cons (acts_skip rfl) (by decide) ?_
            refine ao_cons (acts_skip rfl) (by decide) ?_
            refine ao_cons (acts_skip rfl) (by decide) ?_
            refine ao_cons (acts_of rfl (does_pick (v := .bool false) (by conv => lhs; whnf) (by exact rfl))) (by decide) ?_
            refine ao_cons (acts_of rfl (does_move (v := .bool false) (by exact rfl))) (by decide) ?_
            refine ao_cons (acts_skip rfl) (by decide) ?_
            refine ao_cons (acts_skip rfl) (by decide) ?_
            refine ao_cons (acts_skip rfl) (by decide) ?_
            refine ao_cons (acts_skip rfl) (by decide) ?_
            refine ao_cons (acts_of rfl (does_pick (v := .bool false) (by conv => lhs; whnf) (by exact rfl))) (by decide) ?_
            refine ao_cons (acts_of rfl (does_move (v := .bool false) (by exact rfl))) (by decide) ?_
            refine ao_cons (acts_skip rfl) (by decide) ?_
            refine ao_cons (acts_skip rfl) (by decide) ?_
            refine ao_cons (acts_skip rfl) (by decide) ?_
            refine ao_cons (acts_of rfl (does_pick (v := .bool false) (by conv => lhs; whnf) (by exact rfl))) (by decide) ?_
            refine ao_cons (acts_of rfl (does_assign (v := .bool false) (by exact rfl))) (by decide) ?_
            refine ao_nil_n ?_
            refine hK44 _ ?_
            refine aw_ret ?_
            obtain rfl := Option.some.inj h
            exact ret_ok1 (by conv => lhs; whnf) (by conv => lhs; whnf) (by exact rfl) (.inr rfl) rfl
        · have h := ifF c46 h
          refine ao_cons (acts_skip rfl) (by decide) ?_
          refine ao_cons (acts_skip rfl) (by decide) ?_
          refine ao_cons (acts_of rfl (does_pick (v := .bool false) (by conv => lhs; whnf) (by exact rfl))) (by decide) ?_
          refine ao_cons (acts_of rfl (does_move (v := .bool false) (by exact rfl))) (by decide) ?_
          refine ao_cons (acts_skip rfl) (by decide) ?_
          refine ao_cons (acts_skip rfl) (by decide) ?_
          refine ao_cons (acts_of rfl (does_pick (v := .bool false) (by conv => lhs; whnf) (by exact rfl))) (by decide) ?_
          refine ao_cons (acts_of rfl (does_move (v := .bool false) (by exact rfl))) (by decide) ?_
          refine ao_cons (acts_skip rfl) (by decide) ?_
          refine ao_cons (acts_skip rfl) (by decide) ?_
          refine ao_cons (acts_skip rfl) (by decide) ?_
          refine ao_cons (acts_of rfl (does_pick (v := .bool false) (by conv => lhs; whnf) (by exact rfl))) (by decide) ?_
          refine ao_cons (acts_of rfl (does_move (v := .bool false) (by exact rfl))) (by decide) ?_
          refine ao_cons (acts_skip rfl) (by decide) ?_
          refine ao_cons (acts_skip rfl) (by decide) ?_
          refine ao_cons (acts_skip rfl) (by decide) ?_
          refine ao_cons (acts_skip rfl) (by decide) ?_
          refine ao_cons (acts_of rfl (does_pick (v := .bool false) (by conv => lhs; whnf) (by exact rfl))) (by decide) ?_
          refine ao_cons (acts_of rfl (does_move (v := .bool false) (by exact rfl))) (by decide) ?_
          refine ao_cons (acts_skip rfl) (by decide) ?_
          refine ao_cons (acts_skip rfl) (by decide) ?_
          refine ao_cons (acts_skip rfl) (by decide) ?_
          refine ao_cons (acts_of rfl (does_pick (v := .bool false) (by conv => lhs; whnf) (by exact rfl))) (by decide) ?_
          refine ao_cons (acts_of rfl (does_move (v := .bool false) (by exact rfl))) (by decide) ?_
          refine ao_cons (acts_skip rfl) (by decide) ?_
          refine ao_cons (acts_skip rfl) (by decide) ?_
          refine ao_cons (acts_skip rfl) (by decide) ?_
          refine ao_cons (acts_skip rfl) (by decide) ?_
          refine ao_cons (acts_of rfl (does_pick (v := .bool false) (by conv => lhs; whnf) (by exact rfl))) (by decide) ?_
          refine ao_cons (acts_of rfl (does_move (v := .bool false) (by exact rfl))) (by decide) ?_
          refine ao_cons (acts_skip rfl) (by decide) ?_
          refine ao_cons (acts_skip rfl) (by decide) ?_
          refine ao_cons (acts_skip rfl) (by decide) ?_
          refine ao_cons (acts_of rfl (does_pick (v := .bool false) (by conv => lhs; whnf) (by exact rfl))) (by decide) ?_
          refine ao_cons (acts_of rfl (does_assign (v := .bool false) (by exact rfl))) (by decide) ?_
          refine ao_nil_n ?_
          refine hK44 _ ?_
          refine aw_ret ?_
          obtain rfl := Option.some.inj h
          exact ret_ok1 (by conv => lhs; whnf) (by conv => lhs; whnf) (by exact rfl) (.inr rfl) rfl
      · have h := ifF c45 h
        refine ao_cons (acts_skip rfl) (by decide) ?_
        refine ao_cons (acts_of rfl (does_pick (v := .bool false) (by conv => lhs; whnf) (by exact rfl))) (by decide) ?_
        refine ao_cons (acts_of rfl (does_move (v := .bool false) (by exact rfl))) (by decide) ?_
        refine ao_cons (acts_skip rfl) (by decide) ?_
        refine ao_cons (acts_skip rfl) (by decide) ?_
        refine ao_cons (acts_of rfl (does_pick (v := .bool false) (by conv => lhs; whnf) (by exact rfl))) (by decide) ?_
        refine ao_cons (acts_of rfl (does_move (v := .bool false) (by exact rfl))) (by decide) ?_
        refine ao_cons (acts_skip rfl) (by decide) ?_
        refine ao_cons (acts_skip rfl) (by decide) ?_
        refine ao_cons (acts_of rfl (does_pick (v := .bool false) (by conv => lhs; whnf) (by exact rfl))) (by decide) ?_
        refine ao_cons (acts_of rfl (does_move (v := .bool false) (by exact rfl))) (by decide) ?_
        refine ao_cons (acts_skip rfl) (by decide) ?_
        refine ao_cons (acts_skip rfl) (by decide) ?_
        refine ao_cons (acts_skip rfl) (by decide) ?_
        refine ao_cons (acts_of rfl (does_pick (v := .bool false) (by conv => lhs; whnf) (by exact rfl))) (by decide) ?_
        refine ao_cons (acts_of rfl (does_move (v := .bool false) (by exact rfl))) (by decide) ?_
        refine ao_cons (acts_skip rfl) (by decide) ?_
        refine ao_cons (acts_skip rfl) (by decide) ?_
        refine ao_cons (acts_skip rfl) (by decide) ?_
        refine ao_cons (acts_skip rfl) (by decide) ?_
        refine ao_cons (acts_of rfl (does_pick (v := .bool false) (by conv => lhs; whnf) (by exact rfl))) (by decide) ?_
        refine ao_cons (acts_of rfl (does_move (v := .bool false) (by exact rfl))) (by decide) ?_
        refine ao_cons (acts_skip rfl) (by decide) ?_
        refine ao_cons (acts_skip rfl) (by decide) ?_
        refine ao_cons (acts_skip rfl) (by decide) ?_
        refine ao_cons (acts_of rfl (does_pick (v := .bool false) (by conv => lhs; whnf) (by exact rfl))) (by decide) ?_
        refine ao_cons (acts_of rfl (does_move (v := .bool false) (by exact rfl))) (by decide) ?_
        refine ao_cons (acts_skip rfl) (by decide) ?_
        refine ao_cons (acts_skip rfl) (by decide) ?_
        refine ao_cons (acts_skip rfl) (by decide) ?_
        refine ao_cons (acts_skip rfl) (by decide) ?_
        refine ao_cons (acts_of rfl (does_pick (v := .bool false) (by conv => lhs; whnf) (by exact rfl))) (by decide) ?_
        refine ao_cons (acts_of rfl (does_move (v := .bool false) (by exact rfl))) (by decide) ?_
        refine ao_cons (acts_skip rfl) (by decide) ?_
        refine ao_cons (acts_skip rfl) (by decide) ?_
        refine ao_cons (acts_skip rfl) (by decide) ?_
        refine ao_cons (acts_of rfl (does_pick (v := .bool false) (by conv => lhs; whnf) (by exact rfl))) (by decide) ?_
        refine ao_cons (acts_of rfl (does_assign (v := .bool false) (by exact rfl))) (by decide) ?_
        refine ao_nil_n ?_
        refine hK44 _ ?_
        refine aw_ret ?_
        obtain rfl := Option.some.inj h
        exact ret_ok1 (by conv => lhs; whnf) (by conv => lhs; whnf) (by exact rfl) (.inr rfl) rfl
def gleaninglaw1_IntsRow_l2 (a0 : List Int) (v6_s_2 : List UInt8) (v7_2 : Int) : Option ((List UInt8 × Int) ⊕ (List UInt8)) :=
  if (decide (v7_2 < (List.length a0 : Int))) = true then (gd (0 ≤ v7_2) (Option.bind (a0[(Int.toNat v7_2)]?) (fun (x24 : Int) => Option.bind (ints_Put v6_s_2 x24) (fun (x25 : List UInt8) => some (Sum.inl (x25, (IntKind.i64.wrap (v7_2 + 1)))))))) else (some (Sum.inr v6_s_2))
def gleaninglaw1_IntsRow_l4 (a1 : List ByteArray) (v6_s_4 : List UInt8) (v8_4 : Int) : Option ((List UInt8 × Int) ⊕ ((List UInt8) ⊕ Bool)) :=
  if (decide (v8_4 < (List.length a1 : Int))) = true then (gd (0 ≤ v8_4) (Option.bind (a1[(Int.toNat v8_4)]?) (fun (x38 : ByteArray) => if (decide ((100 : Int) < (ByteArray.size x38 : Int))) = true then (some (Sum.inr (Sum.inr true))) else (gd (0 ≤ v8_4) (Option.bind (a1[(Int.toNat v8_4)]?) (fun (x42 : ByteArray) => Option.bind (ints_Text v6_s_4 x42) (fun (x43 : List UInt8) => some (Sum.inl (x43, (IntKind.i64.wrap (v8_4 + 1))))))))))) else (some (Sum.inr (Sum.inl v6_s_4)))
def gleaninglaw1_IntsRow_k7 (v6_6 : List UInt8) (v9_6 : Int) (x54 : Int × Int × Bool) : Option ((List UInt8 × Int) ⊕ ((List UInt8) ⊕ Bool)) :=
  gd (0 ≤ x54.2.1) (gd (x54.2.1 ≤ (List.length v6_6 : Int)) (some (Sum.inl ((List.drop (Int.toNat x54.2.1) v6_6), (IntKind.i64.wrap (v9_6 + 1))))))
def gleaninglaw1_IntsRow_l6 (a0 : List Int) (v6_6 : List UInt8) (v9_6 : Int) : Option ((List UInt8 × Int) ⊕ ((List UInt8) ⊕ Bool)) :=
  if (decide (v9_6 < (List.length a0 : Int))) = true then (Option.bind (ints_Get v6_6) (fun (x54 : Int × Int × Bool) => Option.bind (if (!x54.2.2) = true then (some (Sum.inr (Sum.inr (Sum.inr false)))) else (gd (0 ≤ v9_6) (Option.bind (a0[(Int.toNat v9_6)]?) (fun (x61 : Int) => if (x54.1 != x61) = true then (some (Sum.inr (Sum.inr (Sum.inr false)))) else (if (decide (x54.2.1 < 1)) = true then (some (Sum.inr (Sum.inr (Sum.inr false)))) else (if (decide ((List.length v6_6 : Int) < x54.2.1)) = true then (some (Sum.inr (Sum.inr (Sum.inr false)))) else (some (Sum.inl ())))))))) (Sum.elim (fun (s : Unit) => gleaninglaw1_IntsRow_k7 v6_6 v9_6 x54) some))) else (some (Sum.inr (Sum.inl v6_6)))
def gleaninglaw1_IntsRow_k10 (v6_9 : List UInt8) (v13_9 : Int) (x80 : ByteArray × Int × Bool) : Option ((List UInt8 × Int) ⊕ ((List UInt8) ⊕ Bool)) :=
  gd (0 ≤ x80.2.1) (gd (x80.2.1 ≤ (List.length v6_9 : Int)) (some (Sum.inl ((List.drop (Int.toNat x80.2.1) v6_9), (IntKind.i64.wrap (v13_9 + 1))))))
def gleaninglaw1_IntsRow_l9 (a1 : List ByteArray) (v6_9 : List UInt8) (v13_9 : Int) : Option ((List UInt8 × Int) ⊕ ((List UInt8) ⊕ Bool)) :=
  if (decide (v13_9 < (List.length a1 : Int))) = true then (Option.bind (ints_GetText v6_9) (fun (x80 : ByteArray × Int × Bool) => Option.bind (if (!x80.2.2) = true then (some (Sum.inr (Sum.inr (Sum.inr false)))) else (gd (0 ≤ v13_9) (Option.bind (a1[(Int.toNat v13_9)]?) (fun (x87 : ByteArray) => if (!(ByteArray.toList x80.1 == ByteArray.toList x87)) = true then (some (Sum.inr (Sum.inr (Sum.inr false)))) else (if (decide (x80.2.1 < 1)) = true then (some (Sum.inr (Sum.inr (Sum.inr false)))) else (if (decide ((List.length v6_9 : Int) < x80.2.1)) = true then (some (Sum.inr (Sum.inr (Sum.inr false)))) else (some (Sum.inl ())))))))) (Sum.elim (fun (s : Unit) => gleaninglaw1_IntsRow_k10 v6_9 v13_9 x80) some))) else (some (Sum.inr (Sum.inl v6_9)))
def gleaninglaw1_IntsRow_k8 (v6_8 : List UInt8) : Option Bool :=
  some ((List.length v6_8 : Int) == 0)
def gleaninglaw1_IntsRow_k5 (a1 : List ByteArray) (v6_5 : List UInt8) : Option Bool :=
  Option.bind (loopN (fun (s : List UInt8 × Int) => gleaninglaw1_IntsRow_l9 a1 s.1 s.2) Fu (v6_5, 0)) (Sum.elim (fun (s : List UInt8) => gleaninglaw1_IntsRow_k8 s) some)
def gleaninglaw1_IntsRow_k3 (a0 : List Int) (a1 : List ByteArray) (v6_s_3 : List UInt8) : Option Bool :=
  Option.bind (loopN (fun (s : List UInt8 × Int) => gleaninglaw1_IntsRow_l6 a0 s.1 s.2) Fu (v6_s_3, 0)) (Sum.elim (fun (s : List UInt8) => gleaninglaw1_IntsRow_k5 a1 s) some)
def gleaninglaw1_IntsRow_k1 (a0 : List Int) (a1 : List ByteArray) (v6_s_1 : List UInt8) : Option Bool :=
  Option.bind (loopN (fun (s : List UInt8 × Int) => gleaninglaw1_IntsRow_l4 a1 s.1 s.2) Fu (v6_s_1, 0)) (Sum.elim (fun (s : List UInt8) => gleaninglaw1_IntsRow_k3 a0 a1 s) some)
def gleaninglaw1_IntsRow_k0 (a0 : List Int) (a1 : List ByteArray) : Option Bool :=
  Option.bind (loopN (fun (s : List UInt8 × Int) => gleaninglaw1_IntsRow_l2 a0 s.1 s.2) Fu ([], 0)) (fun (s : List UInt8) => gleaninglaw1_IntsRow_k1 a0 a1 s)
def gleaninglaw1_IntsRow (a0 : List Int) (a1 : List ByteArray) : Option Bool :=
  Option.bind (gleaninglaw1_alive) (fun (x3 : Bool) => Option.bind (if (!x3) = true then (some (Sum.inr x3)) else (if (decide ((20 : Int) < (List.length a0 : Int))) = true then (some (Sum.inr x3)) else (if (decide ((20 : Int) < (List.length a1 : Int))) = true then (some (Sum.inr x3)) else (some (Sum.inl ()))))) (Sum.elim (fun (s : Unit) => gleaninglaw1_IntsRow_k0 a0 a1) some))
set_option maxRecDepth 100000 in
set_option maxHeartbeats 8000000 in
/-- gleaning/gleaninglaw1.IntsRow -/
theorem gleaninglaw1_IntsRow_ok (a0 : List Int) (a1 : List ByteArray) {r : Bool} (h : gleaninglaw1_IntsRow a0 a1 = some r) : Ok Try.prog 15 [.sl 1 (List.map enc12 a0), .sl 1 (List.map enc9 a1)] [] [] (.bool r) [] [] := by
  unfold gleaninglaw1_IntsRow at h
  refine ok_of_code Try.func15 rfl (by show (2 : Nat) ≤ _; decide) (Nat.le_refl _) fun X => ?_
  refine aw_seq_k (fun K1 hK1 => ?_)
  refine aw_reg ?_
  refine ao_cons (acts_of rfl (does_assign (v := .bool false) (by exact rfl))) (by decide) ?_
  refine ao_nil_n ?_
  refine hK1 _ ?_
  refine aw_seq_k (fun K2 hK2 => ?_)
  refine aw_reg ?_
  obtain ⟨x3, hx3, h⟩ := bnd_some h
  refine ao_cons (acts_of rfl (do_call0 17 false (gleaninglaw1_alive_ok hx3) rfl ent26 rfl rfl)) (by decide) ?_
  refine ao_cons (acts_of rfl (does_assign (v := .bool x3) (by exact rfl))) (by decide) ?_
  refine ao_nil_n ?_
  refine hK2 _ ?_
  obtain ⟨q4, h, hk5⟩ := bnd_some h
  refine aw_cut (fun s => gleaninglaw1_IntsRow_k0 a0 a1 = some r ∧ s = lit [(0, .sl 1 (List.map enc12 a0)), (1, .sl 1 (List.map enc9 a1))] [] [] X) ?_ ?_
  · skip
    refine aw_seq_k (fun K6 hK6 => ?_)
    refine aw_reg ?_
    refine ao_cons (acts_of rfl (does_move (v := .bool x3) (by exact rfl))) (by decide) ?_
    refine ao_cons (acts_of rfl (does_un (v := .bool (!x3)) (by conv => lhs; whnf) rfl)) (by decide) ?_
    refine ao_cons (acts_of rfl (does_move (v := .bool (!x3)) (by exact rfl))) (by decide) ?_
    refine ao_bool (c := (!x3)) 20 rfl (fun c7 => ?_) (fun c7 => ?_)
    · have h := ifT c7 h
      refine ao_cons (acts_skip rfl) (by decide) ?_
      refine ao_cons (acts_skip rfl) (by decide) ?_
      refine ao_cons (acts_skip rfl) (by decide) ?_
      refine ao_cons (acts_of rfl (does_pick (v := .bool true) (by conv => lhs; whnf) (by exact rfl))) (by decide) ?_
      refine ao_cons (acts_of rfl (does_move (v := .bool true) (by exact rfl))) (by decide) ?_
      refine ao_cons (acts_skip rfl) (by decide) ?_
      refine ao_cons (acts_skip rfl) (by decide) ?_
      refine ao_cons (acts_skip rfl) (by decide) ?_
      refine ao_cons (acts_of rfl (does_pick (v := .bool true) (by conv => lhs; whnf) (by exact rfl))) (by decide) ?_
      refine ao_nil_n ?_
      refine hK6 _ ?_
      refine aw_cond_t (by decide) rfl ?_
      refine aw_seq_k (fun K8 hK8 => ?_)
      refine aw_reg ?_
      refine ao_cons (acts_of rfl (does_move (v := .bool x3) (by exact rfl))) (by decide) ?_
      refine ao_cons (acts_of rfl (does_assign (v := .bool x3) (by exact rfl))) (by decide) ?_
      refine ao_nil_n ?_
      refine hK8 _ ?_
      refine aw_ret ?_
      have h := leafR h hk5
      obtain rfl := Option.some.inj h
      exact ret_ok1 (by conv => lhs; whnf) (by conv => lhs; whnf) (by exact rfl) (.inr rfl) rfl
    · have h := ifF c7 h
      refine ao_cons (acts_of rfl (does_move (v := .sl 1 (List.map enc12 a0)) (by exact rfl))) (by decide) ?_
      refine ao_cons (acts_of rfl ((does_len_sl (by conv => lhs; whnf) ty61).castp (v' := .int .i64 (List.length a0 : Int)) (by exact len_map _))) (by decide) ?_
      refine ao_cons (acts_of rfl (does_bin (v := .bool (decide ((20 : Int) < (List.length a0 : Int)))) (by conv => lhs; whnf) (by conv => lhs; whnf) rfl)) (by decide) ?_
      refine ao_cons (acts_of rfl (does_pick (v := .bool (decide ((20 : Int) < (List.length a0 : Int)))) (by conv => lhs; whnf) (by exact rfl))) (by decide) ?_
      refine ao_cons (acts_of rfl (does_move (v := .bool (decide ((20 : Int) < (List.length a0 : Int)))) (by exact rfl))) (by decide) ?_
      refine ao_bool (c := (decide ((20 : Int) < (List.length a0 : Int)))) 25 rfl (fun c9 => ?_) (fun c9 => ?_)
      · have h := ifT c9 h
        refine ao_cons (acts_skip rfl) (by decide) ?_
        refine ao_cons (acts_skip rfl) (by decide) ?_
        refine ao_cons (acts_skip rfl) (by decide) ?_
        refine ao_cons (acts_of rfl (does_pick (v := .bool true) (by conv => lhs; whnf) (by exact rfl))) (by decide) ?_
        refine ao_nil_n ?_
        refine hK6 _ ?_
        refine aw_cond_t (by decide) rfl ?_
        refine aw_seq_k (fun K10 hK10 => ?_)
        refine aw_reg ?_
        refine ao_cons (acts_of rfl (does_move (v := .bool x3) (by exact rfl))) (by decide) ?_
        refine ao_cons (acts_of rfl (does_assign (v := .bool x3) (by exact rfl))) (by decide) ?_
        refine ao_nil_n ?_
        refine hK10 _ ?_
        refine aw_ret ?_
        have h := leafR h hk5
        obtain rfl := Option.some.inj h
        exact ret_ok1 (by conv => lhs; whnf) (by conv => lhs; whnf) (by exact rfl) (.inr rfl) rfl
      · have h := ifF c9 h
        refine ao_cons (acts_of rfl (does_move (v := .sl 1 (List.map enc9 a1)) (by exact rfl))) (by decide) ?_
        refine ao_cons (acts_of rfl ((does_len_sl (by conv => lhs; whnf) ty62).castp (v' := .int .i64 (List.length a1 : Int)) (by exact len_map _))) (by decide) ?_
        refine ao_cons (acts_of rfl (does_bin (v := .bool (decide ((20 : Int) < (List.length a1 : Int)))) (by conv => lhs; whnf) (by conv => lhs; whnf) rfl)) (by decide) ?_
        refine ao_cons (acts_of rfl (does_pick (v := .bool (decide ((20 : Int) < (List.length a1 : Int)))) (by conv => lhs; whnf) (by exact rfl))) (by decide) ?_
        refine ao_nil_n ?_
        refine hK6 _ ?_
        refine aw_bool (b := (decide ((20 : Int) < (List.length a1 : Int)))) 29 rfl (fun c11 => ?_) (fun c11 => ?_)
        · have h := ifT c11 h
          refine aw_cond_t (by decide) rfl ?_
          refine aw_seq_k (fun K12 hK12 => ?_)
          refine aw_reg ?_
          refine ao_cons (acts_of rfl (does_move (v := .bool x3) (by exact rfl))) (by decide) ?_
          refine ao_cons (acts_of rfl (does_assign (v := .bool x3) (by exact rfl))) (by decide) ?_
          refine ao_nil_n ?_
          refine hK12 _ ?_
          refine aw_ret ?_
          have h := leafR h hk5
          obtain rfl := Option.some.inj h
          exact ret_ok1 (by conv => lhs; whnf) (by conv => lhs; whnf) (by exact rfl) (.inr rfl) rfl
        · have h := ifF c11 h
          refine aw_cond_f (by decide) rfl ?_
          refine aw_skip ?_
          have h := leafL h hk5
          exact ⟨_, reb_lit [(0, .sl 1 (List.map enc12 a0)), (1, .sl 1 (List.map enc9 a1))] [] [] [] (envOk_cons (by conv => lhs; whnf) (by exact rfl) (envOk_cons (by conv => lhs; whnf) (by exact rfl) envOk_nil)) objOk_nil (nodup_b rfl) (nodup_b rfl) rfl rfl, h, rfl⟩
  · rintro s ⟨h, rfl⟩
    unfold gleaninglaw1_IntsRow_k0 at h
    refine aw_seq_k (fun K13 hK13 => ?_)
    refine aw_reg ?_
    refine ao_cons (acts_of rfl (does_assign (v := .nil) (by exact rfl))) (by decide) ?_
    refine ao_nil_n ?_
    refine hK13 _ ?_
    obtain ⟨q14, h, hk15⟩ := bnd_some h
    refine aw_cut (fun s => ∃ (v6_s_1 : List UInt8), gleaninglaw1_IntsRow_k1 a0 a1 v6_s_1 = some r ∧ s = lit [(0, .sl 1 (List.map enc12 a0)), (1, .sl 1 (List.map enc9 a1)), (6, .own 6 0)] [((6, 0), .arr 5 1 false (List.map enc5 v6_s_1))] [(6, 1)] X) ?_ ?_
    · skip
      refine aw_seq_k (fun K16 hK16 => ?_)
      refine aw_reg ?_
      refine ao_cons (acts_of rfl (does_assign (v := .int .i64 0) (by exact rfl))) (by decide) ?_
      refine ao_nil_n ?_
      refine hK16 _ ?_
      refine aw_block ?_
      refine aw_nilOwn 6 5 1 (by conv => lhs; whnf) (by decide) (by decide) ?_
      refine aw_loop' (fun m s => ∃ (v6_s_2 : List UInt8), ∃ (v7_2 : Int), loopN (fun (s : List UInt8 × Int) => gleaninglaw1_IntsRow_l2 a0 s.1 s.2) m (v6_s_2, v7_2) = some q14 ∧ s = lit [(0, .sl 1 (List.map enc12 a0)), (1, .sl 1 (List.map enc9 a1)), (6, .own 6 0), (7, .int .i64 v7_2)] [((6, 0), .arr 5 1 false (List.map enc5 v6_s_2))] [(6, 1)] X) Fu
        ⟨_, reb_lit [(0, .sl 1 (List.map enc12 a0)), (1, .sl 1 (List.map enc9 a1)), (6, .own 6 0), (7, .int .i64 (0))] [(6, 0)] [((6, 0), .arr 5 1 false (List.map enc5 []))] [(6, 1)] (envOk_cons (by conv => lhs; whnf) (by exact rfl) (envOk_cons (by conv => lhs; whnf) (by exact rfl) (envOk_cons (by conv => lhs; whnf) (by exact rfl) (envOk_cons (by conv => lhs; whnf) (by exact rfl) envOk_nil)))) (objOk_cons (by conv => lhs; whnf) (by conv => lhs; whnf) (by exact rfl) (by simp) objOk_nil) (nodup_b rfl) (nodup_b rfl) rfl rfl, [], 0, h, rfl⟩ ?_
      rintro m s ⟨v6_s_2, v7_2, h, rfl⟩
      obtain ⟨m2, q17, rfl, h, hq18⟩ := loop_some h
      replace h : gleaninglaw1_IntsRow_l2 a0 v6_s_2 v7_2 = some q17 := h
      unfold gleaninglaw1_IntsRow_l2 at h
      refine aw_seq_k (fun K19 hK19 => ?_)
      refine aw_seq_k (fun K20 hK20 => ?_)
      refine aw_reg ?_
      refine ao_cons (acts_of rfl (does_move (v := .int .i64 v7_2) (by exact rfl))) (by decide) ?_
      refine ao_cons (acts_of rfl (does_move (v := .sl 1 (List.map enc12 a0)) (by exact rfl))) (by decide) ?_
      refine ao_cons (acts_of rfl ((does_len_sl (by conv => lhs; whnf) ty61).castp (v' := .int .i64 (List.length a0 : Int)) (by exact len_map _))) (by decide) ?_
      refine ao_cons (acts_of rfl (does_bin (v := .bool (decide (v7_2 < (List.length a0 : Int)))) (by conv => lhs; whnf) (by conv => lhs; whnf) rfl)) (by decide) ?_
      refine ao_nil_n ?_
      refine hK20 _ ?_
      refine aw_bool (b := (decide (v7_2 < (List.length a0 : Int)))) 34 rfl (fun c21 => ?_) (fun c21 => ?_)
      · have h := ifT c21 h
        refine aw_cond_t (by decide) rfl ?_
        refine aw_skip ?_
        refine hK19 _ ?_
        refine aw_seq_k (fun K22 hK22 => ?_)
        refine aw_block ?_
        refine aw_reg ?_
        refine ao_cons (acts_of rfl (does_move (v := .own 6 0) (by exact rfl))) (by decide) ?_
        refine ao_cons (acts_of rfl (does_move (v := .sl 1 (List.map enc12 a0)) (by exact rfl))) (by decide) ?_
        refine ao_cons (acts_of rfl (does_move (v := .int .i64 v7_2) (by exact rfl))) (by decide) ?_
        obtain ⟨g23, h⟩ := gd_some h
        obtain ⟨x24, hx24, h⟩ := bnd_some h
        refine ao_cons (acts_of rfl (does_indexAddr_sl (el := .int .u64 x24) (by conv => lhs; whnf) (by conv => lhs; whnf) ty61 ty33 g23 (by exact map_get hx24))) (by decide) ?_
        refine ao_cons (acts_of rfl (does_load (v := .int .u64 x24) (by conv => lhs; whnf) (by conv => lhs; whnf) ty33 (by exact rfl))) (by decide) ?_
        obtain ⟨x25, hx25, h⟩ := bnd_some h
        refine ao_cons (acts_of rfl (do_callG (bcs := []) [] [] [(6, 0)] 42 false (ints_Put_ok v6_s_2 x24 hx25) rfl ent27 trivial trivial rfl rfl rfl rfl rfl rfl rfl rfl (.inr ⟨rfl, rfl, ⟨plain_map (fun _ => rfl), trivial⟩⟩))) (by decide) ?_
        refine ao_cons (acts_of rfl (does_assign (v := .own 42 0) (by exact rfl))) (by decide) ?_
        refine ao_nil_n ?_
        refine hK22 _ ?_
        refine aw_reg ?_
        refine ao_cons (acts_of rfl (does_move (v := .int .i64 v7_2) (by exact rfl))) (by decide) ?_
        refine ao_cons (acts_of rfl (does_bin (v := .int .i64 (IntKind.i64.wrap (v7_2 + 1))) (by conv => lhs; whnf) (by conv => lhs; whnf) rfl)) (by decide) ?_
        refine ao_cons (acts_of rfl (does_assign (v := .int .i64 (IntKind.i64.wrap (v7_2 + 1))) (by exact rfl))) (by decide) ?_
        refine ao_nil_n ?_
        have h := leafL h hq18
        exact ⟨m2, Nat.lt_succ_self _, _, reb_lit [(0, .sl 1 (List.map enc12 a0)), (1, .sl 1 (List.map enc9 a1)), (6, .own 6 0), (7, .int .i64 (IntKind.i64.wrap (v7_2 + 1)))] [(42, 0)] [((6, 0), .arr 5 1 false (List.map enc5 x25))] [(6, 1)] (envOk_cons (by conv => lhs; whnf) (by exact rfl) (envOk_cons (by conv => lhs; whnf) (by exact rfl) (envOk_cons (by conv => lhs; whnf) (by exact rfl) (envOk_cons (by conv => lhs; whnf) (by exact rfl) envOk_nil)))) (objOk_cons (by conv => lhs; whnf) (by conv => lhs; whnf) (by exact rfl) (by simp) objOk_nil) (nodup_b rfl) (nodup_b rfl) rfl rfl, x25, (IntKind.i64.wrap (v7_2 + 1)), h, rfl⟩
      · have h := ifF c21 h
        refine aw_cond_f (by decide) rfl ?_
        refine aw_exit ?_
        have h := leafR h hq18
        obtain rfl := Option.some.inj h
        have h := hk15
        exact ⟨_, reb_lit [(0, .sl 1 (List.map enc12 a0)), (1, .sl 1 (List.map enc9 a1)), (6, .own 6 0)] [(6, 0)] [((6, 0), .arr 5 1 false (List.map enc5 v6_s_2))] [(6, 1)] (envOk_cons (by conv => lhs; whnf) (by exact rfl) (envOk_cons (by conv => lhs; whnf) (by exact rfl) (envOk_cons (by conv => lhs; whnf) (by exact rfl) envOk_nil))) (objOk_cons (by conv => lhs; whnf) (by conv => lhs; whnf) (by exact rfl) (by simp) objOk_nil) (nodup_b rfl) (nodup_b rfl) rfl rfl, v6_s_2, h, rfl⟩
    · rintro s ⟨v6_s_1, h, rfl⟩
      unfold gleaninglaw1_IntsRow_k1 at h
      obtain ⟨q26, h, hk27⟩ := bnd_some h
      refine aw_cut (fun s => ∃ (v6_s_3 : List UInt8), gleaninglaw1_IntsRow_k3 a0 a1 v6_s_3 = some r ∧ s = lit [(0, .sl 1 (List.map enc12 a0)), (1, .sl 1 (List.map enc9 a1)), (6, .own 6 0)] [((6, 0), .arr 5 1 false (List.map enc5 v6_s_3))] [(6, 1)] X) ?_ ?_
      · skip
        refine aw_seq_k (fun K28 hK28 => ?_)
        refine aw_reg ?_
        refine ao_cons (acts_of rfl (does_assign (v := .int .i64 0) (by exact rfl))) (by decide) ?_
        refine ao_nil_n ?_
        refine hK28 _ ?_
        refine aw_block ?_
        refine aw_loop' (fun m s => ∃ (v6_s_4 : List UInt8), ∃ (v8_4 : Int), loopN (fun (s : List UInt8 × Int) => gleaninglaw1_IntsRow_l4 a1 s.1 s.2) m (v6_s_4, v8_4) = some q26 ∧ s = lit [(0, .sl 1 (List.map enc12 a0)), (1, .sl 1 (List.map enc9 a1)), (6, .own 6 0), (8, .int .i64 v8_4)] [((6, 0), .arr 5 1 false (List.map enc5 v6_s_4))] [(6, 1)] X) Fu
          ⟨_, reb_lit [(0, .sl 1 (List.map enc12 a0)), (1, .sl 1 (List.map enc9 a1)), (6, .own 6 0), (8, .int .i64 (0))] [(6, 0)] [((6, 0), .arr 5 1 false (List.map enc5 v6_s_1))] [(6, 1)] (envOk_cons (by conv => lhs; whnf) (by exact rfl) (envOk_cons (by conv => lhs; whnf) (by exact rfl) (envOk_cons (by conv => lhs; whnf) (by exact rfl) (envOk_cons (by conv => lhs; whnf) (by exact rfl) envOk_nil)))) (objOk_cons (by conv => lhs; whnf) (by conv => lhs; whnf) (by exact rfl) (by simp) objOk_nil) (nodup_b rfl) (nodup_b rfl) rfl rfl, v6_s_1, 0, h, rfl⟩ ?_
        rintro m s ⟨v6_s_4, v8_4, h, rfl⟩
        obtain ⟨m4, q29, rfl, h, hq30⟩ := loop_some h
        replace h : gleaninglaw1_IntsRow_l4 a1 v6_s_4 v8_4 = some q29 := h
        unfold gleaninglaw1_IntsRow_l4 at h
        refine aw_seq_k (fun K31 hK31 => ?_)
        refine aw_seq_k (fun K32 hK32 => ?_)
        refine aw_reg ?_
        refine ao_cons (acts_of rfl (does_move (v := .int .i64 v8_4) (by exact rfl))) (by decide) ?_
        refine ao_cons (acts_of rfl (does_move (v := .sl 1 (List.map enc9 a1)) (by exact rfl))) (by decide) ?_
        refine ao_cons (acts_of rfl ((does_len_sl (by conv => lhs; whnf) ty62).castp (v' := .int .i64 (List.length a1 : Int)) (by exact len_map _))) (by decide) ?_
        refine ao_cons (acts_of rfl (does_bin (v := .bool (decide (v8_4 < (List.length a1 : Int)))) (by conv => lhs; whnf) (by conv => lhs; whnf) rfl)) (by decide) ?_
        refine ao_nil_n ?_
        refine hK32 _ ?_
        refine aw_bool (b := (decide (v8_4 < (List.length a1 : Int)))) 46 rfl (fun c33 => ?_) (fun c33 => ?_)
        · have h := ifT c33 h
          refine aw_cond_t (by decide) rfl ?_
          refine aw_skip ?_
          refine hK31 _ ?_
          refine aw_seq_k (fun K34 hK34 => ?_)
          refine aw_block ?_
          refine aw_seq_k (fun K35 hK35 => ?_)
          refine aw_seq_k (fun K36 hK36 => ?_)
          refine aw_reg ?_
          refine ao_cons (acts_of rfl (does_move (v := .sl 1 (List.map enc9 a1)) (by exact rfl))) (by decide) ?_
          refine ao_cons (acts_of rfl (does_move (v := .int .i64 v8_4) (by exact rfl))) (by decide) ?_
          obtain ⟨g37, h⟩ := gd_some h
          obtain ⟨x38, hx38, h⟩ := bnd_some h
          refine ao_cons (acts_of rfl (does_indexAddr_sl (el := .str x38) (by conv => lhs; whnf) (by conv => lhs; whnf) ty62 ty9 g37 (by exact map_get hx38))) (by decide) ?_
          refine ao_cons (acts_of rfl (does_load (v := .str x38) (by conv => lhs; whnf) (by conv => lhs; whnf) ty9 (by exact rfl))) (by decide) ?_
          refine ao_cons (acts_of rfl (does_len_str (by conv => lhs; whnf) ty9)) (by decide) ?_
          refine ao_cons (acts_of rfl (does_bin (v := .bool (decide ((100 : Int) < (ByteArray.size x38 : Int)))) (by conv => lhs; whnf) (by conv => lhs; whnf) rfl)) (by decide) ?_
          refine ao_nil_n ?_
          refine hK36 _ ?_
          refine aw_bool (b := (decide ((100 : Int) < (ByteArray.size x38 : Int)))) 54 rfl (fun c39 => ?_) (fun c39 => ?_)
          · have h := ifT c39 h
            refine aw_cond_t (by decide) rfl ?_
            refine aw_seq_k (fun K40 hK40 => ?_)
            refine aw_reg ?_
            refine ao_cons (acts_of rfl (does_assign (v := .bool true) (by exact rfl))) (by decide) ?_
            refine ao_nil_n ?_
            refine hK40 _ ?_
            refine aw_ret ?_
            have h := leafR h hq30
            have h := leafR h hk27
            obtain rfl := Option.some.inj h
            exact ret_ok1 (by conv => lhs; whnf) (by conv => lhs; whnf) (by exact rfl) (.inr rfl) rfl
          · have h := ifF c39 h
            refine aw_cond_f (by decide) rfl ?_
            refine aw_skip ?_
            refine hK35 _ ?_
            refine aw_reg ?_
            refine ao_cons (acts_of rfl (does_move (v := .own 6 0) (by exact rfl))) (by decide) ?_
            refine ao_cons (acts_of rfl (does_move (v := .sl 1 (List.map enc9 a1)) (by exact rfl))) (by decide) ?_
            refine ao_cons (acts_of rfl (does_move (v := .int .i64 v8_4) (by exact rfl))) (by decide) ?_
            obtain ⟨g41, h⟩ := gd_some h
            obtain ⟨x42, hx42, h⟩ := bnd_some h
            refine ao_cons (acts_of rfl (does_indexAddr_sl (el := .str x42) (by conv => lhs; whnf) (by conv => lhs; whnf) ty62 ty9 g41 (by exact map_get hx42))) (by decide) ?_
            refine ao_cons (acts_of rfl (does_load (v := .str x42) (by conv => lhs; whnf) (by conv => lhs; whnf) ty9 (by exact rfl))) (by decide) ?_
            obtain ⟨x43, hx43, h⟩ := bnd_some h
            refine ao_cons (acts_of rfl (do_callG (bcs := []) [] [] [(6, 0)] 60 false (ints_Text_ok v6_s_4 x42 hx43) rfl ent40 trivial trivial rfl rfl rfl rfl rfl rfl rfl rfl (.inr ⟨rfl, rfl, ⟨plain_map (fun _ => rfl), trivial⟩⟩))) (by decide) ?_
            refine ao_cons (acts_of rfl (does_assign (v := .own 60 0) (by exact rfl))) (by decide) ?_
            refine ao_nil_n ?_
            refine hK34 _ ?_
            refine aw_reg ?_
            refine ao_cons (acts_of rfl (does_move (v := .int .i64 v8_4) (by exact rfl))) (by decide) ?_
            refine ao_cons (acts_of rfl (does_bin (v := .int .i64 (IntKind.i64.wrap (v8_4 + 1))) (by conv => lhs; whnf) (by conv => lhs; whnf) rfl)) (by decide) ?_
            refine ao_cons (acts_of rfl (does_assign (v := .int .i64 (IntKind.i64.wrap (v8_4 + 1))) (by exact rfl))) (by decide) ?_
            refine ao_nil_n ?_
            have h := leafL h hq30
            exact ⟨m4, Nat.lt_succ_self _, _, reb_lit [(0, .sl 1 (List.map enc12 a0)), (1, .sl 1 (List.map enc9 a1)), (6, .own 6 0), (8, .int .i64 (IntKind.i64.wrap (v8_4 + 1)))] [(60, 0)] [((6, 0), .arr 5 1 false (List.map enc5 x43))] [(6, 1)] (envOk_cons (by conv => lhs; whnf) (by exact rfl) (envOk_cons (by conv => lhs; whnf) (by exact rfl) (envOk_cons (by conv => lhs; whnf) (by exact rfl) (envOk_cons (by conv => lhs; whnf) (by exact rfl) envOk_nil)))) (objOk_cons (by conv => lhs; whnf) (by conv => lhs; whnf) (by exact rfl) (by simp) objOk_nil) (nodup_b rfl) (nodup_b rfl) rfl rfl, x43, (IntKind.i64.wrap (v8_4 + 1)), h, rfl⟩
        · have h := ifF c33 h
          refine aw_cond_f (by decide) rfl ?_
          refine aw_exit ?_
          have h := leafR h hq30
          have h := leafL h hk27
          exact ⟨_, reb_lit [(0, .sl 1 (List.map enc12 a0)), (1, .sl 1 (List.map enc9 a1)), (6, .own 6 0)] [(6, 0)] [((6, 0), .arr 5 1 false (List.map enc5 v6_s_4))] [(6, 1)] (envOk_cons (by conv => lhs; whnf) (by exact rfl) (envOk_cons (by conv => lhs; whnf) (by exact rfl) (envOk_cons (by conv => lhs; whnf) (by exact rfl) envOk_nil))) (objOk_cons (by conv => lhs; whnf) (by conv => lhs; whnf) (by exact rfl) (by simp) objOk_nil) (nodup_b rfl) (nodup_b rfl) rfl rfl, v6_s_4, h, rfl⟩
      · rintro s ⟨v6_s_3, h, rfl⟩
        unfold gleaninglaw1_IntsRow_k3 at h
        obtain ⟨q44, h, hk45⟩ := bnd_some h
        refine aw_cut (fun s => ∃ (v6_5 : List UInt8), gleaninglaw1_IntsRow_k5 a1 v6_5 = some r ∧ s = lit [(1, .sl 1 (List.map enc9 a1)), (6, .sl 1 (List.map enc5 v6_5))] [] [] X) ?_ ?_
        · skip
          refine aw_seq_k (fun K46 hK46 => ?_)
          refine aw_reg ?_
          refine ao_cons (acts_of rfl (does_assign (v := .int .i64 0) (by exact rfl))) (by decide) ?_
          refine ao_nil_n ?_
          refine hK46 _ ?_
          refine aw_block ?_
          refine aw_loop' (fun m s => ∃ (v6_6 : List UInt8), ∃ (v9_6 : Int), loopN (fun (s : List UInt8 × Int) => gleaninglaw1_IntsRow_l6 a0 s.1 s.2) m (v6_6, v9_6) = some q44 ∧ s = lit [(0, .sl 1 (List.map enc12 a0)), (1, .sl 1 (List.map enc9 a1)), (6, .sl 1 (List.map enc5 v6_6)), (9, .int .i64 v9_6)] [] [] X) Fu
            ⟨_, reb_lit [(0, .sl 1 (List.map enc12 a0)), (1, .sl 1 (List.map enc9 a1)), (6, .sl 1 (List.map enc5 v6_s_3)), (9, .int .i64 (0))] [] [] [] (envOk_cons (by conv => lhs; whnf) (by exact rfl) (envOk_cons (by conv => lhs; whnf) (by exact rfl) (envOk_cons (by conv => lhs; whnf) (by exact rfl) (envOk_cons (by conv => lhs; whnf) (by exact rfl) envOk_nil)))) objOk_nil (nodup_b rfl) (nodup_b rfl) rfl rfl, v6_s_3, 0, h, rfl⟩ ?_
          rintro m s ⟨v6_6, v9_6, h, rfl⟩
          obtain ⟨m6, q47, rfl, h, hq48⟩ := loop_some h
          replace h : gleaninglaw1_IntsRow_l6 a0 v6_6 v9_6 = some q47 := h
          unfold gleaninglaw1_IntsRow_l6 at h
          refine aw_seq_k (fun K49 hK49 => ?_)
          refine aw_seq_k (fun K50 hK50 => ?_)
          refine aw_reg ?_
          refine ao_cons (acts_of rfl (does_move (v := .int .i64 v9_6) (by exact rfl))) (by decide) ?_
          refine ao_cons (acts_of rfl (does_move (v := .sl 1 (List.map enc12 a0)) (by exact rfl))) (by decide) ?_
          refine ao_cons (acts_of rfl ((does_len_sl (by conv => lhs; whnf) ty61).castp (v' := .int .i64 (List.length a0 : Int)) (by exact len_map _))) (by decide) ?_
          refine ao_cons (acts_of rfl (does_bin (v := .bool (decide (v9_6 < (List.length a0 : Int)))) (by conv => lhs; whnf) (by conv => lhs; whnf) rfl)) (by decide) ?_
          refine ao_nil_n ?_
          refine hK50 _ ?_
          refine aw_bool (b := (decide (v9_6 < (List.length a0 : Int)))) 64 rfl (fun c51 => ?_) (fun c51 => ?_)
          · have h := ifT c51 h
            refine aw_cond_t (by decide) rfl ?_
            refine aw_skip ?_
            refine hK49 _ ?_
            refine aw_seq_k (fun K52 hK52 => ?_)
            refine aw_block ?_
            refine aw_seq_k (fun K53 hK53 => ?_)
            refine aw_reg ?_
            refine ao_cons (acts_of rfl (does_move (v := .sl 1 (List.map enc5 v6_6)) (by exact rfl))) (by decide) ?_
            obtain ⟨x54, hx54, h⟩ := bnd_some h
            refine ao_cons (acts_of rfl (do_call0 69 false (ints_Get_ok v6_6 hx54) rfl ent28 rfl rfl)) (by decide) ?_
            refine ao_cons (acts_of rfl (does_move (v := .tup [.int .u64 x54.1, .int .i64 x54.2.1, .bool x54.2.2]) (by exact rfl))) (by decide) ?_
            refine ao_cons (acts_of rfl (does_extract (v := .int .u64 x54.1) (by conv => lhs; whnf) (by exact rfl))) (by decide) ?_
            refine ao_cons (acts_of rfl (does_extract (v := .int .i64 x54.2.1) (by conv => lhs; whnf) (by exact rfl))) (by decide) ?_
            refine ao_cons (acts_of rfl (does_extract (v := .bool x54.2.2) (by conv => lhs; whnf) (by exact rfl))) (by decide) ?_
            refine ao_cons (acts_of rfl (does_assign (v := .int .u64 x54.1) (by exact rfl))) (by decide) ?_
            refine ao_cons (acts_of rfl (does_assign (v := .int .i64 x54.2.1) (by exact rfl))) (by decide) ?_
            refine ao_cons (acts_of rfl (does_assign (v := .bool x54.2.2) (by exact rfl))) (by decide) ?_
            refine ao_nil_n ?_
            refine hK53 _ ?_
            obtain ⟨q55, h, hk56⟩ := bnd_some h
            refine aw_cut (fun s => gleaninglaw1_IntsRow_k7 v6_6 v9_6 x54 = some q47 ∧ s = lit [(0, .sl 1 (List.map enc12 a0)), (1, .sl 1 (List.map enc9 a1)), (6, .sl 1 (List.map enc5 v6_6)), (9, .int .i64 v9_6), (11, .int .i64 x54.2.1)] [] [] X) ?_ ?_
            · skip
              refine aw_seq_k (fun K57 hK57 => ?_)
              refine aw_reg ?_
              refine ao_cons (acts_of rfl (does_move (v := .bool x54.2.2) (by exact rfl))) (by decide) ?_
              refine ao_cons (acts_of rfl (does_un (v := .bool (!x54.2.2)) (by conv => lhs; whnf) rfl)) (by decide) ?_
              refine ao_cons (acts_of rfl (does_move (v := .bool (!x54.2.2)) (by exact rfl))) (by decide) ?_
              refine ao_bool (c := (!x54.2.2)) 75 rfl (fun c58 => ?_) (fun c58 => ?_)
              · have h := ifT c58 h
                refine ao_cons (acts_skip rfl) (by decide) ?_
                refine ao_cons (acts_skip rfl) (by decide) ?_
                refine ao_cons (acts_skip rfl) (by decide) ?_
                refine ao_cons (acts_skip rfl) (by decide) ?_
                refine ao_cons (acts_skip rfl) (by decide) ?_
                refine ao_cons (acts_skip rfl) (by decide) ?_
                refine ao_cons (acts_of rfl (does_pick (v := .bool true) (by conv => lhs; whnf) (by exact rfl))) (by decide) ?_
                refine ao_cons (acts_of rfl (does_move (v := .bool true) (by exact rfl))) (by decide) ?_
                refine ao_cons (acts_skip rfl) (by decide) ?_
                refine ao_cons (acts_skip rfl) (by decide) ?_
                refine ao_cons (acts_of rfl (does_pick (v := .bool true) (by conv => lhs; whnf) (by exact rfl))) (by decide) ?_
                refine ao_cons (acts_of rfl (does_move (v := .bool true) (by exact rfl))) (by decide) ?_
                refine ao_cons (acts_skip rfl) (by decide) ?_
                refine ao_cons (acts_skip rfl) (by decide) ?_
                refine ao_cons (acts_skip rfl) (by decide) ?_
                refine ao_cons (acts_skip rfl) (by decide) ?_
                refine ao_cons (acts_of rfl (does_pick (v := .bool true) (by conv => lhs; whnf) (by exact rfl))) (by decide) ?_
                refine ao_nil_n ?_
                refine hK57 _ ?_
                refine aw_cond_t (by decide) rfl ?_
                refine aw_seq_k (fun K59 hK59 => ?_)
                refine aw_reg ?_
                refine ao_cons (acts_of rfl (does_assign (v := .bool false) (by exact rfl))) (by decide) ?_
                refine ao_nil_n ?_
                refine hK59 _ ?_
                refine aw_ret ?_
                have h := leafR h hk56
                have h := leafR h hq48
                have h := leafR h hk45
                obtain rfl := Option.some.inj h
                exact ret_ok1 (by conv => lhs; whnf) (by conv => lhs; whnf) (by exact rfl) (.inr rfl) rfl
              · have h := ifF c58 h
                refine ao_cons (acts_of rfl (does_move (v := .int .u64 x54.1) (by exact rfl))) (by decide) ?_
                refine ao_cons (acts_of rfl (does_move (v := .sl 1 (List.map enc12 a0)) (by exact rfl))) (by decide) ?_
                refine ao_cons (acts_of rfl (does_move (v := .int .i64 v9_6) (by exact rfl))) (by decide) ?_
                obtain ⟨g60, h⟩ := gd_some h
                obtain ⟨x61, hx61, h⟩ := bnd_some h
                refine ao_cons (acts_of rfl (does_indexAddr_sl (el := .int .u64 x61) (by conv => lhs; whnf) (by conv => lhs; whnf) ty61 ty33 g60 (by exact map_get hx61))) (by decide) ?_
                refine ao_cons (acts_of rfl (does_load (v := .int .u64 x61) (by conv => lhs; whnf) (by conv => lhs; whnf) ty33 (by exact rfl))) (by decide) ?_
                refine ao_cons (acts_of rfl (does_bin (v := .bool (x54.1 != x61)) (by conv => lhs; whnf) (by conv => lhs; whnf) rfl)) (by decide) ?_
                refine ao_cons (acts_of rfl (does_pick (v := .bool (x54.1 != x61)) (by conv => lhs; whnf) (by exact rfl))) (by decide) ?_
                refine ao_cons (acts_of rfl (does_move (v := .bool (x54.1 != x61)) (by exact rfl))) (by decide) ?_
                refine ao_bool (c := (x54.1 != x61)) 83 rfl (fun c62 => ?_) (fun c62 => ?_)
                · have h := ifT c62 h
                  refine ao_cons (acts_skip rfl) (by decide) ?_
                  refine ao_cons (acts_skip rfl) (by decide) ?_
                  refine ao_cons (acts_of rfl (does_pick (v := .bool true) (by conv => lhs; whnf) (by exact rfl))) (by decide) ?_
                  refine ao_cons (acts_of rfl (does_move (v := .bool true) (by exact rfl))) (by decide) ?_
                  refine ao_cons (acts_skip rfl) (by decide) ?_
                  refine ao_cons (acts_skip rfl) (by decide) ?_
                  refine ao_cons (acts_skip rfl) (by decide) ?_
                  refine ao_cons (acts_skip rfl) (by decide) ?_
                  refine ao_cons (acts_of rfl (does_pick (v := .bool true) (by conv => lhs; whnf) (by exact rfl))) (by decide) ?_
                  refine ao_nil_n ?_
                  refine hK57 _ ?_
                  refine aw_cond_t (by decide) rfl ?_
                  refine aw_seq_k (fun K63 hK63 => ?_)
                  refine aw_reg ?_
                  refine ao_cons (acts_of rfl (does_assign (v := .bool false) (by exact rfl))) (by decide) ?_
                  refine ao_nil_n ?_
                  refine hK63 _ ?_
                  refine aw_ret ?_
                  have h := leafR h hk56
                  have h := leafR h hq48
                  have h := leafR h hk45
                  obtain rfl := Option.some.inj h
                  exact ret_ok1 (by conv => lhs; whnf) (by conv => lhs; whnf) (by exact rfl) (.inr rfl) rfl
                · have h := ifF c62 h
                  refine ao_cons (acts_of rfl (does_move (v := .int .i64 x54.2.1) (by exact rfl))) (by decide) ?_
                  refine ao_cons (acts_of rfl (does_bin (v := .bool (decide (x54.2.1 < 1))) (by conv => lhs; whnf) (by conv => lhs; whnf) rfl)) (by decide) ?_
                  refine ao_cons (acts_of rfl (does_pick (v := .bool (decide (x54.2.1 < 1))) (by conv => lhs; whnf) (by exact rfl))) (by decide) ?_
                  refine ao_cons (acts_of rfl (does_move (v := .bool (decide (x54.2.1 < 1))) (by exact rfl))) (by decide) ?_
                  refine ao_bool (c := (decide (x54.2.1 < 1))) 87 rfl (fun c64 => ?_) (fun c64 => ?_)
                  · have h := ifT c64 h
                    refine ao_cons (acts_skip rfl) (by decide) ?_
                    refine ao_cons (acts_skip rfl) (by decide) ?_
                    refine ao_cons (acts_skip rfl) (by decide) ?_
                    refine ao_cons (acts_skip rfl) (by decide) ?_
                    refine ao_cons (acts_of rfl (does_pick (v := .bool true) (by conv => lhs; whnf) (by exact rfl))) (by decide) ?_
                    refine ao_nil_n ?_
                    refine hK57 _ ?_
                    refine aw_cond_t (by decide) rfl ?_
                    refine aw_seq_k (fun K65 hK65 => ?_)
                    refine aw_reg ?_
                    refine ao_cons (acts_of rfl (does_assign (v := .bool false) (by exact rfl))) (by decide) ?_
                    refine ao_nil_n ?_
                    refine hK65 _ ?_
                    refine aw_ret ?_
                    have h := leafR h hk56
                    have h := leafR h hq48
                    have h := leafR h hk45
                    obtain rfl := Option.some.inj h
                    exact ret_ok1 (by conv => lhs; whnf) (by conv => lhs; whnf) (by exact rfl) (.inr rfl) rfl
                  · have h := ifF c64 h
                    refine ao_cons (acts_of rfl (does_move (v := .int .i64 x54.2.1) (by exact rfl))) (by decide) ?_
                    refine ao_cons (acts_of rfl (does_move (v := .sl 1 (List.map enc5 v6_6)) (by exact rfl))) (by decide) ?_
                    refine ao_cons (acts_of rfl ((does_len_sl (by conv => lhs; whnf) ty22).castp (v' := .int .i64 (List.length v6_6 : Int)) (by exact len_map _))) (by decide) ?_
                    refine ao_cons (acts_of rfl (does_bin (v := .bool (decide ((List.length v6_6 : Int) < x54.2.1))) (by conv => lhs; whnf) (by conv => lhs; whnf) rfl)) (by decide) ?_
                    refine ao_cons (acts_of rfl (does_pick (v := .bool (decide ((List.length v6_6 : Int) < x54.2.1))) (by conv => lhs; whnf) (by exact rfl))) (by decide) ?_
                    refine ao_nil_n ?_
                    refine hK57 _ ?_
                    refine aw_bool (b := (decide ((List.length v6_6 : Int) < x54.2.1))) 92 rfl (fun c66 => ?_) (fun c66 => ?_)
                    · have h := ifT c66 h
                      refine aw_cond_t (by decide) rfl ?_
                      refine aw_seq_k (fun K67 hK67 => ?_)
                      refine aw_reg ?_
                      refine ao_cons (acts_of rfl (does_assign (v := .bool false) (by exact rfl))) (by decide) ?_
                      refine ao_nil_n ?_
                      refine hK67 _ ?_
                      refine aw_ret ?_
                      have h := leafR h hk56
                      have h := leafR h hq48
                      have h := leafR h hk45
                      obtain rfl := Option.some.inj h
                      exact ret_ok1 (by conv => lhs; whnf) (by conv => lhs; whnf) (by exact rfl) (.inr rfl) rfl
                    · have h := ifF c66 h
                      refine aw_cond_f (by decide) rfl ?_
                      refine aw_skip ?_
                      have h := leafL h hk56
                      exact ⟨_, reb_lit [(0, .sl 1 (List.map enc12 a0)), (1, .sl 1 (List.map enc9 a1)), (6, .sl 1 (List.map enc5 v6_6)), (9, .int .i64 v9_6), (11, .int .i64 x54.2.1)] [] [] [] (envOk_cons (by conv => lhs; whnf) (by exact rfl) (envOk_cons (by conv => lhs; whnf) (by exact rfl) (envOk_cons (by conv => lhs; whnf) (by exact rfl) (envOk_cons (by conv => lhs; whnf) (by exact rfl) (envOk_cons (by conv => lhs; whnf) (by exact rfl) envOk_nil))))) objOk_nil (nodup_b rfl) (nodup_b rfl) rfl rfl, h, rfl⟩
            · rintro s ⟨h, rfl⟩
              unfold gleaninglaw1_IntsRow_k7 at h
              refine aw_reg ?_
              refine ao_cons (acts_of rfl (does_move (v := .sl 1 (List.map enc5 v6_6)) (by exact rfl))) (by decide) ?_
              refine ao_cons (acts_of rfl (does_move (v := .int .i64 x54.2.1) (by exact rfl))) (by decide) ?_
              obtain ⟨g68, h⟩ := gd_some h
              obtain ⟨g69, h⟩ := gd_some h
              refine ao_cons (acts_of rfl (does_slice_sl (l := (Int.toNat x54.2.1)) (by conv => lhs; whnf) ty22 ty5 (bd_some (by conv => lhs; whnf) (by exact (nat_of g68))) bd_none (by (try simp only [List.length_map]); omega) (by (try simp only [List.length_map]); omega) (by exact part_l _ _))) (by decide) ?_
              refine ao_cons (acts_of rfl (does_assign (v := .sl 1 (List.map enc5 (List.drop (Int.toNat x54.2.1) v6_6))) (by exact rfl))) (by decide) ?_
              refine ao_nil_n ?_
              refine hK52 _ ?_
              refine aw_reg ?_
              refine ao_cons (acts_of rfl (does_move (v := .int .i64 v9_6) (by exact rfl))) (by decide) ?_
              refine ao_cons (acts_of rfl (does_bin (v := .int .i64 (IntKind.i64.wrap (v9_6 + 1))) (by conv => lhs; whnf) (by conv => lhs; whnf) rfl)) (by decide) ?_
              refine ao_cons (acts_of rfl (does_assign (v := .int .i64 (IntKind.i64.wrap (v9_6 + 1))) (by exact rfl))) (by decide) ?_
              refine ao_nil_n ?_
              have h := leafL h hq48
              exact ⟨m6, Nat.lt_succ_self _, _, reb_lit [(0, .sl 1 (List.map enc12 a0)), (1, .sl 1 (List.map enc9 a1)), (6, .sl 1 (List.map enc5 (List.drop (Int.toNat x54.2.1) v6_6))), (9, .int .i64 (IntKind.i64.wrap (v9_6 + 1)))] [] [] [] (envOk_cons (by conv => lhs; whnf) (by exact rfl) (envOk_cons (by conv => lhs; whnf) (by exact rfl) (envOk_cons (by conv => lhs; whnf) (by exact rfl) (envOk_cons (by conv => lhs; whnf) (by exact rfl) envOk_nil)))) objOk_nil (nodup_b rfl) (nodup_b rfl) rfl rfl, (List.drop (Int.toNat x54.2.1) v6_6), (IntKind.i64.wrap (v9_6 + 1)), h, rfl⟩
          · have h := ifF c51 h
            refine aw_cond_f (by decide) rfl ?_
            refine aw_exit ?_
            have h := leafR h hq48
            have h := leafL h hk45
            exact ⟨_, reb_lit [(1, .sl 1 (List.map enc9 a1)), (6, .sl 1 (List.map enc5 v6_6))] [] [] [] (envOk_cons (by conv => lhs; whnf) (by exact rfl) (envOk_cons (by conv => lhs; whnf) (by exact rfl) envOk_nil)) objOk_nil (nodup_b rfl) (nodup_b rfl) rfl rfl, v6_6, h, rfl⟩
        · rintro s ⟨v6_5, h, rfl⟩
          unfold gleaninglaw1_IntsRow_k5 at h
          obtain ⟨q70, h, hk71⟩ := bnd_some h
          refine aw_cut (fun s => ∃ (v6_8 : List UInt8), gleaninglaw1_IntsRow_k8 v6_8 = some r ∧ s = lit [(6, .sl 1 (List.map enc5 v6_8))] [] [] X) ?_ ?_
          · skip
            refine aw_seq_k (fun K72 hK72 => ?_)
            refine aw_reg ?_
            refine ao_cons (acts_of rfl (does_assign (v := .int .i64 0) (by exact rfl))) (by decide) ?_
            refine ao_nil_n ?_
            refine hK72 _ ?_
            refine aw_block ?_
            refine aw_loop' (fun m s => ∃ (v6_9 : List UInt8), ∃ (v13_9 : Int), loopN (fun (s : List UInt8 × Int) => gleaninglaw1_IntsRow_l9 a1 s.1 s.2) m (v6_9, v13_9) = some q70 ∧ s = lit [(1, .sl 1 (List.map enc9 a1)), (6, .sl 1 (List.map enc5 v6_9)), (13, .int .i64 v13_9)] [] [] X) Fu
              ⟨_, reb_lit [(1, .sl 1 (List.map enc9 a1)), (6, .sl 1 (List.map enc5 v6_5)), (13, .int .i64 (0))] [] [] [] (envOk_cons (by conv => lhs; whnf) (by exact rfl) (envOk_cons (by conv => lhs; whnf) (by exact rfl) (envOk_cons (by conv => lhs; whnf) (by exact rfl) envOk_nil))) objOk_nil (nodup_b rfl) (nodup_b rfl) rfl rfl, v6_5, 0, h, rfl⟩ ?_
            rintro m s ⟨v6_9, v13_9, h, rfl⟩
            obtain ⟨m9, q73, rfl, h, hq74⟩ := loop_some h
            replace h : gleaninglaw1_IntsRow_l9 a1 v6_9 v13_9 = some q73 := h
            unfold gleaninglaw1_IntsRow_l9 at h
            refine aw_seq_k (fun K75 hK75 => ?_)
            refine aw_seq_k (fun K76 hK76 => ?_)
            refine aw_reg ?_
            refine ao_cons (acts_of rfl (does_move (v := .int .i64 v13_9) (by exact rfl))) (by decide) ?_
            refine ao_cons (acts_of rfl (does_move (v := .sl 1 (List.map enc9 a1)) (by exact rfl))) (by decide) ?_
            refine ao_cons (acts_of rfl ((does_len_sl (by conv => lhs; whnf) ty62).castp (v' := .int .i64 (List.length a1 : Int)) (by exact len_map _))) (by decide) ?_
            refine ao_cons (acts_of rfl (does_bin (v := .bool (decide (v13_9 < (List.length a1 : Int)))) (by conv => lhs; whnf) (by conv => lhs; whnf) rfl)) (by decide) ?_
            refine ao_nil_n ?_
            refine hK76 _ ?_
            refine aw_bool (b := (decide (v13_9 < (List.length a1 : Int)))) 99 rfl (fun c77 => ?_) (fun c77 => ?_)
            · have h := ifT c77 h
              refine aw_cond_t (by decide) rfl ?_
              refine aw_skip ?_
              refine hK75 _ ?_
              refine aw_seq_k (fun K78 hK78 => ?_)
              refine aw_block ?_
              refine aw_seq_k (fun K79 hK79 => ?_)
              refine aw_reg ?_
              refine ao_cons (acts_of rfl (does_move (v := .sl 1 (List.map enc5 v6_9)) (by exact rfl))) (by decide) ?_
              obtain ⟨x80, hx80, h⟩ := bnd_some h
              refine ao_cons (acts_of rfl (do_call0 104 false (ints_GetText_ok v6_9 hx80) rfl ent37 rfl rfl)) (by decide) ?_
              refine ao_cons (acts_of rfl (does_move (v := .tup [.str x80.1, .int .i64 x80.2.1, .bool x80.2.2]) (by exact rfl))) (by decide) ?_
              refine ao_cons (acts_of rfl (does_extract (v := .str x80.1) (by conv => lhs; whnf) (by exact rfl))) (by decide) ?_
              refine ao_cons (acts_of rfl (does_extract (v := .int .i64 x80.2.1) (by conv => lhs; whnf) (by exact rfl))) (by decide) ?_
              refine ao_cons (acts_of rfl (does_extract (v := .bool x80.2.2) (by conv => lhs; whnf) (by exact rfl))) (by decide) ?_
              refine ao_cons (acts_of rfl (does_assign (v := .str x80.1) (by exact rfl))) (by decide) ?_
              refine ao_cons (acts_of rfl (does_assign (v := .int .i64 x80.2.1) (by exact rfl))) (by decide) ?_
              refine ao_cons (acts_of rfl (does_assign (v := .bool x80.2.2) (by exact rfl))) (by decide) ?_
              refine ao_nil_n ?_
              refine hK79 _ ?_
              obtain ⟨q81, h, hk82⟩ := bnd_some h
              refine aw_cut (fun s => gleaninglaw1_IntsRow_k10 v6_9 v13_9 x80 = some q73 ∧ s = lit [(1, .sl 1 (List.map enc9 a1)), (6, .sl 1 (List.map enc5 v6_9)), (13, .int .i64 v13_9), (15, .int .i64 x80.2.1)] [] [] X) ?_ ?_
              · skip
                refine aw_seq_k (fun K83 hK83 => ?_)
                refine aw_reg ?_
                refine ao_cons (acts_of rfl (does_move (v := .bool x80.2.2) (by exact rfl))) (by decide) ?_
                refine ao_cons (acts_of rfl (does_un (v := .bool (!x80.2.2)) (by conv => lhs; whnf) rfl)) (by decide) ?_
                refine ao_cons (acts_of rfl (does_move (v := .bool (!x80.2.2)) (by exact rfl))) (by decide) ?_
                refine ao_bool (c := (!x80.2.2)) 110 rfl (fun c84 => ?_) (fun c84 => ?_)
                · have h := ifT c84 h
                  refine ao_cons (acts_skip rfl) (by decide) ?_
                  refine ao_cons (acts_skip rfl) (by decide) ?_
                  refine ao_cons (acts_skip rfl) (by decide) ?_
                  refine ao_cons (acts_skip rfl) (by decide) ?_
                  refine ao_cons (acts_skip rfl) (by decide) ?_
                  refine ao_cons (acts_skip rfl) (by decide) ?_
                  refine ao_cons (acts_of rfl (does_pick (v := .bool true) (by conv => lhs; whnf) (by exact rfl))) (by decide) ?_
                  refine ao_cons (acts_of rfl (does_move (v := .bool true) (by exact rfl))) (by decide) ?_
                  refine ao_cons (acts_skip rfl) (by decide) ?_
                  refine ao_cons (acts_skip rfl) (by decide) ?_
                  refine ao_cons (acts_of rfl (does_pick (v := .bool true) (by conv => lhs; whnf) (by exact rfl))) (by decide) ?_
                  refine ao_cons (acts_of rfl (does_move (v := .bool true) (by exact rfl))) (by decide) ?_
                  refine ao_cons (acts_skip rfl) (by decide) ?_
                  refine ao_cons (acts_skip rfl) (by decide) ?_
                  refine ao_cons (acts_skip rfl) (by decide) ?_
                  refine ao_cons (acts_skip rfl) (by decide) ?_
                  refine ao_cons (acts_of rfl (does_pick (v := .bool true) (by conv => lhs; whnf) (by exact rfl))) (by decide) ?_
                  refine ao_nil_n ?_
                  refine hK83 _ ?_
                  refine aw_cond_t (by decide) rfl ?_
                  refine aw_seq_k (fun K85 hK85 => ?_)
                  refine aw_reg ?_
                  refine ao_cons (acts_of rfl (does_assign (v := .bool false) (by exact rfl))) (by decide) ?_
                  refine ao_nil_n ?_
                  refine hK85 _ ?_
                  refine aw_ret ?_
                  have h := leafR h hk82
                  have h := leafR h hq74
                  have h := leafR h hk71
                  obtain rfl := Option.some.inj h
                  exact ret_ok1 (by conv => lhs; whnf) (by conv => lhs; whnf) (by exact rfl) (.inr rfl) rfl
                · have h := ifF c84 h
                  refine ao_cons (acts_of rfl (does_move (v := .str x80.1) (by exact rfl))) (by decide) ?_
                  refine ao_cons (acts_of rfl (does_move (v := .sl 1 (List.map enc9 a1)) (by exact rfl))) (by decide) ?_
                  refine ao_cons (acts_of rfl (does_move (v := .int .i64 v13_9) (by exact rfl))) (by decide) ?_
                  obtain ⟨g86, h⟩ := gd_some h
                  obtain ⟨x87, hx87, h⟩ := bnd_some h
                  refine ao_cons (acts_of rfl (does_indexAddr_sl (el := .str x87) (by conv => lhs; whnf) (by conv => lhs; whnf) ty62 ty9 g86 (by exact map_get hx87))) (by decide) ?_
                  refine ao_cons (acts_of rfl (does_load (v := .str x87) (by conv => lhs; whnf) (by conv => lhs; whnf) ty9 (by exact rfl))) (by decide) ?_
                  refine ao_cons (acts_of rfl (does_bin (v := .bool (!(ByteArray.toList x80.1 == ByteArray.toList x87))) (by conv => lhs; whnf) (by conv => lhs; whnf) rfl)) (by decide) ?_
                  refine ao_cons (acts_of rfl (does_pick (v := .bool (!(ByteArray.toList x80.1 == ByteArray.toList x87))) (by conv => lhs; whnf) (by exact rfl))) (by decide) ?_
                  refine ao_cons (acts_of rfl (does_move (v := .bool (!(ByteArray.toList x80.1 == ByteArray.toList x87))) (by exact rfl))) (by decide) ?_
                  refine ao_bool (c := (!(ByteArray.toList x80.1 == ByteArray.toList x87))) 118 rfl (fun c88 => ?_) (fun c88 => ?_)
                  · have h := ifT c88 h
                    refine ao_cons (acts_skip rfl) (by decide) ?_
                    refine ao_cons (acts_skip rfl) (by decide) ?_
                    refine ao_cons (acts_of rfl (does_pick (v := .bool true) (by conv => lhs; whnf) (by exact rfl))) (by decide) ?_
                    refine ao_cons (acts_of rfl (does_move (v := .bool true) (by exact rfl))) (by decide) ?_
                    refine ao_cons (acts_skip rfl) (by decide) ?_
                    refine ao_cons (acts_skip rfl) (by decide) ?_
                    refine ao_cons (acts_skip rfl) (by decide) ?_
                    refine ao_cons (acts_skip rfl) (by decide) ?_
                    refine ao_cons (acts_of rfl (does_pick (v := .bool true) (by conv => lhs; whnf) (by exact rfl))) (by decide) ?_
                    refine ao_nil_n ?_
                    refine hK83 _ ?_
                    refine aw_cond_t (by decide) rfl ?_
                    refine aw_seq_k (fun K89 hK89 => ?_)
                    refine aw_reg ?_
                    refine ao_cons (acts_of rfl (does_assign (v := .bool false) (by exact rfl))) (by decide) ?_
                    refine ao_nil_n ?_
                    refine hK89 _ ?_
                    refine aw_ret ?_
                    have h := leafR h hk82
                    have h := leafR h hq74
                    have h := leafR h hk71
                    obtain rfl := Option.some.inj h
                    exact ret_ok1 (by conv => lhs; whnf) (by conv => lhs; whnf) (by exact rfl) (.inr rfl) rfl
                  · have h := ifF c88 h
                    refine ao_cons (acts_of rfl (does_move (v := .int .i64 x80.2.1) (by exact rfl))) (by decide) ?_
                    refine ao_cons (acts_of rfl (does_bin (v := .bool (decide (x80.2.1 < 1))) (by conv => lhs; whnf) (by conv => lhs; whnf) rfl)) (by decide) ?_
                    refine ao_cons (acts_of rfl (does_pick (v := .bool (decide (x80.2.1 < 1))) (by conv => lhs; whnf) (by exact rfl))) (by decide) ?_
                    refine ao_cons (acts_of rfl (does_move (v := .bool (decide (x80.2.1 < 1))) (by exact rfl))) (by decide) ?_
                    refine ao_bool (c := (decide (x80.2.1 < 1))) 122 rfl (fun c90 => ?_) (fun c90 => ?_)
                    · have h := ifT c90 h
                      refine ao_cons (acts_skip rfl) (by decide) ?_
                      refine ao_cons (acts_skip rfl) (by decide) ?_
                      refine ao_cons (acts_skip rfl) (by decide) ?_
                      refine ao_cons (acts_skip rfl) (by decide) ?_
                      refine ao_cons (acts_of rfl (does_pick (v := .bool true) (by conv => lhs; whnf) (by exact rfl))) (by decide) ?_
                      refine ao_nil_n ?_
                      refine hK83 _ ?_
                      refine aw_cond_t (by decide) rfl ?_
                      refine aw_seq_k (fun K91 hK91 => ?_)
                      refine aw_reg ?_
                      refine ao_cons (acts_of rfl (does_assign (v := .bool false) (by exact rfl))) (by decide) ?_
                      refine ao_nil_n ?_
                      refine hK91 _ ?_
                      refine aw_ret ?_
                      have h := leafR h hk82
                      have h := leafR h hq74
                      have h := leafR h hk71
                      obtain rfl := Option.some.inj h
                      exact ret_ok1 (by conv => lhs; whnf) (by conv => lhs; whnf) (by exact rfl) (.inr rfl) rfl
                    · have h := ifF c90 h
                      refine ao_cons (acts_of rfl (does_move (v := .int .i64 x80.2.1) (by exact rfl))) (by decide) ?_
                      refine ao_cons (acts_of rfl (does_move (v := .sl 1 (List.map enc5 v6_9)) (by exact rfl))) (by decide) ?_
                      refine ao_cons (acts_of rfl ((does_len_sl (by conv => lhs; whnf) ty22).castp (v' := .int .i64 (List.length v6_9 : Int)) (by exact len_map _))) (by decide) ?_
                      refine ao_cons (acts_of rfl (does_bin (v := .bool (decide ((List.length v6_9 : Int) < x80.2.1))) (by conv => lhs; whnf) (by conv => lhs; whnf) rfl)) (by decide) ?_
                      refine ao_cons (acts_of rfl (does_pick (v := .bool (decide ((List.length v6_9 : Int) < x80.2.1))) (by conv => lhs; whnf) (by exact rfl))) (by decide) ?_
                      refine ao_nil_n ?_
                      refine hK83 _ ?_
                      refine aw_bool (b := (decide ((List.length v6_9 : Int) < x80.2.1))) 127 rfl (fun c92 => ?_) (fun c92 => ?_)
                      · have h := ifT c92 h
                        refine aw_cond_t (by decide) rfl ?_
                        refine aw_seq_k (fun K93 hK93 => ?_)
                        refine aw_reg ?_
                        refine ao_cons (acts_of rfl (does_assign (v := .bool false) (by exact rfl))) (by decide) ?_
                        refine ao_nil_n ?_
                        refine hK93 _ ?_
                        refine aw_ret ?_
                        have h := leafR h hk82
                        have h := leafR h hq74
                        have h := leafR h hk71
                        obtain rfl := Option.some.inj h
                        exact ret_ok1 (by conv => lhs; whnf) (by conv => lhs; whnf) (by exact rfl) (.inr rfl) rfl
                      · have h := ifF c92 h
                        refine aw_cond_f (by decide) rfl ?_
                        refine aw_skip ?_
                        have h := leafL h hk82
                        exact ⟨_, reb_lit [(1, .sl 1 (List.map enc9 a1)), (6, .sl 1 (List.map enc5 v6_9)), (13, .int .i64 v13_9), (15, .int .i64 x80.2.1)] [] [] [] (envOk_cons (by conv => lhs; whnf) (by exact rfl) (envOk_cons (by conv => lhs; whnf) (by exact rfl) (envOk_cons (by conv => lhs; whnf) (by exact rfl) (envOk_cons (by conv => lhs; whnf) (by exact rfl) envOk_nil)))) objOk_nil (nodup_b rfl) (nodup_b rfl) rfl rfl, h, rfl⟩
              · rintro s ⟨h, rfl⟩
                unfold gleaninglaw1_IntsRow_k10 at h
                refine aw_reg ?_
                refine ao_cons (acts_of rfl (does_move (v := .sl 1 (List.map enc5 v6_9)) (by exact rfl))) (by decide) ?_
                refine ao_cons (acts_of rfl (does_move (v := .int .i64 x80.2.1) (by exact rfl))) (by decide) ?_
                obtain ⟨g94, h⟩ := gd_some h
                obtain ⟨g95, h⟩ := gd_some h
                refine ao_cons (acts_of rfl (does_slice_sl (l := (Int.toNat x80.2.1)) (by conv => lhs; whnf) ty22 ty5 (bd_some (by conv => lhs; whnf) (by exact (nat_of g94))) bd_none (by (try simp only [List.length_map]); omega) (by (try simp only [List.length_map]); omega) (by exact part_l _ _))) (by decide) ?_
                refine ao_cons (acts_of rfl (does_assign (v := .sl 1 (List.map enc5 (List.drop (Int.toNat x80.2.1) v6_9))) (by exact rfl))) (by decide) ?_
                refine ao_nil_n ?_
                refine hK78 _ ?_
                refine aw_reg ?_
                refine ao_cons (acts_of rfl (does_move (v := .int .i64 v13_9) (by exact rfl))) (by decide) ?_
                refine ao_cons (acts_of rfl (does_bin (v := .int .i64 (IntKind.i64.wrap (v13_9 + 1))) (by conv => lhs; whnf) (by conv => lhs; whnf) rfl)) (by decide) ?_
                refine ao_cons (acts_of rfl (does_assign (v := .int .i64 (IntKind.i64.wrap (v13_9 + 1))) (by exact rfl))) (by decide) ?_
                refine ao_nil_n ?_
                have h := leafL h hq74
                exact ⟨m9, Nat.lt_succ_self _, _, reb_lit [(1, .sl 1 (List.map enc9 a1)), (6, .sl 1 (List.map enc5 (List.drop (Int.toNat x80.2.1) v6_9))), (13, .int .i64 (IntKind.i64.wrap (v13_9 + 1)))] [] [] [] (envOk_cons (by conv => lhs; whnf) (by exact rfl) (envOk_cons (by conv => lhs; whnf) (by exact rfl) (envOk_cons (by conv => lhs; whnf) (by exact rfl) envOk_nil))) objOk_nil (nodup_b rfl) (nodup_b rfl) rfl rfl, (List.drop (Int.toNat x80.2.1) v6_9), (IntKind.i64.wrap (v13_9 + 1)), h, rfl⟩
            · have h := ifF c77 h
              refine aw_cond_f (by decide) rfl ?_
              refine aw_exit ?_
              have h := leafR h hq74
              have h := leafL h hk71
              exact ⟨_, reb_lit [(6, .sl 1 (List.map enc5 v6_9))] [] [] [] (envOk_cons (by conv => lhs; whnf) (by exact rfl) envOk_nil) objOk_nil (nodup_b rfl) (nodup_b rfl) rfl rfl, v6_9, h, rfl⟩
          · rintro s ⟨v6_8, h, rfl⟩
            unfold gleaninglaw1_IntsRow_k8 at h
            refine aw_seq_k (fun K96 hK96 => ?_)
            refine aw_reg ?_
            refine ao_cons (acts_of rfl (does_move (v := .sl 1 (List.map enc5 v6_8)) (by exact rfl))) (by decide) ?_
            refine ao_cons (acts_of rfl ((does_len_sl (by conv => lhs; whnf) ty22).castp (v' := .int .i64 (List.length v6_8 : Int)) (by exact len_map _))) (by decide) ?_
            refine ao_cons (acts_of rfl (does_bin (v := .bool ((List.length v6_8 : Int) == 0)) (by conv => lhs; whnf) (by conv => lhs; whnf) rfl)) (by decide) ?_
            refine ao_cons (acts_of rfl (does_assign (v := .bool ((List.length v6_8 : Int) == 0)) (by exact rfl))) (by decide) ?_
            refine ao_nil_n ?_
            refine hK96 _ ?_
            refine aw_ret ?_
            obtain rfl := Option.some.inj h
            exact ret_ok1 (by conv => lhs; whnf) (by conv => lhs; whnf) (by exact rfl) (.inr rfl) rfl
theorem sh61 : ∀ (m : Nat) (cs : List PV), Shape Try.prog m 61 cs → ∃ a : List Int, cs = [.sl 1 (List.map enc12 a)] ∧ ((List.length a) ≤ maxLen ∧ ∀ y ∈ a, inI .u64 y) := fun m cs h => by
  obtain ⟨l, h1, h2, h3⟩ := shape_rows (f := enc12) (Q := fun y => inI .u64 y) h Try.underlying61 (fun m ps hs => by
    obtain ⟨a, rfl, hw⟩ := sh33 m ps hs
    exact ⟨a, by rw [show aggT Try.prog 33 = false by kernel_rfl]; rfl, hw⟩)
  exact ⟨l, h1.trans (by rw [show Try.prog.cellsOf 33 = 1 by kernel_rfl]), h2, h3⟩
theorem sh62 : ∀ (m : Nat) (cs : List PV), Shape Try.prog m 62 cs → ∃ a : List ByteArray, cs = [.sl 1 (List.map enc9 a)] ∧ ((List.length a) ≤ maxLen ∧ ∀ y ∈ a, (ByteArray.size y) ≤ maxLen) := fun m cs h => by
  obtain ⟨l, h1, h2, h3⟩ := shape_rows (f := enc9) (Q := fun y => (ByteArray.size y) ≤ maxLen) h Try.underlying62 (fun m ps hs => by
    obtain ⟨a, rfl, hw⟩ := sh9 m ps hs
    exact ⟨a, by rw [show aggT Try.prog 9 = false by kernel_rfl]; rfl, hw⟩)
  exact ⟨l, h1.trans (by rw [show Try.prog.cellsOf 9 = 1 by kernel_rfl]), h2, h3⟩
end Go.Proofs.Ytomjoccpkknamaa.Ab
