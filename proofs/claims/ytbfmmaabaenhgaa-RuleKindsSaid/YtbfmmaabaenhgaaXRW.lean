/- What writes and reads numbers and texts; the same. -/
import Derived.Test.YtbfmmaabaenhgaaXInts
import Derived.Test.YtbfmmaabaenhgaaProg
namespace Go.Proofs.Ytbfmmaabaenhgaa.Ab
open Go Go.RowKit
set_option linter.unusedVariables false
set_option linter.unusedSimpArgs false
structure Writer where
  B : List UInt8
  deriving DecidableEq
def enc9 (x : ByteArray) : PV := .str x
def enc2 (x : Int) : PV := .int .i64 x
def enc12 (x : Int) : PV := .int .u64 x
structure Reader where
  B : List UInt8
  Bad : Bool
  deriving DecidableEq
theorem ty4 : tyOf Try.prog 4 = some ⟨.bool, 1, 1, [.bool false]⟩ := by kernel_rfl
theorem ty9 : tyOf Try.prog 9 = some ⟨.str, 1, 16, [.str ByteArray.empty]⟩ := by kernel_rfl
theorem ty81 : tyOf Try.prog 81 = some ⟨.slice 25, 1, 24, [.nil]⟩ := by kernel_rfl
theorem ty87 : tyOf Try.prog 87 = some ⟨.struct [(0, 43)], 1, 24, [.nil]⟩ := by kernel_rfl
theorem ty91 : tyOf Try.prog 91 = some ⟨.struct [(0, 43), (1, 4)], 2, 32, [.nil, .bool false]⟩ := by kernel_rfl
theorem ty96 : tyOf Try.prog 96 = some ⟨.struct [(0, 43), (1, 4)], 2, 32, [.nil, .bool false]⟩ := by kernel_rfl
theorem ty129 : tyOf Try.prog 129 = some ⟨.slice 3, 1, 24, [.nil]⟩ := by kernel_rfl
theorem ty137 : tyOf Try.prog 137 = some ⟨.slice 9, 1, 24, [.nil]⟩ := by kernel_rfl
theorem zr5 : (Try.prog.info? 5).bind (·.zero) = some (.int .u8 0) := by kernel_rfl
theorem ent77 : Ent Try.prog 77 := ⟨_, Try.func77, by kernel_rfl, rfl⟩
theorem ent80 : Ent Try.prog 80 := ⟨_, Try.func80, by kernel_rfl, rfl⟩
theorem ent84 : Ent Try.prog 84 := ⟨_, Try.func84, by kernel_rfl, rfl⟩
theorem ent96 : Ent Try.prog 96 := ⟨_, Try.func96, by kernel_rfl, rfl⟩
theorem ent99 : Ent Try.prog 99 := ⟨_, Try.func99, by kernel_rfl, rfl⟩
theorem ent104 : Ent Try.prog 104 := ⟨_, Try.func104, by kernel_rfl, rfl⟩
theorem ent108 : Ent Try.prog 108 := ⟨_, Try.func108, by kernel_rfl, rfl⟩
theorem ent119 : Ent Try.prog 119 := ⟨_, Try.func119, by kernel_rfl, rfl⟩
theorem ent120 : Ent Try.prog 120 := ⟨_, Try.func120, by kernel_rfl, rfl⟩
theorem ent122 : Ent Try.prog 122 := ⟨_, Try.func122, by kernel_rfl, rfl⟩
theorem ent123 : Ent Try.prog 123 := ⟨_, Try.func123, by kernel_rfl, rfl⟩
def ints_Writer_Wide_l2 (vb0_s_0_s_2 : List UInt8) (v5_2 : Int) : Option ((List UInt8 × Int) ⊕ (List UInt8 × Int)) :=
  if (decide ((128 : Int) ≤ v5_2)) = true then (gd ((List.length (vb0_s_0_s_2 ++ [(u8 (bits .or .u8 ((u8 (IntKind.u8.wrap v5_2)).toNat : Int) 128))])) * 1 ≤ 140737488355328 ∧ (List.length (vb0_s_0_s_2 ++ [(u8 (bits .or .u8 ((u8 (IntKind.u8.wrap v5_2)).toNat : Int) 128))])) ≤ 140737488355328) (some (Sum.inl ((vb0_s_0_s_2 ++ [(u8 (bits .or .u8 ((u8 (IntKind.u8.wrap v5_2)).toNat : Int) 128))]), (Int.fdiv v5_2 (2 ^ (min (Int.toNat 7) (IntKind.bits .u64)))))))) else (some (Sum.inr (vb0_s_0_s_2, v5_2)))
def ints_Writer_Wide_k1 (v8_0 : Int) (vb0_s_0_s_1 : List UInt8) (v5_1 : Int) : Option ((List UInt8 × Int) ⊕ Writer) :=
  gd ((List.length (vb0_s_0_s_1 ++ [(u8 (IntKind.u8.wrap v5_1))])) * 1 ≤ 140737488355328 ∧ (List.length (vb0_s_0_s_1 ++ [(u8 (IntKind.u8.wrap v5_1))])) ≤ 140737488355328) (some (Sum.inl ((vb0_s_0_s_1 ++ [(u8 (IntKind.u8.wrap v5_1))]), (IntKind.i64.wrap (v8_0 + 1)))))
def ints_Writer_Wide_l0 (a1 : List Int) (vb0_s_0_s_0 : List UInt8) (v8_0 : Int) : Option ((List UInt8 × Int) ⊕ Writer) :=
  if (decide (v8_0 < (List.length a1 : Int))) = true then (gd (0 ≤ v8_0) (Option.bind (a1[(Int.toNat v8_0)]?) (fun (x10 : Int) => Option.bind (loopN (fun (s : List UInt8 × Int) => ints_Writer_Wide_l2 s.1 s.2) Fu (vb0_s_0_s_0, x10)) (fun (s : List UInt8 × Int) => ints_Writer_Wide_k1 v8_0 s.1 s.2)))) else (some (Sum.inr (Writer.mk vb0_s_0_s_0)))
def ints_Writer_Wide (a0 : Writer) (a1 : List Int) : Option Writer :=
  loopN (fun (s : List UInt8 × Int) => ints_Writer_Wide_l0 a1 s.1 s.2) Fu (a0.B, 0)
set_option maxRecDepth 100000 in
set_option maxHeartbeats 8000000 in
/-- (*gleaning/ints.Writer).Wide -/
theorem ints_Writer_Wide_ok (a0 : Writer) (a1 : List Int) {r : Writer} (h : ints_Writer_Wide a0 a1 = some r) : Ok Try.prog 96 [.ptr 0 0 0, .sl 1 (List.map enc12 a1)] [[.own 1 0]] [(5, 1, List.map enc5 a0.B)] (.tup []) [[.own 2 0]] [(5, 1, List.map enc5 r.B)] := by
  unfold ints_Writer_Wide at h
  refine ok_of_code Try.func96 rfl (by show (2 : Nat) ≤ _; decide) (Nat.le_refl _) fun X => ?_
  refine aw_seq_k (fun K1 hK1 => ?_)
  refine aw_regL ?_
  refine alP (some 6) rfl rfl (does_move (v := .sl 1 (List.map enc12 a1)) (by exact rfl)) (by decide) ?_
  refine alP (some 7) rfl rfl ((does_len_sl (by conv => lhs; whnf) ty81).castp (v' := .int .i64 (List.length a1 : Int)) (by exact len_map _)) (by decide) ?_
  refine alP (some 8) rfl rfl (does_move (v := .int .i64 0) (by exact rfl)) (by decide) ?_
  refine al_nil ?_
  refine hK1 _ ?_
  refine aw_block ?_
  refine aw_loop' (fun m s => ∃ (vb0_s_0_s_0 : List UInt8), ∃ (v8_0 : Int), loopN (fun (s : List UInt8 × Int) => ints_Writer_Wide_l0 a1 s.1 s.2) m (vb0_s_0_s_0, v8_0) = some r ∧ s = lit [(0, .ptr 0 0 0), (6, .sl 1 (List.map enc12 a1)), (7, .int .i64 (List.length a1 : Int)), (8, .int .i64 v8_0)] [((0, 0), .box [.own 1 0]), ((1, 0), .arr 5 1 false (List.map enc5 vb0_s_0_s_0))] [(0, 1), (1, 1)] X) Fu
    ⟨_, reb_lit [(0, .ptr 0 0 0), (6, .sl 1 (List.map enc12 a1)), (7, .int .i64 (List.length a1 : Int)), (8, .int .i64 (0))] [(0, 0), (1, 0)] [((0, 0), .box [.own 1 0]), ((1, 0), .arr 5 1 false (List.map enc5 a0.B))] [(0, 1), (1, 1)] (envOk_cons (by conv => lhs; whnf) (by exact rfl) (envOk_cons (by conv => lhs; whnf) (by exact rfl) (envOk_cons (by conv => lhs; whnf) (by exact rfl) (envOk_cons (by conv => lhs; whnf) (by exact rfl) envOk_nil)))) (objOk_cons (by conv => lhs; whnf) (by conv => lhs; whnf) (by exact rfl) (by simp) (objOk_cons (by conv => lhs; whnf) (by conv => lhs; whnf) (by exact rfl) (by simp) objOk_nil)) (nodup_b rfl) (nodup_b rfl) rfl rfl, a0.B, 0, h, rfl⟩ ?_
  rintro m s ⟨vb0_s_0_s_0, v8_0, h, rfl⟩
  obtain ⟨m0, q2, rfl, h, hq3⟩ := loop_some h
  replace h : ints_Writer_Wide_l0 a1 vb0_s_0_s_0 v8_0 = some q2 := h
  unfold ints_Writer_Wide_l0 at h
  refine aw_seq_k (fun K4 hK4 => ?_)
  refine aw_regL ?_
  refine alP (some 9) rfl rfl (does_bin (v := .bool (decide (v8_0 < (List.length a1 : Int)))) (by conv => lhs; whnf) (by conv => lhs; whnf) rfl) (by decide) ?_
  refine al_nil ?_
  refine hK4 _ ?_
  refine aw_seq_k (fun K5 hK5 => ?_)
  refine aw_bool (b := (decide (v8_0 < (List.length a1 : Int)))) 9 rfl (fun c6 => ?_) (fun c6 => ?_)
  · have h := ifT c6 h
    refine aw_cond_t (by decide) rfl ?_
    refine aw_skip ?_
    refine hK5 _ ?_
    refine aw_seq_k (fun K7 hK7 => ?_)
    refine aw_block ?_
    refine aw_seq_k (fun K8 hK8 => ?_)
    refine aw_regL ?_
    obtain ⟨g9, h⟩ := gd_some h
    obtain ⟨x10, hx10, h⟩ := bnd_some h
    refine alP (some 10) rfl rfl (does_indexAddr_sl (el := .int .u64 x10) (by conv => lhs; whnf) (by conv => lhs; whnf) ty81 ty25 g9 (by exact map_get hx10)) (by decide) ?_
    refine alR (some 11) rfl rfl (does_load (v := .int .u64 x10) (by conv => lhs; whnf) (by conv => lhs; whnf) ty25 (by exact rfl)) (by decide) ?_
    refine alP (some 5) rfl rfl (does_assign (v := .int .u64 x10) (by exact rfl)) (by decide) ?_
    refine al_nil ?_
    refine hK8 _ ?_
    obtain ⟨q11, h, hk12⟩ := bnd_some h
    refine aw_cut (fun s => ∃ (vb0_s_0_s_1 : List UInt8), ∃ (v5_1 : Int), ints_Writer_Wide_k1 v8_0 vb0_s_0_s_1 v5_1 = some q2 ∧ s = lit [(0, .ptr 0 0 0), (5, .int .u64 v5_1), (6, .sl 1 (List.map enc12 a1)), (7, .int .i64 (List.length a1 : Int)), (8, .int .i64 v8_0)] [((0, 0), .box [.own 1 0]), ((1, 0), .arr 5 1 false (List.map enc5 vb0_s_0_s_1))] [(0, 1), (1, 1)] X) ?_ ?_
    · skip
      refine aw_block ?_
      refine aw_loop' (fun m s => ∃ (vb0_s_0_s_2 : List UInt8), ∃ (v5_2 : Int), loopN (fun (s : List UInt8 × Int) => ints_Writer_Wide_l2 s.1 s.2) m (vb0_s_0_s_2, v5_2) = some q11 ∧ s = lit [(0, .ptr 0 0 0), (5, .int .u64 v5_2), (6, .sl 1 (List.map enc12 a1)), (7, .int .i64 (List.length a1 : Int)), (8, .int .i64 v8_0)] [((0, 0), .box [.own 1 0]), ((1, 0), .arr 5 1 false (List.map enc5 vb0_s_0_s_2))] [(0, 1), (1, 1)] X) Fu
        ⟨_, reb_lit [(0, .ptr 0 0 0), (5, .int .u64 x10), (6, .sl 1 (List.map enc12 a1)), (7, .int .i64 (List.length a1 : Int)), (8, .int .i64 v8_0)] [(0, 0), (1, 0)] [((0, 0), .box [.own 1 0]), ((1, 0), .arr 5 1 false (List.map enc5 vb0_s_0_s_0))] [(0, 1), (1, 1)] (envOk_cons (by conv => lhs; whnf) (by exact rfl) (envOk_cons (by conv => lhs; whnf) (by exact rfl) (envOk_cons (by conv => lhs; whnf) (by exact rfl) (envOk_cons (by conv => lhs; whnf) (by exact rfl) (envOk_cons (by conv => lhs; whnf) (by exact rfl) envOk_nil))))) (objOk_cons (by conv => lhs; whnf) (by conv => lhs; whnf) (by exact rfl) (by simp) (objOk_cons (by conv => lhs; whnf) (by conv => lhs; whnf) (by exact rfl) (by simp) objOk_nil)) (nodup_b rfl) (nodup_b rfl) rfl rfl, vb0_s_0_s_0, x10, h, rfl⟩ ?_
      rintro m s ⟨vb0_s_0_s_2, v5_2, h, rfl⟩
      obtain ⟨m2, q13, rfl, h, hq14⟩ := loop_some h
      replace h : ints_Writer_Wide_l2 vb0_s_0_s_2 v5_2 = some q13 := h
      unfold ints_Writer_Wide_l2 at h
      refine aw_seq_k (fun K15 hK15 => ?_)
      refine aw_seq_k (fun K16 hK16 => ?_)
      refine aw_regL ?_
      refine alP (some 12) rfl rfl (does_move (v := .int .u64 v5_2) (by exact rfl)) (by decide) ?_
      refine alP (some 13) rfl rfl (does_bin (v := .bool (decide ((128 : Int) ≤ v5_2))) (by conv => lhs; whnf) (by conv => lhs; whnf) rfl) (by decide) ?_
      refine al_nil ?_
      refine hK16 _ ?_
      refine aw_bool (b := (decide ((128 : Int) ≤ v5_2))) 13 rfl (fun c17 => ?_) (fun c17 => ?_)
      · have h := ifT c17 h
        refine aw_cond_t (by decide) rfl ?_
        refine aw_skip ?_
        refine hK15 _ ?_
        refine aw_seq_k (fun K18 hK18 => ?_)
        refine aw_block ?_
        refine aw_regL ?_
        refine alP (some 16) rfl rfl (does_move (v := .ptr 0 0 0) (by exact rfl)) (by decide) ?_
        refine alP (some 17) rfl rfl (does_move (v := .ptr 0 0 0) (by exact rfl)) (by decide) ?_
        refine alP (some 18) rfl rfl (does_nilCheck (p := .ptr 0 0 0) (by conv => lhs; whnf) rfl) (by decide) ?_
        refine alP (some 19) rfl rfl (does_fieldAddr (q := .ptr 0 0 0) (by conv => lhs; whnf) ty87 rfl ty43 (by decide) (by exact rfl)) (by decide) ?_
        refine alR (some 20) rfl rfl (does_load (v := .own 1 0) (by conv => lhs; whnf) (by conv => lhs; whnf) ty43 (by exact rfl)) (by decide) ?_
        refine alP (some 21) rfl rfl (does_move (v := .int .u64 v5_2) (by exact rfl)) (by decide) ?_
        refine alP (some 22) rfl rfl ((does_conv_int (v := .int .u8 (IntKind.u8.wrap v5_2)) (by conv => lhs; whnf) (ty_some ty25) (ty_int ty5) rfl).castp (v' := .int .u8 ((u8 (IntKind.u8.wrap v5_2)).toNat : Int)) (by exact congrArg _ (u8_eq (u8_wrap _)))) (by decide) ?_
        refine alP (some 23) rfl rfl ((does_bin (v := .int .u8 (bits .or .u8 ((u8 (IntKind.u8.wrap v5_2)).toNat : Int) 128)) (by conv => lhs; whnf) (by conv => lhs; whnf) rfl).castp (v' := .int .u8 ((u8 (bits .or .u8 ((u8 (IntKind.u8.wrap v5_2)).toNat : Int) 128)).toNat : Int)) (by exact congrArg _ (u8_eq (u8_bits _ _ _)))) (by decide) ?_
        refine alD (some 24) rfl rfl (do_buildSlice (xs := List.map enc5 [(u8 (bits .or .u8 ((u8 (IntKind.u8.wrap v5_2)).toNat : Int) 128))]) ty43 ty5 rfl rfl rfl rfl rfl rfl rfl rfl) (by decide) ?_
        obtain ⟨g19, h⟩ := gd_some h
        refine alD (some 25) rfl rfl (do_append (v := List.map enc5 (vb0_s_0_s_2 ++ [(u8 (bits .or .u8 ((u8 (IntKind.u8.wrap v5_2)).toNat : Int) 128))])) (by conv => lhs; whnf) (by conv => lhs; whnf) ty43 ty5 rfl rfl (by conv => lhs; whnf) (by first | exact .inl rfl | exact .inr ⟨rfl, rfl⟩) (by conv => lhs; whnf) (by first | exact .inr rfl | exact .inl rfl) (map_app _ _) (fit_map g19)) (by decide) ?_
        refine alP (some 26) rfl rfl (does_nilCheck (p := .ptr 0 0 0) (by conv => lhs; whnf) rfl) (by decide) ?_
        refine alP (some 27) rfl rfl (does_fieldAddr (q := .ptr 0 0 0) (by conv => lhs; whnf) ty87 rfl ty43 (by decide) (by exact rfl)) (by decide) ?_
        refine alD none rfl rfl (do_store (cs' := [.own 25 0]) (by conv => lhs; whnf) (by conv => lhs; whnf) (by conv => lhs; whnf) ty43 rfl rfl rfl (by exact rfl)) (by decide) ?_
        refine al_nil ?_
        refine hK18 _ ?_
        refine aw_regL ?_
        refine alP (some 14) rfl rfl (does_move (v := .int .u64 v5_2) (by exact rfl)) (by decide) ?_
        refine alP (some 15) rfl rfl (does_bin (v := .int .u64 (Int.fdiv v5_2 (2 ^ (min (Int.toNat 7) (IntKind.bits .u64))))) (by conv => lhs; whnf) (by conv => lhs; whnf) rfl) (by decide) ?_
        refine alP (some 5) rfl rfl (does_assign (v := .int .u64 (Int.fdiv v5_2 (2 ^ (min (Int.toNat 7) (IntKind.bits .u64))))) (by exact rfl)) (by decide) ?_
        refine al_nil ?_
        have h := leafL h hq14
        exact ⟨m2, Nat.lt_succ_self _, _, reb_lit [(0, .ptr 0 0 0), (5, .int .u64 (Int.fdiv v5_2 (2 ^ (min (Int.toNat 7) (IntKind.bits .u64))))), (6, .sl 1 (List.map enc12 a1)), (7, .int .i64 (List.length a1 : Int)), (8, .int .i64 v8_0)] [(0, 0), (25, 0)] [((0, 0), .box [.own 1 0]), ((1, 0), .arr 5 1 false (List.map enc5 (vb0_s_0_s_2 ++ [(u8 (bits .or .u8 ((u8 (IntKind.u8.wrap v5_2)).toNat : Int) 128))])))] [(0, 1), (1, 1)] (envOk_cons (by conv => lhs; whnf) (by exact rfl) (envOk_cons (by conv => lhs; whnf) (by exact rfl) (envOk_cons (by conv => lhs; whnf) (by exact rfl) (envOk_cons (by conv => lhs; whnf) (by exact rfl) (envOk_cons (by conv => lhs; whnf) (by exact rfl) envOk_nil))))) (objOk_cons (by conv => lhs; whnf) (by conv => lhs; whnf) (by exact rfl) (by simp) (objOk_cons (by conv => lhs; whnf) (by conv => lhs; whnf) (by exact rfl) (by simp) objOk_nil)) (nodup_b rfl) (nodup_b rfl) rfl rfl, (vb0_s_0_s_2 ++ [(u8 (bits .or .u8 ((u8 (IntKind.u8.wrap v5_2)).toNat : Int) 128))]), (Int.fdiv v5_2 (2 ^ (min (Int.toNat 7) (IntKind.bits .u64)))), h, rfl⟩
      · have h := ifF c17 h
        refine aw_cond_f (by decide) rfl ?_
        refine aw_exit ?_
        have h := leafR h hq14
        obtain rfl := Option.some.inj h
        have h := hk12
        exact ⟨_, reb_lit [(0, .ptr 0 0 0), (5, .int .u64 v5_2), (6, .sl 1 (List.map enc12 a1)), (7, .int .i64 (List.length a1 : Int)), (8, .int .i64 v8_0)] [(0, 0), (1, 0)] [((0, 0), .box [.own 1 0]), ((1, 0), .arr 5 1 false (List.map enc5 vb0_s_0_s_2))] [(0, 1), (1, 1)] (envOk_cons (by conv => lhs; whnf) (by exact rfl) (envOk_cons (by conv => lhs; whnf) (by exact rfl) (envOk_cons (by conv => lhs; whnf) (by exact rfl) (envOk_cons (by conv => lhs; whnf) (by exact rfl) (envOk_cons (by conv => lhs; whnf) (by exact rfl) envOk_nil))))) (objOk_cons (by conv => lhs; whnf) (by conv => lhs; whnf) (by exact rfl) (by simp) (objOk_cons (by conv => lhs; whnf) (by conv => lhs; whnf) (by exact rfl) (by simp) objOk_nil)) (nodup_b rfl) (nodup_b rfl) rfl rfl, vb0_s_0_s_2, v5_2, h, rfl⟩
    · rintro s ⟨vb0_s_0_s_1, v5_1, h, rfl⟩
      unfold ints_Writer_Wide_k1 at h
      refine aw_regL ?_
      refine alP (some 28) rfl rfl (does_move (v := .ptr 0 0 0) (by exact rfl)) (by decide) ?_
      refine alP (some 29) rfl rfl (does_move (v := .ptr 0 0 0) (by exact rfl)) (by decide) ?_
      refine alP (some 30) rfl rfl (does_nilCheck (p := .ptr 0 0 0) (by conv => lhs; whnf) rfl) (by decide) ?_
      refine alP (some 31) rfl rfl (does_fieldAddr (q := .ptr 0 0 0) (by conv => lhs; whnf) ty87 rfl ty43 (by decide) (by exact rfl)) (by decide) ?_
      refine alR (some 32) rfl rfl (does_load (v := .own 1 0) (by conv => lhs; whnf) (by conv => lhs; whnf) ty43 (by exact rfl)) (by decide) ?_
      refine alP (some 33) rfl rfl (does_move (v := .int .u64 v5_1) (by exact rfl)) (by decide) ?_
      refine alP (some 34) rfl rfl ((does_conv_int (v := .int .u8 (IntKind.u8.wrap v5_1)) (by conv => lhs; whnf) (ty_some ty25) (ty_int ty5) rfl).castp (v' := .int .u8 ((u8 (IntKind.u8.wrap v5_1)).toNat : Int)) (by exact congrArg _ (u8_eq (u8_wrap _)))) (by decide) ?_
      refine alD (some 35) rfl rfl (do_buildSlice (xs := List.map enc5 [(u8 (IntKind.u8.wrap v5_1))]) ty43 ty5 rfl rfl rfl rfl rfl rfl rfl rfl) (by decide) ?_
      obtain ⟨g20, h⟩ := gd_some h
      refine alD (some 36) rfl rfl (do_append (v := List.map enc5 (vb0_s_0_s_1 ++ [(u8 (IntKind.u8.wrap v5_1))])) (by conv => lhs; whnf) (by conv => lhs; whnf) ty43 ty5 rfl rfl (by conv => lhs; whnf) (by first | exact .inl rfl | exact .inr ⟨rfl, rfl⟩) (by conv => lhs; whnf) (by first | exact .inr rfl | exact .inl rfl) (map_app _ _) (fit_map g20)) (by decide) ?_
      refine alP (some 37) rfl rfl (does_nilCheck (p := .ptr 0 0 0) (by conv => lhs; whnf) rfl) (by decide) ?_
      refine alP (some 38) rfl rfl (does_fieldAddr (q := .ptr 0 0 0) (by conv => lhs; whnf) ty87 rfl ty43 (by decide) (by exact rfl)) (by decide) ?_
      refine alD none rfl rfl (do_store (cs' := [.own 36 0]) (by conv => lhs; whnf) (by conv => lhs; whnf) (by conv => lhs; whnf) ty43 rfl rfl rfl (by exact rfl)) (by decide) ?_
      refine al_nil ?_
      refine hK7 _ ?_
      refine aw_regL ?_
      refine alP (some 39) rfl rfl (does_bin (v := .int .i64 (IntKind.i64.wrap (v8_0 + 1))) (by conv => lhs; whnf) (by conv => lhs; whnf) rfl) (by decide) ?_
      refine alP (some 8) rfl rfl (does_move (v := .int .i64 (IntKind.i64.wrap (v8_0 + 1))) (by exact rfl)) (by decide) ?_
      refine al_nil ?_
      have h := leafL h hq3
      exact ⟨m0, Nat.lt_succ_self _, _, reb_lit [(0, .ptr 0 0 0), (6, .sl 1 (List.map enc12 a1)), (7, .int .i64 (List.length a1 : Int)), (8, .int .i64 (IntKind.i64.wrap (v8_0 + 1)))] [(0, 0), (36, 0)] [((0, 0), .box [.own 1 0]), ((1, 0), .arr 5 1 false (List.map enc5 (vb0_s_0_s_1 ++ [(u8 (IntKind.u8.wrap v5_1))])))] [(0, 1), (1, 1)] (envOk_cons (by conv => lhs; whnf) (by exact rfl) (envOk_cons (by conv => lhs; whnf) (by exact rfl) (envOk_cons (by conv => lhs; whnf) (by exact rfl) (envOk_cons (by conv => lhs; whnf) (by exact rfl) envOk_nil)))) (objOk_cons (by conv => lhs; whnf) (by conv => lhs; whnf) (by exact rfl) (by simp) (objOk_cons (by conv => lhs; whnf) (by conv => lhs; whnf) (by exact rfl) (by simp) objOk_nil)) (nodup_b rfl) (nodup_b rfl) rfl rfl, (vb0_s_0_s_1 ++ [(u8 (IntKind.u8.wrap v5_1))]), (IntKind.i64.wrap (v8_0 + 1)), h, rfl⟩
  · have h := ifF c6 h
    refine aw_cond_f (by decide) rfl ?_
    refine aw_exit ?_
    have h := leafR h hq3
    obtain rfl := Option.some.inj h
    exact ret_okB [(1, 0)] (by conv => lhs; whnf) (by conv => lhs; whnf) (by exact rfl) (rowsOk_cons (by conv => lhs; whnf) (by exact rfl) trivial) (boxesOk_cons (by conv => lhs; whnf) (by conv => lhs; whnf) (by exact rfl) trivial) (nodup_b rfl) (.inl rfl) rfl
def ints_Writer_Num_l0 (a1 : List Int) (vb0_s_0_s_0 : List UInt8) (v8_0 : Int) : Option ((List UInt8 × Int) ⊕ Writer) :=
  if (decide (v8_0 < (List.length a1 : Int))) = true then (gd (0 ≤ v8_0) (Option.bind (a1[(Int.toNat v8_0)]?) (fun (x10 : Int) => Option.bind (ints_Writer_Wide (Writer.mk vb0_s_0_s_0) [(IntKind.u64.wrap x10)]) (fun (x11 : Writer) => some (Sum.inl (x11.B, (IntKind.i64.wrap (v8_0 + 1)))))))) else (some (Sum.inr (Writer.mk vb0_s_0_s_0)))
def ints_Writer_Num (a0 : Writer) (a1 : List Int) : Option Writer :=
  loopN (fun (s : List UInt8 × Int) => ints_Writer_Num_l0 a1 s.1 s.2) Fu (a0.B, 0)
set_option maxRecDepth 100000 in
set_option maxHeartbeats 8000000 in
/-- (*gleaning/ints.Writer).Num -/
theorem ints_Writer_Num_ok (a0 : Writer) (a1 : List Int) {r : Writer} (h : ints_Writer_Num a0 a1 = some r) : Ok Try.prog 77 [.ptr 0 0 0, .sl 1 (List.map enc2 a1)] [[.own 1 0]] [(5, 1, List.map enc5 a0.B)] (.tup []) [[.own 2 0]] [(5, 1, List.map enc5 r.B)] := by
  unfold ints_Writer_Num at h
  refine ok_of_code Try.func77 rfl (by show (2 : Nat) ≤ _; decide) (Nat.le_refl _) fun X => ?_
  refine aw_seq_k (fun K1 hK1 => ?_)
  refine aw_regL ?_
  refine alP (some 6) rfl rfl (does_move (v := .sl 1 (List.map enc2 a1)) (by exact rfl)) (by decide) ?_
  refine alP (some 7) rfl rfl ((does_len_sl (by conv => lhs; whnf) ty129).castp (v' := .int .i64 (List.length a1 : Int)) (by exact len_map _)) (by decide) ?_
  refine alP (some 8) rfl rfl (does_move (v := .int .i64 0) (by exact rfl)) (by decide) ?_
  refine al_nil ?_
  refine hK1 _ ?_
  refine aw_block ?_
  refine aw_loop' (fun m s => ∃ (vb0_s_0_s_0 : List UInt8), ∃ (v8_0 : Int), loopN (fun (s : List UInt8 × Int) => ints_Writer_Num_l0 a1 s.1 s.2) m (vb0_s_0_s_0, v8_0) = some r ∧ s = lit [(0, .ptr 0 0 0), (6, .sl 1 (List.map enc2 a1)), (7, .int .i64 (List.length a1 : Int)), (8, .int .i64 v8_0)] [((0, 0), .box [.own 1 0]), ((1, 0), .arr 5 1 false (List.map enc5 vb0_s_0_s_0))] [(0, 1), (1, 1)] X) Fu
    ⟨_, reb_lit [(0, .ptr 0 0 0), (6, .sl 1 (List.map enc2 a1)), (7, .int .i64 (List.length a1 : Int)), (8, .int .i64 (0))] [(0, 0), (1, 0)] [((0, 0), .box [.own 1 0]), ((1, 0), .arr 5 1 false (List.map enc5 a0.B))] [(0, 1), (1, 1)] (envOk_cons (by conv => lhs; whnf) (by exact rfl) (envOk_cons (by conv => lhs; whnf) (by exact rfl) (envOk_cons (by conv => lhs; whnf) (by exact rfl) (envOk_cons (by conv => lhs; whnf) (by exact rfl) envOk_nil)))) (objOk_cons (by conv => lhs; whnf) (by conv => lhs; whnf) (by exact rfl) (by simp) (objOk_cons (by conv => lhs; whnf) (by conv => lhs; whnf) (by exact rfl) (by simp) objOk_nil)) (nodup_b rfl) (nodup_b rfl) rfl rfl, a0.B, 0, h, rfl⟩ ?_
  rintro m s ⟨vb0_s_0_s_0, v8_0, h, rfl⟩
  obtain ⟨m0, q2, rfl, h, hq3⟩ := loop_some h
  replace h : ints_Writer_Num_l0 a1 vb0_s_0_s_0 v8_0 = some q2 := h
  unfold ints_Writer_Num_l0 at h
  refine aw_seq_k (fun K4 hK4 => ?_)
  refine aw_regL ?_
  refine alP (some 9) rfl rfl (does_bin (v := .bool (decide (v8_0 < (List.length a1 : Int)))) (by conv => lhs; whnf) (by conv => lhs; whnf) rfl) (by decide) ?_
  refine al_nil ?_
  refine hK4 _ ?_
  refine aw_seq_k (fun K5 hK5 => ?_)
  refine aw_bool (b := (decide (v8_0 < (List.length a1 : Int)))) 9 rfl (fun c6 => ?_) (fun c6 => ?_)
  · have h := ifT c6 h
    refine aw_cond_t (by decide) rfl ?_
    refine aw_skip ?_
    refine hK5 _ ?_
    refine aw_seq_k (fun K7 hK7 => ?_)
    refine aw_block ?_
    refine aw_seq_k (fun K8 hK8 => ?_)
    refine aw_regL ?_
    obtain ⟨g9, h⟩ := gd_some h
    obtain ⟨x10, hx10, h⟩ := bnd_some h
    refine alP (some 10) rfl rfl (does_indexAddr_sl (el := .int .i64 x10) (by conv => lhs; whnf) (by conv => lhs; whnf) ty129 ty3 g9 (by exact map_get hx10)) (by decide) ?_
    refine alR (some 11) rfl rfl (does_load (v := .int .i64 x10) (by conv => lhs; whnf) (by conv => lhs; whnf) ty3 (by exact rfl)) (by decide) ?_
    refine alP (some 5) rfl rfl (does_assign (v := .int .i64 x10) (by exact rfl)) (by decide) ?_
    refine al_nil ?_
    refine hK8 _ ?_
    refine aw_regL ?_
    refine alP (some 12) rfl rfl (does_move (v := .ptr 0 0 0) (by exact rfl)) (by decide) ?_
    refine alP (some 13) rfl rfl (does_move (v := .int .i64 x10) (by exact rfl)) (by decide) ?_
    refine alP (some 14) rfl rfl (does_conv_int (v := .int .u64 (IntKind.u64.wrap x10)) (by conv => lhs; whnf) (ty_some ty3) (ty_int ty25) rfl) (by decide) ?_
    refine alD (some 15) rfl rfl (do_buildSlice (xs := List.map enc12 [(IntKind.u64.wrap x10)]) ty81 ty25 rfl rfl rfl rfl rfl rfl rfl rfl) (by decide) ?_
    obtain ⟨x11, hx11, h⟩ := bnd_some h
    refine alD (some 16) rfl rfl (does_frz (d := 15) (n := 0) (by conv => lhs; whnf) (do_callG (bcs := [[.own 1 0]]) [(0, 0)] [(1, 0)] [(15, 0)] 16 false (ints_Writer_Wide_ok (Writer.mk vb0_s_0_s_0) [(IntKind.u64.wrap x10)] hx11) rfl ent96 ⟨(by exact rfl), trivial⟩ (rowsOk_cons (by conv => lhs; whnf) (by exact rfl) trivial) rfl rfl rfl rfl rfl rfl rfl rfl (.inl ⟨⟨_, _, _, rfl⟩, trivial⟩))) (by decide) ?_
    refine al_nil ?_
    refine hK7 _ ?_
    refine aw_regL ?_
    refine alP (some 17) rfl rfl (does_bin (v := .int .i64 (IntKind.i64.wrap (v8_0 + 1))) (by conv => lhs; whnf) (by conv => lhs; whnf) rfl) (by decide) ?_
    refine alP (some 8) rfl rfl (does_move (v := .int .i64 (IntKind.i64.wrap (v8_0 + 1))) (by exact rfl)) (by decide) ?_
    refine al_nil ?_
    have h := leafL h hq3
    exact ⟨m0, Nat.lt_succ_self _, _, reb_lit [(0, .ptr 0 0 0), (6, .sl 1 (List.map enc2 a1)), (7, .int .i64 (List.length a1 : Int)), (8, .int .i64 (IntKind.i64.wrap (v8_0 + 1)))] [(0, 0), (16, 0)] [((0, 0), .box [.own 1 0]), ((1, 0), .arr 5 1 false (List.map enc5 x11.B))] [(0, 1), (1, 1)] (envOk_cons (by conv => lhs; whnf) (by exact rfl) (envOk_cons (by conv => lhs; whnf) (by exact rfl) (envOk_cons (by conv => lhs; whnf) (by exact rfl) (envOk_cons (by conv => lhs; whnf) (by exact rfl) envOk_nil)))) (objOk_cons (by conv => lhs; whnf) (by conv => lhs; whnf) (by exact rfl) (by simp) (objOk_cons (by conv => lhs; whnf) (by conv => lhs; whnf) (by exact rfl) (by simp) objOk_nil)) (nodup_b rfl) (nodup_b rfl) rfl rfl, x11.B, (IntKind.i64.wrap (v8_0 + 1)), h, rfl⟩
  · have h := ifF c6 h
    refine aw_cond_f (by decide) rfl ?_
    refine aw_exit ?_
    have h := leafR h hq3
    obtain rfl := Option.some.inj h
    exact ret_okB [(1, 0)] (by conv => lhs; whnf) (by conv => lhs; whnf) (by exact rfl) (rowsOk_cons (by conv => lhs; whnf) (by exact rfl) trivial) (boxesOk_cons (by conv => lhs; whnf) (by conv => lhs; whnf) (by exact rfl) trivial) (nodup_b rfl) (.inl rfl) rfl
def ints_Writer_Text_l0 (a1 : List ByteArray) (vb0_s_0_s_0 : List UInt8) (v8_0 : Int) : Option ((List UInt8 × Int) ⊕ Writer) :=
  if (decide (v8_0 < (List.length a1 : Int))) = true then (gd (0 ≤ v8_0) (Option.bind (a1[(Int.toNat v8_0)]?) (fun (x10 : ByteArray) => Option.bind (ints_Writer_Num (Writer.mk vb0_s_0_s_0) [(ByteArray.size x10 : Int)]) (fun (x12 : Writer) => gd ((List.length (x12.B ++ (bytesOf x10))) ≤ 140737488355328) (some (Sum.inl ((x12.B ++ (bytesOf x10)), (IntKind.i64.wrap (v8_0 + 1))))))))) else (some (Sum.inr (Writer.mk vb0_s_0_s_0)))
def ints_Writer_Text (a0 : Writer) (a1 : List ByteArray) : Option Writer :=
  loopN (fun (s : List UInt8 × Int) => ints_Writer_Text_l0 a1 s.1 s.2) Fu (a0.B, 0)
set_option maxRecDepth 100000 in
set_option maxHeartbeats 8000000 in
/-- (*gleaning/ints.Writer).Text -/
theorem ints_Writer_Text_ok (a0 : Writer) (a1 : List ByteArray) {r : Writer} (h : ints_Writer_Text a0 a1 = some r) : Ok Try.prog 97 [.ptr 0 0 0, .sl 1 (List.map enc9 a1)] [[.own 1 0]] [(5, 1, List.map enc5 a0.B)] (.tup []) [[.own 2 0]] [(5, 1, List.map enc5 r.B)] := by
  unfold ints_Writer_Text at h
  refine ok_of_code Try.func97 rfl (by show (2 : Nat) ≤ _; decide) (Nat.le_refl _) fun X => ?_
  refine aw_seq_k (fun K1 hK1 => ?_)
  refine aw_regL ?_
  refine alP (some 6) rfl rfl (does_move (v := .sl 1 (List.map enc9 a1)) (by exact rfl)) (by decide) ?_
  refine alP (some 7) rfl rfl ((does_len_sl (by conv => lhs; whnf) ty137).castp (v' := .int .i64 (List.length a1 : Int)) (by exact len_map _)) (by decide) ?_
  refine alP (some 8) rfl rfl (does_move (v := .int .i64 0) (by exact rfl)) (by decide) ?_
  refine al_nil ?_
  refine hK1 _ ?_
  refine aw_block ?_
  refine aw_loop' (fun m s => ∃ (vb0_s_0_s_0 : List UInt8), ∃ (v8_0 : Int), loopN (fun (s : List UInt8 × Int) => ints_Writer_Text_l0 a1 s.1 s.2) m (vb0_s_0_s_0, v8_0) = some r ∧ s = lit [(0, .ptr 0 0 0), (6, .sl 1 (List.map enc9 a1)), (7, .int .i64 (List.length a1 : Int)), (8, .int .i64 v8_0)] [((0, 0), .box [.own 1 0]), ((1, 0), .arr 5 1 false (List.map enc5 vb0_s_0_s_0))] [(0, 1), (1, 1)] X) Fu
    ⟨_, reb_lit [(0, .ptr 0 0 0), (6, .sl 1 (List.map enc9 a1)), (7, .int .i64 (List.length a1 : Int)), (8, .int .i64 (0))] [(0, 0), (1, 0)] [((0, 0), .box [.own 1 0]), ((1, 0), .arr 5 1 false (List.map enc5 a0.B))] [(0, 1), (1, 1)] (envOk_cons (by conv => lhs; whnf) (by exact rfl) (envOk_cons (by conv => lhs; whnf) (by exact rfl) (envOk_cons (by conv => lhs; whnf) (by exact rfl) (envOk_cons (by conv => lhs; whnf) (by exact rfl) envOk_nil)))) (objOk_cons (by conv => lhs; whnf) (by conv => lhs; whnf) (by exact rfl) (by simp) (objOk_cons (by conv => lhs; whnf) (by conv => lhs; whnf) (by exact rfl) (by simp) objOk_nil)) (nodup_b rfl) (nodup_b rfl) rfl rfl, a0.B, 0, h, rfl⟩ ?_
  rintro m s ⟨vb0_s_0_s_0, v8_0, h, rfl⟩
  obtain ⟨m0, q2, rfl, h, hq3⟩ := loop_some h
  replace h : ints_Writer_Text_l0 a1 vb0_s_0_s_0 v8_0 = some q2 := h
  unfold ints_Writer_Text_l0 at h
  refine aw_seq_k (fun K4 hK4 => ?_)
  refine aw_regL ?_
  refine alP (some 9) rfl rfl (does_bin (v := .bool (decide (v8_0 < (List.length a1 : Int)))) (by conv => lhs; whnf) (by conv => lhs; whnf) rfl) (by decide) ?_
  refine al_nil ?_
  refine hK4 _ ?_
  refine aw_seq_k (fun K5 hK5 => ?_)
  refine aw_bool (b := (decide (v8_0 < (List.length a1 : Int)))) 9 rfl (fun c6 => ?_) (fun c6 => ?_)
  · have h := ifT c6 h
    refine aw_cond_t (by decide) rfl ?_
    refine aw_skip ?_
    refine hK5 _ ?_
    refine aw_seq_k (fun K7 hK7 => ?_)
    refine aw_block ?_
    refine aw_seq_k (fun K8 hK8 => ?_)
    refine aw_regL ?_
    obtain ⟨g9, h⟩ := gd_some h
    obtain ⟨x10, hx10, h⟩ := bnd_some h
    refine alP (some 10) rfl rfl (does_indexAddr_sl (el := .str x10) (by conv => lhs; whnf) (by conv => lhs; whnf) ty137 ty9 g9 (by exact map_get hx10)) (by decide) ?_
    refine alR (some 11) rfl rfl (does_load (v := .str x10) (by conv => lhs; whnf) (by conv => lhs; whnf) ty9 (by exact rfl)) (by decide) ?_
    refine alP (some 5) rfl rfl (does_assign (v := .str x10) (by exact rfl)) (by decide) ?_
    refine al_nil ?_
    refine hK8 _ ?_
    refine aw_seq_k (fun K11 hK11 => ?_)
    refine aw_regL ?_
    refine alP (some 12) rfl rfl (does_move (v := .ptr 0 0 0) (by exact rfl)) (by decide) ?_
    refine alP (some 13) rfl rfl (does_move (v := .str x10) (by exact rfl)) (by decide) ?_
    refine alP (some 14) rfl rfl (does_len_str (by conv => lhs; whnf) ty9) (by decide) ?_
    refine alD (some 15) rfl rfl (do_buildSlice (xs := List.map enc2 [(ByteArray.size x10 : Int)]) ty129 ty3 rfl rfl rfl rfl rfl rfl rfl rfl) (by decide) ?_
    obtain ⟨x12, hx12, h⟩ := bnd_some h
    refine alD (some 16) rfl rfl (does_frz (d := 15) (n := 0) (by conv => lhs; whnf) (do_callG (bcs := [[.own 1 0]]) [(0, 0)] [(1, 0)] [(15, 0)] 16 false (ints_Writer_Num_ok (Writer.mk vb0_s_0_s_0) [(ByteArray.size x10 : Int)] hx12) rfl ent77 ⟨(by exact rfl), trivial⟩ (rowsOk_cons (by conv => lhs; whnf) (by exact rfl) trivial) rfl rfl rfl rfl rfl rfl rfl rfl (.inl ⟨⟨_, _, _, rfl⟩, trivial⟩))) (by decide) ?_
    refine al_nil ?_
    refine hK11 _ ?_
    refine aw_regL ?_
    refine alP (some 17) rfl rfl (does_move (v := .ptr 0 0 0) (by exact rfl)) (by decide) ?_
    refine alP (some 18) rfl rfl (does_move (v := .ptr 0 0 0) (by exact rfl)) (by decide) ?_
    refine alP (some 19) rfl rfl (does_nilCheck (p := .ptr 0 0 0) (by conv => lhs; whnf) rfl) (by decide) ?_
    refine alP (some 20) rfl rfl (does_fieldAddr (q := .ptr 0 0 0) (by conv => lhs; whnf) ty87 rfl ty43 (by decide) (by exact rfl)) (by decide) ?_
    refine alR (some 21) rfl rfl (does_load (v := .own 16 0) (by conv => lhs; whnf) (by conv => lhs; whnf) ty43 (by exact rfl)) (by decide) ?_
    refine alP (some 22) rfl rfl (does_move (v := .str x10) (by exact rfl)) (by decide) ?_
    obtain ⟨g13, h⟩ := gd_some h
    refine alD (some 23) rfl rfl (do_append_str (l := x12.B) (f := enc5) (by conv => lhs; whnf) (by conv => lhs; whnf) ty43 ty5 zr5 (ty_str ty9) (by conv => lhs; whnf) (by first | exact .inl rfl | exact .inr ⟨rfl, rfl⟩) (fun _ => rfl) (g13)) (by decide) ?_
    refine alP (some 24) rfl rfl (does_nilCheck (p := .ptr 0 0 0) (by conv => lhs; whnf) rfl) (by decide) ?_
    refine alP (some 25) rfl rfl (does_fieldAddr (q := .ptr 0 0 0) (by conv => lhs; whnf) ty87 rfl ty43 (by decide) (by exact rfl)) (by decide) ?_
    refine alD none rfl rfl (do_store (cs' := [.own 23 0]) (by conv => lhs; whnf) (by conv => lhs; whnf) (by conv => lhs; whnf) ty43 rfl rfl rfl (by exact rfl)) (by decide) ?_
    refine al_nil ?_
    refine hK7 _ ?_
    refine aw_regL ?_
    refine alP (some 26) rfl rfl (does_bin (v := .int .i64 (IntKind.i64.wrap (v8_0 + 1))) (by conv => lhs; whnf) (by conv => lhs; whnf) rfl) (by decide) ?_
    refine alP (some 8) rfl rfl (does_move (v := .int .i64 (IntKind.i64.wrap (v8_0 + 1))) (by exact rfl)) (by decide) ?_
    refine al_nil ?_
    have h := leafL h hq3
    exact ⟨m0, Nat.lt_succ_self _, _, reb_lit [(0, .ptr 0 0 0), (6, .sl 1 (List.map enc9 a1)), (7, .int .i64 (List.length a1 : Int)), (8, .int .i64 (IntKind.i64.wrap (v8_0 + 1)))] [(0, 0), (23, 0)] [((0, 0), .box [.own 1 0]), ((1, 0), .arr 5 1 false (List.map enc5 (x12.B ++ (bytesOf x10))))] [(0, 1), (1, 1)] (envOk_cons (by conv => lhs; whnf) (by exact rfl) (envOk_cons (by conv => lhs; whnf) (by exact rfl) (envOk_cons (by conv => lhs; whnf) (by exact rfl) (envOk_cons (by conv => lhs; whnf) (by exact rfl) envOk_nil)))) (objOk_cons (by conv => lhs; whnf) (by conv => lhs; whnf) (by exact rfl) (by simp) (objOk_cons (by conv => lhs; whnf) (by conv => lhs; whnf) (by exact rfl) (by simp) objOk_nil)) (nodup_b rfl) (nodup_b rfl) rfl rfl, (x12.B ++ (bytesOf x10)), (IntKind.i64.wrap (v8_0 + 1)), h, rfl⟩
  · have h := ifF c6 h
    refine aw_cond_f (by decide) rfl ?_
    refine aw_exit ?_
    have h := leafR h hq3
    obtain rfl := Option.some.inj h
    exact ret_okB [(1, 0)] (by conv => lhs; whnf) (by conv => lhs; whnf) (by exact rfl) (rowsOk_cons (by conv => lhs; whnf) (by exact rfl) trivial) (boxesOk_cons (by conv => lhs; whnf) (by conv => lhs; whnf) (by exact rfl) trivial) (nodup_b rfl) (.inl rfl) rfl
def ints_Writer_Flag_k0 (a0 : Writer) (v4_0 : Int) : Option Writer :=
  Option.bind (ints_Writer_Num a0 [v4_0]) (fun (x6 : Writer) => some x6)
def ints_Writer_Flag (a0 : Writer) (a1 : Bool) : Option Writer :=
  Option.bind (if a1 = true then (some 1) else (some 0)) (fun (s : Int) => ints_Writer_Flag_k0 a0 s)
set_option maxRecDepth 100000 in
set_option maxHeartbeats 8000000 in
/-- (*gleaning/ints.Writer).Flag -/
theorem ints_Writer_Flag_ok (a0 : Writer) (a1 : Bool) {r : Writer} (h : ints_Writer_Flag a0 a1 = some r) : Ok Try.prog 98 [.ptr 0 0 0, .bool a1] [[.own 1 0]] [(5, 1, List.map enc5 a0.B)] (.tup []) [[.own 2 0]] [(5, 1, List.map enc5 r.B)] := by
  unfold ints_Writer_Flag at h
  refine ok_of_code Try.func98 rfl (by show (2 : Nat) ≤ _; decide) (Nat.le_refl _) fun X => ?_
  refine aw_seq_k (fun K1 hK1 => ?_)
  refine aw_regL ?_
  refine alP (some 4) rfl rfl (does_assign (v := .int .i64 0) (by exact rfl)) (by decide) ?_
  refine al_nil ?_
  refine hK1 _ ?_
  obtain ⟨q2, h, hk3⟩ := bnd_some h
  refine aw_cut (fun s => ∃ (v4_0 : Int), ints_Writer_Flag_k0 a0 v4_0 = some r ∧ s = lit [(0, .ptr 0 0 0), (4, .int .i64 v4_0)] [((0, 0), .box [.own 1 0]), ((1, 0), .arr 5 1 false (List.map enc5 a0.B))] [(0, 1), (1, 1)] X) ?_ ?_
  · skip
    refine aw_seq_k (fun K4 hK4 => ?_)
    refine aw_regL ?_
    refine alP (some 5) rfl rfl (does_move (v := .bool a1) (by exact rfl)) (by decide) ?_
    refine al_nil ?_
    refine hK4 _ ?_
    refine aw_bool (b := a1) 5 rfl (fun c5 => ?_) (fun c5 => ?_)
    · have h := ifT c5 h
      refine aw_cond_t (by decide) rfl ?_
      refine aw_regL ?_
      refine alP (some 4) rfl rfl (does_assign (v := .int .i64 1) (by exact rfl)) (by decide) ?_
      refine al_nil ?_
      obtain rfl := Option.some.inj h
      have h := hk3
      exact ⟨_, reb_lit [(0, .ptr 0 0 0), (4, .int .i64 (1))] [(0, 0), (1, 0)] [((0, 0), .box [.own 1 0]), ((1, 0), .arr 5 1 false (List.map enc5 a0.B))] [(0, 1), (1, 1)] (envOk_cons (by conv => lhs; whnf) (by exact rfl) (envOk_cons (by conv => lhs; whnf) (by exact rfl) envOk_nil)) (objOk_cons (by conv => lhs; whnf) (by conv => lhs; whnf) (by exact rfl) (by simp) (objOk_cons (by conv => lhs; whnf) (by conv => lhs; whnf) (by exact rfl) (by simp) objOk_nil)) (nodup_b rfl) (nodup_b rfl) rfl rfl, 1, h, rfl⟩
    · have h := ifF c5 h
      refine aw_cond_f (by decide) rfl ?_
      refine aw_skip ?_
      obtain rfl := Option.some.inj h
      have h := hk3
      exact ⟨_, reb_lit [(0, .ptr 0 0 0), (4, .int .i64 (0))] [(0, 0), (1, 0)] [((0, 0), .box [.own 1 0]), ((1, 0), .arr 5 1 false (List.map enc5 a0.B))] [(0, 1), (1, 1)] (envOk_cons (by conv => lhs; whnf) (by exact rfl) (envOk_cons (by conv => lhs; whnf) (by exact rfl) envOk_nil)) (objOk_cons (by conv => lhs; whnf) (by conv => lhs; whnf) (by exact rfl) (by simp) (objOk_cons (by conv => lhs; whnf) (by conv => lhs; whnf) (by exact rfl) (by simp) objOk_nil)) (nodup_b rfl) (nodup_b rfl) rfl rfl, 0, h, rfl⟩
  · rintro s ⟨v4_0, h, rfl⟩
    unfold ints_Writer_Flag_k0 at h
    refine aw_regL ?_
    refine alP (some 6) rfl rfl (does_move (v := .ptr 0 0 0) (by exact rfl)) (by decide) ?_
    refine alP (some 7) rfl rfl (does_move (v := .int .i64 v4_0) (by exact rfl)) (by decide) ?_
    refine alD (some 8) rfl rfl (do_buildSlice (xs := List.map enc2 [v4_0]) ty129 ty3 rfl rfl rfl rfl rfl rfl rfl rfl) (by decide) ?_
    obtain ⟨x6, hx6, h⟩ := bnd_some h
    refine alD (some 9) rfl rfl (does_frz (d := 8) (n := 0) (by conv => lhs; whnf) (do_callG (bcs := [[.own 1 0]]) [(0, 0)] [(1, 0)] [(8, 0)] 9 false (ints_Writer_Num_ok a0 [v4_0] hx6) rfl ent77 ⟨(by exact rfl), trivial⟩ (rowsOk_cons (by conv => lhs; whnf) (by exact rfl) trivial) rfl rfl rfl rfl rfl rfl rfl rfl (.inl ⟨⟨_, _, _, rfl⟩, trivial⟩))) (by decide) ?_
    refine al_nil ?_
    obtain rfl := Option.some.inj h
    exact ret_okB [(9, 0)] (by conv => lhs; whnf) (by conv => lhs; whnf) (by exact rfl) (rowsOk_cons (by conv => lhs; whnf) (by exact rfl) trivial) (boxesOk_cons (by conv => lhs; whnf) (by conv => lhs; whnf) (by exact rfl) trivial) (nodup_b rfl) (.inl rfl) rfl
def ints_Reader_Wide_k1 (v22_1 : Bool) : Option (Unit ⊕ (Int × Reader)) :=
  if v22_1 = true then (some (Sum.inr (0, (Reader.mk [] true)))) else (some (Sum.inl ()))
def ints_Reader_Wide_k0 (a0 : Reader) (x3 : Int × Int × Bool) : Option (Int × Reader) :=
  gd (0 ≤ x3.2.1) (gd (x3.2.1 ≤ (List.length a0.B : Int)) (some (x3.1, (Reader.mk (List.drop (Int.toNat x3.2.1) a0.B) a0.Bad))))
def ints_Reader_Wide (a0 : Reader) : Option (Int × Reader) :=
  Option.bind (ints_Get a0.B) (fun (x3 : Int × Int × Bool) => Option.bind (Option.bind (if a0.Bad = true then (some true) else (some (!x3.2.2))) (fun (s : Bool) => ints_Reader_Wide_k1 s)) (Sum.elim (fun (s : Unit) => ints_Reader_Wide_k0 a0 x3) some))
set_option maxRecDepth 100000 in
set_option maxHeartbeats 8000000 in
/-- (*gleaning/ints.Reader).Wide -/
theorem ints_Reader_Wide_ok (a0 : Reader) {r : Int × Reader} (h : ints_Reader_Wide a0 = some r) : Ok Try.prog 99 [.ptr 0 0 0] [[.sl 1 (List.map enc5 a0.B), .bool a0.Bad]] [] (.int .u64 r.1) [[.sl 1 (List.map enc5 r.2.B), .bool r.2.Bad]] [] := by
  unfold ints_Reader_Wide at h
  refine ok_of_code Try.func99 rfl (by show (1 : Nat) ≤ _; decide) (Nat.le_refl _) fun X => ?_
  refine aw_seq_k (fun K1 hK1 => ?_)
  refine aw_regL ?_
  refine alP (some 2) rfl rfl (does_assign (v := .int .u64 0) (by exact rfl)) (by decide) ?_
  refine al_nil ?_
  refine hK1 _ ?_
  refine aw_seq_k (fun K2 hK2 => ?_)
  refine aw_regL ?_
  refine alP (some 7) rfl rfl (does_move (v := .ptr 0 0 0) (by exact rfl)) (by decide) ?_
  refine alP (some 8) rfl rfl (does_nilCheck (p := .ptr 0 0 0) (by conv => lhs; whnf) rfl) (by decide) ?_
  refine alP (some 9) rfl rfl (does_fieldAddr (q := .ptr 0 0 0) (by conv => lhs; whnf) ty91 rfl ty43 (by decide) (by exact rfl)) (by decide) ?_
  refine alR (some 10) rfl rfl (does_load (v := .sl 1 (List.map enc5 a0.B)) (by conv => lhs; whnf) (by conv => lhs; whnf) ty43 (by exact rfl)) (by decide) ?_
  obtain ⟨x3, hx3, h⟩ := bnd_some h
  refine alD (some 11) rfl rfl (do_call0 11 false (ints_Get_ok a0.B hx3) rfl ent119 rfl rfl) (by decide) ?_
  refine alP (some 6) rfl rfl (does_move (v := .tup [.int .u64 x3.1, .int .i64 x3.2.1, .bool x3.2.2]) (by exact rfl)) (by decide) ?_
  refine alP (some 12) rfl rfl (does_extract (v := .int .u64 x3.1) (by conv => lhs; whnf) (by exact rfl)) (by decide) ?_
  refine alP (some 13) rfl rfl (does_extract (v := .int .i64 x3.2.1) (by conv => lhs; whnf) (by exact rfl)) (by decide) ?_
  refine alP (some 14) rfl rfl (does_extract (v := .bool x3.2.2) (by conv => lhs; whnf) (by exact rfl)) (by decide) ?_
  refine alP (some 3) rfl rfl (does_assign (v := .int .u64 x3.1) (by exact rfl)) (by decide) ?_
  refine alP (some 4) rfl rfl (does_assign (v := .int .i64 x3.2.1) (by exact rfl)) (by decide) ?_
  refine alP (some 5) rfl rfl (does_assign (v := .bool x3.2.2) (by exact rfl)) (by decide) ?_
  refine al_nil ?_
  refine hK2 _ ?_
  obtain ⟨q4, h, hk5⟩ := bnd_some h
  refine aw_cut (fun s => ints_Reader_Wide_k0 a0 x3 = some r ∧ s = lit [(0, .ptr 0 0 0), (3, .int .u64 x3.1), (4, .int .i64 x3.2.1)] [((0, 0), .box [.sl 1 (List.map enc5 a0.B), .bool a0.Bad])] [(0, 1)] X) ?_ ?_
  · skip
    obtain ⟨q6, h, hk7⟩ := bnd_some h
    refine aw_cut (fun s => ∃ (v22_1 : Bool), ints_Reader_Wide_k1 v22_1 = some q4 ∧ s = lit [(0, .ptr 0 0 0), (3, .int .u64 x3.1), (4, .int .i64 x3.2.1), (22, .bool v22_1)] [((0, 0), .box [.sl 1 (List.map enc5 a0.B), .bool a0.Bad])] [(0, 1)] X) ?_ ?_
    · skip
      refine aw_regL ?_
      refine alP (some 15) rfl rfl (does_move (v := .ptr 0 0 0) (by exact rfl)) (by decide) ?_
      refine alP (some 16) rfl rfl (does_nilCheck (p := .ptr 0 0 0) (by conv => lhs; whnf) rfl) (by decide) ?_
      refine alP (some 17) rfl rfl (does_fieldAddr (q := .ptr 0 0 1) (by conv => lhs; whnf) ty91 rfl ty4 (by decide) (by exact rfl)) (by decide) ?_
      refine alR (some 18) rfl rfl (does_load (v := .bool a0.Bad) (by conv => lhs; whnf) (by conv => lhs; whnf) ty4 (by exact rfl)) (by decide) ?_
      refine alP (some 19) rfl rfl (does_move (v := .bool a0.Bad) (by exact rfl)) (by decide) ?_
      refine al_bool (c := a0.Bad) 19 rfl (fun c8 => ?_) (fun c8 => ?_)
      · have h := ifT c8 h
        refine alS (some 20) rfl rfl (by decide) ?_
        refine alS (some 21) rfl rfl (by decide) ?_
        refine alP (some 22) rfl rfl (does_pick (v := .bool true) (by conv => lhs; whnf) (by exact rfl)) (by decide) ?_
        refine al_nil ?_
        obtain rfl := Option.some.inj h
        have h := hk7
        exact ⟨_, reb_lit [(0, .ptr 0 0 0), (3, .int .u64 x3.1), (4, .int .i64 x3.2.1), (22, .bool true)] [(0, 0)] [((0, 0), .box [.sl 1 (List.map enc5 a0.B), .bool a0.Bad])] [(0, 1)] (envOk_cons (by conv => lhs; whnf) (by exact rfl) (envOk_cons (by conv => lhs; whnf) (by exact rfl) (envOk_cons (by conv => lhs; whnf) (by exact rfl) (envOk_cons (by conv => lhs; whnf) (by exact rfl) envOk_nil)))) (objOk_cons (by conv => lhs; whnf) (by conv => lhs; whnf) (by exact rfl) (by simp) objOk_nil) (nodup_b rfl) (nodup_b rfl) rfl rfl, true, h, rfl⟩
      · have h := ifF c8 h
        refine alP (some 20) rfl rfl (does_move (v := .bool x3.2.2) (by exact rfl)) (by decide) ?_
        refine alP (some 21) rfl rfl (does_un (v := .bool (!x3.2.2)) (by conv => lhs; whnf) rfl) (by decide) ?_
        refine alP (some 22) rfl rfl (does_pick (v := .bool (!x3.2.2)) (by conv => lhs; whnf) (by exact rfl)) (by decide) ?_
        refine al_nil ?_
        obtain rfl := Option.some.inj h
        have h := hk7
        exact ⟨_, reb_lit [(0, .ptr 0 0 0), (3, .int .u64 x3.1), (4, .int .i64 x3.2.1), (22, .bool (!x3.2.2))] [(0, 0)] [((0, 0), .box [.sl 1 (List.map enc5 a0.B), .bool a0.Bad])] [(0, 1)] (envOk_cons (by conv => lhs; whnf) (by exact rfl) (envOk_cons (by conv => lhs; whnf) (by exact rfl) (envOk_cons (by conv => lhs; whnf) (by exact rfl) (envOk_cons (by conv => lhs; whnf) (by exact rfl) envOk_nil)))) (objOk_cons (by conv => lhs; whnf) (by conv => lhs; whnf) (by exact rfl) (by simp) objOk_nil) (nodup_b rfl) (nodup_b rfl) rfl rfl, (!x3.2.2), h, rfl⟩
    · rintro s ⟨v22_1, h, rfl⟩
      unfold ints_Reader_Wide_k1 at h
      refine aw_bool (b := v22_1) 22 rfl (fun c9 => ?_) (fun c9 => ?_)
      · have h := ifT c9 h
        refine aw_cond_t (by decide) rfl ?_
        refine aw_seq_k (fun K10 hK10 => ?_)
        refine aw_regL ?_
        refine alP (some 23) rfl rfl (does_move (v := .ptr 0 0 0) (by exact rfl)) (by decide) ?_
        refine alP (some 24) rfl rfl (does_move (v := .ptr 0 0 0) (by exact rfl)) (by decide) ?_
        refine alP (some 25) rfl rfl (does_nilCheck (p := .ptr 0 0 0) (by conv => lhs; whnf) rfl) (by decide) ?_
        refine alP (some 26) rfl rfl (does_fieldAddr (q := .ptr 0 0 0) (by conv => lhs; whnf) ty91 rfl ty43 (by decide) (by exact rfl)) (by decide) ?_
        refine alD none rfl rfl (do_store (cs' := [.nil, .bool a0.Bad]) (by conv => lhs; whnf) (by conv => lhs; whnf) (by conv => lhs; whnf) ty43 rfl rfl rfl (by exact rfl)) (by decide) ?_
        refine alP (some 27) rfl rfl (does_nilCheck (p := .ptr 0 0 0) (by conv => lhs; whnf) rfl) (by decide) ?_
        refine alP (some 28) rfl rfl (does_fieldAddr (q := .ptr 0 0 1) (by conv => lhs; whnf) ty91 rfl ty4 (by decide) (by exact rfl)) (by decide) ?_
        refine alD none rfl rfl (do_store (cs' := [.nil, .bool true]) (by conv => lhs; whnf) (by conv => lhs; whnf) (by conv => lhs; whnf) ty4 rfl rfl rfl (by exact rfl)) (by decide) ?_
        refine al_nil ?_
        refine hK10 _ ?_
        refine aw_seq_k (fun K11 hK11 => ?_)
        refine aw_regL ?_
        refine alP (some 2) rfl rfl (does_assign (v := .int .u64 0) (by exact rfl)) (by decide) ?_
        refine al_nil ?_
        refine hK11 _ ?_
        refine aw_reb (reb_w (tl' := [(2, .int .u64 0)]) (ol' := [((0, 0), .box [.sl 1 (List.map enc5 []), .bool true])]) (reb_lit [(2, .int .u64 0)] [(0, 0)] [((0, 0), .box [.nil, .bool true])] [(0, 1)] (envOk_cons (by conv => lhs; whnf) (by exact rfl) envOk_nil) (objOk_cons (by conv => lhs; whnf) (by conv => lhs; whnf) (by exact rfl) (by simp) objOk_nil) (nodup_b rfl) (nodup_b rfl) rfl rfl) ⟨rfl, le_refl _, trivial⟩ ⟨rfl, (.box ⟨le_nil _, le_refl _, trivial⟩), trivial⟩) ?_
        refine aw_ret ?_
        have h := leafR h hk5
        obtain rfl := Option.some.inj h
        exact ret_okB [] (by conv => lhs; whnf) (by conv => lhs; whnf) (by exact rfl) trivial (boxesOk_cons (by conv => lhs; whnf) (by conv => lhs; whnf) (by exact rfl) trivial) (nodup_b rfl) (.inr rfl) rfl
      · have h := ifF c9 h
        refine aw_cond_f (by decide) rfl ?_
        refine aw_skip ?_
        have h := leafL h hk5
        exact ⟨_, reb_lit [(0, .ptr 0 0 0), (3, .int .u64 x3.1), (4, .int .i64 x3.2.1)] [(0, 0)] [((0, 0), .box [.sl 1 (List.map enc5 a0.B), .bool a0.Bad])] [(0, 1)] (envOk_cons (by conv => lhs; whnf) (by exact rfl) (envOk_cons (by conv => lhs; whnf) (by exact rfl) (envOk_cons (by conv => lhs; whnf) (by exact rfl) envOk_nil))) (objOk_cons (by conv => lhs; whnf) (by conv => lhs; whnf) (by exact rfl) (by simp) objOk_nil) (nodup_b rfl) (nodup_b rfl) rfl rfl, h, rfl⟩
  · rintro s ⟨h, rfl⟩
    unfold ints_Reader_Wide_k0 at h
    refine aw_seq_k (fun K12 hK12 => ?_)
    refine aw_regL ?_
    refine alP (some 29) rfl rfl (does_move (v := .ptr 0 0 0) (by exact rfl)) (by decide) ?_
    refine alP (some 30) rfl rfl (does_move (v := .ptr 0 0 0) (by exact rfl)) (by decide) ?_
    refine alP (some 31) rfl rfl (does_nilCheck (p := .ptr 0 0 0) (by conv => lhs; whnf) rfl) (by decide) ?_
    refine alP (some 32) rfl rfl (does_fieldAddr (q := .ptr 0 0 0) (by conv => lhs; whnf) ty91 rfl ty43 (by decide) (by exact rfl)) (by decide) ?_
    refine alR (some 33) rfl rfl (does_load (v := .sl 1 (List.map enc5 a0.B)) (by conv => lhs; whnf) (by conv => lhs; whnf) ty43 (by exact rfl)) (by decide) ?_
    refine alP (some 34) rfl rfl (does_move (v := .int .i64 x3.2.1) (by exact rfl)) (by decide) ?_
    obtain ⟨g13, h⟩ := gd_some h
    obtain ⟨g14, h⟩ := gd_some h
    refine alP (some 35) rfl rfl (does_slice_sl (l := (Int.toNat x3.2.1)) (by conv => lhs; whnf) ty43 ty5 (bd_some (by conv => lhs; whnf) (by exact (nat_of g13))) bd_none (by (try simp only [List.length_map]); omega) (by (try simp only [List.length_map]); omega) (by exact part_l _ _)) (by decide) ?_
    refine alP (some 36) rfl rfl (does_nilCheck (p := .ptr 0 0 0) (by conv => lhs; whnf) rfl) (by decide) ?_
    refine alP (some 37) rfl rfl (does_fieldAddr (q := .ptr 0 0 0) (by conv => lhs; whnf) ty91 rfl ty43 (by decide) (by exact rfl)) (by decide) ?_
    refine alD none rfl rfl (do_store (cs' := [.sl 1 (List.map enc5 (List.drop (Int.toNat x3.2.1) a0.B)), .bool a0.Bad]) (by conv => lhs; whnf) (by conv => lhs; whnf) (by conv => lhs; whnf) ty43 rfl rfl rfl (by exact rfl)) (by decide) ?_
    refine al_nil ?_
    refine hK12 _ ?_
    refine aw_seq_k (fun K15 hK15 => ?_)
    refine aw_regL ?_
    refine alP (some 38) rfl rfl (does_move (v := .int .u64 x3.1) (by exact rfl)) (by decide) ?_
    refine alP (some 2) rfl rfl (does_assign (v := .int .u64 x3.1) (by exact rfl)) (by decide) ?_
    refine al_nil ?_
    refine hK15 _ ?_
    refine aw_ret ?_
    obtain rfl := Option.some.inj h
    exact ret_okB [] (by conv => lhs; whnf) (by conv => lhs; whnf) (by exact rfl) trivial (boxesOk_cons (by conv => lhs; whnf) (by conv => lhs; whnf) (by exact rfl) trivial) (nodup_b rfl) (.inr rfl) rfl
def ints_Reader_Count (a0 : Reader) : Option (Int × Reader) :=
  Option.bind (ints_Reader_Wide a0) (fun (x3 : Int × Reader) => if (decide ((IntKind.u64.wrap (List.length x3.2.B : Int)) < x3.1)) = true then (some (0, (Reader.mk [] true))) else (some ((IntKind.i64.wrap x3.1), x3.2)))
set_option maxRecDepth 100000 in
set_option maxHeartbeats 8000000 in
/-- (*gleaning/ints.Reader).Count -/
theorem ints_Reader_Count_ok (a0 : Reader) {r : Int × Reader} (h : ints_Reader_Count a0 = some r) : Ok Try.prog 120 [.ptr 0 0 0] [[.sl 1 (List.map enc5 a0.B), .bool a0.Bad]] [] (.int .i64 r.1) [[.sl 1 (List.map enc5 r.2.B), .bool r.2.Bad]] [] := by
  unfold ints_Reader_Count at h
  refine ok_of_code Try.func120 rfl (by show (1 : Nat) ≤ _; decide) (Nat.le_refl _) fun X => ?_
  refine aw_seq_k (fun K1 hK1 => ?_)
  refine aw_regL ?_
  refine alP (some 2) rfl rfl (does_assign (v := .int .i64 0) (by exact rfl)) (by decide) ?_
  refine al_nil ?_
  refine hK1 _ ?_
  refine aw_seq_k (fun K2 hK2 => ?_)
  refine aw_regL ?_
  refine alP (some 4) rfl rfl (does_move (v := .ptr 0 0 0) (by exact rfl)) (by decide) ?_
  obtain ⟨x3, hx3, h⟩ := bnd_some h
  refine alD (some 5) rfl rfl (do_callG (bcs := [[.sl 1 (List.map enc5 a0.B), .bool a0.Bad]]) [(0, 0)] [] [] 5 false (ints_Reader_Wide_ok a0 hx3) rfl ent99 ⟨(by exact rfl), trivial⟩ trivial rfl rfl rfl rfl rfl rfl rfl rfl (.inl trivial)) (by decide) ?_
  refine alP (some 3) rfl rfl (does_assign (v := .int .u64 x3.1) (by exact rfl)) (by decide) ?_
  refine al_nil ?_
  refine hK2 _ ?_
  refine aw_seq_k (fun K4 hK4 => ?_)
  refine aw_seq_k (fun K5 hK5 => ?_)
  refine aw_regL ?_
  refine alP (some 6) rfl rfl (does_move (v := .int .u64 x3.1) (by exact rfl)) (by decide) ?_
  refine alP (some 7) rfl rfl (does_move (v := .ptr 0 0 0) (by exact rfl)) (by decide) ?_
  refine alP (some 8) rfl rfl (does_nilCheck (p := .ptr 0 0 0) (by conv => lhs; whnf) rfl) (by decide) ?_
  refine alP (some 9) rfl rfl (does_fieldAddr (q := .ptr 0 0 0) (by conv => lhs; whnf) ty91 rfl ty43 (by decide) (by exact rfl)) (by decide) ?_
  refine alR (some 10) rfl rfl (does_load (v := .sl 1 (List.map enc5 x3.2.B)) (by conv => lhs; whnf) (by conv => lhs; whnf) ty43 (by exact rfl)) (by decide) ?_
  refine alP (some 11) rfl rfl ((does_len_sl (by conv => lhs; whnf) ty43).castp (v' := .int .i64 (List.length x3.2.B : Int)) (by exact len_map _)) (by decide) ?_
  refine alP (some 12) rfl rfl (does_conv_int (v := .int .u64 (IntKind.u64.wrap (List.length x3.2.B : Int))) (by conv => lhs; whnf) (ty_some ty3) (ty_int ty25) rfl) (by decide) ?_
  refine alP (some 13) rfl rfl (does_bin (v := .bool (decide ((IntKind.u64.wrap (List.length x3.2.B : Int)) < x3.1))) (by conv => lhs; whnf) (by conv => lhs; whnf) rfl) (by decide) ?_
  refine al_nil ?_
  refine hK5 _ ?_
  refine aw_bool (b := (decide ((IntKind.u64.wrap (List.length x3.2.B : Int)) < x3.1))) 13 rfl (fun c6 => ?_) (fun c6 => ?_)
  · have h := ifT c6 h
    refine aw_cond_t (by decide) rfl ?_
    refine aw_seq_k (fun K7 hK7 => ?_)
    refine aw_regL ?_
    refine alP (some 14) rfl rfl (does_move (v := .ptr 0 0 0) (by exact rfl)) (by decide) ?_
    refine alP (some 15) rfl rfl (does_move (v := .ptr 0 0 0) (by exact rfl)) (by decide) ?_
    refine alP (some 16) rfl rfl (does_nilCheck (p := .ptr 0 0 0) (by conv => lhs; whnf) rfl) (by decide) ?_
    refine alP (some 17) rfl rfl (does_fieldAddr (q := .ptr 0 0 0) (by conv => lhs; whnf) ty91 rfl ty43 (by decide) (by exact rfl)) (by decide) ?_
    refine alD none rfl rfl (do_store (cs' := [.nil, .bool x3.2.Bad]) (by conv => lhs; whnf) (by conv => lhs; whnf) (by conv => lhs; whnf) ty43 rfl rfl rfl (by exact rfl)) (by decide) ?_
    refine alP (some 18) rfl rfl (does_nilCheck (p := .ptr 0 0 0) (by conv => lhs; whnf) rfl) (by decide) ?_
    refine alP (some 19) rfl rfl (does_fieldAddr (q := .ptr 0 0 1) (by conv => lhs; whnf) ty91 rfl ty4 (by decide) (by exact rfl)) (by decide) ?_
    refine alD none rfl rfl (do_store (cs' := [.nil, .bool true]) (by conv => lhs; whnf) (by conv => lhs; whnf) (by conv => lhs; whnf) ty4 rfl rfl rfl (by exact rfl)) (by decide) ?_
    refine al_nil ?_
    refine hK7 _ ?_
    refine aw_seq_k (fun K8 hK8 => ?_)
    refine aw_regL ?_
    refine alP (some 2) rfl rfl (does_assign (v := .int .i64 0) (by exact rfl)) (by decide) ?_
    refine al_nil ?_
    refine hK8 _ ?_
    refine aw_reb (reb_w (tl' := [(2, .int .i64 0)]) (ol' := [((0, 0), .box [.sl 1 (List.map enc5 []), .bool true])]) (reb_lit [(2, .int .i64 0)] [(0, 0)] [((0, 0), .box [.nil, .bool true])] [(0, 1)] (envOk_cons (by conv => lhs; whnf) (by exact rfl) envOk_nil) (objOk_cons (by conv => lhs; whnf) (by conv => lhs; whnf) (by exact rfl) (by simp) objOk_nil) (nodup_b rfl) (nodup_b rfl) rfl rfl) ⟨rfl, le_refl _, trivial⟩ ⟨rfl, (.box ⟨le_nil _, le_refl _, trivial⟩), trivial⟩) ?_
    refine aw_ret ?_
    obtain rfl := Option.some.inj h
    exact ret_okB [] (by conv => lhs; whnf) (by conv => lhs; whnf) (by exact rfl) trivial (boxesOk_cons (by conv => lhs; whnf) (by conv => lhs; whnf) (by exact rfl) trivial) (nodup_b rfl) (.inr rfl) rfl
  · have h := ifF c6 h
    refine aw_cond_f (by decide) rfl ?_
    refine aw_skip ?_
    refine hK4 _ ?_
    refine aw_seq_k (fun K9 hK9 => ?_)
    refine aw_regL ?_
    refine alP (some 20) rfl rfl (does_move (v := .int .u64 x3.1) (by exact rfl)) (by decide) ?_
    refine alP (some 21) rfl rfl (does_conv_int (v := .int .i64 (IntKind.i64.wrap x3.1)) (by conv => lhs; whnf) (ty_some ty25) (ty_int ty3) rfl) (by decide) ?_
    refine alP (some 2) rfl rfl (does_assign (v := .int .i64 (IntKind.i64.wrap x3.1)) (by exact rfl)) (by decide) ?_
    refine al_nil ?_
    refine hK9 _ ?_
    refine aw_ret ?_
    obtain rfl := Option.some.inj h
    exact ret_okB [] (by conv => lhs; whnf) (by conv => lhs; whnf) (by exact rfl) trivial (boxesOk_cons (by conv => lhs; whnf) (by conv => lhs; whnf) (by exact rfl) trivial) (nodup_b rfl) (.inr rfl) rfl
def ints_Reader_Take_k1 (v18_1 : Bool) : Option (Unit ⊕ (List UInt8 × Reader)) :=
  if v18_1 = true then (some (Sum.inr ([], (Reader.mk [] true)))) else (some (Sum.inl ()))
def ints_Reader_Take_k0 (a0 : Reader) (a1 : Int) : Option (List UInt8 × Reader) :=
  gd (0 ≤ a1) (gd (a1 ≤ (List.length a0.B : Int)) (gd (0 ≤ a1) (gd (a1 ≤ (List.length a0.B : Int)) (some ((List.take (Int.toNat a1) a0.B), (Reader.mk (List.drop (Int.toNat a1) a0.B) a0.Bad))))))
def ints_Reader_Take (a0 : Reader) (a1 : Int) : Option (List UInt8 × Reader) :=
  Option.bind (Option.bind (if a0.Bad = true then (some true) else (some (decide ((List.length a0.B : Int) < a1)))) (fun (s : Bool) => ints_Reader_Take_k1 s)) (Sum.elim (fun (s : Unit) => ints_Reader_Take_k0 a0 a1) some)
set_option maxRecDepth 100000 in
set_option maxHeartbeats 8000000 in
/-- (*gleaning/ints.Reader).Take -/
theorem ints_Reader_Take_ok (a0 : Reader) (a1 : Int) {r : List UInt8 × Reader} (h : ints_Reader_Take a0 a1 = some r) : Ok Try.prog 108 [.ptr 0 0 0, .int .i64 a1] [[.sl 1 (List.map enc5 a0.B), .bool a0.Bad]] [] (.sl 1 (List.map enc5 r.1)) [[.sl 1 (List.map enc5 r.2.B), .bool r.2.Bad]] [] := by
  unfold ints_Reader_Take at h
  refine ok_of_code Try.func108 rfl (by show (2 : Nat) ≤ _; decide) (Nat.le_refl _) fun X => ?_
  refine aw_seq_k (fun K1 hK1 => ?_)
  refine aw_regL ?_
  refine alP (some 4) rfl rfl (does_assign (v := .nil) (by exact rfl)) (by decide) ?_
  refine al_nil ?_
  refine hK1 _ ?_
  obtain ⟨q2, h, hk3⟩ := bnd_some h
  refine aw_cut (fun s => ints_Reader_Take_k0 a0 a1 = some r ∧ s = lit [(0, .ptr 0 0 0), (1, .int .i64 a1)] [((0, 0), .box [.sl 1 (List.map enc5 a0.B), .bool a0.Bad])] [(0, 1)] X) ?_ ?_
  · skip
    obtain ⟨q4, h, hk5⟩ := bnd_some h
    refine aw_cut (fun s => ∃ (v18_1 : Bool), ints_Reader_Take_k1 v18_1 = some q2 ∧ s = lit [(0, .ptr 0 0 0), (1, .int .i64 a1), (18, .bool v18_1)] [((0, 0), .box [.sl 1 (List.map enc5 a0.B), .bool a0.Bad])] [(0, 1)] X) ?_ ?_
    · skip
      refine aw_regL ?_
      refine alP (some 6) rfl rfl (does_move (v := .ptr 0 0 0) (by exact rfl)) (by decide) ?_
      refine alP (some 7) rfl rfl (does_nilCheck (p := .ptr 0 0 0) (by conv => lhs; whnf) rfl) (by decide) ?_
      refine alP (some 8) rfl rfl (does_fieldAddr (q := .ptr 0 0 1) (by conv => lhs; whnf) ty91 rfl ty4 (by decide) (by exact rfl)) (by decide) ?_
      refine alR (some 9) rfl rfl (does_load (v := .bool a0.Bad) (by conv => lhs; whnf) (by conv => lhs; whnf) ty4 (by exact rfl)) (by decide) ?_
      refine alP (some 10) rfl rfl (does_move (v := .bool a0.Bad) (by exact rfl)) (by decide) ?_
      refine al_bool (c := a0.Bad) 10 rfl (fun c6 => ?_) (fun c6 => ?_)
      · have h := ifT c6 h
        refine alS (some 11) rfl rfl (by decide) ?_
        refine alS (some 12) rfl rfl (by decide) ?_
        refine alS (some 13) rfl rfl (by decide) ?_
        refine alS (some 14) rfl rfl (by decide) ?_
        refine alS (some 15) rfl rfl (by decide) ?_
        refine alS (some 16) rfl rfl (by decide) ?_
        refine alS (some 17) rfl rfl (by decide) ?_
        refine alP (some 18) rfl rfl (does_pick (v := .bool true) (by conv => lhs; whnf) (by exact rfl)) (by decide) ?_
        refine al_nil ?_
        obtain rfl := Option.some.inj h
        have h := hk5
        exact ⟨_, reb_lit [(0, .ptr 0 0 0), (1, .int .i64 a1), (18, .bool true)] [(0, 0)] [((0, 0), .box [.sl 1 (List.map enc5 a0.B), .bool a0.Bad])] [(0, 1)] (envOk_cons (by conv => lhs; whnf) (by exact rfl) (envOk_cons (by conv => lhs; whnf) (by exact rfl) (envOk_cons (by conv => lhs; whnf) (by exact rfl) envOk_nil))) (objOk_cons (by conv => lhs; whnf) (by conv => lhs; whnf) (by exact rfl) (by simp) objOk_nil) (nodup_b rfl) (nodup_b rfl) rfl rfl, true, h, rfl⟩
      · have h := ifF c6 h
        refine alP (some 11) rfl rfl (does_move (v := .int .i64 a1) (by exact rfl)) (by decide) ?_
        refine alP (some 12) rfl rfl (does_move (v := .ptr 0 0 0) (by exact rfl)) (by decide) ?_
        refine alP (some 13) rfl rfl (does_nilCheck (p := .ptr 0 0 0) (by conv => lhs; whnf) rfl) (by decide) ?_
        refine alP (some 14) rfl rfl (does_fieldAddr (q := .ptr 0 0 0) (by conv => lhs; whnf) ty91 rfl ty43 (by decide) (by exact rfl)) (by decide) ?_
        refine alR (some 15) rfl rfl (does_load (v := .sl 1 (List.map enc5 a0.B)) (by conv => lhs; whnf) (by conv => lhs; whnf) ty43 (by exact rfl)) (by decide) ?_
        refine alP (some 16) rfl rfl ((does_len_sl (by conv => lhs; whnf) ty43).castp (v' := .int .i64 (List.length a0.B : Int)) (by exact len_map _)) (by decide) ?_
        refine alP (some 17) rfl rfl (does_bin (v := .bool (decide ((List.length a0.B : Int) < a1))) (by conv => lhs; whnf) (by conv => lhs; whnf) rfl) (by decide) ?_
        refine alP (some 18) rfl rfl (does_pick (v := .bool (decide ((List.length a0.B : Int) < a1))) (by conv => lhs; whnf) (by exact rfl)) (by decide) ?_
        refine al_nil ?_
        obtain rfl := Option.some.inj h
        have h := hk5
        exact ⟨_, reb_lit [(0, .ptr 0 0 0), (1, .int .i64 a1), (18, .bool (decide ((List.length a0.B : Int) < a1)))] [(0, 0)] [((0, 0), .box [.sl 1 (List.map enc5 a0.B), .bool a0.Bad])] [(0, 1)] (envOk_cons (by conv => lhs; whnf) (by exact rfl) (envOk_cons (by conv => lhs; whnf) (by exact rfl) (envOk_cons (by conv => lhs; whnf) (by exact rfl) envOk_nil))) (objOk_cons (by conv => lhs; whnf) (by conv => lhs; whnf) (by exact rfl) (by simp) objOk_nil) (nodup_b rfl) (nodup_b rfl) rfl rfl, (decide ((List.length a0.B : Int) < a1)), h, rfl⟩
    · rintro s ⟨v18_1, h, rfl⟩
      unfold ints_Reader_Take_k1 at h
      refine aw_bool (b := v18_1) 18 rfl (fun c7 => ?_) (fun c7 => ?_)
      · have h := ifT c7 h
        refine aw_cond_t (by decide) rfl ?_
        refine aw_seq_k (fun K8 hK8 => ?_)
        refine aw_regL ?_
        refine alP (some 19) rfl rfl (does_move (v := .ptr 0 0 0) (by exact rfl)) (by decide) ?_
        refine alP (some 20) rfl rfl (does_move (v := .ptr 0 0 0) (by exact rfl)) (by decide) ?_
        refine alP (some 21) rfl rfl (does_nilCheck (p := .ptr 0 0 0) (by conv => lhs; whnf) rfl) (by decide) ?_
        refine alP (some 22) rfl rfl (does_fieldAddr (q := .ptr 0 0 0) (by conv => lhs; whnf) ty91 rfl ty43 (by decide) (by exact rfl)) (by decide) ?_
        refine alD none rfl rfl (do_store (cs' := [.nil, .bool a0.Bad]) (by conv => lhs; whnf) (by conv => lhs; whnf) (by conv => lhs; whnf) ty43 rfl rfl rfl (by exact rfl)) (by decide) ?_
        refine alP (some 23) rfl rfl (does_nilCheck (p := .ptr 0 0 0) (by conv => lhs; whnf) rfl) (by decide) ?_
        refine alP (some 24) rfl rfl (does_fieldAddr (q := .ptr 0 0 1) (by conv => lhs; whnf) ty91 rfl ty4 (by decide) (by exact rfl)) (by decide) ?_
        refine alD none rfl rfl (do_store (cs' := [.nil, .bool true]) (by conv => lhs; whnf) (by conv => lhs; whnf) (by conv => lhs; whnf) ty4 rfl rfl rfl (by exact rfl)) (by decide) ?_
        refine al_nil ?_
        refine hK8 _ ?_
        refine aw_seq_k (fun K9 hK9 => ?_)
        refine aw_regL ?_
        refine alP (some 4) rfl rfl (does_assign (v := .nil) (by exact rfl)) (by decide) ?_
        refine al_nil ?_
        refine hK9 _ ?_
        refine aw_reb (reb_w (tl' := [(4, .sl 1 (List.map enc5 []))]) (ol' := [((0, 0), .box [.sl 1 (List.map enc5 []), .bool true])]) (reb_lit [(4, .nil)] [(0, 0)] [((0, 0), .box [.nil, .bool true])] [(0, 1)] (envOk_cons (by conv => lhs; whnf) (by exact rfl) envOk_nil) (objOk_cons (by conv => lhs; whnf) (by conv => lhs; whnf) (by exact rfl) (by simp) objOk_nil) (nodup_b rfl) (nodup_b rfl) rfl rfl) ⟨rfl, (le_nil _), trivial⟩ ⟨rfl, (.box ⟨le_nil _, le_refl _, trivial⟩), trivial⟩) ?_
        refine aw_ret ?_
        have h := leafR h hk3
        obtain rfl := Option.some.inj h
        exact ret_okB [] (by conv => lhs; whnf) (by conv => lhs; whnf) (by exact rfl) trivial (boxesOk_cons (by conv => lhs; whnf) (by conv => lhs; whnf) (by exact rfl) trivial) (nodup_b rfl) (.inr rfl) rfl
      · have h := ifF c7 h
        refine aw_cond_f (by decide) rfl ?_
        refine aw_skip ?_
        have h := leafL h hk3
        exact ⟨_, reb_lit [(0, .ptr 0 0 0), (1, .int .i64 a1)] [(0, 0)] [((0, 0), .box [.sl 1 (List.map enc5 a0.B), .bool a0.Bad])] [(0, 1)] (envOk_cons (by conv => lhs; whnf) (by exact rfl) (envOk_cons (by conv => lhs; whnf) (by exact rfl) envOk_nil)) (objOk_cons (by conv => lhs; whnf) (by conv => lhs; whnf) (by exact rfl) (by simp) objOk_nil) (nodup_b rfl) (nodup_b rfl) rfl rfl, h, rfl⟩
  · rintro s ⟨h, rfl⟩
    unfold ints_Reader_Take_k0 at h
    refine aw_seq_k (fun K10 hK10 => ?_)
    refine aw_regL ?_
    refine alP (some 25) rfl rfl (does_move (v := .ptr 0 0 0) (by exact rfl)) (by decide) ?_
    refine alP (some 26) rfl rfl (does_nilCheck (p := .ptr 0 0 0) (by conv => lhs; whnf) rfl) (by decide) ?_
    refine alP (some 27) rfl rfl (does_fieldAddr (q := .ptr 0 0 0) (by conv => lhs; whnf) ty91 rfl ty43 (by decide) (by exact rfl)) (by decide) ?_
    refine alR (some 28) rfl rfl (does_load (v := .sl 1 (List.map enc5 a0.B)) (by conv => lhs; whnf) (by conv => lhs; whnf) ty43 (by exact rfl)) (by decide) ?_
    refine alP (some 29) rfl rfl (does_move (v := .int .i64 a1) (by exact rfl)) (by decide) ?_
    obtain ⟨g11, h⟩ := gd_some h
    obtain ⟨g12, h⟩ := gd_some h
    refine alP (some 30) rfl rfl (does_slice_sl (l := 0) (k := (Int.toNat a1)) (by conv => lhs; whnf) ty43 ty5 bd_none (bd_some (by conv => lhs; whnf) (by exact (nat_of (by omega)))) (by (try simp only [List.length_map]); omega) (by (try simp only [List.length_map]); omega) (by exact part_h _ _)) (by decide) ?_
    refine alP (some 5) rfl rfl (does_assign (v := .sl 1 (List.map enc5 (List.take (Int.toNat a1) a0.B))) (by exact rfl)) (by decide) ?_
    refine al_nil ?_
    refine hK10 _ ?_
    refine aw_seq_k (fun K13 hK13 => ?_)
    refine aw_regL ?_
    refine alP (some 31) rfl rfl (does_move (v := .ptr 0 0 0) (by exact rfl)) (by decide) ?_
    refine alP (some 32) rfl rfl (does_move (v := .ptr 0 0 0) (by exact rfl)) (by decide) ?_
    refine alP (some 33) rfl rfl (does_nilCheck (p := .ptr 0 0 0) (by conv => lhs; whnf) rfl) (by decide) ?_
    refine alP (some 34) rfl rfl (does_fieldAddr (q := .ptr 0 0 0) (by conv => lhs; whnf) ty91 rfl ty43 (by decide) (by exact rfl)) (by decide) ?_
    refine alR (some 35) rfl rfl (does_load (v := .sl 1 (List.map enc5 a0.B)) (by conv => lhs; whnf) (by conv => lhs; whnf) ty43 (by exact rfl)) (by decide) ?_
    refine alP (some 36) rfl rfl (does_move (v := .int .i64 a1) (by exact rfl)) (by decide) ?_
    obtain ⟨g14, h⟩ := gd_some h
    obtain ⟨g15, h⟩ := gd_some h
    refine alP (some 37) rfl rfl (does_slice_sl (l := (Int.toNat a1)) (by conv => lhs; whnf) ty43 ty5 (bd_some (by conv => lhs; whnf) (by exact (nat_of g14))) bd_none (by (try simp only [List.length_map]); omega) (by (try simp only [List.length_map]); omega) (by exact part_l _ _)) (by decide) ?_
    refine alP (some 38) rfl rfl (does_nilCheck (p := .ptr 0 0 0) (by conv => lhs; whnf) rfl) (by decide) ?_
    refine alP (some 39) rfl rfl (does_fieldAddr (q := .ptr 0 0 0) (by conv => lhs; whnf) ty91 rfl ty43 (by decide) (by exact rfl)) (by decide) ?_
    refine alD none rfl rfl (do_store (cs' := [.sl 1 (List.map enc5 (List.drop (Int.toNat a1) a0.B)), .bool a0.Bad]) (by conv => lhs; whnf) (by conv => lhs; whnf) (by conv => lhs; whnf) ty43 rfl rfl rfl (by exact rfl)) (by decide) ?_
    refine al_nil ?_
    refine hK13 _ ?_
    refine aw_seq_k (fun K16 hK16 => ?_)
    refine aw_regL ?_
    refine alP (some 40) rfl rfl (does_move (v := .sl 1 (List.map enc5 (List.take (Int.toNat a1) a0.B))) (by exact rfl)) (by decide) ?_
    refine alP (some 4) rfl rfl (does_assign (v := .sl 1 (List.map enc5 (List.take (Int.toNat a1) a0.B))) (by exact rfl)) (by decide) ?_
    refine al_nil ?_
    refine hK16 _ ?_
    refine aw_ret ?_
    obtain rfl := Option.some.inj h
    exact ret_okB [] (by conv => lhs; whnf) (by conv => lhs; whnf) (by exact rfl) trivial (boxesOk_cons (by conv => lhs; whnf) (by conv => lhs; whnf) (by exact rfl) trivial) (nodup_b rfl) (.inr rfl) rfl
def ints_Reader_Text (a0 : Reader) : Option (ByteArray × Reader) :=
  Option.bind (ints_Reader_Count a0) (fun (x3 : Int × Reader) => Option.bind (ints_Reader_Take x3.2 x3.1) (fun (x4 : List UInt8 × Reader) => some ((strOf x4.1), x4.2)))
set_option maxRecDepth 100000 in
set_option maxHeartbeats 8000000 in
/-- (*gleaning/ints.Reader).Text -/
theorem ints_Reader_Text_ok (a0 : Reader) {r : ByteArray × Reader} (h : ints_Reader_Text a0 = some r) : Ok Try.prog 100 [.ptr 0 0 0] [[.sl 1 (List.map enc5 a0.B), .bool a0.Bad]] [] (.str r.1) [[.sl 1 (List.map enc5 r.2.B), .bool r.2.Bad]] [] := by
  unfold ints_Reader_Text at h
  refine ok_of_code Try.func100 rfl (by show (1 : Nat) ≤ _; decide) (Nat.le_refl _) fun X => ?_
  refine aw_seq_k (fun K1 hK1 => ?_)
  refine aw_regL ?_
  refine alP (some 2) rfl rfl (does_assign (v := .str (strOf [])) (by exact rfl)) (by decide) ?_
  refine al_nil ?_
  refine hK1 _ ?_
  refine aw_seq_k (fun K2 hK2 => ?_)
  refine aw_regL ?_
  refine alP (some 3) rfl rfl (does_move (v := .ptr 0 0 0) (by exact rfl)) (by decide) ?_
  refine alP (some 4) rfl rfl (does_move (v := .ptr 0 0 0) (by exact rfl)) (by decide) ?_
  obtain ⟨x3, hx3, h⟩ := bnd_some h
  refine alD (some 5) rfl rfl (do_callG (bcs := [[.sl 1 (List.map enc5 a0.B), .bool a0.Bad]]) [(0, 0)] [] [] 5 false (ints_Reader_Count_ok a0 hx3) rfl ent120 ⟨(by exact rfl), trivial⟩ trivial rfl rfl rfl rfl rfl rfl rfl rfl (.inl trivial)) (by decide) ?_
  obtain ⟨x4, hx4, h⟩ := bnd_some h
  refine alD (some 6) rfl rfl (do_callG (bcs := [[.sl 1 (List.map enc5 x3.2.B), .bool x3.2.Bad]]) [(0, 0)] [] [] 6 false (ints_Reader_Take_ok x3.2 x3.1 hx4) rfl ent108 ⟨(by exact rfl), trivial⟩ trivial rfl rfl rfl rfl rfl rfl rfl rfl (.inl trivial)) (by decide) ?_
  refine alR (some 7) rfl rfl (does_bytes_str (l := x4.1) (f := enc5) (by conv => lhs; whnf) (by conv => lhs; whnf) (Nat.le_refl 1) (ty_slice ty43) (ty_int ty5) (ty_str ty9) (fun _ => rfl)) (by decide) ?_
  refine alP (some 2) rfl rfl (does_assign (v := .str (strOf x4.1)) (by exact rfl)) (by decide) ?_
  refine al_nil ?_
  refine hK2 _ ?_
  refine aw_ret ?_
  obtain rfl := Option.some.inj h
  exact ret_okB [] (by conv => lhs; whnf) (by conv => lhs; whnf) (by exact rfl) trivial (boxesOk_cons (by conv => lhs; whnf) (by conv => lhs; whnf) (by exact rfl) trivial) (nodup_b rfl) (.inr rfl) rfl
def ints_Reader_Num (a0 : Reader) (a1 : Int) : Option (Int × Reader) :=
  Option.bind (ints_Reader_Wide a0) (fun (x3 : Int × Reader) => if (decide ((IntKind.u64.wrap a1) < x3.1)) = true then (some (0, (Reader.mk [] true))) else (some ((IntKind.i64.wrap x3.1), x3.2)))
set_option maxRecDepth 100000 in
set_option maxHeartbeats 8000000 in
/-- (*gleaning/ints.Reader).Num -/
theorem ints_Reader_Num_ok (a0 : Reader) (a1 : Int) {r : Int × Reader} (h : ints_Reader_Num a0 a1 = some r) : Ok Try.prog 80 [.ptr 0 0 0, .int .i64 a1] [[.sl 1 (List.map enc5 a0.B), .bool a0.Bad]] [] (.int .i64 r.1) [[.sl 1 (List.map enc5 r.2.B), .bool r.2.Bad]] [] := by
  unfold ints_Reader_Num at h
  refine ok_of_code Try.func80 rfl (by show (2 : Nat) ≤ _; decide) (Nat.le_refl _) fun X => ?_
  refine aw_seq_k (fun K1 hK1 => ?_)
  refine aw_regL ?_
  refine alP (some 4) rfl rfl (does_assign (v := .int .i64 0) (by exact rfl)) (by decide) ?_
  refine al_nil ?_
  refine hK1 _ ?_
  refine aw_seq_k (fun K2 hK2 => ?_)
  refine aw_regL ?_
  refine alP (some 6) rfl rfl (does_move (v := .ptr 0 0 0) (by exact rfl)) (by decide) ?_
  obtain ⟨x3, hx3, h⟩ := bnd_some h
  refine alD (some 7) rfl rfl (do_callG (bcs := [[.sl 1 (List.map enc5 a0.B), .bool a0.Bad]]) [(0, 0)] [] [] 7 false (ints_Reader_Wide_ok a0 hx3) rfl ent99 ⟨(by exact rfl), trivial⟩ trivial rfl rfl rfl rfl rfl rfl rfl rfl (.inl trivial)) (by decide) ?_
  refine alP (some 5) rfl rfl (does_assign (v := .int .u64 x3.1) (by exact rfl)) (by decide) ?_
  refine al_nil ?_
  refine hK2 _ ?_
  refine aw_seq_k (fun K4 hK4 => ?_)
  refine aw_seq_k (fun K5 hK5 => ?_)
  refine aw_regL ?_
  refine alP (some 8) rfl rfl (does_move (v := .int .u64 x3.1) (by exact rfl)) (by decide) ?_
  refine alP (some 9) rfl rfl (does_move (v := .int .i64 a1) (by exact rfl)) (by decide) ?_
  refine alP (some 10) rfl rfl (does_conv_int (v := .int .u64 (IntKind.u64.wrap a1)) (by conv => lhs; whnf) (ty_some ty3) (ty_int ty25) rfl) (by decide) ?_
  refine alP (some 11) rfl rfl (does_bin (v := .bool (decide ((IntKind.u64.wrap a1) < x3.1))) (by conv => lhs; whnf) (by conv => lhs; whnf) rfl) (by decide) ?_
  refine al_nil ?_
  refine hK5 _ ?_
  refine aw_bool (b := (decide ((IntKind.u64.wrap a1) < x3.1))) 11 rfl (fun c6 => ?_) (fun c6 => ?_)
  · have h := ifT c6 h
    refine aw_cond_t (by decide) rfl ?_
    refine aw_seq_k (fun K7 hK7 => ?_)
    refine aw_regL ?_
    refine alP (some 12) rfl rfl (does_move (v := .ptr 0 0 0) (by exact rfl)) (by decide) ?_
    refine alP (some 13) rfl rfl (does_move (v := .ptr 0 0 0) (by exact rfl)) (by decide) ?_
    refine alP (some 14) rfl rfl (does_nilCheck (p := .ptr 0 0 0) (by conv => lhs; whnf) rfl) (by decide) ?_
    refine alP (some 15) rfl rfl (does_fieldAddr (q := .ptr 0 0 0) (by conv => lhs; whnf) ty91 rfl ty43 (by decide) (by exact rfl)) (by decide) ?_
    refine alD none rfl rfl (do_store (cs' := [.nil, .bool x3.2.Bad]) (by conv => lhs; whnf) (by conv => lhs; whnf) (by conv => lhs; whnf) ty43 rfl rfl rfl (by exact rfl)) (by decide) ?_
    refine alP (some 16) rfl rfl (does_nilCheck (p := .ptr 0 0 0) (by conv => lhs; whnf) rfl) (by decide) ?_
    refine alP (some 17) rfl rfl (does_fieldAddr (q := .ptr 0 0 1) (by conv => lhs; whnf) ty91 rfl ty4 (by decide) (by exact rfl)) (by decide) ?_
    refine alD none rfl rfl (do_store (cs' := [.nil, .bool true]) (by conv => lhs; whnf) (by conv => lhs; whnf) (by conv => lhs; whnf) ty4 rfl rfl rfl (by exact rfl)) (by decide) ?_
    refine al_nil ?_
    refine hK7 _ ?_
    refine aw_seq_k (fun K8 hK8 => ?_)
    refine aw_regL ?_
    refine alP (some 4) rfl rfl (does_assign (v := .int .i64 0) (by exact rfl)) (by decide) ?_
    refine al_nil ?_
    refine hK8 _ ?_
    refine aw_reb (reb_w (tl' := [(4, .int .i64 0)]) (ol' := [((0, 0), .box [.sl 1 (List.map enc5 []), .bool true])]) (reb_lit [(4, .int .i64 0)] [(0, 0)] [((0, 0), .box [.nil, .bool true])] [(0, 1)] (envOk_cons (by conv => lhs; whnf) (by exact rfl) envOk_nil) (objOk_cons (by conv => lhs; whnf) (by conv => lhs; whnf) (by exact rfl) (by simp) objOk_nil) (nodup_b rfl) (nodup_b rfl) rfl rfl) ⟨rfl, le_refl _, trivial⟩ ⟨rfl, (.box ⟨le_nil _, le_refl _, trivial⟩), trivial⟩) ?_
    refine aw_ret ?_
    obtain rfl := Option.some.inj h
    exact ret_okB [] (by conv => lhs; whnf) (by conv => lhs; whnf) (by exact rfl) trivial (boxesOk_cons (by conv => lhs; whnf) (by conv => lhs; whnf) (by exact rfl) trivial) (nodup_b rfl) (.inr rfl) rfl
  · have h := ifF c6 h
    refine aw_cond_f (by decide) rfl ?_
    refine aw_skip ?_
    refine hK4 _ ?_
    refine aw_seq_k (fun K9 hK9 => ?_)
    refine aw_regL ?_
    refine alP (some 18) rfl rfl (does_move (v := .int .u64 x3.1) (by exact rfl)) (by decide) ?_
    refine alP (some 19) rfl rfl (does_conv_int (v := .int .i64 (IntKind.i64.wrap x3.1)) (by conv => lhs; whnf) (ty_some ty25) (ty_int ty3) rfl) (by decide) ?_
    refine alP (some 4) rfl rfl (does_assign (v := .int .i64 (IntKind.i64.wrap x3.1)) (by exact rfl)) (by decide) ?_
    refine al_nil ?_
    refine hK9 _ ?_
    refine aw_ret ?_
    obtain rfl := Option.some.inj h
    exact ret_okB [] (by conv => lhs; whnf) (by conv => lhs; whnf) (by exact rfl) trivial (boxesOk_cons (by conv => lhs; whnf) (by conv => lhs; whnf) (by exact rfl) trivial) (nodup_b rfl) (.inr rfl) rfl
def ints_Reader_Flag (a0 : Reader) : Option (Bool × Reader) :=
  Option.bind (ints_Reader_Num a0 1) (fun (x3 : Int × Reader) => some ((x3.1 == 1), x3.2))
set_option maxRecDepth 100000 in
set_option maxHeartbeats 8000000 in
/-- (*gleaning/ints.Reader).Flag -/
theorem ints_Reader_Flag_ok (a0 : Reader) {r : Bool × Reader} (h : ints_Reader_Flag a0 = some r) : Ok Try.prog 101 [.ptr 0 0 0] [[.sl 1 (List.map enc5 a0.B), .bool a0.Bad]] [] (.bool r.1) [[.sl 1 (List.map enc5 r.2.B), .bool r.2.Bad]] [] := by
  unfold ints_Reader_Flag at h
  refine ok_of_code Try.func101 rfl (by show (1 : Nat) ≤ _; decide) (Nat.le_refl _) fun X => ?_
  refine aw_seq_k (fun K1 hK1 => ?_)
  refine aw_regL ?_
  refine alP (some 2) rfl rfl (does_assign (v := .bool false) (by exact rfl)) (by decide) ?_
  refine al_nil ?_
  refine hK1 _ ?_
  refine aw_seq_k (fun K2 hK2 => ?_)
  refine aw_regL ?_
  refine alP (some 3) rfl rfl (does_move (v := .ptr 0 0 0) (by exact rfl)) (by decide) ?_
  obtain ⟨x3, hx3, h⟩ := bnd_some h
  refine alD (some 4) rfl rfl (do_callG (bcs := [[.sl 1 (List.map enc5 a0.B), .bool a0.Bad]]) [(0, 0)] [] [] 4 false (ints_Reader_Num_ok a0 1 hx3) rfl ent80 ⟨(by exact rfl), trivial⟩ trivial rfl rfl rfl rfl rfl rfl rfl rfl (.inl trivial)) (by decide) ?_
  refine alP (some 5) rfl rfl (does_bin (v := .bool (x3.1 == 1)) (by conv => lhs; whnf) (by conv => lhs; whnf) rfl) (by decide) ?_
  refine alP (some 2) rfl rfl (does_assign (v := .bool (x3.1 == 1)) (by exact rfl)) (by decide) ?_
  refine al_nil ?_
  refine hK2 _ ?_
  refine aw_ret ?_
  obtain rfl := Option.some.inj h
  exact ret_okB [] (by conv => lhs; whnf) (by conv => lhs; whnf) (by exact rfl) trivial (boxesOk_cons (by conv => lhs; whnf) (by conv => lhs; whnf) (by exact rfl) trivial) (nodup_b rfl) (.inr rfl) rfl
def gleaningref1_Text (a0 : List UInt8) (a1 : ByteArray) : Option (List UInt8) :=
  Option.bind (gleaningref1_Put a0 (IntKind.u64.wrap (ByteArray.size a1 : Int))) (fun (x3 : List UInt8) => gd ((List.length (x3 ++ (bytesOf a1))) ≤ 140737488355328) (some (x3 ++ (bytesOf a1))))
set_option maxRecDepth 100000 in
set_option maxHeartbeats 8000000 in
/-- gleaning/gleaningref1.Text -/
theorem gleaningref1_Text_ok (a0 : List UInt8) (a1 : ByteArray) {r : List UInt8} (h : gleaningref1_Text a0 a1 = some r) : Ok Try.prog 106 [.own 1 0, .str a1] [] [(5, 1, List.map enc5 a0)] (.own 2 0) [] [(5, 1, List.map enc5 r)] := by
  unfold gleaningref1_Text at h
  refine ok_of_code Try.func106 rfl (by show (2 : Nat) ≤ _; decide) (Nat.le_refl _) fun X => ?_
  refine aw_seq_k (fun K1 hK1 => ?_)
  refine aw_regL ?_
  refine alP (some 4) rfl rfl (does_assign (v := .nil) (by exact rfl)) (by decide) ?_
  refine al_nil ?_
  refine hK1 _ ?_
  refine aw_seq_k (fun K2 hK2 => ?_)
  refine aw_regL ?_
  refine alP (some 5) rfl rfl (does_move (v := .own 1 0) (by exact rfl)) (by decide) ?_
  refine alP (some 6) rfl rfl (does_move (v := .str a1) (by exact rfl)) (by decide) ?_
  refine alP (some 7) rfl rfl (does_len_str (by conv => lhs; whnf) ty9) (by decide) ?_
  refine alP (some 8) rfl rfl (does_conv_int (v := .int .u64 (IntKind.u64.wrap (ByteArray.size a1 : Int))) (by conv => lhs; whnf) (ty_some ty3) (ty_int ty25) rfl) (by decide) ?_
  obtain ⟨x3, hx3, h⟩ := bnd_some h
  refine alD (some 9) rfl rfl (do_callG (bcs := []) [] [(1, 0)] [] 9 false (gleaningref1_Put_ok a0 (IntKind.u64.wrap (ByteArray.size a1 : Int)) hx3) rfl ent84 trivial (rowsOk_cons (by conv => lhs; whnf) (by exact rfl) trivial) rfl rfl rfl rfl rfl rfl rfl rfl (.inr ⟨rfl, rfl, ⟨plain_map (fun _ => rfl), trivial⟩⟩)) (by decide) ?_
  refine alP (some 10) rfl rfl (does_move (v := .str a1) (by exact rfl)) (by decide) ?_
  obtain ⟨g4, h⟩ := gd_some h
  refine alD (some 11) rfl rfl (do_append_str (l := x3) (f := enc5) (by conv => lhs; whnf) (by conv => lhs; whnf) ty43 ty5 zr5 (ty_str ty9) (by conv => lhs; whnf) (by first | exact .inl rfl | exact .inr ⟨rfl, rfl⟩) (fun _ => rfl) (g4)) (by decide) ?_
  refine alP (some 4) rfl rfl (does_assign (v := .own 11 0) (by exact rfl)) (by decide) ?_
  refine al_nil ?_
  refine hK2 _ ?_
  refine aw_ret ?_
  obtain rfl := Option.some.inj h
  exact ret_okR [(11, 0)] (by conv => lhs; whnf) (by conv => lhs; whnf) (by exact rfl) (rowsOk_cons (by conv => lhs; whnf) (by exact rfl) trivial) (nodup_b rfl) (.inr rfl) rfl
def gleaningref1_Reader_Num_k1 (a0 : Reader) (v22_1 : Bool) : Option (Unit ⊕ (Int × Reader)) :=
  if v22_1 = true then (some (Sum.inr (0, (Reader.mk a0.B true)))) else (some (Sum.inl ()))
def gleaningref1_Reader_Num_k0 (a0 : Reader) (x3 : Int × Int × Bool) : Option (Int × Reader) :=
  gd (0 ≤ x3.2.1) (gd (x3.2.1 ≤ (List.length a0.B : Int)) (some (x3.1, (Reader.mk (List.drop (Int.toNat x3.2.1) a0.B) a0.Bad))))
def gleaningref1_Reader_Num (a0 : Reader) : Option (Int × Reader) :=
  Option.bind (gleaningref1_Get a0.B) (fun (x3 : Int × Int × Bool) => Option.bind (Option.bind (if a0.Bad = true then (some true) else (some (!x3.2.2))) (fun (s : Bool) => gleaningref1_Reader_Num_k1 a0 s)) (Sum.elim (fun (s : Unit) => gleaningref1_Reader_Num_k0 a0 x3) some))
set_option maxRecDepth 100000 in
set_option maxHeartbeats 8000000 in
/-- (*gleaning/gleaningref1.Reader).Num -/
theorem gleaningref1_Reader_Num_ok (a0 : Reader) {r : Int × Reader} (h : gleaningref1_Reader_Num a0 = some r) : Ok Try.prog 104 [.ptr 0 0 0] [[.sl 1 (List.map enc5 a0.B), .bool a0.Bad]] [] (.int .u64 r.1) [[.sl 1 (List.map enc5 r.2.B), .bool r.2.Bad]] [] := by
  unfold gleaningref1_Reader_Num at h
  refine ok_of_code Try.func104 rfl (by show (1 : Nat) ≤ _; decide) (Nat.le_refl _) fun X => ?_
  refine aw_seq_k (fun K1 hK1 => ?_)
  refine aw_regL ?_
  refine alP (some 2) rfl rfl (does_assign (v := .int .u64 0) (by exact rfl)) (by decide) ?_
  refine al_nil ?_
  refine hK1 _ ?_
  refine aw_seq_k (fun K2 hK2 => ?_)
  refine aw_regL ?_
  refine alP (some 7) rfl rfl (does_move (v := .ptr 0 0 0) (by exact rfl)) (by decide) ?_
  refine alP (some 8) rfl rfl (does_nilCheck (p := .ptr 0 0 0) (by conv => lhs; whnf) rfl) (by decide) ?_
  refine alP (some 9) rfl rfl (does_fieldAddr (q := .ptr 0 0 0) (by conv => lhs; whnf) ty96 rfl ty43 (by decide) (by exact rfl)) (by decide) ?_
  refine alR (some 10) rfl rfl (does_load (v := .sl 1 (List.map enc5 a0.B)) (by conv => lhs; whnf) (by conv => lhs; whnf) ty43 (by exact rfl)) (by decide) ?_
  obtain ⟨x3, hx3, h⟩ := bnd_some h
  refine alD (some 11) rfl rfl (do_call0 11 false (gleaningref1_Get_ok a0.B hx3) rfl ent122 rfl rfl) (by decide) ?_
  refine alP (some 6) rfl rfl (does_move (v := .tup [.int .u64 x3.1, .int .i64 x3.2.1, .bool x3.2.2]) (by exact rfl)) (by decide) ?_
  refine alP (some 12) rfl rfl (does_extract (v := .int .u64 x3.1) (by conv => lhs; whnf) (by exact rfl)) (by decide) ?_
  refine alP (some 13) rfl rfl (does_extract (v := .int .i64 x3.2.1) (by conv => lhs; whnf) (by exact rfl)) (by decide) ?_
  refine alP (some 14) rfl rfl (does_extract (v := .bool x3.2.2) (by conv => lhs; whnf) (by exact rfl)) (by decide) ?_
  refine alP (some 3) rfl rfl (does_assign (v := .int .u64 x3.1) (by exact rfl)) (by decide) ?_
  refine alP (some 4) rfl rfl (does_assign (v := .int .i64 x3.2.1) (by exact rfl)) (by decide) ?_
  refine alP (some 5) rfl rfl (does_assign (v := .bool x3.2.2) (by exact rfl)) (by decide) ?_
  refine al_nil ?_
  refine hK2 _ ?_
  obtain ⟨q4, h, hk5⟩ := bnd_some h
  refine aw_cut (fun s => gleaningref1_Reader_Num_k0 a0 x3 = some r ∧ s = lit [(0, .ptr 0 0 0), (3, .int .u64 x3.1), (4, .int .i64 x3.2.1)] [((0, 0), .box [.sl 1 (List.map enc5 a0.B), .bool a0.Bad])] [(0, 1)] X) ?_ ?_
  · skip
    obtain ⟨q6, h, hk7⟩ := bnd_some h
    refine aw_cut (fun s => ∃ (v22_1 : Bool), gleaningref1_Reader_Num_k1 a0 v22_1 = some q4 ∧ s = lit [(0, .ptr 0 0 0), (3, .int .u64 x3.1), (4, .int .i64 x3.2.1), (22, .bool v22_1)] [((0, 0), .box [.sl 1 (List.map enc5 a0.B), .bool a0.Bad])] [(0, 1)] X) ?_ ?_
    · skip
      refine aw_regL ?_
      refine alP (some 15) rfl rfl (does_move (v := .ptr 0 0 0) (by exact rfl)) (by decide) ?_
      refine alP (some 16) rfl rfl (does_nilCheck (p := .ptr 0 0 0) (by conv => lhs; whnf) rfl) (by decide) ?_
      refine alP (some 17) rfl rfl (does_fieldAddr (q := .ptr 0 0 1) (by conv => lhs; whnf) ty96 rfl ty4 (by decide) (by exact rfl)) (by decide) ?_
      refine alR (some 18) rfl rfl (does_load (v := .bool a0.Bad) (by conv => lhs; whnf) (by conv => lhs; whnf) ty4 (by exact rfl)) (by decide) ?_
      refine alP (some 19) rfl rfl (does_move (v := .bool a0.Bad) (by exact rfl)) (by decide) ?_
      refine al_bool (c := a0.Bad) 19 rfl (fun c8 => ?_) (fun c8 => ?_)
      · have h := ifT c8 h
        refine alS (some 20) rfl rfl (by decide) ?_
        refine alS (some 21) rfl rfl (by decide) ?_
        refine alP (some 22) rfl rfl (does_pick (v := .bool true) (by conv => lhs; whnf) (by exact rfl)) (by decide) ?_
        refine al_nil ?_
        obtain rfl := Option.some.inj h
        have h := hk7
        exact ⟨_, reb_lit [(0, .ptr 0 0 0), (3, .int .u64 x3.1), (4, .int .i64 x3.2.1), (22, .bool true)] [(0, 0)] [((0, 0), .box [.sl 1 (List.map enc5 a0.B), .bool a0.Bad])] [(0, 1)] (envOk_cons (by conv => lhs; whnf) (by exact rfl) (envOk_cons (by conv => lhs; whnf) (by exact rfl) (envOk_cons (by conv => lhs; whnf) (by exact rfl) (envOk_cons (by conv => lhs; whnf) (by exact rfl) envOk_nil)))) (objOk_cons (by conv => lhs; whnf) (by conv => lhs; whnf) (by exact rfl) (by simp) objOk_nil) (nodup_b rfl) (nodup_b rfl) rfl rfl, true, h, rfl⟩
      · have h := ifF c8 h
        refine alP (some 20) rfl rfl (does_move (v := .bool x3.2.2) (by exact rfl)) (by decide) ?_
        refine alP (some 21) rfl rfl (does_un (v := .bool (!x3.2.2)) (by conv => lhs; whnf) rfl) (by decide) ?_
        refine alP (some 22) rfl rfl (does_pick (v := .bool (!x3.2.2)) (by conv => lhs; whnf) (by exact rfl)) (by decide) ?_
        refine al_nil ?_
        obtain rfl := Option.some.inj h
        have h := hk7
        exact ⟨_, reb_lit [(0, .ptr 0 0 0), (3, .int .u64 x3.1), (4, .int .i64 x3.2.1), (22, .bool (!x3.2.2))] [(0, 0)] [((0, 0), .box [.sl 1 (List.map enc5 a0.B), .bool a0.Bad])] [(0, 1)] (envOk_cons (by conv => lhs; whnf) (by exact rfl) (envOk_cons (by conv => lhs; whnf) (by exact rfl) (envOk_cons (by conv => lhs; whnf) (by exact rfl) (envOk_cons (by conv => lhs; whnf) (by exact rfl) envOk_nil)))) (objOk_cons (by conv => lhs; whnf) (by conv => lhs; whnf) (by exact rfl) (by simp) objOk_nil) (nodup_b rfl) (nodup_b rfl) rfl rfl, (!x3.2.2), h, rfl⟩
    · rintro s ⟨v22_1, h, rfl⟩
      unfold gleaningref1_Reader_Num_k1 at h
      refine aw_bool (b := v22_1) 22 rfl (fun c9 => ?_) (fun c9 => ?_)
      · have h := ifT c9 h
        refine aw_cond_t (by decide) rfl ?_
        refine aw_seq_k (fun K10 hK10 => ?_)
        refine aw_regL ?_
        refine alP (some 23) rfl rfl (does_move (v := .ptr 0 0 0) (by exact rfl)) (by decide) ?_
        refine alP (some 24) rfl rfl (does_nilCheck (p := .ptr 0 0 0) (by conv => lhs; whnf) rfl) (by decide) ?_
        refine alP (some 25) rfl rfl (does_fieldAddr (q := .ptr 0 0 1) (by conv => lhs; whnf) ty96 rfl ty4 (by decide) (by exact rfl)) (by decide) ?_
        refine alD none rfl rfl (do_store (cs' := [.sl 1 (List.map enc5 a0.B), .bool true]) (by conv => lhs; whnf) (by conv => lhs; whnf) (by conv => lhs; whnf) ty4 rfl rfl rfl (by exact rfl)) (by decide) ?_
        refine al_nil ?_
        refine hK10 _ ?_
        refine aw_seq_k (fun K11 hK11 => ?_)
        refine aw_regL ?_
        refine alP (some 2) rfl rfl (does_assign (v := .int .u64 0) (by exact rfl)) (by decide) ?_
        refine al_nil ?_
        refine hK11 _ ?_
        refine aw_ret ?_
        have h := leafR h hk5
        obtain rfl := Option.some.inj h
        exact ret_okB [] (by conv => lhs; whnf) (by conv => lhs; whnf) (by exact rfl) trivial (boxesOk_cons (by conv => lhs; whnf) (by conv => lhs; whnf) (by exact rfl) trivial) (nodup_b rfl) (.inr rfl) rfl
      · have h := ifF c9 h
        refine aw_cond_f (by decide) rfl ?_
        refine aw_skip ?_
        have h := leafL h hk5
        exact ⟨_, reb_lit [(0, .ptr 0 0 0), (3, .int .u64 x3.1), (4, .int .i64 x3.2.1)] [(0, 0)] [((0, 0), .box [.sl 1 (List.map enc5 a0.B), .bool a0.Bad])] [(0, 1)] (envOk_cons (by conv => lhs; whnf) (by exact rfl) (envOk_cons (by conv => lhs; whnf) (by exact rfl) (envOk_cons (by conv => lhs; whnf) (by exact rfl) envOk_nil))) (objOk_cons (by conv => lhs; whnf) (by conv => lhs; whnf) (by exact rfl) (by simp) objOk_nil) (nodup_b rfl) (nodup_b rfl) rfl rfl, h, rfl⟩
  · rintro s ⟨h, rfl⟩
    unfold gleaningref1_Reader_Num_k0 at h
    refine aw_seq_k (fun K12 hK12 => ?_)
    refine aw_regL ?_
    refine alP (some 26) rfl rfl (does_move (v := .ptr 0 0 0) (by exact rfl)) (by decide) ?_
    refine alP (some 27) rfl rfl (does_move (v := .ptr 0 0 0) (by exact rfl)) (by decide) ?_
    refine alP (some 28) rfl rfl (does_nilCheck (p := .ptr 0 0 0) (by conv => lhs; whnf) rfl) (by decide) ?_
    refine alP (some 29) rfl rfl (does_fieldAddr (q := .ptr 0 0 0) (by conv => lhs; whnf) ty96 rfl ty43 (by decide) (by exact rfl)) (by decide) ?_
    refine alR (some 30) rfl rfl (does_load (v := .sl 1 (List.map enc5 a0.B)) (by conv => lhs; whnf) (by conv => lhs; whnf) ty43 (by exact rfl)) (by decide) ?_
    refine alP (some 31) rfl rfl (does_move (v := .int .i64 x3.2.1) (by exact rfl)) (by decide) ?_
    obtain ⟨g13, h⟩ := gd_some h
    obtain ⟨g14, h⟩ := gd_some h
    refine alP (some 32) rfl rfl (does_slice_sl (l := (Int.toNat x3.2.1)) (by conv => lhs; whnf) ty43 ty5 (bd_some (by conv => lhs; whnf) (by exact (nat_of g13))) bd_none (by (try simp only [List.length_map]); omega) (by (try simp only [List.length_map]); omega) (by exact part_l _ _)) (by decide) ?_
    refine alP (some 33) rfl rfl (does_nilCheck (p := .ptr 0 0 0) (by conv => lhs; whnf) rfl) (by decide) ?_
    refine alP (some 34) rfl rfl (does_fieldAddr (q := .ptr 0 0 0) (by conv => lhs; whnf) ty96 rfl ty43 (by decide) (by exact rfl)) (by decide) ?_
    refine alD none rfl rfl (do_store (cs' := [.sl 1 (List.map enc5 (List.drop (Int.toNat x3.2.1) a0.B)), .bool a0.Bad]) (by conv => lhs; whnf) (by conv => lhs; whnf) (by conv => lhs; whnf) ty43 rfl rfl rfl (by exact rfl)) (by decide) ?_
    refine al_nil ?_
    refine hK12 _ ?_
    refine aw_seq_k (fun K15 hK15 => ?_)
    refine aw_regL ?_
    refine alP (some 35) rfl rfl (does_move (v := .int .u64 x3.1) (by exact rfl)) (by decide) ?_
    refine alP (some 2) rfl rfl (does_assign (v := .int .u64 x3.1) (by exact rfl)) (by decide) ?_
    refine al_nil ?_
    refine hK15 _ ?_
    refine aw_ret ?_
    obtain rfl := Option.some.inj h
    exact ret_okB [] (by conv => lhs; whnf) (by conv => lhs; whnf) (by exact rfl) trivial (boxesOk_cons (by conv => lhs; whnf) (by conv => lhs; whnf) (by exact rfl) trivial) (nodup_b rfl) (.inr rfl) rfl
def gleaningref1_Reader_Int (a0 : Reader) (a1 : Int) : Option (Int × Reader) :=
  Option.bind (gleaningref1_Reader_Num a0) (fun (x3 : Int × Reader) => if (decide ((IntKind.u64.wrap a1) < x3.1)) = true then (some (0, (Reader.mk x3.2.B true))) else (some ((IntKind.i64.wrap x3.1), x3.2)))
set_option maxRecDepth 100000 in
set_option maxHeartbeats 8000000 in
/-- (*gleaning/gleaningref1.Reader).Int -/
theorem gleaningref1_Reader_Int_ok (a0 : Reader) (a1 : Int) {r : Int × Reader} (h : gleaningref1_Reader_Int a0 a1 = some r) : Ok Try.prog 82 [.ptr 0 0 0, .int .i64 a1] [[.sl 1 (List.map enc5 a0.B), .bool a0.Bad]] [] (.int .i64 r.1) [[.sl 1 (List.map enc5 r.2.B), .bool r.2.Bad]] [] := by
  unfold gleaningref1_Reader_Int at h
  refine ok_of_code Try.func82 rfl (by show (2 : Nat) ≤ _; decide) (Nat.le_refl _) fun X => ?_
  refine aw_seq_k (fun K1 hK1 => ?_)
  refine aw_regL ?_
  refine alP (some 4) rfl rfl (does_assign (v := .int .i64 0) (by exact rfl)) (by decide) ?_
  refine al_nil ?_
  refine hK1 _ ?_
  refine aw_seq_k (fun K2 hK2 => ?_)
  refine aw_regL ?_
  refine alP (some 6) rfl rfl (does_move (v := .ptr 0 0 0) (by exact rfl)) (by decide) ?_
  obtain ⟨x3, hx3, h⟩ := bnd_some h
  refine alD (some 7) rfl rfl (do_callG (bcs := [[.sl 1 (List.map enc5 a0.B), .bool a0.Bad]]) [(0, 0)] [] [] 7 false (gleaningref1_Reader_Num_ok a0 hx3) rfl ent104 ⟨(by exact rfl), trivial⟩ trivial rfl rfl rfl rfl rfl rfl rfl rfl (.inl trivial)) (by decide) ?_
  refine alP (some 5) rfl rfl (does_assign (v := .int .u64 x3.1) (by exact rfl)) (by decide) ?_
  refine al_nil ?_
  refine hK2 _ ?_
  refine aw_seq_k (fun K4 hK4 => ?_)
  refine aw_seq_k (fun K5 hK5 => ?_)
  refine aw_regL ?_
  refine alP (some 8) rfl rfl (does_move (v := .int .u64 x3.1) (by exact rfl)) (by decide) ?_
  refine alP (some 9) rfl rfl (does_move (v := .int .i64 a1) (by exact rfl)) (by decide) ?_
  refine alP (some 10) rfl rfl (does_conv_int (v := .int .u64 (IntKind.u64.wrap a1)) (by conv => lhs; whnf) (ty_some ty3) (ty_int ty25) rfl) (by decide) ?_
  refine alP (some 11) rfl rfl (does_bin (v := .bool (decide ((IntKind.u64.wrap a1) < x3.1))) (by conv => lhs; whnf) (by conv => lhs; whnf) rfl) (by decide) ?_
  refine al_nil ?_
  refine hK5 _ ?_
  refine aw_bool (b := (decide ((IntKind.u64.wrap a1) < x3.1))) 11 rfl (fun c6 => ?_) (fun c6 => ?_)
  · have h := ifT c6 h
    refine aw_cond_t (by decide) rfl ?_
    refine aw_seq_k (fun K7 hK7 => ?_)
    refine aw_regL ?_
    refine alP (some 12) rfl rfl (does_move (v := .ptr 0 0 0) (by exact rfl)) (by decide) ?_
    refine alP (some 13) rfl rfl (does_nilCheck (p := .ptr 0 0 0) (by conv => lhs; whnf) rfl) (by decide) ?_
    refine alP (some 14) rfl rfl (does_fieldAddr (q := .ptr 0 0 1) (by conv => lhs; whnf) ty96 rfl ty4 (by decide) (by exact rfl)) (by decide) ?_
    refine alD none rfl rfl (do_store (cs' := [.sl 1 (List.map enc5 x3.2.B), .bool true]) (by conv => lhs; whnf) (by conv => lhs; whnf) (by conv => lhs; whnf) ty4 rfl rfl rfl (by exact rfl)) (by decide) ?_
    refine al_nil ?_
    refine hK7 _ ?_
    refine aw_seq_k (fun K8 hK8 => ?_)
    refine aw_regL ?_
    refine alP (some 4) rfl rfl (does_assign (v := .int .i64 0) (by exact rfl)) (by decide) ?_
    refine al_nil ?_
    refine hK8 _ ?_
    refine aw_ret ?_
    obtain rfl := Option.some.inj h
    exact ret_okB [] (by conv => lhs; whnf) (by conv => lhs; whnf) (by exact rfl) trivial (boxesOk_cons (by conv => lhs; whnf) (by conv => lhs; whnf) (by exact rfl) trivial) (nodup_b rfl) (.inr rfl) rfl
  · have h := ifF c6 h
    refine aw_cond_f (by decide) rfl ?_
    refine aw_skip ?_
    refine hK4 _ ?_
    refine aw_seq_k (fun K9 hK9 => ?_)
    refine aw_regL ?_
    refine alP (some 15) rfl rfl (does_move (v := .int .u64 x3.1) (by exact rfl)) (by decide) ?_
    refine alP (some 16) rfl rfl (does_conv_int (v := .int .i64 (IntKind.i64.wrap x3.1)) (by conv => lhs; whnf) (ty_some ty25) (ty_int ty3) rfl) (by decide) ?_
    refine alP (some 4) rfl rfl (does_assign (v := .int .i64 (IntKind.i64.wrap x3.1)) (by exact rfl)) (by decide) ?_
    refine al_nil ?_
    refine hK9 _ ?_
    refine aw_ret ?_
    obtain rfl := Option.some.inj h
    exact ret_okB [] (by conv => lhs; whnf) (by conv => lhs; whnf) (by exact rfl) trivial (boxesOk_cons (by conv => lhs; whnf) (by conv => lhs; whnf) (by exact rfl) trivial) (nodup_b rfl) (.inr rfl) rfl
def gleaningref1_GetText_k0 (a0 : List UInt8) (x3 : Int × Int × Bool) : Option (ByteArray × Int × Bool) :=
  gd (0 ≤ x3.2.1) (gd (x3.2.1 ≤ (IntKind.i64.wrap (x3.2.1 + (IntKind.i64.wrap x3.1)))) (gd ((IntKind.i64.wrap (x3.2.1 + (IntKind.i64.wrap x3.1))) ≤ (List.length a0 : Int)) (some ((strOf (List.drop (Int.toNat x3.2.1) (List.take (Int.toNat (IntKind.i64.wrap (x3.2.1 + (IntKind.i64.wrap x3.1)))) a0))), (IntKind.i64.wrap (x3.2.1 + (IntKind.i64.wrap x3.1))), true))))
def gleaningref1_GetText (a0 : List UInt8) : Option (ByteArray × Int × Bool) :=
  Option.bind (gleaningref1_Get a0) (fun (x3 : Int × Int × Bool) => Option.bind (if (!x3.2.2) = true then (some (Sum.inr ((strOf []), 0, false))) else (if (decide ((IntKind.u64.wrap (IntKind.i64.wrap ((List.length a0 : Int) - x3.2.1))) < x3.1)) = true then (some (Sum.inr ((strOf []), 0, false))) else (some (Sum.inl ())))) (Sum.elim (fun (s : Unit) => gleaningref1_GetText_k0 a0 x3) some))
set_option maxRecDepth 100000 in
set_option maxHeartbeats 8000000 in
/-- gleaning/gleaningref1.GetText -/
theorem gleaningref1_GetText_ok (a0 : List UInt8) {r : ByteArray × Int × Bool} (h : gleaningref1_GetText a0 = some r) : Ok Try.prog 123 [.sl 1 (List.map enc5 a0)] [] [] (.tup [.str r.1, .int .i64 r.2.1, .bool r.2.2]) [] [] := by
  unfold gleaningref1_GetText at h
  refine ok_of_code Try.func123 rfl (by show (1 : Nat) ≤ _; decide) (Nat.le_refl _) fun X => ?_
  refine aw_seq_k (fun K1 hK1 => ?_)
  refine aw_regL ?_
  refine alP (some 2) rfl rfl (does_assign (v := .str (strOf [])) (by exact rfl)) (by decide) ?_
  refine alP (some 3) rfl rfl (does_assign (v := .int .i64 0) (by exact rfl)) (by decide) ?_
  refine alP (some 4) rfl rfl (does_assign (v := .bool false) (by exact rfl)) (by decide) ?_
  refine al_nil ?_
  refine hK1 _ ?_
  refine aw_seq_k (fun K2 hK2 => ?_)
  refine aw_regL ?_
  refine alP (some 9) rfl rfl (does_move (v := .sl 1 (List.map enc5 a0)) (by exact rfl)) (by decide) ?_
  obtain ⟨x3, hx3, h⟩ := bnd_some h
  refine alD (some 10) rfl rfl (do_call0 10 false (gleaningref1_Get_ok a0 hx3) rfl ent122 rfl rfl) (by decide) ?_
  refine alP (some 8) rfl rfl (does_move (v := .tup [.int .u64 x3.1, .int .i64 x3.2.1, .bool x3.2.2]) (by exact rfl)) (by decide) ?_
  refine alP (some 11) rfl rfl (does_extract (v := .int .u64 x3.1) (by conv => lhs; whnf) (by exact rfl)) (by decide) ?_
  refine alP (some 12) rfl rfl (does_extract (v := .int .i64 x3.2.1) (by conv => lhs; whnf) (by exact rfl)) (by decide) ?_
  refine alP (some 13) rfl rfl (does_extract (v := .bool x3.2.2) (by conv => lhs; whnf) (by exact rfl)) (by decide) ?_
  refine alP (some 5) rfl rfl (does_assign (v := .int .u64 x3.1) (by exact rfl)) (by decide) ?_
  refine alP (some 6) rfl rfl (does_assign (v := .int .i64 x3.2.1) (by exact rfl)) (by decide) ?_
  refine alP (some 7) rfl rfl (does_assign (v := .bool x3.2.2) (by exact rfl)) (by decide) ?_
  refine al_nil ?_
  refine hK2 _ ?_
  obtain ⟨q4, h, hk5⟩ := bnd_some h
  refine aw_cut (fun s => gleaningref1_GetText_k0 a0 x3 = some r ∧ s = lit [(0, .sl 1 (List.map enc5 a0)), (5, .int .u64 x3.1), (6, .int .i64 x3.2.1)] [] [] X) ?_ ?_
  · skip
    refine aw_seq_k (fun K6 hK6 => ?_)
    refine aw_regL ?_
    refine alP (some 14) rfl rfl (does_move (v := .bool x3.2.2) (by exact rfl)) (by decide) ?_
    refine alP (some 15) rfl rfl (does_un (v := .bool (!x3.2.2)) (by conv => lhs; whnf) rfl) (by decide) ?_
    refine alP (some 16) rfl rfl (does_move (v := .bool (!x3.2.2)) (by exact rfl)) (by decide) ?_
    refine al_bool (c := (!x3.2.2)) 16 rfl (fun c7 => ?_) (fun c7 => ?_)
    · have h := ifT c7 h
      refine alS (some 17) rfl rfl (by decide) ?_
      refine alS (some 18) rfl rfl (by decide) ?_
      refine alS (some 19) rfl rfl (by decide) ?_
      refine alS (some 20) rfl rfl (by decide) ?_
      refine alS (some 21) rfl rfl (by decide) ?_
      refine alS (some 22) rfl rfl (by decide) ?_
      refine alS (some 23) rfl rfl (by decide) ?_
      refine alP (some 24) rfl rfl (does_pick (v := .bool true) (by conv => lhs; whnf) (by exact rfl)) (by decide) ?_
      refine al_nil ?_
      refine hK6 _ ?_
      refine aw_cond_t (by decide) rfl ?_
      refine aw_seq_k (fun K8 hK8 => ?_)
      refine aw_regL ?_
      refine alP (some 2) rfl rfl (does_assign (v := .str (strOf [])) (by exact rfl)) (by decide) ?_
      refine alP (some 3) rfl rfl (does_assign (v := .int .i64 0) (by exact rfl)) (by decide) ?_
      refine alP (some 4) rfl rfl (does_assign (v := .bool false) (by exact rfl)) (by decide) ?_
      refine al_nil ?_
      refine hK8 _ ?_
      refine aw_ret ?_
      have h := leafR h hk5
      obtain rfl := Option.some.inj h
      exact ret_ok1 (by conv => lhs; whnf) (by conv => lhs; whnf) (by exact rfl) (.inr rfl) rfl
    · have h := ifF c7 h
      refine alP (some 17) rfl rfl (does_move (v := .int .u64 x3.1) (by exact rfl)) (by decide) ?_
      refine alP (some 18) rfl rfl (does_move (v := .sl 1 (List.map enc5 a0)) (by exact rfl)) (by decide) ?_
      refine alP (some 19) rfl rfl ((does_len_sl (by conv => lhs; whnf) ty43).castp (v' := .int .i64 (List.length a0 : Int)) (by exact len_map _)) (by decide) ?_
      refine alP (some 20) rfl rfl (does_move (v := .int .i64 x3.2.1) (by exact rfl)) (by decide) ?_
      refine alP (some 21) rfl rfl (does_bin (v := .int .i64 (IntKind.i64.wrap ((List.length a0 : Int) - x3.2.1))) (by conv => lhs; whnf) (by conv => lhs; whnf) rfl) (by decide) ?_
      refine alP (some 22) rfl rfl (does_conv_int (v := .int .u64 (IntKind.u64.wrap (IntKind.i64.wrap ((List.length a0 : Int) - x3.2.1)))) (by conv => lhs; whnf) (ty_some ty3) (ty_int ty25) rfl) (by decide) ?_
      refine alP (some 23) rfl rfl (does_bin (v := .bool (decide ((IntKind.u64.wrap (IntKind.i64.wrap ((List.length a0 : Int) - x3.2.1))) < x3.1))) (by conv => lhs; whnf) (by conv => lhs; whnf) rfl) (by decide) ?_
      refine alP (some 24) rfl rfl (does_pick (v := .bool (decide ((IntKind.u64.wrap (IntKind.i64.wrap ((List.length a0 : Int) - x3.2.1))) < x3.1))) (by conv => lhs; whnf) (by exact rfl)) (by decide) ?_
      refine al_nil ?_
      refine hK6 _ ?_
      refine aw_bool (b := (decide ((IntKind.u64.wrap (IntKind.i64.wrap ((List.length a0 : Int) - x3.2.1))) < x3.1))) 24 rfl (fun c9 => ?_) (fun c9 => ?_)
      · have h := ifT c9 h
        refine aw_cond_t (by decide) rfl ?_
        refine aw_seq_k (fun K10 hK10 => ?_)
        refine aw_regL ?_
        refine alP (some 2) rfl rfl (does_assign (v := .str (strOf [])) (by exact rfl)) (by decide) ?_
        refine alP (some 3) rfl rfl (does_assign (v := .int .i64 0) (by exact rfl)) (by decide) ?_
        refine alP (some 4) rfl rfl (does_assign (v := .bool false) (by exact rfl)) (by decide) ?_
        refine al_nil ?_
        refine hK10 _ ?_
        refine aw_ret ?_
        have h := leafR h hk5
        obtain rfl := Option.some.inj h
        exact ret_ok1 (by conv => lhs; whnf) (by conv => lhs; whnf) (by exact rfl) (.inr rfl) rfl
      · have h := ifF c9 h
        refine aw_cond_f (by decide) rfl ?_
        refine aw_skip ?_
        have h := leafL h hk5
        exact ⟨_, reb_lit [(0, .sl 1 (List.map enc5 a0)), (5, .int .u64 x3.1), (6, .int .i64 x3.2.1)] [] [] [] (envOk_cons (by conv => lhs; whnf) (by exact rfl) (envOk_cons (by conv => lhs; whnf) (by exact rfl) (envOk_cons (by conv => lhs; whnf) (by exact rfl) envOk_nil))) objOk_nil (nodup_b rfl) (nodup_b rfl) rfl rfl, h, rfl⟩
  · rintro s ⟨h, rfl⟩
    unfold gleaningref1_GetText_k0 at h
    refine aw_seq_k (fun K11 hK11 => ?_)
    refine aw_regL ?_
    refine alP (some 25) rfl rfl (does_move (v := .sl 1 (List.map enc5 a0)) (by exact rfl)) (by decide) ?_
    refine alP (some 26) rfl rfl (does_move (v := .int .i64 x3.2.1) (by exact rfl)) (by decide) ?_
    refine alP (some 27) rfl rfl (does_move (v := .int .i64 x3.2.1) (by exact rfl)) (by decide) ?_
    refine alP (some 28) rfl rfl (does_move (v := .int .u64 x3.1) (by exact rfl)) (by decide) ?_
    refine alP (some 29) rfl rfl (does_conv_int (v := .int .i64 (IntKind.i64.wrap x3.1)) (by conv => lhs; whnf) (ty_some ty25) (ty_int ty3) rfl) (by decide) ?_
    refine alP (some 30) rfl rfl (does_bin (v := .int .i64 (IntKind.i64.wrap (x3.2.1 + (IntKind.i64.wrap x3.1)))) (by conv => lhs; whnf) (by conv => lhs; whnf) rfl) (by decide) ?_
    obtain ⟨g12, h⟩ := gd_some h
    obtain ⟨g13, h⟩ := gd_some h
    obtain ⟨g14, h⟩ := gd_some h
    refine alP (some 31) rfl rfl (does_slice_sl (l := (Int.toNat x3.2.1)) (k := (Int.toNat (IntKind.i64.wrap (x3.2.1 + (IntKind.i64.wrap x3.1))))) (by conv => lhs; whnf) ty43 ty5 (bd_some (by conv => lhs; whnf) (by exact (nat_of g12))) (bd_some (by conv => lhs; whnf) (by exact (nat_of (by omega)))) (by (try simp only [List.length_map]); omega) (by (try simp only [List.length_map]); omega) (by exact map_part _ _ _)) (by decide) ?_
    refine alR (some 32) rfl rfl (does_bytes_str (l := (List.drop (Int.toNat x3.2.1) (List.take (Int.toNat (IntKind.i64.wrap (x3.2.1 + (IntKind.i64.wrap x3.1)))) a0))) (f := enc5) (by conv => lhs; whnf) (by conv => lhs; whnf) (Nat.le_refl 1) (ty_slice ty43) (ty_int ty5) (ty_str ty9) (fun _ => rfl)) (by decide) ?_
    refine alP (some 33) rfl rfl (does_move (v := .int .i64 x3.2.1) (by exact rfl)) (by decide) ?_
    refine alP (some 34) rfl rfl (does_move (v := .int .u64 x3.1) (by exact rfl)) (by decide) ?_
    refine alP (some 35) rfl rfl (does_conv_int (v := .int .i64 (IntKind.i64.wrap x3.1)) (by conv => lhs; whnf) (ty_some ty25) (ty_int ty3) rfl) (by decide) ?_
    refine alP (some 36) rfl rfl (does_bin (v := .int .i64 (IntKind.i64.wrap (x3.2.1 + (IntKind.i64.wrap x3.1)))) (by conv => lhs; whnf) (by conv => lhs; whnf) rfl) (by decide) ?_
    refine alP (some 2) rfl rfl (does_assign (v := .str (strOf (List.drop (Int.toNat x3.2.1) (List.take (Int.toNat (IntKind.i64.wrap (x3.2.1 + (IntKind.i64.wrap x3.1)))) a0)))) (by exact rfl)) (by decide) ?_
    refine alP (some 3) rfl rfl (does_assign (v := .int .i64 (IntKind.i64.wrap (x3.2.1 + (IntKind.i64.wrap x3.1)))) (by exact rfl)) (by decide) ?_
    refine alP (some 4) rfl rfl (does_assign (v := .bool true) (by exact rfl)) (by decide) ?_
    refine al_nil ?_
    refine hK11 _ ?_
    refine aw_ret ?_
    obtain rfl := Option.some.inj h
    exact ret_ok1 (by conv => lhs; whnf) (by conv => lhs; whnf) (by exact rfl) (.inr rfl) rfl
def gleaningref1_Reader_Text_k1 (a0 : Reader) (v22_1 : Bool) : Option (Unit ⊕ (ByteArray × Reader)) :=
  if v22_1 = true then (some (Sum.inr ((strOf []), (Reader.mk a0.B true)))) else (some (Sum.inl ()))
def gleaningref1_Reader_Text_k0 (a0 : Reader) (x3 : ByteArray × Int × Bool) : Option (ByteArray × Reader) :=
  gd (0 ≤ x3.2.1) (gd (x3.2.1 ≤ (List.length a0.B : Int)) (some (x3.1, (Reader.mk (List.drop (Int.toNat x3.2.1) a0.B) a0.Bad))))
def gleaningref1_Reader_Text (a0 : Reader) : Option (ByteArray × Reader) :=
  Option.bind (gleaningref1_GetText a0.B) (fun (x3 : ByteArray × Int × Bool) => Option.bind (Option.bind (if a0.Bad = true then (some true) else (some (!x3.2.2))) (fun (s : Bool) => gleaningref1_Reader_Text_k1 a0 s)) (Sum.elim (fun (s : Unit) => gleaningref1_Reader_Text_k0 a0 x3) some))
set_option maxRecDepth 100000 in
set_option maxHeartbeats 8000000 in
/-- (*gleaning/gleaningref1.Reader).Text -/
theorem gleaningref1_Reader_Text_ok (a0 : Reader) {r : ByteArray × Reader} (h : gleaningref1_Reader_Text a0 = some r) : Ok Try.prog 105 [.ptr 0 0 0] [[.sl 1 (List.map enc5 a0.B), .bool a0.Bad]] [] (.str r.1) [[.sl 1 (List.map enc5 r.2.B), .bool r.2.Bad]] [] := by
  unfold gleaningref1_Reader_Text at h
  refine ok_of_code Try.func105 rfl (by show (1 : Nat) ≤ _; decide) (Nat.le_refl _) fun X => ?_
  refine aw_seq_k (fun K1 hK1 => ?_)
  refine aw_regL ?_
  refine alP (some 2) rfl rfl (does_assign (v := .str (strOf [])) (by exact rfl)) (by decide) ?_
  refine al_nil ?_
  refine hK1 _ ?_
  refine aw_seq_k (fun K2 hK2 => ?_)
  refine aw_regL ?_
  refine alP (some 7) rfl rfl (does_move (v := .ptr 0 0 0) (by exact rfl)) (by decide) ?_
  refine alP (some 8) rfl rfl (does_nilCheck (p := .ptr 0 0 0) (by conv => lhs; whnf) rfl) (by decide) ?_
  refine alP (some 9) rfl rfl (does_fieldAddr (q := .ptr 0 0 0) (by conv => lhs; whnf) ty96 rfl ty43 (by decide) (by exact rfl)) (by decide) ?_
  refine alR (some 10) rfl rfl (does_load (v := .sl 1 (List.map enc5 a0.B)) (by conv => lhs; whnf) (by conv => lhs; whnf) ty43 (by exact rfl)) (by decide) ?_
  obtain ⟨x3, hx3, h⟩ := bnd_some h
  refine alD (some 11) rfl rfl (do_call0 11 false (gleaningref1_GetText_ok a0.B hx3) rfl ent123 rfl rfl) (by decide) ?_
  refine alP (some 6) rfl rfl (does_move (v := .tup [.str x3.1, .int .i64 x3.2.1, .bool x3.2.2]) (by exact rfl)) (by decide) ?_
  refine alP (some 12) rfl rfl (does_extract (v := .str x3.1) (by conv => lhs; whnf) (by exact rfl)) (by decide) ?_
  refine alP (some 13) rfl rfl (does_extract (v := .int .i64 x3.2.1) (by conv => lhs; whnf) (by exact rfl)) (by decide) ?_
  refine alP (some 14) rfl rfl (does_extract (v := .bool x3.2.2) (by conv => lhs; whnf) (by exact rfl)) (by decide) ?_
  refine alP (some 3) rfl rfl (does_assign (v := .str x3.1) (by exact rfl)) (by decide) ?_
  refine alP (some 4) rfl rfl (does_assign (v := .int .i64 x3.2.1) (by exact rfl)) (by decide) ?_
  refine alP (some 5) rfl rfl (does_assign (v := .bool x3.2.2) (by exact rfl)) (by decide) ?_
  refine al_nil ?_
  refine hK2 _ ?_
  obtain ⟨q4, h, hk5⟩ := bnd_some h
  refine aw_cut (fun s => gleaningref1_Reader_Text_k0 a0 x3 = some r ∧ s = lit [(0, .ptr 0 0 0), (3, .str x3.1), (4, .int .i64 x3.2.1)] [((0, 0), .box [.sl 1 (List.map enc5 a0.B), .bool a0.Bad])] [(0, 1)] X) ?_ ?_
  · skip
    obtain ⟨q6, h, hk7⟩ := bnd_some h
    refine aw_cut (fun s => ∃ (v22_1 : Bool), gleaningref1_Reader_Text_k1 a0 v22_1 = some q4 ∧ s = lit [(0, .ptr 0 0 0), (3, .str x3.1), (4, .int .i64 x3.2.1), (22, .bool v22_1)] [((0, 0), .box [.sl 1 (List.map enc5 a0.B), .bool a0.Bad])] [(0, 1)] X) ?_ ?_
    · skip
      refine aw_regL ?_
      refine alP (some 15) rfl rfl (does_move (v := .ptr 0 0 0) (by exact rfl)) (by decide) ?_
      refine alP (some 16) rfl rfl (does_nilCheck (p := .ptr 0 0 0) (by conv => lhs; whnf) rfl) (by decide) ?_
      refine alP (some 17) rfl rfl (does_fieldAddr (q := .ptr 0 0 1) (by conv => lhs; whnf) ty96 rfl ty4 (by decide) (by exact rfl)) (by decide) ?_
      refine alR (some 18) rfl rfl (does_load (v := .bool a0.Bad) (by conv => lhs; whnf) (by conv => lhs; whnf) ty4 (by exact rfl)) (by decide) ?_
      refine alP (some 19) rfl rfl (does_move (v := .bool a0.Bad) (by exact rfl)) (by decide) ?_
      refine al_bool (c := a0.Bad) 19 rfl (fun c8 => ?_) (fun c8 => ?_)
      · have h := ifT c8 h
        refine alS (some 20) rfl rfl (by decide) ?_
        refine alS (some 21) rfl rfl (by decide) ?_
        refine alP (some 22) rfl rfl (does_pick (v := .bool true) (by conv => lhs; whnf) (by exact rfl)) (by decide) ?_
        refine al_nil ?_
        obtain rfl := Option.some.inj h
        have h := hk7
        exact ⟨_, reb_lit [(0, .ptr 0 0 0), (3, .str x3.1), (4, .int .i64 x3.2.1), (22, .bool true)] [(0, 0)] [((0, 0), .box [.sl 1 (List.map enc5 a0.B), .bool a0.Bad])] [(0, 1)] (envOk_cons (by conv => lhs; whnf) (by exact rfl) (envOk_cons (by conv => lhs; whnf) (by exact rfl) (envOk_cons (by conv => lhs; whnf) (by exact rfl) (envOk_cons (by conv => lhs; whnf) (by exact rfl) envOk_nil)))) (objOk_cons (by conv => lhs; whnf) (by conv => lhs; whnf) (by exact rfl) (by simp) objOk_nil) (nodup_b rfl) (nodup_b rfl) rfl rfl, true, h, rfl⟩
      · have h := ifF c8 h
        refine alP (some 20) rfl rfl (does_move (v := .bool x3.2.2) (by exact rfl)) (by decide) ?_
        refine alP (some 21) rfl rfl (does_un (v := .bool (!x3.2.2)) (by conv => lhs; whnf) rfl) (by decide) ?_
        refine alP (some 22) rfl rfl (does_pick (v := .bool (!x3.2.2)) (by conv => lhs; whnf) (by exact rfl)) (by decide) ?_
        refine al_nil ?_
        obtain rfl := Option.some.inj h
        have h := hk7
        exact ⟨_, reb_lit [(0, .ptr 0 0 0), (3, .str x3.1), (4, .int .i64 x3.2.1), (22, .bool (!x3.2.2))] [(0, 0)] [((0, 0), .box [.sl 1 (List.map enc5 a0.B), .bool a0.Bad])] [(0, 1)] (envOk_cons (by conv => lhs; whnf) (by exact rfl) (envOk_cons (by conv => lhs; whnf) (by exact rfl) (envOk_cons (by conv => lhs; whnf) (by exact rfl) (envOk_cons (by conv => lhs; whnf) (by exact rfl) envOk_nil)))) (objOk_cons (by conv => lhs; whnf) (by conv => lhs; whnf) (by exact rfl) (by simp) objOk_nil) (nodup_b rfl) (nodup_b rfl) rfl rfl, (!x3.2.2), h, rfl⟩
    · rintro s ⟨v22_1, h, rfl⟩
      unfold gleaningref1_Reader_Text_k1 at h
      refine aw_bool (b := v22_1) 22 rfl (fun c9 => ?_) (fun c9 => ?_)
      · have h := ifT c9 h
        refine aw_cond_t (by decide) rfl ?_
        refine aw_seq_k (fun K10 hK10 => ?_)
        refine aw_regL ?_
        refine alP (some 23) rfl rfl (does_move (v := .ptr 0 0 0) (by exact rfl)) (by decide) ?_
        refine alP (some 24) rfl rfl (does_nilCheck (p := .ptr 0 0 0) (by conv => lhs; whnf) rfl) (by decide) ?_
        refine alP (some 25) rfl rfl (does_fieldAddr (q := .ptr 0 0 1) (by conv => lhs; whnf) ty96 rfl ty4 (by decide) (by exact rfl)) (by decide) ?_
        refine alD none rfl rfl (do_store (cs' := [.sl 1 (List.map enc5 a0.B), .bool true]) (by conv => lhs; whnf) (by conv => lhs; whnf) (by conv => lhs; whnf) ty4 rfl rfl rfl (by exact rfl)) (by decide) ?_
        refine al_nil ?_
        refine hK10 _ ?_
        refine aw_seq_k (fun K11 hK11 => ?_)
        refine aw_regL ?_
        refine alP (some 2) rfl rfl (does_assign (v := .str (strOf [])) (by exact rfl)) (by decide) ?_
        refine al_nil ?_
        refine hK11 _ ?_
        refine aw_ret ?_
        have h := leafR h hk5
        obtain rfl := Option.some.inj h
        exact ret_okB [] (by conv => lhs; whnf) (by conv => lhs; whnf) (by exact rfl) trivial (boxesOk_cons (by conv => lhs; whnf) (by conv => lhs; whnf) (by exact rfl) trivial) (nodup_b rfl) (.inr rfl) rfl
      · have h := ifF c9 h
        refine aw_cond_f (by decide) rfl ?_
        refine aw_skip ?_
        have h := leafL h hk5
        exact ⟨_, reb_lit [(0, .ptr 0 0 0), (3, .str x3.1), (4, .int .i64 x3.2.1)] [(0, 0)] [((0, 0), .box [.sl 1 (List.map enc5 a0.B), .bool a0.Bad])] [(0, 1)] (envOk_cons (by conv => lhs; whnf) (by exact rfl) (envOk_cons (by conv => lhs; whnf) (by exact rfl) (envOk_cons (by conv => lhs; whnf) (by exact rfl) envOk_nil))) (objOk_cons (by conv => lhs; whnf) (by conv => lhs; whnf) (by exact rfl) (by simp) objOk_nil) (nodup_b rfl) (nodup_b rfl) rfl rfl, h, rfl⟩
  · rintro s ⟨h, rfl⟩
    unfold gleaningref1_Reader_Text_k0 at h
    refine aw_seq_k (fun K12 hK12 => ?_)
    refine aw_regL ?_
    refine alP (some 26) rfl rfl (does_move (v := .ptr 0 0 0) (by exact rfl)) (by decide) ?_
    refine alP (some 27) rfl rfl (does_move (v := .ptr 0 0 0) (by exact rfl)) (by decide) ?_
    refine alP (some 28) rfl rfl (does_nilCheck (p := .ptr 0 0 0) (by conv => lhs; whnf) rfl) (by decide) ?_
    refine alP (some 29) rfl rfl (does_fieldAddr (q := .ptr 0 0 0) (by conv => lhs; whnf) ty96 rfl ty43 (by decide) (by exact rfl)) (by decide) ?_
    refine alR (some 30) rfl rfl (does_load (v := .sl 1 (List.map enc5 a0.B)) (by conv => lhs; whnf) (by conv => lhs; whnf) ty43 (by exact rfl)) (by decide) ?_
    refine alP (some 31) rfl rfl (does_move (v := .int .i64 x3.2.1) (by exact rfl)) (by decide) ?_
    obtain ⟨g13, h⟩ := gd_some h
    obtain ⟨g14, h⟩ := gd_some h
    refine alP (some 32) rfl rfl (does_slice_sl (l := (Int.toNat x3.2.1)) (by conv => lhs; whnf) ty43 ty5 (bd_some (by conv => lhs; whnf) (by exact (nat_of g13))) bd_none (by (try simp only [List.length_map]); omega) (by (try simp only [List.length_map]); omega) (by exact part_l _ _)) (by decide) ?_
    refine alP (some 33) rfl rfl (does_nilCheck (p := .ptr 0 0 0) (by conv => lhs; whnf) rfl) (by decide) ?_
    refine alP (some 34) rfl rfl (does_fieldAddr (q := .ptr 0 0 0) (by conv => lhs; whnf) ty96 rfl ty43 (by decide) (by exact rfl)) (by decide) ?_
    refine alD none rfl rfl (do_store (cs' := [.sl 1 (List.map enc5 (List.drop (Int.toNat x3.2.1) a0.B)), .bool a0.Bad]) (by conv => lhs; whnf) (by conv => lhs; whnf) (by conv => lhs; whnf) ty43 rfl rfl rfl (by exact rfl)) (by decide) ?_
    refine al_nil ?_
    refine hK12 _ ?_
    refine aw_seq_k (fun K15 hK15 => ?_)
    refine aw_regL ?_
    refine alP (some 35) rfl rfl (does_move (v := .str x3.1) (by exact rfl)) (by decide) ?_
    refine alP (some 2) rfl rfl (does_assign (v := .str x3.1) (by exact rfl)) (by decide) ?_
    refine al_nil ?_
    refine hK15 _ ?_
    refine aw_ret ?_
    obtain rfl := Option.some.inj h
    exact ret_okB [] (by conv => lhs; whnf) (by conv => lhs; whnf) (by exact rfl) trivial (boxesOk_cons (by conv => lhs; whnf) (by conv => lhs; whnf) (by exact rfl) trivial) (nodup_b rfl) (.inr rfl) rfl
end Go.Proofs.Ytbfmmaabaenhgaa.Ab
