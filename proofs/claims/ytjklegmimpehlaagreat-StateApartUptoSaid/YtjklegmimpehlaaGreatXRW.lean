/- What writes and reads numbers and texts. -/
import Derived.Test.YtjklegmimpehlaaGreatAbOps21
import Derived.Test.YtjklegmimpehlaaGreatProg
namespace Go.Proofs.YtjklegmimpehlaaGreat.Ab
open Go Go.RowKit
set_option linter.unusedVariables false
set_option linter.unusedSimpArgs false
set_option maxRecDepth 100000
set_option maxHeartbeats 8000000
def enc5 (c : UInt8) : PV := .int .u8 (c.toNat : Int)
theorem ty5 : tyOf Tryz.prog 5 = some ⟨.int .u8, 1, 1, [.int .u8 0]⟩ := by kernel_rfl
theorem ty35 : tyOf Tryz.prog 35 = some ⟨.slice 5, 1, 24, [.nil]⟩ := by kernel_rfl
theorem ty60 : tyOf Tryz.prog 60 = some ⟨.int .u64, 1, 8, [.int .u64 0]⟩ := by kernel_rfl
def ints_Get_k3 (a0 : List UInt8) (v5_0 : Int) (v6_0 : Int) (x17 : UInt8) (v36_3 : Bool) : Option ((Int × Int) ⊕ (Int × Int × Bool)) :=
 if v36_3 = true then (some (Sum.inr (0, 0, false))) else (gd (0 ≤ v6_0) (Option.bind (a0[(Int.toNat v6_0)]?) (fun (x35 : UInt8) => if (decide ((x35.toNat : Int) < 128)) = true then (some (Sum.inr ((bits .or .u64 v5_0 (IntKind.u64.wrap ((IntKind.u64.wrap ((u8 (bits .andNot .u8 (x17.toNat : Int) 128)).toNat : Int)) * 2 ^ (min (Int.toNat (IntKind.i64.wrap (7 * v6_0))) (IntKind.bits .u64))))), (IntKind.i64.wrap (v6_0 + 1)), true))) else (some (Sum.inl ((bits .or .u64 v5_0 (IntKind.u64.wrap ((IntKind.u64.wrap ((u8 (bits .andNot .u8 (x17.toNat : Int) 128)).toNat : Int)) * 2 ^ (min (Int.toNat (IntKind.i64.wrap (7 * v6_0))) (IntKind.bits .u64))))), (IntKind.i64.wrap (v6_0 + 1))))))))
def ints_Get_k2 (a0 : List UInt8) (v5_0 : Int) (v6_0 : Int) (x17 : UInt8) : Option ((Int × Int) ⊕ (Int × Int × Bool)) :=
 gd (¬ (IntKind.i64.wrap (7 * v6_0)) < 0) (Option.bind (gd (0 ≤ v6_0) (Option.bind (a0[(Int.toNat v6_0)]?) (fun (x29 : UInt8) => if ((x29.toNat : Int) == 0) = true then (some (decide ((0 : Int) < v6_0))) else (some false)))) (fun (s : Bool) => ints_Get_k3 a0 v5_0 v6_0 x17 s))
def ints_Get_k1 (a0 : List UInt8) (v5_0 : Int) (v6_0 : Int) : Option ((Int × Int) ⊕ (Int × Int × Bool)) :=
 gd (0 ≤ v6_0) (Option.bind (a0[(Int.toNat v6_0)]?) (fun (x17 : UInt8) => Option.bind (if (v6_0 == 9) = true then (if (decide ((1 : Int) < (IntKind.u64.wrap ((u8 (bits .andNot .u8 (x17.toNat : Int) 128)).toNat : Int)))) = true then (some (Sum.inr (Sum.inr (0, 0, false)))) else (some (Sum.inl ()))) else (some (Sum.inl ()))) (Sum.elim (fun (s : Unit) => ints_Get_k2 a0 v5_0 v6_0 x17) some)))
def ints_Get_l0 (a0 : List UInt8) (v5_0 : Int) (v6_0 : Int) : Option ((Int × Int) ⊕ (Int × Int × Bool)) :=
 Option.bind (if (decide (v6_0 < (List.length a0 : Int))) = true then (if (decide (v6_0 < 10)) = true then (some (Sum.inl ())) else (some (Sum.inr (Sum.inr (0, 0, false))))) else (some (Sum.inr (Sum.inr (0, 0, false))))) (Sum.elim (fun (s : Unit) => ints_Get_k1 a0 v5_0 v6_0) some)
def ints_Get (a0 : List UInt8) : Option (Int × Int × Bool) :=
 loopN (fun (s : Int × Int) => ints_Get_l0 a0 s.1 s.2) Fu (0, 0)
theorem ints_Get_ok (a0 : List UInt8) {r : Int × Int × Bool} (h : ints_Get a0 = some r) : Ok Tryz.prog 167 [.sl 1 (List.map enc5 a0)] [] [] (.tup [.int .u64 r.1, .int .i64 r.2.1, .bool r.2.2]) [] [] := by
 unfold ints_Get at h
 refine oK Tryz.func167 rfl fun X => sr fun _ k1 => pP 2 asg<|pP 3 asg<|pP 4 asg<|en k1<|sr fun _ k2 => pP 5 asg<|en k2<|aw_seq_k fun _ k3 => sr fun _ k4 => pP 6 asg<|en k4<|aw_block<|aw_loop' (fun m s => ∃ (v5_0 : Int), ∃ (v6_0 : Int), loopN (fun (s : Int × Int) => ints_Get_l0 a0 s.1 s.2) m (v5_0, v6_0) = some r ∧ s = lit [(0, .sl 1 (List.map enc5 a0)), (5, .int .u64 v5_0), (6, .int .i64 v6_0)] [] [] X) Fu
  ⟨_, ra [], 0, 0, h, rfl⟩ ?_
 rintro m s ⟨v5_0, v6_0, h, rfl⟩
 obtain ⟨m0, q5, rfl, h, hq6⟩ := loop_some h
 replace h : ints_Get_l0 a0 v5_0 v6_0 = some q5 := h
 refine bE h fun q7 h hk8 => aw_cut (fun s => ints_Get_k1 a0 v5_0 v6_0 = some q5 ∧ s = lit [(0, .sl 1 (List.map enc5 a0)), (5, .int .u64 v5_0), (6, .int .i64 v6_0)] [] [] X) ?_ ?_
 ·skip
  refine sr fun _ k9 => pP 8 mv<|pP 9 mv<|pP 10 (zl ty35)<|pP 11 bi<|pP 12 mv<|li 12 h (fun c10 h => ?_) fun c10 h => ?_
  ·refine pP 13 mv<|pP 14 bi<|pP 15 pc<|en k9<|wi 15 h (fun c11 h => ?_) fun c11 h => ?_
   ·refine aw_skip<|tk (leafL h hk8) fun h => ?_
    exact ⟨_, ra [], h, rfl⟩
   ·refine aw_exit<|tk (leafR h hk8) fun h => tk (leafR h hq6) fun h => k3 _<|sr fun _ k12 => pP 2 asg<|pP 3 asg<|pP 4 asg<|en k12<|aw_ret<|by cases h;exact rk
  ·refine pS 13<|pS 14<|pP 15 pc<|en k9<|aw_cond_f D_ rfl<|aw_exit<|tk (leafR h hk8) fun h => tk (leafR h hq6) fun h => k3 _<|sr fun _ k13 => pP 2 asg<|pP 3 asg<|pP 4 asg<|en k13<|aw_ret<|by cases h;exact rk
 ·rintro s ⟨h, rfl⟩
  refine aw_seq_k fun _ k14 => aw_block<|sr fun _ k15 => pP 18 mv<|pP 19 mv<|gE h fun g16 h => bE h fun x17 y17 h => pP 20 (ia ty35 ty5 g16 y17)<|pX 21 (ld ty5)<|pP 22 ((does_bin (v := .int .u8 (bits .andNot .u8 (x17.toNat : Int) 128)) W_ W_ rfl).castp (v' := .int .u8 ((u8 (bits .andNot .u8 (x17.toNat : Int) 128)).toNat : Int)) (by exact congrArg _ (u8_eq (u8_bits _ _ _))))<|pP 23 (does_conv_int (v := .int .u64 (IntKind.u64.wrap ((u8 (bits .andNot .u8 (x17.toNat : Int) 128)).toNat : Int))) W_ (ty_some ty5) (ty_int ty60) rfl)<|pP 7 asg<|en k15<|bE h fun q18 h hk19 => aw_cut (fun s => ints_Get_k2 a0 v5_0 v6_0 x17 = some q5 ∧ s = lit [(0, .sl 1 (List.map enc5 a0)), (5, .int .u64 v5_0), (6, .int .i64 v6_0), (7, .int .u64 (IntKind.u64.wrap ((u8 (bits .andNot .u8 (x17.toNat : Int) 128)).toNat : Int)))] [] [] X) ?_ ?_
  ·skip
   refine sr fun _ k20 => pP 24 mv<|pP 25 bi<|pP 26 mv<|li 26 h (fun c21 h => ?_) fun c21 h => ?_
   ·refine pP 27 mv<|pP 28 bi<|pP 29 pc<|en k20<|wi 29 h (fun c22 h => ?_) fun c22 h => ?_
    ·refine sr fun _ k23 => pP 2 asg<|pP 3 asg<|pP 4 asg<|en k23<|aw_ret<|tk (leafR h hk19) fun h => by cases leafR h hq6;exact rk
    ·refine aw_skip<|tk (leafL h hk19) fun h => ?_
     exact ⟨_, ra [], h, rfl⟩
   ·refine pS 27<|pS 28<|pP 29 pc<|en k20<|aw_cond_f D_ rfl<|aw_skip<|tk (leafL h hk19) fun h => ?_
    exact ⟨_, ra [], h, rfl⟩
  ·rintro s ⟨h, rfl⟩
   refine sr fun _ k24 => pP 30 mv<|pP 31 mv<|pP 32 mv<|pP 33 bi<|gE h fun g25 h => pP 34 (does_bin (v := .int .u64 (IntKind.u64.wrap ((IntKind.u64.wrap ((u8 (bits .andNot .u8 (x17.toNat : Int) 128)).toNat : Int)) * 2 ^ (min (Int.toNat (IntKind.i64.wrap (7 * v6_0))) (IntKind.bits .u64))))) W_ W_ (shl_hv g25))<|pP 35 bi<|pP 5 asg<|en k24<|aw_block<|bE h fun q26 h hk27 => aw_cut (fun s => ∃ (v36_3 : Bool), ints_Get_k3 a0 v5_0 v6_0 x17 v36_3 = some q5 ∧ s = lit [(0, .sl 1 (List.map enc5 a0)), (5, .int .u64 (bits .or .u64 v5_0 (IntKind.u64.wrap ((IntKind.u64.wrap ((u8 (bits .andNot .u8 (x17.toNat : Int) 128)).toNat : Int)) * 2 ^ (min (Int.toNat (IntKind.i64.wrap (7 * v6_0))) (IntKind.bits .u64)))))), (6, .int .i64 v6_0), (36, .bool v36_3)] [] [] X) ?_ ?_
   ·skip
    refine aw_regL<|pP 37 mv<|pP 38 mv<|gE h fun g28 h => bE h fun x29 y29 h => pP 39 (ia ty35 ty5 g28 y29)<|pX 40 (ld ty5)<|pP 41 bi<|pP 42 mv<|li 42 h (fun c30 h => ?_) fun c30 h => ?_
    ·refine pP 43 mv<|pP 44 bi<|pP 45 pc<|pP 36 asg<|al_nil<|?_
     obtain rfl := Option.some.inj h
     have h := hk27
     exact ⟨_, ra [], (decide ((0 : Int) < v6_0)), h, rfl⟩
    ·refine pS 43<|pS 44<|pP 45 pc<|pP 36 asg<|al_nil<|?_
     obtain rfl := Option.some.inj h
     have h := hk27
     exact ⟨_, ra [], false, h, rfl⟩
   ·rintro s ⟨v36_3, h, rfl⟩
    refine wi 36 h (fun c31 h => ?_) fun c31 h => ?_
    ·refine sr fun _ k32 => pP 2 asg<|pP 3 asg<|pP 4 asg<|en k32<|aw_ret<|by cases leafR h hq6;exact rk
    ·refine sr fun _ k33 => pP 47 mv<|pP 48 mv<|gE h fun g34 h => bE h fun x35 y35 h => pP 49 (ia ty35 ty5 g34 y35)<|pX 50 (ld ty5)<|pP 51 bi<|pP 46 asg<|en k33<|wi 46 h (fun c36 h => ?_) fun c36 h => ?_
     ·refine sr fun _ k37 => pP 52 mv<|pP 53 mv<|pP 54 bi<|pP 2 asg<|pP 3 asg<|pP 4 asg<|en k37<|aw_ret<|by cases leafR h hq6;exact rk
     ·refine aw_skip<|k14 _<|aw_regL<|pP 16 mv<|pP 17 bi<|pP 6 asg<|al_nil<|bk (ra []) ⟨(bits .or .u64 v5_0 (IntKind.u64.wrap ((IntKind.u64.wrap ((u8 (bits .andNot .u8 (x17.toNat : Int) 128)).toNat : Int)) * 2 ^ (min (Int.toNat (IntKind.i64.wrap (7 * v6_0))) (IntKind.bits .u64))))), (IntKind.i64.wrap (v6_0 + 1)), leafL h hq6, rfl⟩
end Go.Proofs.YtjklegmimpehlaaGreat.Ab
namespace Go.Proofs.YtjklegmimpehlaaGreat.Ab
open Go Go.RowKit
set_option linter.unusedVariables false
set_option linter.unusedSimpArgs false
set_option maxRecDepth 100000
set_option maxHeartbeats 8000000
structure Writer where
  B : List UInt8
  deriving DecidableEq
def enc9 (x : ByteArray) : PV := .str x
def enc2 (x : Int) : PV := .int .i64 x
def enc12 (x : Int) : PV := .int .u64 x
structure Reader where
  B : List UInt8
  Bad : Bool
  deriving DecidableEq
theorem ty3 : tyOf Tryz.prog 3 = some ⟨.int .i64, 1, 8, [.int .i64 0]⟩ := by kernel_rfl
theorem ty4 : tyOf Tryz.prog 4 = some ⟨.bool, 1, 1, [.bool false]⟩ := by kernel_rfl
theorem ty9 : tyOf Tryz.prog 9 = some ⟨.str, 1, 16, [.str ByteArray.empty]⟩ := by kernel_rfl
theorem ty75 : tyOf Tryz.prog 75 = some ⟨.struct [(0, 35)], 1, 24, [.nil]⟩ := by kernel_rfl
theorem ty89 : tyOf Tryz.prog 89 = some ⟨.struct [(0, 35), (1, 4)], 2, 32, [.nil, .bool false]⟩ := by kernel_rfl
theorem ty117 : tyOf Tryz.prog 117 = some ⟨.slice 3, 1, 24, [.nil]⟩ := by kernel_rfl
theorem ty135 : tyOf Tryz.prog 135 = some ⟨.slice 60, 1, 24, [.nil]⟩ := by kernel_rfl
theorem ty184 : tyOf Tryz.prog 184 = some ⟨.slice 9, 1, 24, [.nil]⟩ := by kernel_rfl
theorem zr5 : (Tryz.prog.info? 5).bind (·.zero) = some (.int .u8 0) := by kernel_rfl
theorem ent26 : Ent Tryz.prog 26 := eN Tryz.func26
theorem ent29 : Ent Tryz.prog 29 := eN Tryz.func29
theorem ent91 : Ent Tryz.prog 91 := eN Tryz.func91
theorem ent93 : Ent Tryz.prog 93 := eN Tryz.func93
theorem ent94 : Ent Tryz.prog 94 := eN Tryz.func94
theorem ent147 : Ent Tryz.prog 147 := eN Tryz.func147
theorem ent167 : Ent Tryz.prog 167 := eN Tryz.func167
def ints_Writer_Wide_l2 (vb0_s_0_s_2 : List UInt8) (v5_2 : Int) : Option ((List UInt8 × Int) ⊕ (List UInt8 × Int)) :=
 if (decide ((128 : Int) ≤ v5_2)) = true then (gd ((List.length (vb0_s_0_s_2 ++ [(u8 (bits .or .u8 ((u8 (IntKind.u8.wrap v5_2)).toNat : Int) 128))])) * 1 ≤ 140737488355328 ∧ (List.length (vb0_s_0_s_2 ++ [(u8 (bits .or .u8 ((u8 (IntKind.u8.wrap v5_2)).toNat : Int) 128))])) ≤ 140737488355328) (some (Sum.inl ((vb0_s_0_s_2 ++ [(u8 (bits .or .u8 ((u8 (IntKind.u8.wrap v5_2)).toNat : Int) 128))]), (Int.fdiv v5_2 (2 ^ (min (Int.toNat 7) (IntKind.bits .u64)))))))) else (some (Sum.inr (vb0_s_0_s_2, v5_2)))
def ints_Writer_Wide_k1 (v8_0 : Int) (vb0_s_0_s_1 : List UInt8) (v5_1 : Int) : Option ((List UInt8 × Int) ⊕ Writer) :=
 gd ((List.length (vb0_s_0_s_1 ++ [(u8 (IntKind.u8.wrap v5_1))])) * 1 ≤ 140737488355328 ∧ (List.length (vb0_s_0_s_1 ++ [(u8 (IntKind.u8.wrap v5_1))])) ≤ 140737488355328) (some (Sum.inl ((vb0_s_0_s_1 ++ [(u8 (IntKind.u8.wrap v5_1))]), (IntKind.i64.wrap (v8_0 + 1)))))
def ints_Writer_Wide_l0 (a1 : List Int) (vb0_s_0_s_0 : List UInt8) (v8_0 : Int) : Option ((List UInt8 × Int) ⊕ Writer) :=
 if (decide (v8_0 < (List.length a1 : Int))) = true then (gd (0 ≤ v8_0) (Option.bind (a1[(Int.toNat v8_0)]?) (fun (x10 : Int) => Option.bind (loopN (fun (s : List UInt8 × Int) => ints_Writer_Wide_l2 s.1 s.2) Fu (vb0_s_0_s_0, x10)) (fun (s : List UInt8 × Int) => ints_Writer_Wide_k1 v8_0 s.1 s.2)))) else (some (Sum.inr (Writer.mk vb0_s_0_s_0)))
def ints_Writer_Wide (a0 : Writer) (a1 : List Int) : Option Writer :=
 loopN (fun (s : List UInt8 × Int) => ints_Writer_Wide_l0 a1 s.1 s.2) Fu (a0.B, 0)
theorem ints_Writer_Wide_ok (a0 : Writer) (a1 : List Int) {r : Writer} (h : ints_Writer_Wide a0 a1 = some r) : Ok Tryz.prog 29 [.ptr 0 0 0, .sl 1 (List.map enc12 a1)] [[.own 1 0]] [(5, 1, List.map enc5 a0.B)] (.tup []) [[.own 2 0]] [(5, 1, List.map enc5 r.B)] := by
 unfold ints_Writer_Wide at h
 refine oK Tryz.func29 rfl fun X => sr fun _ k1 => pP 6 mv<|pP 7 (zl ty135)<|pP 8 mv<|en k1<|aw_block<|aw_loop' (fun m s => ∃ (vb0_s_0_s_0 : List UInt8), ∃ (v8_0 : Int), loopN (fun (s : List UInt8 × Int) => ints_Writer_Wide_l0 a1 s.1 s.2) m (vb0_s_0_s_0, v8_0) = some r ∧ s = lit [(0, .ptr 0 0 0), (6, .sl 1 (List.map enc12 a1)), (7, .int .i64 (List.length a1 : Int)), (8, .int .i64 v8_0)] [((0, 0), .box [.own 1 0]), ((1, 0), .arr 5 1 false (List.map enc5 vb0_s_0_s_0))] [(0, 1), (1, 1)] X) Fu
  ⟨_, ra [(0, 0), (1, 0)], a0.B, 0, h, rfl⟩ ?_
 rintro m s ⟨vb0_s_0_s_0, v8_0, h, rfl⟩
 obtain ⟨m0, q2, rfl, h, hq3⟩ := loop_some h
 replace h : ints_Writer_Wide_l0 a1 vb0_s_0_s_0 v8_0 = some q2 := h
 refine sr fun _ k4 => pP 9 bi<|en k4<|aw_seq_k fun _ k5 => wi 9 h (fun c6 h => ?_) fun c6 h => ?_
 ·refine aw_skip<|k5 _<|aw_seq_k fun _ k7 => aw_block<|sr fun _ k8 => gE h fun g9 h => bE h fun x10 y10 h => pP 10 (ia ty135 ty60 g9 y10)<|pX 11 (ld ty60)<|pP 5 asg<|en k8<|bE h fun q11 h hk12 => aw_cut (fun s => ∃ (vb0_s_0_s_1 : List UInt8), ∃ (v5_1 : Int), ints_Writer_Wide_k1 v8_0 vb0_s_0_s_1 v5_1 = some q2 ∧ s = lit [(0, .ptr 0 0 0), (5, .int .u64 v5_1), (6, .sl 1 (List.map enc12 a1)), (7, .int .i64 (List.length a1 : Int)), (8, .int .i64 v8_0)] [((0, 0), .box [.own 1 0]), ((1, 0), .arr 5 1 false (List.map enc5 vb0_s_0_s_1))] [(0, 1), (1, 1)] X) ?_ ?_
  ·skip
   refine aw_block<|aw_loop' (fun m s => ∃ (vb0_s_0_s_2 : List UInt8), ∃ (v5_2 : Int), loopN (fun (s : List UInt8 × Int) => ints_Writer_Wide_l2 s.1 s.2) m (vb0_s_0_s_2, v5_2) = some q11 ∧ s = lit [(0, .ptr 0 0 0), (5, .int .u64 v5_2), (6, .sl 1 (List.map enc12 a1)), (7, .int .i64 (List.length a1 : Int)), (8, .int .i64 v8_0)] [((0, 0), .box [.own 1 0]), ((1, 0), .arr 5 1 false (List.map enc5 vb0_s_0_s_2))] [(0, 1), (1, 1)] X) Fu
    ⟨_, ra [(0, 0), (1, 0)], vb0_s_0_s_0, x10, h, rfl⟩ ?_
   rintro m s ⟨vb0_s_0_s_2, v5_2, h, rfl⟩
   obtain ⟨m2, q13, rfl, h, hq14⟩ := loop_some h
   replace h : ints_Writer_Wide_l2 vb0_s_0_s_2 v5_2 = some q13 := h
   refine aw_seq_k fun _ k15 => sr fun _ k16 => pP 12 mv<|pP 13 bi<|en k16<|wi 13 h (fun c17 h => ?_) fun c17 h => ?_
   ·refine aw_skip<|k15 _<|aw_seq_k fun _ k18 => aw_block<|aw_regL<|pP 16 mv<|pP 17 mv<|pP 18 nk<|pP 19 (fa ty75 ty35)<|pX 20 (ld ty35)<|pP 21 mv<|pP 22 ((does_conv_int (v := .int .u8 (IntKind.u8.wrap v5_2)) W_ (ty_some ty60) (ty_int ty5) rfl).castp (v' := .int .u8 ((u8 (IntKind.u8.wrap v5_2)).toNat : Int)) (by exact congrArg _ (u8_eq (u8_wrap _))))<|pP 23 ((does_bin (v := .int .u8 (bits .or .u8 ((u8 (IntKind.u8.wrap v5_2)).toNat : Int) 128)) W_ W_ rfl).castp (v' := .int .u8 ((u8 (bits .or .u8 ((u8 (IntKind.u8.wrap v5_2)).toNat : Int) 128)).toNat : Int)) (by exact congrArg _ (u8_eq (u8_bits _ _ _))))<|pD 24 (bs (List.map enc5 [(u8 (bits .or .u8 ((u8 (IntKind.u8.wrap v5_2)).toNat : Int) 128))]) ty35 ty5 rfl)<|gE h fun g19 h => pD 25 (do_append (v := List.map enc5 (vb0_s_0_s_2 ++ [(u8 (bits .or .u8 ((u8 (IntKind.u8.wrap v5_2)).toNat : Int) 128))])) W_ W_ ty35 ty5 rfl rfl W_ (by first | exact .inl rfl | exact .inr ⟨rfl, rfl⟩) W_ (by first | exact .inr rfl | exact .inl rfl) (map_app _ _) (fit_map g19))<|pP 26 nk<|pP 27 (fa ty75 ty35)<|pZ (sto [.own 25 0] ty35)<|en k18<|aw_regL<|pP 14 mv<|pP 15 bi<|pP 5 asg<|al_nil<|bk (ra [(0, 0), (25, 0)]) ⟨(vb0_s_0_s_2 ++ [(u8 (bits .or .u8 ((u8 (IntKind.u8.wrap v5_2)).toNat : Int) 128))]), (Int.fdiv v5_2 (2 ^ (min (Int.toNat 7) (IntKind.bits .u64)))), leafL h hq14, rfl⟩
   ·refine aw_exit<|tk (leafR h hq14) fun h => ?_
    obtain rfl := Option.some.inj h
    have h := hk12
    exact ⟨_, ra [(0, 0), (1, 0)], vb0_s_0_s_2, v5_2, h, rfl⟩
  ·rintro s ⟨vb0_s_0_s_1, v5_1, h, rfl⟩
   refine aw_regL<|pP 28 mv<|pP 29 mv<|pP 30 nk<|pP 31 (fa ty75 ty35)<|pX 32 (ld ty35)<|pP 33 mv<|pP 34 ((does_conv_int (v := .int .u8 (IntKind.u8.wrap v5_1)) W_ (ty_some ty60) (ty_int ty5) rfl).castp (v' := .int .u8 ((u8 (IntKind.u8.wrap v5_1)).toNat : Int)) (by exact congrArg _ (u8_eq (u8_wrap _))))<|pD 35 (bs (List.map enc5 [(u8 (IntKind.u8.wrap v5_1))]) ty35 ty5 rfl)<|gE h fun g20 h => pD 36 (do_append (v := List.map enc5 (vb0_s_0_s_1 ++ [(u8 (IntKind.u8.wrap v5_1))])) W_ W_ ty35 ty5 rfl rfl W_ (by first | exact .inl rfl | exact .inr ⟨rfl, rfl⟩) W_ (by first | exact .inr rfl | exact .inl rfl) (map_app _ _) (fit_map g20))<|pP 37 nk<|pP 38 (fa ty75 ty35)<|pZ (sto [.own 36 0] ty35)<|en k7<|aw_regL<|pP 39 bi<|pP 8 mv<|al_nil<|bk (ra [(0, 0), (36, 0)]) ⟨(vb0_s_0_s_1 ++ [(u8 (IntKind.u8.wrap v5_1))]), (IntKind.i64.wrap (v8_0 + 1)), leafL h hq3, rfl⟩
 ·refine aw_exit<|tk (leafR h hq3) fun h => ?_
  obtain rfl := Option.some.inj h
  exact ret_okB [(1, 0)] W_ W_ R_ (rowsOk_cons W_ R_ trivial) (boxesOk_cons W_ W_ R_ trivial) (nodup_b rfl) (.inl rfl) rfl
def ints_Writer_Num_l0 (a1 : List Int) (vb0_s_0_s_0 : List UInt8) (v8_0 : Int) : Option ((List UInt8 × Int) ⊕ Writer) :=
 if (decide (v8_0 < (List.length a1 : Int))) = true then (gd (0 ≤ v8_0) (Option.bind (a1[(Int.toNat v8_0)]?) (fun (x10 : Int) => Option.bind (ints_Writer_Wide (Writer.mk vb0_s_0_s_0) [(IntKind.u64.wrap x10)]) (fun (x11 : Writer) => some (Sum.inl (x11.B, (IntKind.i64.wrap (v8_0 + 1)))))))) else (some (Sum.inr (Writer.mk vb0_s_0_s_0)))
def ints_Writer_Num (a0 : Writer) (a1 : List Int) : Option Writer :=
 loopN (fun (s : List UInt8 × Int) => ints_Writer_Num_l0 a1 s.1 s.2) Fu (a0.B, 0)
theorem ints_Writer_Num_ok (a0 : Writer) (a1 : List Int) {r : Writer} (h : ints_Writer_Num a0 a1 = some r) : Ok Tryz.prog 26 [.ptr 0 0 0, .sl 1 (List.map enc2 a1)] [[.own 1 0]] [(5, 1, List.map enc5 a0.B)] (.tup []) [[.own 2 0]] [(5, 1, List.map enc5 r.B)] := by
 unfold ints_Writer_Num at h
 refine oK Tryz.func26 rfl fun X => sr fun _ k1 => pP 6 mv<|pP 7 (zl ty117)<|pP 8 mv<|en k1<|aw_block<|aw_loop' (fun m s => ∃ (vb0_s_0_s_0 : List UInt8), ∃ (v8_0 : Int), loopN (fun (s : List UInt8 × Int) => ints_Writer_Num_l0 a1 s.1 s.2) m (vb0_s_0_s_0, v8_0) = some r ∧ s = lit [(0, .ptr 0 0 0), (6, .sl 1 (List.map enc2 a1)), (7, .int .i64 (List.length a1 : Int)), (8, .int .i64 v8_0)] [((0, 0), .box [.own 1 0]), ((1, 0), .arr 5 1 false (List.map enc5 vb0_s_0_s_0))] [(0, 1), (1, 1)] X) Fu
  ⟨_, ra [(0, 0), (1, 0)], a0.B, 0, h, rfl⟩ ?_
 rintro m s ⟨vb0_s_0_s_0, v8_0, h, rfl⟩
 obtain ⟨m0, q2, rfl, h, hq3⟩ := loop_some h
 replace h : ints_Writer_Num_l0 a1 vb0_s_0_s_0 v8_0 = some q2 := h
 refine sr fun _ k4 => pP 9 bi<|en k4<|aw_seq_k fun _ k5 => wi 9 h (fun c6 h => ?_) fun c6 h => ?_
 ·refine aw_skip<|k5 _<|aw_seq_k fun _ k7 => aw_block<|sr fun _ k8 => gE h fun g9 h => bE h fun x10 y10 h => pP 10 (ia ty117 ty3 g9 y10)<|pX 11 (ld ty3)<|pP 5 asg<|en k8<|aw_regL<|pP 12 mv<|pP 13 mv<|pP 14 (does_conv_int (v := .int .u64 (IntKind.u64.wrap x10)) W_ (ty_some ty3) (ty_int ty60) rfl)<|pD 15 (bs (List.map enc12 [(IntKind.u64.wrap x10)]) ty135 ty60 rfl)<|bE h fun x11 y11 h => pD 16 (does_frz (d := 15) (n := 0) W_ (do_callG (bcs := [[.own 1 0]]) [(0, 0)] [(1, 0)] [(15, 0)] 16 false (ints_Writer_Wide_ok (Writer.mk vb0_s_0_s_0) [(IntKind.u64.wrap x10)] y11) rfl ent29 ⟨R_, trivial⟩ (rowsOk_cons W_ R_ trivial) rfl rfl rfl rfl rfl rfl rfl rfl (.inl ⟨⟨_, _, _, rfl⟩, trivial⟩)))<|en k7<|aw_regL<|pP 17 bi<|pP 8 mv<|al_nil<|bk (ra [(0, 0), (16, 0)]) ⟨x11.B, (IntKind.i64.wrap (v8_0 + 1)), leafL h hq3, rfl⟩
 ·refine aw_exit<|tk (leafR h hq3) fun h => ?_
  obtain rfl := Option.some.inj h
  exact ret_okB [(1, 0)] W_ W_ R_ (rowsOk_cons W_ R_ trivial) (boxesOk_cons W_ W_ R_ trivial) (nodup_b rfl) (.inl rfl) rfl
def ints_Writer_Text_l0 (a1 : List ByteArray) (vb0_s_0_s_0 : List UInt8) (v8_0 : Int) : Option ((List UInt8 × Int) ⊕ Writer) :=
 if (decide (v8_0 < (List.length a1 : Int))) = true then (gd (0 ≤ v8_0) (Option.bind (a1[(Int.toNat v8_0)]?) (fun (x10 : ByteArray) => Option.bind (ints_Writer_Num (Writer.mk vb0_s_0_s_0) [(ByteArray.size x10 : Int)]) (fun (x12 : Writer) => gd ((List.length (x12.B ++ (bytesOf x10))) ≤ 140737488355328) (some (Sum.inl ((x12.B ++ (bytesOf x10)), (IntKind.i64.wrap (v8_0 + 1))))))))) else (some (Sum.inr (Writer.mk vb0_s_0_s_0)))
def ints_Writer_Text (a0 : Writer) (a1 : List ByteArray) : Option Writer :=
 loopN (fun (s : List UInt8 × Int) => ints_Writer_Text_l0 a1 s.1 s.2) Fu (a0.B, 0)
theorem ints_Writer_Text_ok (a0 : Writer) (a1 : List ByteArray) {r : Writer} (h : ints_Writer_Text a0 a1 = some r) : Ok Tryz.prog 87 [.ptr 0 0 0, .sl 1 (List.map enc9 a1)] [[.own 1 0]] [(5, 1, List.map enc5 a0.B)] (.tup []) [[.own 2 0]] [(5, 1, List.map enc5 r.B)] := by
 unfold ints_Writer_Text at h
 refine oK Tryz.func87 rfl fun X => sr fun _ k1 => pP 6 mv<|pP 7 (zl ty184)<|pP 8 mv<|en k1<|aw_block<|aw_loop' (fun m s => ∃ (vb0_s_0_s_0 : List UInt8), ∃ (v8_0 : Int), loopN (fun (s : List UInt8 × Int) => ints_Writer_Text_l0 a1 s.1 s.2) m (vb0_s_0_s_0, v8_0) = some r ∧ s = lit [(0, .ptr 0 0 0), (6, .sl 1 (List.map enc9 a1)), (7, .int .i64 (List.length a1 : Int)), (8, .int .i64 v8_0)] [((0, 0), .box [.own 1 0]), ((1, 0), .arr 5 1 false (List.map enc5 vb0_s_0_s_0))] [(0, 1), (1, 1)] X) Fu
  ⟨_, ra [(0, 0), (1, 0)], a0.B, 0, h, rfl⟩ ?_
 rintro m s ⟨vb0_s_0_s_0, v8_0, h, rfl⟩
 obtain ⟨m0, q2, rfl, h, hq3⟩ := loop_some h
 replace h : ints_Writer_Text_l0 a1 vb0_s_0_s_0 v8_0 = some q2 := h
 refine sr fun _ k4 => pP 9 bi<|en k4<|aw_seq_k fun _ k5 => wi 9 h (fun c6 h => ?_) fun c6 h => ?_
 ·refine aw_skip<|k5 _<|aw_seq_k fun _ k7 => aw_block<|sr fun _ k8 => gE h fun g9 h => bE h fun x10 y10 h => pP 10 (ia ty184 ty9 g9 y10)<|pX 11 (ld ty9)<|pP 5 asg<|en k8<|sr fun _ k11 => pP 12 mv<|pP 13 mv<|pP 14 (does_len_str W_ ty9)<|pD 15 (bs (List.map enc2 [(ByteArray.size x10 : Int)]) ty117 ty3 rfl)<|bE h fun x12 y12 h => pD 16 (does_frz (d := 15) (n := 0) W_ (do_callG (bcs := [[.own 1 0]]) [(0, 0)] [(1, 0)] [(15, 0)] 16 false (ints_Writer_Num_ok (Writer.mk vb0_s_0_s_0) [(ByteArray.size x10 : Int)] y12) rfl ent26 ⟨R_, trivial⟩ (rowsOk_cons W_ R_ trivial) rfl rfl rfl rfl rfl rfl rfl rfl (.inl ⟨⟨_, _, _, rfl⟩, trivial⟩)))<|en k11<|aw_regL<|pP 17 mv<|pP 18 mv<|pP 19 nk<|pP 20 (fa ty75 ty35)<|pX 21 (ld ty35)<|pP 22 mv<|gE h fun g13 h => pD 23 (do_append_str (l := x12.B) (f := enc5) W_ W_ ty35 ty5 zr5 (ty_str ty9) W_ (by first | exact .inl rfl | exact .inr ⟨rfl, rfl⟩) (fun _ => rfl) (g13))<|pP 24 nk<|pP 25 (fa ty75 ty35)<|pZ (sto [.own 23 0] ty35)<|en k7<|aw_regL<|pP 26 bi<|pP 8 mv<|al_nil<|bk (ra [(0, 0), (23, 0)]) ⟨(x12.B ++ (bytesOf x10)), (IntKind.i64.wrap (v8_0 + 1)), leafL h hq3, rfl⟩
 ·refine aw_exit<|tk (leafR h hq3) fun h => ?_
  obtain rfl := Option.some.inj h
  exact ret_okB [(1, 0)] W_ W_ R_ (rowsOk_cons W_ R_ trivial) (boxesOk_cons W_ W_ R_ trivial) (nodup_b rfl) (.inl rfl) rfl
def ints_Writer_Flag_k0 (a0 : Writer) (v4_0 : Int) : Option Writer :=
 Option.bind (ints_Writer_Num a0 [v4_0]) (fun (x6 : Writer) => some x6)
def ints_Writer_Flag (a0 : Writer) (a1 : Bool) : Option Writer :=
 Option.bind (if a1 = true then (some 1) else (some 0)) (fun (s : Int) => ints_Writer_Flag_k0 a0 s)
theorem ints_Writer_Flag_ok (a0 : Writer) (a1 : Bool) {r : Writer} (h : ints_Writer_Flag a0 a1 = some r) : Ok Tryz.prog 30 [.ptr 0 0 0, .bool a1] [[.own 1 0]] [(5, 1, List.map enc5 a0.B)] (.tup []) [[.own 2 0]] [(5, 1, List.map enc5 r.B)] := by
 refine oK Tryz.func30 rfl fun X => sr fun _ k1 => pP 4 asg<|en k1<|bE h fun q2 h hk3 => aw_cut (fun s => ∃ (v4_0 : Int), ints_Writer_Flag_k0 a0 v4_0 = some r ∧ s = lit [(0, .ptr 0 0 0), (4, .int .i64 v4_0)] [((0, 0), .box [.own 1 0]), ((1, 0), .arr 5 1 false (List.map enc5 a0.B))] [(0, 1), (1, 1)] X) ?_ ?_
 ·skip
  refine sr fun _ k4 => pP 5 mv<|en k4<|wi 5 h (fun c5 h => ?_) fun c5 h => ?_
  ·refine aw_regL<|pP 4 asg<|al_nil<|?_
   obtain rfl := Option.some.inj h
   have h := hk3
   exact ⟨_, ra [(0, 0), (1, 0)], 1, h, rfl⟩
  ·refine aw_skip ?_
   obtain rfl := Option.some.inj h
   have h := hk3
   exact ⟨_, ra [(0, 0), (1, 0)], 0, h, rfl⟩
 ·rintro s ⟨v4_0, h, rfl⟩
  refine aw_regL<|pP 6 mv<|pP 7 mv<|pD 8 (bs (List.map enc2 [v4_0]) ty117 ty3 rfl)<|bE h fun x6 y6 h => pD 9 (does_frz (d := 8) (n := 0) W_ (do_callG (bcs := [[.own 1 0]]) [(0, 0)] [(1, 0)] [(8, 0)] 9 false (ints_Writer_Num_ok a0 [v4_0] y6) rfl ent26 ⟨R_, trivial⟩ (rowsOk_cons W_ R_ trivial) rfl rfl rfl rfl rfl rfl rfl rfl (.inl ⟨⟨_, _, _, rfl⟩, trivial⟩)))<|al_nil<|?_
  obtain rfl := Option.some.inj h
  exact ret_okB [(9, 0)] W_ W_ R_ (rowsOk_cons W_ R_ trivial) (boxesOk_cons W_ W_ R_ trivial) (nodup_b rfl) (.inl rfl) rfl
def ints_Reader_Wide_k1 (v22_1 : Bool) : Option (Unit ⊕ (Int × Reader)) :=
 if v22_1 = true then (some (Sum.inr (0, (Reader.mk [] true)))) else (some (Sum.inl ()))
def ints_Reader_Wide_k0 (a0 : Reader) (x3 : Int × Int × Bool) : Option (Int × Reader) :=
 gd (0 ≤ x3.2.1) (gd (x3.2.1 ≤ (List.length a0.B : Int)) (some (x3.1, (Reader.mk (List.drop (Int.toNat x3.2.1) a0.B) a0.Bad))))
def ints_Reader_Wide (a0 : Reader) : Option (Int × Reader) :=
 Option.bind (ints_Get a0.B) (fun (x3 : Int × Int × Bool) => Option.bind (Option.bind (if a0.Bad = true then (some true) else (some (!x3.2.2))) (fun (s : Bool) => ints_Reader_Wide_k1 s)) (Sum.elim (fun (s : Unit) => ints_Reader_Wide_k0 a0 x3) some))
theorem ints_Reader_Wide_ok (a0 : Reader) {r : Int × Reader} (h : ints_Reader_Wide a0 = some r) : Ok Tryz.prog 147 [.ptr 0 0 0] [[.sl 1 (List.map enc5 a0.B), .bool a0.Bad]] [] (.int .u64 r.1) [[.sl 1 (List.map enc5 r.2.B), .bool r.2.Bad]] [] := by
 refine oK Tryz.func147 rfl fun X => sr fun _ k1 => pP 2 asg<|en k1<|sr fun _ k2 => pP 7 mv<|pP 8 nk<|pP 9 (fa ty89 ty35)<|pX 10 (ld ty35)<|bE h fun x3 y3 h => pD 11 (cZ 11 (ints_Get_ok a0.B y3) ent167)<|pP 6 mv<|pP 12 ex<|pP 13 ex<|pP 14 ex<|pP 3 asg<|pP 4 asg<|pP 5 asg<|en k2<|bE h fun q4 h hk5 => aw_cut (fun s => ints_Reader_Wide_k0 a0 x3 = some r ∧ s = lit [(0, .ptr 0 0 0), (3, .int .u64 x3.1), (4, .int .i64 x3.2.1)] [((0, 0), .box [.sl 1 (List.map enc5 a0.B), .bool a0.Bad])] [(0, 1)] X) ?_ ?_
 ·skip
  refine bE h fun q6 h hk7 => aw_cut (fun s => ∃ (v22_1 : Bool), ints_Reader_Wide_k1 v22_1 = some q4 ∧ s = lit [(0, .ptr 0 0 0), (3, .int .u64 x3.1), (4, .int .i64 x3.2.1), (22, .bool v22_1)] [((0, 0), .box [.sl 1 (List.map enc5 a0.B), .bool a0.Bad])] [(0, 1)] X) ?_ ?_
  ·skip
   refine aw_regL<|pP 15 mv<|pP 16 nk<|pP 17 (fa ty89 ty4)<|pX 18 (ld ty4)<|pP 19 mv<|li 19 h (fun c8 h => ?_) fun c8 h => ?_
   ·refine pS 20<|pS 21<|pP 22 pc<|al_nil<|?_
    obtain rfl := Option.some.inj h
    have h := hk7
    exact ⟨_, ra [(0, 0)], true, h, rfl⟩
   ·refine pP 20 mv<|pP 21 un<|pP 22 pc<|al_nil<|?_
    obtain rfl := Option.some.inj h
    have h := hk7
    exact ⟨_, ra [(0, 0)], (!x3.2.2), h, rfl⟩
  ·rintro s ⟨v22_1, h, rfl⟩
   refine wi 22 h (fun c9 h => ?_) fun c9 h => ?_
   ·refine sr fun _ k10 => pP 23 mv<|pP 24 mv<|pP 25 nk<|pP 26 (fa ty89 ty35)<|pZ (sto [.nil, .bool a0.Bad] ty35)<|pP 27 nk<|pP 28 (fa ty89 ty4)<|pZ (sto [.nil, .bool true] ty4)<|en k10<|sr fun _ k11 => pP 2 asg<|en k11<|aw_reb (reb_w (tl' := [(2, .int .u64 0)]) (ol' := [((0, 0), .box [.sl 1 (List.map enc5 []), .bool true])]) (ra (tl := [(2, .int .u64 0)]) (ol := [((0, 0), .box [.nil, .bool true])]) (nx := [(0, 1)]) [(0, 0)]) ⟨rfl, le_refl _, trivial⟩ ⟨rfl, (.box ⟨le_nil _, le_refl _, trivial⟩), trivial⟩)<|aw_ret<|by cases leafR h hk5;exact rB []
   ·refine aw_skip<|tk (leafL h hk5) fun h => ?_
    exact ⟨_, ra [(0, 0)], h, rfl⟩
 ·rintro s ⟨h, rfl⟩
  refine sr fun _ k12 => pP 29 mv<|pP 30 mv<|pP 31 nk<|pP 32 (fa ty89 ty35)<|pX 33 (ld ty35)<|pP 34 mv<|gE h fun g13 h => gE h fun g14 h => pP 35 (does_slice_sl (l := (Int.toNat x3.2.1)) W_ ty35 ty5 (bd_some W_ (by exact (nat_of g13))) bd_none (by (try simp only [List.length_map]); omega) (by (try simp only [List.length_map]); omega) (by exact part_l _ _))<|pP 36 nk<|pP 37 (fa ty89 ty35)<|pZ (sto [.sl 1 (List.map enc5 (List.drop (Int.toNat x3.2.1) a0.B)), .bool a0.Bad] ty35)<|en k12<|sr fun _ k15 => pP 38 mv<|pP 2 asg<|en k15<|aw_ret<|by cases h;exact rB []
def ints_Reader_Count (a0 : Reader) : Option (Int × Reader) :=
 Option.bind (ints_Reader_Wide a0) (fun (x3 : Int × Reader) => if (decide ((IntKind.u64.wrap (List.length x3.2.B : Int)) < x3.1)) = true then (some (0, (Reader.mk [] true))) else (some ((IntKind.i64.wrap x3.1), x3.2)))
theorem ints_Reader_Count_ok (a0 : Reader) {r : Int × Reader} (h : ints_Reader_Count a0 = some r) : Ok Tryz.prog 94 [.ptr 0 0 0] [[.sl 1 (List.map enc5 a0.B), .bool a0.Bad]] [] (.int .i64 r.1) [[.sl 1 (List.map enc5 r.2.B), .bool r.2.Bad]] [] := by
 refine oK Tryz.func94 rfl fun X => sr fun _ k1 => pP 2 asg<|en k1<|sr fun _ k2 => pP 4 mv<|bE h fun x3 y3 h => pD 5 (do_callG (bcs := [[.sl 1 (List.map enc5 a0.B), .bool a0.Bad]]) [(0, 0)] [] [] 5 false (ints_Reader_Wide_ok a0 y3) rfl ent147 ⟨R_, trivial⟩ trivial rfl rfl rfl rfl rfl rfl rfl rfl (.inl trivial))<|pP 3 asg<|en k2<|aw_seq_k fun _ k4 => sr fun _ k5 => pP 6 mv<|pP 7 mv<|pP 8 nk<|pP 9 (fa ty89 ty35)<|pX 10 (ld ty35)<|pP 11 (zl ty35)<|pP 12 (does_conv_int (v := .int .u64 (IntKind.u64.wrap (List.length x3.2.B : Int))) W_ (ty_some ty3) (ty_int ty60) rfl)<|pP 13 bi<|en k5<|wi 13 h (fun c6 h => ?_) fun c6 h => ?_
 ·refine sr fun _ k7 => pP 14 mv<|pP 15 mv<|pP 16 nk<|pP 17 (fa ty89 ty35)<|pZ (sto [.nil, .bool x3.2.Bad] ty35)<|pP 18 nk<|pP 19 (fa ty89 ty4)<|pZ (sto [.nil, .bool true] ty4)<|en k7<|sr fun _ k8 => pP 2 asg<|en k8<|aw_reb (reb_w (tl' := [(2, .int .i64 0)]) (ol' := [((0, 0), .box [.sl 1 (List.map enc5 []), .bool true])]) (ra (tl := [(2, .int .i64 0)]) (ol := [((0, 0), .box [.nil, .bool true])]) (nx := [(0, 1)]) [(0, 0)]) ⟨rfl, le_refl _, trivial⟩ ⟨rfl, (.box ⟨le_nil _, le_refl _, trivial⟩), trivial⟩)<|aw_ret<|by cases h;exact rB []
 ·refine aw_skip<|k4 _<|sr fun _ k9 => pP 20 mv<|pP 21 (does_conv_int (v := .int .i64 (IntKind.i64.wrap x3.1)) W_ (ty_some ty60) (ty_int ty3) rfl)<|pP 2 asg<|en k9<|aw_ret<|by cases h;exact rB []
def ints_Reader_Take_k1 (v18_1 : Bool) : Option (Unit ⊕ (List UInt8 × Reader)) :=
 if v18_1 = true then (some (Sum.inr ([], (Reader.mk [] true)))) else (some (Sum.inl ()))
def ints_Reader_Take_k0 (a0 : Reader) (a1 : Int) : Option (List UInt8 × Reader) :=
 gd (0 ≤ a1) (gd (a1 ≤ (List.length a0.B : Int)) (gd (0 ≤ a1) (gd (a1 ≤ (List.length a0.B : Int)) (some ((List.take (Int.toNat a1) a0.B), (Reader.mk (List.drop (Int.toNat a1) a0.B) a0.Bad))))))
def ints_Reader_Take (a0 : Reader) (a1 : Int) : Option (List UInt8 × Reader) :=
 Option.bind (Option.bind (if a0.Bad = true then (some true) else (some (decide ((List.length a0.B : Int) < a1)))) (fun (s : Bool) => ints_Reader_Take_k1 s)) (Sum.elim (fun (s : Unit) => ints_Reader_Take_k0 a0 a1) some)
theorem ints_Reader_Take_ok (a0 : Reader) (a1 : Int) {r : List UInt8 × Reader} (h : ints_Reader_Take a0 a1 = some r) : Ok Tryz.prog 93 [.ptr 0 0 0, .int .i64 a1] [[.sl 1 (List.map enc5 a0.B), .bool a0.Bad]] [] (.sl 1 (List.map enc5 r.1)) [[.sl 1 (List.map enc5 r.2.B), .bool r.2.Bad]] [] := by
 refine oK Tryz.func93 rfl fun X => sr fun _ k1 => pP 4 asg<|en k1<|bE h fun q2 h hk3 => aw_cut (fun s => ints_Reader_Take_k0 a0 a1 = some r ∧ s = lit [(0, .ptr 0 0 0), (1, .int .i64 a1)] [((0, 0), .box [.sl 1 (List.map enc5 a0.B), .bool a0.Bad])] [(0, 1)] X) ?_ ?_
 ·skip
  refine bE h fun q4 h hk5 => aw_cut (fun s => ∃ (v18_1 : Bool), ints_Reader_Take_k1 v18_1 = some q2 ∧ s = lit [(0, .ptr 0 0 0), (1, .int .i64 a1), (18, .bool v18_1)] [((0, 0), .box [.sl 1 (List.map enc5 a0.B), .bool a0.Bad])] [(0, 1)] X) ?_ ?_
  ·skip
   refine aw_regL<|pP 6 mv<|pP 7 nk<|pP 8 (fa ty89 ty4)<|pX 9 (ld ty4)<|pP 10 mv<|li 10 h (fun c6 h => ?_) fun c6 h => ?_
   ·refine pS 11<|pS 12<|pS 13<|pS 14<|pS 15<|pS 16<|pS 17<|pP 18 pc<|al_nil<|?_
    obtain rfl := Option.some.inj h
    have h := hk5
    exact ⟨_, ra [(0, 0)], true, h, rfl⟩
   ·refine pP 11 mv<|pP 12 mv<|pP 13 nk<|pP 14 (fa ty89 ty35)<|pX 15 (ld ty35)<|pP 16 (zl ty35)<|pP 17 bi<|pP 18 pc<|al_nil<|?_
    obtain rfl := Option.some.inj h
    have h := hk5
    exact ⟨_, ra [(0, 0)], (decide ((List.length a0.B : Int) < a1)), h, rfl⟩
  ·rintro s ⟨v18_1, h, rfl⟩
   refine wi 18 h (fun c7 h => ?_) fun c7 h => ?_
   ·refine sr fun _ k8 => pP 19 mv<|pP 20 mv<|pP 21 nk<|pP 22 (fa ty89 ty35)<|pZ (sto [.nil, .bool a0.Bad] ty35)<|pP 23 nk<|pP 24 (fa ty89 ty4)<|pZ (sto [.nil, .bool true] ty4)<|en k8<|sr fun _ k9 => pP 4 asg<|en k9<|aw_reb (reb_w (tl' := [(4, .sl 1 (List.map enc5 []))]) (ol' := [((0, 0), .box [.sl 1 (List.map enc5 []), .bool true])]) (ra (tl := [(4, .nil)]) (ol := [((0, 0), .box [.nil, .bool true])]) (nx := [(0, 1)]) [(0, 0)]) ⟨rfl, (le_nil _), trivial⟩ ⟨rfl, (.box ⟨le_nil _, le_refl _, trivial⟩), trivial⟩)<|aw_ret<|by cases leafR h hk3;exact rB []
   ·refine aw_skip<|tk (leafL h hk3) fun h => ?_
    exact ⟨_, ra [(0, 0)], h, rfl⟩
 ·rintro s ⟨h, rfl⟩
  refine sr fun _ k10 => pP 25 mv<|pP 26 nk<|pP 27 (fa ty89 ty35)<|pX 28 (ld ty35)<|pP 29 mv<|gE h fun g11 h => gE h fun g12 h => pP 30 (does_slice_sl (l := 0) (k := (Int.toNat a1)) W_ ty35 ty5 bd_none (bd_some W_ (by exact (nat_of (by omega)))) (by (try simp only [List.length_map]); omega) (by (try simp only [List.length_map]); omega) (by exact part_h _ _))<|pP 5 asg<|en k10<|sr fun _ k13 => pP 31 mv<|pP 32 mv<|pP 33 nk<|pP 34 (fa ty89 ty35)<|pX 35 (ld ty35)<|pP 36 mv<|gE h fun g14 h => gE h fun g15 h => pP 37 (does_slice_sl (l := (Int.toNat a1)) W_ ty35 ty5 (bd_some W_ (by exact (nat_of g14))) bd_none (by (try simp only [List.length_map]); omega) (by (try simp only [List.length_map]); omega) (by exact part_l _ _))<|pP 38 nk<|pP 39 (fa ty89 ty35)<|pZ (sto [.sl 1 (List.map enc5 (List.drop (Int.toNat a1) a0.B)), .bool a0.Bad] ty35)<|en k13<|sr fun _ k16 => pP 40 mv<|pP 4 asg<|en k16<|aw_ret<|by cases h;exact rB []
def ints_Reader_Text (a0 : Reader) : Option (ByteArray × Reader) :=
 Option.bind (ints_Reader_Count a0) (fun (x3 : Int × Reader) => Option.bind (ints_Reader_Take x3.2 x3.1) (fun (x4 : List UInt8 × Reader) => some ((strOf x4.1), x4.2)))
theorem ints_Reader_Text_ok (a0 : Reader) {r : ByteArray × Reader} (h : ints_Reader_Text a0 = some r) : Ok Tryz.prog 150 [.ptr 0 0 0] [[.sl 1 (List.map enc5 a0.B), .bool a0.Bad]] [] (.str r.1) [[.sl 1 (List.map enc5 r.2.B), .bool r.2.Bad]] [] := by
 refine oK Tryz.func150 rfl fun X => sr fun _ k1 => pP 2 asg<|en k1<|sr fun _ k2 => pP 3 mv<|pP 4 mv<|bE h fun x3 y3 h => pD 5 (do_callG (bcs := [[.sl 1 (List.map enc5 a0.B), .bool a0.Bad]]) [(0, 0)] [] [] 5 false (ints_Reader_Count_ok a0 y3) rfl ent94 ⟨R_, trivial⟩ trivial rfl rfl rfl rfl rfl rfl rfl rfl (.inl trivial))<|bE h fun x4 y4 h => pD 6 (do_callG (bcs := [[.sl 1 (List.map enc5 x3.2.B), .bool x3.2.Bad]]) [(0, 0)] [] [] 6 false (ints_Reader_Take_ok x3.2 x3.1 y4) rfl ent93 ⟨R_, trivial⟩ trivial rfl rfl rfl rfl rfl rfl rfl rfl (.inl trivial))<|pX 7 (does_bytes_str (l := x4.1) (f := enc5) W_ W_ (Nat.le_refl 1) (ty_slice ty35) (ty_int ty5) (ty_str ty9) (fun _ => rfl))<|pP 2 asg<|en k2<|aw_ret<|by cases h;exact rB []
def ints_Reader_Num (a0 : Reader) (a1 : Int) : Option (Int × Reader) :=
 Option.bind (ints_Reader_Wide a0) (fun (x3 : Int × Reader) => if (decide ((IntKind.u64.wrap a1) < x3.1)) = true then (some (0, (Reader.mk [] true))) else (some ((IntKind.i64.wrap x3.1), x3.2)))
theorem ints_Reader_Num_ok (a0 : Reader) (a1 : Int) {r : Int × Reader} (h : ints_Reader_Num a0 a1 = some r) : Ok Tryz.prog 91 [.ptr 0 0 0, .int .i64 a1] [[.sl 1 (List.map enc5 a0.B), .bool a0.Bad]] [] (.int .i64 r.1) [[.sl 1 (List.map enc5 r.2.B), .bool r.2.Bad]] [] := by
 refine oK Tryz.func91 rfl fun X => sr fun _ k1 => pP 4 asg<|en k1<|sr fun _ k2 => pP 6 mv<|bE h fun x3 y3 h => pD 7 (do_callG (bcs := [[.sl 1 (List.map enc5 a0.B), .bool a0.Bad]]) [(0, 0)] [] [] 7 false (ints_Reader_Wide_ok a0 y3) rfl ent147 ⟨R_, trivial⟩ trivial rfl rfl rfl rfl rfl rfl rfl rfl (.inl trivial))<|pP 5 asg<|en k2<|aw_seq_k fun _ k4 => sr fun _ k5 => pP 8 mv<|pP 9 mv<|pP 10 (does_conv_int (v := .int .u64 (IntKind.u64.wrap a1)) W_ (ty_some ty3) (ty_int ty60) rfl)<|pP 11 bi<|en k5<|wi 11 h (fun c6 h => ?_) fun c6 h => ?_
 ·refine sr fun _ k7 => pP 12 mv<|pP 13 mv<|pP 14 nk<|pP 15 (fa ty89 ty35)<|pZ (sto [.nil, .bool x3.2.Bad] ty35)<|pP 16 nk<|pP 17 (fa ty89 ty4)<|pZ (sto [.nil, .bool true] ty4)<|en k7<|sr fun _ k8 => pP 4 asg<|en k8<|aw_reb (reb_w (tl' := [(4, .int .i64 0)]) (ol' := [((0, 0), .box [.sl 1 (List.map enc5 []), .bool true])]) (ra (tl := [(4, .int .i64 0)]) (ol := [((0, 0), .box [.nil, .bool true])]) (nx := [(0, 1)]) [(0, 0)]) ⟨rfl, le_refl _, trivial⟩ ⟨rfl, (.box ⟨le_nil _, le_refl _, trivial⟩), trivial⟩)<|aw_ret<|by cases h;exact rB []
 ·refine aw_skip<|k4 _<|sr fun _ k9 => pP 18 mv<|pP 19 (does_conv_int (v := .int .i64 (IntKind.i64.wrap x3.1)) W_ (ty_some ty60) (ty_int ty3) rfl)<|pP 4 asg<|en k9<|aw_ret<|by cases h;exact rB []
def ints_Reader_Flag (a0 : Reader) : Option (Bool × Reader) :=
 Option.bind (ints_Reader_Num a0 1) (fun (x3 : Int × Reader) => some ((x3.1 == 1), x3.2))
theorem ints_Reader_Flag_ok (a0 : Reader) {r : Bool × Reader} (h : ints_Reader_Flag a0 = some r) : Ok Tryz.prog 102 [.ptr 0 0 0] [[.sl 1 (List.map enc5 a0.B), .bool a0.Bad]] [] (.bool r.1) [[.sl 1 (List.map enc5 r.2.B), .bool r.2.Bad]] [] := by
 refine oK Tryz.func102 rfl fun X => sr fun _ k1 => pP 2 asg<|en k1<|sr fun _ k2 => pP 3 mv<|bE h fun x3 y3 h => pD 4 (do_callG (bcs := [[.sl 1 (List.map enc5 a0.B), .bool a0.Bad]]) [(0, 0)] [] [] 4 false (ints_Reader_Num_ok a0 1 y3) rfl ent91 ⟨R_, trivial⟩ trivial rfl rfl rfl rfl rfl rfl rfl rfl (.inl trivial))<|pP 5 bi<|pP 2 asg<|en k2<|aw_ret<|by cases h;exact rB []
end Go.Proofs.YtjklegmimpehlaaGreat.Ab
