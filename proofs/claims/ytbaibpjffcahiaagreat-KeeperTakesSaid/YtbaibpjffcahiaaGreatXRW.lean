/- What writes numbers and texts. -/
import Derived.Test.YtbaibpjffcahiaaGreatAbOps21
import Derived.Test.YtbaibpjffcahiaaGreatProg
namespace Go.Proofs.YtbaibpjffcahiaaGreat.Ab
open Go Go.RowKit
set_option linter.unusedVariables false
set_option linter.unusedSimpArgs false
set_option maxRecDepth 100000
set_option maxHeartbeats 8000000
def enc5 (c : UInt8) : PV := .int .u8 (c.toNat : Int)
theorem ty5 : tyOf Tryz.prog 5 = some ⟨.int .u8, 1, 1, [.int .u8 0]⟩ := by kernel_rfl
theorem ty46 : tyOf Tryz.prog 46 = some ⟨.slice 5, 1, 24, [.nil]⟩ := by kernel_rfl
theorem ty63 : tyOf Tryz.prog 63 = some ⟨.int .u64, 1, 8, [.int .u64 0]⟩ := by kernel_rfl
def ints_Get_k3 (a0 : List UInt8) (v5_0 : Int) (v6_0 : Int) (x17 : UInt8) (v36_3 : Bool) : Option ((Int × Int) ⊕ (Int × Int × Bool)) :=
 if v36_3 = true then (some (Sum.inr (0, 0, false))) else (gd (0 ≤ v6_0) (Option.bind (a0[(Int.toNat v6_0)]?) (fun (x35 : UInt8) => if (decide ((x35.toNat : Int) < 128)) = true then (some (Sum.inr ((bits .or .u64 v5_0 (IntKind.u64.wrap ((IntKind.u64.wrap ((u8 (bits .andNot .u8 (x17.toNat : Int) 128)).toNat : Int)) * 2 ^ (min (Int.toNat (IntKind.i64.wrap (7 * v6_0))) (IntKind.bits .u64))))), (IntKind.i64.wrap (v6_0 + 1)), true))) else (some (Sum.inl ((bits .or .u64 v5_0 (IntKind.u64.wrap ((IntKind.u64.wrap ((u8 (bits .andNot .u8 (x17.toNat : Int) 128)).toNat : Int)) * 2 ^ (min (Int.toNat (IntKind.i64.wrap (7 * v6_0))) (IntKind.bits .u64))))), (IntKind.i64.wrap (v6_0 + 1))))))))
def ints_Get_k2 (a0 : List UInt8) (v5_0 : Int) (v6_0 : Int) (x17 : UInt8) : Option ((Int × Int) ⊕ (Int × Int × Bool)) :=
 gd (¬ (IntKind.i64.wrap (7 * v6_0)) < 0) (Option.bind (gd (0 ≤ v6_0) (Option.bind (a0[(Int.toNat v6_0)]?) (fun (x29 : UInt8) => if ((x29.toNat : Int) == 0) = true then (some (decide ((0 : Int) < v6_0))) else (some false)))) (fun (s : Bool) => ints_Get_k3 a0 v5_0 v6_0 x17 s))
def ints_Get_k1 (a0 : List UInt8) (v5_0 : Int) (v6_0 : Int) : Option ((Int × Int) ⊕ (Int × Int × Bool)) :=
 gd (0 ≤ v6_0) (Option.bind (a0[(Int.toNat v6_0)]?) (fun (x17 : UInt8) => Option.bind (if (v6_0 == 9) = true then (if (decide ((1 : Int) < (IntKind.u64.wrap ((u8 (bits .andNot .u8 (x17.toNat : Int) 128)).toNat : Int)))) = true then (some (Sum.inr (Sum.inr (0, 0, false)))) else (some (Sum.inl ()))) else (some (Sum.inl ()))) (Sum.elim (fun (s : Unit) => ints_Get_k2 a0 v5_0 v6_0 x17) some)))
def ints_Get_l0 (a0 : List UInt8) (v5_0 : Int) (v6_0 : Int) : Option ((Int × Int) ⊕ (Int × Int × Bool)) :=
 Option.bind (if (decide (v6_0 < (List.length a0 : Int))) = true then (if (decide (v6_0 < 10)) = true then (some (Sum.inl ())) else (some (Sum.inr (Sum.inr (0, 0, false))))) else (some (Sum.inr (Sum.inr (0, 0, false))))) (Sum.elim (fun (s : Unit) => ints_Get_k1 a0 v5_0 v6_0) some)
def ints_Get (a0 : List UInt8) : Option (Int × Int × Bool) :=
 loopN (fun (s : Int × Int) => ints_Get_l0 a0 s.1 s.2) Fu (0, 0)
theorem ints_Get_ok (a0 : List UInt8) {r : Int × Int × Bool} (h : ints_Get a0 = some r) : Ok Tryz.prog 97 [.sl 1 (List.map enc5 a0)] [] [] (.tup [.int .u64 r.1, .int .i64 r.2.1, .bool r.2.2]) [] [] := by
 unfold ints_Get at h
 refine oK Tryz.func97 rfl fun X => sr fun _ k1 => pP 2 asg<|pP 3 asg<|pP 4 asg<|en k1<|sr fun _ k2 => pP 5 asg<|en k2<|aw_seq_k fun _ k3 => sr fun _ k4 => pP 6 asg<|en k4<|aw_block<|aw_loop' (fun m s => ∃ (v5_0 : Int), ∃ (v6_0 : Int), loopN (fun (s : Int × Int) => ints_Get_l0 a0 s.1 s.2) m (v5_0, v6_0) = some r ∧ s = lit [(0, .sl 1 (List.map enc5 a0)), (5, .int .u64 v5_0), (6, .int .i64 v6_0)] [] [] X) Fu
  ⟨_, ra [], 0, 0, h, rfl⟩ ?_
 rintro m s ⟨v5_0, v6_0, h, rfl⟩
 obtain ⟨m0, q5, rfl, h, hq6⟩ := loop_some h
 replace h : ints_Get_l0 a0 v5_0 v6_0 = some q5 := h
 refine bE h fun q7 h hk8 => aw_cut (fun s => ints_Get_k1 a0 v5_0 v6_0 = some q5 ∧ s = lit [(0, .sl 1 (List.map enc5 a0)), (5, .int .u64 v5_0), (6, .int .i64 v6_0)] [] [] X) ?_ ?_
 ·skip
  refine sr fun _ k9 => pP 8 mv<|pP 9 mv<|pP 10 (zl ty46)<|pP 11 bi<|pP 12 mv<|li 12 h (fun c10 h => ?_) fun c10 h => ?_
  ·refine pP 13 mv<|pP 14 bi<|pP 15 pc<|en k9<|wi 15 h (fun c11 h => ?_) fun c11 h => ?_
   ·refine aw_skip<|tk (leafL h hk8) fun h => ?_
    exact ⟨_, ra [], h, rfl⟩
   ·refine aw_exit<|tk (leafR h hk8) fun h => tk (leafR h hq6) fun h => k3 _<|sr fun _ k12 => pP 2 asg<|pP 3 asg<|pP 4 asg<|en k12<|aw_ret<|by cases h;exact rk
  ·refine pS 13<|pS 14<|pP 15 pc<|en k9<|aw_cond_f D_ rfl<|aw_exit<|tk (leafR h hk8) fun h => tk (leafR h hq6) fun h => k3 _<|sr fun _ k13 => pP 2 asg<|pP 3 asg<|pP 4 asg<|en k13<|aw_ret<|by cases h;exact rk
 ·rintro s ⟨h, rfl⟩
  refine aw_seq_k fun _ k14 => aw_block<|sr fun _ k15 => pP 18 mv<|pP 19 mv<|gE h fun g16 h => bE h fun x17 y17 h => pP 20 (ia ty46 ty5 g16 y17)<|pX 21 (ld ty5)<|pP 22 ((does_bin (v := .int .u8 (bits .andNot .u8 (x17.toNat : Int) 128)) W_ W_ rfl).castp (v' := .int .u8 ((u8 (bits .andNot .u8 (x17.toNat : Int) 128)).toNat : Int)) (by exact congrArg _ (u8_eq (u8_bits _ _ _))))<|pP 23 (does_conv_int (v := .int .u64 (IntKind.u64.wrap ((u8 (bits .andNot .u8 (x17.toNat : Int) 128)).toNat : Int))) W_ (ty_some ty5) (ty_int ty63) rfl)<|pP 7 asg<|en k15<|bE h fun q18 h hk19 => aw_cut (fun s => ints_Get_k2 a0 v5_0 v6_0 x17 = some q5 ∧ s = lit [(0, .sl 1 (List.map enc5 a0)), (5, .int .u64 v5_0), (6, .int .i64 v6_0), (7, .int .u64 (IntKind.u64.wrap ((u8 (bits .andNot .u8 (x17.toNat : Int) 128)).toNat : Int)))] [] [] X) ?_ ?_
  ·skip
   refine sr fun _ k20 => pP 24 mv<|pP 25 bi<|pP 26 mv<|li 26 h (fun c21 h => ?_) fun c21 h => ?_
   ·refine pP 27 mv<|pP 28 bi<|pP 29 pc<|en k20<|wi 29 h (fun c22 h => ?_) fun c22 h => ?_
    ·refine sr fun _ k23 => pP 2 asg<|pP 3 asg<|pP 4 asg<|en k23<|aw_ret<|tk (leafR h hk19) fun h => by cases leafR h hq6;exact rk
    ·refine aw_skip<|tk (leafL h hk19) fun h => ?_
     exact ⟨_, ra [], h, rfl⟩
   ·refine pS 27<|pS 28<|pP 29 pc<|en k20<|aw_cond_f D_ rfl<|aw_skip<|tk (leafL h hk19) fun h => ?_
    exact ⟨_, ra [], h, rfl⟩
  ·rintro s ⟨h, rfl⟩
   refine sr fun _ k24 => pP 30 mv<|pP 31 mv<|pP 32 mv<|pP 33 bi<|gE h fun g25 h => pP 34 (does_bin (v := .int .u64 (IntKind.u64.wrap ((IntKind.u64.wrap ((u8 (bits .andNot .u8 (x17.toNat : Int) 128)).toNat : Int)) * 2 ^ (min (Int.toNat (IntKind.i64.wrap (7 * v6_0))) (IntKind.bits .u64))))) W_ W_ (shl_hv g25))<|pP 35 bi<|pP 5 asg<|en k24<|aw_block<|bE h fun q26 h hk27 => aw_cut (fun s => ∃ (v36_3 : Bool), ints_Get_k3 a0 v5_0 v6_0 x17 v36_3 = some q5 ∧ s = lit [(0, .sl 1 (List.map enc5 a0)), (5, .int .u64 (bits .or .u64 v5_0 (IntKind.u64.wrap ((IntKind.u64.wrap ((u8 (bits .andNot .u8 (x17.toNat : Int) 128)).toNat : Int)) * 2 ^ (min (Int.toNat (IntKind.i64.wrap (7 * v6_0))) (IntKind.bits .u64)))))), (6, .int .i64 v6_0), (36, .bool v36_3)] [] [] X) ?_ ?_
   ·skip
    refine aw_regL<|pP 37 mv<|pP 38 mv<|gE h fun g28 h => bE h fun x29 y29 h => pP 39 (ia ty46 ty5 g28 y29)<|pX 40 (ld ty5)<|pP 41 bi<|pP 42 mv<|li 42 h (fun c30 h => ?_) fun c30 h => ?_
    ·refine pP 43 mv<|pP 44 bi<|pP 45 pc<|pP 36 asg<|al_nil<|?_
     obtain rfl := Option.some.inj h
     have h := hk27
     exact ⟨_, ra [], (decide ((0 : Int) < v6_0)), h, rfl⟩
    ·refine pS 43<|pS 44<|pP 45 pc<|pP 36 asg<|al_nil<|?_
     obtain rfl := Option.some.inj h
     have h := hk27
     exact ⟨_, ra [], false, h, rfl⟩
   ·rintro s ⟨v36_3, h, rfl⟩
    refine wi 36 h (fun c31 h => ?_) fun c31 h => ?_
    ·refine sr fun _ k32 => pP 2 asg<|pP 3 asg<|pP 4 asg<|en k32<|aw_ret<|by cases leafR h hq6;exact rk
    ·refine sr fun _ k33 => pP 47 mv<|pP 48 mv<|gE h fun g34 h => bE h fun x35 y35 h => pP 49 (ia ty46 ty5 g34 y35)<|pX 50 (ld ty5)<|pP 51 bi<|pP 46 asg<|en k33<|wi 46 h (fun c36 h => ?_) fun c36 h => ?_
     ·refine sr fun _ k37 => pP 52 mv<|pP 53 mv<|pP 54 bi<|pP 2 asg<|pP 3 asg<|pP 4 asg<|en k37<|aw_ret<|by cases leafR h hq6;exact rk
     ·refine aw_skip<|k14 _<|aw_regL<|pP 16 mv<|pP 17 bi<|pP 6 asg<|al_nil<|bk (ra []) ⟨(bits .or .u64 v5_0 (IntKind.u64.wrap ((IntKind.u64.wrap ((u8 (bits .andNot .u8 (x17.toNat : Int) 128)).toNat : Int)) * 2 ^ (min (Int.toNat (IntKind.i64.wrap (7 * v6_0))) (IntKind.bits .u64))))), (IntKind.i64.wrap (v6_0 + 1)), leafL h hq6, rfl⟩
def ints_Put_l1 (v1_1 : Int) (v5_s_1 : List UInt8) : Option ((Int × List UInt8) ⊕ (Int × List UInt8)) :=
 if (decide ((128 : Int) ≤ v1_1)) = true then (gd ((List.length (v5_s_1 ++ [(u8 (bits .or .u8 ((u8 (IntKind.u8.wrap v1_1)).toNat : Int) 128))])) * 1 ≤ 140737488355328 ∧ (List.length (v5_s_1 ++ [(u8 (bits .or .u8 ((u8 (IntKind.u8.wrap v1_1)).toNat : Int) 128))])) ≤ 140737488355328) (some (Sum.inl ((Int.fdiv v1_1 (2 ^ (min (Int.toNat 7) (IntKind.bits .u64)))), (v5_s_1 ++ [(u8 (bits .or .u8 ((u8 (IntKind.u8.wrap v1_1)).toNat : Int) 128))]))))) else (some (Sum.inr (v1_1, v5_s_1)))
def ints_Put_k0 (v1_0 : Int) (v5_s_0 : List UInt8) : Option (List UInt8) :=
 gd ((List.length (v5_s_0 ++ [(u8 (IntKind.u8.wrap v1_0))])) * 1 ≤ 140737488355328 ∧ (List.length (v5_s_0 ++ [(u8 (IntKind.u8.wrap v1_0))])) ≤ 140737488355328) (some (v5_s_0 ++ [(u8 (IntKind.u8.wrap v1_0))]))
def ints_Put (a0 : List UInt8) (a1 : Int) : Option (List UInt8) :=
 gd ((List.length a0) * 1 ≤ 140737488355328 ∧ (List.length a0) ≤ 140737488355328) (Option.bind (loopN (fun (s : Int × List UInt8) => ints_Put_l1 s.1 s.2) Fu (a1, a0)) (fun (s : Int × List UInt8) => ints_Put_k0 s.1 s.2))
theorem ints_Put_ok (a0 : List UInt8) (a1 : Int) {r : List UInt8} (h : ints_Put a0 a1 = some r) : Ok Tryz.prog 22 [.sl 1 (List.map enc5 a0), .int .u64 a1] [] [] (.own 2 0) [] [(5, 1, List.map enc5 r)] := by
 refine oK Tryz.func22 rfl fun X => sr fun _ k1 => pP 4 asg<|en k1<|sr fun _ k2 => pP 6 mv<|gE h fun g3 h => pD 7 (do_append (v := List.map enc5 a0) W_ W_ ty46 ty5 rfl rfl W_ (by first | exact .inl rfl | exact .inr ⟨rfl, rfl⟩) W_ (by first | exact .inr rfl | exact .inl rfl) (List.nil_append _) (fit_map g3))<|pP 5 asg<|en k2<|bE h fun q4 h hk5 => aw_cut (fun s => ∃ (v1_0 : Int), ∃ (v5_s_0 : List UInt8), ints_Put_k0 v1_0 v5_s_0 = some r ∧ s = lit [(1, .int .u64 v1_0), (5, .own 7 0)] [((7, 0), .arr 5 1 false (List.map enc5 v5_s_0))] [(7, 1)] X) ?_ ?_
 ·skip
  refine aw_block<|aw_loop' (fun m s => ∃ (v1_1 : Int), ∃ (v5_s_1 : List UInt8), loopN (fun (s : Int × List UInt8) => ints_Put_l1 s.1 s.2) m (v1_1, v5_s_1) = some q4 ∧ s = lit [(1, .int .u64 v1_1), (5, .own 7 0)] [((7, 0), .arr 5 1 false (List.map enc5 v5_s_1))] [(7, 1)] X) Fu
   ⟨_, ra [(7, 0)], a1, a0, h, rfl⟩ ?_
  rintro m s ⟨v1_1, v5_s_1, h, rfl⟩
  obtain ⟨m1, q6, rfl, h, hq7⟩ := loop_some h
  replace h : ints_Put_l1 v1_1 v5_s_1 = some q6 := h
  refine aw_seq_k fun _ k8 => sr fun _ k9 => pP 8 mv<|pP 9 bi<|en k9<|wi 9 h (fun c10 h => ?_) fun c10 h => ?_
  ·refine aw_skip<|k8 _<|aw_seq_k fun _ k11 => aw_block<|aw_regL<|pP 12 mv<|pP 13 mv<|pP 14 ((does_conv_int (v := .int .u8 (IntKind.u8.wrap v1_1)) W_ (ty_some ty63) (ty_int ty5) rfl).castp (v' := .int .u8 ((u8 (IntKind.u8.wrap v1_1)).toNat : Int)) (by exact congrArg _ (u8_eq (u8_wrap _))))<|pP 15 ((does_bin (v := .int .u8 (bits .or .u8 ((u8 (IntKind.u8.wrap v1_1)).toNat : Int) 128)) W_ W_ rfl).castp (v' := .int .u8 ((u8 (bits .or .u8 ((u8 (IntKind.u8.wrap v1_1)).toNat : Int) 128)).toNat : Int)) (by exact congrArg _ (u8_eq (u8_bits _ _ _))))<|pD 16 (bs (List.map enc5 [(u8 (bits .or .u8 ((u8 (IntKind.u8.wrap v1_1)).toNat : Int) 128))]) ty46 ty5 rfl)<|gE h fun g12 h => pD 17 (do_append (v := List.map enc5 (v5_s_1 ++ [(u8 (bits .or .u8 ((u8 (IntKind.u8.wrap v1_1)).toNat : Int) 128))])) W_ W_ ty46 ty5 rfl rfl W_ (by first | exact .inl rfl | exact .inr ⟨rfl, rfl⟩) W_ (by first | exact .inr rfl | exact .inl rfl) (map_app _ _) (fit_map g12))<|pP 5 asg<|en k11<|aw_regL<|pP 10 mv<|pP 11 bi<|pP 1 asg<|al_nil<|bk (ra [(17, 0)]) ⟨(Int.fdiv v1_1 (2 ^ (min (Int.toNat 7) (IntKind.bits .u64)))), (v5_s_1 ++ [(u8 (bits .or .u8 ((u8 (IntKind.u8.wrap v1_1)).toNat : Int) 128))]), leafL h hq7, rfl⟩
  ·refine aw_exit<|tk (leafR h hq7) fun h => ?_
   obtain rfl := Option.some.inj h
   have h := hk5
   exact ⟨_, ra [(7, 0)], v1_1, v5_s_1, h, rfl⟩
 ·rintro s ⟨v1_0, v5_s_0, h, rfl⟩
  refine sr fun _ k13 => pP 18 mv<|pP 19 mv<|pP 20 ((does_conv_int (v := .int .u8 (IntKind.u8.wrap v1_0)) W_ (ty_some ty63) (ty_int ty5) rfl).castp (v' := .int .u8 ((u8 (IntKind.u8.wrap v1_0)).toNat : Int)) (by exact congrArg _ (u8_eq (u8_wrap _))))<|pD 21 (bs (List.map enc5 [(u8 (IntKind.u8.wrap v1_0))]) ty46 ty5 rfl)<|gE h fun g14 h => pD 22 (do_append (v := List.map enc5 (v5_s_0 ++ [(u8 (IntKind.u8.wrap v1_0))])) W_ W_ ty46 ty5 rfl rfl W_ (by first | exact .inl rfl | exact .inr ⟨rfl, rfl⟩) W_ (by first | exact .inr rfl | exact .inl rfl) (map_app _ _) (fit_map g14))<|pP 4 asg<|en k13<|aw_ret<|by cases h;exact rB [(22, 0)]
end Go.Proofs.YtbaibpjffcahiaaGreat.Ab
namespace Go.Proofs.YtbaibpjffcahiaaGreat.Ab
open Go Go.RowKit
set_option linter.unusedVariables false
set_option linter.unusedSimpArgs false
set_option maxRecDepth 100000
set_option maxHeartbeats 8000000
structure Writer where
  B : List UInt8
  deriving DecidableEq
def enc9 (x : ByteArray) : PV := .str x
def enc2 (x : Int) : PV := .int .i64 x
def enc12 (x : Int) : PV := .int .u64 x
theorem ty3 : tyOf Tryz.prog 3 = some ⟨.int .i64, 1, 8, [.int .i64 0]⟩ := by kernel_rfl
theorem ty9 : tyOf Tryz.prog 9 = some ⟨.str, 1, 16, [.str ByteArray.empty]⟩ := by kernel_rfl
theorem ty55 : tyOf Tryz.prog 55 = some ⟨.slice 3, 1, 24, [.nil]⟩ := by kernel_rfl
theorem ty121 : tyOf Tryz.prog 121 = some ⟨.struct [(0, 46)], 1, 24, [.nil]⟩ := by kernel_rfl
theorem ty170 : tyOf Tryz.prog 170 = some ⟨.slice 63, 1, 24, [.nil]⟩ := by kernel_rfl
theorem ty171 : tyOf Tryz.prog 171 = some ⟨.slice 9, 1, 24, [.nil]⟩ := by kernel_rfl
theorem zr5 : (Tryz.prog.info? 5).bind (·.zero) = some (.int .u8 0) := by kernel_rfl
theorem ent56 : Ent Tryz.prog 56 := eN Tryz.func56
theorem ent85 : Ent Tryz.prog 85 := eN Tryz.func85
def ints_Writer_Wide_l2 (vb0_s_0_s_2 : List UInt8) (v5_2 : Int) : Option ((List UInt8 × Int) ⊕ (List UInt8 × Int)) :=
 if (decide ((128 : Int) ≤ v5_2)) = true then (gd ((List.length (vb0_s_0_s_2 ++ [(u8 (bits .or .u8 ((u8 (IntKind.u8.wrap v5_2)).toNat : Int) 128))])) * 1 ≤ 140737488355328 ∧ (List.length (vb0_s_0_s_2 ++ [(u8 (bits .or .u8 ((u8 (IntKind.u8.wrap v5_2)).toNat : Int) 128))])) ≤ 140737488355328) (some (Sum.inl ((vb0_s_0_s_2 ++ [(u8 (bits .or .u8 ((u8 (IntKind.u8.wrap v5_2)).toNat : Int) 128))]), (Int.fdiv v5_2 (2 ^ (min (Int.toNat 7) (IntKind.bits .u64)))))))) else (some (Sum.inr (vb0_s_0_s_2, v5_2)))
def ints_Writer_Wide_k1 (v8_0 : Int) (vb0_s_0_s_1 : List UInt8) (v5_1 : Int) : Option ((List UInt8 × Int) ⊕ Writer) :=
 gd ((List.length (vb0_s_0_s_1 ++ [(u8 (IntKind.u8.wrap v5_1))])) * 1 ≤ 140737488355328 ∧ (List.length (vb0_s_0_s_1 ++ [(u8 (IntKind.u8.wrap v5_1))])) ≤ 140737488355328) (some (Sum.inl ((vb0_s_0_s_1 ++ [(u8 (IntKind.u8.wrap v5_1))]), (IntKind.i64.wrap (v8_0 + 1)))))
def ints_Writer_Wide_l0 (a1 : List Int) (vb0_s_0_s_0 : List UInt8) (v8_0 : Int) : Option ((List UInt8 × Int) ⊕ Writer) :=
 if (decide (v8_0 < (List.length a1 : Int))) = true then (gd (0 ≤ v8_0) (Option.bind (a1[(Int.toNat v8_0)]?) (fun (x10 : Int) => Option.bind (loopN (fun (s : List UInt8 × Int) => ints_Writer_Wide_l2 s.1 s.2) Fu (vb0_s_0_s_0, x10)) (fun (s : List UInt8 × Int) => ints_Writer_Wide_k1 v8_0 s.1 s.2)))) else (some (Sum.inr (Writer.mk vb0_s_0_s_0)))
def ints_Writer_Wide (a0 : Writer) (a1 : List Int) : Option Writer :=
 loopN (fun (s : List UInt8 × Int) => ints_Writer_Wide_l0 a1 s.1 s.2) Fu (a0.B, 0)
theorem ints_Writer_Wide_ok (a0 : Writer) (a1 : List Int) {r : Writer} (h : ints_Writer_Wide a0 a1 = some r) : Ok Tryz.prog 85 [.ptr 0 0 0, .sl 1 (List.map enc12 a1)] [[.own 1 0]] [(5, 1, List.map enc5 a0.B)] (.tup []) [[.own 2 0]] [(5, 1, List.map enc5 r.B)] := by
 unfold ints_Writer_Wide at h
 refine oK Tryz.func85 rfl fun X => sr fun _ k1 => pP 6 mv<|pP 7 (zl ty170)<|pP 8 mv<|en k1<|aw_block<|aw_loop' (fun m s => ∃ (vb0_s_0_s_0 : List UInt8), ∃ (v8_0 : Int), loopN (fun (s : List UInt8 × Int) => ints_Writer_Wide_l0 a1 s.1 s.2) m (vb0_s_0_s_0, v8_0) = some r ∧ s = lit [(0, .ptr 0 0 0), (6, .sl 1 (List.map enc12 a1)), (7, .int .i64 (List.length a1 : Int)), (8, .int .i64 v8_0)] [((0, 0), .box [.own 1 0]), ((1, 0), .arr 5 1 false (List.map enc5 vb0_s_0_s_0))] [(0, 1), (1, 1)] X) Fu
  ⟨_, ra [(0, 0), (1, 0)], a0.B, 0, h, rfl⟩ ?_
 rintro m s ⟨vb0_s_0_s_0, v8_0, h, rfl⟩
 obtain ⟨m0, q2, rfl, h, hq3⟩ := loop_some h
 replace h : ints_Writer_Wide_l0 a1 vb0_s_0_s_0 v8_0 = some q2 := h
 refine sr fun _ k4 => pP 9 bi<|en k4<|aw_seq_k fun _ k5 => wi 9 h (fun c6 h => ?_) fun c6 h => ?_
 ·refine aw_skip<|k5 _<|aw_seq_k fun _ k7 => aw_block<|sr fun _ k8 => gE h fun g9 h => bE h fun x10 y10 h => pP 10 (ia ty170 ty63 g9 y10)<|pX 11 (ld ty63)<|pP 5 asg<|en k8<|bE h fun q11 h hk12 => aw_cut (fun s => ∃ (vb0_s_0_s_1 : List UInt8), ∃ (v5_1 : Int), ints_Writer_Wide_k1 v8_0 vb0_s_0_s_1 v5_1 = some q2 ∧ s = lit [(0, .ptr 0 0 0), (5, .int .u64 v5_1), (6, .sl 1 (List.map enc12 a1)), (7, .int .i64 (List.length a1 : Int)), (8, .int .i64 v8_0)] [((0, 0), .box [.own 1 0]), ((1, 0), .arr 5 1 false (List.map enc5 vb0_s_0_s_1))] [(0, 1), (1, 1)] X) ?_ ?_
  ·skip
   refine aw_block<|aw_loop' (fun m s => ∃ (vb0_s_0_s_2 : List UInt8), ∃ (v5_2 : Int), loopN (fun (s : List UInt8 × Int) => ints_Writer_Wide_l2 s.1 s.2) m (vb0_s_0_s_2, v5_2) = some q11 ∧ s = lit [(0, .ptr 0 0 0), (5, .int .u64 v5_2), (6, .sl 1 (List.map enc12 a1)), (7, .int .i64 (List.length a1 : Int)), (8, .int .i64 v8_0)] [((0, 0), .box [.own 1 0]), ((1, 0), .arr 5 1 false (List.map enc5 vb0_s_0_s_2))] [(0, 1), (1, 1)] X) Fu
    ⟨_, ra [(0, 0), (1, 0)], vb0_s_0_s_0, x10, h, rfl⟩ ?_
   rintro m s ⟨vb0_s_0_s_2, v5_2, h, rfl⟩
   obtain ⟨m2, q13, rfl, h, hq14⟩ := loop_some h
   replace h : ints_Writer_Wide_l2 vb0_s_0_s_2 v5_2 = some q13 := h
   refine aw_seq_k fun _ k15 => sr fun _ k16 => pP 12 mv<|pP 13 bi<|en k16<|wi 13 h (fun c17 h => ?_) fun c17 h => ?_
   ·refine aw_skip<|k15 _<|aw_seq_k fun _ k18 => aw_block<|aw_regL<|pP 16 mv<|pP 17 mv<|pP 18 nk<|pP 19 (fa ty121 ty46)<|pX 20 (ld ty46)<|pP 21 mv<|pP 22 ((does_conv_int (v := .int .u8 (IntKind.u8.wrap v5_2)) W_ (ty_some ty63) (ty_int ty5) rfl).castp (v' := .int .u8 ((u8 (IntKind.u8.wrap v5_2)).toNat : Int)) (by exact congrArg _ (u8_eq (u8_wrap _))))<|pP 23 ((does_bin (v := .int .u8 (bits .or .u8 ((u8 (IntKind.u8.wrap v5_2)).toNat : Int) 128)) W_ W_ rfl).castp (v' := .int .u8 ((u8 (bits .or .u8 ((u8 (IntKind.u8.wrap v5_2)).toNat : Int) 128)).toNat : Int)) (by exact congrArg _ (u8_eq (u8_bits _ _ _))))<|pD 24 (bs (List.map enc5 [(u8 (bits .or .u8 ((u8 (IntKind.u8.wrap v5_2)).toNat : Int) 128))]) ty46 ty5 rfl)<|gE h fun g19 h => pD 25 (do_append (v := List.map enc5 (vb0_s_0_s_2 ++ [(u8 (bits .or .u8 ((u8 (IntKind.u8.wrap v5_2)).toNat : Int) 128))])) W_ W_ ty46 ty5 rfl rfl W_ (by first | exact .inl rfl | exact .inr ⟨rfl, rfl⟩) W_ (by first | exact .inr rfl | exact .inl rfl) (map_app _ _) (fit_map g19))<|pP 26 nk<|pP 27 (fa ty121 ty46)<|pZ (sto [.own 25 0] ty46)<|en k18<|aw_regL<|pP 14 mv<|pP 15 bi<|pP 5 asg<|al_nil<|bk (ra [(0, 0), (25, 0)]) ⟨(vb0_s_0_s_2 ++ [(u8 (bits .or .u8 ((u8 (IntKind.u8.wrap v5_2)).toNat : Int) 128))]), (Int.fdiv v5_2 (2 ^ (min (Int.toNat 7) (IntKind.bits .u64)))), leafL h hq14, rfl⟩
   ·refine aw_exit<|tk (leafR h hq14) fun h => ?_
    obtain rfl := Option.some.inj h
    have h := hk12
    exact ⟨_, ra [(0, 0), (1, 0)], vb0_s_0_s_2, v5_2, h, rfl⟩
  ·rintro s ⟨vb0_s_0_s_1, v5_1, h, rfl⟩
   refine aw_regL<|pP 28 mv<|pP 29 mv<|pP 30 nk<|pP 31 (fa ty121 ty46)<|pX 32 (ld ty46)<|pP 33 mv<|pP 34 ((does_conv_int (v := .int .u8 (IntKind.u8.wrap v5_1)) W_ (ty_some ty63) (ty_int ty5) rfl).castp (v' := .int .u8 ((u8 (IntKind.u8.wrap v5_1)).toNat : Int)) (by exact congrArg _ (u8_eq (u8_wrap _))))<|pD 35 (bs (List.map enc5 [(u8 (IntKind.u8.wrap v5_1))]) ty46 ty5 rfl)<|gE h fun g20 h => pD 36 (do_append (v := List.map enc5 (vb0_s_0_s_1 ++ [(u8 (IntKind.u8.wrap v5_1))])) W_ W_ ty46 ty5 rfl rfl W_ (by first | exact .inl rfl | exact .inr ⟨rfl, rfl⟩) W_ (by first | exact .inr rfl | exact .inl rfl) (map_app _ _) (fit_map g20))<|pP 37 nk<|pP 38 (fa ty121 ty46)<|pZ (sto [.own 36 0] ty46)<|en k7<|aw_regL<|pP 39 bi<|pP 8 mv<|al_nil<|bk (ra [(0, 0), (36, 0)]) ⟨(vb0_s_0_s_1 ++ [(u8 (IntKind.u8.wrap v5_1))]), (IntKind.i64.wrap (v8_0 + 1)), leafL h hq3, rfl⟩
 ·refine aw_exit<|tk (leafR h hq3) fun h => ?_
  obtain rfl := Option.some.inj h
  exact ret_okB [(1, 0)] W_ W_ R_ (rowsOk_cons W_ R_ trivial) (boxesOk_cons W_ W_ R_ trivial) (nodup_b rfl) (.inl rfl) rfl
def ints_Writer_Num_l0 (a1 : List Int) (vb0_s_0_s_0 : List UInt8) (v8_0 : Int) : Option ((List UInt8 × Int) ⊕ Writer) :=
 if (decide (v8_0 < (List.length a1 : Int))) = true then (gd (0 ≤ v8_0) (Option.bind (a1[(Int.toNat v8_0)]?) (fun (x10 : Int) => Option.bind (ints_Writer_Wide (Writer.mk vb0_s_0_s_0) [(IntKind.u64.wrap x10)]) (fun (x11 : Writer) => some (Sum.inl (x11.B, (IntKind.i64.wrap (v8_0 + 1)))))))) else (some (Sum.inr (Writer.mk vb0_s_0_s_0)))
def ints_Writer_Num (a0 : Writer) (a1 : List Int) : Option Writer :=
 loopN (fun (s : List UInt8 × Int) => ints_Writer_Num_l0 a1 s.1 s.2) Fu (a0.B, 0)
theorem ints_Writer_Num_ok (a0 : Writer) (a1 : List Int) {r : Writer} (h : ints_Writer_Num a0 a1 = some r) : Ok Tryz.prog 56 [.ptr 0 0 0, .sl 1 (List.map enc2 a1)] [[.own 1 0]] [(5, 1, List.map enc5 a0.B)] (.tup []) [[.own 2 0]] [(5, 1, List.map enc5 r.B)] := by
 unfold ints_Writer_Num at h
 refine oK Tryz.func56 rfl fun X => sr fun _ k1 => pP 6 mv<|pP 7 (zl ty55)<|pP 8 mv<|en k1<|aw_block<|aw_loop' (fun m s => ∃ (vb0_s_0_s_0 : List UInt8), ∃ (v8_0 : Int), loopN (fun (s : List UInt8 × Int) => ints_Writer_Num_l0 a1 s.1 s.2) m (vb0_s_0_s_0, v8_0) = some r ∧ s = lit [(0, .ptr 0 0 0), (6, .sl 1 (List.map enc2 a1)), (7, .int .i64 (List.length a1 : Int)), (8, .int .i64 v8_0)] [((0, 0), .box [.own 1 0]), ((1, 0), .arr 5 1 false (List.map enc5 vb0_s_0_s_0))] [(0, 1), (1, 1)] X) Fu
  ⟨_, ra [(0, 0), (1, 0)], a0.B, 0, h, rfl⟩ ?_
 rintro m s ⟨vb0_s_0_s_0, v8_0, h, rfl⟩
 obtain ⟨m0, q2, rfl, h, hq3⟩ := loop_some h
 replace h : ints_Writer_Num_l0 a1 vb0_s_0_s_0 v8_0 = some q2 := h
 refine sr fun _ k4 => pP 9 bi<|en k4<|aw_seq_k fun _ k5 => wi 9 h (fun c6 h => ?_) fun c6 h => ?_
 ·refine aw_skip<|k5 _<|aw_seq_k fun _ k7 => aw_block<|sr fun _ k8 => gE h fun g9 h => bE h fun x10 y10 h => pP 10 (ia ty55 ty3 g9 y10)<|pX 11 (ld ty3)<|pP 5 asg<|en k8<|aw_regL<|pP 12 mv<|pP 13 mv<|pP 14 (does_conv_int (v := .int .u64 (IntKind.u64.wrap x10)) W_ (ty_some ty3) (ty_int ty63) rfl)<|pD 15 (bs (List.map enc12 [(IntKind.u64.wrap x10)]) ty170 ty63 rfl)<|bE h fun x11 y11 h => pD 16 (does_frz (d := 15) (n := 0) W_ (do_callG (bcs := [[.own 1 0]]) [(0, 0)] [(1, 0)] [(15, 0)] 16 false (ints_Writer_Wide_ok (Writer.mk vb0_s_0_s_0) [(IntKind.u64.wrap x10)] y11) rfl ent85 ⟨R_, trivial⟩ (rowsOk_cons W_ R_ trivial) rfl rfl rfl rfl rfl rfl rfl rfl (.inl ⟨⟨_, _, _, rfl⟩, trivial⟩)))<|en k7<|aw_regL<|pP 17 bi<|pP 8 mv<|al_nil<|bk (ra [(0, 0), (16, 0)]) ⟨x11.B, (IntKind.i64.wrap (v8_0 + 1)), leafL h hq3, rfl⟩
 ·refine aw_exit<|tk (leafR h hq3) fun h => ?_
  obtain rfl := Option.some.inj h
  exact ret_okB [(1, 0)] W_ W_ R_ (rowsOk_cons W_ R_ trivial) (boxesOk_cons W_ W_ R_ trivial) (nodup_b rfl) (.inl rfl) rfl
def ints_Writer_Text_l0 (a1 : List ByteArray) (vb0_s_0_s_0 : List UInt8) (v8_0 : Int) : Option ((List UInt8 × Int) ⊕ Writer) :=
 if (decide (v8_0 < (List.length a1 : Int))) = true then (gd (0 ≤ v8_0) (Option.bind (a1[(Int.toNat v8_0)]?) (fun (x10 : ByteArray) => Option.bind (ints_Writer_Num (Writer.mk vb0_s_0_s_0) [(ByteArray.size x10 : Int)]) (fun (x12 : Writer) => gd ((List.length (x12.B ++ (bytesOf x10))) ≤ 140737488355328) (some (Sum.inl ((x12.B ++ (bytesOf x10)), (IntKind.i64.wrap (v8_0 + 1))))))))) else (some (Sum.inr (Writer.mk vb0_s_0_s_0)))
def ints_Writer_Text (a0 : Writer) (a1 : List ByteArray) : Option Writer :=
 loopN (fun (s : List UInt8 × Int) => ints_Writer_Text_l0 a1 s.1 s.2) Fu (a0.B, 0)
theorem ints_Writer_Text_ok (a0 : Writer) (a1 : List ByteArray) {r : Writer} (h : ints_Writer_Text a0 a1 = some r) : Ok Tryz.prog 86 [.ptr 0 0 0, .sl 1 (List.map enc9 a1)] [[.own 1 0]] [(5, 1, List.map enc5 a0.B)] (.tup []) [[.own 2 0]] [(5, 1, List.map enc5 r.B)] := by
 unfold ints_Writer_Text at h
 refine oK Tryz.func86 rfl fun X => sr fun _ k1 => pP 6 mv<|pP 7 (zl ty171)<|pP 8 mv<|en k1<|aw_block<|aw_loop' (fun m s => ∃ (vb0_s_0_s_0 : List UInt8), ∃ (v8_0 : Int), loopN (fun (s : List UInt8 × Int) => ints_Writer_Text_l0 a1 s.1 s.2) m (vb0_s_0_s_0, v8_0) = some r ∧ s = lit [(0, .ptr 0 0 0), (6, .sl 1 (List.map enc9 a1)), (7, .int .i64 (List.length a1 : Int)), (8, .int .i64 v8_0)] [((0, 0), .box [.own 1 0]), ((1, 0), .arr 5 1 false (List.map enc5 vb0_s_0_s_0))] [(0, 1), (1, 1)] X) Fu
  ⟨_, ra [(0, 0), (1, 0)], a0.B, 0, h, rfl⟩ ?_
 rintro m s ⟨vb0_s_0_s_0, v8_0, h, rfl⟩
 obtain ⟨m0, q2, rfl, h, hq3⟩ := loop_some h
 replace h : ints_Writer_Text_l0 a1 vb0_s_0_s_0 v8_0 = some q2 := h
 refine sr fun _ k4 => pP 9 bi<|en k4<|aw_seq_k fun _ k5 => wi 9 h (fun c6 h => ?_) fun c6 h => ?_
 ·refine aw_skip<|k5 _<|aw_seq_k fun _ k7 => aw_block<|sr fun _ k8 => gE h fun g9 h => bE h fun x10 y10 h => pP 10 (ia ty171 ty9 g9 y10)<|pX 11 (ld ty9)<|pP 5 asg<|en k8<|sr fun _ k11 => pP 12 mv<|pP 13 mv<|pP 14 (does_len_str W_ ty9)<|pD 15 (bs (List.map enc2 [(ByteArray.size x10 : Int)]) ty55 ty3 rfl)<|bE h fun x12 y12 h => pD 16 (does_frz (d := 15) (n := 0) W_ (do_callG (bcs := [[.own 1 0]]) [(0, 0)] [(1, 0)] [(15, 0)] 16 false (ints_Writer_Num_ok (Writer.mk vb0_s_0_s_0) [(ByteArray.size x10 : Int)] y12) rfl ent56 ⟨R_, trivial⟩ (rowsOk_cons W_ R_ trivial) rfl rfl rfl rfl rfl rfl rfl rfl (.inl ⟨⟨_, _, _, rfl⟩, trivial⟩)))<|en k11<|aw_regL<|pP 17 mv<|pP 18 mv<|pP 19 nk<|pP 20 (fa ty121 ty46)<|pX 21 (ld ty46)<|pP 22 mv<|gE h fun g13 h => pD 23 (do_append_str (l := x12.B) (f := enc5) W_ W_ ty46 ty5 zr5 (ty_str ty9) W_ (by first | exact .inl rfl | exact .inr ⟨rfl, rfl⟩) (fun _ => rfl) (g13))<|pP 24 nk<|pP 25 (fa ty121 ty46)<|pZ (sto [.own 23 0] ty46)<|en k7<|aw_regL<|pP 26 bi<|pP 8 mv<|al_nil<|bk (ra [(0, 0), (23, 0)]) ⟨(x12.B ++ (bytesOf x10)), (IntKind.i64.wrap (v8_0 + 1)), leafL h hq3, rfl⟩
 ·refine aw_exit<|tk (leafR h hq3) fun h => ?_
  obtain rfl := Option.some.inj h
  exact ret_okB [(1, 0)] W_ W_ R_ (rowsOk_cons W_ R_ trivial) (boxesOk_cons W_ W_ R_ trivial) (nodup_b rfl) (.inl rfl) rfl
def ints_Writer_Flag_k0 (a0 : Writer) (v4_0 : Int) : Option Writer :=
 Option.bind (ints_Writer_Num a0 [v4_0]) (fun (x6 : Writer) => some x6)
def ints_Writer_Flag (a0 : Writer) (a1 : Bool) : Option Writer :=
 Option.bind (if a1 = true then (some 1) else (some 0)) (fun (s : Int) => ints_Writer_Flag_k0 a0 s)
theorem ints_Writer_Flag_ok (a0 : Writer) (a1 : Bool) {r : Writer} (h : ints_Writer_Flag a0 a1 = some r) : Ok Tryz.prog 87 [.ptr 0 0 0, .bool a1] [[.own 1 0]] [(5, 1, List.map enc5 a0.B)] (.tup []) [[.own 2 0]] [(5, 1, List.map enc5 r.B)] := by
 refine oK Tryz.func87 rfl fun X => sr fun _ k1 => pP 4 asg<|en k1<|bE h fun q2 h hk3 => aw_cut (fun s => ∃ (v4_0 : Int), ints_Writer_Flag_k0 a0 v4_0 = some r ∧ s = lit [(0, .ptr 0 0 0), (4, .int .i64 v4_0)] [((0, 0), .box [.own 1 0]), ((1, 0), .arr 5 1 false (List.map enc5 a0.B))] [(0, 1), (1, 1)] X) ?_ ?_
 ·skip
  refine sr fun _ k4 => pP 5 mv<|en k4<|wi 5 h (fun c5 h => ?_) fun c5 h => ?_
  ·refine aw_regL<|pP 4 asg<|al_nil<|?_
   obtain rfl := Option.some.inj h
   have h := hk3
   exact ⟨_, ra [(0, 0), (1, 0)], 1, h, rfl⟩
  ·refine aw_skip ?_
   obtain rfl := Option.some.inj h
   have h := hk3
   exact ⟨_, ra [(0, 0), (1, 0)], 0, h, rfl⟩
 ·rintro s ⟨v4_0, h, rfl⟩
  refine aw_regL<|pP 6 mv<|pP 7 mv<|pD 8 (bs (List.map enc2 [v4_0]) ty55 ty3 rfl)<|bE h fun x6 y6 h => pD 9 (does_frz (d := 8) (n := 0) W_ (do_callG (bcs := [[.own 1 0]]) [(0, 0)] [(1, 0)] [(8, 0)] 9 false (ints_Writer_Num_ok a0 [v4_0] y6) rfl ent56 ⟨R_, trivial⟩ (rowsOk_cons W_ R_ trivial) rfl rfl rfl rfl rfl rfl rfl rfl (.inl ⟨⟨_, _, _, rfl⟩, trivial⟩)))<|al_nil<|?_
  obtain rfl := Option.some.inj h
  exact ret_okB [(9, 0)] W_ W_ R_ (rowsOk_cons W_ R_ trivial) (boxesOk_cons W_ W_ R_ trivial) (nodup_b rfl) (.inl rfl) rfl
end Go.Proofs.YtbaibpjffcahiaaGreat.Ab
