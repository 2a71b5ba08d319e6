/- Who calls whom. -/
import Derived.Test.YtbaibpjffcahiaaGreatXK1
import Derived.Test.YtbaibpjffcahiaaGreatProg
namespace Go.Proofs.YtbaibpjffcahiaaGreat.Ab
open Go Go.RowKit
set_option linter.unusedVariables false
set_option linter.unusedSimpArgs false
set_option maxRecDepth 100000
set_option maxHeartbeats 8000000
theorem ty93 : tyOf Tryz.prog 93 = some ⟨.struct [(0, 9), (1, 9), (2, 3), (3, 3)], 4, 48, [.str ByteArray.empty, .str ByteArray.empty, .int .i64 0, .int .i64 0]⟩ := by kernel_rfl
theorem fk75 : flatK Tryz.prog 8 75 = some [.i .u64, .i .u64] := by kernel_rfl
theorem ag75 : aggT Tryz.prog 75 = true := by kernel_rfl
theorem eg75 : Tryz.prog.eqGuardType Tryz.prog.depth 75 = false := by kernel_rfl
theorem ent72 : Ent Tryz.prog 72 := eN Tryz.func72
theorem ent73 : Ent Tryz.prog 73 := eN Tryz.func73
def gleaningref1_Bit (a0 : Bool) : Option Int :=
 if a0 = true then (some 1) else (some 0)
theorem gleaningref1_Bit_ok (a0 : Bool) {r : Int} (h : gleaningref1_Bit a0 = some r) : Ok Tryz.prog 73 [.bool a0] [] [] (.int .u64 r) [] [] := by
 refine oK Tryz.func73 rfl fun X => sr fun _ k1 => pP 2 asg<|en k1<|aw_seq_k fun _ k2 => sr fun _ k3 => pP 3 mv<|en k3<|wi 3 h (fun c4 h => ?_) fun c4 h => ?_
 ·refine sr fun _ k5 => pP 2 asg<|en k5<|aw_ret<|by cases h;exact rk
 ·refine aw_skip<|k2 _<|sr fun _ k6 => pP 2 asg<|en k6<|aw_ret<|by cases h;exact rk
def gleaningref1_edge_l1 (a0 : List Edge) (a1 : Edge) (v7_1 : Int) : Option (Int ⊕ Int) :=
 if (decide (v7_1 < (List.length a0 : Int))) = true then (gd (0 ≤ v7_1) (Option.bind (a0[(Int.toNat v7_1)]?) (fun (x11 : Edge) => if (Op.bytesLess (ByteArray.toList x11.From) (ByteArray.toList a1.From)) = true then (some (Sum.inl (IntKind.i64.wrap (v7_1 + 1)))) else (gd (0 ≤ v7_1) (Option.bind (a0[(Int.toNat v7_1)]?) (fun (x14 : Edge) => if (ByteArray.toList x14.From == ByteArray.toList a1.From) = true then (gd (0 ≤ v7_1) (Option.bind (a0[(Int.toNat v7_1)]?) (fun (x17 : Edge) => if (Op.bytesLess (ByteArray.toList x17.To) (ByteArray.toList a1.To)) = true then (some (Sum.inl (IntKind.i64.wrap (v7_1 + 1)))) else (some (Sum.inr v7_1))))) else (some (Sum.inr v7_1)))))))) else (some (Sum.inr v7_1))
def gleaningref1_edge_k3 (a0 : List Edge) (a1 : Edge) (a2 : Int) (v7_0 : Int) (v72_3 : Bool) : Option (Int × Int × Int) :=
 if v72_3 = true then (gd (0 ≤ v7_0) (Option.bind (a0[(Int.toNat v7_0)]?) (fun (x36 : Edge) => Option.bind (gleaningref1_sum x36.Count a1.Count a2) (fun (x37 : Int) => gd (0 ≤ v7_0) (Option.bind (a0[(Int.toNat v7_0)]?) (fun (x40 : Edge) => Option.bind (gleaningref1_sum x40.Errs a1.Errs a2) (fun (x41 : Int) => some (x37, x41, (IntKind.i64.wrap (v7_0 + 1)))))))))) else (Option.bind (gleaningref1_sum 0 a1.Count a2) (fun (x43 : Int) => Option.bind (gleaningref1_sum 0 a1.Errs a2) (fun (x44 : Int) => some (x43, x44, v7_0))))
def gleaningref1_edge_k2 (a0 : List Edge) (a1 : Edge) (v7_0 : Int) (v4_s_2_2 : Int) (v4_s_3_2 : Int) (v7_2 : Int) : Option (List Edge) :=
 gd ((List.length ((List.take (Int.toNat v7_0) a0) ++ [(Edge.mk a1.From a1.To v4_s_2_2 v4_s_3_2)])) * 48 ≤ 140737488355328 ∧ (List.length ((List.take (Int.toNat v7_0) a0) ++ [(Edge.mk a1.From a1.To v4_s_2_2 v4_s_3_2)])) ≤ 140737488355328) (gd (0 ≤ v7_2) (gd (v7_2 ≤ (List.length a0 : Int)) (gd ((List.length (((List.take (Int.toNat v7_0) a0) ++ [(Edge.mk a1.From a1.To v4_s_2_2 v4_s_3_2)]) ++ (List.drop (Int.toNat v7_2) a0))) * 48 ≤ 140737488355328 ∧ (List.length (((List.take (Int.toNat v7_0) a0) ++ [(Edge.mk a1.From a1.To v4_s_2_2 v4_s_3_2)]) ++ (List.drop (Int.toNat v7_2) a0))) ≤ 140737488355328) (some (((List.take (Int.toNat v7_0) a0) ++ [(Edge.mk a1.From a1.To v4_s_2_2 v4_s_3_2)]) ++ (List.drop (Int.toNat v7_2) a0))))))
def gleaningref1_edge_k0 (a0 : List Edge) (a1 : Edge) (a2 : Int) (v7_0 : Int) : Option (List Edge) :=
 gd (0 ≤ v7_0) (gd (v7_0 ≤ (List.length a0 : Int)) (gd ((List.length (List.take (Int.toNat v7_0) a0)) * 48 ≤ 140737488355328 ∧ (List.length (List.take (Int.toNat v7_0) a0)) ≤ 140737488355328) (Option.bind (Option.bind (if (decide (v7_0 < (List.length a0 : Int))) = true then (gd (0 ≤ v7_0) (Option.bind (a0[(Int.toNat v7_0)]?) (fun (x29 : Edge) => if (ByteArray.toList x29.From == ByteArray.toList a1.From) = true then (gd (0 ≤ v7_0) (Option.bind (a0[(Int.toNat v7_0)]?) (fun (x32 : Edge) => some (ByteArray.toList x32.To == ByteArray.toList a1.To)))) else (some false)))) else (some false)) (fun (s : Bool) => gleaningref1_edge_k3 a0 a1 a2 v7_0 s)) (fun (s : Int × Int × Int) => gleaningref1_edge_k2 a0 a1 v7_0 s.1 s.2.1 s.2.2))))
def gleaningref1_edge (a0 : List Edge) (a1 : Edge) (a2 : Int) : Option (List Edge) :=
 Option.bind (loopN (fun (s : Int) => gleaningref1_edge_l1 a0 a1 s) Fu 0) (fun (s : Int) => gleaningref1_edge_k0 a0 a1 a2 s)
theorem gleaningref1_edge_ok (a0 : List Edge) (a1 : Edge) (a2 : Int) {r : List Edge} (h : gleaningref1_edge a0 a1 a2 = some r) : Ok Tryz.prog 72 [.sl 4 (List.map enc92 a0), .agg [.str a1.From, .str a1.To, .int .i64 a1.Count, .int .i64 a1.Errs], .int .i64 a2] [] [] (.own 2 0) [] [(93, 4, List.map enc92 r)] := by
 refine oK Tryz.func72 rfl fun X => sr fun _ k1 => pD 4 (do_box W_ rfl rfl)<|pP 6 asg<|en k1<|sr fun _ k2 => pP 7 asg<|en k2<|bE h fun q3 h hk4 => aw_cut (fun s => ∃ (v7_0 : Int), gleaningref1_edge_k0 a0 a1 a2 v7_0 = some r ∧ s = lit [(0, .sl 4 (List.map enc92 a0)), (2, .int .i64 a2), (4, .ptr 4 0 0), (7, .int .i64 v7_0)] [((4, 0), .box [.str a1.From, .str a1.To, .int .i64 a1.Count, .int .i64 a1.Errs])] [(4, 1)] X) ?_ ?_
 ·skip
  refine aw_block<|aw_loop' (fun m s => ∃ (v7_1 : Int), loopN (fun (s : Int) => gleaningref1_edge_l1 a0 a1 s) m v7_1 = some q3 ∧ s = lit [(0, .sl 4 (List.map enc92 a0)), (2, .int .i64 a2), (4, .ptr 4 0 0), (7, .int .i64 v7_1)] [((4, 0), .box [.str a1.From, .str a1.To, .int .i64 a1.Count, .int .i64 a1.Errs])] [(4, 1)] X) Fu
   ⟨_, ra [(4, 0)], 0, h, rfl⟩ ?_
  rintro m s ⟨v7_1, h, rfl⟩
  obtain ⟨m1, q5, rfl, h, hq6⟩ := loop_some h
  replace h : gleaningref1_edge_l1 a0 a1 v7_1 = some q5 := h
  unfold gleaningref1_edge_l1 at h
  refine aw_seq_k fun _ k7 => aw_seq_k fun _ k8 => aw_regd (by kernel_rfl) (by decide +kernel)<|qP 9 mv<|qP 10 mv<|qP 11 (zl ty38)<|qP 12 bi<|qP 13 mv<|ao_bool (c := (decide (v7_1 < (List.length a0 : Int)))) 13 rfl (fun c9 => ?_) (fun c9 => ?_)
  ·have h := ifT c9 h
   refine qP 14 mv<|qP 15 mv<|gE h fun g10 h => bE h fun x11 y11 h => qP 16 (ia ty38 ty93 g10 y11)<|qP 17 (fa ty93 ty9)<|qR 18 (ld ty9)<|qP 19 (fa ty93 ty9)<|qR 20 (ld ty9)<|qP 21 bi<|qP 22 mv<|ao_bool (c := (Op.bytesLess (ByteArray.toList x11.From) (ByteArray.toList a1.From))) 22 rfl (fun c12 => ?_) (fun c12 => ?_)
   ·have h := ifT c12 h
    refine qS 23<|qS 24<|qS 25<|qS 26<|qS 27<|qS 28<|qS 29<|qS 30<|qS 31<|qS 32<|qS 33<|qS 34<|qS 35<|qS 36<|qS 37<|qS 38<|qS 39<|qS 40<|qP 41 pc<|qP 42 pc<|ao_nil_d (by kernel_rfl)<|k8 _<|aw_cond_t D_ rfl<|aw_skip<|k7 _<|aw_block<|aw_regL<|pP 43 mv<|pP 44 bi<|pP 7 asg<|al_nil<|bk (ra [(4, 0)]) ⟨(IntKind.i64.wrap (v7_1 + 1)), leafL h hq6, rfl⟩
   ·have h := ifF c12 h
    refine qP 23 mv<|qP 24 mv<|gE h fun g13 h => bE h fun x14 y14 h => qP 25 (ia ty38 ty93 g13 y14)<|qP 26 (fa ty93 ty9)<|qR 27 (ld ty9)<|qP 28 (fa ty93 ty9)<|qR 29 (ld ty9)<|qP 30 bi<|qP 31 mv<|ao_bool (c := (ByteArray.toList x14.From == ByteArray.toList a1.From)) 31 rfl (fun c15 => ?_) (fun c15 => ?_)
    ·have h := ifT c15 h
     refine qP 32 mv<|qP 33 mv<|gE h fun g16 h => bE h fun x17 y17 h => qP 34 (ia ty38 ty93 g16 y17)<|qP 35 (fa ty93 ty9)<|qR 36 (ld ty9)<|qP 37 (fa ty93 ty9)<|qR 38 (ld ty9)<|qP 39 bi<|qP 40 pc<|qP 41 pc<|qP 42 pc<|ao_nil_d (by kernel_rfl)<|k8 _<|wi 42 h (fun c18 h => ?_) fun c18 h => ?_
     ·refine aw_skip<|k7 _<|aw_block<|aw_regL<|pP 43 mv<|pP 44 bi<|pP 7 asg<|al_nil<|bk (ra [(4, 0)]) ⟨(IntKind.i64.wrap (v7_1 + 1)), leafL h hq6, rfl⟩
     ·refine aw_exit<|tk (leafR h hq6) fun h => ?_
      obtain rfl := Option.some.inj h
      have h := hk4
      exact ⟨_, ra [(4, 0)], v7_1, h, rfl⟩
    ·have h := ifF c15 h
     refine qS 32<|qS 33<|qS 34<|qS 35<|qS 36<|qS 37<|qS 38<|qS 39<|qP 40 pc<|qP 41 pc<|qP 42 pc<|ao_nil_d (by kernel_rfl)<|k8 _<|aw_cond_f D_ rfl<|aw_exit<|tk (leafR h hq6) fun h => ?_
     obtain rfl := Option.some.inj h
     have h := hk4
     exact ⟨_, ra [(4, 0)], v7_1, h, rfl⟩
  ·have h := ifF c9 h
   refine qS 14<|qS 15<|qS 16<|qS 17<|qS 18<|qS 19<|qS 20<|qS 21<|qS 22<|qS 23<|qS 24<|qS 25<|qS 26<|qS 27<|qS 28<|qS 29<|qS 30<|qS 31<|qS 32<|qS 33<|qS 34<|qS 35<|qS 36<|qS 37<|qS 38<|qS 39<|qS 40<|qS 41<|qP 42 pc<|ao_nil_d (by kernel_rfl)<|k8 _<|aw_cond_f D_ rfl<|aw_exit<|tk (leafR h hq6) fun h => ?_
   obtain rfl := Option.some.inj h
   have h := hk4
   exact ⟨_, ra [(4, 0)], v7_1, h, rfl⟩
 ·rintro s ⟨v7_0, h, rfl⟩
  refine sr fun _ k19 => pP 45 mv<|pP 46 mv<|gE h fun g20 h => gE h fun g21 h => pP 47 (does_slice_sl (l := 0) (k := (Int.toNat v7_0)) W_ ty38 ty93 bd_none (bd_some W_ (by exact (nat_of (by omega)))) (by (try simp only [List.length_map]); omega) (by (try simp only [List.length_map]); omega) (by exact part_h _ _))<|gE h fun g22 h => pD 48 (do_append (v := List.map enc92 (List.take (Int.toNat v7_0) a0)) W_ W_ ty38 ty93 rfl rfl W_ (by first | exact .inl rfl | exact .inr ⟨rfl, rfl⟩) W_ (by first | exact .inr rfl | exact .inl rfl) (List.nil_append _) (fit_map g22))<|pP 8 asg<|en k19<|bE h fun q23 h hk24 => aw_cut (fun s => ∃ (v4_s_2_2 : Int), ∃ (v4_s_3_2 : Int), ∃ (v7_2 : Int), gleaningref1_edge_k2 a0 a1 v7_0 v4_s_2_2 v4_s_3_2 v7_2 = some r ∧ s = lit [(0, .sl 4 (List.map enc92 a0)), (4, .ptr 4 0 0), (7, .int .i64 v7_2), (8, .own 48 0)] [((4, 0), .box [.str a1.From, .str a1.To, .int .i64 v4_s_2_2, .int .i64 v4_s_3_2]), ((48, 0), .arr 93 4 false (List.map enc92 (List.take (Int.toNat v7_0) a0)))] [(4, 1), (48, 1)] X) ?_ ?_
  ·skip
   refine bE h fun q25 h hk26 => aw_cut (fun s => ∃ (v72_3 : Bool), gleaningref1_edge_k3 a0 a1 a2 v7_0 v72_3 = some q23 ∧ s = lit [(0, .sl 4 (List.map enc92 a0)), (2, .int .i64 a2), (4, .ptr 4 0 0), (7, .int .i64 v7_0), (8, .own 48 0), (72, .bool v72_3)] [((4, 0), .box [.str a1.From, .str a1.To, .int .i64 a1.Count, .int .i64 a1.Errs]), ((48, 0), .arr 93 4 false (List.map enc92 (List.take (Int.toNat v7_0) a0)))] [(4, 1), (48, 1)] X) ?_ ?_
   ·skip
    refine aw_regd (by kernel_rfl) (by decide +kernel)<|qP 49 mv<|qP 50 mv<|qP 51 (zl ty38)<|qP 52 bi<|qP 53 mv<|ao_bool (c := (decide (v7_0 < (List.length a0 : Int)))) 53 rfl (fun c27 => ?_) (fun c27 => ?_)
    ·have h := ifT c27 h
     refine qP 54 mv<|qP 55 mv<|gE h fun g28 h => bE h fun x29 y29 h => qP 56 (ia ty38 ty93 g28 y29)<|qP 57 (fa ty93 ty9)<|qR 58 (ld ty9)<|qP 59 (fa ty93 ty9)<|qR 60 (ld ty9)<|qP 61 bi<|qP 62 pc<|qP 63 mv<|ao_bool (c := (ByteArray.toList x29.From == ByteArray.toList a1.From)) 63 rfl (fun c30 => ?_) (fun c30 => ?_)
     ·have h := ifT c30 h
      refine qP 64 mv<|qP 65 mv<|gE h fun g31 h => bE h fun x32 y32 h => qP 66 (ia ty38 ty93 g31 y32)<|qP 67 (fa ty93 ty9)<|qR 68 (ld ty9)<|qP 69 (fa ty93 ty9)<|qR 70 (ld ty9)<|qP 71 bi<|qP 72 pc<|ao_nil_d (by kernel_rfl)<|?_
      obtain rfl := Option.some.inj h
      have h := hk26
      exact ⟨_, ra [(4, 0), (48, 0)], (ByteArray.toList x32.To == ByteArray.toList a1.To), h, rfl⟩
     ·have h := ifF c30 h
      refine qS 64<|qS 65<|qS 66<|qS 67<|qS 68<|qS 69<|qS 70<|qS 71<|qP 72 pc<|ao_nil_d (by kernel_rfl)<|?_
      obtain rfl := Option.some.inj h
      have h := hk26
      exact ⟨_, ra [(4, 0), (48, 0)], false, h, rfl⟩
    ·have h := ifF c27 h
     refine qS 54<|qS 55<|qS 56<|qS 57<|qS 58<|qS 59<|qS 60<|qS 61<|qP 62 pc<|qP 63 mv<|qS 64<|qS 65<|qS 66<|qS 67<|qS 68<|qS 69<|qS 70<|qS 71<|qP 72 pc<|ao_nil_d (by kernel_rfl)<|?_
     obtain rfl := Option.some.inj h
     have h := hk26
     exact ⟨_, ra [(4, 0), (48, 0)], false, h, rfl⟩
   ·rintro s ⟨v72_3, h, rfl⟩
    refine wi 72 h (fun c33 h => ?_) fun c33 h => ?_
    ·refine aw_seq_k fun _ k34 => aw_regd (by kernel_rfl) (by decide +kernel)<|qP 73 mv<|qP 74 mv<|gE h fun g35 h => bE h fun x36 y36 h => qP 75 (ia ty38 ty93 g35 y36)<|qP 76 (fa ty93 ty3)<|qR 77 (ld ty3)<|qP 78 (fa ty93 ty3)<|qR 79 (ld ty3)<|qP 80 mv<|bE h fun x37 y37 h => qD 81 (cZ 81 (gleaningref1_sum_ok x36.Count a1.Count a2 y37) ent102)<|qP 82 (fa ty93 ty3)<|aoD none rfl rfl (do_store (cs' := [.str a1.From, .str a1.To, .int .i64 x37, .int .i64 a1.Errs]) W_ W_ W_ ty3 rfl rfl rfl R_) D_<|ao_nil_d (by kernel_rfl)<|k34 _<|aw_seq_k fun _ k38 => aw_regd (by kernel_rfl) (by decide +kernel)<|qP 83 mv<|qP 84 mv<|gE h fun g39 h => bE h fun x40 y40 h => qP 85 (ia ty38 ty93 g39 y40)<|qP 86 (fa ty93 ty3)<|qR 87 (ld ty3)<|qP 88 (fa ty93 ty3)<|qR 89 (ld ty3)<|qP 90 mv<|bE h fun x41 y41 h => qD 91 (cZ 91 (gleaningref1_sum_ok x40.Errs a1.Errs a2 y41) ent102)<|qP 92 (fa ty93 ty3)<|aoD none rfl rfl (do_store (cs' := [.str a1.From, .str a1.To, .int .i64 x37, .int .i64 x41]) W_ W_ W_ ty3 rfl rfl rfl R_) D_<|ao_nil_d (by kernel_rfl)<|k38 _<|aw_regL<|pP 93 mv<|pP 94 bi<|pP 7 asg<|al_nil<|?_
     obtain rfl := Option.some.inj h
     have h := hk24
     exact ⟨_, ra [(4, 0), (48, 0)], x37, x41, (IntKind.i64.wrap (v7_0 + 1)), h, rfl⟩
    ·refine sr fun _ k42 => pP 95 (fa ty93 ty3)<|pX 96 (ld ty3)<|pP 97 mv<|bE h fun x43 y43 h => pD 98 (cZ 98 (gleaningref1_sum_ok 0 a1.Count a2 y43) ent102)<|pP 99 (fa ty93 ty3)<|pZ (sto [.str a1.From, .str a1.To, .int .i64 x43, .int .i64 a1.Errs] ty3)<|en k42<|aw_regL<|pP 100 (fa ty93 ty3)<|pX 101 (ld ty3)<|pP 102 mv<|bE h fun x44 y44 h => pD 103 (cZ 103 (gleaningref1_sum_ok 0 a1.Errs a2 y44) ent102)<|pP 104 (fa ty93 ty3)<|pZ (sto [.str a1.From, .str a1.To, .int .i64 x43, .int .i64 x44] ty3)<|al_nil<|?_
     obtain rfl := Option.some.inj h
     have h := hk24
     exact ⟨_, ra [(4, 0), (48, 0)], x43, x44, v7_0, h, rfl⟩
  ·rintro s ⟨v4_s_2_2, v4_s_3_2, v7_2, h, rfl⟩
   refine aw_seq_k fun _ k45 => aw_regd (by kernel_rfl) (by decide +kernel)<|qP 105 mv<|qR 106 (does_load (v := .agg [.str a1.From, .str a1.To, .int .i64 v4_s_2_2, .int .i64 v4_s_3_2]) W_ W_ ty93 R_)<|qD 107 (bs (List.map enc92 [(Edge.mk a1.From a1.To v4_s_2_2 v4_s_3_2)]) ty38 ty93 rfl)<|gE h fun g46 h => qD 108 (do_append (v := List.map enc92 ((List.take (Int.toNat v7_0) a0) ++ [(Edge.mk a1.From a1.To v4_s_2_2 v4_s_3_2)])) W_ W_ ty38 ty93 rfl rfl W_ (by first | exact .inl rfl | exact .inr ⟨rfl, rfl⟩) W_ (by first | exact .inr rfl | exact .inl rfl) (map_app _ _) (fit_map g46))<|qP 109 mv<|qP 110 mv<|gE h fun g47 h => gE h fun g48 h => qP 111 (does_slice_sl (l := (Int.toNat v7_2)) W_ ty38 ty93 (bd_some W_ (by exact (nat_of g47))) bd_none (by (try simp only [List.length_map]); omega) (by (try simp only [List.length_map]); omega) (by exact part_l _ _))<|gE h fun g49 h => qD 112 (do_append (v := List.map enc92 (((List.take (Int.toNat v7_0) a0) ++ [(Edge.mk a1.From a1.To v4_s_2_2 v4_s_3_2)]) ++ (List.drop (Int.toNat v7_2) a0))) W_ W_ ty38 ty93 rfl rfl W_ (by first | exact .inl rfl | exact .inr ⟨rfl, rfl⟩) W_ (by first | exact .inr rfl | exact .inl rfl) (map_app _ _) (fit_map g49))<|qP 6 asg<|ao_nil_d (by kernel_rfl)<|k45 _<|aw_ret<|by cases h;exact rB [(112, 0)]
def gleaningref1_AddEdges_k2 (a2 : Int) (v0_s_0 : List Edge) (v7_0 : Int) (x14 : Span) (v9_1 : Int) (x28 : Span) (v51_2 : Bool) : Option (Int ⊕ ((List Edge × Int) ⊕ (List Edge))) :=
 if v51_2 = true then (if (!(ByteArray.toList x28.Service == ByteArray.toList x14.Service)) = true then (Option.bind (gleaningref1_Bit x14.Err) (fun (x38 : Int) => Option.bind (gleaningref1_edge v0_s_0 (Edge.mk x28.Service x14.Service 1 (IntKind.i64.wrap x38)) a2) (fun (x39 : List Edge) => some (Sum.inr (Sum.inl (x39, (IntKind.i64.wrap (v7_0 + 1)))))))) else (some (Sum.inr (Sum.inl (v0_s_0, (IntKind.i64.wrap (v7_0 + 1))))))) else (some (Sum.inl (IntKind.i64.wrap (v9_1 + 1))))
def gleaningref1_AddEdges_l1 (a1 : List Span) (a2 : Int) (v0_s_0 : List Edge) (v7_0 : Int) (x14 : Span) (v9_1 : Int) : Option (Int ⊕ ((List Edge × Int) ⊕ (List Edge))) :=
 if (decide (v9_1 < (List.length a1 : Int))) = true then (gd (0 ≤ v9_1) (Option.bind (a1[(Int.toNat v9_1)]?) (fun (x28 : Span) => Option.bind (Option.bind (gleaningref1_RightSpan x28) (fun (x31 : Bool) => if x31 = true then (if ((x28.Trace.Hi == x14.Trace.Hi) && ((x28.Trace.Lo == x14.Trace.Lo) && true)) = true then (some (x28.Id == x14.Parent)) else (some false)) else (some false))) (fun (s : Bool) => gleaningref1_AddEdges_k2 a2 v0_s_0 v7_0 x14 v9_1 x28 s)))) else (some (Sum.inr (Sum.inl (v0_s_0, (IntKind.i64.wrap (v7_0 + 1))))))
def gleaningref1_AddEdges_l0 (a1 : List Span) (a2 : Int) (v0_s_0 : List Edge) (v7_0 : Int) : Option ((List Edge × Int) ⊕ (List Edge)) :=
 if (decide (v7_0 < (List.length a1 : Int))) = true then (gd (0 ≤ v7_0) (Option.bind (a1[(Int.toNat v7_0)]?) (fun (x14 : Span) => Option.bind (gleaningref1_RightSpan x14) (fun (x17 : Bool) => if (!x17) = true then (some (Sum.inl (v0_s_0, (IntKind.i64.wrap (v7_0 + 1))))) else (loopN (fun (s : Int) => gleaningref1_AddEdges_l1 a1 a2 v0_s_0 v7_0 x14 s) Fu 0))))) else (some (Sum.inr v0_s_0))
def gleaningref1_AddEdges (a0 : List Edge) (a1 : List Span) (a2 : Int) : Option (List Edge) :=
 gd ((List.length a0) * 48 ≤ 140737488355328 ∧ (List.length a0) ≤ 140737488355328) (loopN (fun (s : List Edge × Int) => gleaningref1_AddEdges_l0 a1 a2 s.1 s.2) Fu (a0, 0))
theorem gleaningref1_AddEdges_ok (a0 : List Edge) (a1 : List Span) (a2 : Int) {r : List Edge} (h : gleaningref1_AddEdges a0 a1 a2 = some r) : Ok Tryz.prog 40 [.sl 4 (List.map enc92 a0), .sl 10 (List.map enc77 a1), .int .i64 a2] [] [] (.own 2 0) [] [(93, 4, List.map enc92 r)] := by
 refine oK Tryz.func40 rfl fun X => sr fun _ k1 => pP 6 asg<|en k1<|sr fun _ k2 => pP 11 mv<|gE h fun g3 h => pD 12 (do_append (v := List.map enc92 a0) W_ W_ ty38 ty93 rfl rfl W_ (by first | exact .inl rfl | exact .inr ⟨rfl, rfl⟩) W_ (by first | exact .inr rfl | exact .inl rfl) (List.nil_append _) (fit_map g3))<|pP 0 asg<|en k2<|aw_seq_k fun _ k4 => sr fun _ k5 => pP 7 asg<|en k5<|aw_block<|aw_loop' (fun m s => ∃ (v0_s_0 : List Edge), ∃ (v7_0 : Int), loopN (fun (s : List Edge × Int) => gleaningref1_AddEdges_l0 a1 a2 s.1 s.2) m (v0_s_0, v7_0) = some r ∧ s = lit [(0, .own 12 0), (1, .sl 10 (List.map enc77 a1)), (2, .int .i64 a2), (7, .int .i64 v7_0)] [((12, 0), .arr 93 4 false (List.map enc92 v0_s_0))] [(12, 1)] X) Fu
  ⟨_, ra [(12, 0)], a0, 0, h, rfl⟩ ?_
 rintro m s ⟨v0_s_0, v7_0, h, rfl⟩
 obtain ⟨m0, q6, rfl, h, hq7⟩ := loop_some h
 replace h : gleaningref1_AddEdges_l0 a1 a2 v0_s_0 v7_0 = some q6 := h
 refine aw_seq_k fun _ k8 => sr fun _ k9 => pP 13 mv<|pP 14 mv<|pP 15 (zl ty22)<|pP 16 bi<|en k9<|wi 16 h (fun c10 h => ?_) fun c10 h => ?_
 ·refine aw_skip<|k8 _<|aw_seq_k fun _ k11 => aw_block<|sr fun _ k12 => pP 19 mv<|pP 20 mv<|gE h fun g13 h => bE h fun x14 y14 h => pP 21 (ia ty22 ty78 g13 y14)<|pl 22 (.agg [.int .u64 x14.Trace.Hi, .int .u64 x14.Trace.Lo, .int .u64 x14.Id, .int .u64 x14.Parent, .str x14.Service, .str x14.Op, .int .i64 x14.Start, .int .i64 x14.Dur, .bool x14.Err, .sl 2 (List.map enc132 x14.Attrs)]) ty78<|pD 8 (nw ty78)<|pZ (sto [.int .u64 x14.Trace.Hi, .int .u64 x14.Trace.Lo, .int .u64 x14.Id, .int .u64 x14.Parent, .str x14.Service, .str x14.Op, .int .i64 x14.Start, .int .i64 x14.Dur, .bool x14.Err, .sl 2 (List.map enc132 x14.Attrs)] ty78)<|en k12<|aw_seq_k fun _ k15 => sr fun _ k16 => pl 23 (.agg [.int .u64 x14.Trace.Hi, .int .u64 x14.Trace.Lo, .int .u64 x14.Id, .int .u64 x14.Parent, .str x14.Service, .str x14.Op, .int .i64 x14.Start, .int .i64 x14.Dur, .bool x14.Err, .sl 2 (List.map enc132 x14.Attrs)]) ty78<|bE h fun x17 y17 h => pD 24 (cZ 24 (gleaningref1_RightSpan_ok x14 y17) ent33)<|pP 25 un<|en k16<|wi 25 h (fun c18 h => ?_) fun c18 h => ?_
  ·refine aw_exit<|k11 _<|aw_regL<|pP 17 mv<|pP 18 bi<|pP 7 asg<|al_nil<|bk (ra [(12, 0)]) ⟨v0_s_0, (IntKind.i64.wrap (v7_0 + 1)), leafL h hq7, rfl⟩
  ·refine aw_skip<|k15 _<|sr fun _ k19 => pP 9 asg<|en k19<|aw_block<|aw_loop' (fun m s => ∃ (v9_1 : Int), loopN (fun (s : Int) => gleaningref1_AddEdges_l1 a1 a2 v0_s_0 v7_0 x14 s) m v9_1 = some q6 ∧ s = lit [(0, .own 12 0), (1, .sl 10 (List.map enc77 a1)), (2, .int .i64 a2), (7, .int .i64 v7_0), (8, .ptr 8 0 0), (9, .int .i64 v9_1)] [((12, 0), .arr 93 4 false (List.map enc92 v0_s_0)), ((8, 0), .box [.int .u64 x14.Trace.Hi, .int .u64 x14.Trace.Lo, .int .u64 x14.Id, .int .u64 x14.Parent, .str x14.Service, .str x14.Op, .int .i64 x14.Start, .int .i64 x14.Dur, .bool x14.Err, .sl 2 (List.map enc132 x14.Attrs)])] [(8, 1), (12, 1)] X) Fu
    ⟨_, ra [(12, 0), (8, 0)], 0, h, rfl⟩ ?_
   rintro m s ⟨v9_1, h, rfl⟩
   obtain ⟨m1, q20, rfl, h, hq21⟩ := loop_some h
   replace h : gleaningref1_AddEdges_l1 a1 a2 v0_s_0 v7_0 x14 v9_1 = some q20 := h
   refine aw_seq_k fun _ k22 => sr fun _ k23 => pP 26 mv<|pP 27 mv<|pP 28 (zl ty22)<|pP 29 bi<|en k23<|wi 29 h (fun c24 h => ?_) fun c24 h => ?_
   ·refine aw_skip<|k22 _<|aw_seq_k fun _ k25 => aw_block<|sr fun _ k26 => pP 32 mv<|pP 33 mv<|gE h fun g27 h => bE h fun x28 y28 h => pP 34 (ia ty22 ty78 g27 y28)<|pl 35 (.agg [.int .u64 x28.Trace.Hi, .int .u64 x28.Trace.Lo, .int .u64 x28.Id, .int .u64 x28.Parent, .str x28.Service, .str x28.Op, .int .i64 x28.Start, .int .i64 x28.Dur, .bool x28.Err, .sl 2 (List.map enc132 x28.Attrs)]) ty78<|pD 10 (nw ty78)<|pZ (sto [.int .u64 x28.Trace.Hi, .int .u64 x28.Trace.Lo, .int .u64 x28.Id, .int .u64 x28.Parent, .str x28.Service, .str x28.Op, .int .i64 x28.Start, .int .i64 x28.Dur, .bool x28.Err, .sl 2 (List.map enc132 x28.Attrs)] ty78)<|en k26<|bE h fun q29 h hk30 => aw_cut (fun s => ∃ (v51_2 : Bool), gleaningref1_AddEdges_k2 a2 v0_s_0 v7_0 x14 v9_1 x28 v51_2 = some q20 ∧ s = lit [(0, .own 12 0), (1, .sl 10 (List.map enc77 a1)), (2, .int .i64 a2), (7, .int .i64 v7_0), (8, .ptr 8 0 0), (9, .int .i64 v9_1), (10, .ptr 10 0 0), (51, .bool v51_2)] [((12, 0), .arr 93 4 false (List.map enc92 v0_s_0)), ((8, 0), .box [.int .u64 x14.Trace.Hi, .int .u64 x14.Trace.Lo, .int .u64 x14.Id, .int .u64 x14.Parent, .str x14.Service, .str x14.Op, .int .i64 x14.Start, .int .i64 x14.Dur, .bool x14.Err, .sl 2 (List.map enc132 x14.Attrs)]), ((10, 0), .box [.int .u64 x28.Trace.Hi, .int .u64 x28.Trace.Lo, .int .u64 x28.Id, .int .u64 x28.Parent, .str x28.Service, .str x28.Op, .int .i64 x28.Start, .int .i64 x28.Dur, .bool x28.Err, .sl 2 (List.map enc132 x28.Attrs)])] [(8, 1), (10, 1), (12, 1)] X) ?_ ?_
    ·skip
     refine aw_regL<|pl 36 (.agg [.int .u64 x28.Trace.Hi, .int .u64 x28.Trace.Lo, .int .u64 x28.Id, .int .u64 x28.Parent, .str x28.Service, .str x28.Op, .int .i64 x28.Start, .int .i64 x28.Dur, .bool x28.Err, .sl 2 (List.map enc132 x28.Attrs)]) ty78<|bE h fun x31 y31 h => pD 37 (cZ 37 (gleaningref1_RightSpan_ok x28 y31) ent33)<|pP 38 mv<|li 38 h (fun c32 h => ?_) fun c32 h => ?_
     ·refine pP 39 (fa ty78 ty75)<|pl 40 (.agg [.int .u64 x28.Trace.Hi, .int .u64 x28.Trace.Lo]) ty75<|pP 41 (fa ty78 ty75)<|pl 42 (.agg [.int .u64 x14.Trace.Hi, .int .u64 x14.Trace.Lo]) ty75<|pP 43 (does_eq_struct (v := .bool ((x28.Trace.Hi == x14.Trace.Hi) && ((x28.Trace.Lo == x14.Trace.Lo) && true))) W_ W_ fk75 rfl ag75 eg75 W_ rfl)<|pP 44 pc<|pP 45 mv<|li 45 h (fun c33 h => ?_) fun c33 h => ?_
      ·refine pP 46 (fa ty78 ty63)<|pX 47 (ld ty63)<|pP 48 (fa ty78 ty63)<|pX 49 (ld ty63)<|pP 50 bi<|pP 51 pc<|al_nil<|?_
       obtain rfl := Option.some.inj h
       have h := hk30
       exact ⟨_, ra [(12, 0), (8, 0), (10, 0)], (x28.Id == x14.Parent), h, rfl⟩
      ·refine pS 46<|pS 47<|pS 48<|pS 49<|pS 50<|pP 51 pc<|al_nil<|?_
       obtain rfl := Option.some.inj h
       have h := hk30
       exact ⟨_, ra [(12, 0), (8, 0), (10, 0)], false, h, rfl⟩
     ·refine pS 39<|pS 40<|pS 41<|pS 42<|pS 43<|pP 44 pc<|pP 45 mv<|pS 46<|pS 47<|pS 48<|pS 49<|pS 50<|pP 51 pc<|al_nil<|?_
      obtain rfl := Option.some.inj h
      have h := hk30
      exact ⟨_, ra [(12, 0), (8, 0), (10, 0)], false, h, rfl⟩
    ·rintro s ⟨v51_2, h, rfl⟩
     refine wi 51 h (fun c34 h => ?_) fun c34 h => ?_
     ·refine aw_seq_k fun _ k35 => sr fun _ k36 => pP 52 (fa ty78 ty9)<|pX 53 (ld ty9)<|pP 54 (fa ty78 ty9)<|pX 55 (ld ty9)<|pP 56 bi<|en k36<|wi 56 h (fun c37 h => ?_) fun c37 h => ?_
      ·refine aw_regd (by kernel_rfl) (by decide +kernel)<|qP 57 mv<|qP 58 (fa ty78 ty9)<|qR 59 (ld ty9)<|qP 60 (fa ty78 ty9)<|qR 61 (ld ty9)<|qP 62 (fa ty78 ty4)<|qR 63 (ld ty4)<|bE h fun x38 y38 h => qD 64 (cZ 64 (gleaningref1_Bit_ok x14.Err y38) ent73)<|qP 65 (does_conv_int (v := .int .i64 (IntKind.i64.wrap x38)) W_ (ty_some ty63) (ty_int ty3) rfl)<|qP 66 (do_build_struct (cs := [.str x28.Service, .str x14.Service, .int .i64 1, .int .i64 (IntKind.i64.wrap x38)]) ty93 rfl [⟨.str, 1, 16, [.str ByteArray.empty]⟩, ⟨.str, 1, 16, [.str ByteArray.empty]⟩, ⟨.int .i64, 1, 8, [.int .i64 0]⟩, ⟨.int .i64, 1, 8, [.int .i64 0]⟩] (by simp only [List.map, ty3, ty9]) (by rfl) R_)<|qP 67 mv<|bE h fun x39 y39 h => qD 68 (do_callG (bcs := []) [] [] [(12, 0)] 68 false (gleaningref1_edge_ok v0_s_0 (Edge.mk x28.Service x14.Service 1 (IntKind.i64.wrap x38)) a2 y39) rfl ent72 trivial trivial rfl rfl rfl rfl rfl rfl rfl rfl (.inr ⟨rfl, rfl, ⟨plain_map (fun _ => rfl), trivial⟩⟩))<|qP 0 asg<|ao_nil_d (by kernel_rfl)<|k35 _<|aw_exit<|tk (leafR h hq21) fun h => k11 _<|aw_regL<|pP 17 mv<|pP 18 bi<|pP 7 asg<|al_nil<|bk (ra [(68, 0)]) ⟨x39, (IntKind.i64.wrap (v7_0 + 1)), leafL h hq7, rfl⟩
      ·refine aw_skip<|k35 _<|aw_exit<|tk (leafR h hq21) fun h => k11 _<|aw_regL<|pP 17 mv<|pP 18 bi<|pP 7 asg<|al_nil<|bk (ra [(12, 0)]) ⟨v0_s_0, (IntKind.i64.wrap (v7_0 + 1)), leafL h hq7, rfl⟩
     ·refine aw_skip<|k25 _<|aw_regL<|pP 30 mv<|pP 31 bi<|pP 9 asg<|al_nil<|bk (ra [(12, 0), (8, 0)]) ⟨(IntKind.i64.wrap (v9_1 + 1)), leafL h hq21, rfl⟩
   ·refine aw_exit<|tk (leafR h hq21) fun h => k11 _<|aw_regL<|pP 17 mv<|pP 18 bi<|pP 7 asg<|al_nil<|bk (ra [(12, 0)]) ⟨v0_s_0, (IntKind.i64.wrap (v7_0 + 1)), leafL h hq7, rfl⟩
 ·refine aw_exit<|tk (leafR h hq7) fun h => k4 _<|sr fun _ k40 => pP 69 mv<|pP 6 asg<|en k40<|aw_ret<|by cases h;exact rB [(12, 0)]
end Go.Proofs.YtbaibpjffcahiaaGreat.Ab
