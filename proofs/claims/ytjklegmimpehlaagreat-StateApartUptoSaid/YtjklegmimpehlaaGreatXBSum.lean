/- The sum of bytes. -/
import Derived.Test.YtjklegmimpehlaaGreatXSpan2
import Derived.Test.YtjklegmimpehlaaGreatProg
namespace Go.Proofs.YtjklegmimpehlaaGreat.Ab
open Go Go.RowKit
set_option linter.unusedVariables false
set_option linter.unusedSimpArgs false
set_option maxRecDepth 100000
set_option maxHeartbeats 8000000
theorem ty138 : tyOf Tryz.prog 138 = some ⟨.int .u32, 1, 4, [.int .u32 0]⟩ := by kernel_rfl
theorem ent88 : Ent Tryz.prog 88 := eN Tryz.func88
theorem ent89 : Ent Tryz.prog 89 := eN Tryz.func89
theorem ent90 : Ent Tryz.prog 90 := eN Tryz.func90
theorem ent146 : Ent Tryz.prog 146 := eN Tryz.func146
def check_More_l1 (v12_0 : Int) (v5_1 : Int) (v20_1 : Int) : Option ((Int × Int) ⊕ ((Int × Int) ⊕ Int)) :=
 if (decide (v20_1 < 8)) = true then (some (Sum.inl ((bits .xor .u32 (Int.fdiv v5_1 (2 ^ (min (Int.toNat 1) (IntKind.bits .u32)))) (IntKind.u32.wrap (3988292384 * (bits .and .u32 v5_1 1)))), (IntKind.i64.wrap (v20_1 + 1))))) else (some (Sum.inr (Sum.inl (v5_1, (IntKind.i64.wrap (v12_0 + 1))))))
def check_More_l0 (a1 : List UInt8) (v5_0 : Int) (v12_0 : Int) : Option ((Int × Int) ⊕ Int) :=
 if (decide (v12_0 < (List.length a1 : Int))) = true then (gd (0 ≤ v12_0) (Option.bind (a1[(Int.toNat v12_0)]?) (fun (x13 : UInt8) => loopN (fun (s : Int × Int) => check_More_l1 v12_0 s.1 s.2) Fu ((bits .xor .u32 v5_0 (IntKind.u32.wrap (x13.toNat : Int))), 0)))) else (some (Sum.inr (bits .xor .u32 (if IntKind.signed .u32 then -1 else IntKind.max .u32) v5_0)))
def check_More (a0 : Int) (a1 : List UInt8) : Option Int :=
 loopN (fun (s : Int × Int) => check_More_l0 a1 s.1 s.2) Fu ((bits .xor .u32 (if IntKind.signed .u32 then -1 else IntKind.max .u32) a0), 0)
theorem check_More_ok (a0 : Int) (a1 : List UInt8) {r : Int} (h : check_More a0 a1 = some r) : Ok Tryz.prog 146 [.int .u32 a0, .sl 1 (List.map enc5 a1)] [] [] (.int .u32 r) [] [] := by
 unfold check_More at h
 refine oK Tryz.func146 rfl fun X => sr fun _ k1 => pP 4 asg<|en k1<|sr fun _ k2 => pP 8 mv<|pP 9 un<|pP 5 asg<|en k2<|aw_seq_k fun _ k3 => sr fun _ k4 => pP 10 mv<|pP 11 (zl ty35)<|pP 12 mv<|en k4<|aw_block<|aw_loop' (fun m s => ∃ (v5_0 : Int), ∃ (v12_0 : Int), loopN (fun (s : Int × Int) => check_More_l0 a1 s.1 s.2) m (v5_0, v12_0) = some r ∧ s = lit [(5, .int .u32 v5_0), (10, .sl 1 (List.map enc5 a1)), (11, .int .i64 (List.length a1 : Int)), (12, .int .i64 v12_0)] [] [] X) Fu
  ⟨_, ra [], (bits .xor .u32 (if IntKind.signed .u32 then -1 else IntKind.max .u32) a0), 0, h, rfl⟩ ?_
 rintro m s ⟨v5_0, v12_0, h, rfl⟩
 obtain ⟨m0, q5, rfl, h, hq6⟩ := loop_some h
 replace h : check_More_l0 a1 v5_0 v12_0 = some q5 := h
 refine sr fun _ k7 => pP 13 bi<|en k7<|aw_seq_k fun _ k8 => wi 13 h (fun c9 h => ?_) fun c9 h => ?_
 ·refine aw_skip<|k8 _<|aw_seq_k fun _ k10 => aw_block<|sr fun _ k11 => gE h fun g12 h => bE h fun x13 y13 h => pP 14 (ia ty35 ty5 g12 y13)<|pX 15 (ld ty5)<|pP 7 asg<|en k11<|sr fun _ k14 => pP 16 mv<|pP 17 mv<|pP 18 (does_conv_int (v := .int .u32 (IntKind.u32.wrap (x13.toNat : Int))) W_ (ty_some ty5) (ty_int ty138) rfl)<|pP 19 bi<|pP 5 asg<|en k14<|sr fun _ k15 => pP 20 mv<|en k15<|aw_block<|aw_loop' (fun m s => ∃ (v5_1 : Int), ∃ (v20_1 : Int), loopN (fun (s : Int × Int) => check_More_l1 v12_0 s.1 s.2) m (v5_1, v20_1) = some q5 ∧ s = lit [(5, .int .u32 v5_1), (10, .sl 1 (List.map enc5 a1)), (11, .int .i64 (List.length a1 : Int)), (12, .int .i64 v12_0), (20, .int .i64 v20_1)] [] [] X) Fu
   ⟨_, ra [], (bits .xor .u32 v5_0 (IntKind.u32.wrap (x13.toNat : Int))), 0, h, rfl⟩ ?_
  rintro m s ⟨v5_1, v20_1, h, rfl⟩
  obtain ⟨m1, q16, rfl, h, hq17⟩ := loop_some h
  replace h : check_More_l1 v12_0 v5_1 v20_1 = some q16 := h
  refine sr fun _ k18 => pP 21 bi<|en k18<|aw_seq_k fun _ k19 => wi 21 h (fun c20 h => ?_) fun c20 h => ?_
  ·refine aw_skip<|k19 _<|aw_seq_k fun _ k21 => aw_block<|aw_regL<|pP 22 mv<|pP 23 bi<|pP 24 mv<|pP 25 bi<|pP 26 bi<|pP 27 bi<|pP 5 asg<|en k21<|aw_regL<|pP 28 bi<|pP 20 mv<|al_nil<|bk (ra []) ⟨(bits .xor .u32 (Int.fdiv v5_1 (2 ^ (min (Int.toNat 1) (IntKind.bits .u32)))) (IntKind.u32.wrap (3988292384 * (bits .and .u32 v5_1 1)))), (IntKind.i64.wrap (v20_1 + 1)), leafL h hq17, rfl⟩
  ·refine aw_exit<|tk (leafR h hq17) fun h => k10 _<|aw_regL<|pP 29 bi<|pP 12 mv<|al_nil<|bk (ra []) ⟨v5_1, (IntKind.i64.wrap (v12_0 + 1)), leafL h hq6, rfl⟩
 ·refine aw_exit<|tk (leafR h hq6) fun h => k3 _<|sr fun _ k22 => pP 30 mv<|pP 31 un<|pP 4 asg<|en k22<|aw_ret<|by cases h;exact rk
def check_Sum (a0 : List UInt8) : Option Int :=
 Option.bind (check_More 0 a0) (fun (x3 : Int) => some x3)
theorem check_Sum_ok (a0 : List UInt8) {r : Int} (h : check_Sum a0 = some r) : Ok Tryz.prog 89 [.sl 1 (List.map enc5 a0)] [] [] (.int .u32 r) [] [] := by
 refine oK Tryz.func89 rfl fun X => sr fun _ k1 => pP 2 asg<|en k1<|sr fun _ k2 => pP 3 mv<|bE h fun x3 y3 h => pD 4 (cZ 4 (check_More_ok 0 a0 y3) ent146)<|pP 2 asg<|en k2<|aw_ret<|by cases h;exact rk
def check_Put_l0 (a1 : Int) (v0_s_0 : List UInt8) (v6_0 : Int) : Option ((List UInt8 × Int) ⊕ (List UInt8)) :=
 if (decide (v6_0 < 4)) = true then (gd (¬ (IntKind.i64.wrap (8 * v6_0)) < 0) (gd ((List.length (v0_s_0 ++ [(u8 (IntKind.u8.wrap (Int.fdiv a1 (2 ^ (min (Int.toNat (IntKind.i64.wrap (8 * v6_0))) (IntKind.bits .u32))))))])) * 1 ≤ 140737488355328 ∧ (List.length (v0_s_0 ++ [(u8 (IntKind.u8.wrap (Int.fdiv a1 (2 ^ (min (Int.toNat (IntKind.i64.wrap (8 * v6_0))) (IntKind.bits .u32))))))])) ≤ 140737488355328) (some (Sum.inl ((v0_s_0 ++ [(u8 (IntKind.u8.wrap (Int.fdiv a1 (2 ^ (min (Int.toNat (IntKind.i64.wrap (8 * v6_0))) (IntKind.bits .u32))))))]), (IntKind.i64.wrap (v6_0 + 1))))))) else (some (Sum.inr v0_s_0))
def check_Put (a0 : List UInt8) (a1 : Int) : Option (List UInt8) :=
 loopN (fun (s : List UInt8 × Int) => check_Put_l0 a1 s.1 s.2) Fu (a0, 0)
theorem check_Put_ok (a0 : List UInt8) (a1 : Int) {r : List UInt8} (h : check_Put a0 a1 = some r) : Ok Tryz.prog 88 [.own 1 0, .int .u32 a1] [] [(5, 1, List.map enc5 a0)] (.own 2 0) [] [(5, 1, List.map enc5 r)] := by
 unfold check_Put at h
 refine oK Tryz.func88 rfl fun X => sr fun _ k1 => pP 4 asg<|en k1<|aw_seq_k fun _ k2 => sr fun _ k3 => pP 6 mv<|en k3<|aw_block<|aw_loop' (fun m s => ∃ (v0_s_0 : List UInt8), ∃ (v6_0 : Int), loopN (fun (s : List UInt8 × Int) => check_Put_l0 a1 s.1 s.2) m (v0_s_0, v6_0) = some r ∧ s = lit [(0, .own 1 0), (1, .int .u32 a1), (6, .int .i64 v6_0)] [((1, 0), .arr 5 1 false (List.map enc5 v0_s_0))] [(1, 1)] X) Fu
  ⟨_, ra [(1, 0)], a0, 0, h, rfl⟩ ?_
 rintro m s ⟨v0_s_0, v6_0, h, rfl⟩
 obtain ⟨m0, q4, rfl, h, hq5⟩ := loop_some h
 replace h : check_Put_l0 a1 v0_s_0 v6_0 = some q4 := h
 refine sr fun _ k6 => pP 7 bi<|en k6<|aw_seq_k fun _ k7 => wi 7 h (fun c8 h => ?_) fun c8 h => ?_
 ·refine aw_skip<|k7 _<|aw_seq_k fun _ k9 => aw_block<|sr fun _ k10 => pP 8 mv<|pP 5 asg<|en k10<|aw_regL<|pP 9 mv<|pP 10 mv<|pP 11 mv<|pP 12 bi<|gE h fun g11 h => pP 13 (does_bin (v := .int .u32 (Int.fdiv a1 (2 ^ (min (Int.toNat (IntKind.i64.wrap (8 * v6_0))) (IntKind.bits .u32))))) W_ W_ (shr_hv g11))<|pP 14 ((does_conv_int (v := .int .u8 (IntKind.u8.wrap (Int.fdiv a1 (2 ^ (min (Int.toNat (IntKind.i64.wrap (8 * v6_0))) (IntKind.bits .u32)))))) W_ (ty_some ty138) (ty_int ty5) rfl).castp (v' := .int .u8 ((u8 (IntKind.u8.wrap (Int.fdiv a1 (2 ^ (min (Int.toNat (IntKind.i64.wrap (8 * v6_0))) (IntKind.bits .u32)))))).toNat : Int)) (by exact congrArg _ (u8_eq (u8_wrap _))))<|pD 15 (bs (List.map enc5 [(u8 (IntKind.u8.wrap (Int.fdiv a1 (2 ^ (min (Int.toNat (IntKind.i64.wrap (8 * v6_0))) (IntKind.bits .u32))))))]) ty35 ty5 rfl)<|gE h fun g12 h => pD 16 (do_append (v := List.map enc5 (v0_s_0 ++ [(u8 (IntKind.u8.wrap (Int.fdiv a1 (2 ^ (min (Int.toNat (IntKind.i64.wrap (8 * v6_0))) (IntKind.bits .u32))))))])) W_ W_ ty35 ty5 rfl rfl W_ (by first | exact .inl rfl | exact .inr ⟨rfl, rfl⟩) W_ (by first | exact .inr rfl | exact .inl rfl) (map_app _ _) (fit_map g12))<|pP 0 asg<|en k9<|aw_regL<|pP 17 bi<|pP 6 mv<|al_nil<|bk (ra [(16, 0)]) ⟨(v0_s_0 ++ [(u8 (IntKind.u8.wrap (Int.fdiv a1 (2 ^ (min (Int.toNat (IntKind.i64.wrap (8 * v6_0))) (IntKind.bits .u32))))))]), (IntKind.i64.wrap (v6_0 + 1)), leafL h hq5, rfl⟩
 ·refine aw_exit<|tk (leafR h hq5) fun h => k2 _<|sr fun _ k13 => pP 18 mv<|pP 4 asg<|en k13<|aw_ret<|by cases h;exact rB [(1, 0)]
def check_Seal (a0 : List UInt8) : Option (List UInt8) :=
 gd ((List.length a0) * 1 ≤ 140737488355328 ∧ (List.length a0) ≤ 140737488355328) (Option.bind (check_Sum a0) (fun (x4 : Int) => Option.bind (check_Put a0 x4) (fun (x5 : List UInt8) => some x5)))
theorem check_Seal_ok (a0 : List UInt8) {r : List UInt8} (h : check_Seal a0 = some r) : Ok Tryz.prog 33 [.sl 1 (List.map enc5 a0)] [] [] (.own 2 0) [] [(5, 1, List.map enc5 r)] := by
 refine oK Tryz.func33 rfl fun X => sr fun _ k1 => pP 2 asg<|en k1<|sr fun _ k2 => pP 3 mv<|gE h fun g3 h => pD 4 (do_append (v := List.map enc5 a0) W_ W_ ty35 ty5 rfl rfl W_ (by first | exact .inl rfl | exact .inr ⟨rfl, rfl⟩) W_ (by first | exact .inr rfl | exact .inl rfl) (List.nil_append _) (fit_map g3))<|pP 5 mv<|bE h fun x4 y4 h => pD 6 (cZ 6 (check_Sum_ok a0 y4) ent89)<|bE h fun x5 y5 h => pD 7 (do_callG (bcs := []) [] [(4, 0)] [] 7 false (check_Put_ok a0 x4 y5) rfl ent88 trivial (rowsOk_cons W_ R_ trivial) rfl rfl rfl rfl rfl rfl rfl rfl (.inr ⟨rfl, rfl, ⟨plain_map (fun _ => rfl), trivial⟩⟩))<|pP 2 asg<|en k2<|aw_ret<|by cases h;exact rB [(7, 0)]
def check_Get_l0 (a0 : List UInt8) (v4_0 : Int) (v9_0 : Int) : Option ((Int × Int) ⊕ (Int × Bool)) :=
 if (decide (v9_0 < 4)) = true then (gd (0 ≤ v9_0) (Option.bind (a0[(Int.toNat v9_0)]?) (fun (x17 : UInt8) => gd (¬ (IntKind.i64.wrap (8 * v9_0)) < 0) (some (Sum.inl ((bits .or .u32 v4_0 (IntKind.u32.wrap ((IntKind.u32.wrap (x17.toNat : Int)) * 2 ^ (min (Int.toNat (IntKind.i64.wrap (8 * v9_0))) (IntKind.bits .u32))))), (IntKind.i64.wrap (v9_0 + 1)))))))) else (some (Sum.inr (v4_0, true)))
def check_Get (a0 : List UInt8) : Option (Int × Bool) :=
 if (decide ((List.length a0 : Int) < 4)) = true then (some (0, false)) else (loopN (fun (s : Int × Int) => check_Get_l0 a0 s.1 s.2) Fu (0, 0))
theorem check_Get_ok (a0 : List UInt8) {r : Int × Bool} (h : check_Get a0 = some r) : Ok Tryz.prog 90 [.sl 1 (List.map enc5 a0)] [] [] (.tup [.int .u32 r.1, .bool r.2]) [] [] := by
 refine oK Tryz.func90 rfl fun X => sr fun _ k1 => pP 2 asg<|pP 3 asg<|en k1<|aw_seq_k fun _ k2 => sr fun _ k3 => pP 6 mv<|pP 7 (zl ty35)<|pP 8 bi<|en k3<|wi 8 h (fun c4 h => ?_) fun c4 h => ?_
 ·refine sr fun _ k5 => pP 2 asg<|pP 3 asg<|en k5<|aw_ret<|by cases h;exact rk
 ·refine aw_skip<|k2 _<|sr fun _ k6 => pP 4 asg<|en k6<|aw_seq_k fun _ k7 => sr fun _ k8 => pP 9 mv<|en k8<|aw_block<|aw_loop' (fun m s => ∃ (v4_0 : Int), ∃ (v9_0 : Int), loopN (fun (s : Int × Int) => check_Get_l0 a0 s.1 s.2) m (v4_0, v9_0) = some r ∧ s = lit [(0, .sl 1 (List.map enc5 a0)), (4, .int .u32 v4_0), (9, .int .i64 v9_0)] [] [] X) Fu
   ⟨_, ra [], 0, 0, h, rfl⟩ ?_
  rintro m s ⟨v4_0, v9_0, h, rfl⟩
  obtain ⟨m0, q9, rfl, h, hq10⟩ := loop_some h
  replace h : check_Get_l0 a0 v4_0 v9_0 = some q9 := h
  refine sr fun _ k11 => pP 10 bi<|en k11<|aw_seq_k fun _ k12 => wi 10 h (fun c13 h => ?_) fun c13 h => ?_
  ·refine aw_skip<|k12 _<|aw_seq_k fun _ k14 => aw_block<|sr fun _ k15 => pP 11 mv<|pP 5 asg<|en k15<|aw_regL<|pP 12 mv<|pP 13 mv<|pP 14 mv<|gE h fun g16 h => bE h fun x17 y17 h => pP 15 (ia ty35 ty5 g16 y17)<|pX 16 (ld ty5)<|pP 17 (does_conv_int (v := .int .u32 (IntKind.u32.wrap (x17.toNat : Int))) W_ (ty_some ty5) (ty_int ty138) rfl)<|pP 18 mv<|pP 19 bi<|gE h fun g18 h => pP 20 (does_bin (v := .int .u32 (IntKind.u32.wrap ((IntKind.u32.wrap (x17.toNat : Int)) * 2 ^ (min (Int.toNat (IntKind.i64.wrap (8 * v9_0))) (IntKind.bits .u32))))) W_ W_ (shl_hv g18))<|pP 21 bi<|pP 4 asg<|en k14<|aw_regL<|pP 22 bi<|pP 9 mv<|al_nil<|bk (ra []) ⟨(bits .or .u32 v4_0 (IntKind.u32.wrap ((IntKind.u32.wrap (x17.toNat : Int)) * 2 ^ (min (Int.toNat (IntKind.i64.wrap (8 * v9_0))) (IntKind.bits .u32))))), (IntKind.i64.wrap (v9_0 + 1)), leafL h hq10, rfl⟩
  ·refine aw_exit<|tk (leafR h hq10) fun h => k7 _<|sr fun _ k19 => pP 23 mv<|pP 2 asg<|pP 3 asg<|en k19<|aw_ret<|by cases h;exact rk
def check_Open (a0 : List UInt8) : Option (List UInt8 × Bool) :=
 if (decide ((IntKind.i64.wrap ((List.length a0 : Int) - 4)) < 0)) = true then (some ([], false)) else (gd (0 ≤ (IntKind.i64.wrap ((List.length a0 : Int) - 4))) (gd ((IntKind.i64.wrap ((List.length a0 : Int) - 4)) ≤ (List.length a0 : Int)) (Option.bind (check_Get (List.drop (Int.toNat (IntKind.i64.wrap ((List.length a0 : Int) - 4))) a0)) (fun (x10 : Int × Bool) => gd (0 ≤ (IntKind.i64.wrap ((List.length a0 : Int) - 4))) (gd ((IntKind.i64.wrap ((List.length a0 : Int) - 4)) ≤ (List.length a0 : Int)) (if x10.2 = true then (gd (0 ≤ (IntKind.i64.wrap ((List.length a0 : Int) - 4))) (gd ((IntKind.i64.wrap ((List.length a0 : Int) - 4)) ≤ (List.length a0 : Int)) (Option.bind (check_Sum (List.take (Int.toNat (IntKind.i64.wrap ((List.length a0 : Int) - 4))) a0)) (fun (x17 : Int) => some ((List.take (Int.toNat (IntKind.i64.wrap ((List.length a0 : Int) - 4))) a0), (x10.1 == x17)))))) else (some ((List.take (Int.toNat (IntKind.i64.wrap ((List.length a0 : Int) - 4))) a0), false))))))))
theorem check_Open_ok (a0 : List UInt8) {r : List UInt8 × Bool} (h : check_Open a0 = some r) : Ok Tryz.prog 34 [.sl 1 (List.map enc5 a0)] [] [] (.tup [.sl 1 (List.map enc5 r.1), .bool r.2]) [] [] := by
 refine oK Tryz.func34 rfl fun X => sr fun _ k1 => pP 2 asg<|pP 3 asg<|en k1<|sr fun _ k2 => pP 7 mv<|pP 8 (zl ty35)<|pP 9 bi<|pP 4 asg<|en k2<|aw_seq_k fun _ k3 => sr fun _ k4 => pP 10 mv<|pP 11 bi<|en k4<|wi 11 h (fun c5 h => ?_) fun c5 h => ?_
 ·refine sr fun _ k6 => pP 2 asg<|pP 3 asg<|en k6<|aw_reb (reb_w (tl' := [(2, .sl 1 (List.map enc5 [])), (3, .bool false)]) (ol' := []) (ra (tl := [(2, .nil), (3, .bool false)]) (ol := []) (nx := []) []) ⟨rfl, (le_nil _), rfl, le_refl _, trivial⟩ trivial)<|aw_ret<|by cases h;exact rk
 ·refine aw_skip<|k3 _<|sr fun _ k7 => pP 13 mv<|pP 14 mv<|gE h fun g8 h => gE h fun g9 h => pP 15 (does_slice_sl (l := (Int.toNat (IntKind.i64.wrap ((List.length a0 : Int) - 4)))) W_ ty35 ty5 (bd_some W_ (by exact (nat_of g8))) bd_none (by (try simp only [List.length_map]); omega) (by (try simp only [List.length_map]); omega) (by exact part_l _ _))<|bE h fun x10 y10 h => pD 16 (cZ 16 (check_Get_ok (List.drop (Int.toNat (IntKind.i64.wrap ((List.length a0 : Int) - 4))) a0) y10) ent90)<|pP 12 mv<|pP 17 ex<|pP 18 ex<|pP 5 asg<|pP 6 asg<|en k7<|aw_seq_k fun _ k11 => aw_regd (by kernel_rfl) (by decide +kernel)<|qP 19 mv<|qP 20 mv<|gE h fun g12 h => gE h fun g13 h => qP 21 (does_slice_sl (l := 0) (k := (Int.toNat (IntKind.i64.wrap ((List.length a0 : Int) - 4)))) W_ ty35 ty5 bd_none (bd_some W_ (by exact (nat_of (by omega)))) (by (try simp only [List.length_map]); omega) (by (try simp only [List.length_map]); omega) (by exact part_h _ _))<|qP 22 mv<|qP 23 mv<|ao_bool (c := x10.2) 23 rfl (fun c14 => ?_) (fun c14 => ?_)
  ·have h := ifT c14 h
   refine qP 24 mv<|qP 25 mv<|qP 26 mv<|gE h fun g15 h => gE h fun g16 h => qP 27 (does_slice_sl (l := 0) (k := (Int.toNat (IntKind.i64.wrap ((List.length a0 : Int) - 4)))) W_ ty35 ty5 bd_none (bd_some W_ (by exact (nat_of (by omega)))) (by (try simp only [List.length_map]); omega) (by (try simp only [List.length_map]); omega) (by exact part_h _ _))<|bE h fun x17 y17 h => qD 28 (cZ 28 (check_Sum_ok (List.take (Int.toNat (IntKind.i64.wrap ((List.length a0 : Int) - 4))) a0) y17) ent89)<|qP 29 bi<|qP 30 pc<|qP 2 asg<|qP 3 asg<|ao_nil_d (by kernel_rfl)<|k11 _<|aw_ret<|by cases h;exact rk
  ·have h := ifF c14 h
   refine qS 24<|qS 25<|qS 26<|qS 27<|qS 28<|qS 29<|qP 30 pc<|qP 2 asg<|qP 3 asg<|ao_nil_d (by kernel_rfl)<|k11 _<|aw_ret<|by cases h;exact rk
end Go.Proofs.YtjklegmimpehlaaGreat.Ab
