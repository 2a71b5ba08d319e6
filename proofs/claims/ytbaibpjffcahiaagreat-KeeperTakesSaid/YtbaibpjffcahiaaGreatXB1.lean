/- Batches as bytes. -/
import Derived.Test.YtbaibpjffcahiaaGreatXSpan2
import Derived.Test.YtbaibpjffcahiaaGreatProg
namespace Go.Proofs.YtbaibpjffcahiaaGreat.Ab
open Go Go.RowKit
set_option linter.unusedVariables false
set_option linter.unusedSimpArgs false
set_option maxRecDepth 100000
set_option maxHeartbeats 8000000
theorem ty156 : tyOf Tryz.prog 156 = some ⟨.int .u32, 1, 4, [.int .u32 0]⟩ := by kernel_rfl
theorem ent88 : Ent Tryz.prog 88 := eN Tryz.func88
theorem ent89 : Ent Tryz.prog 89 := eN Tryz.func89
theorem ent108 : Ent Tryz.prog 108 := eN Tryz.func108
def check_More_l1 (v12_0 : Int) (v5_1 : Int) (v20_1 : Int) : Option ((Int × Int) ⊕ ((Int × Int) ⊕ Int)) :=
 if (decide (v20_1 < 8)) = true then (some (Sum.inl ((bits .xor .u32 (Int.fdiv v5_1 (2 ^ (min (Int.toNat 1) (IntKind.bits .u32)))) (IntKind.u32.wrap (3988292384 * (bits .and .u32 v5_1 1)))), (IntKind.i64.wrap (v20_1 + 1))))) else (some (Sum.inr (Sum.inl (v5_1, (IntKind.i64.wrap (v12_0 + 1))))))
def check_More_l0 (a1 : List UInt8) (v5_0 : Int) (v12_0 : Int) : Option ((Int × Int) ⊕ Int) :=
 if (decide (v12_0 < (List.length a1 : Int))) = true then (gd (0 ≤ v12_0) (Option.bind (a1[(Int.toNat v12_0)]?) (fun (x13 : UInt8) => loopN (fun (s : Int × Int) => check_More_l1 v12_0 s.1 s.2) Fu ((bits .xor .u32 v5_0 (IntKind.u32.wrap (x13.toNat : Int))), 0)))) else (some (Sum.inr (bits .xor .u32 (if IntKind.signed .u32 then -1 else IntKind.max .u32) v5_0)))
def check_More (a0 : Int) (a1 : List UInt8) : Option Int :=
 loopN (fun (s : Int × Int) => check_More_l0 a1 s.1 s.2) Fu ((bits .xor .u32 (if IntKind.signed .u32 then -1 else IntKind.max .u32) a0), 0)
theorem check_More_ok (a0 : Int) (a1 : List UInt8) {r : Int} (h : check_More a0 a1 = some r) : Ok Tryz.prog 108 [.int .u32 a0, .sl 1 (List.map enc5 a1)] [] [] (.int .u32 r) [] [] := by
 unfold check_More at h
 refine oK Tryz.func108 rfl fun X => sr fun _ k1 => pP 4 asg<|en k1<|sr fun _ k2 => pP 8 mv<|pP 9 un<|pP 5 asg<|en k2<|aw_seq_k fun _ k3 => sr fun _ k4 => pP 10 mv<|pP 11 (zl ty46)<|pP 12 mv<|en k4<|aw_block<|aw_loop' (fun m s => ∃ (v5_0 : Int), ∃ (v12_0 : Int), loopN (fun (s : Int × Int) => check_More_l0 a1 s.1 s.2) m (v5_0, v12_0) = some r ∧ s = lit [(5, .int .u32 v5_0), (10, .sl 1 (List.map enc5 a1)), (11, .int .i64 (List.length a1 : Int)), (12, .int .i64 v12_0)] [] [] X) Fu
  ⟨_, ra [], (bits .xor .u32 (if IntKind.signed .u32 then -1 else IntKind.max .u32) a0), 0, h, rfl⟩ ?_
 rintro m s ⟨v5_0, v12_0, h, rfl⟩
 obtain ⟨m0, q5, rfl, h, hq6⟩ := loop_some h
 replace h : check_More_l0 a1 v5_0 v12_0 = some q5 := h
 refine sr fun _ k7 => pP 13 bi<|en k7<|aw_seq_k fun _ k8 => wi 13 h (fun c9 h => ?_) fun c9 h => ?_
 ·refine aw_skip<|k8 _<|aw_seq_k fun _ k10 => aw_block<|sr fun _ k11 => gE h fun g12 h => bE h fun x13 y13 h => pP 14 (ia ty46 ty5 g12 y13)<|pX 15 (ld ty5)<|pP 7 asg<|en k11<|sr fun _ k14 => pP 16 mv<|pP 17 mv<|pP 18 (does_conv_int (v := .int .u32 (IntKind.u32.wrap (x13.toNat : Int))) W_ (ty_some ty5) (ty_int ty156) rfl)<|pP 19 bi<|pP 5 asg<|en k14<|sr fun _ k15 => pP 20 mv<|en k15<|aw_block<|aw_loop' (fun m s => ∃ (v5_1 : Int), ∃ (v20_1 : Int), loopN (fun (s : Int × Int) => check_More_l1 v12_0 s.1 s.2) m (v5_1, v20_1) = some q5 ∧ s = lit [(5, .int .u32 v5_1), (10, .sl 1 (List.map enc5 a1)), (11, .int .i64 (List.length a1 : Int)), (12, .int .i64 v12_0), (20, .int .i64 v20_1)] [] [] X) Fu
   ⟨_, ra [], (bits .xor .u32 v5_0 (IntKind.u32.wrap (x13.toNat : Int))), 0, h, rfl⟩ ?_
  rintro m s ⟨v5_1, v20_1, h, rfl⟩
  obtain ⟨m1, q16, rfl, h, hq17⟩ := loop_some h
  replace h : check_More_l1 v12_0 v5_1 v20_1 = some q16 := h
  refine sr fun _ k18 => pP 21 bi<|en k18<|aw_seq_k fun _ k19 => wi 21 h (fun c20 h => ?_) fun c20 h => ?_
  ·refine aw_skip<|k19 _<|aw_seq_k fun _ k21 => aw_block<|aw_regL<|pP 22 mv<|pP 23 bi<|pP 24 mv<|pP 25 bi<|pP 26 bi<|pP 27 bi<|pP 5 asg<|en k21<|aw_regL<|pP 28 bi<|pP 20 mv<|al_nil<|bk (ra []) ⟨(bits .xor .u32 (Int.fdiv v5_1 (2 ^ (min (Int.toNat 1) (IntKind.bits .u32)))) (IntKind.u32.wrap (3988292384 * (bits .and .u32 v5_1 1)))), (IntKind.i64.wrap (v20_1 + 1)), leafL h hq17, rfl⟩
  ·refine aw_exit<|tk (leafR h hq17) fun h => k10 _<|aw_regL<|pP 29 bi<|pP 12 mv<|al_nil<|bk (ra []) ⟨v5_1, (IntKind.i64.wrap (v12_0 + 1)), leafL h hq6, rfl⟩
 ·refine aw_exit<|tk (leafR h hq6) fun h => k3 _<|sr fun _ k22 => pP 30 mv<|pP 31 un<|pP 4 asg<|en k22<|aw_ret<|by cases h;exact rk
def check_Sum (a0 : List UInt8) : Option Int :=
 Option.bind (check_More 0 a0) (fun (x3 : Int) => some x3)
theorem check_Sum_ok (a0 : List UInt8) {r : Int} (h : check_Sum a0 = some r) : Ok Tryz.prog 89 [.sl 1 (List.map enc5 a0)] [] [] (.int .u32 r) [] [] := by
 refine oK Tryz.func89 rfl fun X => sr fun _ k1 => pP 2 asg<|en k1<|sr fun _ k2 => pP 3 mv<|bE h fun x3 y3 h => pD 4 (cZ 4 (check_More_ok 0 a0 y3) ent108)<|pP 2 asg<|en k2<|aw_ret<|by cases h;exact rk
def check_Put_l0 (a1 : Int) (v0_s_0 : List UInt8) (v6_0 : Int) : Option ((List UInt8 × Int) ⊕ (List UInt8)) :=
 if (decide (v6_0 < 4)) = true then (gd (¬ (IntKind.i64.wrap (8 * v6_0)) < 0) (gd ((List.length (v0_s_0 ++ [(u8 (IntKind.u8.wrap (Int.fdiv a1 (2 ^ (min (Int.toNat (IntKind.i64.wrap (8 * v6_0))) (IntKind.bits .u32))))))])) * 1 ≤ 140737488355328 ∧ (List.length (v0_s_0 ++ [(u8 (IntKind.u8.wrap (Int.fdiv a1 (2 ^ (min (Int.toNat (IntKind.i64.wrap (8 * v6_0))) (IntKind.bits .u32))))))])) ≤ 140737488355328) (some (Sum.inl ((v0_s_0 ++ [(u8 (IntKind.u8.wrap (Int.fdiv a1 (2 ^ (min (Int.toNat (IntKind.i64.wrap (8 * v6_0))) (IntKind.bits .u32))))))]), (IntKind.i64.wrap (v6_0 + 1))))))) else (some (Sum.inr v0_s_0))
def check_Put (a0 : List UInt8) (a1 : Int) : Option (List UInt8) :=
 loopN (fun (s : List UInt8 × Int) => check_Put_l0 a1 s.1 s.2) Fu (a0, 0)
theorem check_Put_ok (a0 : List UInt8) (a1 : Int) {r : List UInt8} (h : check_Put a0 a1 = some r) : Ok Tryz.prog 88 [.own 1 0, .int .u32 a1] [] [(5, 1, List.map enc5 a0)] (.own 2 0) [] [(5, 1, List.map enc5 r)] := by
 unfold check_Put at h
 refine oK Tryz.func88 rfl fun X => sr fun _ k1 => pP 4 asg<|en k1<|aw_seq_k fun _ k2 => sr fun _ k3 => pP 6 mv<|en k3<|aw_block<|aw_loop' (fun m s => ∃ (v0_s_0 : List UInt8), ∃ (v6_0 : Int), loopN (fun (s : List UInt8 × Int) => check_Put_l0 a1 s.1 s.2) m (v0_s_0, v6_0) = some r ∧ s = lit [(0, .own 1 0), (1, .int .u32 a1), (6, .int .i64 v6_0)] [((1, 0), .arr 5 1 false (List.map enc5 v0_s_0))] [(1, 1)] X) Fu
  ⟨_, ra [(1, 0)], a0, 0, h, rfl⟩ ?_
 rintro m s ⟨v0_s_0, v6_0, h, rfl⟩
 obtain ⟨m0, q4, rfl, h, hq5⟩ := loop_some h
 replace h : check_Put_l0 a1 v0_s_0 v6_0 = some q4 := h
 refine sr fun _ k6 => pP 7 bi<|en k6<|aw_seq_k fun _ k7 => wi 7 h (fun c8 h => ?_) fun c8 h => ?_
 ·refine aw_skip<|k7 _<|aw_seq_k fun _ k9 => aw_block<|sr fun _ k10 => pP 8 mv<|pP 5 asg<|en k10<|aw_regL<|pP 9 mv<|pP 10 mv<|pP 11 mv<|pP 12 bi<|gE h fun g11 h => pP 13 (does_bin (v := .int .u32 (Int.fdiv a1 (2 ^ (min (Int.toNat (IntKind.i64.wrap (8 * v6_0))) (IntKind.bits .u32))))) W_ W_ (shr_hv g11))<|pP 14 ((does_conv_int (v := .int .u8 (IntKind.u8.wrap (Int.fdiv a1 (2 ^ (min (Int.toNat (IntKind.i64.wrap (8 * v6_0))) (IntKind.bits .u32)))))) W_ (ty_some ty156) (ty_int ty5) rfl).castp (v' := .int .u8 ((u8 (IntKind.u8.wrap (Int.fdiv a1 (2 ^ (min (Int.toNat (IntKind.i64.wrap (8 * v6_0))) (IntKind.bits .u32)))))).toNat : Int)) (by exact congrArg _ (u8_eq (u8_wrap _))))<|pD 15 (bs (List.map enc5 [(u8 (IntKind.u8.wrap (Int.fdiv a1 (2 ^ (min (Int.toNat (IntKind.i64.wrap (8 * v6_0))) (IntKind.bits .u32))))))]) ty46 ty5 rfl)<|gE h fun g12 h => pD 16 (do_append (v := List.map enc5 (v0_s_0 ++ [(u8 (IntKind.u8.wrap (Int.fdiv a1 (2 ^ (min (Int.toNat (IntKind.i64.wrap (8 * v6_0))) (IntKind.bits .u32))))))])) W_ W_ ty46 ty5 rfl rfl W_ (by first | exact .inl rfl | exact .inr ⟨rfl, rfl⟩) W_ (by first | exact .inr rfl | exact .inl rfl) (map_app _ _) (fit_map g12))<|pP 0 asg<|en k9<|aw_regL<|pP 17 bi<|pP 6 mv<|al_nil<|bk (ra [(16, 0)]) ⟨(v0_s_0 ++ [(u8 (IntKind.u8.wrap (Int.fdiv a1 (2 ^ (min (Int.toNat (IntKind.i64.wrap (8 * v6_0))) (IntKind.bits .u32))))))]), (IntKind.i64.wrap (v6_0 + 1)), leafL h hq5, rfl⟩
 ·refine aw_exit<|tk (leafR h hq5) fun h => k2 _<|sr fun _ k13 => pP 18 mv<|pP 4 asg<|en k13<|aw_ret<|by cases h;exact rB [(1, 0)]
def check_Seal (a0 : List UInt8) : Option (List UInt8) :=
 gd ((List.length a0) * 1 ≤ 140737488355328 ∧ (List.length a0) ≤ 140737488355328) (Option.bind (check_Sum a0) (fun (x4 : Int) => Option.bind (check_Put a0 x4) (fun (x5 : List UInt8) => some x5)))
theorem check_Seal_ok (a0 : List UInt8) {r : List UInt8} (h : check_Seal a0 = some r) : Ok Tryz.prog 58 [.sl 1 (List.map enc5 a0)] [] [] (.own 2 0) [] [(5, 1, List.map enc5 r)] := by
 refine oK Tryz.func58 rfl fun X => sr fun _ k1 => pP 2 asg<|en k1<|sr fun _ k2 => pP 3 mv<|gE h fun g3 h => pD 4 (do_append (v := List.map enc5 a0) W_ W_ ty46 ty5 rfl rfl W_ (by first | exact .inl rfl | exact .inr ⟨rfl, rfl⟩) W_ (by first | exact .inr rfl | exact .inl rfl) (List.nil_append _) (fit_map g3))<|pP 5 mv<|bE h fun x4 y4 h => pD 6 (cZ 6 (check_Sum_ok a0 y4) ent89)<|bE h fun x5 y5 h => pD 7 (do_callG (bcs := []) [] [(4, 0)] [] 7 false (check_Put_ok a0 x4 y5) rfl ent88 trivial (rowsOk_cons W_ R_ trivial) rfl rfl rfl rfl rfl rfl rfl rfl (.inr ⟨rfl, rfl, ⟨plain_map (fun _ => rfl), trivial⟩⟩))<|pP 2 asg<|en k2<|aw_ret<|by cases h;exact rB [(7, 0)]
end Go.Proofs.YtbaibpjffcahiaaGreat.Ab
namespace Go.Proofs.YtbaibpjffcahiaaGreat.Ab
open Go Go.RowKit
set_option linter.unusedVariables false
set_option linter.unusedSimpArgs false
set_option maxRecDepth 100000
set_option maxHeartbeats 8000000
theorem ent53 : Ent Tryz.prog 53 := eN Tryz.func53
theorem ent57 : Ent Tryz.prog 57 := eN Tryz.func57
theorem ent58 : Ent Tryz.prog 58 := eN Tryz.func58
theorem ent81 : Ent Tryz.prog 81 := eN Tryz.func81
theorem ent93 : Ent Tryz.prog 93 := eN Tryz.func93
theorem ent104 : Ent Tryz.prog 104 := eN Tryz.func104
theorem ent105 : Ent Tryz.prog 105 := eN Tryz.func105
theorem ent120 : Ent Tryz.prog 120 := eN Tryz.func120
def span_All_c1 (a0 : Span) : Option Bool :=
 Option.bind (span_Right a0) (fun (x3 : Bool) => some (!x3))
theorem span_All_c1_ok (a0 : Span) {r : Bool} (h : span_All_c1 a0 = some r) : Ok Tryz.prog 105 [.agg [.int .u64 a0.Trace.Hi, .int .u64 a0.Trace.Lo, .int .u64 a0.Id, .int .u64 a0.Parent, .str a0.Service, .str a0.Op, .int .i64 a0.Start, .int .i64 a0.Dur, .bool a0.Err, .sl 2 (List.map enc132 a0.Attrs)]] [] [] (.bool r) [] [] := by
 refine oK Tryz.func105 rfl fun X => sr fun _ k1 => pD 1 (do_box W_ rfl rfl)<|pP 2 asg<|en k1<|sr fun _ k2 => pl 3 (.agg [.int .u64 a0.Trace.Hi, .int .u64 a0.Trace.Lo, .int .u64 a0.Id, .int .u64 a0.Parent, .str a0.Service, .str a0.Op, .int .i64 a0.Start, .int .i64 a0.Dur, .bool a0.Err, .sl 2 (List.map enc132 a0.Attrs)]) ty78<|bE h fun x3 y3 h => pD 4 (cZ 4 (span_Right_ok a0 y3) ent93)<|pP 5 un<|pP 2 asg<|en k2<|aw_ret<|by cases h;exact rk
def slices_IndexFunc_Span_span_All_c1_l0 (a0 : List Span) (v8_0 : Int) : Option (Int ⊕ Int) :=
 if (decide (v8_0 < (List.length a0 : Int))) = true then (gd (0 ≤ v8_0) (Option.bind (a0[(Int.toNat v8_0)]?) (fun (x13 : Span) => Option.bind (span_All_c1 x13) (fun (x14 : Bool) => if x14 = true then (some (Sum.inr v8_0)) else (some (Sum.inl (IntKind.i64.wrap (v8_0 + 1)))))))) else (some (Sum.inr (-1)))
def slices_IndexFunc_Span_span_All_c1 (a0 : List Span) : Option Int :=
 loopN (fun (s : Int) => slices_IndexFunc_Span_span_All_c1_l0 a0 s) Fu 0
theorem slices_IndexFunc_Span_span_All_c1_ok (a0 : List Span) {r : Int} (h : slices_IndexFunc_Span_span_All_c1 a0 = some r) : Ok Tryz.prog 120 [.sl 10 (List.map enc77 a0), .fn 105 []] [] [] (.int .i64 r) [] [] := by
 unfold slices_IndexFunc_Span_span_All_c1 at h
 refine oK Tryz.func120 rfl fun X => sr fun _ k1 => pP 4 asg<|en k1<|aw_seq_k fun _ k2 => sr fun _ k3 => pP 6 mv<|pP 7 (zl ty22)<|pP 8 mv<|en k3<|aw_block<|aw_loop' (fun m s => ∃ (v8_0 : Int), loopN (fun (s : Int) => slices_IndexFunc_Span_span_All_c1_l0 a0 s) m v8_0 = some r ∧ s = lit [(0, .sl 10 (List.map enc77 a0)), (1, .fn 105 []), (7, .int .i64 (List.length a0 : Int)), (8, .int .i64 v8_0)] [] [] X) Fu
  ⟨_, ra [], 0, h, rfl⟩ ?_
 rintro m s ⟨v8_0, h, rfl⟩
 obtain ⟨m0, q4, rfl, h, hq5⟩ := loop_some h
 replace h : slices_IndexFunc_Span_span_All_c1_l0 a0 v8_0 = some q4 := h
 refine sr fun _ k6 => pP 9 bi<|en k6<|aw_seq_k fun _ k7 => wi 9 h (fun c8 h => ?_) fun c8 h => ?_
 ·refine aw_skip<|k7 _<|aw_seq_k fun _ k9 => aw_block<|sr fun _ k10 => pP 10 mv<|pP 5 asg<|en k10<|sr fun _ k11 => pP 11 mv<|pP 12 mv<|pP 13 mv<|gE h fun g12 h => bE h fun x13 y13 h => pP 14 (ia ty22 ty78 g12 y13)<|pl 15 (.agg [.int .u64 x13.Trace.Hi, .int .u64 x13.Trace.Lo, .int .u64 x13.Id, .int .u64 x13.Parent, .str x13.Service, .str x13.Op, .int .i64 x13.Start, .int .i64 x13.Dur, .bool x13.Err, .sl 2 (List.map enc132 x13.Attrs)]) ty78<|bE h fun x14 y14 h => pD 16 (cZ 16 (span_All_c1_ok x13 y14) ent105)<|en k11<|wi 16 h (fun c15 h => ?_) fun c15 h => ?_
  ·refine sr fun _ k16 => pP 17 mv<|pP 4 asg<|en k16<|aw_ret<|by cases leafR h hq5;exact rk
  ·refine aw_skip<|k9 _<|aw_regL<|pP 18 bi<|pP 8 mv<|al_nil<|bk (ra []) ⟨(IntKind.i64.wrap (v8_0 + 1)), leafL h hq5, rfl⟩
 ·refine aw_exit<|tk (leafR h hq5) fun h => k2 _<|sr fun _ k17 => pP 4 asg<|en k17<|aw_ret<|by cases h;exact rk
def slices_ContainsFunc_Span_span_All_c1 (a0 : List Span) : Option Bool :=
 Option.bind (slices_IndexFunc_Span_span_All_c1 a0) (fun (x3 : Int) => some (decide ((0 : Int) ≤ x3)))
theorem slices_ContainsFunc_Span_span_All_c1_ok (a0 : List Span) {r : Bool} (h : slices_ContainsFunc_Span_span_All_c1 a0 = some r) : Ok Tryz.prog 104 [.sl 10 (List.map enc77 a0), .fn 105 []] [] [] (.bool r) [] [] := by
 refine oK Tryz.func104 rfl fun X => sr fun _ k1 => pP 4 asg<|en k1<|sr fun _ k2 => pP 5 mv<|pP 6 mv<|bE h fun x3 y3 h => pD 7 (cZ 7 (slices_IndexFunc_Span_span_All_c1_ok a0 y3) ent120)<|pP 8 bi<|pP 4 asg<|en k2<|aw_ret<|by cases h;exact rk
def span_All (a0 : List Span) : Option Bool :=
 Option.bind (slices_ContainsFunc_Span_span_All_c1 a0) (fun (x3 : Bool) => some (!x3))
theorem span_All_ok (a0 : List Span) {r : Bool} (h : span_All a0 = some r) : Ok Tryz.prog 81 [.sl 10 (List.map enc77 a0)] [] [] (.bool r) [] [] := by
 refine oK Tryz.func81 rfl fun X => sr fun _ k1 => pP 2 asg<|en k1<|sr fun _ k2 => pP 3 mv<|bE h fun x3 y3 h => pD 4 (cZ 4 (slices_ContainsFunc_Span_span_All_c1_ok a0 y3) ent104)<|pP 5 un<|pP 2 asg<|en k2<|aw_ret<|by cases h;exact rk
def batch_Right (a0 : List Span) : Option Bool :=
 if (decide ((1 : Int) ≤ (List.length a0 : Int))) = true then (if (decide ((List.length a0 : Int) ≤ 50)) = true then (Option.bind (span_All a0) (fun (x5 : Bool) => some x5)) else (some false)) else (some false)
theorem batch_Right_ok (a0 : List Span) {r : Bool} (h : batch_Right a0 = some r) : Ok Tryz.prog 53 [.sl 10 (List.map enc77 a0)] [] [] (.bool r) [] [] := by
 refine oK Tryz.func53 rfl fun X => sr fun _ k1 => pP 2 asg<|en k1<|sr fun _ k2 => pP 3 mv<|pP 4 (zl ty22)<|pP 5 bi<|pP 6 mv<|li 6 h (fun c3 h => ?_) fun c3 h => ?_
 ·refine pP 7 mv<|pP 8 (zl ty22)<|pP 9 bi<|pP 10 pc<|pP 11 mv<|li 11 h (fun c4 h => ?_) fun c4 h => ?_
  ·refine pP 12 mv<|bE h fun x5 y5 h => pD 13 (cZ 13 (span_All_ok a0 y5) ent81)<|pP 14 pc<|pP 2 asg<|en k2<|aw_ret<|by cases h;exact rk
  ·refine pS 12<|pS 13<|pP 14 pc<|pP 2 asg<|en k2<|aw_ret<|by cases h;exact rk
 ·refine pS 7<|pS 8<|pS 9<|pP 10 pc<|pP 11 mv<|pS 12<|pS 13<|pP 14 pc<|pP 2 asg<|en k2<|aw_ret<|by cases h;exact rk
def batch_Bytes_l1 (a0 : List Span) (v3_s_0_s_1 : List UInt8) (v18_1 : Int) : Option ((List UInt8 × Int) ⊕ (List UInt8)) :=
 if (decide (v18_1 < (List.length a0 : Int))) = true then (gd (0 ≤ v18_1) (Option.bind (a0[(Int.toNat v18_1)]?) (fun (x21 : Span) => Option.bind (span_Put (Writer.mk v3_s_0_s_1) x21) (fun (x22 : Writer) => some (Sum.inl (x22.B, (IntKind.i64.wrap (v18_1 + 1)))))))) else (some (Sum.inr v3_s_0_s_1))
def batch_Bytes_k0 (v3_s_0_s_0 : List UInt8) : Option (List UInt8) :=
 Option.bind (check_Seal v3_s_0_s_0) (fun (x24 : List UInt8) => some x24)
def batch_Bytes (a0 : List Span) : Option (List UInt8) :=
 Option.bind (batch_Right a0) (fun (x4 : Bool) => if (!x4) = true then (some []) else (Option.bind (ints_Writer_Num (Writer.mk []) [(List.length a0 : Int)]) (fun (x9 : Writer) => Option.bind (loopN (fun (s : List UInt8 × Int) => batch_Bytes_l1 a0 s.1 s.2) Fu (x9.B, 0)) (fun (s : List UInt8) => batch_Bytes_k0 s))))
theorem batch_Bytes_ok (a0 : List Span) {r : List UInt8} (h : batch_Bytes a0 = some r) : Ok Tryz.prog 21 [.sl 10 (List.map enc77 a0)] [] [] (.own 2 0) [] [(5, 1, List.map enc5 r)] := by
 refine oK Tryz.func21 rfl fun X => sr fun _ k1 => pP 2 asg<|en k1<|aw_seq_k fun _ k2 => sr fun _ k3 => pP 6 mv<|bE h fun x4 y4 h => pD 7 (cZ 7 (batch_Right_ok a0 y4) ent53)<|pP 8 un<|en k3<|wi 8 h (fun c5 h => ?_) fun c5 h => ?_
 ·refine sr fun _ k6 => pP 2 asg<|en k6<|aw_nilOwn 2 5 1 W_ D_ D_<|aw_ret<|by cases h;exact rB [(2, 0)]
 ·refine aw_skip<|k2 _<|sr fun _ k7 => pP 9 (do_build_struct (cs := [.nil]) ty121 rfl [⟨.slice 5, 1, 24, [.nil]⟩] (by simp only [List.map, ty46]) (by rfl) R_)<|pD 10 (do_box W_ rfl rfl)<|pP 3 asg<|en k7<|aw_seq_k fun _ k8 => aw_nilOwnC 10 0 0 10 5 1 (cs := [.nil]) R_ rfl D_<|aw_regL<|pP 11 mv<|pP 12 mv<|pP 13 (zl ty22)<|pD 14 (bs (List.map enc2 [(List.length a0 : Int)]) ty55 ty3 rfl)<|bE h fun x9 y9 h => pD 15 (does_frz (d := 14) (n := 0) W_ (do_callG (bcs := [[.own 10 1]]) [(10, 0)] [(10, 1)] [(14, 0)] 15 false (ints_Writer_Num_ok (Writer.mk []) [(List.length a0 : Int)] y9) rfl ent56 ⟨R_, trivial⟩ (rowsOk_cons W_ R_ trivial) rfl rfl rfl rfl rfl rfl rfl rfl (.inl ⟨⟨_, _, _, rfl⟩, trivial⟩)))<|en k8<|bE h fun q10 h hk11 => aw_cut (fun s => ∃ (v3_s_0_s_0 : List UInt8), batch_Bytes_k0 v3_s_0_s_0 = some r ∧ s = lit [(3, .ptr 10 0 0)] [((10, 0), .box [.own 15 0]), ((15, 0), .arr 5 1 false (List.map enc5 v3_s_0_s_0))] [(10, 1), (15, 1)] X) ?_ ?_
  ·skip
   refine sr fun _ k12 => pP 16 mv<|pP 17 (zl ty22)<|pP 18 mv<|en k12<|aw_block<|aw_loop' (fun m s => ∃ (v3_s_0_s_1 : List UInt8), ∃ (v18_1 : Int), loopN (fun (s : List UInt8 × Int) => batch_Bytes_l1 a0 s.1 s.2) m (v3_s_0_s_1, v18_1) = some q10 ∧ s = lit [(3, .ptr 10 0 0), (16, .sl 10 (List.map enc77 a0)), (17, .int .i64 (List.length a0 : Int)), (18, .int .i64 v18_1)] [((10, 0), .box [.own 15 0]), ((15, 0), .arr 5 1 false (List.map enc5 v3_s_0_s_1))] [(10, 1), (15, 1)] X) Fu
    ⟨_, ra [(10, 0), (15, 0)], x9.B, 0, h, rfl⟩ ?_
   rintro m s ⟨v3_s_0_s_1, v18_1, h, rfl⟩
   obtain ⟨m1, q13, rfl, h, hq14⟩ := loop_some h
   replace h : batch_Bytes_l1 a0 v3_s_0_s_1 v18_1 = some q13 := h
   refine sr fun _ k15 => pP 19 bi<|en k15<|aw_seq_k fun _ k16 => wi 19 h (fun c17 h => ?_) fun c17 h => ?_
   ·refine aw_skip<|k16 _<|aw_seq_k fun _ k18 => aw_block<|sr fun _ k19 => gE h fun g20 h => bE h fun x21 y21 h => pP 20 (ia ty22 ty78 g20 y21)<|pl 21 (.agg [.int .u64 x21.Trace.Hi, .int .u64 x21.Trace.Lo, .int .u64 x21.Id, .int .u64 x21.Parent, .str x21.Service, .str x21.Op, .int .i64 x21.Start, .int .i64 x21.Dur, .bool x21.Err, .sl 2 (List.map enc132 x21.Attrs)]) ty78<|pD 5 (nw ty78)<|pZ (sto [.int .u64 x21.Trace.Hi, .int .u64 x21.Trace.Lo, .int .u64 x21.Id, .int .u64 x21.Parent, .str x21.Service, .str x21.Op, .int .i64 x21.Start, .int .i64 x21.Dur, .bool x21.Err, .sl 2 (List.map enc132 x21.Attrs)] ty78)<|en k19<|aw_regL<|pP 22 mv<|pl 23 (.agg [.int .u64 x21.Trace.Hi, .int .u64 x21.Trace.Lo, .int .u64 x21.Id, .int .u64 x21.Parent, .str x21.Service, .str x21.Op, .int .i64 x21.Start, .int .i64 x21.Dur, .bool x21.Err, .sl 2 (List.map enc132 x21.Attrs)]) ty78<|bE h fun x22 y22 h => pD 24 (do_callG (bcs := [[.own 15 0]]) [(10, 0)] [(15, 0)] [] 24 false (span_Put_ok (Writer.mk v3_s_0_s_1) x21 y22) rfl ent57 ⟨R_, trivial⟩ (rowsOk_cons W_ R_ trivial) rfl rfl rfl rfl rfl rfl rfl rfl (.inl trivial))<|en k18<|aw_regL<|pP 25 bi<|pP 18 mv<|al_nil<|bk (ra [(10, 0), (24, 0)]) ⟨x22.B, (IntKind.i64.wrap (v18_1 + 1)), leafL h hq14, rfl⟩
   ·refine aw_exit<|tk (leafR h hq14) fun h => ?_
    obtain rfl := Option.some.inj h
    have h := hk11
    exact ⟨_, ra [(10, 0), (15, 0)], v3_s_0_s_1, h, rfl⟩
  ·rintro s ⟨v3_s_0_s_0, h, rfl⟩
   refine sr fun _ k23 => pP 26 mv<|pP 27 nk<|pP 28 (fa ty121 ty46)<|pX 29 (ld ty46)<|bE h fun x24 y24 h => pD 30 (do_callG (bcs := []) [] [] [(15, 0)] 30 false (check_Seal_ok v3_s_0_s_0 y24) rfl ent58 trivial trivial rfl rfl rfl rfl rfl rfl rfl rfl (.inr ⟨rfl, rfl, ⟨plain_map (fun _ => rfl), trivial⟩⟩))<|pP 2 asg<|en k23<|aw_ret<|by cases h;exact rB [(30, 0)]
end Go.Proofs.YtbaibpjffcahiaaGreat.Ab
