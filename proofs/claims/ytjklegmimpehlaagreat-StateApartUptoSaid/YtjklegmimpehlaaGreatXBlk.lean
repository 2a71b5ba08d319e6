/- Episodes as bytes. -/
import Derived.Test.YtjklegmimpehlaaGreatXR2
import Derived.Test.YtjklegmimpehlaaGreatProg
namespace Go.Proofs.YtjklegmimpehlaaGreat.Ab
open Go Go.RowKit
set_option linter.unusedVariables false
set_option linter.unusedSimpArgs false
set_option maxRecDepth 100000
set_option maxHeartbeats 8000000
structure Episode where
  Trace : Trace
  First : Int
  Last : Int
  Sure : Bool
  Spans : List Span
  deriving DecidableEq
theorem ty69 : tyOf Tryz.prog 69 = some ⟨.struct [(0, 62), (2, 3), (3, 3), (4, 4), (5, 67)], 6, 64, [.int .u64 0, .int .u64 0, .int .i64 0, .int .i64 0, .bool false, .nil]⟩ := by kernel_rfl
theorem ent21 : Ent Tryz.prog 21 := eN Tryz.func21
theorem ent49 : Ent Tryz.prog 49 := eN Tryz.func49
theorem ent52 : Ent Tryz.prog 52 := eN Tryz.func52
theorem ent82 : Ent Tryz.prog 82 := eN Tryz.func82
theorem ent122 : Ent Tryz.prog 122 := eN Tryz.func122
theorem ent123 : Ent Tryz.prog 123 := eN Tryz.func123
theorem ent127 : Ent Tryz.prog 127 := eN Tryz.func127
theorem ent145 : Ent Tryz.prog 145 := eN Tryz.func145
theorem ent154 : Ent Tryz.prog 154 := eN Tryz.func154
theorem ent170 : Ent Tryz.prog 170 := eN Tryz.func170
def block_Epoch_c1 (a0 : Int) : Option Bool :=
 if (decide (a0 < 0)) = true then (some true) else (some (decide ((1099511627776 : Int) < a0)))
theorem block_Epoch_c1_ok (a0 : Int) {r : Bool} (h : block_Epoch_c1 a0 = some r) : Ok Tryz.prog 123 [.int .i64 a0] [] [] (.bool r) [] [] := by
 refine oK Tryz.func123 rfl fun X => sr fun _ k1 => pP 2 asg<|en k1<|sr fun _ k2 => pP 3 mv<|pP 4 bi<|pP 5 mv<|li 5 h (fun c3 h => ?_) fun c3 h => ?_
 ·refine pS 6<|pS 7<|pP 8 pc<|pP 2 asg<|en k2<|aw_ret<|by cases h;exact rk
 ·refine pP 6 mv<|pP 7 bi<|pP 8 pc<|pP 2 asg<|en k2<|aw_ret<|by cases h;exact rk
def slices_IndexFunc_int_block_Epoch_c1_l0 (a0 : List Int) (v8_0 : Int) : Option (Int ⊕ Int) :=
 if (decide (v8_0 < (List.length a0 : Int))) = true then (gd (0 ≤ v8_0) (Option.bind (a0[(Int.toNat v8_0)]?) (fun (x13 : Int) => Option.bind (block_Epoch_c1 x13) (fun (x14 : Bool) => if x14 = true then (some (Sum.inr v8_0)) else (some (Sum.inl (IntKind.i64.wrap (v8_0 + 1)))))))) else (some (Sum.inr (-1)))
def slices_IndexFunc_int_block_Epoch_c1 (a0 : List Int) : Option Int :=
 loopN (fun (s : Int) => slices_IndexFunc_int_block_Epoch_c1_l0 a0 s) Fu 0
theorem slices_IndexFunc_int_block_Epoch_c1_ok (a0 : List Int) {r : Int} (h : slices_IndexFunc_int_block_Epoch_c1 a0 = some r) : Ok Tryz.prog 154 [.sl 1 (List.map enc2 a0), .fn 123 []] [] [] (.int .i64 r) [] [] := by
 unfold slices_IndexFunc_int_block_Epoch_c1 at h
 refine oK Tryz.func154 rfl fun X => sr fun _ k1 => pP 4 asg<|en k1<|aw_seq_k fun _ k2 => sr fun _ k3 => pP 6 mv<|pP 7 (zl ty117)<|pP 8 mv<|en k3<|aw_block<|aw_loop' (fun m s => ∃ (v8_0 : Int), loopN (fun (s : Int) => slices_IndexFunc_int_block_Epoch_c1_l0 a0 s) m v8_0 = some r ∧ s = lit [(0, .sl 1 (List.map enc2 a0)), (1, .fn 123 []), (7, .int .i64 (List.length a0 : Int)), (8, .int .i64 v8_0)] [] [] X) Fu
  ⟨_, ra [], 0, h, rfl⟩ ?_
 rintro m s ⟨v8_0, h, rfl⟩
 obtain ⟨m0, q4, rfl, h, hq5⟩ := loop_some h
 replace h : slices_IndexFunc_int_block_Epoch_c1_l0 a0 v8_0 = some q4 := h
 refine sr fun _ k6 => pP 9 bi<|en k6<|aw_seq_k fun _ k7 => wi 9 h (fun c8 h => ?_) fun c8 h => ?_
 ·refine aw_skip<|k7 _<|aw_seq_k fun _ k9 => aw_block<|sr fun _ k10 => pP 10 mv<|pP 5 asg<|en k10<|sr fun _ k11 => pP 11 mv<|pP 12 mv<|pP 13 mv<|gE h fun g12 h => bE h fun x13 y13 h => pP 14 (ia ty117 ty3 g12 y13)<|pX 15 (ld ty3)<|bE h fun x14 y14 h => pD 16 (cZ 16 (block_Epoch_c1_ok x13 y14) ent123)<|en k11<|wi 16 h (fun c15 h => ?_) fun c15 h => ?_
  ·refine sr fun _ k16 => pP 17 mv<|pP 4 asg<|en k16<|aw_ret<|by cases leafR h hq5;exact rk
  ·refine aw_skip<|k9 _<|aw_regL<|pP 18 bi<|pP 8 mv<|al_nil<|bk (ra []) ⟨(IntKind.i64.wrap (v8_0 + 1)), leafL h hq5, rfl⟩
 ·refine aw_exit<|tk (leafR h hq5) fun h => k2 _<|sr fun _ k17 => pP 4 asg<|en k17<|aw_ret<|by cases h;exact rk
def slices_ContainsFunc_int_block_Epoch_c1 (a0 : List Int) : Option Bool :=
 Option.bind (slices_IndexFunc_int_block_Epoch_c1 a0) (fun (x3 : Int) => some (decide ((0 : Int) ≤ x3)))
theorem slices_ContainsFunc_int_block_Epoch_c1_ok (a0 : List Int) {r : Bool} (h : slices_ContainsFunc_int_block_Epoch_c1 a0 = some r) : Ok Tryz.prog 122 [.sl 1 (List.map enc2 a0), .fn 123 []] [] [] (.bool r) [] [] := by
 refine oK Tryz.func122 rfl fun X => sr fun _ k1 => pP 4 asg<|en k1<|sr fun _ k2 => pP 5 mv<|pP 6 mv<|bE h fun x3 y3 h => pD 7 (cZ 7 (slices_IndexFunc_int_block_Epoch_c1_ok a0 y3) ent154)<|pP 8 bi<|pP 4 asg<|en k2<|aw_ret<|by cases h;exact rk
def block_Epoch (a0 : List Int) : Option Bool :=
 Option.bind (slices_ContainsFunc_int_block_Epoch_c1 a0) (fun (x3 : Bool) => some (!x3))
theorem block_Epoch_ok (a0 : List Int) {r : Bool} (h : block_Epoch a0 = some r) : Ok Tryz.prog 49 [.sl 1 (List.map enc2 a0)] [] [] (.bool r) [] [] := by
 refine oK Tryz.func49 rfl fun X => sr fun _ k1 => pP 2 asg<|en k1<|sr fun _ k2 => pP 3 mv<|bE h fun x3 y3 h => pD 4 (cZ 4 (slices_ContainsFunc_int_block_Epoch_c1_ok a0 y3) ent122)<|pP 5 un<|pP 2 asg<|en k2<|aw_ret<|by cases h;exact rk
def block_Episode_k2 (v3_s_1 : List Int) (v29_1 : Int) (x24 : Span) : Option ((List Int × Int) ⊕ Bool) :=
 some (Sum.inl ((addN v3_s_1 x24.Id), (IntKind.i64.wrap (v29_1 + 1))))
def block_Episode_l1 (a0 : Episode) (v3_s_1 : List Int) (v29_1 : Int) : Option ((List Int × Int) ⊕ Bool) :=
 if (decide (v29_1 < (List.length a0.Spans : Int))) = true then (gd (0 ≤ v29_1) (Option.bind (a0.Spans[(Int.toNat v29_1)]?) (fun (x24 : Span) => Option.bind (if (!((x24.Trace.Hi == a0.Trace.Hi) && ((x24.Trace.Lo == a0.Trace.Lo) && true))) = true then (some (Sum.inr (Sum.inr false))) else (if (decide (x24.Id ∈ v3_s_1)) = true then (some (Sum.inr (Sum.inr false))) else (some (Sum.inl ())))) (Sum.elim (fun (s : Unit) => block_Episode_k2 v3_s_1 v29_1 x24) some)))) else (some (Sum.inr true))
def block_Episode_k0 (a0 : Episode) : Option Bool :=
 loopN (fun (s : List Int × Int) => block_Episode_l1 a0 s.1 s.2) Fu (([] : List Int), 0)
def block_Episode (a0 : Episode) : Option Bool :=
 Option.bind (Option.bind (block_Epoch [a0.First, a0.Last]) (fun (x5 : Bool) => if (!x5) = true then (some (Sum.inr false)) else (if ((List.length a0.Spans : Int) == 0) = true then (some (Sum.inr false)) else (Option.bind (span_All a0.Spans) (fun (x10 : Bool) => if (!x10) = true then (some (Sum.inr false)) else (some (Sum.inl ()))))))) (Sum.elim (fun (s : Unit) => block_Episode_k0 a0) some)
theorem block_Episode_ok (a0 : Episode) {r : Bool} (h : block_Episode a0 = some r) : Ok Tryz.prog 52 [.agg [.int .u64 a0.Trace.Hi, .int .u64 a0.Trace.Lo, .int .i64 a0.First, .int .i64 a0.Last, .bool a0.Sure, .sl 10 (List.map enc130 a0.Spans)]] [] [] (.bool r) [] [] := by
 refine oK Tryz.func52 rfl fun X => sr fun _ k1 => pD 1 (do_box W_ rfl rfl)<|pP 2 asg<|en k1<|bE h fun q2 h hk3 => aw_cut (fun s => block_Episode_k0 a0 = some r ∧ s = lit [(1, .ptr 1 0 0)] [((1, 0), .box [.int .u64 a0.Trace.Hi, .int .u64 a0.Trace.Lo, .int .i64 a0.First, .int .i64 a0.Last, .bool a0.Sure, .sl 10 (List.map enc130 a0.Spans)])] [(1, 1)] X) ?_ ?_
 ·skip
  refine sr fun _ k4 => pP 6 (fa ty69 ty3)<|pX 7 (ld ty3)<|pP 8 (fa ty69 ty3)<|pX 9 (ld ty3)<|pD 10 (bs (List.map enc2 [a0.First, a0.Last]) ty117 ty3 rfl)<|bE h fun x5 y5 h => pD 11 (do_callG (bcs := []) [] [] [(10, 0)] 11 false (block_Epoch_ok [a0.First, a0.Last] y5) rfl ent49 trivial trivial rfl rfl rfl rfl rfl rfl rfl rfl (.inr ⟨rfl, rfl, trivial⟩))<|pP 12 un<|pP 13 mv<|li 13 h (fun c6 h => ?_) fun c6 h => ?_
  ·refine pS 14<|pS 15<|pS 16<|pS 17<|pP 18 pc<|pP 19 mv<|pS 20<|pS 21<|pS 22<|pS 23<|pP 24 pc<|en k4<|aw_cond_t D_ rfl<|sr fun _ k7 => pP 2 asg<|en k7<|aw_ret<|by cases leafR h hk3;exact rk
  ·refine pP 14 (fa ty69 ty67)<|pX 15 (ld ty67)<|pP 16 (zl ty67)<|pP 17 bi<|pP 18 pc<|pP 19 mv<|li 19 h (fun c8 h => ?_) fun c8 h => ?_
   ·refine pS 20<|pS 21<|pS 22<|pS 23<|pP 24 pc<|en k4<|aw_cond_t D_ rfl<|sr fun _ k9 => pP 2 asg<|en k9<|aw_ret<|by cases leafR h hk3;exact rk
   ·refine pP 20 (fa ty69 ty67)<|pX 21 (ld ty67)<|bE h fun x10 y10 h => pD 22 (cZ 22 (span_All_ok a0.Spans y10) ent127)<|pP 23 un<|pP 24 pc<|en k4<|wi 24 h (fun c11 h => ?_) fun c11 h => ?_
    ·refine sr fun _ k12 => pP 2 asg<|en k12<|aw_ret<|by cases leafR h hk3;exact rk
    ·refine aw_skip<|tk (leafL h hk3) fun h => ?_
     exact ⟨_, ra [(1, 0)], h, rfl⟩
 ·rintro s ⟨h, rfl⟩
  unfold block_Episode_k0 at h
  refine sr fun _ k13 => pD 25 (do_makeMap (d := 25) .u64)<|pP 3 asg<|en k13<|aw_seq_k fun _ k14 => sr fun _ k15 => pP 26 (fa ty69 ty67)<|pX 27 (ld ty67)<|pP 28 (zl ty67)<|pP 29 mv<|en k15<|aw_block<|aw_loop' (fun m s => ∃ (v3_s_1 : List Int), ∃ (v29_1 : Int), loopN (fun (s : List Int × Int) => block_Episode_l1 a0 s.1 s.2) m (v3_s_1, v29_1) = some r ∧ s = lit [(1, .ptr 1 0 0), (3, .mp 25 0), (27, .sl 10 (List.map enc130 a0.Spans)), (28, .int .i64 (List.length a0.Spans : Int)), (29, .int .i64 v29_1)] [((1, 0), .box [.int .u64 a0.Trace.Hi, .int .u64 a0.Trace.Lo, .int .i64 a0.First, .int .i64 a0.Last, .bool a0.Sure, .sl 10 (List.map enc130 a0.Spans)]), ((25, 0), .mp .u64 v3_s_1)] [(1, 1), (25, 1)] X) Fu
   ⟨_, ra [(1, 0), (25, 0)], ([] : List Int), 0, h, rfl⟩ ?_
  rintro m s ⟨v3_s_1, v29_1, h, rfl⟩
  obtain ⟨m1, q16, rfl, h, hq17⟩ := loop_some h
  replace h : block_Episode_l1 a0 v3_s_1 v29_1 = some q16 := h
  refine sr fun _ k18 => pP 30 bi<|en k18<|aw_seq_k fun _ k19 => wi 30 h (fun c20 h => ?_) fun c20 h => ?_
  ·refine aw_skip<|k19 _<|aw_seq_k fun _ k21 => aw_block<|sr fun _ k22 => gE h fun g23 h => bE h fun x24 y24 h => pP 31 (ia ty67 ty131 g23 y24)<|pl 32 (.agg [.int .u64 x24.Trace.Hi, .int .u64 x24.Trace.Lo, .int .u64 x24.Id, .int .u64 x24.Parent, .str x24.Service, .str x24.Op, .int .i64 x24.Start, .int .i64 x24.Dur, .bool x24.Err, .sl 2 (List.map enc181 x24.Attrs)]) ty131<|pD 5 (nw ty131)<|pZ (sto [.int .u64 x24.Trace.Hi, .int .u64 x24.Trace.Lo, .int .u64 x24.Id, .int .u64 x24.Parent, .str x24.Service, .str x24.Op, .int .i64 x24.Start, .int .i64 x24.Dur, .bool x24.Err, .sl 2 (List.map enc181 x24.Attrs)] ty131)<|en k22<|bE h fun q25 h hk26 => aw_cut (fun s => block_Episode_k2 v3_s_1 v29_1 x24 = some q16 ∧ s = lit [(1, .ptr 1 0 0), (3, .mp 25 0), (5, .ptr 5 0 0), (27, .sl 10 (List.map enc130 a0.Spans)), (28, .int .i64 (List.length a0.Spans : Int)), (29, .int .i64 v29_1)] [((1, 0), .box [.int .u64 a0.Trace.Hi, .int .u64 a0.Trace.Lo, .int .i64 a0.First, .int .i64 a0.Last, .bool a0.Sure, .sl 10 (List.map enc130 a0.Spans)]), ((25, 0), .mp .u64 v3_s_1), ((5, 0), .box [.int .u64 x24.Trace.Hi, .int .u64 x24.Trace.Lo, .int .u64 x24.Id, .int .u64 x24.Parent, .str x24.Service, .str x24.Op, .int .i64 x24.Start, .int .i64 x24.Dur, .bool x24.Err, .sl 2 (List.map enc181 x24.Attrs)])] [(1, 1), (5, 1), (25, 1)] X) ?_ ?_
   ·skip
    refine sr fun _ k27 => pP 33 (fa ty131 ty62)<|pl 34 (.agg [.int .u64 x24.Trace.Hi, .int .u64 x24.Trace.Lo]) ty62<|pP 35 (fa ty69 ty62)<|pl 36 (.agg [.int .u64 a0.Trace.Hi, .int .u64 a0.Trace.Lo]) ty62<|pP 37 (does_eq_struct (v := .bool (!((x24.Trace.Hi == a0.Trace.Hi) && ((x24.Trace.Lo == a0.Trace.Lo) && true)))) W_ W_ fk62 rfl ag62 eg62 W_ rfl)<|pP 38 mv<|li 38 h (fun c28 h => ?_) fun c28 h => ?_
    ·refine pS 39<|pS 40<|pS 41<|pS 42<|pP 43 pc<|en k27<|aw_cond_t D_ rfl<|sr fun _ k29 => pP 2 asg<|en k29<|aw_ret<|tk (leafR h hk26) fun h => by cases leafR h hq17;exact rk
    ·refine pP 39 mv<|pP 40 (fa ty131 ty60)<|pX 41 (ld ty60)<|pX 42 (do_lookup W_ W_ W_ Tryz.underlying175 Tryz.underlying60 Tryz.zeroValue4)<|pP 43 pc<|en k27<|wi 43 h (fun c30 h => ?_) fun c30 h => ?_
     ·refine sr fun _ k31 => pP 2 asg<|en k31<|aw_ret<|tk (leafR h hk26) fun h => by cases leafR h hq17;exact rk
     ·refine aw_skip<|tk (leafL h hk26) fun h => ?_
      exact ⟨_, ra [(1, 0), (25, 0), (5, 0)], h, rfl⟩
   ·rintro s ⟨h, rfl⟩
    unfold block_Episode_k2 at h
    refine aw_regL<|pP 44 mv<|pP 45 (fa ty131 ty60)<|pX 46 (ld ty60)<|alD none rfl rfl (do_mapUpdate W_ W_ W_ R_ Tryz.underlying175 Tryz.underlying60) D_<|en k21<|aw_regL<|pP 47 bi<|pP 29 mv<|al_nil<|bk (ra [(1, 0), (25, 0)]) ⟨(addN v3_s_1 x24.Id), (IntKind.i64.wrap (v29_1 + 1)), leafL h hq17, rfl⟩
  ·refine aw_exit<|tk (leafR h hq17) fun h => k14 _<|sr fun _ k32 => pP 2 asg<|en k32<|aw_ret<|by cases h;exact rk
def block_PutSpans_l0 (a1 : Episode) (vb0_s_0_s_0 : List UInt8) (v26_0 : Int) : Option ((List UInt8 × Int) ⊕ Writer) :=
 if (decide (v26_0 < (List.length a1.Spans : Int))) = true then (gd (0 ≤ v26_0) (Option.bind (a1.Spans[(Int.toNat v26_0)]?) (fun (x17 : Span) => Option.bind (span_Put (Writer.mk vb0_s_0_s_0) x17) (fun (x18 : Writer) => some (Sum.inl (x18.B, (IntKind.i64.wrap (v26_0 + 1)))))))) else (some (Sum.inr (Writer.mk vb0_s_0_s_0)))
def block_PutSpans (a0 : Writer) (a1 : Episode) : Option Writer :=
 Option.bind (ints_Writer_Num a0 [a1.First, a1.Last]) (fun (x3 : Writer) => Option.bind (ints_Writer_Flag x3 a1.Sure) (fun (x5 : Writer) => Option.bind (ints_Writer_Num x5 [(List.length a1.Spans : Int)]) (fun (x7 : Writer) => loopN (fun (s : List UInt8 × Int) => block_PutSpans_l0 a1 s.1 s.2) Fu (x7.B, 0))))
theorem block_PutSpans_ok (a0 : Writer) (a1 : Episode) {r : Writer} (h : block_PutSpans a0 a1 = some r) : Ok Tryz.prog 86 [.ptr 0 0 0, .agg [.int .u64 a1.Trace.Hi, .int .u64 a1.Trace.Lo, .int .i64 a1.First, .int .i64 a1.Last, .bool a1.Sure, .sl 10 (List.map enc130 a1.Spans)]] [[.own 1 0]] [(5, 1, List.map enc5 a0.B)] (.tup []) [[.own 2 0]] [(5, 1, List.map enc5 r.B)] := by
 refine oK Tryz.func86 rfl fun X => sr fun _ k1 => pD 3 (do_box W_ rfl rfl)<|en k1<|sr fun _ k2 => pP 6 mv<|pP 7 (fa ty69 ty3)<|pX 8 (ld ty3)<|pP 9 (fa ty69 ty3)<|pX 10 (ld ty3)<|pD 11 (bs (List.map enc2 [a1.First, a1.Last]) ty117 ty3 rfl)<|bE h fun x3 y3 h => pD 12 (does_frz (d := 11) (n := 0) W_ (do_callG (bcs := [[.own 1 0]]) [(0, 0)] [(1, 0)] [(11, 0)] 12 false (ints_Writer_Num_ok a0 [a1.First, a1.Last] y3) rfl ent26 ⟨R_, trivial⟩ (rowsOk_cons W_ R_ trivial) rfl rfl rfl rfl rfl rfl rfl rfl (.inl ⟨⟨_, _, _, rfl⟩, trivial⟩)))<|en k2<|sr fun _ k4 => pP 13 mv<|pP 14 (fa ty69 ty4)<|pX 15 (ld ty4)<|bE h fun x5 y5 h => pD 16 (do_callG (bcs := [[.own 12 0]]) [(0, 0)] [(12, 0)] [] 16 false (ints_Writer_Flag_ok x3 a1.Sure y5) rfl ent30 ⟨R_, trivial⟩ (rowsOk_cons W_ R_ trivial) rfl rfl rfl rfl rfl rfl rfl rfl (.inl trivial))<|en k4<|sr fun _ k6 => pP 17 mv<|pP 18 (fa ty69 ty67)<|pX 19 (ld ty67)<|pP 20 (zl ty67)<|pD 21 (bs (List.map enc2 [(List.length a1.Spans : Int)]) ty117 ty3 rfl)<|bE h fun x7 y7 h => pD 22 (does_frz (d := 21) (n := 0) W_ (do_callG (bcs := [[.own 16 0]]) [(0, 0)] [(16, 0)] [(21, 0)] 22 false (ints_Writer_Num_ok x5 [(List.length a1.Spans : Int)] y7) rfl ent26 ⟨R_, trivial⟩ (rowsOk_cons W_ R_ trivial) rfl rfl rfl rfl rfl rfl rfl rfl (.inl ⟨⟨_, _, _, rfl⟩, trivial⟩)))<|en k6<|sr fun _ k8 => pP 23 (fa ty69 ty67)<|pX 24 (ld ty67)<|pP 25 (zl ty67)<|pP 26 mv<|en k8<|aw_block<|aw_loop' (fun m s => ∃ (vb0_s_0_s_0 : List UInt8), ∃ (v26_0 : Int), loopN (fun (s : List UInt8 × Int) => block_PutSpans_l0 a1 s.1 s.2) m (vb0_s_0_s_0, v26_0) = some r ∧ s = lit [(0, .ptr 0 0 0), (24, .sl 10 (List.map enc130 a1.Spans)), (25, .int .i64 (List.length a1.Spans : Int)), (26, .int .i64 v26_0)] [((0, 0), .box [.own 22 0]), ((22, 0), .arr 5 1 false (List.map enc5 vb0_s_0_s_0))] [(0, 1), (22, 1)] X) Fu
  ⟨_, ra [(0, 0), (22, 0)], x7.B, 0, h, rfl⟩ ?_
 rintro m s ⟨vb0_s_0_s_0, v26_0, h, rfl⟩
 obtain ⟨m0, q9, rfl, h, hq10⟩ := loop_some h
 replace h : block_PutSpans_l0 a1 vb0_s_0_s_0 v26_0 = some q9 := h
 refine sr fun _ k11 => pP 27 bi<|en k11<|aw_seq_k fun _ k12 => wi 27 h (fun c13 h => ?_) fun c13 h => ?_
 ·refine aw_skip<|k12 _<|aw_seq_k fun _ k14 => aw_block<|sr fun _ k15 => gE h fun g16 h => bE h fun x17 y17 h => pP 28 (ia ty67 ty131 g16 y17)<|pl 29 (.agg [.int .u64 x17.Trace.Hi, .int .u64 x17.Trace.Lo, .int .u64 x17.Id, .int .u64 x17.Parent, .str x17.Service, .str x17.Op, .int .i64 x17.Start, .int .i64 x17.Dur, .bool x17.Err, .sl 2 (List.map enc181 x17.Attrs)]) ty131<|pD 5 (nw ty131)<|pZ (sto [.int .u64 x17.Trace.Hi, .int .u64 x17.Trace.Lo, .int .u64 x17.Id, .int .u64 x17.Parent, .str x17.Service, .str x17.Op, .int .i64 x17.Start, .int .i64 x17.Dur, .bool x17.Err, .sl 2 (List.map enc181 x17.Attrs)] ty131)<|en k15<|aw_regL<|pP 30 mv<|pl 31 (.agg [.int .u64 x17.Trace.Hi, .int .u64 x17.Trace.Lo, .int .u64 x17.Id, .int .u64 x17.Parent, .str x17.Service, .str x17.Op, .int .i64 x17.Start, .int .i64 x17.Dur, .bool x17.Err, .sl 2 (List.map enc181 x17.Attrs)]) ty131<|bE h fun x18 y18 h => pD 32 (do_callG (bcs := [[.own 22 0]]) [(0, 0)] [(22, 0)] [] 32 false (span_Put_ok (Writer.mk vb0_s_0_s_0) x17 y18) rfl ent145 ⟨R_, trivial⟩ (rowsOk_cons W_ R_ trivial) rfl rfl rfl rfl rfl rfl rfl rfl (.inl trivial))<|en k14<|aw_regL<|pP 33 bi<|pP 26 mv<|al_nil<|bk (ra [(0, 0), (32, 0)]) ⟨x18.B, (IntKind.i64.wrap (v26_0 + 1)), leafL h hq10, rfl⟩
 ·refine aw_exit<|tk (leafR h hq10) fun h => ?_
  obtain rfl := Option.some.inj h
  exact ret_okB [(22, 0)] W_ W_ R_ (rowsOk_cons W_ R_ trivial) (boxesOk_cons W_ W_ R_ trivial) (nodup_b rfl) (.inl rfl) rfl
def block_GetSpans_l1 (x12 : Int × Reader) (vb0_s_0_1 : List UInt8) (vb0_s_1_1 : Bool) (v5_s_5_s_1 : List Span) (v19_1 : Int) : Option ((List UInt8 × Bool × List Span × Int) ⊕ (List UInt8 × Bool × List Span)) :=
 if (decide (v19_1 < x12.1)) = true then (if vb0_s_1_1 = true then (some (Sum.inr (vb0_s_0_1, vb0_s_1_1, v5_s_5_s_1))) else (Option.bind (span_Get (Reader.mk vb0_s_0_1 vb0_s_1_1)) (fun (x22 : Span × Reader) => gd ((List.length (v5_s_5_s_1 ++ [x22.1])) * 112 ≤ 140737488355328 ∧ (List.length (v5_s_5_s_1 ++ [x22.1])) ≤ 140737488355328) (some (Sum.inl (x22.2.B, x22.2.Bad, (v5_s_5_s_1 ++ [x22.1]), (IntKind.i64.wrap (v19_1 + 1)))))))) else (some (Sum.inr (vb0_s_0_1, vb0_s_1_1, v5_s_5_s_1)))
def block_GetSpans_k0 (a1 : Trace) (x4 : Int × Reader) (x6 : Int × Reader) (x8 : Bool × Reader) (vb0_s_0_0 : List UInt8) (vb0_s_1_0 : Bool) (v5_s_5_s_0 : List Span) : Option (Episode × Reader) :=
 if vb0_s_1_0 = true then (some ((Episode.mk a1 x4.1 x6.1 x8.1 v5_s_5_s_0), (Reader.mk vb0_s_0_0 true))) else (Option.bind (block_Episode (Episode.mk a1 x4.1 x6.1 x8.1 v5_s_5_s_0)) (fun (x27 : Bool) => some ((Episode.mk a1 x4.1 x6.1 x8.1 v5_s_5_s_0), (Reader.mk vb0_s_0_0 (!x27)))))
def block_GetSpans (a0 : Reader) (a1 : Trace) : Option (Episode × Reader) :=
 Option.bind (ints_Reader_Num a0 1099511627776) (fun (x4 : Int × Reader) => Option.bind (ints_Reader_Num x4.2 1099511627776) (fun (x6 : Int × Reader) => Option.bind (ints_Reader_Flag x6.2) (fun (x8 : Bool × Reader) => Option.bind (Option.bind (ints_Reader_Count x8.2) (fun (x12 : Int × Reader) => loopN (fun (s : List UInt8 × Bool × List Span × Int) => block_GetSpans_l1 x12 s.1 s.2.1 s.2.2.1 s.2.2.2) Fu (x12.2.B, x12.2.Bad, [], 0))) (fun (s : List UInt8 × Bool × List Span) => block_GetSpans_k0 a1 x4 x6 x8 s.1 s.2.1 s.2.2))))
theorem block_GetSpans_ok (a0 : Reader) (a1 : Trace) {r : Episode × Reader} (h : block_GetSpans a0 a1 = some r) : Ok Tryz.prog 149 [.ptr 0 0 0, .agg [.int .u64 a1.Hi, .int .u64 a1.Lo]] [[.sl 1 (List.map enc5 a0.B), .bool a0.Bad]] [] (.agg [.int .u64 r.1.Trace.Hi, .int .u64 r.1.Trace.Lo, .int .i64 r.1.First, .int .i64 r.1.Last, .bool r.1.Sure, .own 2 0]) [[.sl 1 (List.map enc5 r.2.B), .bool r.2.Bad]] [(131, 10, List.map enc130 r.1.Spans)] := by
 refine oK Tryz.func149 rfl fun X => sr fun _ k1 => pD 3 (do_box W_ rfl rfl)<|pD 4 (nw ty69)<|en k1<|sr fun _ k2 => pl 6 (.agg [.int .u64 a1.Hi, .int .u64 a1.Lo]) ty62<|pP 7 (do_build_struct (cs := [.int .u64 a1.Hi, .int .u64 a1.Lo, .int .i64 0, .int .i64 0, .bool false, .nil]) ty69 rfl [⟨.struct [(0, 60), (1, 60)], 2, 16, [.int .u64 0, .int .u64 0]⟩, ⟨.int .i64, 1, 8, [.int .i64 0]⟩, ⟨.int .i64, 1, 8, [.int .i64 0]⟩, ⟨.bool, 1, 1, [.bool false]⟩, ⟨.slice 131, 1, 24, [.nil]⟩] (by simp only [List.map, ty3, ty4, ty62, ty67]) (by rfl) R_)<|pD 5 (nw ty69)<|pZ (sto [.int .u64 a1.Hi, .int .u64 a1.Lo, .int .i64 0, .int .i64 0, .bool false, .nil] ty69)<|en k2<|sr fun _ k3 => pP 8 mv<|bE h fun x4 y4 h => pD 9 (do_callG (bcs := [[.sl 1 (List.map enc5 a0.B), .bool a0.Bad]]) [(0, 0)] [] [] 9 false (ints_Reader_Num_ok a0 1099511627776 y4) rfl ent91 ⟨R_, trivial⟩ trivial rfl rfl rfl rfl rfl rfl rfl rfl (.inl trivial))<|pP 10 (fa ty69 ty3)<|pZ (sto [.int .u64 a1.Hi, .int .u64 a1.Lo, .int .i64 x4.1, .int .i64 0, .bool false, .nil] ty3)<|en k3<|sr fun _ k5 => pP 11 mv<|bE h fun x6 y6 h => pD 12 (do_callG (bcs := [[.sl 1 (List.map enc5 x4.2.B), .bool x4.2.Bad]]) [(0, 0)] [] [] 12 false (ints_Reader_Num_ok x4.2 1099511627776 y6) rfl ent91 ⟨R_, trivial⟩ trivial rfl rfl rfl rfl rfl rfl rfl rfl (.inl trivial))<|pP 13 (fa ty69 ty3)<|pZ (sto [.int .u64 a1.Hi, .int .u64 a1.Lo, .int .i64 x4.1, .int .i64 x6.1, .bool false, .nil] ty3)<|en k5<|sr fun _ k7 => pP 14 mv<|bE h fun x8 y8 h => pD 15 (do_callG (bcs := [[.sl 1 (List.map enc5 x6.2.B), .bool x6.2.Bad]]) [(0, 0)] [] [] 15 false (ints_Reader_Flag_ok x6.2 y8) rfl ent102 ⟨R_, trivial⟩ trivial rfl rfl rfl rfl rfl rfl rfl rfl (.inl trivial))<|pP 16 (fa ty69 ty4)<|pZ (sto [.int .u64 a1.Hi, .int .u64 a1.Lo, .int .i64 x4.1, .int .i64 x6.1, .bool x8.1, .nil] ty4)<|en k7<|bE h fun q9 h hk10 => aw_cut (fun s => ∃ (vb0_s_0_0 : List UInt8), ∃ (vb0_s_1_0 : Bool), ∃ (v5_s_5_s_0 : List Span), block_GetSpans_k0 a1 x4 x6 x8 vb0_s_0_0 vb0_s_1_0 v5_s_5_s_0 = some r ∧ s = lit [(0, .ptr 0 0 0), (4, .ptr 4 0 0), (5, .ptr 5 0 0)] [((0, 0), .box [.sl 1 (List.map enc5 vb0_s_0_0), .bool vb0_s_1_0]), ((4, 0), .box [.int .u64 0, .int .u64 0, .int .i64 0, .int .i64 0, .bool false, .nil]), ((5, 0), .box [.int .u64 a1.Hi, .int .u64 a1.Lo, .int .i64 x4.1, .int .i64 x6.1, .bool x8.1, .own 5 1]), ((5, 1), .arr 131 10 false (List.map enc130 v5_s_5_s_0))] [(0, 1), (4, 1), (5, 2)] X) ?_ ?_
 ·skip
  refine sr fun _ k11 => pP 17 mv<|bE h fun x12 y12 h => pD 18 (do_callG (bcs := [[.sl 1 (List.map enc5 x8.2.B), .bool x8.2.Bad]]) [(0, 0)] [] [] 18 false (ints_Reader_Count_ok x8.2 y12) rfl ent94 ⟨R_, trivial⟩ trivial rfl rfl rfl rfl rfl rfl rfl rfl (.inl trivial))<|pP 19 mv<|en k11<|aw_block<|aw_nilOwnC 5 0 5 5 131 10 (cs := [.int .u64 a1.Hi, .int .u64 a1.Lo, .int .i64 x4.1, .int .i64 x6.1, .bool x8.1, .nil]) R_ rfl D_<|aw_loop' (fun m s => ∃ (vb0_s_0_1 : List UInt8), ∃ (vb0_s_1_1 : Bool), ∃ (v5_s_5_s_1 : List Span), ∃ (v19_1 : Int), loopN (fun (s : List UInt8 × Bool × List Span × Int) => block_GetSpans_l1 x12 s.1 s.2.1 s.2.2.1 s.2.2.2) m (vb0_s_0_1, vb0_s_1_1, v5_s_5_s_1, v19_1) = some q9 ∧ s = lit [(0, .ptr 0 0 0), (4, .ptr 4 0 0), (5, .ptr 5 0 0), (18, .int .i64 x12.1), (19, .int .i64 v19_1)] [((0, 0), .box [.sl 1 (List.map enc5 vb0_s_0_1), .bool vb0_s_1_1]), ((4, 0), .box [.int .u64 0, .int .u64 0, .int .i64 0, .int .i64 0, .bool false, .nil]), ((5, 0), .box [.int .u64 a1.Hi, .int .u64 a1.Lo, .int .i64 x4.1, .int .i64 x6.1, .bool x8.1, .own 5 1]), ((5, 1), .arr 131 10 false (List.map enc130 v5_s_5_s_1))] [(0, 1), (4, 1), (5, 2)] X) Fu
   ⟨_, ra [(0, 0), (4, 0), (5, 0), (5, 1)], x12.2.B, x12.2.Bad, [], 0, h, rfl⟩ ?_
  rintro m s ⟨vb0_s_0_1, vb0_s_1_1, v5_s_5_s_1, v19_1, h, rfl⟩
  obtain ⟨m1, q13, rfl, h, hq14⟩ := loop_some h
  replace h : block_GetSpans_l1 x12 vb0_s_0_1 vb0_s_1_1 v5_s_5_s_1 v19_1 = some q13 := h
  refine sr fun _ k15 => pP 20 bi<|en k15<|aw_seq_k fun _ k16 => wi 20 h (fun c17 h => ?_) fun c17 h => ?_
  ·refine aw_skip<|k16 _<|aw_seq_k fun _ k18 => aw_block<|aw_seq_k fun _ k19 => sr fun _ k20 => pP 21 mv<|pP 22 nk<|pP 23 (fa ty89 ty4)<|pX 24 (ld ty4)<|en k20<|wi 24 h (fun c21 h => ?_) fun c21 h => ?_
   ·refine aw_exit<|tk (leafR h hq14) fun h => ?_
    obtain rfl := Option.some.inj h
    have h := hk10
    exact ⟨_, ra [(0, 0), (4, 0), (5, 0), (5, 1)], vb0_s_0_1, vb0_s_1_1, v5_s_5_s_1, h, rfl⟩
   ·refine aw_skip<|k19 _<|aw_regd (by kernel_rfl) (by decide +kernel)<|qP 25 (fa ty69 ty67)<|qR 26 (ld ty67)<|qP 27 mv<|bE h fun x22 y22 h => qD 28 (do_callG (bcs := [[.sl 1 (List.map enc5 vb0_s_0_1), .bool vb0_s_1_1]]) [(0, 0)] [] [] 28 false (span_Get_ok (Reader.mk vb0_s_0_1 vb0_s_1_1) y22) rfl ent170 ⟨R_, trivial⟩ trivial rfl rfl rfl rfl rfl rfl rfl rfl (.inl trivial))<|qD 29 (does_frz (d := 28) (n := 0) W_ (bs (List.map enc130 [x22.1]) ty67 ty131 rfl))<|gE h fun g23 h => qD 30 (do_append (v := List.map enc130 (v5_s_5_s_1 ++ [x22.1])) W_ W_ ty67 ty131 rfl rfl W_ (by first | exact .inl rfl | exact .inr ⟨rfl, rfl⟩) W_ (by first | exact .inr rfl | exact .inl rfl) (map_app _ _) (fit_map g23))<|qP 31 (fa ty69 ty67)<|aoD none rfl rfl (do_store (cs' := [.int .u64 a1.Hi, .int .u64 a1.Lo, .int .i64 x4.1, .int .i64 x6.1, .bool x8.1, .own 30 0]) W_ W_ W_ ty67 rfl rfl rfl R_) D_<|ao_nil_d (by kernel_rfl)<|k18 _<|aw_regL<|pP 32 bi<|pP 19 mv<|al_nil<|bk (ra [(0, 0), (4, 0), (5, 0), (30, 0)]) ⟨x22.2.B, x22.2.Bad, (v5_s_5_s_1 ++ [x22.1]), (IntKind.i64.wrap (v19_1 + 1)), leafL h hq14, rfl⟩
  ·refine aw_exit<|tk (leafR h hq14) fun h => ?_
   obtain rfl := Option.some.inj h
   have h := hk10
   exact ⟨_, ra [(0, 0), (4, 0), (5, 0), (5, 1)], vb0_s_0_1, vb0_s_1_1, v5_s_5_s_1, h, rfl⟩
 ·rintro s ⟨vb0_s_0_0, vb0_s_1_0, v5_s_5_s_0, h, rfl⟩
  refine sr fun _ k24 => pP 33 mv<|pP 34 mv<|pP 35 nk<|pP 36 (fa ty89 ty4)<|pX 37 (ld ty4)<|pP 38 mv<|li 38 h (fun c25 h => ?_) fun c25 h => ?_
  ·refine pS 39<|pS 40<|pS 41<|pP 42 pc<|pP 43 nk<|pP 44 (fa ty89 ty4)<|pZ (sto [.sl 1 (List.map enc5 vb0_s_0_0), .bool true] ty4)<|en k24<|sr fun _ k26 => pl 45 (.agg [.int .u64 a1.Hi, .int .u64 a1.Lo, .int .i64 x4.1, .int .i64 x6.1, .bool x8.1, .own 5 1]) ty69<|pZ (sto [.int .u64 a1.Hi, .int .u64 a1.Lo, .int .i64 x4.1, .int .i64 x6.1, .bool x8.1, .own 5 1] ty69)<|en k26<|aw_ret<|by cases h;exact rB [(5, 1)]
  ·refine pl 39 (.agg [.int .u64 a1.Hi, .int .u64 a1.Lo, .int .i64 x4.1, .int .i64 x6.1, .bool x8.1, .own 5 1]) ty69<|bE h fun x27 y27 h => pD 40 (do_callG (bcs := []) [] [] [(5, 1)] 40 false (block_Episode_ok (Episode.mk a1 x4.1 x6.1 x8.1 v5_s_5_s_0) y27) rfl ent52 trivial trivial rfl rfl rfl rfl rfl rfl rfl rfl (.inr ⟨rfl, rfl, trivial⟩))<|pP 41 un<|pP 42 pc<|pP 43 nk<|pP 44 (fa ty89 ty4)<|pZ (sto [.sl 1 (List.map enc5 vb0_s_0_0), .bool (!x27)] ty4)<|en k24<|sr fun _ k28 => pl 45 (.agg [.int .u64 a1.Hi, .int .u64 a1.Lo, .int .i64 x4.1, .int .i64 x6.1, .bool x8.1, .own 5 1]) ty69<|pZ (sto [.int .u64 a1.Hi, .int .u64 a1.Lo, .int .i64 x4.1, .int .i64 x6.1, .bool x8.1, .own 5 1] ty69)<|en k28<|aw_ret<|by cases h;exact rB [(5, 1)]
def gleaningref15_count (a0 : Int) : Option Bool :=
 if (decide ((0 : Int) ≤ a0)) = true then (some (decide (a0 ≤ 1099511627776))) else (some false)
theorem gleaningref15_count_ok (a0 : Int) {r : Bool} (h : gleaningref15_count a0 = some r) : Ok Tryz.prog 21 [.int .i64 a0] [] [] (.bool r) [] [] := by
 refine oK Tryz.func21 rfl fun X => sr fun _ k1 => pP 2 asg<|en k1<|sr fun _ k2 => pP 3 mv<|pP 4 bi<|pP 5 mv<|li 5 h (fun c3 h => ?_) fun c3 h => ?_
 ·refine pP 6 mv<|pP 7 bi<|pP 8 pc<|pP 2 asg<|en k2<|aw_ret<|by cases h;exact rk
 ·refine pS 6<|pS 7<|pP 8 pc<|pP 2 asg<|en k2<|aw_ret<|by cases h;exact rk
def gleaningref15_RightEpisode_l3 (a0 : Episode) (v3_1 : Int) (v4_3 : Int) : Option (Int ⊕ (Int ⊕ Bool)) :=
 if (decide (v4_3 < v3_1)) = true then (gd (0 ≤ v4_3) (Option.bind (a0.Spans[(Int.toNat v4_3)]?) (fun (x42 : Span) => gd (0 ≤ v3_1) (Option.bind (a0.Spans[(Int.toNat v3_1)]?) (fun (x44 : Span) => if (x42.Id == x44.Id) = true then (some (Sum.inr (Sum.inr false))) else (some (Sum.inl (IntKind.i64.wrap (v4_3 + 1))))))))) else (some (Sum.inr (Sum.inl (IntKind.i64.wrap (v3_1 + 1)))))
def gleaningref15_RightEpisode_k2 (a0 : Episode) (v3_1 : Int) : Option (Int ⊕ Bool) :=
 loopN (fun (s : Int) => gleaningref15_RightEpisode_l3 a0 v3_1 s) Fu 0
def gleaningref15_RightEpisode_l1 (a0 : Episode) (v3_1 : Int) : Option (Int ⊕ Bool) :=
 if (decide (v3_1 < (List.length a0.Spans : Int))) = true then (Option.bind (gd (0 ≤ v3_1) (Option.bind (a0.Spans[(Int.toNat v3_1)]?) (fun (x25 : Span) => Option.bind (gleaningref1_RightSpan x25) (fun (x26 : Bool) => if (!x26) = true then (some (Sum.inr (Sum.inr false))) else (gd (0 ≤ v3_1) (Option.bind (a0.Spans[(Int.toNat v3_1)]?) (fun (x30 : Span) => if (!((x30.Trace.Hi == a0.Trace.Hi) && ((x30.Trace.Lo == a0.Trace.Lo) && true))) = true then (some (Sum.inr (Sum.inr false))) else (some (Sum.inl ()))))))))) (Sum.elim (fun (s : Unit) => gleaningref15_RightEpisode_k2 a0 v3_1) some)) else (some (Sum.inr true))
def gleaningref15_RightEpisode_k0 (a0 : Episode) : Option Bool :=
 loopN (fun (s : Int) => gleaningref15_RightEpisode_l1 a0 s) Fu 0
def gleaningref15_RightEpisode (a0 : Episode) : Option Bool :=
 Option.bind (Option.bind (gleaningref15_count a0.First) (fun (x5 : Bool) => if (!x5) = true then (some (Sum.inr false)) else (Option.bind (gleaningref15_count a0.Last) (fun (x8 : Bool) => if (!x8) = true then (some (Sum.inr false)) else (if ((List.length a0.Spans : Int) == 0) = true then (some (Sum.inr false)) else (some (Sum.inl ()))))))) (Sum.elim (fun (s : Unit) => gleaningref15_RightEpisode_k0 a0) some)
theorem gleaningref15_RightEpisode_ok (a0 : Episode) {r : Bool} (h : gleaningref15_RightEpisode a0 = some r) : Ok Tryz.prog 23 [.agg [.int .u64 a0.Trace.Hi, .int .u64 a0.Trace.Lo, .int .i64 a0.First, .int .i64 a0.Last, .bool a0.Sure, .sl 10 (List.map enc130 a0.Spans)]] [] [] (.bool r) [] [] := by
 refine oK Tryz.func23 rfl fun X => sr fun _ k1 => pD 1 (do_box W_ rfl rfl)<|pP 2 asg<|en k1<|bE h fun q2 h hk3 => aw_cut (fun s => gleaningref15_RightEpisode_k0 a0 = some r ∧ s = lit [(1, .ptr 1 0 0)] [((1, 0), .box [.int .u64 a0.Trace.Hi, .int .u64 a0.Trace.Lo, .int .i64 a0.First, .int .i64 a0.Last, .bool a0.Sure, .sl 10 (List.map enc130 a0.Spans)])] [(1, 1)] X) ?_ ?_
 ·skip
  refine sr fun _ k4 => pP 5 (fa ty69 ty3)<|pX 6 (ld ty3)<|bE h fun x5 y5 h => pD 7 (cZ 7 (gleaningref15_count_ok a0.First y5) ent21)<|pP 8 un<|pP 9 mv<|li 9 h (fun c6 h => ?_) fun c6 h => ?_
  ·refine pS 10<|pS 11<|pS 12<|pS 13<|pP 14 pc<|pP 15 mv<|pS 16<|pS 17<|pS 18<|pS 19<|pP 20 pc<|en k4<|aw_cond_t D_ rfl<|sr fun _ k7 => pP 2 asg<|en k7<|aw_ret<|by cases leafR h hk3;exact rk
  ·refine pP 10 (fa ty69 ty3)<|pX 11 (ld ty3)<|bE h fun x8 y8 h => pD 12 (cZ 12 (gleaningref15_count_ok a0.Last y8) ent21)<|pP 13 un<|pP 14 pc<|pP 15 mv<|li 15 h (fun c9 h => ?_) fun c9 h => ?_
   ·refine pS 16<|pS 17<|pS 18<|pS 19<|pP 20 pc<|en k4<|aw_cond_t D_ rfl<|sr fun _ k10 => pP 2 asg<|en k10<|aw_ret<|by cases leafR h hk3;exact rk
   ·refine pP 16 (fa ty69 ty67)<|pX 17 (ld ty67)<|pP 18 (zl ty67)<|pP 19 bi<|pP 20 pc<|en k4<|wi 20 h (fun c11 h => ?_) fun c11 h => ?_
    ·refine sr fun _ k12 => pP 2 asg<|en k12<|aw_ret<|by cases leafR h hk3;exact rk
    ·refine aw_skip<|tk (leafL h hk3) fun h => ?_
     exact ⟨_, ra [(1, 0)], h, rfl⟩
 ·rintro s ⟨h, rfl⟩
  unfold gleaningref15_RightEpisode_k0 at h
  refine aw_seq_k fun _ k13 => sr fun _ k14 => pP 3 asg<|en k14<|aw_block<|aw_loop' (fun m s => ∃ (v3_1 : Int), loopN (fun (s : Int) => gleaningref15_RightEpisode_l1 a0 s) m v3_1 = some r ∧ s = lit [(1, .ptr 1 0 0), (3, .int .i64 v3_1)] [((1, 0), .box [.int .u64 a0.Trace.Hi, .int .u64 a0.Trace.Lo, .int .i64 a0.First, .int .i64 a0.Last, .bool a0.Sure, .sl 10 (List.map enc130 a0.Spans)])] [(1, 1)] X) Fu
   ⟨_, ra [(1, 0)], 0, h, rfl⟩ ?_
  rintro m s ⟨v3_1, h, rfl⟩
  obtain ⟨m1, q15, rfl, h, hq16⟩ := loop_some h
  replace h : gleaningref15_RightEpisode_l1 a0 v3_1 = some q15 := h
  refine aw_seq_k fun _ k17 => sr fun _ k18 => pP 21 mv<|pP 22 (fa ty69 ty67)<|pX 23 (ld ty67)<|pP 24 (zl ty67)<|pP 25 bi<|en k18<|wi 25 h (fun c19 h => ?_) fun c19 h => ?_
  ·refine aw_skip<|k17 _<|aw_seq_k fun _ k20 => aw_block<|bE h fun q21 h hk22 => aw_cut (fun s => gleaningref15_RightEpisode_k2 a0 v3_1 = some q15 ∧ s = lit [(1, .ptr 1 0 0), (3, .int .i64 v3_1)] [((1, 0), .box [.int .u64 a0.Trace.Hi, .int .u64 a0.Trace.Lo, .int .i64 a0.First, .int .i64 a0.Last, .bool a0.Sure, .sl 10 (List.map enc130 a0.Spans)])] [(1, 1)] X) ?_ ?_
   ·skip
    refine aw_seq_k fun _ k23 => aw_regd (by kernel_rfl) (by decide +kernel)<|qP 28 (fa ty69 ty67)<|qR 29 (ld ty67)<|qP 30 mv<|gE h fun g24 h => bE h fun x25 y25 h => qP 31 (ia ty67 ty131 g24 y25)<|qR 32 (does_load (v := .agg [.int .u64 x25.Trace.Hi, .int .u64 x25.Trace.Lo, .int .u64 x25.Id, .int .u64 x25.Parent, .str x25.Service, .str x25.Op, .int .i64 x25.Start, .int .i64 x25.Dur, .bool x25.Err, .sl 2 (List.map enc181 x25.Attrs)]) W_ W_ ty131 R_)<|bE h fun x26 y26 h => qD 33 (cZ 33 (gleaningref1_RightSpan_ok x25 y26) ent82)<|qP 34 un<|qP 35 mv<|ao_bool (c := (!x26)) 35 rfl (fun c27 => ?_) (fun c27 => ?_)
    ·have h := ifT c27 h
     refine qS 36<|qS 37<|qS 38<|qS 39<|qS 40<|qS 41<|qS 42<|qS 43<|qS 44<|qP 45 pc<|ao_nil_d (by kernel_rfl)<|k23 _<|aw_cond_t D_ rfl<|sr fun _ k28 => pP 2 asg<|en k28<|aw_ret<|tk (leafR h hk22) fun h => by cases leafR h hq16;exact rk
    ·have h := ifF c27 h
     refine qP 36 (fa ty69 ty67)<|qR 37 (ld ty67)<|qP 38 mv<|gE h fun g29 h => bE h fun x30 y30 h => qP 39 (ia ty67 ty131 g29 y30)<|qP 40 (fa ty131 ty62)<|qR 41 (does_load (v := .agg [.int .u64 x30.Trace.Hi, .int .u64 x30.Trace.Lo]) W_ W_ ty62 R_)<|qP 42 (fa ty69 ty62)<|qR 43 (does_load (v := .agg [.int .u64 a0.Trace.Hi, .int .u64 a0.Trace.Lo]) W_ W_ ty62 R_)<|qP 44 (does_eq_struct (v := .bool (!((x30.Trace.Hi == a0.Trace.Hi) && ((x30.Trace.Lo == a0.Trace.Lo) && true)))) W_ W_ fk62 rfl ag62 eg62 W_ rfl)<|qP 45 pc<|ao_nil_d (by kernel_rfl)<|k23 _<|wi 45 h (fun c31 h => ?_) fun c31 h => ?_
     ·refine sr fun _ k32 => pP 2 asg<|en k32<|aw_ret<|tk (leafR h hk22) fun h => by cases leafR h hq16;exact rk
     ·refine aw_skip<|tk (leafL h hk22) fun h => ?_
      exact ⟨_, ra [(1, 0)], h, rfl⟩
   ·rintro s ⟨h, rfl⟩
    unfold gleaningref15_RightEpisode_k2 at h
    refine sr fun _ k33 => pP 4 asg<|en k33<|aw_block<|aw_loop' (fun m s => ∃ (v4_3 : Int), loopN (fun (s : Int) => gleaningref15_RightEpisode_l3 a0 v3_1 s) m v4_3 = some q15 ∧ s = lit [(1, .ptr 1 0 0), (3, .int .i64 v3_1), (4, .int .i64 v4_3)] [((1, 0), .box [.int .u64 a0.Trace.Hi, .int .u64 a0.Trace.Lo, .int .i64 a0.First, .int .i64 a0.Last, .bool a0.Sure, .sl 10 (List.map enc130 a0.Spans)])] [(1, 1)] X) Fu
     ⟨_, ra [(1, 0)], 0, h, rfl⟩ ?_
    rintro m s ⟨v4_3, h, rfl⟩
    obtain ⟨m3, q34, rfl, h, hq35⟩ := loop_some h
    replace h : gleaningref15_RightEpisode_l3 a0 v3_1 v4_3 = some q34 := h
    refine aw_seq_k fun _ k36 => sr fun _ k37 => pP 46 mv<|pP 47 mv<|pP 48 bi<|en k37<|wi 48 h (fun c38 h => ?_) fun c38 h => ?_
    ·refine aw_skip<|k36 _<|aw_seq_k fun _ k39 => aw_block<|aw_seq_k fun _ k40 => aw_regd (by kernel_rfl) (by decide +kernel)<|qP 51 (fa ty69 ty67)<|qR 52 (ld ty67)<|qP 53 mv<|gE h fun g41 h => bE h fun x42 y42 h => qP 54 (ia ty67 ty131 g41 y42)<|qP 55 (fa ty131 ty60)<|qR 56 (ld ty60)<|qP 57 (fa ty69 ty67)<|qR 58 (ld ty67)<|qP 59 mv<|gE h fun g43 h => bE h fun x44 y44 h => qP 60 (ia ty67 ty131 g43 y44)<|qP 61 (fa ty131 ty60)<|qR 62 (ld ty60)<|qP 63 bi<|ao_nil_d (by kernel_rfl)<|k40 _<|wi 63 h (fun c45 h => ?_) fun c45 h => ?_
     ·refine sr fun _ k46 => pP 2 asg<|en k46<|aw_ret<|tk (leafR h hq35) fun h => by cases leafR h hq16;exact rk
     ·refine aw_skip<|k39 _<|aw_regL<|pP 49 mv<|pP 50 bi<|pP 4 asg<|al_nil<|bk (ra [(1, 0)]) ⟨(IntKind.i64.wrap (v4_3 + 1)), leafL h hq35, rfl⟩
    ·refine aw_exit<|tk (leafR h hq35) fun h => k20 _<|aw_regL<|pP 26 mv<|pP 27 bi<|pP 3 asg<|al_nil<|bk (ra [(1, 0)]) ⟨(IntKind.i64.wrap (v3_1 + 1)), leafL h hq16, rfl⟩
  ·refine aw_exit<|tk (leafR h hq16) fun h => k13 _<|sr fun _ k47 => pP 2 asg<|en k47<|aw_ret<|by cases h;exact rk
end Go.Proofs.YtjklegmimpehlaaGreat.Ab
