/- Operations as bytes. -/
import Derived.Test.YtbaibpjffcahiaaGreatXR1
import Derived.Test.YtbaibpjffcahiaaGreatProg
namespace Go.Proofs.YtbaibpjffcahiaaGreat.Ab
open Go Go.RowKit
set_option linter.unusedVariables false
set_option linter.unusedSimpArgs false
set_option maxRecDepth 100000
set_option maxHeartbeats 8000000
structure OpG where
  Kind : Int
  N : Int
  Spans : List Span
  Policy : Rule
structure Reader where
  B : List UInt8
  Bad : Bool
  deriving DecidableEq
theorem ty27 : tyOf Tryz.prog 27 = some ⟨.struct [(0, 3), (1, 3), (2, 22), (3, 25)], 8, 112, [.int .i64 0, .int .i64 0, .nil, .int .i64 0, .int .i64 0, .str ByteArray.empty, .str ByteArray.empty, .nil]⟩ := by kernel_rfl
theorem ty71 : tyOf Tryz.prog 71 = some ⟨.struct [(0, 46), (1, 4)], 2, 32, [.nil, .bool false]⟩ := by kernel_rfl
theorem ent20 : Ent Tryz.prog 20 := eN Tryz.func20
theorem ent21 : Ent Tryz.prog 21 := eN Tryz.func21
theorem ent22 : Ent Tryz.prog 22 := eN Tryz.func22
theorem ent23 : Ent Tryz.prog 23 := eN Tryz.func23
theorem ent26 : Ent Tryz.prog 26 := eN Tryz.func26
theorem ent54 : Ent Tryz.prog 54 := eN Tryz.func54
theorem ent63 : Ent Tryz.prog 63 := eN Tryz.func63
theorem ent82 : Ent Tryz.prog 82 := eN Tryz.func82
theorem ent83 : Ent Tryz.prog 83 := eN Tryz.func83
theorem ent97 : Ent Tryz.prog 97 := eN Tryz.func97
theorem ent106 : Ent Tryz.prog 106 := eN Tryz.func106
def model_within_c1 (a0 : Int) (a1 : Int) (a2 : Int) : Option Bool :=
 if (decide (a0 < a1)) = true then (some true) else (some (decide (a2 < a0)))
theorem model_within_c1_ok (a0 : Int) (a1 : Int) (a2 : Int) {r : Bool} (h : model_within_c1 a0 a1 a2 = some r) : Ok Tryz.prog 83 [.int .i64 a0, .rptr [.int .i64 a1], .rptr [.int .i64 a2]] [] [] (.bool r) [] [] := by
 refine oK Tryz.func83 rfl fun X => sr fun _ k1 => pP 4 asg<|en k1<|sr fun _ k2 => pP 5 mv<|pX 6 (ld ty3)<|pP 7 bi<|pP 8 mv<|li 8 h (fun c3 h => ?_) fun c3 h => ?_
 ·refine pS 9<|pS 10<|pS 11<|pP 12 pc<|pP 4 asg<|en k2<|aw_ret<|by cases h;exact rk
 ·refine pP 9 mv<|pX 10 (ld ty3)<|pP 11 bi<|pP 12 pc<|pP 4 asg<|en k2<|aw_ret<|by cases h;exact rk
def slices_IndexFunc_int_model_within_c1_l0 (a0 : List Int) (a1_0 : Int) (a1_1 : Int) (v8_0 : Int) : Option (Int ⊕ Int) :=
 if (decide (v8_0 < (List.length a0 : Int))) = true then (gd (0 ≤ v8_0) (Option.bind (a0[(Int.toNat v8_0)]?) (fun (x13 : Int) => Option.bind (model_within_c1 x13 a1_0 a1_1) (fun (x14 : Bool) => if x14 = true then (some (Sum.inr v8_0)) else (some (Sum.inl (IntKind.i64.wrap (v8_0 + 1)))))))) else (some (Sum.inr (-1)))
def slices_IndexFunc_int_model_within_c1 (a0 : List Int) (a1_0 : Int) (a1_1 : Int) : Option Int :=
 loopN (fun (s : Int) => slices_IndexFunc_int_model_within_c1_l0 a0 a1_0 a1_1 s) Fu 0
theorem slices_IndexFunc_int_model_within_c1_ok (a0 : List Int) (a1_0 : Int) (a1_1 : Int) {r : Int} (h : slices_IndexFunc_int_model_within_c1 a0 a1_0 a1_1 = some r) : Ok Tryz.prog 106 [.sl 1 (List.map enc2 a0), .fn 83 [.rptr [.int .i64 a1_0], .rptr [.int .i64 a1_1]]] [] [] (.int .i64 r) [] [] := by
 unfold slices_IndexFunc_int_model_within_c1 at h
 refine oK Tryz.func106 rfl fun X => sr fun _ k1 => pP 4 asg<|en k1<|aw_seq_k fun _ k2 => sr fun _ k3 => pP 6 mv<|pP 7 (zl ty55)<|pP 8 mv<|en k3<|aw_block<|aw_loop' (fun m s => ∃ (v8_0 : Int), loopN (fun (s : Int) => slices_IndexFunc_int_model_within_c1_l0 a0 a1_0 a1_1 s) m v8_0 = some r ∧ s = lit [(0, .sl 1 (List.map enc2 a0)), (1, .fn 83 [.rptr [.int .i64 a1_0], .rptr [.int .i64 a1_1]]), (7, .int .i64 (List.length a0 : Int)), (8, .int .i64 v8_0)] [] [] X) Fu
  ⟨_, ra [], 0, h, rfl⟩ ?_
 rintro m s ⟨v8_0, h, rfl⟩
 obtain ⟨m0, q4, rfl, h, hq5⟩ := loop_some h
 replace h : slices_IndexFunc_int_model_within_c1_l0 a0 a1_0 a1_1 v8_0 = some q4 := h
 refine sr fun _ k6 => pP 9 bi<|en k6<|aw_seq_k fun _ k7 => wi 9 h (fun c8 h => ?_) fun c8 h => ?_
 ·refine aw_skip<|k7 _<|aw_seq_k fun _ k9 => aw_block<|sr fun _ k10 => pP 10 mv<|pP 5 asg<|en k10<|sr fun _ k11 => pP 11 mv<|pP 12 mv<|pP 13 mv<|gE h fun g12 h => bE h fun x13 y13 h => pP 14 (ia ty55 ty3 g12 y13)<|pX 15 (ld ty3)<|bE h fun x14 y14 h => pD 16 (cZ 16 (model_within_c1_ok x13 a1_0 a1_1 y14) ent83)<|en k11<|wi 16 h (fun c15 h => ?_) fun c15 h => ?_
  ·refine sr fun _ k16 => pP 17 mv<|pP 4 asg<|en k16<|aw_ret<|by cases leafR h hq5;exact rk
  ·refine aw_skip<|k9 _<|aw_regL<|pP 18 bi<|pP 8 mv<|al_nil<|bk (ra []) ⟨(IntKind.i64.wrap (v8_0 + 1)), leafL h hq5, rfl⟩
 ·refine aw_exit<|tk (leafR h hq5) fun h => k2 _<|sr fun _ k17 => pP 4 asg<|en k17<|aw_ret<|by cases h;exact rk
def slices_ContainsFunc_int_model_within_c1 (a0 : List Int) (a1_0 : Int) (a1_1 : Int) : Option Bool :=
 Option.bind (slices_IndexFunc_int_model_within_c1 a0 a1_0 a1_1) (fun (x3 : Int) => some (decide ((0 : Int) ≤ x3)))
theorem slices_ContainsFunc_int_model_within_c1_ok (a0 : List Int) (a1_0 : Int) (a1_1 : Int) {r : Bool} (h : slices_ContainsFunc_int_model_within_c1 a0 a1_0 a1_1 = some r) : Ok Tryz.prog 82 [.sl 1 (List.map enc2 a0), .fn 83 [.rptr [.int .i64 a1_0], .rptr [.int .i64 a1_1]]] [] [] (.bool r) [] [] := by
 refine oK Tryz.func82 rfl fun X => sr fun _ k1 => pP 4 asg<|en k1<|sr fun _ k2 => pP 5 mv<|pP 6 mv<|bE h fun x3 y3 h => pD 7 (cZ 7 (slices_IndexFunc_int_model_within_c1_ok a0 a1_0 a1_1 y3) ent106)<|pP 8 bi<|pP 4 asg<|en k2<|aw_ret<|by cases h;exact rk
def model_within (a0 : Int) (a1 : Int) (a2 : List Int) : Option Bool :=
 Option.bind (slices_ContainsFunc_int_model_within_c1 a2 a0 a1) (fun (x3 : Bool) => some (!x3))
theorem model_within_ok (a0 : Int) (a1 : Int) (a2 : List Int) {r : Bool} (h : model_within a0 a1 a2 = some r) : Ok Tryz.prog 54 [.int .i64 a0, .int .i64 a1, .sl 1 (List.map enc2 a2)] [] [] (.bool r) [] [] := by
 refine oK Tryz.func54 rfl fun X => sr fun _ k1 => pD 3 (do_box W_ rfl rfl)<|pD 4 (do_box W_ rfl rfl)<|pP 6 asg<|en k1<|sr fun _ k2 => pP 7 mv<|pP 8 (does_makeFunc (vs := [.ptr 3 0 0, .ptr 4 0 0]) rfl)<|bE h fun x3 y3 h => pD 9 (do_callG (bcs := []) [] [] [(3, 0), (4, 0)] 9 false (slices_ContainsFunc_int_model_within_c1_ok a2 a0 a1 y3) rfl ent82 trivial trivial rfl rfl rfl rfl rfl rfl rfl rfl (.inr ⟨rfl, rfl, trivial⟩))<|pP 10 un<|pP 6 asg<|en k2<|aw_ret<|by cases h;exact rk
def model_May (a0 : OpG) : Option Bool :=
 if (a0.Kind == 1) = true then (Option.bind (batch_Right a0.Spans) (fun (x7 : Bool) => some x7)) else (if (a0.Kind == 2) = true then (Option.bind (model_within 0 1099511627776 [a0.N]) (fun (x11 : Bool) => some x11)) else (if (a0.Kind == 3) = true then (Option.bind (rule_Right a0.Policy) (fun (x15 : Bool) => some x15)) else (some (a0.Kind == 4))))
theorem model_May_ok (a0 : OpG) {r : Bool} (h : model_May a0 = some r) : Ok Tryz.prog 20 [.agg [.int .i64 a0.Kind, .int .i64 a0.N, .sl 10 (List.map enc77 a0.Spans), .int .i64 a0.Policy.Kind, .int .i64 a0.Policy.N, .str a0.Policy.Key, .str a0.Policy.Value, .sl 5 (List.map enc24 a0.Policy.Kids)]] [] [] (.bool r) [] [] := by
 refine oK Tryz.func20 rfl fun X => sr fun _ k1 => pD 1 (do_box W_ rfl rfl)<|pP 2 asg<|en k1<|aw_seq_k fun _ k2 => sr fun _ k3 => pP 3 (fa ty27 ty3)<|pX 4 (ld ty3)<|en k3<|aw_block<|sr fun _ k4 => pP 6 bi<|pP 5 asg<|en k4<|wi 5 h (fun c5 h => ?_) fun c5 h => ?_
 ·refine sr fun _ k6 => pP 7 (fa ty27 ty22)<|pX 8 (ld ty22)<|bE h fun x7 y7 h => pD 9 (cZ 9 (batch_Right_ok a0.Spans y7) ent53)<|pP 2 asg<|en k6<|aw_ret<|by cases h;exact rk
 ·refine sr fun _ k8 => pP 11 bi<|pP 10 asg<|en k8<|wi 10 h (fun c9 h => ?_) fun c9 h => ?_
  ·refine sr fun _ k10 => pP 12 (fa ty27 ty3)<|pX 13 (ld ty3)<|pD 14 (bs (List.map enc2 [a0.N]) ty55 ty3 rfl)<|bE h fun x11 y11 h => pD 15 (do_callG (bcs := []) [] [] [(14, 0)] 15 false (model_within_ok 0 1099511627776 [a0.N] y11) rfl ent54 trivial trivial rfl rfl rfl rfl rfl rfl rfl rfl (.inr ⟨rfl, rfl, trivial⟩))<|pP 2 asg<|en k10<|aw_ret<|by cases h;exact rk
  ·refine sr fun _ k12 => pP 17 bi<|pP 16 asg<|en k12<|wi 16 h (fun c13 h => ?_) fun c13 h => ?_
   ·refine sr fun _ k14 => pP 18 (fa ty27 ty25)<|pl 19 (.agg [.int .i64 a0.Policy.Kind, .int .i64 a0.Policy.N, .str a0.Policy.Key, .str a0.Policy.Value, .sl 5 (List.map enc24 a0.Policy.Kids)]) ty25<|bE h fun x15 y15 h => pD 20 (cZ 20 (rule_Right_ok a0.Policy y15) ent55)<|pP 2 asg<|en k14<|aw_ret<|by cases h;exact rk
   ·refine aw_skip<|k2 _<|sr fun _ k16 => pP 21 (fa ty27 ty3)<|pX 22 (ld ty3)<|pP 23 bi<|pP 2 asg<|en k16<|aw_ret<|by cases h;exact rk
def keeper_Op (a0 : OpG) : Option (List UInt8) :=
 Option.bind (model_May a0) (fun (x4 : Bool) => if (!x4) = true then (some []) else (if (a0.Kind == 1) = true then (Option.bind (batch_Bytes a0.Spans) (fun (x13 : List UInt8) => gd ((List.length ([(u8 (IntKind.u8.wrap a0.Kind))] ++ x13)) * 1 ≤ 140737488355328 ∧ (List.length ([(u8 (IntKind.u8.wrap a0.Kind))] ++ x13)) ≤ 140737488355328) (some ([(u8 (IntKind.u8.wrap a0.Kind))] ++ x13)))) else (if (a0.Kind == 2) = true then (Option.bind (ints_Put [(u8 (IntKind.u8.wrap a0.Kind))] (IntKind.u64.wrap a0.N)) (fun (x18 : List UInt8) => some x18)) else (if (a0.Kind == 3) = true then (Option.bind (rule_Bytes a0.Policy) (fun (x22 : List UInt8) => gd ((List.length ([(u8 (IntKind.u8.wrap a0.Kind))] ++ x22)) * 1 ≤ 140737488355328 ∧ (List.length ([(u8 (IntKind.u8.wrap a0.Kind))] ++ x22)) ≤ 140737488355328) (some ([(u8 (IntKind.u8.wrap a0.Kind))] ++ x22)))) else (some [(u8 (IntKind.u8.wrap a0.Kind))])))))
theorem keeper_Op_ok (a0 : OpG) {r : List UInt8} (h : keeper_Op a0 = some r) : Ok Tryz.prog 9 [.agg [.int .i64 a0.Kind, .int .i64 a0.N, .sl 10 (List.map enc77 a0.Spans), .int .i64 a0.Policy.Kind, .int .i64 a0.Policy.N, .str a0.Policy.Key, .str a0.Policy.Value, .sl 5 (List.map enc24 a0.Policy.Kids)]] [] [] (.own 2 0) [] [(5, 1, List.map enc5 r)] := by
 refine oK Tryz.func9 rfl fun X => sr fun _ k1 => pD 1 (do_box W_ rfl rfl)<|pP 2 asg<|en k1<|aw_seq_k fun _ k2 => sr fun _ k3 => pl 4 (.agg [.int .i64 a0.Kind, .int .i64 a0.N, .sl 10 (List.map enc77 a0.Spans), .int .i64 a0.Policy.Kind, .int .i64 a0.Policy.N, .str a0.Policy.Key, .str a0.Policy.Value, .sl 5 (List.map enc24 a0.Policy.Kids)]) ty27<|bE h fun x4 y4 h => pD 5 (cZ 5 (model_May_ok a0 y4) ent20)<|pP 6 un<|en k3<|wi 6 h (fun c5 h => ?_) fun c5 h => ?_
 ·refine sr fun _ k6 => pP 2 asg<|en k6<|aw_nilOwn 2 5 1 W_ D_ D_<|aw_ret<|by cases h;exact rB [(2, 0)]
 ·refine aw_skip<|k2 _<|sr fun _ k7 => pP 7 (fa ty27 ty3)<|pX 8 (ld ty3)<|pP 9 ((does_conv_int (v := .int .u8 (IntKind.u8.wrap a0.Kind)) W_ (ty_some ty3) (ty_int ty5) rfl).castp (v' := .int .u8 ((u8 (IntKind.u8.wrap a0.Kind)).toNat : Int)) (by exact congrArg _ (u8_eq (u8_wrap _))))<|pD 10 (bs (List.map enc5 [(u8 (IntKind.u8.wrap a0.Kind))]) ty46 ty5 rfl)<|pP 3 asg<|en k7<|aw_seq_k fun _ k8 => sr fun _ k9 => pP 11 (fa ty27 ty3)<|pX 12 (ld ty3)<|en k9<|aw_block<|sr fun _ k10 => pP 14 bi<|pP 13 asg<|en k10<|wi 13 h (fun c11 h => ?_) fun c11 h => ?_
  ·refine sr fun _ k12 => pP 15 mv<|pP 16 (fa ty27 ty22)<|pX 17 (ld ty22)<|bE h fun x13 y13 h => pD 18 (cZ 18 (batch_Bytes_ok a0.Spans y13) ent21)<|gE h fun g14 h => pD 19 (do_append (v := List.map enc5 ([(u8 (IntKind.u8.wrap a0.Kind))] ++ x13)) W_ W_ ty46 ty5 rfl rfl W_ (by first | exact .inl rfl | exact .inr ⟨rfl, rfl⟩) W_ (by first | exact .inr rfl | exact .inl rfl) (map_app _ _) (fit_map g14))<|pP 2 asg<|en k12<|aw_ret<|by cases h;exact rB [(19, 0)]
  ·refine sr fun _ k15 => pP 21 bi<|pP 20 asg<|en k15<|wi 20 h (fun c16 h => ?_) fun c16 h => ?_
   ·refine sr fun _ k17 => pP 22 mv<|pP 23 (fa ty27 ty3)<|pX 24 (ld ty3)<|pP 25 (does_conv_int (v := .int .u64 (IntKind.u64.wrap a0.N)) W_ (ty_some ty3) (ty_int ty63) rfl)<|bE h fun x18 y18 h => pD 26 (do_callG (bcs := []) [] [] [(10, 0)] 26 false (ints_Put_ok [(u8 (IntKind.u8.wrap a0.Kind))] (IntKind.u64.wrap a0.N) y18) rfl ent22 trivial trivial rfl rfl rfl rfl rfl rfl rfl rfl (.inr ⟨rfl, rfl, ⟨plain_map (fun _ => rfl), trivial⟩⟩))<|pP 2 asg<|en k17<|aw_ret<|by cases h;exact rB [(26, 0)]
   ·refine sr fun _ k19 => pP 28 bi<|pP 27 asg<|en k19<|wi 27 h (fun c20 h => ?_) fun c20 h => ?_
    ·refine sr fun _ k21 => pP 29 mv<|pP 30 (fa ty27 ty25)<|pl 31 (.agg [.int .i64 a0.Policy.Kind, .int .i64 a0.Policy.N, .str a0.Policy.Key, .str a0.Policy.Value, .sl 5 (List.map enc24 a0.Policy.Kids)]) ty25<|bE h fun x22 y22 h => pD 32 (cZ 32 (rule_Bytes_ok a0.Policy y22) ent23)<|gE h fun g23 h => pD 33 (do_append (v := List.map enc5 ([(u8 (IntKind.u8.wrap a0.Kind))] ++ x22)) W_ W_ ty46 ty5 rfl rfl W_ (by first | exact .inl rfl | exact .inr ⟨rfl, rfl⟩) W_ (by first | exact .inr rfl | exact .inl rfl) (map_app _ _) (fit_map g23))<|pP 2 asg<|en k21<|aw_ret<|by cases h;exact rB [(33, 0)]
    ·refine aw_skip<|k8 _<|sr fun _ k24 => pP 34 mv<|pP 2 asg<|en k24<|aw_ret<|by cases h;exact rB [(10, 0)]
def ints_Reader_Wide_k1 (v22_1 : Bool) : Option (Unit ⊕ (Int × Reader)) :=
 if v22_1 = true then (some (Sum.inr (0, (Reader.mk [] true)))) else (some (Sum.inl ()))
def ints_Reader_Wide_k0 (a0 : Reader) (x3 : Int × Int × Bool) : Option (Int × Reader) :=
 gd (0 ≤ x3.2.1) (gd (x3.2.1 ≤ (List.length a0.B : Int)) (some (x3.1, (Reader.mk (List.drop (Int.toNat x3.2.1) a0.B) a0.Bad))))
def ints_Reader_Wide (a0 : Reader) : Option (Int × Reader) :=
 Option.bind (ints_Get a0.B) (fun (x3 : Int × Int × Bool) => Option.bind (Option.bind (if a0.Bad = true then (some true) else (some (!x3.2.2))) (fun (s : Bool) => ints_Reader_Wide_k1 s)) (Sum.elim (fun (s : Unit) => ints_Reader_Wide_k0 a0 x3) some))
theorem ints_Reader_Wide_ok (a0 : Reader) {r : Int × Reader} (h : ints_Reader_Wide a0 = some r) : Ok Tryz.prog 63 [.ptr 0 0 0] [[.sl 1 (List.map enc5 a0.B), .bool a0.Bad]] [] (.int .u64 r.1) [[.sl 1 (List.map enc5 r.2.B), .bool r.2.Bad]] [] := by
 refine oK Tryz.func63 rfl fun X => sr fun _ k1 => pP 2 asg<|en k1<|sr fun _ k2 => pP 7 mv<|pP 8 nk<|pP 9 (fa ty71 ty46)<|pX 10 (ld ty46)<|bE h fun x3 y3 h => pD 11 (cZ 11 (ints_Get_ok a0.B y3) ent97)<|pP 6 mv<|pP 12 ex<|pP 13 ex<|pP 14 ex<|pP 3 asg<|pP 4 asg<|pP 5 asg<|en k2<|bE h fun q4 h hk5 => aw_cut (fun s => ints_Reader_Wide_k0 a0 x3 = some r ∧ s = lit [(0, .ptr 0 0 0), (3, .int .u64 x3.1), (4, .int .i64 x3.2.1)] [((0, 0), .box [.sl 1 (List.map enc5 a0.B), .bool a0.Bad])] [(0, 1)] X) ?_ ?_
 ·skip
  refine bE h fun q6 h hk7 => aw_cut (fun s => ∃ (v22_1 : Bool), ints_Reader_Wide_k1 v22_1 = some q4 ∧ s = lit [(0, .ptr 0 0 0), (3, .int .u64 x3.1), (4, .int .i64 x3.2.1), (22, .bool v22_1)] [((0, 0), .box [.sl 1 (List.map enc5 a0.B), .bool a0.Bad])] [(0, 1)] X) ?_ ?_
  ·skip
   refine aw_regL<|pP 15 mv<|pP 16 nk<|pP 17 (fa ty71 ty4)<|pX 18 (ld ty4)<|pP 19 mv<|li 19 h (fun c8 h => ?_) fun c8 h => ?_
   ·refine pS 20<|pS 21<|pP 22 pc<|al_nil<|?_
    obtain rfl := Option.some.inj h
    have h := hk7
    exact ⟨_, ra [(0, 0)], true, h, rfl⟩
   ·refine pP 20 mv<|pP 21 un<|pP 22 pc<|al_nil<|?_
    obtain rfl := Option.some.inj h
    have h := hk7
    exact ⟨_, ra [(0, 0)], (!x3.2.2), h, rfl⟩
  ·rintro s ⟨v22_1, h, rfl⟩
   refine wi 22 h (fun c9 h => ?_) fun c9 h => ?_
   ·refine sr fun _ k10 => pP 23 mv<|pP 24 mv<|pP 25 nk<|pP 26 (fa ty71 ty46)<|pZ (sto [.nil, .bool a0.Bad] ty46)<|pP 27 nk<|pP 28 (fa ty71 ty4)<|pZ (sto [.nil, .bool true] ty4)<|en k10<|sr fun _ k11 => pP 2 asg<|en k11<|aw_reb (reb_w (tl' := [(2, .int .u64 0)]) (ol' := [((0, 0), .box [.sl 1 (List.map enc5 []), .bool true])]) (ra (tl := [(2, .int .u64 0)]) (ol := [((0, 0), .box [.nil, .bool true])]) (nx := [(0, 1)]) [(0, 0)]) ⟨rfl, le_refl _, trivial⟩ ⟨rfl, (.box ⟨le_nil _, le_refl _, trivial⟩), trivial⟩)<|aw_ret<|by cases leafR h hk5;exact rB []
   ·refine aw_skip<|tk (leafL h hk5) fun h => ?_
    exact ⟨_, ra [(0, 0)], h, rfl⟩
 ·rintro s ⟨h, rfl⟩
  refine sr fun _ k12 => pP 29 mv<|pP 30 mv<|pP 31 nk<|pP 32 (fa ty71 ty46)<|pX 33 (ld ty46)<|pP 34 mv<|gE h fun g13 h => gE h fun g14 h => pP 35 (does_slice_sl (l := (Int.toNat x3.2.1)) W_ ty46 ty5 (bd_some W_ (by exact (nat_of g13))) bd_none (by (try simp only [List.length_map]); omega) (by (try simp only [List.length_map]); omega) (by exact part_l _ _))<|pP 36 nk<|pP 37 (fa ty71 ty46)<|pZ (sto [.sl 1 (List.map enc5 (List.drop (Int.toNat x3.2.1) a0.B)), .bool a0.Bad] ty46)<|en k12<|sr fun _ k15 => pP 38 mv<|pP 2 asg<|en k15<|aw_ret<|by cases h;exact rB []
def ints_Reader_Num (a0 : Reader) (a1 : Int) : Option (Int × Reader) :=
 Option.bind (ints_Reader_Wide a0) (fun (x3 : Int × Reader) => if (decide ((IntKind.u64.wrap a1) < x3.1)) = true then (some (0, (Reader.mk [] true))) else (some ((IntKind.i64.wrap x3.1), x3.2)))
theorem ints_Reader_Num_ok (a0 : Reader) (a1 : Int) {r : Int × Reader} (h : ints_Reader_Num a0 a1 = some r) : Ok Tryz.prog 26 [.ptr 0 0 0, .int .i64 a1] [[.sl 1 (List.map enc5 a0.B), .bool a0.Bad]] [] (.int .i64 r.1) [[.sl 1 (List.map enc5 r.2.B), .bool r.2.Bad]] [] := by
 refine oK Tryz.func26 rfl fun X => sr fun _ k1 => pP 4 asg<|en k1<|sr fun _ k2 => pP 6 mv<|bE h fun x3 y3 h => pD 7 (do_callG (bcs := [[.sl 1 (List.map enc5 a0.B), .bool a0.Bad]]) [(0, 0)] [] [] 7 false (ints_Reader_Wide_ok a0 y3) rfl ent63 ⟨R_, trivial⟩ trivial rfl rfl rfl rfl rfl rfl rfl rfl (.inl trivial))<|pP 5 asg<|en k2<|aw_seq_k fun _ k4 => sr fun _ k5 => pP 8 mv<|pP 9 mv<|pP 10 (does_conv_int (v := .int .u64 (IntKind.u64.wrap a1)) W_ (ty_some ty3) (ty_int ty63) rfl)<|pP 11 bi<|en k5<|wi 11 h (fun c6 h => ?_) fun c6 h => ?_
 ·refine sr fun _ k7 => pP 12 mv<|pP 13 mv<|pP 14 nk<|pP 15 (fa ty71 ty46)<|pZ (sto [.nil, .bool x3.2.Bad] ty46)<|pP 16 nk<|pP 17 (fa ty71 ty4)<|pZ (sto [.nil, .bool true] ty4)<|en k7<|sr fun _ k8 => pP 4 asg<|en k8<|aw_reb (reb_w (tl' := [(4, .int .i64 0)]) (ol' := [((0, 0), .box [.sl 1 (List.map enc5 []), .bool true])]) (ra (tl := [(4, .int .i64 0)]) (ol := [((0, 0), .box [.nil, .bool true])]) (nx := [(0, 1)]) [(0, 0)]) ⟨rfl, le_refl _, trivial⟩ ⟨rfl, (.box ⟨le_nil _, le_refl _, trivial⟩), trivial⟩)<|aw_ret<|by cases h;exact rB []
 ·refine aw_skip<|k4 _<|sr fun _ k9 => pP 18 mv<|pP 19 (does_conv_int (v := .int .i64 (IntKind.i64.wrap x3.1)) W_ (ty_some ty63) (ty_int ty3) rfl)<|pP 4 asg<|en k9<|aw_ret<|by cases h;exact rB []
def keeper_ReadOp_k0 (x7 : UInt8) (v4_s_1_0 : Int) (v5_0 : Int) : Option (OpG × Int) :=
 if (v5_0 != 0) = true then (some ((OpG.mk 0 0 [] (Rule.mk 0 0 (strOf []) (strOf []) [])), 2)) else (some ((OpG.mk (IntKind.i64.wrap (x7.toNat : Int)) v4_s_1_0 [] (Rule.mk 0 0 (strOf []) (strOf []) [])), 0))
def keeper_ReadOp (a0 : List UInt8) : Option (OpG × Int) :=
 if ((List.length a0 : Int) == 0) = true then (some ((OpG.mk 0 0 [] (Rule.mk 0 0 (strOf []) (strOf []) [])), 2)) else (Option.bind (a0[0]?) (fun (x7 : UInt8) => gd ((1 : Int) ≤ (List.length a0 : Int)) (Option.bind (if ((IntKind.i64.wrap (x7.toNat : Int)) == 1) = true then none else (if ((IntKind.i64.wrap (x7.toNat : Int)) == 3) = true then none else (if ((IntKind.i64.wrap (x7.toNat : Int)) == 2) = true then (Option.bind (ints_Reader_Num (Reader.mk (List.drop 1 a0) false) 1099511627776) (fun (x22 : Int × Reader) => if x22.2.Bad = true then (some (x22.1, 2)) else (if (decide ((0 : Int) < (List.length x22.2.B : Int))) = true then (some (x22.1, 2)) else (some (x22.1, 0))))) else (if ((IntKind.i64.wrap (x7.toNat : Int)) != 4) = true then (some (0, 2)) else (if (decide ((0 : Int) < (List.length (List.drop 1 a0) : Int))) = true then (some (0, 2)) else (some (0, 0))))))) (fun (s : Int × Int) => keeper_ReadOp_k0 x7 s.1 s.2))))
theorem keeper_ReadOp_ok (a0 : List UInt8) {r : OpG × Int} (h : keeper_ReadOp a0 = some r) : Ok Tryz.prog 10 [.sl 1 (List.map enc5 a0)] [] [] (.tup [.agg [.int .i64 r.1.Kind, .int .i64 r.1.N, .sl 10 (List.map enc77 r.1.Spans), .int .i64 r.1.Policy.Kind, .int .i64 r.1.Policy.N, .str r.1.Policy.Key, .str r.1.Policy.Value, .sl 5 (List.map enc24 r.1.Policy.Kids)], .int .i64 r.2]) [] [] := by
 refine oK Tryz.func10 rfl fun X => sr fun _ k1 => pD 2 (nw ty27)<|pP 3 asg<|en k1<|aw_seq_k fun _ k2 => sr fun _ k3 => pP 7 mv<|pP 8 (zl ty46)<|pP 9 bi<|en k3<|wi 9 h (fun c4 h => ?_) fun c4 h => ?_
 ·refine sr fun _ k5 => pP 10 (do_build_struct (cs := [.int .i64 0, .int .i64 0, .nil, .int .i64 0, .int .i64 0, .str (strOf []), .str (strOf []), .nil]) ty27 rfl [⟨.int .i64, 1, 8, [.int .i64 0]⟩, ⟨.int .i64, 1, 8, [.int .i64 0]⟩, ⟨.slice 78, 1, 24, [.nil]⟩, ⟨.struct [(0, 3), (1, 3), (2, 9), (3, 9), (4, 23)], 5, 72, [.int .i64 0, .int .i64 0, .str ByteArray.empty, .str ByteArray.empty, .nil]⟩] (by simp only [List.map, ty22, ty25, ty3]) (by rfl) R_)<|pZ (sto [.int .i64 0, .int .i64 0, .nil, .int .i64 0, .int .i64 0, .str (strOf []), .str (strOf []), .nil] ty27)<|pP 3 asg<|en k5<|aw_reb (reb_w (tl' := [(2, .ptr 2 0 0), (3, .int .i64 2)]) (ol' := [((2, 0), .box [.int .i64 0, .int .i64 0, .sl 10 (List.map enc77 []), .int .i64 0, .int .i64 0, .str (strOf []), .str (strOf []), .sl 5 (List.map enc24 [])])]) (ra (tl := [(2, .ptr 2 0 0), (3, .int .i64 2)]) (ol := [((2, 0), .box [.int .i64 0, .int .i64 0, .nil, .int .i64 0, .int .i64 0, .str (strOf []), .str (strOf []), .nil])]) (nx := [(2, 1)]) [(2, 0)]) ⟨rfl, le_refl _, rfl, le_refl _, trivial⟩ ⟨rfl, (.box ⟨le_refl _, le_refl _, le_nil _, le_refl _, le_refl _, le_refl _, le_refl _, le_nil _, trivial⟩), trivial⟩)<|aw_ret<|by cases h;exact rk
 ·refine aw_skip<|k2 _<|sr fun _ k6 => pP 11 mv<|bE h fun x7 y7 h => pP 12 (ja ty46 ty5 y7)<|pX 13 (ld ty5)<|pP 14 (does_conv_int (v := .int .i64 (IntKind.i64.wrap (x7.toNat : Int))) W_ (ty_some ty5) (ty_int ty3) rfl)<|pP 15 (do_build_struct (cs := [.int .i64 (IntKind.i64.wrap (x7.toNat : Int)), .int .i64 0, .nil, .int .i64 0, .int .i64 0, .str (strOf []), .str (strOf []), .nil]) ty27 rfl [⟨.int .i64, 1, 8, [.int .i64 0]⟩, ⟨.int .i64, 1, 8, [.int .i64 0]⟩, ⟨.slice 78, 1, 24, [.nil]⟩, ⟨.struct [(0, 3), (1, 3), (2, 9), (3, 9), (4, 23)], 5, 72, [.int .i64 0, .int .i64 0, .str ByteArray.empty, .str ByteArray.empty, .nil]⟩] (by simp only [List.map, ty22, ty25, ty3]) (by rfl) R_)<|pD 4 (nw ty27)<|pZ (sto [.int .i64 (IntKind.i64.wrap (x7.toNat : Int)), .int .i64 0, .nil, .int .i64 0, .int .i64 0, .str (strOf []), .str (strOf []), .nil] ty27)<|en k6<|sr fun _ k8 => pP 5 asg<|en k8<|sr fun _ k9 => pP 16 mv<|gE h fun g10 h => pP 17 (does_slice_sl (l := 1) W_ ty46 ty5 (bd_some W_ R_) bd_none (by (try simp only [List.length_map]); omega) (by (try simp only [List.length_map]); omega) (by exact part_l _ _))<|pP 0 asg<|en k9<|bE h fun q11 h hk12 => aw_cut (fun s => ∃ (v4_s_1_0 : Int), ∃ (v5_0 : Int), keeper_ReadOp_k0 x7 v4_s_1_0 v5_0 = some r ∧ s = lit [(2, .ptr 2 0 0), (4, .ptr 4 0 0), (5, .int .i64 v5_0)] [((2, 0), .box [.int .i64 0, .int .i64 0, .nil, .int .i64 0, .int .i64 0, .str (strOf []), .str (strOf []), .nil]), ((4, 0), .box [.int .i64 (IntKind.i64.wrap (x7.toNat : Int)), .int .i64 v4_s_1_0, .nil, .int .i64 0, .int .i64 0, .str (strOf []), .str (strOf []), .nil])] [(2, 1), (4, 1)] X) ?_ ?_
  ·skip
   refine sr fun _ k13 => pP 18 (fa ty27 ty3)<|pX 19 (ld ty3)<|en k13<|aw_block<|sr fun _ k14 => pP 29 bi<|pP 28 asg<|en k14<|wi 28 h (fun c15 h => ?_) fun c15 h => ?_
   ·cases h
   ·refine sr fun _ k16 => pP 37 bi<|pP 36 asg<|en k16<|wi 36 h (fun c17 h => ?_) fun c17 h => ?_
    ·cases h
    ·refine sr fun _ k18 => pP 45 bi<|pP 44 asg<|en k18<|wi 44 h (fun c19 h => ?_) fun c19 h => ?_
     ·refine sr fun _ k20 => pP 46 mv<|pP 47 (do_build_struct (cs := [.sl 1 (List.map enc5 (List.drop 1 a0)), .bool false]) ty71 rfl [⟨.slice 5, 1, 24, [.nil]⟩, ⟨.bool, 1, 1, [.bool false]⟩] (by simp only [List.map, ty4, ty46]) (by rfl) R_)<|pD 48 (do_box W_ rfl rfl)<|pP 6 asg<|en k20<|sr fun _ k21 => pP 49 mv<|bE h fun x22 y22 h => pD 50 (do_callG (bcs := [[.sl 1 (List.map enc5 (List.drop 1 a0)), .bool false]]) [(48, 0)] [] [] 50 false (ints_Reader_Num_ok (Reader.mk (List.drop 1 a0) false) 1099511627776 y22) rfl ent26 ⟨R_, trivial⟩ trivial rfl rfl rfl rfl rfl rfl rfl rfl (.inl trivial))<|pP 51 (fa ty27 ty3)<|pZ (sto [.int .i64 (IntKind.i64.wrap (x7.toNat : Int)), .int .i64 x22.1, .nil, .int .i64 0, .int .i64 0, .str (strOf []), .str (strOf []), .nil] ty3)<|en k21<|sr fun _ k23 => pP 52 mv<|pP 53 nk<|pP 54 (fa ty71 ty4)<|pX 55 (ld ty4)<|pP 56 mv<|li 56 h (fun c24 h => ?_) fun c24 h => ?_
      ·refine pS 57<|pS 58<|pS 59<|pS 60<|pS 61<|pS 62<|pP 63 pc<|en k23<|aw_cond_t D_ rfl<|aw_regL<|pP 5 asg<|al_nil<|?_
       obtain rfl := Option.some.inj h
       have h := hk12
       exact ⟨_, ra [(2, 0), (4, 0)], x22.1, 2, h, rfl⟩
      ·refine pP 57 mv<|pP 58 nk<|pP 59 (fa ty71 ty46)<|pX 60 (ld ty46)<|pP 61 (zl ty46)<|pP 62 bi<|pP 63 pc<|en k23<|wi 63 h (fun c25 h => ?_) fun c25 h => ?_
       ·refine aw_regL<|pP 5 asg<|al_nil<|?_
        obtain rfl := Option.some.inj h
        have h := hk12
        exact ⟨_, ra [(2, 0), (4, 0)], x22.1, 2, h, rfl⟩
       ·refine aw_skip ?_
        obtain rfl := Option.some.inj h
        have h := hk12
        exact ⟨_, ra [(2, 0), (4, 0)], x22.1, 0, h, rfl⟩
     ·refine sr fun _ k26 => pP 20 (fa ty27 ty3)<|pX 21 (ld ty3)<|pP 22 bi<|pP 23 mv<|li 23 h (fun c27 h => ?_) fun c27 h => ?_
      ·refine pS 24<|pS 25<|pS 26<|pP 27 pc<|en k26<|aw_cond_t D_ rfl<|aw_regL<|pP 5 asg<|al_nil<|?_
       obtain rfl := Option.some.inj h
       have h := hk12
       exact ⟨_, ra [(2, 0), (4, 0)], 0, 2, h, rfl⟩
      ·refine pP 24 mv<|pP 25 (zl ty46)<|pP 26 bi<|pP 27 pc<|en k26<|wi 27 h (fun c28 h => ?_) fun c28 h => ?_
       ·refine aw_regL<|pP 5 asg<|al_nil<|?_
        obtain rfl := Option.some.inj h
        have h := hk12
        exact ⟨_, ra [(2, 0), (4, 0)], 0, 2, h, rfl⟩
       ·refine aw_skip ?_
        obtain rfl := Option.some.inj h
        have h := hk12
        exact ⟨_, ra [(2, 0), (4, 0)], 0, 0, h, rfl⟩
  ·rintro s ⟨v4_s_1_0, v5_0, h, rfl⟩
   refine aw_seq_k fun _ k29 => sr fun _ k30 => pP 64 mv<|pP 65 bi<|en k30<|wi 65 h (fun c31 h => ?_) fun c31 h => ?_
   ·refine sr fun _ k32 => pP 66 (do_build_struct (cs := [.int .i64 0, .int .i64 0, .nil, .int .i64 0, .int .i64 0, .str (strOf []), .str (strOf []), .nil]) ty27 rfl [⟨.int .i64, 1, 8, [.int .i64 0]⟩, ⟨.int .i64, 1, 8, [.int .i64 0]⟩, ⟨.slice 78, 1, 24, [.nil]⟩, ⟨.struct [(0, 3), (1, 3), (2, 9), (3, 9), (4, 23)], 5, 72, [.int .i64 0, .int .i64 0, .str ByteArray.empty, .str ByteArray.empty, .nil]⟩] (by simp only [List.map, ty22, ty25, ty3]) (by rfl) R_)<|pZ (sto [.int .i64 0, .int .i64 0, .nil, .int .i64 0, .int .i64 0, .str (strOf []), .str (strOf []), .nil] ty27)<|pP 3 asg<|en k32<|aw_reb (reb_w (tl' := [(2, .ptr 2 0 0), (3, .int .i64 2)]) (ol' := [((2, 0), .box [.int .i64 0, .int .i64 0, .sl 10 (List.map enc77 []), .int .i64 0, .int .i64 0, .str (strOf []), .str (strOf []), .sl 5 (List.map enc24 [])])]) (ra (tl := [(2, .ptr 2 0 0), (3, .int .i64 2)]) (ol := [((2, 0), .box [.int .i64 0, .int .i64 0, .nil, .int .i64 0, .int .i64 0, .str (strOf []), .str (strOf []), .nil])]) (nx := [(2, 1)]) [(2, 0)]) ⟨rfl, le_refl _, rfl, le_refl _, trivial⟩ ⟨rfl, (.box ⟨le_refl _, le_refl _, le_nil _, le_refl _, le_refl _, le_refl _, le_refl _, le_nil _, trivial⟩), trivial⟩)<|aw_ret<|by cases h;exact rk
   ·refine aw_skip<|k29 _<|sr fun _ k33 => pl 67 (.agg [.int .i64 (IntKind.i64.wrap (x7.toNat : Int)), .int .i64 v4_s_1_0, .nil, .int .i64 0, .int .i64 0, .str (strOf []), .str (strOf []), .nil]) ty27<|pZ (sto [.int .i64 (IntKind.i64.wrap (x7.toNat : Int)), .int .i64 v4_s_1_0, .nil, .int .i64 0, .int .i64 0, .str (strOf []), .str (strOf []), .nil] ty27)<|pP 3 asg<|en k33<|aw_reb (reb_w (tl' := [(2, .ptr 2 0 0), (3, .int .i64 0)]) (ol' := [((2, 0), .box [.int .i64 (IntKind.i64.wrap (x7.toNat : Int)), .int .i64 v4_s_1_0, .sl 10 (List.map enc77 []), .int .i64 0, .int .i64 0, .str (strOf []), .str (strOf []), .sl 5 (List.map enc24 [])])]) (ra (tl := [(2, .ptr 2 0 0), (3, .int .i64 0)]) (ol := [((2, 0), .box [.int .i64 (IntKind.i64.wrap (x7.toNat : Int)), .int .i64 v4_s_1_0, .nil, .int .i64 0, .int .i64 0, .str (strOf []), .str (strOf []), .nil])]) (nx := [(2, 1)]) [(2, 0)]) ⟨rfl, le_refl _, rfl, le_refl _, trivial⟩ ⟨rfl, (.box ⟨le_refl _, le_refl _, le_nil _, le_refl _, le_refl _, le_refl _, le_refl _, le_nil _, trivial⟩), trivial⟩)<|aw_ret<|by cases h;exact rk
end Go.Proofs.YtbaibpjffcahiaaGreat.Ab
