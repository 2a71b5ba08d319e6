/- Spans: the document. -/
import Derived.Test.YtbaibpjffcahiaaGreatXRW
import Derived.Test.YtbaibpjffcahiaaGreatProg
namespace Go.Proofs.YtbaibpjffcahiaaGreat.Ab
open Go Go.RowKit
set_option linter.unusedVariables false
set_option linter.unusedSimpArgs false
set_option maxRecDepth 100000
set_option maxHeartbeats 8000000
structure Trace where
  Hi : Int
  Lo : Int
  deriving DecidableEq
structure Attr where
  Key : ByteArray
  Value : ByteArray
  deriving DecidableEq
structure Span where
  Trace : Trace
  Id : Int
  Parent : Int
  Service : ByteArray
  Op : ByteArray
  Start : Int
  Dur : Int
  Err : Bool
  Attrs : List Attr
  deriving DecidableEq
def enc132 (x : Attr) : PV := .agg [.str x.Key, .str x.Value]
def enc77 (x : Span) : PV := .agg [.int .u64 x.Trace.Hi, .int .u64 x.Trace.Lo, .int .u64 x.Id, .int .u64 x.Parent, .str x.Service, .str x.Op, .int .i64 x.Start, .int .i64 x.Dur, .bool x.Err, .sl 2 (List.map enc132 x.Attrs)]
theorem ty22 : tyOf Tryz.prog 22 = some ⟨.slice 78, 1, 24, [.nil]⟩ := by kernel_rfl
theorem ty76 : tyOf Tryz.prog 76 = some ⟨.slice 133, 1, 24, [.nil]⟩ := by kernel_rfl
theorem ty78 : tyOf Tryz.prog 78 = some ⟨.struct [(0, 75), (2, 63), (3, 63), (4, 9), (5, 9), (6, 3), (7, 3), (8, 4), (9, 76)], 10, 112, [.int .u64 0, .int .u64 0, .int .u64 0, .int .u64 0, .str ByteArray.empty, .str ByteArray.empty, .int .i64 0, .int .i64 0, .bool false, .nil]⟩ := by kernel_rfl
theorem ty133 : tyOf Tryz.prog 133 = some ⟨.struct [(0, 9), (1, 9)], 2, 32, [.str ByteArray.empty, .str ByteArray.empty]⟩ := by kernel_rfl
theorem ent27 : Ent Tryz.prog 27 := eN Tryz.func27
def gleaninglaw3_Few_l1 (a0 : Span) (v3_1 : Int) : Option (Int ⊕ Bool) :=
 if (decide (v3_1 < (List.length a0.Attrs : Int))) = true then (gd (0 ≤ v3_1) (Option.bind (a0.Attrs[(Int.toNat v3_1)]?) (fun (x21 : Attr) => if (decide ((100 : Int) < (ByteArray.size x21.Key : Int))) = true then (some (Sum.inr false)) else (gd (0 ≤ v3_1) (Option.bind (a0.Attrs[(Int.toNat v3_1)]?) (fun (x25 : Attr) => if (decide ((100 : Int) < (ByteArray.size x25.Value : Int))) = true then (some (Sum.inr false)) else (some (Sum.inl (IntKind.i64.wrap (v3_1 + 1)))))))))) else (some (Sum.inr true))
def gleaninglaw3_Few_k0 (a0 : Span) : Option Bool :=
 loopN (fun (s : Int) => gleaninglaw3_Few_l1 a0 s) Fu 0
def gleaninglaw3_Few (a0 : Span) : Option Bool :=
 Option.bind (if (decide ((100 : Int) < (ByteArray.size a0.Service : Int))) = true then (some (Sum.inr false)) else (if (decide ((100 : Int) < (ByteArray.size a0.Op : Int))) = true then (some (Sum.inr false)) else (if (decide ((20 : Int) < (List.length a0.Attrs : Int))) = true then (some (Sum.inr false)) else (some (Sum.inl ()))))) (Sum.elim (fun (s : Unit) => gleaninglaw3_Few_k0 a0) some)
theorem gleaninglaw3_Few_ok (a0 : Span) {r : Bool} (h : gleaninglaw3_Few a0 = some r) : Ok Tryz.prog 27 [.agg [.int .u64 a0.Trace.Hi, .int .u64 a0.Trace.Lo, .int .u64 a0.Id, .int .u64 a0.Parent, .str a0.Service, .str a0.Op, .int .i64 a0.Start, .int .i64 a0.Dur, .bool a0.Err, .sl 2 (List.map enc132 a0.Attrs)]] [] [] (.bool r) [] [] := by
 refine oK Tryz.func27 rfl fun X => sr fun _ k1 => pD 1 (do_box W_ rfl rfl)<|pP 2 asg<|en k1<|bE h fun q2 h hk3 => aw_cut (fun s => gleaninglaw3_Few_k0 a0 = some r ∧ s = lit [(1, .ptr 1 0 0)] [((1, 0), .box [.int .u64 a0.Trace.Hi, .int .u64 a0.Trace.Lo, .int .u64 a0.Id, .int .u64 a0.Parent, .str a0.Service, .str a0.Op, .int .i64 a0.Start, .int .i64 a0.Dur, .bool a0.Err, .sl 2 (List.map enc132 a0.Attrs)])] [(1, 1)] X) ?_ ?_
 ·skip
  refine sr fun _ k4 => pP 4 (fa ty78 ty9)<|pX 5 (ld ty9)<|pP 6 (does_len_str W_ ty9)<|pP 7 bi<|pP 8 mv<|li 8 h (fun c5 h => ?_) fun c5 h => ?_
  ·refine pS 9<|pS 10<|pS 11<|pS 12<|pP 13 pc<|pP 14 mv<|pS 15<|pS 16<|pS 17<|pS 18<|pP 19 pc<|en k4<|aw_cond_t D_ rfl<|sr fun _ k6 => pP 2 asg<|en k6<|aw_ret<|by cases leafR h hk3;exact rk
  ·refine pP 9 (fa ty78 ty9)<|pX 10 (ld ty9)<|pP 11 (does_len_str W_ ty9)<|pP 12 bi<|pP 13 pc<|pP 14 mv<|li 14 h (fun c7 h => ?_) fun c7 h => ?_
   ·refine pS 15<|pS 16<|pS 17<|pS 18<|pP 19 pc<|en k4<|aw_cond_t D_ rfl<|sr fun _ k8 => pP 2 asg<|en k8<|aw_ret<|by cases leafR h hk3;exact rk
   ·refine pP 15 (fa ty78 ty76)<|pX 16 (ld ty76)<|pP 17 (zl ty76)<|pP 18 bi<|pP 19 pc<|en k4<|wi 19 h (fun c9 h => ?_) fun c9 h => ?_
    ·refine sr fun _ k10 => pP 2 asg<|en k10<|aw_ret<|by cases leafR h hk3;exact rk
    ·refine aw_skip<|tk (leafL h hk3) fun h => ?_
     exact ⟨_, ra [(1, 0)], h, rfl⟩
 ·rintro s ⟨h, rfl⟩
  unfold gleaninglaw3_Few_k0 at h
  refine aw_seq_k fun _ k11 => sr fun _ k12 => pP 3 asg<|en k12<|aw_block<|aw_loop' (fun m s => ∃ (v3_1 : Int), loopN (fun (s : Int) => gleaninglaw3_Few_l1 a0 s) m v3_1 = some r ∧ s = lit [(1, .ptr 1 0 0), (3, .int .i64 v3_1)] [((1, 0), .box [.int .u64 a0.Trace.Hi, .int .u64 a0.Trace.Lo, .int .u64 a0.Id, .int .u64 a0.Parent, .str a0.Service, .str a0.Op, .int .i64 a0.Start, .int .i64 a0.Dur, .bool a0.Err, .sl 2 (List.map enc132 a0.Attrs)])] [(1, 1)] X) Fu
   ⟨_, ra [(1, 0)], 0, h, rfl⟩ ?_
  rintro m s ⟨v3_1, h, rfl⟩
  obtain ⟨m1, q13, rfl, h, hq14⟩ := loop_some h
  replace h : gleaninglaw3_Few_l1 a0 v3_1 = some q13 := h
  refine aw_seq_k fun _ k15 => sr fun _ k16 => pP 20 mv<|pP 21 (fa ty78 ty76)<|pX 22 (ld ty76)<|pP 23 (zl ty76)<|pP 24 bi<|en k16<|wi 24 h (fun c17 h => ?_) fun c17 h => ?_
  ·refine aw_skip<|k15 _<|aw_seq_k fun _ k18 => aw_block<|sr fun _ k19 => pP 27 (fa ty78 ty76)<|pX 28 (ld ty76)<|pP 29 mv<|gE h fun g20 h => bE h fun x21 y21 h => pP 30 (ia ty76 ty133 g20 y21)<|pP 31 (fa ty133 ty9)<|pX 32 (ld ty9)<|pP 33 (does_len_str W_ ty9)<|pP 34 bi<|pP 35 mv<|li 35 h (fun c22 h => ?_) fun c22 h => ?_
   ·refine pS 36<|pS 37<|pS 38<|pS 39<|pS 40<|pS 41<|pS 42<|pS 43<|pP 44 pc<|en k19<|aw_cond_t D_ rfl<|sr fun _ k23 => pP 2 asg<|en k23<|aw_ret<|by cases leafR h hq14;exact rk
   ·refine pP 36 (fa ty78 ty76)<|pX 37 (ld ty76)<|pP 38 mv<|gE h fun g24 h => bE h fun x25 y25 h => pP 39 (ia ty76 ty133 g24 y25)<|pP 40 (fa ty133 ty9)<|pX 41 (ld ty9)<|pP 42 (does_len_str W_ ty9)<|pP 43 bi<|pP 44 pc<|en k19<|wi 44 h (fun c26 h => ?_) fun c26 h => ?_
    ·refine sr fun _ k27 => pP 2 asg<|en k27<|aw_ret<|by cases leafR h hq14;exact rk
    ·refine aw_skip<|k18 _<|aw_regL<|pP 25 mv<|pP 26 bi<|pP 3 asg<|al_nil<|bk (ra [(1, 0)]) ⟨(IntKind.i64.wrap (v3_1 + 1)), leafL h hq14, rfl⟩
  ·refine aw_exit<|tk (leafR h hq14) fun h => k11 _<|sr fun _ k28 => pP 2 asg<|en k28<|aw_ret<|by cases h;exact rk
def gleaninglaw3_FewAll_l0 (a0 : List Span) (v3_0 : Int) : Option (Int ⊕ Bool) :=
 if (decide (v3_0 < (List.length a0 : Int))) = true then (gd (0 ≤ v3_0) (Option.bind (a0[(Int.toNat v3_0)]?) (fun (x16 : Span) => Option.bind (gleaninglaw3_Few x16) (fun (x17 : Bool) => if (!x17) = true then (some (Sum.inr false)) else (some (Sum.inl (IntKind.i64.wrap (v3_0 + 1)))))))) else (some (Sum.inr true))
def gleaninglaw3_FewAll (a0 : List Span) : Option Bool :=
 if (decide ((60 : Int) < (List.length a0 : Int))) = true then (some false) else (loopN (fun (s : Int) => gleaninglaw3_FewAll_l0 a0 s) Fu 0)
theorem gleaninglaw3_FewAll_ok (a0 : List Span) {r : Bool} (h : gleaninglaw3_FewAll a0 = some r) : Ok Tryz.prog 12 [.sl 10 (List.map enc77 a0)] [] [] (.bool r) [] [] := by
 refine oK Tryz.func12 rfl fun X => sr fun _ k1 => pP 2 asg<|en k1<|aw_seq_k fun _ k2 => sr fun _ k3 => pP 4 mv<|pP 5 (zl ty22)<|pP 6 bi<|en k3<|wi 6 h (fun c4 h => ?_) fun c4 h => ?_
 ·refine sr fun _ k5 => pP 2 asg<|en k5<|aw_ret<|by cases h;exact rk
 ·refine aw_skip<|k2 _<|aw_seq_k fun _ k6 => sr fun _ k7 => pP 3 asg<|en k7<|aw_block<|aw_loop' (fun m s => ∃ (v3_0 : Int), loopN (fun (s : Int) => gleaninglaw3_FewAll_l0 a0 s) m v3_0 = some r ∧ s = lit [(0, .sl 10 (List.map enc77 a0)), (3, .int .i64 v3_0)] [] [] X) Fu
   ⟨_, ra [], 0, h, rfl⟩ ?_
  rintro m s ⟨v3_0, h, rfl⟩
  obtain ⟨m0, q8, rfl, h, hq9⟩ := loop_some h
  replace h : gleaninglaw3_FewAll_l0 a0 v3_0 = some q8 := h
  refine aw_seq_k fun _ k10 => sr fun _ k11 => pP 7 mv<|pP 8 mv<|pP 9 (zl ty22)<|pP 10 bi<|en k11<|wi 10 h (fun c12 h => ?_) fun c12 h => ?_
  ·refine aw_skip<|k10 _<|aw_seq_k fun _ k13 => aw_block<|sr fun _ k14 => pP 13 mv<|pP 14 mv<|gE h fun g15 h => bE h fun x16 y16 h => pP 15 (ia ty22 ty78 g15 y16)<|pl 16 (.agg [.int .u64 x16.Trace.Hi, .int .u64 x16.Trace.Lo, .int .u64 x16.Id, .int .u64 x16.Parent, .str x16.Service, .str x16.Op, .int .i64 x16.Start, .int .i64 x16.Dur, .bool x16.Err, .sl 2 (List.map enc132 x16.Attrs)]) ty78<|bE h fun x17 y17 h => pD 17 (cZ 17 (gleaninglaw3_Few_ok x16 y17) ent27)<|pP 18 un<|en k14<|wi 18 h (fun c18 h => ?_) fun c18 h => ?_
   ·refine sr fun _ k19 => pP 2 asg<|en k19<|aw_ret<|by cases leafR h hq9;exact rk
   ·refine aw_skip<|k13 _<|aw_regL<|pP 11 mv<|pP 12 bi<|pP 3 asg<|al_nil<|bk (ra []) ⟨(IntKind.i64.wrap (v3_0 + 1)), leafL h hq9, rfl⟩
  ·refine aw_exit<|tk (leafR h hq9) fun h => k6 _<|sr fun _ k20 => pP 2 asg<|en k20<|aw_ret<|by cases h;exact rk
theorem sh63 : ∀ (m : Nat) (cs : List PV), Shape Tryz.prog m 63 cs → ∃ a : Int, cs = [.int .u64 a] ∧ (inI .u64 a) := fun m cs h => shape_i h Tryz.underlying63
def Trace.wf (a : Trace) : Prop := (inI .u64 a.Hi) ∧ (inI .u64 a.Lo)
theorem sh75 : ∀ (m : Nat) (cs : List PV), Shape Tryz.prog m 75 cs → ∃ a : Trace, cs = [.int .u64 a.Hi, .int .u64 a.Lo] ∧ (Trace.wf a) := fun m cs h => by
 obtain ⟨hl, m, hf⟩ := shape_struct h Tryz.underlying75
 have f0 := hf 0 _ rfl
 obtain ⟨a0, e0, w0⟩ := sh63 m _ f0
 rw [show Tryz.prog.cellsOf _ = 1 by kernel_rfl] at e0
 have f1 := hf 1 _ rfl
 obtain ⟨a1, e1, w1⟩ := sh63 m _ f1
 rw [show Tryz.prog.cellsOf _ = 1 by kernel_rfl] at e1
 exact ⟨⟨a0, a1⟩, tile_all (l := [(1, [.int .u64 a0]), (1, [.int .u64 a1])]) ⟨e0, e1, trivial⟩ hl (by kernel_rfl), ⟨w0, w1⟩⟩
theorem sh9 : ∀ (m : Nat) (cs : List PV), Shape Tryz.prog m 9 cs → ∃ a : ByteArray, cs = [.str a] ∧ ((ByteArray.size a) ≤ maxLen) := fun m cs h => shape_str h Tryz.underlying9
theorem sh3 : ∀ (m : Nat) (cs : List PV), Shape Tryz.prog m 3 cs → ∃ a : Int, cs = [.int .i64 a] ∧ (inI .i64 a) := fun m cs h => shape_i h Tryz.underlying3
theorem sh4 : ∀ (m : Nat) (cs : List PV), Shape Tryz.prog m 4 cs → ∃ a : Bool, cs = [.bool a] ∧ True := fun m cs h => shape_b h Tryz.underlying4
def Attr.wf (a : Attr) : Prop := ((ByteArray.size a.Key) ≤ maxLen) ∧ ((ByteArray.size a.Value) ≤ maxLen)
theorem sh133 : ∀ (m : Nat) (cs : List PV), Shape Tryz.prog m 133 cs → ∃ a : Attr, cs = [.str a.Key, .str a.Value] ∧ (Attr.wf a) := fun m cs h => by
 obtain ⟨hl, m, hf⟩ := shape_struct h Tryz.underlying133
 have f0 := hf 0 _ rfl
 obtain ⟨a0, e0, w0⟩ := sh9 m _ f0
 rw [show Tryz.prog.cellsOf _ = 1 by kernel_rfl] at e0
 have f1 := hf 1 _ rfl
 obtain ⟨a1, e1, w1⟩ := sh9 m _ f1
 rw [show Tryz.prog.cellsOf _ = 1 by kernel_rfl] at e1
 exact ⟨⟨a0, a1⟩, tile_all (l := [(1, [.str a0]), (1, [.str a1])]) ⟨e0, e1, trivial⟩ hl (by kernel_rfl), ⟨w0, w1⟩⟩
theorem sh76 : ∀ (m : Nat) (cs : List PV), Shape Tryz.prog m 76 cs → ∃ a : List Attr, cs = [.sl 2 (List.map enc132 a)] ∧ ((List.length a) ≤ maxLen ∧ ∀ y ∈ a, Attr.wf y) := fun m cs h => by
 obtain ⟨l, h1, h2, h3⟩ := shape_rows (f := enc132) (Q := fun y => Attr.wf y) h Tryz.underlying76 (fun m ps hs => by
  obtain ⟨a, rfl, hw⟩ := sh133 m ps hs
  exact ⟨a, by rw [show aggT Tryz.prog 133 = true by kernel_rfl]; rfl, hw⟩)
 exact ⟨l, h1.trans (by rw [show Tryz.prog.cellsOf 133 = 2 by kernel_rfl]), h2, h3⟩
def Span.wf (a : Span) : Prop := (Trace.wf a.Trace) ∧ (inI .u64 a.Id) ∧ (inI .u64 a.Parent) ∧ ((ByteArray.size a.Service) ≤ maxLen) ∧ ((ByteArray.size a.Op) ≤ maxLen) ∧ (inI .i64 a.Start) ∧ (inI .i64 a.Dur) ∧ True ∧ ((List.length a.Attrs) ≤ maxLen ∧ ∀ y ∈ a.Attrs, Attr.wf y)
theorem sh78 : ∀ (m : Nat) (cs : List PV), Shape Tryz.prog m 78 cs → ∃ a : Span, cs = [.int .u64 a.Trace.Hi, .int .u64 a.Trace.Lo, .int .u64 a.Id, .int .u64 a.Parent, .str a.Service, .str a.Op, .int .i64 a.Start, .int .i64 a.Dur, .bool a.Err, .sl 2 (List.map enc132 a.Attrs)] ∧ (Span.wf a) := fun m cs h => by
 obtain ⟨hl, m, hf⟩ := shape_struct h Tryz.underlying78
 have f0 := hf 0 _ rfl
 obtain ⟨a0, e0, w0⟩ := sh75 m _ f0
 rw [show Tryz.prog.cellsOf _ = 2 by kernel_rfl] at e0
 have f1 := hf 1 _ rfl
 obtain ⟨a1, e1, w1⟩ := sh63 m _ f1
 rw [show Tryz.prog.cellsOf _ = 1 by kernel_rfl] at e1
 have f2 := hf 2 _ rfl
 obtain ⟨a2, e2, w2⟩ := sh63 m _ f2
 rw [show Tryz.prog.cellsOf _ = 1 by kernel_rfl] at e2
 have f3 := hf 3 _ rfl
 obtain ⟨a3, e3, w3⟩ := sh9 m _ f3
 rw [show Tryz.prog.cellsOf _ = 1 by kernel_rfl] at e3
 have f4 := hf 4 _ rfl
 obtain ⟨a4, e4, w4⟩ := sh9 m _ f4
 rw [show Tryz.prog.cellsOf _ = 1 by kernel_rfl] at e4
 have f5 := hf 5 _ rfl
 obtain ⟨a5, e5, w5⟩ := sh3 m _ f5
 rw [show Tryz.prog.cellsOf _ = 1 by kernel_rfl] at e5
 have f6 := hf 6 _ rfl
 obtain ⟨a6, e6, w6⟩ := sh3 m _ f6
 rw [show Tryz.prog.cellsOf _ = 1 by kernel_rfl] at e6
 have f7 := hf 7 _ rfl
 obtain ⟨a7, e7, w7⟩ := sh4 m _ f7
 rw [show Tryz.prog.cellsOf _ = 1 by kernel_rfl] at e7
 have f8 := hf 8 _ rfl
 obtain ⟨a8, e8, w8⟩ := sh76 m _ f8
 rw [show Tryz.prog.cellsOf _ = 1 by kernel_rfl] at e8
 exact ⟨⟨a0, a1, a2, a3, a4, a5, a6, a7, a8⟩, tile_all (l := [(2, [.int .u64 a0.Hi, .int .u64 a0.Lo]), (1, [.int .u64 a1]), (1, [.int .u64 a2]), (1, [.str a3]), (1, [.str a4]), (1, [.int .i64 a5]), (1, [.int .i64 a6]), (1, [.bool a7]), (1, [.sl 2 (List.map enc132 a8)])]) ⟨e0, e1, e2, e3, e4, e5, e6, e7, e8, trivial⟩ hl (by kernel_rfl), ⟨w0, w1, w2, w3, w4, w5, w6, w7, w8⟩⟩
theorem sh22 : ∀ (m : Nat) (cs : List PV), Shape Tryz.prog m 22 cs → ∃ a : List Span, cs = [.sl 10 (List.map enc77 a)] ∧ ((List.length a) ≤ maxLen ∧ ∀ y ∈ a, Span.wf y) := fun m cs h => by
 obtain ⟨l, h1, h2, h3⟩ := shape_rows (f := enc77) (Q := fun y => Span.wf y) h Tryz.underlying22 (fun m ps hs => by
  obtain ⟨a, rfl, hw⟩ := sh78 m ps hs
  exact ⟨a, by rw [show aggT Tryz.prog 78 = true by kernel_rfl]; rfl, hw⟩)
 exact ⟨l, h1.trans (by rw [show Tryz.prog.cellsOf 78 = 10 by kernel_rfl]), h2, h3⟩
end Go.Proofs.YtbaibpjffcahiaaGreat.Ab
namespace Go.Proofs.YtbaibpjffcahiaaGreat.Ab
open Go Go.RowKit
set_option linter.unusedVariables false
set_option linter.unusedSimpArgs false
set_option maxRecDepth 100000
set_option maxHeartbeats 8000000
theorem ty4 : tyOf Tryz.prog 4 = some ⟨.bool, 1, 1, [.bool false]⟩ := by kernel_rfl
theorem ty75 : tyOf Tryz.prog 75 = some ⟨.struct [(0, 63), (1, 63)], 2, 16, [.int .u64 0, .int .u64 0]⟩ := by kernel_rfl
theorem ent86 : Ent Tryz.prog 86 := eN Tryz.func86
theorem ent87 : Ent Tryz.prog 87 := eN Tryz.func87
theorem ent110 : Ent Tryz.prog 110 := eN Tryz.func110
theorem ent111 : Ent Tryz.prog 111 := eN Tryz.func111
theorem ent121 : Ent Tryz.prog 121 := eN Tryz.func121
theorem ent122 : Ent Tryz.prog 122 := eN Tryz.func122
theorem ent126 : Ent Tryz.prog 126 := eN Tryz.func126
def span_Name (a0 : ByteArray) : Option Bool :=
 if (decide ((1 : Int) ≤ (ByteArray.size a0 : Int))) = true then (some (decide ((ByteArray.size a0 : Int) ≤ 16))) else (some false)
theorem span_Name_ok (a0 : ByteArray) {r : Bool} (h : span_Name a0 = some r) : Ok Tryz.prog 110 [.str a0] [] [] (.bool r) [] [] := by
 refine oK Tryz.func110 rfl fun X => sr fun _ k1 => pP 2 asg<|en k1<|sr fun _ k2 => pP 3 mv<|pP 4 (does_len_str W_ ty9)<|pP 5 bi<|pP 6 mv<|li 6 h (fun c3 h => ?_) fun c3 h => ?_
 ·refine pP 7 mv<|pP 8 (does_len_str W_ ty9)<|pP 9 bi<|pP 10 pc<|pP 2 asg<|en k2<|aw_ret<|by cases h;exact rk
 ·refine pS 7<|pS 8<|pS 9<|pP 10 pc<|pP 2 asg<|en k2<|aw_ret<|by cases h;exact rk
def span_attrs_c1 (a0 : Attr) (a1 : Attr) : Option Bool :=
 some (ByteArray.toList a0.Key == ByteArray.toList a1.Key)
theorem span_attrs_c1_ok (a0 : Attr) (a1 : Attr) {r : Bool} (h : span_attrs_c1 a0 a1 = some r) : Ok Tryz.prog 122 [.agg [.str a0.Key, .str a0.Value], .rptr [.str a1.Key, .str a1.Value]] [] [] (.bool r) [] [] := by
 unfold span_attrs_c1 at h
 refine oK Tryz.func122 rfl fun X => sr fun _ k1 => pD 2 (do_box W_ rfl rfl)<|pP 3 asg<|en k1<|sr fun _ k2 => pP 4 (fa ty133 ty9)<|pX 5 (ld ty9)<|pP 6 (fa ty133 ty9)<|pX 7 (ld ty9)<|pP 8 bi<|pP 3 asg<|en k2<|aw_ret<|by cases h;exact rk
def slices_IndexFunc_Attr_span_attrs_c1_l0 (a0 : List Attr) (a1_0 : Attr) (v8_0 : Int) : Option (Int ⊕ Int) :=
 if (decide (v8_0 < (List.length a0 : Int))) = true then (gd (0 ≤ v8_0) (Option.bind (a0[(Int.toNat v8_0)]?) (fun (x13 : Attr) => Option.bind (span_attrs_c1 x13 a1_0) (fun (x14 : Bool) => if x14 = true then (some (Sum.inr v8_0)) else (some (Sum.inl (IntKind.i64.wrap (v8_0 + 1)))))))) else (some (Sum.inr (-1)))
def slices_IndexFunc_Attr_span_attrs_c1 (a0 : List Attr) (a1_0 : Attr) : Option Int :=
 loopN (fun (s : Int) => slices_IndexFunc_Attr_span_attrs_c1_l0 a0 a1_0 s) Fu 0
theorem slices_IndexFunc_Attr_span_attrs_c1_ok (a0 : List Attr) (a1_0 : Attr) {r : Int} (h : slices_IndexFunc_Attr_span_attrs_c1 a0 a1_0 = some r) : Ok Tryz.prog 126 [.sl 2 (List.map enc132 a0), .fn 122 [.rptr [.str a1_0.Key, .str a1_0.Value]]] [] [] (.int .i64 r) [] [] := by
 unfold slices_IndexFunc_Attr_span_attrs_c1 at h
 refine oK Tryz.func126 rfl fun X => sr fun _ k1 => pP 4 asg<|en k1<|aw_seq_k fun _ k2 => sr fun _ k3 => pP 6 mv<|pP 7 (zl ty76)<|pP 8 mv<|en k3<|aw_block<|aw_loop' (fun m s => ∃ (v8_0 : Int), loopN (fun (s : Int) => slices_IndexFunc_Attr_span_attrs_c1_l0 a0 a1_0 s) m v8_0 = some r ∧ s = lit [(0, .sl 2 (List.map enc132 a0)), (1, .fn 122 [.rptr [.str a1_0.Key, .str a1_0.Value]]), (7, .int .i64 (List.length a0 : Int)), (8, .int .i64 v8_0)] [] [] X) Fu
  ⟨_, ra [], 0, h, rfl⟩ ?_
 rintro m s ⟨v8_0, h, rfl⟩
 obtain ⟨m0, q4, rfl, h, hq5⟩ := loop_some h
 replace h : slices_IndexFunc_Attr_span_attrs_c1_l0 a0 a1_0 v8_0 = some q4 := h
 refine sr fun _ k6 => pP 9 bi<|en k6<|aw_seq_k fun _ k7 => wi 9 h (fun c8 h => ?_) fun c8 h => ?_
 ·refine aw_skip<|k7 _<|aw_seq_k fun _ k9 => aw_block<|sr fun _ k10 => pP 10 mv<|pP 5 asg<|en k10<|sr fun _ k11 => pP 11 mv<|pP 12 mv<|pP 13 mv<|gE h fun g12 h => bE h fun x13 y13 h => pP 14 (ia ty76 ty133 g12 y13)<|pl 15 (.agg [.str x13.Key, .str x13.Value]) ty133<|bE h fun x14 y14 h => pD 16 (cZ 16 (span_attrs_c1_ok x13 a1_0 y14) ent122)<|en k11<|wi 16 h (fun c15 h => ?_) fun c15 h => ?_
  ·refine sr fun _ k16 => pP 17 mv<|pP 4 asg<|en k16<|aw_ret<|by cases leafR h hq5;exact rk
  ·refine aw_skip<|k9 _<|aw_regL<|pP 18 bi<|pP 8 mv<|al_nil<|bk (ra []) ⟨(IntKind.i64.wrap (v8_0 + 1)), leafL h hq5, rfl⟩
 ·refine aw_exit<|tk (leafR h hq5) fun h => k2 _<|sr fun _ k17 => pP 4 asg<|en k17<|aw_ret<|by cases h;exact rk
def slices_ContainsFunc_Attr_span_attrs_c1 (a0 : List Attr) (a1_0 : Attr) : Option Bool :=
 Option.bind (slices_IndexFunc_Attr_span_attrs_c1 a0 a1_0) (fun (x3 : Int) => some (decide ((0 : Int) ≤ x3)))
theorem slices_ContainsFunc_Attr_span_attrs_c1_ok (a0 : List Attr) (a1_0 : Attr) {r : Bool} (h : slices_ContainsFunc_Attr_span_attrs_c1 a0 a1_0 = some r) : Ok Tryz.prog 121 [.sl 2 (List.map enc132 a0), .fn 122 [.rptr [.str a1_0.Key, .str a1_0.Value]]] [] [] (.bool r) [] [] := by
 refine oK Tryz.func121 rfl fun X => sr fun _ k1 => pP 4 asg<|en k1<|sr fun _ k2 => pP 5 mv<|pP 6 mv<|bE h fun x3 y3 h => pD 7 (cZ 7 (slices_IndexFunc_Attr_span_attrs_c1_ok a0 a1_0 y3) ent126)<|pP 8 bi<|pP 4 asg<|en k2<|aw_ret<|by cases h;exact rk
def span_attrs_l1 (a0 : List Attr) (v7_1 : Int) : Option (Int ⊕ (Unit ⊕ Bool)) :=
 if (decide (v7_1 < (List.length a0 : Int))) = true then (gd (0 ≤ v7_1) (Option.bind (a0[(Int.toNat v7_1)]?) (fun (x13 : Attr) => Option.bind (span_Name x13.Key) (fun (x15 : Bool) => if (!x15) = true then (some (Sum.inr (Sum.inr false))) else (if (decide ((16 : Int) < (ByteArray.size x13.Value : Int))) = true then (some (Sum.inr (Sum.inr false))) else (gd (0 ≤ v7_1) (gd (v7_1 ≤ (List.length a0 : Int)) (Option.bind (slices_ContainsFunc_Attr_span_attrs_c1 (List.take (Int.toNat v7_1) a0) x13) (fun (x22 : Bool) => if x22 = true then (some (Sum.inr (Sum.inr false))) else (some (Sum.inl (IntKind.i64.wrap (v7_1 + 1))))))))))))) else (some (Sum.inr (Sum.inl ())))
def span_attrs_k0 (a0 : List Attr) : Option Bool :=
 some (decide ((List.length a0 : Int) ≤ 4))
def span_attrs (a0 : List Attr) : Option Bool :=
 Option.bind (loopN (fun (s : Int) => span_attrs_l1 a0 s) Fu 0) (Sum.elim (fun (s : Unit) => span_attrs_k0 a0) some)
theorem span_attrs_ok (a0 : List Attr) {r : Bool} (h : span_attrs a0 = some r) : Ok Tryz.prog 111 [.sl 2 (List.map enc132 a0)] [] [] (.bool r) [] [] := by
 refine oK Tryz.func111 rfl fun X => sr fun _ k1 => pP 2 asg<|en k1<|bE h fun q2 h hk3 => aw_cut (fun s => span_attrs_k0 a0 = some r ∧ s = lit [(0, .sl 2 (List.map enc132 a0))] [] [] X) ?_ ?_
 ·skip
  refine sr fun _ k4 => pP 5 mv<|pP 6 (zl ty76)<|pP 7 mv<|en k4<|aw_block<|aw_loop' (fun m s => ∃ (v7_1 : Int), loopN (fun (s : Int) => span_attrs_l1 a0 s) m v7_1 = some q2 ∧ s = lit [(0, .sl 2 (List.map enc132 a0)), (5, .sl 2 (List.map enc132 a0)), (6, .int .i64 (List.length a0 : Int)), (7, .int .i64 v7_1)] [] [] X) Fu
   ⟨_, ra [], 0, h, rfl⟩ ?_
  rintro m s ⟨v7_1, h, rfl⟩
  obtain ⟨m1, q5, rfl, h, hq6⟩ := loop_some h
  replace h : span_attrs_l1 a0 v7_1 = some q5 := h
  refine sr fun _ k7 => pP 8 bi<|en k7<|aw_seq_k fun _ k8 => wi 8 h (fun c9 h => ?_) fun c9 h => ?_
  ·refine aw_skip<|k8 _<|aw_seq_k fun _ k10 => aw_block<|sr fun _ k11 => pP 9 mv<|gE h fun g12 h => bE h fun x13 y13 h => pP 10 (ia ty76 ty133 g12 y13)<|pl 11 (.agg [.str x13.Key, .str x13.Value]) ty133<|pD 4 (nw ty133)<|pP 3 asg<|pZ (sto [.str x13.Key, .str x13.Value] ty133)<|en k11<|sr fun _ k14 => pP 12 (fa ty133 ty9)<|pX 13 (ld ty9)<|bE h fun x15 y15 h => pD 14 (cZ 14 (span_Name_ok x13.Key y15) ent110)<|pP 15 un<|pP 16 mv<|li 16 h (fun c16 h => ?_) fun c16 h => ?_
   ·refine pS 17<|pS 18<|pS 19<|pS 20<|pP 21 pc<|pP 22 mv<|pS 23<|pS 24<|pS 25<|pS 26<|pS 27<|pP 28 pc<|en k14<|aw_cond_t D_ rfl<|sr fun _ k17 => pP 2 asg<|en k17<|aw_ret<|tk (leafR h hq6) fun h => by cases leafR h hk3;exact rk
   ·refine pP 17 (fa ty133 ty9)<|pX 18 (ld ty9)<|pP 19 (does_len_str W_ ty9)<|pP 20 bi<|pP 21 pc<|pP 22 mv<|li 22 h (fun c18 h => ?_) fun c18 h => ?_
    ·refine pS 23<|pS 24<|pS 25<|pS 26<|pS 27<|pP 28 pc<|en k14<|aw_cond_t D_ rfl<|sr fun _ k19 => pP 2 asg<|en k19<|aw_ret<|tk (leafR h hq6) fun h => by cases leafR h hk3;exact rk
    ·refine pP 23 mv<|pP 24 mv<|gE h fun g20 h => gE h fun g21 h => pP 25 (does_slice_sl (l := 0) (k := (Int.toNat v7_1)) W_ ty76 ty133 bd_none (bd_some W_ (by exact (nat_of (by omega)))) (by (try simp only [List.length_map]); omega) (by (try simp only [List.length_map]); omega) (by exact part_h _ _))<|pP 26 (does_makeFunc (vs := [.ptr 4 0 0]) rfl)<|bE h fun x22 y22 h => pD 27 (do_callG (bcs := []) [] [] [(4, 0)] 27 false (slices_ContainsFunc_Attr_span_attrs_c1_ok (List.take (Int.toNat v7_1) a0) x13 y22) rfl ent121 trivial trivial rfl rfl rfl rfl rfl rfl rfl rfl (.inr ⟨rfl, rfl, trivial⟩))<|pP 28 pc<|en k14<|wi 28 h (fun c23 h => ?_) fun c23 h => ?_
     ·refine sr fun _ k24 => pP 2 asg<|en k24<|aw_ret<|tk (leafR h hq6) fun h => by cases leafR h hk3;exact rk
     ·refine aw_skip<|k10 _<|aw_regL<|pP 29 bi<|pP 7 mv<|al_nil<|bk (ra []) ⟨(IntKind.i64.wrap (v7_1 + 1)), leafL h hq6, rfl⟩
  ·refine aw_exit<|tk (leafR h hq6) fun h => tk (leafL h hk3) fun h => ?_
   exact ⟨_, ra [], h, rfl⟩
 ·rintro s ⟨h, rfl⟩
  unfold span_attrs_k0 at h
  refine sr fun _ k25 => pP 30 mv<|pP 31 (zl ty76)<|pP 32 bi<|pP 2 asg<|en k25<|aw_ret<|by cases h;exact rk
def span_Right (a0 : Span) : Option Bool :=
 Option.bind (span_Name a0.Service) (fun (x3 : Bool) => if x3 = true then (Option.bind (span_Name a0.Op) (fun (x5 : Bool) => if x5 = true then (if (decide ((0 : Int) ≤ a0.Start)) = true then (if (decide (a0.Start ≤ 1099511627776)) = true then (if (decide ((0 : Int) ≤ a0.Dur)) = true then (if (decide (a0.Dur ≤ 1073741824)) = true then (if (decide ((List.length a0.Attrs : Int) ≤ 4)) = true then (Option.bind (span_attrs a0.Attrs) (fun (x12 : Bool) => some x12)) else (some false)) else (some false)) else (some false)) else (some false)) else (some false)) else (some false))) else (some false))
theorem span_Right_ok (a0 : Span) {r : Bool} (h : span_Right a0 = some r) : Ok Tryz.prog 93 [.agg [.int .u64 a0.Trace.Hi, .int .u64 a0.Trace.Lo, .int .u64 a0.Id, .int .u64 a0.Parent, .str a0.Service, .str a0.Op, .int .i64 a0.Start, .int .i64 a0.Dur, .bool a0.Err, .sl 2 (List.map enc132 a0.Attrs)]] [] [] (.bool r) [] [] := by
 refine oK Tryz.func93 rfl fun X => sr fun _ k1 => pD 1 (do_box W_ rfl rfl)<|pP 2 asg<|en k1<|sr fun _ k2 => pP 3 (fa ty78 ty9)<|pX 4 (ld ty9)<|bE h fun x3 y3 h => pD 5 (cz 5 (.bool x3) (span_Name_ok a0.Service y3) ent110)<|pP 6 mv<|li 6 h (fun c4 h => ?_) fun c4 h => ?_
 ·refine pP 7 (fa ty78 ty9)<|pX 8 (ld ty9)<|bE h fun x5 y5 h => pD 9 (cz 9 (.bool x5) (span_Name_ok a0.Op y5) ent110)<|pP 10 pc<|pP 11 mv<|li 11 h (fun c6 h => ?_) fun c6 h => ?_
  ·refine pP 12 (fa ty78 ty3)<|pX 13 (ld ty3)<|pP 14 bi<|pP 15 pc<|pP 16 mv<|li 16 h (fun c7 h => ?_) fun c7 h => ?_
   ·refine pP 17 (fa ty78 ty3)<|pX 18 (ld ty3)<|pP 19 bi<|pP 20 pc<|pP 21 mv<|li 21 h (fun c8 h => ?_) fun c8 h => ?_
    ·refine pP 22 (fa ty78 ty3)<|pX 23 (ld ty3)<|pP 24 bi<|pP 25 pc<|pP 26 mv<|li 26 h (fun c9 h => ?_) fun c9 h => ?_
     ·refine pP 27 (fa ty78 ty3)<|pX 28 (ld ty3)<|pP 29 bi<|pP 30 pc<|pP 31 mv<|li 31 h (fun c10 h => ?_) fun c10 h => ?_
      ·refine pP 32 (fa ty78 ty76)<|pX 33 (ld ty76)<|pP 34 (zl ty76)<|pP 35 bi<|pP 36 pc<|pP 37 mv<|li 37 h (fun c11 h => ?_) fun c11 h => ?_
       ·refine pP 38 (fa ty78 ty76)<|pX 39 (ld ty76)<|bE h fun x12 y12 h => pD 40 (cz 40 (.bool x12) (span_attrs_ok a0.Attrs y12) ent111)<|pP 41 pc<|pP 2 asg<|en k2<|aw_ret<|by cases h;exact rk
       ·refine pS 38<|pS 39<|pS 40<|pP 41 pc<|pP 2 asg<|en k2<|aw_ret<|by cases h;exact rk
      ·refine pS 32<|pS 33<|pS 34<|pS 35<|pP 36 pc<|pP 37 mv<|pS 38<|pS 39<|pS 40<|pP 41 pc<|pP 2 asg<|en k2<|aw_ret<|by cases h;exact rk
     ·refine pS 27<|pS 28<|pS 29<|pP 30 pc<|pP 31 mv<|pS 32<|pS 33<|pS 34<|pS 35<|pP 36 pc<|pP 37 mv<|pS 38<|pS 39<|pS 40<|pP 41 pc<|pP 2 asg<|en k2<|aw_ret<|by cases h;exact rk
    ·refine pS 22<|pS 23<|pS 24<|pP 25 pc<|pP 26 mv<|pS 27<|pS 28<|pS 29<|pP 30 pc<|pP 31 mv<|pS 32<|pS 33<|pS 34<|pS 35<|pP 36 pc<|pP 37 mv<|pS 38<|pS 39<|pS 40<|pP 41 pc<|pP 2 asg<|en k2<|aw_ret<|by cases h;exact rk
   ·refine pS 17<|pS 18<|pS 19<|pP 20 pc<|pP 21 mv<|pS 22<|pS 23<|pS 24<|pP 25 pc<|pP 26 mv<|pS 27<|pS 28<|pS 29<|pP 30 pc<|pP 31 mv<|pS 32<|pS 33<|pS 34<|pS 35<|pP 36 pc<|pP 37 mv<|pS 38<|pS 39<|pS 40<|pP 41 pc<|pP 2 asg<|en k2<|aw_ret<|by cases h;exact rk
  ·refine pS 12<|pS 13<|pS 14<|pP 15 pc<|pP 16 mv<|pS 17<|pS 18<|pS 19<|pP 20 pc<|pP 21 mv<|pS 22<|pS 23<|pS 24<|pP 25 pc<|pP 26 mv<|pS 27<|pS 28<|pS 29<|pP 30 pc<|pP 31 mv<|pS 32<|pS 33<|pS 34<|pS 35<|pP 36 pc<|pP 37 mv<|pS 38<|pS 39<|pS 40<|pP 41 pc<|pP 2 asg<|en k2<|aw_ret<|by cases h;exact rk
 ·refine pS 7<|pS 8<|pS 9<|pP 10 pc<|pP 11 mv<|pS 12<|pS 13<|pS 14<|pP 15 pc<|pP 16 mv<|pS 17<|pS 18<|pS 19<|pP 20 pc<|pP 21 mv<|pS 22<|pS 23<|pS 24<|pP 25 pc<|pP 26 mv<|pS 27<|pS 28<|pS 29<|pP 30 pc<|pP 31 mv<|pS 32<|pS 33<|pS 34<|pS 35<|pP 36 pc<|pP 37 mv<|pS 38<|pS 39<|pS 40<|pP 41 pc<|pP 2 asg<|en k2<|aw_ret<|by cases h;exact rk
def span_Put_l0 (a1 : Span) (vb0_s_0_s_0 : List UInt8) (v46_0 : Int) : Option ((List UInt8 × Int) ⊕ Writer) :=
 if (decide (v46_0 < (List.length a1.Attrs : Int))) = true then (gd (0 ≤ v46_0) (Option.bind (a1.Attrs[(Int.toNat v46_0)]?) (fun (x21 : Attr) => Option.bind (ints_Writer_Text (Writer.mk vb0_s_0_s_0) [x21.Key, x21.Value]) (fun (x22 : Writer) => some (Sum.inl (x22.B, (IntKind.i64.wrap (v46_0 + 1)))))))) else (some (Sum.inr (Writer.mk vb0_s_0_s_0)))
def span_Put (a0 : Writer) (a1 : Span) : Option Writer :=
 Option.bind (ints_Writer_Wide a0 [a1.Trace.Hi, a1.Trace.Lo, a1.Id, a1.Parent]) (fun (x3 : Writer) => Option.bind (ints_Writer_Text x3 [a1.Service, a1.Op]) (fun (x5 : Writer) => Option.bind (ints_Writer_Num x5 [a1.Start, a1.Dur]) (fun (x7 : Writer) => Option.bind (ints_Writer_Flag x7 a1.Err) (fun (x9 : Writer) => Option.bind (ints_Writer_Num x9 [(List.length a1.Attrs : Int)]) (fun (x11 : Writer) => loopN (fun (s : List UInt8 × Int) => span_Put_l0 a1 s.1 s.2) Fu (x11.B, 0))))))
theorem span_Put_ok (a0 : Writer) (a1 : Span) {r : Writer} (h : span_Put a0 a1 = some r) : Ok Tryz.prog 57 [.ptr 0 0 0, .agg [.int .u64 a1.Trace.Hi, .int .u64 a1.Trace.Lo, .int .u64 a1.Id, .int .u64 a1.Parent, .str a1.Service, .str a1.Op, .int .i64 a1.Start, .int .i64 a1.Dur, .bool a1.Err, .sl 2 (List.map enc132 a1.Attrs)]] [[.own 1 0]] [(5, 1, List.map enc5 a0.B)] (.tup []) [[.own 2 0]] [(5, 1, List.map enc5 r.B)] := by
 refine oK Tryz.func57 rfl fun X => sr fun _ k1 => pD 3 (do_box W_ rfl rfl)<|en k1<|sr fun _ k2 => pP 6 mv<|pP 7 (fa ty78 ty75)<|pP 8 (fa ty75 ty63)<|pX 9 (ld ty63)<|pP 10 (fa ty78 ty75)<|pP 11 (fa ty75 ty63)<|pX 12 (ld ty63)<|pP 13 (fa ty78 ty63)<|pX 14 (ld ty63)<|pP 15 (fa ty78 ty63)<|pX 16 (ld ty63)<|pD 17 (bs (List.map enc12 [a1.Trace.Hi, a1.Trace.Lo, a1.Id, a1.Parent]) ty170 ty63 rfl)<|bE h fun x3 y3 h => pD 18 (does_frz (d := 17) (n := 0) W_ (do_callG (bcs := [[.own 1 0]]) [(0, 0)] [(1, 0)] [(17, 0)] 18 false (ints_Writer_Wide_ok a0 [a1.Trace.Hi, a1.Trace.Lo, a1.Id, a1.Parent] y3) rfl ent85 ⟨R_, trivial⟩ (rowsOk_cons W_ R_ trivial) rfl rfl rfl rfl rfl rfl rfl rfl (.inl ⟨⟨_, _, _, rfl⟩, trivial⟩)))<|en k2<|sr fun _ k4 => pP 19 mv<|pP 20 (fa ty78 ty9)<|pX 21 (ld ty9)<|pP 22 (fa ty78 ty9)<|pX 23 (ld ty9)<|pD 24 (bs (List.map enc9 [a1.Service, a1.Op]) ty171 ty9 rfl)<|bE h fun x5 y5 h => pD 25 (does_frz (d := 24) (n := 0) W_ (do_callG (bcs := [[.own 18 0]]) [(0, 0)] [(18, 0)] [(24, 0)] 25 false (ints_Writer_Text_ok x3 [a1.Service, a1.Op] y5) rfl ent86 ⟨R_, trivial⟩ (rowsOk_cons W_ R_ trivial) rfl rfl rfl rfl rfl rfl rfl rfl (.inl ⟨⟨_, _, _, rfl⟩, trivial⟩)))<|en k4<|sr fun _ k6 => pP 26 mv<|pP 27 (fa ty78 ty3)<|pX 28 (ld ty3)<|pP 29 (fa ty78 ty3)<|pX 30 (ld ty3)<|pD 31 (bs (List.map enc2 [a1.Start, a1.Dur]) ty55 ty3 rfl)<|bE h fun x7 y7 h => pD 32 (does_frz (d := 31) (n := 0) W_ (do_callG (bcs := [[.own 25 0]]) [(0, 0)] [(25, 0)] [(31, 0)] 32 false (ints_Writer_Num_ok x5 [a1.Start, a1.Dur] y7) rfl ent56 ⟨R_, trivial⟩ (rowsOk_cons W_ R_ trivial) rfl rfl rfl rfl rfl rfl rfl rfl (.inl ⟨⟨_, _, _, rfl⟩, trivial⟩)))<|en k6<|sr fun _ k8 => pP 33 mv<|pP 34 (fa ty78 ty4)<|pX 35 (ld ty4)<|bE h fun x9 y9 h => pD 36 (do_callG (bcs := [[.own 32 0]]) [(0, 0)] [(32, 0)] [] 36 false (ints_Writer_Flag_ok x7 a1.Err y9) rfl ent87 ⟨R_, trivial⟩ (rowsOk_cons W_ R_ trivial) rfl rfl rfl rfl rfl rfl rfl rfl (.inl trivial))<|en k8<|sr fun _ k10 => pP 37 mv<|pP 38 (fa ty78 ty76)<|pX 39 (ld ty76)<|pP 40 (zl ty76)<|pD 41 (bs (List.map enc2 [(List.length a1.Attrs : Int)]) ty55 ty3 rfl)<|bE h fun x11 y11 h => pD 42 (does_frz (d := 41) (n := 0) W_ (do_callG (bcs := [[.own 36 0]]) [(0, 0)] [(36, 0)] [(41, 0)] 42 false (ints_Writer_Num_ok x9 [(List.length a1.Attrs : Int)] y11) rfl ent56 ⟨R_, trivial⟩ (rowsOk_cons W_ R_ trivial) rfl rfl rfl rfl rfl rfl rfl rfl (.inl ⟨⟨_, _, _, rfl⟩, trivial⟩)))<|en k10<|sr fun _ k12 => pP 43 (fa ty78 ty76)<|pX 44 (ld ty76)<|pP 45 (zl ty76)<|pP 46 mv<|en k12<|aw_block<|aw_loop' (fun m s => ∃ (vb0_s_0_s_0 : List UInt8), ∃ (v46_0 : Int), loopN (fun (s : List UInt8 × Int) => span_Put_l0 a1 s.1 s.2) m (vb0_s_0_s_0, v46_0) = some r ∧ s = lit [(0, .ptr 0 0 0), (44, .sl 2 (List.map enc132 a1.Attrs)), (45, .int .i64 (List.length a1.Attrs : Int)), (46, .int .i64 v46_0)] [((0, 0), .box [.own 42 0]), ((42, 0), .arr 5 1 false (List.map enc5 vb0_s_0_s_0))] [(0, 1), (42, 1)] X) Fu
  ⟨_, ra [(0, 0), (42, 0)], x11.B, 0, h, rfl⟩ ?_
 rintro m s ⟨vb0_s_0_s_0, v46_0, h, rfl⟩
 obtain ⟨m0, q13, rfl, h, hq14⟩ := loop_some h
 replace h : span_Put_l0 a1 vb0_s_0_s_0 v46_0 = some q13 := h
 refine sr fun _ k15 => pP 47 bi<|en k15<|aw_seq_k fun _ k16 => wi 47 h (fun c17 h => ?_) fun c17 h => ?_
 ·refine aw_skip<|k16 _<|aw_seq_k fun _ k18 => aw_block<|sr fun _ k19 => gE h fun g20 h => bE h fun x21 y21 h => pP 48 (ia ty76 ty133 g20 y21)<|pl 49 (.agg [.str x21.Key, .str x21.Value]) ty133<|pD 5 (nw ty133)<|pZ (sto [.str x21.Key, .str x21.Value] ty133)<|en k19<|aw_regL<|pP 50 mv<|pP 51 (fa ty133 ty9)<|pX 52 (ld ty9)<|pP 53 (fa ty133 ty9)<|pX 54 (ld ty9)<|pD 55 (bs (List.map enc9 [x21.Key, x21.Value]) ty171 ty9 rfl)<|bE h fun x22 y22 h => pD 56 (does_frz (d := 55) (n := 0) W_ (do_callG (bcs := [[.own 42 0]]) [(0, 0)] [(42, 0)] [(55, 0)] 56 false (ints_Writer_Text_ok (Writer.mk vb0_s_0_s_0) [x21.Key, x21.Value] y22) rfl ent86 ⟨R_, trivial⟩ (rowsOk_cons W_ R_ trivial) rfl rfl rfl rfl rfl rfl rfl rfl (.inl ⟨⟨_, _, _, rfl⟩, trivial⟩)))<|en k18<|aw_regL<|pP 57 bi<|pP 46 mv<|al_nil<|bk (ra [(0, 0), (56, 0)]) ⟨x22.B, (IntKind.i64.wrap (v46_0 + 1)), leafL h hq14, rfl⟩
 ·refine aw_exit<|tk (leafR h hq14) fun h => ?_
  obtain rfl := Option.some.inj h
  exact ret_okB [(42, 0)] W_ W_ R_ (rowsOk_cons W_ R_ trivial) (boxesOk_cons W_ W_ R_ trivial) (nodup_b rfl) (.inl rfl) rfl
end Go.Proofs.YtbaibpjffcahiaaGreat.Ab
namespace Go.Proofs.YtbaibpjffcahiaaGreat.Ab
open Go Go.RowKit
set_option linter.unusedVariables false
set_option linter.unusedSimpArgs false
set_option maxRecDepth 100000
set_option maxHeartbeats 8000000
theorem ent33 : Ent Tryz.prog 33 := eN Tryz.func33
theorem ent65 : Ent Tryz.prog 65 := eN Tryz.func65
def gleaningref1_Within (a0 : Int) (a1 : Int) (a2 : Int) : Option Bool :=
 if (decide (a1 ≤ a0)) = true then (some (decide (a0 ≤ a2))) else (some false)
theorem gleaningref1_Within_ok (a0 : Int) (a1 : Int) (a2 : Int) {r : Bool} (h : gleaningref1_Within a0 a1 a2 = some r) : Ok Tryz.prog 65 [.int .i64 a0, .int .i64 a1, .int .i64 a2] [] [] (.bool r) [] [] := by
 refine oK Tryz.func65 rfl fun X => sr fun _ k1 => pP 6 asg<|en k1<|sr fun _ k2 => pP 7 mv<|pP 8 mv<|pP 9 bi<|pP 10 mv<|li 10 h (fun c3 h => ?_) fun c3 h => ?_
 ·refine pP 11 mv<|pP 12 mv<|pP 13 bi<|pP 14 pc<|pP 6 asg<|en k2<|aw_ret<|by cases h;exact rk
 ·refine pS 11<|pS 12<|pS 13<|pP 14 pc<|pP 6 asg<|en k2<|aw_ret<|by cases h;exact rk
def gleaningref1_RightSpan_l3 (a0 : Span) (v3_1 : Int) (v4_3 : Int) : Option (Int ⊕ (Int ⊕ Bool)) :=
 if (decide (v4_3 < v3_1)) = true then (gd (0 ≤ v4_3) (Option.bind (a0.Attrs[(Int.toNat v4_3)]?) (fun (x48 : Attr) => gd (0 ≤ v3_1) (Option.bind (a0.Attrs[(Int.toNat v3_1)]?) (fun (x50 : Attr) => if (ByteArray.toList x48.Key == ByteArray.toList x50.Key) = true then (some (Sum.inr (Sum.inr false))) else (some (Sum.inl (IntKind.i64.wrap (v4_3 + 1))))))))) else (some (Sum.inr (Sum.inl (IntKind.i64.wrap (v3_1 + 1)))))
def gleaningref1_RightSpan_k2 (a0 : Span) (v3_1 : Int) : Option (Int ⊕ Bool) :=
 loopN (fun (s : Int) => gleaningref1_RightSpan_l3 a0 v3_1 s) Fu 0
def gleaningref1_RightSpan_l1 (a0 : Span) (v3_1 : Int) : Option (Int ⊕ Bool) :=
 if (decide (v3_1 < (List.length a0.Attrs : Int))) = true then (Option.bind (gd (0 ≤ v3_1) (Option.bind (a0.Attrs[(Int.toNat v3_1)]?) (fun (x31 : Attr) => Option.bind (gleaningref1_Within (ByteArray.size x31.Key : Int) 1 16) (fun (x32 : Bool) => if (!x32) = true then (some (Sum.inr (Sum.inr false))) else (gd (0 ≤ v3_1) (Option.bind (a0.Attrs[(Int.toNat v3_1)]?) (fun (x36 : Attr) => if (decide ((16 : Int) < (ByteArray.size x36.Value : Int))) = true then (some (Sum.inr (Sum.inr false))) else (some (Sum.inl ()))))))))) (Sum.elim (fun (s : Unit) => gleaningref1_RightSpan_k2 a0 v3_1) some)) else (some (Sum.inr true))
def gleaningref1_RightSpan_k0 (a0 : Span) : Option Bool :=
 loopN (fun (s : Int) => gleaningref1_RightSpan_l1 a0 s) Fu 0
def gleaningref1_RightSpan (a0 : Span) : Option Bool :=
 Option.bind (Option.bind (gleaningref1_Within (ByteArray.size a0.Service : Int) 1 16) (fun (x5 : Bool) => if (!x5) = true then (some (Sum.inr false)) else (Option.bind (gleaningref1_Within (ByteArray.size a0.Op : Int) 1 16) (fun (x8 : Bool) => if (!x8) = true then (some (Sum.inr false)) else (Option.bind (gleaningref1_Within a0.Start 0 1099511627776) (fun (x11 : Bool) => if (!x11) = true then (some (Sum.inr false)) else (Option.bind (gleaningref1_Within a0.Dur 0 1073741824) (fun (x14 : Bool) => if (!x14) = true then (some (Sum.inr false)) else (if (decide ((4 : Int) < (List.length a0.Attrs : Int))) = true then (some (Sum.inr false)) else (some (Sum.inl ()))))))))))) (Sum.elim (fun (s : Unit) => gleaningref1_RightSpan_k0 a0) some)
theorem gleaningref1_RightSpan_ok (a0 : Span) {r : Bool} (h : gleaningref1_RightSpan a0 = some r) : Ok Tryz.prog 33 [.agg [.int .u64 a0.Trace.Hi, .int .u64 a0.Trace.Lo, .int .u64 a0.Id, .int .u64 a0.Parent, .str a0.Service, .str a0.Op, .int .i64 a0.Start, .int .i64 a0.Dur, .bool a0.Err, .sl 2 (List.map enc132 a0.Attrs)]] [] [] (.bool r) [] [] := by
 refine oK Tryz.func33 rfl fun X => sr fun _ k1 => pD 1 (do_box W_ rfl rfl)<|pP 2 asg<|en k1<|bE h fun q2 h hk3 => aw_cut (fun s => gleaningref1_RightSpan_k0 a0 = some r ∧ s = lit [(1, .ptr 1 0 0)] [((1, 0), .box [.int .u64 a0.Trace.Hi, .int .u64 a0.Trace.Lo, .int .u64 a0.Id, .int .u64 a0.Parent, .str a0.Service, .str a0.Op, .int .i64 a0.Start, .int .i64 a0.Dur, .bool a0.Err, .sl 2 (List.map enc132 a0.Attrs)])] [(1, 1)] X) ?_ ?_
 ·skip
  refine sr fun _ k4 => pP 5 (fa ty78 ty9)<|pX 6 (ld ty9)<|pP 7 (does_len_str W_ ty9)<|bE h fun x5 y5 h => pD 8 (cz 8 (.bool x5) (gleaningref1_Within_ok (ByteArray.size a0.Service : Int) 1 16 y5) ent65)<|pP 9 un<|pP 10 mv<|li 10 h (fun c6 h => ?_) fun c6 h => ?_
  ·refine pS 11<|pS 12<|pS 13<|pS 14<|pS 15<|pP 16 pc<|pP 17 mv<|pS 18<|pS 19<|pS 20<|pS 21<|pP 22 pc<|pP 23 mv<|pS 24<|pS 25<|pS 26<|pS 27<|pP 28 pc<|pP 29 mv<|pS 30<|pS 31<|pS 32<|pS 33<|pP 34 pc<|en k4<|aw_cond_t D_ rfl<|sr fun _ k7 => pP 2 asg<|en k7<|aw_ret<|by cases leafR h hk3;exact rk
  ·refine pP 11 (fa ty78 ty9)<|pX 12 (ld ty9)<|pP 13 (does_len_str W_ ty9)<|bE h fun x8 y8 h => pD 14 (cz 14 (.bool x8) (gleaningref1_Within_ok (ByteArray.size a0.Op : Int) 1 16 y8) ent65)<|pP 15 un<|pP 16 pc<|pP 17 mv<|li 17 h (fun c9 h => ?_) fun c9 h => ?_
   ·refine pS 18<|pS 19<|pS 20<|pS 21<|pP 22 pc<|pP 23 mv<|pS 24<|pS 25<|pS 26<|pS 27<|pP 28 pc<|pP 29 mv<|pS 30<|pS 31<|pS 32<|pS 33<|pP 34 pc<|en k4<|aw_cond_t D_ rfl<|sr fun _ k10 => pP 2 asg<|en k10<|aw_ret<|by cases leafR h hk3;exact rk
   ·refine pP 18 (fa ty78 ty3)<|pX 19 (ld ty3)<|bE h fun x11 y11 h => pD 20 (cz 20 (.bool x11) (gleaningref1_Within_ok a0.Start 0 1099511627776 y11) ent65)<|pP 21 un<|pP 22 pc<|pP 23 mv<|li 23 h (fun c12 h => ?_) fun c12 h => ?_
    ·refine pS 24<|pS 25<|pS 26<|pS 27<|pP 28 pc<|pP 29 mv<|pS 30<|pS 31<|pS 32<|pS 33<|pP 34 pc<|en k4<|aw_cond_t D_ rfl<|sr fun _ k13 => pP 2 asg<|en k13<|aw_ret<|by cases leafR h hk3;exact rk
    ·refine pP 24 (fa ty78 ty3)<|pX 25 (ld ty3)<|bE h fun x14 y14 h => pD 26 (cz 26 (.bool x14) (gleaningref1_Within_ok a0.Dur 0 1073741824 y14) ent65)<|pP 27 un<|pP 28 pc<|pP 29 mv<|li 29 h (fun c15 h => ?_) fun c15 h => ?_
     ·refine pS 30<|pS 31<|pS 32<|pS 33<|pP 34 pc<|en k4<|aw_cond_t D_ rfl<|sr fun _ k16 => pP 2 asg<|en k16<|aw_ret<|by cases leafR h hk3;exact rk
     ·refine pP 30 (fa ty78 ty76)<|pX 31 (ld ty76)<|pP 32 (zl ty76)<|pP 33 bi<|pP 34 pc<|en k4<|wi 34 h (fun c17 h => ?_) fun c17 h => ?_
      ·refine sr fun _ k18 => pP 2 asg<|en k18<|aw_ret<|by cases leafR h hk3;exact rk
      ·refine aw_skip<|tk (leafL h hk3) fun h => ?_
       exact ⟨_, ra [(1, 0)], h, rfl⟩
 ·rintro s ⟨h, rfl⟩
  unfold gleaningref1_RightSpan_k0 at h
  refine aw_seq_k fun _ k19 => sr fun _ k20 => pP 3 asg<|en k20<|aw_block<|aw_loop' (fun m s => ∃ (v3_1 : Int), loopN (fun (s : Int) => gleaningref1_RightSpan_l1 a0 s) m v3_1 = some r ∧ s = lit [(1, .ptr 1 0 0), (3, .int .i64 v3_1)] [((1, 0), .box [.int .u64 a0.Trace.Hi, .int .u64 a0.Trace.Lo, .int .u64 a0.Id, .int .u64 a0.Parent, .str a0.Service, .str a0.Op, .int .i64 a0.Start, .int .i64 a0.Dur, .bool a0.Err, .sl 2 (List.map enc132 a0.Attrs)])] [(1, 1)] X) Fu
   ⟨_, ra [(1, 0)], 0, h, rfl⟩ ?_
  rintro m s ⟨v3_1, h, rfl⟩
  obtain ⟨m1, q21, rfl, h, hq22⟩ := loop_some h
  replace h : gleaningref1_RightSpan_l1 a0 v3_1 = some q21 := h
  refine aw_seq_k fun _ k23 => sr fun _ k24 => pP 35 mv<|pP 36 (fa ty78 ty76)<|pX 37 (ld ty76)<|pP 38 (zl ty76)<|pP 39 bi<|en k24<|wi 39 h (fun c25 h => ?_) fun c25 h => ?_
  ·refine aw_skip<|k23 _<|aw_seq_k fun _ k26 => aw_block<|bE h fun q27 h hk28 => aw_cut (fun s => gleaningref1_RightSpan_k2 a0 v3_1 = some q21 ∧ s = lit [(1, .ptr 1 0 0), (3, .int .i64 v3_1)] [((1, 0), .box [.int .u64 a0.Trace.Hi, .int .u64 a0.Trace.Lo, .int .u64 a0.Id, .int .u64 a0.Parent, .str a0.Service, .str a0.Op, .int .i64 a0.Start, .int .i64 a0.Dur, .bool a0.Err, .sl 2 (List.map enc132 a0.Attrs)])] [(1, 1)] X) ?_ ?_
   ·skip
    refine sr fun _ k29 => pP 42 (fa ty78 ty76)<|pX 43 (ld ty76)<|pP 44 mv<|gE h fun g30 h => bE h fun x31 y31 h => pP 45 (ia ty76 ty133 g30 y31)<|pP 46 (fa ty133 ty9)<|pX 47 (ld ty9)<|pP 48 (does_len_str W_ ty9)<|bE h fun x32 y32 h => pD 49 (cZ 49 (gleaningref1_Within_ok (ByteArray.size x31.Key : Int) 1 16 y32) ent65)<|pP 50 un<|pP 51 mv<|li 51 h (fun c33 h => ?_) fun c33 h => ?_
    ·refine pS 52<|pS 53<|pS 54<|pS 55<|pS 56<|pS 57<|pS 58<|pS 59<|pP 60 pc<|en k29<|aw_cond_t D_ rfl<|sr fun _ k34 => pP 2 asg<|en k34<|aw_ret<|tk (leafR h hk28) fun h => by cases leafR h hq22;exact rk
    ·refine pP 52 (fa ty78 ty76)<|pX 53 (ld ty76)<|pP 54 mv<|gE h fun g35 h => bE h fun x36 y36 h => pP 55 (ia ty76 ty133 g35 y36)<|pP 56 (fa ty133 ty9)<|pX 57 (ld ty9)<|pP 58 (does_len_str W_ ty9)<|pP 59 bi<|pP 60 pc<|en k29<|wi 60 h (fun c37 h => ?_) fun c37 h => ?_
     ·refine sr fun _ k38 => pP 2 asg<|en k38<|aw_ret<|tk (leafR h hk28) fun h => by cases leafR h hq22;exact rk
     ·refine aw_skip<|tk (leafL h hk28) fun h => ?_
      exact ⟨_, ra [(1, 0)], h, rfl⟩
   ·rintro s ⟨h, rfl⟩
    unfold gleaningref1_RightSpan_k2 at h
    refine sr fun _ k39 => pP 4 asg<|en k39<|aw_block<|aw_loop' (fun m s => ∃ (v4_3 : Int), loopN (fun (s : Int) => gleaningref1_RightSpan_l3 a0 v3_1 s) m v4_3 = some q21 ∧ s = lit [(1, .ptr 1 0 0), (3, .int .i64 v3_1), (4, .int .i64 v4_3)] [((1, 0), .box [.int .u64 a0.Trace.Hi, .int .u64 a0.Trace.Lo, .int .u64 a0.Id, .int .u64 a0.Parent, .str a0.Service, .str a0.Op, .int .i64 a0.Start, .int .i64 a0.Dur, .bool a0.Err, .sl 2 (List.map enc132 a0.Attrs)])] [(1, 1)] X) Fu
     ⟨_, ra [(1, 0)], 0, h, rfl⟩ ?_
    rintro m s ⟨v4_3, h, rfl⟩
    obtain ⟨m3, q40, rfl, h, hq41⟩ := loop_some h
    replace h : gleaningref1_RightSpan_l3 a0 v3_1 v4_3 = some q40 := h
    refine aw_seq_k fun _ k42 => sr fun _ k43 => pP 61 mv<|pP 62 mv<|pP 63 bi<|en k43<|wi 63 h (fun c44 h => ?_) fun c44 h => ?_
    ·refine aw_skip<|k42 _<|aw_seq_k fun _ k45 => aw_block<|aw_seq_k fun _ k46 => aw_regd (by kernel_rfl) (by decide +kernel)<|qP 66 (fa ty78 ty76)<|qR 67 (ld ty76)<|qP 68 mv<|gE h fun g47 h => bE h fun x48 y48 h => qP 69 (ia ty76 ty133 g47 y48)<|qP 70 (fa ty133 ty9)<|qR 71 (ld ty9)<|qP 72 (fa ty78 ty76)<|qR 73 (ld ty76)<|qP 74 mv<|gE h fun g49 h => bE h fun x50 y50 h => qP 75 (ia ty76 ty133 g49 y50)<|qP 76 (fa ty133 ty9)<|qR 77 (ld ty9)<|qP 78 bi<|ao_nil_d (by kernel_rfl)<|k46 _<|wi 78 h (fun c51 h => ?_) fun c51 h => ?_
     ·refine sr fun _ k52 => pP 2 asg<|en k52<|aw_ret<|tk (leafR h hq41) fun h => by cases leafR h hq22;exact rk
     ·refine aw_skip<|k45 _<|aw_regL<|pP 64 mv<|pP 65 bi<|pP 4 asg<|al_nil<|bk (ra [(1, 0)]) ⟨(IntKind.i64.wrap (v4_3 + 1)), leafL h hq41, rfl⟩
    ·refine aw_exit<|tk (leafR h hq41) fun h => k26 _<|aw_regL<|pP 40 mv<|pP 41 bi<|pP 3 asg<|al_nil<|bk (ra [(1, 0)]) ⟨(IntKind.i64.wrap (v3_1 + 1)), leafL h hq22, rfl⟩
  ·refine aw_exit<|tk (leafR h hq22) fun h => k19 _<|sr fun _ k53 => pP 2 asg<|en k53<|aw_ret<|by cases h;exact rk
def gleaningref1_RightSpans_l0 (a0 : List Span) (v3_0 : Int) : Option (Int ⊕ Bool) :=
 if (decide (v3_0 < (List.length a0 : Int))) = true then (gd (0 ≤ v3_0) (Option.bind (a0[(Int.toNat v3_0)]?) (fun (x12 : Span) => Option.bind (gleaningref1_RightSpan x12) (fun (x13 : Bool) => if (!x13) = true then (some (Sum.inr false)) else (some (Sum.inl (IntKind.i64.wrap (v3_0 + 1)))))))) else (some (Sum.inr true))
def gleaningref1_RightSpans (a0 : List Span) : Option Bool :=
 loopN (fun (s : Int) => gleaningref1_RightSpans_l0 a0 s) Fu 0
theorem gleaningref1_RightSpans_ok (a0 : List Span) {r : Bool} (h : gleaningref1_RightSpans a0 = some r) : Ok Tryz.prog 15 [.sl 10 (List.map enc77 a0)] [] [] (.bool r) [] [] := by
 unfold gleaningref1_RightSpans at h
 refine oK Tryz.func15 rfl fun X => sr fun _ k1 => pP 2 asg<|en k1<|aw_seq_k fun _ k2 => sr fun _ k3 => pP 3 asg<|en k3<|aw_block<|aw_loop' (fun m s => ∃ (v3_0 : Int), loopN (fun (s : Int) => gleaningref1_RightSpans_l0 a0 s) m v3_0 = some r ∧ s = lit [(0, .sl 10 (List.map enc77 a0)), (3, .int .i64 v3_0)] [] [] X) Fu
  ⟨_, ra [], 0, h, rfl⟩ ?_
 rintro m s ⟨v3_0, h, rfl⟩
 obtain ⟨m0, q4, rfl, h, hq5⟩ := loop_some h
 replace h : gleaningref1_RightSpans_l0 a0 v3_0 = some q4 := h
 refine aw_seq_k fun _ k6 => sr fun _ k7 => pP 4 mv<|pP 5 mv<|pP 6 (zl ty22)<|pP 7 bi<|en k7<|wi 7 h (fun c8 h => ?_) fun c8 h => ?_
 ·refine aw_skip<|k6 _<|aw_seq_k fun _ k9 => aw_block<|sr fun _ k10 => pP 10 mv<|pP 11 mv<|gE h fun g11 h => bE h fun x12 y12 h => pP 12 (ia ty22 ty78 g11 y12)<|pl 13 (.agg [.int .u64 x12.Trace.Hi, .int .u64 x12.Trace.Lo, .int .u64 x12.Id, .int .u64 x12.Parent, .str x12.Service, .str x12.Op, .int .i64 x12.Start, .int .i64 x12.Dur, .bool x12.Err, .sl 2 (List.map enc132 x12.Attrs)]) ty78<|bE h fun x13 y13 h => pD 14 (cZ 14 (gleaningref1_RightSpan_ok x12 y13) ent33)<|pP 15 un<|en k10<|wi 15 h (fun c14 h => ?_) fun c14 h => ?_
  ·refine sr fun _ k15 => pP 2 asg<|en k15<|aw_ret<|by cases leafR h hq5;exact rk
  ·refine aw_skip<|k9 _<|aw_regL<|pP 8 mv<|pP 9 bi<|pP 3 asg<|al_nil<|bk (ra []) ⟨(IntKind.i64.wrap (v3_0 + 1)), leafL h hq5, rfl⟩
 ·refine aw_exit<|tk (leafR h hq5) fun h => k2 _<|sr fun _ k16 => pP 2 asg<|en k16<|aw_ret<|by cases h;exact rk
end Go.Proofs.YtbaibpjffcahiaaGreat.Ab
