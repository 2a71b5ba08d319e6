/- States as bytes: written. -/
import Derived.Test.YtjklegmimpehlaaGreatXBlk
import Derived.Test.YtjklegmimpehlaaGreatProg
namespace Go.Proofs.YtjklegmimpehlaaGreat.Ab
open Go Go.RowKit
set_option linter.unusedVariables false
set_option linter.unusedSimpArgs false
set_option maxRecDepth 100000
set_option maxHeartbeats 8000000
structure Arr8_Int where
  c0 : Int
  c1 : Int
  c2 : Int
  c3 : Int
  c4 : Int
  c5 : Int
  c6 : Int
  c7 : Int
  deriving DecidableEq
structure Counter where
  Count : Int
  Errs : Int
  By : Arr8_Int
  deriving DecidableEq
structure RowG where
  Level : Int
  Window : Int
  Service : ByteArray
  Op : ByteArray
  Counter : Counter
  deriving DecidableEq
structure Edge where
  From : ByteArray
  To : ByteArray
  Count : Int
  Errs : Int
  deriving DecidableEq
structure Exemplar where
  Service : ByteArray
  Op : ByteArray
  Trace : Trace
  Id : Int
  Block : Int
  deriving DecidableEq
structure Verdict where
  Trace : Trace
  Kept : Bool
  deriving DecidableEq
structure Block where
  Number : Int
  Born : Int
  Tier : Int
  Episodes : List Episode
  deriving DecidableEq
structure StateG where
  Now : Int
  Sec : Int
  Kept : Int
  Next : Int
  Policy : Rule
  Open : List Episode
  Pending : List Episode
  Memo : List Verdict
  Rows : List RowG
  Edges : List Edge
  Slots : List Exemplar
  Blocks : List Block
def enc68 (x : Episode) : PV := .agg [.int .u64 x.Trace.Hi, .int .u64 x.Trace.Lo, .int .i64 x.First, .int .i64 x.Last, .bool x.Sure, .sl 10 (List.map enc130 x.Spans)]
def enc79 (x : Verdict) : PV := .agg [.int .u64 x.Trace.Hi, .int .u64 x.Trace.Lo, .bool x.Kept]
def enc56 (x : RowG) : PV := .agg [.int .i64 x.Level, .int .i64 x.Window, .str x.Service, .str x.Op, .int .i64 x.Counter.Count, .int .i64 x.Counter.Errs, .int .i64 x.Counter.By.c0, .int .i64 x.Counter.By.c1, .int .i64 x.Counter.By.c2, .int .i64 x.Counter.By.c3, .int .i64 x.Counter.By.c4, .int .i64 x.Counter.By.c5, .int .i64 x.Counter.By.c6, .int .i64 x.Counter.By.c7]
def enc58 (x : Edge) : PV := .agg [.str x.From, .str x.To, .int .i64 x.Count, .int .i64 x.Errs]
def enc63 (x : Exemplar) : PV := .agg [.str x.Service, .str x.Op, .int .u64 x.Trace.Hi, .int .u64 x.Trace.Lo, .int .u64 x.Id, .int .i64 x.Block]
def enc40 (x : Block) : PV := .agg [.int .i64 x.Number, .int .i64 x.Born, .int .i64 x.Tier, .sl 6 (List.map enc68 x.Episodes)]
theorem ty25 : tyOf Tryz.prog 25 = some ⟨.slice 69, 1, 24, [.nil]⟩ := by kernel_rfl
theorem ty27 : tyOf Tryz.prog 27 = some ⟨.slice 57, 1, 24, [.nil]⟩ := by kernel_rfl
theorem ty28 : tyOf Tryz.prog 28 = some ⟨.slice 59, 1, 24, [.nil]⟩ := by kernel_rfl
theorem ty29 : tyOf Tryz.prog 29 = some ⟨.slice 64, 1, 24, [.nil]⟩ := by kernel_rfl
theorem ty30 : tyOf Tryz.prog 30 = some ⟨.slice 41, 1, 24, [.nil]⟩ := by kernel_rfl
theorem ty32 : tyOf Tryz.prog 32 = some ⟨.struct [(0, 3), (1, 3), (2, 3), (3, 3), (4, 24), (9, 25), (10, 25), (11, 26), (12, 27), (13, 28), (14, 29), (15, 30)], 16, 272, [.int .i64 0, .int .i64 0, .int .i64 0, .int .i64 0, .int .i64 0, .int .i64 0, .str ByteArray.empty, .str ByteArray.empty, .nil, .nil, .nil, .nil, .nil, .nil, .nil, .nil]⟩ := by kernel_rfl
theorem ty41 : tyOf Tryz.prog 41 = some ⟨.struct [(0, 3), (1, 3), (2, 3), (3, 25)], 4, 48, [.int .i64 0, .int .i64 0, .int .i64 0, .nil]⟩ := by kernel_rfl
theorem ty53 : tyOf Tryz.prog 53 = some ⟨.arr 8 3, 8, 64, [.int .i64 0, .int .i64 0, .int .i64 0, .int .i64 0, .int .i64 0, .int .i64 0, .int .i64 0, .int .i64 0]⟩ := by kernel_rfl
theorem ty55 : tyOf Tryz.prog 55 = some ⟨.struct [(0, 3), (1, 3), (2, 53)], 10, 80, [.int .i64 0, .int .i64 0, .int .i64 0, .int .i64 0, .int .i64 0, .int .i64 0, .int .i64 0, .int .i64 0, .int .i64 0, .int .i64 0]⟩ := by kernel_rfl
theorem ty57 : tyOf Tryz.prog 57 = some ⟨.struct [(0, 3), (1, 3), (2, 9), (3, 9), (4, 55)], 14, 128, [.int .i64 0, .int .i64 0, .str ByteArray.empty, .str ByteArray.empty, .int .i64 0, .int .i64 0, .int .i64 0, .int .i64 0, .int .i64 0, .int .i64 0, .int .i64 0, .int .i64 0, .int .i64 0, .int .i64 0]⟩ := by kernel_rfl
theorem ty59 : tyOf Tryz.prog 59 = some ⟨.struct [(0, 9), (1, 9), (2, 3), (3, 3)], 4, 48, [.str ByteArray.empty, .str ByteArray.empty, .int .i64 0, .int .i64 0]⟩ := by kernel_rfl
theorem ty64 : tyOf Tryz.prog 64 = some ⟨.struct [(0, 9), (1, 9), (2, 62), (4, 60), (5, 3)], 6, 64, [.str ByteArray.empty, .str ByteArray.empty, .int .u64 0, .int .u64 0, .int .u64 0, .int .i64 0]⟩ := by kernel_rfl
theorem ty66 : tyOf Tryz.prog 66 = some ⟨.other, 1, 8, [.nilf]⟩ := by kernel_rfl
theorem ty109 : tyOf Tryz.prog 109 = some ⟨.other, 1, 8, [.nilf]⟩ := by kernel_rfl
theorem ty111 : tyOf Tryz.prog 111 = some ⟨.other, 1, 8, [.nilf]⟩ := by kernel_rfl
theorem ty113 : tyOf Tryz.prog 113 = some ⟨.other, 1, 8, [.nilf]⟩ := by kernel_rfl
theorem ty115 : tyOf Tryz.prog 115 = some ⟨.other, 1, 8, [.nilf]⟩ := by kernel_rfl
theorem ent51 : Ent Tryz.prog 51 := eN Tryz.func51
theorem ent53 : Ent Tryz.prog 53 := eN Tryz.func53
theorem ent54 : Ent Tryz.prog 54 := eN Tryz.func54
theorem ent55 : Ent Tryz.prog 55 := eN Tryz.func55
theorem ent56 : Ent Tryz.prog 56 := eN Tryz.func56
theorem ent57 : Ent Tryz.prog 57 := eN Tryz.func57
theorem ent58 : Ent Tryz.prog 58 := eN Tryz.func58
theorem ent59 : Ent Tryz.prog 59 := eN Tryz.func59
theorem ent60 : Ent Tryz.prog 60 := eN Tryz.func60
theorem ent125 : Ent Tryz.prog 125 := eN Tryz.func125
theorem ent126 : Ent Tryz.prog 126 := eN Tryz.func126
theorem ent128 : Ent Tryz.prog 128 := eN Tryz.func128
theorem ent129 : Ent Tryz.prog 129 := eN Tryz.func129
theorem ent130 : Ent Tryz.prog 130 := eN Tryz.func130
theorem ent132 : Ent Tryz.prog 132 := eN Tryz.func132
theorem ent133 : Ent Tryz.prog 133 := eN Tryz.func133
theorem ent134 : Ent Tryz.prog 134 := eN Tryz.func134
theorem ent135 : Ent Tryz.prog 135 := eN Tryz.func135
theorem ent136 : Ent Tryz.prog 136 := eN Tryz.func136
theorem ent137 : Ent Tryz.prog 137 := eN Tryz.func137
theorem ent156 : Ent Tryz.prog 156 := eN Tryz.func156
theorem ent160 : Ent Tryz.prog 160 := eN Tryz.func160
theorem ent161 : Ent Tryz.prog 161 := eN Tryz.func161
theorem ent162 : Ent Tryz.prog 162 := eN Tryz.func162
theorem ent163 : Ent Tryz.prog 163 := eN Tryz.func163
theorem ent164 : Ent Tryz.prog 164 := eN Tryz.func164
def window_length_k0 (a0 : Int) : Option Int :=
 gd (0 ≤ a0) (Option.bind ([60, 3600, 86400][(Int.toNat a0)]?) (fun (x11 : Int) => some x11))
def window_length (a0 : Int) : Option Int :=
 Option.bind (if (decide (a0 < 0)) = true then (some (Sum.inr 0)) else (if (decide ((3 : Int) ≤ a0)) = true then (some (Sum.inr 0)) else (some (Sum.inl ())))) (Sum.elim (fun (s : Unit) => window_length_k0 a0) some)
theorem window_length_ok (a0 : Int) {r : Int} (h : window_length a0 = some r) : Ok Tryz.prog 161 [.int .i64 a0] [] [] (.int .i64 r) [] [] := by
 refine oK Tryz.func161 rfl fun X => sr fun _ k1 => pP 2 asg<|en k1<|bE h fun q2 h hk3 => aw_cut (fun s => window_length_k0 a0 = some r ∧ s = lit [(0, .int .i64 a0)] [] [] X) ?_ ?_
 ·skip
  refine sr fun _ k4 => pP 3 mv<|pP 4 bi<|pP 5 mv<|li 5 h (fun c5 h => ?_) fun c5 h => ?_
  ·refine pS 6<|pS 7<|pP 8 pc<|en k4<|aw_cond_t D_ rfl<|sr fun _ k6 => pP 2 asg<|en k6<|aw_ret<|by cases leafR h hk3;exact rk
  ·refine pP 6 mv<|pP 7 bi<|pP 8 pc<|en k4<|wi 8 h (fun c7 h => ?_) fun c7 h => ?_
   ·refine sr fun _ k8 => pP 2 asg<|en k8<|aw_ret<|by cases leafR h hk3;exact rk
   ·refine aw_skip<|tk (leafL h hk3) fun h => ?_
    exact ⟨_, ra [], h, rfl⟩
 ·rintro s ⟨h, rfl⟩
  refine sr fun _ k9 => pD 9 (bs (List.map enc2 [60, 3600, 86400]) ty117 ty3 rfl)<|pP 10 mv<|gE h fun g10 h => bE h fun x11 y11 h => pX 11 (does_indexAddr_own W_ W_ W_ ty117 ty3 g10 (by exact own_lt y11))<|pX 12 (does_load (v := .int .i64 x11) W_ (cellsAt_eptr W_ (by exact map_get y11)) ty3 R_)<|pP 2 asg<|en k9<|aw_ret<|by cases h;exact rk
def window_Span_k0 (a1 : Int) (x3 : Int) : Option (Int × Int × Bool) :=
 some ((IntKind.i64.wrap (a1 * x3)), (IntKind.i64.wrap ((IntKind.i64.wrap (a1 + 1)) * x3)), true)
def window_Span (a0 : Int) (a1 : Int) : Option (Int × Int × Bool) :=
 Option.bind (window_length a0) (fun (x3 : Int) => Option.bind (if (x3 == 0) = true then (some (Sum.inr (0, 0, false))) else (if (decide (a1 < 0)) = true then (some (Sum.inr (0, 0, false))) else (gd (¬ x3 = 0) (if (decide ((IntKind.i64.wrap (Int.tdiv 1099511627776 x3)) < a1)) = true then (some (Sum.inr (0, 0, false))) else (some (Sum.inl ())))))) (Sum.elim (fun (s : Unit) => window_Span_k0 a1 x3) some))
theorem window_Span_ok (a0 : Int) (a1 : Int) {r : Int × Int × Bool} (h : window_Span a0 a1 = some r) : Ok Tryz.prog 130 [.int .i64 a0, .int .i64 a1] [] [] (.tup [.int .i64 r.1, .int .i64 r.2.1, .bool r.2.2]) [] [] := by
 refine oK Tryz.func130 rfl fun X => sr fun _ k1 => pP 4 asg<|pP 5 asg<|pP 6 asg<|en k1<|sr fun _ k2 => pP 8 mv<|bE h fun x3 y3 h => pD 9 (cZ 9 (window_length_ok a0 y3) ent161)<|pP 7 asg<|en k2<|bE h fun q4 h hk5 => aw_cut (fun s => window_Span_k0 a1 x3 = some r ∧ s = lit [(1, .int .i64 a1), (7, .int .i64 x3)] [] [] X) ?_ ?_
 ·skip
  refine sr fun _ k6 => pP 10 mv<|pP 11 bi<|pP 12 mv<|li 12 h (fun c7 h => ?_) fun c7 h => ?_
  ·refine pS 13<|pS 14<|pP 15 pc<|pP 16 mv<|pS 17<|pS 18<|pS 19<|pS 20<|pP 21 pc<|en k6<|aw_cond_t D_ rfl<|sr fun _ k8 => pP 4 asg<|pP 5 asg<|pP 6 asg<|en k8<|aw_ret<|by cases leafR h hk5;exact rk
  ·refine pP 13 mv<|pP 14 bi<|pP 15 pc<|pP 16 mv<|li 16 h (fun c9 h => ?_) fun c9 h => ?_
   ·refine pS 17<|pS 18<|pS 19<|pS 20<|pP 21 pc<|en k6<|aw_cond_t D_ rfl<|sr fun _ k10 => pP 4 asg<|pP 5 asg<|pP 6 asg<|en k10<|aw_ret<|by cases leafR h hk5;exact rk
   ·refine pP 17 mv<|pP 18 mv<|gE h fun g11 h => pP 19 (does_bin (v := .int .i64 (IntKind.i64.wrap (Int.tdiv 1099511627776 x3))) W_ W_ (quo_hv g11))<|pP 20 bi<|pP 21 pc<|en k6<|wi 21 h (fun c12 h => ?_) fun c12 h => ?_
    ·refine sr fun _ k13 => pP 4 asg<|pP 5 asg<|pP 6 asg<|en k13<|aw_ret<|by cases leafR h hk5;exact rk
    ·refine aw_skip<|tk (leafL h hk5) fun h => ?_
     exact ⟨_, ra [], h, rfl⟩
 ·rintro s ⟨h, rfl⟩
  unfold window_Span_k0 at h
  refine sr fun _ k14 => pP 22 mv<|pP 23 mv<|pP 24 bi<|pP 25 mv<|pP 26 bi<|pP 27 mv<|pP 28 bi<|pP 4 asg<|pP 5 asg<|pP 6 asg<|en k14<|aw_ret<|by cases h;exact rk
def state_row (a0 : RowG) : Option Bool :=
 Option.bind (window_Span a0.Level a0.Window) (fun (x3 : Int × Int × Bool) => if x3.2.2 = true then (Option.bind (span_Name a0.Service) (fun (x6 : Bool) => if x6 = true then (Option.bind (span_Name a0.Op) (fun (x8 : Bool) => if x8 = true then (Option.bind (block_Epoch [a0.Counter.Count, a0.Counter.Errs]) (fun (x10 : Bool) => if x10 = true then (Option.bind (block_Epoch [a0.Counter.By.c0, a0.Counter.By.c1, a0.Counter.By.c2, a0.Counter.By.c3, a0.Counter.By.c4, a0.Counter.By.c5, a0.Counter.By.c6, a0.Counter.By.c7]) (fun (x12 : Bool) => some x12)) else (some false))) else (some false))) else (some false))) else (some false))
theorem state_row_ok (a0 : RowG) {r : Bool} (h : state_row a0 = some r) : Ok Tryz.prog 54 [.agg [.int .i64 a0.Level, .int .i64 a0.Window, .str a0.Service, .str a0.Op, .int .i64 a0.Counter.Count, .int .i64 a0.Counter.Errs, .int .i64 a0.Counter.By.c0, .int .i64 a0.Counter.By.c1, .int .i64 a0.Counter.By.c2, .int .i64 a0.Counter.By.c3, .int .i64 a0.Counter.By.c4, .int .i64 a0.Counter.By.c5, .int .i64 a0.Counter.By.c6, .int .i64 a0.Counter.By.c7]] [] [] (.bool r) [] [] := by
 refine oK Tryz.func54 rfl fun X => sr fun _ k1 => pD 1 (do_box W_ rfl rfl)<|pP 2 asg<|en k1<|sr fun _ k2 => pP 7 (fa ty57 ty3)<|pX 8 (ld ty3)<|pP 9 (fa ty57 ty3)<|pX 10 (ld ty3)<|bE h fun x3 y3 h => pD 11 (cZ 11 (window_Span_ok a0.Level a0.Window y3) ent130)<|pP 6 mv<|pP 12 ex<|pP 13 ex<|pP 14 ex<|pP 3 asg<|pP 4 asg<|pP 5 asg<|en k2<|sr fun _ k4 => pP 15 mv<|pP 16 mv<|li 16 h (fun c5 h => ?_) fun c5 h => ?_
 ·refine pP 17 (fa ty57 ty9)<|pX 18 (ld ty9)<|bE h fun x6 y6 h => pD 19 (cz 19 (.bool x6) (span_Name_ok a0.Service y6) ent131)<|pP 20 pc<|pP 21 mv<|li 21 h (fun c7 h => ?_) fun c7 h => ?_
  ·refine pP 22 (fa ty57 ty9)<|pX 23 (ld ty9)<|bE h fun x8 y8 h => pD 24 (cz 24 (.bool x8) (span_Name_ok a0.Op y8) ent131)<|pP 25 pc<|pP 26 mv<|li 26 h (fun c9 h => ?_) fun c9 h => ?_
   ·refine pP 27 (fa ty57 ty55)<|pP 28 (fa ty55 ty3)<|pX 29 (ld ty3)<|pP 30 (fa ty57 ty55)<|pP 31 (fa ty55 ty3)<|pX 32 (ld ty3)<|pD 33 ((bs (List.map enc2 [a0.Counter.Count, a0.Counter.Errs]) ty117 ty3 rfl).fx (y := ⟨_, .own 33 0, [((33, 0), some (.arr 3 1 false (List.map enc2 [a0.Counter.Count, a0.Counter.Errs])))], [33]⟩) rfl)<|bE h fun x10 y10 h => pD 34 ((do_callG (bcs := []) [] [] [(33, 0)] 34 false (block_Epoch_ok [a0.Counter.Count, a0.Counter.Errs] y10) rfl ent49 trivial trivial rfl rfl rfl rfl rfl rfl rfl rfl (.inr ⟨rfl, rfl, trivial⟩)).fx (y := ⟨[(33, 0)], .bool x10, [], [34]⟩) rfl)<|pP 35 pc<|pP 36 mv<|li 36 h (fun c11 h => ?_) fun c11 h => ?_
    ·refine pP 37 (fa ty57 ty55)<|pP 38 (fa ty55 ty53)<|pD 39 (do_sliceB (off := 6) (v := List.map enc2 [a0.Counter.By.c0, a0.Counter.By.c1, a0.Counter.By.c2, a0.Counter.By.c3, a0.Counter.By.c4, a0.Counter.By.c5, a0.Counter.By.c6, a0.Counter.By.c7]) W_ R_ ty53 ty3 rfl rfl rfl)<|bE h fun x12 y12 h => pD 40 (cz 40 (.bool x12) (block_Epoch_ok [a0.Counter.By.c0, a0.Counter.By.c1, a0.Counter.By.c2, a0.Counter.By.c3, a0.Counter.By.c4, a0.Counter.By.c5, a0.Counter.By.c6, a0.Counter.By.c7] y12) ent49)<|pP 41 pc<|pP 2 asg<|en k4<|aw_ret<|by cases h;exact rk
    ·refine pS 37<|pS 38<|pS 39<|pS 40<|pP 41 pc<|pP 2 asg<|en k4<|aw_ret<|by cases h;exact rk
   ·refine pS 27<|pS 28<|pS 29<|pS 30<|pS 31<|pS 32<|pS 33<|pS 34<|pP 35 pc<|pP 36 mv<|pS 37<|pS 38<|pS 39<|pS 40<|pP 41 pc<|pP 2 asg<|en k4<|aw_ret<|by cases h;exact rk
  ·refine pS 22<|pS 23<|pS 24<|pP 25 pc<|pP 26 mv<|pS 27<|pS 28<|pS 29<|pS 30<|pS 31<|pS 32<|pS 33<|pS 34<|pP 35 pc<|pP 36 mv<|pS 37<|pS 38<|pS 39<|pS 40<|pP 41 pc<|pP 2 asg<|en k4<|aw_ret<|by cases h;exact rk
 ·refine pS 17<|pS 18<|pS 19<|pP 20 pc<|pP 21 mv<|pS 22<|pS 23<|pS 24<|pP 25 pc<|pP 26 mv<|pS 27<|pS 28<|pS 29<|pS 30<|pS 31<|pS 32<|pS 33<|pS 34<|pP 35 pc<|pP 36 mv<|pS 37<|pS 38<|pS 39<|pS 40<|pP 41 pc<|pP 2 asg<|en k4<|aw_ret<|by cases h;exact rk
def state_edge (a0 : Edge) : Option Bool :=
 Option.bind (span_Name a0.From) (fun (x3 : Bool) => if x3 = true then (Option.bind (span_Name a0.To) (fun (x5 : Bool) => if x5 = true then (Option.bind (block_Epoch [a0.Count, a0.Errs]) (fun (x7 : Bool) => some x7)) else (some false))) else (some false))
theorem state_edge_ok (a0 : Edge) {r : Bool} (h : state_edge a0 = some r) : Ok Tryz.prog 56 [.agg [.str a0.From, .str a0.To, .int .i64 a0.Count, .int .i64 a0.Errs]] [] [] (.bool r) [] [] := by
 refine oK Tryz.func56 rfl fun X => sr fun _ k1 => pD 1 (do_box W_ rfl rfl)<|pP 2 asg<|en k1<|sr fun _ k2 => pP 3 (fa ty59 ty9)<|pX 4 (ld ty9)<|bE h fun x3 y3 h => pD 5 (cZ 5 (span_Name_ok a0.From y3) ent131)<|pP 6 mv<|li 6 h (fun c4 h => ?_) fun c4 h => ?_
 ·refine pP 7 (fa ty59 ty9)<|pX 8 (ld ty9)<|bE h fun x5 y5 h => pD 9 (cZ 9 (span_Name_ok a0.To y5) ent131)<|pP 10 pc<|pP 11 mv<|li 11 h (fun c6 h => ?_) fun c6 h => ?_
  ·refine pP 12 (fa ty59 ty3)<|pX 13 (ld ty3)<|pP 14 (fa ty59 ty3)<|pX 15 (ld ty3)<|pD 16 (bs (List.map enc2 [a0.Count, a0.Errs]) ty117 ty3 rfl)<|bE h fun x7 y7 h => pD 17 (do_callG (bcs := []) [] [] [(16, 0)] 17 false (block_Epoch_ok [a0.Count, a0.Errs] y7) rfl ent49 trivial trivial rfl rfl rfl rfl rfl rfl rfl rfl (.inr ⟨rfl, rfl, trivial⟩))<|pP 18 pc<|pP 2 asg<|en k2<|aw_ret<|by cases h;exact rk
  ·refine pS 12<|pS 13<|pS 14<|pS 15<|pS 16<|pS 17<|pP 18 pc<|pP 2 asg<|en k2<|aw_ret<|by cases h;exact rk
 ·refine pS 7<|pS 8<|pS 9<|pP 10 pc<|pP 11 mv<|pS 12<|pS 13<|pS 14<|pS 15<|pS 16<|pS 17<|pP 18 pc<|pP 2 asg<|en k2<|aw_ret<|by cases h;exact rk
def state_slot (a0 : Exemplar) : Option Bool :=
 Option.bind (span_Name a0.Service) (fun (x3 : Bool) => if x3 = true then (Option.bind (span_Name a0.Op) (fun (x5 : Bool) => if x5 = true then (Option.bind (block_Epoch [a0.Block]) (fun (x7 : Bool) => some x7)) else (some false))) else (some false))
theorem state_slot_ok (a0 : Exemplar) {r : Bool} (h : state_slot a0 = some r) : Ok Tryz.prog 58 [.agg [.str a0.Service, .str a0.Op, .int .u64 a0.Trace.Hi, .int .u64 a0.Trace.Lo, .int .u64 a0.Id, .int .i64 a0.Block]] [] [] (.bool r) [] [] := by
 refine oK Tryz.func58 rfl fun X => sr fun _ k1 => pD 1 (do_box W_ rfl rfl)<|pP 2 asg<|en k1<|sr fun _ k2 => pP 3 (fa ty64 ty9)<|pX 4 (ld ty9)<|bE h fun x3 y3 h => pD 5 (cZ 5 (span_Name_ok a0.Service y3) ent131)<|pP 6 mv<|li 6 h (fun c4 h => ?_) fun c4 h => ?_
 ·refine pP 7 (fa ty64 ty9)<|pX 8 (ld ty9)<|bE h fun x5 y5 h => pD 9 (cZ 9 (span_Name_ok a0.Op y5) ent131)<|pP 10 pc<|pP 11 mv<|li 11 h (fun c6 h => ?_) fun c6 h => ?_
  ·refine pP 12 (fa ty64 ty3)<|pX 13 (ld ty3)<|pD 14 (bs (List.map enc2 [a0.Block]) ty117 ty3 rfl)<|bE h fun x7 y7 h => pD 15 (do_callG (bcs := []) [] [] [(14, 0)] 15 false (block_Epoch_ok [a0.Block] y7) rfl ent49 trivial trivial rfl rfl rfl rfl rfl rfl rfl rfl (.inr ⟨rfl, rfl, trivial⟩))<|pP 16 pc<|pP 2 asg<|en k2<|aw_ret<|by cases h;exact rk
  ·refine pS 12<|pS 13<|pS 14<|pS 15<|pP 16 pc<|pP 2 asg<|en k2<|aw_ret<|by cases h;exact rk
 ·refine pS 7<|pS 8<|pS 9<|pP 10 pc<|pP 11 mv<|pS 12<|pS 13<|pS 14<|pS 15<|pP 16 pc<|pP 2 asg<|en k2<|aw_ret<|by cases h;exact rk
def state_all_api_Episode__c1_block_Episode (a0 : Episode) : Option Bool :=
 Option.bind (block_Episode a0) (fun (x3 : Bool) => some (!x3))
theorem state_all_api_Episode__c1_block_Episode_ok (a0 : Episode) {r : Bool} (h : state_all_api_Episode__c1_block_Episode a0 = some r) : Ok Tryz.prog 126 [.agg [.int .u64 a0.Trace.Hi, .int .u64 a0.Trace.Lo, .int .i64 a0.First, .int .i64 a0.Last, .bool a0.Sure, .sl 10 (List.map enc130 a0.Spans)], .rptr [.fn 52 []]] [] [] (.bool r) [] [] := by
 refine oK Tryz.func126 rfl fun X => sr fun _ k1 => pD 2 (do_box W_ rfl rfl)<|pP 3 asg<|en k1<|sr fun _ k2 => pX 4 (ld ty66)<|pl 5 (.agg [.int .u64 a0.Trace.Hi, .int .u64 a0.Trace.Lo, .int .i64 a0.First, .int .i64 a0.Last, .bool a0.Sure, .sl 10 (List.map enc130 a0.Spans)]) ty69<|bE h fun x3 y3 h => pD 6 (cZ 6 (block_Episode_ok a0 y3) ent52)<|pP 7 un<|pP 3 asg<|en k2<|aw_ret<|by cases h;exact rk
def slices_IndexFunc_Episode_state_all_api_Episode__c1_block_Episode_l0 (a0 : List Episode) (v8_0 : Int) : Option (Int ⊕ Int) :=
 if (decide (v8_0 < (List.length a0 : Int))) = true then (gd (0 ≤ v8_0) (Option.bind (a0[(Int.toNat v8_0)]?) (fun (x13 : Episode) => Option.bind (state_all_api_Episode__c1_block_Episode x13) (fun (x14 : Bool) => if x14 = true then (some (Sum.inr v8_0)) else (some (Sum.inl (IntKind.i64.wrap (v8_0 + 1)))))))) else (some (Sum.inr (-1)))
def slices_IndexFunc_Episode_state_all_api_Episode__c1_block_Episode (a0 : List Episode) : Option Int :=
 loopN (fun (s : Int) => slices_IndexFunc_Episode_state_all_api_Episode__c1_block_Episode_l0 a0 s) Fu 0
theorem slices_IndexFunc_Episode_state_all_api_Episode__c1_block_Episode_ok (a0 : List Episode) {r : Int} (h : slices_IndexFunc_Episode_state_all_api_Episode__c1_block_Episode a0 = some r) : Ok Tryz.prog 156 [.sl 6 (List.map enc68 a0), .fn 126 [.rptr [.fn 52 []]]] [] [] (.int .i64 r) [] [] := by
 unfold slices_IndexFunc_Episode_state_all_api_Episode__c1_block_Episode at h
 refine oK Tryz.func156 rfl fun X => sr fun _ k1 => pP 4 asg<|en k1<|aw_seq_k fun _ k2 => sr fun _ k3 => pP 6 mv<|pP 7 (zl ty25)<|pP 8 mv<|en k3<|aw_block<|aw_loop' (fun m s => ∃ (v8_0 : Int), loopN (fun (s : Int) => slices_IndexFunc_Episode_state_all_api_Episode__c1_block_Episode_l0 a0 s) m v8_0 = some r ∧ s = lit [(0, .sl 6 (List.map enc68 a0)), (1, .fn 126 [.rptr [.fn 52 []]]), (7, .int .i64 (List.length a0 : Int)), (8, .int .i64 v8_0)] [] [] X) Fu
  ⟨_, ra [], 0, h, rfl⟩ ?_
 rintro m s ⟨v8_0, h, rfl⟩
 obtain ⟨m0, q4, rfl, h, hq5⟩ := loop_some h
 replace h : slices_IndexFunc_Episode_state_all_api_Episode__c1_block_Episode_l0 a0 v8_0 = some q4 := h
 refine sr fun _ k6 => pP 9 bi<|en k6<|aw_seq_k fun _ k7 => wi 9 h (fun c8 h => ?_) fun c8 h => ?_
 ·refine aw_skip<|k7 _<|aw_seq_k fun _ k9 => aw_block<|sr fun _ k10 => pP 10 mv<|pP 5 asg<|en k10<|sr fun _ k11 => pP 11 mv<|pP 12 mv<|pP 13 mv<|gE h fun g12 h => bE h fun x13 y13 h => pP 14 (ia ty25 ty69 g12 y13)<|pl 15 (.agg [.int .u64 x13.Trace.Hi, .int .u64 x13.Trace.Lo, .int .i64 x13.First, .int .i64 x13.Last, .bool x13.Sure, .sl 10 (List.map enc130 x13.Spans)]) ty69<|bE h fun x14 y14 h => pD 16 (cZ 16 (state_all_api_Episode__c1_block_Episode_ok x13 y14) ent126)<|en k11<|wi 16 h (fun c15 h => ?_) fun c15 h => ?_
  ·refine sr fun _ k16 => pP 17 mv<|pP 4 asg<|en k16<|aw_ret<|by cases leafR h hq5;exact rk
  ·refine aw_skip<|k9 _<|aw_regL<|pP 18 bi<|pP 8 mv<|al_nil<|bk (ra []) ⟨(IntKind.i64.wrap (v8_0 + 1)), leafL h hq5, rfl⟩
 ·refine aw_exit<|tk (leafR h hq5) fun h => k2 _<|sr fun _ k17 => pP 4 asg<|en k17<|aw_ret<|by cases h;exact rk
def slices_ContainsFunc_Episode_state_all_api_Episode__c1_block_Episode (a0 : List Episode) : Option Bool :=
 Option.bind (slices_IndexFunc_Episode_state_all_api_Episode__c1_block_Episode a0) (fun (x3 : Int) => some (decide ((0 : Int) ≤ x3)))
theorem slices_ContainsFunc_Episode_state_all_api_Episode__c1_block_Episode_ok (a0 : List Episode) {r : Bool} (h : slices_ContainsFunc_Episode_state_all_api_Episode__c1_block_Episode a0 = some r) : Ok Tryz.prog 125 [.sl 6 (List.map enc68 a0), .fn 126 [.rptr [.fn 52 []]]] [] [] (.bool r) [] [] := by
 refine oK Tryz.func125 rfl fun X => sr fun _ k1 => pP 4 asg<|en k1<|sr fun _ k2 => pP 5 mv<|pP 6 mv<|bE h fun x3 y3 h => pD 7 (cZ 7 (slices_IndexFunc_Episode_state_all_api_Episode__c1_block_Episode_ok a0 y3) ent156)<|pP 8 bi<|pP 4 asg<|en k2<|aw_ret<|by cases h;exact rk
def state_all_Episode_block_Episode (a0 : List Episode) : Option Bool :=
 Option.bind (slices_ContainsFunc_Episode_state_all_api_Episode__c1_block_Episode a0) (fun (x3 : Bool) => some (!x3))
theorem state_all_Episode_block_Episode_ok (a0 : List Episode) {r : Bool} (h : state_all_Episode_block_Episode a0 = some r) : Ok Tryz.prog 51 [.sl 6 (List.map enc68 a0), .fn 52 []] [] [] (.bool r) [] [] := by
 refine oK Tryz.func51 rfl fun X => sr fun _ k1 => pD 3 (do_box W_ rfl rfl)<|pP 4 asg<|en k1<|sr fun _ k2 => pP 5 mv<|pP 6 (does_makeFunc (vs := [.ptr 3 0 0]) rfl)<|bE h fun x3 y3 h => pD 7 (do_callG (bcs := []) [] [] [(3, 0)] 7 false (slices_ContainsFunc_Episode_state_all_api_Episode__c1_block_Episode_ok a0 y3) rfl ent125 trivial trivial rfl rfl rfl rfl rfl rfl rfl rfl (.inr ⟨rfl, rfl, trivial⟩))<|pP 8 un<|pP 4 asg<|en k2<|aw_ret<|by cases h;exact rk
def state_all_api_Row__c1_state_row (a0 : RowG) : Option Bool :=
 Option.bind (state_row a0) (fun (x3 : Bool) => some (!x3))
theorem state_all_api_Row__c1_state_row_ok (a0 : RowG) {r : Bool} (h : state_all_api_Row__c1_state_row a0 = some r) : Ok Tryz.prog 129 [.agg [.int .i64 a0.Level, .int .i64 a0.Window, .str a0.Service, .str a0.Op, .int .i64 a0.Counter.Count, .int .i64 a0.Counter.Errs, .int .i64 a0.Counter.By.c0, .int .i64 a0.Counter.By.c1, .int .i64 a0.Counter.By.c2, .int .i64 a0.Counter.By.c3, .int .i64 a0.Counter.By.c4, .int .i64 a0.Counter.By.c5, .int .i64 a0.Counter.By.c6, .int .i64 a0.Counter.By.c7], .rptr [.fn 54 []]] [] [] (.bool r) [] [] := by
 refine oK Tryz.func129 rfl fun X => sr fun _ k1 => pD 2 (do_box W_ rfl rfl)<|pP 3 asg<|en k1<|sr fun _ k2 => pX 4 (ld ty109)<|pl 5 (.agg [.int .i64 a0.Level, .int .i64 a0.Window, .str a0.Service, .str a0.Op, .int .i64 a0.Counter.Count, .int .i64 a0.Counter.Errs, .int .i64 a0.Counter.By.c0, .int .i64 a0.Counter.By.c1, .int .i64 a0.Counter.By.c2, .int .i64 a0.Counter.By.c3, .int .i64 a0.Counter.By.c4, .int .i64 a0.Counter.By.c5, .int .i64 a0.Counter.By.c6, .int .i64 a0.Counter.By.c7]) ty57<|bE h fun x3 y3 h => pD 6 (cZ 6 (state_row_ok a0 y3) ent54)<|pP 7 un<|pP 3 asg<|en k2<|aw_ret<|by cases h;exact rk
def slices_IndexFunc_Row_state_all_api_Row__c1_state_row_l0 (a0 : List RowG) (v8_0 : Int) : Option (Int ⊕ Int) :=
 if (decide (v8_0 < (List.length a0 : Int))) = true then (gd (0 ≤ v8_0) (Option.bind (a0[(Int.toNat v8_0)]?) (fun (x13 : RowG) => Option.bind (state_all_api_Row__c1_state_row x13) (fun (x14 : Bool) => if x14 = true then (some (Sum.inr v8_0)) else (some (Sum.inl (IntKind.i64.wrap (v8_0 + 1)))))))) else (some (Sum.inr (-1)))
def slices_IndexFunc_Row_state_all_api_Row__c1_state_row (a0 : List RowG) : Option Int :=
 loopN (fun (s : Int) => slices_IndexFunc_Row_state_all_api_Row__c1_state_row_l0 a0 s) Fu 0
theorem slices_IndexFunc_Row_state_all_api_Row__c1_state_row_ok (a0 : List RowG) {r : Int} (h : slices_IndexFunc_Row_state_all_api_Row__c1_state_row a0 = some r) : Ok Tryz.prog 160 [.sl 14 (List.map enc56 a0), .fn 129 [.rptr [.fn 54 []]]] [] [] (.int .i64 r) [] [] := by
 unfold slices_IndexFunc_Row_state_all_api_Row__c1_state_row at h
 refine oK Tryz.func160 rfl fun X => sr fun _ k1 => pP 4 asg<|en k1<|aw_seq_k fun _ k2 => sr fun _ k3 => pP 6 mv<|pP 7 (zl ty27)<|pP 8 mv<|en k3<|aw_block<|aw_loop' (fun m s => ∃ (v8_0 : Int), loopN (fun (s : Int) => slices_IndexFunc_Row_state_all_api_Row__c1_state_row_l0 a0 s) m v8_0 = some r ∧ s = lit [(0, .sl 14 (List.map enc56 a0)), (1, .fn 129 [.rptr [.fn 54 []]]), (7, .int .i64 (List.length a0 : Int)), (8, .int .i64 v8_0)] [] [] X) Fu
  ⟨_, ra [], 0, h, rfl⟩ ?_
 rintro m s ⟨v8_0, h, rfl⟩
 obtain ⟨m0, q4, rfl, h, hq5⟩ := loop_some h
 replace h : slices_IndexFunc_Row_state_all_api_Row__c1_state_row_l0 a0 v8_0 = some q4 := h
 refine sr fun _ k6 => pP 9 bi<|en k6<|aw_seq_k fun _ k7 => wi 9 h (fun c8 h => ?_) fun c8 h => ?_
 ·refine aw_skip<|k7 _<|aw_seq_k fun _ k9 => aw_block<|sr fun _ k10 => pP 10 mv<|pP 5 asg<|en k10<|sr fun _ k11 => pP 11 mv<|pP 12 mv<|pP 13 mv<|gE h fun g12 h => bE h fun x13 y13 h => pP 14 (ia ty27 ty57 g12 y13)<|pl 15 (.agg [.int .i64 x13.Level, .int .i64 x13.Window, .str x13.Service, .str x13.Op, .int .i64 x13.Counter.Count, .int .i64 x13.Counter.Errs, .int .i64 x13.Counter.By.c0, .int .i64 x13.Counter.By.c1, .int .i64 x13.Counter.By.c2, .int .i64 x13.Counter.By.c3, .int .i64 x13.Counter.By.c4, .int .i64 x13.Counter.By.c5, .int .i64 x13.Counter.By.c6, .int .i64 x13.Counter.By.c7]) ty57<|bE h fun x14 y14 h => pD 16 (cZ 16 (state_all_api_Row__c1_state_row_ok x13 y14) ent129)<|en k11<|wi 16 h (fun c15 h => ?_) fun c15 h => ?_
  ·refine sr fun _ k16 => pP 17 mv<|pP 4 asg<|en k16<|aw_ret<|by cases leafR h hq5;exact rk
  ·refine aw_skip<|k9 _<|aw_regL<|pP 18 bi<|pP 8 mv<|al_nil<|bk (ra []) ⟨(IntKind.i64.wrap (v8_0 + 1)), leafL h hq5, rfl⟩
 ·refine aw_exit<|tk (leafR h hq5) fun h => k2 _<|sr fun _ k17 => pP 4 asg<|en k17<|aw_ret<|by cases h;exact rk
def slices_ContainsFunc_Row_state_all_api_Row__c1_state_row (a0 : List RowG) : Option Bool :=
 Option.bind (slices_IndexFunc_Row_state_all_api_Row__c1_state_row a0) (fun (x3 : Int) => some (decide ((0 : Int) ≤ x3)))
theorem slices_ContainsFunc_Row_state_all_api_Row__c1_state_row_ok (a0 : List RowG) {r : Bool} (h : slices_ContainsFunc_Row_state_all_api_Row__c1_state_row a0 = some r) : Ok Tryz.prog 128 [.sl 14 (List.map enc56 a0), .fn 129 [.rptr [.fn 54 []]]] [] [] (.bool r) [] [] := by
 refine oK Tryz.func128 rfl fun X => sr fun _ k1 => pP 4 asg<|en k1<|sr fun _ k2 => pP 5 mv<|pP 6 mv<|bE h fun x3 y3 h => pD 7 (cZ 7 (slices_IndexFunc_Row_state_all_api_Row__c1_state_row_ok a0 y3) ent160)<|pP 8 bi<|pP 4 asg<|en k2<|aw_ret<|by cases h;exact rk
def state_all_Row_state_row (a0 : List RowG) : Option Bool :=
 Option.bind (slices_ContainsFunc_Row_state_all_api_Row__c1_state_row a0) (fun (x3 : Bool) => some (!x3))
theorem state_all_Row_state_row_ok (a0 : List RowG) {r : Bool} (h : state_all_Row_state_row a0 = some r) : Ok Tryz.prog 53 [.sl 14 (List.map enc56 a0), .fn 54 []] [] [] (.bool r) [] [] := by
 refine oK Tryz.func53 rfl fun X => sr fun _ k1 => pD 3 (do_box W_ rfl rfl)<|pP 4 asg<|en k1<|sr fun _ k2 => pP 5 mv<|pP 6 (does_makeFunc (vs := [.ptr 3 0 0]) rfl)<|bE h fun x3 y3 h => pD 7 (do_callG (bcs := []) [] [] [(3, 0)] 7 false (slices_ContainsFunc_Row_state_all_api_Row__c1_state_row_ok a0 y3) rfl ent128 trivial trivial rfl rfl rfl rfl rfl rfl rfl rfl (.inr ⟨rfl, rfl, trivial⟩))<|pP 8 un<|pP 4 asg<|en k2<|aw_ret<|by cases h;exact rk
def state_all_api_Edge__c1_state_edge (a0 : Edge) : Option Bool :=
 Option.bind (state_edge a0) (fun (x3 : Bool) => some (!x3))
theorem state_all_api_Edge__c1_state_edge_ok (a0 : Edge) {r : Bool} (h : state_all_api_Edge__c1_state_edge a0 = some r) : Ok Tryz.prog 133 [.agg [.str a0.From, .str a0.To, .int .i64 a0.Count, .int .i64 a0.Errs], .rptr [.fn 56 []]] [] [] (.bool r) [] [] := by
 refine oK Tryz.func133 rfl fun X => sr fun _ k1 => pD 2 (do_box W_ rfl rfl)<|pP 3 asg<|en k1<|sr fun _ k2 => pX 4 (ld ty111)<|pl 5 (.agg [.str a0.From, .str a0.To, .int .i64 a0.Count, .int .i64 a0.Errs]) ty59<|bE h fun x3 y3 h => pD 6 (cZ 6 (state_edge_ok a0 y3) ent56)<|pP 7 un<|pP 3 asg<|en k2<|aw_ret<|by cases h;exact rk
def slices_IndexFunc_Edge_state_all_api_Edge__c1_state_edge_l0 (a0 : List Edge) (v8_0 : Int) : Option (Int ⊕ Int) :=
 if (decide (v8_0 < (List.length a0 : Int))) = true then (gd (0 ≤ v8_0) (Option.bind (a0[(Int.toNat v8_0)]?) (fun (x13 : Edge) => Option.bind (state_all_api_Edge__c1_state_edge x13) (fun (x14 : Bool) => if x14 = true then (some (Sum.inr v8_0)) else (some (Sum.inl (IntKind.i64.wrap (v8_0 + 1)))))))) else (some (Sum.inr (-1)))
def slices_IndexFunc_Edge_state_all_api_Edge__c1_state_edge (a0 : List Edge) : Option Int :=
 loopN (fun (s : Int) => slices_IndexFunc_Edge_state_all_api_Edge__c1_state_edge_l0 a0 s) Fu 0
theorem slices_IndexFunc_Edge_state_all_api_Edge__c1_state_edge_ok (a0 : List Edge) {r : Int} (h : slices_IndexFunc_Edge_state_all_api_Edge__c1_state_edge a0 = some r) : Ok Tryz.prog 162 [.sl 4 (List.map enc58 a0), .fn 133 [.rptr [.fn 56 []]]] [] [] (.int .i64 r) [] [] := by
 unfold slices_IndexFunc_Edge_state_all_api_Edge__c1_state_edge at h
 refine oK Tryz.func162 rfl fun X => sr fun _ k1 => pP 4 asg<|en k1<|aw_seq_k fun _ k2 => sr fun _ k3 => pP 6 mv<|pP 7 (zl ty28)<|pP 8 mv<|en k3<|aw_block<|aw_loop' (fun m s => ∃ (v8_0 : Int), loopN (fun (s : Int) => slices_IndexFunc_Edge_state_all_api_Edge__c1_state_edge_l0 a0 s) m v8_0 = some r ∧ s = lit [(0, .sl 4 (List.map enc58 a0)), (1, .fn 133 [.rptr [.fn 56 []]]), (7, .int .i64 (List.length a0 : Int)), (8, .int .i64 v8_0)] [] [] X) Fu
  ⟨_, ra [], 0, h, rfl⟩ ?_
 rintro m s ⟨v8_0, h, rfl⟩
 obtain ⟨m0, q4, rfl, h, hq5⟩ := loop_some h
 replace h : slices_IndexFunc_Edge_state_all_api_Edge__c1_state_edge_l0 a0 v8_0 = some q4 := h
 refine sr fun _ k6 => pP 9 bi<|en k6<|aw_seq_k fun _ k7 => wi 9 h (fun c8 h => ?_) fun c8 h => ?_
 ·refine aw_skip<|k7 _<|aw_seq_k fun _ k9 => aw_block<|sr fun _ k10 => pP 10 mv<|pP 5 asg<|en k10<|sr fun _ k11 => pP 11 mv<|pP 12 mv<|pP 13 mv<|gE h fun g12 h => bE h fun x13 y13 h => pP 14 (ia ty28 ty59 g12 y13)<|pl 15 (.agg [.str x13.From, .str x13.To, .int .i64 x13.Count, .int .i64 x13.Errs]) ty59<|bE h fun x14 y14 h => pD 16 (cZ 16 (state_all_api_Edge__c1_state_edge_ok x13 y14) ent133)<|en k11<|wi 16 h (fun c15 h => ?_) fun c15 h => ?_
  ·refine sr fun _ k16 => pP 17 mv<|pP 4 asg<|en k16<|aw_ret<|by cases leafR h hq5;exact rk
  ·refine aw_skip<|k9 _<|aw_regL<|pP 18 bi<|pP 8 mv<|al_nil<|bk (ra []) ⟨(IntKind.i64.wrap (v8_0 + 1)), leafL h hq5, rfl⟩
 ·refine aw_exit<|tk (leafR h hq5) fun h => k2 _<|sr fun _ k17 => pP 4 asg<|en k17<|aw_ret<|by cases h;exact rk
def slices_ContainsFunc_Edge_state_all_api_Edge__c1_state_edge (a0 : List Edge) : Option Bool :=
 Option.bind (slices_IndexFunc_Edge_state_all_api_Edge__c1_state_edge a0) (fun (x3 : Int) => some (decide ((0 : Int) ≤ x3)))
theorem slices_ContainsFunc_Edge_state_all_api_Edge__c1_state_edge_ok (a0 : List Edge) {r : Bool} (h : slices_ContainsFunc_Edge_state_all_api_Edge__c1_state_edge a0 = some r) : Ok Tryz.prog 132 [.sl 4 (List.map enc58 a0), .fn 133 [.rptr [.fn 56 []]]] [] [] (.bool r) [] [] := by
 refine oK Tryz.func132 rfl fun X => sr fun _ k1 => pP 4 asg<|en k1<|sr fun _ k2 => pP 5 mv<|pP 6 mv<|bE h fun x3 y3 h => pD 7 (cZ 7 (slices_IndexFunc_Edge_state_all_api_Edge__c1_state_edge_ok a0 y3) ent162)<|pP 8 bi<|pP 4 asg<|en k2<|aw_ret<|by cases h;exact rk
def state_all_Edge_state_edge (a0 : List Edge) : Option Bool :=
 Option.bind (slices_ContainsFunc_Edge_state_all_api_Edge__c1_state_edge a0) (fun (x3 : Bool) => some (!x3))
theorem state_all_Edge_state_edge_ok (a0 : List Edge) {r : Bool} (h : state_all_Edge_state_edge a0 = some r) : Ok Tryz.prog 55 [.sl 4 (List.map enc58 a0), .fn 56 []] [] [] (.bool r) [] [] := by
 refine oK Tryz.func55 rfl fun X => sr fun _ k1 => pD 3 (do_box W_ rfl rfl)<|pP 4 asg<|en k1<|sr fun _ k2 => pP 5 mv<|pP 6 (does_makeFunc (vs := [.ptr 3 0 0]) rfl)<|bE h fun x3 y3 h => pD 7 (do_callG (bcs := []) [] [] [(3, 0)] 7 false (slices_ContainsFunc_Edge_state_all_api_Edge__c1_state_edge_ok a0 y3) rfl ent132 trivial trivial rfl rfl rfl rfl rfl rfl rfl rfl (.inr ⟨rfl, rfl, trivial⟩))<|pP 8 un<|pP 4 asg<|en k2<|aw_ret<|by cases h;exact rk
def state_all_api_Exemplar__c1_state_slot (a0 : Exemplar) : Option Bool :=
 Option.bind (state_slot a0) (fun (x3 : Bool) => some (!x3))
theorem state_all_api_Exemplar__c1_state_slot_ok (a0 : Exemplar) {r : Bool} (h : state_all_api_Exemplar__c1_state_slot a0 = some r) : Ok Tryz.prog 135 [.agg [.str a0.Service, .str a0.Op, .int .u64 a0.Trace.Hi, .int .u64 a0.Trace.Lo, .int .u64 a0.Id, .int .i64 a0.Block], .rptr [.fn 58 []]] [] [] (.bool r) [] [] := by
 refine oK Tryz.func135 rfl fun X => sr fun _ k1 => pD 2 (do_box W_ rfl rfl)<|pP 3 asg<|en k1<|sr fun _ k2 => pX 4 (ld ty113)<|pl 5 (.agg [.str a0.Service, .str a0.Op, .int .u64 a0.Trace.Hi, .int .u64 a0.Trace.Lo, .int .u64 a0.Id, .int .i64 a0.Block]) ty64<|bE h fun x3 y3 h => pD 6 (cZ 6 (state_slot_ok a0 y3) ent58)<|pP 7 un<|pP 3 asg<|en k2<|aw_ret<|by cases h;exact rk
def slices_IndexFunc_Exemplar_state_all_api_Exemplar__c1_state_slot_l0 (a0 : List Exemplar) (v8_0 : Int) : Option (Int ⊕ Int) :=
 if (decide (v8_0 < (List.length a0 : Int))) = true then (gd (0 ≤ v8_0) (Option.bind (a0[(Int.toNat v8_0)]?) (fun (x13 : Exemplar) => Option.bind (state_all_api_Exemplar__c1_state_slot x13) (fun (x14 : Bool) => if x14 = true then (some (Sum.inr v8_0)) else (some (Sum.inl (IntKind.i64.wrap (v8_0 + 1)))))))) else (some (Sum.inr (-1)))
def slices_IndexFunc_Exemplar_state_all_api_Exemplar__c1_state_slot (a0 : List Exemplar) : Option Int :=
 loopN (fun (s : Int) => slices_IndexFunc_Exemplar_state_all_api_Exemplar__c1_state_slot_l0 a0 s) Fu 0
theorem slices_IndexFunc_Exemplar_state_all_api_Exemplar__c1_state_slot_ok (a0 : List Exemplar) {r : Int} (h : slices_IndexFunc_Exemplar_state_all_api_Exemplar__c1_state_slot a0 = some r) : Ok Tryz.prog 163 [.sl 6 (List.map enc63 a0), .fn 135 [.rptr [.fn 58 []]]] [] [] (.int .i64 r) [] [] := by
 unfold slices_IndexFunc_Exemplar_state_all_api_Exemplar__c1_state_slot at h
 refine oK Tryz.func163 rfl fun X => sr fun _ k1 => pP 4 asg<|en k1<|aw_seq_k fun _ k2 => sr fun _ k3 => pP 6 mv<|pP 7 (zl ty29)<|pP 8 mv<|en k3<|aw_block<|aw_loop' (fun m s => ∃ (v8_0 : Int), loopN (fun (s : Int) => slices_IndexFunc_Exemplar_state_all_api_Exemplar__c1_state_slot_l0 a0 s) m v8_0 = some r ∧ s = lit [(0, .sl 6 (List.map enc63 a0)), (1, .fn 135 [.rptr [.fn 58 []]]), (7, .int .i64 (List.length a0 : Int)), (8, .int .i64 v8_0)] [] [] X) Fu
  ⟨_, ra [], 0, h, rfl⟩ ?_
 rintro m s ⟨v8_0, h, rfl⟩
 obtain ⟨m0, q4, rfl, h, hq5⟩ := loop_some h
 replace h : slices_IndexFunc_Exemplar_state_all_api_Exemplar__c1_state_slot_l0 a0 v8_0 = some q4 := h
 refine sr fun _ k6 => pP 9 bi<|en k6<|aw_seq_k fun _ k7 => wi 9 h (fun c8 h => ?_) fun c8 h => ?_
 ·refine aw_skip<|k7 _<|aw_seq_k fun _ k9 => aw_block<|sr fun _ k10 => pP 10 mv<|pP 5 asg<|en k10<|sr fun _ k11 => pP 11 mv<|pP 12 mv<|pP 13 mv<|gE h fun g12 h => bE h fun x13 y13 h => pP 14 (ia ty29 ty64 g12 y13)<|pl 15 (.agg [.str x13.Service, .str x13.Op, .int .u64 x13.Trace.Hi, .int .u64 x13.Trace.Lo, .int .u64 x13.Id, .int .i64 x13.Block]) ty64<|bE h fun x14 y14 h => pD 16 (cZ 16 (state_all_api_Exemplar__c1_state_slot_ok x13 y14) ent135)<|en k11<|wi 16 h (fun c15 h => ?_) fun c15 h => ?_
  ·refine sr fun _ k16 => pP 17 mv<|pP 4 asg<|en k16<|aw_ret<|by cases leafR h hq5;exact rk
  ·refine aw_skip<|k9 _<|aw_regL<|pP 18 bi<|pP 8 mv<|al_nil<|bk (ra []) ⟨(IntKind.i64.wrap (v8_0 + 1)), leafL h hq5, rfl⟩
 ·refine aw_exit<|tk (leafR h hq5) fun h => k2 _<|sr fun _ k17 => pP 4 asg<|en k17<|aw_ret<|by cases h;exact rk
def slices_ContainsFunc_Exemplar_state_all_api_Exemplar__c1_state_slot (a0 : List Exemplar) : Option Bool :=
 Option.bind (slices_IndexFunc_Exemplar_state_all_api_Exemplar__c1_state_slot a0) (fun (x3 : Int) => some (decide ((0 : Int) ≤ x3)))
theorem slices_ContainsFunc_Exemplar_state_all_api_Exemplar__c1_state_slot_ok (a0 : List Exemplar) {r : Bool} (h : slices_ContainsFunc_Exemplar_state_all_api_Exemplar__c1_state_slot a0 = some r) : Ok Tryz.prog 134 [.sl 6 (List.map enc63 a0), .fn 135 [.rptr [.fn 58 []]]] [] [] (.bool r) [] [] := by
 refine oK Tryz.func134 rfl fun X => sr fun _ k1 => pP 4 asg<|en k1<|sr fun _ k2 => pP 5 mv<|pP 6 mv<|bE h fun x3 y3 h => pD 7 (cZ 7 (slices_IndexFunc_Exemplar_state_all_api_Exemplar__c1_state_slot_ok a0 y3) ent163)<|pP 8 bi<|pP 4 asg<|en k2<|aw_ret<|by cases h;exact rk
def state_all_Exemplar_state_slot (a0 : List Exemplar) : Option Bool :=
 Option.bind (slices_ContainsFunc_Exemplar_state_all_api_Exemplar__c1_state_slot a0) (fun (x3 : Bool) => some (!x3))
theorem state_all_Exemplar_state_slot_ok (a0 : List Exemplar) {r : Bool} (h : state_all_Exemplar_state_slot a0 = some r) : Ok Tryz.prog 57 [.sl 6 (List.map enc63 a0), .fn 58 []] [] [] (.bool r) [] [] := by
 refine oK Tryz.func57 rfl fun X => sr fun _ k1 => pD 3 (do_box W_ rfl rfl)<|pP 4 asg<|en k1<|sr fun _ k2 => pP 5 mv<|pP 6 (does_makeFunc (vs := [.ptr 3 0 0]) rfl)<|bE h fun x3 y3 h => pD 7 (do_callG (bcs := []) [] [] [(3, 0)] 7 false (slices_ContainsFunc_Exemplar_state_all_api_Exemplar__c1_state_slot_ok a0 y3) rfl ent134 trivial trivial rfl rfl rfl rfl rfl rfl rfl rfl (.inr ⟨rfl, rfl, trivial⟩))<|pP 8 un<|pP 4 asg<|en k2<|aw_ret<|by cases h;exact rk
def state_Right_c1 (a0 : Block) : Option Bool :=
 Option.bind (block_Epoch [a0.Number, a0.Born, a0.Tier]) (fun (x3 : Bool) => some x3)
theorem state_Right_c1_ok (a0 : Block) {r : Bool} (h : state_Right_c1 a0 = some r) : Ok Tryz.prog 60 [.agg [.int .i64 a0.Number, .int .i64 a0.Born, .int .i64 a0.Tier, .sl 6 (List.map enc68 a0.Episodes)]] [] [] (.bool r) [] [] := by
 refine oK Tryz.func60 rfl fun X => sr fun _ k1 => pD 1 (do_box W_ rfl rfl)<|pP 2 asg<|en k1<|sr fun _ k2 => pP 3 (fa ty41 ty3)<|pX 4 (ld ty3)<|pP 5 (fa ty41 ty3)<|pX 6 (ld ty3)<|pP 7 (fa ty41 ty3)<|pX 8 (ld ty3)<|pD 9 (bs (List.map enc2 [a0.Number, a0.Born, a0.Tier]) ty117 ty3 rfl)<|bE h fun x3 y3 h => pD 10 (do_callG (bcs := []) [] [] [(9, 0)] 10 false (block_Epoch_ok [a0.Number, a0.Born, a0.Tier] y3) rfl ent49 trivial trivial rfl rfl rfl rfl rfl rfl rfl rfl (.inr ⟨rfl, rfl, trivial⟩))<|pP 2 asg<|en k2<|aw_ret<|by cases h;exact rk
def state_all_api_Block__c1_state_Right_c1 (a0 : Block) : Option Bool :=
 Option.bind (state_Right_c1 a0) (fun (x3 : Bool) => some (!x3))
theorem state_all_api_Block__c1_state_Right_c1_ok (a0 : Block) {r : Bool} (h : state_all_api_Block__c1_state_Right_c1 a0 = some r) : Ok Tryz.prog 137 [.agg [.int .i64 a0.Number, .int .i64 a0.Born, .int .i64 a0.Tier, .sl 6 (List.map enc68 a0.Episodes)], .rptr [.fn 60 []]] [] [] (.bool r) [] [] := by
 refine oK Tryz.func137 rfl fun X => sr fun _ k1 => pD 2 (do_box W_ rfl rfl)<|pP 3 asg<|en k1<|sr fun _ k2 => pX 4 (ld ty115)<|pl 5 (.agg [.int .i64 a0.Number, .int .i64 a0.Born, .int .i64 a0.Tier, .sl 6 (List.map enc68 a0.Episodes)]) ty41<|bE h fun x3 y3 h => pD 6 (cZ 6 (state_Right_c1_ok a0 y3) ent60)<|pP 7 un<|pP 3 asg<|en k2<|aw_ret<|by cases h;exact rk
def slices_IndexFunc_Block_state_all_api_Block__c1_state_Right_c1_l0 (a0 : List Block) (v8_0 : Int) : Option (Int ⊕ Int) :=
 if (decide (v8_0 < (List.length a0 : Int))) = true then (gd (0 ≤ v8_0) (Option.bind (a0[(Int.toNat v8_0)]?) (fun (x13 : Block) => Option.bind (state_all_api_Block__c1_state_Right_c1 x13) (fun (x14 : Bool) => if x14 = true then (some (Sum.inr v8_0)) else (some (Sum.inl (IntKind.i64.wrap (v8_0 + 1)))))))) else (some (Sum.inr (-1)))
def slices_IndexFunc_Block_state_all_api_Block__c1_state_Right_c1 (a0 : List Block) : Option Int :=
 loopN (fun (s : Int) => slices_IndexFunc_Block_state_all_api_Block__c1_state_Right_c1_l0 a0 s) Fu 0
theorem slices_IndexFunc_Block_state_all_api_Block__c1_state_Right_c1_ok (a0 : List Block) {r : Int} (h : slices_IndexFunc_Block_state_all_api_Block__c1_state_Right_c1 a0 = some r) : Ok Tryz.prog 164 [.sl 4 (List.map enc40 a0), .fn 137 [.rptr [.fn 60 []]]] [] [] (.int .i64 r) [] [] := by
 unfold slices_IndexFunc_Block_state_all_api_Block__c1_state_Right_c1 at h
 refine oK Tryz.func164 rfl fun X => sr fun _ k1 => pP 4 asg<|en k1<|aw_seq_k fun _ k2 => sr fun _ k3 => pP 6 mv<|pP 7 (zl ty30)<|pP 8 mv<|en k3<|aw_block<|aw_loop' (fun m s => ∃ (v8_0 : Int), loopN (fun (s : Int) => slices_IndexFunc_Block_state_all_api_Block__c1_state_Right_c1_l0 a0 s) m v8_0 = some r ∧ s = lit [(0, .sl 4 (List.map enc40 a0)), (1, .fn 137 [.rptr [.fn 60 []]]), (7, .int .i64 (List.length a0 : Int)), (8, .int .i64 v8_0)] [] [] X) Fu
  ⟨_, ra [], 0, h, rfl⟩ ?_
 rintro m s ⟨v8_0, h, rfl⟩
 obtain ⟨m0, q4, rfl, h, hq5⟩ := loop_some h
 replace h : slices_IndexFunc_Block_state_all_api_Block__c1_state_Right_c1_l0 a0 v8_0 = some q4 := h
 refine sr fun _ k6 => pP 9 bi<|en k6<|aw_seq_k fun _ k7 => wi 9 h (fun c8 h => ?_) fun c8 h => ?_
 ·refine aw_skip<|k7 _<|aw_seq_k fun _ k9 => aw_block<|sr fun _ k10 => pP 10 mv<|pP 5 asg<|en k10<|sr fun _ k11 => pP 11 mv<|pP 12 mv<|pP 13 mv<|gE h fun g12 h => bE h fun x13 y13 h => pP 14 (ia ty30 ty41 g12 y13)<|pl 15 (.agg [.int .i64 x13.Number, .int .i64 x13.Born, .int .i64 x13.Tier, .sl 6 (List.map enc68 x13.Episodes)]) ty41<|bE h fun x14 y14 h => pD 16 (cZ 16 (state_all_api_Block__c1_state_Right_c1_ok x13 y14) ent137)<|en k11<|wi 16 h (fun c15 h => ?_) fun c15 h => ?_
  ·refine sr fun _ k16 => pP 17 mv<|pP 4 asg<|en k16<|aw_ret<|by cases leafR h hq5;exact rk
  ·refine aw_skip<|k9 _<|aw_regL<|pP 18 bi<|pP 8 mv<|al_nil<|bk (ra []) ⟨(IntKind.i64.wrap (v8_0 + 1)), leafL h hq5, rfl⟩
 ·refine aw_exit<|tk (leafR h hq5) fun h => k2 _<|sr fun _ k17 => pP 4 asg<|en k17<|aw_ret<|by cases h;exact rk
def slices_ContainsFunc_Block_state_all_api_Block__c1_state_Right_c1 (a0 : List Block) : Option Bool :=
 Option.bind (slices_IndexFunc_Block_state_all_api_Block__c1_state_Right_c1 a0) (fun (x3 : Int) => some (decide ((0 : Int) ≤ x3)))
theorem slices_ContainsFunc_Block_state_all_api_Block__c1_state_Right_c1_ok (a0 : List Block) {r : Bool} (h : slices_ContainsFunc_Block_state_all_api_Block__c1_state_Right_c1 a0 = some r) : Ok Tryz.prog 136 [.sl 4 (List.map enc40 a0), .fn 137 [.rptr [.fn 60 []]]] [] [] (.bool r) [] [] := by
 refine oK Tryz.func136 rfl fun X => sr fun _ k1 => pP 4 asg<|en k1<|sr fun _ k2 => pP 5 mv<|pP 6 mv<|bE h fun x3 y3 h => pD 7 (cZ 7 (slices_IndexFunc_Block_state_all_api_Block__c1_state_Right_c1_ok a0 y3) ent164)<|pP 8 bi<|pP 4 asg<|en k2<|aw_ret<|by cases h;exact rk
def state_all_Block_state_Right_c1 (a0 : List Block) : Option Bool :=
 Option.bind (slices_ContainsFunc_Block_state_all_api_Block__c1_state_Right_c1 a0) (fun (x3 : Bool) => some (!x3))
theorem state_all_Block_state_Right_c1_ok (a0 : List Block) {r : Bool} (h : state_all_Block_state_Right_c1 a0 = some r) : Ok Tryz.prog 59 [.sl 4 (List.map enc40 a0), .fn 60 []] [] [] (.bool r) [] [] := by
 refine oK Tryz.func59 rfl fun X => sr fun _ k1 => pD 3 (do_box W_ rfl rfl)<|pP 4 asg<|en k1<|sr fun _ k2 => pP 5 mv<|pP 6 (does_makeFunc (vs := [.ptr 3 0 0]) rfl)<|bE h fun x3 y3 h => pD 7 (do_callG (bcs := []) [] [] [(3, 0)] 7 false (slices_ContainsFunc_Block_state_all_api_Block__c1_state_Right_c1_ok a0 y3) rfl ent136 trivial trivial rfl rfl rfl rfl rfl rfl rfl rfl (.inr ⟨rfl, rfl, trivial⟩))<|pP 8 un<|pP 4 asg<|en k2<|aw_ret<|by cases h;exact rk
def state_Right (a0 : StateG) : Option Bool :=
 Option.bind (block_Epoch [a0.Now, a0.Sec, a0.Kept, a0.Next]) (fun (x3 : Bool) => if x3 = true then (Option.bind (rule_Right a0.Policy) (fun (x5 : Bool) => if x5 = true then (Option.bind (state_all_Episode_block_Episode a0.Open) (fun (x7 : Bool) => if x7 = true then (Option.bind (state_all_Episode_block_Episode a0.Pending) (fun (x9 : Bool) => if x9 = true then (Option.bind (state_all_Row_state_row a0.Rows) (fun (x11 : Bool) => if x11 = true then (Option.bind (state_all_Edge_state_edge a0.Edges) (fun (x13 : Bool) => if x13 = true then (Option.bind (state_all_Exemplar_state_slot a0.Slots) (fun (x15 : Bool) => if x15 = true then (Option.bind (state_all_Block_state_Right_c1 a0.Blocks) (fun (x17 : Bool) => some x17)) else (some false))) else (some false))) else (some false))) else (some false))) else (some false))) else (some false))) else (some false))
theorem state_Right_ok (a0 : StateG) {r : Bool} (h : state_Right a0 = some r) : Ok Tryz.prog 15 [.agg [.int .i64 a0.Now, .int .i64 a0.Sec, .int .i64 a0.Kept, .int .i64 a0.Next, .int .i64 a0.Policy.Kind, .int .i64 a0.Policy.N, .str a0.Policy.Key, .str a0.Policy.Value, .sl 5 (List.map enc23 a0.Policy.Kids), .sl 6 (List.map enc68 a0.Open), .sl 6 (List.map enc68 a0.Pending), .sl 3 (List.map enc79 a0.Memo), .sl 14 (List.map enc56 a0.Rows), .sl 4 (List.map enc58 a0.Edges), .sl 6 (List.map enc63 a0.Slots), .sl 4 (List.map enc40 a0.Blocks)]] [] [] (.bool r) [] [] := by
 refine oK Tryz.func15 rfl fun X => sr fun _ k1 => pD 1 (do_box W_ rfl rfl)<|pP 2 asg<|en k1<|sr fun _ k2 => pP 3 (fa ty32 ty3)<|pX 4 (ld ty3)<|pP 5 (fa ty32 ty3)<|pX 6 (ld ty3)<|pP 7 (fa ty32 ty3)<|pX 8 (ld ty3)<|pP 9 (fa ty32 ty3)<|pX 10 (ld ty3)<|pD 11 ((bs (List.map enc2 [a0.Now, a0.Sec, a0.Kept, a0.Next]) ty117 ty3 rfl).fx (y := ⟨_, .own 11 0, [((11, 0), some (.arr 3 1 false (List.map enc2 [a0.Now, a0.Sec, a0.Kept, a0.Next])))], [11]⟩) rfl)<|bE h fun x3 y3 h => pD 12 ((do_callG (bcs := []) [] [] [(11, 0)] 12 false (block_Epoch_ok [a0.Now, a0.Sec, a0.Kept, a0.Next] y3) rfl ent49 trivial trivial rfl rfl rfl rfl rfl rfl rfl rfl (.inr ⟨rfl, rfl, trivial⟩)).fx (y := ⟨[(11, 0)], .bool x3, [], [12]⟩) rfl)<|pP 13 mv<|li 13 h (fun c4 h => ?_) fun c4 h => ?_
 ·refine pP 14 (fa ty32 ty24)<|pl 15 (.agg [.int .i64 a0.Policy.Kind, .int .i64 a0.Policy.N, .str a0.Policy.Key, .str a0.Policy.Value, .sl 5 (List.map enc23 a0.Policy.Kids)]) ty24<|bE h fun x5 y5 h => pD 16 (cz 16 (.bool x5) (rule_Right_ok a0.Policy y5) ent50)<|pP 17 pc<|pP 18 mv<|li 18 h (fun c6 h => ?_) fun c6 h => ?_
  ·refine pP 19 (fa ty32 ty25)<|pX 20 (ld ty25)<|bE h fun x7 y7 h => pD 21 (cz 21 (.bool x7) (state_all_Episode_block_Episode_ok a0.Open y7) ent51)<|pP 22 pc<|pP 23 mv<|li 23 h (fun c8 h => ?_) fun c8 h => ?_
   ·refine pP 24 (fa ty32 ty25)<|pX 25 (ld ty25)<|bE h fun x9 y9 h => pD 26 (cz 26 (.bool x9) (state_all_Episode_block_Episode_ok a0.Pending y9) ent51)<|pP 27 pc<|pP 28 mv<|li 28 h (fun c10 h => ?_) fun c10 h => ?_
    ·refine pP 29 (fa ty32 ty27)<|pX 30 (ld ty27)<|bE h fun x11 y11 h => pD 31 (cz 31 (.bool x11) (state_all_Row_state_row_ok a0.Rows y11) ent53)<|pP 32 pc<|pP 33 mv<|li 33 h (fun c12 h => ?_) fun c12 h => ?_
     ·refine pP 34 (fa ty32 ty28)<|pX 35 (ld ty28)<|bE h fun x13 y13 h => pD 36 (cz 36 (.bool x13) (state_all_Edge_state_edge_ok a0.Edges y13) ent55)<|pP 37 pc<|pP 38 mv<|li 38 h (fun c14 h => ?_) fun c14 h => ?_
      ·refine pP 39 (fa ty32 ty29)<|pX 40 (ld ty29)<|bE h fun x15 y15 h => pD 41 (cz 41 (.bool x15) (state_all_Exemplar_state_slot_ok a0.Slots y15) ent57)<|pP 42 pc<|pP 43 mv<|li 43 h (fun c16 h => ?_) fun c16 h => ?_
       ·refine pP 44 (fa ty32 ty30)<|pX 45 (ld ty30)<|bE h fun x17 y17 h => pD 46 (cz 46 (.bool x17) (state_all_Block_state_Right_c1_ok a0.Blocks y17) ent59)<|pP 47 pc<|pP 2 asg<|en k2<|aw_ret<|by cases h;exact rk
       ·refine pS 44<|pS 45<|pS 46<|pP 47 pc<|pP 2 asg<|en k2<|aw_ret<|by cases h;exact rk
      ·refine pS 39<|pS 40<|pS 41<|pP 42 pc<|pP 43 mv<|pS 44<|pS 45<|pS 46<|pP 47 pc<|pP 2 asg<|en k2<|aw_ret<|by cases h;exact rk
     ·refine pS 34<|pS 35<|pS 36<|pP 37 pc<|pP 38 mv<|pS 39<|pS 40<|pS 41<|pP 42 pc<|pP 43 mv<|pS 44<|pS 45<|pS 46<|pP 47 pc<|pP 2 asg<|en k2<|aw_ret<|by cases h;exact rk
    ·refine pS 29<|pS 30<|pS 31<|pP 32 pc<|pP 33 mv<|pS 34<|pS 35<|pS 36<|pP 37 pc<|pP 38 mv<|pS 39<|pS 40<|pS 41<|pP 42 pc<|pP 43 mv<|pS 44<|pS 45<|pS 46<|pP 47 pc<|pP 2 asg<|en k2<|aw_ret<|by cases h;exact rk
   ·refine pS 24<|pS 25<|pS 26<|pP 27 pc<|pP 28 mv<|pS 29<|pS 30<|pS 31<|pP 32 pc<|pP 33 mv<|pS 34<|pS 35<|pS 36<|pP 37 pc<|pP 38 mv<|pS 39<|pS 40<|pS 41<|pP 42 pc<|pP 43 mv<|pS 44<|pS 45<|pS 46<|pP 47 pc<|pP 2 asg<|en k2<|aw_ret<|by cases h;exact rk
  ·refine pS 19<|pS 20<|pS 21<|pP 22 pc<|pP 23 mv<|pS 24<|pS 25<|pS 26<|pP 27 pc<|pP 28 mv<|pS 29<|pS 30<|pS 31<|pP 32 pc<|pP 33 mv<|pS 34<|pS 35<|pS 36<|pP 37 pc<|pP 38 mv<|pS 39<|pS 40<|pS 41<|pP 42 pc<|pP 43 mv<|pS 44<|pS 45<|pS 46<|pP 47 pc<|pP 2 asg<|en k2<|aw_ret<|by cases h;exact rk
 ·refine pS 14<|pS 15<|pS 16<|pP 17 pc<|pP 18 mv<|pS 19<|pS 20<|pS 21<|pP 22 pc<|pP 23 mv<|pS 24<|pS 25<|pS 26<|pP 27 pc<|pP 28 mv<|pS 29<|pS 30<|pS 31<|pP 32 pc<|pP 33 mv<|pS 34<|pS 35<|pS 36<|pP 37 pc<|pP 38 mv<|pS 39<|pS 40<|pS 41<|pP 42 pc<|pP 43 mv<|pS 44<|pS 45<|pS 46<|pP 47 pc<|pP 2 asg<|en k2<|aw_ret<|by cases h;exact rk
end Go.Proofs.YtjklegmimpehlaaGreat.Ab
namespace Go.Proofs.YtjklegmimpehlaaGreat.Ab
open Go Go.RowKit
set_option linter.unusedVariables false
set_option linter.unusedSimpArgs false
set_option maxRecDepth 100000
set_option maxHeartbeats 8000000
theorem ty26 : tyOf Tryz.prog 26 = some ⟨.slice 80, 1, 24, [.nil]⟩ := by kernel_rfl
theorem ty80 : tyOf Tryz.prog 80 = some ⟨.struct [(0, 62), (2, 4)], 3, 24, [.int .u64 0, .int .u64 0, .bool false]⟩ := by kernel_rfl
theorem ent15 : Ent Tryz.prog 15 := eN Tryz.func15
theorem ent27 : Ent Tryz.prog 27 := eN Tryz.func27
theorem ent28 : Ent Tryz.prog 28 := eN Tryz.func28
theorem ent31 : Ent Tryz.prog 31 := eN Tryz.func31
theorem ent32 : Ent Tryz.prog 32 := eN Tryz.func32
theorem ent33 : Ent Tryz.prog 33 := eN Tryz.func33
theorem ent86 : Ent Tryz.prog 86 := eN Tryz.func86
def state_putEpisodes_l0 (a1 : List Episode) (vb0_s_0_s_0 : List UInt8) (v13_0 : Int) : Option ((List UInt8 × Int) ⊕ Writer) :=
 if (decide (v13_0 < (List.length a1 : Int))) = true then (gd (0 ≤ v13_0) (Option.bind (a1[(Int.toNat v13_0)]?) (fun (x12 : Episode) => Option.bind (ints_Writer_Wide (Writer.mk vb0_s_0_s_0) [x12.Trace.Hi, x12.Trace.Lo]) (fun (x14 : Writer) => Option.bind (block_PutSpans x14 x12) (fun (x15 : Writer) => some (Sum.inl (x15.B, (IntKind.i64.wrap (v13_0 + 1))))))))) else (some (Sum.inr (Writer.mk vb0_s_0_s_0)))
def state_putEpisodes (a0 : Writer) (a1 : List Episode) : Option Writer :=
 Option.bind (ints_Writer_Num a0 [(List.length a1 : Int)]) (fun (x2 : Writer) => loopN (fun (s : List UInt8 × Int) => state_putEpisodes_l0 a1 s.1 s.2) Fu (x2.B, 0))
theorem state_putEpisodes_ok (a0 : Writer) (a1 : List Episode) {r : Writer} (h : state_putEpisodes a0 a1 = some r) : Ok Tryz.prog 28 [.ptr 0 0 0, .sl 6 (List.map enc68 a1)] [[.own 1 0]] [(5, 1, List.map enc5 a0.B)] (.tup []) [[.own 2 0]] [(5, 1, List.map enc5 r.B)] := by
 refine oK Tryz.func28 rfl fun X => sr fun _ k1 => pP 6 mv<|pP 7 mv<|pP 8 (zl ty25)<|pD 9 (bs (List.map enc2 [(List.length a1 : Int)]) ty117 ty3 rfl)<|bE h fun x2 y2 h => pD 10 (does_frz (d := 9) (n := 0) W_ (do_callG (bcs := [[.own 1 0]]) [(0, 0)] [(1, 0)] [(9, 0)] 10 false (ints_Writer_Num_ok a0 [(List.length a1 : Int)] y2) rfl ent26 ⟨R_, trivial⟩ (rowsOk_cons W_ R_ trivial) rfl rfl rfl rfl rfl rfl rfl rfl (.inl ⟨⟨_, _, _, rfl⟩, trivial⟩)))<|en k1<|sr fun _ k3 => pP 11 mv<|pP 12 (zl ty25)<|pP 13 mv<|en k3<|aw_block<|aw_loop' (fun m s => ∃ (vb0_s_0_s_0 : List UInt8), ∃ (v13_0 : Int), loopN (fun (s : List UInt8 × Int) => state_putEpisodes_l0 a1 s.1 s.2) m (vb0_s_0_s_0, v13_0) = some r ∧ s = lit [(0, .ptr 0 0 0), (11, .sl 6 (List.map enc68 a1)), (12, .int .i64 (List.length a1 : Int)), (13, .int .i64 v13_0)] [((0, 0), .box [.own 10 0]), ((10, 0), .arr 5 1 false (List.map enc5 vb0_s_0_s_0))] [(0, 1), (10, 1)] X) Fu
  ⟨_, ra [(0, 0), (10, 0)], x2.B, 0, h, rfl⟩ ?_
 rintro m s ⟨vb0_s_0_s_0, v13_0, h, rfl⟩
 obtain ⟨m0, q4, rfl, h, hq5⟩ := loop_some h
 replace h : state_putEpisodes_l0 a1 vb0_s_0_s_0 v13_0 = some q4 := h
 refine sr fun _ k6 => pP 14 bi<|en k6<|aw_seq_k fun _ k7 => wi 14 h (fun c8 h => ?_) fun c8 h => ?_
 ·refine aw_skip<|k7 _<|aw_seq_k fun _ k9 => aw_block<|sr fun _ k10 => gE h fun g11 h => bE h fun x12 y12 h => pP 15 (ia ty25 ty69 g11 y12)<|pl 16 (.agg [.int .u64 x12.Trace.Hi, .int .u64 x12.Trace.Lo, .int .i64 x12.First, .int .i64 x12.Last, .bool x12.Sure, .sl 10 (List.map enc130 x12.Spans)]) ty69<|pD 5 (nw ty69)<|pZ (sto [.int .u64 x12.Trace.Hi, .int .u64 x12.Trace.Lo, .int .i64 x12.First, .int .i64 x12.Last, .bool x12.Sure, .sl 10 (List.map enc130 x12.Spans)] ty69)<|en k10<|sr fun _ k13 => pP 17 mv<|pP 18 (fa ty69 ty62)<|pP 19 (fa ty62 ty60)<|pX 20 (ld ty60)<|pP 21 (fa ty69 ty62)<|pP 22 (fa ty62 ty60)<|pX 23 (ld ty60)<|pD 24 (bs (List.map enc12 [x12.Trace.Hi, x12.Trace.Lo]) ty135 ty60 rfl)<|bE h fun x14 y14 h => pD 25 (does_frz (d := 24) (n := 0) W_ (do_callG (bcs := [[.own 10 0]]) [(0, 0)] [(10, 0)] [(24, 0)] 25 false (ints_Writer_Wide_ok (Writer.mk vb0_s_0_s_0) [x12.Trace.Hi, x12.Trace.Lo] y14) rfl ent29 ⟨R_, trivial⟩ (rowsOk_cons W_ R_ trivial) rfl rfl rfl rfl rfl rfl rfl rfl (.inl ⟨⟨_, _, _, rfl⟩, trivial⟩)))<|en k13<|aw_regL<|pP 26 mv<|pl 27 (.agg [.int .u64 x12.Trace.Hi, .int .u64 x12.Trace.Lo, .int .i64 x12.First, .int .i64 x12.Last, .bool x12.Sure, .sl 10 (List.map enc130 x12.Spans)]) ty69<|bE h fun x15 y15 h => pD 28 (do_callG (bcs := [[.own 25 0]]) [(0, 0)] [(25, 0)] [] 28 false (block_PutSpans_ok x14 x12 y15) rfl ent86 ⟨R_, trivial⟩ (rowsOk_cons W_ R_ trivial) rfl rfl rfl rfl rfl rfl rfl rfl (.inl trivial))<|en k9<|aw_regL<|pP 29 bi<|pP 13 mv<|al_nil<|bk (ra [(0, 0), (28, 0)]) ⟨x15.B, (IntKind.i64.wrap (v13_0 + 1)), leafL h hq5, rfl⟩
 ·refine aw_exit<|tk (leafR h hq5) fun h => ?_
  obtain rfl := Option.some.inj h
  exact ret_okB [(10, 0)] W_ W_ R_ (rowsOk_cons W_ R_ trivial) (boxesOk_cons W_ W_ R_ trivial) (nodup_b rfl) (.inl rfl) rfl
def state_putRows_l1 (a1 : StateG) (vb0_s_0_s_1 : List UInt8) (v17_1 : Int) : Option ((List UInt8 × Int) ⊕ (List UInt8)) :=
 if (decide (v17_1 < (List.length a1.Rows : Int))) = true then (gd (0 ≤ v17_1) (Option.bind (a1.Rows[(Int.toNat v17_1)]?) (fun (x15 : RowG) => Option.bind (ints_Writer_Num (Writer.mk vb0_s_0_s_1) [x15.Level, x15.Window]) (fun (x17 : Writer) => Option.bind (ints_Writer_Text x17 [x15.Service, x15.Op]) (fun (x19 : Writer) => Option.bind (ints_Writer_Num x19 [x15.Counter.Count, x15.Counter.Errs]) (fun (x21 : Writer) => Option.bind (ints_Writer_Num x21 [x15.Counter.By.c0, x15.Counter.By.c1, x15.Counter.By.c2, x15.Counter.By.c3, x15.Counter.By.c4, x15.Counter.By.c5, x15.Counter.By.c6, x15.Counter.By.c7]) (fun (x22 : Writer) => some (Sum.inl (x22.B, (IntKind.i64.wrap (v17_1 + 1))))))))))) else (some (Sum.inr vb0_s_0_s_1))
def state_putRows_l2 (a1 : StateG) (vb0_s_0_s_2 : List UInt8) (v59_2 : Int) : Option ((List UInt8 × Int) ⊕ Writer) :=
 if (decide (v59_2 < (List.length a1.Edges : Int))) = true then (gd (0 ≤ v59_2) (Option.bind (a1.Edges[(Int.toNat v59_2)]?) (fun (x34 : Edge) => Option.bind (ints_Writer_Text (Writer.mk vb0_s_0_s_2) [x34.From, x34.To]) (fun (x36 : Writer) => Option.bind (ints_Writer_Num x36 [x34.Count, x34.Errs]) (fun (x37 : Writer) => some (Sum.inl (x37.B, (IntKind.i64.wrap (v59_2 + 1))))))))) else (some (Sum.inr (Writer.mk vb0_s_0_s_2)))
def state_putRows_k0 (a1 : StateG) (vb0_s_0_s_0 : List UInt8) : Option Writer :=
 Option.bind (ints_Writer_Num (Writer.mk vb0_s_0_s_0) [(List.length a1.Edges : Int)]) (fun (x24 : Writer) => loopN (fun (s : List UInt8 × Int) => state_putRows_l2 a1 s.1 s.2) Fu (x24.B, 0))
def state_putRows (a0 : Writer) (a1 : StateG) : Option Writer :=
 Option.bind (ints_Writer_Num a0 [(List.length a1.Rows : Int)]) (fun (x3 : Writer) => Option.bind (loopN (fun (s : List UInt8 × Int) => state_putRows_l1 a1 s.1 s.2) Fu (x3.B, 0)) (fun (s : List UInt8) => state_putRows_k0 a1 s))
theorem state_putRows_ok (a0 : Writer) (a1 : StateG) {r : Writer} (h : state_putRows a0 a1 = some r) : Ok Tryz.prog 31 [.ptr 0 0 0, .agg [.int .i64 a1.Now, .int .i64 a1.Sec, .int .i64 a1.Kept, .int .i64 a1.Next, .int .i64 a1.Policy.Kind, .int .i64 a1.Policy.N, .str a1.Policy.Key, .str a1.Policy.Value, .sl 5 (List.map enc23 a1.Policy.Kids), .sl 6 (List.map enc68 a1.Open), .sl 6 (List.map enc68 a1.Pending), .sl 3 (List.map enc79 a1.Memo), .sl 14 (List.map enc56 a1.Rows), .sl 4 (List.map enc58 a1.Edges), .sl 6 (List.map enc63 a1.Slots), .sl 4 (List.map enc40 a1.Blocks)]] [[.own 1 0]] [(5, 1, List.map enc5 a0.B)] (.tup []) [[.own 2 0]] [(5, 1, List.map enc5 r.B)] := by
 refine oK Tryz.func31 rfl fun X => sr fun _ k1 => pD 3 (do_box W_ rfl rfl)<|en k1<|sr fun _ k2 => pP 8 mv<|pP 9 (fa ty32 ty27)<|pX 10 (ld ty27)<|pP 11 (zl ty27)<|pD 12 (bs (List.map enc2 [(List.length a1.Rows : Int)]) ty117 ty3 rfl)<|bE h fun x3 y3 h => pD 13 (does_frz (d := 12) (n := 0) W_ (do_callG (bcs := [[.own 1 0]]) [(0, 0)] [(1, 0)] [(12, 0)] 13 false (ints_Writer_Num_ok a0 [(List.length a1.Rows : Int)] y3) rfl ent26 ⟨R_, trivial⟩ (rowsOk_cons W_ R_ trivial) rfl rfl rfl rfl rfl rfl rfl rfl (.inl ⟨⟨_, _, _, rfl⟩, trivial⟩)))<|en k2<|bE h fun q4 h hk5 => aw_cut (fun s => ∃ (vb0_s_0_s_0 : List UInt8), state_putRows_k0 a1 vb0_s_0_s_0 = some r ∧ s = lit [(0, .ptr 0 0 0), (3, .ptr 3 0 0)] [((0, 0), .box [.own 13 0]), ((13, 0), .arr 5 1 false (List.map enc5 vb0_s_0_s_0)), ((3, 0), .box [.int .i64 a1.Now, .int .i64 a1.Sec, .int .i64 a1.Kept, .int .i64 a1.Next, .int .i64 a1.Policy.Kind, .int .i64 a1.Policy.N, .str a1.Policy.Key, .str a1.Policy.Value, .sl 5 (List.map enc23 a1.Policy.Kids), .sl 6 (List.map enc68 a1.Open), .sl 6 (List.map enc68 a1.Pending), .sl 3 (List.map enc79 a1.Memo), .sl 14 (List.map enc56 a1.Rows), .sl 4 (List.map enc58 a1.Edges), .sl 6 (List.map enc63 a1.Slots), .sl 4 (List.map enc40 a1.Blocks)])] [(0, 1), (3, 1), (13, 1)] X) ?_ ?_
 ·skip
  refine sr fun _ k6 => pP 14 (fa ty32 ty27)<|pX 15 (ld ty27)<|pP 16 (zl ty27)<|pP 17 mv<|en k6<|aw_block<|aw_loop' (fun m s => ∃ (vb0_s_0_s_1 : List UInt8), ∃ (v17_1 : Int), loopN (fun (s : List UInt8 × Int) => state_putRows_l1 a1 s.1 s.2) m (vb0_s_0_s_1, v17_1) = some q4 ∧ s = lit [(0, .ptr 0 0 0), (3, .ptr 3 0 0), (15, .sl 14 (List.map enc56 a1.Rows)), (16, .int .i64 (List.length a1.Rows : Int)), (17, .int .i64 v17_1)] [((0, 0), .box [.own 13 0]), ((13, 0), .arr 5 1 false (List.map enc5 vb0_s_0_s_1)), ((3, 0), .box [.int .i64 a1.Now, .int .i64 a1.Sec, .int .i64 a1.Kept, .int .i64 a1.Next, .int .i64 a1.Policy.Kind, .int .i64 a1.Policy.N, .str a1.Policy.Key, .str a1.Policy.Value, .sl 5 (List.map enc23 a1.Policy.Kids), .sl 6 (List.map enc68 a1.Open), .sl 6 (List.map enc68 a1.Pending), .sl 3 (List.map enc79 a1.Memo), .sl 14 (List.map enc56 a1.Rows), .sl 4 (List.map enc58 a1.Edges), .sl 6 (List.map enc63 a1.Slots), .sl 4 (List.map enc40 a1.Blocks)])] [(0, 1), (3, 1), (13, 1)] X) Fu
   ⟨_, ra [(0, 0), (13, 0), (3, 0)], x3.B, 0, h, rfl⟩ ?_
  rintro m s ⟨vb0_s_0_s_1, v17_1, h, rfl⟩
  obtain ⟨m1, q7, rfl, h, hq8⟩ := loop_some h
  replace h : state_putRows_l1 a1 vb0_s_0_s_1 v17_1 = some q7 := h
  refine sr fun _ k9 => pP 18 bi<|en k9<|aw_seq_k fun _ k10 => wi 18 h (fun c11 h => ?_) fun c11 h => ?_
  ·refine aw_skip<|k10 _<|aw_seq_k fun _ k12 => aw_block<|sr fun _ k13 => gE h fun g14 h => bE h fun x15 y15 h => pP 19 (ia ty27 ty57 g14 y15)<|pl 20 (.agg [.int .i64 x15.Level, .int .i64 x15.Window, .str x15.Service, .str x15.Op, .int .i64 x15.Counter.Count, .int .i64 x15.Counter.Errs, .int .i64 x15.Counter.By.c0, .int .i64 x15.Counter.By.c1, .int .i64 x15.Counter.By.c2, .int .i64 x15.Counter.By.c3, .int .i64 x15.Counter.By.c4, .int .i64 x15.Counter.By.c5, .int .i64 x15.Counter.By.c6, .int .i64 x15.Counter.By.c7]) ty57<|pD 5 (nw ty57)<|pZ (sto [.int .i64 x15.Level, .int .i64 x15.Window, .str x15.Service, .str x15.Op, .int .i64 x15.Counter.Count, .int .i64 x15.Counter.Errs, .int .i64 x15.Counter.By.c0, .int .i64 x15.Counter.By.c1, .int .i64 x15.Counter.By.c2, .int .i64 x15.Counter.By.c3, .int .i64 x15.Counter.By.c4, .int .i64 x15.Counter.By.c5, .int .i64 x15.Counter.By.c6, .int .i64 x15.Counter.By.c7] ty57)<|en k13<|sr fun _ k16 => pP 21 mv<|pP 22 (fa ty57 ty3)<|pX 23 (ld ty3)<|pP 24 (fa ty57 ty3)<|pX 25 (ld ty3)<|pD 26 (bs (List.map enc2 [x15.Level, x15.Window]) ty117 ty3 rfl)<|bE h fun x17 y17 h => pD 27 (does_frz (d := 26) (n := 0) W_ (do_callG (bcs := [[.own 13 0]]) [(0, 0)] [(13, 0)] [(26, 0)] 27 false (ints_Writer_Num_ok (Writer.mk vb0_s_0_s_1) [x15.Level, x15.Window] y17) rfl ent26 ⟨R_, trivial⟩ (rowsOk_cons W_ R_ trivial) rfl rfl rfl rfl rfl rfl rfl rfl (.inl ⟨⟨_, _, _, rfl⟩, trivial⟩)))<|en k16<|sr fun _ k18 => pP 28 mv<|pP 29 (fa ty57 ty9)<|pX 30 (ld ty9)<|pP 31 (fa ty57 ty9)<|pX 32 (ld ty9)<|pD 33 (bs (List.map enc9 [x15.Service, x15.Op]) ty184 ty9 rfl)<|bE h fun x19 y19 h => pD 34 (does_frz (d := 33) (n := 0) W_ (do_callG (bcs := [[.own 27 0]]) [(0, 0)] [(27, 0)] [(33, 0)] 34 false (ints_Writer_Text_ok x17 [x15.Service, x15.Op] y19) rfl ent87 ⟨R_, trivial⟩ (rowsOk_cons W_ R_ trivial) rfl rfl rfl rfl rfl rfl rfl rfl (.inl ⟨⟨_, _, _, rfl⟩, trivial⟩)))<|en k18<|sr fun _ k20 => pP 35 mv<|pP 36 (fa ty57 ty55)<|pP 37 (fa ty55 ty3)<|pX 38 (ld ty3)<|pP 39 (fa ty57 ty55)<|pP 40 (fa ty55 ty3)<|pX 41 (ld ty3)<|pD 42 (bs (List.map enc2 [x15.Counter.Count, x15.Counter.Errs]) ty117 ty3 rfl)<|bE h fun x21 y21 h => pD 43 (does_frz (d := 42) (n := 0) W_ (do_callG (bcs := [[.own 34 0]]) [(0, 0)] [(34, 0)] [(42, 0)] 43 false (ints_Writer_Num_ok x19 [x15.Counter.Count, x15.Counter.Errs] y21) rfl ent26 ⟨R_, trivial⟩ (rowsOk_cons W_ R_ trivial) rfl rfl rfl rfl rfl rfl rfl rfl (.inl ⟨⟨_, _, _, rfl⟩, trivial⟩)))<|en k20<|aw_regL<|pP 44 mv<|pP 45 (fa ty57 ty55)<|pP 46 (fa ty55 ty53)<|pD 47 (do_sliceB (off := 6) (v := List.map enc2 [x15.Counter.By.c0, x15.Counter.By.c1, x15.Counter.By.c2, x15.Counter.By.c3, x15.Counter.By.c4, x15.Counter.By.c5, x15.Counter.By.c6, x15.Counter.By.c7]) W_ R_ ty53 ty3 rfl rfl rfl)<|bE h fun x22 y22 h => pD 48 (do_callG (bcs := [[.own 43 0]]) [(0, 0)] [(43, 0)] [] 48 false (ints_Writer_Num_ok x21 [x15.Counter.By.c0, x15.Counter.By.c1, x15.Counter.By.c2, x15.Counter.By.c3, x15.Counter.By.c4, x15.Counter.By.c5, x15.Counter.By.c6, x15.Counter.By.c7] y22) rfl ent26 ⟨R_, trivial⟩ (rowsOk_cons W_ R_ trivial) rfl rfl rfl rfl rfl rfl rfl rfl (.inl trivial))<|en k12<|aw_regL<|pP 49 bi<|pP 17 mv<|al_nil<|bk (ra [(0, 0), (48, 0), (3, 0)]) ⟨x22.B, (IntKind.i64.wrap (v17_1 + 1)), leafL h hq8, rfl⟩
  ·refine aw_exit<|tk (leafR h hq8) fun h => ?_
   obtain rfl := Option.some.inj h
   have h := hk5
   exact ⟨_, ra [(0, 0), (13, 0), (3, 0)], vb0_s_0_s_1, h, rfl⟩
 ·rintro s ⟨vb0_s_0_s_0, h, rfl⟩
  refine sr fun _ k23 => pP 50 mv<|pP 51 (fa ty32 ty28)<|pX 52 (ld ty28)<|pP 53 (zl ty28)<|pD 54 (bs (List.map enc2 [(List.length a1.Edges : Int)]) ty117 ty3 rfl)<|bE h fun x24 y24 h => pD 55 (does_frz (d := 54) (n := 0) W_ (do_callG (bcs := [[.own 13 0]]) [(0, 0)] [(13, 0)] [(54, 0)] 55 false (ints_Writer_Num_ok (Writer.mk vb0_s_0_s_0) [(List.length a1.Edges : Int)] y24) rfl ent26 ⟨R_, trivial⟩ (rowsOk_cons W_ R_ trivial) rfl rfl rfl rfl rfl rfl rfl rfl (.inl ⟨⟨_, _, _, rfl⟩, trivial⟩)))<|en k23<|sr fun _ k25 => pP 56 (fa ty32 ty28)<|pX 57 (ld ty28)<|pP 58 (zl ty28)<|pP 59 mv<|en k25<|aw_block<|aw_loop' (fun m s => ∃ (vb0_s_0_s_2 : List UInt8), ∃ (v59_2 : Int), loopN (fun (s : List UInt8 × Int) => state_putRows_l2 a1 s.1 s.2) m (vb0_s_0_s_2, v59_2) = some r ∧ s = lit [(0, .ptr 0 0 0), (57, .sl 4 (List.map enc58 a1.Edges)), (58, .int .i64 (List.length a1.Edges : Int)), (59, .int .i64 v59_2)] [((0, 0), .box [.own 55 0]), ((55, 0), .arr 5 1 false (List.map enc5 vb0_s_0_s_2))] [(0, 1), (55, 1)] X) Fu
   ⟨_, ra [(0, 0), (55, 0)], x24.B, 0, h, rfl⟩ ?_
  rintro m s ⟨vb0_s_0_s_2, v59_2, h, rfl⟩
  obtain ⟨m2, q26, rfl, h, hq27⟩ := loop_some h
  replace h : state_putRows_l2 a1 vb0_s_0_s_2 v59_2 = some q26 := h
  refine sr fun _ k28 => pP 60 bi<|en k28<|aw_seq_k fun _ k29 => wi 60 h (fun c30 h => ?_) fun c30 h => ?_
  ·refine aw_skip<|k29 _<|aw_seq_k fun _ k31 => aw_block<|sr fun _ k32 => gE h fun g33 h => bE h fun x34 y34 h => pP 61 (ia ty28 ty59 g33 y34)<|pl 62 (.agg [.str x34.From, .str x34.To, .int .i64 x34.Count, .int .i64 x34.Errs]) ty59<|pD 7 (nw ty59)<|pZ (sto [.str x34.From, .str x34.To, .int .i64 x34.Count, .int .i64 x34.Errs] ty59)<|en k32<|sr fun _ k35 => pP 63 mv<|pP 64 (fa ty59 ty9)<|pX 65 (ld ty9)<|pP 66 (fa ty59 ty9)<|pX 67 (ld ty9)<|pD 68 (bs (List.map enc9 [x34.From, x34.To]) ty184 ty9 rfl)<|bE h fun x36 y36 h => pD 69 (does_frz (d := 68) (n := 0) W_ (do_callG (bcs := [[.own 55 0]]) [(0, 0)] [(55, 0)] [(68, 0)] 69 false (ints_Writer_Text_ok (Writer.mk vb0_s_0_s_2) [x34.From, x34.To] y36) rfl ent87 ⟨R_, trivial⟩ (rowsOk_cons W_ R_ trivial) rfl rfl rfl rfl rfl rfl rfl rfl (.inl ⟨⟨_, _, _, rfl⟩, trivial⟩)))<|en k35<|aw_regL<|pP 70 mv<|pP 71 (fa ty59 ty3)<|pX 72 (ld ty3)<|pP 73 (fa ty59 ty3)<|pX 74 (ld ty3)<|pD 75 (bs (List.map enc2 [x34.Count, x34.Errs]) ty117 ty3 rfl)<|bE h fun x37 y37 h => pD 76 (does_frz (d := 75) (n := 0) W_ (do_callG (bcs := [[.own 69 0]]) [(0, 0)] [(69, 0)] [(75, 0)] 76 false (ints_Writer_Num_ok x36 [x34.Count, x34.Errs] y37) rfl ent26 ⟨R_, trivial⟩ (rowsOk_cons W_ R_ trivial) rfl rfl rfl rfl rfl rfl rfl rfl (.inl ⟨⟨_, _, _, rfl⟩, trivial⟩)))<|en k31<|aw_regL<|pP 77 bi<|pP 59 mv<|al_nil<|bk (ra [(0, 0), (76, 0)]) ⟨x37.B, (IntKind.i64.wrap (v59_2 + 1)), leafL h hq27, rfl⟩
  ·refine aw_exit<|tk (leafR h hq27) fun h => ?_
   obtain rfl := Option.some.inj h
   exact ret_okB [(55, 0)] W_ W_ R_ (rowsOk_cons W_ R_ trivial) (boxesOk_cons W_ W_ R_ trivial) (nodup_b rfl) (.inl rfl) rfl
def state_putBlocks_l1 (a1 : StateG) (vb0_s_0_s_1 : List UInt8) (v17_1 : Int) : Option ((List UInt8 × Int) ⊕ (List UInt8)) :=
 if (decide (v17_1 < (List.length a1.Slots : Int))) = true then (gd (0 ≤ v17_1) (Option.bind (a1.Slots[(Int.toNat v17_1)]?) (fun (x15 : Exemplar) => Option.bind (ints_Writer_Text (Writer.mk vb0_s_0_s_1) [x15.Service, x15.Op]) (fun (x17 : Writer) => Option.bind (ints_Writer_Wide x17 [x15.Trace.Hi, x15.Trace.Lo, x15.Id]) (fun (x19 : Writer) => Option.bind (ints_Writer_Num x19 [x15.Block]) (fun (x20 : Writer) => some (Sum.inl (x20.B, (IntKind.i64.wrap (v17_1 + 1)))))))))) else (some (Sum.inr vb0_s_0_s_1))
def state_putBlocks_l2 (a1 : StateG) (vb0_s_0_s_2 : List UInt8) (v54_2 : Int) : Option ((List UInt8 × Int) ⊕ Writer) :=
 if (decide (v54_2 < (List.length a1.Blocks : Int))) = true then (gd (0 ≤ v54_2) (Option.bind (a1.Blocks[(Int.toNat v54_2)]?) (fun (x32 : Block) => Option.bind (ints_Writer_Num (Writer.mk vb0_s_0_s_2) [x32.Number, x32.Born, x32.Tier]) (fun (x33 : Writer) => some (Sum.inl (x33.B, (IntKind.i64.wrap (v54_2 + 1)))))))) else (some (Sum.inr (Writer.mk vb0_s_0_s_2)))
def state_putBlocks_k0 (a1 : StateG) (vb0_s_0_s_0 : List UInt8) : Option Writer :=
 Option.bind (ints_Writer_Num (Writer.mk vb0_s_0_s_0) [(List.length a1.Blocks : Int)]) (fun (x22 : Writer) => loopN (fun (s : List UInt8 × Int) => state_putBlocks_l2 a1 s.1 s.2) Fu (x22.B, 0))
def state_putBlocks (a0 : Writer) (a1 : StateG) : Option Writer :=
 Option.bind (ints_Writer_Num a0 [(List.length a1.Slots : Int)]) (fun (x3 : Writer) => Option.bind (loopN (fun (s : List UInt8 × Int) => state_putBlocks_l1 a1 s.1 s.2) Fu (x3.B, 0)) (fun (s : List UInt8) => state_putBlocks_k0 a1 s))
theorem state_putBlocks_ok (a0 : Writer) (a1 : StateG) {r : Writer} (h : state_putBlocks a0 a1 = some r) : Ok Tryz.prog 32 [.ptr 0 0 0, .agg [.int .i64 a1.Now, .int .i64 a1.Sec, .int .i64 a1.Kept, .int .i64 a1.Next, .int .i64 a1.Policy.Kind, .int .i64 a1.Policy.N, .str a1.Policy.Key, .str a1.Policy.Value, .sl 5 (List.map enc23 a1.Policy.Kids), .sl 6 (List.map enc68 a1.Open), .sl 6 (List.map enc68 a1.Pending), .sl 3 (List.map enc79 a1.Memo), .sl 14 (List.map enc56 a1.Rows), .sl 4 (List.map enc58 a1.Edges), .sl 6 (List.map enc63 a1.Slots), .sl 4 (List.map enc40 a1.Blocks)]] [[.own 1 0]] [(5, 1, List.map enc5 a0.B)] (.tup []) [[.own 2 0]] [(5, 1, List.map enc5 r.B)] := by
 refine oK Tryz.func32 rfl fun X => sr fun _ k1 => pD 3 (do_box W_ rfl rfl)<|en k1<|sr fun _ k2 => pP 8 mv<|pP 9 (fa ty32 ty29)<|pX 10 (ld ty29)<|pP 11 (zl ty29)<|pD 12 (bs (List.map enc2 [(List.length a1.Slots : Int)]) ty117 ty3 rfl)<|bE h fun x3 y3 h => pD 13 (does_frz (d := 12) (n := 0) W_ (do_callG (bcs := [[.own 1 0]]) [(0, 0)] [(1, 0)] [(12, 0)] 13 false (ints_Writer_Num_ok a0 [(List.length a1.Slots : Int)] y3) rfl ent26 ⟨R_, trivial⟩ (rowsOk_cons W_ R_ trivial) rfl rfl rfl rfl rfl rfl rfl rfl (.inl ⟨⟨_, _, _, rfl⟩, trivial⟩)))<|en k2<|bE h fun q4 h hk5 => aw_cut (fun s => ∃ (vb0_s_0_s_0 : List UInt8), state_putBlocks_k0 a1 vb0_s_0_s_0 = some r ∧ s = lit [(0, .ptr 0 0 0), (3, .ptr 3 0 0)] [((0, 0), .box [.own 13 0]), ((13, 0), .arr 5 1 false (List.map enc5 vb0_s_0_s_0)), ((3, 0), .box [.int .i64 a1.Now, .int .i64 a1.Sec, .int .i64 a1.Kept, .int .i64 a1.Next, .int .i64 a1.Policy.Kind, .int .i64 a1.Policy.N, .str a1.Policy.Key, .str a1.Policy.Value, .sl 5 (List.map enc23 a1.Policy.Kids), .sl 6 (List.map enc68 a1.Open), .sl 6 (List.map enc68 a1.Pending), .sl 3 (List.map enc79 a1.Memo), .sl 14 (List.map enc56 a1.Rows), .sl 4 (List.map enc58 a1.Edges), .sl 6 (List.map enc63 a1.Slots), .sl 4 (List.map enc40 a1.Blocks)])] [(0, 1), (3, 1), (13, 1)] X) ?_ ?_
 ·skip
  refine sr fun _ k6 => pP 14 (fa ty32 ty29)<|pX 15 (ld ty29)<|pP 16 (zl ty29)<|pP 17 mv<|en k6<|aw_block<|aw_loop' (fun m s => ∃ (vb0_s_0_s_1 : List UInt8), ∃ (v17_1 : Int), loopN (fun (s : List UInt8 × Int) => state_putBlocks_l1 a1 s.1 s.2) m (vb0_s_0_s_1, v17_1) = some q4 ∧ s = lit [(0, .ptr 0 0 0), (3, .ptr 3 0 0), (15, .sl 6 (List.map enc63 a1.Slots)), (16, .int .i64 (List.length a1.Slots : Int)), (17, .int .i64 v17_1)] [((0, 0), .box [.own 13 0]), ((13, 0), .arr 5 1 false (List.map enc5 vb0_s_0_s_1)), ((3, 0), .box [.int .i64 a1.Now, .int .i64 a1.Sec, .int .i64 a1.Kept, .int .i64 a1.Next, .int .i64 a1.Policy.Kind, .int .i64 a1.Policy.N, .str a1.Policy.Key, .str a1.Policy.Value, .sl 5 (List.map enc23 a1.Policy.Kids), .sl 6 (List.map enc68 a1.Open), .sl 6 (List.map enc68 a1.Pending), .sl 3 (List.map enc79 a1.Memo), .sl 14 (List.map enc56 a1.Rows), .sl 4 (List.map enc58 a1.Edges), .sl 6 (List.map enc63 a1.Slots), .sl 4 (List.map enc40 a1.Blocks)])] [(0, 1), (3, 1), (13, 1)] X) Fu
   ⟨_, ra [(0, 0), (13, 0), (3, 0)], x3.B, 0, h, rfl⟩ ?_
  rintro m s ⟨vb0_s_0_s_1, v17_1, h, rfl⟩
  obtain ⟨m1, q7, rfl, h, hq8⟩ := loop_some h
  replace h : state_putBlocks_l1 a1 vb0_s_0_s_1 v17_1 = some q7 := h
  refine sr fun _ k9 => pP 18 bi<|en k9<|aw_seq_k fun _ k10 => wi 18 h (fun c11 h => ?_) fun c11 h => ?_
  ·refine aw_skip<|k10 _<|aw_seq_k fun _ k12 => aw_block<|sr fun _ k13 => gE h fun g14 h => bE h fun x15 y15 h => pP 19 (ia ty29 ty64 g14 y15)<|pl 20 (.agg [.str x15.Service, .str x15.Op, .int .u64 x15.Trace.Hi, .int .u64 x15.Trace.Lo, .int .u64 x15.Id, .int .i64 x15.Block]) ty64<|pD 5 (nw ty64)<|pZ (sto [.str x15.Service, .str x15.Op, .int .u64 x15.Trace.Hi, .int .u64 x15.Trace.Lo, .int .u64 x15.Id, .int .i64 x15.Block] ty64)<|en k13<|sr fun _ k16 => pP 21 mv<|pP 22 (fa ty64 ty9)<|pX 23 (ld ty9)<|pP 24 (fa ty64 ty9)<|pX 25 (ld ty9)<|pD 26 (bs (List.map enc9 [x15.Service, x15.Op]) ty184 ty9 rfl)<|bE h fun x17 y17 h => pD 27 (does_frz (d := 26) (n := 0) W_ (do_callG (bcs := [[.own 13 0]]) [(0, 0)] [(13, 0)] [(26, 0)] 27 false (ints_Writer_Text_ok (Writer.mk vb0_s_0_s_1) [x15.Service, x15.Op] y17) rfl ent87 ⟨R_, trivial⟩ (rowsOk_cons W_ R_ trivial) rfl rfl rfl rfl rfl rfl rfl rfl (.inl ⟨⟨_, _, _, rfl⟩, trivial⟩)))<|en k16<|sr fun _ k18 => pP 28 mv<|pP 29 (fa ty64 ty62)<|pP 30 (fa ty62 ty60)<|pX 31 (ld ty60)<|pP 32 (fa ty64 ty62)<|pP 33 (fa ty62 ty60)<|pX 34 (ld ty60)<|pP 35 (fa ty64 ty60)<|pX 36 (ld ty60)<|pD 37 (bs (List.map enc12 [x15.Trace.Hi, x15.Trace.Lo, x15.Id]) ty135 ty60 rfl)<|bE h fun x19 y19 h => pD 38 (does_frz (d := 37) (n := 0) W_ (do_callG (bcs := [[.own 27 0]]) [(0, 0)] [(27, 0)] [(37, 0)] 38 false (ints_Writer_Wide_ok x17 [x15.Trace.Hi, x15.Trace.Lo, x15.Id] y19) rfl ent29 ⟨R_, trivial⟩ (rowsOk_cons W_ R_ trivial) rfl rfl rfl rfl rfl rfl rfl rfl (.inl ⟨⟨_, _, _, rfl⟩, trivial⟩)))<|en k18<|aw_regL<|pP 39 mv<|pP 40 (fa ty64 ty3)<|pX 41 (ld ty3)<|pD 42 (bs (List.map enc2 [x15.Block]) ty117 ty3 rfl)<|bE h fun x20 y20 h => pD 43 (does_frz (d := 42) (n := 0) W_ (do_callG (bcs := [[.own 38 0]]) [(0, 0)] [(38, 0)] [(42, 0)] 43 false (ints_Writer_Num_ok x19 [x15.Block] y20) rfl ent26 ⟨R_, trivial⟩ (rowsOk_cons W_ R_ trivial) rfl rfl rfl rfl rfl rfl rfl rfl (.inl ⟨⟨_, _, _, rfl⟩, trivial⟩)))<|en k12<|aw_regL<|pP 44 bi<|pP 17 mv<|al_nil<|bk (ra [(0, 0), (43, 0), (3, 0)]) ⟨x20.B, (IntKind.i64.wrap (v17_1 + 1)), leafL h hq8, rfl⟩
  ·refine aw_exit<|tk (leafR h hq8) fun h => ?_
   obtain rfl := Option.some.inj h
   have h := hk5
   exact ⟨_, ra [(0, 0), (13, 0), (3, 0)], vb0_s_0_s_1, h, rfl⟩
 ·rintro s ⟨vb0_s_0_s_0, h, rfl⟩
  refine sr fun _ k21 => pP 45 mv<|pP 46 (fa ty32 ty30)<|pX 47 (ld ty30)<|pP 48 (zl ty30)<|pD 49 (bs (List.map enc2 [(List.length a1.Blocks : Int)]) ty117 ty3 rfl)<|bE h fun x22 y22 h => pD 50 (does_frz (d := 49) (n := 0) W_ (do_callG (bcs := [[.own 13 0]]) [(0, 0)] [(13, 0)] [(49, 0)] 50 false (ints_Writer_Num_ok (Writer.mk vb0_s_0_s_0) [(List.length a1.Blocks : Int)] y22) rfl ent26 ⟨R_, trivial⟩ (rowsOk_cons W_ R_ trivial) rfl rfl rfl rfl rfl rfl rfl rfl (.inl ⟨⟨_, _, _, rfl⟩, trivial⟩)))<|en k21<|sr fun _ k23 => pP 51 (fa ty32 ty30)<|pX 52 (ld ty30)<|pP 53 (zl ty30)<|pP 54 mv<|en k23<|aw_block<|aw_loop' (fun m s => ∃ (vb0_s_0_s_2 : List UInt8), ∃ (v54_2 : Int), loopN (fun (s : List UInt8 × Int) => state_putBlocks_l2 a1 s.1 s.2) m (vb0_s_0_s_2, v54_2) = some r ∧ s = lit [(0, .ptr 0 0 0), (52, .sl 4 (List.map enc40 a1.Blocks)), (53, .int .i64 (List.length a1.Blocks : Int)), (54, .int .i64 v54_2)] [((0, 0), .box [.own 50 0]), ((50, 0), .arr 5 1 false (List.map enc5 vb0_s_0_s_2))] [(0, 1), (50, 1)] X) Fu
   ⟨_, ra [(0, 0), (50, 0)], x22.B, 0, h, rfl⟩ ?_
  rintro m s ⟨vb0_s_0_s_2, v54_2, h, rfl⟩
  obtain ⟨m2, q24, rfl, h, hq25⟩ := loop_some h
  replace h : state_putBlocks_l2 a1 vb0_s_0_s_2 v54_2 = some q24 := h
  refine sr fun _ k26 => pP 55 bi<|en k26<|aw_seq_k fun _ k27 => wi 55 h (fun c28 h => ?_) fun c28 h => ?_
  ·refine aw_skip<|k27 _<|aw_seq_k fun _ k29 => aw_block<|sr fun _ k30 => gE h fun g31 h => bE h fun x32 y32 h => pP 56 (ia ty30 ty41 g31 y32)<|pl 57 (.agg [.int .i64 x32.Number, .int .i64 x32.Born, .int .i64 x32.Tier, .sl 6 (List.map enc68 x32.Episodes)]) ty41<|pD 7 (nw ty41)<|pZ (sto [.int .i64 x32.Number, .int .i64 x32.Born, .int .i64 x32.Tier, .sl 6 (List.map enc68 x32.Episodes)] ty41)<|en k30<|aw_regL<|pP 58 mv<|pP 59 (fa ty41 ty3)<|pX 60 (ld ty3)<|pP 61 (fa ty41 ty3)<|pX 62 (ld ty3)<|pP 63 (fa ty41 ty3)<|pX 64 (ld ty3)<|pD 65 (bs (List.map enc2 [x32.Number, x32.Born, x32.Tier]) ty117 ty3 rfl)<|bE h fun x33 y33 h => pD 66 (does_frz (d := 65) (n := 0) W_ (do_callG (bcs := [[.own 50 0]]) [(0, 0)] [(50, 0)] [(65, 0)] 66 false (ints_Writer_Num_ok (Writer.mk vb0_s_0_s_2) [x32.Number, x32.Born, x32.Tier] y33) rfl ent26 ⟨R_, trivial⟩ (rowsOk_cons W_ R_ trivial) rfl rfl rfl rfl rfl rfl rfl rfl (.inl ⟨⟨_, _, _, rfl⟩, trivial⟩)))<|en k29<|aw_regL<|pP 67 bi<|pP 54 mv<|al_nil<|bk (ra [(0, 0), (66, 0)]) ⟨x33.B, (IntKind.i64.wrap (v54_2 + 1)), leafL h hq25, rfl⟩
  ·refine aw_exit<|tk (leafR h hq25) fun h => ?_
   obtain rfl := Option.some.inj h
   exact ret_okB [(50, 0)] W_ W_ R_ (rowsOk_cons W_ R_ trivial) (boxesOk_cons W_ W_ R_ trivial) (nodup_b rfl) (.inl rfl) rfl
def state_Bytes_l1 (a0 : StateG) (v3_s_0_s_1 : List UInt8) (v57_1 : Int) : Option ((List UInt8 × Int) ⊕ (List UInt8)) :=
 if (decide (v57_1 < (List.length a0.Memo : Int))) = true then (gd (0 ≤ v57_1) (Option.bind (a0.Memo[(Int.toNat v57_1)]?) (fun (x33 : Verdict) => Option.bind (ints_Writer_Wide (Writer.mk v3_s_0_s_1) [x33.Trace.Hi, x33.Trace.Lo]) (fun (x35 : Writer) => Option.bind (ints_Writer_Flag x35 x33.Kept) (fun (x36 : Writer) => some (Sum.inl (x36.B, (IntKind.i64.wrap (v57_1 + 1))))))))) else (some (Sum.inr v3_s_0_s_1))
def state_Bytes_k0 (a0 : StateG) (v3_s_0_s_0 : List UInt8) : Option (List UInt8) :=
 Option.bind (state_putRows (Writer.mk v3_s_0_s_0) a0) (fun (x38 : Writer) => Option.bind (state_putBlocks x38 a0) (fun (x40 : Writer) => Option.bind (check_Seal x40.B) (fun (x42 : List UInt8) => some x42)))
def state_Bytes (a0 : StateG) : Option (List UInt8) :=
 Option.bind (state_Right a0) (fun (x4 : Bool) => if (!x4) = true then (some []) else (Option.bind (ints_Writer_Num (Writer.mk []) [a0.Now, a0.Sec, a0.Kept, a0.Next]) (fun (x9 : Writer) => Option.bind (rule_Bytes a0.Policy) (fun (x11 : List UInt8) => Option.bind (ints_Writer_Num x9 [(List.length x11 : Int)]) (fun (x13 : Writer) => gd ((List.length (x13.B ++ x11)) * 1 ≤ 140737488355328 ∧ (List.length (x13.B ++ x11)) ≤ 140737488355328) (Option.bind (state_putEpisodes (Writer.mk (x13.B ++ x11)) a0.Open) (fun (x17 : Writer) => Option.bind (state_putEpisodes x17 a0.Pending) (fun (x19 : Writer) => Option.bind (ints_Writer_Num x19 [(List.length a0.Memo : Int)]) (fun (x21 : Writer) => Option.bind (loopN (fun (s : List UInt8 × Int) => state_Bytes_l1 a0 s.1 s.2) Fu (x21.B, 0)) (fun (s : List UInt8) => state_Bytes_k0 a0 s))))))))))
theorem state_Bytes_ok (a0 : StateG) {r : List UInt8} (h : state_Bytes a0 = some r) : Ok Tryz.prog 9 [.agg [.int .i64 a0.Now, .int .i64 a0.Sec, .int .i64 a0.Kept, .int .i64 a0.Next, .int .i64 a0.Policy.Kind, .int .i64 a0.Policy.N, .str a0.Policy.Key, .str a0.Policy.Value, .sl 5 (List.map enc23 a0.Policy.Kids), .sl 6 (List.map enc68 a0.Open), .sl 6 (List.map enc68 a0.Pending), .sl 3 (List.map enc79 a0.Memo), .sl 14 (List.map enc56 a0.Rows), .sl 4 (List.map enc58 a0.Edges), .sl 6 (List.map enc63 a0.Slots), .sl 4 (List.map enc40 a0.Blocks)]] [] [] (.own 2 0) [] [(5, 1, List.map enc5 r)] := by
 refine oK Tryz.func9 rfl fun X => sr fun _ k1 => pD 1 (do_box W_ rfl rfl)<|pP 2 asg<|en k1<|aw_seq_k fun _ k2 => sr fun _ k3 => pl 7 (.agg [.int .i64 a0.Now, .int .i64 a0.Sec, .int .i64 a0.Kept, .int .i64 a0.Next, .int .i64 a0.Policy.Kind, .int .i64 a0.Policy.N, .str a0.Policy.Key, .str a0.Policy.Value, .sl 5 (List.map enc23 a0.Policy.Kids), .sl 6 (List.map enc68 a0.Open), .sl 6 (List.map enc68 a0.Pending), .sl 3 (List.map enc79 a0.Memo), .sl 14 (List.map enc56 a0.Rows), .sl 4 (List.map enc58 a0.Edges), .sl 6 (List.map enc63 a0.Slots), .sl 4 (List.map enc40 a0.Blocks)]) ty32<|bE h fun x4 y4 h => pD 8 (cZ 8 (state_Right_ok a0 y4) ent15)<|pP 9 un<|en k3<|wi 9 h (fun c5 h => ?_) fun c5 h => ?_
 ·refine sr fun _ k6 => pP 2 asg<|en k6<|aw_nilOwn 2 5 1 W_ D_ D_<|aw_ret<|by cases h;exact rB [(2, 0)]
 ·refine aw_skip<|k2 _<|sr fun _ k7 => pP 10 (do_build_struct (cs := [.nil]) ty75 rfl [⟨.slice 5, 1, 24, [.nil]⟩] (by simp only [List.map, ty35]) (by rfl) R_)<|pD 11 (do_box W_ rfl rfl)<|pP 3 asg<|en k7<|aw_seq_k fun _ k8 => aw_nilOwnC 11 0 0 11 5 1 (cs := [.nil]) R_ rfl D_<|aw_regL<|pP 12 mv<|pP 13 (fa ty32 ty3)<|pX 14 (ld ty3)<|pP 15 (fa ty32 ty3)<|pX 16 (ld ty3)<|pP 17 (fa ty32 ty3)<|pX 18 (ld ty3)<|pP 19 (fa ty32 ty3)<|pX 20 (ld ty3)<|pD 21 (bs (List.map enc2 [a0.Now, a0.Sec, a0.Kept, a0.Next]) ty117 ty3 rfl)<|bE h fun x9 y9 h => pD 22 (does_frz (d := 21) (n := 0) W_ (do_callG (bcs := [[.own 11 1]]) [(11, 0)] [(11, 1)] [(21, 0)] 22 false (ints_Writer_Num_ok (Writer.mk []) [a0.Now, a0.Sec, a0.Kept, a0.Next] y9) rfl ent26 ⟨R_, trivial⟩ (rowsOk_cons W_ R_ trivial) rfl rfl rfl rfl rfl rfl rfl rfl (.inl ⟨⟨_, _, _, rfl⟩, trivial⟩)))<|en k8<|sr fun _ k10 => pP 23 (fa ty32 ty24)<|pl 24 (.agg [.int .i64 a0.Policy.Kind, .int .i64 a0.Policy.N, .str a0.Policy.Key, .str a0.Policy.Value, .sl 5 (List.map enc23 a0.Policy.Kids)]) ty24<|bE h fun x11 y11 h => pD 25 (cZ 25 (rule_Bytes_ok a0.Policy y11) ent27)<|pP 4 asg<|en k10<|sr fun _ k12 => pP 26 mv<|pP 27 mv<|pX 28 ((does_len_own W_ W_ ty35).cast (v' := .int .i64 (List.length x11 : Int)) (by exact len_map _))<|pD 29 (bs (List.map enc2 [(List.length x11 : Int)]) ty117 ty3 rfl)<|bE h fun x13 y13 h => pD 30 (does_frz (d := 29) (n := 0) W_ (do_callG (bcs := [[.own 22 0]]) [(11, 0)] [(22, 0)] [(29, 0)] 30 false (ints_Writer_Num_ok x9 [(List.length x11 : Int)] y13) rfl ent26 ⟨R_, trivial⟩ (rowsOk_cons W_ R_ trivial) rfl rfl rfl rfl rfl rfl rfl rfl (.inl ⟨⟨_, _, _, rfl⟩, trivial⟩)))<|en k12<|sr fun _ k14 => pP 31 mv<|pP 32 mv<|pP 33 nk<|pP 34 (fa ty75 ty35)<|pX 35 (ld ty35)<|pP 36 mv<|gE h fun g15 h => pD 37 (do_append (v := List.map enc5 (x13.B ++ x11)) W_ W_ ty35 ty5 rfl rfl W_ (by first | exact .inl rfl | exact .inr ⟨rfl, rfl⟩) W_ (by first | exact .inr rfl | exact .inl rfl) (map_app _ _) (fit_map g15))<|pP 38 nk<|pP 39 (fa ty75 ty35)<|pZ (sto [.own 37 0] ty35)<|en k14<|sr fun _ k16 => pP 40 mv<|pP 41 (fa ty32 ty25)<|pX 42 (ld ty25)<|bE h fun x17 y17 h => pD 43 (do_callG (bcs := [[.own 37 0]]) [(11, 0)] [(37, 0)] [] 43 false (state_putEpisodes_ok (Writer.mk (x13.B ++ x11)) a0.Open y17) rfl ent28 ⟨R_, trivial⟩ (rowsOk_cons W_ R_ trivial) rfl rfl rfl rfl rfl rfl rfl rfl (.inl trivial))<|en k16<|sr fun _ k18 => pP 44 mv<|pP 45 (fa ty32 ty25)<|pX 46 (ld ty25)<|bE h fun x19 y19 h => pD 47 (do_callG (bcs := [[.own 43 0]]) [(11, 0)] [(43, 0)] [] 47 false (state_putEpisodes_ok x17 a0.Pending y19) rfl ent28 ⟨R_, trivial⟩ (rowsOk_cons W_ R_ trivial) rfl rfl rfl rfl rfl rfl rfl rfl (.inl trivial))<|en k18<|sr fun _ k20 => pP 48 mv<|pP 49 (fa ty32 ty26)<|pX 50 (ld ty26)<|pP 51 (zl ty26)<|pD 52 (bs (List.map enc2 [(List.length a0.Memo : Int)]) ty117 ty3 rfl)<|bE h fun x21 y21 h => pD 53 (does_frz (d := 52) (n := 0) W_ (do_callG (bcs := [[.own 47 0]]) [(11, 0)] [(47, 0)] [(52, 0)] 53 false (ints_Writer_Num_ok x19 [(List.length a0.Memo : Int)] y21) rfl ent26 ⟨R_, trivial⟩ (rowsOk_cons W_ R_ trivial) rfl rfl rfl rfl rfl rfl rfl rfl (.inl ⟨⟨_, _, _, rfl⟩, trivial⟩)))<|en k20<|bE h fun q22 h hk23 => aw_cut (fun s => ∃ (v3_s_0_s_0 : List UInt8), state_Bytes_k0 a0 v3_s_0_s_0 = some r ∧ s = lit [(1, .ptr 1 0 0), (3, .ptr 11 0 0)] [((1, 0), .box [.int .i64 a0.Now, .int .i64 a0.Sec, .int .i64 a0.Kept, .int .i64 a0.Next, .int .i64 a0.Policy.Kind, .int .i64 a0.Policy.N, .str a0.Policy.Key, .str a0.Policy.Value, .sl 5 (List.map enc23 a0.Policy.Kids), .sl 6 (List.map enc68 a0.Open), .sl 6 (List.map enc68 a0.Pending), .sl 3 (List.map enc79 a0.Memo), .sl 14 (List.map enc56 a0.Rows), .sl 4 (List.map enc58 a0.Edges), .sl 6 (List.map enc63 a0.Slots), .sl 4 (List.map enc40 a0.Blocks)]), ((11, 0), .box [.own 53 0]), ((53, 0), .arr 5 1 false (List.map enc5 v3_s_0_s_0))] [(1, 1), (11, 1), (53, 1)] X) ?_ ?_
  ·skip
   refine sr fun _ k24 => pP 54 (fa ty32 ty26)<|pX 55 (ld ty26)<|pP 56 (zl ty26)<|pP 57 mv<|en k24<|aw_block<|aw_loop' (fun m s => ∃ (v3_s_0_s_1 : List UInt8), ∃ (v57_1 : Int), loopN (fun (s : List UInt8 × Int) => state_Bytes_l1 a0 s.1 s.2) m (v3_s_0_s_1, v57_1) = some q22 ∧ s = lit [(1, .ptr 1 0 0), (3, .ptr 11 0 0), (55, .sl 3 (List.map enc79 a0.Memo)), (56, .int .i64 (List.length a0.Memo : Int)), (57, .int .i64 v57_1)] [((1, 0), .box [.int .i64 a0.Now, .int .i64 a0.Sec, .int .i64 a0.Kept, .int .i64 a0.Next, .int .i64 a0.Policy.Kind, .int .i64 a0.Policy.N, .str a0.Policy.Key, .str a0.Policy.Value, .sl 5 (List.map enc23 a0.Policy.Kids), .sl 6 (List.map enc68 a0.Open), .sl 6 (List.map enc68 a0.Pending), .sl 3 (List.map enc79 a0.Memo), .sl 14 (List.map enc56 a0.Rows), .sl 4 (List.map enc58 a0.Edges), .sl 6 (List.map enc63 a0.Slots), .sl 4 (List.map enc40 a0.Blocks)]), ((11, 0), .box [.own 53 0]), ((53, 0), .arr 5 1 false (List.map enc5 v3_s_0_s_1))] [(1, 1), (11, 1), (53, 1)] X) Fu
    ⟨_, ra [(1, 0), (11, 0), (53, 0)], x21.B, 0, h, rfl⟩ ?_
   rintro m s ⟨v3_s_0_s_1, v57_1, h, rfl⟩
   obtain ⟨m1, q25, rfl, h, hq26⟩ := loop_some h
   replace h : state_Bytes_l1 a0 v3_s_0_s_1 v57_1 = some q25 := h
   refine sr fun _ k27 => pP 58 bi<|en k27<|aw_seq_k fun _ k28 => wi 58 h (fun c29 h => ?_) fun c29 h => ?_
   ·refine aw_skip<|k28 _<|aw_seq_k fun _ k30 => aw_block<|sr fun _ k31 => gE h fun g32 h => bE h fun x33 y33 h => pP 59 (ia ty26 ty80 g32 y33)<|pl 60 (.agg [.int .u64 x33.Trace.Hi, .int .u64 x33.Trace.Lo, .bool x33.Kept]) ty80<|pD 6 (nw ty80)<|pZ (sto [.int .u64 x33.Trace.Hi, .int .u64 x33.Trace.Lo, .bool x33.Kept] ty80)<|en k31<|sr fun _ k34 => pP 61 mv<|pP 62 (fa ty80 ty62)<|pP 63 (fa ty62 ty60)<|pX 64 (ld ty60)<|pP 65 (fa ty80 ty62)<|pP 66 (fa ty62 ty60)<|pX 67 (ld ty60)<|pD 68 (bs (List.map enc12 [x33.Trace.Hi, x33.Trace.Lo]) ty135 ty60 rfl)<|bE h fun x35 y35 h => pD 69 (does_frz (d := 68) (n := 0) W_ (do_callG (bcs := [[.own 53 0]]) [(11, 0)] [(53, 0)] [(68, 0)] 69 false (ints_Writer_Wide_ok (Writer.mk v3_s_0_s_1) [x33.Trace.Hi, x33.Trace.Lo] y35) rfl ent29 ⟨R_, trivial⟩ (rowsOk_cons W_ R_ trivial) rfl rfl rfl rfl rfl rfl rfl rfl (.inl ⟨⟨_, _, _, rfl⟩, trivial⟩)))<|en k34<|aw_regL<|pP 70 mv<|pP 71 (fa ty80 ty4)<|pX 72 (ld ty4)<|bE h fun x36 y36 h => pD 73 (do_callG (bcs := [[.own 69 0]]) [(11, 0)] [(69, 0)] [] 73 false (ints_Writer_Flag_ok x35 x33.Kept y36) rfl ent30 ⟨R_, trivial⟩ (rowsOk_cons W_ R_ trivial) rfl rfl rfl rfl rfl rfl rfl rfl (.inl trivial))<|en k30<|aw_regL<|pP 74 bi<|pP 57 mv<|al_nil<|bk (ra [(1, 0), (11, 0), (73, 0)]) ⟨x36.B, (IntKind.i64.wrap (v57_1 + 1)), leafL h hq26, rfl⟩
   ·refine aw_exit<|tk (leafR h hq26) fun h => ?_
    obtain rfl := Option.some.inj h
    have h := hk23
    exact ⟨_, ra [(1, 0), (11, 0), (53, 0)], v3_s_0_s_1, h, rfl⟩
  ·rintro s ⟨v3_s_0_s_0, h, rfl⟩
   refine sr fun _ k37 => pP 75 mv<|pl 76 (.agg [.int .i64 a0.Now, .int .i64 a0.Sec, .int .i64 a0.Kept, .int .i64 a0.Next, .int .i64 a0.Policy.Kind, .int .i64 a0.Policy.N, .str a0.Policy.Key, .str a0.Policy.Value, .sl 5 (List.map enc23 a0.Policy.Kids), .sl 6 (List.map enc68 a0.Open), .sl 6 (List.map enc68 a0.Pending), .sl 3 (List.map enc79 a0.Memo), .sl 14 (List.map enc56 a0.Rows), .sl 4 (List.map enc58 a0.Edges), .sl 6 (List.map enc63 a0.Slots), .sl 4 (List.map enc40 a0.Blocks)]) ty32<|bE h fun x38 y38 h => pD 77 (do_callG (bcs := [[.own 53 0]]) [(11, 0)] [(53, 0)] [] 77 false (state_putRows_ok (Writer.mk v3_s_0_s_0) a0 y38) rfl ent31 ⟨R_, trivial⟩ (rowsOk_cons W_ R_ trivial) rfl rfl rfl rfl rfl rfl rfl rfl (.inl trivial))<|en k37<|sr fun _ k39 => pP 78 mv<|pl 79 (.agg [.int .i64 a0.Now, .int .i64 a0.Sec, .int .i64 a0.Kept, .int .i64 a0.Next, .int .i64 a0.Policy.Kind, .int .i64 a0.Policy.N, .str a0.Policy.Key, .str a0.Policy.Value, .sl 5 (List.map enc23 a0.Policy.Kids), .sl 6 (List.map enc68 a0.Open), .sl 6 (List.map enc68 a0.Pending), .sl 3 (List.map enc79 a0.Memo), .sl 14 (List.map enc56 a0.Rows), .sl 4 (List.map enc58 a0.Edges), .sl 6 (List.map enc63 a0.Slots), .sl 4 (List.map enc40 a0.Blocks)]) ty32<|bE h fun x40 y40 h => pD 80 (do_callG (bcs := [[.own 77 0]]) [(11, 0)] [(77, 0)] [] 80 false (state_putBlocks_ok x38 a0 y40) rfl ent32 ⟨R_, trivial⟩ (rowsOk_cons W_ R_ trivial) rfl rfl rfl rfl rfl rfl rfl rfl (.inl trivial))<|en k39<|sr fun _ k41 => pP 81 mv<|pP 82 nk<|pP 83 (fa ty75 ty35)<|pX 84 (ld ty35)<|bE h fun x42 y42 h => pD 85 (do_callG (bcs := []) [] [] [(80, 0)] 85 false (check_Seal_ok x40.B y42) rfl ent33 trivial trivial rfl rfl rfl rfl rfl rfl rfl rfl (.inr ⟨rfl, rfl, ⟨plain_map (fun _ => rfl), trivial⟩⟩))<|pP 2 asg<|en k41<|aw_ret<|by cases h;exact rB [(85, 0)]
end Go.Proofs.YtjklegmimpehlaaGreat.Ab
