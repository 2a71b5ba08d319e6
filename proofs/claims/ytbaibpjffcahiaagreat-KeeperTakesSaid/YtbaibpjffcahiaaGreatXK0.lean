/- The first state. -/
import Derived.Test.YtbaibpjffcahiaaGreatXKOp
import Derived.Test.YtbaibpjffcahiaaGreatProg
namespace Go.Proofs.YtbaibpjffcahiaaGreat.Ab
open Go Go.RowKit
set_option linter.unusedVariables false
set_option linter.unusedSimpArgs false
set_option maxRecDepth 100000
set_option maxHeartbeats 8000000
structure Arr3_Int where
  c0 : Int
  c1 : Int
  c2 : Int
  deriving DecidableEq
structure Config where
  Idle : Int
  Age : Int
  Most : Int
  Memo : Int
  Cap : Int
  Keep : Int
  Budget : Int
  Horizon : Arr3_Int
  deriving DecidableEq
structure Episode where
  Trace : Trace
  First : Int
  Last : Int
  Sure : Bool
  Spans : List Span
  deriving DecidableEq
structure Verdict where
  Trace : Trace
  Kept : Bool
  deriving DecidableEq
structure Arr8_Int where
  c0 : Int
  c1 : Int
  c2 : Int
  c3 : Int
  c4 : Int
  c5 : Int
  c6 : Int
  c7 : Int
  deriving DecidableEq
structure Counter where
  Count : Int
  Errs : Int
  By : Arr8_Int
  deriving DecidableEq
structure RowG where
  Level : Int
  Window : Int
  Service : ByteArray
  Op : ByteArray
  Counter : Counter
  deriving DecidableEq
structure Edge where
  From : ByteArray
  To : ByteArray
  Count : Int
  Errs : Int
  deriving DecidableEq
structure Exemplar where
  Service : ByteArray
  Op : ByteArray
  Trace : Trace
  Id : Int
  Block : Int
  deriving DecidableEq
structure Block where
  Number : Int
  Born : Int
  Tier : Int
  Episodes : List Episode
  deriving DecidableEq
structure StateG where
  Now : Int
  Sec : Int
  Kept : Int
  Next : Int
  Policy : Rule
  Open : List Episode
  Pending : List Episode
  Memo : List Verdict
  Rows : List RowG
  Edges : List Edge
  Slots : List Exemplar
  Blocks : List Block
def enc82 (x : Episode) : PV := .agg [.int .u64 x.Trace.Hi, .int .u64 x.Trace.Lo, .int .i64 x.First, .int .i64 x.Last, .bool x.Sure, .sl 10 (List.map enc77 x.Spans)]
def enc140 (x : Verdict) : PV := .agg [.int .u64 x.Trace.Hi, .int .u64 x.Trace.Lo, .bool x.Kept]
def enc87 (x : RowG) : PV := .agg [.int .i64 x.Level, .int .i64 x.Window, .str x.Service, .str x.Op, .int .i64 x.Counter.Count, .int .i64 x.Counter.Errs, .int .i64 x.Counter.By.c0, .int .i64 x.Counter.By.c1, .int .i64 x.Counter.By.c2, .int .i64 x.Counter.By.c3, .int .i64 x.Counter.By.c4, .int .i64 x.Counter.By.c5, .int .i64 x.Counter.By.c6, .int .i64 x.Counter.By.c7]
def enc92 (x : Edge) : PV := .agg [.str x.From, .str x.To, .int .i64 x.Count, .int .i64 x.Errs]
def enc94 (x : Exemplar) : PV := .agg [.str x.Service, .str x.Op, .int .u64 x.Trace.Hi, .int .u64 x.Trace.Lo, .int .u64 x.Id, .int .i64 x.Block]
def enc96 (x : Block) : PV := .agg [.int .i64 x.Number, .int .i64 x.Born, .int .i64 x.Tier, .sl 6 (List.map enc82 x.Episodes)]
theorem ty28 : tyOf Tryz.prog 28 = some ⟨.arr 3 3, 3, 24, [.int .i64 0, .int .i64 0, .int .i64 0]⟩ := by kernel_rfl
theorem ty30 : tyOf Tryz.prog 30 = some ⟨.struct [(0, 3), (1, 3), (2, 3), (3, 3), (4, 3), (5, 3), (6, 3), (7, 28)], 10, 80, [.int .i64 0, .int .i64 0, .int .i64 0, .int .i64 0, .int .i64 0, .int .i64 0, .int .i64 0, .int .i64 0, .int .i64 0, .int .i64 0]⟩ := by kernel_rfl
theorem ty35 : tyOf Tryz.prog 35 = some ⟨.slice 83, 1, 24, [.nil]⟩ := by kernel_rfl
theorem ty36 : tyOf Tryz.prog 36 = some ⟨.slice 141, 1, 24, [.nil]⟩ := by kernel_rfl
theorem ty37 : tyOf Tryz.prog 37 = some ⟨.slice 88, 1, 24, [.nil]⟩ := by kernel_rfl
theorem ty38 : tyOf Tryz.prog 38 = some ⟨.slice 93, 1, 24, [.nil]⟩ := by kernel_rfl
theorem ty39 : tyOf Tryz.prog 39 = some ⟨.slice 95, 1, 24, [.nil]⟩ := by kernel_rfl
theorem ty40 : tyOf Tryz.prog 40 = some ⟨.slice 97, 1, 24, [.nil]⟩ := by kernel_rfl
theorem ty42 : tyOf Tryz.prog 42 = some ⟨.struct [(0, 3), (1, 3), (2, 3), (3, 3), (4, 25), (9, 35), (10, 35), (11, 36), (12, 37), (13, 38), (14, 39), (15, 40)], 16, 272, [.int .i64 0, .int .i64 0, .int .i64 0, .int .i64 0, .int .i64 0, .int .i64 0, .str ByteArray.empty, .str ByteArray.empty, .nil, .nil, .nil, .nil, .nil, .nil, .nil, .nil]⟩ := by kernel_rfl
theorem ty83 : tyOf Tryz.prog 83 = some ⟨.struct [(0, 75), (2, 3), (3, 3), (4, 4), (5, 22)], 6, 64, [.int .u64 0, .int .u64 0, .int .i64 0, .int .i64 0, .bool false, .nil]⟩ := by kernel_rfl
theorem ty88 : tyOf Tryz.prog 88 = some ⟨.struct [(0, 3), (1, 3), (2, 9), (3, 9), (4, 86)], 14, 128, [.int .i64 0, .int .i64 0, .str ByteArray.empty, .str ByteArray.empty, .int .i64 0, .int .i64 0, .int .i64 0, .int .i64 0, .int .i64 0, .int .i64 0, .int .i64 0, .int .i64 0, .int .i64 0, .int .i64 0]⟩ := by kernel_rfl
theorem ty97 : tyOf Tryz.prog 97 = some ⟨.struct [(0, 3), (1, 3), (2, 3), (3, 35)], 4, 48, [.int .i64 0, .int .i64 0, .int .i64 0, .nil]⟩ := by kernel_rfl
theorem ent6 : Ent Tryz.prog 6 := eN Tryz.func6
theorem ent18 : Ent Tryz.prog 18 := eN Tryz.func18
theorem ent29 : Ent Tryz.prog 29 := eN Tryz.func29
def gleaningref15_RightConfig_l1 (a0 : Config) (v4_1 : Int) : Option (Int ⊕ (Unit ⊕ Bool)) :=
 if (decide (v4_1 < 4)) = true then (gd (0 ≤ v4_1) (Option.bind ([a0.Idle, a0.Age, a0.Most, a0.Cap][(Int.toNat v4_1)]?) (fun (x14 : Int) => if (decide (x14 < 1)) = true then (some (Sum.inr (Sum.inr false))) else (gd (0 ≤ v4_1) (Option.bind ([a0.Idle, a0.Age, a0.Most, a0.Cap][(Int.toNat v4_1)]?) (fun (x18 : Int) => if (decide ((1073741824 : Int) < x18)) = true then (some (Sum.inr (Sum.inr false))) else (some (Sum.inl (IntKind.i64.wrap (v4_1 + 1)))))))))) else (some (Sum.inr (Sum.inl ())))
def gleaningref15_RightConfig_l3 (a0 : Config) (v5_3 : Int) : Option (Int ⊕ (Unit ⊕ Bool)) :=
 if (decide (v5_3 < 3)) = true then (gd (0 ≤ v5_3) (gd (v5_3 < 3) (Option.bind (([a0.Horizon.c0, a0.Horizon.c1, a0.Horizon.c2] : List Int)[(Int.toNat v5_3)]?) (fun (x33 : Int) => if (decide (x33 < 0)) = true then (some (Sum.inr (Sum.inr false))) else (gd (0 ≤ v5_3) (gd (v5_3 < 3) (Option.bind (([a0.Horizon.c0, a0.Horizon.c1, a0.Horizon.c2] : List Int)[(Int.toNat v5_3)]?) (fun (x38 : Int) => if (decide ((1099511627776 : Int) < x38)) = true then (some (Sum.inr (Sum.inr false))) else (some (Sum.inl (IntKind.i64.wrap (v5_3 + 1)))))))))))) else (some (Sum.inr (Sum.inl ())))
def gleaningref15_RightConfig_k2 (a0 : Config) : Option Bool :=
 if (decide ((0 : Int) ≤ a0.Memo)) = true then (if (decide (a0.Memo ≤ 1000)) = true then (if (decide ((0 : Int) ≤ a0.Keep)) = true then (if (decide (a0.Keep ≤ 1073741824)) = true then (if (decide ((0 : Int) ≤ a0.Budget)) = true then (some (decide (a0.Budget ≤ 1073741824))) else (some false)) else (some false)) else (some false)) else (some false)) else (some false)
def gleaningref15_RightConfig_k0 (a0 : Config) : Option Bool :=
 Option.bind (loopN (fun (s : Int) => gleaningref15_RightConfig_l3 a0 s) Fu 0) (Sum.elim (fun (s : Unit) => gleaningref15_RightConfig_k2 a0) some)
def gleaningref15_RightConfig (a0 : Config) : Option Bool :=
 Option.bind (loopN (fun (s : Int) => gleaningref15_RightConfig_l1 a0 s) Fu 0) (Sum.elim (fun (s : Unit) => gleaningref15_RightConfig_k0 a0) some)
theorem gleaningref15_RightConfig_ok (a0 : Config) {r : Bool} (h : gleaningref15_RightConfig a0 = some r) : Ok Tryz.prog 6 [.agg [.int .i64 a0.Idle, .int .i64 a0.Age, .int .i64 a0.Most, .int .i64 a0.Memo, .int .i64 a0.Cap, .int .i64 a0.Keep, .int .i64 a0.Budget, .int .i64 a0.Horizon.c0, .int .i64 a0.Horizon.c1, .int .i64 a0.Horizon.c2]] [] [] (.bool r) [] [] := by
 refine oK Tryz.func6 rfl fun X => sr fun _ k1 => pD 1 (do_box W_ rfl rfl)<|pP 2 asg<|en k1<|sr fun _ k2 => pP 6 (fa ty30 ty3)<|pX 7 (ld ty3)<|pP 8 (fa ty30 ty3)<|pX 9 (ld ty3)<|pP 10 (fa ty30 ty3)<|pX 11 (ld ty3)<|pP 12 (fa ty30 ty3)<|pX 13 (ld ty3)<|pD 14 (bs (List.map enc2 [a0.Idle, a0.Age, a0.Most, a0.Cap]) ty55 ty3 rfl)<|pP 3 asg<|en k2<|bE h fun q3 h hk4 => aw_cut (fun s => gleaningref15_RightConfig_k0 a0 = some r ∧ s = lit [(1, .ptr 1 0 0)] [((1, 0), .box [.int .i64 a0.Idle, .int .i64 a0.Age, .int .i64 a0.Most, .int .i64 a0.Memo, .int .i64 a0.Cap, .int .i64 a0.Keep, .int .i64 a0.Budget, .int .i64 a0.Horizon.c0, .int .i64 a0.Horizon.c1, .int .i64 a0.Horizon.c2])] [(1, 1)] X) ?_ ?_
 ·skip
  refine sr fun _ k5 => pP 4 asg<|en k5<|aw_block<|aw_loop' (fun m s => ∃ (v4_1 : Int), loopN (fun (s : Int) => gleaningref15_RightConfig_l1 a0 s) m v4_1 = some q3 ∧ s = lit [(1, .ptr 1 0 0), (3, .own 14 0), (4, .int .i64 v4_1)] [((1, 0), .box [.int .i64 a0.Idle, .int .i64 a0.Age, .int .i64 a0.Most, .int .i64 a0.Memo, .int .i64 a0.Cap, .int .i64 a0.Keep, .int .i64 a0.Budget, .int .i64 a0.Horizon.c0, .int .i64 a0.Horizon.c1, .int .i64 a0.Horizon.c2]), ((14, 0), .arr 3 1 false (List.map enc2 [a0.Idle, a0.Age, a0.Most, a0.Cap]))] [(1, 1), (14, 1)] X) Fu
   ⟨_, ra [(1, 0), (14, 0)], 0, h, rfl⟩ ?_
  rintro m s ⟨v4_1, h, rfl⟩
  obtain ⟨m1, q6, rfl, h, hq7⟩ := loop_some h
  replace h : gleaningref15_RightConfig_l1 a0 v4_1 = some q6 := h
  refine aw_seq_k fun _ k8 => sr fun _ k9 => pP 15 mv<|pP 16 bi<|en k9<|wi 16 h (fun c10 h => ?_) fun c10 h => ?_
  ·refine aw_skip<|k8 _<|aw_seq_k fun _ k11 => aw_block<|sr fun _ k12 => pP 19 mv<|pP 20 mv<|gE h fun g13 h => bE h fun x14 y14 h => pX 21 (does_indexAddr_own W_ W_ W_ ty55 ty3 g13 (by exact own_lt y14))<|pX 22 (does_load (v := .int .i64 x14) W_ (cellsAt_eptr W_ (by exact map_get y14)) ty3 R_)<|pP 23 bi<|pP 24 mv<|li 24 h (fun c15 h => ?_) fun c15 h => ?_
   ·refine pS 25<|pS 26<|pS 27<|pS 28<|pS 29<|pP 30 pc<|en k12<|aw_cond_t D_ rfl<|sr fun _ k16 => pP 2 asg<|en k16<|aw_ret<|tk (leafR h hq7) fun h => by cases leafR h hk4;exact rk
   ·refine pP 25 mv<|pP 26 mv<|gE h fun g17 h => bE h fun x18 y18 h => pX 27 (does_indexAddr_own W_ W_ W_ ty55 ty3 g17 (by exact own_lt y18))<|pX 28 (does_load (v := .int .i64 x18) W_ (cellsAt_eptr W_ (by exact map_get y18)) ty3 R_)<|pP 29 bi<|pP 30 pc<|en k12<|wi 30 h (fun c19 h => ?_) fun c19 h => ?_
    ·refine sr fun _ k20 => pP 2 asg<|en k20<|aw_ret<|tk (leafR h hq7) fun h => by cases leafR h hk4;exact rk
    ·refine aw_skip<|k11 _<|aw_regL<|pP 17 mv<|pP 18 bi<|pP 4 asg<|al_nil<|bk (ra [(1, 0), (14, 0)]) ⟨(IntKind.i64.wrap (v4_1 + 1)), leafL h hq7, rfl⟩
  ·refine aw_exit<|tk (leafR h hq7) fun h => tk (leafL h hk4) fun h => ?_
   exact ⟨_, ra [(1, 0)], h, rfl⟩
 ·rintro s ⟨h, rfl⟩
  refine bE h fun q21 h hk22 => aw_cut (fun s => gleaningref15_RightConfig_k2 a0 = some r ∧ s = lit [(1, .ptr 1 0 0)] [((1, 0), .box [.int .i64 a0.Idle, .int .i64 a0.Age, .int .i64 a0.Most, .int .i64 a0.Memo, .int .i64 a0.Cap, .int .i64 a0.Keep, .int .i64 a0.Budget, .int .i64 a0.Horizon.c0, .int .i64 a0.Horizon.c1, .int .i64 a0.Horizon.c2])] [(1, 1)] X) ?_ ?_
  ·skip
   refine sr fun _ k23 => pP 5 asg<|en k23<|aw_block<|aw_loop' (fun m s => ∃ (v5_3 : Int), loopN (fun (s : Int) => gleaningref15_RightConfig_l3 a0 s) m v5_3 = some q21 ∧ s = lit [(1, .ptr 1 0 0), (5, .int .i64 v5_3)] [((1, 0), .box [.int .i64 a0.Idle, .int .i64 a0.Age, .int .i64 a0.Most, .int .i64 a0.Memo, .int .i64 a0.Cap, .int .i64 a0.Keep, .int .i64 a0.Budget, .int .i64 a0.Horizon.c0, .int .i64 a0.Horizon.c1, .int .i64 a0.Horizon.c2])] [(1, 1)] X) Fu
    ⟨_, ra [(1, 0)], 0, h, rfl⟩ ?_
   rintro m s ⟨v5_3, h, rfl⟩
   obtain ⟨m3, q24, rfl, h, hq25⟩ := loop_some h
   replace h : gleaningref15_RightConfig_l3 a0 v5_3 = some q24 := h
   refine aw_seq_k fun _ k26 => sr fun _ k27 => pP 31 mv<|pP 32 bi<|en k27<|wi 32 h (fun c28 h => ?_) fun c28 h => ?_
   ·refine aw_skip<|k26 _<|aw_seq_k fun _ k29 => aw_block<|sr fun _ k30 => pP 35 mv<|pP 36 (fa ty30 ty28)<|gE h fun g31 h => gE h fun g32 h => bE h fun x33 y33 h => pP 37 (does_indexAddr_arr (q := .ptr 1 0 (7 + (Int.toNat v5_3) * 1)) W_ W_ ty28 ty3 g31 g32 rfl)<|pX 38 (does_load (v := .int .i64 x33) W_ (cellsAt_box R_) ty3 (loadPV_arr (off := 7) (f := enc2) (l := [a0.Horizon.c0, a0.Horizon.c1, a0.Horizon.c2]) (pre := [.int .i64 a0.Idle, .int .i64 a0.Age, .int .i64 a0.Most, .int .i64 a0.Memo, .int .i64 a0.Cap, .int .i64 a0.Keep, .int .i64 a0.Budget]) (post := []) (i := (Int.toNat v5_3)) rfl rfl y33))<|pP 39 bi<|pP 40 mv<|li 40 h (fun c34 h => ?_) fun c34 h => ?_
    ·refine pS 41<|pS 42<|pS 43<|pS 44<|pS 45<|pP 46 pc<|en k30<|aw_cond_t D_ rfl<|sr fun _ k35 => pP 2 asg<|en k35<|aw_ret<|tk (leafR h hq25) fun h => by cases leafR h hk22;exact rk
    ·refine pP 41 mv<|pP 42 (fa ty30 ty28)<|gE h fun g36 h => gE h fun g37 h => bE h fun x38 y38 h => pP 43 (does_indexAddr_arr (q := .ptr 1 0 (7 + (Int.toNat v5_3) * 1)) W_ W_ ty28 ty3 g36 g37 rfl)<|pX 44 (does_load (v := .int .i64 x38) W_ (cellsAt_box R_) ty3 (loadPV_arr (off := 7) (f := enc2) (l := [a0.Horizon.c0, a0.Horizon.c1, a0.Horizon.c2]) (pre := [.int .i64 a0.Idle, .int .i64 a0.Age, .int .i64 a0.Most, .int .i64 a0.Memo, .int .i64 a0.Cap, .int .i64 a0.Keep, .int .i64 a0.Budget]) (post := []) (i := (Int.toNat v5_3)) rfl rfl y38))<|pP 45 bi<|pP 46 pc<|en k30<|wi 46 h (fun c39 h => ?_) fun c39 h => ?_
     ·refine sr fun _ k40 => pP 2 asg<|en k40<|aw_ret<|tk (leafR h hq25) fun h => by cases leafR h hk22;exact rk
     ·refine aw_skip<|k29 _<|aw_regL<|pP 33 mv<|pP 34 bi<|pP 5 asg<|al_nil<|bk (ra [(1, 0)]) ⟨(IntKind.i64.wrap (v5_3 + 1)), leafL h hq25, rfl⟩
   ·refine aw_exit<|tk (leafR h hq25) fun h => tk (leafL h hk22) fun h => ?_
    exact ⟨_, ra [(1, 0)], h, rfl⟩
  ·rintro s ⟨h, rfl⟩
   refine sr fun _ k41 => pP 47 (fa ty30 ty3)<|pX 48 (ld ty3)<|pP 49 bi<|pP 50 mv<|li 50 h (fun c42 h => ?_) fun c42 h => ?_
   ·refine pP 51 (fa ty30 ty3)<|pX 52 (ld ty3)<|pP 53 bi<|pP 54 pc<|pP 55 mv<|li 55 h (fun c43 h => ?_) fun c43 h => ?_
    ·refine pP 56 (fa ty30 ty3)<|pX 57 (ld ty3)<|pP 58 bi<|pP 59 pc<|pP 60 mv<|li 60 h (fun c44 h => ?_) fun c44 h => ?_
     ·refine pP 61 (fa ty30 ty3)<|pX 62 (ld ty3)<|pP 63 bi<|pP 64 pc<|pP 65 mv<|li 65 h (fun c45 h => ?_) fun c45 h => ?_
      ·refine pP 66 (fa ty30 ty3)<|pX 67 (ld ty3)<|pP 68 bi<|pP 69 pc<|pP 70 mv<|li 70 h (fun c46 h => ?_) fun c46 h => ?_
       ·refine pP 71 (fa ty30 ty3)<|pX 72 (ld ty3)<|pP 73 bi<|pP 74 pc<|pP 2 asg<|en k41<|aw_ret<|by cases h;exact rk
       ·refine pS 71<|pS 72<|pS 73<|pP 74 pc<|pP 2 asg<|en k41<|aw_ret<|by cases h;exact rk
      ·refine pS 66<|pS 67<|pS 68<|pP 69 pc<|pP 70 mv<|pS 71<|pS 72<|pS 73<|pP 74 pc<|pP 2 asg<|en k41<|aw_ret<|by cases h;exact rk
     ·refine pS 61<|pS 62<|pS 63<|pP 64 pc<|pP 65 mv<|pS 66<|pS 67<|pS 68<|pP 69 pc<|pP 70 mv<|pS 71<|pS 72<|pS 73<|pP 74 pc<|pP 2 asg<|en k41<|aw_ret<|by cases h;exact rk
    ·refine pS 56<|pS 57<|pS 58<|pP 59 pc<|pP 60 mv<|pS 61<|pS 62<|pS 63<|pP 64 pc<|pP 65 mv<|pS 66<|pS 67<|pS 68<|pP 69 pc<|pP 70 mv<|pS 71<|pS 72<|pS 73<|pP 74 pc<|pP 2 asg<|en k41<|aw_ret<|by cases h;exact rk
   ·refine pS 51<|pS 52<|pS 53<|pP 54 pc<|pP 55 mv<|pS 56<|pS 57<|pS 58<|pP 59 pc<|pP 60 mv<|pS 61<|pS 62<|pS 63<|pP 64 pc<|pP 65 mv<|pS 66<|pS 67<|pS 68<|pP 69 pc<|pP 70 mv<|pS 71<|pS 72<|pS 73<|pP 74 pc<|pP 2 asg<|en k41<|aw_ret<|by cases h;exact rk
def gleaningref15_First (a0 : Config) : Option StateG :=
 Option.bind (gleaningref15_RightConfig a0) (fun (x4 : Bool) => if (!x4) = true then (some (StateG.mk 0 0 0 0 (Rule.mk 0 0 (strOf []) (strOf []) []) [] [] [] [] [] [] [])) else (some (StateG.mk 0 0 0 0 (Rule.mk 1 0 (strOf []) (strOf []) []) [] [] [] [] [] [] [])))
theorem gleaningref15_First_ok (a0 : Config) {r : StateG} (h : gleaningref15_First a0 = some r) : Ok Tryz.prog 8 [.agg [.int .i64 a0.Idle, .int .i64 a0.Age, .int .i64 a0.Most, .int .i64 a0.Memo, .int .i64 a0.Cap, .int .i64 a0.Keep, .int .i64 a0.Budget, .int .i64 a0.Horizon.c0, .int .i64 a0.Horizon.c1, .int .i64 a0.Horizon.c2]] [] [] (.agg [.int .i64 r.Now, .int .i64 r.Sec, .int .i64 r.Kept, .int .i64 r.Next, .int .i64 r.Policy.Kind, .int .i64 r.Policy.N, .str r.Policy.Key, .str r.Policy.Value, .sl 5 (List.map enc24 r.Policy.Kids), .sl 6 (List.map enc82 r.Open), .sl 6 (List.map enc82 r.Pending), .sl 3 (List.map enc140 r.Memo), .sl 14 (List.map enc87 r.Rows), .sl 4 (List.map enc92 r.Edges), .sl 6 (List.map enc94 r.Slots), .sl 4 (List.map enc96 r.Blocks)]) [] [] := by
 refine oK Tryz.func8 rfl fun X => sr fun _ k1 => pD 1 (do_box W_ rfl rfl)<|pD 2 (nw ty42)<|en k1<|aw_seq_k fun _ k2 => sr fun _ k3 => pl 3 (.agg [.int .i64 a0.Idle, .int .i64 a0.Age, .int .i64 a0.Most, .int .i64 a0.Memo, .int .i64 a0.Cap, .int .i64 a0.Keep, .int .i64 a0.Budget, .int .i64 a0.Horizon.c0, .int .i64 a0.Horizon.c1, .int .i64 a0.Horizon.c2]) ty30<|bE h fun x4 y4 h => pD 4 (cZ 4 (gleaningref15_RightConfig_ok a0 y4) ent6)<|pP 5 un<|en k3<|wi 5 h (fun c5 h => ?_) fun c5 h => ?_
 ·refine sr fun _ k6 => pP 6 (do_build_struct (cs := [.int .i64 0, .int .i64 0, .int .i64 0, .int .i64 0, .int .i64 0, .int .i64 0, .str (strOf []), .str (strOf []), .nil, .nil, .nil, .nil, .nil, .nil, .nil, .nil]) ty42 rfl [⟨.int .i64, 1, 8, [.int .i64 0]⟩, ⟨.int .i64, 1, 8, [.int .i64 0]⟩, ⟨.int .i64, 1, 8, [.int .i64 0]⟩, ⟨.int .i64, 1, 8, [.int .i64 0]⟩, ⟨.struct [(0, 3), (1, 3), (2, 9), (3, 9), (4, 23)], 5, 72, [.int .i64 0, .int .i64 0, .str ByteArray.empty, .str ByteArray.empty, .nil]⟩, ⟨.slice 83, 1, 24, [.nil]⟩, ⟨.slice 83, 1, 24, [.nil]⟩, ⟨.slice 141, 1, 24, [.nil]⟩, ⟨.slice 88, 1, 24, [.nil]⟩, ⟨.slice 93, 1, 24, [.nil]⟩, ⟨.slice 95, 1, 24, [.nil]⟩, ⟨.slice 97, 1, 24, [.nil]⟩] (by simp only [List.map, ty25, ty3, ty35, ty36, ty37, ty38, ty39, ty40]) (by rfl) R_)<|pZ (sto [.int .i64 0, .int .i64 0, .int .i64 0, .int .i64 0, .int .i64 0, .int .i64 0, .str (strOf []), .str (strOf []), .nil, .nil, .nil, .nil, .nil, .nil, .nil, .nil] ty42)<|en k6<|aw_reb (reb_w (tl' := [(2, .ptr 2 0 0)]) (ol' := [((2, 0), .box [.int .i64 0, .int .i64 0, .int .i64 0, .int .i64 0, .int .i64 0, .int .i64 0, .str (strOf []), .str (strOf []), .sl 5 (List.map enc24 []), .sl 6 (List.map enc82 []), .sl 6 (List.map enc82 []), .sl 3 (List.map enc140 []), .sl 14 (List.map enc87 []), .sl 4 (List.map enc92 []), .sl 6 (List.map enc94 []), .sl 4 (List.map enc96 [])])]) (ra (tl := [(2, .ptr 2 0 0)]) (ol := [((2, 0), .box [.int .i64 0, .int .i64 0, .int .i64 0, .int .i64 0, .int .i64 0, .int .i64 0, .str (strOf []), .str (strOf []), .nil, .nil, .nil, .nil, .nil, .nil, .nil, .nil])]) (nx := [(2, 1)]) [(2, 0)]) ⟨rfl, le_refl _, trivial⟩ ⟨rfl, (.box ⟨le_refl _, le_refl _, le_refl _, le_refl _, le_refl _, le_refl _, le_refl _, le_refl _, le_nil _, le_nil _, le_nil _, le_nil _, le_nil _, le_nil _, le_nil _, le_nil _, trivial⟩), trivial⟩)<|aw_ret<|by cases h;exact rk
 ·refine aw_skip<|k2 _<|sr fun _ k7 => pP 7 (do_build_struct (cs := [.int .i64 1, .int .i64 0, .str (strOf []), .str (strOf []), .nil]) ty25 rfl [⟨.int .i64, 1, 8, [.int .i64 0]⟩, ⟨.int .i64, 1, 8, [.int .i64 0]⟩, ⟨.str, 1, 16, [.str ByteArray.empty]⟩, ⟨.str, 1, 16, [.str ByteArray.empty]⟩, ⟨.slice 25, 1, 24, [.nil]⟩] (by simp only [List.map, ty23, ty3, ty9]) (by rfl) R_)<|pP 8 (do_build_struct (cs := [.int .i64 0, .int .i64 0, .int .i64 0, .int .i64 0, .int .i64 1, .int .i64 0, .str (strOf []), .str (strOf []), .nil, .nil, .nil, .nil, .nil, .nil, .nil, .nil]) ty42 rfl [⟨.int .i64, 1, 8, [.int .i64 0]⟩, ⟨.int .i64, 1, 8, [.int .i64 0]⟩, ⟨.int .i64, 1, 8, [.int .i64 0]⟩, ⟨.int .i64, 1, 8, [.int .i64 0]⟩, ⟨.struct [(0, 3), (1, 3), (2, 9), (3, 9), (4, 23)], 5, 72, [.int .i64 0, .int .i64 0, .str ByteArray.empty, .str ByteArray.empty, .nil]⟩, ⟨.slice 83, 1, 24, [.nil]⟩, ⟨.slice 83, 1, 24, [.nil]⟩, ⟨.slice 141, 1, 24, [.nil]⟩, ⟨.slice 88, 1, 24, [.nil]⟩, ⟨.slice 93, 1, 24, [.nil]⟩, ⟨.slice 95, 1, 24, [.nil]⟩, ⟨.slice 97, 1, 24, [.nil]⟩] (by simp only [List.map, ty25, ty3, ty35, ty36, ty37, ty38, ty39, ty40]) (by rfl) R_)<|pZ (sto [.int .i64 0, .int .i64 0, .int .i64 0, .int .i64 0, .int .i64 1, .int .i64 0, .str (strOf []), .str (strOf []), .nil, .nil, .nil, .nil, .nil, .nil, .nil, .nil] ty42)<|en k7<|aw_reb (reb_w (tl' := [(2, .ptr 2 0 0)]) (ol' := [((2, 0), .box [.int .i64 0, .int .i64 0, .int .i64 0, .int .i64 0, .int .i64 1, .int .i64 0, .str (strOf []), .str (strOf []), .sl 5 (List.map enc24 []), .sl 6 (List.map enc82 []), .sl 6 (List.map enc82 []), .sl 3 (List.map enc140 []), .sl 14 (List.map enc87 []), .sl 4 (List.map enc92 []), .sl 6 (List.map enc94 []), .sl 4 (List.map enc96 [])])]) (ra (tl := [(2, .ptr 2 0 0)]) (ol := [((2, 0), .box [.int .i64 0, .int .i64 0, .int .i64 0, .int .i64 0, .int .i64 1, .int .i64 0, .str (strOf []), .str (strOf []), .nil, .nil, .nil, .nil, .nil, .nil, .nil, .nil])]) (nx := [(2, 1)]) [(2, 0)]) ⟨rfl, le_refl _, trivial⟩ ⟨rfl, (.box ⟨le_refl _, le_refl _, le_refl _, le_refl _, le_refl _, le_refl _, le_refl _, le_refl _, le_nil _, le_nil _, le_nil _, le_nil _, le_nil _, le_nil _, le_nil _, le_nil _, trivial⟩), trivial⟩)<|aw_ret<|by cases h;exact rk
def gleaningref15_count (a0 : Int) : Option Bool :=
 if (decide ((0 : Int) ≤ a0)) = true then (some (decide (a0 ≤ 1099511627776))) else (some false)
theorem gleaningref15_count_ok (a0 : Int) {r : Bool} (h : gleaningref15_count a0 = some r) : Ok Tryz.prog 29 [.int .i64 a0] [] [] (.bool r) [] [] := by
 refine oK Tryz.func29 rfl fun X => sr fun _ k1 => pP 2 asg<|en k1<|sr fun _ k2 => pP 3 mv<|pP 4 bi<|pP 5 mv<|li 5 h (fun c3 h => ?_) fun c3 h => ?_
 ·refine pP 6 mv<|pP 7 bi<|pP 8 pc<|pP 2 asg<|en k2<|aw_ret<|by cases h;exact rk
 ·refine pS 6<|pS 7<|pP 8 pc<|pP 2 asg<|en k2<|aw_ret<|by cases h;exact rk
def gleaningref15_RightState_l2 (a0 : StateG) : Option (Unit ⊕ (Unit ⊕ Bool)) :=
 if (decide ((0 : Int) < (List.length (a0.Open ++ a0.Pending) : Int))) = true then none else (some (Sum.inr (Sum.inl ())))
def gleaningref15_RightState_l4 (a0 : StateG) : Option (Unit ⊕ (Unit ⊕ Bool)) :=
 if (decide ((0 : Int) < (List.length a0.Rows : Int))) = true then (Option.bind (a0.Rows[0]?) (fun (x43 : RowG) => none)) else (some (Sum.inr (Sum.inl ())))
def gleaningref15_RightState_l6 (a0 : StateG) : Option (Unit ⊕ (Unit ⊕ Bool)) :=
 if (decide ((0 : Int) < (List.length a0.Edges : Int))) = true then none else (some (Sum.inr (Sum.inl ())))
def gleaningref15_RightState_l8 (a0 : StateG) : Option (Unit ⊕ (Unit ⊕ Bool)) :=
 if (decide ((0 : Int) < (List.length a0.Slots : Int))) = true then none else (some (Sum.inr (Sum.inl ())))
def gleaningref15_RightState_l9 (a0 : StateG) (v13_9 : Int) : Option (Int ⊕ Bool) :=
 if (decide (v13_9 < (List.length a0.Blocks : Int))) = true then (gd (0 ≤ v13_9) (Option.bind (a0.Blocks[(Int.toNat v13_9)]?) (fun (x75 : Block) => Option.bind (gleaningref15_count x75.Number) (fun (x76 : Bool) => if (!x76) = true then (some (Sum.inr false)) else (gd (0 ≤ v13_9) (Option.bind (a0.Blocks[(Int.toNat v13_9)]?) (fun (x80 : Block) => Option.bind (gleaningref15_count x80.Born) (fun (x81 : Bool) => if (!x81) = true then (some (Sum.inr false)) else (gd (0 ≤ v13_9) (Option.bind (a0.Blocks[(Int.toNat v13_9)]?) (fun (x85 : Block) => Option.bind (gleaningref15_count x85.Tier) (fun (x86 : Bool) => if (!x86) = true then (some (Sum.inr false)) else (some (Sum.inl (IntKind.i64.wrap (v13_9 + 1)))))))))))))))) else (some (Sum.inr true))
def gleaningref15_RightState_k7 (a0 : StateG) : Option Bool :=
 loopN (fun (s : Int) => gleaningref15_RightState_l9 a0 s) Fu 0
def gleaningref15_RightState_k5 (a0 : StateG) : Option Bool :=
 Option.bind (loopN (fun (s : Unit) => gleaningref15_RightState_l8 a0) Fu ()) (Sum.elim (fun (s : Unit) => gleaningref15_RightState_k7 a0) some)
def gleaningref15_RightState_k3 (a0 : StateG) : Option Bool :=
 Option.bind (loopN (fun (s : Unit) => gleaningref15_RightState_l6 a0) Fu ()) (Sum.elim (fun (s : Unit) => gleaningref15_RightState_k5 a0) some)
def gleaningref15_RightState_k1 (a0 : StateG) : Option Bool :=
 Option.bind (loopN (fun (s : Unit) => gleaningref15_RightState_l4 a0) Fu ()) (Sum.elim (fun (s : Unit) => gleaningref15_RightState_k3 a0) some)
def gleaningref15_RightState_k0 (a0 : StateG) : Option Bool :=
 gd ((List.length a0.Open) * 64 ≤ 140737488355328 ∧ (List.length a0.Open) ≤ 140737488355328) (gd ((List.length (a0.Open ++ a0.Pending)) * 64 ≤ 140737488355328 ∧ (List.length (a0.Open ++ a0.Pending)) ≤ 140737488355328) (Option.bind (loopN (fun (s : Unit) => gleaningref15_RightState_l2 a0) Fu ()) (Sum.elim (fun (s : Unit) => gleaningref15_RightState_k1 a0) some)))
def gleaningref15_RightState (a0 : StateG) : Option Bool :=
 Option.bind (Option.bind (gleaningref15_count a0.Now) (fun (x5 : Bool) => if (!x5) = true then (some (Sum.inr false)) else (Option.bind (gleaningref15_count a0.Sec) (fun (x8 : Bool) => if (!x8) = true then (some (Sum.inr false)) else (Option.bind (gleaningref15_count a0.Kept) (fun (x11 : Bool) => if (!x11) = true then (some (Sum.inr false)) else (Option.bind (gleaningref15_count a0.Next) (fun (x14 : Bool) => if (!x14) = true then (some (Sum.inr false)) else (Option.bind (gleaningref1_RightRule a0.Policy) (fun (x17 : Bool) => if (!x17) = true then (some (Sum.inr false)) else (some (Sum.inl ())))))))))))) (Sum.elim (fun (s : Unit) => gleaningref15_RightState_k0 a0) some)
theorem gleaningref15_RightState_ok (a0 : StateG) {r : Bool} (h : gleaningref15_RightState a0 = some r) : Ok Tryz.prog 14 [.agg [.int .i64 a0.Now, .int .i64 a0.Sec, .int .i64 a0.Kept, .int .i64 a0.Next, .int .i64 a0.Policy.Kind, .int .i64 a0.Policy.N, .str a0.Policy.Key, .str a0.Policy.Value, .sl 5 (List.map enc24 a0.Policy.Kids), .sl 6 (List.map enc82 a0.Open), .sl 6 (List.map enc82 a0.Pending), .sl 3 (List.map enc140 a0.Memo), .sl 14 (List.map enc87 a0.Rows), .sl 4 (List.map enc92 a0.Edges), .sl 6 (List.map enc94 a0.Slots), .sl 4 (List.map enc96 a0.Blocks)]] [] [] (.bool r) [] [] := by
 refine oK Tryz.func14 rfl fun X => sr fun _ k1 => pD 1 (do_box W_ rfl rfl)<|pP 2 asg<|en k1<|bE h fun q2 h hk3 => aw_cut (fun s => gleaningref15_RightState_k0 a0 = some r ∧ s = lit [(1, .ptr 1 0 0)] [((1, 0), .box [.int .i64 a0.Now, .int .i64 a0.Sec, .int .i64 a0.Kept, .int .i64 a0.Next, .int .i64 a0.Policy.Kind, .int .i64 a0.Policy.N, .str a0.Policy.Key, .str a0.Policy.Value, .sl 5 (List.map enc24 a0.Policy.Kids), .sl 6 (List.map enc82 a0.Open), .sl 6 (List.map enc82 a0.Pending), .sl 3 (List.map enc140 a0.Memo), .sl 14 (List.map enc87 a0.Rows), .sl 4 (List.map enc92 a0.Edges), .sl 6 (List.map enc94 a0.Slots), .sl 4 (List.map enc96 a0.Blocks)])] [(1, 1)] X) ?_ ?_
 ·skip
  refine sr fun _ k4 => pP 14 (fa ty42 ty3)<|pX 15 (ld ty3)<|bE h fun x5 y5 h => pD 16 (cz 16 (.bool x5) (gleaningref15_count_ok a0.Now y5) ent29)<|pP 17 un<|pP 18 mv<|li 18 h (fun c6 h => ?_) fun c6 h => ?_
  ·refine pS 19<|pS 20<|pS 21<|pS 22<|pP 23 pc<|pP 24 mv<|pS 25<|pS 26<|pS 27<|pS 28<|pP 29 pc<|pP 30 mv<|pS 31<|pS 32<|pS 33<|pS 34<|pP 35 pc<|pP 36 mv<|pS 37<|pS 38<|pS 39<|pS 40<|pP 41 pc<|en k4<|aw_cond_t D_ rfl<|sr fun _ k7 => pP 2 asg<|en k7<|aw_ret<|by cases leafR h hk3;exact rk
  ·refine pP 19 (fa ty42 ty3)<|pX 20 (ld ty3)<|bE h fun x8 y8 h => pD 21 (cz 21 (.bool x8) (gleaningref15_count_ok a0.Sec y8) ent29)<|pP 22 un<|pP 23 pc<|pP 24 mv<|li 24 h (fun c9 h => ?_) fun c9 h => ?_
   ·refine pS 25<|pS 26<|pS 27<|pS 28<|pP 29 pc<|pP 30 mv<|pS 31<|pS 32<|pS 33<|pS 34<|pP 35 pc<|pP 36 mv<|pS 37<|pS 38<|pS 39<|pS 40<|pP 41 pc<|en k4<|aw_cond_t D_ rfl<|sr fun _ k10 => pP 2 asg<|en k10<|aw_ret<|by cases leafR h hk3;exact rk
   ·refine pP 25 (fa ty42 ty3)<|pX 26 (ld ty3)<|bE h fun x11 y11 h => pD 27 (cz 27 (.bool x11) (gleaningref15_count_ok a0.Kept y11) ent29)<|pP 28 un<|pP 29 pc<|pP 30 mv<|li 30 h (fun c12 h => ?_) fun c12 h => ?_
    ·refine pS 31<|pS 32<|pS 33<|pS 34<|pP 35 pc<|pP 36 mv<|pS 37<|pS 38<|pS 39<|pS 40<|pP 41 pc<|en k4<|aw_cond_t D_ rfl<|sr fun _ k13 => pP 2 asg<|en k13<|aw_ret<|by cases leafR h hk3;exact rk
    ·refine pP 31 (fa ty42 ty3)<|pX 32 (ld ty3)<|bE h fun x14 y14 h => pD 33 (cz 33 (.bool x14) (gleaningref15_count_ok a0.Next y14) ent29)<|pP 34 un<|pP 35 pc<|pP 36 mv<|li 36 h (fun c15 h => ?_) fun c15 h => ?_
     ·refine pS 37<|pS 38<|pS 39<|pS 40<|pP 41 pc<|en k4<|aw_cond_t D_ rfl<|sr fun _ k16 => pP 2 asg<|en k16<|aw_ret<|by cases leafR h hk3;exact rk
     ·refine pP 37 (fa ty42 ty25)<|pl 38 (.agg [.int .i64 a0.Policy.Kind, .int .i64 a0.Policy.N, .str a0.Policy.Key, .str a0.Policy.Value, .sl 5 (List.map enc24 a0.Policy.Kids)]) ty25<|bE h fun x17 y17 h => pD 39 (cz 39 (.bool x17) (gleaningref1_RightRule_ok a0.Policy y17) ent18)<|pP 40 un<|pP 41 pc<|en k4<|wi 41 h (fun c18 h => ?_) fun c18 h => ?_
      ·refine sr fun _ k19 => pP 2 asg<|en k19<|aw_ret<|by cases leafR h hk3;exact rk
      ·refine aw_skip<|tk (leafL h hk3) fun h => ?_
       exact ⟨_, ra [(1, 0)], h, rfl⟩
 ·rintro s ⟨h, rfl⟩
  refine aw_seq_k fun _ k20 => aw_regd (by kernel_rfl) (by decide +kernel)<|qP 42 (fa ty42 ty35)<|qR 43 (ld ty35)<|gE h fun g21 h => qD 44 (do_append (v := List.map enc82 a0.Open) W_ W_ ty35 ty83 rfl rfl W_ (by first | exact .inl rfl | exact .inr ⟨rfl, rfl⟩) W_ (by first | exact .inr rfl | exact .inl rfl) (List.nil_append _) (fit_map g21))<|qP 45 (fa ty42 ty35)<|qR 46 (ld ty35)<|gE h fun g22 h => qD 47 (do_append (v := List.map enc82 (a0.Open ++ a0.Pending)) W_ W_ ty35 ty83 rfl rfl W_ (by first | exact .inl rfl | exact .inr ⟨rfl, rfl⟩) W_ (by first | exact .inr rfl | exact .inl rfl) (map_app _ _) (fit_map g22))<|qP 3 asg<|ao_nil_d (by kernel_rfl)<|k20 _<|bE h fun q23 h hk24 => aw_cut (fun s => gleaningref15_RightState_k1 a0 = some r ∧ s = lit [(1, .ptr 1 0 0)] [((1, 0), .box [.int .i64 a0.Now, .int .i64 a0.Sec, .int .i64 a0.Kept, .int .i64 a0.Next, .int .i64 a0.Policy.Kind, .int .i64 a0.Policy.N, .str a0.Policy.Key, .str a0.Policy.Value, .sl 5 (List.map enc24 a0.Policy.Kids), .sl 6 (List.map enc82 a0.Open), .sl 6 (List.map enc82 a0.Pending), .sl 3 (List.map enc140 a0.Memo), .sl 14 (List.map enc87 a0.Rows), .sl 4 (List.map enc92 a0.Edges), .sl 6 (List.map enc94 a0.Slots), .sl 4 (List.map enc96 a0.Blocks)])] [(1, 1)] X) ?_ ?_
  ·skip
   refine sr fun _ k25 => pP 4 asg<|en k25<|aw_block<|aw_loop' (fun m s => loopN (fun (s : Unit) => gleaningref15_RightState_l2 a0) m () = some q23 ∧ s = lit [(1, .ptr 1 0 0), (3, .own 47 0), (4, .int .i64 0)] [((1, 0), .box [.int .i64 a0.Now, .int .i64 a0.Sec, .int .i64 a0.Kept, .int .i64 a0.Next, .int .i64 a0.Policy.Kind, .int .i64 a0.Policy.N, .str a0.Policy.Key, .str a0.Policy.Value, .sl 5 (List.map enc24 a0.Policy.Kids), .sl 6 (List.map enc82 a0.Open), .sl 6 (List.map enc82 a0.Pending), .sl 3 (List.map enc140 a0.Memo), .sl 14 (List.map enc87 a0.Rows), .sl 4 (List.map enc92 a0.Edges), .sl 6 (List.map enc94 a0.Slots), .sl 4 (List.map enc96 a0.Blocks)]), ((47, 0), .arr 83 6 false (List.map enc82 (a0.Open ++ a0.Pending)))] [(1, 1), (47, 1)] X) Fu
    ⟨_, ra [(1, 0), (47, 0)], h, rfl⟩ ?_
   rintro m s ⟨h, rfl⟩
   obtain ⟨m2, q26, rfl, h, hq27⟩ := loop_some h
   replace h : gleaningref15_RightState_l2 a0 = some q26 := h
   refine aw_seq_k fun _ k28 => sr fun _ k29 => pP 48 mv<|pP 49 mv<|pX 50 ((does_len_own W_ W_ ty35).cast (v' := .int .i64 (List.length (a0.Open ++ a0.Pending) : Int)) (by exact len_map _))<|pP 51 bi<|en k29<|wi 51 h (fun c30 h => ?_) fun c30 h => ?_
   ·refine aw_skip<|k28 _<|aw_seq_k fun _ k31 => aw_block<|aw_seq_k fun _ k32 => ?_
    cases h
   ·refine aw_exit<|tk (leafR h hq27) fun h => tk (leafL h hk24) fun h => ?_
    exact ⟨_, ra [(1, 0)], h, rfl⟩
  ·rintro s ⟨h, rfl⟩
   refine bE h fun q33 h hk34 => aw_cut (fun s => gleaningref15_RightState_k3 a0 = some r ∧ s = lit [(1, .ptr 1 0 0)] [((1, 0), .box [.int .i64 a0.Now, .int .i64 a0.Sec, .int .i64 a0.Kept, .int .i64 a0.Next, .int .i64 a0.Policy.Kind, .int .i64 a0.Policy.N, .str a0.Policy.Key, .str a0.Policy.Value, .sl 5 (List.map enc24 a0.Policy.Kids), .sl 6 (List.map enc82 a0.Open), .sl 6 (List.map enc82 a0.Pending), .sl 3 (List.map enc140 a0.Memo), .sl 14 (List.map enc87 a0.Rows), .sl 4 (List.map enc92 a0.Edges), .sl 6 (List.map enc94 a0.Slots), .sl 4 (List.map enc96 a0.Blocks)])] [(1, 1)] X) ?_ ?_
   ·skip
    refine sr fun _ k35 => pP 5 asg<|en k35<|aw_block<|aw_loop' (fun m s => loopN (fun (s : Unit) => gleaningref15_RightState_l4 a0) m () = some q33 ∧ s = lit [(1, .ptr 1 0 0), (5, .int .i64 0)] [((1, 0), .box [.int .i64 a0.Now, .int .i64 a0.Sec, .int .i64 a0.Kept, .int .i64 a0.Next, .int .i64 a0.Policy.Kind, .int .i64 a0.Policy.N, .str a0.Policy.Key, .str a0.Policy.Value, .sl 5 (List.map enc24 a0.Policy.Kids), .sl 6 (List.map enc82 a0.Open), .sl 6 (List.map enc82 a0.Pending), .sl 3 (List.map enc140 a0.Memo), .sl 14 (List.map enc87 a0.Rows), .sl 4 (List.map enc92 a0.Edges), .sl 6 (List.map enc94 a0.Slots), .sl 4 (List.map enc96 a0.Blocks)])] [(1, 1)] X) Fu
     ⟨_, ra [(1, 0)], h, rfl⟩ ?_
    rintro m s ⟨h, rfl⟩
    obtain ⟨m4, q36, rfl, h, hq37⟩ := loop_some h
    replace h : gleaningref15_RightState_l4 a0 = some q36 := h
    refine aw_seq_k fun _ k38 => sr fun _ k39 => pP 60 mv<|pP 61 (fa ty42 ty37)<|pX 62 (ld ty37)<|pP 63 (zl ty37)<|pP 64 bi<|en k39<|wi 64 h (fun c40 h => ?_) fun c40 h => ?_
    ·refine aw_skip<|k38 _<|aw_seq_k fun _ k41 => aw_block<|sr fun _ k42 => pP 67 (fa ty42 ty37)<|pX 68 (ld ty37)<|pP 69 mv<|bE h fun x43 y43 h => pP 70 (ja ty37 ty88 y43)<|pl 71 (.agg [.int .i64 x43.Level, .int .i64 x43.Window, .str x43.Service, .str x43.Op, .int .i64 x43.Counter.Count, .int .i64 x43.Counter.Errs, .int .i64 x43.Counter.By.c0, .int .i64 x43.Counter.By.c1, .int .i64 x43.Counter.By.c2, .int .i64 x43.Counter.By.c3, .int .i64 x43.Counter.By.c4, .int .i64 x43.Counter.By.c5, .int .i64 x43.Counter.By.c6, .int .i64 x43.Counter.By.c7]) ty88<|pD 6 (nw ty88)<|pZ (sto [.int .i64 x43.Level, .int .i64 x43.Window, .str x43.Service, .str x43.Op, .int .i64 x43.Counter.Count, .int .i64 x43.Counter.Errs, .int .i64 x43.Counter.By.c0, .int .i64 x43.Counter.By.c1, .int .i64 x43.Counter.By.c2, .int .i64 x43.Counter.By.c3, .int .i64 x43.Counter.By.c4, .int .i64 x43.Counter.By.c5, .int .i64 x43.Counter.By.c6, .int .i64 x43.Counter.By.c7] ty88)<|en k42<|aw_seq_k fun _ k44 => ?_
     cases h
    ·refine aw_exit<|tk (leafR h hq37) fun h => tk (leafL h hk34) fun h => ?_
     exact ⟨_, ra [(1, 0)], h, rfl⟩
   ·rintro s ⟨h, rfl⟩
    refine bE h fun q45 h hk46 => aw_cut (fun s => gleaningref15_RightState_k5 a0 = some r ∧ s = lit [(1, .ptr 1 0 0)] [((1, 0), .box [.int .i64 a0.Now, .int .i64 a0.Sec, .int .i64 a0.Kept, .int .i64 a0.Next, .int .i64 a0.Policy.Kind, .int .i64 a0.Policy.N, .str a0.Policy.Key, .str a0.Policy.Value, .sl 5 (List.map enc24 a0.Policy.Kids), .sl 6 (List.map enc82 a0.Open), .sl 6 (List.map enc82 a0.Pending), .sl 3 (List.map enc140 a0.Memo), .sl 14 (List.map enc87 a0.Rows), .sl 4 (List.map enc92 a0.Edges), .sl 6 (List.map enc94 a0.Slots), .sl 4 (List.map enc96 a0.Blocks)])] [(1, 1)] X) ?_ ?_
    ·skip
     refine sr fun _ k47 => pP 11 asg<|en k47<|aw_block<|aw_loop' (fun m s => loopN (fun (s : Unit) => gleaningref15_RightState_l6 a0) m () = some q45 ∧ s = lit [(1, .ptr 1 0 0), (11, .int .i64 0)] [((1, 0), .box [.int .i64 a0.Now, .int .i64 a0.Sec, .int .i64 a0.Kept, .int .i64 a0.Next, .int .i64 a0.Policy.Kind, .int .i64 a0.Policy.N, .str a0.Policy.Key, .str a0.Policy.Value, .sl 5 (List.map enc24 a0.Policy.Kids), .sl 6 (List.map enc82 a0.Open), .sl 6 (List.map enc82 a0.Pending), .sl 3 (List.map enc140 a0.Memo), .sl 14 (List.map enc87 a0.Rows), .sl 4 (List.map enc92 a0.Edges), .sl 6 (List.map enc94 a0.Slots), .sl 4 (List.map enc96 a0.Blocks)])] [(1, 1)] X) Fu
      ⟨_, ra [(1, 0)], h, rfl⟩ ?_
     rintro m s ⟨h, rfl⟩
     obtain ⟨m6, q48, rfl, h, hq49⟩ := loop_some h
     replace h : gleaningref15_RightState_l6 a0 = some q48 := h
     refine aw_seq_k fun _ k50 => sr fun _ k51 => pP 119 mv<|pP 120 (fa ty42 ty38)<|pX 121 (ld ty38)<|pP 122 (zl ty38)<|pP 123 bi<|en k51<|wi 123 h (fun c52 h => ?_) fun c52 h => ?_
     ·refine aw_skip<|k50 _<|aw_seq_k fun _ k53 => aw_block<|aw_seq_k fun _ k54 => ?_
      cases h
     ·refine aw_exit<|tk (leafR h hq49) fun h => tk (leafL h hk46) fun h => ?_
      exact ⟨_, ra [(1, 0)], h, rfl⟩
    ·rintro s ⟨h, rfl⟩
     refine bE h fun q55 h hk56 => aw_cut (fun s => gleaningref15_RightState_k7 a0 = some r ∧ s = lit [(1, .ptr 1 0 0)] [((1, 0), .box [.int .i64 a0.Now, .int .i64 a0.Sec, .int .i64 a0.Kept, .int .i64 a0.Next, .int .i64 a0.Policy.Kind, .int .i64 a0.Policy.N, .str a0.Policy.Key, .str a0.Policy.Value, .sl 5 (List.map enc24 a0.Policy.Kids), .sl 6 (List.map enc82 a0.Open), .sl 6 (List.map enc82 a0.Pending), .sl 3 (List.map enc140 a0.Memo), .sl 14 (List.map enc87 a0.Rows), .sl 4 (List.map enc92 a0.Edges), .sl 6 (List.map enc94 a0.Slots), .sl 4 (List.map enc96 a0.Blocks)])] [(1, 1)] X) ?_ ?_
     ·skip
      refine sr fun _ k57 => pP 12 asg<|en k57<|aw_block<|aw_loop' (fun m s => loopN (fun (s : Unit) => gleaningref15_RightState_l8 a0) m () = some q55 ∧ s = lit [(1, .ptr 1 0 0), (12, .int .i64 0)] [((1, 0), .box [.int .i64 a0.Now, .int .i64 a0.Sec, .int .i64 a0.Kept, .int .i64 a0.Next, .int .i64 a0.Policy.Kind, .int .i64 a0.Policy.N, .str a0.Policy.Key, .str a0.Policy.Value, .sl 5 (List.map enc24 a0.Policy.Kids), .sl 6 (List.map enc82 a0.Open), .sl 6 (List.map enc82 a0.Pending), .sl 3 (List.map enc140 a0.Memo), .sl 14 (List.map enc87 a0.Rows), .sl 4 (List.map enc92 a0.Edges), .sl 6 (List.map enc94 a0.Slots), .sl 4 (List.map enc96 a0.Blocks)])] [(1, 1)] X) Fu
       ⟨_, ra [(1, 0)], h, rfl⟩ ?_
      rintro m s ⟨h, rfl⟩
      obtain ⟨m8, q58, rfl, h, hq59⟩ := loop_some h
      replace h : gleaningref15_RightState_l8 a0 = some q58 := h
      refine aw_seq_k fun _ k60 => sr fun _ k61 => pP 164 mv<|pP 165 (fa ty42 ty39)<|pX 166 (ld ty39)<|pP 167 (zl ty39)<|pP 168 bi<|en k61<|wi 168 h (fun c62 h => ?_) fun c62 h => ?_
      ·refine aw_skip<|k60 _<|aw_seq_k fun _ k63 => aw_block<|aw_seq_k fun _ k64 => ?_
       cases h
      ·refine aw_exit<|tk (leafR h hq59) fun h => tk (leafL h hk56) fun h => ?_
       exact ⟨_, ra [(1, 0)], h, rfl⟩
     ·rintro s ⟨h, rfl⟩
      unfold gleaningref15_RightState_k7 at h
      refine aw_seq_k fun _ k65 => sr fun _ k66 => pP 13 asg<|en k66<|aw_block<|aw_loop' (fun m s => ∃ (v13_9 : Int), loopN (fun (s : Int) => gleaningref15_RightState_l9 a0 s) m v13_9 = some r ∧ s = lit [(1, .ptr 1 0 0), (13, .int .i64 v13_9)] [((1, 0), .box [.int .i64 a0.Now, .int .i64 a0.Sec, .int .i64 a0.Kept, .int .i64 a0.Next, .int .i64 a0.Policy.Kind, .int .i64 a0.Policy.N, .str a0.Policy.Key, .str a0.Policy.Value, .sl 5 (List.map enc24 a0.Policy.Kids), .sl 6 (List.map enc82 a0.Open), .sl 6 (List.map enc82 a0.Pending), .sl 3 (List.map enc140 a0.Memo), .sl 14 (List.map enc87 a0.Rows), .sl 4 (List.map enc92 a0.Edges), .sl 6 (List.map enc94 a0.Slots), .sl 4 (List.map enc96 a0.Blocks)])] [(1, 1)] X) Fu
       ⟨_, ra [(1, 0)], 0, h, rfl⟩ ?_
      rintro m s ⟨v13_9, h, rfl⟩
      obtain ⟨m9, q67, rfl, h, hq68⟩ := loop_some h
      replace h : gleaningref15_RightState_l9 a0 v13_9 = some q67 := h
      refine aw_seq_k fun _ k69 => sr fun _ k70 => pP 199 mv<|pP 200 (fa ty42 ty40)<|pX 201 (ld ty40)<|pP 202 (zl ty40)<|pP 203 bi<|en k70<|wi 203 h (fun c71 h => ?_) fun c71 h => ?_
      ·refine aw_skip<|k69 _<|aw_seq_k fun _ k72 => aw_block<|sr fun _ k73 => pP 206 (fa ty42 ty40)<|pX 207 (ld ty40)<|pP 208 mv<|gE h fun g74 h => bE h fun x75 y75 h => pP 209 (ia ty40 ty97 g74 y75)<|pP 210 (fa ty97 ty3)<|pX 211 (ld ty3)<|bE h fun x76 y76 h => pD 212 (cz 212 (.bool x76) (gleaningref15_count_ok x75.Number y76) ent29)<|pP 213 un<|pP 214 mv<|li 214 h (fun c77 h => ?_) fun c77 h => ?_
       ·refine pS 215<|pS 216<|pS 217<|pS 218<|pS 219<|pS 220<|pS 221<|pS 222<|pP 223 pc<|pP 224 mv<|pS 225<|pS 226<|pS 227<|pS 228<|pS 229<|pS 230<|pS 231<|pS 232<|pP 233 pc<|en k73<|aw_cond_t D_ rfl<|sr fun _ k78 => pP 2 asg<|en k78<|aw_ret<|by cases leafR h hq68;exact rk
       ·refine pP 215 (fa ty42 ty40)<|pX 216 (ld ty40)<|pP 217 mv<|gE h fun g79 h => bE h fun x80 y80 h => pP 218 (ia ty40 ty97 g79 y80)<|pP 219 (fa ty97 ty3)<|pX 220 (ld ty3)<|bE h fun x81 y81 h => pD 221 (cz 221 (.bool x81) (gleaningref15_count_ok x80.Born y81) ent29)<|pP 222 un<|pP 223 pc<|pP 224 mv<|li 224 h (fun c82 h => ?_) fun c82 h => ?_
        ·refine pS 225<|pS 226<|pS 227<|pS 228<|pS 229<|pS 230<|pS 231<|pS 232<|pP 233 pc<|en k73<|aw_cond_t D_ rfl<|sr fun _ k83 => pP 2 asg<|en k83<|aw_ret<|by cases leafR h hq68;exact rk
        ·refine pP 225 (fa ty42 ty40)<|pX 226 (ld ty40)<|pP 227 mv<|gE h fun g84 h => bE h fun x85 y85 h => pP 228 (ia ty40 ty97 g84 y85)<|pP 229 (fa ty97 ty3)<|pX 230 (ld ty3)<|bE h fun x86 y86 h => pD 231 (cz 231 (.bool x86) (gleaningref15_count_ok x85.Tier y86) ent29)<|pP 232 un<|pP 233 pc<|en k73<|wi 233 h (fun c87 h => ?_) fun c87 h => ?_
         ·refine sr fun _ k88 => pP 2 asg<|en k88<|aw_ret<|by cases leafR h hq68;exact rk
         ·refine aw_skip<|k72 _<|aw_regL<|pP 204 mv<|pP 205 bi<|pP 13 asg<|al_nil<|bk (ra [(1, 0)]) ⟨(IntKind.i64.wrap (v13_9 + 1)), leafL h hq68, rfl⟩
      ·refine aw_exit<|tk (leafR h hq68) fun h => k65 _<|sr fun _ k89 => pP 2 asg<|en k89<|aw_ret<|by cases h;exact rk
end Go.Proofs.YtbaibpjffcahiaaGreat.Ab
