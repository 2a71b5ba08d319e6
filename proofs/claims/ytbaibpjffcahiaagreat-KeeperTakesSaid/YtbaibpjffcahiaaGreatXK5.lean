/- A tick. -/
import Derived.Test.YtbaibpjffcahiaaGreatXK4
import Derived.Test.YtbaibpjffcahiaaGreatProg
namespace Go.Proofs.YtbaibpjffcahiaaGreat.Ab
open Go Go.RowKit
set_option linter.unusedVariables false
set_option linter.unusedSimpArgs false
set_option maxRecDepth 100000
set_option maxHeartbeats 8000000
theorem ent41 : Ent Tryz.prog 41 := eN Tryz.func41
theorem ent45 : Ent Tryz.prog 45 := eN Tryz.func45
theorem ent47 : Ent Tryz.prog 47 := eN Tryz.func47
def gleaningref15_Close_l1 (a0 : List Episode) : Option (Unit ⊕ Unit) :=
 if (decide ((0 : Int) < (List.length a0 : Int))) = true then none else (some (Sum.inr ()))
def gleaningref15_Close_k0 : Option (List Episode × List Episode) :=
 some ([], [])
def gleaningref15_Close (a0 : List Episode) (a1 : Int) (a2 : Int) (a3 : Int) : Option (List Episode × List Episode) :=
 Option.bind (loopN (fun (s : Unit) => gleaningref15_Close_l1 a0) Fu ()) (fun (s : Unit) => gleaningref15_Close_k0)
theorem gleaningref15_Close_ok (a0 : List Episode) (a1 : Int) (a2 : Int) (a3 : Int) {r : List Episode × List Episode} (h : gleaningref15_Close a0 a1 a2 a3 = some r) : Ok Tryz.prog 41 [.sl 6 (List.map enc82 a0), .int .i64 a1, .int .i64 a2, .int .i64 a3] [] [] (.tup [.sl 6 (List.map enc82 r.1), .sl 6 (List.map enc82 r.2)]) [] [] := by
 refine oK Tryz.func41 rfl fun X => sr fun _ k1 => pP 8 asg<|pP 9 asg<|en k1<|sr fun _ k2 => pP 10 asg<|pP 11 asg<|en k2<|bE h fun q3 h hk4 => aw_cut (fun s => gleaningref15_Close_k0 = some r ∧ s = lit [(10, .nil), (11, .nil)] [] [] X) ?_ ?_
 ·skip
  refine sr fun _ k5 => pP 12 asg<|en k5<|aw_block<|aw_loop' (fun m s => loopN (fun (s : Unit) => gleaningref15_Close_l1 a0) m () = some q3 ∧ s = lit [(0, .sl 6 (List.map enc82 a0)), (1, .int .i64 a1), (2, .int .i64 a2), (3, .int .i64 a3), (10, .nil), (11, .nil), (12, .int .i64 0)] [] [] X) Fu
   ⟨_, ra [], h, rfl⟩ ?_
  rintro m s ⟨h, rfl⟩
  obtain ⟨m1, q6, rfl, h, hq7⟩ := loop_some h
  replace h : gleaningref15_Close_l1 a0 = some q6 := h
  refine aw_seq_k fun _ k8 => sr fun _ k9 => pP 13 mv<|pP 14 mv<|pP 15 (zl ty35)<|pP 16 bi<|en k9<|wi 16 h (fun c10 h => ?_) fun c10 h => ?_
  ·refine aw_skip<|k8 _<|aw_seq_k fun _ k11 => aw_block<|aw_seq_k fun _ k12 => ?_
   cases h
  ·refine aw_exit<|tk (leafR h hq7) fun h => ?_
   obtain rfl := Option.some.inj h
   have h := hk4
   exact ⟨_, ra [], h, rfl⟩
 ·rintro s ⟨h, rfl⟩
  unfold gleaningref15_Close_k0 at h
  refine sr fun _ k13 => pP 51 mv<|pP 52 mv<|pP 8 asg<|pP 9 asg<|en k13<|aw_reb (reb_w (tl' := [(8, .sl 6 (List.map enc82 [])), (9, .sl 6 (List.map enc82 []))]) (ol' := []) (ra (tl := [(8, .nil), (9, .nil)]) (ol := []) (nx := []) []) ⟨rfl, (le_nil _), rfl, (le_nil _), trivial⟩ trivial)<|aw_ret<|by cases h;exact rk
def gleaningref15_Choose_l1 (a0 : List Block) : Option (Unit ⊕ Unit) :=
 if (decide ((0 : Int) < (List.length a0 : Int))) = true then none else (some (Sum.inr ()))
def gleaningref15_Choose_l2 : Option (Unit ⊕ (List Int)) :=
 if (decide ((1 : Int) < 0)) = true then none else (some (Sum.inr []))
def gleaningref15_Choose_k0 : Option (List Int) :=
 loopN (fun (s : Unit) => gleaningref15_Choose_l2) Fu ()
def gleaningref15_Choose (a0 : List Block) (a1 : Int) (a2 : Int) (a3 : Int) : Option (List Int) :=
 Option.bind (loopN (fun (s : Unit) => gleaningref15_Choose_l1 a0) Fu ()) (fun (s : Unit) => gleaningref15_Choose_k0)
theorem gleaningref15_Choose_ok (a0 : List Block) (a1 : Int) (a2 : Int) (a3 : Int) {r : List Int} (h : gleaningref15_Choose a0 a1 a2 a3 = some r) : Ok Tryz.prog 45 [.sl 4 (List.map enc96 a0), .int .i64 a1, .int .i64 a2, .int .i64 a3] [] [] (.sl 1 (List.map enc2 r)) [] [] := by
 refine oK Tryz.func45 rfl fun X => sr fun _ k1 => pP 8 asg<|en k1<|sr fun _ k2 => pP 9 asg<|en k2<|sr fun _ k3 => pP 10 asg<|en k3<|bE h fun q4 h hk5 => aw_cut (fun s => gleaningref15_Choose_k0 = some r ∧ s = lit [(3, .int .i64 a3), (9, .nil), (10, .nil)] [] [] X) ?_ ?_
 ·skip
  refine sr fun _ k6 => pP 11 asg<|en k6<|aw_block<|aw_loop' (fun m s => loopN (fun (s : Unit) => gleaningref15_Choose_l1 a0) m () = some q4 ∧ s = lit [(0, .sl 4 (List.map enc96 a0)), (1, .int .i64 a1), (2, .int .i64 a2), (3, .int .i64 a3), (9, .nil), (10, .nil), (11, .int .i64 0)] [] [] X) Fu
   ⟨_, ra [], h, rfl⟩ ?_
  rintro m s ⟨h, rfl⟩
  obtain ⟨m1, q7, rfl, h, hq8⟩ := loop_some h
  replace h : gleaningref15_Choose_l1 a0 = some q7 := h
  refine aw_seq_k fun _ k9 => sr fun _ k10 => pP 14 mv<|pP 15 mv<|pP 16 (zl ty40)<|pP 17 bi<|en k10<|wi 17 h (fun c11 h => ?_) fun c11 h => ?_
  ·refine aw_skip<|k9 _<|aw_seq_k fun _ k12 => aw_block<|aw_seq_k fun _ k13 => ?_
   cases h
  ·refine aw_exit<|tk (leafR h hq8) fun h => ?_
   obtain rfl := Option.some.inj h
   have h := hk5
   exact ⟨_, ra [], h, rfl⟩
 ·rintro s ⟨h, rfl⟩
  unfold gleaningref15_Choose_k0 at h
  refine aw_seq_k fun _ k14 => aw_block<|aw_loop' (fun m s => loopN (fun (s : Unit) => gleaningref15_Choose_l2) m () = some r ∧ s = lit [(3, .int .i64 a3), (9, .nil), (10, .nil)] [] [] X) Fu
   ⟨_, ra [], h, rfl⟩ ?_
  rintro m s ⟨h, rfl⟩
  obtain ⟨m2, q15, rfl, h, hq16⟩ := loop_some h
  replace h : gleaningref15_Choose_l2 = some q15 := h
  refine aw_seq_k fun _ k17 => sr fun _ k18 => pP 44 mv<|pP 45 (does_len_nil W_ ty40)<|pP 46 bi<|pP 47 mv<|li 47 h (fun c19 h => ?_) fun c19 h => ?_
  ·refine pP 48 mv ?_
   cases h
  ·refine pS 48<|pS 49<|pS 50<|pS 51<|pP 52 pc<|en k18<|aw_cond_f D_ rfl<|aw_exit<|tk (leafR h hq16) fun h => k14 _<|sr fun _ k20 => pP 88 mv<|pP 8 asg<|en k20<|aw_reb (reb_w (tl' := [(8, .sl 1 (List.map enc2 []))]) (ol' := []) (ra (tl := [(8, .nil)]) (ol := []) (nx := []) []) ⟨rfl, (le_nil _), trivial⟩ trivial)<|aw_ret<|by cases h;exact rk
def gleaningref1_Expire_l0 (a0 : List RowG) : Option (Unit ⊕ (List RowG)) :=
 if (decide ((0 : Int) < (List.length a0 : Int))) = true then none else (some (Sum.inr []))
def gleaningref1_Expire (a0 : List RowG) (a1 : Int) (a2 : Arr3_Int) : Option (List RowG) :=
 loopN (fun (s : Unit) => gleaningref1_Expire_l0 a0) Fu ()
theorem gleaningref1_Expire_ok (a0 : List RowG) (a1 : Int) (a2 : Arr3_Int) {r : List RowG} (h : gleaningref1_Expire a0 a1 a2 = some r) : Ok Tryz.prog 47 [.sl 14 (List.map enc87 a0), .int .i64 a1, .agg [.int .i64 a2.c0, .int .i64 a2.c1, .int .i64 a2.c2]] [] [] (.sl 14 (List.map enc87 r)) [] [] := by
 unfold gleaningref1_Expire at h
 refine oK Tryz.func47 rfl fun X => sr fun _ k1 => pD 5 (do_box W_ rfl rfl)<|pP 6 asg<|en k1<|sr fun _ k2 => pP 7 asg<|en k2<|aw_seq_k fun _ k3 => sr fun _ k4 => pP 8 asg<|en k4<|aw_block<|aw_loop' (fun m s => loopN (fun (s : Unit) => gleaningref1_Expire_l0 a0) m () = some r ∧ s = lit [(0, .sl 14 (List.map enc87 a0)), (1, .int .i64 a1), (5, .ptr 5 0 0), (7, .nil), (8, .int .i64 0)] [((5, 0), .box [.int .i64 a2.c0, .int .i64 a2.c1, .int .i64 a2.c2])] [(5, 1)] X) Fu
  ⟨_, ra [(5, 0)], h, rfl⟩ ?_
 rintro m s ⟨h, rfl⟩
 obtain ⟨m0, q5, rfl, h, hq6⟩ := loop_some h
 replace h : gleaningref1_Expire_l0 a0 = some q5 := h
 refine aw_seq_k fun _ k7 => sr fun _ k8 => pP 12 mv<|pP 13 mv<|pP 14 (zl ty37)<|pP 15 bi<|en k8<|wi 15 h (fun c9 h => ?_) fun c9 h => ?_
 ·refine aw_skip<|k7 _<|aw_seq_k fun _ k10 => aw_block<|aw_seq_k fun _ k11 => ?_
  cases h
 ·refine aw_exit<|tk (leafR h hq6) fun h => k3 _<|sr fun _ k12 => pP 54 mv<|pP 6 asg<|en k12<|aw_reb (reb_w (tl' := [(6, .sl 14 (List.map enc87 []))]) (ol' := []) (ra (tl := [(6, .nil)]) (ol := []) (nx := []) []) ⟨rfl, (le_nil _), trivial⟩ trivial)<|aw_ret<|by cases h;exact rk
def gleaningref15_tick_l2 (x9 : List Episode × List Episode) : Option (Unit ⊕ Unit) :=
 if (decide ((0 : Int) < (List.length x9.2 : Int))) = true then none else (some (Sum.inr ()))
def gleaningref15_tick_l6 (a1 : StateG) (x25 : List Int) (v13_s_6 : List Block) (v14_6 : Int) : Option ((List Block × Int) ⊕ (List Block)) :=
 if (decide (v14_6 < (List.length a1.Blocks : Int))) = true then (gd (0 ≤ v14_6) (Option.bind (a1.Blocks[(Int.toNat v14_6)]?) (fun (x47 : Block) => Option.bind (x25[0]?) (fun (x48 : Int) => if (x47.Number != x48) = true then (gd (0 ≤ v14_6) (Option.bind (a1.Blocks[(Int.toNat v14_6)]?) (fun (x51 : Block) => gd ((List.length (v13_s_6 ++ [x51])) * 48 ≤ 140737488355328 ∧ (List.length (v13_s_6 ++ [x51])) ≤ 140737488355328) (some (Sum.inl ((v13_s_6 ++ [x51]), (IntKind.i64.wrap (v14_6 + 1)))))))) else (some (Sum.inl (v13_s_6, (IntKind.i64.wrap (v14_6 + 1))))))))) else (some (Sum.inr v13_s_6))
def gleaningref15_tick_k5 (v13_s_5 : List Block) : Option (Unit ⊕ Unit) :=
 none
def gleaningref15_tick_l4 (a1 : StateG) (x25 : List Int) : Option (Unit ⊕ Unit) :=
 if (decide ((0 : Int) < (List.length x25 : Int))) = true then (Option.bind (loopN (fun (s : List Block × Int) => gleaningref15_tick_l6 a1 x25 s.1 s.2) Fu ([], 0)) (fun (s : List Block) => gleaningref15_tick_k5 s)) else (some (Sum.inr ()))
def gleaningref15_tick_k3 (a0 : Config) (a1 : StateG) (v4_s_1_0 : Int) (x9 : List Episode × List Episode) : Option StateG :=
 Option.bind (gleaningref1_Expire a1.Rows v4_s_1_0 a0.Horizon) (fun (x55 : List RowG) => some (StateG.mk (IntKind.i64.wrap (a1.Now + 1)) v4_s_1_0 0 a1.Next a1.Policy x9.1 a1.Pending a1.Memo x55 a1.Edges a1.Slots a1.Blocks))
def gleaningref15_tick_k1 (a0 : Config) (a1 : StateG) (v4_s_1_0 : Int) (x9 : List Episode × List Episode) : Option StateG :=
 if (decide ((0 : Int) < (List.length a1.Pending : Int))) = true then none else (Option.bind (gleaningref15_Choose a1.Blocks (IntKind.i64.wrap (a1.Now + 1)) a0.Keep a0.Budget) (fun (x25 : List Int) => Option.bind (loopN (fun (s : Unit) => gleaningref15_tick_l4 a1 x25) Fu ()) (fun (s : Unit) => gleaningref15_tick_k3 a0 a1 v4_s_1_0 x9)))
def gleaningref15_tick_k0 (a0 : Config) (a1 : StateG) (v4_s_1_0 : Int) : Option StateG :=
 Option.bind (gleaningref15_Close a1.Open (IntKind.i64.wrap (a1.Now + 1)) a0.Idle a0.Age) (fun (x9 : List Episode × List Episode) => Option.bind (loopN (fun (s : Unit) => gleaningref15_tick_l2 x9) Fu ()) (fun (s : Unit) => gleaningref15_tick_k1 a0 a1 v4_s_1_0 x9))
def gleaningref15_tick (a0 : Config) (a1 : StateG) (a2 : Int) : Option StateG :=
 Option.bind (if (decide (a1.Sec < a2)) = true then (some a2) else (some a1.Sec)) (fun (s : Int) => gleaningref15_tick_k0 a0 a1 s)
theorem gleaningref15_tick_ok (a0 : Config) (a1 : StateG) (a2 : Int) {r : StateG} (h : gleaningref15_tick a0 a1 a2 = some r) : Ok Tryz.prog 17 [.agg [.int .i64 a0.Idle, .int .i64 a0.Age, .int .i64 a0.Most, .int .i64 a0.Memo, .int .i64 a0.Cap, .int .i64 a0.Keep, .int .i64 a0.Budget, .int .i64 a0.Horizon.c0, .int .i64 a0.Horizon.c1, .int .i64 a0.Horizon.c2], .agg [.int .i64 a1.Now, .int .i64 a1.Sec, .int .i64 a1.Kept, .int .i64 a1.Next, .int .i64 a1.Policy.Kind, .int .i64 a1.Policy.N, .str a1.Policy.Key, .str a1.Policy.Value, .sl 5 (List.map enc24 a1.Policy.Kids), .sl 6 (List.map enc82 a1.Open), .sl 6 (List.map enc82 a1.Pending), .sl 3 (List.map enc140 a1.Memo), .sl 14 (List.map enc87 a1.Rows), .sl 4 (List.map enc92 a1.Edges), .sl 6 (List.map enc94 a1.Slots), .sl 4 (List.map enc96 a1.Blocks)], .int .i64 a2] [] [] (.agg [.int .i64 r.Now, .int .i64 r.Sec, .int .i64 r.Kept, .int .i64 r.Next, .int .i64 r.Policy.Kind, .int .i64 r.Policy.N, .str r.Policy.Key, .str r.Policy.Value, .sl 5 (List.map enc24 r.Policy.Kids), .sl 6 (List.map enc82 r.Open), .sl 6 (List.map enc82 r.Pending), .sl 3 (List.map enc140 r.Memo), .sl 14 (List.map enc87 r.Rows), .sl 4 (List.map enc92 r.Edges), .sl 6 (List.map enc94 r.Slots), .sl 4 (List.map enc96 r.Blocks)]) [] [] := by
 refine oK Tryz.func17 rfl fun X => sr fun _ k1 => pD 3 (do_box W_ rfl rfl)<|pD 4 (do_box W_ rfl rfl)<|pD 6 (nw ty42)<|en k1<|sr fun _ k2 => pP 15 (fa ty42 ty3)<|pX 16 (ld ty3)<|pP 17 bi<|pP 18 (fa ty42 ty3)<|pZ (sto [.int .i64 (IntKind.i64.wrap (a1.Now + 1)), .int .i64 a1.Sec, .int .i64 a1.Kept, .int .i64 a1.Next, .int .i64 a1.Policy.Kind, .int .i64 a1.Policy.N, .str a1.Policy.Key, .str a1.Policy.Value, .sl 5 (List.map enc24 a1.Policy.Kids), .sl 6 (List.map enc82 a1.Open), .sl 6 (List.map enc82 a1.Pending), .sl 3 (List.map enc140 a1.Memo), .sl 14 (List.map enc87 a1.Rows), .sl 4 (List.map enc92 a1.Edges), .sl 6 (List.map enc94 a1.Slots), .sl 4 (List.map enc96 a1.Blocks)] ty3)<|en k2<|sr fun _ k3 => pP 19 (fa ty42 ty3)<|pZ (sto [.int .i64 (IntKind.i64.wrap (a1.Now + 1)), .int .i64 a1.Sec, .int .i64 0, .int .i64 a1.Next, .int .i64 a1.Policy.Kind, .int .i64 a1.Policy.N, .str a1.Policy.Key, .str a1.Policy.Value, .sl 5 (List.map enc24 a1.Policy.Kids), .sl 6 (List.map enc82 a1.Open), .sl 6 (List.map enc82 a1.Pending), .sl 3 (List.map enc140 a1.Memo), .sl 14 (List.map enc87 a1.Rows), .sl 4 (List.map enc92 a1.Edges), .sl 6 (List.map enc94 a1.Slots), .sl 4 (List.map enc96 a1.Blocks)] ty3)<|en k3<|bE h fun q4 h hk5 => aw_cut (fun s => ∃ (v4_s_1_0 : Int), gleaningref15_tick_k0 a0 a1 v4_s_1_0 = some r ∧ s = lit [(3, .ptr 3 0 0), (4, .ptr 4 0 0), (6, .ptr 6 0 0)] [((3, 0), .box [.int .i64 a0.Idle, .int .i64 a0.Age, .int .i64 a0.Most, .int .i64 a0.Memo, .int .i64 a0.Cap, .int .i64 a0.Keep, .int .i64 a0.Budget, .int .i64 a0.Horizon.c0, .int .i64 a0.Horizon.c1, .int .i64 a0.Horizon.c2]), ((4, 0), .box [.int .i64 (IntKind.i64.wrap (a1.Now + 1)), .int .i64 v4_s_1_0, .int .i64 0, .int .i64 a1.Next, .int .i64 a1.Policy.Kind, .int .i64 a1.Policy.N, .str a1.Policy.Key, .str a1.Policy.Value, .sl 5 (List.map enc24 a1.Policy.Kids), .sl 6 (List.map enc82 a1.Open), .sl 6 (List.map enc82 a1.Pending), .sl 3 (List.map enc140 a1.Memo), .sl 14 (List.map enc87 a1.Rows), .sl 4 (List.map enc92 a1.Edges), .sl 6 (List.map enc94 a1.Slots), .sl 4 (List.map enc96 a1.Blocks)]), ((6, 0), .box [.int .i64 0, .int .i64 0, .int .i64 0, .int .i64 0, .int .i64 0, .int .i64 0, .str (strOf []), .str (strOf []), .nil, .nil, .nil, .nil, .nil, .nil, .nil, .nil])] [(3, 1), (4, 1), (6, 1)] X) ?_ ?_
 ·skip
  refine sr fun _ k6 => pP 20 mv<|pP 21 (fa ty42 ty3)<|pX 22 (ld ty3)<|pP 23 bi<|en k6<|wi 23 h (fun c7 h => ?_) fun c7 h => ?_
  ·refine aw_regL<|pP 24 mv<|pP 25 (fa ty42 ty3)<|pZ (sto [.int .i64 (IntKind.i64.wrap (a1.Now + 1)), .int .i64 a2, .int .i64 0, .int .i64 a1.Next, .int .i64 a1.Policy.Kind, .int .i64 a1.Policy.N, .str a1.Policy.Key, .str a1.Policy.Value, .sl 5 (List.map enc24 a1.Policy.Kids), .sl 6 (List.map enc82 a1.Open), .sl 6 (List.map enc82 a1.Pending), .sl 3 (List.map enc140 a1.Memo), .sl 14 (List.map enc87 a1.Rows), .sl 4 (List.map enc92 a1.Edges), .sl 6 (List.map enc94 a1.Slots), .sl 4 (List.map enc96 a1.Blocks)] ty3)<|al_nil<|?_
   obtain rfl := Option.some.inj h
   have h := hk5
   exact ⟨_, ra [(3, 0), (4, 0), (6, 0)], a2, h, rfl⟩
  ·refine aw_skip ?_
   obtain rfl := Option.some.inj h
   have h := hk5
   exact ⟨_, ra [(3, 0), (4, 0), (6, 0)], a1.Sec, h, rfl⟩
 ·rintro s ⟨v4_s_1_0, h, rfl⟩
  refine sr fun _ k8 => pP 27 (fa ty42 ty35)<|pX 28 (ld ty35)<|pP 29 (fa ty42 ty3)<|pX 30 (ld ty3)<|pP 31 (fa ty30 ty3)<|pX 32 (ld ty3)<|pP 33 (fa ty30 ty3)<|pX 34 (ld ty3)<|bE h fun x9 y9 h => pD 35 (cZ 35 (gleaningref15_Close_ok a1.Open (IntKind.i64.wrap (a1.Now + 1)) a0.Idle a0.Age y9) ent41)<|pP 26 mv<|pP 36 ex<|pP 37 ex<|pP 7 asg<|pP 8 asg<|en k8<|sr fun _ k10 => pP 38 mv<|pP 39 (fa ty42 ty35)<|pZ (sto [.int .i64 (IntKind.i64.wrap (a1.Now + 1)), .int .i64 v4_s_1_0, .int .i64 0, .int .i64 a1.Next, .int .i64 a1.Policy.Kind, .int .i64 a1.Policy.N, .str a1.Policy.Key, .str a1.Policy.Value, .sl 5 (List.map enc24 a1.Policy.Kids), .sl 6 (List.map enc82 x9.1), .sl 6 (List.map enc82 a1.Pending), .sl 3 (List.map enc140 a1.Memo), .sl 14 (List.map enc87 a1.Rows), .sl 4 (List.map enc92 a1.Edges), .sl 6 (List.map enc94 a1.Slots), .sl 4 (List.map enc96 a1.Blocks)] ty35)<|en k10<|bE h fun q11 h hk12 => aw_cut (fun s => gleaningref15_tick_k1 a0 a1 v4_s_1_0 x9 = some r ∧ s = lit [(3, .ptr 3 0 0), (4, .ptr 4 0 0), (6, .ptr 6 0 0)] [((3, 0), .box [.int .i64 a0.Idle, .int .i64 a0.Age, .int .i64 a0.Most, .int .i64 a0.Memo, .int .i64 a0.Cap, .int .i64 a0.Keep, .int .i64 a0.Budget, .int .i64 a0.Horizon.c0, .int .i64 a0.Horizon.c1, .int .i64 a0.Horizon.c2]), ((4, 0), .box [.int .i64 (IntKind.i64.wrap (a1.Now + 1)), .int .i64 v4_s_1_0, .int .i64 0, .int .i64 a1.Next, .int .i64 a1.Policy.Kind, .int .i64 a1.Policy.N, .str a1.Policy.Key, .str a1.Policy.Value, .sl 5 (List.map enc24 a1.Policy.Kids), .sl 6 (List.map enc82 x9.1), .sl 6 (List.map enc82 a1.Pending), .sl 3 (List.map enc140 a1.Memo), .sl 14 (List.map enc87 a1.Rows), .sl 4 (List.map enc92 a1.Edges), .sl 6 (List.map enc94 a1.Slots), .sl 4 (List.map enc96 a1.Blocks)]), ((6, 0), .box [.int .i64 0, .int .i64 0, .int .i64 0, .int .i64 0, .int .i64 0, .int .i64 0, .str (strOf []), .str (strOf []), .nil, .nil, .nil, .nil, .nil, .nil, .nil, .nil])] [(3, 1), (4, 1), (6, 1)] X) ?_ ?_
  ·skip
   refine sr fun _ k13 => pP 9 asg<|en k13<|aw_block<|aw_loop' (fun m s => loopN (fun (s : Unit) => gleaningref15_tick_l2 x9) m () = some q11 ∧ s = lit [(3, .ptr 3 0 0), (4, .ptr 4 0 0), (6, .ptr 6 0 0), (8, .sl 6 (List.map enc82 x9.2)), (9, .int .i64 0)] [((3, 0), .box [.int .i64 a0.Idle, .int .i64 a0.Age, .int .i64 a0.Most, .int .i64 a0.Memo, .int .i64 a0.Cap, .int .i64 a0.Keep, .int .i64 a0.Budget, .int .i64 a0.Horizon.c0, .int .i64 a0.Horizon.c1, .int .i64 a0.Horizon.c2]), ((4, 0), .box [.int .i64 (IntKind.i64.wrap (a1.Now + 1)), .int .i64 v4_s_1_0, .int .i64 0, .int .i64 a1.Next, .int .i64 a1.Policy.Kind, .int .i64 a1.Policy.N, .str a1.Policy.Key, .str a1.Policy.Value, .sl 5 (List.map enc24 a1.Policy.Kids), .sl 6 (List.map enc82 x9.1), .sl 6 (List.map enc82 a1.Pending), .sl 3 (List.map enc140 a1.Memo), .sl 14 (List.map enc87 a1.Rows), .sl 4 (List.map enc92 a1.Edges), .sl 6 (List.map enc94 a1.Slots), .sl 4 (List.map enc96 a1.Blocks)]), ((6, 0), .box [.int .i64 0, .int .i64 0, .int .i64 0, .int .i64 0, .int .i64 0, .int .i64 0, .str (strOf []), .str (strOf []), .nil, .nil, .nil, .nil, .nil, .nil, .nil, .nil])] [(3, 1), (4, 1), (6, 1)] X) Fu
    ⟨_, ra [(3, 0), (4, 0), (6, 0)], h, rfl⟩ ?_
   rintro m s ⟨h, rfl⟩
   obtain ⟨m2, q14, rfl, h, hq15⟩ := loop_some h
   replace h : gleaningref15_tick_l2 x9 = some q14 := h
   refine aw_seq_k fun _ k16 => sr fun _ k17 => pP 40 mv<|pP 41 mv<|pP 42 (zl ty35)<|pP 43 bi<|en k17<|wi 43 h (fun c18 h => ?_) fun c18 h => ?_
   ·refine aw_skip<|k16 _<|aw_seq_k fun _ k19 => aw_block<|?_
    cases h
   ·refine aw_exit<|tk (leafR h hq15) fun h => ?_
    obtain rfl := Option.some.inj h
    have h := hk12
    exact ⟨_, ra [(3, 0), (4, 0), (6, 0)], h, rfl⟩
  ·rintro s ⟨h, rfl⟩
   refine aw_seq_k fun _ k20 => sr fun _ k21 => pP 53 (fa ty42 ty35)<|pX 54 (ld ty35)<|pP 55 (zl ty35)<|pP 56 bi<|en k21<|wi 56 h (fun c22 h => ?_) fun c22 h => ?_
   ·refine aw_seq_k fun _ k23 => ?_
    cases h
   ·refine aw_skip<|k20 _<|sr fun _ k24 => pP 82 (fa ty42 ty40)<|pX 83 (ld ty40)<|pP 84 (fa ty42 ty3)<|pX 85 (ld ty3)<|pP 86 (fa ty30 ty3)<|pX 87 (ld ty3)<|pP 88 (fa ty30 ty3)<|pX 89 (ld ty3)<|bE h fun x25 y25 h => pD 90 (cZ 90 (gleaningref15_Choose_ok a1.Blocks (IntKind.i64.wrap (a1.Now + 1)) a0.Keep a0.Budget y25) ent45)<|pP 11 asg<|en k24<|bE h fun q26 h hk27 => aw_cut (fun s => gleaningref15_tick_k3 a0 a1 v4_s_1_0 x9 = some r ∧ s = lit [(3, .ptr 3 0 0), (4, .ptr 4 0 0), (6, .ptr 6 0 0)] [((3, 0), .box [.int .i64 a0.Idle, .int .i64 a0.Age, .int .i64 a0.Most, .int .i64 a0.Memo, .int .i64 a0.Cap, .int .i64 a0.Keep, .int .i64 a0.Budget, .int .i64 a0.Horizon.c0, .int .i64 a0.Horizon.c1, .int .i64 a0.Horizon.c2]), ((4, 0), .box [.int .i64 (IntKind.i64.wrap (a1.Now + 1)), .int .i64 v4_s_1_0, .int .i64 0, .int .i64 a1.Next, .int .i64 a1.Policy.Kind, .int .i64 a1.Policy.N, .str a1.Policy.Key, .str a1.Policy.Value, .sl 5 (List.map enc24 a1.Policy.Kids), .sl 6 (List.map enc82 x9.1), .sl 6 (List.map enc82 a1.Pending), .sl 3 (List.map enc140 a1.Memo), .sl 14 (List.map enc87 a1.Rows), .sl 4 (List.map enc92 a1.Edges), .sl 6 (List.map enc94 a1.Slots), .sl 4 (List.map enc96 a1.Blocks)]), ((6, 0), .box [.int .i64 0, .int .i64 0, .int .i64 0, .int .i64 0, .int .i64 0, .int .i64 0, .str (strOf []), .str (strOf []), .nil, .nil, .nil, .nil, .nil, .nil, .nil, .nil])] [(3, 1), (4, 1), (6, 1)] X) ?_ ?_
    ·skip
     refine sr fun _ k28 => pP 12 asg<|en k28<|aw_block<|aw_loop' (fun m s => loopN (fun (s : Unit) => gleaningref15_tick_l4 a1 x25) m () = some q26 ∧ s = lit [(3, .ptr 3 0 0), (4, .ptr 4 0 0), (6, .ptr 6 0 0), (11, .sl 1 (List.map enc2 x25)), (12, .int .i64 0)] [((3, 0), .box [.int .i64 a0.Idle, .int .i64 a0.Age, .int .i64 a0.Most, .int .i64 a0.Memo, .int .i64 a0.Cap, .int .i64 a0.Keep, .int .i64 a0.Budget, .int .i64 a0.Horizon.c0, .int .i64 a0.Horizon.c1, .int .i64 a0.Horizon.c2]), ((4, 0), .box [.int .i64 (IntKind.i64.wrap (a1.Now + 1)), .int .i64 v4_s_1_0, .int .i64 0, .int .i64 a1.Next, .int .i64 a1.Policy.Kind, .int .i64 a1.Policy.N, .str a1.Policy.Key, .str a1.Policy.Value, .sl 5 (List.map enc24 a1.Policy.Kids), .sl 6 (List.map enc82 x9.1), .sl 6 (List.map enc82 a1.Pending), .sl 3 (List.map enc140 a1.Memo), .sl 14 (List.map enc87 a1.Rows), .sl 4 (List.map enc92 a1.Edges), .sl 6 (List.map enc94 a1.Slots), .sl 4 (List.map enc96 a1.Blocks)]), ((6, 0), .box [.int .i64 0, .int .i64 0, .int .i64 0, .int .i64 0, .int .i64 0, .int .i64 0, .str (strOf []), .str (strOf []), .nil, .nil, .nil, .nil, .nil, .nil, .nil, .nil])] [(3, 1), (4, 1), (6, 1)] X) Fu
      ⟨_, ra [(3, 0), (4, 0), (6, 0)], h, rfl⟩ ?_
     rintro m s ⟨h, rfl⟩
     obtain ⟨m4, q29, rfl, h, hq30⟩ := loop_some h
     replace h : gleaningref15_tick_l4 a1 x25 = some q29 := h
     refine aw_seq_k fun _ k31 => sr fun _ k32 => pP 91 mv<|pP 92 mv<|pP 93 (zl ty55)<|pP 94 bi<|en k32<|wi 94 h (fun c33 h => ?_) fun c33 h => ?_
     ·refine aw_skip<|k31 _<|aw_seq_k fun _ k34 => aw_block<|sr fun _ k35 => pP 13 asg<|en k35<|bE h fun q36 h hk37 => aw_cut (fun s => ∃ (v13_s_5 : List Block), gleaningref15_tick_k5 v13_s_5 = some q29 ∧ s = lit [(3, .ptr 3 0 0), (4, .ptr 4 0 0), (6, .ptr 6 0 0), (11, .sl 1 (List.map enc2 x25)), (12, .int .i64 0), (13, .own 13 0)] [((3, 0), .box [.int .i64 a0.Idle, .int .i64 a0.Age, .int .i64 a0.Most, .int .i64 a0.Memo, .int .i64 a0.Cap, .int .i64 a0.Keep, .int .i64 a0.Budget, .int .i64 a0.Horizon.c0, .int .i64 a0.Horizon.c1, .int .i64 a0.Horizon.c2]), ((4, 0), .box [.int .i64 (IntKind.i64.wrap (a1.Now + 1)), .int .i64 v4_s_1_0, .int .i64 0, .int .i64 a1.Next, .int .i64 a1.Policy.Kind, .int .i64 a1.Policy.N, .str a1.Policy.Key, .str a1.Policy.Value, .sl 5 (List.map enc24 a1.Policy.Kids), .sl 6 (List.map enc82 x9.1), .sl 6 (List.map enc82 a1.Pending), .sl 3 (List.map enc140 a1.Memo), .sl 14 (List.map enc87 a1.Rows), .sl 4 (List.map enc92 a1.Edges), .sl 6 (List.map enc94 a1.Slots), .sl 4 (List.map enc96 a1.Blocks)]), ((6, 0), .box [.int .i64 0, .int .i64 0, .int .i64 0, .int .i64 0, .int .i64 0, .int .i64 0, .str (strOf []), .str (strOf []), .nil, .nil, .nil, .nil, .nil, .nil, .nil, .nil]), ((13, 0), .arr 97 4 false (List.map enc96 v13_s_5))] [(3, 1), (4, 1), (6, 1), (13, 1)] X) ?_ ?_
      ·skip
       refine sr fun _ k38 => pP 14 asg<|en k38<|aw_block<|aw_nilOwn 13 97 4 W_ D_ D_<|aw_loop' (fun m s => ∃ (v13_s_6 : List Block), ∃ (v14_6 : Int), loopN (fun (s : List Block × Int) => gleaningref15_tick_l6 a1 x25 s.1 s.2) m (v13_s_6, v14_6) = some q36 ∧ s = lit [(3, .ptr 3 0 0), (4, .ptr 4 0 0), (6, .ptr 6 0 0), (11, .sl 1 (List.map enc2 x25)), (12, .int .i64 0), (13, .own 13 0), (14, .int .i64 v14_6)] [((3, 0), .box [.int .i64 a0.Idle, .int .i64 a0.Age, .int .i64 a0.Most, .int .i64 a0.Memo, .int .i64 a0.Cap, .int .i64 a0.Keep, .int .i64 a0.Budget, .int .i64 a0.Horizon.c0, .int .i64 a0.Horizon.c1, .int .i64 a0.Horizon.c2]), ((4, 0), .box [.int .i64 (IntKind.i64.wrap (a1.Now + 1)), .int .i64 v4_s_1_0, .int .i64 0, .int .i64 a1.Next, .int .i64 a1.Policy.Kind, .int .i64 a1.Policy.N, .str a1.Policy.Key, .str a1.Policy.Value, .sl 5 (List.map enc24 a1.Policy.Kids), .sl 6 (List.map enc82 x9.1), .sl 6 (List.map enc82 a1.Pending), .sl 3 (List.map enc140 a1.Memo), .sl 14 (List.map enc87 a1.Rows), .sl 4 (List.map enc92 a1.Edges), .sl 6 (List.map enc94 a1.Slots), .sl 4 (List.map enc96 a1.Blocks)]), ((6, 0), .box [.int .i64 0, .int .i64 0, .int .i64 0, .int .i64 0, .int .i64 0, .int .i64 0, .str (strOf []), .str (strOf []), .nil, .nil, .nil, .nil, .nil, .nil, .nil, .nil]), ((13, 0), .arr 97 4 false (List.map enc96 v13_s_6))] [(3, 1), (4, 1), (6, 1), (13, 1)] X) Fu
        ⟨_, ra [(3, 0), (4, 0), (6, 0), (13, 0)], [], 0, h, rfl⟩ ?_
       rintro m s ⟨v13_s_6, v14_6, h, rfl⟩
       obtain ⟨m6, q39, rfl, h, hq40⟩ := loop_some h
       replace h : gleaningref15_tick_l6 a1 x25 v13_s_6 v14_6 = some q39 := h
       refine aw_seq_k fun _ k41 => sr fun _ k42 => pP 97 mv<|pP 98 (fa ty42 ty40)<|pX 99 (ld ty40)<|pP 100 (zl ty40)<|pP 101 bi<|en k42<|wi 101 h (fun c43 h => ?_) fun c43 h => ?_
       ·refine aw_skip<|k41 _<|aw_seq_k fun _ k44 => aw_block<|aw_seq_k fun _ k45 => aw_regd (by kernel_rfl) (by decide +kernel)<|qP 104 (fa ty42 ty40)<|qR 105 (ld ty40)<|qP 106 mv<|gE h fun g46 h => bE h fun x47 y47 h => qP 107 (ia ty40 ty97 g46 y47)<|qP 108 (fa ty97 ty3)<|qR 109 (ld ty3)<|qP 110 mv<|qP 111 mv<|bE h fun x48 y48 h => qP 112 (ja ty55 ty3 y48)<|qR 113 (ld ty3)<|qP 114 bi<|ao_nil_d (by kernel_rfl)<|k45 _<|wi 114 h (fun c49 h => ?_) fun c49 h => ?_
        ·refine aw_regL<|pP 115 mv<|pP 116 (fa ty42 ty40)<|pX 117 (ld ty40)<|pP 118 mv<|gE h fun g50 h => bE h fun x51 y51 h => pP 119 (ia ty40 ty97 g50 y51)<|pl 120 (.agg [.int .i64 x51.Number, .int .i64 x51.Born, .int .i64 x51.Tier, .sl 6 (List.map enc82 x51.Episodes)]) ty97<|pD 121 (bs (List.map enc96 [x51]) ty40 ty97 rfl)<|gE h fun g52 h => pD 122 (do_append (v := List.map enc96 (v13_s_6 ++ [x51])) W_ W_ ty40 ty97 rfl rfl W_ (by first | exact .inl rfl | exact .inr ⟨rfl, rfl⟩) W_ (by first | exact .inr rfl | exact .inl rfl) (map_app _ _) (fit_map g52))<|pP 13 asg<|en k44<|aw_regL<|pP 102 mv<|pP 103 bi<|pP 14 asg<|al_nil<|bk (ra [(3, 0), (4, 0), (6, 0), (122, 0)]) ⟨(v13_s_6 ++ [x51]), (IntKind.i64.wrap (v14_6 + 1)), leafL h hq40, rfl⟩
        ·refine aw_skip<|k44 _<|aw_regL<|pP 102 mv<|pP 103 bi<|pP 14 asg<|al_nil<|bk (ra [(3, 0), (4, 0), (6, 0), (13, 0)]) ⟨v13_s_6, (IntKind.i64.wrap (v14_6 + 1)), leafL h hq40, rfl⟩
       ·refine aw_exit<|tk (leafR h hq40) fun h => ?_
        obtain rfl := Option.some.inj h
        have h := hk37
        exact ⟨_, ra [(3, 0), (4, 0), (6, 0), (13, 0)], v13_s_6, h, rfl⟩
      ·rintro s ⟨v13_s_5, h, rfl⟩
       unfold gleaningref15_tick_k5 at h
       refine sr fun _ k53 => pP 123 mv<|pP 124 (fa ty42 ty40)<|pZ (sto [.int .i64 (IntKind.i64.wrap (a1.Now + 1)), .int .i64 v4_s_1_0, .int .i64 0, .int .i64 a1.Next, .int .i64 a1.Policy.Kind, .int .i64 a1.Policy.N, .str a1.Policy.Key, .str a1.Policy.Value, .sl 5 (List.map enc24 a1.Policy.Kids), .sl 6 (List.map enc82 x9.1), .sl 6 (List.map enc82 a1.Pending), .sl 3 (List.map enc140 a1.Memo), .sl 14 (List.map enc87 a1.Rows), .sl 4 (List.map enc92 a1.Edges), .sl 6 (List.map enc94 a1.Slots), .own 13 0] ty40)<|en k53<|?_
       cases h
     ·refine aw_exit<|tk (leafR h hq30) fun h => ?_
      obtain rfl := Option.some.inj h
      have h := hk27
      exact ⟨_, ra [(3, 0), (4, 0), (6, 0)], h, rfl⟩
    ·rintro s ⟨h, rfl⟩
     refine sr fun _ k54 => pP 133 (fa ty42 ty37)<|pX 134 (ld ty37)<|pP 135 (fa ty42 ty3)<|pX 136 (ld ty3)<|pP 137 (fa ty30 ty28)<|pl 138 (.agg [.int .i64 a0.Horizon.c0, .int .i64 a0.Horizon.c1, .int .i64 a0.Horizon.c2]) ty28<|bE h fun x55 y55 h => pD 139 (cZ 139 (gleaningref1_Expire_ok a1.Rows v4_s_1_0 a0.Horizon y55) ent47)<|pP 140 (fa ty42 ty37)<|pZ (sto [.int .i64 (IntKind.i64.wrap (a1.Now + 1)), .int .i64 v4_s_1_0, .int .i64 0, .int .i64 a1.Next, .int .i64 a1.Policy.Kind, .int .i64 a1.Policy.N, .str a1.Policy.Key, .str a1.Policy.Value, .sl 5 (List.map enc24 a1.Policy.Kids), .sl 6 (List.map enc82 x9.1), .sl 6 (List.map enc82 a1.Pending), .sl 3 (List.map enc140 a1.Memo), .sl 14 (List.map enc87 x55), .sl 4 (List.map enc92 a1.Edges), .sl 6 (List.map enc94 a1.Slots), .sl 4 (List.map enc96 a1.Blocks)] ty37)<|en k54<|sr fun _ k56 => pl 141 (.agg [.int .i64 (IntKind.i64.wrap (a1.Now + 1)), .int .i64 v4_s_1_0, .int .i64 0, .int .i64 a1.Next, .int .i64 a1.Policy.Kind, .int .i64 a1.Policy.N, .str a1.Policy.Key, .str a1.Policy.Value, .sl 5 (List.map enc24 a1.Policy.Kids), .sl 6 (List.map enc82 x9.1), .sl 6 (List.map enc82 a1.Pending), .sl 3 (List.map enc140 a1.Memo), .sl 14 (List.map enc87 x55), .sl 4 (List.map enc92 a1.Edges), .sl 6 (List.map enc94 a1.Slots), .sl 4 (List.map enc96 a1.Blocks)]) ty42<|pZ (sto [.int .i64 (IntKind.i64.wrap (a1.Now + 1)), .int .i64 v4_s_1_0, .int .i64 0, .int .i64 a1.Next, .int .i64 a1.Policy.Kind, .int .i64 a1.Policy.N, .str a1.Policy.Key, .str a1.Policy.Value, .sl 5 (List.map enc24 a1.Policy.Kids), .sl 6 (List.map enc82 x9.1), .sl 6 (List.map enc82 a1.Pending), .sl 3 (List.map enc140 a1.Memo), .sl 14 (List.map enc87 x55), .sl 4 (List.map enc92 a1.Edges), .sl 6 (List.map enc94 a1.Slots), .sl 4 (List.map enc96 a1.Blocks)] ty42)<|en k56<|aw_ret<|by cases h;exact rk
end Go.Proofs.YtbaibpjffcahiaaGreat.Ab
