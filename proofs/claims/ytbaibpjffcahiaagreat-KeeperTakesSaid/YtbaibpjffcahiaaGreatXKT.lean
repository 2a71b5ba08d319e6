/- Chapter 25: what has bytes. -/
import Derived.Test.YtbaibpjffcahiaaGreatXK6
import Derived.Test.YtbaibpjffcahiaaGreatProg
namespace Go.Proofs.YtbaibpjffcahiaaGreat.Ab
open Go Go.RowKit
set_option linter.unusedVariables false
set_option linter.unusedSimpArgs false
set_option maxRecDepth 100000
set_option maxHeartbeats 8000000
def enc26 (x : OpG) : PV := .agg [.int .i64 x.Kind, .int .i64 x.N, .sl 10 (List.map enc77 x.Spans), .int .i64 x.Policy.Kind, .int .i64 x.Policy.N, .str x.Policy.Key, .str x.Policy.Value, .sl 5 (List.map enc24 x.Policy.Kids)]
theorem ty33 : tyOf Tryz.prog 33 = some ⟨.slice 27, 1, 24, [.nil]⟩ := by kernel_rfl
theorem ent4 : Ent Tryz.prog 4 := eN Tryz.func4
theorem ent5 : Ent Tryz.prog 5 := eN Tryz.func5
theorem ent7 : Ent Tryz.prog 7 := eN Tryz.func7
theorem ent8 : Ent Tryz.prog 8 := eN Tryz.func8
theorem ent9 : Ent Tryz.prog 9 := eN Tryz.func9
theorem ent10 : Ent Tryz.prog 10 := eN Tryz.func10
theorem ent11 : Ent Tryz.prog 11 := eN Tryz.func11
theorem ent12 : Ent Tryz.prog 12 := eN Tryz.func12
theorem ent13 : Ent Tryz.prog 13 := eN Tryz.func13
def gleaninglaw22_Few_k2 (a0 : List OpG) (v3_0 : Int) (v4_0 : Int) : Option ((Int × Int) ⊕ Bool) :=
 gd (0 ≤ v4_0) (Option.bind (a0[(Int.toNat v4_0)]?) (fun (x29 : OpG) => some (Sum.inl ((IntKind.i64.wrap ((IntKind.i64.wrap (v3_0 + 1)) + (List.length x29.Spans : Int))), (IntKind.i64.wrap (v4_0 + 1))))))
def gleaninglaw22_Few_k1 (a0 : List OpG) (v3_0 : Int) (v4_0 : Int) : Option ((Int × Int) ⊕ Bool) :=
 Option.bind (gd (0 ≤ v4_0) (Option.bind (a0[(Int.toNat v4_0)]?) (fun (x19 : OpG) => Option.bind (gleaninglaw3_FewAll x19.Spans) (fun (x20 : Bool) => if (!x20) = true then (some (Sum.inr (Sum.inr false))) else (gd (0 ≤ v4_0) (Option.bind (a0[(Int.toNat v4_0)]?) (fun (x24 : OpG) => Option.bind (gleaninglaw13_Few x24.Policy) (fun (x25 : Bool) => if (!x25) = true then (some (Sum.inr (Sum.inr false))) else (some (Sum.inl ())))))))))) (Sum.elim (fun (s : Unit) => gleaninglaw22_Few_k2 a0 v3_0 v4_0) some)
def gleaninglaw22_Few_l0 (a0 : List OpG) (v3_0 : Int) (v4_0 : Int) : Option ((Int × Int) ⊕ Bool) :=
 Option.bind (if (decide (v4_0 < (List.length a0 : Int))) = true then (if (decide (v3_0 < 1000)) = true then (some (Sum.inl ())) else (some (Sum.inr (Sum.inr (decide (v3_0 ≤ 120)))))) else (some (Sum.inr (Sum.inr (decide (v3_0 ≤ 120)))))) (Sum.elim (fun (s : Unit) => gleaninglaw22_Few_k1 a0 v3_0 v4_0) some)
def gleaninglaw22_Few (a0 : List OpG) : Option Bool :=
 loopN (fun (s : Int × Int) => gleaninglaw22_Few_l0 a0 s.1 s.2) Fu (0, 0)
theorem gleaninglaw22_Few_ok (a0 : List OpG) {r : Bool} (h : gleaninglaw22_Few a0 = some r) : Ok Tryz.prog 5 [.sl 8 (List.map enc26 a0)] [] [] (.bool r) [] [] := by
 unfold gleaninglaw22_Few at h
 refine oK Tryz.func5 rfl fun X => sr fun _ k1 => pP 2 asg<|en k1<|sr fun _ k2 => pP 3 asg<|en k2<|aw_seq_k fun _ k3 => sr fun _ k4 => pP 4 asg<|en k4<|aw_block<|aw_loop' (fun m s => ∃ (v3_0 : Int), ∃ (v4_0 : Int), loopN (fun (s : Int × Int) => gleaninglaw22_Few_l0 a0 s.1 s.2) m (v3_0, v4_0) = some r ∧ s = lit [(0, .sl 8 (List.map enc26 a0)), (3, .int .i64 v3_0), (4, .int .i64 v4_0)] [] [] X) Fu
  ⟨_, ra [], 0, 0, h, rfl⟩ ?_
 rintro m s ⟨v3_0, v4_0, h, rfl⟩
 obtain ⟨m0, q5, rfl, h, hq6⟩ := loop_some h
 replace h : gleaninglaw22_Few_l0 a0 v3_0 v4_0 = some q5 := h
 refine bE h fun q7 h hk8 => aw_cut (fun s => gleaninglaw22_Few_k1 a0 v3_0 v4_0 = some q5 ∧ s = lit [(0, .sl 8 (List.map enc26 a0)), (3, .int .i64 v3_0), (4, .int .i64 v4_0)] [] [] X) ?_ ?_
 ·skip
  refine sr fun _ k9 => pP 5 mv<|pP 6 mv<|pP 7 (zl ty33)<|pP 8 bi<|pP 9 mv<|li 9 h (fun c10 h => ?_) fun c10 h => ?_
  ·refine pP 10 mv<|pP 11 bi<|pP 12 pc<|en k9<|wi 12 h (fun c11 h => ?_) fun c11 h => ?_
   ·refine aw_skip<|tk (leafL h hk8) fun h => ?_
    exact ⟨_, ra [], h, rfl⟩
   ·refine aw_exit<|tk (leafR h hk8) fun h => tk (leafR h hq6) fun h => k3 _<|sr fun _ k12 => pP 40 mv<|pP 41 bi<|pP 2 asg<|en k12<|aw_ret<|by cases h;exact rk
  ·refine pS 10<|pS 11<|pP 12 pc<|en k9<|aw_cond_f D_ rfl<|aw_exit<|tk (leafR h hk8) fun h => tk (leafR h hq6) fun h => k3 _<|sr fun _ k13 => pP 40 mv<|pP 41 bi<|pP 2 asg<|en k13<|aw_ret<|by cases h;exact rk
 ·rintro s ⟨h, rfl⟩
  refine aw_seq_k fun _ k14 => aw_block<|bE h fun q15 h hk16 => aw_cut (fun s => gleaninglaw22_Few_k2 a0 v3_0 v4_0 = some q5 ∧ s = lit [(0, .sl 8 (List.map enc26 a0)), (3, .int .i64 v3_0), (4, .int .i64 v4_0)] [] [] X) ?_ ?_
  ·skip
   refine sr fun _ k17 => pP 15 mv<|pP 16 mv<|gE h fun g18 h => bE h fun x19 y19 h => pP 17 (ia ty33 ty27 g18 y19)<|pP 18 (fa ty27 ty22)<|pX 19 (ld ty22)<|bE h fun x20 y20 h => pD 20 (cZ 20 (gleaninglaw3_FewAll_ok x19.Spans y20) ent12)<|pP 21 un<|pP 22 mv<|li 22 h (fun c21 h => ?_) fun c21 h => ?_
   ·refine pS 23<|pS 24<|pS 25<|pS 26<|pS 27<|pS 28<|pS 29<|pP 30 pc<|en k17<|aw_cond_t D_ rfl<|sr fun _ k22 => pP 2 asg<|en k22<|aw_ret<|tk (leafR h hk16) fun h => by cases leafR h hq6;exact rk
   ·refine pP 23 mv<|pP 24 mv<|gE h fun g23 h => bE h fun x24 y24 h => pP 25 (ia ty33 ty27 g23 y24)<|pP 26 (fa ty27 ty25)<|pl 27 (.agg [.int .i64 x24.Policy.Kind, .int .i64 x24.Policy.N, .str x24.Policy.Key, .str x24.Policy.Value, .sl 5 (List.map enc24 x24.Policy.Kids)]) ty25<|bE h fun x25 y25 h => pD 28 (cZ 28 (gleaninglaw13_Few_ok x24.Policy y25) ent13)<|pP 29 un<|pP 30 pc<|en k17<|wi 30 h (fun c26 h => ?_) fun c26 h => ?_
    ·refine sr fun _ k27 => pP 2 asg<|en k27<|aw_ret<|tk (leafR h hk16) fun h => by cases leafR h hq6;exact rk
    ·refine aw_skip<|tk (leafL h hk16) fun h => ?_
     exact ⟨_, ra [], h, rfl⟩
  ·rintro s ⟨h, rfl⟩
   refine aw_regL<|pP 31 mv<|pP 32 bi<|pP 33 mv<|pP 34 mv<|gE h fun g28 h => bE h fun x29 y29 h => pP 35 (ia ty33 ty27 g28 y29)<|pP 36 (fa ty27 ty22)<|pX 37 (ld ty22)<|pP 38 (zl ty22)<|pP 39 bi<|pP 3 asg<|en k14<|aw_regL<|pP 13 mv<|pP 14 bi<|pP 4 asg<|al_nil<|bk (ra []) ⟨(IntKind.i64.wrap ((IntKind.i64.wrap (v3_0 + 1)) + (List.length x29.Spans : Int))), (IntKind.i64.wrap (v4_0 + 1)), leafL h hq6, rfl⟩
def OpG.wf (a : OpG) : Prop := (inI .i64 a.Kind) ∧ (inI .i64 a.N) ∧ ((List.length a.Spans) ≤ maxLen ∧ ∀ y ∈ a.Spans, Span.wf y) ∧ (Rule.wf a.Policy)
theorem sh27 : ∀ (m : Nat) (cs : List PV), Shape Tryz.prog m 27 cs → ∃ a : OpG, cs = [.int .i64 a.Kind, .int .i64 a.N, .sl 10 (List.map enc77 a.Spans), .int .i64 a.Policy.Kind, .int .i64 a.Policy.N, .str a.Policy.Key, .str a.Policy.Value, .sl 5 (List.map enc24 a.Policy.Kids)] ∧ (OpG.wf a) := fun m cs h => by
 obtain ⟨hl, m, hf⟩ := shape_struct h Tryz.underlying27
 have f0 := hf 0 _ rfl
 obtain ⟨a0, e0, w0⟩ := sh3 m _ f0
 rw [show Tryz.prog.cellsOf _ = 1 by kernel_rfl] at e0
 have f1 := hf 1 _ rfl
 obtain ⟨a1, e1, w1⟩ := sh3 m _ f1
 rw [show Tryz.prog.cellsOf _ = 1 by kernel_rfl] at e1
 have f2 := hf 2 _ rfl
 obtain ⟨a2, e2, w2⟩ := sh22 m _ f2
 rw [show Tryz.prog.cellsOf _ = 1 by kernel_rfl] at e2
 have f3 := hf 3 _ rfl
 obtain ⟨a3, e3, w3⟩ := sh25 m _ f3
 rw [show Tryz.prog.cellsOf _ = 5 by kernel_rfl] at e3
 exact ⟨⟨a0, a1, a2, a3⟩, tile_all (l := [(1, [.int .i64 a0]), (1, [.int .i64 a1]), (1, [.sl 10 (List.map enc77 a2)]), (5, [.int .i64 a3.Kind, .int .i64 a3.N, .str a3.Key, .str a3.Value, .sl 5 (List.map enc24 a3.Kids)])]) ⟨e0, e1, e2, e3, trivial⟩ hl (by kernel_rfl), ⟨w0, w1, w2, w3⟩⟩
theorem sh33 : ∀ (m : Nat) (cs : List PV), Shape Tryz.prog m 33 cs → ∃ a : List OpG, cs = [.sl 8 (List.map enc26 a)] ∧ ((List.length a) ≤ maxLen ∧ ∀ y ∈ a, OpG.wf y) := fun m cs h => by
 obtain ⟨l, h1, h2, h3⟩ := shape_rows (f := enc26) (Q := fun y => OpG.wf y) h Tryz.underlying33 (fun m ps hs => by
  obtain ⟨a, rfl, hw⟩ := sh27 m ps hs
  exact ⟨a, by rw [show aggT Tryz.prog 27 = true by kernel_rfl]; rfl, hw⟩)
 exact ⟨l, h1.trans (by rw [show Tryz.prog.cellsOf 27 = 8 by kernel_rfl]), h2, h3⟩
def gleaninglaw25_num (a0 : Int) : Option Int :=
 some a0
theorem gleaninglaw25_num_ok (a0 : Int) {r : Int} (h : gleaninglaw25_num a0 = some r) : Ok Tryz.prog 11 [.int .i64 a0] [] [] (.int .i64 r) [] [] := by
 unfold gleaninglaw25_num at h
 refine oK Tryz.func11 rfl fun X => sr fun _ k1 => pP 2 asg<|en k1<|sr fun _ k2 => pP 3 mv<|pP 2 asg<|en k2<|aw_ret<|by cases h;exact rk
def gleaninglaw25_alive : Option Bool :=
 Option.bind (keeper_ReadOp []) (fun (x3 : OpG × Int) => Option.bind (keeper_Op (OpG.mk 2 7 [] (Rule.mk 0 0 (strOf []) (strOf []) []))) (fun (x5 : List UInt8) => Option.bind (keeper_ReadOp x5) (fun (x6 : OpG × Int) => Option.bind (gleaninglaw25_num x3.2) (fun (x8 : Int) => if (x8 == 2) = true then (Option.bind (gleaninglaw25_num x6.2) (fun (x10 : Int) => if (x10 == 0) = true then (some (x6.1.N == 7)) else (some false))) else (some false)))))
theorem gleaninglaw25_alive_ok {r : Bool} (h : gleaninglaw25_alive = some r) : Ok Tryz.prog 4 [] [] [] (.bool r) [] [] := by
 refine oK Tryz.func4 rfl fun X => sr fun _ k1 => pP 0 asg<|en k1<|sr fun _ k2 => bE h fun x3 y3 h => pD 6 (cZ 6 ((keeper_ReadOp_ok [] y3).weak (args' := [.nil]) ⟨le_nil _, trivial⟩) ent10)<|pP 5 mv<|pP 7 ex<|pP 8 ex<|pD 1 (nw ty27)<|pZ (sto [.int .i64 x3.1.Kind, .int .i64 x3.1.N, .sl 10 (List.map enc77 x3.1.Spans), .int .i64 x3.1.Policy.Kind, .int .i64 x3.1.Policy.N, .str x3.1.Policy.Key, .str x3.1.Policy.Value, .sl 5 (List.map enc24 x3.1.Policy.Kids)] ty27)<|pP 2 asg<|en k2<|sr fun _ k4 => pP 10 ((do_build_struct (cs := [.int .i64 2, .int .i64 7, .nil, .int .i64 0, .int .i64 0, .str (strOf []), .str (strOf []), .nil]) ty27 rfl [⟨.int .i64, 1, 8, [.int .i64 0]⟩, ⟨.int .i64, 1, 8, [.int .i64 0]⟩, ⟨.slice 78, 1, 24, [.nil]⟩, ⟨.struct [(0, 3), (1, 3), (2, 9), (3, 9), (4, 23)], 5, 72, [.int .i64 0, .int .i64 0, .str ByteArray.empty, .str ByteArray.empty, .nil]⟩] (by simp only [List.map, ty22, ty25, ty3]) (by rfl) R_).weak (v' := .agg [.int .i64 2, .int .i64 7, .sl 10 (List.map enc77 []), .int .i64 0, .int .i64 0, .str (strOf []), .str (strOf []), .sl 5 (List.map enc24 [])]) (le_agg ⟨le_refl _, le_refl _, le_nil _, le_refl _, le_refl _, le_refl _, le_refl _, le_nil _, trivial⟩))<|bE h fun x5 y5 h => pD 11 (cZ 11 (keeper_Op_ok (OpG.mk 2 7 [] (Rule.mk 0 0 (strOf []) (strOf []) [])) y5) ent9)<|bE h fun x6 y6 h => pD 12 (does_frz (d := 11) (n := 0) W_ (do_callG (bcs := []) [] [] [(11, 0)] 12 false (keeper_ReadOp_ok x5 y6) rfl ent10 trivial trivial rfl rfl rfl rfl rfl rfl rfl rfl (.inl ⟨⟨_, _, _, rfl⟩, trivial⟩)))<|pP 9 mv<|pP 13 ex<|pP 14 ex<|pD 3 (nw ty27)<|pZ (sto [.int .i64 x6.1.Kind, .int .i64 x6.1.N, .sl 10 (List.map enc77 x6.1.Spans), .int .i64 x6.1.Policy.Kind, .int .i64 x6.1.Policy.N, .str x6.1.Policy.Key, .str x6.1.Policy.Value, .sl 5 (List.map enc24 x6.1.Policy.Kids)] ty27)<|pP 4 asg<|en k4<|sr fun _ k7 => pP 15 mv<|bE h fun x8 y8 h => pD 16 (cZ 16 (gleaninglaw25_num_ok x3.2 y8) ent11)<|pP 17 bi<|pP 18 mv<|li 18 h (fun c9 h => ?_) fun c9 h => ?_
 ·refine pP 19 mv<|bE h fun x10 y10 h => pD 20 (cZ 20 (gleaninglaw25_num_ok x6.2 y10) ent11)<|pP 21 bi<|pP 22 pc<|pP 23 mv<|li 23 h (fun c11 h => ?_) fun c11 h => ?_
  ·refine pP 24 (fa ty27 ty3)<|pX 25 (ld ty3)<|pP 26 bi<|pP 27 pc<|pP 0 asg<|en k7<|aw_ret<|by cases h;exact rk
  ·refine pS 24<|pS 25<|pS 26<|pP 27 pc<|pP 0 asg<|en k7<|aw_ret<|by cases h;exact rk
 ·refine pS 19<|pS 20<|pS 21<|pP 22 pc<|pP 23 mv<|pS 24<|pS 25<|pS 26<|pP 27 pc<|pP 0 asg<|en k7<|aw_ret<|by cases h;exact rk
def gleaninglaw25_KeeperTakes_k0 (a0 : OpG) (a1 : Config) : Option Bool :=
 Option.bind (gleaningref15_First a1) (fun (x18 : StateG) => Option.bind (gleaningref15_Step a1 x18 a0) (fun (x19 : StateG × Int) => Option.bind (keeper_Op a0) (fun (x21 : List UInt8) => some ((decide ((0 : Int) < (List.length x21 : Int))) == (x19.2 == 0)))))
def gleaninglaw25_KeeperTakes (a0 : OpG) (a1 : Config) : Option Bool :=
 Option.bind (gleaninglaw25_alive) (fun (x3 : Bool) => Option.bind (if (!x3) = true then (some (Sum.inr x3)) else (Option.bind (gleaninglaw22_Few [a0]) (fun (x9 : Bool) => if (!x9) = true then (some (Sum.inr x3)) else (Option.bind (gleaningref15_RightConfig a1) (fun (x12 : Bool) => if (!x12) = true then (some (Sum.inr x3)) else (if (a0.Kind == 4) = true then (some (Sum.inr x3)) else (some (Sum.inl ())))))))) (Sum.elim (fun (s : Unit) => gleaninglaw25_KeeperTakes_k0 a0 a1) some))
theorem gleaninglaw25_KeeperTakes_ok (a0 : OpG) (a1 : Config) {r : Bool} (h : gleaninglaw25_KeeperTakes a0 a1 = some r) : Ok Tryz.prog 3 [.agg [.int .i64 a0.Kind, .int .i64 a0.N, .sl 10 (List.map enc77 a0.Spans), .int .i64 a0.Policy.Kind, .int .i64 a0.Policy.N, .str a0.Policy.Key, .str a0.Policy.Value, .sl 5 (List.map enc24 a0.Policy.Kids)], .agg [.int .i64 a1.Idle, .int .i64 a1.Age, .int .i64 a1.Most, .int .i64 a1.Memo, .int .i64 a1.Cap, .int .i64 a1.Keep, .int .i64 a1.Budget, .int .i64 a1.Horizon.c0, .int .i64 a1.Horizon.c1, .int .i64 a1.Horizon.c2]] [] [] (.bool r) [] [] := by
 refine oK Tryz.func3 rfl fun X => sr fun _ k1 => pD 2 (do_box W_ rfl rfl)<|pD 3 (do_box W_ rfl rfl)<|pP 4 asg<|en k1<|sr fun _ k2 => bE h fun x3 y3 h => pD 8 (cZ 8 (gleaninglaw25_alive_ok y3) ent4)<|pP 5 asg<|en k2<|bE h fun q4 h hk5 => aw_cut (fun s => gleaninglaw25_KeeperTakes_k0 a0 a1 = some r ∧ s = lit [(2, .ptr 2 0 0), (3, .ptr 3 0 0)] [((2, 0), .box [.int .i64 a0.Kind, .int .i64 a0.N, .sl 10 (List.map enc77 a0.Spans), .int .i64 a0.Policy.Kind, .int .i64 a0.Policy.N, .str a0.Policy.Key, .str a0.Policy.Value, .sl 5 (List.map enc24 a0.Policy.Kids)]), ((3, 0), .box [.int .i64 a1.Idle, .int .i64 a1.Age, .int .i64 a1.Most, .int .i64 a1.Memo, .int .i64 a1.Cap, .int .i64 a1.Keep, .int .i64 a1.Budget, .int .i64 a1.Horizon.c0, .int .i64 a1.Horizon.c1, .int .i64 a1.Horizon.c2])] [(2, 1), (3, 1)] X) ?_ ?_
 ·skip
  refine sr fun _ k6 => pP 9 mv<|pP 10 un<|pP 11 mv<|li 11 h (fun c7 h => ?_) fun c7 h => ?_
  ·refine pS 12<|pS 13<|pS 14<|pS 15<|pP 16 pc<|pP 17 mv<|pS 18<|pS 19<|pS 20<|pP 21 pc<|pP 22 mv<|pS 23<|pS 24<|pS 25<|pP 26 pc<|en k6<|aw_cond_t D_ rfl<|sr fun _ k8 => pP 27 mv<|pP 4 asg<|en k8<|aw_ret<|by cases leafR h hk5;exact rk
  ·refine pl 12 (.agg [.int .i64 a0.Kind, .int .i64 a0.N, .sl 10 (List.map enc77 a0.Spans), .int .i64 a0.Policy.Kind, .int .i64 a0.Policy.N, .str a0.Policy.Key, .str a0.Policy.Value, .sl 5 (List.map enc24 a0.Policy.Kids)]) ty27<|pD 13 (bs (List.map enc26 [a0]) ty33 ty27 rfl)<|bE h fun x9 y9 h => pD 14 (do_callG (bcs := []) [] [] [(13, 0)] 14 false (gleaninglaw22_Few_ok [a0] y9) rfl ent5 trivial trivial rfl rfl rfl rfl rfl rfl rfl rfl (.inr ⟨rfl, rfl, trivial⟩))<|pP 15 un<|pP 16 pc<|pP 17 mv<|li 17 h (fun c10 h => ?_) fun c10 h => ?_
   ·refine pS 18<|pS 19<|pS 20<|pP 21 pc<|pP 22 mv<|pS 23<|pS 24<|pS 25<|pP 26 pc<|en k6<|aw_cond_t D_ rfl<|sr fun _ k11 => pP 27 mv<|pP 4 asg<|en k11<|aw_ret<|by cases leafR h hk5;exact rk
   ·refine pl 18 (.agg [.int .i64 a1.Idle, .int .i64 a1.Age, .int .i64 a1.Most, .int .i64 a1.Memo, .int .i64 a1.Cap, .int .i64 a1.Keep, .int .i64 a1.Budget, .int .i64 a1.Horizon.c0, .int .i64 a1.Horizon.c1, .int .i64 a1.Horizon.c2]) ty30<|bE h fun x12 y12 h => pD 19 (cZ 19 (gleaningref15_RightConfig_ok a1 y12) ent6)<|pP 20 un<|pP 21 pc<|pP 22 mv<|li 22 h (fun c13 h => ?_) fun c13 h => ?_
    ·refine pS 23<|pS 24<|pS 25<|pP 26 pc<|en k6<|aw_cond_t D_ rfl<|sr fun _ k14 => pP 27 mv<|pP 4 asg<|en k14<|aw_ret<|by cases leafR h hk5;exact rk
    ·refine pP 23 (fa ty27 ty3)<|pX 24 (ld ty3)<|pP 25 bi<|pP 26 pc<|en k6<|wi 26 h (fun c15 h => ?_) fun c15 h => ?_
     ·refine sr fun _ k16 => pP 27 mv<|pP 4 asg<|en k16<|aw_ret<|by cases leafR h hk5;exact rk
     ·refine aw_skip<|tk (leafL h hk5) fun h => ?_
      exact ⟨_, ra [(2, 0), (3, 0)], h, rfl⟩
 ·rintro s ⟨h, rfl⟩
  refine aw_seq_k fun _ k17 => aw_regd (by kernel_rfl) (by decide +kernel)<|qR 29 (does_load (v := .agg [.int .i64 a1.Idle, .int .i64 a1.Age, .int .i64 a1.Most, .int .i64 a1.Memo, .int .i64 a1.Cap, .int .i64 a1.Keep, .int .i64 a1.Budget, .int .i64 a1.Horizon.c0, .int .i64 a1.Horizon.c1, .int .i64 a1.Horizon.c2]) W_ W_ ty30 R_)<|qR 30 (does_load (v := .agg [.int .i64 a1.Idle, .int .i64 a1.Age, .int .i64 a1.Most, .int .i64 a1.Memo, .int .i64 a1.Cap, .int .i64 a1.Keep, .int .i64 a1.Budget, .int .i64 a1.Horizon.c0, .int .i64 a1.Horizon.c1, .int .i64 a1.Horizon.c2]) W_ W_ ty30 R_)<|bE h fun x18 y18 h => qD 31 (cZ 31 (gleaningref15_First_ok a1 y18) ent8)<|qR 32 (does_load (v := .agg [.int .i64 a0.Kind, .int .i64 a0.N, .sl 10 (List.map enc77 a0.Spans), .int .i64 a0.Policy.Kind, .int .i64 a0.Policy.N, .str a0.Policy.Key, .str a0.Policy.Value, .sl 5 (List.map enc24 a0.Policy.Kids)]) W_ W_ ty27 R_)<|bE h fun x19 y19 h => qD 33 (cZ 33 (gleaningref15_Step_ok a1 x18 a0 y19) ent7)<|qP 28 mv<|qP 34 ex<|qP 35 ex<|qD 6 (nw ty42)<|aoD none rfl rfl (do_store (cs' := [.int .i64 x19.1.Now, .int .i64 x19.1.Sec, .int .i64 x19.1.Kept, .int .i64 x19.1.Next, .int .i64 x19.1.Policy.Kind, .int .i64 x19.1.Policy.N, .str x19.1.Policy.Key, .str x19.1.Policy.Value, .sl 5 (List.map enc24 x19.1.Policy.Kids), .sl 6 (List.map enc82 x19.1.Open), .sl 6 (List.map enc82 x19.1.Pending), .sl 3 (List.map enc140 x19.1.Memo), .sl 14 (List.map enc87 x19.1.Rows), .sl 4 (List.map enc92 x19.1.Edges), .sl 6 (List.map enc94 x19.1.Slots), .sl 4 (List.map enc96 x19.1.Blocks)]) W_ W_ W_ ty42 rfl rfl rfl R_) D_<|qP 7 asg<|ao_nil_d (by kernel_rfl)<|k17 _<|sr fun _ k20 => pl 36 (.agg [.int .i64 a0.Kind, .int .i64 a0.N, .sl 10 (List.map enc77 a0.Spans), .int .i64 a0.Policy.Kind, .int .i64 a0.Policy.N, .str a0.Policy.Key, .str a0.Policy.Value, .sl 5 (List.map enc24 a0.Policy.Kids)]) ty27<|bE h fun x21 y21 h => pD 37 (cZ 37 (keeper_Op_ok a0 y21) ent9)<|pX 38 ((does_len_own W_ W_ ty46).cast (v' := .int .i64 (List.length x21 : Int)) (by exact len_map _))<|pP 39 bi<|pP 40 mv<|pP 41 bi<|pP 42 (does_eq_bool (v := .bool ((decide ((0 : Int) < (List.length x21 : Int))) == (x19.2 == 0))) W_ W_ (ty_bool ty4) rfl)<|pP 4 asg<|en k20<|aw_ret<|by cases h;exact rk
def Arr3_Int.wf (a : Arr3_Int) : Prop := (inI .i64 a.c0) ∧ (inI .i64 a.c1) ∧ (inI .i64 a.c2)
theorem sh28 : ∀ (m : Nat) (cs : List PV), Shape Tryz.prog m 28 cs → ∃ a : Arr3_Int, cs = [.int .i64 a.c0, .int .i64 a.c1, .int .i64 a.c2] ∧ (Arr3_Int.wf a) := fun m cs h => by
 obtain ⟨hl, m, hf⟩ := shape_arr (c := 1) h Tryz.underlying28 (by kernel_rfl)
 have f0 := hf 0 D_
 obtain ⟨a0, e0, w0⟩ := sh3 m _ f0
 have f1 := hf 1 D_
 obtain ⟨a1, e1, w1⟩ := sh3 m _ f1
 have f2 := hf 2 D_
 obtain ⟨a2, e2, w2⟩ := sh3 m _ f2
 exact ⟨⟨a0, a1, a2⟩, tile_all (l := [(1, [.int .i64 a0]), (1, [.int .i64 a1]), (1, [.int .i64 a2])]) ⟨e0, e1, e2, trivial⟩ hl (by kernel_rfl), ⟨w0, w1, w2⟩⟩
def Config.wf (a : Config) : Prop := (inI .i64 a.Idle) ∧ (inI .i64 a.Age) ∧ (inI .i64 a.Most) ∧ (inI .i64 a.Memo) ∧ (inI .i64 a.Cap) ∧ (inI .i64 a.Keep) ∧ (inI .i64 a.Budget) ∧ (Arr3_Int.wf a.Horizon)
theorem sh30 : ∀ (m : Nat) (cs : List PV), Shape Tryz.prog m 30 cs → ∃ a : Config, cs = [.int .i64 a.Idle, .int .i64 a.Age, .int .i64 a.Most, .int .i64 a.Memo, .int .i64 a.Cap, .int .i64 a.Keep, .int .i64 a.Budget, .int .i64 a.Horizon.c0, .int .i64 a.Horizon.c1, .int .i64 a.Horizon.c2] ∧ (Config.wf a) := fun m cs h => by
 obtain ⟨hl, m, hf⟩ := shape_struct h Tryz.underlying30
 have f0 := hf 0 _ rfl
 obtain ⟨a0, e0, w0⟩ := sh3 m _ f0
 rw [show Tryz.prog.cellsOf _ = 1 by kernel_rfl] at e0
 have f1 := hf 1 _ rfl
 obtain ⟨a1, e1, w1⟩ := sh3 m _ f1
 rw [show Tryz.prog.cellsOf _ = 1 by kernel_rfl] at e1
 have f2 := hf 2 _ rfl
 obtain ⟨a2, e2, w2⟩ := sh3 m _ f2
 rw [show Tryz.prog.cellsOf _ = 1 by kernel_rfl] at e2
 have f3 := hf 3 _ rfl
 obtain ⟨a3, e3, w3⟩ := sh3 m _ f3
 rw [show Tryz.prog.cellsOf _ = 1 by kernel_rfl] at e3
 have f4 := hf 4 _ rfl
 obtain ⟨a4, e4, w4⟩ := sh3 m _ f4
 rw [show Tryz.prog.cellsOf _ = 1 by kernel_rfl] at e4
 have f5 := hf 5 _ rfl
 obtain ⟨a5, e5, w5⟩ := sh3 m _ f5
 rw [show Tryz.prog.cellsOf _ = 1 by kernel_rfl] at e5
 have f6 := hf 6 _ rfl
 obtain ⟨a6, e6, w6⟩ := sh3 m _ f6
 rw [show Tryz.prog.cellsOf _ = 1 by kernel_rfl] at e6
 have f7 := hf 7 _ rfl
 obtain ⟨a7, e7, w7⟩ := sh28 m _ f7
 rw [show Tryz.prog.cellsOf _ = 3 by kernel_rfl] at e7
 exact ⟨⟨a0, a1, a2, a3, a4, a5, a6, a7⟩, tile_all (l := [(1, [.int .i64 a0]), (1, [.int .i64 a1]), (1, [.int .i64 a2]), (1, [.int .i64 a3]), (1, [.int .i64 a4]), (1, [.int .i64 a5]), (1, [.int .i64 a6]), (3, [.int .i64 a7.c0, .int .i64 a7.c1, .int .i64 a7.c2])]) ⟨e0, e1, e2, e3, e4, e5, e6, e7, trivial⟩ hl (by kernel_rfl), ⟨w0, w1, w2, w3, w4, w5, w6, w7⟩⟩
end Go.Proofs.YtbaibpjffcahiaaGreat.Ab
