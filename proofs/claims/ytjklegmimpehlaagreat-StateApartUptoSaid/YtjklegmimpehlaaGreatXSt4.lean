/- Chapter 21: what all its laws ask. -/
import Derived.Test.YtjklegmimpehlaaGreatXSt3
import Derived.Test.YtjklegmimpehlaaGreatProg
namespace Go.Proofs.YtjklegmimpehlaaGreat.Ab
open Go Go.RowKit
set_option linter.unusedVariables false
set_option linter.unusedSimpArgs false
set_option maxRecDepth 100000
set_option maxHeartbeats 8000000
theorem ent9 : Ent Tryz.prog 9 := eN Tryz.func9
theorem ent10 : Ent Tryz.prog 10 := eN Tryz.func10
theorem ent11 : Ent Tryz.prog 11 := eN Tryz.func11
theorem ent18 : Ent Tryz.prog 18 := eN Tryz.func18
theorem ent19 : Ent Tryz.prog 19 := eN Tryz.func19
theorem ent20 : Ent Tryz.prog 20 := eN Tryz.func20
theorem ent79 : Ent Tryz.prog 79 := eN Tryz.func79
def gleaninglaw15_Few_k1 (a0 : List Episode) (v3_0 : Int) (v4_0 : Int) : Option ((Int × Int) ⊕ Bool) :=
 gd (0 ≤ v4_0) (Option.bind (a0[(Int.toNat v4_0)]?) (fun (x18 : Episode) => Option.bind (gleaninglaw3_FewAll x18.Spans) (fun (x19 : Bool) => if (!x19) = true then (some (Sum.inr false)) else (gd (0 ≤ v4_0) (Option.bind (a0[(Int.toNat v4_0)]?) (fun (x23 : Episode) => some (Sum.inl ((IntKind.i64.wrap ((IntKind.i64.wrap (v3_0 + 1)) + (List.length x23.Spans : Int))), (IntKind.i64.wrap (v4_0 + 1))))))))))
def gleaninglaw15_Few_l0 (a0 : List Episode) (v3_0 : Int) (v4_0 : Int) : Option ((Int × Int) ⊕ Bool) :=
 Option.bind (if (decide (v4_0 < (List.length a0 : Int))) = true then (if (decide (v3_0 < 1000)) = true then (some (Sum.inl ())) else (some (Sum.inr (Sum.inr (decide (v3_0 ≤ 120)))))) else (some (Sum.inr (Sum.inr (decide (v3_0 ≤ 120)))))) (Sum.elim (fun (s : Unit) => gleaninglaw15_Few_k1 a0 v3_0 v4_0) some)
def gleaninglaw15_Few (a0 : List Episode) : Option Bool :=
 loopN (fun (s : Int × Int) => gleaninglaw15_Few_l0 a0 s.1 s.2) Fu (0, 0)
theorem gleaninglaw15_Few_ok (a0 : List Episode) {r : Bool} (h : gleaninglaw15_Few a0 = some r) : Ok Tryz.prog 19 [.sl 6 (List.map enc68 a0)] [] [] (.bool r) [] [] := by
 unfold gleaninglaw15_Few at h
 refine oK Tryz.func19 rfl fun X => sr fun _ k1 => pP 2 asg<|en k1<|sr fun _ k2 => pP 3 asg<|en k2<|aw_seq_k fun _ k3 => sr fun _ k4 => pP 4 asg<|en k4<|aw_block<|aw_loop' (fun m s => ∃ (v3_0 : Int), ∃ (v4_0 : Int), loopN (fun (s : Int × Int) => gleaninglaw15_Few_l0 a0 s.1 s.2) m (v3_0, v4_0) = some r ∧ s = lit [(0, .sl 6 (List.map enc68 a0)), (3, .int .i64 v3_0), (4, .int .i64 v4_0)] [] [] X) Fu
  ⟨_, ra [], 0, 0, h, rfl⟩ ?_
 rintro m s ⟨v3_0, v4_0, h, rfl⟩
 obtain ⟨m0, q5, rfl, h, hq6⟩ := loop_some h
 replace h : gleaninglaw15_Few_l0 a0 v3_0 v4_0 = some q5 := h
 refine bE h fun q7 h hk8 => aw_cut (fun s => gleaninglaw15_Few_k1 a0 v3_0 v4_0 = some q5 ∧ s = lit [(0, .sl 6 (List.map enc68 a0)), (3, .int .i64 v3_0), (4, .int .i64 v4_0)] [] [] X) ?_ ?_
 ·skip
  refine sr fun _ k9 => pP 5 mv<|pP 6 mv<|pP 7 (zl ty25)<|pP 8 bi<|pP 9 mv<|li 9 h (fun c10 h => ?_) fun c10 h => ?_
  ·refine pP 10 mv<|pP 11 bi<|pP 12 pc<|en k9<|wi 12 h (fun c11 h => ?_) fun c11 h => ?_
   ·refine aw_skip<|tk (leafL h hk8) fun h => ?_
    exact ⟨_, ra [], h, rfl⟩
   ·refine aw_exit<|tk (leafR h hk8) fun h => tk (leafR h hq6) fun h => k3 _<|sr fun _ k12 => pP 31 mv<|pP 32 bi<|pP 2 asg<|en k12<|aw_ret<|by cases h;exact rk
  ·refine pS 10<|pS 11<|pP 12 pc<|en k9<|aw_cond_f D_ rfl<|aw_exit<|tk (leafR h hk8) fun h => tk (leafR h hq6) fun h => k3 _<|sr fun _ k13 => pP 31 mv<|pP 32 bi<|pP 2 asg<|en k13<|aw_ret<|by cases h;exact rk
 ·rintro s ⟨h, rfl⟩
  refine aw_seq_k fun _ k14 => aw_block<|aw_seq_k fun _ k15 => sr fun _ k16 => pP 15 mv<|pP 16 mv<|gE h fun g17 h => bE h fun x18 y18 h => pP 17 (ia ty25 ty69 g17 y18)<|pP 18 (fa ty69 ty67)<|pX 19 (ld ty67)<|bE h fun x19 y19 h => pD 20 (cZ 20 (gleaninglaw3_FewAll_ok x18.Spans y19) ent79)<|pP 21 un<|en k16<|wi 21 h (fun c20 h => ?_) fun c20 h => ?_
  ·refine sr fun _ k21 => pP 2 asg<|en k21<|aw_ret<|by cases leafR h hq6;exact rk
  ·refine aw_skip<|k15 _<|aw_regL<|pP 22 mv<|pP 23 bi<|pP 24 mv<|pP 25 mv<|gE h fun g22 h => bE h fun x23 y23 h => pP 26 (ia ty25 ty69 g22 y23)<|pP 27 (fa ty69 ty67)<|pX 28 (ld ty67)<|pP 29 (zl ty67)<|pP 30 bi<|pP 3 asg<|en k14<|aw_regL<|pP 13 mv<|pP 14 bi<|pP 4 asg<|al_nil<|bk (ra []) ⟨(IntKind.i64.wrap ((IntKind.i64.wrap (v3_0 + 1)) + (List.length x23.Spans : Int))), (IntKind.i64.wrap (v4_0 + 1)), leafL h hq6, rfl⟩
def Episode.wf (a : Episode) : Prop := (Trace.wf a.Trace) ∧ (inI .i64 a.First) ∧ (inI .i64 a.Last) ∧ True ∧ ((List.length a.Spans) ≤ maxLen ∧ ∀ y ∈ a.Spans, Span.wf y)
theorem sh69 : ∀ (m : Nat) (cs : List PV), Shape Tryz.prog m 69 cs → ∃ a : Episode, cs = [.int .u64 a.Trace.Hi, .int .u64 a.Trace.Lo, .int .i64 a.First, .int .i64 a.Last, .bool a.Sure, .sl 10 (List.map enc130 a.Spans)] ∧ (Episode.wf a) := fun m cs h => by
 obtain ⟨hl, m, hf⟩ := shape_struct h Tryz.underlying69
 have f0 := hf 0 _ rfl
 obtain ⟨a0, e0, w0⟩ := sh62 m _ f0
 rw [show Tryz.prog.cellsOf _ = 2 by kernel_rfl] at e0
 have f1 := hf 1 _ rfl
 obtain ⟨a1, e1, w1⟩ := sh3 m _ f1
 rw [show Tryz.prog.cellsOf _ = 1 by kernel_rfl] at e1
 have f2 := hf 2 _ rfl
 obtain ⟨a2, e2, w2⟩ := sh3 m _ f2
 rw [show Tryz.prog.cellsOf _ = 1 by kernel_rfl] at e2
 have f3 := hf 3 _ rfl
 obtain ⟨a3, e3, w3⟩ := sh4 m _ f3
 rw [show Tryz.prog.cellsOf _ = 1 by kernel_rfl] at e3
 have f4 := hf 4 _ rfl
 obtain ⟨a4, e4, w4⟩ := sh67 m _ f4
 rw [show Tryz.prog.cellsOf _ = 1 by kernel_rfl] at e4
 exact ⟨⟨a0, a1, a2, a3, a4⟩, tile_all (l := [(2, [.int .u64 a0.Hi, .int .u64 a0.Lo]), (1, [.int .i64 a1]), (1, [.int .i64 a2]), (1, [.bool a3]), (1, [.sl 10 (List.map enc130 a4)])]) ⟨e0, e1, e2, e3, e4, trivial⟩ hl (by kernel_rfl), ⟨w0, w1, w2, w3, w4⟩⟩
theorem sh25 : ∀ (m : Nat) (cs : List PV), Shape Tryz.prog m 25 cs → ∃ a : List Episode, cs = [.sl 6 (List.map enc68 a)] ∧ ((List.length a) ≤ maxLen ∧ ∀ y ∈ a, Episode.wf y) := fun m cs h => by
 obtain ⟨l, h1, h2, h3⟩ := shape_rows (f := enc68) (Q := fun y => Episode.wf y) h Tryz.underlying25 (fun m ps hs => by
  obtain ⟨a, rfl, hw⟩ := sh69 m ps hs
  exact ⟨a, by rw [show aggT Tryz.prog 69 = true by kernel_rfl]; rfl, hw⟩)
 exact ⟨l, h1.trans (by rw [show Tryz.prog.cellsOf 69 = 6 by kernel_rfl]), h2, h3⟩
def gleaninglaw19_Few_k2 (a0 : List Block) (v3_s_1 : List Episode) (v4_1 : Int) : Option ((List Episode × Int) ⊕ (List Episode)) :=
 gd (0 ≤ v4_1) (Option.bind (a0[(Int.toNat v4_1)]?) (fun (x15 : Block) => gd ((List.length (v3_s_1 ++ x15.Episodes)) * 64 ≤ 140737488355328 ∧ (List.length (v3_s_1 ++ x15.Episodes)) ≤ 140737488355328) (some (Sum.inl ((v3_s_1 ++ x15.Episodes), (IntKind.i64.wrap (v4_1 + 1)))))))
def gleaninglaw19_Few_l1 (a0 : List Block) (v3_s_1 : List Episode) (v4_1 : Int) : Option ((List Episode × Int) ⊕ (List Episode)) :=
 Option.bind (if (decide (v4_1 < (List.length a0 : Int))) = true then (if (decide (v4_1 < 20)) = true then (some (Sum.inl ())) else (some (Sum.inr (Sum.inr v3_s_1)))) else (some (Sum.inr (Sum.inr v3_s_1)))) (Sum.elim (fun (s : Unit) => gleaninglaw19_Few_k2 a0 v3_s_1 v4_1) some)
def gleaninglaw19_Few_k0 (a0 : List Block) (v3_s_0 : List Episode) : Option Bool :=
 if (decide ((List.length a0 : Int) ≤ 12)) = true then (Option.bind (gleaninglaw15_Few v3_s_0) (fun (x19 : Bool) => some x19)) else (some false)
def gleaninglaw19_Few (a0 : List Block) : Option Bool :=
 Option.bind (loopN (fun (s : List Episode × Int) => gleaninglaw19_Few_l1 a0 s.1 s.2) Fu ([], 0)) (fun (s : List Episode) => gleaninglaw19_Few_k0 a0 s)
theorem gleaninglaw19_Few_ok (a0 : List Block) {r : Bool} (h : gleaninglaw19_Few a0 = some r) : Ok Tryz.prog 20 [.sl 4 (List.map enc40 a0)] [] [] (.bool r) [] [] := by
 refine oK Tryz.func20 rfl fun X => sr fun _ k1 => pP 2 asg<|en k1<|sr fun _ k2 => pP 3 asg<|en k2<|bE h fun q3 h hk4 => aw_cut (fun s => ∃ (v3_s_0 : List Episode), gleaninglaw19_Few_k0 a0 v3_s_0 = some r ∧ s = lit [(0, .sl 4 (List.map enc40 a0)), (3, .own 3 0)] [((3, 0), .arr 69 6 false (List.map enc68 v3_s_0))] [(3, 1)] X) ?_ ?_
 ·skip
  refine sr fun _ k5 => pP 4 asg<|en k5<|aw_block<|aw_nilOwn 3 69 6 W_ D_ D_<|aw_loop' (fun m s => ∃ (v3_s_1 : List Episode), ∃ (v4_1 : Int), loopN (fun (s : List Episode × Int) => gleaninglaw19_Few_l1 a0 s.1 s.2) m (v3_s_1, v4_1) = some q3 ∧ s = lit [(0, .sl 4 (List.map enc40 a0)), (3, .own 3 0), (4, .int .i64 v4_1)] [((3, 0), .arr 69 6 false (List.map enc68 v3_s_1))] [(3, 1)] X) Fu
   ⟨_, ra [(3, 0)], [], 0, h, rfl⟩ ?_
  rintro m s ⟨v3_s_1, v4_1, h, rfl⟩
  obtain ⟨m1, q6, rfl, h, hq7⟩ := loop_some h
  replace h : gleaninglaw19_Few_l1 a0 v3_s_1 v4_1 = some q6 := h
  refine bE h fun q8 h hk9 => aw_cut (fun s => gleaninglaw19_Few_k2 a0 v3_s_1 v4_1 = some q6 ∧ s = lit [(0, .sl 4 (List.map enc40 a0)), (3, .own 3 0), (4, .int .i64 v4_1)] [((3, 0), .arr 69 6 false (List.map enc68 v3_s_1))] [(3, 1)] X) ?_ ?_
  ·skip
   refine sr fun _ k10 => pP 5 mv<|pP 6 mv<|pP 7 (zl ty30)<|pP 8 bi<|pP 9 mv<|li 9 h (fun c11 h => ?_) fun c11 h => ?_
   ·refine pP 10 mv<|pP 11 bi<|pP 12 pc<|en k10<|wi 12 h (fun c12 h => ?_) fun c12 h => ?_
    ·refine aw_skip<|tk (leafL h hk9) fun h => ?_
     exact ⟨_, ra [(3, 0)], h, rfl⟩
    ·refine aw_exit<|tk (leafR h hk9) fun h => tk (leafR h hq7) fun h => ?_
     obtain rfl := Option.some.inj h
     have h := hk4
     exact ⟨_, ra [(3, 0)], v3_s_1, h, rfl⟩
   ·refine pS 10<|pS 11<|pP 12 pc<|en k10<|aw_cond_f D_ rfl<|aw_exit<|tk (leafR h hk9) fun h => tk (leafR h hq7) fun h => ?_
    obtain rfl := Option.some.inj h
    have h := hk4
    exact ⟨_, ra [(3, 0)], v3_s_1, h, rfl⟩
  ·rintro s ⟨h, rfl⟩
   refine aw_seq_k fun _ k13 => aw_block<|aw_regL<|pP 15 mv<|pP 16 mv<|pP 17 mv<|gE h fun g14 h => bE h fun x15 y15 h => pP 18 (ia ty30 ty41 g14 y15)<|pP 19 (fa ty41 ty25)<|pX 20 (ld ty25)<|gE h fun g16 h => pD 21 (do_append (v := List.map enc68 (v3_s_1 ++ x15.Episodes)) W_ W_ ty25 ty69 rfl rfl W_ (by first | exact .inl rfl | exact .inr ⟨rfl, rfl⟩) W_ (by first | exact .inr rfl | exact .inl rfl) (map_app _ _) (fit_map g16))<|pP 3 asg<|en k13<|aw_regL<|pP 13 mv<|pP 14 bi<|pP 4 asg<|al_nil<|bk (ra [(21, 0)]) ⟨(v3_s_1 ++ x15.Episodes), (IntKind.i64.wrap (v4_1 + 1)), leafL h hq7, rfl⟩
 ·rintro s ⟨v3_s_0, h, rfl⟩
  refine sr fun _ k17 => pP 22 mv<|pP 23 (zl ty30)<|pP 24 bi<|pP 25 mv<|li 25 h (fun c18 h => ?_) fun c18 h => ?_
  ·refine pP 26 mv<|bE h fun x19 y19 h => pD 27 (do_callG (bcs := []) [] [] [(3, 0)] 27 false (gleaninglaw15_Few_ok v3_s_0 y19) rfl ent19 trivial trivial rfl rfl rfl rfl rfl rfl rfl rfl (.inr ⟨rfl, rfl, trivial⟩))<|pP 28 pc<|pP 2 asg<|en k17<|aw_ret<|by cases h;exact rk
  ·refine pS 26<|pS 27<|pP 28 pc<|pP 2 asg<|en k17<|aw_ret<|by cases h;exact rk
def Block.wf (a : Block) : Prop := (inI .i64 a.Number) ∧ (inI .i64 a.Born) ∧ (inI .i64 a.Tier) ∧ ((List.length a.Episodes) ≤ maxLen ∧ ∀ y ∈ a.Episodes, Episode.wf y)
theorem sh41 : ∀ (m : Nat) (cs : List PV), Shape Tryz.prog m 41 cs → ∃ a : Block, cs = [.int .i64 a.Number, .int .i64 a.Born, .int .i64 a.Tier, .sl 6 (List.map enc68 a.Episodes)] ∧ (Block.wf a) := fun m cs h => by
 obtain ⟨hl, m, hf⟩ := shape_struct h Tryz.underlying41
 have f0 := hf 0 _ rfl
 obtain ⟨a0, e0, w0⟩ := sh3 m _ f0
 rw [show Tryz.prog.cellsOf _ = 1 by kernel_rfl] at e0
 have f1 := hf 1 _ rfl
 obtain ⟨a1, e1, w1⟩ := sh3 m _ f1
 rw [show Tryz.prog.cellsOf _ = 1 by kernel_rfl] at e1
 have f2 := hf 2 _ rfl
 obtain ⟨a2, e2, w2⟩ := sh3 m _ f2
 rw [show Tryz.prog.cellsOf _ = 1 by kernel_rfl] at e2
 have f3 := hf 3 _ rfl
 obtain ⟨a3, e3, w3⟩ := sh25 m _ f3
 rw [show Tryz.prog.cellsOf _ = 1 by kernel_rfl] at e3
 exact ⟨⟨a0, a1, a2, a3⟩, tile_all (l := [(1, [.int .i64 a0]), (1, [.int .i64 a1]), (1, [.int .i64 a2]), (1, [.sl 6 (List.map enc68 a3)])]) ⟨e0, e1, e2, e3, trivial⟩ hl (by kernel_rfl), ⟨w0, w1, w2, w3⟩⟩
theorem sh30 : ∀ (m : Nat) (cs : List PV), Shape Tryz.prog m 30 cs → ∃ a : List Block, cs = [.sl 4 (List.map enc40 a)] ∧ ((List.length a) ≤ maxLen ∧ ∀ y ∈ a, Block.wf y) := fun m cs h => by
 obtain ⟨l, h1, h2, h3⟩ := shape_rows (f := enc40) (Q := fun y => Block.wf y) h Tryz.underlying30 (fun m ps hs => by
  obtain ⟨a, rfl, hw⟩ := sh41 m ps hs
  exact ⟨a, by rw [show aggT Tryz.prog 41 = true by kernel_rfl]; rfl, hw⟩)
 exact ⟨l, h1.trans (by rw [show Tryz.prog.cellsOf 41 = 4 by kernel_rfl]), h2, h3⟩
def gleaninglaw21_Few_l2 (a0 : StateG) (v3_2 : Int) : Option (Int ⊕ (Unit ⊕ Bool)) :=
 if (decide (v3_2 < (List.length a0.Rows : Int))) = true then (gd (0 ≤ v3_2) (Option.bind (a0.Rows[(Int.toNat v3_2)]?) (fun (x36 : RowG) => if (decide ((60 : Int) < (ByteArray.size x36.Service : Int))) = true then (some (Sum.inr (Sum.inr false))) else (gd (0 ≤ v3_2) (Option.bind (a0.Rows[(Int.toNat v3_2)]?) (fun (x40 : RowG) => if (decide ((60 : Int) < (ByteArray.size x40.Op : Int))) = true then (some (Sum.inr (Sum.inr false))) else (some (Sum.inl (IntKind.i64.wrap (v3_2 + 1)))))))))) else (some (Sum.inr (Sum.inl ())))
def gleaninglaw21_Few_l4 (a0 : StateG) (v4_4 : Int) : Option (Int ⊕ (Unit ⊕ Bool)) :=
 if (decide (v4_4 < (List.length a0.Edges : Int))) = true then (gd (0 ≤ v4_4) (Option.bind (a0.Edges[(Int.toNat v4_4)]?) (fun (x54 : Edge) => if (decide ((60 : Int) < (ByteArray.size x54.From : Int))) = true then (some (Sum.inr (Sum.inr false))) else (gd (0 ≤ v4_4) (Option.bind (a0.Edges[(Int.toNat v4_4)]?) (fun (x58 : Edge) => if (decide ((60 : Int) < (ByteArray.size x58.To : Int))) = true then (some (Sum.inr (Sum.inr false))) else (some (Sum.inl (IntKind.i64.wrap (v4_4 + 1)))))))))) else (some (Sum.inr (Sum.inl ())))
def gleaninglaw21_Few_l5 (a0 : StateG) (v5_5 : Int) : Option (Int ⊕ Bool) :=
 if (decide (v5_5 < (List.length a0.Slots : Int))) = true then (gd (0 ≤ v5_5) (Option.bind (a0.Slots[(Int.toNat v5_5)]?) (fun (x71 : Exemplar) => if (decide ((60 : Int) < (ByteArray.size x71.Service : Int))) = true then (some (Sum.inr false)) else (gd (0 ≤ v5_5) (Option.bind (a0.Slots[(Int.toNat v5_5)]?) (fun (x75 : Exemplar) => if (decide ((60 : Int) < (ByteArray.size x75.Op : Int))) = true then (some (Sum.inr false)) else (some (Sum.inl (IntKind.i64.wrap (v5_5 + 1)))))))))) else (some (Sum.inr true))
def gleaninglaw21_Few_k3 (a0 : StateG) : Option Bool :=
 loopN (fun (s : Int) => gleaninglaw21_Few_l5 a0 s) Fu 0
def gleaninglaw21_Few_k1 (a0 : StateG) : Option Bool :=
 Option.bind (loopN (fun (s : Int) => gleaninglaw21_Few_l4 a0 s) Fu 0) (Sum.elim (fun (s : Unit) => gleaninglaw21_Few_k3 a0) some)
def gleaninglaw21_Few_k0 (a0 : StateG) : Option Bool :=
 Option.bind (loopN (fun (s : Int) => gleaninglaw21_Few_l2 a0 s) Fu 0) (Sum.elim (fun (s : Unit) => gleaninglaw21_Few_k1 a0) some)
def gleaninglaw21_Few (a0 : StateG) : Option Bool :=
 Option.bind (Option.bind (gleaninglaw13_Few a0.Policy) (fun (x5 : Bool) => if (!x5) = true then (some (Sum.inr false)) else (Option.bind (gleaninglaw15_Few a0.Open) (fun (x8 : Bool) => if (!x8) = true then (some (Sum.inr false)) else (Option.bind (gleaninglaw15_Few a0.Pending) (fun (x11 : Bool) => if (!x11) = true then (some (Sum.inr false)) else (Option.bind (gleaninglaw19_Few a0.Blocks) (fun (x14 : Bool) => if (!x14) = true then (some (Sum.inr false)) else (if (decide ((100 : Int) < (List.length a0.Memo : Int))) = true then (some (Sum.inr false)) else (if (decide ((100 : Int) < (List.length a0.Rows : Int))) = true then (some (Sum.inr false)) else (if (decide ((60 : Int) < (List.length a0.Edges : Int))) = true then (some (Sum.inr false)) else (if (decide ((60 : Int) < (List.length a0.Slots : Int))) = true then (some (Sum.inr false)) else (some (Sum.inl ())))))))))))))) (Sum.elim (fun (s : Unit) => gleaninglaw21_Few_k0 a0) some)
theorem gleaninglaw21_Few_ok (a0 : StateG) {r : Bool} (h : gleaninglaw21_Few a0 = some r) : Ok Tryz.prog 7 [.agg [.int .i64 a0.Now, .int .i64 a0.Sec, .int .i64 a0.Kept, .int .i64 a0.Next, .int .i64 a0.Policy.Kind, .int .i64 a0.Policy.N, .str a0.Policy.Key, .str a0.Policy.Value, .sl 5 (List.map enc23 a0.Policy.Kids), .sl 6 (List.map enc68 a0.Open), .sl 6 (List.map enc68 a0.Pending), .sl 3 (List.map enc79 a0.Memo), .sl 14 (List.map enc56 a0.Rows), .sl 4 (List.map enc58 a0.Edges), .sl 6 (List.map enc63 a0.Slots), .sl 4 (List.map enc40 a0.Blocks)]] [] [] (.bool r) [] [] := by
 refine oK Tryz.func7 rfl fun X => sr fun _ k1 => pD 1 (do_box W_ rfl rfl)<|pP 2 asg<|en k1<|bE h fun q2 h hk3 => aw_cut (fun s => gleaninglaw21_Few_k0 a0 = some r ∧ s = lit [(1, .ptr 1 0 0)] [((1, 0), .box [.int .i64 a0.Now, .int .i64 a0.Sec, .int .i64 a0.Kept, .int .i64 a0.Next, .int .i64 a0.Policy.Kind, .int .i64 a0.Policy.N, .str a0.Policy.Key, .str a0.Policy.Value, .sl 5 (List.map enc23 a0.Policy.Kids), .sl 6 (List.map enc68 a0.Open), .sl 6 (List.map enc68 a0.Pending), .sl 3 (List.map enc79 a0.Memo), .sl 14 (List.map enc56 a0.Rows), .sl 4 (List.map enc58 a0.Edges), .sl 6 (List.map enc63 a0.Slots), .sl 4 (List.map enc40 a0.Blocks)])] [(1, 1)] X) ?_ ?_
 ·skip
  refine sr fun _ k4 => pP 6 (fa ty32 ty24)<|pl 7 (.agg [.int .i64 a0.Policy.Kind, .int .i64 a0.Policy.N, .str a0.Policy.Key, .str a0.Policy.Value, .sl 5 (List.map enc23 a0.Policy.Kids)]) ty24<|bE h fun x5 y5 h => pD 8 (cz 8 (.bool x5) (gleaninglaw13_Few_ok a0.Policy y5) ent18)<|pP 9 un<|pP 10 mv<|li 10 h (fun c6 h => ?_) fun c6 h => ?_
  ·refine pS 11<|pS 12<|pS 13<|pS 14<|pP 15 pc<|al_reb (ra (tl := [(1, .ptr 1 0 0), (15, .bool true)]) (ol := [((1, 0), .box [.int .i64 a0.Now, .int .i64 a0.Sec, .int .i64 a0.Kept, .int .i64 a0.Next, .int .i64 a0.Policy.Kind, .int .i64 a0.Policy.N, .str a0.Policy.Key, .str a0.Policy.Value, .sl 5 (List.map enc23 a0.Policy.Kids), .sl 6 (List.map enc68 a0.Open), .sl 6 (List.map enc68 a0.Pending), .sl 3 (List.map enc79 a0.Memo), .sl 14 (List.map enc56 a0.Rows), .sl 4 (List.map enc58 a0.Edges), .sl 6 (List.map enc63 a0.Slots), .sl 4 (List.map enc40 a0.Blocks)])]) (nx := [(1, 1)]) [(1, 0)])<|pP 16 mv<|pS 17<|pS 18<|pS 19<|pS 20<|pP 21 pc<|pP 22 mv<|pS 23<|pS 24<|pS 25<|pS 26<|pP 27 pc<|al_reb (ra (tl := [(1, .ptr 1 0 0), (27, .bool true)]) (ol := [((1, 0), .box [.int .i64 a0.Now, .int .i64 a0.Sec, .int .i64 a0.Kept, .int .i64 a0.Next, .int .i64 a0.Policy.Kind, .int .i64 a0.Policy.N, .str a0.Policy.Key, .str a0.Policy.Value, .sl 5 (List.map enc23 a0.Policy.Kids), .sl 6 (List.map enc68 a0.Open), .sl 6 (List.map enc68 a0.Pending), .sl 3 (List.map enc79 a0.Memo), .sl 14 (List.map enc56 a0.Rows), .sl 4 (List.map enc58 a0.Edges), .sl 6 (List.map enc63 a0.Slots), .sl 4 (List.map enc40 a0.Blocks)])]) (nx := [(1, 1)]) [(1, 0)])<|pP 28 mv<|pS 29<|pS 30<|pS 31<|pS 32<|pP 33 pc<|pP 34 mv<|pS 35<|pS 36<|pS 37<|pS 38<|pP 39 pc<|al_reb (ra (tl := [(1, .ptr 1 0 0), (39, .bool true)]) (ol := [((1, 0), .box [.int .i64 a0.Now, .int .i64 a0.Sec, .int .i64 a0.Kept, .int .i64 a0.Next, .int .i64 a0.Policy.Kind, .int .i64 a0.Policy.N, .str a0.Policy.Key, .str a0.Policy.Value, .sl 5 (List.map enc23 a0.Policy.Kids), .sl 6 (List.map enc68 a0.Open), .sl 6 (List.map enc68 a0.Pending), .sl 3 (List.map enc79 a0.Memo), .sl 14 (List.map enc56 a0.Rows), .sl 4 (List.map enc58 a0.Edges), .sl 6 (List.map enc63 a0.Slots), .sl 4 (List.map enc40 a0.Blocks)])]) (nx := [(1, 1)]) [(1, 0)])<|pP 40 mv<|pS 41<|pS 42<|pS 43<|pS 44<|pP 45 pc<|pP 46 mv<|pS 47<|pS 48<|pS 49<|pS 50<|pP 51 pc<|en k4<|aw_cond_t D_ rfl<|sr fun _ k7 => pP 2 asg<|en k7<|aw_ret<|by cases leafR h hk3;exact rk
  ·refine pP 11 (fa ty32 ty25)<|pX 12 (ld ty25)<|bE h fun x8 y8 h => pD 13 (cz 13 (.bool x8) (gleaninglaw15_Few_ok a0.Open y8) ent19)<|pP 14 un<|pP 15 pc<|al_reb (ra (tl := [(1, .ptr 1 0 0), (15, .bool (!x8))]) (ol := [((1, 0), .box [.int .i64 a0.Now, .int .i64 a0.Sec, .int .i64 a0.Kept, .int .i64 a0.Next, .int .i64 a0.Policy.Kind, .int .i64 a0.Policy.N, .str a0.Policy.Key, .str a0.Policy.Value, .sl 5 (List.map enc23 a0.Policy.Kids), .sl 6 (List.map enc68 a0.Open), .sl 6 (List.map enc68 a0.Pending), .sl 3 (List.map enc79 a0.Memo), .sl 14 (List.map enc56 a0.Rows), .sl 4 (List.map enc58 a0.Edges), .sl 6 (List.map enc63 a0.Slots), .sl 4 (List.map enc40 a0.Blocks)])]) (nx := [(1, 1)]) [(1, 0)])<|pP 16 mv<|li 16 h (fun c9 h => ?_) fun c9 h => ?_
   ·refine pS 17<|pS 18<|pS 19<|pS 20<|pP 21 pc<|pP 22 mv<|pS 23<|pS 24<|pS 25<|pS 26<|pP 27 pc<|al_reb (ra (tl := [(1, .ptr 1 0 0), (27, .bool true)]) (ol := [((1, 0), .box [.int .i64 a0.Now, .int .i64 a0.Sec, .int .i64 a0.Kept, .int .i64 a0.Next, .int .i64 a0.Policy.Kind, .int .i64 a0.Policy.N, .str a0.Policy.Key, .str a0.Policy.Value, .sl 5 (List.map enc23 a0.Policy.Kids), .sl 6 (List.map enc68 a0.Open), .sl 6 (List.map enc68 a0.Pending), .sl 3 (List.map enc79 a0.Memo), .sl 14 (List.map enc56 a0.Rows), .sl 4 (List.map enc58 a0.Edges), .sl 6 (List.map enc63 a0.Slots), .sl 4 (List.map enc40 a0.Blocks)])]) (nx := [(1, 1)]) [(1, 0)])<|pP 28 mv<|pS 29<|pS 30<|pS 31<|pS 32<|pP 33 pc<|pP 34 mv<|pS 35<|pS 36<|pS 37<|pS 38<|pP 39 pc<|al_reb (ra (tl := [(1, .ptr 1 0 0), (39, .bool true)]) (ol := [((1, 0), .box [.int .i64 a0.Now, .int .i64 a0.Sec, .int .i64 a0.Kept, .int .i64 a0.Next, .int .i64 a0.Policy.Kind, .int .i64 a0.Policy.N, .str a0.Policy.Key, .str a0.Policy.Value, .sl 5 (List.map enc23 a0.Policy.Kids), .sl 6 (List.map enc68 a0.Open), .sl 6 (List.map enc68 a0.Pending), .sl 3 (List.map enc79 a0.Memo), .sl 14 (List.map enc56 a0.Rows), .sl 4 (List.map enc58 a0.Edges), .sl 6 (List.map enc63 a0.Slots), .sl 4 (List.map enc40 a0.Blocks)])]) (nx := [(1, 1)]) [(1, 0)])<|pP 40 mv<|pS 41<|pS 42<|pS 43<|pS 44<|pP 45 pc<|pP 46 mv<|pS 47<|pS 48<|pS 49<|pS 50<|pP 51 pc<|en k4<|aw_cond_t D_ rfl<|sr fun _ k10 => pP 2 asg<|en k10<|aw_ret<|by cases leafR h hk3;exact rk
   ·refine pP 17 (fa ty32 ty25)<|pX 18 (ld ty25)<|bE h fun x11 y11 h => pD 19 (cz 19 (.bool x11) (gleaninglaw15_Few_ok a0.Pending y11) ent19)<|pP 20 un<|pP 21 pc<|pP 22 mv<|li 22 h (fun c12 h => ?_) fun c12 h => ?_
    ·refine pS 23<|pS 24<|pS 25<|pS 26<|pP 27 pc<|al_reb (ra (tl := [(1, .ptr 1 0 0), (27, .bool true)]) (ol := [((1, 0), .box [.int .i64 a0.Now, .int .i64 a0.Sec, .int .i64 a0.Kept, .int .i64 a0.Next, .int .i64 a0.Policy.Kind, .int .i64 a0.Policy.N, .str a0.Policy.Key, .str a0.Policy.Value, .sl 5 (List.map enc23 a0.Policy.Kids), .sl 6 (List.map enc68 a0.Open), .sl 6 (List.map enc68 a0.Pending), .sl 3 (List.map enc79 a0.Memo), .sl 14 (List.map enc56 a0.Rows), .sl 4 (List.map enc58 a0.Edges), .sl 6 (List.map enc63 a0.Slots), .sl 4 (List.map enc40 a0.Blocks)])]) (nx := [(1, 1)]) [(1, 0)])<|pP 28 mv<|pS 29<|pS 30<|pS 31<|pS 32<|pP 33 pc<|pP 34 mv<|pS 35<|pS 36<|pS 37<|pS 38<|pP 39 pc<|al_reb (ra (tl := [(1, .ptr 1 0 0), (39, .bool true)]) (ol := [((1, 0), .box [.int .i64 a0.Now, .int .i64 a0.Sec, .int .i64 a0.Kept, .int .i64 a0.Next, .int .i64 a0.Policy.Kind, .int .i64 a0.Policy.N, .str a0.Policy.Key, .str a0.Policy.Value, .sl 5 (List.map enc23 a0.Policy.Kids), .sl 6 (List.map enc68 a0.Open), .sl 6 (List.map enc68 a0.Pending), .sl 3 (List.map enc79 a0.Memo), .sl 14 (List.map enc56 a0.Rows), .sl 4 (List.map enc58 a0.Edges), .sl 6 (List.map enc63 a0.Slots), .sl 4 (List.map enc40 a0.Blocks)])]) (nx := [(1, 1)]) [(1, 0)])<|pP 40 mv<|pS 41<|pS 42<|pS 43<|pS 44<|pP 45 pc<|pP 46 mv<|pS 47<|pS 48<|pS 49<|pS 50<|pP 51 pc<|en k4<|aw_cond_t D_ rfl<|sr fun _ k13 => pP 2 asg<|en k13<|aw_ret<|by cases leafR h hk3;exact rk
    ·refine pP 23 (fa ty32 ty30)<|pX 24 (ld ty30)<|bE h fun x14 y14 h => pD 25 (cz 25 (.bool x14) (gleaninglaw19_Few_ok a0.Blocks y14) ent20)<|pP 26 un<|pP 27 pc<|al_reb (ra (tl := [(1, .ptr 1 0 0), (27, .bool (!x14))]) (ol := [((1, 0), .box [.int .i64 a0.Now, .int .i64 a0.Sec, .int .i64 a0.Kept, .int .i64 a0.Next, .int .i64 a0.Policy.Kind, .int .i64 a0.Policy.N, .str a0.Policy.Key, .str a0.Policy.Value, .sl 5 (List.map enc23 a0.Policy.Kids), .sl 6 (List.map enc68 a0.Open), .sl 6 (List.map enc68 a0.Pending), .sl 3 (List.map enc79 a0.Memo), .sl 14 (List.map enc56 a0.Rows), .sl 4 (List.map enc58 a0.Edges), .sl 6 (List.map enc63 a0.Slots), .sl 4 (List.map enc40 a0.Blocks)])]) (nx := [(1, 1)]) [(1, 0)])<|pP 28 mv<|li 28 h (fun c15 h => ?_) fun c15 h => ?_
     ·refine pS 29<|pS 30<|pS 31<|pS 32<|pP 33 pc<|pP 34 mv<|pS 35<|pS 36<|pS 37<|pS 38<|pP 39 pc<|al_reb (ra (tl := [(1, .ptr 1 0 0), (39, .bool true)]) (ol := [((1, 0), .box [.int .i64 a0.Now, .int .i64 a0.Sec, .int .i64 a0.Kept, .int .i64 a0.Next, .int .i64 a0.Policy.Kind, .int .i64 a0.Policy.N, .str a0.Policy.Key, .str a0.Policy.Value, .sl 5 (List.map enc23 a0.Policy.Kids), .sl 6 (List.map enc68 a0.Open), .sl 6 (List.map enc68 a0.Pending), .sl 3 (List.map enc79 a0.Memo), .sl 14 (List.map enc56 a0.Rows), .sl 4 (List.map enc58 a0.Edges), .sl 6 (List.map enc63 a0.Slots), .sl 4 (List.map enc40 a0.Blocks)])]) (nx := [(1, 1)]) [(1, 0)])<|pP 40 mv<|pS 41<|pS 42<|pS 43<|pS 44<|pP 45 pc<|pP 46 mv<|pS 47<|pS 48<|pS 49<|pS 50<|pP 51 pc<|en k4<|aw_cond_t D_ rfl<|sr fun _ k16 => pP 2 asg<|en k16<|aw_ret<|by cases leafR h hk3;exact rk
     ·refine pP 29 (fa ty32 ty26)<|pX 30 (ld ty26)<|pP 31 (zl ty26)<|pP 32 bi<|pP 33 pc<|pP 34 mv<|li 34 h (fun c17 h => ?_) fun c17 h => ?_
      ·refine pS 35<|pS 36<|pS 37<|pS 38<|pP 39 pc<|al_reb (ra (tl := [(1, .ptr 1 0 0), (39, .bool true)]) (ol := [((1, 0), .box [.int .i64 a0.Now, .int .i64 a0.Sec, .int .i64 a0.Kept, .int .i64 a0.Next, .int .i64 a0.Policy.Kind, .int .i64 a0.Policy.N, .str a0.Policy.Key, .str a0.Policy.Value, .sl 5 (List.map enc23 a0.Policy.Kids), .sl 6 (List.map enc68 a0.Open), .sl 6 (List.map enc68 a0.Pending), .sl 3 (List.map enc79 a0.Memo), .sl 14 (List.map enc56 a0.Rows), .sl 4 (List.map enc58 a0.Edges), .sl 6 (List.map enc63 a0.Slots), .sl 4 (List.map enc40 a0.Blocks)])]) (nx := [(1, 1)]) [(1, 0)])<|pP 40 mv<|pS 41<|pS 42<|pS 43<|pS 44<|pP 45 pc<|pP 46 mv<|pS 47<|pS 48<|pS 49<|pS 50<|pP 51 pc<|en k4<|aw_cond_t D_ rfl<|sr fun _ k18 => pP 2 asg<|en k18<|aw_ret<|by cases leafR h hk3;exact rk
      ·refine pP 35 (fa ty32 ty27)<|pX 36 (ld ty27)<|pP 37 (zl ty27)<|pP 38 bi<|pP 39 pc<|al_reb (ra (tl := [(1, .ptr 1 0 0), (39, .bool (decide ((100 : Int) < (List.length a0.Rows : Int))))]) (ol := [((1, 0), .box [.int .i64 a0.Now, .int .i64 a0.Sec, .int .i64 a0.Kept, .int .i64 a0.Next, .int .i64 a0.Policy.Kind, .int .i64 a0.Policy.N, .str a0.Policy.Key, .str a0.Policy.Value, .sl 5 (List.map enc23 a0.Policy.Kids), .sl 6 (List.map enc68 a0.Open), .sl 6 (List.map enc68 a0.Pending), .sl 3 (List.map enc79 a0.Memo), .sl 14 (List.map enc56 a0.Rows), .sl 4 (List.map enc58 a0.Edges), .sl 6 (List.map enc63 a0.Slots), .sl 4 (List.map enc40 a0.Blocks)])]) (nx := [(1, 1)]) [(1, 0)])<|pP 40 mv<|li 40 h (fun c19 h => ?_) fun c19 h => ?_
       ·refine pS 41<|pS 42<|pS 43<|pS 44<|pP 45 pc<|pP 46 mv<|pS 47<|pS 48<|pS 49<|pS 50<|pP 51 pc<|en k4<|aw_cond_t D_ rfl<|sr fun _ k20 => pP 2 asg<|en k20<|aw_ret<|by cases leafR h hk3;exact rk
       ·refine pP 41 (fa ty32 ty28)<|pX 42 (ld ty28)<|pP 43 (zl ty28)<|pP 44 bi<|pP 45 pc<|pP 46 mv<|li 46 h (fun c21 h => ?_) fun c21 h => ?_
        ·refine pS 47<|pS 48<|pS 49<|pS 50<|pP 51 pc<|en k4<|aw_cond_t D_ rfl<|sr fun _ k22 => pP 2 asg<|en k22<|aw_ret<|by cases leafR h hk3;exact rk
        ·refine pP 47 (fa ty32 ty29)<|pX 48 (ld ty29)<|pP 49 (zl ty29)<|pP 50 bi<|pP 51 pc<|en k4<|wi 51 h (fun c23 h => ?_) fun c23 h => ?_
         ·refine sr fun _ k24 => pP 2 asg<|en k24<|aw_ret<|by cases leafR h hk3;exact rk
         ·refine aw_skip<|tk (leafL h hk3) fun h => ?_
          exact ⟨_, ra [(1, 0)], h, rfl⟩
 ·rintro s ⟨h, rfl⟩
  refine bE h fun q25 h hk26 => aw_cut (fun s => gleaninglaw21_Few_k1 a0 = some r ∧ s = lit [(1, .ptr 1 0 0)] [((1, 0), .box [.int .i64 a0.Now, .int .i64 a0.Sec, .int .i64 a0.Kept, .int .i64 a0.Next, .int .i64 a0.Policy.Kind, .int .i64 a0.Policy.N, .str a0.Policy.Key, .str a0.Policy.Value, .sl 5 (List.map enc23 a0.Policy.Kids), .sl 6 (List.map enc68 a0.Open), .sl 6 (List.map enc68 a0.Pending), .sl 3 (List.map enc79 a0.Memo), .sl 14 (List.map enc56 a0.Rows), .sl 4 (List.map enc58 a0.Edges), .sl 6 (List.map enc63 a0.Slots), .sl 4 (List.map enc40 a0.Blocks)])] [(1, 1)] X) ?_ ?_
  ·skip
   refine sr fun _ k27 => pP 3 asg<|en k27<|aw_block<|aw_loop' (fun m s => ∃ (v3_2 : Int), loopN (fun (s : Int) => gleaninglaw21_Few_l2 a0 s) m v3_2 = some q25 ∧ s = lit [(1, .ptr 1 0 0), (3, .int .i64 v3_2)] [((1, 0), .box [.int .i64 a0.Now, .int .i64 a0.Sec, .int .i64 a0.Kept, .int .i64 a0.Next, .int .i64 a0.Policy.Kind, .int .i64 a0.Policy.N, .str a0.Policy.Key, .str a0.Policy.Value, .sl 5 (List.map enc23 a0.Policy.Kids), .sl 6 (List.map enc68 a0.Open), .sl 6 (List.map enc68 a0.Pending), .sl 3 (List.map enc79 a0.Memo), .sl 14 (List.map enc56 a0.Rows), .sl 4 (List.map enc58 a0.Edges), .sl 6 (List.map enc63 a0.Slots), .sl 4 (List.map enc40 a0.Blocks)])] [(1, 1)] X) Fu
    ⟨_, ra [(1, 0)], 0, h, rfl⟩ ?_
   rintro m s ⟨v3_2, h, rfl⟩
   obtain ⟨m2, q28, rfl, h, hq29⟩ := loop_some h
   replace h : gleaninglaw21_Few_l2 a0 v3_2 = some q28 := h
   refine aw_seq_k fun _ k30 => sr fun _ k31 => pP 52 mv<|pP 53 (fa ty32 ty27)<|pX 54 (ld ty27)<|pP 55 (zl ty27)<|pP 56 bi<|en k31<|wi 56 h (fun c32 h => ?_) fun c32 h => ?_
   ·refine aw_skip<|k30 _<|aw_seq_k fun _ k33 => aw_block<|sr fun _ k34 => pP 59 (fa ty32 ty27)<|pX 60 (ld ty27)<|pP 61 mv<|gE h fun g35 h => bE h fun x36 y36 h => pP 62 (ia ty27 ty57 g35 y36)<|pP 63 (fa ty57 ty9)<|pX 64 (ld ty9)<|pP 65 (does_len_str W_ ty9)<|pP 66 bi<|pP 67 mv<|li 67 h (fun c37 h => ?_) fun c37 h => ?_
    ·refine pS 68<|pS 69<|pS 70<|pS 71<|pS 72<|pS 73<|pS 74<|pS 75<|pP 76 pc<|en k34<|aw_cond_t D_ rfl<|sr fun _ k38 => pP 2 asg<|en k38<|aw_ret<|tk (leafR h hq29) fun h => by cases leafR h hk26;exact rk
    ·refine pP 68 (fa ty32 ty27)<|pX 69 (ld ty27)<|pP 70 mv<|gE h fun g39 h => bE h fun x40 y40 h => pP 71 (ia ty27 ty57 g39 y40)<|pP 72 (fa ty57 ty9)<|pX 73 (ld ty9)<|pP 74 (does_len_str W_ ty9)<|pP 75 bi<|pP 76 pc<|en k34<|wi 76 h (fun c41 h => ?_) fun c41 h => ?_
     ·refine sr fun _ k42 => pP 2 asg<|en k42<|aw_ret<|tk (leafR h hq29) fun h => by cases leafR h hk26;exact rk
     ·refine aw_skip<|k33 _<|aw_regL<|pP 57 mv<|pP 58 bi<|pP 3 asg<|al_nil<|bk (ra [(1, 0)]) ⟨(IntKind.i64.wrap (v3_2 + 1)), leafL h hq29, rfl⟩
   ·refine aw_exit<|tk (leafR h hq29) fun h => tk (leafL h hk26) fun h => ?_
    exact ⟨_, ra [(1, 0)], h, rfl⟩
  ·rintro s ⟨h, rfl⟩
   refine bE h fun q43 h hk44 => aw_cut (fun s => gleaninglaw21_Few_k3 a0 = some r ∧ s = lit [(1, .ptr 1 0 0)] [((1, 0), .box [.int .i64 a0.Now, .int .i64 a0.Sec, .int .i64 a0.Kept, .int .i64 a0.Next, .int .i64 a0.Policy.Kind, .int .i64 a0.Policy.N, .str a0.Policy.Key, .str a0.Policy.Value, .sl 5 (List.map enc23 a0.Policy.Kids), .sl 6 (List.map enc68 a0.Open), .sl 6 (List.map enc68 a0.Pending), .sl 3 (List.map enc79 a0.Memo), .sl 14 (List.map enc56 a0.Rows), .sl 4 (List.map enc58 a0.Edges), .sl 6 (List.map enc63 a0.Slots), .sl 4 (List.map enc40 a0.Blocks)])] [(1, 1)] X) ?_ ?_
   ·skip
    refine sr fun _ k45 => pP 4 asg<|en k45<|aw_block<|aw_loop' (fun m s => ∃ (v4_4 : Int), loopN (fun (s : Int) => gleaninglaw21_Few_l4 a0 s) m v4_4 = some q43 ∧ s = lit [(1, .ptr 1 0 0), (4, .int .i64 v4_4)] [((1, 0), .box [.int .i64 a0.Now, .int .i64 a0.Sec, .int .i64 a0.Kept, .int .i64 a0.Next, .int .i64 a0.Policy.Kind, .int .i64 a0.Policy.N, .str a0.Policy.Key, .str a0.Policy.Value, .sl 5 (List.map enc23 a0.Policy.Kids), .sl 6 (List.map enc68 a0.Open), .sl 6 (List.map enc68 a0.Pending), .sl 3 (List.map enc79 a0.Memo), .sl 14 (List.map enc56 a0.Rows), .sl 4 (List.map enc58 a0.Edges), .sl 6 (List.map enc63 a0.Slots), .sl 4 (List.map enc40 a0.Blocks)])] [(1, 1)] X) Fu
     ⟨_, ra [(1, 0)], 0, h, rfl⟩ ?_
    rintro m s ⟨v4_4, h, rfl⟩
    obtain ⟨m4, q46, rfl, h, hq47⟩ := loop_some h
    replace h : gleaninglaw21_Few_l4 a0 v4_4 = some q46 := h
    refine aw_seq_k fun _ k48 => sr fun _ k49 => pP 77 mv<|pP 78 (fa ty32 ty28)<|pX 79 (ld ty28)<|pP 80 (zl ty28)<|pP 81 bi<|en k49<|wi 81 h (fun c50 h => ?_) fun c50 h => ?_
    ·refine aw_skip<|k48 _<|aw_seq_k fun _ k51 => aw_block<|sr fun _ k52 => pP 84 (fa ty32 ty28)<|pX 85 (ld ty28)<|pP 86 mv<|gE h fun g53 h => bE h fun x54 y54 h => pP 87 (ia ty28 ty59 g53 y54)<|pP 88 (fa ty59 ty9)<|pX 89 (ld ty9)<|pP 90 (does_len_str W_ ty9)<|pP 91 bi<|pP 92 mv<|li 92 h (fun c55 h => ?_) fun c55 h => ?_
     ·refine pS 93<|pS 94<|pS 95<|pS 96<|pS 97<|pS 98<|pS 99<|pS 100<|pP 101 pc<|en k52<|aw_cond_t D_ rfl<|sr fun _ k56 => pP 2 asg<|en k56<|aw_ret<|tk (leafR h hq47) fun h => by cases leafR h hk44;exact rk
     ·refine pP 93 (fa ty32 ty28)<|pX 94 (ld ty28)<|pP 95 mv<|gE h fun g57 h => bE h fun x58 y58 h => pP 96 (ia ty28 ty59 g57 y58)<|pP 97 (fa ty59 ty9)<|pX 98 (ld ty9)<|pP 99 (does_len_str W_ ty9)<|pP 100 bi<|pP 101 pc<|en k52<|wi 101 h (fun c59 h => ?_) fun c59 h => ?_
      ·refine sr fun _ k60 => pP 2 asg<|en k60<|aw_ret<|tk (leafR h hq47) fun h => by cases leafR h hk44;exact rk
      ·refine aw_skip<|k51 _<|aw_regL<|pP 82 mv<|pP 83 bi<|pP 4 asg<|al_nil<|bk (ra [(1, 0)]) ⟨(IntKind.i64.wrap (v4_4 + 1)), leafL h hq47, rfl⟩
    ·refine aw_exit<|tk (leafR h hq47) fun h => tk (leafL h hk44) fun h => ?_
     exact ⟨_, ra [(1, 0)], h, rfl⟩
   ·rintro s ⟨h, rfl⟩
    unfold gleaninglaw21_Few_k3 at h
    refine aw_seq_k fun _ k61 => sr fun _ k62 => pP 5 asg<|en k62<|aw_block<|aw_loop' (fun m s => ∃ (v5_5 : Int), loopN (fun (s : Int) => gleaninglaw21_Few_l5 a0 s) m v5_5 = some r ∧ s = lit [(1, .ptr 1 0 0), (5, .int .i64 v5_5)] [((1, 0), .box [.int .i64 a0.Now, .int .i64 a0.Sec, .int .i64 a0.Kept, .int .i64 a0.Next, .int .i64 a0.Policy.Kind, .int .i64 a0.Policy.N, .str a0.Policy.Key, .str a0.Policy.Value, .sl 5 (List.map enc23 a0.Policy.Kids), .sl 6 (List.map enc68 a0.Open), .sl 6 (List.map enc68 a0.Pending), .sl 3 (List.map enc79 a0.Memo), .sl 14 (List.map enc56 a0.Rows), .sl 4 (List.map enc58 a0.Edges), .sl 6 (List.map enc63 a0.Slots), .sl 4 (List.map enc40 a0.Blocks)])] [(1, 1)] X) Fu
     ⟨_, ra [(1, 0)], 0, h, rfl⟩ ?_
    rintro m s ⟨v5_5, h, rfl⟩
    obtain ⟨m5, q63, rfl, h, hq64⟩ := loop_some h
    replace h : gleaninglaw21_Few_l5 a0 v5_5 = some q63 := h
    refine aw_seq_k fun _ k65 => sr fun _ k66 => pP 102 mv<|pP 103 (fa ty32 ty29)<|pX 104 (ld ty29)<|pP 105 (zl ty29)<|pP 106 bi<|en k66<|wi 106 h (fun c67 h => ?_) fun c67 h => ?_
    ·refine aw_skip<|k65 _<|aw_seq_k fun _ k68 => aw_block<|sr fun _ k69 => pP 109 (fa ty32 ty29)<|pX 110 (ld ty29)<|pP 111 mv<|gE h fun g70 h => bE h fun x71 y71 h => pP 112 (ia ty29 ty64 g70 y71)<|pP 113 (fa ty64 ty9)<|pX 114 (ld ty9)<|pP 115 (does_len_str W_ ty9)<|pP 116 bi<|pP 117 mv<|li 117 h (fun c72 h => ?_) fun c72 h => ?_
     ·refine pS 118<|pS 119<|pS 120<|pS 121<|pS 122<|pS 123<|pS 124<|pS 125<|pP 126 pc<|en k69<|aw_cond_t D_ rfl<|sr fun _ k73 => pP 2 asg<|en k73<|aw_ret<|by cases leafR h hq64;exact rk
     ·refine pP 118 (fa ty32 ty29)<|pX 119 (ld ty29)<|pP 120 mv<|gE h fun g74 h => bE h fun x75 y75 h => pP 121 (ia ty29 ty64 g74 y75)<|pP 122 (fa ty64 ty9)<|pX 123 (ld ty9)<|pP 124 (does_len_str W_ ty9)<|pP 125 bi<|pP 126 pc<|en k69<|wi 126 h (fun c76 h => ?_) fun c76 h => ?_
      ·refine sr fun _ k77 => pP 2 asg<|en k77<|aw_ret<|by cases leafR h hq64;exact rk
      ·refine aw_skip<|k68 _<|aw_regL<|pP 107 mv<|pP 108 bi<|pP 5 asg<|al_nil<|bk (ra [(1, 0)]) ⟨(IntKind.i64.wrap (v5_5 + 1)), leafL h hq64, rfl⟩
    ·refine aw_exit<|tk (leafR h hq64) fun h => k61 _<|sr fun _ k78 => pP 2 asg<|en k78<|aw_ret<|by cases h;exact rk
def Verdict.wf (a : Verdict) : Prop := (Trace.wf a.Trace) ∧ True
theorem sh80 : ∀ (m : Nat) (cs : List PV), Shape Tryz.prog m 80 cs → ∃ a : Verdict, cs = [.int .u64 a.Trace.Hi, .int .u64 a.Trace.Lo, .bool a.Kept] ∧ (Verdict.wf a) := fun m cs h => by
 obtain ⟨hl, m, hf⟩ := shape_struct h Tryz.underlying80
 have f0 := hf 0 _ rfl
 obtain ⟨a0, e0, w0⟩ := sh62 m _ f0
 rw [show Tryz.prog.cellsOf _ = 2 by kernel_rfl] at e0
 have f1 := hf 1 _ rfl
 obtain ⟨a1, e1, w1⟩ := sh4 m _ f1
 rw [show Tryz.prog.cellsOf _ = 1 by kernel_rfl] at e1
 exact ⟨⟨a0, a1⟩, tile_all (l := [(2, [.int .u64 a0.Hi, .int .u64 a0.Lo]), (1, [.bool a1])]) ⟨e0, e1, trivial⟩ hl (by kernel_rfl), ⟨w0, w1⟩⟩
theorem sh26 : ∀ (m : Nat) (cs : List PV), Shape Tryz.prog m 26 cs → ∃ a : List Verdict, cs = [.sl 3 (List.map enc79 a)] ∧ ((List.length a) ≤ maxLen ∧ ∀ y ∈ a, Verdict.wf y) := fun m cs h => by
 obtain ⟨l, h1, h2, h3⟩ := shape_rows (f := enc79) (Q := fun y => Verdict.wf y) h Tryz.underlying26 (fun m ps hs => by
  obtain ⟨a, rfl, hw⟩ := sh80 m ps hs
  exact ⟨a, by rw [show aggT Tryz.prog 80 = true by kernel_rfl]; rfl, hw⟩)
 exact ⟨l, h1.trans (by rw [show Tryz.prog.cellsOf 80 = 3 by kernel_rfl]), h2, h3⟩
def Arr8_Int.wf (a : Arr8_Int) : Prop := (inI .i64 a.c0) ∧ (inI .i64 a.c1) ∧ (inI .i64 a.c2) ∧ (inI .i64 a.c3) ∧ (inI .i64 a.c4) ∧ (inI .i64 a.c5) ∧ (inI .i64 a.c6) ∧ (inI .i64 a.c7)
theorem sh53 : ∀ (m : Nat) (cs : List PV), Shape Tryz.prog m 53 cs → ∃ a : Arr8_Int, cs = [.int .i64 a.c0, .int .i64 a.c1, .int .i64 a.c2, .int .i64 a.c3, .int .i64 a.c4, .int .i64 a.c5, .int .i64 a.c6, .int .i64 a.c7] ∧ (Arr8_Int.wf a) := fun m cs h => by
 obtain ⟨hl, m, hf⟩ := shape_arr (c := 1) h Tryz.underlying53 (by kernel_rfl)
 have f0 := hf 0 D_
 obtain ⟨a0, e0, w0⟩ := sh3 m _ f0
 have f1 := hf 1 D_
 obtain ⟨a1, e1, w1⟩ := sh3 m _ f1
 have f2 := hf 2 D_
 obtain ⟨a2, e2, w2⟩ := sh3 m _ f2
 have f3 := hf 3 D_
 obtain ⟨a3, e3, w3⟩ := sh3 m _ f3
 have f4 := hf 4 D_
 obtain ⟨a4, e4, w4⟩ := sh3 m _ f4
 have f5 := hf 5 D_
 obtain ⟨a5, e5, w5⟩ := sh3 m _ f5
 have f6 := hf 6 D_
 obtain ⟨a6, e6, w6⟩ := sh3 m _ f6
 have f7 := hf 7 D_
 obtain ⟨a7, e7, w7⟩ := sh3 m _ f7
 exact ⟨⟨a0, a1, a2, a3, a4, a5, a6, a7⟩, tile_all (l := [(1, [.int .i64 a0]), (1, [.int .i64 a1]), (1, [.int .i64 a2]), (1, [.int .i64 a3]), (1, [.int .i64 a4]), (1, [.int .i64 a5]), (1, [.int .i64 a6]), (1, [.int .i64 a7])]) ⟨e0, e1, e2, e3, e4, e5, e6, e7, trivial⟩ hl (by kernel_rfl), ⟨w0, w1, w2, w3, w4, w5, w6, w7⟩⟩
def Counter.wf (a : Counter) : Prop := (inI .i64 a.Count) ∧ (inI .i64 a.Errs) ∧ (Arr8_Int.wf a.By)
theorem sh55 : ∀ (m : Nat) (cs : List PV), Shape Tryz.prog m 55 cs → ∃ a : Counter, cs = [.int .i64 a.Count, .int .i64 a.Errs, .int .i64 a.By.c0, .int .i64 a.By.c1, .int .i64 a.By.c2, .int .i64 a.By.c3, .int .i64 a.By.c4, .int .i64 a.By.c5, .int .i64 a.By.c6, .int .i64 a.By.c7] ∧ (Counter.wf a) := fun m cs h => by
 obtain ⟨hl, m, hf⟩ := shape_struct h Tryz.underlying55
 have f0 := hf 0 _ rfl
 obtain ⟨a0, e0, w0⟩ := sh3 m _ f0
 rw [show Tryz.prog.cellsOf _ = 1 by kernel_rfl] at e0
 have f1 := hf 1 _ rfl
 obtain ⟨a1, e1, w1⟩ := sh3 m _ f1
 rw [show Tryz.prog.cellsOf _ = 1 by kernel_rfl] at e1
 have f2 := hf 2 _ rfl
 obtain ⟨a2, e2, w2⟩ := sh53 m _ f2
 rw [show Tryz.prog.cellsOf _ = 8 by kernel_rfl] at e2
 exact ⟨⟨a0, a1, a2⟩, tile_all (l := [(1, [.int .i64 a0]), (1, [.int .i64 a1]), (8, [.int .i64 a2.c0, .int .i64 a2.c1, .int .i64 a2.c2, .int .i64 a2.c3, .int .i64 a2.c4, .int .i64 a2.c5, .int .i64 a2.c6, .int .i64 a2.c7])]) ⟨e0, e1, e2, trivial⟩ hl (by kernel_rfl), ⟨w0, w1, w2⟩⟩
def RowG.wf (a : RowG) : Prop := (inI .i64 a.Level) ∧ (inI .i64 a.Window) ∧ ((ByteArray.size a.Service) ≤ maxLen) ∧ ((ByteArray.size a.Op) ≤ maxLen) ∧ (Counter.wf a.Counter)
theorem sh57 : ∀ (m : Nat) (cs : List PV), Shape Tryz.prog m 57 cs → ∃ a : RowG, cs = [.int .i64 a.Level, .int .i64 a.Window, .str a.Service, .str a.Op, .int .i64 a.Counter.Count, .int .i64 a.Counter.Errs, .int .i64 a.Counter.By.c0, .int .i64 a.Counter.By.c1, .int .i64 a.Counter.By.c2, .int .i64 a.Counter.By.c3, .int .i64 a.Counter.By.c4, .int .i64 a.Counter.By.c5, .int .i64 a.Counter.By.c6, .int .i64 a.Counter.By.c7] ∧ (RowG.wf a) := fun m cs h => by
 obtain ⟨hl, m, hf⟩ := shape_struct h Tryz.underlying57
 have f0 := hf 0 _ rfl
 obtain ⟨a0, e0, w0⟩ := sh3 m _ f0
 rw [show Tryz.prog.cellsOf _ = 1 by kernel_rfl] at e0
 have f1 := hf 1 _ rfl
 obtain ⟨a1, e1, w1⟩ := sh3 m _ f1
 rw [show Tryz.prog.cellsOf _ = 1 by kernel_rfl] at e1
 have f2 := hf 2 _ rfl
 obtain ⟨a2, e2, w2⟩ := sh9 m _ f2
 rw [show Tryz.prog.cellsOf _ = 1 by kernel_rfl] at e2
 have f3 := hf 3 _ rfl
 obtain ⟨a3, e3, w3⟩ := sh9 m _ f3
 rw [show Tryz.prog.cellsOf _ = 1 by kernel_rfl] at e3
 have f4 := hf 4 _ rfl
 obtain ⟨a4, e4, w4⟩ := sh55 m _ f4
 rw [show Tryz.prog.cellsOf _ = 10 by kernel_rfl] at e4
 exact ⟨⟨a0, a1, a2, a3, a4⟩, tile_all (l := [(1, [.int .i64 a0]), (1, [.int .i64 a1]), (1, [.str a2]), (1, [.str a3]), (10, [.int .i64 a4.Count, .int .i64 a4.Errs, .int .i64 a4.By.c0, .int .i64 a4.By.c1, .int .i64 a4.By.c2, .int .i64 a4.By.c3, .int .i64 a4.By.c4, .int .i64 a4.By.c5, .int .i64 a4.By.c6, .int .i64 a4.By.c7])]) ⟨e0, e1, e2, e3, e4, trivial⟩ hl (by kernel_rfl), ⟨w0, w1, w2, w3, w4⟩⟩
theorem sh27 : ∀ (m : Nat) (cs : List PV), Shape Tryz.prog m 27 cs → ∃ a : List RowG, cs = [.sl 14 (List.map enc56 a)] ∧ ((List.length a) ≤ maxLen ∧ ∀ y ∈ a, RowG.wf y) := fun m cs h => by
 obtain ⟨l, h1, h2, h3⟩ := shape_rows (f := enc56) (Q := fun y => RowG.wf y) h Tryz.underlying27 (fun m ps hs => by
  obtain ⟨a, rfl, hw⟩ := sh57 m ps hs
  exact ⟨a, by rw [show aggT Tryz.prog 57 = true by kernel_rfl]; rfl, hw⟩)
 exact ⟨l, h1.trans (by rw [show Tryz.prog.cellsOf 57 = 14 by kernel_rfl]), h2, h3⟩
def Edge.wf (a : Edge) : Prop := ((ByteArray.size a.From) ≤ maxLen) ∧ ((ByteArray.size a.To) ≤ maxLen) ∧ (inI .i64 a.Count) ∧ (inI .i64 a.Errs)
theorem sh59 : ∀ (m : Nat) (cs : List PV), Shape Tryz.prog m 59 cs → ∃ a : Edge, cs = [.str a.From, .str a.To, .int .i64 a.Count, .int .i64 a.Errs] ∧ (Edge.wf a) := fun m cs h => by
 obtain ⟨hl, m, hf⟩ := shape_struct h Tryz.underlying59
 have f0 := hf 0 _ rfl
 obtain ⟨a0, e0, w0⟩ := sh9 m _ f0
 rw [show Tryz.prog.cellsOf _ = 1 by kernel_rfl] at e0
 have f1 := hf 1 _ rfl
 obtain ⟨a1, e1, w1⟩ := sh9 m _ f1
 rw [show Tryz.prog.cellsOf _ = 1 by kernel_rfl] at e1
 have f2 := hf 2 _ rfl
 obtain ⟨a2, e2, w2⟩ := sh3 m _ f2
 rw [show Tryz.prog.cellsOf _ = 1 by kernel_rfl] at e2
 have f3 := hf 3 _ rfl
 obtain ⟨a3, e3, w3⟩ := sh3 m _ f3
 rw [show Tryz.prog.cellsOf _ = 1 by kernel_rfl] at e3
 exact ⟨⟨a0, a1, a2, a3⟩, tile_all (l := [(1, [.str a0]), (1, [.str a1]), (1, [.int .i64 a2]), (1, [.int .i64 a3])]) ⟨e0, e1, e2, e3, trivial⟩ hl (by kernel_rfl), ⟨w0, w1, w2, w3⟩⟩
theorem sh28 : ∀ (m : Nat) (cs : List PV), Shape Tryz.prog m 28 cs → ∃ a : List Edge, cs = [.sl 4 (List.map enc58 a)] ∧ ((List.length a) ≤ maxLen ∧ ∀ y ∈ a, Edge.wf y) := fun m cs h => by
 obtain ⟨l, h1, h2, h3⟩ := shape_rows (f := enc58) (Q := fun y => Edge.wf y) h Tryz.underlying28 (fun m ps hs => by
  obtain ⟨a, rfl, hw⟩ := sh59 m ps hs
  exact ⟨a, by rw [show aggT Tryz.prog 59 = true by kernel_rfl]; rfl, hw⟩)
 exact ⟨l, h1.trans (by rw [show Tryz.prog.cellsOf 59 = 4 by kernel_rfl]), h2, h3⟩
def Exemplar.wf (a : Exemplar) : Prop := ((ByteArray.size a.Service) ≤ maxLen) ∧ ((ByteArray.size a.Op) ≤ maxLen) ∧ (Trace.wf a.Trace) ∧ (inI .u64 a.Id) ∧ (inI .i64 a.Block)
theorem sh64 : ∀ (m : Nat) (cs : List PV), Shape Tryz.prog m 64 cs → ∃ a : Exemplar, cs = [.str a.Service, .str a.Op, .int .u64 a.Trace.Hi, .int .u64 a.Trace.Lo, .int .u64 a.Id, .int .i64 a.Block] ∧ (Exemplar.wf a) := fun m cs h => by
 obtain ⟨hl, m, hf⟩ := shape_struct h Tryz.underlying64
 have f0 := hf 0 _ rfl
 obtain ⟨a0, e0, w0⟩ := sh9 m _ f0
 rw [show Tryz.prog.cellsOf _ = 1 by kernel_rfl] at e0
 have f1 := hf 1 _ rfl
 obtain ⟨a1, e1, w1⟩ := sh9 m _ f1
 rw [show Tryz.prog.cellsOf _ = 1 by kernel_rfl] at e1
 have f2 := hf 2 _ rfl
 obtain ⟨a2, e2, w2⟩ := sh62 m _ f2
 rw [show Tryz.prog.cellsOf _ = 2 by kernel_rfl] at e2
 have f3 := hf 3 _ rfl
 obtain ⟨a3, e3, w3⟩ := sh60 m _ f3
 rw [show Tryz.prog.cellsOf _ = 1 by kernel_rfl] at e3
 have f4 := hf 4 _ rfl
 obtain ⟨a4, e4, w4⟩ := sh3 m _ f4
 rw [show Tryz.prog.cellsOf _ = 1 by kernel_rfl] at e4
 exact ⟨⟨a0, a1, a2, a3, a4⟩, tile_all (l := [(1, [.str a0]), (1, [.str a1]), (2, [.int .u64 a2.Hi, .int .u64 a2.Lo]), (1, [.int .u64 a3]), (1, [.int .i64 a4])]) ⟨e0, e1, e2, e3, e4, trivial⟩ hl (by kernel_rfl), ⟨w0, w1, w2, w3, w4⟩⟩
theorem sh29 : ∀ (m : Nat) (cs : List PV), Shape Tryz.prog m 29 cs → ∃ a : List Exemplar, cs = [.sl 6 (List.map enc63 a)] ∧ ((List.length a) ≤ maxLen ∧ ∀ y ∈ a, Exemplar.wf y) := fun m cs h => by
 obtain ⟨l, h1, h2, h3⟩ := shape_rows (f := enc63) (Q := fun y => Exemplar.wf y) h Tryz.underlying29 (fun m ps hs => by
  obtain ⟨a, rfl, hw⟩ := sh64 m ps hs
  exact ⟨a, by rw [show aggT Tryz.prog 64 = true by kernel_rfl]; rfl, hw⟩)
 exact ⟨l, h1.trans (by rw [show Tryz.prog.cellsOf 64 = 6 by kernel_rfl]), h2, h3⟩
def StateG.wf (a : StateG) : Prop := (inI .i64 a.Now) ∧ (inI .i64 a.Sec) ∧ (inI .i64 a.Kept) ∧ (inI .i64 a.Next) ∧ (Rule.wf a.Policy) ∧ ((List.length a.Open) ≤ maxLen ∧ ∀ y ∈ a.Open, Episode.wf y) ∧ ((List.length a.Pending) ≤ maxLen ∧ ∀ y ∈ a.Pending, Episode.wf y) ∧ ((List.length a.Memo) ≤ maxLen ∧ ∀ y ∈ a.Memo, Verdict.wf y) ∧ ((List.length a.Rows) ≤ maxLen ∧ ∀ y ∈ a.Rows, RowG.wf y) ∧ ((List.length a.Edges) ≤ maxLen ∧ ∀ y ∈ a.Edges, Edge.wf y) ∧ ((List.length a.Slots) ≤ maxLen ∧ ∀ y ∈ a.Slots, Exemplar.wf y) ∧ ((List.length a.Blocks) ≤ maxLen ∧ ∀ y ∈ a.Blocks, Block.wf y)
theorem sh32 : ∀ (m : Nat) (cs : List PV), Shape Tryz.prog m 32 cs → ∃ a : StateG, cs = [.int .i64 a.Now, .int .i64 a.Sec, .int .i64 a.Kept, .int .i64 a.Next, .int .i64 a.Policy.Kind, .int .i64 a.Policy.N, .str a.Policy.Key, .str a.Policy.Value, .sl 5 (List.map enc23 a.Policy.Kids), .sl 6 (List.map enc68 a.Open), .sl 6 (List.map enc68 a.Pending), .sl 3 (List.map enc79 a.Memo), .sl 14 (List.map enc56 a.Rows), .sl 4 (List.map enc58 a.Edges), .sl 6 (List.map enc63 a.Slots), .sl 4 (List.map enc40 a.Blocks)] ∧ (StateG.wf a) := fun m cs h => by
 obtain ⟨hl, m, hf⟩ := shape_struct h Tryz.underlying32
 have f0 := hf 0 _ rfl
 obtain ⟨a0, e0, w0⟩ := sh3 m _ f0
 rw [show Tryz.prog.cellsOf _ = 1 by kernel_rfl] at e0
 have f1 := hf 1 _ rfl
 obtain ⟨a1, e1, w1⟩ := sh3 m _ f1
 rw [show Tryz.prog.cellsOf _ = 1 by kernel_rfl] at e1
 have f2 := hf 2 _ rfl
 obtain ⟨a2, e2, w2⟩ := sh3 m _ f2
 rw [show Tryz.prog.cellsOf _ = 1 by kernel_rfl] at e2
 have f3 := hf 3 _ rfl
 obtain ⟨a3, e3, w3⟩ := sh3 m _ f3
 rw [show Tryz.prog.cellsOf _ = 1 by kernel_rfl] at e3
 have f4 := hf 4 _ rfl
 obtain ⟨a4, e4, w4⟩ := sh24 m _ f4
 rw [show Tryz.prog.cellsOf _ = 5 by kernel_rfl] at e4
 have f5 := hf 5 _ rfl
 obtain ⟨a5, e5, w5⟩ := sh25 m _ f5
 rw [show Tryz.prog.cellsOf _ = 1 by kernel_rfl] at e5
 have f6 := hf 6 _ rfl
 obtain ⟨a6, e6, w6⟩ := sh25 m _ f6
 rw [show Tryz.prog.cellsOf _ = 1 by kernel_rfl] at e6
 have f7 := hf 7 _ rfl
 obtain ⟨a7, e7, w7⟩ := sh26 m _ f7
 rw [show Tryz.prog.cellsOf _ = 1 by kernel_rfl] at e7
 have f8 := hf 8 _ rfl
 obtain ⟨a8, e8, w8⟩ := sh27 m _ f8
 rw [show Tryz.prog.cellsOf _ = 1 by kernel_rfl] at e8
 have f9 := hf 9 _ rfl
 obtain ⟨a9, e9, w9⟩ := sh28 m _ f9
 rw [show Tryz.prog.cellsOf _ = 1 by kernel_rfl] at e9
 have f10 := hf 10 _ rfl
 obtain ⟨a10, e10, w10⟩ := sh29 m _ f10
 rw [show Tryz.prog.cellsOf _ = 1 by kernel_rfl] at e10
 have f11 := hf 11 _ rfl
 obtain ⟨a11, e11, w11⟩ := sh30 m _ f11
 rw [show Tryz.prog.cellsOf _ = 1 by kernel_rfl] at e11
 exact ⟨⟨a0, a1, a2, a3, a4, a5, a6, a7, a8, a9, a10, a11⟩, tile_all (l := [(1, [.int .i64 a0]), (1, [.int .i64 a1]), (1, [.int .i64 a2]), (1, [.int .i64 a3]), (5, [.int .i64 a4.Kind, .int .i64 a4.N, .str a4.Key, .str a4.Value, .sl 5 (List.map enc23 a4.Kids)]), (1, [.sl 6 (List.map enc68 a5)]), (1, [.sl 6 (List.map enc68 a6)]), (1, [.sl 3 (List.map enc79 a7)]), (1, [.sl 14 (List.map enc56 a8)]), (1, [.sl 4 (List.map enc58 a9)]), (1, [.sl 6 (List.map enc63 a10)]), (1, [.sl 4 (List.map enc40 a11)])]) ⟨e0, e1, e2, e3, e4, e5, e6, e7, e8, e9, e10, e11, trivial⟩ hl (by kernel_rfl), ⟨w0, w1, w2, w3, w4, w5, w6, w7, w8, w9, w10, w11⟩⟩
def gleaninglaw21_num (a0 : Int) : Option Int :=
 some a0
theorem gleaninglaw21_num_ok (a0 : Int) {r : Int} (h : gleaninglaw21_num a0 = some r) : Ok Tryz.prog 11 [.int .i64 a0] [] [] (.int .i64 r) [] [] := by
 unfold gleaninglaw21_num at h
 refine oK Tryz.func11 rfl fun X => sr fun _ k1 => pP 2 asg<|en k1<|sr fun _ k2 => pP 3 mv<|pP 2 asg<|en k2<|aw_ret<|by cases h;exact rk
def gleaninglaw21_alive : Option Bool :=
 Option.bind (state_Read []) (fun (x3 : StateG × Int) => Option.bind (state_Bytes (StateG.mk 4 0 0 0 (Rule.mk 1 0 (strOf []) (strOf []) []) [] [] [] [] [] [] [])) (fun (x5 : List UInt8) => Option.bind (state_Read x5) (fun (x6 : StateG × Int) => Option.bind (gleaninglaw21_num x3.2) (fun (x8 : Int) => if (x8 == 2) = true then (Option.bind (gleaninglaw21_num x6.2) (fun (x10 : Int) => if (x10 == 0) = true then (if (x6.1.Now == 4) = true then (Option.bind (state_Right (StateG.mk 0 0 0 0 (Rule.mk 0 0 (strOf []) (strOf []) []) [] [] [] [] [] [] [])) (fun (x13 : Bool) => some (!x13))) else (some false)) else (some false))) else (some false)))))
theorem gleaninglaw21_alive_ok {r : Bool} (h : gleaninglaw21_alive = some r) : Ok Tryz.prog 6 [] [] [] (.bool r) [] [] := by
 refine oK Tryz.func6 rfl fun X => sr fun _ k1 => pP 0 asg<|en k1<|sr fun _ k2 => bE h fun x3 y3 h => pD 6 (cZ 6 ((state_Read_ok [] y3).weak (args' := [.nil]) ⟨le_nil _, trivial⟩) ent10)<|pP 5 mv<|pP 7 ex<|pP 8 ex<|pD 1 (nw ty32)<|pZ (sto [.int .i64 x3.1.Now, .int .i64 x3.1.Sec, .int .i64 x3.1.Kept, .int .i64 x3.1.Next, .int .i64 x3.1.Policy.Kind, .int .i64 x3.1.Policy.N, .str x3.1.Policy.Key, .str x3.1.Policy.Value, .sl 5 (List.map enc23 x3.1.Policy.Kids), .sl 6 (List.map enc68 x3.1.Open), .sl 6 (List.map enc68 x3.1.Pending), .sl 3 (List.map enc79 x3.1.Memo), .sl 14 (List.map enc56 x3.1.Rows), .sl 4 (List.map enc58 x3.1.Edges), .sl 6 (List.map enc63 x3.1.Slots), .sl 4 (List.map enc40 x3.1.Blocks)] ty32)<|pP 2 asg<|en k2<|sr fun _ k4 => pP 10 (do_build_struct (cs := [.int .i64 1, .int .i64 0, .str (strOf []), .str (strOf []), .nil]) ty24 rfl [⟨.int .i64, 1, 8, [.int .i64 0]⟩, ⟨.int .i64, 1, 8, [.int .i64 0]⟩, ⟨.str, 1, 16, [.str ByteArray.empty]⟩, ⟨.str, 1, 16, [.str ByteArray.empty]⟩, ⟨.slice 24, 1, 24, [.nil]⟩] (by simp only [List.map, ty22, ty3, ty9]) (by rfl) R_)<|pP 11 ((do_build_struct (cs := [.int .i64 4, .int .i64 0, .int .i64 0, .int .i64 0, .int .i64 1, .int .i64 0, .str (strOf []), .str (strOf []), .nil, .nil, .nil, .nil, .nil, .nil, .nil, .nil]) ty32 rfl [⟨.int .i64, 1, 8, [.int .i64 0]⟩, ⟨.int .i64, 1, 8, [.int .i64 0]⟩, ⟨.int .i64, 1, 8, [.int .i64 0]⟩, ⟨.int .i64, 1, 8, [.int .i64 0]⟩, ⟨.struct [(0, 3), (1, 3), (2, 9), (3, 9), (4, 22)], 5, 72, [.int .i64 0, .int .i64 0, .str ByteArray.empty, .str ByteArray.empty, .nil]⟩, ⟨.slice 69, 1, 24, [.nil]⟩, ⟨.slice 69, 1, 24, [.nil]⟩, ⟨.slice 80, 1, 24, [.nil]⟩, ⟨.slice 57, 1, 24, [.nil]⟩, ⟨.slice 59, 1, 24, [.nil]⟩, ⟨.slice 64, 1, 24, [.nil]⟩, ⟨.slice 41, 1, 24, [.nil]⟩] (by simp only [List.map, ty24, ty25, ty26, ty27, ty28, ty29, ty3, ty30]) (by rfl) R_).weak (v' := .agg [.int .i64 4, .int .i64 0, .int .i64 0, .int .i64 0, .int .i64 1, .int .i64 0, .str (strOf []), .str (strOf []), .sl 5 (List.map enc23 []), .sl 6 (List.map enc68 []), .sl 6 (List.map enc68 []), .sl 3 (List.map enc79 []), .sl 14 (List.map enc56 []), .sl 4 (List.map enc58 []), .sl 6 (List.map enc63 []), .sl 4 (List.map enc40 [])]) (le_agg ⟨le_refl _, le_refl _, le_refl _, le_refl _, le_refl _, le_refl _, le_refl _, le_refl _, le_nil _, le_nil _, le_nil _, le_nil _, le_nil _, le_nil _, le_nil _, le_nil _, trivial⟩))<|bE h fun x5 y5 h => pD 12 (cZ 12 (state_Bytes_ok (StateG.mk 4 0 0 0 (Rule.mk 1 0 (strOf []) (strOf []) []) [] [] [] [] [] [] []) y5) ent9)<|bE h fun x6 y6 h => pD 13 (does_frz (d := 12) (n := 0) W_ (do_callG (bcs := []) [] [] [(12, 0)] 13 false (state_Read_ok x5 y6) rfl ent10 trivial trivial rfl rfl rfl rfl rfl rfl rfl rfl (.inl ⟨⟨_, _, _, rfl⟩, trivial⟩)))<|pP 9 mv<|pP 14 ex<|pP 15 ex<|pD 3 (nw ty32)<|pZ (sto [.int .i64 x6.1.Now, .int .i64 x6.1.Sec, .int .i64 x6.1.Kept, .int .i64 x6.1.Next, .int .i64 x6.1.Policy.Kind, .int .i64 x6.1.Policy.N, .str x6.1.Policy.Key, .str x6.1.Policy.Value, .sl 5 (List.map enc23 x6.1.Policy.Kids), .sl 6 (List.map enc68 x6.1.Open), .sl 6 (List.map enc68 x6.1.Pending), .sl 3 (List.map enc79 x6.1.Memo), .sl 14 (List.map enc56 x6.1.Rows), .sl 4 (List.map enc58 x6.1.Edges), .sl 6 (List.map enc63 x6.1.Slots), .sl 4 (List.map enc40 x6.1.Blocks)] ty32)<|pP 4 asg<|en k4<|sr fun _ k7 => pP 16 mv<|bE h fun x8 y8 h => pD 17 (cZ 17 (gleaninglaw21_num_ok x3.2 y8) ent11)<|pP 18 bi<|pP 19 mv<|li 19 h (fun c9 h => ?_) fun c9 h => ?_
 ·refine pP 20 mv<|bE h fun x10 y10 h => pD 21 (cZ 21 (gleaninglaw21_num_ok x6.2 y10) ent11)<|pP 22 bi<|pP 23 pc<|pP 24 mv<|li 24 h (fun c11 h => ?_) fun c11 h => ?_
  ·refine pP 25 (fa ty32 ty3)<|pX 26 (ld ty3)<|pP 27 bi<|pP 28 pc<|pP 29 mv<|li 29 h (fun c12 h => ?_) fun c12 h => ?_
   ·refine pP 30 ((do_build_struct (cs := [.int .i64 0, .int .i64 0, .int .i64 0, .int .i64 0, .int .i64 0, .int .i64 0, .str (strOf []), .str (strOf []), .nil, .nil, .nil, .nil, .nil, .nil, .nil, .nil]) ty32 rfl [⟨.int .i64, 1, 8, [.int .i64 0]⟩, ⟨.int .i64, 1, 8, [.int .i64 0]⟩, ⟨.int .i64, 1, 8, [.int .i64 0]⟩, ⟨.int .i64, 1, 8, [.int .i64 0]⟩, ⟨.struct [(0, 3), (1, 3), (2, 9), (3, 9), (4, 22)], 5, 72, [.int .i64 0, .int .i64 0, .str ByteArray.empty, .str ByteArray.empty, .nil]⟩, ⟨.slice 69, 1, 24, [.nil]⟩, ⟨.slice 69, 1, 24, [.nil]⟩, ⟨.slice 80, 1, 24, [.nil]⟩, ⟨.slice 57, 1, 24, [.nil]⟩, ⟨.slice 59, 1, 24, [.nil]⟩, ⟨.slice 64, 1, 24, [.nil]⟩, ⟨.slice 41, 1, 24, [.nil]⟩] (by simp only [List.map, ty24, ty25, ty26, ty27, ty28, ty29, ty3, ty30]) (by rfl) R_).weak (v' := .agg [.int .i64 0, .int .i64 0, .int .i64 0, .int .i64 0, .int .i64 0, .int .i64 0, .str (strOf []), .str (strOf []), .sl 5 (List.map enc23 []), .sl 6 (List.map enc68 []), .sl 6 (List.map enc68 []), .sl 3 (List.map enc79 []), .sl 14 (List.map enc56 []), .sl 4 (List.map enc58 []), .sl 6 (List.map enc63 []), .sl 4 (List.map enc40 [])]) (le_agg ⟨le_refl _, le_refl _, le_refl _, le_refl _, le_refl _, le_refl _, le_refl _, le_refl _, le_nil _, le_nil _, le_nil _, le_nil _, le_nil _, le_nil _, le_nil _, le_nil _, trivial⟩))<|bE h fun x13 y13 h => pD 31 (cZ 31 (state_Right_ok (StateG.mk 0 0 0 0 (Rule.mk 0 0 (strOf []) (strOf []) []) [] [] [] [] [] [] []) y13) ent15)<|pP 32 un<|pP 33 pc<|pP 0 asg<|en k7<|aw_ret<|by cases h;exact rk
   ·refine pS 30<|pS 31<|pS 32<|pP 33 pc<|pP 0 asg<|en k7<|aw_ret<|by cases h;exact rk
  ·refine pS 25<|pS 26<|pS 27<|pP 28 pc<|pP 29 mv<|pS 30<|pS 31<|pS 32<|pP 33 pc<|pP 0 asg<|en k7<|aw_ret<|by cases h;exact rk
 ·refine pS 20<|pS 21<|pS 22<|pP 23 pc<|pP 24 mv<|pS 25<|pS 26<|pS 27<|pP 28 pc<|pP 29 mv<|pS 30<|pS 31<|pS 32<|pP 33 pc<|pP 0 asg<|en k7<|aw_ret<|by cases h;exact rk
end Go.Proofs.YtjklegmimpehlaaGreat.Ab
