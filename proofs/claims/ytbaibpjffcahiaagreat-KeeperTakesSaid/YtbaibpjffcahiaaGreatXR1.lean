/- Policies as bytes. -/
import Derived.Test.YtbaibpjffcahiaaGreatXB1
import Derived.Test.YtbaibpjffcahiaaGreatProg
namespace Go.Proofs.YtbaibpjffcahiaaGreat.Ab
open Go Go.RowKit
set_option linter.unusedVariables false
set_option linter.unusedSimpArgs false
set_option maxRecDepth 100000
set_option maxHeartbeats 8000000
structure Rule where
  Kind : Int
  N : Int
  Key : ByteArray
  Value : ByteArray
  Kids : List Rule
  deriving Inhabited
mutual
def enc24 : Rule → PV
  | .mk y0 y1 y2 y3 y4 => .agg [.int .i64 y0, .int .i64 y1, .str y2, .str y3, .sl 5 (enc24L y4)]
def enc24L : List Rule → List PV
  | [] => []
  | x :: r => enc24 x :: enc24L r
end
theorem enc24L_eq : ∀ l : List Rule, enc24L l = List.map enc24 l
  | [] => by rw [enc24L]; rfl
  | x :: r => by rw [enc24L, enc24L_eq r]; rfl
theorem enc24_eq : ∀ x : Rule, enc24 x = .agg [.int .i64 x.Kind, .int .i64 x.N, .str x.Key, .str x.Value, .sl 5 (List.map enc24 x.Kids)]
  | .mk y0 y1 y2 y3 y4 => by rw [enc24, enc24L_eq]
theorem ty23 : tyOf Tryz.prog 23 = some ⟨.slice 25, 1, 24, [.nil]⟩ := by kernel_rfl
theorem ty25 : tyOf Tryz.prog 25 = some ⟨.struct [(0, 3), (1, 3), (2, 9), (3, 9), (4, 23)], 5, 72, [.int .i64 0, .int .i64 0, .str ByteArray.empty, .str ByteArray.empty, .nil]⟩ := by kernel_rfl
theorem ent28 : Ent Tryz.prog 28 := eN Tryz.func28
theorem ent48 : Ent Tryz.prog 48 := eN Tryz.func48
theorem ent49 : Ent Tryz.prog 49 := eN Tryz.func49
theorem ent80 : Ent Tryz.prog 80 := eN Tryz.func80
theorem ent84 : Ent Tryz.prog 84 := eN Tryz.func84
theorem ent96 : Ent Tryz.prog 96 := eN Tryz.func96
theorem ent107 : Ent Tryz.prog 107 := eN Tryz.func107
def gleaninglaw13_size_b_k2 (K : Rule → Int → Option Int) (a0 : Rule) (a1 : Int) (v5_1 : Int) (v6_1 : Int) : Option ((Int × Int) ⊕ Int) :=
 gd (0 ≤ v6_1) (Option.bind (a0.Kids[(Int.toNat v6_1)]?) (fun (x25 : Rule) => Option.bind (K x25 (IntKind.i64.wrap (a1 + 1))) (fun (x26 : Int) => some (Sum.inl ((IntKind.i64.wrap (v5_1 + x26)), (IntKind.i64.wrap (v6_1 + 1)))))))
def gleaninglaw13_size_b_l1 (K : Rule → Int → Option Int) (a0 : Rule) (a1 : Int) (v5_1 : Int) (v6_1 : Int) : Option ((Int × Int) ⊕ Int) :=
 Option.bind (if (decide (v6_1 < (List.length a0.Kids : Int))) = true then (if (decide (v5_1 < 1000)) = true then (some (Sum.inl ())) else (some (Sum.inr (Sum.inr v5_1)))) else (some (Sum.inr (Sum.inr v5_1)))) (Sum.elim (fun (s : Unit) => gleaninglaw13_size_b_k2 K a0 a1 v5_1 v6_1) some)
def gleaninglaw13_size_b_k0 (K : Rule → Int → Option Int) (a0 : Rule) (a1 : Int) : Option Int :=
 loopN (fun (s : Int × Int) => gleaninglaw13_size_b_l1 K a0 a1 s.1 s.2) Fu (1, 0)
def gleaninglaw13_size_b (K : Rule → Int → Option Int) (a0 : Rule) (a1 : Int) : Option Int :=
 Option.bind (if (decide ((30 : Int) < a1)) = true then (some (Sum.inr 1000)) else (if (decide ((100 : Int) < (ByteArray.size a0.Key : Int))) = true then (some (Sum.inr 1000)) else (if (decide ((100 : Int) < (ByteArray.size a0.Value : Int))) = true then (some (Sum.inr 1000)) else (some (Sum.inl ()))))) (Sum.elim (fun (s : Unit) => gleaninglaw13_size_b_k0 K a0 a1) some)
theorem gleaninglaw13_size_b_ok (K : Rule → Int → Option Int) (hK : ∀ (a0 : Rule) (a1 : Int) {r : Int}, K a0 a1 = some r → Ok Tryz.prog 28 [.agg [.int .i64 a0.Kind, .int .i64 a0.N, .str a0.Key, .str a0.Value, .sl 5 (List.map enc24 a0.Kids)], .int .i64 a1] [] [] (.int .i64 r) [] []) (a0 : Rule) (a1 : Int) {r : Int} (h : gleaninglaw13_size_b K a0 a1 = some r) : Ok Tryz.prog 28 [.agg [.int .i64 a0.Kind, .int .i64 a0.N, .str a0.Key, .str a0.Value, .sl 5 (List.map enc24 a0.Kids)], .int .i64 a1] [] [] (.int .i64 r) [] [] := by
 refine oK Tryz.func28 rfl fun X => sr fun _ k1 => pD 2 (do_box W_ rfl rfl)<|pP 4 asg<|en k1<|bE h fun q2 h hk3 => aw_cut (fun s => gleaninglaw13_size_b_k0 K a0 a1 = some r ∧ s = lit [(1, .int .i64 a1), (2, .ptr 2 0 0)] [((2, 0), .box [.int .i64 a0.Kind, .int .i64 a0.N, .str a0.Key, .str a0.Value, .sl 5 (List.map enc24 a0.Kids)])] [(2, 1)] X) ?_ ?_
 ·skip
  refine sr fun _ k4 => pP 7 mv<|pP 8 bi<|pP 9 mv<|li 9 h (fun c5 h => ?_) fun c5 h => ?_
  ·refine pS 10<|pS 11<|pS 12<|pS 13<|pP 14 pc<|pP 15 mv<|pS 16<|pS 17<|pS 18<|pS 19<|pP 20 pc<|en k4<|aw_cond_t D_ rfl<|sr fun _ k6 => pP 4 asg<|en k6<|aw_ret<|by cases leafR h hk3;exact rk
  ·refine pP 10 (fa ty25 ty9)<|pX 11 (ld ty9)<|pP 12 (does_len_str W_ ty9)<|pP 13 bi<|pP 14 pc<|pP 15 mv<|li 15 h (fun c7 h => ?_) fun c7 h => ?_
   ·refine pS 16<|pS 17<|pS 18<|pS 19<|pP 20 pc<|en k4<|aw_cond_t D_ rfl<|sr fun _ k8 => pP 4 asg<|en k8<|aw_ret<|by cases leafR h hk3;exact rk
   ·refine pP 16 (fa ty25 ty9)<|pX 17 (ld ty9)<|pP 18 (does_len_str W_ ty9)<|pP 19 bi<|pP 20 pc<|en k4<|wi 20 h (fun c9 h => ?_) fun c9 h => ?_
    ·refine sr fun _ k10 => pP 4 asg<|en k10<|aw_ret<|by cases leafR h hk3;exact rk
    ·refine aw_skip<|tk (leafL h hk3) fun h => ?_
     exact ⟨_, ra [(2, 0)], h, rfl⟩
 ·rintro s ⟨h, rfl⟩
  unfold gleaninglaw13_size_b_k0 at h
  refine sr fun _ k11 => pP 5 asg<|en k11<|aw_seq_k fun _ k12 => sr fun _ k13 => pP 6 asg<|en k13<|aw_block<|aw_loop' (fun m s => ∃ (v5_1 : Int), ∃ (v6_1 : Int), loopN (fun (s : Int × Int) => gleaninglaw13_size_b_l1 K a0 a1 s.1 s.2) m (v5_1, v6_1) = some r ∧ s = lit [(1, .int .i64 a1), (2, .ptr 2 0 0), (5, .int .i64 v5_1), (6, .int .i64 v6_1)] [((2, 0), .box [.int .i64 a0.Kind, .int .i64 a0.N, .str a0.Key, .str a0.Value, .sl 5 (List.map enc24 a0.Kids)])] [(2, 1)] X) Fu
   ⟨_, ra [(2, 0)], 1, 0, h, rfl⟩ ?_
  rintro m s ⟨v5_1, v6_1, h, rfl⟩
  obtain ⟨m1, q14, rfl, h, hq15⟩ := loop_some h
  replace h : gleaninglaw13_size_b_l1 K a0 a1 v5_1 v6_1 = some q14 := h
  refine bE h fun q16 h hk17 => aw_cut (fun s => gleaninglaw13_size_b_k2 K a0 a1 v5_1 v6_1 = some q14 ∧ s = lit [(1, .int .i64 a1), (2, .ptr 2 0 0), (5, .int .i64 v5_1), (6, .int .i64 v6_1)] [((2, 0), .box [.int .i64 a0.Kind, .int .i64 a0.N, .str a0.Key, .str a0.Value, .sl 5 (List.map enc24 a0.Kids)])] [(2, 1)] X) ?_ ?_
  ·skip
   refine sr fun _ k18 => pP 21 mv<|pP 22 (fa ty25 ty23)<|pX 23 (ld ty23)<|pP 24 (zl ty23)<|pP 25 bi<|pP 26 mv<|li 26 h (fun c19 h => ?_) fun c19 h => ?_
   ·refine pP 27 mv<|pP 28 bi<|pP 29 pc<|en k18<|wi 29 h (fun c20 h => ?_) fun c20 h => ?_
    ·refine aw_skip<|tk (leafL h hk17) fun h => ?_
     exact ⟨_, ra [(2, 0)], h, rfl⟩
    ·refine aw_exit<|tk (leafR h hk17) fun h => tk (leafR h hq15) fun h => k12 _<|sr fun _ k21 => pP 42 mv<|pP 4 asg<|en k21<|aw_ret<|by cases h;exact rk
   ·refine pS 27<|pS 28<|pP 29 pc<|en k18<|aw_cond_f D_ rfl<|aw_exit<|tk (leafR h hk17) fun h => tk (leafR h hq15) fun h => k12 _<|sr fun _ k22 => pP 42 mv<|pP 4 asg<|en k22<|aw_ret<|by cases h;exact rk
  ·rintro s ⟨h, rfl⟩
   refine aw_seq_k fun _ k23 => aw_block<|aw_regL<|pP 32 mv<|pP 33 (fa ty25 ty23)<|pX 34 (ld ty23)<|pP 35 mv<|gE h fun g24 h => bE h fun x25 y25 h => pP 36 (does_indexAddr_sl (el := .agg [.int .i64 x25.Kind, .int .i64 x25.N, .str x25.Key, .str x25.Value, .sl 5 (List.map enc24 x25.Kids)]) W_ W_ ty23 ty25 g24 (by exact map_getE (enc24_eq _) y25))<|pl 37 (.agg [.int .i64 x25.Kind, .int .i64 x25.N, .str x25.Key, .str x25.Value, .sl 5 (List.map enc24 x25.Kids)]) ty25<|pP 38 mv<|pP 39 bi<|bE h fun x26 y26 h => pD 40 (cZ 40 (hK x25 (IntKind.i64.wrap (a1 + 1)) y26) ent28)<|pP 41 bi<|pP 5 asg<|en k23<|aw_regL<|pP 30 mv<|pP 31 bi<|pP 6 asg<|al_nil<|bk (ra [(2, 0)]) ⟨(IntKind.i64.wrap (v5_1 + x26)), (IntKind.i64.wrap (v6_1 + 1)), leafL h hq15, rfl⟩
def gleaninglaw13_sizeN : Nat → Rule → Int → Option Int
 | 0, _, _ => none
 | n + 1, a0, a1 => gleaninglaw13_size_b (gleaninglaw13_sizeN n) a0 a1
theorem gleaninglaw13_sizeN_ok : ∀ (n : Nat) (a0 : Rule) (a1 : Int) {r : Int}, gleaninglaw13_sizeN n a0 a1 = some r → Ok Tryz.prog 28 [.agg [.int .i64 a0.Kind, .int .i64 a0.N, .str a0.Key, .str a0.Value, .sl 5 (List.map enc24 a0.Kids)], .int .i64 a1] [] [] (.int .i64 r) [] []
 | 0, _, _, _, h => by simp [gleaninglaw13_sizeN] at h
 | n + 1, a0, a1, _, h => gleaninglaw13_size_b_ok (gleaninglaw13_sizeN n) (gleaninglaw13_sizeN_ok n) a0 a1 h
def gleaninglaw13_size (a0 : Rule) (a1 : Int) : Option Int := gleaninglaw13_sizeN Fu a0 a1
theorem gleaninglaw13_size_ok (a0 : Rule) (a1 : Int) {r : Int} (h : gleaninglaw13_size a0 a1 = some r) : Ok Tryz.prog 28 [.agg [.int .i64 a0.Kind, .int .i64 a0.N, .str a0.Key, .str a0.Value, .sl 5 (List.map enc24 a0.Kids)], .int .i64 a1] [] [] (.int .i64 r) [] [] := gleaninglaw13_sizeN_ok Fu a0 a1 h
def gleaninglaw13_Few (a0 : Rule) : Option Bool :=
 Option.bind (gleaninglaw13_size a0 0) (fun (x3 : Int) => some (decide (x3 ≤ 100)))
theorem gleaninglaw13_Few_ok (a0 : Rule) {r : Bool} (h : gleaninglaw13_Few a0 = some r) : Ok Tryz.prog 13 [.agg [.int .i64 a0.Kind, .int .i64 a0.N, .str a0.Key, .str a0.Value, .sl 5 (List.map enc24 a0.Kids)]] [] [] (.bool r) [] [] := by
 refine oK Tryz.func13 rfl fun X => sr fun _ k1 => pD 1 (do_box W_ rfl rfl)<|pP 2 asg<|en k1<|sr fun _ k2 => pl 3 (.agg [.int .i64 a0.Kind, .int .i64 a0.N, .str a0.Key, .str a0.Value, .sl 5 (List.map enc24 a0.Kids)]) ty25<|bE h fun x3 y3 h => pD 4 (cZ 4 (gleaninglaw13_size_ok a0 0 y3) ent28)<|pP 5 bi<|pP 2 asg<|en k2<|aw_ret<|by cases h;exact rk
inductive Rule.wf : Rule → Prop
 | mk {y0 : Int} {y1 : Int} {y2 : ByteArray} {y3 : ByteArray} {y4 : List Rule} : (inI .i64 y0) → (inI .i64 y1) → ((ByteArray.size y2) ≤ maxLen) → ((ByteArray.size y3) ≤ maxLen) → List.length y4 ≤ maxLen → (∀ y ∈ y4, Rule.wf y) → Rule.wf (.mk y0 y1 y2 y3 y4)
theorem sh25 : ∀ (m : Nat) (cs : List PV), Shape Tryz.prog m 25 cs → ∃ a : Rule, cs = [.int .i64 a.Kind, .int .i64 a.N, .str a.Key, .str a.Value, .sl 5 (List.map enc24 a.Kids)] ∧ (Rule.wf a) := fun m => Nat.strongRecOn m fun m ih cs => by
 intro h
 obtain ⟨hl, m', hm, hf⟩ := shape_structR h Tryz.underlying25
 have f0 := hf 0 _ rfl
 obtain ⟨a0, e0, w0⟩ := sh3 _ _ f0
 rw [show Tryz.prog.cellsOf _ = 1 by kernel_rfl] at e0
 have f1 := hf 1 _ rfl
 obtain ⟨a1, e1, w1⟩ := sh3 _ _ f1
 rw [show Tryz.prog.cellsOf _ = 1 by kernel_rfl] at e1
 have f2 := hf 2 _ rfl
 obtain ⟨a2, e2, w2⟩ := sh9 _ _ f2
 rw [show Tryz.prog.cellsOf _ = 1 by kernel_rfl] at e2
 have f3 := hf 3 _ rfl
 obtain ⟨a3, e3, w3⟩ := sh9 _ _ f3
 rw [show Tryz.prog.cellsOf _ = 1 by kernel_rfl] at e3
 have f4 := hf 4 _ rfl
 obtain ⟨a4, e4, w4, v4⟩ := shape_rowsR (f := enc24) (Q := Rule.wf) f4 Tryz.underlying23 (fun k hk ps hs => by
  obtain ⟨a, rfl, hw⟩ := ih k (by omega) ps hs
  exact ⟨a, by rw [show aggT Tryz.prog 25 = true by kernel_rfl]; exact (enc24_eq a).symm, hw⟩)
 rw [show Tryz.prog.cellsOf 25 = 5 by kernel_rfl] at e4
 rw [show Tryz.prog.cellsOf _ = 1 by kernel_rfl] at e4
 exact ⟨⟨a0, a1, a2, a3, a4⟩, tile_all (l := [(1, [.int .i64 a0]), (1, [.int .i64 a1]), (1, [.str a2]), (1, [.str a3]), (1, [.sl 5 (List.map enc24 a4)])]) ⟨e0, e1, e2, e3, e4, trivial⟩ hl (by kernel_rfl), .mk w0 w1 w2 w3 w4 v4⟩
def rule_top_k0 (a0 : Int) (v6_0 : Bool) : Option Int :=
 if v6_0 = true then (some 1000) else (if (a0 == 9) = true then (some 1000000) else (some (-1)))
def rule_top (a0 : Int) : Option Int :=
 if (a0 == 4) = true then (some 1073741824) else (Option.bind (if (a0 == 7) = true then (some true) else (some (a0 == 8))) (fun (s : Bool) => rule_top_k0 a0 s))
theorem rule_top_ok (a0 : Int) {r : Int} (h : rule_top a0 = some r) : Ok Tryz.prog 96 [.int .i64 a0] [] [] (.int .i64 r) [] [] := by
 refine oK Tryz.func96 rfl fun X => sr fun _ k1 => pP 2 asg<|en k1<|aw_seq_k fun _ k2 => sr fun _ k3 => pP 3 mv<|en k3<|aw_block<|sr fun _ k4 => pP 5 bi<|pP 4 asg<|en k4<|wi 4 h (fun c5 h => ?_) fun c5 h => ?_
 ·refine sr fun _ k6 => pP 2 asg<|en k6<|aw_ret<|by cases h;exact rk
 ·refine bE h fun q7 h hk8 => aw_cut (fun s => ∃ (v6_0 : Bool), rule_top_k0 a0 v6_0 = some r ∧ s = lit [(3, .int .i64 a0), (6, .bool v6_0)] [] [] X) ?_ ?_
  ·skip
   refine sr fun _ k9 => pP 7 bi<|pP 6 asg<|en k9<|wi 6 h (fun c10 h => ?_) fun c10 h => ?_
   ·refine aw_skip ?_
    obtain rfl := Option.some.inj h
    have h := hk8
    exact ⟨_, ra [], true, h, rfl⟩
   ·refine aw_regL<|pP 8 bi<|pP 6 asg<|al_nil<|?_
    obtain rfl := Option.some.inj h
    have h := hk8
    exact ⟨_, ra [], (a0 == 8), h, rfl⟩
  ·rintro s ⟨v6_0, h, rfl⟩
   refine wi 6 h (fun c11 h => ?_) fun c11 h => ?_
   ·refine sr fun _ k12 => pP 2 asg<|en k12<|aw_ret<|by cases h;exact rk
   ·refine sr fun _ k13 => pP 10 bi<|pP 9 asg<|en k13<|wi 9 h (fun c14 h => ?_) fun c14 h => ?_
    ·refine sr fun _ k15 => pP 2 asg<|en k15<|aw_ret<|by cases h;exact rk
    ·refine aw_skip<|k2 _<|sr fun _ k16 => pP 2 asg<|en k16<|aw_ret<|by cases h;exact rk
def rule_own_k2 (a0 : Rule) (v3_0 : Bool) (v14_2 : Bool) : Option (Unit ⊕ Bool) :=
 if v14_2 = true then (if (a0.N == 0) = true then (some (Sum.inr v3_0)) else (some (Sum.inr false))) else (if (a0.Kind == 3) = true then (if (a0.N == 0) = true then (if v3_0 = true then (some (Sum.inr ((List.length a0.Kids : Int) == 1))) else (some (Sum.inr false))) else (some (Sum.inr false))) else (if (a0.Kind == 5) = true then (if (a0.N == 0) = true then (if v3_0 = true then (some (Sum.inr ((List.length a0.Kids : Int) == 0))) else (some (Sum.inr false))) else (some (Sum.inr false))) else (if (a0.Kind == 6) = true then (if (a0.N == 0) = true then (Option.bind (span_Name a0.Key) (fun (x29 : Bool) => if x29 = true then (if (decide ((ByteArray.size a0.Value : Int) ≤ 16)) = true then (some (Sum.inr ((List.length a0.Kids : Int) == 0))) else (some (Sum.inr false))) else (some (Sum.inr false)))) else (some (Sum.inr false))) else (some (Sum.inl ())))))
def rule_own_k1 (a0 : Rule) (v3_0 : Bool) : Option Bool :=
 if v3_0 = true then (if (decide ((0 : Int) ≤ a0.N)) = true then (Option.bind (rule_top a0.Kind) (fun (x35 : Int) => if (decide (a0.N ≤ x35)) = true then (some ((List.length a0.Kids : Int) == 0)) else (some false))) else (some false)) else (some false)
def rule_own_k0 (a0 : Rule) (v3_0 : Bool) : Option Bool :=
 Option.bind (Option.bind (if (a0.Kind == 1) = true then (some true) else (some (a0.Kind == 2))) (fun (s : Bool) => rule_own_k2 a0 v3_0 s)) (Sum.elim (fun (s : Unit) => rule_own_k1 a0 v3_0) some)
def rule_own (a0 : Rule) : Option Bool :=
 Option.bind (if (ByteArray.toList a0.Key == ByteArray.toList (strOf [])) = true then (some (ByteArray.toList a0.Value == ByteArray.toList (strOf []))) else (some false)) (fun (s : Bool) => rule_own_k0 a0 s)
theorem rule_own_ok (a0 : Rule) {r : Bool} (h : rule_own a0 = some r) : Ok Tryz.prog 107 [.agg [.int .i64 a0.Kind, .int .i64 a0.N, .str a0.Key, .str a0.Value, .sl 5 (List.map enc24 a0.Kids)]] [] [] (.bool r) [] [] := by
 refine oK Tryz.func107 rfl fun X => sr fun _ k1 => pD 1 (do_box W_ rfl rfl)<|pP 2 asg<|en k1<|bE h fun q2 h hk3 => aw_cut (fun s => ∃ (v3_0 : Bool), rule_own_k0 a0 v3_0 = some r ∧ s = lit [(1, .ptr 1 0 0), (3, .bool v3_0)] [((1, 0), .box [.int .i64 a0.Kind, .int .i64 a0.N, .str a0.Key, .str a0.Value, .sl 5 (List.map enc24 a0.Kids)])] [(1, 1)] X) ?_ ?_
 ·skip
  refine aw_regL<|pP 4 (fa ty25 ty9)<|pX 5 (ld ty9)<|pP 6 bi<|pP 7 mv<|li 7 h (fun c4 h => ?_) fun c4 h => ?_
  ·refine pP 8 (fa ty25 ty9)<|pX 9 (ld ty9)<|pP 10 bi<|pP 11 pc<|pP 3 asg<|al_nil<|?_
   obtain rfl := Option.some.inj h
   have h := hk3
   exact ⟨_, ra [(1, 0)], (ByteArray.toList a0.Value == ByteArray.toList (strOf [])), h, rfl⟩
  ·refine pS 8<|pS 9<|pS 10<|pP 11 pc<|pP 3 asg<|al_nil<|?_
   obtain rfl := Option.some.inj h
   have h := hk3
   exact ⟨_, ra [(1, 0)], false, h, rfl⟩
 ·rintro s ⟨v3_0, h, rfl⟩
  refine bE h fun q5 h hk6 => aw_cut (fun s => rule_own_k1 a0 v3_0 = some r ∧ s = lit [(1, .ptr 1 0 0), (3, .bool v3_0)] [((1, 0), .box [.int .i64 a0.Kind, .int .i64 a0.N, .str a0.Key, .str a0.Value, .sl 5 (List.map enc24 a0.Kids)])] [(1, 1)] X) ?_ ?_
  ·skip
   refine sr fun _ k7 => pP 12 (fa ty25 ty3)<|pX 13 (ld ty3)<|en k7<|aw_block<|bE h fun q8 h hk9 => aw_cut (fun s => ∃ (v14_2 : Bool), rule_own_k2 a0 v3_0 v14_2 = some q5 ∧ s = lit [(1, .ptr 1 0 0), (3, .bool v3_0), (13, .int .i64 a0.Kind), (14, .bool v14_2)] [((1, 0), .box [.int .i64 a0.Kind, .int .i64 a0.N, .str a0.Key, .str a0.Value, .sl 5 (List.map enc24 a0.Kids)])] [(1, 1)] X) ?_ ?_
   ·skip
    refine sr fun _ k10 => pP 15 bi<|pP 14 asg<|en k10<|wi 14 h (fun c11 h => ?_) fun c11 h => ?_
    ·refine aw_skip ?_
     obtain rfl := Option.some.inj h
     have h := hk9
     exact ⟨_, ra [(1, 0)], true, h, rfl⟩
    ·refine aw_regL<|pP 16 bi<|pP 14 asg<|al_nil<|?_
     obtain rfl := Option.some.inj h
     have h := hk9
     exact ⟨_, ra [(1, 0)], (a0.Kind == 2), h, rfl⟩
   ·rintro s ⟨v14_2, h, rfl⟩
    refine wi 14 h (fun c12 h => ?_) fun c12 h => ?_
    ·refine sr fun _ k13 => pP 17 (fa ty25 ty3)<|pX 18 (ld ty3)<|pP 19 bi<|pP 20 mv<|li 20 h (fun c14 h => ?_) fun c14 h => ?_
     ·refine pP 21 mv<|pP 22 pc<|pP 2 asg<|en k13<|aw_ret<|by cases leafR h hk6;exact rk
     ·refine pS 21<|pP 22 pc<|pP 2 asg<|en k13<|aw_ret<|by cases leafR h hk6;exact rk
    ·refine sr fun _ k15 => pP 24 bi<|pP 23 asg<|en k15<|wi 23 h (fun c16 h => ?_) fun c16 h => ?_
     ·refine sr fun _ k17 => pP 25 (fa ty25 ty3)<|pX 26 (ld ty3)<|pP 27 bi<|pP 28 mv<|li 28 h (fun c18 h => ?_) fun c18 h => ?_
      ·refine pP 29 mv<|pP 30 pc<|pP 31 mv<|li 31 h (fun c19 h => ?_) fun c19 h => ?_
       ·refine pP 32 (fa ty25 ty23)<|pX 33 (ld ty23)<|pP 34 (zl ty23)<|pP 35 bi<|pP 36 pc<|pP 2 asg<|en k17<|aw_ret<|by cases leafR h hk6;exact rk
       ·refine pS 32<|pS 33<|pS 34<|pS 35<|pP 36 pc<|pP 2 asg<|en k17<|aw_ret<|by cases leafR h hk6;exact rk
      ·refine pS 29<|pP 30 pc<|pP 31 mv<|pS 32<|pS 33<|pS 34<|pS 35<|pP 36 pc<|pP 2 asg<|en k17<|aw_ret<|by cases leafR h hk6;exact rk
     ·refine sr fun _ k20 => pP 38 bi<|pP 37 asg<|en k20<|wi 37 h (fun c21 h => ?_) fun c21 h => ?_
      ·refine sr fun _ k22 => pP 39 (fa ty25 ty3)<|pX 40 (ld ty3)<|pP 41 bi<|pP 42 mv<|li 42 h (fun c23 h => ?_) fun c23 h => ?_
       ·refine pP 43 mv<|pP 44 pc<|pP 45 mv<|li 45 h (fun c24 h => ?_) fun c24 h => ?_
        ·refine pP 46 (fa ty25 ty23)<|pX 47 (ld ty23)<|pP 48 (zl ty23)<|pP 49 bi<|pP 50 pc<|pP 2 asg<|en k22<|aw_ret<|by cases leafR h hk6;exact rk
        ·refine pS 46<|pS 47<|pS 48<|pS 49<|pP 50 pc<|pP 2 asg<|en k22<|aw_ret<|by cases leafR h hk6;exact rk
       ·refine pS 43<|pP 44 pc<|pP 45 mv<|pS 46<|pS 47<|pS 48<|pS 49<|pP 50 pc<|pP 2 asg<|en k22<|aw_ret<|by cases leafR h hk6;exact rk
      ·refine sr fun _ k25 => pP 52 bi<|pP 51 asg<|en k25<|wi 51 h (fun c26 h => ?_) fun c26 h => ?_
       ·refine sr fun _ k27 => pP 53 (fa ty25 ty3)<|pX 54 (ld ty3)<|pP 55 bi<|pP 56 mv<|li 56 h (fun c28 h => ?_) fun c28 h => ?_
        ·refine pP 57 (fa ty25 ty9)<|pX 58 (ld ty9)<|bE h fun x29 y29 h => pD 59 (cz 59 (.bool x29) (span_Name_ok a0.Key y29) ent110)<|pP 60 pc<|pP 61 mv<|li 61 h (fun c30 h => ?_) fun c30 h => ?_
         ·refine pP 62 (fa ty25 ty9)<|pX 63 (ld ty9)<|pP 64 (does_len_str W_ ty9)<|pP 65 bi<|pP 66 pc<|pP 67 mv<|li 67 h (fun c31 h => ?_) fun c31 h => ?_
          ·refine pP 68 (fa ty25 ty23)<|pX 69 (ld ty23)<|pP 70 (zl ty23)<|pP 71 bi<|pP 72 pc<|pP 2 asg<|en k27<|aw_ret<|by cases leafR h hk6;exact rk
          ·refine pS 68<|pS 69<|pS 70<|pS 71<|pP 72 pc<|pP 2 asg<|en k27<|aw_ret<|by cases leafR h hk6;exact rk
         ·refine pS 62<|pS 63<|pS 64<|pS 65<|pP 66 pc<|pP 67 mv<|pS 68<|pS 69<|pS 70<|pS 71<|pP 72 pc<|pP 2 asg<|en k27<|aw_ret<|by cases leafR h hk6;exact rk
        ·refine pS 57<|pS 58<|pS 59<|pP 60 pc<|pP 61 mv<|pS 62<|pS 63<|pS 64<|pS 65<|pP 66 pc<|pP 67 mv<|pS 68<|pS 69<|pS 70<|pS 71<|pP 72 pc<|pP 2 asg<|en k27<|aw_ret<|by cases leafR h hk6;exact rk
       ·refine aw_skip<|tk (leafL h hk6) fun h => ?_
        exact ⟨_, ra [(1, 0)], h, rfl⟩
  ·rintro s ⟨h, rfl⟩
   unfold rule_own_k1 at h
   refine aw_seq_k fun _ k32 => aw_regd (by kernel_rfl) (by decide +kernel)<|qP 73 mv<|qP 74 mv<|ao_bool (c := v3_0) 74 rfl (fun c33 => ?_) (fun c33 => ?_)
   ·have h := ifT c33 h
    refine qP 75 (fa ty25 ty3)<|qR 76 (ld ty3)<|qP 77 bi<|qP 78 pc<|qP 79 mv<|ao_bool (c := (decide ((0 : Int) ≤ a0.N))) 79 rfl (fun c34 => ?_) (fun c34 => ?_)
    ·have h := ifT c34 h
     refine qP 80 (fa ty25 ty3)<|qR 81 (ld ty3)<|qP 82 (fa ty25 ty3)<|qR 83 (ld ty3)<|bE h fun x35 y35 h => qD 84 (cz 84 (.int .i64 x35) (rule_top_ok a0.Kind y35) ent96)<|qP 85 bi<|qP 86 pc<|qP 87 mv<|ao_bool (c := (decide (a0.N ≤ x35))) 87 rfl (fun c36 => ?_) (fun c36 => ?_)
     ·have h := ifT c36 h
      refine qP 88 (fa ty25 ty23)<|qR 89 (ld ty23)<|qP 90 (zl ty23)<|qP 91 bi<|qP 92 pc<|qP 2 asg<|ao_nil_d (by kernel_rfl)<|k32 _<|aw_ret<|by cases h;exact rk
     ·have h := ifF c36 h
      refine qS 88<|qS 89<|qS 90<|qS 91<|qP 92 pc<|qP 2 asg<|ao_nil_d (by kernel_rfl)<|k32 _<|aw_ret<|by cases h;exact rk
    ·have h := ifF c34 h
     refine qS 80<|qS 81<|qS 82<|qS 83<|qS 84<|qS 85<|qP 86 pc<|qP 87 mv<|qS 88<|qS 89<|qS 90<|qS 91<|qP 92 pc<|qP 2 asg<|ao_nil_d (by kernel_rfl)<|k32 _<|aw_ret<|by cases h;exact rk
   ·have h := ifF c33 h
    refine qS 75<|qS 76<|qS 77<|qP 78 pc<|qP 79 mv<|qS 80<|qS 81<|qS 82<|qS 83<|qS 84<|qS 85<|qP 86 pc<|qP 87 mv<|qS 88<|qS 89<|qS 90<|qS 91<|qP 92 pc<|qP 2 asg<|ao_nil_d (by kernel_rfl)<|k32 _<|aw_ret<|by cases h;exact rk
def rule_count_b_l1 (K : Rule → Int → Int → Option (Int × Bool)) (a0 : Rule) (a1 : Int) (a2 : Int) (v8_1 : Int) (v27_1 : Int) : Option ((Int × Int) ⊕ (Int × Bool)) :=
 if (decide (v27_1 < (List.length a0.Kids : Int))) = true then (gd (0 ≤ v27_1) (Option.bind (a0.Kids[(Int.toNat v27_1)]?) (fun (x23 : Rule) => Option.bind (K x23 (IntKind.i64.wrap (a1 - 1)) (IntKind.i64.wrap (a2 - v8_1))) (fun (x25 : Int × Bool) => if (!x25.2) = true then (some (Sum.inr (0, false))) else (some (Sum.inl ((IntKind.i64.wrap (v8_1 + x25.1)), (IntKind.i64.wrap (v27_1 + 1))))))))) else (some (Sum.inr (v8_1, true)))
def rule_count_b_k0 (K : Rule → Int → Int → Option (Int × Bool)) (a0 : Rule) (a1 : Int) (a2 : Int) : Option (Int × Bool) :=
 loopN (fun (s : Int × Int) => rule_count_b_l1 K a0 a1 a2 s.1 s.2) Fu (1, 0)
def rule_count_b (K : Rule → Int → Int → Option (Int × Bool)) (a0 : Rule) (a1 : Int) (a2 : Int) : Option (Int × Bool) :=
 Option.bind (if (decide (a1 < 1)) = true then (some (Sum.inr (0, false))) else (if (decide (a2 < 1)) = true then (some (Sum.inr (0, false))) else (Option.bind (rule_own a0) (fun (x9 : Bool) => if (!x9) = true then (some (Sum.inr (0, false))) else (some (Sum.inl ())))))) (Sum.elim (fun (s : Unit) => rule_count_b_k0 K a0 a1 a2) some)
theorem rule_count_b_ok (K : Rule → Int → Int → Option (Int × Bool)) (hK : ∀ (a0 : Rule) (a1 : Int) (a2 : Int) {r : Int × Bool}, K a0 a1 a2 = some r → Ok Tryz.prog 84 [.agg [.int .i64 a0.Kind, .int .i64 a0.N, .str a0.Key, .str a0.Value, .sl 5 (List.map enc24 a0.Kids)], .int .i64 a1, .int .i64 a2] [] [] (.tup [.int .i64 r.1, .bool r.2]) [] []) (a0 : Rule) (a1 : Int) (a2 : Int) {r : Int × Bool} (h : rule_count_b K a0 a1 a2 = some r) : Ok Tryz.prog 84 [.agg [.int .i64 a0.Kind, .int .i64 a0.N, .str a0.Key, .str a0.Value, .sl 5 (List.map enc24 a0.Kids)], .int .i64 a1, .int .i64 a2] [] [] (.tup [.int .i64 r.1, .bool r.2]) [] [] := by
 refine oK Tryz.func84 rfl fun X => sr fun _ k1 => pD 3 (do_box W_ rfl rfl)<|pP 6 asg<|pP 7 asg<|en k1<|bE h fun q2 h hk3 => aw_cut (fun s => rule_count_b_k0 K a0 a1 a2 = some r ∧ s = lit [(1, .int .i64 a1), (2, .int .i64 a2), (3, .ptr 3 0 0)] [((3, 0), .box [.int .i64 a0.Kind, .int .i64 a0.N, .str a0.Key, .str a0.Value, .sl 5 (List.map enc24 a0.Kids)])] [(3, 1)] X) ?_ ?_
 ·skip
  refine sr fun _ k4 => pP 13 mv<|pP 14 bi<|pP 15 mv<|li 15 h (fun c5 h => ?_) fun c5 h => ?_
  ·refine pS 16<|pS 17<|pP 18 pc<|pP 19 mv<|pS 20<|pS 21<|pS 22<|pP 23 pc<|en k4<|aw_cond_t D_ rfl<|sr fun _ k6 => pP 6 asg<|pP 7 asg<|en k6<|aw_ret<|by cases leafR h hk3;exact rk
  ·refine pP 16 mv<|pP 17 bi<|pP 18 pc<|pP 19 mv<|li 19 h (fun c7 h => ?_) fun c7 h => ?_
   ·refine pS 20<|pS 21<|pS 22<|pP 23 pc<|en k4<|aw_cond_t D_ rfl<|sr fun _ k8 => pP 6 asg<|pP 7 asg<|en k8<|aw_ret<|by cases leafR h hk3;exact rk
   ·refine pl 20 (.agg [.int .i64 a0.Kind, .int .i64 a0.N, .str a0.Key, .str a0.Value, .sl 5 (List.map enc24 a0.Kids)]) ty25<|bE h fun x9 y9 h => pD 21 (cZ 21 (rule_own_ok a0 y9) ent107)<|pP 22 un<|pP 23 pc<|en k4<|wi 23 h (fun c10 h => ?_) fun c10 h => ?_
    ·refine sr fun _ k11 => pP 6 asg<|pP 7 asg<|en k11<|aw_ret<|by cases leafR h hk3;exact rk
    ·refine aw_skip<|tk (leafL h hk3) fun h => ?_
     exact ⟨_, ra [(3, 0)], h, rfl⟩
 ·rintro s ⟨h, rfl⟩
  unfold rule_count_b_k0 at h
  refine sr fun _ k12 => pP 8 asg<|en k12<|aw_seq_k fun _ k13 => sr fun _ k14 => pP 24 (fa ty25 ty23)<|pX 25 (ld ty23)<|pP 26 (zl ty23)<|pP 27 mv<|en k14<|aw_block<|aw_loop' (fun m s => ∃ (v8_1 : Int), ∃ (v27_1 : Int), loopN (fun (s : Int × Int) => rule_count_b_l1 K a0 a1 a2 s.1 s.2) m (v8_1, v27_1) = some r ∧ s = lit [(1, .int .i64 a1), (2, .int .i64 a2), (8, .int .i64 v8_1), (25, .sl 5 (List.map enc24 a0.Kids)), (26, .int .i64 (List.length a0.Kids : Int)), (27, .int .i64 v27_1)] [] [] X) Fu
   ⟨_, ra [], 1, 0, h, rfl⟩ ?_
  rintro m s ⟨v8_1, v27_1, h, rfl⟩
  obtain ⟨m1, q15, rfl, h, hq16⟩ := loop_some h
  replace h : rule_count_b_l1 K a0 a1 a2 v8_1 v27_1 = some q15 := h
  refine sr fun _ k17 => pP 28 bi<|en k17<|aw_seq_k fun _ k18 => wi 28 h (fun c19 h => ?_) fun c19 h => ?_
  ·refine aw_skip<|k18 _<|aw_seq_k fun _ k20 => aw_block<|sr fun _ k21 => gE h fun g22 h => bE h fun x23 y23 h => pP 29 (does_indexAddr_sl (el := .agg [.int .i64 x23.Kind, .int .i64 x23.N, .str x23.Key, .str x23.Value, .sl 5 (List.map enc24 x23.Kids)]) W_ W_ ty23 ty25 g22 (by exact map_getE (enc24_eq _) y23))<|pl 30 (.agg [.int .i64 x23.Kind, .int .i64 x23.N, .str x23.Key, .str x23.Value, .sl 5 (List.map enc24 x23.Kids)]) ty25<|pD 10 (nw ty25)<|pZ (sto [.int .i64 x23.Kind, .int .i64 x23.N, .str x23.Key, .str x23.Value, .sl 5 (List.map enc24 x23.Kids)] ty25)<|en k21<|sr fun _ k24 => pl 32 (.agg [.int .i64 x23.Kind, .int .i64 x23.N, .str x23.Key, .str x23.Value, .sl 5 (List.map enc24 x23.Kids)]) ty25<|pP 33 mv<|pP 34 bi<|pP 35 mv<|pP 36 mv<|pP 37 bi<|bE h fun x25 y25 h => pD 38 (cZ 38 (hK x23 (IntKind.i64.wrap (a1 - 1)) (IntKind.i64.wrap (a2 - v8_1)) y25) ent84)<|pP 31 mv<|pP 39 ex<|pP 40 ex<|pP 11 asg<|pP 12 asg<|en k24<|aw_seq_k fun _ k26 => sr fun _ k27 => pP 41 mv<|pP 42 un<|en k27<|wi 42 h (fun c28 h => ?_) fun c28 h => ?_
   ·refine sr fun _ k29 => pP 6 asg<|pP 7 asg<|en k29<|aw_ret<|by cases leafR h hq16;exact rk
   ·refine aw_skip<|k26 _<|aw_regL<|pP 43 mv<|pP 44 mv<|pP 45 bi<|pP 8 asg<|en k20<|aw_regL<|pP 46 bi<|pP 27 mv<|al_nil<|bk (ra []) ⟨(IntKind.i64.wrap (v8_1 + x25.1)), (IntKind.i64.wrap (v27_1 + 1)), leafL h hq16, rfl⟩
  ·refine aw_exit<|tk (leafR h hq16) fun h => k13 _<|sr fun _ k30 => pP 47 mv<|pP 6 asg<|pP 7 asg<|en k30<|aw_ret<|by cases h;exact rk
def rule_countN : Nat → Rule → Int → Int → Option (Int × Bool)
 | 0, _, _, _ => none
 | n + 1, a0, a1, a2 => rule_count_b (rule_countN n) a0 a1 a2
theorem rule_countN_ok : ∀ (n : Nat) (a0 : Rule) (a1 : Int) (a2 : Int) {r : Int × Bool}, rule_countN n a0 a1 a2 = some r → Ok Tryz.prog 84 [.agg [.int .i64 a0.Kind, .int .i64 a0.N, .str a0.Key, .str a0.Value, .sl 5 (List.map enc24 a0.Kids)], .int .i64 a1, .int .i64 a2] [] [] (.tup [.int .i64 r.1, .bool r.2]) [] []
 | 0, _, _, _, _, h => by simp [rule_countN] at h
 | n + 1, a0, a1, a2, _, h => rule_count_b_ok (rule_countN n) (rule_countN_ok n) a0 a1 a2 h
def rule_count (a0 : Rule) (a1 : Int) (a2 : Int) : Option (Int × Bool) := rule_countN Fu a0 a1 a2
theorem rule_count_ok (a0 : Rule) (a1 : Int) (a2 : Int) {r : Int × Bool} (h : rule_count a0 a1 a2 = some r) : Ok Tryz.prog 84 [.agg [.int .i64 a0.Kind, .int .i64 a0.N, .str a0.Key, .str a0.Value, .sl 5 (List.map enc24 a0.Kids)], .int .i64 a1, .int .i64 a2] [] [] (.tup [.int .i64 r.1, .bool r.2]) [] [] := rule_countN_ok Fu a0 a1 a2 h
def rule_Right (a0 : Rule) : Option Bool :=
 Option.bind (rule_count a0 5 20) (fun (x3 : Int × Bool) => some x3.2)
theorem rule_Right_ok (a0 : Rule) {r : Bool} (h : rule_Right a0 = some r) : Ok Tryz.prog 55 [.agg [.int .i64 a0.Kind, .int .i64 a0.N, .str a0.Key, .str a0.Value, .sl 5 (List.map enc24 a0.Kids)]] [] [] (.bool r) [] [] := by
 refine oK Tryz.func55 rfl fun X => sr fun _ k1 => pD 1 (do_box W_ rfl rfl)<|pP 2 asg<|en k1<|sr fun _ k2 => pl 6 (.agg [.int .i64 a0.Kind, .int .i64 a0.N, .str a0.Key, .str a0.Value, .sl 5 (List.map enc24 a0.Kids)]) ty25<|bE h fun x3 y3 h => pD 7 (cZ 7 (rule_count_ok a0 5 20 y3) ent84)<|pP 5 mv<|pP 8 ex<|pP 9 ex<|pP 3 asg<|pP 4 asg<|en k2<|sr fun _ k4 => pP 10 mv<|pP 2 asg<|en k4<|aw_ret<|by cases h;exact rk
def gleaningref1_nodes_b_k1 (K : Rule → Int → Option Int) (a0 : Rule) (a1 : Int) (v5_0 : Int) (v6_0 : Int) : Option ((Int × Int) ⊕ Int) :=
 gd (0 ≤ v6_0) (Option.bind (a0.Kids[(Int.toNat v6_0)]?) (fun (x20 : Rule) => Option.bind (K x20 (IntKind.i64.wrap (a1 - 1))) (fun (x21 : Int) => some (Sum.inl ((IntKind.i64.wrap (v5_0 + x21)), (IntKind.i64.wrap (v6_0 + 1)))))))
def gleaningref1_nodes_b_l0 (K : Rule → Int → Option Int) (a0 : Rule) (a1 : Int) (v5_0 : Int) (v6_0 : Int) : Option ((Int × Int) ⊕ Int) :=
 Option.bind (if (decide (v6_0 < (List.length a0.Kids : Int))) = true then (if (decide (v5_0 ≤ 20)) = true then (some (Sum.inl ())) else (some (Sum.inr (Sum.inr v5_0)))) else (some (Sum.inr (Sum.inr v5_0)))) (Sum.elim (fun (s : Unit) => gleaningref1_nodes_b_k1 K a0 a1 v5_0 v6_0) some)
def gleaningref1_nodes_b (K : Rule → Int → Option Int) (a0 : Rule) (a1 : Int) : Option Int :=
 if (a1 == 0) = true then (some 21) else (loopN (fun (s : Int × Int) => gleaningref1_nodes_b_l0 K a0 a1 s.1 s.2) Fu (1, 0))
theorem gleaningref1_nodes_b_ok (K : Rule → Int → Option Int) (hK : ∀ (a0 : Rule) (a1 : Int) {r : Int}, K a0 a1 = some r → Ok Tryz.prog 48 [.agg [.int .i64 a0.Kind, .int .i64 a0.N, .str a0.Key, .str a0.Value, .sl 5 (List.map enc24 a0.Kids)], .int .i64 a1] [] [] (.int .i64 r) [] []) (a0 : Rule) (a1 : Int) {r : Int} (h : gleaningref1_nodes_b K a0 a1 = some r) : Ok Tryz.prog 48 [.agg [.int .i64 a0.Kind, .int .i64 a0.N, .str a0.Key, .str a0.Value, .sl 5 (List.map enc24 a0.Kids)], .int .i64 a1] [] [] (.int .i64 r) [] [] := by
 refine oK Tryz.func48 rfl fun X => sr fun _ k1 => pD 2 (do_box W_ rfl rfl)<|pP 4 asg<|en k1<|aw_seq_k fun _ k2 => sr fun _ k3 => pP 7 mv<|pP 8 bi<|en k3<|wi 8 h (fun c4 h => ?_) fun c4 h => ?_
 ·refine sr fun _ k5 => pP 4 asg<|en k5<|aw_ret<|by cases h;exact rk
 ·refine aw_skip<|k2 _<|sr fun _ k6 => pP 5 asg<|en k6<|aw_seq_k fun _ k7 => sr fun _ k8 => pP 6 asg<|en k8<|aw_block<|aw_loop' (fun m s => ∃ (v5_0 : Int), ∃ (v6_0 : Int), loopN (fun (s : Int × Int) => gleaningref1_nodes_b_l0 K a0 a1 s.1 s.2) m (v5_0, v6_0) = some r ∧ s = lit [(1, .int .i64 a1), (2, .ptr 2 0 0), (5, .int .i64 v5_0), (6, .int .i64 v6_0)] [((2, 0), .box [.int .i64 a0.Kind, .int .i64 a0.N, .str a0.Key, .str a0.Value, .sl 5 (List.map enc24 a0.Kids)])] [(2, 1)] X) Fu
   ⟨_, ra [(2, 0)], 1, 0, h, rfl⟩ ?_
  rintro m s ⟨v5_0, v6_0, h, rfl⟩
  obtain ⟨m0, q9, rfl, h, hq10⟩ := loop_some h
  replace h : gleaningref1_nodes_b_l0 K a0 a1 v5_0 v6_0 = some q9 := h
  refine bE h fun q11 h hk12 => aw_cut (fun s => gleaningref1_nodes_b_k1 K a0 a1 v5_0 v6_0 = some q9 ∧ s = lit [(1, .int .i64 a1), (2, .ptr 2 0 0), (5, .int .i64 v5_0), (6, .int .i64 v6_0)] [((2, 0), .box [.int .i64 a0.Kind, .int .i64 a0.N, .str a0.Key, .str a0.Value, .sl 5 (List.map enc24 a0.Kids)])] [(2, 1)] X) ?_ ?_
  ·skip
   refine sr fun _ k13 => pP 9 mv<|pP 10 (fa ty25 ty23)<|pX 11 (ld ty23)<|pP 12 (zl ty23)<|pP 13 bi<|pP 14 mv<|li 14 h (fun c14 h => ?_) fun c14 h => ?_
   ·refine pP 15 mv<|pP 16 bi<|pP 17 pc<|en k13<|wi 17 h (fun c15 h => ?_) fun c15 h => ?_
    ·refine aw_skip<|tk (leafL h hk12) fun h => ?_
     exact ⟨_, ra [(2, 0)], h, rfl⟩
    ·refine aw_exit<|tk (leafR h hk12) fun h => tk (leafR h hq10) fun h => k7 _<|sr fun _ k16 => pP 30 mv<|pP 4 asg<|en k16<|aw_ret<|by cases h;exact rk
   ·refine pS 15<|pS 16<|pP 17 pc<|en k13<|aw_cond_f D_ rfl<|aw_exit<|tk (leafR h hk12) fun h => tk (leafR h hq10) fun h => k7 _<|sr fun _ k17 => pP 30 mv<|pP 4 asg<|en k17<|aw_ret<|by cases h;exact rk
  ·rintro s ⟨h, rfl⟩
   refine aw_seq_k fun _ k18 => aw_block<|aw_regL<|pP 20 mv<|pP 21 (fa ty25 ty23)<|pX 22 (ld ty23)<|pP 23 mv<|gE h fun g19 h => bE h fun x20 y20 h => pP 24 (does_indexAddr_sl (el := .agg [.int .i64 x20.Kind, .int .i64 x20.N, .str x20.Key, .str x20.Value, .sl 5 (List.map enc24 x20.Kids)]) W_ W_ ty23 ty25 g19 (by exact map_getE (enc24_eq _) y20))<|pl 25 (.agg [.int .i64 x20.Kind, .int .i64 x20.N, .str x20.Key, .str x20.Value, .sl 5 (List.map enc24 x20.Kids)]) ty25<|pP 26 mv<|pP 27 bi<|bE h fun x21 y21 h => pD 28 (cZ 28 (hK x20 (IntKind.i64.wrap (a1 - 1)) y21) ent48)<|pP 29 bi<|pP 5 asg<|en k18<|aw_regL<|pP 18 mv<|pP 19 bi<|pP 6 asg<|al_nil<|bk (ra [(2, 0)]) ⟨(IntKind.i64.wrap (v5_0 + x21)), (IntKind.i64.wrap (v6_0 + 1)), leafL h hq10, rfl⟩
def gleaningref1_nodesN : Nat → Rule → Int → Option Int
 | 0, _, _ => none
 | n + 1, a0, a1 => gleaningref1_nodes_b (gleaningref1_nodesN n) a0 a1
theorem gleaningref1_nodesN_ok : ∀ (n : Nat) (a0 : Rule) (a1 : Int) {r : Int}, gleaningref1_nodesN n a0 a1 = some r → Ok Tryz.prog 48 [.agg [.int .i64 a0.Kind, .int .i64 a0.N, .str a0.Key, .str a0.Value, .sl 5 (List.map enc24 a0.Kids)], .int .i64 a1] [] [] (.int .i64 r) [] []
 | 0, _, _, _, h => by simp [gleaningref1_nodesN] at h
 | n + 1, a0, a1, _, h => gleaningref1_nodes_b_ok (gleaningref1_nodesN n) (gleaningref1_nodesN_ok n) a0 a1 h
def gleaningref1_nodes (a0 : Rule) (a1 : Int) : Option Int := gleaningref1_nodesN Fu a0 a1
theorem gleaningref1_nodes_ok (a0 : Rule) (a1 : Int) {r : Int} (h : gleaningref1_nodes a0 a1 = some r) : Ok Tryz.prog 48 [.agg [.int .i64 a0.Kind, .int .i64 a0.N, .str a0.Key, .str a0.Value, .sl 5 (List.map enc24 a0.Kids)], .int .i64 a1] [] [] (.int .i64 r) [] [] := gleaningref1_nodesN_ok Fu a0 a1 h
def gleaningref1_one_k3 (a0 : Rule) (v4_1 : Bool) (v87_3 : Bool) : Option Bool :=
 if v87_3 = true then (if v4_1 = true then (Option.bind (gleaningref1_Within a0.N 0 1000) (fun (x45 : Bool) => some x45)) else (some false)) else (if (a0.Kind == 9) = true then (if v4_1 = true then (Option.bind (gleaningref1_Within a0.N 0 1000000) (fun (x50 : Bool) => some x50)) else (some false)) else (some false))
def gleaningref1_one_k2 (a0 : Rule) (v3_0 : Bool) (v4_1 : Bool) (v34_2 : Bool) : Option Bool :=
 if v34_2 = true then (some v3_0) else (if (a0.Kind == 3) = true then (if v3_0 = true then (some ((List.length a0.Kids : Int) == 1)) else (some false)) else (if (a0.Kind == 5) = true then (if v3_0 = true then (some ((List.length a0.Kids : Int) == 0)) else (some false)) else (if (a0.Kind == 6) = true then (if (a0.N == 0) = true then (Option.bind (gleaningref1_Within (ByteArray.size a0.Key : Int) 1 16) (fun (x30 : Bool) => if x30 = true then (if (decide ((ByteArray.size a0.Value : Int) ≤ 16)) = true then (some ((List.length a0.Kids : Int) == 0)) else (some false)) else (some false))) else (some false)) else (if (a0.Kind == 4) = true then (if v4_1 = true then (Option.bind (gleaningref1_Within a0.N 0 1073741824) (fun (x37 : Bool) => some x37)) else (some false)) else (Option.bind (if (a0.Kind == 7) = true then (some true) else (some (a0.Kind == 8))) (fun (s : Bool) => gleaningref1_one_k3 a0 v4_1 s))))))
def gleaningref1_one_k1 (a0 : Rule) (v3_0 : Bool) (v4_1 : Bool) : Option Bool :=
 Option.bind (if (a0.Kind == 1) = true then (some true) else (some (a0.Kind == 2))) (fun (s : Bool) => gleaningref1_one_k2 a0 v3_0 v4_1 s)
def gleaningref1_one_k0 (a0 : Rule) (v3_0 : Bool) : Option Bool :=
 Option.bind (if (ByteArray.toList a0.Key == ByteArray.toList (strOf [])) = true then (if (ByteArray.toList a0.Value == ByteArray.toList (strOf [])) = true then (some ((List.length a0.Kids : Int) == 0)) else (some false)) else (some false)) (fun (s : Bool) => gleaningref1_one_k1 a0 v3_0 s)
def gleaningref1_one (a0 : Rule) : Option Bool :=
 Option.bind (if (a0.N == 0) = true then (if (ByteArray.toList a0.Key == ByteArray.toList (strOf [])) = true then (some (ByteArray.toList a0.Value == ByteArray.toList (strOf []))) else (some false)) else (some false)) (fun (s : Bool) => gleaningref1_one_k0 a0 s)
theorem gleaningref1_one_ok (a0 : Rule) {r : Bool} (h : gleaningref1_one a0 = some r) : Ok Tryz.prog 80 [.agg [.int .i64 a0.Kind, .int .i64 a0.N, .str a0.Key, .str a0.Value, .sl 5 (List.map enc24 a0.Kids)]] [] [] (.bool r) [] [] := by
 refine oK Tryz.func80 rfl fun X => sr fun _ k1 => pD 1 (do_box W_ rfl rfl)<|pP 2 asg<|en k1<|bE h fun q2 h hk3 => aw_cut (fun s => ∃ (v3_0 : Bool), gleaningref1_one_k0 a0 v3_0 = some r ∧ s = lit [(1, .ptr 1 0 0), (3, .bool v3_0)] [((1, 0), .box [.int .i64 a0.Kind, .int .i64 a0.N, .str a0.Key, .str a0.Value, .sl 5 (List.map enc24 a0.Kids)])] [(1, 1)] X) ?_ ?_
 ·skip
  refine aw_regL<|pP 5 (fa ty25 ty3)<|pX 6 (ld ty3)<|pP 7 bi<|pP 8 mv<|li 8 h (fun c4 h => ?_) fun c4 h => ?_
  ·refine pP 9 (fa ty25 ty9)<|pX 10 (ld ty9)<|pP 11 bi<|pP 12 pc<|pP 13 mv<|li 13 h (fun c5 h => ?_) fun c5 h => ?_
   ·refine pP 14 (fa ty25 ty9)<|pX 15 (ld ty9)<|pP 16 bi<|pP 17 pc<|pP 3 asg<|al_nil<|?_
    obtain rfl := Option.some.inj h
    have h := hk3
    exact ⟨_, ra [(1, 0)], (ByteArray.toList a0.Value == ByteArray.toList (strOf [])), h, rfl⟩
   ·refine pS 14<|pS 15<|pS 16<|pP 17 pc<|pP 3 asg<|al_nil<|?_
    obtain rfl := Option.some.inj h
    have h := hk3
    exact ⟨_, ra [(1, 0)], false, h, rfl⟩
  ·refine pS 9<|pS 10<|pS 11<|pP 12 pc<|pP 13 mv<|pS 14<|pS 15<|pS 16<|pP 17 pc<|pP 3 asg<|al_nil<|?_
   obtain rfl := Option.some.inj h
   have h := hk3
   exact ⟨_, ra [(1, 0)], false, h, rfl⟩
 ·rintro s ⟨v3_0, h, rfl⟩
  refine bE h fun q6 h hk7 => aw_cut (fun s => ∃ (v4_1 : Bool), gleaningref1_one_k1 a0 v3_0 v4_1 = some r ∧ s = lit [(1, .ptr 1 0 0), (3, .bool v3_0), (4, .bool v4_1)] [((1, 0), .box [.int .i64 a0.Kind, .int .i64 a0.N, .str a0.Key, .str a0.Value, .sl 5 (List.map enc24 a0.Kids)])] [(1, 1)] X) ?_ ?_
  ·skip
   refine aw_regL<|pP 18 (fa ty25 ty9)<|pX 19 (ld ty9)<|pP 20 bi<|pP 21 mv<|li 21 h (fun c8 h => ?_) fun c8 h => ?_
   ·refine pP 22 (fa ty25 ty9)<|pX 23 (ld ty9)<|pP 24 bi<|pP 25 pc<|pP 26 mv<|li 26 h (fun c9 h => ?_) fun c9 h => ?_
    ·refine pP 27 (fa ty25 ty23)<|pX 28 (ld ty23)<|pP 29 (zl ty23)<|pP 30 bi<|pP 31 pc<|pP 4 asg<|al_nil<|?_
     obtain rfl := Option.some.inj h
     have h := hk7
     exact ⟨_, ra [(1, 0)], ((List.length a0.Kids : Int) == 0), h, rfl⟩
    ·refine pS 27<|pS 28<|pS 29<|pS 30<|pP 31 pc<|pP 4 asg<|al_nil<|?_
     obtain rfl := Option.some.inj h
     have h := hk7
     exact ⟨_, ra [(1, 0)], false, h, rfl⟩
   ·refine pS 22<|pS 23<|pS 24<|pP 25 pc<|pP 26 mv<|pS 27<|pS 28<|pS 29<|pS 30<|pP 31 pc<|pP 4 asg<|al_nil<|?_
    obtain rfl := Option.some.inj h
    have h := hk7
    exact ⟨_, ra [(1, 0)], false, h, rfl⟩
  ·rintro s ⟨v4_1, h, rfl⟩
   refine aw_seq_k fun _ k10 => sr fun _ k11 => pP 32 (fa ty25 ty3)<|pX 33 (ld ty3)<|en k11<|aw_block<|bE h fun q12 h hk13 => aw_cut (fun s => ∃ (v34_2 : Bool), gleaningref1_one_k2 a0 v3_0 v4_1 v34_2 = some r ∧ s = lit [(1, .ptr 1 0 0), (3, .bool v3_0), (4, .bool v4_1), (33, .int .i64 a0.Kind), (34, .bool v34_2)] [((1, 0), .box [.int .i64 a0.Kind, .int .i64 a0.N, .str a0.Key, .str a0.Value, .sl 5 (List.map enc24 a0.Kids)])] [(1, 1)] X) ?_ ?_
   ·skip
    refine sr fun _ k14 => pP 35 bi<|pP 34 asg<|en k14<|wi 34 h (fun c15 h => ?_) fun c15 h => ?_
    ·refine aw_skip ?_
     obtain rfl := Option.some.inj h
     have h := hk13
     exact ⟨_, ra [(1, 0)], true, h, rfl⟩
    ·refine aw_regL<|pP 36 bi<|pP 34 asg<|al_nil<|?_
     obtain rfl := Option.some.inj h
     have h := hk13
     exact ⟨_, ra [(1, 0)], (a0.Kind == 2), h, rfl⟩
   ·rintro s ⟨v34_2, h, rfl⟩
    refine wi 34 h (fun c16 h => ?_) fun c16 h => ?_
    ·refine sr fun _ k17 => pP 37 mv<|pP 2 asg<|en k17<|aw_ret<|by cases h;exact rk
    ·refine sr fun _ k18 => pP 39 bi<|pP 38 asg<|en k18<|wi 38 h (fun c19 h => ?_) fun c19 h => ?_
     ·refine sr fun _ k20 => pP 40 mv<|pP 41 mv<|li 41 h (fun c21 h => ?_) fun c21 h => ?_
      ·refine pP 42 (fa ty25 ty23)<|pX 43 (ld ty23)<|pP 44 (zl ty23)<|pP 45 bi<|pP 46 pc<|pP 2 asg<|en k20<|aw_ret<|by cases h;exact rk
      ·refine pS 42<|pS 43<|pS 44<|pS 45<|pP 46 pc<|pP 2 asg<|en k20<|aw_ret<|by cases h;exact rk
     ·refine sr fun _ k22 => pP 48 bi<|pP 47 asg<|en k22<|wi 47 h (fun c23 h => ?_) fun c23 h => ?_
      ·refine sr fun _ k24 => pP 49 mv<|pP 50 mv<|li 50 h (fun c25 h => ?_) fun c25 h => ?_
       ·refine pP 51 (fa ty25 ty23)<|pX 52 (ld ty23)<|pP 53 (zl ty23)<|pP 54 bi<|pP 55 pc<|pP 2 asg<|en k24<|aw_ret<|by cases h;exact rk
       ·refine pS 51<|pS 52<|pS 53<|pS 54<|pP 55 pc<|pP 2 asg<|en k24<|aw_ret<|by cases h;exact rk
      ·refine sr fun _ k26 => pP 57 bi<|pP 56 asg<|en k26<|wi 56 h (fun c27 h => ?_) fun c27 h => ?_
       ·refine sr fun _ k28 => pP 58 (fa ty25 ty3)<|pX 59 (ld ty3)<|pP 60 bi<|pP 61 mv<|li 61 h (fun c29 h => ?_) fun c29 h => ?_
        ·refine pP 62 (fa ty25 ty9)<|pX 63 (ld ty9)<|pP 64 (does_len_str W_ ty9)<|bE h fun x30 y30 h => pD 65 (cz 65 (.bool x30) (gleaningref1_Within_ok (ByteArray.size a0.Key : Int) 1 16 y30) ent65)<|pP 66 pc<|pP 67 mv<|li 67 h (fun c31 h => ?_) fun c31 h => ?_
         ·refine pP 68 (fa ty25 ty9)<|pX 69 (ld ty9)<|pP 70 (does_len_str W_ ty9)<|pP 71 bi<|pP 72 pc<|pP 73 mv<|li 73 h (fun c32 h => ?_) fun c32 h => ?_
          ·refine pP 74 (fa ty25 ty23)<|pX 75 (ld ty23)<|pP 76 (zl ty23)<|pP 77 bi<|pP 78 pc<|pP 2 asg<|en k28<|aw_ret<|by cases h;exact rk
          ·refine pS 74<|pS 75<|pS 76<|pS 77<|pP 78 pc<|pP 2 asg<|en k28<|aw_ret<|by cases h;exact rk
         ·refine pS 68<|pS 69<|pS 70<|pS 71<|pP 72 pc<|pP 73 mv<|pS 74<|pS 75<|pS 76<|pS 77<|pP 78 pc<|pP 2 asg<|en k28<|aw_ret<|by cases h;exact rk
        ·refine pS 62<|pS 63<|pS 64<|pS 65<|pP 66 pc<|pP 67 mv<|pS 68<|pS 69<|pS 70<|pS 71<|pP 72 pc<|pP 73 mv<|pS 74<|pS 75<|pS 76<|pS 77<|pP 78 pc<|pP 2 asg<|en k28<|aw_ret<|by cases h;exact rk
       ·refine sr fun _ k33 => pP 80 bi<|pP 79 asg<|en k33<|wi 79 h (fun c34 h => ?_) fun c34 h => ?_
        ·refine sr fun _ k35 => pP 81 mv<|pP 82 mv<|li 82 h (fun c36 h => ?_) fun c36 h => ?_
         ·refine pP 83 (fa ty25 ty3)<|pX 84 (ld ty3)<|bE h fun x37 y37 h => pD 85 (cZ 85 (gleaningref1_Within_ok a0.N 0 1073741824 y37) ent65)<|pP 86 pc<|pP 2 asg<|en k35<|aw_ret<|by cases h;exact rk
         ·refine pS 83<|pS 84<|pS 85<|pP 86 pc<|pP 2 asg<|en k35<|aw_ret<|by cases h;exact rk
        ·refine bE h fun q38 h hk39 => aw_cut (fun s => ∃ (v87_3 : Bool), gleaningref1_one_k3 a0 v4_1 v87_3 = some r ∧ s = lit [(1, .ptr 1 0 0), (4, .bool v4_1), (33, .int .i64 a0.Kind), (87, .bool v87_3)] [((1, 0), .box [.int .i64 a0.Kind, .int .i64 a0.N, .str a0.Key, .str a0.Value, .sl 5 (List.map enc24 a0.Kids)])] [(1, 1)] X) ?_ ?_
         ·skip
          refine sr fun _ k40 => pP 88 bi<|pP 87 asg<|en k40<|wi 87 h (fun c41 h => ?_) fun c41 h => ?_
          ·refine aw_skip ?_
           obtain rfl := Option.some.inj h
           have h := hk39
           exact ⟨_, ra [(1, 0)], true, h, rfl⟩
          ·refine aw_regL<|pP 89 bi<|pP 87 asg<|al_nil<|?_
           obtain rfl := Option.some.inj h
           have h := hk39
           exact ⟨_, ra [(1, 0)], (a0.Kind == 8), h, rfl⟩
         ·rintro s ⟨v87_3, h, rfl⟩
          refine wi 87 h (fun c42 h => ?_) fun c42 h => ?_
          ·refine sr fun _ k43 => pP 90 mv<|pP 91 mv<|li 91 h (fun c44 h => ?_) fun c44 h => ?_
           ·refine pP 92 (fa ty25 ty3)<|pX 93 (ld ty3)<|bE h fun x45 y45 h => pD 94 (cZ 94 (gleaningref1_Within_ok a0.N 0 1000 y45) ent65)<|pP 95 pc<|pP 2 asg<|en k43<|aw_ret<|by cases h;exact rk
           ·refine pS 92<|pS 93<|pS 94<|pP 95 pc<|pP 2 asg<|en k43<|aw_ret<|by cases h;exact rk
          ·refine sr fun _ k46 => pP 97 bi<|pP 96 asg<|en k46<|wi 96 h (fun c47 h => ?_) fun c47 h => ?_
           ·refine sr fun _ k48 => pP 98 mv<|pP 99 mv<|li 99 h (fun c49 h => ?_) fun c49 h => ?_
            ·refine pP 100 (fa ty25 ty3)<|pX 101 (ld ty3)<|bE h fun x50 y50 h => pD 102 (cZ 102 (gleaningref1_Within_ok a0.N 0 1000000 y50) ent65)<|pP 103 pc<|pP 2 asg<|en k48<|aw_ret<|by cases h;exact rk
            ·refine pS 100<|pS 101<|pS 102<|pP 103 pc<|pP 2 asg<|en k48<|aw_ret<|by cases h;exact rk
           ·refine aw_skip<|k10 _<|sr fun _ k51 => pP 2 asg<|en k51<|aw_ret<|by cases h;exact rk
def gleaningref1_all_b_l0 (K : Rule → Option Bool) (a0 : Rule) (v3_0 : Int) : Option (Int ⊕ Bool) :=
 if (decide (v3_0 < (List.length a0.Kids : Int))) = true then (gd (0 ≤ v3_0) (Option.bind (a0.Kids[(Int.toNat v3_0)]?) (fun (x17 : Rule) => Option.bind (K x17) (fun (x18 : Bool) => if (!x18) = true then (some (Sum.inr false)) else (some (Sum.inl (IntKind.i64.wrap (v3_0 + 1)))))))) else (some (Sum.inr true))
def gleaningref1_all_b (K : Rule → Option Bool) (a0 : Rule) : Option Bool :=
 Option.bind (gleaningref1_one a0) (fun (x4 : Bool) => if (!x4) = true then (some false) else (loopN (fun (s : Int) => gleaningref1_all_b_l0 K a0 s) Fu 0))
theorem gleaningref1_all_b_ok (K : Rule → Option Bool) (hK : ∀ (a0 : Rule) {r : Bool}, K a0 = some r → Ok Tryz.prog 49 [.agg [.int .i64 a0.Kind, .int .i64 a0.N, .str a0.Key, .str a0.Value, .sl 5 (List.map enc24 a0.Kids)]] [] [] (.bool r) [] []) (a0 : Rule) {r : Bool} (h : gleaningref1_all_b K a0 = some r) : Ok Tryz.prog 49 [.agg [.int .i64 a0.Kind, .int .i64 a0.N, .str a0.Key, .str a0.Value, .sl 5 (List.map enc24 a0.Kids)]] [] [] (.bool r) [] [] := by
 refine oK Tryz.func49 rfl fun X => sr fun _ k1 => pD 1 (do_box W_ rfl rfl)<|pP 2 asg<|en k1<|aw_seq_k fun _ k2 => sr fun _ k3 => pl 4 (.agg [.int .i64 a0.Kind, .int .i64 a0.N, .str a0.Key, .str a0.Value, .sl 5 (List.map enc24 a0.Kids)]) ty25<|bE h fun x4 y4 h => pD 5 (cZ 5 (gleaningref1_one_ok a0 y4) ent80)<|pP 6 un<|en k3<|wi 6 h (fun c5 h => ?_) fun c5 h => ?_
 ·refine sr fun _ k6 => pP 2 asg<|en k6<|aw_ret<|by cases h;exact rk
 ·refine aw_skip<|k2 _<|aw_seq_k fun _ k7 => sr fun _ k8 => pP 3 asg<|en k8<|aw_block<|aw_loop' (fun m s => ∃ (v3_0 : Int), loopN (fun (s : Int) => gleaningref1_all_b_l0 K a0 s) m v3_0 = some r ∧ s = lit [(1, .ptr 1 0 0), (3, .int .i64 v3_0)] [((1, 0), .box [.int .i64 a0.Kind, .int .i64 a0.N, .str a0.Key, .str a0.Value, .sl 5 (List.map enc24 a0.Kids)])] [(1, 1)] X) Fu
   ⟨_, ra [(1, 0)], 0, h, rfl⟩ ?_
  rintro m s ⟨v3_0, h, rfl⟩
  obtain ⟨m0, q9, rfl, h, hq10⟩ := loop_some h
  replace h : gleaningref1_all_b_l0 K a0 v3_0 = some q9 := h
  refine aw_seq_k fun _ k11 => sr fun _ k12 => pP 7 mv<|pP 8 (fa ty25 ty23)<|pX 9 (ld ty23)<|pP 10 (zl ty23)<|pP 11 bi<|en k12<|wi 11 h (fun c13 h => ?_) fun c13 h => ?_
  ·refine aw_skip<|k11 _<|aw_seq_k fun _ k14 => aw_block<|sr fun _ k15 => pP 14 (fa ty25 ty23)<|pX 15 (ld ty23)<|pP 16 mv<|gE h fun g16 h => bE h fun x17 y17 h => pP 17 (does_indexAddr_sl (el := .agg [.int .i64 x17.Kind, .int .i64 x17.N, .str x17.Key, .str x17.Value, .sl 5 (List.map enc24 x17.Kids)]) W_ W_ ty23 ty25 g16 (by exact map_getE (enc24_eq _) y17))<|pl 18 (.agg [.int .i64 x17.Kind, .int .i64 x17.N, .str x17.Key, .str x17.Value, .sl 5 (List.map enc24 x17.Kids)]) ty25<|bE h fun x18 y18 h => pD 19 (cZ 19 (hK x17 y18) ent49)<|pP 20 un<|en k15<|wi 20 h (fun c19 h => ?_) fun c19 h => ?_
   ·refine sr fun _ k20 => pP 2 asg<|en k20<|aw_ret<|by cases leafR h hq10;exact rk
   ·refine aw_skip<|k14 _<|aw_regL<|pP 12 mv<|pP 13 bi<|pP 3 asg<|al_nil<|bk (ra [(1, 0)]) ⟨(IntKind.i64.wrap (v3_0 + 1)), leafL h hq10, rfl⟩
  ·refine aw_exit<|tk (leafR h hq10) fun h => k7 _<|sr fun _ k21 => pP 2 asg<|en k21<|aw_ret<|by cases h;exact rk
def gleaningref1_allN : Nat → Rule → Option Bool
 | 0, _ => none
 | n + 1, a0 => gleaningref1_all_b (gleaningref1_allN n) a0
theorem gleaningref1_allN_ok : ∀ (n : Nat) (a0 : Rule) {r : Bool}, gleaningref1_allN n a0 = some r → Ok Tryz.prog 49 [.agg [.int .i64 a0.Kind, .int .i64 a0.N, .str a0.Key, .str a0.Value, .sl 5 (List.map enc24 a0.Kids)]] [] [] (.bool r) [] []
 | 0, _, _, h => by simp [gleaningref1_allN] at h
 | n + 1, a0, _, h => gleaningref1_all_b_ok (gleaningref1_allN n) (gleaningref1_allN_ok n) a0 h
def gleaningref1_all (a0 : Rule) : Option Bool := gleaningref1_allN Fu a0
theorem gleaningref1_all_ok (a0 : Rule) {r : Bool} (h : gleaningref1_all a0 = some r) : Ok Tryz.prog 49 [.agg [.int .i64 a0.Kind, .int .i64 a0.N, .str a0.Key, .str a0.Value, .sl 5 (List.map enc24 a0.Kids)]] [] [] (.bool r) [] [] := gleaningref1_allN_ok Fu a0 h
def gleaningref1_RightRule (a0 : Rule) : Option Bool :=
 Option.bind (gleaningref1_nodes a0 5) (fun (x3 : Int) => if (decide (x3 ≤ 20)) = true then (Option.bind (gleaningref1_all a0) (fun (x5 : Bool) => some x5)) else (some false))
theorem gleaningref1_RightRule_ok (a0 : Rule) {r : Bool} (h : gleaningref1_RightRule a0 = some r) : Ok Tryz.prog 18 [.agg [.int .i64 a0.Kind, .int .i64 a0.N, .str a0.Key, .str a0.Value, .sl 5 (List.map enc24 a0.Kids)]] [] [] (.bool r) [] [] := by
 refine oK Tryz.func18 rfl fun X => sr fun _ k1 => pD 1 (do_box W_ rfl rfl)<|pP 2 asg<|en k1<|sr fun _ k2 => pl 3 (.agg [.int .i64 a0.Kind, .int .i64 a0.N, .str a0.Key, .str a0.Value, .sl 5 (List.map enc24 a0.Kids)]) ty25<|bE h fun x3 y3 h => pD 4 (cZ 4 (gleaningref1_nodes_ok a0 5 y3) ent48)<|pP 5 bi<|pP 6 mv<|li 6 h (fun c4 h => ?_) fun c4 h => ?_
 ·refine pl 7 (.agg [.int .i64 a0.Kind, .int .i64 a0.N, .str a0.Key, .str a0.Value, .sl 5 (List.map enc24 a0.Kids)]) ty25<|bE h fun x5 y5 h => pD 8 (cZ 8 (gleaningref1_all_ok a0 y5) ent49)<|pP 9 pc<|pP 2 asg<|en k2<|aw_ret<|by cases h;exact rk
 ·refine pS 7<|pS 8<|pP 9 pc<|pP 2 asg<|en k2<|aw_ret<|by cases h;exact rk
end Go.Proofs.YtbaibpjffcahiaaGreat.Ab
namespace Go.Proofs.YtbaibpjffcahiaaGreat.Ab
open Go Go.RowKit
set_option linter.unusedVariables false
set_option linter.unusedSimpArgs false
set_option maxRecDepth 100000
set_option maxHeartbeats 8000000
theorem ent55 : Ent Tryz.prog 55 := eN Tryz.func55
theorem ent59 : Ent Tryz.prog 59 := eN Tryz.func59
def rule_put_b_l1 (K : Writer → Rule → Option Writer) (a1 : Rule) (vb0_s_0_s_1 : List UInt8) (v38_1 : Int) : Option ((List UInt8 × Int) ⊕ Writer) :=
 if (decide (v38_1 < (List.length a1.Kids : Int))) = true then (gd (0 ≤ v38_1) (Option.bind (a1.Kids[(Int.toNat v38_1)]?) (fun (x23 : Rule) => Option.bind (K (Writer.mk vb0_s_0_s_1) x23) (fun (x24 : Writer) => some (Sum.inl (x24.B, (IntKind.i64.wrap (v38_1 + 1)))))))) else (some (Sum.inr (Writer.mk vb0_s_0_s_1)))
def rule_put_b_k0 (K : Writer → Rule → Option Writer) (a0 : Writer) (a1 : Rule) (v25_0 : Bool) : Option Writer :=
 if v25_0 = true then (Option.bind (ints_Writer_Num (Writer.mk (a0.B ++ [(u8 (IntKind.u8.wrap a1.Kind))])) [(List.length a1.Kids : Int)]) (fun (x13 : Writer) => loopN (fun (s : List UInt8 × Int) => rule_put_b_l1 K a1 s.1 s.2) Fu (x13.B, 0))) else (if (a1.Kind == 6) = true then (Option.bind (ints_Writer_Text (Writer.mk (a0.B ++ [(u8 (IntKind.u8.wrap a1.Kind))])) [a1.Key, a1.Value]) (fun (x27 : Writer) => some x27)) else (if (a1.Kind == 5) = true then (some (Writer.mk (a0.B ++ [(u8 (IntKind.u8.wrap a1.Kind))]))) else (Option.bind (ints_Writer_Num (Writer.mk (a0.B ++ [(u8 (IntKind.u8.wrap a1.Kind))])) [a1.N]) (fun (x30 : Writer) => some x30))))
def rule_put_b (K : Writer → Rule → Option Writer) (a0 : Writer) (a1 : Rule) : Option Writer :=
 gd ((List.length (a0.B ++ [(u8 (IntKind.u8.wrap a1.Kind))])) * 1 ≤ 140737488355328 ∧ (List.length (a0.B ++ [(u8 (IntKind.u8.wrap a1.Kind))])) ≤ 140737488355328) (Option.bind (if (a1.Kind == 1) = true then (some true) else (if (a1.Kind == 2) = true then (some true) else (some (a1.Kind == 3)))) (fun (s : Bool) => rule_put_b_k0 K a0 a1 s))
theorem rule_put_b_ok (K : Writer → Rule → Option Writer) (hK : ∀ (a0 : Writer) (a1 : Rule) {r : Writer}, K a0 a1 = some r → Ok Tryz.prog 59 [.ptr 0 0 0, .agg [.int .i64 a1.Kind, .int .i64 a1.N, .str a1.Key, .str a1.Value, .sl 5 (List.map enc24 a1.Kids)]] [[.own 1 0]] [(5, 1, List.map enc5 a0.B)] (.tup []) [[.own 2 0]] [(5, 1, List.map enc5 r.B)]) (a0 : Writer) (a1 : Rule) {r : Writer} (h : rule_put_b K a0 a1 = some r) : Ok Tryz.prog 59 [.ptr 0 0 0, .agg [.int .i64 a1.Kind, .int .i64 a1.N, .str a1.Key, .str a1.Value, .sl 5 (List.map enc24 a1.Kids)]] [[.own 1 0]] [(5, 1, List.map enc5 a0.B)] (.tup []) [[.own 2 0]] [(5, 1, List.map enc5 r.B)] := by
 refine oK Tryz.func59 rfl fun X => sr fun _ k1 => pD 3 (do_box W_ rfl rfl)<|en k1<|aw_seq_k fun _ k2 => aw_regd (by kernel_rfl) (by decide +kernel)<|qP 6 mv<|qP 7 mv<|qP 8 nk<|qP 9 (fa ty121 ty46)<|qR 10 (ld ty46)<|qP 11 (fa ty25 ty3)<|qR 12 (ld ty3)<|qP 13 ((does_conv_int (v := .int .u8 (IntKind.u8.wrap a1.Kind)) W_ (ty_some ty3) (ty_int ty5) rfl).castp (v' := .int .u8 ((u8 (IntKind.u8.wrap a1.Kind)).toNat : Int)) (by exact congrArg _ (u8_eq (u8_wrap _))))<|qD 14 (bs (List.map enc5 [(u8 (IntKind.u8.wrap a1.Kind))]) ty46 ty5 rfl)<|gE h fun g3 h => qD 15 (do_append (v := List.map enc5 (a0.B ++ [(u8 (IntKind.u8.wrap a1.Kind))])) W_ W_ ty46 ty5 rfl rfl W_ (by first | exact .inl rfl | exact .inr ⟨rfl, rfl⟩) W_ (by first | exact .inr rfl | exact .inl rfl) (map_app _ _) (fit_map g3))<|qP 16 nk<|qP 17 (fa ty121 ty46)<|aoD none rfl rfl (do_store (cs' := [.own 15 0]) W_ W_ W_ ty46 rfl rfl rfl R_) D_<|ao_nil_d (by kernel_rfl)<|k2 _<|sr fun _ k4 => pP 18 (fa ty25 ty3)<|pX 19 (ld ty3)<|en k4<|aw_block<|bE h fun q5 h hk6 => aw_cut (fun s => ∃ (v25_0 : Bool), rule_put_b_k0 K a0 a1 v25_0 = some r ∧ s = lit [(0, .ptr 0 0 0), (3, .ptr 3 0 0), (19, .int .i64 a1.Kind), (25, .bool v25_0)] [((0, 0), .box [.own 15 0]), ((15, 0), .arr 5 1 false (List.map enc5 (a0.B ++ [(u8 (IntKind.u8.wrap a1.Kind))]))), ((3, 0), .box [.int .i64 a1.Kind, .int .i64 a1.N, .str a1.Key, .str a1.Value, .sl 5 (List.map enc24 a1.Kids)])] [(0, 1), (3, 1), (15, 1)] X) ?_ ?_
 ·skip
  refine sr fun _ k7 => pP 26 bi<|pP 25 asg<|en k7<|wi 25 h (fun c8 h => ?_) fun c8 h => ?_
  ·refine aw_skip ?_
   obtain rfl := Option.some.inj h
   have h := hk6
   exact ⟨_, ra [(0, 0), (15, 0), (3, 0)], true, h, rfl⟩
  ·refine sr fun _ k9 => pP 27 bi<|pP 25 asg<|en k9<|wi 25 h (fun c10 h => ?_) fun c10 h => ?_
   ·refine aw_skip ?_
    obtain rfl := Option.some.inj h
    have h := hk6
    exact ⟨_, ra [(0, 0), (15, 0), (3, 0)], true, h, rfl⟩
   ·refine aw_regL<|pP 28 bi<|pP 25 asg<|al_nil<|?_
    obtain rfl := Option.some.inj h
    have h := hk6
    exact ⟨_, ra [(0, 0), (15, 0), (3, 0)], (a1.Kind == 3), h, rfl⟩
 ·rintro s ⟨v25_0, h, rfl⟩
  refine wi 25 h (fun c11 h => ?_) fun c11 h => ?_
  ·refine sr fun _ k12 => pP 29 mv<|pP 30 (fa ty25 ty23)<|pX 31 (ld ty23)<|pP 32 (zl ty23)<|pD 33 (bs (List.map enc2 [(List.length a1.Kids : Int)]) ty55 ty3 rfl)<|bE h fun x13 y13 h => pD 34 (does_frz (d := 33) (n := 0) W_ (do_callG (bcs := [[.own 15 0]]) [(0, 0)] [(15, 0)] [(33, 0)] 34 false (ints_Writer_Num_ok (Writer.mk (a0.B ++ [(u8 (IntKind.u8.wrap a1.Kind))])) [(List.length a1.Kids : Int)] y13) rfl ent56 ⟨R_, trivial⟩ (rowsOk_cons W_ R_ trivial) rfl rfl rfl rfl rfl rfl rfl rfl (.inl ⟨⟨_, _, _, rfl⟩, trivial⟩)))<|en k12<|sr fun _ k14 => pP 35 (fa ty25 ty23)<|pX 36 (ld ty23)<|pP 37 (zl ty23)<|pP 38 mv<|en k14<|aw_block<|aw_loop' (fun m s => ∃ (vb0_s_0_s_1 : List UInt8), ∃ (v38_1 : Int), loopN (fun (s : List UInt8 × Int) => rule_put_b_l1 K a1 s.1 s.2) m (vb0_s_0_s_1, v38_1) = some r ∧ s = lit [(0, .ptr 0 0 0), (36, .sl 5 (List.map enc24 a1.Kids)), (37, .int .i64 (List.length a1.Kids : Int)), (38, .int .i64 v38_1)] [((0, 0), .box [.own 34 0]), ((34, 0), .arr 5 1 false (List.map enc5 vb0_s_0_s_1))] [(0, 1), (34, 1)] X) Fu
    ⟨_, ra [(0, 0), (34, 0)], x13.B, 0, h, rfl⟩ ?_
   rintro m s ⟨vb0_s_0_s_1, v38_1, h, rfl⟩
   obtain ⟨m1, q15, rfl, h, hq16⟩ := loop_some h
   replace h : rule_put_b_l1 K a1 vb0_s_0_s_1 v38_1 = some q15 := h
   refine sr fun _ k17 => pP 39 bi<|en k17<|aw_seq_k fun _ k18 => wi 39 h (fun c19 h => ?_) fun c19 h => ?_
   ·refine aw_skip<|k18 _<|aw_seq_k fun _ k20 => aw_block<|sr fun _ k21 => gE h fun g22 h => bE h fun x23 y23 h => pP 40 (does_indexAddr_sl (el := .agg [.int .i64 x23.Kind, .int .i64 x23.N, .str x23.Key, .str x23.Value, .sl 5 (List.map enc24 x23.Kids)]) W_ W_ ty23 ty25 g22 (by exact map_getE (enc24_eq _) y23))<|pl 41 (.agg [.int .i64 x23.Kind, .int .i64 x23.N, .str x23.Key, .str x23.Value, .sl 5 (List.map enc24 x23.Kids)]) ty25<|pD 5 (nw ty25)<|pZ (sto [.int .i64 x23.Kind, .int .i64 x23.N, .str x23.Key, .str x23.Value, .sl 5 (List.map enc24 x23.Kids)] ty25)<|en k21<|aw_regL<|pP 42 mv<|pl 43 (.agg [.int .i64 x23.Kind, .int .i64 x23.N, .str x23.Key, .str x23.Value, .sl 5 (List.map enc24 x23.Kids)]) ty25<|bE h fun x24 y24 h => pD 44 (do_callG (bcs := [[.own 34 0]]) [(0, 0)] [(34, 0)] [] 44 false (hK (Writer.mk vb0_s_0_s_1) x23 y24) rfl ent59 ⟨R_, trivial⟩ (rowsOk_cons W_ R_ trivial) rfl rfl rfl rfl rfl rfl rfl rfl (.inl trivial))<|en k20<|aw_regL<|pP 45 bi<|pP 38 mv<|al_nil<|bk (ra [(0, 0), (44, 0)]) ⟨x24.B, (IntKind.i64.wrap (v38_1 + 1)), leafL h hq16, rfl⟩
   ·refine aw_exit<|tk (leafR h hq16) fun h => ?_
    obtain rfl := Option.some.inj h
    exact ret_okB [(34, 0)] W_ W_ R_ (rowsOk_cons W_ R_ trivial) (boxesOk_cons W_ W_ R_ trivial) (nodup_b rfl) (.inl rfl) rfl
  ·refine sr fun _ k25 => pP 47 bi<|pP 46 asg<|en k25<|wi 46 h (fun c26 h => ?_) fun c26 h => ?_
   ·refine aw_regL<|pP 48 mv<|pP 49 (fa ty25 ty9)<|pX 50 (ld ty9)<|pP 51 (fa ty25 ty9)<|pX 52 (ld ty9)<|pD 53 (bs (List.map enc9 [a1.Key, a1.Value]) ty171 ty9 rfl)<|bE h fun x27 y27 h => pD 54 (does_frz (d := 53) (n := 0) W_ (do_callG (bcs := [[.own 15 0]]) [(0, 0)] [(15, 0)] [(53, 0)] 54 false (ints_Writer_Text_ok (Writer.mk (a0.B ++ [(u8 (IntKind.u8.wrap a1.Kind))])) [a1.Key, a1.Value] y27) rfl ent86 ⟨R_, trivial⟩ (rowsOk_cons W_ R_ trivial) rfl rfl rfl rfl rfl rfl rfl rfl (.inl ⟨⟨_, _, _, rfl⟩, trivial⟩)))<|al_nil<|?_
    obtain rfl := Option.some.inj h
    exact ret_okB [(54, 0)] W_ W_ R_ (rowsOk_cons W_ R_ trivial) (boxesOk_cons W_ W_ R_ trivial) (nodup_b rfl) (.inl rfl) rfl
   ·refine sr fun _ k28 => pP 56 bi<|pP 55 asg<|en k28<|wi 55 h (fun c29 h => ?_) fun c29 h => ?_
    ·refine aw_skip ?_
     obtain rfl := Option.some.inj h
     exact ret_okB [(15, 0)] W_ W_ R_ (rowsOk_cons W_ R_ trivial) (boxesOk_cons W_ W_ R_ trivial) (nodup_b rfl) (.inl rfl) rfl
    ·refine aw_regL<|pP 20 mv<|pP 21 (fa ty25 ty3)<|pX 22 (ld ty3)<|pD 23 (bs (List.map enc2 [a1.N]) ty55 ty3 rfl)<|bE h fun x30 y30 h => pD 24 (does_frz (d := 23) (n := 0) W_ (do_callG (bcs := [[.own 15 0]]) [(0, 0)] [(15, 0)] [(23, 0)] 24 false (ints_Writer_Num_ok (Writer.mk (a0.B ++ [(u8 (IntKind.u8.wrap a1.Kind))])) [a1.N] y30) rfl ent56 ⟨R_, trivial⟩ (rowsOk_cons W_ R_ trivial) rfl rfl rfl rfl rfl rfl rfl rfl (.inl ⟨⟨_, _, _, rfl⟩, trivial⟩)))<|al_nil<|?_
     obtain rfl := Option.some.inj h
     exact ret_okB [(24, 0)] W_ W_ R_ (rowsOk_cons W_ R_ trivial) (boxesOk_cons W_ W_ R_ trivial) (nodup_b rfl) (.inl rfl) rfl
def rule_putN : Nat → Writer → Rule → Option Writer
 | 0, _, _ => none
 | n + 1, a0, a1 => rule_put_b (rule_putN n) a0 a1
theorem rule_putN_ok : ∀ (n : Nat) (a0 : Writer) (a1 : Rule) {r : Writer}, rule_putN n a0 a1 = some r → Ok Tryz.prog 59 [.ptr 0 0 0, .agg [.int .i64 a1.Kind, .int .i64 a1.N, .str a1.Key, .str a1.Value, .sl 5 (List.map enc24 a1.Kids)]] [[.own 1 0]] [(5, 1, List.map enc5 a0.B)] (.tup []) [[.own 2 0]] [(5, 1, List.map enc5 r.B)]
 | 0, _, _, _, h => by simp [rule_putN] at h
 | n + 1, a0, a1, _, h => rule_put_b_ok (rule_putN n) (rule_putN_ok n) a0 a1 h
def rule_put (a0 : Writer) (a1 : Rule) : Option Writer := rule_putN Fu a0 a1
theorem rule_put_ok (a0 : Writer) (a1 : Rule) {r : Writer} (h : rule_put a0 a1 = some r) : Ok Tryz.prog 59 [.ptr 0 0 0, .agg [.int .i64 a1.Kind, .int .i64 a1.N, .str a1.Key, .str a1.Value, .sl 5 (List.map enc24 a1.Kids)]] [[.own 1 0]] [(5, 1, List.map enc5 a0.B)] (.tup []) [[.own 2 0]] [(5, 1, List.map enc5 r.B)] := rule_putN_ok Fu a0 a1 h
def rule_Bytes (a0 : Rule) : Option (List UInt8) :=
 Option.bind (rule_Right a0) (fun (x4 : Bool) => if (!x4) = true then (some []) else (Option.bind (rule_put (Writer.mk []) a0) (fun (x9 : Writer) => some x9.B)))
theorem rule_Bytes_ok (a0 : Rule) {r : List UInt8} (h : rule_Bytes a0 = some r) : Ok Tryz.prog 23 [.agg [.int .i64 a0.Kind, .int .i64 a0.N, .str a0.Key, .str a0.Value, .sl 5 (List.map enc24 a0.Kids)]] [] [] (.own 2 0) [] [(5, 1, List.map enc5 r)] := by
 refine oK Tryz.func23 rfl fun X => sr fun _ k1 => pD 1 (do_box W_ rfl rfl)<|pP 2 asg<|en k1<|aw_seq_k fun _ k2 => sr fun _ k3 => pl 4 (.agg [.int .i64 a0.Kind, .int .i64 a0.N, .str a0.Key, .str a0.Value, .sl 5 (List.map enc24 a0.Kids)]) ty25<|bE h fun x4 y4 h => pD 5 (cZ 5 (rule_Right_ok a0 y4) ent55)<|pP 6 un<|en k3<|wi 6 h (fun c5 h => ?_) fun c5 h => ?_
 ·refine sr fun _ k6 => pP 2 asg<|en k6<|aw_nilOwn 2 5 1 W_ D_ D_<|aw_ret<|by cases h;exact rB [(2, 0)]
 ·refine aw_skip<|k2 _<|sr fun _ k7 => pP 7 (do_build_struct (cs := [.nil]) ty121 rfl [⟨.slice 5, 1, 24, [.nil]⟩] (by simp only [List.map, ty46]) (by rfl) R_)<|pD 8 (do_box W_ rfl rfl)<|pP 3 asg<|en k7<|aw_seq_k fun _ k8 => aw_nilOwnC 8 0 0 8 5 1 (cs := [.nil]) R_ rfl D_<|aw_regL<|pP 9 mv<|pl 10 (.agg [.int .i64 a0.Kind, .int .i64 a0.N, .str a0.Key, .str a0.Value, .sl 5 (List.map enc24 a0.Kids)]) ty25<|bE h fun x9 y9 h => pD 11 (do_callG (bcs := [[.own 8 1]]) [(8, 0)] [(8, 1)] [] 11 false (rule_put_ok (Writer.mk []) a0 y9) rfl ent59 ⟨R_, trivial⟩ (rowsOk_cons W_ R_ trivial) rfl rfl rfl rfl rfl rfl rfl rfl (.inl trivial))<|en k8<|sr fun _ k10 => pP 12 mv<|pP 13 nk<|pP 14 (fa ty121 ty46)<|pX 15 (ld ty46)<|pP 2 asg<|en k10<|aw_ret<|by cases h;exact rB [(11, 0)]
end Go.Proofs.YtbaibpjffcahiaaGreat.Ab
