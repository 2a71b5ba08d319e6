/- Policies as bytes: the document. -/
import Derived.Test.YtbfmmaabaenhgaaXR1
import Derived.Test.YtbfmmaabaenhgaaProg
namespace Go.Proofs.Ytbfmmaabaenhgaa.Ab
open Go Go.RowKit
set_option linter.unusedVariables false
set_option linter.unusedSimpArgs false
theorem ent25 : Ent Try.prog 25 := ⟨_, Try.func25, by kernel_rfl, rfl⟩
theorem ent45 : Ent Try.prog 45 := ⟨_, Try.func45, by kernel_rfl, rfl⟩
theorem ent70 : Ent Try.prog 70 := ⟨_, Try.func70, by kernel_rfl, rfl⟩
theorem ent74 : Ent Try.prog 74 := ⟨_, Try.func74, by kernel_rfl, rfl⟩
theorem ent82 : Ent Try.prog 82 := ⟨_, Try.func82, by kernel_rfl, rfl⟩
theorem ent105 : Ent Try.prog 105 := ⟨_, Try.func105, by kernel_rfl, rfl⟩
theorem ent106 : Ent Try.prog 106 := ⟨_, Try.func106, by kernel_rfl, rfl⟩
def gleaningref1_addRule_b_l1 (K : List UInt8 → Rule → Option (List UInt8)) (a1 : Rule) (v0_s_1 : List UInt8) (v5_1 : Int) : Option ((List UInt8 × Int) ⊕ (List UInt8)) :=
  if (decide (v5_1 < (List.length a1.Kids : Int))) = true then (gd (0 ≤ v5_1) (Option.bind (a1.Kids[(Int.toNat v5_1)]?) (fun (x23 : Rule) => Option.bind (K v0_s_1 x23) (fun (x24 : List UInt8) => some (Sum.inl (x24, (IntKind.i64.wrap (v5_1 + 1)))))))) else (some (Sum.inr v0_s_1))
def gleaningref1_addRule_b_k0 (K : List UInt8 → Rule → Option (List UInt8)) (a0 : List UInt8) (a1 : Rule) (v19_0 : Bool) : Option (List UInt8) :=
  if v19_0 = true then (Option.bind (gleaningref1_Put (a0 ++ [(u8 (IntKind.u8.wrap a1.Kind))]) (IntKind.u64.wrap (List.length a1.Kids : Int))) (fun (x14 : List UInt8) => loopN (fun (s : List UInt8 × Int) => gleaningref1_addRule_b_l1 K a1 s.1 s.2) Fu (x14, 0))) else (if (a1.Kind == 6) = true then (Option.bind (gleaningref1_Text (a0 ++ [(u8 (IntKind.u8.wrap a1.Kind))]) a1.Key) (fun (x28 : List UInt8) => Option.bind (gleaningref1_Text x28 a1.Value) (fun (x29 : List UInt8) => some x29))) else (if (a1.Kind == 5) = true then (some (a0 ++ [(u8 (IntKind.u8.wrap a1.Kind))])) else (Option.bind (gleaningref1_Put (a0 ++ [(u8 (IntKind.u8.wrap a1.Kind))]) (IntKind.u64.wrap a1.N)) (fun (x34 : List UInt8) => some x34))))
def gleaningref1_addRule_b (K : List UInt8 → Rule → Option (List UInt8)) (a0 : List UInt8) (a1 : Rule) : Option (List UInt8) :=
  gd ((List.length (a0 ++ [(u8 (IntKind.u8.wrap a1.Kind))])) * 1 ≤ 140737488355328 ∧ (List.length (a0 ++ [(u8 (IntKind.u8.wrap a1.Kind))])) ≤ 140737488355328) (Option.bind (if (a1.Kind == 1) = true then (some true) else (if (a1.Kind == 2) = true then (some true) else (some (a1.Kind == 3)))) (fun (s : Bool) => gleaningref1_addRule_b_k0 K a0 a1 s))
set_option maxRecDepth 100000 in
set_option maxHeartbeats 8000000 in
/-- gleaning/gleaningref1.addRule -/
theorem gleaningref1_addRule_b_ok (K : List UInt8 → Rule → Option (List UInt8)) (hK : ∀ (a0 : List UInt8) (a1 : Rule) {r : List UInt8}, K a0 a1 = some r → Ok Try.prog 70 [.own 1 0, .agg [.int .i64 a1.Kind, .int .i64 a1.N, .str a1.Key, .str a1.Value, .sl 5 (List.map enc23 a1.Kids)]] [] [(5, 1, List.map enc5 a0)] (.own 2 0) [] [(5, 1, List.map enc5 r)]) (a0 : List UInt8) (a1 : Rule) {r : List UInt8} (h : gleaningref1_addRule_b K a0 a1 = some r) : Ok Try.prog 70 [.own 1 0, .agg [.int .i64 a1.Kind, .int .i64 a1.N, .str a1.Key, .str a1.Value, .sl 5 (List.map enc23 a1.Kids)]] [] [(5, 1, List.map enc5 a0)] (.own 2 0) [] [(5, 1, List.map enc5 r)] := by
  unfold gleaningref1_addRule_b at h
  refine ok_of_code Try.func70 rfl (by show (2 : Nat) ≤ _; decide) (Nat.le_refl _) fun X => ?_
  refine aw_seq_k (fun K1 hK1 => ?_)
  refine aw_regL ?_
  refine alD (some 3) rfl rfl (do_box (by conv => lhs; whnf) rfl rfl) (by decide) ?_
  refine alP (some 4) rfl rfl (does_assign (v := .nil) (by exact rfl)) (by decide) ?_
  refine al_nil ?_
  refine hK1 _ ?_
  refine aw_seq_k (fun K2 hK2 => ?_)
  refine aw_regL ?_
  refine alP (some 6) rfl rfl (does_move (v := .own 1 0) (by exact rfl)) (by decide) ?_
  refine alP (some 7) rfl rfl (does_fieldAddr (q := .ptr 3 0 0) (by conv => lhs; whnf) ty24 rfl ty3 (by decide) (by exact rfl)) (by decide) ?_
  refine alR (some 8) rfl rfl (does_load (v := .int .i64 a1.Kind) (by conv => lhs; whnf) (by conv => lhs; whnf) ty3 (by exact rfl)) (by decide) ?_
  refine alP (some 9) rfl rfl ((does_conv_int (v := .int .u8 (IntKind.u8.wrap a1.Kind)) (by conv => lhs; whnf) (ty_some ty3) (ty_int ty5) rfl).castp (v' := .int .u8 ((u8 (IntKind.u8.wrap a1.Kind)).toNat : Int)) (by exact congrArg _ (u8_eq (u8_wrap _)))) (by decide) ?_
  refine alD (some 10) rfl rfl (do_buildSlice (xs := List.map enc5 [(u8 (IntKind.u8.wrap a1.Kind))]) ty43 ty5 rfl rfl rfl rfl rfl rfl rfl rfl) (by decide) ?_
  obtain ⟨g3, h⟩ := gd_some h
  refine alD (some 11) rfl rfl (do_append (v := List.map enc5 (a0 ++ [(u8 (IntKind.u8.wrap a1.Kind))])) (by conv => lhs; whnf) (by conv => lhs; whnf) ty43 ty5 rfl rfl (by conv => lhs; whnf) (by first | exact .inl rfl | exact .inr ⟨rfl, rfl⟩) (by conv => lhs; whnf) (by first | exact .inr rfl | exact .inl rfl) (map_app _ _) (fit_map g3)) (by decide) ?_
  refine alP (some 0) rfl rfl (does_assign (v := .own 11 0) (by exact rfl)) (by decide) ?_
  refine al_nil ?_
  refine hK2 _ ?_
  refine aw_seq_k (fun K4 hK4 => ?_)
  refine aw_seq_k (fun K5 hK5 => ?_)
  refine aw_regL ?_
  refine alP (some 12) rfl rfl (does_fieldAddr (q := .ptr 3 0 0) (by conv => lhs; whnf) ty24 rfl ty3 (by decide) (by exact rfl)) (by decide) ?_
  refine alR (some 13) rfl rfl (does_load (v := .int .i64 a1.Kind) (by conv => lhs; whnf) (by conv => lhs; whnf) ty3 (by exact rfl)) (by decide) ?_
  refine al_nil ?_
  refine hK5 _ ?_
  refine aw_block ?_
  obtain ⟨q6, h, hk7⟩ := bnd_some h
  refine aw_cut (fun s => ∃ (v19_0 : Bool), gleaningref1_addRule_b_k0 K a0 a1 v19_0 = some r ∧ s = lit [(0, .own 11 0), (3, .ptr 3 0 0), (13, .int .i64 a1.Kind), (19, .bool v19_0)] [((11, 0), .arr 5 1 false (List.map enc5 (a0 ++ [(u8 (IntKind.u8.wrap a1.Kind))]))), ((3, 0), .box [.int .i64 a1.Kind, .int .i64 a1.N, .str a1.Key, .str a1.Value, .sl 5 (List.map enc23 a1.Kids)])] [(3, 1), (11, 1)] X) ?_ ?_
  · skip
    refine aw_seq_k (fun K8 hK8 => ?_)
    refine aw_regL ?_
    refine alP (some 20) rfl rfl (does_bin (v := .bool (a1.Kind == 1)) (by conv => lhs; whnf) (by conv => lhs; whnf) rfl) (by decide) ?_
    refine alP (some 19) rfl rfl (does_assign (v := .bool (a1.Kind == 1)) (by exact rfl)) (by decide) ?_
    refine al_nil ?_
    refine hK8 _ ?_
    refine aw_bool (b := (a1.Kind == 1)) 19 rfl (fun c9 => ?_) (fun c9 => ?_)
    · have h := ifT c9 h
      refine aw_cond_t (by decide) rfl ?_
      refine aw_skip ?_
      obtain rfl := Option.some.inj h
      have h := hk7
      exact ⟨_, reb_lit [(0, .own 11 0), (3, .ptr 3 0 0), (13, .int .i64 a1.Kind), (19, .bool true)] [(11, 0), (3, 0)] [((11, 0), .arr 5 1 false (List.map enc5 (a0 ++ [(u8 (IntKind.u8.wrap a1.Kind))]))), ((3, 0), .box [.int .i64 a1.Kind, .int .i64 a1.N, .str a1.Key, .str a1.Value, .sl 5 (List.map enc23 a1.Kids)])] [(3, 1), (11, 1)] (envOk_cons (by conv => lhs; whnf) (by exact rfl) (envOk_cons (by conv => lhs; whnf) (by exact rfl) (envOk_cons (by conv => lhs; whnf) (by exact rfl) (envOk_cons (by conv => lhs; whnf) (by exact rfl) envOk_nil)))) (objOk_cons (by conv => lhs; whnf) (by conv => lhs; whnf) (by exact rfl) (by simp) (objOk_cons (by conv => lhs; whnf) (by conv => lhs; whnf) (by exact rfl) (by simp) objOk_nil)) (nodup_b rfl) (nodup_b rfl) rfl rfl, true, h, rfl⟩
    · have h := ifF c9 h
      refine aw_cond_f (by decide) rfl ?_
      refine aw_seq_k (fun K10 hK10 => ?_)
      refine aw_regL ?_
      refine alP (some 21) rfl rfl (does_bin (v := .bool (a1.Kind == 2)) (by conv => lhs; whnf) (by conv => lhs; whnf) rfl) (by decide) ?_
      refine alP (some 19) rfl rfl (does_assign (v := .bool (a1.Kind == 2)) (by exact rfl)) (by decide) ?_
      refine al_nil ?_
      refine hK10 _ ?_
      refine aw_bool (b := (a1.Kind == 2)) 19 rfl (fun c11 => ?_) (fun c11 => ?_)
      · have h := ifT c11 h
        refine aw_cond_t (by decide) rfl ?_
        refine aw_skip ?_
        obtain rfl := Option.some.inj h
        have h := hk7
        exact ⟨_, reb_lit [(0, .own 11 0), (3, .ptr 3 0 0), (13, .int .i64 a1.Kind), (19, .bool true)] [(11, 0), (3, 0)] [((11, 0), .arr 5 1 false (List.map enc5 (a0 ++ [(u8 (IntKind.u8.wrap a1.Kind))]))), ((3, 0), .box [.int .i64 a1.Kind, .int .i64 a1.N, .str a1.Key, .str a1.Value, .sl 5 (List.map enc23 a1.Kids)])] [(3, 1), (11, 1)] (envOk_cons (by conv => lhs; whnf) (by exact rfl) (envOk_cons (by conv => lhs; whnf) (by exact rfl) (envOk_cons (by conv => lhs; whnf) (by exact rfl) (envOk_cons (by conv => lhs; whnf) (by exact rfl) envOk_nil)))) (objOk_cons (by conv => lhs; whnf) (by conv => lhs; whnf) (by exact rfl) (by simp) (objOk_cons (by conv => lhs; whnf) (by conv => lhs; whnf) (by exact rfl) (by simp) objOk_nil)) (nodup_b rfl) (nodup_b rfl) rfl rfl, true, h, rfl⟩
      · have h := ifF c11 h
        refine aw_cond_f (by decide) rfl ?_
        refine aw_regL ?_
        refine alP (some 22) rfl rfl (does_bin (v := .bool (a1.Kind == 3)) (by conv => lhs; whnf) (by conv => lhs; whnf) rfl) (by decide) ?_
        refine alP (some 19) rfl rfl (does_assign (v := .bool (a1.Kind == 3)) (by exact rfl)) (by decide) ?_
        refine al_nil ?_
        obtain rfl := Option.some.inj h
        have h := hk7
        exact ⟨_, reb_lit [(0, .own 11 0), (3, .ptr 3 0 0), (13, .int .i64 a1.Kind), (19, .bool (a1.Kind == 3))] [(11, 0), (3, 0)] [((11, 0), .arr 5 1 false (List.map enc5 (a0 ++ [(u8 (IntKind.u8.wrap a1.Kind))]))), ((3, 0), .box [.int .i64 a1.Kind, .int .i64 a1.N, .str a1.Key, .str a1.Value, .sl 5 (List.map enc23 a1.Kids)])] [(3, 1), (11, 1)] (envOk_cons (by conv => lhs; whnf) (by exact rfl) (envOk_cons (by conv => lhs; whnf) (by exact rfl) (envOk_cons (by conv => lhs; whnf) (by exact rfl) (envOk_cons (by conv => lhs; whnf) (by exact rfl) envOk_nil)))) (objOk_cons (by conv => lhs; whnf) (by conv => lhs; whnf) (by exact rfl) (by simp) (objOk_cons (by conv => lhs; whnf) (by conv => lhs; whnf) (by exact rfl) (by simp) objOk_nil)) (nodup_b rfl) (nodup_b rfl) rfl rfl, (a1.Kind == 3), h, rfl⟩
  · rintro s ⟨v19_0, h, rfl⟩
    unfold gleaningref1_addRule_b_k0 at h
    refine aw_bool (b := v19_0) 19 rfl (fun c12 => ?_) (fun c12 => ?_)
    · have h := ifT c12 h
      refine aw_cond_t (by decide) rfl ?_
      refine aw_seq_k (fun K13 hK13 => ?_)
      refine aw_regL ?_
      refine alP (some 23) rfl rfl (does_move (v := .own 11 0) (by exact rfl)) (by decide) ?_
      refine alP (some 24) rfl rfl (does_fieldAddr (q := .ptr 3 0 4) (by conv => lhs; whnf) ty24 rfl ty22 (by decide) (by exact rfl)) (by decide) ?_
      refine alR (some 25) rfl rfl (does_load (v := .sl 5 (List.map enc23 a1.Kids)) (by conv => lhs; whnf) (by conv => lhs; whnf) ty22 (by exact rfl)) (by decide) ?_
      refine alP (some 26) rfl rfl ((does_len_sl (by conv => lhs; whnf) ty22).castp (v' := .int .i64 (List.length a1.Kids : Int)) (by exact len_map _)) (by decide) ?_
      refine alP (some 27) rfl rfl (does_conv_int (v := .int .u64 (IntKind.u64.wrap (List.length a1.Kids : Int))) (by conv => lhs; whnf) (ty_some ty3) (ty_int ty25) rfl) (by decide) ?_
      obtain ⟨x14, hx14, h⟩ := bnd_some h
      refine alD (some 28) rfl rfl (do_callG (bcs := []) [] [(11, 0)] [] 28 false (gleaningref1_Put_ok (a0 ++ [(u8 (IntKind.u8.wrap a1.Kind))]) (IntKind.u64.wrap (List.length a1.Kids : Int)) hx14) rfl ent84 trivial (rowsOk_cons (by conv => lhs; whnf) (by exact rfl) trivial) rfl rfl rfl rfl rfl rfl rfl rfl (.inr ⟨rfl, rfl, ⟨plain_map (fun _ => rfl), trivial⟩⟩)) (by decide) ?_
      refine alP (some 0) rfl rfl (does_assign (v := .own 28 0) (by exact rfl)) (by decide) ?_
      refine al_nil ?_
      refine hK13 _ ?_
      refine aw_seq_k (fun K15 hK15 => ?_)
      refine aw_regL ?_
      refine alP (some 5) rfl rfl (does_assign (v := .int .i64 0) (by exact rfl)) (by decide) ?_
      refine al_nil ?_
      refine hK15 _ ?_
      refine aw_block ?_
      refine aw_loop' (fun m s => ∃ (v0_s_1 : List UInt8), ∃ (v5_1 : Int), loopN (fun (s : List UInt8 × Int) => gleaningref1_addRule_b_l1 K a1 s.1 s.2) m (v0_s_1, v5_1) = some r ∧ s = lit [(0, .own 28 0), (3, .ptr 3 0 0), (5, .int .i64 v5_1)] [((28, 0), .arr 5 1 false (List.map enc5 v0_s_1)), ((3, 0), .box [.int .i64 a1.Kind, .int .i64 a1.N, .str a1.Key, .str a1.Value, .sl 5 (List.map enc23 a1.Kids)])] [(3, 1), (28, 1)] X) Fu
        ⟨_, reb_lit [(0, .own 28 0), (3, .ptr 3 0 0), (5, .int .i64 (0))] [(28, 0), (3, 0)] [((28, 0), .arr 5 1 false (List.map enc5 x14)), ((3, 0), .box [.int .i64 a1.Kind, .int .i64 a1.N, .str a1.Key, .str a1.Value, .sl 5 (List.map enc23 a1.Kids)])] [(3, 1), (28, 1)] (envOk_cons (by conv => lhs; whnf) (by exact rfl) (envOk_cons (by conv => lhs; whnf) (by exact rfl) (envOk_cons (by conv => lhs; whnf) (by exact rfl) envOk_nil))) (objOk_cons (by conv => lhs; whnf) (by conv => lhs; whnf) (by exact rfl) (by simp) (objOk_cons (by conv => lhs; whnf) (by conv => lhs; whnf) (by exact rfl) (by simp) objOk_nil)) (nodup_b rfl) (nodup_b rfl) rfl rfl, x14, 0, h, rfl⟩ ?_
      rintro m s ⟨v0_s_1, v5_1, h, rfl⟩
      obtain ⟨m1, q16, rfl, h, hq17⟩ := loop_some h
      replace h : gleaningref1_addRule_b_l1 K a1 v0_s_1 v5_1 = some q16 := h
      unfold gleaningref1_addRule_b_l1 at h
      refine aw_seq_k (fun K18 hK18 => ?_)
      refine aw_seq_k (fun K19 hK19 => ?_)
      refine aw_regL ?_
      refine alP (some 29) rfl rfl (does_move (v := .int .i64 v5_1) (by exact rfl)) (by decide) ?_
      refine alP (some 30) rfl rfl (does_fieldAddr (q := .ptr 3 0 4) (by conv => lhs; whnf) ty24 rfl ty22 (by decide) (by exact rfl)) (by decide) ?_
      refine alR (some 31) rfl rfl (does_load (v := .sl 5 (List.map enc23 a1.Kids)) (by conv => lhs; whnf) (by conv => lhs; whnf) ty22 (by exact rfl)) (by decide) ?_
      refine alP (some 32) rfl rfl ((does_len_sl (by conv => lhs; whnf) ty22).castp (v' := .int .i64 (List.length a1.Kids : Int)) (by exact len_map _)) (by decide) ?_
      refine alP (some 33) rfl rfl (does_bin (v := .bool (decide (v5_1 < (List.length a1.Kids : Int)))) (by conv => lhs; whnf) (by conv => lhs; whnf) rfl) (by decide) ?_
      refine al_nil ?_
      refine hK19 _ ?_
      refine aw_bool (b := (decide (v5_1 < (List.length a1.Kids : Int)))) 33 rfl (fun c20 => ?_) (fun c20 => ?_)
      · have h := ifT c20 h
        refine aw_cond_t (by decide) rfl ?_
        refine aw_skip ?_
        refine hK18 _ ?_
        refine aw_seq_k (fun K21 hK21 => ?_)
        refine aw_block ?_
        refine aw_regL ?_
        refine alP (some 36) rfl rfl (does_move (v := .own 28 0) (by exact rfl)) (by decide) ?_
        refine alP (some 37) rfl rfl (does_fieldAddr (q := .ptr 3 0 4) (by conv => lhs; whnf) ty24 rfl ty22 (by decide) (by exact rfl)) (by decide) ?_
        refine alR (some 38) rfl rfl (does_load (v := .sl 5 (List.map enc23 a1.Kids)) (by conv => lhs; whnf) (by conv => lhs; whnf) ty22 (by exact rfl)) (by decide) ?_
        refine alP (some 39) rfl rfl (does_move (v := .int .i64 v5_1) (by exact rfl)) (by decide) ?_
        obtain ⟨g22, h⟩ := gd_some h
        obtain ⟨x23, hx23, h⟩ := bnd_some h
        refine alP (some 40) rfl rfl (does_indexAddr_sl (el := .agg [.int .i64 x23.Kind, .int .i64 x23.N, .str x23.Key, .str x23.Value, .sl 5 (List.map enc23 x23.Kids)]) (by conv => lhs; whnf) (by conv => lhs; whnf) ty22 ty24 g22 (by exact map_getE (enc23_eq _) hx23)) (by decide) ?_
        refine alR (some 41) rfl rfl (does_load (v := .agg [.int .i64 x23.Kind, .int .i64 x23.N, .str x23.Key, .str x23.Value, .sl 5 (List.map enc23 x23.Kids)]) (by conv => lhs; whnf) (by conv => lhs; whnf) ty24 (by exact rfl)) (by decide) ?_
        obtain ⟨x24, hx24, h⟩ := bnd_some h
        refine alD (some 42) rfl rfl (do_callG (bcs := []) [] [(28, 0)] [] 42 false (hK v0_s_1 x23 hx24) rfl ent70 trivial (rowsOk_cons (by conv => lhs; whnf) (by exact rfl) trivial) rfl rfl rfl rfl rfl rfl rfl rfl (.inr ⟨rfl, rfl, ⟨plain_map (fun _ => rfl), trivial⟩⟩)) (by decide) ?_
        refine alP (some 0) rfl rfl (does_assign (v := .own 42 0) (by exact rfl)) (by decide) ?_
        refine al_nil ?_
        refine hK21 _ ?_
        refine aw_regL ?_
        refine alP (some 34) rfl rfl (does_move (v := .int .i64 v5_1) (by exact rfl)) (by decide) ?_
        refine alP (some 35) rfl rfl (does_bin (v := .int .i64 (IntKind.i64.wrap (v5_1 + 1))) (by conv => lhs; whnf) (by conv => lhs; whnf) rfl) (by decide) ?_
        refine alP (some 5) rfl rfl (does_assign (v := .int .i64 (IntKind.i64.wrap (v5_1 + 1))) (by exact rfl)) (by decide) ?_
        refine al_nil ?_
        have h := leafL h hq17
        exact ⟨m1, Nat.lt_succ_self _, _, reb_lit [(0, .own 28 0), (3, .ptr 3 0 0), (5, .int .i64 (IntKind.i64.wrap (v5_1 + 1)))] [(42, 0), (3, 0)] [((28, 0), .arr 5 1 false (List.map enc5 x24)), ((3, 0), .box [.int .i64 a1.Kind, .int .i64 a1.N, .str a1.Key, .str a1.Value, .sl 5 (List.map enc23 a1.Kids)])] [(3, 1), (28, 1)] (envOk_cons (by conv => lhs; whnf) (by exact rfl) (envOk_cons (by conv => lhs; whnf) (by exact rfl) (envOk_cons (by conv => lhs; whnf) (by exact rfl) envOk_nil))) (objOk_cons (by conv => lhs; whnf) (by conv => lhs; whnf) (by exact rfl) (by simp) (objOk_cons (by conv => lhs; whnf) (by conv => lhs; whnf) (by exact rfl) (by simp) objOk_nil)) (nodup_b rfl) (nodup_b rfl) rfl rfl, x24, (IntKind.i64.wrap (v5_1 + 1)), h, rfl⟩
      · have h := ifF c20 h
        refine aw_cond_f (by decide) rfl ?_
        refine aw_exit ?_
        have h := leafR h hq17
        refine hK4 _ ?_
        refine aw_seq_k (fun K25 hK25 => ?_)
        refine aw_regL ?_
        refine alP (some 54) rfl rfl (does_move (v := .own 28 0) (by exact rfl)) (by decide) ?_
        refine alP (some 4) rfl rfl (does_assign (v := .own 28 0) (by exact rfl)) (by decide) ?_
        refine al_nil ?_
        refine hK25 _ ?_
        refine aw_ret ?_
        obtain rfl := Option.some.inj h
        exact ret_okR [(28, 0)] (by conv => lhs; whnf) (by conv => lhs; whnf) (by exact rfl) (rowsOk_cons (by conv => lhs; whnf) (by exact rfl) trivial) (nodup_b rfl) (.inr rfl) rfl
    · have h := ifF c12 h
      refine aw_cond_f (by decide) rfl ?_
      refine aw_seq_k (fun K26 hK26 => ?_)
      refine aw_regL ?_
      refine alP (some 44) rfl rfl (does_bin (v := .bool (a1.Kind == 6)) (by conv => lhs; whnf) (by conv => lhs; whnf) rfl) (by decide) ?_
      refine alP (some 43) rfl rfl (does_assign (v := .bool (a1.Kind == 6)) (by exact rfl)) (by decide) ?_
      refine al_nil ?_
      refine hK26 _ ?_
      refine aw_bool (b := (a1.Kind == 6)) 43 rfl (fun c27 => ?_) (fun c27 => ?_)
      · have h := ifT c27 h
        refine aw_cond_t (by decide) rfl ?_
        refine aw_regd (by kernel_rfl) (by decide +kernel) ?_
        refine aoP (some 45) rfl rfl (does_move (v := .own 11 0) (by exact rfl)) (by decide) ?_
        refine aoP (some 46) rfl rfl (does_fieldAddr (q := .ptr 3 0 2) (by conv => lhs; whnf) ty24 rfl ty9 (by decide) (by exact rfl)) (by decide) ?_
        refine aoR (some 47) rfl rfl (does_load (v := .str a1.Key) (by conv => lhs; whnf) (by conv => lhs; whnf) ty9 (by exact rfl)) (by decide) ?_
        obtain ⟨x28, hx28, h⟩ := bnd_some h
        refine aoD (some 48) rfl rfl (do_callG (bcs := []) [] [(11, 0)] [] 48 false (gleaningref1_Text_ok (a0 ++ [(u8 (IntKind.u8.wrap a1.Kind))]) a1.Key hx28) rfl ent106 trivial (rowsOk_cons (by conv => lhs; whnf) (by exact rfl) trivial) rfl rfl rfl rfl rfl rfl rfl rfl (.inr ⟨rfl, rfl, ⟨plain_map (fun _ => rfl), trivial⟩⟩)) (by decide) ?_
        refine aoP (some 49) rfl rfl (does_fieldAddr (q := .ptr 3 0 3) (by conv => lhs; whnf) ty24 rfl ty9 (by decide) (by exact rfl)) (by decide) ?_
        refine aoR (some 50) rfl rfl (does_load (v := .str a1.Value) (by conv => lhs; whnf) (by conv => lhs; whnf) ty9 (by exact rfl)) (by decide) ?_
        obtain ⟨x29, hx29, h⟩ := bnd_some h
        refine aoD (some 51) rfl rfl (do_callG (bcs := []) [] [(48, 0)] [] 51 false (gleaningref1_Text_ok x28 a1.Value hx29) rfl ent106 trivial (rowsOk_cons (by conv => lhs; whnf) (by exact rfl) trivial) rfl rfl rfl rfl rfl rfl rfl rfl (.inr ⟨rfl, rfl, ⟨plain_map (fun _ => rfl), trivial⟩⟩)) (by decide) ?_
        refine aoP (some 0) rfl rfl (does_assign (v := .own 51 0) (by exact rfl)) (by decide) ?_
        refine ao_nil_d (by kernel_rfl) ?_
        refine hK4 _ ?_
        refine aw_seq_k (fun K30 hK30 => ?_)
        refine aw_regL ?_
        refine alP (some 54) rfl rfl (does_move (v := .own 51 0) (by exact rfl)) (by decide) ?_
        refine alP (some 4) rfl rfl (does_assign (v := .own 51 0) (by exact rfl)) (by decide) ?_
        refine al_nil ?_
        refine hK30 _ ?_
        refine aw_ret ?_
        obtain rfl := Option.some.inj h
        exact ret_okR [(51, 0)] (by conv => lhs; whnf) (by conv => lhs; whnf) (by exact rfl) (rowsOk_cons (by conv => lhs; whnf) (by exact rfl) trivial) (nodup_b rfl) (.inr rfl) rfl
      · have h := ifF c27 h
        refine aw_cond_f (by decide) rfl ?_
        refine aw_seq_k (fun K31 hK31 => ?_)
        refine aw_regL ?_
        refine alP (some 53) rfl rfl (does_bin (v := .bool (a1.Kind == 5)) (by conv => lhs; whnf) (by conv => lhs; whnf) rfl) (by decide) ?_
        refine alP (some 52) rfl rfl (does_assign (v := .bool (a1.Kind == 5)) (by exact rfl)) (by decide) ?_
        refine al_nil ?_
        refine hK31 _ ?_
        refine aw_bool (b := (a1.Kind == 5)) 52 rfl (fun c32 => ?_) (fun c32 => ?_)
        · have h := ifT c32 h
          refine aw_cond_t (by decide) rfl ?_
          refine aw_skip ?_
          refine hK4 _ ?_
          refine aw_seq_k (fun K33 hK33 => ?_)
          refine aw_regL ?_
          refine alP (some 54) rfl rfl (does_move (v := .own 11 0) (by exact rfl)) (by decide) ?_
          refine alP (some 4) rfl rfl (does_assign (v := .own 11 0) (by exact rfl)) (by decide) ?_
          refine al_nil ?_
          refine hK33 _ ?_
          refine aw_ret ?_
          obtain rfl := Option.some.inj h
          exact ret_okR [(11, 0)] (by conv => lhs; whnf) (by conv => lhs; whnf) (by exact rfl) (rowsOk_cons (by conv => lhs; whnf) (by exact rfl) trivial) (nodup_b rfl) (.inr rfl) rfl
        · have h := ifF c32 h
          refine aw_cond_f (by decide) rfl ?_
          refine aw_regL ?_
          refine alP (some 14) rfl rfl (does_move (v := .own 11 0) (by exact rfl)) (by decide) ?_
          refine alP (some 15) rfl rfl (does_fieldAddr (q := .ptr 3 0 1) (by conv => lhs; whnf) ty24 rfl ty3 (by decide) (by exact rfl)) (by decide) ?_
          refine alR (some 16) rfl rfl (does_load (v := .int .i64 a1.N) (by conv => lhs; whnf) (by conv => lhs; whnf) ty3 (by exact rfl)) (by decide) ?_
          refine alP (some 17) rfl rfl (does_conv_int (v := .int .u64 (IntKind.u64.wrap a1.N)) (by conv => lhs; whnf) (ty_some ty3) (ty_int ty25) rfl) (by decide) ?_
          obtain ⟨x34, hx34, h⟩ := bnd_some h
          refine alD (some 18) rfl rfl (do_callG (bcs := []) [] [(11, 0)] [] 18 false (gleaningref1_Put_ok (a0 ++ [(u8 (IntKind.u8.wrap a1.Kind))]) (IntKind.u64.wrap a1.N) hx34) rfl ent84 trivial (rowsOk_cons (by conv => lhs; whnf) (by exact rfl) trivial) rfl rfl rfl rfl rfl rfl rfl rfl (.inr ⟨rfl, rfl, ⟨plain_map (fun _ => rfl), trivial⟩⟩)) (by decide) ?_
          refine alP (some 0) rfl rfl (does_assign (v := .own 18 0) (by exact rfl)) (by decide) ?_
          refine al_nil ?_
          refine hK4 _ ?_
          refine aw_seq_k (fun K35 hK35 => ?_)
          refine aw_regL ?_
          refine alP (some 54) rfl rfl (does_move (v := .own 18 0) (by exact rfl)) (by decide) ?_
          refine alP (some 4) rfl rfl (does_assign (v := .own 18 0) (by exact rfl)) (by decide) ?_
          refine al_nil ?_
          refine hK35 _ ?_
          refine aw_ret ?_
          obtain rfl := Option.some.inj h
          exact ret_okR [(18, 0)] (by conv => lhs; whnf) (by conv => lhs; whnf) (by exact rfl) (rowsOk_cons (by conv => lhs; whnf) (by exact rfl) trivial) (nodup_b rfl) (.inr rfl) rfl
def gleaningref1_addRuleN : Nat → List UInt8 → Rule → Option (List UInt8)
  | 0, _, _ => none
  | n + 1, a0, a1 => gleaningref1_addRule_b (gleaningref1_addRuleN n) a0 a1
theorem gleaningref1_addRuleN_ok : ∀ (n : Nat) (a0 : List UInt8) (a1 : Rule) {r : List UInt8}, gleaningref1_addRuleN n a0 a1 = some r → Ok Try.prog 70 [.own 1 0, .agg [.int .i64 a1.Kind, .int .i64 a1.N, .str a1.Key, .str a1.Value, .sl 5 (List.map enc23 a1.Kids)]] [] [(5, 1, List.map enc5 a0)] (.own 2 0) [] [(5, 1, List.map enc5 r)]
  | 0, _, _, _, h => by simp [gleaningref1_addRuleN] at h
  | n + 1, a0, a1, _, h => gleaningref1_addRule_b_ok (gleaningref1_addRuleN n) (gleaningref1_addRuleN_ok n) a0 a1 h
def gleaningref1_addRule (a0 : List UInt8) (a1 : Rule) : Option (List UInt8) := gleaningref1_addRuleN Fu a0 a1
theorem gleaningref1_addRule_ok (a0 : List UInt8) (a1 : Rule) {r : List UInt8} (h : gleaningref1_addRule a0 a1 = some r) : Ok Try.prog 70 [.own 1 0, .agg [.int .i64 a1.Kind, .int .i64 a1.N, .str a1.Key, .str a1.Value, .sl 5 (List.map enc23 a1.Kids)]] [] [(5, 1, List.map enc5 a0)] (.own 2 0) [] [(5, 1, List.map enc5 r)] := gleaningref1_addRuleN_ok Fu a0 a1 h
def gleaningref1_RuleBytes (a0 : Rule) : Option (List UInt8) :=
  Option.bind (gleaningref1_RightRule a0) (fun (x4 : Bool) => if (!x4) = true then (some []) else (Option.bind (gleaningref1_addRule [] a0) (fun (x8 : List UInt8) => some x8)))
set_option maxRecDepth 100000 in
set_option maxHeartbeats 8000000 in
/-- gleaning/gleaningref1.RuleBytes -/
theorem gleaningref1_RuleBytes_ok (a0 : Rule) {r : List UInt8} (h : gleaningref1_RuleBytes a0 = some r) : Ok Try.prog 39 [.agg [.int .i64 a0.Kind, .int .i64 a0.N, .str a0.Key, .str a0.Value, .sl 5 (List.map enc23 a0.Kids)]] [] [] (.own 2 0) [] [(5, 1, List.map enc5 r)] := by
  unfold gleaningref1_RuleBytes at h
  refine ok_of_code Try.func39 rfl (by show (1 : Nat) ≤ _; decide) (Nat.le_refl _) fun X => ?_
  refine aw_seq_k (fun K1 hK1 => ?_)
  refine aw_regL ?_
  refine alD (some 1) rfl rfl (do_box (by conv => lhs; whnf) rfl rfl) (by decide) ?_
  refine alP (some 2) rfl rfl (does_assign (v := .nil) (by exact rfl)) (by decide) ?_
  refine al_nil ?_
  refine hK1 _ ?_
  refine aw_seq_k (fun K2 hK2 => ?_)
  refine aw_seq_k (fun K3 hK3 => ?_)
  refine aw_regL ?_
  refine alR (some 3) rfl rfl (does_load (v := .agg [.int .i64 a0.Kind, .int .i64 a0.N, .str a0.Key, .str a0.Value, .sl 5 (List.map enc23 a0.Kids)]) (by conv => lhs; whnf) (by conv => lhs; whnf) ty24 (by exact rfl)) (by decide) ?_
  obtain ⟨x4, hx4, h⟩ := bnd_some h
  refine alD (some 4) rfl rfl (do_call0 4 false (gleaningref1_RightRule_ok a0 hx4) rfl ent25 rfl rfl) (by decide) ?_
  refine alP (some 5) rfl rfl (does_un (v := .bool (!x4)) (by conv => lhs; whnf) rfl) (by decide) ?_
  refine al_nil ?_
  refine hK3 _ ?_
  refine aw_bool (b := (!x4)) 5 rfl (fun c5 => ?_) (fun c5 => ?_)
  · have h := ifT c5 h
    refine aw_cond_t (by decide) rfl ?_
    refine aw_seq_k (fun K6 hK6 => ?_)
    refine aw_regL ?_
    refine alP (some 2) rfl rfl (does_assign (v := .nil) (by exact rfl)) (by decide) ?_
    refine al_nil ?_
    refine hK6 _ ?_
    refine aw_nilOwn 2 5 1 (by conv => lhs; whnf) (by decide) (by decide) ?_
    refine aw_ret ?_
    obtain rfl := Option.some.inj h
    exact ret_okR [(2, 0)] (by conv => lhs; whnf) (by conv => lhs; whnf) (by exact rfl) (rowsOk_cons (by conv => lhs; whnf) (by exact rfl) trivial) (nodup_b rfl) (.inr rfl) rfl
  · have h := ifF c5 h
    refine aw_cond_f (by decide) rfl ?_
    refine aw_skip ?_
    refine hK2 _ ?_
    refine aw_seq_k (fun K7 hK7 => ?_)
    refine aw_regL ?_
    refine alR (some 6) rfl rfl (does_load (v := .agg [.int .i64 a0.Kind, .int .i64 a0.N, .str a0.Key, .str a0.Value, .sl 5 (List.map enc23 a0.Kids)]) (by conv => lhs; whnf) (by conv => lhs; whnf) ty24 (by exact rfl)) (by decide) ?_
    obtain ⟨x8, hx8, h⟩ := bnd_some h
    refine alD (some 7) rfl rfl (do_call0 7 false ((gleaningref1_addRule_ok [] a0 hx8).nilRow0) rfl ent70 rfl rfl) (by decide) ?_
    refine alP (some 2) rfl rfl (does_assign (v := .own 7 0) (by exact rfl)) (by decide) ?_
    refine al_nil ?_
    refine hK7 _ ?_
    refine aw_ret ?_
    obtain rfl := Option.some.inj h
    exact ret_okR [(7, 0)] (by conv => lhs; whnf) (by conv => lhs; whnf) (by exact rfl) (rowsOk_cons (by conv => lhs; whnf) (by exact rfl) trivial) (nodup_b rfl) (.inr rfl) rfl
def gleaningref1_Reader_rule_b_k1 (a0 : Reader) (v23_1 : Bool) : Option (Unit ⊕ (Rule × Reader)) :=
  if v23_1 = true then (some (Sum.inr ((Rule.mk 0 0 (strOf []) (strOf []) []), (Reader.mk a0.B true)))) else (some (Sum.inl ()))
def gleaningref1_Reader_rule_b_k4 (K : Reader → Int → Option (Rule × Reader)) (a1 : Int) (vb0_s_0_3 : List UInt8) (vb0_s_1_3 : Bool) (v5_s_4_s_3 : List Rule) (v7_3 : Int) : Option ((List UInt8 × Bool × List Rule × Int) ⊕ (Rule × Reader)) :=
  Option.bind (K (Reader.mk vb0_s_0_3 vb0_s_1_3) (IntKind.i64.wrap (a1 - 1))) (fun (x37 : Rule × Reader) => gd ((List.length (v5_s_4_s_3 ++ [x37.1])) * 72 ≤ 140737488355328 ∧ (List.length (v5_s_4_s_3 ++ [x37.1])) ≤ 140737488355328) (some (Sum.inl (x37.2.B, x37.2.Bad, (v5_s_4_s_3 ++ [x37.1]), (IntKind.i64.wrap (v7_3 + 1))))))
def gleaningref1_Reader_rule_b_l3 (K : Reader → Int → Option (Rule × Reader)) (a1 : Int) (x12 : UInt8) (x25 : Int × Reader) (vb0_s_0_3 : List UInt8) (vb0_s_1_3 : Bool) (v5_s_4_s_3 : List Rule) (v7_3 : Int) : Option ((List UInt8 × Bool × List Rule × Int) ⊕ (Rule × Reader)) :=
  Option.bind (if (decide (v7_3 < x25.1)) = true then (if (!vb0_s_1_3) = true then (some (Sum.inl ())) else (some (Sum.inr (Sum.inr ((Rule.mk (IntKind.i64.wrap (x12.toNat : Int)) 0 (strOf []) (strOf []) v5_s_4_s_3), (Reader.mk vb0_s_0_3 vb0_s_1_3)))))) else (some (Sum.inr (Sum.inr ((Rule.mk (IntKind.i64.wrap (x12.toNat : Int)) 0 (strOf []) (strOf []) v5_s_4_s_3), (Reader.mk vb0_s_0_3 vb0_s_1_3)))))) (Sum.elim (fun (s : Unit) => gleaningref1_Reader_rule_b_k4 K a1 vb0_s_0_3 vb0_s_1_3 v5_s_4_s_3 v7_3) some)
def gleaningref1_Reader_rule_b_k5 (a0 : Reader) (x12 : UInt8) (v86_5 : Bool) : Option (Rule × Reader) :=
  if v86_5 = true then (Option.bind (gleaningref1_Reader_Int (Reader.mk (List.drop 1 a0.B) a0.Bad) 1073741824) (fun (x57 : Int × Reader) => some ((Rule.mk (IntKind.i64.wrap (x12.toNat : Int)) x57.1 (strOf []) (strOf []) []), x57.2))) else (some ((Rule.mk (IntKind.i64.wrap (x12.toNat : Int)) 0 (strOf []) (strOf []) []), (Reader.mk (List.drop 1 a0.B) true)))
def gleaningref1_Reader_rule_b_k2 (K : Reader → Int → Option (Rule × Reader)) (a0 : Reader) (a1 : Int) (x12 : UInt8) (v49_2 : Bool) : Option (Rule × Reader) :=
  if v49_2 = true then (Option.bind (gleaningref1_Reader_Int (Reader.mk (List.drop 1 a0.B) a0.Bad) 20) (fun (x25 : Int × Reader) => loopN (fun (s : List UInt8 × Bool × List Rule × Int) => gleaningref1_Reader_rule_b_l3 K a1 x12 x25 s.1 s.2.1 s.2.2.1 s.2.2.2) Fu (x25.2.B, x25.2.Bad, [], 0))) else (if ((IntKind.i64.wrap (x12.toNat : Int)) == 6) = true then (Option.bind (gleaningref1_Reader_Text (Reader.mk (List.drop 1 a0.B) a0.Bad)) (fun (x42 : ByteArray × Reader) => Option.bind (gleaningref1_Reader_Text x42.2) (fun (x43 : ByteArray × Reader) => some ((Rule.mk (IntKind.i64.wrap (x12.toNat : Int)) 0 x42.1 x43.1 []), x43.2)))) else (if ((IntKind.i64.wrap (x12.toNat : Int)) == 5) = true then (some ((Rule.mk (IntKind.i64.wrap (x12.toNat : Int)) 0 (strOf []) (strOf []) []), (Reader.mk (List.drop 1 a0.B) a0.Bad))) else (Option.bind (if ((IntKind.i64.wrap (x12.toNat : Int)) == 4) = true then (some true) else (if ((IntKind.i64.wrap (x12.toNat : Int)) == 7) = true then (some true) else (if ((IntKind.i64.wrap (x12.toNat : Int)) == 8) = true then (some true) else (some ((IntKind.i64.wrap (x12.toNat : Int)) == 9))))) (fun (s : Bool) => gleaningref1_Reader_rule_b_k5 a0 x12 s))))
def gleaningref1_Reader_rule_b_k0 (K : Reader → Int → Option (Rule × Reader)) (a0 : Reader) (a1 : Int) : Option (Rule × Reader) :=
  Option.bind (a0.B[0]?) (fun (x12 : UInt8) => gd ((1 : Int) ≤ (List.length a0.B : Int)) (Option.bind (if ((IntKind.i64.wrap (x12.toNat : Int)) == 1) = true then (some true) else (if ((IntKind.i64.wrap (x12.toNat : Int)) == 2) = true then (some true) else (some ((IntKind.i64.wrap (x12.toNat : Int)) == 3)))) (fun (s : Bool) => gleaningref1_Reader_rule_b_k2 K a0 a1 x12 s)))
def gleaningref1_Reader_rule_b (K : Reader → Int → Option (Rule × Reader)) (a0 : Reader) (a1 : Int) : Option (Rule × Reader) :=
  Option.bind (Option.bind (if a0.Bad = true then (some true) else (if ((List.length a0.B : Int) == 0) = true then (some true) else (some (a1 == 0)))) (fun (s : Bool) => gleaningref1_Reader_rule_b_k1 a0 s)) (Sum.elim (fun (s : Unit) => gleaningref1_Reader_rule_b_k0 K a0 a1) some)
set_option maxRecDepth 100000 in
set_option maxHeartbeats 8000000 in
/-- (*gleaning/gleaningref1.Reader).rule -/
theorem gleaningref1_Reader_rule_b_ok (K : Reader → Int → Option (Rule × Reader)) (hK : ∀ (a0 : Reader) (a1 : Int) {r : Rule × Reader}, K a0 a1 = some r → Ok Try.prog 74 [.ptr 0 0 0, .int .i64 a1] [[.sl 1 (List.map enc5 a0.B), .bool a0.Bad]] [] (.agg [.int .i64 r.1.Kind, .int .i64 r.1.N, .str r.1.Key, .str r.1.Value, .sl 5 (List.map enc23 r.1.Kids)]) [[.sl 1 (List.map enc5 r.2.B), .bool r.2.Bad]] []) (a0 : Reader) (a1 : Int) {r : Rule × Reader} (h : gleaningref1_Reader_rule_b K a0 a1 = some r) : Ok Try.prog 74 [.ptr 0 0 0, .int .i64 a1] [[.sl 1 (List.map enc5 a0.B), .bool a0.Bad]] [] (.agg [.int .i64 r.1.Kind, .int .i64 r.1.N, .str r.1.Key, .str r.1.Value, .sl 5 (List.map enc23 r.1.Kids)]) [[.sl 1 (List.map enc5 r.2.B), .bool r.2.Bad]] [] := by
  unfold gleaningref1_Reader_rule_b at h
  refine ok_of_code Try.func74 rfl (by show (2 : Nat) ≤ _; decide) (Nat.le_refl _) fun X => ?_
  refine aw_seq_k (fun K1 hK1 => ?_)
  refine aw_regL ?_
  refine alD (some 4) rfl rfl (do_new ty24 rfl rfl) (by decide) ?_
  refine al_nil ?_
  refine hK1 _ ?_
  obtain ⟨q2, h, hk3⟩ := bnd_some h
  refine aw_cut (fun s => gleaningref1_Reader_rule_b_k0 K a0 a1 = some r ∧ s = lit [(0, .ptr 0 0 0), (1, .int .i64 a1), (4, .ptr 4 0 0)] [((0, 0), .box [.sl 1 (List.map enc5 a0.B), .bool a0.Bad]), ((4, 0), .box [.int .i64 0, .int .i64 0, .str (strOf []), .str (strOf []), .nil])] [(0, 1), (4, 1)] X) ?_ ?_
  · skip
    obtain ⟨q4, h, hk5⟩ := bnd_some h
    refine aw_cut (fun s => ∃ (v23_1 : Bool), gleaningref1_Reader_rule_b_k1 a0 v23_1 = some q2 ∧ s = lit [(0, .ptr 0 0 0), (1, .int .i64 a1), (4, .ptr 4 0 0), (23, .bool v23_1)] [((0, 0), .box [.sl 1 (List.map enc5 a0.B), .bool a0.Bad]), ((4, 0), .box [.int .i64 0, .int .i64 0, .str (strOf []), .str (strOf []), .nil])] [(0, 1), (4, 1)] X) ?_ ?_
    · skip
      refine aw_regL ?_
      refine alP (some 8) rfl rfl (does_move (v := .ptr 0 0 0) (by exact rfl)) (by decide) ?_
      refine alP (some 9) rfl rfl (does_nilCheck (p := .ptr 0 0 0) (by conv => lhs; whnf) rfl) (by decide) ?_
      refine alP (some 10) rfl rfl (does_fieldAddr (q := .ptr 0 0 1) (by conv => lhs; whnf) ty96 rfl ty4 (by decide) (by exact rfl)) (by decide) ?_
      refine alR (some 11) rfl rfl (does_load (v := .bool a0.Bad) (by conv => lhs; whnf) (by conv => lhs; whnf) ty4 (by exact rfl)) (by decide) ?_
      refine alP (some 12) rfl rfl (does_move (v := .bool a0.Bad) (by exact rfl)) (by decide) ?_
      refine al_bool (c := a0.Bad) 12 rfl (fun c6 => ?_) (fun c6 => ?_)
      · have h := ifT c6 h
        refine alS (some 13) rfl rfl (by decide) ?_
        refine alS (some 14) rfl rfl (by decide) ?_
        refine alS (some 15) rfl rfl (by decide) ?_
        refine alS (some 16) rfl rfl (by decide) ?_
        refine alS (some 17) rfl rfl (by decide) ?_
        refine alS (some 18) rfl rfl (by decide) ?_
        refine alP (some 19) rfl rfl (does_pick (v := .bool true) (by conv => lhs; whnf) (by exact rfl)) (by decide) ?_
        refine alP (some 20) rfl rfl (does_move (v := .bool true) (by exact rfl)) (by decide) ?_
        refine alS (some 21) rfl rfl (by decide) ?_
        refine alS (some 22) rfl rfl (by decide) ?_
        refine alP (some 23) rfl rfl (does_pick (v := .bool true) (by conv => lhs; whnf) (by exact rfl)) (by decide) ?_
        refine al_nil ?_
        obtain rfl := Option.some.inj h
        have h := hk5
        exact ⟨_, reb_lit [(0, .ptr 0 0 0), (1, .int .i64 a1), (4, .ptr 4 0 0), (23, .bool true)] [(0, 0), (4, 0)] [((0, 0), .box [.sl 1 (List.map enc5 a0.B), .bool a0.Bad]), ((4, 0), .box [.int .i64 0, .int .i64 0, .str (strOf []), .str (strOf []), .nil])] [(0, 1), (4, 1)] (envOk_cons (by conv => lhs; whnf) (by exact rfl) (envOk_cons (by conv => lhs; whnf) (by exact rfl) (envOk_cons (by conv => lhs; whnf) (by exact rfl) (envOk_cons (by conv => lhs; whnf) (by exact rfl) envOk_nil)))) (objOk_cons (by conv => lhs; whnf) (by conv => lhs; whnf) (by exact rfl) (by simp) (objOk_cons (by conv => lhs; whnf) (by conv => lhs; whnf) (by exact rfl) (by simp) objOk_nil)) (nodup_b rfl) (nodup_b rfl) rfl rfl, true, h, rfl⟩
      · have h := ifF c6 h
        refine alP (some 13) rfl rfl (does_move (v := .ptr 0 0 0) (by exact rfl)) (by decide) ?_
        refine alP (some 14) rfl rfl (does_nilCheck (p := .ptr 0 0 0) (by conv => lhs; whnf) rfl) (by decide) ?_
        refine alP (some 15) rfl rfl (does_fieldAddr (q := .ptr 0 0 0) (by conv => lhs; whnf) ty96 rfl ty43 (by decide) (by exact rfl)) (by decide) ?_
        refine alR (some 16) rfl rfl (does_load (v := .sl 1 (List.map enc5 a0.B)) (by conv => lhs; whnf) (by conv => lhs; whnf) ty43 (by exact rfl)) (by decide) ?_
        refine alP (some 17) rfl rfl ((does_len_sl (by conv => lhs; whnf) ty43).castp (v' := .int .i64 (List.length a0.B : Int)) (by exact len_map _)) (by decide) ?_
        refine alP (some 18) rfl rfl (does_bin (v := .bool ((List.length a0.B : Int) == 0)) (by conv => lhs; whnf) (by conv => lhs; whnf) rfl) (by decide) ?_
        refine alP (some 19) rfl rfl (does_pick (v := .bool ((List.length a0.B : Int) == 0)) (by conv => lhs; whnf) (by exact rfl)) (by decide) ?_
        refine alP (some 20) rfl rfl (does_move (v := .bool ((List.length a0.B : Int) == 0)) (by exact rfl)) (by decide) ?_
        refine al_bool (c := ((List.length a0.B : Int) == 0)) 20 rfl (fun c7 => ?_) (fun c7 => ?_)
        · have h := ifT c7 h
          refine alS (some 21) rfl rfl (by decide) ?_
          refine alS (some 22) rfl rfl (by decide) ?_
          refine alP (some 23) rfl rfl (does_pick (v := .bool true) (by conv => lhs; whnf) (by exact rfl)) (by decide) ?_
          refine al_nil ?_
          obtain rfl := Option.some.inj h
          have h := hk5
          exact ⟨_, reb_lit [(0, .ptr 0 0 0), (1, .int .i64 a1), (4, .ptr 4 0 0), (23, .bool true)] [(0, 0), (4, 0)] [((0, 0), .box [.sl 1 (List.map enc5 a0.B), .bool a0.Bad]), ((4, 0), .box [.int .i64 0, .int .i64 0, .str (strOf []), .str (strOf []), .nil])] [(0, 1), (4, 1)] (envOk_cons (by conv => lhs; whnf) (by exact rfl) (envOk_cons (by conv => lhs; whnf) (by exact rfl) (envOk_cons (by conv => lhs; whnf) (by exact rfl) (envOk_cons (by conv => lhs; whnf) (by exact rfl) envOk_nil)))) (objOk_cons (by conv => lhs; whnf) (by conv => lhs; whnf) (by exact rfl) (by simp) (objOk_cons (by conv => lhs; whnf) (by conv => lhs; whnf) (by exact rfl) (by simp) objOk_nil)) (nodup_b rfl) (nodup_b rfl) rfl rfl, true, h, rfl⟩
        · have h := ifF c7 h
          refine alP (some 21) rfl rfl (does_move (v := .int .i64 a1) (by exact rfl)) (by decide) ?_
          refine alP (some 22) rfl rfl (does_bin (v := .bool (a1 == 0)) (by conv => lhs; whnf) (by conv => lhs; whnf) rfl) (by decide) ?_
          refine alP (some 23) rfl rfl (does_pick (v := .bool (a1 == 0)) (by conv => lhs; whnf) (by exact rfl)) (by decide) ?_
          refine al_nil ?_
          obtain rfl := Option.some.inj h
          have h := hk5
          exact ⟨_, reb_lit [(0, .ptr 0 0 0), (1, .int .i64 a1), (4, .ptr 4 0 0), (23, .bool (a1 == 0))] [(0, 0), (4, 0)] [((0, 0), .box [.sl 1 (List.map enc5 a0.B), .bool a0.Bad]), ((4, 0), .box [.int .i64 0, .int .i64 0, .str (strOf []), .str (strOf []), .nil])] [(0, 1), (4, 1)] (envOk_cons (by conv => lhs; whnf) (by exact rfl) (envOk_cons (by conv => lhs; whnf) (by exact rfl) (envOk_cons (by conv => lhs; whnf) (by exact rfl) (envOk_cons (by conv => lhs; whnf) (by exact rfl) envOk_nil)))) (objOk_cons (by conv => lhs; whnf) (by conv => lhs; whnf) (by exact rfl) (by simp) (objOk_cons (by conv => lhs; whnf) (by conv => lhs; whnf) (by exact rfl) (by simp) objOk_nil)) (nodup_b rfl) (nodup_b rfl) rfl rfl, (a1 == 0), h, rfl⟩
    · rintro s ⟨v23_1, h, rfl⟩
      unfold gleaningref1_Reader_rule_b_k1 at h
      refine aw_bool (b := v23_1) 23 rfl (fun c8 => ?_) (fun c8 => ?_)
      · have h := ifT c8 h
        refine aw_cond_t (by decide) rfl ?_
        refine aw_seq_k (fun K9 hK9 => ?_)
        refine aw_regL ?_
        refine alP (some 24) rfl rfl (does_move (v := .ptr 0 0 0) (by exact rfl)) (by decide) ?_
        refine alP (some 25) rfl rfl (does_nilCheck (p := .ptr 0 0 0) (by conv => lhs; whnf) rfl) (by decide) ?_
        refine alP (some 26) rfl rfl (does_fieldAddr (q := .ptr 0 0 1) (by conv => lhs; whnf) ty96 rfl ty4 (by decide) (by exact rfl)) (by decide) ?_
        refine alD none rfl rfl (do_store (cs' := [.sl 1 (List.map enc5 a0.B), .bool true]) (by conv => lhs; whnf) (by conv => lhs; whnf) (by conv => lhs; whnf) ty4 rfl rfl rfl (by exact rfl)) (by decide) ?_
        refine al_nil ?_
        refine hK9 _ ?_
        refine aw_seq_k (fun K10 hK10 => ?_)
        refine aw_regL ?_
        refine alP (some 27) rfl rfl (do_build_struct (cs := [.int .i64 0, .int .i64 0, .str (strOf []), .str (strOf []), .nil]) ty24 rfl [⟨.int .i64, 1, 8, [.int .i64 0]⟩, ⟨.int .i64, 1, 8, [.int .i64 0]⟩, ⟨.str, 1, 16, [.str ByteArray.empty]⟩, ⟨.str, 1, 16, [.str ByteArray.empty]⟩, ⟨.slice 24, 1, 24, [.nil]⟩] (by simp only [List.map, ty22, ty3, ty9]) (by rfl) (by exact rfl)) (by decide) ?_
        refine alD none rfl rfl (do_store (cs' := [.int .i64 0, .int .i64 0, .str (strOf []), .str (strOf []), .nil]) (by conv => lhs; whnf) (by conv => lhs; whnf) (by conv => lhs; whnf) ty24 rfl rfl rfl (by exact rfl)) (by decide) ?_
        refine al_nil ?_
        refine hK10 _ ?_
        refine aw_reb (reb_w (tl' := [(4, .ptr 4 0 0)]) (ol' := [((0, 0), .box [.sl 1 (List.map enc5 a0.B), .bool true]), ((4, 0), .box [.int .i64 0, .int .i64 0, .str (strOf []), .str (strOf []), .sl 5 (List.map enc23 [])])]) (reb_lit [(4, .ptr 4 0 0)] [(0, 0), (4, 0)] [((0, 0), .box [.sl 1 (List.map enc5 a0.B), .bool true]), ((4, 0), .box [.int .i64 0, .int .i64 0, .str (strOf []), .str (strOf []), .nil])] [(0, 1), (4, 1)] (envOk_cons (by conv => lhs; whnf) (by exact rfl) envOk_nil) (objOk_cons (by conv => lhs; whnf) (by conv => lhs; whnf) (by exact rfl) (by simp) (objOk_cons (by conv => lhs; whnf) (by conv => lhs; whnf) (by exact rfl) (by simp) objOk_nil)) (nodup_b rfl) (nodup_b rfl) rfl rfl) ⟨rfl, le_refl _, trivial⟩ ⟨rfl, .rfl _, rfl, (.box ⟨le_refl _, le_refl _, le_refl _, le_refl _, le_nil _, trivial⟩), trivial⟩) ?_
        refine aw_ret ?_
        have h := leafR h hk3
        obtain rfl := Option.some.inj h
        exact ret_okB [] (by conv => lhs; whnf) (by conv => lhs; whnf) (by exact rfl) trivial (boxesOk_cons (by conv => lhs; whnf) (by conv => lhs; whnf) (by exact rfl) trivial) (nodup_b rfl) (.inr rfl) rfl
      · have h := ifF c8 h
        refine aw_cond_f (by decide) rfl ?_
        refine aw_skip ?_
        have h := leafL h hk3
        exact ⟨_, reb_lit [(0, .ptr 0 0 0), (1, .int .i64 a1), (4, .ptr 4 0 0)] [(0, 0), (4, 0)] [((0, 0), .box [.sl 1 (List.map enc5 a0.B), .bool a0.Bad]), ((4, 0), .box [.int .i64 0, .int .i64 0, .str (strOf []), .str (strOf []), .nil])] [(0, 1), (4, 1)] (envOk_cons (by conv => lhs; whnf) (by exact rfl) (envOk_cons (by conv => lhs; whnf) (by exact rfl) (envOk_cons (by conv => lhs; whnf) (by exact rfl) envOk_nil))) (objOk_cons (by conv => lhs; whnf) (by conv => lhs; whnf) (by exact rfl) (by simp) (objOk_cons (by conv => lhs; whnf) (by conv => lhs; whnf) (by exact rfl) (by simp) objOk_nil)) (nodup_b rfl) (nodup_b rfl) rfl rfl, h, rfl⟩
  · rintro s ⟨h, rfl⟩
    unfold gleaningref1_Reader_rule_b_k0 at h
    refine aw_seq_k (fun K11 hK11 => ?_)
    refine aw_regL ?_
    refine alP (some 28) rfl rfl (does_move (v := .ptr 0 0 0) (by exact rfl)) (by decide) ?_
    refine alP (some 29) rfl rfl (does_nilCheck (p := .ptr 0 0 0) (by conv => lhs; whnf) rfl) (by decide) ?_
    refine alP (some 30) rfl rfl (does_fieldAddr (q := .ptr 0 0 0) (by conv => lhs; whnf) ty96 rfl ty43 (by decide) (by exact rfl)) (by decide) ?_
    refine alR (some 31) rfl rfl (does_load (v := .sl 1 (List.map enc5 a0.B)) (by conv => lhs; whnf) (by conv => lhs; whnf) ty43 (by exact rfl)) (by decide) ?_
    obtain ⟨x12, hx12, h⟩ := bnd_some h
    refine alP (some 32) rfl rfl (does_indexAddr_sl (el := .int .u8 (x12.toNat : Int)) (by conv => lhs; whnf) (by conv => lhs; whnf) ty43 ty5 (by decide) (by exact map_get hx12)) (by decide) ?_
    refine alR (some 33) rfl rfl (does_load (v := .int .u8 (x12.toNat : Int)) (by conv => lhs; whnf) (by conv => lhs; whnf) ty5 (by exact rfl)) (by decide) ?_
    refine alP (some 34) rfl rfl (does_conv_int (v := .int .i64 (IntKind.i64.wrap (x12.toNat : Int))) (by conv => lhs; whnf) (ty_some ty5) (ty_int ty3) rfl) (by decide) ?_
    refine alP (some 35) rfl rfl (do_build_struct (cs := [.int .i64 (IntKind.i64.wrap (x12.toNat : Int)), .int .i64 0, .str (strOf []), .str (strOf []), .nil]) ty24 rfl [⟨.int .i64, 1, 8, [.int .i64 0]⟩, ⟨.int .i64, 1, 8, [.int .i64 0]⟩, ⟨.str, 1, 16, [.str ByteArray.empty]⟩, ⟨.str, 1, 16, [.str ByteArray.empty]⟩, ⟨.slice 24, 1, 24, [.nil]⟩] (by simp only [List.map, ty22, ty3, ty9]) (by rfl) (by exact rfl)) (by decide) ?_
    refine alD (some 5) rfl rfl (do_new ty24 rfl rfl) (by decide) ?_
    refine alD none rfl rfl (do_store (cs' := [.int .i64 (IntKind.i64.wrap (x12.toNat : Int)), .int .i64 0, .str (strOf []), .str (strOf []), .nil]) (by conv => lhs; whnf) (by conv => lhs; whnf) (by conv => lhs; whnf) ty24 rfl rfl rfl (by exact rfl)) (by decide) ?_
    refine al_nil ?_
    refine hK11 _ ?_
    refine aw_seq_k (fun K13 hK13 => ?_)
    refine aw_regL ?_
    refine alP (some 36) rfl rfl (does_move (v := .ptr 0 0 0) (by exact rfl)) (by decide) ?_
    refine alP (some 37) rfl rfl (does_move (v := .ptr 0 0 0) (by exact rfl)) (by decide) ?_
    refine alP (some 38) rfl rfl (does_nilCheck (p := .ptr 0 0 0) (by conv => lhs; whnf) rfl) (by decide) ?_
    refine alP (some 39) rfl rfl (does_fieldAddr (q := .ptr 0 0 0) (by conv => lhs; whnf) ty96 rfl ty43 (by decide) (by exact rfl)) (by decide) ?_
    refine alR (some 40) rfl rfl (does_load (v := .sl 1 (List.map enc5 a0.B)) (by conv => lhs; whnf) (by conv => lhs; whnf) ty43 (by exact rfl)) (by decide) ?_
    obtain ⟨g14, h⟩ := gd_some h
    refine alP (some 41) rfl rfl (does_slice_sl (l := 1) (by conv => lhs; whnf) ty43 ty5 (bd_some (by conv => lhs; whnf) (by exact rfl)) bd_none (by (try simp only [List.length_map]); omega) (by (try simp only [List.length_map]); omega) (by exact part_l _ _)) (by decide) ?_
    refine alP (some 42) rfl rfl (does_nilCheck (p := .ptr 0 0 0) (by conv => lhs; whnf) rfl) (by decide) ?_
    refine alP (some 43) rfl rfl (does_fieldAddr (q := .ptr 0 0 0) (by conv => lhs; whnf) ty96 rfl ty43 (by decide) (by exact rfl)) (by decide) ?_
    refine alD none rfl rfl (do_store (cs' := [.sl 1 (List.map enc5 (List.drop 1 a0.B)), .bool a0.Bad]) (by conv => lhs; whnf) (by conv => lhs; whnf) (by conv => lhs; whnf) ty43 rfl rfl rfl (by exact rfl)) (by decide) ?_
    refine al_nil ?_
    refine hK13 _ ?_
    refine aw_seq_k (fun K15 hK15 => ?_)
    refine aw_seq_k (fun K16 hK16 => ?_)
    refine aw_regL ?_
    refine alP (some 44) rfl rfl (does_fieldAddr (q := .ptr 5 0 0) (by conv => lhs; whnf) ty24 rfl ty3 (by decide) (by exact rfl)) (by decide) ?_
    refine alR (some 45) rfl rfl (does_load (v := .int .i64 (IntKind.i64.wrap (x12.toNat : Int))) (by conv => lhs; whnf) (by conv => lhs; whnf) ty3 (by exact rfl)) (by decide) ?_
    refine al_nil ?_
    refine hK16 _ ?_
    refine aw_block ?_
    obtain ⟨q17, h, hk18⟩ := bnd_some h
    refine aw_cut (fun s => ∃ (v49_2 : Bool), gleaningref1_Reader_rule_b_k2 K a0 a1 x12 v49_2 = some r ∧ s = lit [(0, .ptr 0 0 0), (1, .int .i64 a1), (4, .ptr 4 0 0), (5, .ptr 5 0 0), (45, .int .i64 (IntKind.i64.wrap (x12.toNat : Int))), (49, .bool v49_2)] [((0, 0), .box [.sl 1 (List.map enc5 (List.drop 1 a0.B)), .bool a0.Bad]), ((4, 0), .box [.int .i64 0, .int .i64 0, .str (strOf []), .str (strOf []), .nil]), ((5, 0), .box [.int .i64 (IntKind.i64.wrap (x12.toNat : Int)), .int .i64 0, .str (strOf []), .str (strOf []), .nil])] [(0, 1), (4, 1), (5, 1)] X) ?_ ?_
    · skip
      refine aw_seq_k (fun K19 hK19 => ?_)
      refine aw_regL ?_
      refine alP (some 50) rfl rfl (does_bin (v := .bool ((IntKind.i64.wrap (x12.toNat : Int)) == 1)) (by conv => lhs; whnf) (by conv => lhs; whnf) rfl) (by decide) ?_
      refine alP (some 49) rfl rfl (does_assign (v := .bool ((IntKind.i64.wrap (x12.toNat : Int)) == 1)) (by exact rfl)) (by decide) ?_
      refine al_nil ?_
      refine hK19 _ ?_
      refine aw_bool (b := ((IntKind.i64.wrap (x12.toNat : Int)) == 1)) 49 rfl (fun c20 => ?_) (fun c20 => ?_)
      · have h := ifT c20 h
        refine aw_cond_t (by decide) rfl ?_
        refine aw_skip ?_
        obtain rfl := Option.some.inj h
        have h := hk18
        exact ⟨_, reb_lit [(0, .ptr 0 0 0), (1, .int .i64 a1), (4, .ptr 4 0 0), (5, .ptr 5 0 0), (45, .int .i64 (IntKind.i64.wrap (x12.toNat : Int))), (49, .bool true)] [(0, 0), (4, 0), (5, 0)] [((0, 0), .box [.sl 1 (List.map enc5 (List.drop 1 a0.B)), .bool a0.Bad]), ((4, 0), .box [.int .i64 0, .int .i64 0, .str (strOf []), .str (strOf []), .nil]), ((5, 0), .box [.int .i64 (IntKind.i64.wrap (x12.toNat : Int)), .int .i64 0, .str (strOf []), .str (strOf []), .nil])] [(0, 1), (4, 1), (5, 1)] (envOk_cons (by conv => lhs; whnf) (by exact rfl) (envOk_cons (by conv => lhs; whnf) (by exact rfl) (envOk_cons (by conv => lhs; whnf) (by exact rfl) (envOk_cons (by conv => lhs; whnf) (by exact rfl) (envOk_cons (by conv => lhs; whnf) (by exact rfl) (envOk_cons (by conv => lhs; whnf) (by exact rfl) envOk_nil)))))) (objOk_cons (by conv => lhs; whnf) (by conv => lhs; whnf) (by exact rfl) (by simp) (objOk_cons (by conv => lhs; whnf) (by conv => lhs; whnf) (by exact rfl) (by simp) (objOk_cons (by conv => lhs; whnf) (by conv => lhs; whnf) (by exact rfl) (by simp) objOk_nil))) (nodup_b rfl) (nodup_b rfl) rfl rfl, true, h, rfl⟩
      · have h := ifF c20 h
        refine aw_cond_f (by decide) rfl ?_
        refine aw_seq_k (fun K21 hK21 => ?_)
        refine aw_regL ?_
        refine alP (some 51) rfl rfl (does_bin (v := .bool ((IntKind.i64.wrap (x12.toNat : Int)) == 2)) (by conv => lhs; whnf) (by conv => lhs; whnf) rfl) (by decide) ?_
        refine alP (some 49) rfl rfl (does_assign (v := .bool ((IntKind.i64.wrap (x12.toNat : Int)) == 2)) (by exact rfl)) (by decide) ?_
        refine al_nil ?_
        refine hK21 _ ?_
        refine aw_bool (b := ((IntKind.i64.wrap (x12.toNat : Int)) == 2)) 49 rfl (fun c22 => ?_) (fun c22 => ?_)
        · have h := ifT c22 h
          refine aw_cond_t (by decide) rfl ?_
          refine aw_skip ?_
          obtain rfl := Option.some.inj h
          have h := hk18
          exact ⟨_, reb_lit [(0, .ptr 0 0 0), (1, .int .i64 a1), (4, .ptr 4 0 0), (5, .ptr 5 0 0), (45, .int .i64 (IntKind.i64.wrap (x12.toNat : Int))), (49, .bool true)] [(0, 0), (4, 0), (5, 0)] [((0, 0), .box [.sl 1 (List.map enc5 (List.drop 1 a0.B)), .bool a0.Bad]), ((4, 0), .box [.int .i64 0, .int .i64 0, .str (strOf []), .str (strOf []), .nil]), ((5, 0), .box [.int .i64 (IntKind.i64.wrap (x12.toNat : Int)), .int .i64 0, .str (strOf []), .str (strOf []), .nil])] [(0, 1), (4, 1), (5, 1)] (envOk_cons (by conv => lhs; whnf) (by exact rfl) (envOk_cons (by conv => lhs; whnf) (by exact rfl) (envOk_cons (by conv => lhs; whnf) (by exact rfl) (envOk_cons (by conv => lhs; whnf) (by exact rfl) (envOk_cons (by conv => lhs; whnf) (by exact rfl) (envOk_cons (by conv => lhs; whnf) (by exact rfl) envOk_nil)))))) (objOk_cons (by conv => lhs; whnf) (by conv => lhs; whnf) (by exact rfl) (by simp) (objOk_cons (by conv => lhs; whnf) (by conv => lhs; whnf) (by exact rfl) (by simp) (objOk_cons (by conv => lhs; whnf) (by conv => lhs; whnf) (by exact rfl) (by simp) objOk_nil))) (nodup_b rfl) (nodup_b rfl) rfl rfl, true, h, rfl⟩
        · have h := ifF c22 h
          refine aw_cond_f (by decide) rfl ?_
          refine aw_regL ?_
          refine alP (some 52) rfl rfl (does_bin (v := .bool ((IntKind.i64.wrap (x12.toNat : Int)) == 3)) (by conv => lhs; whnf) (by conv => lhs; whnf) rfl) (by decide) ?_
          refine alP (some 49) rfl rfl (does_assign (v := .bool ((IntKind.i64.wrap (x12.toNat : Int)) == 3)) (by exact rfl)) (by decide) ?_
          refine al_nil ?_
          obtain rfl := Option.some.inj h
          have h := hk18
          exact ⟨_, reb_lit [(0, .ptr 0 0 0), (1, .int .i64 a1), (4, .ptr 4 0 0), (5, .ptr 5 0 0), (45, .int .i64 (IntKind.i64.wrap (x12.toNat : Int))), (49, .bool ((IntKind.i64.wrap (x12.toNat : Int)) == 3))] [(0, 0), (4, 0), (5, 0)] [((0, 0), .box [.sl 1 (List.map enc5 (List.drop 1 a0.B)), .bool a0.Bad]), ((4, 0), .box [.int .i64 0, .int .i64 0, .str (strOf []), .str (strOf []), .nil]), ((5, 0), .box [.int .i64 (IntKind.i64.wrap (x12.toNat : Int)), .int .i64 0, .str (strOf []), .str (strOf []), .nil])] [(0, 1), (4, 1), (5, 1)] (envOk_cons (by conv => lhs; whnf) (by exact rfl) (envOk_cons (by conv => lhs; whnf) (by exact rfl) (envOk_cons (by conv => lhs; whnf) (by exact rfl) (envOk_cons (by conv => lhs; whnf) (by exact rfl) (envOk_cons (by conv => lhs; whnf) (by exact rfl) (envOk_cons (by conv => lhs; whnf) (by exact rfl) envOk_nil)))))) (objOk_cons (by conv => lhs; whnf) (by conv => lhs; whnf) (by exact rfl) (by simp) (objOk_cons (by conv => lhs; whnf) (by conv => lhs; whnf) (by exact rfl) (by simp) (objOk_cons (by conv => lhs; whnf) (by conv => lhs; whnf) (by exact rfl) (by simp) objOk_nil))) (nodup_b rfl) (nodup_b rfl) rfl rfl, ((IntKind.i64.wrap (x12.toNat : Int)) == 3), h, rfl⟩
    · rintro s ⟨v49_2, h, rfl⟩
      unfold gleaningref1_Reader_rule_b_k2 at h
      refine aw_bool (b := v49_2) 49 rfl (fun c23 => ?_) (fun c23 => ?_)
      · have h := ifT c23 h
        refine aw_cond_t (by decide) rfl ?_
        refine aw_seq_k (fun K24 hK24 => ?_)
        refine aw_regL ?_
        refine alP (some 53) rfl rfl (does_move (v := .ptr 0 0 0) (by exact rfl)) (by decide) ?_
        obtain ⟨x25, hx25, h⟩ := bnd_some h
        refine alD (some 54) rfl rfl (do_callG (bcs := [[.sl 1 (List.map enc5 (List.drop 1 a0.B)), .bool a0.Bad]]) [(0, 0)] [] [] 54 false (gleaningref1_Reader_Int_ok (Reader.mk (List.drop 1 a0.B) a0.Bad) 20 hx25) rfl ent82 ⟨(by exact rfl), trivial⟩ trivial rfl rfl rfl rfl rfl rfl rfl rfl (.inl trivial)) (by decide) ?_
        refine alP (some 6) rfl rfl (does_assign (v := .int .i64 x25.1) (by exact rfl)) (by decide) ?_
        refine al_nil ?_
        refine hK24 _ ?_
        refine aw_seq_k (fun K26 hK26 => ?_)
        refine aw_regL ?_
        refine alP (some 7) rfl rfl (does_assign (v := .int .i64 0) (by exact rfl)) (by decide) ?_
        refine al_nil ?_
        refine hK26 _ ?_
        refine aw_block ?_
        refine aw_nilOwnC 5 0 4 5 24 5 (cs := [.int .i64 (IntKind.i64.wrap (x12.toNat : Int)), .int .i64 0, .str (strOf []), .str (strOf []), .nil]) (by conv => lhs; whnf) rfl (by decide) ?_
        refine aw_loop' (fun m s => ∃ (vb0_s_0_3 : List UInt8), ∃ (vb0_s_1_3 : Bool), ∃ (v5_s_4_s_3 : List Rule), ∃ (v7_3 : Int), loopN (fun (s : List UInt8 × Bool × List Rule × Int) => gleaningref1_Reader_rule_b_l3 K a1 x12 x25 s.1 s.2.1 s.2.2.1 s.2.2.2) m (vb0_s_0_3, vb0_s_1_3, v5_s_4_s_3, v7_3) = some r ∧ s = lit [(0, .ptr 0 0 0), (1, .int .i64 a1), (4, .ptr 4 0 0), (5, .ptr 5 0 0), (6, .int .i64 x25.1), (7, .int .i64 v7_3)] [((0, 0), .box [.sl 1 (List.map enc5 vb0_s_0_3), .bool vb0_s_1_3]), ((4, 0), .box [.int .i64 0, .int .i64 0, .str (strOf []), .str (strOf []), .nil]), ((5, 0), .box [.int .i64 (IntKind.i64.wrap (x12.toNat : Int)), .int .i64 0, .str (strOf []), .str (strOf []), .own 5 1]), ((5, 1), .arr 24 5 false (List.map enc23 v5_s_4_s_3))] [(0, 1), (4, 1), (5, 2)] X) Fu
          ⟨_, reb_lit [(0, .ptr 0 0 0), (1, .int .i64 a1), (4, .ptr 4 0 0), (5, .ptr 5 0 0), (6, .int .i64 x25.1), (7, .int .i64 (0))] [(0, 0), (4, 0), (5, 0), (5, 1)] [((0, 0), .box [.sl 1 (List.map enc5 x25.2.B), .bool x25.2.Bad]), ((4, 0), .box [.int .i64 0, .int .i64 0, .str (strOf []), .str (strOf []), .nil]), ((5, 0), .box [.int .i64 (IntKind.i64.wrap (x12.toNat : Int)), .int .i64 0, .str (strOf []), .str (strOf []), .own 5 1]), ((5, 1), .arr 24 5 false (List.map enc23 []))] [(0, 1), (4, 1), (5, 2)] (envOk_cons (by conv => lhs; whnf) (by exact rfl) (envOk_cons (by conv => lhs; whnf) (by exact rfl) (envOk_cons (by conv => lhs; whnf) (by exact rfl) (envOk_cons (by conv => lhs; whnf) (by exact rfl) (envOk_cons (by conv => lhs; whnf) (by exact rfl) (envOk_cons (by conv => lhs; whnf) (by exact rfl) envOk_nil)))))) (objOk_cons (by conv => lhs; whnf) (by conv => lhs; whnf) (by exact rfl) (by simp) (objOk_cons (by conv => lhs; whnf) (by conv => lhs; whnf) (by exact rfl) (by simp) (objOk_cons (by conv => lhs; whnf) (by conv => lhs; whnf) (by exact rfl) (by simp) (objOk_cons (by conv => lhs; whnf) (by conv => lhs; whnf) (by exact rfl) (by simp) objOk_nil)))) (nodup_b rfl) (nodup_b rfl) rfl rfl, x25.2.B, x25.2.Bad, [], 0, h, rfl⟩ ?_
        rintro m s ⟨vb0_s_0_3, vb0_s_1_3, v5_s_4_s_3, v7_3, h, rfl⟩
        obtain ⟨m3, q27, rfl, h, hq28⟩ := loop_some h
        replace h : gleaningref1_Reader_rule_b_l3 K a1 x12 x25 vb0_s_0_3 vb0_s_1_3 v5_s_4_s_3 v7_3 = some q27 := h
        unfold gleaningref1_Reader_rule_b_l3 at h
        obtain ⟨q29, h, hk30⟩ := bnd_some h
        refine aw_cut (fun s => gleaningref1_Reader_rule_b_k4 K a1 vb0_s_0_3 vb0_s_1_3 v5_s_4_s_3 v7_3 = some q27 ∧ s = lit [(0, .ptr 0 0 0), (1, .int .i64 a1), (4, .ptr 4 0 0), (5, .ptr 5 0 0), (6, .int .i64 x25.1), (7, .int .i64 v7_3)] [((0, 0), .box [.sl 1 (List.map enc5 vb0_s_0_3), .bool vb0_s_1_3]), ((4, 0), .box [.int .i64 0, .int .i64 0, .str (strOf []), .str (strOf []), .nil]), ((5, 0), .box [.int .i64 (IntKind.i64.wrap (x12.toNat : Int)), .int .i64 0, .str (strOf []), .str (strOf []), .own 5 1]), ((5, 1), .arr 24 5 false (List.map enc23 v5_s_4_s_3))] [(0, 1), (4, 1), (5, 2)] X) ?_ ?_
        · skip
          refine aw_seq_k (fun K31 hK31 => ?_)
          refine aw_regL ?_
          refine alP (some 55) rfl rfl (does_move (v := .int .i64 v7_3) (by exact rfl)) (by decide) ?_
          refine alP (some 56) rfl rfl (does_move (v := .int .i64 x25.1) (by exact rfl)) (by decide) ?_
          refine alP (some 57) rfl rfl (does_bin (v := .bool (decide (v7_3 < x25.1))) (by conv => lhs; whnf) (by conv => lhs; whnf) rfl) (by decide) ?_
          refine alP (some 58) rfl rfl (does_move (v := .bool (decide (v7_3 < x25.1))) (by exact rfl)) (by decide) ?_
          refine al_bool (c := (decide (v7_3 < x25.1))) 58 rfl (fun c32 => ?_) (fun c32 => ?_)
          · have h := ifT c32 h
            refine alP (some 59) rfl rfl (does_move (v := .ptr 0 0 0) (by exact rfl)) (by decide) ?_
            refine alP (some 60) rfl rfl (does_nilCheck (p := .ptr 0 0 0) (by conv => lhs; whnf) rfl) (by decide) ?_
            refine alP (some 61) rfl rfl (does_fieldAddr (q := .ptr 0 0 1) (by conv => lhs; whnf) ty96 rfl ty4 (by decide) (by exact rfl)) (by decide) ?_
            refine alR (some 62) rfl rfl (does_load (v := .bool vb0_s_1_3) (by conv => lhs; whnf) (by conv => lhs; whnf) ty4 (by exact rfl)) (by decide) ?_
            refine alP (some 63) rfl rfl (does_un (v := .bool (!vb0_s_1_3)) (by conv => lhs; whnf) rfl) (by decide) ?_
            refine alP (some 64) rfl rfl (does_pick (v := .bool (!vb0_s_1_3)) (by conv => lhs; whnf) (by exact rfl)) (by decide) ?_
            refine al_nil ?_
            refine hK31 _ ?_
            refine aw_bool (b := (!vb0_s_1_3)) 64 rfl (fun c33 => ?_) (fun c33 => ?_)
            · have h := ifT c33 h
              refine aw_cond_t (by decide) rfl ?_
              refine aw_skip ?_
              have h := leafL h hk30
              exact ⟨_, reb_lit [(0, .ptr 0 0 0), (1, .int .i64 a1), (4, .ptr 4 0 0), (5, .ptr 5 0 0), (6, .int .i64 x25.1), (7, .int .i64 v7_3)] [(0, 0), (4, 0), (5, 0), (5, 1)] [((0, 0), .box [.sl 1 (List.map enc5 vb0_s_0_3), .bool vb0_s_1_3]), ((4, 0), .box [.int .i64 0, .int .i64 0, .str (strOf []), .str (strOf []), .nil]), ((5, 0), .box [.int .i64 (IntKind.i64.wrap (x12.toNat : Int)), .int .i64 0, .str (strOf []), .str (strOf []), .own 5 1]), ((5, 1), .arr 24 5 false (List.map enc23 v5_s_4_s_3))] [(0, 1), (4, 1), (5, 2)] (envOk_cons (by conv => lhs; whnf) (by exact rfl) (envOk_cons (by conv => lhs; whnf) (by exact rfl) (envOk_cons (by conv => lhs; whnf) (by exact rfl) (envOk_cons (by conv => lhs; whnf) (by exact rfl) (envOk_cons (by conv => lhs; whnf) (by exact rfl) (envOk_cons (by conv => lhs; whnf) (by exact rfl) envOk_nil)))))) (objOk_cons (by conv => lhs; whnf) (by conv => lhs; whnf) (by exact rfl) (by simp) (objOk_cons (by conv => lhs; whnf) (by conv => lhs; whnf) (by exact rfl) (by simp) (objOk_cons (by conv => lhs; whnf) (by conv => lhs; whnf) (by exact rfl) (by simp) (objOk_cons (by conv => lhs; whnf) (by conv => lhs; whnf) (by exact rfl) (by simp) objOk_nil)))) (nodup_b rfl) (nodup_b rfl) rfl rfl, h, rfl⟩
            · have h := ifF c33 h
              refine aw_cond_f (by decide) rfl ?_
              refine aw_exit ?_
              have h := leafR h hk30
              have h := leafR h hq28
              refine hK15 _ ?_
              refine aw_seq_k (fun K34 hK34 => ?_)
              refine aw_regL ?_
              refine alR (some 94) rfl rfl (does_load (v := .agg [.int .i64 (IntKind.i64.wrap (x12.toNat : Int)), .int .i64 0, .str (strOf []), .str (strOf []), .own 5 1]) (by conv => lhs; whnf) (by conv => lhs; whnf) ty24 (by exact rfl)) (by decide) ?_
              refine alD none rfl rfl (do_store (cs' := [.int .i64 (IntKind.i64.wrap (x12.toNat : Int)), .int .i64 0, .str (strOf []), .str (strOf []), .own 5 1]) (by conv => lhs; whnf) (by conv => lhs; whnf) (by conv => lhs; whnf) ty24 rfl rfl rfl (by exact rfl)) (by decide) ?_
              refine al_nil ?_
              refine hK34 _ ?_
              refine aw_ret ?_
              obtain rfl := Option.some.inj h
              exact ret_okB [] (by conv => lhs; whnf) (by conv => lhs; whnf) (by exact rfl) trivial (boxesOk_cons (by conv => lhs; whnf) (by conv => lhs; whnf) (by exact rfl) trivial) (nodup_b rfl) (.inr rfl) rfl
          · have h := ifF c32 h
            refine alS (some 59) rfl rfl (by decide) ?_
            refine alS (some 60) rfl rfl (by decide) ?_
            refine alS (some 61) rfl rfl (by decide) ?_
            refine alS (some 62) rfl rfl (by decide) ?_
            refine alS (some 63) rfl rfl (by decide) ?_
            refine alP (some 64) rfl rfl (does_pick (v := .bool false) (by conv => lhs; whnf) (by exact rfl)) (by decide) ?_
            refine al_nil ?_
            refine hK31 _ ?_
            refine aw_cond_f (by decide) rfl ?_
            refine aw_exit ?_
            have h := leafR h hk30
            have h := leafR h hq28
            refine hK15 _ ?_
            refine aw_seq_k (fun K35 hK35 => ?_)
            refine aw_regL ?_
            refine alR (some 94) rfl rfl (does_load (v := .agg [.int .i64 (IntKind.i64.wrap (x12.toNat : Int)), .int .i64 0, .str (strOf []), .str (strOf []), .own 5 1]) (by conv => lhs; whnf) (by conv => lhs; whnf) ty24 (by exact rfl)) (by decide) ?_
            refine alD none rfl rfl (do_store (cs' := [.int .i64 (IntKind.i64.wrap (x12.toNat : Int)), .int .i64 0, .str (strOf []), .str (strOf []), .own 5 1]) (by conv => lhs; whnf) (by conv => lhs; whnf) (by conv => lhs; whnf) ty24 rfl rfl rfl (by exact rfl)) (by decide) ?_
            refine al_nil ?_
            refine hK35 _ ?_
            refine aw_ret ?_
            obtain rfl := Option.some.inj h
            exact ret_okB [] (by conv => lhs; whnf) (by conv => lhs; whnf) (by exact rfl) trivial (boxesOk_cons (by conv => lhs; whnf) (by conv => lhs; whnf) (by exact rfl) trivial) (nodup_b rfl) (.inr rfl) rfl
        · rintro s ⟨h, rfl⟩
          unfold gleaningref1_Reader_rule_b_k4 at h
          refine aw_seq_k (fun K36 hK36 => ?_)
          refine aw_block ?_
          refine aw_regd (by kernel_rfl) (by decide +kernel) ?_
          refine aoP (some 67) rfl rfl (does_fieldAddr (q := .ptr 5 0 4) (by conv => lhs; whnf) ty24 rfl ty22 (by decide) (by exact rfl)) (by decide) ?_
          refine aoR (some 68) rfl rfl (does_load (v := .own 5 1) (by conv => lhs; whnf) (by conv => lhs; whnf) ty22 (by exact rfl)) (by decide) ?_
          refine aoP (some 69) rfl rfl (does_move (v := .ptr 0 0 0) (by exact rfl)) (by decide) ?_
          refine aoP (some 70) rfl rfl (does_move (v := .int .i64 a1) (by exact rfl)) (by decide) ?_
          refine aoP (some 71) rfl rfl (does_bin (v := .int .i64 (IntKind.i64.wrap (a1 - 1))) (by conv => lhs; whnf) (by conv => lhs; whnf) rfl) (by decide) ?_
          obtain ⟨x37, hx37, h⟩ := bnd_some h
          refine aoD (some 72) rfl rfl (do_callG (bcs := [[.sl 1 (List.map enc5 vb0_s_0_3), .bool vb0_s_1_3]]) [(0, 0)] [] [] 72 false (hK (Reader.mk vb0_s_0_3 vb0_s_1_3) (IntKind.i64.wrap (a1 - 1)) hx37) rfl ent74 ⟨(by exact rfl), trivial⟩ trivial rfl rfl rfl rfl rfl rfl rfl rfl (.inl trivial)) (by decide) ?_
          refine aoD (some 73) rfl rfl (do_buildSliceE (f := enc23) (ls := [x37.1]) (xs := [.agg [.int .i64 x37.1.Kind, .int .i64 x37.1.N, .str x37.1.Key, .str x37.1.Value, .sl 5 (List.map enc23 x37.1.Kids)]]) (map_consE (enc23_eq _) rfl) ty22 ty24 rfl rfl rfl rfl rfl rfl rfl rfl) (by decide) ?_
          obtain ⟨g38, h⟩ := gd_some h
          refine aoD (some 74) rfl rfl (do_append (v := List.map enc23 (v5_s_4_s_3 ++ [x37.1])) (by conv => lhs; whnf) (by conv => lhs; whnf) ty22 ty24 rfl rfl (by conv => lhs; whnf) (by first | exact .inl rfl | exact .inr ⟨rfl, rfl⟩) (by conv => lhs; whnf) (by first | exact .inr rfl | exact .inl rfl) (map_app _ _) (fit_map g38)) (by decide) ?_
          refine aoP (some 75) rfl rfl (does_fieldAddr (q := .ptr 5 0 4) (by conv => lhs; whnf) ty24 rfl ty22 (by decide) (by exact rfl)) (by decide) ?_
          refine aoD none rfl rfl (do_store (cs' := [.int .i64 (IntKind.i64.wrap (x12.toNat : Int)), .int .i64 0, .str (strOf []), .str (strOf []), .own 74 0]) (by conv => lhs; whnf) (by conv => lhs; whnf) (by conv => lhs; whnf) ty22 rfl rfl rfl (by exact rfl)) (by decide) ?_
          refine ao_nil_d (by kernel_rfl) ?_
          refine hK36 _ ?_
          refine aw_regL ?_
          refine alP (some 65) rfl rfl (does_move (v := .int .i64 v7_3) (by exact rfl)) (by decide) ?_
          refine alP (some 66) rfl rfl (does_bin (v := .int .i64 (IntKind.i64.wrap (v7_3 + 1))) (by conv => lhs; whnf) (by conv => lhs; whnf) rfl) (by decide) ?_
          refine alP (some 7) rfl rfl (does_assign (v := .int .i64 (IntKind.i64.wrap (v7_3 + 1))) (by exact rfl)) (by decide) ?_
          refine al_nil ?_
          have h := leafL h hq28
          exact ⟨m3, Nat.lt_succ_self _, _, reb_lit [(0, .ptr 0 0 0), (1, .int .i64 a1), (4, .ptr 4 0 0), (5, .ptr 5 0 0), (6, .int .i64 x25.1), (7, .int .i64 (IntKind.i64.wrap (v7_3 + 1)))] [(0, 0), (4, 0), (5, 0), (74, 0)] [((0, 0), .box [.sl 1 (List.map enc5 x37.2.B), .bool x37.2.Bad]), ((4, 0), .box [.int .i64 0, .int .i64 0, .str (strOf []), .str (strOf []), .nil]), ((5, 0), .box [.int .i64 (IntKind.i64.wrap (x12.toNat : Int)), .int .i64 0, .str (strOf []), .str (strOf []), .own 5 1]), ((5, 1), .arr 24 5 false (List.map enc23 (v5_s_4_s_3 ++ [x37.1])))] [(0, 1), (4, 1), (5, 2)] (envOk_cons (by conv => lhs; whnf) (by exact rfl) (envOk_cons (by conv => lhs; whnf) (by exact rfl) (envOk_cons (by conv => lhs; whnf) (by exact rfl) (envOk_cons (by conv => lhs; whnf) (by exact rfl) (envOk_cons (by conv => lhs; whnf) (by exact rfl) (envOk_cons (by conv => lhs; whnf) (by exact rfl) envOk_nil)))))) (objOk_cons (by conv => lhs; whnf) (by conv => lhs; whnf) (by exact rfl) (by simp) (objOk_cons (by conv => lhs; whnf) (by conv => lhs; whnf) (by exact rfl) (by simp) (objOk_cons (by conv => lhs; whnf) (by conv => lhs; whnf) (by exact rfl) (by simp) (objOk_cons (by conv => lhs; whnf) (by conv => lhs; whnf) (by exact rfl) (by simp) objOk_nil)))) (nodup_b rfl) (nodup_b rfl) rfl rfl, x37.2.B, x37.2.Bad, (v5_s_4_s_3 ++ [x37.1]), (IntKind.i64.wrap (v7_3 + 1)), h, rfl⟩
      · have h := ifF c23 h
        refine aw_cond_f (by decide) rfl ?_
        refine aw_seq_k (fun K39 hK39 => ?_)
        refine aw_regL ?_
        refine alP (some 77) rfl rfl (does_bin (v := .bool ((IntKind.i64.wrap (x12.toNat : Int)) == 6)) (by conv => lhs; whnf) (by conv => lhs; whnf) rfl) (by decide) ?_
        refine alP (some 76) rfl rfl (does_assign (v := .bool ((IntKind.i64.wrap (x12.toNat : Int)) == 6)) (by exact rfl)) (by decide) ?_
        refine al_nil ?_
        refine hK39 _ ?_
        refine aw_bool (b := ((IntKind.i64.wrap (x12.toNat : Int)) == 6)) 76 rfl (fun c40 => ?_) (fun c40 => ?_)
        · have h := ifT c40 h
          refine aw_cond_t (by decide) rfl ?_
          refine aw_seq_k (fun K41 hK41 => ?_)
          refine aw_regL ?_
          refine alP (some 78) rfl rfl (does_move (v := .ptr 0 0 0) (by exact rfl)) (by decide) ?_
          obtain ⟨x42, hx42, h⟩ := bnd_some h
          refine alD (some 79) rfl rfl (do_callG (bcs := [[.sl 1 (List.map enc5 (List.drop 1 a0.B)), .bool a0.Bad]]) [(0, 0)] [] [] 79 false (gleaningref1_Reader_Text_ok (Reader.mk (List.drop 1 a0.B) a0.Bad) hx42) rfl ent105 ⟨(by exact rfl), trivial⟩ trivial rfl rfl rfl rfl rfl rfl rfl rfl (.inl trivial)) (by decide) ?_
          refine alP (some 80) rfl rfl (does_fieldAddr (q := .ptr 5 0 2) (by conv => lhs; whnf) ty24 rfl ty9 (by decide) (by exact rfl)) (by decide) ?_
          refine alD none rfl rfl (do_store (cs' := [.int .i64 (IntKind.i64.wrap (x12.toNat : Int)), .int .i64 0, .str x42.1, .str (strOf []), .nil]) (by conv => lhs; whnf) (by conv => lhs; whnf) (by conv => lhs; whnf) ty9 rfl rfl rfl (by exact rfl)) (by decide) ?_
          refine al_nil ?_
          refine hK41 _ ?_
          refine aw_regL ?_
          refine alP (some 81) rfl rfl (does_move (v := .ptr 0 0 0) (by exact rfl)) (by decide) ?_
          obtain ⟨x43, hx43, h⟩ := bnd_some h
          refine alD (some 82) rfl rfl (do_callG (bcs := [[.sl 1 (List.map enc5 x42.2.B), .bool x42.2.Bad]]) [(0, 0)] [] [] 82 false (gleaningref1_Reader_Text_ok x42.2 hx43) rfl ent105 ⟨(by exact rfl), trivial⟩ trivial rfl rfl rfl rfl rfl rfl rfl rfl (.inl trivial)) (by decide) ?_
          refine alP (some 83) rfl rfl (does_fieldAddr (q := .ptr 5 0 3) (by conv => lhs; whnf) ty24 rfl ty9 (by decide) (by exact rfl)) (by decide) ?_
          refine alD none rfl rfl (do_store (cs' := [.int .i64 (IntKind.i64.wrap (x12.toNat : Int)), .int .i64 0, .str x42.1, .str x43.1, .nil]) (by conv => lhs; whnf) (by conv => lhs; whnf) (by conv => lhs; whnf) ty9 rfl rfl rfl (by exact rfl)) (by decide) ?_
          refine al_nil ?_
          refine hK15 _ ?_
          refine aw_seq_k (fun K44 hK44 => ?_)
          refine aw_regL ?_
          refine alR (some 94) rfl rfl (does_load (v := .agg [.int .i64 (IntKind.i64.wrap (x12.toNat : Int)), .int .i64 0, .str x42.1, .str x43.1, .nil]) (by conv => lhs; whnf) (by conv => lhs; whnf) ty24 (by exact rfl)) (by decide) ?_
          refine alD none rfl rfl (do_store (cs' := [.int .i64 (IntKind.i64.wrap (x12.toNat : Int)), .int .i64 0, .str x42.1, .str x43.1, .nil]) (by conv => lhs; whnf) (by conv => lhs; whnf) (by conv => lhs; whnf) ty24 rfl rfl rfl (by exact rfl)) (by decide) ?_
          refine al_nil ?_
          refine hK44 _ ?_
          refine aw_reb (reb_w (tl' := [(4, .ptr 4 0 0)]) (ol' := [((0, 0), .box [.sl 1 (List.map enc5 x43.2.B), .bool x43.2.Bad]), ((4, 0), .box [.int .i64 (IntKind.i64.wrap (x12.toNat : Int)), .int .i64 0, .str x42.1, .str x43.1, .sl 5 (List.map enc23 [])])]) (reb_lit [(4, .ptr 4 0 0)] [(0, 0), (4, 0)] [((0, 0), .box [.sl 1 (List.map enc5 x43.2.B), .bool x43.2.Bad]), ((4, 0), .box [.int .i64 (IntKind.i64.wrap (x12.toNat : Int)), .int .i64 0, .str x42.1, .str x43.1, .nil])] [(0, 1), (4, 1)] (envOk_cons (by conv => lhs; whnf) (by exact rfl) envOk_nil) (objOk_cons (by conv => lhs; whnf) (by conv => lhs; whnf) (by exact rfl) (by simp) (objOk_cons (by conv => lhs; whnf) (by conv => lhs; whnf) (by exact rfl) (by simp) objOk_nil)) (nodup_b rfl) (nodup_b rfl) rfl rfl) ⟨rfl, le_refl _, trivial⟩ ⟨rfl, .rfl _, rfl, (.box ⟨le_refl _, le_refl _, le_refl _, le_refl _, le_nil _, trivial⟩), trivial⟩) ?_
          refine aw_ret ?_
          obtain rfl := Option.some.inj h
          exact ret_okB [] (by conv => lhs; whnf) (by conv => lhs; whnf) (by exact rfl) trivial (boxesOk_cons (by conv => lhs; whnf) (by conv => lhs; whnf) (by exact rfl) trivial) (nodup_b rfl) (.inr rfl) rfl
        · have h := ifF c40 h
          refine aw_cond_f (by decide) rfl ?_
          refine aw_seq_k (fun K45 hK45 => ?_)
          refine aw_regL ?_
          refine alP (some 85) rfl rfl (does_bin (v := .bool ((IntKind.i64.wrap (x12.toNat : Int)) == 5)) (by conv => lhs; whnf) (by conv => lhs; whnf) rfl) (by decide) ?_
          refine alP (some 84) rfl rfl (does_assign (v := .bool ((IntKind.i64.wrap (x12.toNat : Int)) == 5)) (by exact rfl)) (by decide) ?_
          refine al_nil ?_
          refine hK45 _ ?_
          refine aw_bool (b := ((IntKind.i64.wrap (x12.toNat : Int)) == 5)) 84 rfl (fun c46 => ?_) (fun c46 => ?_)
          · have h := ifT c46 h
            refine aw_cond_t (by decide) rfl ?_
            refine aw_skip ?_
            refine hK15 _ ?_
            refine aw_seq_k (fun K47 hK47 => ?_)
            refine aw_regL ?_
            refine alR (some 94) rfl rfl (does_load (v := .agg [.int .i64 (IntKind.i64.wrap (x12.toNat : Int)), .int .i64 0, .str (strOf []), .str (strOf []), .nil]) (by conv => lhs; whnf) (by conv => lhs; whnf) ty24 (by exact rfl)) (by decide) ?_
            refine alD none rfl rfl (do_store (cs' := [.int .i64 (IntKind.i64.wrap (x12.toNat : Int)), .int .i64 0, .str (strOf []), .str (strOf []), .nil]) (by conv => lhs; whnf) (by conv => lhs; whnf) (by conv => lhs; whnf) ty24 rfl rfl rfl (by exact rfl)) (by decide) ?_
            refine al_nil ?_
            refine hK47 _ ?_
            refine aw_reb (reb_w (tl' := [(4, .ptr 4 0 0)]) (ol' := [((0, 0), .box [.sl 1 (List.map enc5 (List.drop 1 a0.B)), .bool a0.Bad]), ((4, 0), .box [.int .i64 (IntKind.i64.wrap (x12.toNat : Int)), .int .i64 0, .str (strOf []), .str (strOf []), .sl 5 (List.map enc23 [])])]) (reb_lit [(4, .ptr 4 0 0)] [(0, 0), (4, 0)] [((0, 0), .box [.sl 1 (List.map enc5 (List.drop 1 a0.B)), .bool a0.Bad]), ((4, 0), .box [.int .i64 (IntKind.i64.wrap (x12.toNat : Int)), .int .i64 0, .str (strOf []), .str (strOf []), .nil])] [(0, 1), (4, 1)] (envOk_cons (by conv => lhs; whnf) (by exact rfl) envOk_nil) (objOk_cons (by conv => lhs; whnf) (by conv => lhs; whnf) (by exact rfl) (by simp) (objOk_cons (by conv => lhs; whnf) (by conv => lhs; whnf) (by exact rfl) (by simp) objOk_nil)) (nodup_b rfl) (nodup_b rfl) rfl rfl) ⟨rfl, le_refl _, trivial⟩ ⟨rfl, .rfl _, rfl, (.box ⟨le_refl _, le_refl _, le_refl _, le_refl _, le_nil _, trivial⟩), trivial⟩) ?_
            refine aw_ret ?_
            obtain rfl := Option.some.inj h
            exact ret_okB [] (by conv => lhs; whnf) (by conv => lhs; whnf) (by exact rfl) trivial (boxesOk_cons (by conv => lhs; whnf) (by conv => lhs; whnf) (by exact rfl) trivial) (nodup_b rfl) (.inr rfl) rfl
          · have h := ifF c46 h
            refine aw_cond_f (by decide) rfl ?_
            obtain ⟨q48, h, hk49⟩ := bnd_some h
            refine aw_cut (fun s => ∃ (v86_5 : Bool), gleaningref1_Reader_rule_b_k5 a0 x12 v86_5 = some r ∧ s = lit [(0, .ptr 0 0 0), (4, .ptr 4 0 0), (5, .ptr 5 0 0), (86, .bool v86_5)] [((0, 0), .box [.sl 1 (List.map enc5 (List.drop 1 a0.B)), .bool a0.Bad]), ((4, 0), .box [.int .i64 0, .int .i64 0, .str (strOf []), .str (strOf []), .nil]), ((5, 0), .box [.int .i64 (IntKind.i64.wrap (x12.toNat : Int)), .int .i64 0, .str (strOf []), .str (strOf []), .nil])] [(0, 1), (4, 1), (5, 1)] X) ?_ ?_
            · skip
              refine aw_seq_k (fun K50 hK50 => ?_)
              refine aw_regL ?_
              refine alP (some 87) rfl rfl (does_bin (v := .bool ((IntKind.i64.wrap (x12.toNat : Int)) == 4)) (by conv => lhs; whnf) (by conv => lhs; whnf) rfl) (by decide) ?_
              refine alP (some 86) rfl rfl (does_assign (v := .bool ((IntKind.i64.wrap (x12.toNat : Int)) == 4)) (by exact rfl)) (by decide) ?_
              refine al_nil ?_
              refine hK50 _ ?_
              refine aw_bool (b := ((IntKind.i64.wrap (x12.toNat : Int)) == 4)) 86 rfl (fun c51 => ?_) (fun c51 => ?_)
              · have h := ifT c51 h
                refine aw_cond_t (by decide) rfl ?_
                refine aw_skip ?_
                obtain rfl := Option.some.inj h
                have h := hk49
                exact ⟨_, reb_lit [(0, .ptr 0 0 0), (4, .ptr 4 0 0), (5, .ptr 5 0 0), (86, .bool true)] [(0, 0), (4, 0), (5, 0)] [((0, 0), .box [.sl 1 (List.map enc5 (List.drop 1 a0.B)), .bool a0.Bad]), ((4, 0), .box [.int .i64 0, .int .i64 0, .str (strOf []), .str (strOf []), .nil]), ((5, 0), .box [.int .i64 (IntKind.i64.wrap (x12.toNat : Int)), .int .i64 0, .str (strOf []), .str (strOf []), .nil])] [(0, 1), (4, 1), (5, 1)] (envOk_cons (by conv => lhs; whnf) (by exact rfl) (envOk_cons (by conv => lhs; whnf) (by exact rfl) (envOk_cons (by conv => lhs; whnf) (by exact rfl) (envOk_cons (by conv => lhs; whnf) (by exact rfl) envOk_nil)))) (objOk_cons (by conv => lhs; whnf) (by conv => lhs; whnf) (by exact rfl) (by simp) (objOk_cons (by conv => lhs; whnf) (by conv => lhs; whnf) (by exact rfl) (by simp) (objOk_cons (by conv => lhs; whnf) (by conv => lhs; whnf) (by exact rfl) (by simp) objOk_nil))) (nodup_b rfl) (nodup_b rfl) rfl rfl, true, h, rfl⟩
              · have h := ifF c51 h
                refine aw_cond_f (by decide) rfl ?_
                refine aw_seq_k (fun K52 hK52 => ?_)
                refine aw_regL ?_
                refine alP (some 88) rfl rfl (does_bin (v := .bool ((IntKind.i64.wrap (x12.toNat : Int)) == 7)) (by conv => lhs; whnf) (by conv => lhs; whnf) rfl) (by decide) ?_
                refine alP (some 86) rfl rfl (does_assign (v := .bool ((IntKind.i64.wrap (x12.toNat : Int)) == 7)) (by exact rfl)) (by decide) ?_
                refine al_nil ?_
                refine hK52 _ ?_
                refine aw_bool (b := ((IntKind.i64.wrap (x12.toNat : Int)) == 7)) 86 rfl (fun c53 => ?_) (fun c53 => ?_)
                · have h := ifT c53 h
                  refine aw_cond_t (by decide) rfl ?_
                  refine aw_skip ?_
                  obtain rfl := Option.some.inj h
                  have h := hk49
                  exact ⟨_, reb_lit [(0, .ptr 0 0 0), (4, .ptr 4 0 0), (5, .ptr 5 0 0), (86, .bool true)] [(0, 0), (4, 0), (5, 0)] [((0, 0), .box [.sl 1 (List.map enc5 (List.drop 1 a0.B)), .bool a0.Bad]), ((4, 0), .box [.int .i64 0, .int .i64 0, .str (strOf []), .str (strOf []), .nil]), ((5, 0), .box [.int .i64 (IntKind.i64.wrap (x12.toNat : Int)), .int .i64 0, .str (strOf []), .str (strOf []), .nil])] [(0, 1), (4, 1), (5, 1)] (envOk_cons (by conv => lhs; whnf) (by exact rfl) (envOk_cons (by conv => lhs; whnf) (by exact rfl) (envOk_cons (by conv => lhs; whnf) (by exact rfl) (envOk_cons (by conv => lhs; whnf) (by exact rfl) envOk_nil)))) (objOk_cons (by conv => lhs; whnf) (by conv => lhs; whnf) (by exact rfl) (by simp) (objOk_cons (by conv => lhs; whnf) (by conv => lhs; whnf) (by exact rfl) (by simp) (objOk_cons (by conv => lhs; whnf) (by conv => lhs; whnf) (by exact rfl) (by simp) objOk_nil))) (nodup_b rfl) (nodup_b rfl) rfl rfl, true, h, rfl⟩
                · have h := ifF c53 h
                  refine aw_cond_f (by decide) rfl ?_
                  refine aw_seq_k (fun K54 hK54 => ?_)
                  refine aw_regL ?_
                  refine alP (some 89) rfl rfl (does_bin (v := .bool ((IntKind.i64.wrap (x12.toNat : Int)) == 8)) (by conv => lhs; whnf) (by conv => lhs; whnf) rfl) (by decide) ?_
                  refine alP (some 86) rfl rfl (does_assign (v := .bool ((IntKind.i64.wrap (x12.toNat : Int)) == 8)) (by exact rfl)) (by decide) ?_
                  refine al_nil ?_
                  refine hK54 _ ?_
                  refine aw_bool (b := ((IntKind.i64.wrap (x12.toNat : Int)) == 8)) 86 rfl (fun c55 => ?_) (fun c55 => ?_)
                  · have h := ifT c55 h
                    refine aw_cond_t (by decide) rfl ?_
                    refine aw_skip ?_
                    obtain rfl := Option.some.inj h
                    have h := hk49
                    exact ⟨_, reb_lit [(0, .ptr 0 0 0), (4, .ptr 4 0 0), (5, .ptr 5 0 0), (86, .bool true)] [(0, 0), (4, 0), (5, 0)] [((0, 0), .box [.sl 1 (List.map enc5 (List.drop 1 a0.B)), .bool a0.Bad]), ((4, 0), .box [.int .i64 0, .int .i64 0, .str (strOf []), .str (strOf []), .nil]), ((5, 0), .box [.int .i64 (IntKind.i64.wrap (x12.toNat : Int)), .int .i64 0, .str (strOf []), .str (strOf []), .nil])] [(0, 1), (4, 1), (5, 1)] (envOk_cons (by conv => lhs; whnf) (by exact rfl) (envOk_cons (by conv => lhs; whnf) (by exact rfl) (envOk_cons (by conv => lhs; whnf) (by exact rfl) (envOk_cons (by conv => lhs; whnf) (by exact rfl) envOk_nil)))) (objOk_cons (by conv => lhs; whnf) (by conv => lhs; whnf) (by exact rfl) (by simp) (objOk_cons (by conv => lhs; whnf) (by conv => lhs; whnf) (by exact rfl) (by simp) (objOk_cons (by conv => lhs; whnf) (by conv => lhs; whnf) (by exact rfl) (by simp) objOk_nil))) (nodup_b rfl) (nodup_b rfl) rfl rfl, true, h, rfl⟩
                  · have h := ifF c55 h
                    refine aw_cond_f (by decide) rfl ?_
                    refine aw_regL ?_
                    refine alP (some 90) rfl rfl (does_bin (v := .bool ((IntKind.i64.wrap (x12.toNat : Int)) == 9)) (by conv => lhs; whnf) (by conv => lhs; whnf) rfl) (by decide) ?_
                    refine alP (some 86) rfl rfl (does_assign (v := .bool ((IntKind.i64.wrap (x12.toNat : Int)) == 9)) (by exact rfl)) (by decide) ?_
                    refine al_nil ?_
                    obtain rfl := Option.some.inj h
                    have h := hk49
                    exact ⟨_, reb_lit [(0, .ptr 0 0 0), (4, .ptr 4 0 0), (5, .ptr 5 0 0), (86, .bool ((IntKind.i64.wrap (x12.toNat : Int)) == 9))] [(0, 0), (4, 0), (5, 0)] [((0, 0), .box [.sl 1 (List.map enc5 (List.drop 1 a0.B)), .bool a0.Bad]), ((4, 0), .box [.int .i64 0, .int .i64 0, .str (strOf []), .str (strOf []), .nil]), ((5, 0), .box [.int .i64 (IntKind.i64.wrap (x12.toNat : Int)), .int .i64 0, .str (strOf []), .str (strOf []), .nil])] [(0, 1), (4, 1), (5, 1)] (envOk_cons (by conv => lhs; whnf) (by exact rfl) (envOk_cons (by conv => lhs; whnf) (by exact rfl) (envOk_cons (by conv => lhs; whnf) (by exact rfl) (envOk_cons (by conv => lhs; whnf) (by exact rfl) envOk_nil)))) (objOk_cons (by conv => lhs; whnf) (by conv => lhs; whnf) (by exact rfl) (by simp) (objOk_cons (by conv => lhs; whnf) (by conv => lhs; whnf) (by exact rfl) (by simp) (objOk_cons (by conv => lhs; whnf) (by conv => lhs; whnf) (by exact rfl) (by simp) objOk_nil))) (nodup_b rfl) (nodup_b rfl) rfl rfl, ((IntKind.i64.wrap (x12.toNat : Int)) == 9), h, rfl⟩
            · rintro s ⟨v86_5, h, rfl⟩
              unfold gleaningref1_Reader_rule_b_k5 at h
              refine aw_bool (b := v86_5) 86 rfl (fun c56 => ?_) (fun c56 => ?_)
              · have h := ifT c56 h
                refine aw_cond_t (by decide) rfl ?_
                refine aw_regL ?_
                refine alP (some 91) rfl rfl (does_move (v := .ptr 0 0 0) (by exact rfl)) (by decide) ?_
                obtain ⟨x57, hx57, h⟩ := bnd_some h
                refine alD (some 92) rfl rfl (do_callG (bcs := [[.sl 1 (List.map enc5 (List.drop 1 a0.B)), .bool a0.Bad]]) [(0, 0)] [] [] 92 false (gleaningref1_Reader_Int_ok (Reader.mk (List.drop 1 a0.B) a0.Bad) 1073741824 hx57) rfl ent82 ⟨(by exact rfl), trivial⟩ trivial rfl rfl rfl rfl rfl rfl rfl rfl (.inl trivial)) (by decide) ?_
                refine alP (some 93) rfl rfl (does_fieldAddr (q := .ptr 5 0 1) (by conv => lhs; whnf) ty24 rfl ty3 (by decide) (by exact rfl)) (by decide) ?_
                refine alD none rfl rfl (do_store (cs' := [.int .i64 (IntKind.i64.wrap (x12.toNat : Int)), .int .i64 x57.1, .str (strOf []), .str (strOf []), .nil]) (by conv => lhs; whnf) (by conv => lhs; whnf) (by conv => lhs; whnf) ty3 rfl rfl rfl (by exact rfl)) (by decide) ?_
                refine al_nil ?_
                refine hK15 _ ?_
                refine aw_seq_k (fun K58 hK58 => ?_)
                refine aw_regL ?_
                refine alR (some 94) rfl rfl (does_load (v := .agg [.int .i64 (IntKind.i64.wrap (x12.toNat : Int)), .int .i64 x57.1, .str (strOf []), .str (strOf []), .nil]) (by conv => lhs; whnf) (by conv => lhs; whnf) ty24 (by exact rfl)) (by decide) ?_
                refine alD none rfl rfl (do_store (cs' := [.int .i64 (IntKind.i64.wrap (x12.toNat : Int)), .int .i64 x57.1, .str (strOf []), .str (strOf []), .nil]) (by conv => lhs; whnf) (by conv => lhs; whnf) (by conv => lhs; whnf) ty24 rfl rfl rfl (by exact rfl)) (by decide) ?_
                refine al_nil ?_
                refine hK58 _ ?_
                refine aw_reb (reb_w (tl' := [(4, .ptr 4 0 0)]) (ol' := [((0, 0), .box [.sl 1 (List.map enc5 x57.2.B), .bool x57.2.Bad]), ((4, 0), .box [.int .i64 (IntKind.i64.wrap (x12.toNat : Int)), .int .i64 x57.1, .str (strOf []), .str (strOf []), .sl 5 (List.map enc23 [])])]) (reb_lit [(4, .ptr 4 0 0)] [(0, 0), (4, 0)] [((0, 0), .box [.sl 1 (List.map enc5 x57.2.B), .bool x57.2.Bad]), ((4, 0), .box [.int .i64 (IntKind.i64.wrap (x12.toNat : Int)), .int .i64 x57.1, .str (strOf []), .str (strOf []), .nil])] [(0, 1), (4, 1)] (envOk_cons (by conv => lhs; whnf) (by exact rfl) envOk_nil) (objOk_cons (by conv => lhs; whnf) (by conv => lhs; whnf) (by exact rfl) (by simp) (objOk_cons (by conv => lhs; whnf) (by conv => lhs; whnf) (by exact rfl) (by simp) objOk_nil)) (nodup_b rfl) (nodup_b rfl) rfl rfl) ⟨rfl, le_refl _, trivial⟩ ⟨rfl, .rfl _, rfl, (.box ⟨le_refl _, le_refl _, le_refl _, le_refl _, le_nil _, trivial⟩), trivial⟩) ?_
                refine aw_ret ?_
                obtain rfl := Option.some.inj h
                exact ret_okB [] (by conv => lhs; whnf) (by conv => lhs; whnf) (by exact rfl) trivial (boxesOk_cons (by conv => lhs; whnf) (by conv => lhs; whnf) (by exact rfl) trivial) (nodup_b rfl) (.inr rfl) rfl
              · have h := ifF c56 h
                refine aw_cond_f (by decide) rfl ?_
                refine aw_regL ?_
                refine alP (some 46) rfl rfl (does_move (v := .ptr 0 0 0) (by exact rfl)) (by decide) ?_
                refine alP (some 47) rfl rfl (does_nilCheck (p := .ptr 0 0 0) (by conv => lhs; whnf) rfl) (by decide) ?_
                refine alP (some 48) rfl rfl (does_fieldAddr (q := .ptr 0 0 1) (by conv => lhs; whnf) ty96 rfl ty4 (by decide) (by exact rfl)) (by decide) ?_
                refine alD none rfl rfl (do_store (cs' := [.sl 1 (List.map enc5 (List.drop 1 a0.B)), .bool true]) (by conv => lhs; whnf) (by conv => lhs; whnf) (by conv => lhs; whnf) ty4 rfl rfl rfl (by exact rfl)) (by decide) ?_
                refine al_nil ?_
                refine hK15 _ ?_
                refine aw_seq_k (fun K59 hK59 => ?_)
                refine aw_regL ?_
                refine alR (some 94) rfl rfl (does_load (v := .agg [.int .i64 (IntKind.i64.wrap (x12.toNat : Int)), .int .i64 0, .str (strOf []), .str (strOf []), .nil]) (by conv => lhs; whnf) (by conv => lhs; whnf) ty24 (by exact rfl)) (by decide) ?_
                refine alD none rfl rfl (do_store (cs' := [.int .i64 (IntKind.i64.wrap (x12.toNat : Int)), .int .i64 0, .str (strOf []), .str (strOf []), .nil]) (by conv => lhs; whnf) (by conv => lhs; whnf) (by conv => lhs; whnf) ty24 rfl rfl rfl (by exact rfl)) (by decide) ?_
                refine al_nil ?_
                refine hK59 _ ?_
                refine aw_reb (reb_w (tl' := [(4, .ptr 4 0 0)]) (ol' := [((0, 0), .box [.sl 1 (List.map enc5 (List.drop 1 a0.B)), .bool true]), ((4, 0), .box [.int .i64 (IntKind.i64.wrap (x12.toNat : Int)), .int .i64 0, .str (strOf []), .str (strOf []), .sl 5 (List.map enc23 [])])]) (reb_lit [(4, .ptr 4 0 0)] [(0, 0), (4, 0)] [((0, 0), .box [.sl 1 (List.map enc5 (List.drop 1 a0.B)), .bool true]), ((4, 0), .box [.int .i64 (IntKind.i64.wrap (x12.toNat : Int)), .int .i64 0, .str (strOf []), .str (strOf []), .nil])] [(0, 1), (4, 1)] (envOk_cons (by conv => lhs; whnf) (by exact rfl) envOk_nil) (objOk_cons (by conv => lhs; whnf) (by conv => lhs; whnf) (by exact rfl) (by simp) (objOk_cons (by conv => lhs; whnf) (by conv => lhs; whnf) (by exact rfl) (by simp) objOk_nil)) (nodup_b rfl) (nodup_b rfl) rfl rfl) ⟨rfl, le_refl _, trivial⟩ ⟨rfl, .rfl _, rfl, (.box ⟨le_refl _, le_refl _, le_refl _, le_refl _, le_nil _, trivial⟩), trivial⟩) ?_
                refine aw_ret ?_
                obtain rfl := Option.some.inj h
                exact ret_okB [] (by conv => lhs; whnf) (by conv => lhs; whnf) (by exact rfl) trivial (boxesOk_cons (by conv => lhs; whnf) (by conv => lhs; whnf) (by exact rfl) trivial) (nodup_b rfl) (.inr rfl) rfl
def gleaningref1_Reader_ruleN : Nat → Reader → Int → Option (Rule × Reader)
  | 0, _, _ => none
  | n + 1, a0, a1 => gleaningref1_Reader_rule_b (gleaningref1_Reader_ruleN n) a0 a1
theorem gleaningref1_Reader_ruleN_ok : ∀ (n : Nat) (a0 : Reader) (a1 : Int) {r : Rule × Reader}, gleaningref1_Reader_ruleN n a0 a1 = some r → Ok Try.prog 74 [.ptr 0 0 0, .int .i64 a1] [[.sl 1 (List.map enc5 a0.B), .bool a0.Bad]] [] (.agg [.int .i64 r.1.Kind, .int .i64 r.1.N, .str r.1.Key, .str r.1.Value, .sl 5 (List.map enc23 r.1.Kids)]) [[.sl 1 (List.map enc5 r.2.B), .bool r.2.Bad]] []
  | 0, _, _, _, h => by simp [gleaningref1_Reader_ruleN] at h
  | n + 1, a0, a1, _, h => gleaningref1_Reader_rule_b_ok (gleaningref1_Reader_ruleN n) (gleaningref1_Reader_ruleN_ok n) a0 a1 h
def gleaningref1_Reader_rule (a0 : Reader) (a1 : Int) : Option (Rule × Reader) := gleaningref1_Reader_ruleN Fu a0 a1
theorem gleaningref1_Reader_rule_ok (a0 : Reader) (a1 : Int) {r : Rule × Reader} (h : gleaningref1_Reader_rule a0 a1 = some r) : Ok Try.prog 74 [.ptr 0 0 0, .int .i64 a1] [[.sl 1 (List.map enc5 a0.B), .bool a0.Bad]] [] (.agg [.int .i64 r.1.Kind, .int .i64 r.1.N, .str r.1.Key, .str r.1.Value, .sl 5 (List.map enc23 r.1.Kids)]) [[.sl 1 (List.map enc5 r.2.B), .bool r.2.Bad]] [] := gleaningref1_Reader_ruleN_ok Fu a0 a1 h
def gleaningref1_ReadRule (a0 : List UInt8) : Option (Rule × Int) :=
  Option.bind (gleaningref1_Reader_rule (Reader.mk a0 false) 5) (fun (x4 : Rule × Reader) => if x4.2.Bad = true then (some ((Rule.mk 0 0 (strOf []) (strOf []) []), 2)) else (if (decide ((0 : Int) < (List.length x4.2.B : Int))) = true then (some ((Rule.mk 0 0 (strOf []) (strOf []) []), 2)) else (Option.bind (gleaningref1_RightRule x4.1) (fun (x11 : Bool) => if (!x11) = true then (some ((Rule.mk 0 0 (strOf []) (strOf []) []), 2)) else (some (x4.1, 0))))))
set_option maxRecDepth 100000 in
set_option maxHeartbeats 8000000 in
/-- gleaning/gleaningref1.ReadRule -/
theorem gleaningref1_ReadRule_ok (a0 : List UInt8) {r : Rule × Int} (h : gleaningref1_ReadRule a0 = some r) : Ok Try.prog 44 [.sl 1 (List.map enc5 a0)] [] [] (.tup [.agg [.int .i64 r.1.Kind, .int .i64 r.1.N, .str r.1.Key, .str r.1.Value, .sl 5 (List.map enc23 r.1.Kids)], .int .i64 r.2]) [] [] := by
  unfold gleaningref1_ReadRule at h
  refine ok_of_code Try.func44 rfl (by show (1 : Nat) ≤ _; decide) (Nat.le_refl _) fun X => ?_
  refine aw_seq_k (fun K1 hK1 => ?_)
  refine aw_regL ?_
  refine alD (some 2) rfl rfl (do_new ty24 rfl rfl) (by decide) ?_
  refine alP (some 3) rfl rfl (does_assign (v := .int .i64 0) (by exact rfl)) (by decide) ?_
  refine al_nil ?_
  refine hK1 _ ?_
  refine aw_seq_k (fun K2 hK2 => ?_)
  refine aw_regL ?_
  refine alP (some 6) rfl rfl (does_move (v := .sl 1 (List.map enc5 a0)) (by exact rfl)) (by decide) ?_
  refine alP (some 7) rfl rfl (do_build_struct (cs := [.sl 1 (List.map enc5 a0), .bool false]) ty96 rfl [⟨.slice 5, 1, 24, [.nil]⟩, ⟨.bool, 1, 1, [.bool false]⟩] (by simp only [List.map, ty4, ty43]) (by rfl) (by exact rfl)) (by decide) ?_
  refine alD (some 8) rfl rfl (do_box (by conv => lhs; whnf) rfl rfl) (by decide) ?_
  refine alP (some 4) rfl rfl (does_assign (v := .ptr 8 0 0) (by exact rfl)) (by decide) ?_
  refine al_nil ?_
  refine hK2 _ ?_
  refine aw_seq_k (fun K3 hK3 => ?_)
  refine aw_regL ?_
  refine alP (some 9) rfl rfl (does_move (v := .ptr 8 0 0) (by exact rfl)) (by decide) ?_
  obtain ⟨x4, hx4, h⟩ := bnd_some h
  refine alD (some 10) rfl rfl (do_callG (bcs := [[.sl 1 (List.map enc5 a0), .bool false]]) [(8, 0)] [] [] 10 false (gleaningref1_Reader_rule_ok (Reader.mk a0 false) 5 hx4) rfl ent74 ⟨(by exact rfl), trivial⟩ trivial rfl rfl rfl rfl rfl rfl rfl rfl (.inl trivial)) (by decide) ?_
  refine alD (some 5) rfl rfl (do_new ty24 rfl rfl) (by decide) ?_
  refine alD none rfl rfl (do_store (cs' := [.int .i64 x4.1.Kind, .int .i64 x4.1.N, .str x4.1.Key, .str x4.1.Value, .sl 5 (List.map enc23 x4.1.Kids)]) (by conv => lhs; whnf) (by conv => lhs; whnf) (by conv => lhs; whnf) ty24 rfl rfl rfl (by exact rfl)) (by decide) ?_
  refine al_nil ?_
  refine hK3 _ ?_
  refine aw_seq_k (fun K5 hK5 => ?_)
  refine aw_seq_k (fun K6 hK6 => ?_)
  refine aw_regL ?_
  refine alP (some 11) rfl rfl (does_move (v := .ptr 8 0 0) (by exact rfl)) (by decide) ?_
  refine alP (some 12) rfl rfl (does_nilCheck (p := .ptr 8 0 0) (by conv => lhs; whnf) rfl) (by decide) ?_
  refine alP (some 13) rfl rfl (does_fieldAddr (q := .ptr 8 0 1) (by conv => lhs; whnf) ty96 rfl ty4 (by decide) (by exact rfl)) (by decide) ?_
  refine alR (some 14) rfl rfl (does_load (v := .bool x4.2.Bad) (by conv => lhs; whnf) (by conv => lhs; whnf) ty4 (by exact rfl)) (by decide) ?_
  refine alP (some 15) rfl rfl (does_move (v := .bool x4.2.Bad) (by exact rfl)) (by decide) ?_
  refine al_bool (c := x4.2.Bad) 15 rfl (fun c7 => ?_) (fun c7 => ?_)
  · have h := ifT c7 h
    refine alS (some 16) rfl rfl (by decide) ?_
    refine alS (some 17) rfl rfl (by decide) ?_
    refine alS (some 18) rfl rfl (by decide) ?_
    refine alS (some 19) rfl rfl (by decide) ?_
    refine alS (some 20) rfl rfl (by decide) ?_
    refine alS (some 21) rfl rfl (by decide) ?_
    refine alP (some 22) rfl rfl (does_pick (v := .bool true) (by conv => lhs; whnf) (by exact rfl)) (by decide) ?_
    refine alP (some 23) rfl rfl (does_move (v := .bool true) (by exact rfl)) (by decide) ?_
    refine alS (some 24) rfl rfl (by decide) ?_
    refine alS (some 25) rfl rfl (by decide) ?_
    refine alS (some 26) rfl rfl (by decide) ?_
    refine alP (some 27) rfl rfl (does_pick (v := .bool true) (by conv => lhs; whnf) (by exact rfl)) (by decide) ?_
    refine al_nil ?_
    refine hK6 _ ?_
    refine aw_cond_t (by decide) rfl ?_
    refine aw_seq_k (fun K8 hK8 => ?_)
    refine aw_regL ?_
    refine alP (some 28) rfl rfl (do_build_struct (cs := [.int .i64 0, .int .i64 0, .str (strOf []), .str (strOf []), .nil]) ty24 rfl [⟨.int .i64, 1, 8, [.int .i64 0]⟩, ⟨.int .i64, 1, 8, [.int .i64 0]⟩, ⟨.str, 1, 16, [.str ByteArray.empty]⟩, ⟨.str, 1, 16, [.str ByteArray.empty]⟩, ⟨.slice 24, 1, 24, [.nil]⟩] (by simp only [List.map, ty22, ty3, ty9]) (by rfl) (by exact rfl)) (by decide) ?_
    refine alD none rfl rfl (do_store (cs' := [.int .i64 0, .int .i64 0, .str (strOf []), .str (strOf []), .nil]) (by conv => lhs; whnf) (by conv => lhs; whnf) (by conv => lhs; whnf) ty24 rfl rfl rfl (by exact rfl)) (by decide) ?_
    refine alP (some 3) rfl rfl (does_assign (v := .int .i64 2) (by exact rfl)) (by decide) ?_
    refine al_nil ?_
    refine hK8 _ ?_
    refine aw_reb (reb_w (tl' := [(2, .ptr 2 0 0), (3, .int .i64 2)]) (ol' := [((2, 0), .box [.int .i64 0, .int .i64 0, .str (strOf []), .str (strOf []), .sl 5 (List.map enc23 [])])]) (reb_lit [(2, .ptr 2 0 0), (3, .int .i64 2)] [(2, 0)] [((2, 0), .box [.int .i64 0, .int .i64 0, .str (strOf []), .str (strOf []), .nil])] [(2, 1)] (envOk_cons (by conv => lhs; whnf) (by exact rfl) (envOk_cons (by conv => lhs; whnf) (by exact rfl) envOk_nil)) (objOk_cons (by conv => lhs; whnf) (by conv => lhs; whnf) (by exact rfl) (by simp) objOk_nil) (nodup_b rfl) (nodup_b rfl) rfl rfl) ⟨rfl, le_refl _, rfl, le_refl _, trivial⟩ ⟨rfl, (.box ⟨le_refl _, le_refl _, le_refl _, le_refl _, le_nil _, trivial⟩), trivial⟩) ?_
    refine aw_ret ?_
    obtain rfl := Option.some.inj h
    exact ret_ok1 (by conv => lhs; whnf) (by conv => lhs; whnf) (by exact rfl) (.inr rfl) rfl
  · have h := ifF c7 h
    refine alP (some 16) rfl rfl (does_move (v := .ptr 8 0 0) (by exact rfl)) (by decide) ?_
    refine alP (some 17) rfl rfl (does_nilCheck (p := .ptr 8 0 0) (by conv => lhs; whnf) rfl) (by decide) ?_
    refine alP (some 18) rfl rfl (does_fieldAddr (q := .ptr 8 0 0) (by conv => lhs; whnf) ty96 rfl ty43 (by decide) (by exact rfl)) (by decide) ?_
    refine alR (some 19) rfl rfl (does_load (v := .sl 1 (List.map enc5 x4.2.B)) (by conv => lhs; whnf) (by conv => lhs; whnf) ty43 (by exact rfl)) (by decide) ?_
    refine alP (some 20) rfl rfl ((does_len_sl (by conv => lhs; whnf) ty43).castp (v' := .int .i64 (List.length x4.2.B : Int)) (by exact len_map _)) (by decide) ?_
    refine alP (some 21) rfl rfl (does_bin (v := .bool (decide ((0 : Int) < (List.length x4.2.B : Int)))) (by conv => lhs; whnf) (by conv => lhs; whnf) rfl) (by decide) ?_
    refine alP (some 22) rfl rfl (does_pick (v := .bool (decide ((0 : Int) < (List.length x4.2.B : Int)))) (by conv => lhs; whnf) (by exact rfl)) (by decide) ?_
    refine alP (some 23) rfl rfl (does_move (v := .bool (decide ((0 : Int) < (List.length x4.2.B : Int)))) (by exact rfl)) (by decide) ?_
    refine al_bool (c := (decide ((0 : Int) < (List.length x4.2.B : Int)))) 23 rfl (fun c9 => ?_) (fun c9 => ?_)
    · have h := ifT c9 h
      refine alS (some 24) rfl rfl (by decide) ?_
      refine alS (some 25) rfl rfl (by decide) ?_
      refine alS (some 26) rfl rfl (by decide) ?_
      refine alP (some 27) rfl rfl (does_pick (v := .bool true) (by conv => lhs; whnf) (by exact rfl)) (by decide) ?_
      refine al_nil ?_
      refine hK6 _ ?_
      refine aw_cond_t (by decide) rfl ?_
      refine aw_seq_k (fun K10 hK10 => ?_)
      refine aw_regL ?_
      refine alP (some 28) rfl rfl (do_build_struct (cs := [.int .i64 0, .int .i64 0, .str (strOf []), .str (strOf []), .nil]) ty24 rfl [⟨.int .i64, 1, 8, [.int .i64 0]⟩, ⟨.int .i64, 1, 8, [.int .i64 0]⟩, ⟨.str, 1, 16, [.str ByteArray.empty]⟩, ⟨.str, 1, 16, [.str ByteArray.empty]⟩, ⟨.slice 24, 1, 24, [.nil]⟩] (by simp only [List.map, ty22, ty3, ty9]) (by rfl) (by exact rfl)) (by decide) ?_
      refine alD none rfl rfl (do_store (cs' := [.int .i64 0, .int .i64 0, .str (strOf []), .str (strOf []), .nil]) (by conv => lhs; whnf) (by conv => lhs; whnf) (by conv => lhs; whnf) ty24 rfl rfl rfl (by exact rfl)) (by decide) ?_
      refine alP (some 3) rfl rfl (does_assign (v := .int .i64 2) (by exact rfl)) (by decide) ?_
      refine al_nil ?_
      refine hK10 _ ?_
      refine aw_reb (reb_w (tl' := [(2, .ptr 2 0 0), (3, .int .i64 2)]) (ol' := [((2, 0), .box [.int .i64 0, .int .i64 0, .str (strOf []), .str (strOf []), .sl 5 (List.map enc23 [])])]) (reb_lit [(2, .ptr 2 0 0), (3, .int .i64 2)] [(2, 0)] [((2, 0), .box [.int .i64 0, .int .i64 0, .str (strOf []), .str (strOf []), .nil])] [(2, 1)] (envOk_cons (by conv => lhs; whnf) (by exact rfl) (envOk_cons (by conv => lhs; whnf) (by exact rfl) envOk_nil)) (objOk_cons (by conv => lhs; whnf) (by conv => lhs; whnf) (by exact rfl) (by simp) objOk_nil) (nodup_b rfl) (nodup_b rfl) rfl rfl) ⟨rfl, le_refl _, rfl, le_refl _, trivial⟩ ⟨rfl, (.box ⟨le_refl _, le_refl _, le_refl _, le_refl _, le_nil _, trivial⟩), trivial⟩) ?_
      refine aw_ret ?_
      obtain rfl := Option.some.inj h
      exact ret_ok1 (by conv => lhs; whnf) (by conv => lhs; whnf) (by exact rfl) (.inr rfl) rfl
    · have h := ifF c9 h
      refine alR (some 24) rfl rfl (does_load (v := .agg [.int .i64 x4.1.Kind, .int .i64 x4.1.N, .str x4.1.Key, .str x4.1.Value, .sl 5 (List.map enc23 x4.1.Kids)]) (by conv => lhs; whnf) (by conv => lhs; whnf) ty24 (by exact rfl)) (by decide) ?_
      obtain ⟨x11, hx11, h⟩ := bnd_some h
      refine alD (some 25) rfl rfl (do_call0 25 false (gleaningref1_RightRule_ok x4.1 hx11) rfl ent25 rfl rfl) (by decide) ?_
      refine alP (some 26) rfl rfl (does_un (v := .bool (!x11)) (by conv => lhs; whnf) rfl) (by decide) ?_
      refine alP (some 27) rfl rfl (does_pick (v := .bool (!x11)) (by conv => lhs; whnf) (by exact rfl)) (by decide) ?_
      refine al_nil ?_
      refine hK6 _ ?_
      refine aw_bool (b := (!x11)) 27 rfl (fun c12 => ?_) (fun c12 => ?_)
      · have h := ifT c12 h
        refine aw_cond_t (by decide) rfl ?_
        refine aw_seq_k (fun K13 hK13 => ?_)
        refine aw_regL ?_
        refine alP (some 28) rfl rfl (do_build_struct (cs := [.int .i64 0, .int .i64 0, .str (strOf []), .str (strOf []), .nil]) ty24 rfl [⟨.int .i64, 1, 8, [.int .i64 0]⟩, ⟨.int .i64, 1, 8, [.int .i64 0]⟩, ⟨.str, 1, 16, [.str ByteArray.empty]⟩, ⟨.str, 1, 16, [.str ByteArray.empty]⟩, ⟨.slice 24, 1, 24, [.nil]⟩] (by simp only [List.map, ty22, ty3, ty9]) (by rfl) (by exact rfl)) (by decide) ?_
        refine alD none rfl rfl (do_store (cs' := [.int .i64 0, .int .i64 0, .str (strOf []), .str (strOf []), .nil]) (by conv => lhs; whnf) (by conv => lhs; whnf) (by conv => lhs; whnf) ty24 rfl rfl rfl (by exact rfl)) (by decide) ?_
        refine alP (some 3) rfl rfl (does_assign (v := .int .i64 2) (by exact rfl)) (by decide) ?_
        refine al_nil ?_
        refine hK13 _ ?_
        refine aw_reb (reb_w (tl' := [(2, .ptr 2 0 0), (3, .int .i64 2)]) (ol' := [((2, 0), .box [.int .i64 0, .int .i64 0, .str (strOf []), .str (strOf []), .sl 5 (List.map enc23 [])])]) (reb_lit [(2, .ptr 2 0 0), (3, .int .i64 2)] [(2, 0)] [((2, 0), .box [.int .i64 0, .int .i64 0, .str (strOf []), .str (strOf []), .nil])] [(2, 1)] (envOk_cons (by conv => lhs; whnf) (by exact rfl) (envOk_cons (by conv => lhs; whnf) (by exact rfl) envOk_nil)) (objOk_cons (by conv => lhs; whnf) (by conv => lhs; whnf) (by exact rfl) (by simp) objOk_nil) (nodup_b rfl) (nodup_b rfl) rfl rfl) ⟨rfl, le_refl _, rfl, le_refl _, trivial⟩ ⟨rfl, (.box ⟨le_refl _, le_refl _, le_refl _, le_refl _, le_nil _, trivial⟩), trivial⟩) ?_
        refine aw_ret ?_
        obtain rfl := Option.some.inj h
        exact ret_ok1 (by conv => lhs; whnf) (by conv => lhs; whnf) (by exact rfl) (.inr rfl) rfl
      · have h := ifF c12 h
        refine aw_cond_f (by decide) rfl ?_
        refine aw_skip ?_
        refine hK5 _ ?_
        refine aw_seq_k (fun K14 hK14 => ?_)
        refine aw_regL ?_
        refine alR (some 29) rfl rfl (does_load (v := .agg [.int .i64 x4.1.Kind, .int .i64 x4.1.N, .str x4.1.Key, .str x4.1.Value, .sl 5 (List.map enc23 x4.1.Kids)]) (by conv => lhs; whnf) (by conv => lhs; whnf) ty24 (by exact rfl)) (by decide) ?_
        refine alD none rfl rfl (do_store (cs' := [.int .i64 x4.1.Kind, .int .i64 x4.1.N, .str x4.1.Key, .str x4.1.Value, .sl 5 (List.map enc23 x4.1.Kids)]) (by conv => lhs; whnf) (by conv => lhs; whnf) (by conv => lhs; whnf) ty24 rfl rfl rfl (by exact rfl)) (by decide) ?_
        refine alP (some 3) rfl rfl (does_assign (v := .int .i64 0) (by exact rfl)) (by decide) ?_
        refine al_nil ?_
        refine hK14 _ ?_
        refine aw_ret ?_
        obtain rfl := Option.some.inj h
        exact ret_ok1 (by conv => lhs; whnf) (by conv => lhs; whnf) (by exact rfl) (.inr rfl) rfl
def gleaningref1_SameRule_b_l1 (K : Rule → Rule → Option Bool) (a0 : Rule) (a1 : Rule) (v5_1 : Int) : Option (Int ⊕ Bool) :=
  if (decide (v5_1 < (List.length a0.Kids : Int))) = true then (gd (0 ≤ v5_1) (Option.bind (a0.Kids[(Int.toNat v5_1)]?) (fun (x25 : Rule) => gd (0 ≤ v5_1) (Option.bind (a1.Kids[(Int.toNat v5_1)]?) (fun (x27 : Rule) => Option.bind (K x25 x27) (fun (x28 : Bool) => if (!x28) = true then (some (Sum.inr false)) else (some (Sum.inl (IntKind.i64.wrap (v5_1 + 1)))))))))) else (some (Sum.inr true))
def gleaningref1_SameRule_b_k0 (K : Rule → Rule → Option Bool) (a0 : Rule) (a1 : Rule) : Option Bool :=
  loopN (fun (s : Int) => gleaningref1_SameRule_b_l1 K a0 a1 s) Fu 0
def gleaningref1_SameRule_b (K : Rule → Rule → Option Bool) (a0 : Rule) (a1 : Rule) : Option Bool :=
  Option.bind (if (a0.Kind != a1.Kind) = true then (some (Sum.inr false)) else (if (a0.N != a1.N) = true then (some (Sum.inr false)) else (if (!(ByteArray.toList a0.Key == ByteArray.toList a1.Key)) = true then (some (Sum.inr false)) else (if (!(ByteArray.toList a0.Value == ByteArray.toList a1.Value)) = true then (some (Sum.inr false)) else (if ((List.length a0.Kids : Int) != (List.length a1.Kids : Int)) = true then (some (Sum.inr false)) else (some (Sum.inl ()))))))) (Sum.elim (fun (s : Unit) => gleaningref1_SameRule_b_k0 K a0 a1) some)
set_option maxRecDepth 100000 in
set_option maxHeartbeats 8000000 in
/-- gleaning/gleaningref1.SameRule -/
theorem gleaningref1_SameRule_b_ok (K : Rule → Rule → Option Bool) (hK : ∀ (a0 : Rule) (a1 : Rule) {r : Bool}, K a0 a1 = some r → Ok Try.prog 45 [.agg [.int .i64 a0.Kind, .int .i64 a0.N, .str a0.Key, .str a0.Value, .sl 5 (List.map enc23 a0.Kids)], .agg [.int .i64 a1.Kind, .int .i64 a1.N, .str a1.Key, .str a1.Value, .sl 5 (List.map enc23 a1.Kids)]] [] [] (.bool r) [] []) (a0 : Rule) (a1 : Rule) {r : Bool} (h : gleaningref1_SameRule_b K a0 a1 = some r) : Ok Try.prog 45 [.agg [.int .i64 a0.Kind, .int .i64 a0.N, .str a0.Key, .str a0.Value, .sl 5 (List.map enc23 a0.Kids)], .agg [.int .i64 a1.Kind, .int .i64 a1.N, .str a1.Key, .str a1.Value, .sl 5 (List.map enc23 a1.Kids)]] [] [] (.bool r) [] [] := by
  unfold gleaningref1_SameRule_b at h
  refine ok_of_code Try.func45 rfl (by show (2 : Nat) ≤ _; decide) (Nat.le_refl _) fun X => ?_
  refine aw_seq_k (fun K1 hK1 => ?_)
  refine aw_regL ?_
  refine alD (some 2) rfl rfl (do_box (by conv => lhs; whnf) rfl rfl) (by decide) ?_
  refine alD (some 3) rfl rfl (do_box (by conv => lhs; whnf) rfl rfl) (by decide) ?_
  refine alP (some 4) rfl rfl (does_assign (v := .bool false) (by exact rfl)) (by decide) ?_
  refine al_nil ?_
  refine hK1 _ ?_
  obtain ⟨q2, h, hk3⟩ := bnd_some h
  refine aw_cut (fun s => gleaningref1_SameRule_b_k0 K a0 a1 = some r ∧ s = lit [(2, .ptr 2 0 0), (3, .ptr 3 0 0)] [((2, 0), .box [.int .i64 a0.Kind, .int .i64 a0.N, .str a0.Key, .str a0.Value, .sl 5 (List.map enc23 a0.Kids)]), ((3, 0), .box [.int .i64 a1.Kind, .int .i64 a1.N, .str a1.Key, .str a1.Value, .sl 5 (List.map enc23 a1.Kids)])] [(2, 1), (3, 1)] X) ?_ ?_
  · skip
    refine aw_seq_k (fun K4 hK4 => ?_)
    refine aw_regL ?_
    refine alP (some 6) rfl rfl (does_fieldAddr (q := .ptr 2 0 0) (by conv => lhs; whnf) ty24 rfl ty3 (by decide) (by exact rfl)) (by decide) ?_
    refine alR (some 7) rfl rfl (does_load (v := .int .i64 a0.Kind) (by conv => lhs; whnf) (by conv => lhs; whnf) ty3 (by exact rfl)) (by decide) ?_
    refine alP (some 8) rfl rfl (does_fieldAddr (q := .ptr 3 0 0) (by conv => lhs; whnf) ty24 rfl ty3 (by decide) (by exact rfl)) (by decide) ?_
    refine alR (some 9) rfl rfl (does_load (v := .int .i64 a1.Kind) (by conv => lhs; whnf) (by conv => lhs; whnf) ty3 (by exact rfl)) (by decide) ?_
    refine alP (some 10) rfl rfl (does_bin (v := .bool (a0.Kind != a1.Kind)) (by conv => lhs; whnf) (by conv => lhs; whnf) rfl) (by decide) ?_
    refine alP (some 11) rfl rfl (does_move (v := .bool (a0.Kind != a1.Kind)) (by exact rfl)) (by decide) ?_
    refine al_bool (c := (a0.Kind != a1.Kind)) 11 rfl (fun c5 => ?_) (fun c5 => ?_)
    · have h := ifT c5 h
      refine alS (some 12) rfl rfl (by decide) ?_
      refine alS (some 13) rfl rfl (by decide) ?_
      refine alS (some 14) rfl rfl (by decide) ?_
      refine alS (some 15) rfl rfl (by decide) ?_
      refine alS (some 16) rfl rfl (by decide) ?_
      refine alP (some 17) rfl rfl (does_pick (v := .bool true) (by conv => lhs; whnf) (by exact rfl)) (by decide) ?_
      refine alP (some 18) rfl rfl (does_move (v := .bool true) (by exact rfl)) (by decide) ?_
      refine alS (some 19) rfl rfl (by decide) ?_
      refine alS (some 20) rfl rfl (by decide) ?_
      refine alS (some 21) rfl rfl (by decide) ?_
      refine alS (some 22) rfl rfl (by decide) ?_
      refine alS (some 23) rfl rfl (by decide) ?_
      refine alP (some 24) rfl rfl (does_pick (v := .bool true) (by conv => lhs; whnf) (by exact rfl)) (by decide) ?_
      refine alP (some 25) rfl rfl (does_move (v := .bool true) (by exact rfl)) (by decide) ?_
      refine alS (some 26) rfl rfl (by decide) ?_
      refine alS (some 27) rfl rfl (by decide) ?_
      refine alS (some 28) rfl rfl (by decide) ?_
      refine alS (some 29) rfl rfl (by decide) ?_
      refine alS (some 30) rfl rfl (by decide) ?_
      refine alP (some 31) rfl rfl (does_pick (v := .bool true) (by conv => lhs; whnf) (by exact rfl)) (by decide) ?_
      refine alP (some 32) rfl rfl (does_move (v := .bool true) (by exact rfl)) (by decide) ?_
      refine alS (some 33) rfl rfl (by decide) ?_
      refine alS (some 34) rfl rfl (by decide) ?_
      refine alS (some 35) rfl rfl (by decide) ?_
      refine alS (some 36) rfl rfl (by decide) ?_
      refine alS (some 37) rfl rfl (by decide) ?_
      refine alS (some 38) rfl rfl (by decide) ?_
      refine alS (some 39) rfl rfl (by decide) ?_
      refine alP (some 40) rfl rfl (does_pick (v := .bool true) (by conv => lhs; whnf) (by exact rfl)) (by decide) ?_
      refine al_nil ?_
      refine hK4 _ ?_
      refine aw_cond_t (by decide) rfl ?_
      refine aw_seq_k (fun K6 hK6 => ?_)
      refine aw_regL ?_
      refine alP (some 4) rfl rfl (does_assign (v := .bool false) (by exact rfl)) (by decide) ?_
      refine al_nil ?_
      refine hK6 _ ?_
      refine aw_ret ?_
      have h := leafR h hk3
      obtain rfl := Option.some.inj h
      exact ret_ok1 (by conv => lhs; whnf) (by conv => lhs; whnf) (by exact rfl) (.inr rfl) rfl
    · have h := ifF c5 h
      refine alP (some 12) rfl rfl (does_fieldAddr (q := .ptr 2 0 1) (by conv => lhs; whnf) ty24 rfl ty3 (by decide) (by exact rfl)) (by decide) ?_
      refine alR (some 13) rfl rfl (does_load (v := .int .i64 a0.N) (by conv => lhs; whnf) (by conv => lhs; whnf) ty3 (by exact rfl)) (by decide) ?_
      refine alP (some 14) rfl rfl (does_fieldAddr (q := .ptr 3 0 1) (by conv => lhs; whnf) ty24 rfl ty3 (by decide) (by exact rfl)) (by decide) ?_
      refine alR (some 15) rfl rfl (does_load (v := .int .i64 a1.N) (by conv => lhs; whnf) (by conv => lhs; whnf) ty3 (by exact rfl)) (by decide) ?_
      refine alP (some 16) rfl rfl (does_bin (v := .bool (a0.N != a1.N)) (by conv => lhs; whnf) (by conv => lhs; whnf) rfl) (by decide) ?_
      refine alP (some 17) rfl rfl (does_pick (v := .bool (a0.N != a1.N)) (by conv => lhs; whnf) (by exact rfl)) (by decide) ?_
      refine alP (some 18) rfl rfl (does_move (v := .bool (a0.N != a1.N)) (by exact rfl)) (by decide) ?_
      refine al_bool (c := (a0.N != a1.N)) 18 rfl (fun c7 => ?_) (fun c7 => ?_)
      · have h := ifT c7 h
        refine alS (some 19) rfl rfl (by decide) ?_
        refine alS (some 20) rfl rfl (by decide) ?_
        refine alS (some 21) rfl rfl (by decide) ?_
        refine alS (some 22) rfl rfl (by decide) ?_
        refine alS (some 23) rfl rfl (by decide) ?_
        refine alP (some 24) rfl rfl (does_pick (v := .bool true) (by conv => lhs; whnf) (by exact rfl)) (by decide) ?_
        refine alP (some 25) rfl rfl (does_move (v := .bool true) (by exact rfl)) (by decide) ?_
        refine alS (some 26) rfl rfl (by decide) ?_
        refine alS (some 27) rfl rfl (by decide) ?_
        refine alS (some 28) rfl rfl (by decide) ?_
        refine alS (some 29) rfl rfl (by decide) ?_
        refine alS (some 30) rfl rfl (by decide) ?_
        refine alP (some 31) rfl rfl (does_pick (v := .bool true) (by conv => lhs; whnf) (by exact rfl)) (by decide) ?_
        refine alP (some 32) rfl rfl (does_move (v := .bool true) (by exact rfl)) (by decide) ?_
        refine alS (some 33) rfl rfl (by decide) ?_
        refine alS (some 34) rfl rfl (by decide) ?_
        refine alS (some 35) rfl rfl (by decide) ?_
        refine alS (some 36) rfl rfl (by decide) ?_
        refine alS (some 37) rfl rfl (by decide) ?_
        refine alS (some 38) rfl rfl (by decide) ?_
        refine alS (some 39) rfl rfl (by decide) ?_
        refine alP (some 40) rfl rfl (does_pick (v := .bool true) (by conv => lhs; whnf) (by exact rfl)) (by decide) ?_
        refine al_nil ?_
        refine hK4 _ ?_
        refine aw_cond_t (by decide) rfl ?_
        refine aw_seq_k (fun K8 hK8 => ?_)
        refine aw_regL ?_
        refine alP (some 4) rfl rfl (does_assign (v := .bool false) (by exact rfl)) (by decide) ?_
        refine al_nil ?_
        refine hK8 _ ?_
        refine aw_ret ?_
        have h := leafR h hk3
        obtain rfl := Option.some.inj h
        exact ret_ok1 (by conv => lhs; whnf) (by conv => lhs; whnf) (by exact rfl) (.inr rfl) rfl
      · have h := ifF c7 h
        refine alP (some 19) rfl rfl (does_fieldAddr (q := .ptr 2 0 2) (by conv => lhs; whnf) ty24 rfl ty9 (by decide) (by exact rfl)) (by decide) ?_
        refine alR (some 20) rfl rfl (does_load (v := .str a0.Key) (by conv => lhs; whnf) (by conv => lhs; whnf) ty9 (by exact rfl)) (by decide) ?_
        refine alP (some 21) rfl rfl (does_fieldAddr (q := .ptr 3 0 2) (by conv => lhs; whnf) ty24 rfl ty9 (by decide) (by exact rfl)) (by decide) ?_
        refine alR (some 22) rfl rfl (does_load (v := .str a1.Key) (by conv => lhs; whnf) (by conv => lhs; whnf) ty9 (by exact rfl)) (by decide) ?_
        refine alP (some 23) rfl rfl (does_bin (v := .bool (!(ByteArray.toList a0.Key == ByteArray.toList a1.Key))) (by conv => lhs; whnf) (by conv => lhs; whnf) rfl) (by decide) ?_
        refine alP (some 24) rfl rfl (does_pick (v := .bool (!(ByteArray.toList a0.Key == ByteArray.toList a1.Key))) (by conv => lhs; whnf) (by exact rfl)) (by decide) ?_
        refine alP (some 25) rfl rfl (does_move (v := .bool (!(ByteArray.toList a0.Key == ByteArray.toList a1.Key))) (by exact rfl)) (by decide) ?_
        refine al_bool (c := (!(ByteArray.toList a0.Key == ByteArray.toList a1.Key))) 25 rfl (fun c9 => ?_) (fun c9 => ?_)
        · have h := ifT c9 h
          refine alS (some 26) rfl rfl (by decide) ?_
          refine alS (some 27) rfl rfl (by decide) ?_
          refine alS (some 28) rfl rfl (by decide) ?_
          refine alS (some 29) rfl rfl (by decide) ?_
          refine alS (some 30) rfl rfl (by decide) ?_
          refine alP (some 31) rfl rfl (does_pick (v := .bool true) (by conv => lhs; whnf) (by exact rfl)) (by decide) ?_
          refine alP (some 32) rfl rfl (does_move (v := .bool true) (by exact rfl)) (by decide) ?_
          refine alS (some 33) rfl rfl (by decide) ?_
          refine alS (some 34) rfl rfl (by decide) ?_
          refine alS (some 35) rfl rfl (by decide) ?_
          refine alS (some 36) rfl rfl (by decide) ?_
          refine alS (some 37) rfl rfl (by decide) ?_
          refine alS (some 38) rfl rfl (by decide) ?_
          refine alS (some 39) rfl rfl (by decide) ?_
          refine alP (some 40) rfl rfl (does_pick (v := .bool true) (by conv => lhs; whnf) (by exact rfl)) (by decide) ?_
          refine al_nil ?_
          refine hK4 _ ?_
          refine aw_cond_t (by decide) rfl ?_
          refine aw_seq_k (fun K10 hK10 => ?_)
          refine aw_regL ?_
          refine alP (some 4) rfl rfl (does_assign (v := .bool false) (by exact rfl)) (by decide) ?_
          refine al_nil ?_
          refine hK10 _ ?_
          refine aw_ret ?_
          have h := leafR h hk3
          obtain rfl := Option.some.inj h
          exact ret_ok1 (by conv => lhs; whnf) (by conv => lhs; whnf) (by exact rfl) (.inr rfl) rfl
        · have h := ifF c9 h
          refine alP (some 26) rfl rfl (does_fieldAddr (q := .ptr 2 0 3) (by conv => lhs; whnf) ty24 rfl ty9 (by decide) (by exact rfl)) (by decide) ?_
          refine alR (some 27) rfl rfl (does_load (v := .str a0.Value) (by conv => lhs; whnf) (by conv => lhs; whnf) ty9 (by exact rfl)) (by decide) ?_
          refine alP (some 28) rfl rfl (does_fieldAddr (q := .ptr 3 0 3) (by conv => lhs; whnf) ty24 rfl ty9 (by decide) (by exact rfl)) (by decide) ?_
          refine alR (some 29) rfl rfl (does_load (v := .str a1.Value) (by conv => lhs; whnf) (by conv => lhs; whnf) ty9 (by exact rfl)) (by decide) ?_
          refine alP (some 30) rfl rfl (does_bin (v := .bool (!(ByteArray.toList a0.Value == ByteArray.toList a1.Value))) (by conv => lhs; whnf) (by conv => lhs; whnf) rfl) (by decide) ?_
          refine alP (some 31) rfl rfl (does_pick (v := .bool (!(ByteArray.toList a0.Value == ByteArray.toList a1.Value))) (by conv => lhs; whnf) (by exact rfl)) (by decide) ?_
          refine alP (some 32) rfl rfl (does_move (v := .bool (!(ByteArray.toList a0.Value == ByteArray.toList a1.Value))) (by exact rfl)) (by decide) ?_
          refine al_bool (c := (!(ByteArray.toList a0.Value == ByteArray.toList a1.Value))) 32 rfl (fun c11 => ?_) (fun c11 => ?_)
          · have h := ifT c11 h
            refine alS (some 33) rfl rfl (by decide) ?_
            refine alS (some 34) rfl rfl (by decide) ?_
            refine alS (some 35) rfl rfl (by decide) ?_
            refine alS (some 36) rfl rfl (by decide) ?_
            refine alS (some 37) rfl rfl (by decide) ?_
            refine alS (some 38) rfl rfl (by decide) ?_
            refine alS (some 39) rfl rfl (by decide) ?_
            refine alP (some 40) rfl rfl (does_pick (v := .bool true) (by conv => lhs; whnf) (by exact rfl)) (by decide) ?_
            refine al_nil ?_
            refine hK4 _ ?_
            refine aw_cond_t (by decide) rfl ?_
            refine aw_seq_k (fun K12 hK12 => ?_)
            refine aw_regL ?_
            refine alP (some 4) rfl rfl (does_assign (v := .bool false) (by exact rfl)) (by decide) ?_
            refine al_nil ?_
            refine hK12 _ ?_
            refine aw_ret ?_
            have h := leafR h hk3
            obtain rfl := Option.some.inj h
            exact ret_ok1 (by conv => lhs; whnf) (by conv => lhs; whnf) (by exact rfl) (.inr rfl) rfl
          · have h := ifF c11 h
            refine alP (some 33) rfl rfl (does_fieldAddr (q := .ptr 2 0 4) (by conv => lhs; whnf) ty24 rfl ty22 (by decide) (by exact rfl)) (by decide) ?_
            refine alR (some 34) rfl rfl (does_load (v := .sl 5 (List.map enc23 a0.Kids)) (by conv => lhs; whnf) (by conv => lhs; whnf) ty22 (by exact rfl)) (by decide) ?_
            refine alP (some 35) rfl rfl ((does_len_sl (by conv => lhs; whnf) ty22).castp (v' := .int .i64 (List.length a0.Kids : Int)) (by exact len_map _)) (by decide) ?_
            refine alP (some 36) rfl rfl (does_fieldAddr (q := .ptr 3 0 4) (by conv => lhs; whnf) ty24 rfl ty22 (by decide) (by exact rfl)) (by decide) ?_
            refine alR (some 37) rfl rfl (does_load (v := .sl 5 (List.map enc23 a1.Kids)) (by conv => lhs; whnf) (by conv => lhs; whnf) ty22 (by exact rfl)) (by decide) ?_
            refine alP (some 38) rfl rfl ((does_len_sl (by conv => lhs; whnf) ty22).castp (v' := .int .i64 (List.length a1.Kids : Int)) (by exact len_map _)) (by decide) ?_
            refine alP (some 39) rfl rfl (does_bin (v := .bool ((List.length a0.Kids : Int) != (List.length a1.Kids : Int))) (by conv => lhs; whnf) (by conv => lhs; whnf) rfl) (by decide) ?_
            refine alP (some 40) rfl rfl (does_pick (v := .bool ((List.length a0.Kids : Int) != (List.length a1.Kids : Int))) (by conv => lhs; whnf) (by exact rfl)) (by decide) ?_
            refine al_nil ?_
            refine hK4 _ ?_
            refine aw_bool (b := ((List.length a0.Kids : Int) != (List.length a1.Kids : Int))) 40 rfl (fun c13 => ?_) (fun c13 => ?_)
            · have h := ifT c13 h
              refine aw_cond_t (by decide) rfl ?_
              refine aw_seq_k (fun K14 hK14 => ?_)
              refine aw_regL ?_
              refine alP (some 4) rfl rfl (does_assign (v := .bool false) (by exact rfl)) (by decide) ?_
              refine al_nil ?_
              refine hK14 _ ?_
              refine aw_ret ?_
              have h := leafR h hk3
              obtain rfl := Option.some.inj h
              exact ret_ok1 (by conv => lhs; whnf) (by conv => lhs; whnf) (by exact rfl) (.inr rfl) rfl
            · have h := ifF c13 h
              refine aw_cond_f (by decide) rfl ?_
              refine aw_skip ?_
              have h := leafL h hk3
              exact ⟨_, reb_lit [(2, .ptr 2 0 0), (3, .ptr 3 0 0)] [(2, 0), (3, 0)] [((2, 0), .box [.int .i64 a0.Kind, .int .i64 a0.N, .str a0.Key, .str a0.Value, .sl 5 (List.map enc23 a0.Kids)]), ((3, 0), .box [.int .i64 a1.Kind, .int .i64 a1.N, .str a1.Key, .str a1.Value, .sl 5 (List.map enc23 a1.Kids)])] [(2, 1), (3, 1)] (envOk_cons (by conv => lhs; whnf) (by exact rfl) (envOk_cons (by conv => lhs; whnf) (by exact rfl) envOk_nil)) (objOk_cons (by conv => lhs; whnf) (by conv => lhs; whnf) (by exact rfl) (by simp) (objOk_cons (by conv => lhs; whnf) (by conv => lhs; whnf) (by exact rfl) (by simp) objOk_nil)) (nodup_b rfl) (nodup_b rfl) rfl rfl, h, rfl⟩
  · rintro s ⟨h, rfl⟩
    unfold gleaningref1_SameRule_b_k0 at h
    refine aw_seq_k (fun K15 hK15 => ?_)
    refine aw_seq_k (fun K16 hK16 => ?_)
    refine aw_regL ?_
    refine alP (some 5) rfl rfl (does_assign (v := .int .i64 0) (by exact rfl)) (by decide) ?_
    refine al_nil ?_
    refine hK16 _ ?_
    refine aw_block ?_
    refine aw_loop' (fun m s => ∃ (v5_1 : Int), loopN (fun (s : Int) => gleaningref1_SameRule_b_l1 K a0 a1 s) m v5_1 = some r ∧ s = lit [(2, .ptr 2 0 0), (3, .ptr 3 0 0), (5, .int .i64 v5_1)] [((2, 0), .box [.int .i64 a0.Kind, .int .i64 a0.N, .str a0.Key, .str a0.Value, .sl 5 (List.map enc23 a0.Kids)]), ((3, 0), .box [.int .i64 a1.Kind, .int .i64 a1.N, .str a1.Key, .str a1.Value, .sl 5 (List.map enc23 a1.Kids)])] [(2, 1), (3, 1)] X) Fu
      ⟨_, reb_lit [(2, .ptr 2 0 0), (3, .ptr 3 0 0), (5, .int .i64 (0))] [(2, 0), (3, 0)] [((2, 0), .box [.int .i64 a0.Kind, .int .i64 a0.N, .str a0.Key, .str a0.Value, .sl 5 (List.map enc23 a0.Kids)]), ((3, 0), .box [.int .i64 a1.Kind, .int .i64 a1.N, .str a1.Key, .str a1.Value, .sl 5 (List.map enc23 a1.Kids)])] [(2, 1), (3, 1)] (envOk_cons (by conv => lhs; whnf) (by exact rfl) (envOk_cons (by conv => lhs; whnf) (by exact rfl) (envOk_cons (by conv => lhs; whnf) (by exact rfl) envOk_nil))) (objOk_cons (by conv => lhs; whnf) (by conv => lhs; whnf) (by exact rfl) (by simp) (objOk_cons (by conv => lhs; whnf) (by conv => lhs; whnf) (by exact rfl) (by simp) objOk_nil)) (nodup_b rfl) (nodup_b rfl) rfl rfl, 0, h, rfl⟩ ?_
    rintro m s ⟨v5_1, h, rfl⟩
    obtain ⟨m1, q17, rfl, h, hq18⟩ := loop_some h
    replace h : gleaningref1_SameRule_b_l1 K a0 a1 v5_1 = some q17 := h
    unfold gleaningref1_SameRule_b_l1 at h
    refine aw_seq_k (fun K19 hK19 => ?_)
    refine aw_seq_k (fun K20 hK20 => ?_)
    refine aw_regL ?_
    refine alP (some 41) rfl rfl (does_move (v := .int .i64 v5_1) (by exact rfl)) (by decide) ?_
    refine alP (some 42) rfl rfl (does_fieldAddr (q := .ptr 2 0 4) (by conv => lhs; whnf) ty24 rfl ty22 (by decide) (by exact rfl)) (by decide) ?_
    refine alR (some 43) rfl rfl (does_load (v := .sl 5 (List.map enc23 a0.Kids)) (by conv => lhs; whnf) (by conv => lhs; whnf) ty22 (by exact rfl)) (by decide) ?_
    refine alP (some 44) rfl rfl ((does_len_sl (by conv => lhs; whnf) ty22).castp (v' := .int .i64 (List.length a0.Kids : Int)) (by exact len_map _)) (by decide) ?_
    refine alP (some 45) rfl rfl (does_bin (v := .bool (decide (v5_1 < (List.length a0.Kids : Int)))) (by conv => lhs; whnf) (by conv => lhs; whnf) rfl) (by decide) ?_
    refine al_nil ?_
    refine hK20 _ ?_
    refine aw_bool (b := (decide (v5_1 < (List.length a0.Kids : Int)))) 45 rfl (fun c21 => ?_) (fun c21 => ?_)
    · have h := ifT c21 h
      refine aw_cond_t (by decide) rfl ?_
      refine aw_skip ?_
      refine hK19 _ ?_
      refine aw_seq_k (fun K22 hK22 => ?_)
      refine aw_block ?_
      refine aw_seq_k (fun K23 hK23 => ?_)
      refine aw_regd (by kernel_rfl) (by decide +kernel) ?_
      refine aoP (some 48) rfl rfl (does_fieldAddr (q := .ptr 2 0 4) (by conv => lhs; whnf) ty24 rfl ty22 (by decide) (by exact rfl)) (by decide) ?_
      refine aoR (some 49) rfl rfl (does_load (v := .sl 5 (List.map enc23 a0.Kids)) (by conv => lhs; whnf) (by conv => lhs; whnf) ty22 (by exact rfl)) (by decide) ?_
      refine aoP (some 50) rfl rfl (does_move (v := .int .i64 v5_1) (by exact rfl)) (by decide) ?_
      obtain ⟨g24, h⟩ := gd_some h
      obtain ⟨x25, hx25, h⟩ := bnd_some h
      refine aoP (some 51) rfl rfl (does_indexAddr_sl (el := .agg [.int .i64 x25.Kind, .int .i64 x25.N, .str x25.Key, .str x25.Value, .sl 5 (List.map enc23 x25.Kids)]) (by conv => lhs; whnf) (by conv => lhs; whnf) ty22 ty24 g24 (by exact map_getE (enc23_eq _) hx25)) (by decide) ?_
      refine aoR (some 52) rfl rfl (does_load (v := .agg [.int .i64 x25.Kind, .int .i64 x25.N, .str x25.Key, .str x25.Value, .sl 5 (List.map enc23 x25.Kids)]) (by conv => lhs; whnf) (by conv => lhs; whnf) ty24 (by exact rfl)) (by decide) ?_
      refine aoP (some 53) rfl rfl (does_fieldAddr (q := .ptr 3 0 4) (by conv => lhs; whnf) ty24 rfl ty22 (by decide) (by exact rfl)) (by decide) ?_
      refine aoR (some 54) rfl rfl (does_load (v := .sl 5 (List.map enc23 a1.Kids)) (by conv => lhs; whnf) (by conv => lhs; whnf) ty22 (by exact rfl)) (by decide) ?_
      refine aoP (some 55) rfl rfl (does_move (v := .int .i64 v5_1) (by exact rfl)) (by decide) ?_
      obtain ⟨g26, h⟩ := gd_some h
      obtain ⟨x27, hx27, h⟩ := bnd_some h
      refine aoP (some 56) rfl rfl (does_indexAddr_sl (el := .agg [.int .i64 x27.Kind, .int .i64 x27.N, .str x27.Key, .str x27.Value, .sl 5 (List.map enc23 x27.Kids)]) (by conv => lhs; whnf) (by conv => lhs; whnf) ty22 ty24 g26 (by exact map_getE (enc23_eq _) hx27)) (by decide) ?_
      refine aoR (some 57) rfl rfl (does_load (v := .agg [.int .i64 x27.Kind, .int .i64 x27.N, .str x27.Key, .str x27.Value, .sl 5 (List.map enc23 x27.Kids)]) (by conv => lhs; whnf) (by conv => lhs; whnf) ty24 (by exact rfl)) (by decide) ?_
      obtain ⟨x28, hx28, h⟩ := bnd_some h
      refine aoD (some 58) rfl rfl (do_call0 58 false (hK x25 x27 hx28) rfl ent45 rfl rfl) (by decide) ?_
      refine aoP (some 59) rfl rfl (does_un (v := .bool (!x28)) (by conv => lhs; whnf) rfl) (by decide) ?_
      refine ao_nil_d (by kernel_rfl) ?_
      refine hK23 _ ?_
      refine aw_bool (b := (!x28)) 59 rfl (fun c29 => ?_) (fun c29 => ?_)
      · have h := ifT c29 h
        refine aw_cond_t (by decide) rfl ?_
        refine aw_seq_k (fun K30 hK30 => ?_)
        refine aw_regL ?_
        refine alP (some 4) rfl rfl (does_assign (v := .bool false) (by exact rfl)) (by decide) ?_
        refine al_nil ?_
        refine hK30 _ ?_
        refine aw_ret ?_
        have h := leafR h hq18
        obtain rfl := Option.some.inj h
        exact ret_ok1 (by conv => lhs; whnf) (by conv => lhs; whnf) (by exact rfl) (.inr rfl) rfl
      · have h := ifF c29 h
        refine aw_cond_f (by decide) rfl ?_
        refine aw_skip ?_
        refine hK22 _ ?_
        refine aw_regL ?_
        refine alP (some 46) rfl rfl (does_move (v := .int .i64 v5_1) (by exact rfl)) (by decide) ?_
        refine alP (some 47) rfl rfl (does_bin (v := .int .i64 (IntKind.i64.wrap (v5_1 + 1))) (by conv => lhs; whnf) (by conv => lhs; whnf) rfl) (by decide) ?_
        refine alP (some 5) rfl rfl (does_assign (v := .int .i64 (IntKind.i64.wrap (v5_1 + 1))) (by exact rfl)) (by decide) ?_
        refine al_nil ?_
        have h := leafL h hq18
        exact ⟨m1, Nat.lt_succ_self _, _, reb_lit [(2, .ptr 2 0 0), (3, .ptr 3 0 0), (5, .int .i64 (IntKind.i64.wrap (v5_1 + 1)))] [(2, 0), (3, 0)] [((2, 0), .box [.int .i64 a0.Kind, .int .i64 a0.N, .str a0.Key, .str a0.Value, .sl 5 (List.map enc23 a0.Kids)]), ((3, 0), .box [.int .i64 a1.Kind, .int .i64 a1.N, .str a1.Key, .str a1.Value, .sl 5 (List.map enc23 a1.Kids)])] [(2, 1), (3, 1)] (envOk_cons (by conv => lhs; whnf) (by exact rfl) (envOk_cons (by conv => lhs; whnf) (by exact rfl) (envOk_cons (by conv => lhs; whnf) (by exact rfl) envOk_nil))) (objOk_cons (by conv => lhs; whnf) (by conv => lhs; whnf) (by exact rfl) (by simp) (objOk_cons (by conv => lhs; whnf) (by conv => lhs; whnf) (by exact rfl) (by simp) objOk_nil)) (nodup_b rfl) (nodup_b rfl) rfl rfl, (IntKind.i64.wrap (v5_1 + 1)), h, rfl⟩
    · have h := ifF c21 h
      refine aw_cond_f (by decide) rfl ?_
      refine aw_exit ?_
      have h := leafR h hq18
      refine hK15 _ ?_
      refine aw_seq_k (fun K31 hK31 => ?_)
      refine aw_regL ?_
      refine alP (some 4) rfl rfl (does_assign (v := .bool true) (by exact rfl)) (by decide) ?_
      refine al_nil ?_
      refine hK31 _ ?_
      refine aw_ret ?_
      obtain rfl := Option.some.inj h
      exact ret_ok1 (by conv => lhs; whnf) (by conv => lhs; whnf) (by exact rfl) (.inr rfl) rfl
def gleaningref1_SameRuleN : Nat → Rule → Rule → Option Bool
  | 0, _, _ => none
  | n + 1, a0, a1 => gleaningref1_SameRule_b (gleaningref1_SameRuleN n) a0 a1
theorem gleaningref1_SameRuleN_ok : ∀ (n : Nat) (a0 : Rule) (a1 : Rule) {r : Bool}, gleaningref1_SameRuleN n a0 a1 = some r → Ok Try.prog 45 [.agg [.int .i64 a0.Kind, .int .i64 a0.N, .str a0.Key, .str a0.Value, .sl 5 (List.map enc23 a0.Kids)], .agg [.int .i64 a1.Kind, .int .i64 a1.N, .str a1.Key, .str a1.Value, .sl 5 (List.map enc23 a1.Kids)]] [] [] (.bool r) [] []
  | 0, _, _, _, h => by simp [gleaningref1_SameRuleN] at h
  | n + 1, a0, a1, _, h => gleaningref1_SameRule_b_ok (gleaningref1_SameRuleN n) (gleaningref1_SameRuleN_ok n) a0 a1 h
def gleaningref1_SameRule (a0 : Rule) (a1 : Rule) : Option Bool := gleaningref1_SameRuleN Fu a0 a1
theorem gleaningref1_SameRule_ok (a0 : Rule) (a1 : Rule) {r : Bool} (h : gleaningref1_SameRule a0 a1 = some r) : Ok Try.prog 45 [.agg [.int .i64 a0.Kind, .int .i64 a0.N, .str a0.Key, .str a0.Value, .sl 5 (List.map enc23 a0.Kids)], .agg [.int .i64 a1.Kind, .int .i64 a1.N, .str a1.Key, .str a1.Value, .sl 5 (List.map enc23 a1.Kids)]] [] [] (.bool r) [] [] := gleaningref1_SameRuleN_ok Fu a0 a1 h
end Go.Proofs.Ytbfmmaabaenhgaa.Ab
