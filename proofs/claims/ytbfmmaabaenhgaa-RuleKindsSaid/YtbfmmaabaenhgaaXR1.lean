/- Policies as bytes: the program. -/
import Derived.Test.YtbfmmaabaenhgaaXR0
import Derived.Test.YtbfmmaabaenhgaaProg
namespace Go.Proofs.Ytbfmmaabaenhgaa.Ab
open Go Go.RowKit
set_option linter.unusedVariables false
set_option linter.unusedSimpArgs false
theorem ent42 : Ent Try.prog 42 := ⟨_, Try.func42, by kernel_rfl, rfl⟩
theorem ent46 : Ent Try.prog 46 := ⟨_, Try.func46, by kernel_rfl, rfl⟩
theorem ent71 : Ent Try.prog 71 := ⟨_, Try.func71, by kernel_rfl, rfl⟩
theorem ent73 : Ent Try.prog 73 := ⟨_, Try.func73, by kernel_rfl, rfl⟩
theorem ent75 : Ent Try.prog 75 := ⟨_, Try.func75, by kernel_rfl, rfl⟩
theorem ent97 : Ent Try.prog 97 := ⟨_, Try.func97, by kernel_rfl, rfl⟩
theorem ent100 : Ent Try.prog 100 := ⟨_, Try.func100, by kernel_rfl, rfl⟩
theorem ent109 : Ent Try.prog 109 := ⟨_, Try.func109, by kernel_rfl, rfl⟩
def rule_put_b_l1 (K : Writer → Rule → Option Writer) (a1 : Rule) (vb0_s_0_s_1 : List UInt8) (v38_1 : Int) : Option ((List UInt8 × Int) ⊕ Writer) :=
  if (decide (v38_1 < (List.length a1.Kids : Int))) = true then (gd (0 ≤ v38_1) (Option.bind (a1.Kids[(Int.toNat v38_1)]?) (fun (x23 : Rule) => Option.bind (K (Writer.mk vb0_s_0_s_1) x23) (fun (x24 : Writer) => some (Sum.inl (x24.B, (IntKind.i64.wrap (v38_1 + 1)))))))) else (some (Sum.inr (Writer.mk vb0_s_0_s_1)))
def rule_put_b_k0 (K : Writer → Rule → Option Writer) (a0 : Writer) (a1 : Rule) (v25_0 : Bool) : Option Writer :=
  if v25_0 = true then (Option.bind (ints_Writer_Num (Writer.mk (a0.B ++ [(u8 (IntKind.u8.wrap a1.Kind))])) [(List.length a1.Kids : Int)]) (fun (x13 : Writer) => loopN (fun (s : List UInt8 × Int) => rule_put_b_l1 K a1 s.1 s.2) Fu (x13.B, 0))) else (if (a1.Kind == 6) = true then (Option.bind (ints_Writer_Text (Writer.mk (a0.B ++ [(u8 (IntKind.u8.wrap a1.Kind))])) [a1.Key, a1.Value]) (fun (x27 : Writer) => some x27)) else (if (a1.Kind == 5) = true then (some (Writer.mk (a0.B ++ [(u8 (IntKind.u8.wrap a1.Kind))]))) else (Option.bind (ints_Writer_Num (Writer.mk (a0.B ++ [(u8 (IntKind.u8.wrap a1.Kind))])) [a1.N]) (fun (x30 : Writer) => some x30))))
def rule_put_b (K : Writer → Rule → Option Writer) (a0 : Writer) (a1 : Rule) : Option Writer :=
  gd ((List.length (a0.B ++ [(u8 (IntKind.u8.wrap a1.Kind))])) * 1 ≤ 140737488355328 ∧ (List.length (a0.B ++ [(u8 (IntKind.u8.wrap a1.Kind))])) ≤ 140737488355328) (Option.bind (if (a1.Kind == 1) = true then (some true) else (if (a1.Kind == 2) = true then (some true) else (some (a1.Kind == 3)))) (fun (s : Bool) => rule_put_b_k0 K a0 a1 s))
set_option maxRecDepth 100000 in
set_option maxHeartbeats 8000000 in
/-- gleaning/rule.put -/
theorem rule_put_b_ok (K : Writer → Rule → Option Writer) (hK : ∀ (a0 : Writer) (a1 : Rule) {r : Writer}, K a0 a1 = some r → Ok Try.prog 73 [.ptr 0 0 0, .agg [.int .i64 a1.Kind, .int .i64 a1.N, .str a1.Key, .str a1.Value, .sl 5 (List.map enc23 a1.Kids)]] [[.own 1 0]] [(5, 1, List.map enc5 a0.B)] (.tup []) [[.own 2 0]] [(5, 1, List.map enc5 r.B)]) (a0 : Writer) (a1 : Rule) {r : Writer} (h : rule_put_b K a0 a1 = some r) : Ok Try.prog 73 [.ptr 0 0 0, .agg [.int .i64 a1.Kind, .int .i64 a1.N, .str a1.Key, .str a1.Value, .sl 5 (List.map enc23 a1.Kids)]] [[.own 1 0]] [(5, 1, List.map enc5 a0.B)] (.tup []) [[.own 2 0]] [(5, 1, List.map enc5 r.B)] := by
  unfold rule_put_b at h
  refine ok_of_code Try.func73 rfl (by show (2 : Nat) ≤ _; decide) (Nat.le_refl _) fun X => ?_
  refine aw_seq_k (fun K1 hK1 => ?_)
  refine aw_regL ?_
  refine alD (some 3) rfl rfl (do_box (by conv => lhs; whnf) rfl rfl) (by decide) ?_
  refine al_nil ?_
  refine hK1 _ ?_
  refine aw_seq_k (fun K2 hK2 => ?_)
  refine aw_regd (by kernel_rfl) (by decide +kernel) ?_
  refine aoP (some 6) rfl rfl (does_move (v := .ptr 0 0 0) (by exact rfl)) (by decide) ?_
  refine aoP (some 7) rfl rfl (does_move (v := .ptr 0 0 0) (by exact rfl)) (by decide) ?_
  refine aoP (some 8) rfl rfl (does_nilCheck (p := .ptr 0 0 0) (by conv => lhs; whnf) rfl) (by decide) ?_
  refine aoP (some 9) rfl rfl (does_fieldAddr (q := .ptr 0 0 0) (by conv => lhs; whnf) ty87 rfl ty43 (by decide) (by exact rfl)) (by decide) ?_
  refine aoR (some 10) rfl rfl (does_load (v := .own 1 0) (by conv => lhs; whnf) (by conv => lhs; whnf) ty43 (by exact rfl)) (by decide) ?_
  refine aoP (some 11) rfl rfl (does_fieldAddr (q := .ptr 3 0 0) (by conv => lhs; whnf) ty24 rfl ty3 (by decide) (by exact rfl)) (by decide) ?_
  refine aoR (some 12) rfl rfl (does_load (v := .int .i64 a1.Kind) (by conv => lhs; whnf) (by conv => lhs; whnf) ty3 (by exact rfl)) (by decide) ?_
  refine aoP (some 13) rfl rfl ((does_conv_int (v := .int .u8 (IntKind.u8.wrap a1.Kind)) (by conv => lhs; whnf) (ty_some ty3) (ty_int ty5) rfl).castp (v' := .int .u8 ((u8 (IntKind.u8.wrap a1.Kind)).toNat : Int)) (by exact congrArg _ (u8_eq (u8_wrap _)))) (by decide) ?_
  refine aoD (some 14) rfl rfl (do_buildSlice (xs := List.map enc5 [(u8 (IntKind.u8.wrap a1.Kind))]) ty43 ty5 rfl rfl rfl rfl rfl rfl rfl rfl) (by decide) ?_
  obtain ⟨g3, h⟩ := gd_some h
  refine aoD (some 15) rfl rfl (do_append (v := List.map enc5 (a0.B ++ [(u8 (IntKind.u8.wrap a1.Kind))])) (by conv => lhs; whnf) (by conv => lhs; whnf) ty43 ty5 rfl rfl (by conv => lhs; whnf) (by first | exact .inl rfl | exact .inr ⟨rfl, rfl⟩) (by conv => lhs; whnf) (by first | exact .inr rfl | exact .inl rfl) (map_app _ _) (fit_map g3)) (by decide) ?_
  refine aoP (some 16) rfl rfl (does_nilCheck (p := .ptr 0 0 0) (by conv => lhs; whnf) rfl) (by decide) ?_
  refine aoP (some 17) rfl rfl (does_fieldAddr (q := .ptr 0 0 0) (by conv => lhs; whnf) ty87 rfl ty43 (by decide) (by exact rfl)) (by decide) ?_
  refine aoD none rfl rfl (do_store (cs' := [.own 15 0]) (by conv => lhs; whnf) (by conv => lhs; whnf) (by conv => lhs; whnf) ty43 rfl rfl rfl (by exact rfl)) (by decide) ?_
  refine ao_nil_d (by kernel_rfl) ?_
  refine hK2 _ ?_
  refine aw_seq_k (fun K4 hK4 => ?_)
  refine aw_regL ?_
  refine alP (some 18) rfl rfl (does_fieldAddr (q := .ptr 3 0 0) (by conv => lhs; whnf) ty24 rfl ty3 (by decide) (by exact rfl)) (by decide) ?_
  refine alR (some 19) rfl rfl (does_load (v := .int .i64 a1.Kind) (by conv => lhs; whnf) (by conv => lhs; whnf) ty3 (by exact rfl)) (by decide) ?_
  refine al_nil ?_
  refine hK4 _ ?_
  refine aw_block ?_
  obtain ⟨q5, h, hk6⟩ := bnd_some h
  refine aw_cut (fun s => ∃ (v25_0 : Bool), rule_put_b_k0 K a0 a1 v25_0 = some r ∧ s = lit [(0, .ptr 0 0 0), (3, .ptr 3 0 0), (19, .int .i64 a1.Kind), (25, .bool v25_0)] [((0, 0), .box [.own 15 0]), ((15, 0), .arr 5 1 false (List.map enc5 (a0.B ++ [(u8 (IntKind.u8.wrap a1.Kind))]))), ((3, 0), .box [.int .i64 a1.Kind, .int .i64 a1.N, .str a1.Key, .str a1.Value, .sl 5 (List.map enc23 a1.Kids)])] [(0, 1), (3, 1), (15, 1)] X) ?_ ?_
  · skip
    refine aw_seq_k (fun K7 hK7 => ?_)
    refine aw_regL ?_
    refine alP (some 26) rfl rfl (does_bin (v := .bool (a1.Kind == 1)) (by conv => lhs; whnf) (by conv => lhs; whnf) rfl) (by decide) ?_
    refine alP (some 25) rfl rfl (does_assign (v := .bool (a1.Kind == 1)) (by exact rfl)) (by decide) ?_
    refine al_nil ?_
    refine hK7 _ ?_
    refine aw_bool (b := (a1.Kind == 1)) 25 rfl (fun c8 => ?_) (fun c8 => ?_)
    · have h := ifT c8 h
      refine aw_cond_t (by decide) rfl ?_
      refine aw_skip ?_
      obtain rfl := Option.some.inj h
      have h := hk6
      exact ⟨_, reb_lit [(0, .ptr 0 0 0), (3, .ptr 3 0 0), (19, .int .i64 a1.Kind), (25, .bool true)] [(0, 0), (15, 0), (3, 0)] [((0, 0), .box [.own 15 0]), ((15, 0), .arr 5 1 false (List.map enc5 (a0.B ++ [(u8 (IntKind.u8.wrap a1.Kind))]))), ((3, 0), .box [.int .i64 a1.Kind, .int .i64 a1.N, .str a1.Key, .str a1.Value, .sl 5 (List.map enc23 a1.Kids)])] [(0, 1), (3, 1), (15, 1)] (envOk_cons (by conv => lhs; whnf) (by exact rfl) (envOk_cons (by conv => lhs; whnf) (by exact rfl) (envOk_cons (by conv => lhs; whnf) (by exact rfl) (envOk_cons (by conv => lhs; whnf) (by exact rfl) envOk_nil)))) (objOk_cons (by conv => lhs; whnf) (by conv => lhs; whnf) (by exact rfl) (by simp) (objOk_cons (by conv => lhs; whnf) (by conv => lhs; whnf) (by exact rfl) (by simp) (objOk_cons (by conv => lhs; whnf) (by conv => lhs; whnf) (by exact rfl) (by simp) objOk_nil))) (nodup_b rfl) (nodup_b rfl) rfl rfl, true, h, rfl⟩
    · have h := ifF c8 h
      refine aw_cond_f (by decide) rfl ?_
      refine aw_seq_k (fun K9 hK9 => ?_)
      refine aw_regL ?_
      refine alP (some 27) rfl rfl (does_bin (v := .bool (a1.Kind == 2)) (by conv => lhs; whnf) (by conv => lhs; whnf) rfl) (by decide) ?_
      refine alP (some 25) rfl rfl (does_assign (v := .bool (a1.Kind == 2)) (by exact rfl)) (by decide) ?_
      refine al_nil ?_
      refine hK9 _ ?_
      refine aw_bool (b := (a1.Kind == 2)) 25 rfl (fun c10 => ?_) (fun c10 => ?_)
      · have h := ifT c10 h
        refine aw_cond_t (by decide) rfl ?_
        refine aw_skip ?_
        obtain rfl := Option.some.inj h
        have h := hk6
        exact ⟨_, reb_lit [(0, .ptr 0 0 0), (3, .ptr 3 0 0), (19, .int .i64 a1.Kind), (25, .bool true)] [(0, 0), (15, 0), (3, 0)] [((0, 0), .box [.own 15 0]), ((15, 0), .arr 5 1 false (List.map enc5 (a0.B ++ [(u8 (IntKind.u8.wrap a1.Kind))]))), ((3, 0), .box [.int .i64 a1.Kind, .int .i64 a1.N, .str a1.Key, .str a1.Value, .sl 5 (List.map enc23 a1.Kids)])] [(0, 1), (3, 1), (15, 1)] (envOk_cons (by conv => lhs; whnf) (by exact rfl) (envOk_cons (by conv => lhs; whnf) (by exact rfl) (envOk_cons (by conv => lhs; whnf) (by exact rfl) (envOk_cons (by conv => lhs; whnf) (by exact rfl) envOk_nil)))) (objOk_cons (by conv => lhs; whnf) (by conv => lhs; whnf) (by exact rfl) (by simp) (objOk_cons (by conv => lhs; whnf) (by conv => lhs; whnf) (by exact rfl) (by simp) (objOk_cons (by conv => lhs; whnf) (by conv => lhs; whnf) (by exact rfl) (by simp) objOk_nil))) (nodup_b rfl) (nodup_b rfl) rfl rfl, true, h, rfl⟩
      · have h := ifF c10 h
        refine aw_cond_f (by decide) rfl ?_
        refine aw_regL ?_
        refine alP (some 28) rfl rfl (does_bin (v := .bool (a1.Kind == 3)) (by conv => lhs; whnf) (by conv => lhs; whnf) rfl) (by decide) ?_
        refine alP (some 25) rfl rfl (does_assign (v := .bool (a1.Kind == 3)) (by exact rfl)) (by decide) ?_
        refine al_nil ?_
        obtain rfl := Option.some.inj h
        have h := hk6
        exact ⟨_, reb_lit [(0, .ptr 0 0 0), (3, .ptr 3 0 0), (19, .int .i64 a1.Kind), (25, .bool (a1.Kind == 3))] [(0, 0), (15, 0), (3, 0)] [((0, 0), .box [.own 15 0]), ((15, 0), .arr 5 1 false (List.map enc5 (a0.B ++ [(u8 (IntKind.u8.wrap a1.Kind))]))), ((3, 0), .box [.int .i64 a1.Kind, .int .i64 a1.N, .str a1.Key, .str a1.Value, .sl 5 (List.map enc23 a1.Kids)])] [(0, 1), (3, 1), (15, 1)] (envOk_cons (by conv => lhs; whnf) (by exact rfl) (envOk_cons (by conv => lhs; whnf) (by exact rfl) (envOk_cons (by conv => lhs; whnf) (by exact rfl) (envOk_cons (by conv => lhs; whnf) (by exact rfl) envOk_nil)))) (objOk_cons (by conv => lhs; whnf) (by conv => lhs; whnf) (by exact rfl) (by simp) (objOk_cons (by conv => lhs; whnf) (by conv => lhs; whnf) (by exact rfl) (by simp) (objOk_cons (by conv => lhs; whnf) (by conv => lhs; whnf) (by exact rfl) (by simp) objOk_nil))) (nodup_b rfl) (nodup_b rfl) rfl rfl, (a1.Kind == 3), h, rfl⟩
  · rintro s ⟨v25_0, h, rfl⟩
    unfold rule_put_b_k0 at h
    refine aw_bool (b := v25_0) 25 rfl (fun c11 => ?_) (fun c11 => ?_)
    · have h := ifT c11 h
      refine aw_cond_t (by decide) rfl ?_
      refine aw_seq_k (fun K12 hK12 => ?_)
      refine aw_regL ?_
      refine alP (some 29) rfl rfl (does_move (v := .ptr 0 0 0) (by exact rfl)) (by decide) ?_
      refine alP (some 30) rfl rfl (does_fieldAddr (q := .ptr 3 0 4) (by conv => lhs; whnf) ty24 rfl ty22 (by decide) (by exact rfl)) (by decide) ?_
      refine alR (some 31) rfl rfl (does_load (v := .sl 5 (List.map enc23 a1.Kids)) (by conv => lhs; whnf) (by conv => lhs; whnf) ty22 (by exact rfl)) (by decide) ?_
      refine alP (some 32) rfl rfl ((does_len_sl (by conv => lhs; whnf) ty22).castp (v' := .int .i64 (List.length a1.Kids : Int)) (by exact len_map _)) (by decide) ?_
      refine alD (some 33) rfl rfl (do_buildSlice (xs := List.map enc2 [(List.length a1.Kids : Int)]) ty129 ty3 rfl rfl rfl rfl rfl rfl rfl rfl) (by decide) ?_
      obtain ⟨x13, hx13, h⟩ := bnd_some h
      refine alD (some 34) rfl rfl (does_frz (d := 33) (n := 0) (by conv => lhs; whnf) (do_callG (bcs := [[.own 15 0]]) [(0, 0)] [(15, 0)] [(33, 0)] 34 false (ints_Writer_Num_ok (Writer.mk (a0.B ++ [(u8 (IntKind.u8.wrap a1.Kind))])) [(List.length a1.Kids : Int)] hx13) rfl ent77 ⟨(by exact rfl), trivial⟩ (rowsOk_cons (by conv => lhs; whnf) (by exact rfl) trivial) rfl rfl rfl rfl rfl rfl rfl rfl (.inl ⟨⟨_, _, _, rfl⟩, trivial⟩))) (by decide) ?_
      refine al_nil ?_
      refine hK12 _ ?_
      refine aw_seq_k (fun K14 hK14 => ?_)
      refine aw_regL ?_
      refine alP (some 35) rfl rfl (does_fieldAddr (q := .ptr 3 0 4) (by conv => lhs; whnf) ty24 rfl ty22 (by decide) (by exact rfl)) (by decide) ?_
      refine alR (some 36) rfl rfl (does_load (v := .sl 5 (List.map enc23 a1.Kids)) (by conv => lhs; whnf) (by conv => lhs; whnf) ty22 (by exact rfl)) (by decide) ?_
      refine alP (some 37) rfl rfl ((does_len_sl (by conv => lhs; whnf) ty22).castp (v' := .int .i64 (List.length a1.Kids : Int)) (by exact len_map _)) (by decide) ?_
      refine alP (some 38) rfl rfl (does_move (v := .int .i64 0) (by exact rfl)) (by decide) ?_
      refine al_nil ?_
      refine hK14 _ ?_
      refine aw_block ?_
      refine aw_loop' (fun m s => ∃ (vb0_s_0_s_1 : List UInt8), ∃ (v38_1 : Int), loopN (fun (s : List UInt8 × Int) => rule_put_b_l1 K a1 s.1 s.2) m (vb0_s_0_s_1, v38_1) = some r ∧ s = lit [(0, .ptr 0 0 0), (36, .sl 5 (List.map enc23 a1.Kids)), (37, .int .i64 (List.length a1.Kids : Int)), (38, .int .i64 v38_1)] [((0, 0), .box [.own 34 0]), ((34, 0), .arr 5 1 false (List.map enc5 vb0_s_0_s_1))] [(0, 1), (34, 1)] X) Fu
        ⟨_, reb_lit [(0, .ptr 0 0 0), (36, .sl 5 (List.map enc23 a1.Kids)), (37, .int .i64 (List.length a1.Kids : Int)), (38, .int .i64 (0))] [(0, 0), (34, 0)] [((0, 0), .box [.own 34 0]), ((34, 0), .arr 5 1 false (List.map enc5 x13.B))] [(0, 1), (34, 1)] (envOk_cons (by conv => lhs; whnf) (by exact rfl) (envOk_cons (by conv => lhs; whnf) (by exact rfl) (envOk_cons (by conv => lhs; whnf) (by exact rfl) (envOk_cons (by conv => lhs; whnf) (by exact rfl) envOk_nil)))) (objOk_cons (by conv => lhs; whnf) (by conv => lhs; whnf) (by exact rfl) (by simp) (objOk_cons (by conv => lhs; whnf) (by conv => lhs; whnf) (by exact rfl) (by simp) objOk_nil)) (nodup_b rfl) (nodup_b rfl) rfl rfl, x13.B, 0, h, rfl⟩ ?_
      rintro m s ⟨vb0_s_0_s_1, v38_1, h, rfl⟩
      obtain ⟨m1, q15, rfl, h, hq16⟩ := loop_some h
      replace h : rule_put_b_l1 K a1 vb0_s_0_s_1 v38_1 = some q15 := h
      unfold rule_put_b_l1 at h
      refine aw_seq_k (fun K17 hK17 => ?_)
      refine aw_regL ?_
      refine alP (some 39) rfl rfl (does_bin (v := .bool (decide (v38_1 < (List.length a1.Kids : Int)))) (by conv => lhs; whnf) (by conv => lhs; whnf) rfl) (by decide) ?_
      refine al_nil ?_
      refine hK17 _ ?_
      refine aw_seq_k (fun K18 hK18 => ?_)
      refine aw_bool (b := (decide (v38_1 < (List.length a1.Kids : Int)))) 39 rfl (fun c19 => ?_) (fun c19 => ?_)
      · have h := ifT c19 h
        refine aw_cond_t (by decide) rfl ?_
        refine aw_skip ?_
        refine hK18 _ ?_
        refine aw_seq_k (fun K20 hK20 => ?_)
        refine aw_block ?_
        refine aw_seq_k (fun K21 hK21 => ?_)
        refine aw_regL ?_
        obtain ⟨g22, h⟩ := gd_some h
        obtain ⟨x23, hx23, h⟩ := bnd_some h
        refine alP (some 40) rfl rfl (does_indexAddr_sl (el := .agg [.int .i64 x23.Kind, .int .i64 x23.N, .str x23.Key, .str x23.Value, .sl 5 (List.map enc23 x23.Kids)]) (by conv => lhs; whnf) (by conv => lhs; whnf) ty22 ty24 g22 (by exact map_getE (enc23_eq _) hx23)) (by decide) ?_
        refine alR (some 41) rfl rfl (does_load (v := .agg [.int .i64 x23.Kind, .int .i64 x23.N, .str x23.Key, .str x23.Value, .sl 5 (List.map enc23 x23.Kids)]) (by conv => lhs; whnf) (by conv => lhs; whnf) ty24 (by exact rfl)) (by decide) ?_
        refine alD (some 5) rfl rfl (do_new ty24 rfl rfl) (by decide) ?_
        refine alD none rfl rfl (do_store (cs' := [.int .i64 x23.Kind, .int .i64 x23.N, .str x23.Key, .str x23.Value, .sl 5 (List.map enc23 x23.Kids)]) (by conv => lhs; whnf) (by conv => lhs; whnf) (by conv => lhs; whnf) ty24 rfl rfl rfl (by exact rfl)) (by decide) ?_
        refine al_nil ?_
        refine hK21 _ ?_
        refine aw_regL ?_
        refine alP (some 42) rfl rfl (does_move (v := .ptr 0 0 0) (by exact rfl)) (by decide) ?_
        refine alR (some 43) rfl rfl (does_load (v := .agg [.int .i64 x23.Kind, .int .i64 x23.N, .str x23.Key, .str x23.Value, .sl 5 (List.map enc23 x23.Kids)]) (by conv => lhs; whnf) (by conv => lhs; whnf) ty24 (by exact rfl)) (by decide) ?_
        obtain ⟨x24, hx24, h⟩ := bnd_some h
        refine alD (some 44) rfl rfl (do_callG (bcs := [[.own 34 0]]) [(0, 0)] [(34, 0)] [] 44 false (hK (Writer.mk vb0_s_0_s_1) x23 hx24) rfl ent73 ⟨(by exact rfl), trivial⟩ (rowsOk_cons (by conv => lhs; whnf) (by exact rfl) trivial) rfl rfl rfl rfl rfl rfl rfl rfl (.inl trivial)) (by decide) ?_
        refine al_nil ?_
        refine hK20 _ ?_
        refine aw_regL ?_
        refine alP (some 45) rfl rfl (does_bin (v := .int .i64 (IntKind.i64.wrap (v38_1 + 1))) (by conv => lhs; whnf) (by conv => lhs; whnf) rfl) (by decide) ?_
        refine alP (some 38) rfl rfl (does_move (v := .int .i64 (IntKind.i64.wrap (v38_1 + 1))) (by exact rfl)) (by decide) ?_
        refine al_nil ?_
        have h := leafL h hq16
        exact ⟨m1, Nat.lt_succ_self _, _, reb_lit [(0, .ptr 0 0 0), (36, .sl 5 (List.map enc23 a1.Kids)), (37, .int .i64 (List.length a1.Kids : Int)), (38, .int .i64 (IntKind.i64.wrap (v38_1 + 1)))] [(0, 0), (44, 0)] [((0, 0), .box [.own 34 0]), ((34, 0), .arr 5 1 false (List.map enc5 x24.B))] [(0, 1), (34, 1)] (envOk_cons (by conv => lhs; whnf) (by exact rfl) (envOk_cons (by conv => lhs; whnf) (by exact rfl) (envOk_cons (by conv => lhs; whnf) (by exact rfl) (envOk_cons (by conv => lhs; whnf) (by exact rfl) envOk_nil)))) (objOk_cons (by conv => lhs; whnf) (by conv => lhs; whnf) (by exact rfl) (by simp) (objOk_cons (by conv => lhs; whnf) (by conv => lhs; whnf) (by exact rfl) (by simp) objOk_nil)) (nodup_b rfl) (nodup_b rfl) rfl rfl, x24.B, (IntKind.i64.wrap (v38_1 + 1)), h, rfl⟩
      · have h := ifF c19 h
        refine aw_cond_f (by decide) rfl ?_
        refine aw_exit ?_
        have h := leafR h hq16
        obtain rfl := Option.some.inj h
        exact ret_okB [(34, 0)] (by conv => lhs; whnf) (by conv => lhs; whnf) (by exact rfl) (rowsOk_cons (by conv => lhs; whnf) (by exact rfl) trivial) (boxesOk_cons (by conv => lhs; whnf) (by conv => lhs; whnf) (by exact rfl) trivial) (nodup_b rfl) (.inl rfl) rfl
    · have h := ifF c11 h
      refine aw_cond_f (by decide) rfl ?_
      refine aw_seq_k (fun K25 hK25 => ?_)
      refine aw_regL ?_
      refine alP (some 47) rfl rfl (does_bin (v := .bool (a1.Kind == 6)) (by conv => lhs; whnf) (by conv => lhs; whnf) rfl) (by decide) ?_
      refine alP (some 46) rfl rfl (does_assign (v := .bool (a1.Kind == 6)) (by exact rfl)) (by decide) ?_
      refine al_nil ?_
      refine hK25 _ ?_
      refine aw_bool (b := (a1.Kind == 6)) 46 rfl (fun c26 => ?_) (fun c26 => ?_)
      · have h := ifT c26 h
        refine aw_cond_t (by decide) rfl ?_
        refine aw_regL ?_
        refine alP (some 48) rfl rfl (does_move (v := .ptr 0 0 0) (by exact rfl)) (by decide) ?_
        refine alP (some 49) rfl rfl (does_fieldAddr (q := .ptr 3 0 2) (by conv => lhs; whnf) ty24 rfl ty9 (by decide) (by exact rfl)) (by decide) ?_
        refine alR (some 50) rfl rfl (does_load (v := .str a1.Key) (by conv => lhs; whnf) (by conv => lhs; whnf) ty9 (by exact rfl)) (by decide) ?_
        refine alP (some 51) rfl rfl (does_fieldAddr (q := .ptr 3 0 3) (by conv => lhs; whnf) ty24 rfl ty9 (by decide) (by exact rfl)) (by decide) ?_
        refine alR (some 52) rfl rfl (does_load (v := .str a1.Value) (by conv => lhs; whnf) (by conv => lhs; whnf) ty9 (by exact rfl)) (by decide) ?_
        refine alD (some 53) rfl rfl (do_buildSlice (xs := List.map enc9 [a1.Key, a1.Value]) ty137 ty9 rfl rfl rfl rfl rfl rfl rfl rfl) (by decide) ?_
        obtain ⟨x27, hx27, h⟩ := bnd_some h
        refine alD (some 54) rfl rfl (does_frz (d := 53) (n := 0) (by conv => lhs; whnf) (do_callG (bcs := [[.own 15 0]]) [(0, 0)] [(15, 0)] [(53, 0)] 54 false (ints_Writer_Text_ok (Writer.mk (a0.B ++ [(u8 (IntKind.u8.wrap a1.Kind))])) [a1.Key, a1.Value] hx27) rfl ent97 ⟨(by exact rfl), trivial⟩ (rowsOk_cons (by conv => lhs; whnf) (by exact rfl) trivial) rfl rfl rfl rfl rfl rfl rfl rfl (.inl ⟨⟨_, _, _, rfl⟩, trivial⟩))) (by decide) ?_
        refine al_nil ?_
        obtain rfl := Option.some.inj h
        exact ret_okB [(54, 0)] (by conv => lhs; whnf) (by conv => lhs; whnf) (by exact rfl) (rowsOk_cons (by conv => lhs; whnf) (by exact rfl) trivial) (boxesOk_cons (by conv => lhs; whnf) (by conv => lhs; whnf) (by exact rfl) trivial) (nodup_b rfl) (.inl rfl) rfl
      · have h := ifF c26 h
        refine aw_cond_f (by decide) rfl ?_
        refine aw_seq_k (fun K28 hK28 => ?_)
        refine aw_regL ?_
        refine alP (some 56) rfl rfl (does_bin (v := .bool (a1.Kind == 5)) (by conv => lhs; whnf) (by conv => lhs; whnf) rfl) (by decide) ?_
        refine alP (some 55) rfl rfl (does_assign (v := .bool (a1.Kind == 5)) (by exact rfl)) (by decide) ?_
        refine al_nil ?_
        refine hK28 _ ?_
        refine aw_bool (b := (a1.Kind == 5)) 55 rfl (fun c29 => ?_) (fun c29 => ?_)
        · have h := ifT c29 h
          refine aw_cond_t (by decide) rfl ?_
          refine aw_skip ?_
          obtain rfl := Option.some.inj h
          exact ret_okB [(15, 0)] (by conv => lhs; whnf) (by conv => lhs; whnf) (by exact rfl) (rowsOk_cons (by conv => lhs; whnf) (by exact rfl) trivial) (boxesOk_cons (by conv => lhs; whnf) (by conv => lhs; whnf) (by exact rfl) trivial) (nodup_b rfl) (.inl rfl) rfl
        · have h := ifF c29 h
          refine aw_cond_f (by decide) rfl ?_
          refine aw_regL ?_
          refine alP (some 20) rfl rfl (does_move (v := .ptr 0 0 0) (by exact rfl)) (by decide) ?_
          refine alP (some 21) rfl rfl (does_fieldAddr (q := .ptr 3 0 1) (by conv => lhs; whnf) ty24 rfl ty3 (by decide) (by exact rfl)) (by decide) ?_
          refine alR (some 22) rfl rfl (does_load (v := .int .i64 a1.N) (by conv => lhs; whnf) (by conv => lhs; whnf) ty3 (by exact rfl)) (by decide) ?_
          refine alD (some 23) rfl rfl (do_buildSlice (xs := List.map enc2 [a1.N]) ty129 ty3 rfl rfl rfl rfl rfl rfl rfl rfl) (by decide) ?_
          obtain ⟨x30, hx30, h⟩ := bnd_some h
          refine alD (some 24) rfl rfl (does_frz (d := 23) (n := 0) (by conv => lhs; whnf) (do_callG (bcs := [[.own 15 0]]) [(0, 0)] [(15, 0)] [(23, 0)] 24 false (ints_Writer_Num_ok (Writer.mk (a0.B ++ [(u8 (IntKind.u8.wrap a1.Kind))])) [a1.N] hx30) rfl ent77 ⟨(by exact rfl), trivial⟩ (rowsOk_cons (by conv => lhs; whnf) (by exact rfl) trivial) rfl rfl rfl rfl rfl rfl rfl rfl (.inl ⟨⟨_, _, _, rfl⟩, trivial⟩))) (by decide) ?_
          refine al_nil ?_
          obtain rfl := Option.some.inj h
          exact ret_okB [(24, 0)] (by conv => lhs; whnf) (by conv => lhs; whnf) (by exact rfl) (rowsOk_cons (by conv => lhs; whnf) (by exact rfl) trivial) (boxesOk_cons (by conv => lhs; whnf) (by conv => lhs; whnf) (by exact rfl) trivial) (nodup_b rfl) (.inl rfl) rfl
def rule_putN : Nat → Writer → Rule → Option Writer
  | 0, _, _ => none
  | n + 1, a0, a1 => rule_put_b (rule_putN n) a0 a1
theorem rule_putN_ok : ∀ (n : Nat) (a0 : Writer) (a1 : Rule) {r : Writer}, rule_putN n a0 a1 = some r → Ok Try.prog 73 [.ptr 0 0 0, .agg [.int .i64 a1.Kind, .int .i64 a1.N, .str a1.Key, .str a1.Value, .sl 5 (List.map enc23 a1.Kids)]] [[.own 1 0]] [(5, 1, List.map enc5 a0.B)] (.tup []) [[.own 2 0]] [(5, 1, List.map enc5 r.B)]
  | 0, _, _, _, h => by simp [rule_putN] at h
  | n + 1, a0, a1, _, h => rule_put_b_ok (rule_putN n) (rule_putN_ok n) a0 a1 h
def rule_put (a0 : Writer) (a1 : Rule) : Option Writer := rule_putN Fu a0 a1
theorem rule_put_ok (a0 : Writer) (a1 : Rule) {r : Writer} (h : rule_put a0 a1 = some r) : Ok Try.prog 73 [.ptr 0 0 0, .agg [.int .i64 a1.Kind, .int .i64 a1.N, .str a1.Key, .str a1.Value, .sl 5 (List.map enc23 a1.Kids)]] [[.own 1 0]] [(5, 1, List.map enc5 a0.B)] (.tup []) [[.own 2 0]] [(5, 1, List.map enc5 r.B)] := rule_putN_ok Fu a0 a1 h
def rule_Bytes (a0 : Rule) : Option (List UInt8) :=
  Option.bind (rule_Right a0) (fun (x4 : Bool) => if (!x4) = true then (some []) else (Option.bind (rule_put (Writer.mk []) a0) (fun (x9 : Writer) => some x9.B)))
set_option maxRecDepth 100000 in
set_option maxHeartbeats 8000000 in
/-- gleaning/rule.Bytes -/
theorem rule_Bytes_ok (a0 : Rule) {r : List UInt8} (h : rule_Bytes a0 = some r) : Ok Try.prog 43 [.agg [.int .i64 a0.Kind, .int .i64 a0.N, .str a0.Key, .str a0.Value, .sl 5 (List.map enc23 a0.Kids)]] [] [] (.own 2 0) [] [(5, 1, List.map enc5 r)] := by
  unfold rule_Bytes at h
  refine ok_of_code Try.func43 rfl (by show (1 : Nat) ≤ _; decide) (Nat.le_refl _) fun X => ?_
  refine aw_seq_k (fun K1 hK1 => ?_)
  refine aw_regL ?_
  refine alD (some 1) rfl rfl (do_box (by conv => lhs; whnf) rfl rfl) (by decide) ?_
  refine alP (some 2) rfl rfl (does_assign (v := .nil) (by exact rfl)) (by decide) ?_
  refine al_nil ?_
  refine hK1 _ ?_
  refine aw_seq_k (fun K2 hK2 => ?_)
  refine aw_seq_k (fun K3 hK3 => ?_)
  refine aw_regL ?_
  refine alR (some 4) rfl rfl (does_load (v := .agg [.int .i64 a0.Kind, .int .i64 a0.N, .str a0.Key, .str a0.Value, .sl 5 (List.map enc23 a0.Kids)]) (by conv => lhs; whnf) (by conv => lhs; whnf) ty24 (by exact rfl)) (by decide) ?_
  obtain ⟨x4, hx4, h⟩ := bnd_some h
  refine alD (some 5) rfl rfl (do_call0 5 false (rule_Right_ok a0 hx4) rfl ent42 rfl rfl) (by decide) ?_
  refine alP (some 6) rfl rfl (does_un (v := .bool (!x4)) (by conv => lhs; whnf) rfl) (by decide) ?_
  refine al_nil ?_
  refine hK3 _ ?_
  refine aw_bool (b := (!x4)) 6 rfl (fun c5 => ?_) (fun c5 => ?_)
  · have h := ifT c5 h
    refine aw_cond_t (by decide) rfl ?_
    refine aw_seq_k (fun K6 hK6 => ?_)
    refine aw_regL ?_
    refine alP (some 2) rfl rfl (does_assign (v := .nil) (by exact rfl)) (by decide) ?_
    refine al_nil ?_
    refine hK6 _ ?_
    refine aw_nilOwn 2 5 1 (by conv => lhs; whnf) (by decide) (by decide) ?_
    refine aw_ret ?_
    obtain rfl := Option.some.inj h
    exact ret_okR [(2, 0)] (by conv => lhs; whnf) (by conv => lhs; whnf) (by exact rfl) (rowsOk_cons (by conv => lhs; whnf) (by exact rfl) trivial) (nodup_b rfl) (.inr rfl) rfl
  · have h := ifF c5 h
    refine aw_cond_f (by decide) rfl ?_
    refine aw_skip ?_
    refine hK2 _ ?_
    refine aw_seq_k (fun K7 hK7 => ?_)
    refine aw_regL ?_
    refine alP (some 7) rfl rfl (do_build_struct (cs := [.nil]) ty87 rfl [⟨.slice 5, 1, 24, [.nil]⟩] (by simp only [List.map, ty43]) (by rfl) (by exact rfl)) (by decide) ?_
    refine alD (some 8) rfl rfl (do_box (by conv => lhs; whnf) rfl rfl) (by decide) ?_
    refine alP (some 3) rfl rfl (does_assign (v := .ptr 8 0 0) (by exact rfl)) (by decide) ?_
    refine al_nil ?_
    refine hK7 _ ?_
    refine aw_seq_k (fun K8 hK8 => ?_)
    refine aw_nilOwnC 8 0 0 8 5 1 (cs := [.nil]) (by exact rfl) rfl (by decide) ?_
    refine aw_regL ?_
    refine alP (some 9) rfl rfl (does_move (v := .ptr 8 0 0) (by exact rfl)) (by decide) ?_
    refine alR (some 10) rfl rfl (does_load (v := .agg [.int .i64 a0.Kind, .int .i64 a0.N, .str a0.Key, .str a0.Value, .sl 5 (List.map enc23 a0.Kids)]) (by conv => lhs; whnf) (by conv => lhs; whnf) ty24 (by exact rfl)) (by decide) ?_
    obtain ⟨x9, hx9, h⟩ := bnd_some h
    refine alD (some 11) rfl rfl (do_callG (bcs := [[.own 8 1]]) [(8, 0)] [(8, 1)] [] 11 false (rule_put_ok (Writer.mk []) a0 hx9) rfl ent73 ⟨(by exact rfl), trivial⟩ (rowsOk_cons (by conv => lhs; whnf) (by exact rfl) trivial) rfl rfl rfl rfl rfl rfl rfl rfl (.inl trivial)) (by decide) ?_
    refine al_nil ?_
    refine hK8 _ ?_
    refine aw_seq_k (fun K10 hK10 => ?_)
    refine aw_regL ?_
    refine alP (some 12) rfl rfl (does_move (v := .ptr 8 0 0) (by exact rfl)) (by decide) ?_
    refine alP (some 13) rfl rfl (does_nilCheck (p := .ptr 8 0 0) (by conv => lhs; whnf) rfl) (by decide) ?_
    refine alP (some 14) rfl rfl (does_fieldAddr (q := .ptr 8 0 0) (by conv => lhs; whnf) ty87 rfl ty43 (by decide) (by exact rfl)) (by decide) ?_
    refine alR (some 15) rfl rfl (does_load (v := .own 11 0) (by conv => lhs; whnf) (by conv => lhs; whnf) ty43 (by exact rfl)) (by decide) ?_
    refine alP (some 2) rfl rfl (does_assign (v := .own 11 0) (by exact rfl)) (by decide) ?_
    refine al_nil ?_
    refine hK10 _ ?_
    refine aw_ret ?_
    obtain rfl := Option.some.inj h
    exact ret_okR [(11, 0)] (by conv => lhs; whnf) (by conv => lhs; whnf) (by exact rfl) (rowsOk_cons (by conv => lhs; whnf) (by exact rfl) trivial) (nodup_b rfl) (.inr rfl) rfl
def rule_kids_l0 (K : Reader → Int → Option (Rule × Reader)) (a1 : Int) (x5 : Int × Reader) (vb0_s_0_0 : List UInt8) (vb0_s_1_0 : Bool) (v5_s_0 : List Rule) (v8_0 : Int) : Option ((List UInt8 × Bool × List Rule × Int) ⊕ (List Rule × Reader)) :=
  if (decide (v8_0 < x5.1)) = true then (if vb0_s_1_0 = true then (some (Sum.inr (v5_s_0, (Reader.mk vb0_s_0_0 vb0_s_1_0)))) else (Option.bind (K (Reader.mk vb0_s_0_0 vb0_s_1_0) (IntKind.i64.wrap (a1 - 1))) (fun (x16 : Rule × Reader) => gd ((List.length (v5_s_0 ++ [x16.1])) * 72 ≤ 140737488355328 ∧ (List.length (v5_s_0 ++ [x16.1])) ≤ 140737488355328) (some (Sum.inl (x16.2.B, x16.2.Bad, (v5_s_0 ++ [x16.1]), (IntKind.i64.wrap (v8_0 + 1)))))))) else (some (Sum.inr (v5_s_0, (Reader.mk vb0_s_0_0 vb0_s_1_0))))
def rule_kids (K : Reader → Int → Option (Rule × Reader)) (a0 : Reader) (a1 : Int) : Option (List Rule × Reader) :=
  Option.bind (ints_Reader_Num a0 20) (fun (x5 : Int × Reader) => loopN (fun (s : List UInt8 × Bool × List Rule × Int) => rule_kids_l0 K a1 x5 s.1 s.2.1 s.2.2.1 s.2.2.2) Fu (x5.2.B, x5.2.Bad, [], 0))
set_option maxRecDepth 100000 in
set_option maxHeartbeats 8000000 in
/-- gleaning/rule.kids -/
theorem rule_kids_ok (K : Reader → Int → Option (Rule × Reader)) (hK : ∀ (a0 : Reader) (a1 : Int) {r : Rule × Reader}, K a0 a1 = some r → Ok Try.prog 71 [.ptr 0 0 0, .int .i64 a1] [[.sl 1 (List.map enc5 a0.B), .bool a0.Bad]] [] (.agg [.int .i64 r.1.Kind, .int .i64 r.1.N, .str r.1.Key, .str r.1.Value, .sl 5 (List.map enc23 r.1.Kids)]) [[.sl 1 (List.map enc5 r.2.B), .bool r.2.Bad]] []) (a0 : Reader) (a1 : Int) {r : List Rule × Reader} (h : rule_kids K a0 a1 = some r) : Ok Try.prog 109 [.ptr 0 0 0, .int .i64 a1] [[.sl 1 (List.map enc5 a0.B), .bool a0.Bad]] [] (.own 2 0) [[.sl 1 (List.map enc5 r.2.B), .bool r.2.Bad]] [(24, 5, List.map enc23 r.1)] := by
  unfold rule_kids at h
  refine ok_of_code Try.func109 rfl (by show (2 : Nat) ≤ _; decide) (Nat.le_refl _) fun X => ?_
  refine aw_seq_k (fun K1 hK1 => ?_)
  refine aw_regL ?_
  refine alP (some 4) rfl rfl (does_assign (v := .nil) (by exact rfl)) (by decide) ?_
  refine al_nil ?_
  refine hK1 _ ?_
  refine aw_seq_k (fun K2 hK2 => ?_)
  refine aw_regL ?_
  refine alP (some 5) rfl rfl (does_assign (v := .nil) (by exact rfl)) (by decide) ?_
  refine al_nil ?_
  refine hK2 _ ?_
  refine aw_seq_k (fun K3 hK3 => ?_)
  refine aw_seq_k (fun K4 hK4 => ?_)
  refine aw_regL ?_
  refine alP (some 6) rfl rfl (does_move (v := .ptr 0 0 0) (by exact rfl)) (by decide) ?_
  obtain ⟨x5, hx5, h⟩ := bnd_some h
  refine alD (some 7) rfl rfl (do_callG (bcs := [[.sl 1 (List.map enc5 a0.B), .bool a0.Bad]]) [(0, 0)] [] [] 7 false (ints_Reader_Num_ok a0 20 hx5) rfl ent80 ⟨(by exact rfl), trivial⟩ trivial rfl rfl rfl rfl rfl rfl rfl rfl (.inl trivial)) (by decide) ?_
  refine alP (some 8) rfl rfl (does_move (v := .int .i64 0) (by exact rfl)) (by decide) ?_
  refine al_nil ?_
  refine hK4 _ ?_
  refine aw_block ?_
  refine aw_nilOwn 5 24 5 (by conv => lhs; whnf) (by decide) (by decide) ?_
  refine aw_loop' (fun m s => ∃ (vb0_s_0_0 : List UInt8), ∃ (vb0_s_1_0 : Bool), ∃ (v5_s_0 : List Rule), ∃ (v8_0 : Int), loopN (fun (s : List UInt8 × Bool × List Rule × Int) => rule_kids_l0 K a1 x5 s.1 s.2.1 s.2.2.1 s.2.2.2) m (vb0_s_0_0, vb0_s_1_0, v5_s_0, v8_0) = some r ∧ s = lit [(0, .ptr 0 0 0), (1, .int .i64 a1), (5, .own 5 0), (7, .int .i64 x5.1), (8, .int .i64 v8_0)] [((0, 0), .box [.sl 1 (List.map enc5 vb0_s_0_0), .bool vb0_s_1_0]), ((5, 0), .arr 24 5 false (List.map enc23 v5_s_0))] [(0, 1), (5, 1)] X) Fu
    ⟨_, reb_lit [(0, .ptr 0 0 0), (1, .int .i64 a1), (5, .own 5 0), (7, .int .i64 x5.1), (8, .int .i64 (0))] [(0, 0), (5, 0)] [((0, 0), .box [.sl 1 (List.map enc5 x5.2.B), .bool x5.2.Bad]), ((5, 0), .arr 24 5 false (List.map enc23 []))] [(0, 1), (5, 1)] (envOk_cons (by conv => lhs; whnf) (by exact rfl) (envOk_cons (by conv => lhs; whnf) (by exact rfl) (envOk_cons (by conv => lhs; whnf) (by exact rfl) (envOk_cons (by conv => lhs; whnf) (by exact rfl) (envOk_cons (by conv => lhs; whnf) (by exact rfl) envOk_nil))))) (objOk_cons (by conv => lhs; whnf) (by conv => lhs; whnf) (by exact rfl) (by simp) (objOk_cons (by conv => lhs; whnf) (by conv => lhs; whnf) (by exact rfl) (by simp) objOk_nil)) (nodup_b rfl) (nodup_b rfl) rfl rfl, x5.2.B, x5.2.Bad, [], 0, h, rfl⟩ ?_
  rintro m s ⟨vb0_s_0_0, vb0_s_1_0, v5_s_0, v8_0, h, rfl⟩
  obtain ⟨m0, q6, rfl, h, hq7⟩ := loop_some h
  replace h : rule_kids_l0 K a1 x5 vb0_s_0_0 vb0_s_1_0 v5_s_0 v8_0 = some q6 := h
  unfold rule_kids_l0 at h
  refine aw_seq_k (fun K8 hK8 => ?_)
  refine aw_regL ?_
  refine alP (some 9) rfl rfl (does_bin (v := .bool (decide (v8_0 < x5.1))) (by conv => lhs; whnf) (by conv => lhs; whnf) rfl) (by decide) ?_
  refine al_nil ?_
  refine hK8 _ ?_
  refine aw_seq_k (fun K9 hK9 => ?_)
  refine aw_bool (b := (decide (v8_0 < x5.1))) 9 rfl (fun c10 => ?_) (fun c10 => ?_)
  · have h := ifT c10 h
    refine aw_cond_t (by decide) rfl ?_
    refine aw_skip ?_
    refine hK9 _ ?_
    refine aw_seq_k (fun K11 hK11 => ?_)
    refine aw_block ?_
    refine aw_seq_k (fun K12 hK12 => ?_)
    refine aw_seq_k (fun K13 hK13 => ?_)
    refine aw_regL ?_
    refine alP (some 10) rfl rfl (does_move (v := .ptr 0 0 0) (by exact rfl)) (by decide) ?_
    refine alP (some 11) rfl rfl (does_nilCheck (p := .ptr 0 0 0) (by conv => lhs; whnf) rfl) (by decide) ?_
    refine alP (some 12) rfl rfl (does_fieldAddr (q := .ptr 0 0 1) (by conv => lhs; whnf) ty91 rfl ty4 (by decide) (by exact rfl)) (by decide) ?_
    refine alR (some 13) rfl rfl (does_load (v := .bool vb0_s_1_0) (by conv => lhs; whnf) (by conv => lhs; whnf) ty4 (by exact rfl)) (by decide) ?_
    refine al_nil ?_
    refine hK13 _ ?_
    refine aw_bool (b := vb0_s_1_0) 13 rfl (fun c14 => ?_) (fun c14 => ?_)
    · have h := ifT c14 h
      refine aw_cond_t (by decide) rfl ?_
      refine aw_exit ?_
      have h := leafR h hq7
      refine hK3 _ ?_
      refine aw_seq_k (fun K15 hK15 => ?_)
      refine aw_regL ?_
      refine alP (some 22) rfl rfl (does_move (v := .own 5 0) (by exact rfl)) (by decide) ?_
      refine alP (some 4) rfl rfl (does_assign (v := .own 5 0) (by exact rfl)) (by decide) ?_
      refine al_nil ?_
      refine hK15 _ ?_
      refine aw_ret ?_
      obtain rfl := Option.some.inj h
      exact ret_okB [(5, 0)] (by conv => lhs; whnf) (by conv => lhs; whnf) (by exact rfl) (rowsOk_cons (by conv => lhs; whnf) (by exact rfl) trivial) (boxesOk_cons (by conv => lhs; whnf) (by conv => lhs; whnf) (by exact rfl) trivial) (nodup_b rfl) (.inr rfl) rfl
    · have h := ifF c14 h
      refine aw_cond_f (by decide) rfl ?_
      refine aw_skip ?_
      refine hK12 _ ?_
      refine aw_regL ?_
      refine alP (some 14) rfl rfl (does_move (v := .own 5 0) (by exact rfl)) (by decide) ?_
      refine alP (some 15) rfl rfl (does_move (v := .ptr 0 0 0) (by exact rfl)) (by decide) ?_
      refine alP (some 16) rfl rfl (does_move (v := .int .i64 a1) (by exact rfl)) (by decide) ?_
      refine alP (some 17) rfl rfl (does_bin (v := .int .i64 (IntKind.i64.wrap (a1 - 1))) (by conv => lhs; whnf) (by conv => lhs; whnf) rfl) (by decide) ?_
      obtain ⟨x16, hx16, h⟩ := bnd_some h
      refine alD (some 18) rfl rfl (do_callG (bcs := [[.sl 1 (List.map enc5 vb0_s_0_0), .bool vb0_s_1_0]]) [(0, 0)] [] [] 18 false (hK (Reader.mk vb0_s_0_0 vb0_s_1_0) (IntKind.i64.wrap (a1 - 1)) hx16) rfl ent71 ⟨(by exact rfl), trivial⟩ trivial rfl rfl rfl rfl rfl rfl rfl rfl (.inl trivial)) (by decide) ?_
      refine alD (some 19) rfl rfl (do_buildSliceE (f := enc23) (ls := [x16.1]) (xs := [.agg [.int .i64 x16.1.Kind, .int .i64 x16.1.N, .str x16.1.Key, .str x16.1.Value, .sl 5 (List.map enc23 x16.1.Kids)]]) (map_consE (enc23_eq _) rfl) ty22 ty24 rfl rfl rfl rfl rfl rfl rfl rfl) (by decide) ?_
      obtain ⟨g17, h⟩ := gd_some h
      refine alD (some 20) rfl rfl (do_append (v := List.map enc23 (v5_s_0 ++ [x16.1])) (by conv => lhs; whnf) (by conv => lhs; whnf) ty22 ty24 rfl rfl (by conv => lhs; whnf) (by first | exact .inl rfl | exact .inr ⟨rfl, rfl⟩) (by conv => lhs; whnf) (by first | exact .inr rfl | exact .inl rfl) (map_app _ _) (fit_map g17)) (by decide) ?_
      refine alP (some 5) rfl rfl (does_assign (v := .own 20 0) (by exact rfl)) (by decide) ?_
      refine al_nil ?_
      refine hK11 _ ?_
      refine aw_regL ?_
      refine alP (some 21) rfl rfl (does_bin (v := .int .i64 (IntKind.i64.wrap (v8_0 + 1))) (by conv => lhs; whnf) (by conv => lhs; whnf) rfl) (by decide) ?_
      refine alP (some 8) rfl rfl (does_move (v := .int .i64 (IntKind.i64.wrap (v8_0 + 1))) (by exact rfl)) (by decide) ?_
      refine al_nil ?_
      have h := leafL h hq7
      exact ⟨m0, Nat.lt_succ_self _, _, reb_lit [(0, .ptr 0 0 0), (1, .int .i64 a1), (5, .own 5 0), (7, .int .i64 x5.1), (8, .int .i64 (IntKind.i64.wrap (v8_0 + 1)))] [(0, 0), (20, 0)] [((0, 0), .box [.sl 1 (List.map enc5 x16.2.B), .bool x16.2.Bad]), ((5, 0), .arr 24 5 false (List.map enc23 (v5_s_0 ++ [x16.1])))] [(0, 1), (5, 1)] (envOk_cons (by conv => lhs; whnf) (by exact rfl) (envOk_cons (by conv => lhs; whnf) (by exact rfl) (envOk_cons (by conv => lhs; whnf) (by exact rfl) (envOk_cons (by conv => lhs; whnf) (by exact rfl) (envOk_cons (by conv => lhs; whnf) (by exact rfl) envOk_nil))))) (objOk_cons (by conv => lhs; whnf) (by conv => lhs; whnf) (by exact rfl) (by simp) (objOk_cons (by conv => lhs; whnf) (by conv => lhs; whnf) (by exact rfl) (by simp) objOk_nil)) (nodup_b rfl) (nodup_b rfl) rfl rfl, x16.2.B, x16.2.Bad, (v5_s_0 ++ [x16.1]), (IntKind.i64.wrap (v8_0 + 1)), h, rfl⟩
  · have h := ifF c10 h
    refine aw_cond_f (by decide) rfl ?_
    refine aw_exit ?_
    have h := leafR h hq7
    refine hK3 _ ?_
    refine aw_seq_k (fun K18 hK18 => ?_)
    refine aw_regL ?_
    refine alP (some 22) rfl rfl (does_move (v := .own 5 0) (by exact rfl)) (by decide) ?_
    refine alP (some 4) rfl rfl (does_assign (v := .own 5 0) (by exact rfl)) (by decide) ?_
    refine al_nil ?_
    refine hK18 _ ?_
    refine aw_ret ?_
    obtain rfl := Option.some.inj h
    exact ret_okB [(5, 0)] (by conv => lhs; whnf) (by conv => lhs; whnf) (by exact rfl) (rowsOk_cons (by conv => lhs; whnf) (by exact rfl) trivial) (boxesOk_cons (by conv => lhs; whnf) (by conv => lhs; whnf) (by exact rfl) trivial) (nodup_b rfl) (.inr rfl) rfl
def rule_get_b_k1 (x4 : List UInt8 × Reader) (v15_1 : Bool) : Option (Unit ⊕ (Rule × Reader)) :=
  if v15_1 = true then (some (Sum.inr ((Rule.mk 0 0 (strOf []) (strOf []) []), (Reader.mk x4.2.B true)))) else (some (Sum.inl ()))
def rule_get_b_k2 (K : Reader → Int → Option (Rule × Reader)) (a1 : Int) (x4 : List UInt8 × Reader) (x14 : UInt8) (v31_2 : Bool) : Option (Rule × Reader) :=
  if v31_2 = true then (Option.bind (rule_kids K x4.2 a1) (fun (x21 : List Rule × Reader) => some ((Rule.mk (IntKind.i64.wrap (x14.toNat : Int)) 0 (strOf []) (strOf []) x21.1), x21.2))) else (if ((IntKind.i64.wrap (x14.toNat : Int)) == 6) = true then (Option.bind (ints_Reader_Text x4.2) (fun (x26 : ByteArray × Reader) => Option.bind (ints_Reader_Text x26.2) (fun (x27 : ByteArray × Reader) => some ((Rule.mk (IntKind.i64.wrap (x14.toNat : Int)) 0 x26.1 x27.1 []), x27.2)))) else (if ((IntKind.i64.wrap (x14.toNat : Int)) == 5) = true then (some ((Rule.mk (IntKind.i64.wrap (x14.toNat : Int)) 0 (strOf []) (strOf []) []), x4.2)) else (Option.bind (rule_top (IntKind.i64.wrap (x14.toNat : Int))) (fun (x33 : Int) => if (decide (x33 < 0)) = true then (some ((Rule.mk (IntKind.i64.wrap (x14.toNat : Int)) 0 (strOf []) (strOf []) []), (Reader.mk x4.2.B true))) else (Option.bind (rule_top (IntKind.i64.wrap (x14.toNat : Int))) (fun (x36 : Int) => Option.bind (ints_Reader_Num x4.2 x36) (fun (x37 : Int × Reader) => some ((Rule.mk (IntKind.i64.wrap (x14.toNat : Int)) x37.1 (strOf []) (strOf []) []), x37.2))))))))
def rule_get_b_k0 (K : Reader → Int → Option (Rule × Reader)) (a1 : Int) (x4 : List UInt8 × Reader) : Option (Rule × Reader) :=
  Option.bind (x4.1[0]?) (fun (x14 : UInt8) => Option.bind (if ((IntKind.i64.wrap (x14.toNat : Int)) == 1) = true then (some true) else (if ((IntKind.i64.wrap (x14.toNat : Int)) == 2) = true then (some true) else (some ((IntKind.i64.wrap (x14.toNat : Int)) == 3)))) (fun (s : Bool) => rule_get_b_k2 K a1 x4 x14 s))
def rule_get_b (K : Reader → Int → Option (Rule × Reader)) (a0 : Reader) (a1 : Int) : Option (Rule × Reader) :=
  Option.bind (ints_Reader_Take a0 1) (fun (x4 : List UInt8 × Reader) => Option.bind (Option.bind (if (decide (a1 < 1)) = true then (some true) else (some ((List.length x4.1 : Int) == 0))) (fun (s : Bool) => rule_get_b_k1 x4 s)) (Sum.elim (fun (s : Unit) => rule_get_b_k0 K a1 x4) some))
set_option maxRecDepth 100000 in
set_option maxHeartbeats 8000000 in
/-- gleaning/rule.get -/
theorem rule_get_b_ok (K : Reader → Int → Option (Rule × Reader)) (hK : ∀ (a0 : Reader) (a1 : Int) {r : Rule × Reader}, K a0 a1 = some r → Ok Try.prog 71 [.ptr 0 0 0, .int .i64 a1] [[.sl 1 (List.map enc5 a0.B), .bool a0.Bad]] [] (.agg [.int .i64 r.1.Kind, .int .i64 r.1.N, .str r.1.Key, .str r.1.Value, .sl 5 (List.map enc23 r.1.Kids)]) [[.sl 1 (List.map enc5 r.2.B), .bool r.2.Bad]] []) (a0 : Reader) (a1 : Int) {r : Rule × Reader} (h : rule_get_b K a0 a1 = some r) : Ok Try.prog 71 [.ptr 0 0 0, .int .i64 a1] [[.sl 1 (List.map enc5 a0.B), .bool a0.Bad]] [] (.agg [.int .i64 r.1.Kind, .int .i64 r.1.N, .str r.1.Key, .str r.1.Value, .sl 5 (List.map enc23 r.1.Kids)]) [[.sl 1 (List.map enc5 r.2.B), .bool r.2.Bad]] [] := by
  unfold rule_get_b at h
  refine ok_of_code Try.func71 rfl (by show (2 : Nat) ≤ _; decide) (Nat.le_refl _) fun X => ?_
  refine aw_seq_k (fun K1 hK1 => ?_)
  refine aw_regL ?_
  refine alD (some 4) rfl rfl (do_new ty24 rfl rfl) (by decide) ?_
  refine al_nil ?_
  refine hK1 _ ?_
  refine aw_seq_k (fun K2 hK2 => ?_)
  refine aw_regL ?_
  refine alD (some 5) rfl rfl (do_new ty24 rfl rfl) (by decide) ?_
  refine al_nil ?_
  refine hK2 _ ?_
  refine aw_seq_k (fun K3 hK3 => ?_)
  refine aw_regL ?_
  refine alP (some 7) rfl rfl (does_move (v := .ptr 0 0 0) (by exact rfl)) (by decide) ?_
  obtain ⟨x4, hx4, h⟩ := bnd_some h
  refine alD (some 8) rfl rfl (do_callG (bcs := [[.sl 1 (List.map enc5 a0.B), .bool a0.Bad]]) [(0, 0)] [] [] 8 false (ints_Reader_Take_ok a0 1 hx4) rfl ent108 ⟨(by exact rfl), trivial⟩ trivial rfl rfl rfl rfl rfl rfl rfl rfl (.inl trivial)) (by decide) ?_
  refine alP (some 6) rfl rfl (does_assign (v := .sl 1 (List.map enc5 x4.1)) (by exact rfl)) (by decide) ?_
  refine al_nil ?_
  refine hK3 _ ?_
  obtain ⟨q5, h, hk6⟩ := bnd_some h
  refine aw_cut (fun s => rule_get_b_k0 K a1 x4 = some r ∧ s = lit [(0, .ptr 0 0 0), (1, .int .i64 a1), (4, .ptr 4 0 0), (5, .ptr 5 0 0), (6, .sl 1 (List.map enc5 x4.1))] [((0, 0), .box [.sl 1 (List.map enc5 x4.2.B), .bool x4.2.Bad]), ((4, 0), .box [.int .i64 0, .int .i64 0, .str (strOf []), .str (strOf []), .nil]), ((5, 0), .box [.int .i64 0, .int .i64 0, .str (strOf []), .str (strOf []), .nil])] [(0, 1), (4, 1), (5, 1)] X) ?_ ?_
  · skip
    obtain ⟨q7, h, hk8⟩ := bnd_some h
    refine aw_cut (fun s => ∃ (v15_1 : Bool), rule_get_b_k1 x4 v15_1 = some q5 ∧ s = lit [(0, .ptr 0 0 0), (1, .int .i64 a1), (4, .ptr 4 0 0), (5, .ptr 5 0 0), (6, .sl 1 (List.map enc5 x4.1)), (15, .bool v15_1)] [((0, 0), .box [.sl 1 (List.map enc5 x4.2.B), .bool x4.2.Bad]), ((4, 0), .box [.int .i64 0, .int .i64 0, .str (strOf []), .str (strOf []), .nil]), ((5, 0), .box [.int .i64 0, .int .i64 0, .str (strOf []), .str (strOf []), .nil])] [(0, 1), (4, 1), (5, 1)] X) ?_ ?_
    · skip
      refine aw_regL ?_
      refine alP (some 9) rfl rfl (does_move (v := .int .i64 a1) (by exact rfl)) (by decide) ?_
      refine alP (some 10) rfl rfl (does_bin (v := .bool (decide (a1 < 1))) (by conv => lhs; whnf) (by conv => lhs; whnf) rfl) (by decide) ?_
      refine alP (some 11) rfl rfl (does_move (v := .bool (decide (a1 < 1))) (by exact rfl)) (by decide) ?_
      refine al_bool (c := (decide (a1 < 1))) 11 rfl (fun c9 => ?_) (fun c9 => ?_)
      · have h := ifT c9 h
        refine alS (some 12) rfl rfl (by decide) ?_
        refine alS (some 13) rfl rfl (by decide) ?_
        refine alS (some 14) rfl rfl (by decide) ?_
        refine alP (some 15) rfl rfl (does_pick (v := .bool true) (by conv => lhs; whnf) (by exact rfl)) (by decide) ?_
        refine al_nil ?_
        obtain rfl := Option.some.inj h
        have h := hk8
        exact ⟨_, reb_lit [(0, .ptr 0 0 0), (1, .int .i64 a1), (4, .ptr 4 0 0), (5, .ptr 5 0 0), (6, .sl 1 (List.map enc5 x4.1)), (15, .bool true)] [(0, 0), (4, 0), (5, 0)] [((0, 0), .box [.sl 1 (List.map enc5 x4.2.B), .bool x4.2.Bad]), ((4, 0), .box [.int .i64 0, .int .i64 0, .str (strOf []), .str (strOf []), .nil]), ((5, 0), .box [.int .i64 0, .int .i64 0, .str (strOf []), .str (strOf []), .nil])] [(0, 1), (4, 1), (5, 1)] (envOk_cons (by conv => lhs; whnf) (by exact rfl) (envOk_cons (by conv => lhs; whnf) (by exact rfl) (envOk_cons (by conv => lhs; whnf) (by exact rfl) (envOk_cons (by conv => lhs; whnf) (by exact rfl) (envOk_cons (by conv => lhs; whnf) (by exact rfl) (envOk_cons (by conv => lhs; whnf) (by exact rfl) envOk_nil)))))) (objOk_cons (by conv => lhs; whnf) (by conv => lhs; whnf) (by exact rfl) (by simp) (objOk_cons (by conv => lhs; whnf) (by conv => lhs; whnf) (by exact rfl) (by simp) (objOk_cons (by conv => lhs; whnf) (by conv => lhs; whnf) (by exact rfl) (by simp) objOk_nil))) (nodup_b rfl) (nodup_b rfl) rfl rfl, true, h, rfl⟩
      · have h := ifF c9 h
        refine alP (some 12) rfl rfl (does_move (v := .sl 1 (List.map enc5 x4.1)) (by exact rfl)) (by decide) ?_
        refine alP (some 13) rfl rfl ((does_len_sl (by conv => lhs; whnf) ty43).castp (v' := .int .i64 (List.length x4.1 : Int)) (by exact len_map _)) (by decide) ?_
        refine alP (some 14) rfl rfl (does_bin (v := .bool ((List.length x4.1 : Int) == 0)) (by conv => lhs; whnf) (by conv => lhs; whnf) rfl) (by decide) ?_
        refine alP (some 15) rfl rfl (does_pick (v := .bool ((List.length x4.1 : Int) == 0)) (by conv => lhs; whnf) (by exact rfl)) (by decide) ?_
        refine al_nil ?_
        obtain rfl := Option.some.inj h
        have h := hk8
        exact ⟨_, reb_lit [(0, .ptr 0 0 0), (1, .int .i64 a1), (4, .ptr 4 0 0), (5, .ptr 5 0 0), (6, .sl 1 (List.map enc5 x4.1)), (15, .bool ((List.length x4.1 : Int) == 0))] [(0, 0), (4, 0), (5, 0)] [((0, 0), .box [.sl 1 (List.map enc5 x4.2.B), .bool x4.2.Bad]), ((4, 0), .box [.int .i64 0, .int .i64 0, .str (strOf []), .str (strOf []), .nil]), ((5, 0), .box [.int .i64 0, .int .i64 0, .str (strOf []), .str (strOf []), .nil])] [(0, 1), (4, 1), (5, 1)] (envOk_cons (by conv => lhs; whnf) (by exact rfl) (envOk_cons (by conv => lhs; whnf) (by exact rfl) (envOk_cons (by conv => lhs; whnf) (by exact rfl) (envOk_cons (by conv => lhs; whnf) (by exact rfl) (envOk_cons (by conv => lhs; whnf) (by exact rfl) (envOk_cons (by conv => lhs; whnf) (by exact rfl) envOk_nil)))))) (objOk_cons (by conv => lhs; whnf) (by conv => lhs; whnf) (by exact rfl) (by simp) (objOk_cons (by conv => lhs; whnf) (by conv => lhs; whnf) (by exact rfl) (by simp) (objOk_cons (by conv => lhs; whnf) (by conv => lhs; whnf) (by exact rfl) (by simp) objOk_nil))) (nodup_b rfl) (nodup_b rfl) rfl rfl, ((List.length x4.1 : Int) == 0), h, rfl⟩
    · rintro s ⟨v15_1, h, rfl⟩
      unfold rule_get_b_k1 at h
      refine aw_bool (b := v15_1) 15 rfl (fun c10 => ?_) (fun c10 => ?_)
      · have h := ifT c10 h
        refine aw_cond_t (by decide) rfl ?_
        refine aw_seq_k (fun K11 hK11 => ?_)
        refine aw_regL ?_
        refine alP (some 16) rfl rfl (does_move (v := .ptr 0 0 0) (by exact rfl)) (by decide) ?_
        refine alP (some 17) rfl rfl (does_nilCheck (p := .ptr 0 0 0) (by conv => lhs; whnf) rfl) (by decide) ?_
        refine alP (some 18) rfl rfl (does_fieldAddr (q := .ptr 0 0 1) (by conv => lhs; whnf) ty91 rfl ty4 (by decide) (by exact rfl)) (by decide) ?_
        refine alD none rfl rfl (do_store (cs' := [.sl 1 (List.map enc5 x4.2.B), .bool true]) (by conv => lhs; whnf) (by conv => lhs; whnf) (by conv => lhs; whnf) ty4 rfl rfl rfl (by exact rfl)) (by decide) ?_
        refine al_nil ?_
        refine hK11 _ ?_
        refine aw_seq_k (fun K12 hK12 => ?_)
        refine aw_regL ?_
        refine alR (some 19) rfl rfl (does_load (v := .agg [.int .i64 0, .int .i64 0, .str (strOf []), .str (strOf []), .nil]) (by conv => lhs; whnf) (by conv => lhs; whnf) ty24 (by exact rfl)) (by decide) ?_
        refine alD none rfl rfl (do_store (cs' := [.int .i64 0, .int .i64 0, .str (strOf []), .str (strOf []), .nil]) (by conv => lhs; whnf) (by conv => lhs; whnf) (by conv => lhs; whnf) ty24 rfl rfl rfl (by exact rfl)) (by decide) ?_
        refine al_nil ?_
        refine hK12 _ ?_
        refine aw_reb (reb_w (tl' := [(4, .ptr 4 0 0)]) (ol' := [((0, 0), .box [.sl 1 (List.map enc5 x4.2.B), .bool true]), ((4, 0), .box [.int .i64 0, .int .i64 0, .str (strOf []), .str (strOf []), .sl 5 (List.map enc23 [])])]) (reb_lit [(4, .ptr 4 0 0)] [(0, 0), (4, 0)] [((0, 0), .box [.sl 1 (List.map enc5 x4.2.B), .bool true]), ((4, 0), .box [.int .i64 0, .int .i64 0, .str (strOf []), .str (strOf []), .nil])] [(0, 1), (4, 1)] (envOk_cons (by conv => lhs; whnf) (by exact rfl) envOk_nil) (objOk_cons (by conv => lhs; whnf) (by conv => lhs; whnf) (by exact rfl) (by simp) (objOk_cons (by conv => lhs; whnf) (by conv => lhs; whnf) (by exact rfl) (by simp) objOk_nil)) (nodup_b rfl) (nodup_b rfl) rfl rfl) ⟨rfl, le_refl _, trivial⟩ ⟨rfl, .rfl _, rfl, (.box ⟨le_refl _, le_refl _, le_refl _, le_refl _, le_nil _, trivial⟩), trivial⟩) ?_
        refine aw_ret ?_
        have h := leafR h hk6
        obtain rfl := Option.some.inj h
        exact ret_okB [] (by conv => lhs; whnf) (by conv => lhs; whnf) (by exact rfl) trivial (boxesOk_cons (by conv => lhs; whnf) (by conv => lhs; whnf) (by exact rfl) trivial) (nodup_b rfl) (.inr rfl) rfl
      · have h := ifF c10 h
        refine aw_cond_f (by decide) rfl ?_
        refine aw_skip ?_
        have h := leafL h hk6
        exact ⟨_, reb_lit [(0, .ptr 0 0 0), (1, .int .i64 a1), (4, .ptr 4 0 0), (5, .ptr 5 0 0), (6, .sl 1 (List.map enc5 x4.1))] [(0, 0), (4, 0), (5, 0)] [((0, 0), .box [.sl 1 (List.map enc5 x4.2.B), .bool x4.2.Bad]), ((4, 0), .box [.int .i64 0, .int .i64 0, .str (strOf []), .str (strOf []), .nil]), ((5, 0), .box [.int .i64 0, .int .i64 0, .str (strOf []), .str (strOf []), .nil])] [(0, 1), (4, 1), (5, 1)] (envOk_cons (by conv => lhs; whnf) (by exact rfl) (envOk_cons (by conv => lhs; whnf) (by exact rfl) (envOk_cons (by conv => lhs; whnf) (by exact rfl) (envOk_cons (by conv => lhs; whnf) (by exact rfl) (envOk_cons (by conv => lhs; whnf) (by exact rfl) envOk_nil))))) (objOk_cons (by conv => lhs; whnf) (by conv => lhs; whnf) (by exact rfl) (by simp) (objOk_cons (by conv => lhs; whnf) (by conv => lhs; whnf) (by exact rfl) (by simp) (objOk_cons (by conv => lhs; whnf) (by conv => lhs; whnf) (by exact rfl) (by simp) objOk_nil))) (nodup_b rfl) (nodup_b rfl) rfl rfl, h, rfl⟩
  · rintro s ⟨h, rfl⟩
    unfold rule_get_b_k0 at h
    refine aw_seq_k (fun K13 hK13 => ?_)
    refine aw_regL ?_
    refine alP (some 20) rfl rfl (does_move (v := .sl 1 (List.map enc5 x4.1)) (by exact rfl)) (by decide) ?_
    obtain ⟨x14, hx14, h⟩ := bnd_some h
    refine alP (some 21) rfl rfl (does_indexAddr_sl (el := .int .u8 (x14.toNat : Int)) (by conv => lhs; whnf) (by conv => lhs; whnf) ty43 ty5 (by decide) (by exact map_get hx14)) (by decide) ?_
    refine alR (some 22) rfl rfl (does_load (v := .int .u8 (x14.toNat : Int)) (by conv => lhs; whnf) (by conv => lhs; whnf) ty5 (by exact rfl)) (by decide) ?_
    refine alP (some 23) rfl rfl (does_conv_int (v := .int .i64 (IntKind.i64.wrap (x14.toNat : Int))) (by conv => lhs; whnf) (ty_some ty5) (ty_int ty3) rfl) (by decide) ?_
    refine alP (some 24) rfl rfl (does_fieldAddr (q := .ptr 5 0 0) (by conv => lhs; whnf) ty24 rfl ty3 (by decide) (by exact rfl)) (by decide) ?_
    refine alD none rfl rfl (do_store (cs' := [.int .i64 (IntKind.i64.wrap (x14.toNat : Int)), .int .i64 0, .str (strOf []), .str (strOf []), .nil]) (by conv => lhs; whnf) (by conv => lhs; whnf) (by conv => lhs; whnf) ty3 rfl rfl rfl (by exact rfl)) (by decide) ?_
    refine al_nil ?_
    refine hK13 _ ?_
    refine aw_seq_k (fun K15 hK15 => ?_)
    refine aw_block ?_
    obtain ⟨q16, h, hk17⟩ := bnd_some h
    refine aw_cut (fun s => ∃ (v31_2 : Bool), rule_get_b_k2 K a1 x4 x14 v31_2 = some r ∧ s = lit [(0, .ptr 0 0 0), (1, .int .i64 a1), (4, .ptr 4 0 0), (5, .ptr 5 0 0), (31, .bool v31_2)] [((0, 0), .box [.sl 1 (List.map enc5 x4.2.B), .bool x4.2.Bad]), ((4, 0), .box [.int .i64 0, .int .i64 0, .str (strOf []), .str (strOf []), .nil]), ((5, 0), .box [.int .i64 (IntKind.i64.wrap (x14.toNat : Int)), .int .i64 0, .str (strOf []), .str (strOf []), .nil])] [(0, 1), (4, 1), (5, 1)] X) ?_ ?_
    · skip
      refine aw_regL ?_
      refine alP (some 32) rfl rfl (does_fieldAddr (q := .ptr 5 0 0) (by conv => lhs; whnf) ty24 rfl ty3 (by decide) (by exact rfl)) (by decide) ?_
      refine alR (some 33) rfl rfl (does_load (v := .int .i64 (IntKind.i64.wrap (x14.toNat : Int))) (by conv => lhs; whnf) (by conv => lhs; whnf) ty3 (by exact rfl)) (by decide) ?_
      refine alP (some 34) rfl rfl (does_bin (v := .bool ((IntKind.i64.wrap (x14.toNat : Int)) == 1)) (by conv => lhs; whnf) (by conv => lhs; whnf) rfl) (by decide) ?_
      refine alP (some 35) rfl rfl (does_move (v := .bool ((IntKind.i64.wrap (x14.toNat : Int)) == 1)) (by exact rfl)) (by decide) ?_
      refine al_bool (c := ((IntKind.i64.wrap (x14.toNat : Int)) == 1)) 35 rfl (fun c18 => ?_) (fun c18 => ?_)
      · have h := ifT c18 h
        refine alS (some 36) rfl rfl (by decide) ?_
        refine alS (some 37) rfl rfl (by decide) ?_
        refine alS (some 38) rfl rfl (by decide) ?_
        refine alP (some 39) rfl rfl (does_pick (v := .bool true) (by conv => lhs; whnf) (by exact rfl)) (by decide) ?_
        refine alP (some 40) rfl rfl (does_move (v := .bool true) (by exact rfl)) (by decide) ?_
        refine alS (some 41) rfl rfl (by decide) ?_
        refine alS (some 42) rfl rfl (by decide) ?_
        refine alS (some 43) rfl rfl (by decide) ?_
        refine alP (some 44) rfl rfl (does_pick (v := .bool true) (by conv => lhs; whnf) (by exact rfl)) (by decide) ?_
        refine alP (some 31) rfl rfl (does_assign (v := .bool true) (by exact rfl)) (by decide) ?_
        refine al_nil ?_
        obtain rfl := Option.some.inj h
        have h := hk17
        exact ⟨_, reb_lit [(0, .ptr 0 0 0), (1, .int .i64 a1), (4, .ptr 4 0 0), (5, .ptr 5 0 0), (31, .bool true)] [(0, 0), (4, 0), (5, 0)] [((0, 0), .box [.sl 1 (List.map enc5 x4.2.B), .bool x4.2.Bad]), ((4, 0), .box [.int .i64 0, .int .i64 0, .str (strOf []), .str (strOf []), .nil]), ((5, 0), .box [.int .i64 (IntKind.i64.wrap (x14.toNat : Int)), .int .i64 0, .str (strOf []), .str (strOf []), .nil])] [(0, 1), (4, 1), (5, 1)] (envOk_cons (by conv => lhs; whnf) (by exact rfl) (envOk_cons (by conv => lhs; whnf) (by exact rfl) (envOk_cons (by conv => lhs; whnf) (by exact rfl) (envOk_cons (by conv => lhs; whnf) (by exact rfl) (envOk_cons (by conv => lhs; whnf) (by exact rfl) envOk_nil))))) (objOk_cons (by conv => lhs; whnf) (by conv => lhs; whnf) (by exact rfl) (by simp) (objOk_cons (by conv => lhs; whnf) (by conv => lhs; whnf) (by exact rfl) (by simp) (objOk_cons (by conv => lhs; whnf) (by conv => lhs; whnf) (by exact rfl) (by simp) objOk_nil))) (nodup_b rfl) (nodup_b rfl) rfl rfl, true, h, rfl⟩
      · have h := ifF c18 h
        refine alP (some 36) rfl rfl (does_fieldAddr (q := .ptr 5 0 0) (by conv => lhs; whnf) ty24 rfl ty3 (by decide) (by exact rfl)) (by decide) ?_
        refine alR (some 37) rfl rfl (does_load (v := .int .i64 (IntKind.i64.wrap (x14.toNat : Int))) (by conv => lhs; whnf) (by conv => lhs; whnf) ty3 (by exact rfl)) (by decide) ?_
        refine alP (some 38) rfl rfl (does_bin (v := .bool ((IntKind.i64.wrap (x14.toNat : Int)) == 2)) (by conv => lhs; whnf) (by conv => lhs; whnf) rfl) (by decide) ?_
        refine alP (some 39) rfl rfl (does_pick (v := .bool ((IntKind.i64.wrap (x14.toNat : Int)) == 2)) (by conv => lhs; whnf) (by exact rfl)) (by decide) ?_
        refine alP (some 40) rfl rfl (does_move (v := .bool ((IntKind.i64.wrap (x14.toNat : Int)) == 2)) (by exact rfl)) (by decide) ?_
        refine al_bool (c := ((IntKind.i64.wrap (x14.toNat : Int)) == 2)) 40 rfl (fun c19 => ?_) (fun c19 => ?_)
        · have h := ifT c19 h
          refine alS (some 41) rfl rfl (by decide) ?_
          refine alS (some 42) rfl rfl (by decide) ?_
          refine alS (some 43) rfl rfl (by decide) ?_
          refine alP (some 44) rfl rfl (does_pick (v := .bool true) (by conv => lhs; whnf) (by exact rfl)) (by decide) ?_
          refine alP (some 31) rfl rfl (does_assign (v := .bool true) (by exact rfl)) (by decide) ?_
          refine al_nil ?_
          obtain rfl := Option.some.inj h
          have h := hk17
          exact ⟨_, reb_lit [(0, .ptr 0 0 0), (1, .int .i64 a1), (4, .ptr 4 0 0), (5, .ptr 5 0 0), (31, .bool true)] [(0, 0), (4, 0), (5, 0)] [((0, 0), .box [.sl 1 (List.map enc5 x4.2.B), .bool x4.2.Bad]), ((4, 0), .box [.int .i64 0, .int .i64 0, .str (strOf []), .str (strOf []), .nil]), ((5, 0), .box [.int .i64 (IntKind.i64.wrap (x14.toNat : Int)), .int .i64 0, .str (strOf []), .str (strOf []), .nil])] [(0, 1), (4, 1), (5, 1)] (envOk_cons (by conv => lhs; whnf) (by exact rfl) (envOk_cons (by conv => lhs; whnf) (by exact rfl) (envOk_cons (by conv => lhs; whnf) (by exact rfl) (envOk_cons (by conv => lhs; whnf) (by exact rfl) (envOk_cons (by conv => lhs; whnf) (by exact rfl) envOk_nil))))) (objOk_cons (by conv => lhs; whnf) (by conv => lhs; whnf) (by exact rfl) (by simp) (objOk_cons (by conv => lhs; whnf) (by conv => lhs; whnf) (by exact rfl) (by simp) (objOk_cons (by conv => lhs; whnf) (by conv => lhs; whnf) (by exact rfl) (by simp) objOk_nil))) (nodup_b rfl) (nodup_b rfl) rfl rfl, true, h, rfl⟩
        · have h := ifF c19 h
          refine alP (some 41) rfl rfl (does_fieldAddr (q := .ptr 5 0 0) (by conv => lhs; whnf) ty24 rfl ty3 (by decide) (by exact rfl)) (by decide) ?_
          refine alR (some 42) rfl rfl (does_load (v := .int .i64 (IntKind.i64.wrap (x14.toNat : Int))) (by conv => lhs; whnf) (by conv => lhs; whnf) ty3 (by exact rfl)) (by decide) ?_
          refine alP (some 43) rfl rfl (does_bin (v := .bool ((IntKind.i64.wrap (x14.toNat : Int)) == 3)) (by conv => lhs; whnf) (by conv => lhs; whnf) rfl) (by decide) ?_
          refine alP (some 44) rfl rfl (does_pick (v := .bool ((IntKind.i64.wrap (x14.toNat : Int)) == 3)) (by conv => lhs; whnf) (by exact rfl)) (by decide) ?_
          refine alP (some 31) rfl rfl (does_assign (v := .bool ((IntKind.i64.wrap (x14.toNat : Int)) == 3)) (by exact rfl)) (by decide) ?_
          refine al_nil ?_
          obtain rfl := Option.some.inj h
          have h := hk17
          exact ⟨_, reb_lit [(0, .ptr 0 0 0), (1, .int .i64 a1), (4, .ptr 4 0 0), (5, .ptr 5 0 0), (31, .bool ((IntKind.i64.wrap (x14.toNat : Int)) == 3))] [(0, 0), (4, 0), (5, 0)] [((0, 0), .box [.sl 1 (List.map enc5 x4.2.B), .bool x4.2.Bad]), ((4, 0), .box [.int .i64 0, .int .i64 0, .str (strOf []), .str (strOf []), .nil]), ((5, 0), .box [.int .i64 (IntKind.i64.wrap (x14.toNat : Int)), .int .i64 0, .str (strOf []), .str (strOf []), .nil])] [(0, 1), (4, 1), (5, 1)] (envOk_cons (by conv => lhs; whnf) (by exact rfl) (envOk_cons (by conv => lhs; whnf) (by exact rfl) (envOk_cons (by conv => lhs; whnf) (by exact rfl) (envOk_cons (by conv => lhs; whnf) (by exact rfl) (envOk_cons (by conv => lhs; whnf) (by exact rfl) envOk_nil))))) (objOk_cons (by conv => lhs; whnf) (by conv => lhs; whnf) (by exact rfl) (by simp) (objOk_cons (by conv => lhs; whnf) (by conv => lhs; whnf) (by exact rfl) (by simp) (objOk_cons (by conv => lhs; whnf) (by conv => lhs; whnf) (by exact rfl) (by simp) objOk_nil))) (nodup_b rfl) (nodup_b rfl) rfl rfl, ((IntKind.i64.wrap (x14.toNat : Int)) == 3), h, rfl⟩
    · rintro s ⟨v31_2, h, rfl⟩
      unfold rule_get_b_k2 at h
      refine aw_bool (b := v31_2) 31 rfl (fun c20 => ?_) (fun c20 => ?_)
      · have h := ifT c20 h
        refine aw_cond_t (by decide) rfl ?_
        refine aw_regL ?_
        refine alP (some 45) rfl rfl (does_move (v := .ptr 0 0 0) (by exact rfl)) (by decide) ?_
        refine alP (some 46) rfl rfl (does_move (v := .int .i64 a1) (by exact rfl)) (by decide) ?_
        obtain ⟨x21, hx21, h⟩ := bnd_some h
        refine alD (some 47) rfl rfl (do_callG (bcs := [[.sl 1 (List.map enc5 x4.2.B), .bool x4.2.Bad]]) [(0, 0)] [] [] 47 false (rule_kids_ok K hK x4.2 a1 hx21) rfl ent109 ⟨(by exact rfl), trivial⟩ trivial rfl rfl rfl rfl rfl rfl rfl rfl (.inl trivial)) (by decide) ?_
        refine alP (some 48) rfl rfl (does_fieldAddr (q := .ptr 5 0 4) (by conv => lhs; whnf) ty24 rfl ty22 (by decide) (by exact rfl)) (by decide) ?_
        refine alD none rfl rfl (do_store (cs' := [.int .i64 (IntKind.i64.wrap (x14.toNat : Int)), .int .i64 0, .str (strOf []), .str (strOf []), .own 47 0]) (by conv => lhs; whnf) (by conv => lhs; whnf) (by conv => lhs; whnf) ty22 rfl rfl rfl (by exact rfl)) (by decide) ?_
        refine al_nil ?_
        refine hK15 _ ?_
        refine aw_seq_k (fun K22 hK22 => ?_)
        refine aw_regL ?_
        refine alR (some 71) rfl rfl (does_load (v := .agg [.int .i64 (IntKind.i64.wrap (x14.toNat : Int)), .int .i64 0, .str (strOf []), .str (strOf []), .own 47 0]) (by conv => lhs; whnf) (by conv => lhs; whnf) ty24 (by exact rfl)) (by decide) ?_
        refine alD none rfl rfl (do_store (cs' := [.int .i64 (IntKind.i64.wrap (x14.toNat : Int)), .int .i64 0, .str (strOf []), .str (strOf []), .own 47 0]) (by conv => lhs; whnf) (by conv => lhs; whnf) (by conv => lhs; whnf) ty24 rfl rfl rfl (by exact rfl)) (by decide) ?_
        refine al_nil ?_
        refine hK22 _ ?_
        refine aw_ret ?_
        obtain rfl := Option.some.inj h
        exact ret_okB [] (by conv => lhs; whnf) (by conv => lhs; whnf) (by exact rfl) trivial (boxesOk_cons (by conv => lhs; whnf) (by conv => lhs; whnf) (by exact rfl) trivial) (nodup_b rfl) (.inr rfl) rfl
      · have h := ifF c20 h
        refine aw_cond_f (by decide) rfl ?_
        refine aw_seq_k (fun K23 hK23 => ?_)
        refine aw_regL ?_
        refine alP (some 50) rfl rfl (does_fieldAddr (q := .ptr 5 0 0) (by conv => lhs; whnf) ty24 rfl ty3 (by decide) (by exact rfl)) (by decide) ?_
        refine alR (some 51) rfl rfl (does_load (v := .int .i64 (IntKind.i64.wrap (x14.toNat : Int))) (by conv => lhs; whnf) (by conv => lhs; whnf) ty3 (by exact rfl)) (by decide) ?_
        refine alP (some 52) rfl rfl (does_bin (v := .bool ((IntKind.i64.wrap (x14.toNat : Int)) == 6)) (by conv => lhs; whnf) (by conv => lhs; whnf) rfl) (by decide) ?_
        refine alP (some 49) rfl rfl (does_assign (v := .bool ((IntKind.i64.wrap (x14.toNat : Int)) == 6)) (by exact rfl)) (by decide) ?_
        refine al_nil ?_
        refine hK23 _ ?_
        refine aw_bool (b := ((IntKind.i64.wrap (x14.toNat : Int)) == 6)) 49 rfl (fun c24 => ?_) (fun c24 => ?_)
        · have h := ifT c24 h
          refine aw_cond_t (by decide) rfl ?_
          refine aw_seq_k (fun K25 hK25 => ?_)
          refine aw_regL ?_
          refine alP (some 53) rfl rfl (does_move (v := .ptr 0 0 0) (by exact rfl)) (by decide) ?_
          obtain ⟨x26, hx26, h⟩ := bnd_some h
          refine alD (some 54) rfl rfl (do_callG (bcs := [[.sl 1 (List.map enc5 x4.2.B), .bool x4.2.Bad]]) [(0, 0)] [] [] 54 false (ints_Reader_Text_ok x4.2 hx26) rfl ent100 ⟨(by exact rfl), trivial⟩ trivial rfl rfl rfl rfl rfl rfl rfl rfl (.inl trivial)) (by decide) ?_
          refine alP (some 55) rfl rfl (does_fieldAddr (q := .ptr 5 0 2) (by conv => lhs; whnf) ty24 rfl ty9 (by decide) (by exact rfl)) (by decide) ?_
          refine alD none rfl rfl (do_store (cs' := [.int .i64 (IntKind.i64.wrap (x14.toNat : Int)), .int .i64 0, .str x26.1, .str (strOf []), .nil]) (by conv => lhs; whnf) (by conv => lhs; whnf) (by conv => lhs; whnf) ty9 rfl rfl rfl (by exact rfl)) (by decide) ?_
          refine al_nil ?_
          refine hK25 _ ?_
          refine aw_regL ?_
          refine alP (some 56) rfl rfl (does_move (v := .ptr 0 0 0) (by exact rfl)) (by decide) ?_
          obtain ⟨x27, hx27, h⟩ := bnd_some h
          refine alD (some 57) rfl rfl (do_callG (bcs := [[.sl 1 (List.map enc5 x26.2.B), .bool x26.2.Bad]]) [(0, 0)] [] [] 57 false (ints_Reader_Text_ok x26.2 hx27) rfl ent100 ⟨(by exact rfl), trivial⟩ trivial rfl rfl rfl rfl rfl rfl rfl rfl (.inl trivial)) (by decide) ?_
          refine alP (some 58) rfl rfl (does_fieldAddr (q := .ptr 5 0 3) (by conv => lhs; whnf) ty24 rfl ty9 (by decide) (by exact rfl)) (by decide) ?_
          refine alD none rfl rfl (do_store (cs' := [.int .i64 (IntKind.i64.wrap (x14.toNat : Int)), .int .i64 0, .str x26.1, .str x27.1, .nil]) (by conv => lhs; whnf) (by conv => lhs; whnf) (by conv => lhs; whnf) ty9 rfl rfl rfl (by exact rfl)) (by decide) ?_
          refine al_nil ?_
          refine hK15 _ ?_
          refine aw_seq_k (fun K28 hK28 => ?_)
          refine aw_regL ?_
          refine alR (some 71) rfl rfl (does_load (v := .agg [.int .i64 (IntKind.i64.wrap (x14.toNat : Int)), .int .i64 0, .str x26.1, .str x27.1, .nil]) (by conv => lhs; whnf) (by conv => lhs; whnf) ty24 (by exact rfl)) (by decide) ?_
          refine alD none rfl rfl (do_store (cs' := [.int .i64 (IntKind.i64.wrap (x14.toNat : Int)), .int .i64 0, .str x26.1, .str x27.1, .nil]) (by conv => lhs; whnf) (by conv => lhs; whnf) (by conv => lhs; whnf) ty24 rfl rfl rfl (by exact rfl)) (by decide) ?_
          refine al_nil ?_
          refine hK28 _ ?_
          refine aw_reb (reb_w (tl' := [(4, .ptr 4 0 0)]) (ol' := [((0, 0), .box [.sl 1 (List.map enc5 x27.2.B), .bool x27.2.Bad]), ((4, 0), .box [.int .i64 (IntKind.i64.wrap (x14.toNat : Int)), .int .i64 0, .str x26.1, .str x27.1, .sl 5 (List.map enc23 [])])]) (reb_lit [(4, .ptr 4 0 0)] [(0, 0), (4, 0)] [((0, 0), .box [.sl 1 (List.map enc5 x27.2.B), .bool x27.2.Bad]), ((4, 0), .box [.int .i64 (IntKind.i64.wrap (x14.toNat : Int)), .int .i64 0, .str x26.1, .str x27.1, .nil])] [(0, 1), (4, 1)] (envOk_cons (by conv => lhs; whnf) (by exact rfl) envOk_nil) (objOk_cons (by conv => lhs; whnf) (by conv => lhs; whnf) (by exact rfl) (by simp) (objOk_cons (by conv => lhs; whnf) (by conv => lhs; whnf) (by exact rfl) (by simp) objOk_nil)) (nodup_b rfl) (nodup_b rfl) rfl rfl) ⟨rfl, le_refl _, trivial⟩ ⟨rfl, .rfl _, rfl, (.box ⟨le_refl _, le_refl _, le_refl _, le_refl _, le_nil _, trivial⟩), trivial⟩) ?_
          refine aw_ret ?_
          obtain rfl := Option.some.inj h
          exact ret_okB [] (by conv => lhs; whnf) (by conv => lhs; whnf) (by exact rfl) trivial (boxesOk_cons (by conv => lhs; whnf) (by conv => lhs; whnf) (by exact rfl) trivial) (nodup_b rfl) (.inr rfl) rfl
        · have h := ifF c24 h
          refine aw_cond_f (by decide) rfl ?_
          refine aw_seq_k (fun K29 hK29 => ?_)
          refine aw_regL ?_
          refine alP (some 60) rfl rfl (does_fieldAddr (q := .ptr 5 0 0) (by conv => lhs; whnf) ty24 rfl ty3 (by decide) (by exact rfl)) (by decide) ?_
          refine alR (some 61) rfl rfl (does_load (v := .int .i64 (IntKind.i64.wrap (x14.toNat : Int))) (by conv => lhs; whnf) (by conv => lhs; whnf) ty3 (by exact rfl)) (by decide) ?_
          refine alP (some 62) rfl rfl (does_bin (v := .bool ((IntKind.i64.wrap (x14.toNat : Int)) == 5)) (by conv => lhs; whnf) (by conv => lhs; whnf) rfl) (by decide) ?_
          refine alP (some 59) rfl rfl (does_assign (v := .bool ((IntKind.i64.wrap (x14.toNat : Int)) == 5)) (by exact rfl)) (by decide) ?_
          refine al_nil ?_
          refine hK29 _ ?_
          refine aw_bool (b := ((IntKind.i64.wrap (x14.toNat : Int)) == 5)) 59 rfl (fun c30 => ?_) (fun c30 => ?_)
          · have h := ifT c30 h
            refine aw_cond_t (by decide) rfl ?_
            refine aw_skip ?_
            refine hK15 _ ?_
            refine aw_seq_k (fun K31 hK31 => ?_)
            refine aw_regL ?_
            refine alR (some 71) rfl rfl (does_load (v := .agg [.int .i64 (IntKind.i64.wrap (x14.toNat : Int)), .int .i64 0, .str (strOf []), .str (strOf []), .nil]) (by conv => lhs; whnf) (by conv => lhs; whnf) ty24 (by exact rfl)) (by decide) ?_
            refine alD none rfl rfl (do_store (cs' := [.int .i64 (IntKind.i64.wrap (x14.toNat : Int)), .int .i64 0, .str (strOf []), .str (strOf []), .nil]) (by conv => lhs; whnf) (by conv => lhs; whnf) (by conv => lhs; whnf) ty24 rfl rfl rfl (by exact rfl)) (by decide) ?_
            refine al_nil ?_
            refine hK31 _ ?_
            refine aw_reb (reb_w (tl' := [(4, .ptr 4 0 0)]) (ol' := [((0, 0), .box [.sl 1 (List.map enc5 x4.2.B), .bool x4.2.Bad]), ((4, 0), .box [.int .i64 (IntKind.i64.wrap (x14.toNat : Int)), .int .i64 0, .str (strOf []), .str (strOf []), .sl 5 (List.map enc23 [])])]) (reb_lit [(4, .ptr 4 0 0)] [(0, 0), (4, 0)] [((0, 0), .box [.sl 1 (List.map enc5 x4.2.B), .bool x4.2.Bad]), ((4, 0), .box [.int .i64 (IntKind.i64.wrap (x14.toNat : Int)), .int .i64 0, .str (strOf []), .str (strOf []), .nil])] [(0, 1), (4, 1)] (envOk_cons (by conv => lhs; whnf) (by exact rfl) envOk_nil) (objOk_cons (by conv => lhs; whnf) (by conv => lhs; whnf) (by exact rfl) (by simp) (objOk_cons (by conv => lhs; whnf) (by conv => lhs; whnf) (by exact rfl) (by simp) objOk_nil)) (nodup_b rfl) (nodup_b rfl) rfl rfl) ⟨rfl, le_refl _, trivial⟩ ⟨rfl, .rfl _, rfl, (.box ⟨le_refl _, le_refl _, le_refl _, le_refl _, le_nil _, trivial⟩), trivial⟩) ?_
            refine aw_ret ?_
            obtain rfl := Option.some.inj h
            exact ret_okB [] (by conv => lhs; whnf) (by conv => lhs; whnf) (by exact rfl) trivial (boxesOk_cons (by conv => lhs; whnf) (by conv => lhs; whnf) (by exact rfl) trivial) (nodup_b rfl) (.inr rfl) rfl
          · have h := ifF c30 h
            refine aw_cond_f (by decide) rfl ?_
            refine aw_seq_k (fun K32 hK32 => ?_)
            refine aw_regL ?_
            refine alP (some 64) rfl rfl (does_fieldAddr (q := .ptr 5 0 0) (by conv => lhs; whnf) ty24 rfl ty3 (by decide) (by exact rfl)) (by decide) ?_
            refine alR (some 65) rfl rfl (does_load (v := .int .i64 (IntKind.i64.wrap (x14.toNat : Int))) (by conv => lhs; whnf) (by conv => lhs; whnf) ty3 (by exact rfl)) (by decide) ?_
            obtain ⟨x33, hx33, h⟩ := bnd_some h
            refine alD (some 66) rfl rfl (do_call0 66 false (rule_top_ok (IntKind.i64.wrap (x14.toNat : Int)) hx33) rfl ent110 rfl rfl) (by decide) ?_
            refine alP (some 67) rfl rfl (does_bin (v := .bool (decide (x33 < 0))) (by conv => lhs; whnf) (by conv => lhs; whnf) rfl) (by decide) ?_
            refine alP (some 63) rfl rfl (does_assign (v := .bool (decide (x33 < 0))) (by exact rfl)) (by decide) ?_
            refine al_nil ?_
            refine hK32 _ ?_
            refine aw_bool (b := (decide (x33 < 0))) 63 rfl (fun c34 => ?_) (fun c34 => ?_)
            · have h := ifT c34 h
              refine aw_cond_t (by decide) rfl ?_
              refine aw_regL ?_
              refine alP (some 68) rfl rfl (does_move (v := .ptr 0 0 0) (by exact rfl)) (by decide) ?_
              refine alP (some 69) rfl rfl (does_nilCheck (p := .ptr 0 0 0) (by conv => lhs; whnf) rfl) (by decide) ?_
              refine alP (some 70) rfl rfl (does_fieldAddr (q := .ptr 0 0 1) (by conv => lhs; whnf) ty91 rfl ty4 (by decide) (by exact rfl)) (by decide) ?_
              refine alD none rfl rfl (do_store (cs' := [.sl 1 (List.map enc5 x4.2.B), .bool true]) (by conv => lhs; whnf) (by conv => lhs; whnf) (by conv => lhs; whnf) ty4 rfl rfl rfl (by exact rfl)) (by decide) ?_
              refine al_nil ?_
              refine hK15 _ ?_
              refine aw_seq_k (fun K35 hK35 => ?_)
              refine aw_regL ?_
              refine alR (some 71) rfl rfl (does_load (v := .agg [.int .i64 (IntKind.i64.wrap (x14.toNat : Int)), .int .i64 0, .str (strOf []), .str (strOf []), .nil]) (by conv => lhs; whnf) (by conv => lhs; whnf) ty24 (by exact rfl)) (by decide) ?_
              refine alD none rfl rfl (do_store (cs' := [.int .i64 (IntKind.i64.wrap (x14.toNat : Int)), .int .i64 0, .str (strOf []), .str (strOf []), .nil]) (by conv => lhs; whnf) (by conv => lhs; whnf) (by conv => lhs; whnf) ty24 rfl rfl rfl (by exact rfl)) (by decide) ?_
              refine al_nil ?_
              refine hK35 _ ?_
              refine aw_reb (reb_w (tl' := [(4, .ptr 4 0 0)]) (ol' := [((0, 0), .box [.sl 1 (List.map enc5 x4.2.B), .bool true]), ((4, 0), .box [.int .i64 (IntKind.i64.wrap (x14.toNat : Int)), .int .i64 0, .str (strOf []), .str (strOf []), .sl 5 (List.map enc23 [])])]) (reb_lit [(4, .ptr 4 0 0)] [(0, 0), (4, 0)] [((0, 0), .box [.sl 1 (List.map enc5 x4.2.B), .bool true]), ((4, 0), .box [.int .i64 (IntKind.i64.wrap (x14.toNat : Int)), .int .i64 0, .str (strOf []), .str (strOf []), .nil])] [(0, 1), (4, 1)] (envOk_cons (by conv => lhs; whnf) (by exact rfl) envOk_nil) (objOk_cons (by conv => lhs; whnf) (by conv => lhs; whnf) (by exact rfl) (by simp) (objOk_cons (by conv => lhs; whnf) (by conv => lhs; whnf) (by exact rfl) (by simp) objOk_nil)) (nodup_b rfl) (nodup_b rfl) rfl rfl) ⟨rfl, le_refl _, trivial⟩ ⟨rfl, .rfl _, rfl, (.box ⟨le_refl _, le_refl _, le_refl _, le_refl _, le_nil _, trivial⟩), trivial⟩) ?_
              refine aw_ret ?_
              obtain rfl := Option.some.inj h
              exact ret_okB [] (by conv => lhs; whnf) (by conv => lhs; whnf) (by exact rfl) trivial (boxesOk_cons (by conv => lhs; whnf) (by conv => lhs; whnf) (by exact rfl) trivial) (nodup_b rfl) (.inr rfl) rfl
            · have h := ifF c34 h
              refine aw_cond_f (by decide) rfl ?_
              refine aw_regL ?_
              refine alP (some 25) rfl rfl (does_move (v := .ptr 0 0 0) (by exact rfl)) (by decide) ?_
              refine alP (some 26) rfl rfl (does_fieldAddr (q := .ptr 5 0 0) (by conv => lhs; whnf) ty24 rfl ty3 (by decide) (by exact rfl)) (by decide) ?_
              refine alR (some 27) rfl rfl (does_load (v := .int .i64 (IntKind.i64.wrap (x14.toNat : Int))) (by conv => lhs; whnf) (by conv => lhs; whnf) ty3 (by exact rfl)) (by decide) ?_
              obtain ⟨x36, hx36, h⟩ := bnd_some h
              refine alD (some 28) rfl rfl (do_call0 28 false (rule_top_ok (IntKind.i64.wrap (x14.toNat : Int)) hx36) rfl ent110 rfl rfl) (by decide) ?_
              obtain ⟨x37, hx37, h⟩ := bnd_some h
              refine alD (some 29) rfl rfl (do_callG (bcs := [[.sl 1 (List.map enc5 x4.2.B), .bool x4.2.Bad]]) [(0, 0)] [] [] 29 false (ints_Reader_Num_ok x4.2 x36 hx37) rfl ent80 ⟨(by exact rfl), trivial⟩ trivial rfl rfl rfl rfl rfl rfl rfl rfl (.inl trivial)) (by decide) ?_
              refine alP (some 30) rfl rfl (does_fieldAddr (q := .ptr 5 0 1) (by conv => lhs; whnf) ty24 rfl ty3 (by decide) (by exact rfl)) (by decide) ?_
              refine alD none rfl rfl (do_store (cs' := [.int .i64 (IntKind.i64.wrap (x14.toNat : Int)), .int .i64 x37.1, .str (strOf []), .str (strOf []), .nil]) (by conv => lhs; whnf) (by conv => lhs; whnf) (by conv => lhs; whnf) ty3 rfl rfl rfl (by exact rfl)) (by decide) ?_
              refine al_nil ?_
              refine hK15 _ ?_
              refine aw_seq_k (fun K38 hK38 => ?_)
              refine aw_regL ?_
              refine alR (some 71) rfl rfl (does_load (v := .agg [.int .i64 (IntKind.i64.wrap (x14.toNat : Int)), .int .i64 x37.1, .str (strOf []), .str (strOf []), .nil]) (by conv => lhs; whnf) (by conv => lhs; whnf) ty24 (by exact rfl)) (by decide) ?_
              refine alD none rfl rfl (do_store (cs' := [.int .i64 (IntKind.i64.wrap (x14.toNat : Int)), .int .i64 x37.1, .str (strOf []), .str (strOf []), .nil]) (by conv => lhs; whnf) (by conv => lhs; whnf) (by conv => lhs; whnf) ty24 rfl rfl rfl (by exact rfl)) (by decide) ?_
              refine al_nil ?_
              refine hK38 _ ?_
              refine aw_reb (reb_w (tl' := [(4, .ptr 4 0 0)]) (ol' := [((0, 0), .box [.sl 1 (List.map enc5 x37.2.B), .bool x37.2.Bad]), ((4, 0), .box [.int .i64 (IntKind.i64.wrap (x14.toNat : Int)), .int .i64 x37.1, .str (strOf []), .str (strOf []), .sl 5 (List.map enc23 [])])]) (reb_lit [(4, .ptr 4 0 0)] [(0, 0), (4, 0)] [((0, 0), .box [.sl 1 (List.map enc5 x37.2.B), .bool x37.2.Bad]), ((4, 0), .box [.int .i64 (IntKind.i64.wrap (x14.toNat : Int)), .int .i64 x37.1, .str (strOf []), .str (strOf []), .nil])] [(0, 1), (4, 1)] (envOk_cons (by conv => lhs; whnf) (by exact rfl) envOk_nil) (objOk_cons (by conv => lhs; whnf) (by conv => lhs; whnf) (by exact rfl) (by simp) (objOk_cons (by conv => lhs; whnf) (by conv => lhs; whnf) (by exact rfl) (by simp) objOk_nil)) (nodup_b rfl) (nodup_b rfl) rfl rfl) ⟨rfl, le_refl _, trivial⟩ ⟨rfl, .rfl _, rfl, (.box ⟨le_refl _, le_refl _, le_refl _, le_refl _, le_nil _, trivial⟩), trivial⟩) ?_
              refine aw_ret ?_
              obtain rfl := Option.some.inj h
              exact ret_okB [] (by conv => lhs; whnf) (by conv => lhs; whnf) (by exact rfl) trivial (boxesOk_cons (by conv => lhs; whnf) (by conv => lhs; whnf) (by exact rfl) trivial) (nodup_b rfl) (.inr rfl) rfl
def rule_getN : Nat → Reader → Int → Option (Rule × Reader)
  | 0, _, _ => none
  | n + 1, a0, a1 => rule_get_b (rule_getN n) a0 a1
theorem rule_getN_ok : ∀ (n : Nat) (a0 : Reader) (a1 : Int) {r : Rule × Reader}, rule_getN n a0 a1 = some r → Ok Try.prog 71 [.ptr 0 0 0, .int .i64 a1] [[.sl 1 (List.map enc5 a0.B), .bool a0.Bad]] [] (.agg [.int .i64 r.1.Kind, .int .i64 r.1.N, .str r.1.Key, .str r.1.Value, .sl 5 (List.map enc23 r.1.Kids)]) [[.sl 1 (List.map enc5 r.2.B), .bool r.2.Bad]] []
  | 0, _, _, _, h => by simp [rule_getN] at h
  | n + 1, a0, a1, _, h => rule_get_b_ok (rule_getN n) (rule_getN_ok n) a0 a1 h
def rule_get (a0 : Reader) (a1 : Int) : Option (Rule × Reader) := rule_getN Fu a0 a1
theorem rule_get_ok (a0 : Reader) (a1 : Int) {r : Rule × Reader} (h : rule_get a0 a1 = some r) : Ok Try.prog 71 [.ptr 0 0 0, .int .i64 a1] [[.sl 1 (List.map enc5 a0.B), .bool a0.Bad]] [] (.agg [.int .i64 r.1.Kind, .int .i64 r.1.N, .str r.1.Key, .str r.1.Value, .sl 5 (List.map enc23 r.1.Kids)]) [[.sl 1 (List.map enc5 r.2.B), .bool r.2.Bad]] [] := rule_getN_ok Fu a0 a1 h
def rule_Read (a0 : List UInt8) : Option (Rule × Int) :=
  Option.bind (rule_get (Reader.mk a0 false) 5) (fun (x4 : Rule × Reader) => if x4.2.Bad = true then (some ((Rule.mk 0 0 (strOf []) (strOf []) []), 2)) else (if (decide ((0 : Int) < (List.length x4.2.B : Int))) = true then (some ((Rule.mk 0 0 (strOf []) (strOf []) []), 2)) else (Option.bind (rule_Right x4.1) (fun (x11 : Bool) => if (!x11) = true then (some ((Rule.mk 0 0 (strOf []) (strOf []) []), 2)) else (some (x4.1, 0))))))
set_option maxRecDepth 100000 in
set_option maxHeartbeats 8000000 in
/-- gleaning/rule.Read -/
theorem rule_Read_ok (a0 : List UInt8) {r : Rule × Int} (h : rule_Read a0 = some r) : Ok Try.prog 40 [.sl 1 (List.map enc5 a0)] [] [] (.tup [.agg [.int .i64 r.1.Kind, .int .i64 r.1.N, .str r.1.Key, .str r.1.Value, .sl 5 (List.map enc23 r.1.Kids)], .int .i64 r.2]) [] [] := by
  unfold rule_Read at h
  refine ok_of_code Try.func40 rfl (by show (1 : Nat) ≤ _; decide) (Nat.le_refl _) fun X => ?_
  refine aw_seq_k (fun K1 hK1 => ?_)
  refine aw_regL ?_
  refine alD (some 2) rfl rfl (do_new ty24 rfl rfl) (by decide) ?_
  refine alP (some 3) rfl rfl (does_assign (v := .int .i64 0) (by exact rfl)) (by decide) ?_
  refine al_nil ?_
  refine hK1 _ ?_
  refine aw_seq_k (fun K2 hK2 => ?_)
  refine aw_regL ?_
  refine alP (some 6) rfl rfl (does_move (v := .sl 1 (List.map enc5 a0)) (by exact rfl)) (by decide) ?_
  refine alP (some 7) rfl rfl (do_build_struct (cs := [.sl 1 (List.map enc5 a0), .bool false]) ty91 rfl [⟨.slice 5, 1, 24, [.nil]⟩, ⟨.bool, 1, 1, [.bool false]⟩] (by simp only [List.map, ty4, ty43]) (by rfl) (by exact rfl)) (by decide) ?_
  refine alD (some 8) rfl rfl (do_box (by conv => lhs; whnf) rfl rfl) (by decide) ?_
  refine alP (some 4) rfl rfl (does_assign (v := .ptr 8 0 0) (by exact rfl)) (by decide) ?_
  refine al_nil ?_
  refine hK2 _ ?_
  refine aw_seq_k (fun K3 hK3 => ?_)
  refine aw_regL ?_
  refine alP (some 9) rfl rfl (does_move (v := .ptr 8 0 0) (by exact rfl)) (by decide) ?_
  obtain ⟨x4, hx4, h⟩ := bnd_some h
  refine alD (some 10) rfl rfl (do_callG (bcs := [[.sl 1 (List.map enc5 a0), .bool false]]) [(8, 0)] [] [] 10 false (rule_get_ok (Reader.mk a0 false) 5 hx4) rfl ent71 ⟨(by exact rfl), trivial⟩ trivial rfl rfl rfl rfl rfl rfl rfl rfl (.inl trivial)) (by decide) ?_
  refine alD (some 5) rfl rfl (do_new ty24 rfl rfl) (by decide) ?_
  refine alD none rfl rfl (do_store (cs' := [.int .i64 x4.1.Kind, .int .i64 x4.1.N, .str x4.1.Key, .str x4.1.Value, .sl 5 (List.map enc23 x4.1.Kids)]) (by conv => lhs; whnf) (by conv => lhs; whnf) (by conv => lhs; whnf) ty24 rfl rfl rfl (by exact rfl)) (by decide) ?_
  refine al_nil ?_
  refine hK3 _ ?_
  refine aw_seq_k (fun K5 hK5 => ?_)
  refine aw_seq_k (fun K6 hK6 => ?_)
  refine aw_regL ?_
  refine alP (some 11) rfl rfl (does_move (v := .ptr 8 0 0) (by exact rfl)) (by decide) ?_
  refine alP (some 12) rfl rfl (does_nilCheck (p := .ptr 8 0 0) (by conv => lhs; whnf) rfl) (by decide) ?_
  refine alP (some 13) rfl rfl (does_fieldAddr (q := .ptr 8 0 1) (by conv => lhs; whnf) ty91 rfl ty4 (by decide) (by exact rfl)) (by decide) ?_
  refine alR (some 14) rfl rfl (does_load (v := .bool x4.2.Bad) (by conv => lhs; whnf) (by conv => lhs; whnf) ty4 (by exact rfl)) (by decide) ?_
  refine alP (some 15) rfl rfl (does_move (v := .bool x4.2.Bad) (by exact rfl)) (by decide) ?_
  refine al_bool (c := x4.2.Bad) 15 rfl (fun c7 => ?_) (fun c7 => ?_)
  · have h := ifT c7 h
    refine alS (some 16) rfl rfl (by decide) ?_
    refine alS (some 17) rfl rfl (by decide) ?_
    refine alS (some 18) rfl rfl (by decide) ?_
    refine alS (some 19) rfl rfl (by decide) ?_
    refine alS (some 20) rfl rfl (by decide) ?_
    refine alS (some 21) rfl rfl (by decide) ?_
    refine alP (some 22) rfl rfl (does_pick (v := .bool true) (by conv => lhs; whnf) (by exact rfl)) (by decide) ?_
    refine alP (some 23) rfl rfl (does_move (v := .bool true) (by exact rfl)) (by decide) ?_
    refine alS (some 24) rfl rfl (by decide) ?_
    refine alS (some 25) rfl rfl (by decide) ?_
    refine alS (some 26) rfl rfl (by decide) ?_
    refine alP (some 27) rfl rfl (does_pick (v := .bool true) (by conv => lhs; whnf) (by exact rfl)) (by decide) ?_
    refine al_nil ?_
    refine hK6 _ ?_
    refine aw_cond_t (by decide) rfl ?_
    refine aw_seq_k (fun K8 hK8 => ?_)
    refine aw_regL ?_
    refine alP (some 28) rfl rfl (do_build_struct (cs := [.int .i64 0, .int .i64 0, .str (strOf []), .str (strOf []), .nil]) ty24 rfl [⟨.int .i64, 1, 8, [.int .i64 0]⟩, ⟨.int .i64, 1, 8, [.int .i64 0]⟩, ⟨.str, 1, 16, [.str ByteArray.empty]⟩, ⟨.str, 1, 16, [.str ByteArray.empty]⟩, ⟨.slice 24, 1, 24, [.nil]⟩] (by simp only [List.map, ty22, ty3, ty9]) (by rfl) (by exact rfl)) (by decide) ?_
    refine alD none rfl rfl (do_store (cs' := [.int .i64 0, .int .i64 0, .str (strOf []), .str (strOf []), .nil]) (by conv => lhs; whnf) (by conv => lhs; whnf) (by conv => lhs; whnf) ty24 rfl rfl rfl (by exact rfl)) (by decide) ?_
    refine alP (some 3) rfl rfl (does_assign (v := .int .i64 2) (by exact rfl)) (by decide) ?_
    refine al_nil ?_
    refine hK8 _ ?_
    refine aw_reb (reb_w (tl' := [(2, .ptr 2 0 0), (3, .int .i64 2)]) (ol' := [((2, 0), .box [.int .i64 0, .int .i64 0, .str (strOf []), .str (strOf []), .sl 5 (List.map enc23 [])])]) (reb_lit [(2, .ptr 2 0 0), (3, .int .i64 2)] [(2, 0)] [((2, 0), .box [.int .i64 0, .int .i64 0, .str (strOf []), .str (strOf []), .nil])] [(2, 1)] (envOk_cons (by conv => lhs; whnf) (by exact rfl) (envOk_cons (by conv => lhs; whnf) (by exact rfl) envOk_nil)) (objOk_cons (by conv => lhs; whnf) (by conv => lhs; whnf) (by exact rfl) (by simp) objOk_nil) (nodup_b rfl) (nodup_b rfl) rfl rfl) ⟨rfl, le_refl _, rfl, le_refl _, trivial⟩ ⟨rfl, (.box ⟨le_refl _, le_refl _, le_refl _, le_refl _, le_nil _, trivial⟩), trivial⟩) ?_
    refine aw_ret ?_
    obtain rfl := Option.some.inj h
    exact ret_ok1 (by conv => lhs; whnf) (by conv => lhs; whnf) (by exact rfl) (.inr rfl) rfl
  · have h := ifF c7 h
    refine alP (some 16) rfl rfl (does_move (v := .ptr 8 0 0) (by exact rfl)) (by decide) ?_
    refine alP (some 17) rfl rfl (does_nilCheck (p := .ptr 8 0 0) (by conv => lhs; whnf) rfl) (by decide) ?_
    refine alP (some 18) rfl rfl (does_fieldAddr (q := .ptr 8 0 0) (by conv => lhs; whnf) ty91 rfl ty43 (by decide) (by exact rfl)) (by decide) ?_
    refine alR (some 19) rfl rfl (does_load (v := .sl 1 (List.map enc5 x4.2.B)) (by conv => lhs; whnf) (by conv => lhs; whnf) ty43 (by exact rfl)) (by decide) ?_
    refine alP (some 20) rfl rfl ((does_len_sl (by conv => lhs; whnf) ty43).castp (v' := .int .i64 (List.length x4.2.B : Int)) (by exact len_map _)) (by decide) ?_
    refine alP (some 21) rfl rfl (does_bin (v := .bool (decide ((0 : Int) < (List.length x4.2.B : Int)))) (by conv => lhs; whnf) (by conv => lhs; whnf) rfl) (by decide) ?_
    refine alP (some 22) rfl rfl (does_pick (v := .bool (decide ((0 : Int) < (List.length x4.2.B : Int)))) (by conv => lhs; whnf) (by exact rfl)) (by decide) ?_
    refine alP (some 23) rfl rfl (does_move (v := .bool (decide ((0 : Int) < (List.length x4.2.B : Int)))) (by exact rfl)) (by decide) ?_
    refine al_bool (c := (decide ((0 : Int) < (List.length x4.2.B : Int)))) 23 rfl (fun c9 => ?_) (fun c9 => ?_)
    · have h := ifT c9 h
      refine alS (some 24) rfl rfl (by decide) ?_
      refine alS (some 25) rfl rfl (by decide) ?_
      refine alS (some 26) rfl rfl (by decide) ?_
      refine alP (some 27) rfl rfl (does_pick (v := .bool true) (by conv => lhs; whnf) (by exact rfl)) (by decide) ?_
      refine al_nil ?_
      refine hK6 _ ?_
      refine aw_cond_t (by decide) rfl ?_
      refine aw_seq_k (fun K10 hK10 => ?_)
      refine aw_regL ?_
      refine alP (some 28) rfl rfl (do_build_struct (cs := [.int .i64 0, .int .i64 0, .str (strOf []), .str (strOf []), .nil]) ty24 rfl [⟨.int .i64, 1, 8, [.int .i64 0]⟩, ⟨.int .i64, 1, 8, [.int .i64 0]⟩, ⟨.str, 1, 16, [.str ByteArray.empty]⟩, ⟨.str, 1, 16, [.str ByteArray.empty]⟩, ⟨.slice 24, 1, 24, [.nil]⟩] (by simp only [List.map, ty22, ty3, ty9]) (by rfl) (by exact rfl)) (by decide) ?_
      refine alD none rfl rfl (do_store (cs' := [.int .i64 0, .int .i64 0, .str (strOf []), .str (strOf []), .nil]) (by conv => lhs; whnf) (by conv => lhs; whnf) (by conv => lhs; whnf) ty24 rfl rfl rfl (by exact rfl)) (by decide) ?_
      refine alP (some 3) rfl rfl (does_assign (v := .int .i64 2) (by exact rfl)) (by decide) ?_
      refine al_nil ?_
      refine hK10 _ ?_
      refine aw_reb (reb_w (tl' := [(2, .ptr 2 0 0), (3, .int .i64 2)]) (ol' := [((2, 0), .box [.int .i64 0, .int .i64 0, .str (strOf []), .str (strOf []), .sl 5 (List.map enc23 [])])]) (reb_lit [(2, .ptr 2 0 0), (3, .int .i64 2)] [(2, 0)] [((2, 0), .box [.int .i64 0, .int .i64 0, .str (strOf []), .str (strOf []), .nil])] [(2, 1)] (envOk_cons (by conv => lhs; whnf) (by exact rfl) (envOk_cons (by conv => lhs; whnf) (by exact rfl) envOk_nil)) (objOk_cons (by conv => lhs; whnf) (by conv => lhs; whnf) (by exact rfl) (by simp) objOk_nil) (nodup_b rfl) (nodup_b rfl) rfl rfl) ⟨rfl, le_refl _, rfl, le_refl _, trivial⟩ ⟨rfl, (.box ⟨le_refl _, le_refl _, le_refl _, le_refl _, le_nil _, trivial⟩), trivial⟩) ?_
      refine aw_ret ?_
      obtain rfl := Option.some.inj h
      exact ret_ok1 (by conv => lhs; whnf) (by conv => lhs; whnf) (by exact rfl) (.inr rfl) rfl
    · have h := ifF c9 h
      refine alR (some 24) rfl rfl (does_load (v := .agg [.int .i64 x4.1.Kind, .int .i64 x4.1.N, .str x4.1.Key, .str x4.1.Value, .sl 5 (List.map enc23 x4.1.Kids)]) (by conv => lhs; whnf) (by conv => lhs; whnf) ty24 (by exact rfl)) (by decide) ?_
      obtain ⟨x11, hx11, h⟩ := bnd_some h
      refine alD (some 25) rfl rfl (do_call0 25 false (rule_Right_ok x4.1 hx11) rfl ent42 rfl rfl) (by decide) ?_
      refine alP (some 26) rfl rfl (does_un (v := .bool (!x11)) (by conv => lhs; whnf) rfl) (by decide) ?_
      refine alP (some 27) rfl rfl (does_pick (v := .bool (!x11)) (by conv => lhs; whnf) (by exact rfl)) (by decide) ?_
      refine al_nil ?_
      refine hK6 _ ?_
      refine aw_bool (b := (!x11)) 27 rfl (fun c12 => ?_) (fun c12 => ?_)
      · have h := ifT c12 h
        refine aw_cond_t (by decide) rfl ?_
        refine aw_seq_k (fun K13 hK13 => ?_)
        refine aw_regL ?_
        refine alP (some 28) rfl rfl (do_build_struct (cs := [.int .i64 0, .int .i64 0, .str (strOf []), .str (strOf []), .nil]) ty24 rfl [⟨.int .i64, 1, 8, [.int .i64 0]⟩, ⟨.int .i64, 1, 8, [.int .i64 0]⟩, ⟨.str, 1, 16, [.str ByteArray.empty]⟩, ⟨.str, 1, 16, [.str ByteArray.empty]⟩, ⟨.slice 24, 1, 24, [.nil]⟩] (by simp only [List.map, ty22, ty3, ty9]) (by rfl) (by exact rfl)) (by decide) ?_
        refine alD none rfl rfl (do_store (cs' := [.int .i64 0, .int .i64 0, .str (strOf []), .str (strOf []), .nil]) (by conv => lhs; whnf) (by conv => lhs; whnf) (by conv => lhs; whnf) ty24 rfl rfl rfl (by exact rfl)) (by decide) ?_
        refine alP (some 3) rfl rfl (does_assign (v := .int .i64 2) (by exact rfl)) (by decide) ?_
        refine al_nil ?_
        refine hK13 _ ?_
        refine aw_reb (reb_w (tl' := [(2, .ptr 2 0 0), (3, .int .i64 2)]) (ol' := [((2, 0), .box [.int .i64 0, .int .i64 0, .str (strOf []), .str (strOf []), .sl 5 (List.map enc23 [])])]) (reb_lit [(2, .ptr 2 0 0), (3, .int .i64 2)] [(2, 0)] [((2, 0), .box [.int .i64 0, .int .i64 0, .str (strOf []), .str (strOf []), .nil])] [(2, 1)] (envOk_cons (by conv => lhs; whnf) (by exact rfl) (envOk_cons (by conv => lhs; whnf) (by exact rfl) envOk_nil)) (objOk_cons (by conv => lhs; whnf) (by conv => lhs; whnf) (by exact rfl) (by simp) objOk_nil) (nodup_b rfl) (nodup_b rfl) rfl rfl) ⟨rfl, le_refl _, rfl, le_refl _, trivial⟩ ⟨rfl, (.box ⟨le_refl _, le_refl _, le_refl _, le_refl _, le_nil _, trivial⟩), trivial⟩) ?_
        refine aw_ret ?_
        obtain rfl := Option.some.inj h
        exact ret_ok1 (by conv => lhs; whnf) (by conv => lhs; whnf) (by exact rfl) (.inr rfl) rfl
      · have h := ifF c12 h
        refine aw_cond_f (by decide) rfl ?_
        refine aw_skip ?_
        refine hK5 _ ?_
        refine aw_seq_k (fun K14 hK14 => ?_)
        refine aw_regL ?_
        refine alR (some 29) rfl rfl (does_load (v := .agg [.int .i64 x4.1.Kind, .int .i64 x4.1.N, .str x4.1.Key, .str x4.1.Value, .sl 5 (List.map enc23 x4.1.Kids)]) (by conv => lhs; whnf) (by conv => lhs; whnf) ty24 (by exact rfl)) (by decide) ?_
        refine alD none rfl rfl (do_store (cs' := [.int .i64 x4.1.Kind, .int .i64 x4.1.N, .str x4.1.Key, .str x4.1.Value, .sl 5 (List.map enc23 x4.1.Kids)]) (by conv => lhs; whnf) (by conv => lhs; whnf) (by conv => lhs; whnf) ty24 rfl rfl rfl (by exact rfl)) (by decide) ?_
        refine alP (some 3) rfl rfl (does_assign (v := .int .i64 0) (by exact rfl)) (by decide) ?_
        refine al_nil ?_
        refine hK14 _ ?_
        refine aw_ret ?_
        obtain rfl := Option.some.inj h
        exact ret_ok1 (by conv => lhs; whnf) (by conv => lhs; whnf) (by exact rfl) (.inr rfl) rfl
def slices_EqualFunc_Rule_rule_Same_l0 (K : Rule → Rule → Option Bool) (a0 : List Rule) (a1 : List Rule) (v17_0 : Int) : Option (Int ⊕ Bool) :=
  if (decide (v17_0 < (List.length a0 : Int))) = true then (gd (0 ≤ v17_0) (Option.bind (a0[(Int.toNat v17_0)]?) (fun (x16 : Rule) => gd (0 ≤ v17_0) (Option.bind (a1[(Int.toNat v17_0)]?) (fun (x19 : Rule) => Option.bind (K x16 x19) (fun (x21 : Bool) => if (!x21) = true then (some (Sum.inr false)) else (some (Sum.inl (IntKind.i64.wrap (v17_0 + 1)))))))))) else (some (Sum.inr true))
def slices_EqualFunc_Rule_rule_Same (K : Rule → Rule → Option Bool) (a0 : List Rule) (a1 : List Rule) : Option Bool :=
  if ((List.length a0 : Int) != (List.length a1 : Int)) = true then (some false) else (loopN (fun (s : Int) => slices_EqualFunc_Rule_rule_Same_l0 K a0 a1 s) Fu 0)
set_option maxRecDepth 100000 in
set_option maxHeartbeats 8000000 in
/-- slices.EqualFunc[[]gleaning/api.Rule,[]gleaning/api.Rule,gleaning/api.Rule,gleaning/api.Rule] -/
theorem slices_EqualFunc_Rule_rule_Same_ok (K : Rule → Rule → Option Bool) (hK : ∀ (a0 : Rule) (a1 : Rule) {r : Bool}, K a0 a1 = some r → Ok Try.prog 46 [.agg [.int .i64 a0.Kind, .int .i64 a0.N, .str a0.Key, .str a0.Value, .sl 5 (List.map enc23 a0.Kids)], .agg [.int .i64 a1.Kind, .int .i64 a1.N, .str a1.Key, .str a1.Value, .sl 5 (List.map enc23 a1.Kids)]] [] [] (.bool r) [] []) (a0 : List Rule) (a1 : List Rule) {r : Bool} (h : slices_EqualFunc_Rule_rule_Same K a0 a1 = some r) : Ok Try.prog 75 [.sl 5 (List.map enc23 a0), .sl 5 (List.map enc23 a1), .fn 46 []] [] [] (.bool r) [] [] := by
  unfold slices_EqualFunc_Rule_rule_Same at h
  refine ok_of_code Try.func75 rfl (by show (3 : Nat) ≤ _; decide) (Nat.le_refl _) fun X => ?_
  refine aw_seq_k (fun K1 hK1 => ?_)
  refine aw_regL ?_
  refine alP (some 6) rfl rfl (does_assign (v := .bool false) (by exact rfl)) (by decide) ?_
  refine al_nil ?_
  refine hK1 _ ?_
  refine aw_seq_k (fun K2 hK2 => ?_)
  refine aw_seq_k (fun K3 hK3 => ?_)
  refine aw_regL ?_
  refine alP (some 10) rfl rfl (does_move (v := .sl 5 (List.map enc23 a0)) (by exact rfl)) (by decide) ?_
  refine alP (some 11) rfl rfl ((does_len_sl (by conv => lhs; whnf) ty22).castp (v' := .int .i64 (List.length a0 : Int)) (by exact len_map _)) (by decide) ?_
  refine alP (some 12) rfl rfl (does_move (v := .sl 5 (List.map enc23 a1)) (by exact rfl)) (by decide) ?_
  refine alP (some 13) rfl rfl ((does_len_sl (by conv => lhs; whnf) ty22).castp (v' := .int .i64 (List.length a1 : Int)) (by exact len_map _)) (by decide) ?_
  refine alP (some 14) rfl rfl (does_bin (v := .bool ((List.length a0 : Int) != (List.length a1 : Int))) (by conv => lhs; whnf) (by conv => lhs; whnf) rfl) (by decide) ?_
  refine al_nil ?_
  refine hK3 _ ?_
  refine aw_bool (b := ((List.length a0 : Int) != (List.length a1 : Int))) 14 rfl (fun c4 => ?_) (fun c4 => ?_)
  · have h := ifT c4 h
    refine aw_cond_t (by decide) rfl ?_
    refine aw_seq_k (fun K5 hK5 => ?_)
    refine aw_regL ?_
    refine alP (some 6) rfl rfl (does_assign (v := .bool false) (by exact rfl)) (by decide) ?_
    refine al_nil ?_
    refine hK5 _ ?_
    refine aw_ret ?_
    obtain rfl := Option.some.inj h
    exact ret_ok1 (by conv => lhs; whnf) (by conv => lhs; whnf) (by exact rfl) (.inr rfl) rfl
  · have h := ifF c4 h
    refine aw_cond_f (by decide) rfl ?_
    refine aw_skip ?_
    refine hK2 _ ?_
    refine aw_seq_k (fun K6 hK6 => ?_)
    refine aw_seq_k (fun K7 hK7 => ?_)
    refine aw_regL ?_
    refine alP (some 15) rfl rfl (does_move (v := .sl 5 (List.map enc23 a0)) (by exact rfl)) (by decide) ?_
    refine alP (some 16) rfl rfl ((does_len_sl (by conv => lhs; whnf) ty22).castp (v' := .int .i64 (List.length a0 : Int)) (by exact len_map _)) (by decide) ?_
    refine alP (some 17) rfl rfl (does_move (v := .int .i64 0) (by exact rfl)) (by decide) ?_
    refine al_nil ?_
    refine hK7 _ ?_
    refine aw_block ?_
    refine aw_loop' (fun m s => ∃ (v17_0 : Int), loopN (fun (s : Int) => slices_EqualFunc_Rule_rule_Same_l0 K a0 a1 s) m v17_0 = some r ∧ s = lit [(1, .sl 5 (List.map enc23 a1)), (2, .fn 46 []), (15, .sl 5 (List.map enc23 a0)), (16, .int .i64 (List.length a0 : Int)), (17, .int .i64 v17_0)] [] [] X) Fu
      ⟨_, reb_lit [(1, .sl 5 (List.map enc23 a1)), (2, .fn 46 []), (15, .sl 5 (List.map enc23 a0)), (16, .int .i64 (List.length a0 : Int)), (17, .int .i64 (0))] [] [] [] (envOk_cons (by conv => lhs; whnf) (by exact rfl) (envOk_cons (by conv => lhs; whnf) (by exact rfl) (envOk_cons (by conv => lhs; whnf) (by exact rfl) (envOk_cons (by conv => lhs; whnf) (by exact rfl) (envOk_cons (by conv => lhs; whnf) (by exact rfl) envOk_nil))))) objOk_nil (nodup_b rfl) (nodup_b rfl) rfl rfl, 0, h, rfl⟩ ?_
    rintro m s ⟨v17_0, h, rfl⟩
    obtain ⟨m0, q8, rfl, h, hq9⟩ := loop_some h
    replace h : slices_EqualFunc_Rule_rule_Same_l0 K a0 a1 v17_0 = some q8 := h
    unfold slices_EqualFunc_Rule_rule_Same_l0 at h
    refine aw_seq_k (fun K10 hK10 => ?_)
    refine aw_regL ?_
    refine alP (some 18) rfl rfl (does_bin (v := .bool (decide (v17_0 < (List.length a0 : Int)))) (by conv => lhs; whnf) (by conv => lhs; whnf) rfl) (by decide) ?_
    refine al_nil ?_
    refine hK10 _ ?_
    refine aw_seq_k (fun K11 hK11 => ?_)
    refine aw_bool (b := (decide (v17_0 < (List.length a0 : Int)))) 18 rfl (fun c12 => ?_) (fun c12 => ?_)
    · have h := ifT c12 h
      refine aw_cond_t (by decide) rfl ?_
      refine aw_skip ?_
      refine hK11 _ ?_
      refine aw_seq_k (fun K13 hK13 => ?_)
      refine aw_block ?_
      refine aw_seq_k (fun K14 hK14 => ?_)
      refine aw_regL ?_
      refine alP (some 19) rfl rfl (does_move (v := .int .i64 v17_0) (by exact rfl)) (by decide) ?_
      obtain ⟨g15, h⟩ := gd_some h
      obtain ⟨x16, hx16, h⟩ := bnd_some h
      refine alP (some 20) rfl rfl (does_indexAddr_sl (el := .agg [.int .i64 x16.Kind, .int .i64 x16.N, .str x16.Key, .str x16.Value, .sl 5 (List.map enc23 x16.Kids)]) (by conv => lhs; whnf) (by conv => lhs; whnf) ty22 ty24 g15 (by exact map_getE (enc23_eq _) hx16)) (by decide) ?_
      refine alR (some 21) rfl rfl (does_load (v := .agg [.int .i64 x16.Kind, .int .i64 x16.N, .str x16.Key, .str x16.Value, .sl 5 (List.map enc23 x16.Kids)]) (by conv => lhs; whnf) (by conv => lhs; whnf) ty24 (by exact rfl)) (by decide) ?_
      refine alD (some 8) rfl rfl (do_new ty24 rfl rfl) (by decide) ?_
      refine alP (some 7) rfl rfl (does_assign (v := .int .i64 v17_0) (by exact rfl)) (by decide) ?_
      refine alD none rfl rfl (do_store (cs' := [.int .i64 x16.Kind, .int .i64 x16.N, .str x16.Key, .str x16.Value, .sl 5 (List.map enc23 x16.Kids)]) (by conv => lhs; whnf) (by conv => lhs; whnf) (by conv => lhs; whnf) ty24 rfl rfl rfl (by exact rfl)) (by decide) ?_
      refine al_nil ?_
      refine hK14 _ ?_
      refine aw_seq_k (fun K17 hK17 => ?_)
      refine aw_regL ?_
      refine alP (some 22) rfl rfl (does_move (v := .sl 5 (List.map enc23 a1)) (by exact rfl)) (by decide) ?_
      refine alP (some 23) rfl rfl (does_move (v := .int .i64 v17_0) (by exact rfl)) (by decide) ?_
      obtain ⟨g18, h⟩ := gd_some h
      obtain ⟨x19, hx19, h⟩ := bnd_some h
      refine alP (some 24) rfl rfl (does_indexAddr_sl (el := .agg [.int .i64 x19.Kind, .int .i64 x19.N, .str x19.Key, .str x19.Value, .sl 5 (List.map enc23 x19.Kids)]) (by conv => lhs; whnf) (by conv => lhs; whnf) ty22 ty24 g18 (by exact map_getE (enc23_eq _) hx19)) (by decide) ?_
      refine alR (some 25) rfl rfl (does_load (v := .agg [.int .i64 x19.Kind, .int .i64 x19.N, .str x19.Key, .str x19.Value, .sl 5 (List.map enc23 x19.Kids)]) (by conv => lhs; whnf) (by conv => lhs; whnf) ty24 (by exact rfl)) (by decide) ?_
      refine alD (some 9) rfl rfl (do_new ty24 rfl rfl) (by decide) ?_
      refine alD none rfl rfl (do_store (cs' := [.int .i64 x19.Kind, .int .i64 x19.N, .str x19.Key, .str x19.Value, .sl 5 (List.map enc23 x19.Kids)]) (by conv => lhs; whnf) (by conv => lhs; whnf) (by conv => lhs; whnf) ty24 rfl rfl rfl (by exact rfl)) (by decide) ?_
      refine al_nil ?_
      refine hK17 _ ?_
      refine aw_seq_k (fun K20 hK20 => ?_)
      refine aw_regL ?_
      refine alP (some 26) rfl rfl (does_move (v := .fn 46 []) (by exact rfl)) (by decide) ?_
      refine alR (some 27) rfl rfl (does_load (v := .agg [.int .i64 x16.Kind, .int .i64 x16.N, .str x16.Key, .str x16.Value, .sl 5 (List.map enc23 x16.Kids)]) (by conv => lhs; whnf) (by conv => lhs; whnf) ty24 (by exact rfl)) (by decide) ?_
      refine alR (some 28) rfl rfl (does_load (v := .agg [.int .i64 x19.Kind, .int .i64 x19.N, .str x19.Key, .str x19.Value, .sl 5 (List.map enc23 x19.Kids)]) (by conv => lhs; whnf) (by conv => lhs; whnf) ty24 (by exact rfl)) (by decide) ?_
      obtain ⟨x21, hx21, h⟩ := bnd_some h
      refine alD (some 29) rfl rfl (do_call0 29 false (hK x16 x19 hx21) rfl ent46 rfl rfl) (by decide) ?_
      refine alP (some 30) rfl rfl (does_un (v := .bool (!x21)) (by conv => lhs; whnf) rfl) (by decide) ?_
      refine al_nil ?_
      refine hK20 _ ?_
      refine aw_bool (b := (!x21)) 30 rfl (fun c22 => ?_) (fun c22 => ?_)
      · have h := ifT c22 h
        refine aw_cond_t (by decide) rfl ?_
        refine aw_seq_k (fun K23 hK23 => ?_)
        refine aw_regL ?_
        refine alP (some 6) rfl rfl (does_assign (v := .bool false) (by exact rfl)) (by decide) ?_
        refine al_nil ?_
        refine hK23 _ ?_
        refine aw_ret ?_
        have h := leafR h hq9
        obtain rfl := Option.some.inj h
        exact ret_ok1 (by conv => lhs; whnf) (by conv => lhs; whnf) (by exact rfl) (.inr rfl) rfl
      · have h := ifF c22 h
        refine aw_cond_f (by decide) rfl ?_
        refine aw_skip ?_
        refine hK13 _ ?_
        refine aw_regL ?_
        refine alP (some 31) rfl rfl (does_bin (v := .int .i64 (IntKind.i64.wrap (v17_0 + 1))) (by conv => lhs; whnf) (by conv => lhs; whnf) rfl) (by decide) ?_
        refine alP (some 17) rfl rfl (does_move (v := .int .i64 (IntKind.i64.wrap (v17_0 + 1))) (by exact rfl)) (by decide) ?_
        refine al_nil ?_
        have h := leafL h hq9
        exact ⟨m0, Nat.lt_succ_self _, _, reb_lit [(1, .sl 5 (List.map enc23 a1)), (2, .fn 46 []), (15, .sl 5 (List.map enc23 a0)), (16, .int .i64 (List.length a0 : Int)), (17, .int .i64 (IntKind.i64.wrap (v17_0 + 1)))] [] [] [] (envOk_cons (by conv => lhs; whnf) (by exact rfl) (envOk_cons (by conv => lhs; whnf) (by exact rfl) (envOk_cons (by conv => lhs; whnf) (by exact rfl) (envOk_cons (by conv => lhs; whnf) (by exact rfl) (envOk_cons (by conv => lhs; whnf) (by exact rfl) envOk_nil))))) objOk_nil (nodup_b rfl) (nodup_b rfl) rfl rfl, (IntKind.i64.wrap (v17_0 + 1)), h, rfl⟩
    · have h := ifF c12 h
      refine aw_cond_f (by decide) rfl ?_
      refine aw_exit ?_
      have h := leafR h hq9
      refine hK6 _ ?_
      refine aw_seq_k (fun K24 hK24 => ?_)
      refine aw_regL ?_
      refine alP (some 6) rfl rfl (does_assign (v := .bool true) (by exact rfl)) (by decide) ?_
      refine al_nil ?_
      refine hK24 _ ?_
      refine aw_ret ?_
      obtain rfl := Option.some.inj h
      exact ret_ok1 (by conv => lhs; whnf) (by conv => lhs; whnf) (by exact rfl) (.inr rfl) rfl
def rule_Same_b (K : Rule → Rule → Option Bool) (a0 : Rule) (a1 : Rule) : Option Bool :=
  if (a0.Kind == a1.Kind) = true then (if (a0.N == a1.N) = true then (if (ByteArray.toList a0.Key == ByteArray.toList a1.Key) = true then (if (ByteArray.toList a0.Value == ByteArray.toList a1.Value) = true then (Option.bind (slices_EqualFunc_Rule_rule_Same K a0.Kids a1.Kids) (fun (x7 : Bool) => some x7)) else (some false)) else (some false)) else (some false)) else (some false)
set_option maxRecDepth 100000 in
set_option maxHeartbeats 8000000 in
/-- gleaning/rule.Same -/
theorem rule_Same_b_ok (K : Rule → Rule → Option Bool) (hK : ∀ (a0 : Rule) (a1 : Rule) {r : Bool}, K a0 a1 = some r → Ok Try.prog 46 [.agg [.int .i64 a0.Kind, .int .i64 a0.N, .str a0.Key, .str a0.Value, .sl 5 (List.map enc23 a0.Kids)], .agg [.int .i64 a1.Kind, .int .i64 a1.N, .str a1.Key, .str a1.Value, .sl 5 (List.map enc23 a1.Kids)]] [] [] (.bool r) [] []) (a0 : Rule) (a1 : Rule) {r : Bool} (h : rule_Same_b K a0 a1 = some r) : Ok Try.prog 46 [.agg [.int .i64 a0.Kind, .int .i64 a0.N, .str a0.Key, .str a0.Value, .sl 5 (List.map enc23 a0.Kids)], .agg [.int .i64 a1.Kind, .int .i64 a1.N, .str a1.Key, .str a1.Value, .sl 5 (List.map enc23 a1.Kids)]] [] [] (.bool r) [] [] := by
  unfold rule_Same_b at h
  refine ok_of_code Try.func46 rfl (by show (2 : Nat) ≤ _; decide) (Nat.le_refl _) fun X => ?_
  refine aw_seq_k (fun K1 hK1 => ?_)
  refine aw_regL ?_
  refine alD (some 2) rfl rfl (do_box (by conv => lhs; whnf) rfl rfl) (by decide) ?_
  refine alD (some 3) rfl rfl (do_box (by conv => lhs; whnf) rfl rfl) (by decide) ?_
  refine alP (some 4) rfl rfl (does_assign (v := .bool false) (by exact rfl)) (by decide) ?_
  refine al_nil ?_
  refine hK1 _ ?_
  refine aw_seq_k (fun K2 hK2 => ?_)
  refine aw_regL ?_
  refine alP (some 5) rfl rfl (does_fieldAddr (q := .ptr 2 0 0) (by conv => lhs; whnf) ty24 rfl ty3 (by decide) (by exact rfl)) (by decide) ?_
  refine alR (some 6) rfl rfl (does_load (v := .int .i64 a0.Kind) (by conv => lhs; whnf) (by conv => lhs; whnf) ty3 (by exact rfl)) (by decide) ?_
  refine alP (some 7) rfl rfl (does_fieldAddr (q := .ptr 3 0 0) (by conv => lhs; whnf) ty24 rfl ty3 (by decide) (by exact rfl)) (by decide) ?_
  refine alR (some 8) rfl rfl (does_load (v := .int .i64 a1.Kind) (by conv => lhs; whnf) (by conv => lhs; whnf) ty3 (by exact rfl)) (by decide) ?_
  refine alP (some 9) rfl rfl (does_bin (v := .bool (a0.Kind == a1.Kind)) (by conv => lhs; whnf) (by conv => lhs; whnf) rfl) (by decide) ?_
  refine alP (some 10) rfl rfl (does_move (v := .bool (a0.Kind == a1.Kind)) (by exact rfl)) (by decide) ?_
  refine al_bool (c := (a0.Kind == a1.Kind)) 10 rfl (fun c3 => ?_) (fun c3 => ?_)
  · have h := ifT c3 h
    refine alP (some 11) rfl rfl (does_fieldAddr (q := .ptr 2 0 1) (by conv => lhs; whnf) ty24 rfl ty3 (by decide) (by exact rfl)) (by decide) ?_
    refine alR (some 12) rfl rfl (does_load (v := .int .i64 a0.N) (by conv => lhs; whnf) (by conv => lhs; whnf) ty3 (by exact rfl)) (by decide) ?_
    refine alP (some 13) rfl rfl (does_fieldAddr (q := .ptr 3 0 1) (by conv => lhs; whnf) ty24 rfl ty3 (by decide) (by exact rfl)) (by decide) ?_
    refine alR (some 14) rfl rfl (does_load (v := .int .i64 a1.N) (by conv => lhs; whnf) (by conv => lhs; whnf) ty3 (by exact rfl)) (by decide) ?_
    refine alP (some 15) rfl rfl (does_bin (v := .bool (a0.N == a1.N)) (by conv => lhs; whnf) (by conv => lhs; whnf) rfl) (by decide) ?_
    refine alP (some 16) rfl rfl (does_pick (v := .bool (a0.N == a1.N)) (by conv => lhs; whnf) (by exact rfl)) (by decide) ?_
    refine alP (some 17) rfl rfl (does_move (v := .bool (a0.N == a1.N)) (by exact rfl)) (by decide) ?_
    refine al_bool (c := (a0.N == a1.N)) 17 rfl (fun c4 => ?_) (fun c4 => ?_)
    · have h := ifT c4 h
      refine alP (some 18) rfl rfl (does_fieldAddr (q := .ptr 2 0 2) (by conv => lhs; whnf) ty24 rfl ty9 (by decide) (by exact rfl)) (by decide) ?_
      refine alR (some 19) rfl rfl (does_load (v := .str a0.Key) (by conv => lhs; whnf) (by conv => lhs; whnf) ty9 (by exact rfl)) (by decide) ?_
      refine alP (some 20) rfl rfl (does_fieldAddr (q := .ptr 3 0 2) (by conv => lhs; whnf) ty24 rfl ty9 (by decide) (by exact rfl)) (by decide) ?_
      refine alR (some 21) rfl rfl (does_load (v := .str a1.Key) (by conv => lhs; whnf) (by conv => lhs; whnf) ty9 (by exact rfl)) (by decide) ?_
      refine alP (some 22) rfl rfl (does_bin (v := .bool (ByteArray.toList a0.Key == ByteArray.toList a1.Key)) (by conv => lhs; whnf) (by conv => lhs; whnf) rfl) (by decide) ?_
      refine alP (some 23) rfl rfl (does_pick (v := .bool (ByteArray.toList a0.Key == ByteArray.toList a1.Key)) (by conv => lhs; whnf) (by exact rfl)) (by decide) ?_
      refine alP (some 24) rfl rfl (does_move (v := .bool (ByteArray.toList a0.Key == ByteArray.toList a1.Key)) (by exact rfl)) (by decide) ?_
      refine al_bool (c := (ByteArray.toList a0.Key == ByteArray.toList a1.Key)) 24 rfl (fun c5 => ?_) (fun c5 => ?_)
      · have h := ifT c5 h
        refine alP (some 25) rfl rfl (does_fieldAddr (q := .ptr 2 0 3) (by conv => lhs; whnf) ty24 rfl ty9 (by decide) (by exact rfl)) (by decide) ?_
        refine alR (some 26) rfl rfl (does_load (v := .str a0.Value) (by conv => lhs; whnf) (by conv => lhs; whnf) ty9 (by exact rfl)) (by decide) ?_
        refine alP (some 27) rfl rfl (does_fieldAddr (q := .ptr 3 0 3) (by conv => lhs; whnf) ty24 rfl ty9 (by decide) (by exact rfl)) (by decide) ?_
        refine alR (some 28) rfl rfl (does_load (v := .str a1.Value) (by conv => lhs; whnf) (by conv => lhs; whnf) ty9 (by exact rfl)) (by decide) ?_
        refine alP (some 29) rfl rfl (does_bin (v := .bool (ByteArray.toList a0.Value == ByteArray.toList a1.Value)) (by conv => lhs; whnf) (by conv => lhs; whnf) rfl) (by decide) ?_
        refine alP (some 30) rfl rfl (does_pick (v := .bool (ByteArray.toList a0.Value == ByteArray.toList a1.Value)) (by conv => lhs; whnf) (by exact rfl)) (by decide) ?_
        refine alP (some 31) rfl rfl (does_move (v := .bool (ByteArray.toList a0.Value == ByteArray.toList a1.Value)) (by exact rfl)) (by decide) ?_
        refine al_bool (c := (ByteArray.toList a0.Value == ByteArray.toList a1.Value)) 31 rfl (fun c6 => ?_) (fun c6 => ?_)
        · have h := ifT c6 h
          refine alP (some 32) rfl rfl (does_fieldAddr (q := .ptr 2 0 4) (by conv => lhs; whnf) ty24 rfl ty22 (by decide) (by exact rfl)) (by decide) ?_
          refine alR (some 33) rfl rfl (does_load (v := .sl 5 (List.map enc23 a0.Kids)) (by conv => lhs; whnf) (by conv => lhs; whnf) ty22 (by exact rfl)) (by decide) ?_
          refine alP (some 34) rfl rfl (does_fieldAddr (q := .ptr 3 0 4) (by conv => lhs; whnf) ty24 rfl ty22 (by decide) (by exact rfl)) (by decide) ?_
          refine alR (some 35) rfl rfl (does_load (v := .sl 5 (List.map enc23 a1.Kids)) (by conv => lhs; whnf) (by conv => lhs; whnf) ty22 (by exact rfl)) (by decide) ?_
          obtain ⟨x7, hx7, h⟩ := bnd_some h
          refine alD (some 36) rfl rfl ((do_call0 36 false (slices_EqualFunc_Rule_rule_Same_ok K hK a0.Kids a1.Kids hx7) rfl ent75 rfl rfl).fx (y := ⟨[], .bool x7, [], [36]⟩) rfl) (by decide) ?_
          refine alP (some 37) rfl rfl (does_pick (v := .bool x7) (by conv => lhs; whnf) (by exact rfl)) (by decide) ?_
          refine alP (some 4) rfl rfl (does_assign (v := .bool x7) (by exact rfl)) (by decide) ?_
          refine al_nil ?_
          refine hK2 _ ?_
          refine aw_ret ?_
          obtain rfl := Option.some.inj h
          exact ret_ok1 (by conv => lhs; whnf) (by conv => lhs; whnf) (by exact rfl) (.inr rfl) rfl
        · have h := ifF c6 h
          refine alS (some 32) rfl rfl (by decide) ?_
          refine alS (some 33) rfl rfl (by decide) ?_
          refine alS (some 34) rfl rfl (by decide) ?_
          refine alS (some 35) rfl rfl (by decide) ?_
          refine alS (some 36) rfl rfl (by decide) ?_
          refine alP (some 37) rfl rfl (does_pick (v := .bool false) (by conv => lhs; whnf) (by exact rfl)) (by decide) ?_
          refine alP (some 4) rfl rfl (does_assign (v := .bool false) (by exact rfl)) (by decide) ?_
          refine al_nil ?_
          refine hK2 _ ?_
          refine aw_ret ?_
          obtain rfl := Option.some.inj h
          exact ret_ok1 (by conv => lhs; whnf) (by conv => lhs; whnf) (by exact rfl) (.inr rfl) rfl
      · have h := ifF c5 h
        refine alS (some 25) rfl rfl (by decide) ?_
        refine alS (some 26) rfl rfl (by decide) ?_
        refine alS (some 27) rfl rfl (by decide) ?_
        refine alS (some 28) rfl rfl (by decide) ?_
        refine alS (some 29) rfl rfl (by decide) ?_
        refine alP (some 30) rfl rfl (does_pick (v := .bool false) (by conv => lhs; whnf) (by exact rfl)) (by decide) ?_
        refine alP (some 31) rfl rfl (does_move (v := .bool false) (by exact rfl)) (by decide) ?_
        refine alS (some 32) rfl rfl (by decide) ?_
        refine alS (some 33) rfl rfl (by decide) ?_
        refine alS (some 34) rfl rfl (by decide) ?_
        refine alS (some 35) rfl rfl (by decide) ?_
        refine alS (some 36) rfl rfl (by decide) ?_
        refine alP (some 37) rfl rfl (does_pick (v := .bool false) (by conv => lhs; whnf) (by exact rfl)) (by decide) ?_
        refine alP (some 4) rfl rfl (does_assign (v := .bool false) (by exact rfl)) (by decide) ?_
        refine al_nil ?_
        refine hK2 _ ?_
        refine aw_ret ?_
        obtain rfl := Option.some.inj h
        exact ret_ok1 (by conv => lhs; whnf) (by conv => lhs; whnf) (by exact rfl) (.inr rfl) rfl
    · have h := ifF c4 h
      refine alS (some 18) rfl rfl (by decide) ?_
      refine alS (some 19) rfl rfl (by decide) ?_
      refine alS (some 20) rfl rfl (by decide) ?_
      refine alS (some 21) rfl rfl (by decide) ?_
      refine alS (some 22) rfl rfl (by decide) ?_
      refine alP (some 23) rfl rfl (does_pick (v := .bool false) (by conv => lhs; whnf) (by exact rfl)) (by decide) ?_
      refine alP (some 24) rfl rfl (does_move (v := .bool false) (by exact rfl)) (by decide) ?_
      refine alS (some 25) rfl rfl (by decide) ?_
      refine alS (some 26) rfl rfl (by decide) ?_
      refine alS (some 27) rfl rfl (by decide) ?_
      refine alS (some 28) rfl rfl (by decide) ?_
      refine alS (some 29) rfl rfl (by decide) ?_
      refine alP (some 30) rfl rfl (does_pick (v := .bool false) (by conv => lhs; whnf) (by exact rfl)) (by decide) ?_
      refine alP (some 31) rfl rfl (does_move (v := .bool false) (by exact rfl)) (by decide) ?_
      refine alS (some 32) rfl rfl (by decide) ?_
      refine alS (some 33) rfl rfl (by decide) ?_
      refine alS (some 34) rfl rfl (by decide) ?_
      refine alS (some 35) rfl rfl (by decide) ?_
      refine alS (some 36) rfl rfl (by decide) ?_
      refine alP (some 37) rfl rfl (does_pick (v := .bool false) (by conv => lhs; whnf) (by exact rfl)) (by decide) ?_
      refine alP (some 4) rfl rfl (does_assign (v := .bool false) (by exact rfl)) (by decide) ?_
      refine al_nil ?_
      refine hK2 _ ?_
      refine aw_ret ?_
      obtain rfl := Option.some.inj h
      exact ret_ok1 (by conv => lhs; whnf) (by conv => lhs; whnf) (by exact rfl) (.inr rfl) rfl
  · have h := ifF c3 h
    refine alS (some 11) rfl rfl (by decide) ?_
    refine alS (some 12) rfl rfl (by decide) ?_
    refine alS (some 13) rfl rfl (by decide) ?_
    refine alS (some 14) rfl rfl (by decide) ?_
    refine alS (some 15) rfl rfl (by decide) ?_
    refine alP (some 16) rfl rfl (does_pick (v := .bool false) (by conv => lhs; whnf) (by exact rfl)) (by decide) ?_
    refine alP (some 17) rfl rfl (does_move (v := .bool false) (by exact rfl)) (by decide) ?_
    refine alS (some 18) rfl rfl (by decide) ?_
    refine alS (some 19) rfl rfl (by decide) ?_
    refine alS (some 20) rfl rfl (by decide) ?_
    refine alS (some 21) rfl rfl (by decide) ?_
    refine alS (some 22) rfl rfl (by decide) ?_
    refine alP (some 23) rfl rfl (does_pick (v := .bool false) (by conv => lhs; whnf) (by exact rfl)) (by decide) ?_
    refine alP (some 24) rfl rfl (does_move (v := .bool false) (by exact rfl)) (by decide) ?_
    refine alS (some 25) rfl rfl (by decide) ?_
    refine alS (some 26) rfl rfl (by decide) ?_
    refine alS (some 27) rfl rfl (by decide) ?_
    refine alS (some 28) rfl rfl (by decide) ?_
    refine alS (some 29) rfl rfl (by decide) ?_
    refine alP (some 30) rfl rfl (does_pick (v := .bool false) (by conv => lhs; whnf) (by exact rfl)) (by decide) ?_
    refine alP (some 31) rfl rfl (does_move (v := .bool false) (by exact rfl)) (by decide) ?_
    refine alS (some 32) rfl rfl (by decide) ?_
    refine alS (some 33) rfl rfl (by decide) ?_
    refine alS (some 34) rfl rfl (by decide) ?_
    refine alS (some 35) rfl rfl (by decide) ?_
    refine alS (some 36) rfl rfl (by decide) ?_
    refine alP (some 37) rfl rfl (does_pick (v := .bool false) (by conv => lhs; whnf) (by exact rfl)) (by decide) ?_
    refine alP (some 4) rfl rfl (does_assign (v := .bool false) (by exact rfl)) (by decide) ?_
    refine al_nil ?_
    refine hK2 _ ?_
    refine aw_ret ?_
    obtain rfl := Option.some.inj h
    exact ret_ok1 (by conv => lhs; whnf) (by conv => lhs; whnf) (by exact rfl) (.inr rfl) rfl
def rule_SameN : Nat → Rule → Rule → Option Bool
  | 0, _, _ => none
  | n + 1, a0, a1 => rule_Same_b (rule_SameN n) a0 a1
theorem rule_SameN_ok : ∀ (n : Nat) (a0 : Rule) (a1 : Rule) {r : Bool}, rule_SameN n a0 a1 = some r → Ok Try.prog 46 [.agg [.int .i64 a0.Kind, .int .i64 a0.N, .str a0.Key, .str a0.Value, .sl 5 (List.map enc23 a0.Kids)], .agg [.int .i64 a1.Kind, .int .i64 a1.N, .str a1.Key, .str a1.Value, .sl 5 (List.map enc23 a1.Kids)]] [] [] (.bool r) [] []
  | 0, _, _, _, h => by simp [rule_SameN] at h
  | n + 1, a0, a1, _, h => rule_Same_b_ok (rule_SameN n) (rule_SameN_ok n) a0 a1 h
def rule_Same (a0 : Rule) (a1 : Rule) : Option Bool := rule_SameN Fu a0 a1
theorem rule_Same_ok (a0 : Rule) (a1 : Rule) {r : Bool} (h : rule_Same a0 a1 = some r) : Ok Try.prog 46 [.agg [.int .i64 a0.Kind, .int .i64 a0.N, .str a0.Key, .str a0.Value, .sl 5 (List.map enc23 a0.Kids)], .agg [.int .i64 a1.Kind, .int .i64 a1.N, .str a1.Key, .str a1.Value, .sl 5 (List.map enc23 a1.Kids)]] [] [] (.bool r) [] [] := rule_SameN_ok Fu a0 a1 h
end Go.Proofs.Ytbfmmaabaenhgaa.Ab
