/- Chapter 32: who asks for more. -/
import Derived.Test.YtnhjcpnoadicpaaXSTells
import Derived.Test.YtnhjcpnoadicpaaProg
namespace Go.Proofs.Ytnhjcpnoadicpaa.Ab
open Go Go.RowKit
set_option linter.unusedVariables false
set_option linter.unusedSimpArgs false
theorem ent18 : Ent Try.prog 18 := ⟨_, Try.func18, by kernel_rfl, rfl⟩
theorem ent19 : Ent Try.prog 19 := ⟨_, Try.func19, by kernel_rfl, rfl⟩
def gleaninglaw32_within_k2 (a0 : List Trace) (a1 : List Trace) (v5_1 : Int) (v6_1 : Int) : Option ((Int × Int) ⊕ Int) :=
  gd (0 ≤ v5_1) (Option.bind (a0[(Int.toNat v5_1)]?) (fun (x16 : Trace) => gd (0 ≤ v6_1) (Option.bind (a1[(Int.toNat v6_1)]?) (fun (x18 : Trace) => if ((x16.Hi == x18.Hi) && ((x16.Lo == x18.Lo) && true)) = true then (some (Sum.inl ((IntKind.i64.wrap (v5_1 + 1)), (IntKind.i64.wrap (v6_1 + 1))))) else (some (Sum.inl (v5_1, (IntKind.i64.wrap (v6_1 + 1)))))))))
def gleaninglaw32_within_l1 (a0 : List Trace) (a1 : List Trace) (v5_1 : Int) (v6_1 : Int) : Option ((Int × Int) ⊕ Int) :=
  Option.bind (if (decide (v6_1 < (List.length a1 : Int))) = true then (if (decide (v5_1 < (List.length a0 : Int))) = true then (some (Sum.inl ())) else (some (Sum.inr (Sum.inr v5_1)))) else (some (Sum.inr (Sum.inr v5_1)))) (Sum.elim (fun (s : Unit) => gleaninglaw32_within_k2 a0 a1 v5_1 v6_1) some)
def gleaninglaw32_within_k0 (a0 : List Trace) (v5_0 : Int) : Option Bool :=
  some (v5_0 == (List.length a0 : Int))
def gleaninglaw32_within (a0 : List Trace) (a1 : List Trace) : Option Bool :=
  Option.bind (loopN (fun (s : Int × Int) => gleaninglaw32_within_l1 a0 a1 s.1 s.2) Fu (0, 0)) (fun (s : Int) => gleaninglaw32_within_k0 a0 s)
set_option maxRecDepth 100000 in
set_option maxHeartbeats 8000000 in
/-- gleaning/gleaninglaw32.within -/
theorem gleaninglaw32_within_ok (a0 : List Trace) (a1 : List Trace) {r : Bool} (h : gleaninglaw32_within a0 a1 = some r) : Ok Try.prog 18 [.sl 2 (List.map enc26 a0), .sl 2 (List.map enc26 a1)] [] [] (.bool r) [] [] := by
  unfold gleaninglaw32_within at h
  refine ok_of_code Try.func18 rfl (by show (2 : Nat) ≤ _; decide) (Nat.le_refl _) fun X => ?_
  refine aw_seq_k (fun K1 hK1 => ?_)
  refine aw_regL ?_
  refine alP (some 4) rfl rfl (does_assign (v := .bool false) (by exact rfl)) (by decide) ?_
  refine al_nil ?_
  refine hK1 _ ?_
  refine aw_seq_k (fun K2 hK2 => ?_)
  refine aw_regL ?_
  refine alP (some 5) rfl rfl (does_assign (v := .int .i64 0) (by exact rfl)) (by decide) ?_
  refine al_nil ?_
  refine hK2 _ ?_
  obtain ⟨q3, h, hk4⟩ := bnd_some h
  refine aw_cut (fun s => ∃ (v5_0 : Int), gleaninglaw32_within_k0 a0 v5_0 = some r ∧ s = lit [(0, .sl 2 (List.map enc26 a0)), (5, .int .i64 v5_0)] [] [] X) ?_ ?_
  · skip
    refine aw_seq_k (fun K5 hK5 => ?_)
    refine aw_regL ?_
    refine alP (some 6) rfl rfl (does_assign (v := .int .i64 0) (by exact rfl)) (by decide) ?_
    refine al_nil ?_
    refine hK5 _ ?_
    refine aw_block ?_
    refine aw_loop' (fun m s => ∃ (v5_1 : Int), ∃ (v6_1 : Int), loopN (fun (s : Int × Int) => gleaninglaw32_within_l1 a0 a1 s.1 s.2) m (v5_1, v6_1) = some q3 ∧ s = lit [(0, .sl 2 (List.map enc26 a0)), (1, .sl 2 (List.map enc26 a1)), (5, .int .i64 v5_1), (6, .int .i64 v6_1)] [] [] X) Fu
      ⟨_, reb_lit [(0, .sl 2 (List.map enc26 a0)), (1, .sl 2 (List.map enc26 a1)), (5, .int .i64 (0)), (6, .int .i64 (0))] [] [] [] (envOk_cons (by conv => lhs; whnf) (by exact rfl) (envOk_cons (by conv => lhs; whnf) (by exact rfl) (envOk_cons (by conv => lhs; whnf) (by exact rfl) (envOk_cons (by conv => lhs; whnf) (by exact rfl) envOk_nil)))) objOk_nil (nodup_b rfl) (nodup_b rfl) rfl rfl, 0, 0, h, rfl⟩ ?_
    rintro m s ⟨v5_1, v6_1, h, rfl⟩
    obtain ⟨m1, q6, rfl, h, hq7⟩ := loop_some h
    replace h : gleaninglaw32_within_l1 a0 a1 v5_1 v6_1 = some q6 := h
    unfold gleaninglaw32_within_l1 at h
    obtain ⟨q8, h, hk9⟩ := bnd_some h
    refine aw_cut (fun s => gleaninglaw32_within_k2 a0 a1 v5_1 v6_1 = some q6 ∧ s = lit [(0, .sl 2 (List.map enc26 a0)), (1, .sl 2 (List.map enc26 a1)), (5, .int .i64 v5_1), (6, .int .i64 v6_1)] [] [] X) ?_ ?_
    · skip
      refine aw_seq_k (fun K10 hK10 => ?_)
      refine aw_regL ?_
      refine alP (some 7) rfl rfl (does_move (v := .int .i64 v6_1) (by exact rfl)) (by decide) ?_
      refine alP (some 8) rfl rfl (does_move (v := .sl 2 (List.map enc26 a1)) (by exact rfl)) (by decide) ?_
      refine alP (some 9) rfl rfl ((does_len_sl (by conv => lhs; whnf) ty37).castp (v' := .int .i64 (List.length a1 : Int)) (by exact len_map _)) (by decide) ?_
      refine alP (some 10) rfl rfl (does_bin (v := .bool (decide (v6_1 < (List.length a1 : Int)))) (by conv => lhs; whnf) (by conv => lhs; whnf) rfl) (by decide) ?_
      refine alP (some 11) rfl rfl (does_move (v := .bool (decide (v6_1 < (List.length a1 : Int)))) (by exact rfl)) (by decide) ?_
      refine al_bool (c := (decide (v6_1 < (List.length a1 : Int)))) 11 rfl (fun c11 => ?_) (fun c11 => ?_)
      · have h := ifT c11 h
        refine alP (some 12) rfl rfl (does_move (v := .int .i64 v5_1) (by exact rfl)) (by decide) ?_
        refine alP (some 13) rfl rfl (does_move (v := .sl 2 (List.map enc26 a0)) (by exact rfl)) (by decide) ?_
        refine alP (some 14) rfl rfl ((does_len_sl (by conv => lhs; whnf) ty37).castp (v' := .int .i64 (List.length a0 : Int)) (by exact len_map _)) (by decide) ?_
        refine alP (some 15) rfl rfl (does_bin (v := .bool (decide (v5_1 < (List.length a0 : Int)))) (by conv => lhs; whnf) (by conv => lhs; whnf) rfl) (by decide) ?_
        refine alP (some 16) rfl rfl (does_pick (v := .bool (decide (v5_1 < (List.length a0 : Int)))) (by conv => lhs; whnf) (by exact rfl)) (by decide) ?_
        refine al_nil ?_
        refine hK10 _ ?_
        refine aw_bool (b := (decide (v5_1 < (List.length a0 : Int)))) 16 rfl (fun c12 => ?_) (fun c12 => ?_)
        · have h := ifT c12 h
          refine aw_cond_t (by decide) rfl ?_
          refine aw_skip ?_
          have h := leafL h hk9
          exact ⟨_, reb_lit [(0, .sl 2 (List.map enc26 a0)), (1, .sl 2 (List.map enc26 a1)), (5, .int .i64 v5_1), (6, .int .i64 v6_1)] [] [] [] (envOk_cons (by conv => lhs; whnf) (by exact rfl) (envOk_cons (by conv => lhs; whnf) (by exact rfl) (envOk_cons (by conv => lhs; whnf) (by exact rfl) (envOk_cons (by conv => lhs; whnf) (by exact rfl) envOk_nil)))) objOk_nil (nodup_b rfl) (nodup_b rfl) rfl rfl, h, rfl⟩
        · have h := ifF c12 h
          refine aw_cond_f (by decide) rfl ?_
          refine aw_exit ?_
          have h := leafR h hk9
          have h := leafR h hq7
          obtain rfl := Option.some.inj h
          have h := hk4
          exact ⟨_, reb_lit [(0, .sl 2 (List.map enc26 a0)), (5, .int .i64 v5_1)] [] [] [] (envOk_cons (by conv => lhs; whnf) (by exact rfl) (envOk_cons (by conv => lhs; whnf) (by exact rfl) envOk_nil)) objOk_nil (nodup_b rfl) (nodup_b rfl) rfl rfl, v5_1, h, rfl⟩
      · have h := ifF c11 h
        refine alS (some 12) rfl rfl (by decide) ?_
        refine alS (some 13) rfl rfl (by decide) ?_
        refine alS (some 14) rfl rfl (by decide) ?_
        refine alS (some 15) rfl rfl (by decide) ?_
        refine alP (some 16) rfl rfl (does_pick (v := .bool false) (by conv => lhs; whnf) (by exact rfl)) (by decide) ?_
        refine al_nil ?_
        refine hK10 _ ?_
        refine aw_cond_f (by decide) rfl ?_
        refine aw_exit ?_
        have h := leafR h hk9
        have h := leafR h hq7
        obtain rfl := Option.some.inj h
        have h := hk4
        exact ⟨_, reb_lit [(0, .sl 2 (List.map enc26 a0)), (5, .int .i64 v5_1)] [] [] [] (envOk_cons (by conv => lhs; whnf) (by exact rfl) (envOk_cons (by conv => lhs; whnf) (by exact rfl) envOk_nil)) objOk_nil (nodup_b rfl) (nodup_b rfl) rfl rfl, v5_1, h, rfl⟩
    · rintro s ⟨h, rfl⟩
      unfold gleaninglaw32_within_k2 at h
      refine aw_seq_k (fun K13 hK13 => ?_)
      refine aw_block ?_
      refine aw_seq_k (fun K14 hK14 => ?_)
      refine aw_regd (by kernel_rfl) (by decide +kernel) ?_
      refine aoP (some 19) rfl rfl (does_move (v := .sl 2 (List.map enc26 a0)) (by exact rfl)) (by decide) ?_
      refine aoP (some 20) rfl rfl (does_move (v := .int .i64 v5_1) (by exact rfl)) (by decide) ?_
      obtain ⟨g15, h⟩ := gd_some h
      obtain ⟨x16, hx16, h⟩ := bnd_some h
      refine aoP (some 21) rfl rfl (does_indexAddr_sl (el := .agg [.int .u64 x16.Hi, .int .u64 x16.Lo]) (by conv => lhs; whnf) (by conv => lhs; whnf) ty37 ty27 g15 (by exact map_get hx16)) (by decide) ?_
      refine aoR (some 22) rfl rfl (does_load (v := .agg [.int .u64 x16.Hi, .int .u64 x16.Lo]) (by conv => lhs; whnf) (by conv => lhs; whnf) ty27 (by exact rfl)) (by decide) ?_
      refine aoP (some 23) rfl rfl (does_move (v := .sl 2 (List.map enc26 a1)) (by exact rfl)) (by decide) ?_
      refine aoP (some 24) rfl rfl (does_move (v := .int .i64 v6_1) (by exact rfl)) (by decide) ?_
      obtain ⟨g17, h⟩ := gd_some h
      obtain ⟨x18, hx18, h⟩ := bnd_some h
      refine aoP (some 25) rfl rfl (does_indexAddr_sl (el := .agg [.int .u64 x18.Hi, .int .u64 x18.Lo]) (by conv => lhs; whnf) (by conv => lhs; whnf) ty37 ty27 g17 (by exact map_get hx18)) (by decide) ?_
      refine aoR (some 26) rfl rfl (does_load (v := .agg [.int .u64 x18.Hi, .int .u64 x18.Lo]) (by conv => lhs; whnf) (by conv => lhs; whnf) ty27 (by exact rfl)) (by decide) ?_
      refine aoP (some 27) rfl rfl (does_eq_struct (v := .bool ((x16.Hi == x18.Hi) && ((x16.Lo == x18.Lo) && true))) (by conv => lhs; whnf) (by conv => lhs; whnf) fk27 rfl ag27 eg27 (by conv => lhs; whnf) rfl) (by decide) ?_
      refine ao_nil_d (by kernel_rfl) ?_
      refine hK14 _ ?_
      refine aw_bool (b := ((x16.Hi == x18.Hi) && ((x16.Lo == x18.Lo) && true))) 27 rfl (fun c19 => ?_) (fun c19 => ?_)
      · have h := ifT c19 h
        refine aw_cond_t (by decide) rfl ?_
        refine aw_regL ?_
        refine alP (some 28) rfl rfl (does_move (v := .int .i64 v5_1) (by exact rfl)) (by decide) ?_
        refine alP (some 29) rfl rfl (does_bin (v := .int .i64 (IntKind.i64.wrap (v5_1 + 1))) (by conv => lhs; whnf) (by conv => lhs; whnf) rfl) (by decide) ?_
        refine alP (some 5) rfl rfl (does_assign (v := .int .i64 (IntKind.i64.wrap (v5_1 + 1))) (by exact rfl)) (by decide) ?_
        refine al_nil ?_
        refine hK13 _ ?_
        refine aw_regL ?_
        refine alP (some 17) rfl rfl (does_move (v := .int .i64 v6_1) (by exact rfl)) (by decide) ?_
        refine alP (some 18) rfl rfl (does_bin (v := .int .i64 (IntKind.i64.wrap (v6_1 + 1))) (by conv => lhs; whnf) (by conv => lhs; whnf) rfl) (by decide) ?_
        refine alP (some 6) rfl rfl (does_assign (v := .int .i64 (IntKind.i64.wrap (v6_1 + 1))) (by exact rfl)) (by decide) ?_
        refine al_nil ?_
        have h := leafL h hq7
        exact ⟨m1, Nat.lt_succ_self _, _, reb_lit [(0, .sl 2 (List.map enc26 a0)), (1, .sl 2 (List.map enc26 a1)), (5, .int .i64 (IntKind.i64.wrap (v5_1 + 1))), (6, .int .i64 (IntKind.i64.wrap (v6_1 + 1)))] [] [] [] (envOk_cons (by conv => lhs; whnf) (by exact rfl) (envOk_cons (by conv => lhs; whnf) (by exact rfl) (envOk_cons (by conv => lhs; whnf) (by exact rfl) (envOk_cons (by conv => lhs; whnf) (by exact rfl) envOk_nil)))) objOk_nil (nodup_b rfl) (nodup_b rfl) rfl rfl, (IntKind.i64.wrap (v5_1 + 1)), (IntKind.i64.wrap (v6_1 + 1)), h, rfl⟩
      · have h := ifF c19 h
        refine aw_cond_f (by decide) rfl ?_
        refine aw_skip ?_
        refine hK13 _ ?_
        refine aw_regL ?_
        refine alP (some 17) rfl rfl (does_move (v := .int .i64 v6_1) (by exact rfl)) (by decide) ?_
        refine alP (some 18) rfl rfl (does_bin (v := .int .i64 (IntKind.i64.wrap (v6_1 + 1))) (by conv => lhs; whnf) (by conv => lhs; whnf) rfl) (by decide) ?_
        refine alP (some 6) rfl rfl (does_assign (v := .int .i64 (IntKind.i64.wrap (v6_1 + 1))) (by exact rfl)) (by decide) ?_
        refine al_nil ?_
        have h := leafL h hq7
        exact ⟨m1, Nat.lt_succ_self _, _, reb_lit [(0, .sl 2 (List.map enc26 a0)), (1, .sl 2 (List.map enc26 a1)), (5, .int .i64 v5_1), (6, .int .i64 (IntKind.i64.wrap (v6_1 + 1)))] [] [] [] (envOk_cons (by conv => lhs; whnf) (by exact rfl) (envOk_cons (by conv => lhs; whnf) (by exact rfl) (envOk_cons (by conv => lhs; whnf) (by exact rfl) (envOk_cons (by conv => lhs; whnf) (by exact rfl) envOk_nil)))) objOk_nil (nodup_b rfl) (nodup_b rfl) rfl rfl, v5_1, (IntKind.i64.wrap (v6_1 + 1)), h, rfl⟩
  · rintro s ⟨v5_0, h, rfl⟩
    unfold gleaninglaw32_within_k0 at h
    refine aw_seq_k (fun K20 hK20 => ?_)
    refine aw_regL ?_
    refine alP (some 30) rfl rfl (does_move (v := .int .i64 v5_0) (by exact rfl)) (by decide) ?_
    refine alP (some 31) rfl rfl (does_move (v := .sl 2 (List.map enc26 a0)) (by exact rfl)) (by decide) ?_
    refine alP (some 32) rfl rfl ((does_len_sl (by conv => lhs; whnf) ty37).castp (v' := .int .i64 (List.length a0 : Int)) (by exact len_map _)) (by decide) ?_
    refine alP (some 33) rfl rfl (does_bin (v := .bool (v5_0 == (List.length a0 : Int))) (by conv => lhs; whnf) (by conv => lhs; whnf) rfl) (by decide) ?_
    refine alP (some 4) rfl rfl (does_assign (v := .bool (v5_0 == (List.length a0 : Int))) (by exact rfl)) (by decide) ?_
    refine al_nil ?_
    refine hK20 _ ?_
    refine aw_ret ?_
    obtain rfl := Option.some.inj h
    exact ret_ok1 (by conv => lhs; whnf) (by conv => lhs; whnf) (by exact rfl) (.inr rfl) rfl
def gleaninglaw32_spanned_l4 (v3_s_2 : List Trace) (x25 : Episode) (v7_4 : Bool) (v8_4 : Int) : Option ((Bool × Int) ⊕ Bool) :=
  if (decide (v8_4 < (List.length v3_s_2 : Int))) = true then (if v7_4 = true then (some (Sum.inl (true, (IntKind.i64.wrap (v8_4 + 1))))) else (gd (0 ≤ v8_4) (Option.bind (v3_s_2[(Int.toNat v8_4)]?) (fun (x38 : Trace) => some (Sum.inl (((x38.Hi == x25.Trace.Hi) && ((x38.Lo == x25.Trace.Lo) && true)), (IntKind.i64.wrap (v8_4 + 1)))))))) else (some (Sum.inr v7_4))
def gleaninglaw32_spanned_k3 (v3_s_2 : List Trace) (v5_2 : Int) (x25 : Episode) (v7_3 : Bool) : Option ((List Trace × Int) ⊕ ((List Trace × Int) ⊕ (List Trace))) :=
  if (!v7_3) = true then (gd ((List.length (v3_s_2 ++ [x25.Trace])) * 16 ≤ 140737488355328 ∧ (List.length (v3_s_2 ++ [x25.Trace])) ≤ 140737488355328) (some (Sum.inl ((v3_s_2 ++ [x25.Trace]), (IntKind.i64.wrap (v5_2 + 1)))))) else (some (Sum.inl (v3_s_2, (IntKind.i64.wrap (v5_2 + 1)))))
def gleaninglaw32_spanned_l2 (a0 : List Block) (v4_1 : Int) (v3_s_2 : List Trace) (v5_2 : Int) : Option ((List Trace × Int) ⊕ ((List Trace × Int) ⊕ (List Trace))) :=
  gd (0 ≤ v4_1) (Option.bind (a0[(Int.toNat v4_1)]?) (fun (x18 : Block) => if (decide (v5_2 < (List.length x18.Episodes : Int))) = true then (gd (0 ≤ v4_1) (Option.bind (a0[(Int.toNat v4_1)]?) (fun (x23 : Block) => gd (0 ≤ v5_2) (Option.bind (x23.Episodes[(Int.toNat v5_2)]?) (fun (x25 : Episode) => Option.bind (loopN (fun (s : Bool × Int) => gleaninglaw32_spanned_l4 v3_s_2 x25 s.1 s.2) Fu (((List.length x25.Spans : Int) == 0), 0)) (fun (s : Bool) => gleaninglaw32_spanned_k3 v3_s_2 v5_2 x25 s)))))) else (some (Sum.inr (Sum.inl (v3_s_2, (IntKind.i64.wrap (v4_1 + 1))))))))
def gleaninglaw32_spanned_l1 (a0 : List Block) (v3_s_1 : List Trace) (v4_1 : Int) : Option ((List Trace × Int) ⊕ (List Trace)) :=
  if (decide (v4_1 < (List.length a0 : Int))) = true then (loopN (fun (s : List Trace × Int) => gleaninglaw32_spanned_l2 a0 v4_1 s.1 s.2) Fu (v3_s_1, 0)) else (some (Sum.inr v3_s_1))
def gleaninglaw32_spanned_k0 (v3_s_0 : List Trace) : Option Int :=
  some (List.length v3_s_0 : Int)
def gleaninglaw32_spanned (a0 : List Block) : Option Int :=
  Option.bind (loopN (fun (s : List Trace × Int) => gleaninglaw32_spanned_l1 a0 s.1 s.2) Fu ([], 0)) (fun (s : List Trace) => gleaninglaw32_spanned_k0 s)
set_option maxRecDepth 100000 in
set_option maxHeartbeats 8000000 in
/-- gleaning/gleaninglaw32.spanned -/
theorem gleaninglaw32_spanned_ok (a0 : List Block) {r : Int} (h : gleaninglaw32_spanned a0 = some r) : Ok Try.prog 19 [.sl 4 (List.map enc44 a0)] [] [] (.int .i64 r) [] [] := by
  unfold gleaninglaw32_spanned at h
  refine ok_of_code Try.func19 rfl (by show (1 : Nat) ≤ _; decide) (Nat.le_refl _) fun X => ?_
  refine aw_seq_k (fun K1 hK1 => ?_)
  refine aw_regL ?_
  refine alP (some 2) rfl rfl (does_assign (v := .int .i64 0) (by exact rfl)) (by decide) ?_
  refine al_nil ?_
  refine hK1 _ ?_
  refine aw_seq_k (fun K2 hK2 => ?_)
  refine aw_regL ?_
  refine alP (some 3) rfl rfl (does_assign (v := .nil) (by exact rfl)) (by decide) ?_
  refine al_nil ?_
  refine hK2 _ ?_
  obtain ⟨q3, h, hk4⟩ := bnd_some h
  refine aw_cut (fun s => ∃ (v3_s_0 : List Trace), gleaninglaw32_spanned_k0 v3_s_0 = some r ∧ s = lit [(3, .own 3 0)] [((3, 0), .arr 27 2 false (List.map enc26 v3_s_0))] [(3, 1)] X) ?_ ?_
  · skip
    refine aw_seq_k (fun K5 hK5 => ?_)
    refine aw_regL ?_
    refine alP (some 4) rfl rfl (does_assign (v := .int .i64 0) (by exact rfl)) (by decide) ?_
    refine al_nil ?_
    refine hK5 _ ?_
    refine aw_block ?_
    refine aw_nilOwn 3 27 2 (by conv => lhs; whnf) (by decide) (by decide) ?_
    refine aw_loop' (fun m s => ∃ (v3_s_1 : List Trace), ∃ (v4_1 : Int), loopN (fun (s : List Trace × Int) => gleaninglaw32_spanned_l1 a0 s.1 s.2) m (v3_s_1, v4_1) = some q3 ∧ s = lit [(0, .sl 4 (List.map enc44 a0)), (3, .own 3 0), (4, .int .i64 v4_1)] [((3, 0), .arr 27 2 false (List.map enc26 v3_s_1))] [(3, 1)] X) Fu
      ⟨_, reb_lit [(0, .sl 4 (List.map enc44 a0)), (3, .own 3 0), (4, .int .i64 (0))] [(3, 0)] [((3, 0), .arr 27 2 false (List.map enc26 []))] [(3, 1)] (envOk_cons (by conv => lhs; whnf) (by exact rfl) (envOk_cons (by conv => lhs; whnf) (by exact rfl) (envOk_cons (by conv => lhs; whnf) (by exact rfl) envOk_nil))) (objOk_cons (by conv => lhs; whnf) (by conv => lhs; whnf) (by exact rfl) (by simp) objOk_nil) (nodup_b rfl) (nodup_b rfl) rfl rfl, [], 0, h, rfl⟩ ?_
    rintro m s ⟨v3_s_1, v4_1, h, rfl⟩
    obtain ⟨m1, q6, rfl, h, hq7⟩ := loop_some h
    replace h : gleaninglaw32_spanned_l1 a0 v3_s_1 v4_1 = some q6 := h
    unfold gleaninglaw32_spanned_l1 at h
    refine aw_seq_k (fun K8 hK8 => ?_)
    refine aw_seq_k (fun K9 hK9 => ?_)
    refine aw_regL ?_
    refine alP (some 9) rfl rfl (does_move (v := .int .i64 v4_1) (by exact rfl)) (by decide) ?_
    refine alP (some 10) rfl rfl (does_move (v := .sl 4 (List.map enc44 a0)) (by exact rfl)) (by decide) ?_
    refine alP (some 11) rfl rfl ((does_len_sl (by conv => lhs; whnf) ty22).castp (v' := .int .i64 (List.length a0 : Int)) (by exact len_map _)) (by decide) ?_
    refine alP (some 12) rfl rfl (does_bin (v := .bool (decide (v4_1 < (List.length a0 : Int)))) (by conv => lhs; whnf) (by conv => lhs; whnf) rfl) (by decide) ?_
    refine al_nil ?_
    refine hK9 _ ?_
    refine aw_bool (b := (decide (v4_1 < (List.length a0 : Int)))) 12 rfl (fun c10 => ?_) (fun c10 => ?_)
    · have h := ifT c10 h
      refine aw_cond_t (by decide) rfl ?_
      refine aw_skip ?_
      refine hK8 _ ?_
      refine aw_seq_k (fun K11 hK11 => ?_)
      refine aw_block ?_
      refine aw_seq_k (fun K12 hK12 => ?_)
      refine aw_regL ?_
      refine alP (some 5) rfl rfl (does_assign (v := .int .i64 0) (by exact rfl)) (by decide) ?_
      refine al_nil ?_
      refine hK12 _ ?_
      refine aw_block ?_
      refine aw_loop' (fun m s => ∃ (v3_s_2 : List Trace), ∃ (v5_2 : Int), loopN (fun (s : List Trace × Int) => gleaninglaw32_spanned_l2 a0 v4_1 s.1 s.2) m (v3_s_2, v5_2) = some q6 ∧ s = lit [(0, .sl 4 (List.map enc44 a0)), (3, .own 3 0), (4, .int .i64 v4_1), (5, .int .i64 v5_2)] [((3, 0), .arr 27 2 false (List.map enc26 v3_s_2))] [(3, 1)] X) Fu
        ⟨_, reb_lit [(0, .sl 4 (List.map enc44 a0)), (3, .own 3 0), (4, .int .i64 v4_1), (5, .int .i64 (0))] [(3, 0)] [((3, 0), .arr 27 2 false (List.map enc26 v3_s_1))] [(3, 1)] (envOk_cons (by conv => lhs; whnf) (by exact rfl) (envOk_cons (by conv => lhs; whnf) (by exact rfl) (envOk_cons (by conv => lhs; whnf) (by exact rfl) (envOk_cons (by conv => lhs; whnf) (by exact rfl) envOk_nil)))) (objOk_cons (by conv => lhs; whnf) (by conv => lhs; whnf) (by exact rfl) (by simp) objOk_nil) (nodup_b rfl) (nodup_b rfl) rfl rfl, v3_s_1, 0, h, rfl⟩ ?_
      rintro m s ⟨v3_s_2, v5_2, h, rfl⟩
      obtain ⟨m2, q13, rfl, h, hq14⟩ := loop_some h
      replace h : gleaninglaw32_spanned_l2 a0 v4_1 v3_s_2 v5_2 = some q13 := h
      unfold gleaninglaw32_spanned_l2 at h
      refine aw_seq_k (fun K15 hK15 => ?_)
      refine aw_seq_k (fun K16 hK16 => ?_)
      refine aw_regL ?_
      refine alP (some 15) rfl rfl (does_move (v := .int .i64 v5_2) (by exact rfl)) (by decide) ?_
      refine alP (some 16) rfl rfl (does_move (v := .sl 4 (List.map enc44 a0)) (by exact rfl)) (by decide) ?_
      refine alP (some 17) rfl rfl (does_move (v := .int .i64 v4_1) (by exact rfl)) (by decide) ?_
      obtain ⟨g17, h⟩ := gd_some h
      obtain ⟨x18, hx18, h⟩ := bnd_some h
      refine alP (some 18) rfl rfl (does_indexAddr_sl (el := .agg [.int .i64 x18.Number, .int .i64 x18.Born, .int .i64 x18.Tier, .sl 6 (List.map enc50 x18.Episodes)]) (by conv => lhs; whnf) (by conv => lhs; whnf) ty22 ty45 g17 (by exact map_get hx18)) (by decide) ?_
      refine alP (some 19) rfl rfl (does_fieldAddr (q := .rptr [.sl 6 (List.map enc50 x18.Episodes)]) (by conv => lhs; whnf) ty45 rfl ty43 (by decide) (by exact rfl)) (by decide) ?_
      refine alR (some 20) rfl rfl (does_load (v := .sl 6 (List.map enc50 x18.Episodes)) (by conv => lhs; whnf) (by conv => lhs; whnf) ty43 (by exact rfl)) (by decide) ?_
      refine alP (some 21) rfl rfl ((does_len_sl (by conv => lhs; whnf) ty43).castp (v' := .int .i64 (List.length x18.Episodes : Int)) (by exact len_map _)) (by decide) ?_
      refine alP (some 22) rfl rfl (does_bin (v := .bool (decide (v5_2 < (List.length x18.Episodes : Int)))) (by conv => lhs; whnf) (by conv => lhs; whnf) rfl) (by decide) ?_
      refine al_nil ?_
      refine hK16 _ ?_
      refine aw_bool (b := (decide (v5_2 < (List.length x18.Episodes : Int)))) 22 rfl (fun c19 => ?_) (fun c19 => ?_)
      · have h := ifT c19 h
        refine aw_cond_t (by decide) rfl ?_
        refine aw_skip ?_
        refine hK15 _ ?_
        refine aw_seq_k (fun K20 hK20 => ?_)
        refine aw_block ?_
        refine aw_seq_k (fun K21 hK21 => ?_)
        refine aw_regL ?_
        refine alP (some 25) rfl rfl (does_move (v := .sl 4 (List.map enc44 a0)) (by exact rfl)) (by decide) ?_
        refine alP (some 26) rfl rfl (does_move (v := .int .i64 v4_1) (by exact rfl)) (by decide) ?_
        obtain ⟨g22, h⟩ := gd_some h
        obtain ⟨x23, hx23, h⟩ := bnd_some h
        refine alP (some 27) rfl rfl (does_indexAddr_sl (el := .agg [.int .i64 x23.Number, .int .i64 x23.Born, .int .i64 x23.Tier, .sl 6 (List.map enc50 x23.Episodes)]) (by conv => lhs; whnf) (by conv => lhs; whnf) ty22 ty45 g22 (by exact map_get hx23)) (by decide) ?_
        refine alP (some 28) rfl rfl (does_fieldAddr (q := .rptr [.sl 6 (List.map enc50 x23.Episodes)]) (by conv => lhs; whnf) ty45 rfl ty43 (by decide) (by exact rfl)) (by decide) ?_
        refine alR (some 29) rfl rfl (does_load (v := .sl 6 (List.map enc50 x23.Episodes)) (by conv => lhs; whnf) (by conv => lhs; whnf) ty43 (by exact rfl)) (by decide) ?_
        refine alP (some 30) rfl rfl (does_move (v := .int .i64 v5_2) (by exact rfl)) (by decide) ?_
        obtain ⟨g24, h⟩ := gd_some h
        obtain ⟨x25, hx25, h⟩ := bnd_some h
        refine alP (some 31) rfl rfl (does_indexAddr_sl (el := .agg [.int .u64 x25.Trace.Hi, .int .u64 x25.Trace.Lo, .int .i64 x25.First, .int .i64 x25.Last, .bool x25.Sure, .sl 10 (List.map enc29 x25.Spans)]) (by conv => lhs; whnf) (by conv => lhs; whnf) ty43 ty51 g24 (by exact map_get hx25)) (by decide) ?_
        refine alR (some 32) rfl rfl (does_load (v := .agg [.int .u64 x25.Trace.Hi, .int .u64 x25.Trace.Lo, .int .i64 x25.First, .int .i64 x25.Last, .bool x25.Sure, .sl 10 (List.map enc29 x25.Spans)]) (by conv => lhs; whnf) (by conv => lhs; whnf) ty51 (by exact rfl)) (by decide) ?_
        refine alD (some 6) rfl rfl (do_new ty51 rfl rfl) (by decide) ?_
        refine alD none rfl rfl (do_store (cs' := [.int .u64 x25.Trace.Hi, .int .u64 x25.Trace.Lo, .int .i64 x25.First, .int .i64 x25.Last, .bool x25.Sure, .sl 10 (List.map enc29 x25.Spans)]) (by conv => lhs; whnf) (by conv => lhs; whnf) (by conv => lhs; whnf) ty51 rfl rfl rfl (by exact rfl)) (by decide) ?_
        refine al_nil ?_
        refine hK21 _ ?_
        refine aw_seq_k (fun K26 hK26 => ?_)
        refine aw_regL ?_
        refine alP (some 33) rfl rfl (does_fieldAddr (q := .ptr 6 0 5) (by conv => lhs; whnf) ty51 rfl ty49 (by decide) (by exact rfl)) (by decide) ?_
        refine alR (some 34) rfl rfl (does_load (v := .sl 10 (List.map enc29 x25.Spans)) (by conv => lhs; whnf) (by conv => lhs; whnf) ty49 (by exact rfl)) (by decide) ?_
        refine alP (some 35) rfl rfl ((does_len_sl (by conv => lhs; whnf) ty49).castp (v' := .int .i64 (List.length x25.Spans : Int)) (by exact len_map _)) (by decide) ?_
        refine alP (some 36) rfl rfl (does_bin (v := .bool ((List.length x25.Spans : Int) == 0)) (by conv => lhs; whnf) (by conv => lhs; whnf) rfl) (by decide) ?_
        refine alP (some 7) rfl rfl (does_assign (v := .bool ((List.length x25.Spans : Int) == 0)) (by exact rfl)) (by decide) ?_
        refine al_nil ?_
        refine hK26 _ ?_
        obtain ⟨q27, h, hk28⟩ := bnd_some h
        refine aw_cut (fun s => ∃ (v7_3 : Bool), gleaninglaw32_spanned_k3 v3_s_2 v5_2 x25 v7_3 = some q13 ∧ s = lit [(0, .sl 4 (List.map enc44 a0)), (3, .own 3 0), (4, .int .i64 v4_1), (5, .int .i64 v5_2), (6, .ptr 6 0 0), (7, .bool v7_3)] [((3, 0), .arr 27 2 false (List.map enc26 v3_s_2)), ((6, 0), .box [.int .u64 x25.Trace.Hi, .int .u64 x25.Trace.Lo, .int .i64 x25.First, .int .i64 x25.Last, .bool x25.Sure, .sl 10 (List.map enc29 x25.Spans)])] [(3, 1), (6, 1)] X) ?_ ?_
        · skip
          refine aw_seq_k (fun K29 hK29 => ?_)
          refine aw_regL ?_
          refine alP (some 8) rfl rfl (does_assign (v := .int .i64 0) (by exact rfl)) (by decide) ?_
          refine al_nil ?_
          refine hK29 _ ?_
          refine aw_block ?_
          refine aw_loop' (fun m s => ∃ (v7_4 : Bool), ∃ (v8_4 : Int), loopN (fun (s : Bool × Int) => gleaninglaw32_spanned_l4 v3_s_2 x25 s.1 s.2) m (v7_4, v8_4) = some q27 ∧ s = lit [(0, .sl 4 (List.map enc44 a0)), (3, .own 3 0), (4, .int .i64 v4_1), (5, .int .i64 v5_2), (6, .ptr 6 0 0), (7, .bool v7_4), (8, .int .i64 v8_4)] [((3, 0), .arr 27 2 false (List.map enc26 v3_s_2)), ((6, 0), .box [.int .u64 x25.Trace.Hi, .int .u64 x25.Trace.Lo, .int .i64 x25.First, .int .i64 x25.Last, .bool x25.Sure, .sl 10 (List.map enc29 x25.Spans)])] [(3, 1), (6, 1)] X) Fu
            ⟨_, reb_lit [(0, .sl 4 (List.map enc44 a0)), (3, .own 3 0), (4, .int .i64 v4_1), (5, .int .i64 v5_2), (6, .ptr 6 0 0), (7, .bool ((List.length x25.Spans : Int) == 0)), (8, .int .i64 (0))] [(3, 0), (6, 0)] [((3, 0), .arr 27 2 false (List.map enc26 v3_s_2)), ((6, 0), .box [.int .u64 x25.Trace.Hi, .int .u64 x25.Trace.Lo, .int .i64 x25.First, .int .i64 x25.Last, .bool x25.Sure, .sl 10 (List.map enc29 x25.Spans)])] [(3, 1), (6, 1)] (envOk_cons (by conv => lhs; whnf) (by exact rfl) (envOk_cons (by conv => lhs; whnf) (by exact rfl) (envOk_cons (by conv => lhs; whnf) (by exact rfl) (envOk_cons (by conv => lhs; whnf) (by exact rfl) (envOk_cons (by conv => lhs; whnf) (by exact rfl) (envOk_cons (by conv => lhs; whnf) (by exact rfl) (envOk_cons (by conv => lhs; whnf) (by exact rfl) envOk_nil))))))) (objOk_cons (by conv => lhs; whnf) (by conv => lhs; whnf) (by exact rfl) (by simp) (objOk_cons (by conv => lhs; whnf) (by conv => lhs; whnf) (by exact rfl) (by simp) objOk_nil)) (nodup_b rfl) (nodup_b rfl) rfl rfl, ((List.length x25.Spans : Int) == 0), 0, h, rfl⟩ ?_
          rintro m s ⟨v7_4, v8_4, h, rfl⟩
          obtain ⟨m4, q30, rfl, h, hq31⟩ := loop_some h
          replace h : gleaninglaw32_spanned_l4 v3_s_2 x25 v7_4 v8_4 = some q30 := h
          unfold gleaninglaw32_spanned_l4 at h
          refine aw_seq_k (fun K32 hK32 => ?_)
          refine aw_seq_k (fun K33 hK33 => ?_)
          refine aw_regL ?_
          refine alP (some 37) rfl rfl (does_move (v := .int .i64 v8_4) (by exact rfl)) (by decide) ?_
          refine alP (some 38) rfl rfl (does_move (v := .own 3 0) (by exact rfl)) (by decide) ?_
          refine alR (some 39) rfl rfl ((does_len_own (by conv => lhs; whnf) (by conv => lhs; whnf) ty37).cast (v' := .int .i64 (List.length v3_s_2 : Int)) (by exact len_map _)) (by decide) ?_
          refine alP (some 40) rfl rfl (does_bin (v := .bool (decide (v8_4 < (List.length v3_s_2 : Int)))) (by conv => lhs; whnf) (by conv => lhs; whnf) rfl) (by decide) ?_
          refine al_nil ?_
          refine hK33 _ ?_
          refine aw_bool (b := (decide (v8_4 < (List.length v3_s_2 : Int)))) 40 rfl (fun c34 => ?_) (fun c34 => ?_)
          · have h := ifT c34 h
            refine aw_cond_t (by decide) rfl ?_
            refine aw_skip ?_
            refine hK32 _ ?_
            refine aw_seq_k (fun K35 hK35 => ?_)
            refine aw_block ?_
            refine aw_regd (by kernel_rfl) (by decide +kernel) ?_
            refine aoP (some 43) rfl rfl (does_move (v := .bool v7_4) (by exact rfl)) (by decide) ?_
            refine aoP (some 44) rfl rfl (does_move (v := .bool v7_4) (by exact rfl)) (by decide) ?_
            refine ao_bool (c := v7_4) 44 rfl (fun c36 => ?_) (fun c36 => ?_)
            · have h := ifT c36 h
              refine aoS (some 45) rfl rfl (by decide) ?_
              refine aoS (some 46) rfl rfl (by decide) ?_
              refine aoS (some 47) rfl rfl (by decide) ?_
              refine aoS (some 48) rfl rfl (by decide) ?_
              refine aoS (some 49) rfl rfl (by decide) ?_
              refine aoS (some 50) rfl rfl (by decide) ?_
              refine aoS (some 51) rfl rfl (by decide) ?_
              refine aoP (some 52) rfl rfl (does_pick (v := .bool true) (by conv => lhs; whnf) (by exact rfl)) (by decide) ?_
              refine aoP (some 7) rfl rfl (does_assign (v := .bool true) (by exact rfl)) (by decide) ?_
              refine ao_nil_d (by kernel_rfl) ?_
              refine hK35 _ ?_
              refine aw_regL ?_
              refine alP (some 41) rfl rfl (does_move (v := .int .i64 v8_4) (by exact rfl)) (by decide) ?_
              refine alP (some 42) rfl rfl (does_bin (v := .int .i64 (IntKind.i64.wrap (v8_4 + 1))) (by conv => lhs; whnf) (by conv => lhs; whnf) rfl) (by decide) ?_
              refine alP (some 8) rfl rfl (does_assign (v := .int .i64 (IntKind.i64.wrap (v8_4 + 1))) (by exact rfl)) (by decide) ?_
              refine al_nil ?_
              have h := leafL h hq31
              exact ⟨m4, Nat.lt_succ_self _, _, reb_lit [(0, .sl 4 (List.map enc44 a0)), (3, .own 3 0), (4, .int .i64 v4_1), (5, .int .i64 v5_2), (6, .ptr 6 0 0), (7, .bool true), (8, .int .i64 (IntKind.i64.wrap (v8_4 + 1)))] [(3, 0), (6, 0)] [((3, 0), .arr 27 2 false (List.map enc26 v3_s_2)), ((6, 0), .box [.int .u64 x25.Trace.Hi, .int .u64 x25.Trace.Lo, .int .i64 x25.First, .int .i64 x25.Last, .bool x25.Sure, .sl 10 (List.map enc29 x25.Spans)])] [(3, 1), (6, 1)] (envOk_cons (by conv => lhs; whnf) (by exact rfl) (envOk_cons (by conv => lhs; whnf) (by exact rfl) (envOk_cons (by conv => lhs; whnf) (by exact rfl) (envOk_cons (by conv => lhs; whnf) (by exact rfl) (envOk_cons (by conv => lhs; whnf) (by exact rfl) (envOk_cons (by conv => lhs; whnf) (by exact rfl) (envOk_cons (by conv => lhs; whnf) (by exact rfl) envOk_nil))))))) (objOk_cons (by conv => lhs; whnf) (by conv => lhs; whnf) (by exact rfl) (by simp) (objOk_cons (by conv => lhs; whnf) (by conv => lhs; whnf) (by exact rfl) (by simp) objOk_nil)) (nodup_b rfl) (nodup_b rfl) rfl rfl, true, (IntKind.i64.wrap (v8_4 + 1)), h, rfl⟩
            · have h := ifF c36 h
              refine aoP (some 45) rfl rfl (does_move (v := .own 3 0) (by exact rfl)) (by decide) ?_
              refine aoP (some 46) rfl rfl (does_move (v := .int .i64 v8_4) (by exact rfl)) (by decide) ?_
              obtain ⟨g37, h⟩ := gd_some h
              obtain ⟨x38, hx38, h⟩ := bnd_some h
              refine aoR (some 47) rfl rfl (does_indexAddr_own (by conv => lhs; whnf) (by conv => lhs; whnf) (by conv => lhs; whnf) ty37 ty27 g37 (by exact own_lt hx38)) (by decide) ?_
              refine aoR (some 48) rfl rfl (does_load (v := .agg [.int .u64 x38.Hi, .int .u64 x38.Lo]) (by conv => lhs; whnf) (cellsAt_eptr (by conv => lhs; whnf) (by exact map_get hx38)) ty27 (by exact rfl)) (by decide) ?_
              refine aoP (some 49) rfl rfl (does_fieldAddr (q := .ptr 6 0 0) (by conv => lhs; whnf) ty51 rfl ty27 (by decide) (by exact rfl)) (by decide) ?_
              refine aoR (some 50) rfl rfl (does_load (v := .agg [.int .u64 x25.Trace.Hi, .int .u64 x25.Trace.Lo]) (by conv => lhs; whnf) (by conv => lhs; whnf) ty27 (by exact rfl)) (by decide) ?_
              refine aoP (some 51) rfl rfl (does_eq_struct (v := .bool ((x38.Hi == x25.Trace.Hi) && ((x38.Lo == x25.Trace.Lo) && true))) (by conv => lhs; whnf) (by conv => lhs; whnf) fk27 rfl ag27 eg27 (by conv => lhs; whnf) rfl) (by decide) ?_
              refine aoP (some 52) rfl rfl (does_pick (v := .bool ((x38.Hi == x25.Trace.Hi) && ((x38.Lo == x25.Trace.Lo) && true))) (by conv => lhs; whnf) (by exact rfl)) (by decide) ?_
              refine aoP (some 7) rfl rfl (does_assign (v := .bool ((x38.Hi == x25.Trace.Hi) && ((x38.Lo == x25.Trace.Lo) && true))) (by exact rfl)) (by decide) ?_
              refine ao_nil_d (by kernel_rfl) ?_
              refine hK35 _ ?_
              refine aw_regL ?_
              refine alP (some 41) rfl rfl (does_move (v := .int .i64 v8_4) (by exact rfl)) (by decide) ?_
              refine alP (some 42) rfl rfl (does_bin (v := .int .i64 (IntKind.i64.wrap (v8_4 + 1))) (by conv => lhs; whnf) (by conv => lhs; whnf) rfl) (by decide) ?_
              refine alP (some 8) rfl rfl (does_assign (v := .int .i64 (IntKind.i64.wrap (v8_4 + 1))) (by exact rfl)) (by decide) ?_
              refine al_nil ?_
              have h := leafL h hq31
              exact ⟨m4, Nat.lt_succ_self _, _, reb_lit [(0, .sl 4 (List.map enc44 a0)), (3, .own 3 0), (4, .int .i64 v4_1), (5, .int .i64 v5_2), (6, .ptr 6 0 0), (7, .bool ((x38.Hi == x25.Trace.Hi) && ((x38.Lo == x25.Trace.Lo) && true))), (8, .int .i64 (IntKind.i64.wrap (v8_4 + 1)))] [(3, 0), (6, 0)] [((3, 0), .arr 27 2 false (List.map enc26 v3_s_2)), ((6, 0), .box [.int .u64 x25.Trace.Hi, .int .u64 x25.Trace.Lo, .int .i64 x25.First, .int .i64 x25.Last, .bool x25.Sure, .sl 10 (List.map enc29 x25.Spans)])] [(3, 1), (6, 1)] (envOk_cons (by conv => lhs; whnf) (by exact rfl) (envOk_cons (by conv => lhs; whnf) (by exact rfl) (envOk_cons (by conv => lhs; whnf) (by exact rfl) (envOk_cons (by conv => lhs; whnf) (by exact rfl) (envOk_cons (by conv => lhs; whnf) (by exact rfl) (envOk_cons (by conv => lhs; whnf) (by exact rfl) (envOk_cons (by conv => lhs; whnf) (by exact rfl) envOk_nil))))))) (objOk_cons (by conv => lhs; whnf) (by conv => lhs; whnf) (by exact rfl) (by simp) (objOk_cons (by conv => lhs; whnf) (by conv => lhs; whnf) (by exact rfl) (by simp) objOk_nil)) (nodup_b rfl) (nodup_b rfl) rfl rfl, ((x38.Hi == x25.Trace.Hi) && ((x38.Lo == x25.Trace.Lo) && true)), (IntKind.i64.wrap (v8_4 + 1)), h, rfl⟩
          · have h := ifF c34 h
            refine aw_cond_f (by decide) rfl ?_
            refine aw_exit ?_
            have h := leafR h hq31
            obtain rfl := Option.some.inj h
            have h := hk28
            exact ⟨_, reb_lit [(0, .sl 4 (List.map enc44 a0)), (3, .own 3 0), (4, .int .i64 v4_1), (5, .int .i64 v5_2), (6, .ptr 6 0 0), (7, .bool v7_4)] [(3, 0), (6, 0)] [((3, 0), .arr 27 2 false (List.map enc26 v3_s_2)), ((6, 0), .box [.int .u64 x25.Trace.Hi, .int .u64 x25.Trace.Lo, .int .i64 x25.First, .int .i64 x25.Last, .bool x25.Sure, .sl 10 (List.map enc29 x25.Spans)])] [(3, 1), (6, 1)] (envOk_cons (by conv => lhs; whnf) (by exact rfl) (envOk_cons (by conv => lhs; whnf) (by exact rfl) (envOk_cons (by conv => lhs; whnf) (by exact rfl) (envOk_cons (by conv => lhs; whnf) (by exact rfl) (envOk_cons (by conv => lhs; whnf) (by exact rfl) (envOk_cons (by conv => lhs; whnf) (by exact rfl) envOk_nil)))))) (objOk_cons (by conv => lhs; whnf) (by conv => lhs; whnf) (by exact rfl) (by simp) (objOk_cons (by conv => lhs; whnf) (by conv => lhs; whnf) (by exact rfl) (by simp) objOk_nil)) (nodup_b rfl) (nodup_b rfl) rfl rfl, v7_4, h, rfl⟩
        · rintro s ⟨v7_3, h, rfl⟩
          unfold gleaninglaw32_spanned_k3 at h
          refine aw_seq_k (fun K39 hK39 => ?_)
          refine aw_regL ?_
          refine alP (some 53) rfl rfl (does_move (v := .bool v7_3) (by exact rfl)) (by decide) ?_
          refine alP (some 54) rfl rfl (does_un (v := .bool (!v7_3)) (by conv => lhs; whnf) rfl) (by decide) ?_
          refine al_nil ?_
          refine hK39 _ ?_
          refine aw_bool (b := (!v7_3)) 54 rfl (fun c40 => ?_) (fun c40 => ?_)
          · have h := ifT c40 h
            refine aw_cond_t (by decide) rfl ?_
            refine aw_regL ?_
            refine alP (some 55) rfl rfl (does_move (v := .own 3 0) (by exact rfl)) (by decide) ?_
            refine alP (some 56) rfl rfl (does_fieldAddr (q := .ptr 6 0 0) (by conv => lhs; whnf) ty51 rfl ty27 (by decide) (by exact rfl)) (by decide) ?_
            refine alR (some 57) rfl rfl (does_load (v := .agg [.int .u64 x25.Trace.Hi, .int .u64 x25.Trace.Lo]) (by conv => lhs; whnf) (by conv => lhs; whnf) ty27 (by exact rfl)) (by decide) ?_
            refine alD (some 58) rfl rfl (do_buildSlice (xs := List.map enc26 [x25.Trace]) ty37 ty27 rfl rfl rfl rfl rfl rfl rfl rfl) (by decide) ?_
            obtain ⟨g41, h⟩ := gd_some h
            refine alD (some 59) rfl rfl (do_append (v := List.map enc26 (v3_s_2 ++ [x25.Trace])) (by conv => lhs; whnf) (by conv => lhs; whnf) ty37 ty27 rfl rfl (by conv => lhs; whnf) (by first | exact .inl rfl | exact .inr ⟨rfl, rfl⟩) (by conv => lhs; whnf) (by first | exact .inr rfl | exact .inl rfl) (map_app _ _) (fit_map g41)) (by decide) ?_
            refine alP (some 3) rfl rfl (does_assign (v := .own 59 0) (by exact rfl)) (by decide) ?_
            refine al_nil ?_
            refine hK20 _ ?_
            refine aw_regL ?_
            refine alP (some 23) rfl rfl (does_move (v := .int .i64 v5_2) (by exact rfl)) (by decide) ?_
            refine alP (some 24) rfl rfl (does_bin (v := .int .i64 (IntKind.i64.wrap (v5_2 + 1))) (by conv => lhs; whnf) (by conv => lhs; whnf) rfl) (by decide) ?_
            refine alP (some 5) rfl rfl (does_assign (v := .int .i64 (IntKind.i64.wrap (v5_2 + 1))) (by exact rfl)) (by decide) ?_
            refine al_nil ?_
            have h := leafL h hq14
            exact ⟨m2, Nat.lt_succ_self _, _, reb_lit [(0, .sl 4 (List.map enc44 a0)), (3, .own 3 0), (4, .int .i64 v4_1), (5, .int .i64 (IntKind.i64.wrap (v5_2 + 1)))] [(59, 0)] [((3, 0), .arr 27 2 false (List.map enc26 (v3_s_2 ++ [x25.Trace])))] [(3, 1)] (envOk_cons (by conv => lhs; whnf) (by exact rfl) (envOk_cons (by conv => lhs; whnf) (by exact rfl) (envOk_cons (by conv => lhs; whnf) (by exact rfl) (envOk_cons (by conv => lhs; whnf) (by exact rfl) envOk_nil)))) (objOk_cons (by conv => lhs; whnf) (by conv => lhs; whnf) (by exact rfl) (by simp) objOk_nil) (nodup_b rfl) (nodup_b rfl) rfl rfl, (v3_s_2 ++ [x25.Trace]), (IntKind.i64.wrap (v5_2 + 1)), h, rfl⟩
          · have h := ifF c40 h
            refine aw_cond_f (by decide) rfl ?_
            refine aw_skip ?_
            refine hK20 _ ?_
            refine aw_regL ?_
            refine alP (some 23) rfl rfl (does_move (v := .int .i64 v5_2) (by exact rfl)) (by decide) ?_
            refine alP (some 24) rfl rfl (does_bin (v := .int .i64 (IntKind.i64.wrap (v5_2 + 1))) (by conv => lhs; whnf) (by conv => lhs; whnf) rfl) (by decide) ?_
            refine alP (some 5) rfl rfl (does_assign (v := .int .i64 (IntKind.i64.wrap (v5_2 + 1))) (by exact rfl)) (by decide) ?_
            refine al_nil ?_
            have h := leafL h hq14
            exact ⟨m2, Nat.lt_succ_self _, _, reb_lit [(0, .sl 4 (List.map enc44 a0)), (3, .own 3 0), (4, .int .i64 v4_1), (5, .int .i64 (IntKind.i64.wrap (v5_2 + 1)))] [(3, 0)] [((3, 0), .arr 27 2 false (List.map enc26 v3_s_2))] [(3, 1)] (envOk_cons (by conv => lhs; whnf) (by exact rfl) (envOk_cons (by conv => lhs; whnf) (by exact rfl) (envOk_cons (by conv => lhs; whnf) (by exact rfl) (envOk_cons (by conv => lhs; whnf) (by exact rfl) envOk_nil)))) (objOk_cons (by conv => lhs; whnf) (by conv => lhs; whnf) (by exact rfl) (by simp) objOk_nil) (nodup_b rfl) (nodup_b rfl) rfl rfl, v3_s_2, (IntKind.i64.wrap (v5_2 + 1)), h, rfl⟩
      · have h := ifF c19 h
        refine aw_cond_f (by decide) rfl ?_
        refine aw_exit ?_
        have h := leafR h hq14
        refine hK11 _ ?_
        refine aw_regL ?_
        refine alP (some 13) rfl rfl (does_move (v := .int .i64 v4_1) (by exact rfl)) (by decide) ?_
        refine alP (some 14) rfl rfl (does_bin (v := .int .i64 (IntKind.i64.wrap (v4_1 + 1))) (by conv => lhs; whnf) (by conv => lhs; whnf) rfl) (by decide) ?_
        refine alP (some 4) rfl rfl (does_assign (v := .int .i64 (IntKind.i64.wrap (v4_1 + 1))) (by exact rfl)) (by decide) ?_
        refine al_nil ?_
        have h := leafL h hq7
        exact ⟨m1, Nat.lt_succ_self _, _, reb_lit [(0, .sl 4 (List.map enc44 a0)), (3, .own 3 0), (4, .int .i64 (IntKind.i64.wrap (v4_1 + 1)))] [(3, 0)] [((3, 0), .arr 27 2 false (List.map enc26 v3_s_2))] [(3, 1)] (envOk_cons (by conv => lhs; whnf) (by exact rfl) (envOk_cons (by conv => lhs; whnf) (by exact rfl) (envOk_cons (by conv => lhs; whnf) (by exact rfl) envOk_nil))) (objOk_cons (by conv => lhs; whnf) (by conv => lhs; whnf) (by exact rfl) (by simp) objOk_nil) (nodup_b rfl) (nodup_b rfl) rfl rfl, v3_s_2, (IntKind.i64.wrap (v4_1 + 1)), h, rfl⟩
    · have h := ifF c10 h
      refine aw_cond_f (by decide) rfl ?_
      refine aw_exit ?_
      have h := leafR h hq7
      obtain rfl := Option.some.inj h
      have h := hk4
      exact ⟨_, reb_lit [(3, .own 3 0)] [(3, 0)] [((3, 0), .arr 27 2 false (List.map enc26 v3_s_1))] [(3, 1)] (envOk_cons (by conv => lhs; whnf) (by exact rfl) envOk_nil) (objOk_cons (by conv => lhs; whnf) (by conv => lhs; whnf) (by exact rfl) (by simp) objOk_nil) (nodup_b rfl) (nodup_b rfl) rfl rfl, v3_s_1, h, rfl⟩
  · rintro s ⟨v3_s_0, h, rfl⟩
    unfold gleaninglaw32_spanned_k0 at h
    refine aw_seq_k (fun K42 hK42 => ?_)
    refine aw_regL ?_
    refine alP (some 60) rfl rfl (does_move (v := .own 3 0) (by exact rfl)) (by decide) ?_
    refine alR (some 61) rfl rfl ((does_len_own (by conv => lhs; whnf) (by conv => lhs; whnf) ty37).cast (v' := .int .i64 (List.length v3_s_0 : Int)) (by exact len_map _)) (by decide) ?_
    refine alP (some 2) rfl rfl (does_assign (v := .int .i64 (List.length v3_s_0 : Int)) (by exact rfl)) (by decide) ?_
    refine al_nil ?_
    refine hK42 _ ?_
    refine aw_ret ?_
    obtain rfl := Option.some.inj h
    exact ret_ok1 (by conv => lhs; whnf) (by conv => lhs; whnf) (by exact rfl) (.inr rfl) rfl
def gleaninglaw32_SearchNarrows_k1 (a0 : List Block) (a1 : Query) (v8_s_0_1 : ByteArray) (v8_s_1_1 : ByteArray) (v8_s_4_1 : Int) (v8_s_5_1 : Bool) : Option Bool :=
  Option.bind (search_Find a0 a1 1000) (fun (x28 : List Trace) => Option.bind (search_Find a0 (Query.mk v8_s_0_1 v8_s_1_1 a1.Key a1.Value v8_s_4_1 v8_s_5_1) 1000) (fun (x30 : List Trace) => Option.bind (search_Find a0 (Query.mk (strOf []) (strOf []) (strOf []) (strOf []) 0 false) 1000) (fun (x32 : List Trace) => Option.bind (gleaninglaw32_within x28 x30) (fun (x34 : Bool) => if x34 = true then (Option.bind (gleaninglaw32_within x30 x32) (fun (x36 : Bool) => if x36 = true then (Option.bind (gleaninglaw32_spanned a0) (fun (x38 : Int) => some ((List.length x32 : Int) == x38))) else (some false))) else (some false)))))
def gleaninglaw32_SearchNarrows_k0 (a0 : List Block) (a1 : Query) (a2 : Int) : Option Bool :=
  Option.bind (if ((bits .and .i64 a2 3) == 0) = true then (some ((strOf []), a1.Op, a1.Dur, a1.Err)) else (if ((bits .and .i64 a2 3) == 1) = true then (some (a1.Service, (strOf []), a1.Dur, a1.Err)) else (if ((bits .and .i64 a2 3) == 2) = true then (some (a1.Service, a1.Op, 0, a1.Err)) else (if ((bits .and .i64 a2 3) == 3) = true then (some (a1.Service, a1.Op, a1.Dur, false)) else (some (a1.Service, a1.Op, a1.Dur, a1.Err)))))) (fun (s : ByteArray × ByteArray × Int × Bool) => gleaninglaw32_SearchNarrows_k1 a0 a1 s.1 s.2.1 s.2.2.1 s.2.2.2)
def gleaninglaw32_SearchNarrows (a0 : List Block) (a1 : Query) (a2 : Int) : Option Bool :=
  Option.bind (gleaninglaw32_alive) (fun (x3 : Bool) => Option.bind (if (!x3) = true then (some (Sum.inr x3)) else (Option.bind (gleaninglaw19_Few a0) (fun (x9 : Bool) => if (!x9) = true then (some (Sum.inr x3)) else (Option.bind (gleaninglaw32_Few a1) (fun (x12 : Bool) => if (!x12) = true then (some (Sum.inr x3)) else (some (Sum.inl ()))))))) (Sum.elim (fun (s : Unit) => gleaninglaw32_SearchNarrows_k0 a0 a1 a2) some))
set_option maxRecDepth 100000 in
set_option maxHeartbeats 8000000 in
/-- gleaning/gleaninglaw32.SearchNarrows -/
theorem gleaninglaw32_SearchNarrows_ok (a0 : List Block) (a1 : Query) (a2 : Int) {r : Bool} (h : gleaninglaw32_SearchNarrows a0 a1 a2 = some r) : Ok Try.prog 4 [.sl 4 (List.map enc44 a0), .agg [.str a1.Service, .str a1.Op, .str a1.Key, .str a1.Value, .int .i64 a1.Dur, .bool a1.Err], .int .i64 a2] [] [] (.bool r) [] [] := by
  unfold gleaninglaw32_SearchNarrows at h
  refine ok_of_code Try.func4 rfl (by show (3 : Nat) ≤ _; decide) (Nat.le_refl _) fun X => ?_
  refine aw_seq_k (fun K1 hK1 => ?_)
  refine aw_regL ?_
  refine alD (some 4) rfl rfl (do_box (by conv => lhs; whnf) rfl rfl) (by decide) ?_
  refine alP (some 6) rfl rfl (does_assign (v := .bool false) (by exact rfl)) (by decide) ?_
  refine al_nil ?_
  refine hK1 _ ?_
  refine aw_seq_k (fun K2 hK2 => ?_)
  refine aw_regL ?_
  obtain ⟨x3, hx3, h⟩ := bnd_some h
  refine alD (some 12) rfl rfl (do_call0 12 false (gleaninglaw32_alive_ok hx3) rfl ent7 rfl rfl) (by decide) ?_
  refine alP (some 7) rfl rfl (does_assign (v := .bool x3) (by exact rfl)) (by decide) ?_
  refine al_nil ?_
  refine hK2 _ ?_
  obtain ⟨q4, h, hk5⟩ := bnd_some h
  refine aw_cut (fun s => gleaninglaw32_SearchNarrows_k0 a0 a1 a2 = some r ∧ s = lit [(0, .sl 4 (List.map enc44 a0)), (2, .int .i64 a2), (4, .ptr 4 0 0)] [((4, 0), .box [.str a1.Service, .str a1.Op, .str a1.Key, .str a1.Value, .int .i64 a1.Dur, .bool a1.Err])] [(4, 1)] X) ?_ ?_
  · skip
    refine aw_seq_k (fun K6 hK6 => ?_)
    refine aw_regL ?_
    refine alP (some 13) rfl rfl (does_move (v := .bool x3) (by exact rfl)) (by decide) ?_
    refine alP (some 14) rfl rfl (does_un (v := .bool (!x3)) (by conv => lhs; whnf) rfl) (by decide) ?_
    refine alP (some 15) rfl rfl (does_move (v := .bool (!x3)) (by exact rfl)) (by decide) ?_
    refine al_bool (c := (!x3)) 15 rfl (fun c7 => ?_) (fun c7 => ?_)
    · have h := ifT c7 h
      refine alS (some 16) rfl rfl (by decide) ?_
      refine alS (some 17) rfl rfl (by decide) ?_
      refine alS (some 18) rfl rfl (by decide) ?_
      refine alP (some 19) rfl rfl (does_pick (v := .bool true) (by conv => lhs; whnf) (by exact rfl)) (by decide) ?_
      refine alP (some 20) rfl rfl (does_move (v := .bool true) (by exact rfl)) (by decide) ?_
      refine alS (some 21) rfl rfl (by decide) ?_
      refine alS (some 22) rfl rfl (by decide) ?_
      refine alS (some 23) rfl rfl (by decide) ?_
      refine alP (some 24) rfl rfl (does_pick (v := .bool true) (by conv => lhs; whnf) (by exact rfl)) (by decide) ?_
      refine al_nil ?_
      refine hK6 _ ?_
      refine aw_cond_t (by decide) rfl ?_
      refine aw_seq_k (fun K8 hK8 => ?_)
      refine aw_regL ?_
      refine alP (some 25) rfl rfl (does_move (v := .bool x3) (by exact rfl)) (by decide) ?_
      refine alP (some 6) rfl rfl (does_assign (v := .bool x3) (by exact rfl)) (by decide) ?_
      refine al_nil ?_
      refine hK8 _ ?_
      refine aw_ret ?_
      have h := leafR h hk5
      obtain rfl := Option.some.inj h
      exact ret_ok1 (by conv => lhs; whnf) (by conv => lhs; whnf) (by exact rfl) (.inr rfl) rfl
    · have h := ifF c7 h
      refine alP (some 16) rfl rfl (does_move (v := .sl 4 (List.map enc44 a0)) (by exact rfl)) (by decide) ?_
      obtain ⟨x9, hx9, h⟩ := bnd_some h
      refine alD (some 17) rfl rfl (do_call0 17 false (gleaninglaw19_Few_ok a0 hx9) rfl ent8 rfl rfl) (by decide) ?_
      refine alP (some 18) rfl rfl (does_un (v := .bool (!x9)) (by conv => lhs; whnf) rfl) (by decide) ?_
      refine alP (some 19) rfl rfl (does_pick (v := .bool (!x9)) (by conv => lhs; whnf) (by exact rfl)) (by decide) ?_
      refine alP (some 20) rfl rfl (does_move (v := .bool (!x9)) (by exact rfl)) (by decide) ?_
      refine al_bool (c := (!x9)) 20 rfl (fun c10 => ?_) (fun c10 => ?_)
      · have h := ifT c10 h
        refine alS (some 21) rfl rfl (by decide) ?_
        refine alS (some 22) rfl rfl (by decide) ?_
        refine alS (some 23) rfl rfl (by decide) ?_
        refine alP (some 24) rfl rfl (does_pick (v := .bool true) (by conv => lhs; whnf) (by exact rfl)) (by decide) ?_
        refine al_nil ?_
        refine hK6 _ ?_
        refine aw_cond_t (by decide) rfl ?_
        refine aw_seq_k (fun K11 hK11 => ?_)
        refine aw_regL ?_
        refine alP (some 25) rfl rfl (does_move (v := .bool x3) (by exact rfl)) (by decide) ?_
        refine alP (some 6) rfl rfl (does_assign (v := .bool x3) (by exact rfl)) (by decide) ?_
        refine al_nil ?_
        refine hK11 _ ?_
        refine aw_ret ?_
        have h := leafR h hk5
        obtain rfl := Option.some.inj h
        exact ret_ok1 (by conv => lhs; whnf) (by conv => lhs; whnf) (by exact rfl) (.inr rfl) rfl
      · have h := ifF c10 h
        refine alR (some 21) rfl rfl (does_load (v := .agg [.str a1.Service, .str a1.Op, .str a1.Key, .str a1.Value, .int .i64 a1.Dur, .bool a1.Err]) (by conv => lhs; whnf) (by conv => lhs; whnf) ty24 (by exact rfl)) (by decide) ?_
        obtain ⟨x12, hx12, h⟩ := bnd_some h
        refine alD (some 22) rfl rfl (do_call0 22 false (gleaninglaw32_Few_ok a1 hx12) rfl ent9 rfl rfl) (by decide) ?_
        refine alP (some 23) rfl rfl (does_un (v := .bool (!x12)) (by conv => lhs; whnf) rfl) (by decide) ?_
        refine alP (some 24) rfl rfl (does_pick (v := .bool (!x12)) (by conv => lhs; whnf) (by exact rfl)) (by decide) ?_
        refine al_nil ?_
        refine hK6 _ ?_
        refine aw_bool (b := (!x12)) 24 rfl (fun c13 => ?_) (fun c13 => ?_)
        · have h := ifT c13 h
          refine aw_cond_t (by decide) rfl ?_
          refine aw_seq_k (fun K14 hK14 => ?_)
          refine aw_regL ?_
          refine alP (some 25) rfl rfl (does_move (v := .bool x3) (by exact rfl)) (by decide) ?_
          refine alP (some 6) rfl rfl (does_assign (v := .bool x3) (by exact rfl)) (by decide) ?_
          refine al_nil ?_
          refine hK14 _ ?_
          refine aw_ret ?_
          have h := leafR h hk5
          obtain rfl := Option.some.inj h
          exact ret_ok1 (by conv => lhs; whnf) (by conv => lhs; whnf) (by exact rfl) (.inr rfl) rfl
        · have h := ifF c13 h
          refine aw_cond_f (by decide) rfl ?_
          refine aw_skip ?_
          have h := leafL h hk5
          exact ⟨_, reb_lit [(0, .sl 4 (List.map enc44 a0)), (2, .int .i64 a2), (4, .ptr 4 0 0)] [(4, 0)] [((4, 0), .box [.str a1.Service, .str a1.Op, .str a1.Key, .str a1.Value, .int .i64 a1.Dur, .bool a1.Err])] [(4, 1)] (envOk_cons (by conv => lhs; whnf) (by exact rfl) (envOk_cons (by conv => lhs; whnf) (by exact rfl) (envOk_cons (by conv => lhs; whnf) (by exact rfl) envOk_nil))) (objOk_cons (by conv => lhs; whnf) (by conv => lhs; whnf) (by exact rfl) (by simp) objOk_nil) (nodup_b rfl) (nodup_b rfl) rfl rfl, h, rfl⟩
  · rintro s ⟨h, rfl⟩
    unfold gleaninglaw32_SearchNarrows_k0 at h
    refine aw_seq_k (fun K15 hK15 => ?_)
    refine aw_regL ?_
    refine alR (some 26) rfl rfl (does_load (v := .agg [.str a1.Service, .str a1.Op, .str a1.Key, .str a1.Value, .int .i64 a1.Dur, .bool a1.Err]) (by conv => lhs; whnf) (by conv => lhs; whnf) ty24 (by exact rfl)) (by decide) ?_
    refine alD (some 8) rfl rfl (do_new ty24 rfl rfl) (by decide) ?_
    refine alD none rfl rfl (do_store (cs' := [.str a1.Service, .str a1.Op, .str a1.Key, .str a1.Value, .int .i64 a1.Dur, .bool a1.Err]) (by conv => lhs; whnf) (by conv => lhs; whnf) (by conv => lhs; whnf) ty24 rfl rfl rfl (by exact rfl)) (by decide) ?_
    refine al_nil ?_
    refine hK15 _ ?_
    obtain ⟨q16, h, hk17⟩ := bnd_some h
    refine aw_cut (fun s => ∃ (v8_s_0_1 : ByteArray), ∃ (v8_s_1_1 : ByteArray), ∃ (v8_s_4_1 : Int), ∃ (v8_s_5_1 : Bool), gleaninglaw32_SearchNarrows_k1 a0 a1 v8_s_0_1 v8_s_1_1 v8_s_4_1 v8_s_5_1 = some r ∧ s = lit [(0, .sl 4 (List.map enc44 a0)), (4, .ptr 4 0 0), (8, .ptr 8 0 0)] [((4, 0), .box [.str a1.Service, .str a1.Op, .str a1.Key, .str a1.Value, .int .i64 a1.Dur, .bool a1.Err]), ((8, 0), .box [.str v8_s_0_1, .str v8_s_1_1, .str a1.Key, .str a1.Value, .int .i64 v8_s_4_1, .bool v8_s_5_1])] [(4, 1), (8, 1)] X) ?_ ?_
    · skip
      refine aw_seq_k (fun K18 hK18 => ?_)
      refine aw_regL ?_
      refine alP (some 27) rfl rfl (does_move (v := .int .i64 a2) (by exact rfl)) (by decide) ?_
      refine alP (some 28) rfl rfl (does_bin (v := .int .i64 (bits .and .i64 a2 3)) (by conv => lhs; whnf) (by conv => lhs; whnf) rfl) (by decide) ?_
      refine al_nil ?_
      refine hK18 _ ?_
      refine aw_block ?_
      refine aw_seq_k (fun K19 hK19 => ?_)
      refine aw_regL ?_
      refine alP (some 30) rfl rfl (does_bin (v := .bool ((bits .and .i64 a2 3) == 0)) (by conv => lhs; whnf) (by conv => lhs; whnf) rfl) (by decide) ?_
      refine alP (some 29) rfl rfl (does_assign (v := .bool ((bits .and .i64 a2 3) == 0)) (by exact rfl)) (by decide) ?_
      refine al_nil ?_
      refine hK19 _ ?_
      refine aw_bool (b := ((bits .and .i64 a2 3) == 0)) 29 rfl (fun c20 => ?_) (fun c20 => ?_)
      · have h := ifT c20 h
        refine aw_cond_t (by decide) rfl ?_
        refine aw_regL ?_
        refine alP (some 31) rfl rfl (does_fieldAddr (q := .ptr 8 0 0) (by conv => lhs; whnf) ty24 rfl ty9 (by decide) (by exact rfl)) (by decide) ?_
        refine alD none rfl rfl (do_store (cs' := [.str (strOf []), .str a1.Op, .str a1.Key, .str a1.Value, .int .i64 a1.Dur, .bool a1.Err]) (by conv => lhs; whnf) (by conv => lhs; whnf) (by conv => lhs; whnf) ty9 rfl rfl rfl (by exact rfl)) (by decide) ?_
        refine al_nil ?_
        obtain rfl := Option.some.inj h
        have h := hk17
        exact ⟨_, reb_lit [(0, .sl 4 (List.map enc44 a0)), (4, .ptr 4 0 0), (8, .ptr 8 0 0)] [(4, 0), (8, 0)] [((4, 0), .box [.str a1.Service, .str a1.Op, .str a1.Key, .str a1.Value, .int .i64 a1.Dur, .bool a1.Err]), ((8, 0), .box [.str (strOf []), .str a1.Op, .str a1.Key, .str a1.Value, .int .i64 a1.Dur, .bool a1.Err])] [(4, 1), (8, 1)] (envOk_cons (by conv => lhs; whnf) (by exact rfl) (envOk_cons (by conv => lhs; whnf) (by exact rfl) (envOk_cons (by conv => lhs; whnf) (by exact rfl) envOk_nil))) (objOk_cons (by conv => lhs; whnf) (by conv => lhs; whnf) (by exact rfl) (by simp) (objOk_cons (by conv => lhs; whnf) (by conv => lhs; whnf) (by exact rfl) (by simp) objOk_nil)) (nodup_b rfl) (nodup_b rfl) rfl rfl, (strOf []), a1.Op, a1.Dur, a1.Err, h, rfl⟩
      · have h := ifF c20 h
        refine aw_cond_f (by decide) rfl ?_
        refine aw_seq_k (fun K21 hK21 => ?_)
        refine aw_regL ?_
        refine alP (some 33) rfl rfl (does_bin (v := .bool ((bits .and .i64 a2 3) == 1)) (by conv => lhs; whnf) (by conv => lhs; whnf) rfl) (by decide) ?_
        refine alP (some 32) rfl rfl (does_assign (v := .bool ((bits .and .i64 a2 3) == 1)) (by exact rfl)) (by decide) ?_
        refine al_nil ?_
        refine hK21 _ ?_
        refine aw_bool (b := ((bits .and .i64 a2 3) == 1)) 32 rfl (fun c22 => ?_) (fun c22 => ?_)
        · have h := ifT c22 h
          refine aw_cond_t (by decide) rfl ?_
          refine aw_regL ?_
          refine alP (some 34) rfl rfl (does_fieldAddr (q := .ptr 8 0 1) (by conv => lhs; whnf) ty24 rfl ty9 (by decide) (by exact rfl)) (by decide) ?_
          refine alD none rfl rfl (do_store (cs' := [.str a1.Service, .str (strOf []), .str a1.Key, .str a1.Value, .int .i64 a1.Dur, .bool a1.Err]) (by conv => lhs; whnf) (by conv => lhs; whnf) (by conv => lhs; whnf) ty9 rfl rfl rfl (by exact rfl)) (by decide) ?_
          refine al_nil ?_
          obtain rfl := Option.some.inj h
          have h := hk17
          exact ⟨_, reb_lit [(0, .sl 4 (List.map enc44 a0)), (4, .ptr 4 0 0), (8, .ptr 8 0 0)] [(4, 0), (8, 0)] [((4, 0), .box [.str a1.Service, .str a1.Op, .str a1.Key, .str a1.Value, .int .i64 a1.Dur, .bool a1.Err]), ((8, 0), .box [.str a1.Service, .str (strOf []), .str a1.Key, .str a1.Value, .int .i64 a1.Dur, .bool a1.Err])] [(4, 1), (8, 1)] (envOk_cons (by conv => lhs; whnf) (by exact rfl) (envOk_cons (by conv => lhs; whnf) (by exact rfl) (envOk_cons (by conv => lhs; whnf) (by exact rfl) envOk_nil))) (objOk_cons (by conv => lhs; whnf) (by conv => lhs; whnf) (by exact rfl) (by simp) (objOk_cons (by conv => lhs; whnf) (by conv => lhs; whnf) (by exact rfl) (by simp) objOk_nil)) (nodup_b rfl) (nodup_b rfl) rfl rfl, a1.Service, (strOf []), a1.Dur, a1.Err, h, rfl⟩
        · have h := ifF c22 h
          refine aw_cond_f (by decide) rfl ?_
          refine aw_seq_k (fun K23 hK23 => ?_)
          refine aw_regL ?_
          refine alP (some 36) rfl rfl (does_bin (v := .bool ((bits .and .i64 a2 3) == 2)) (by conv => lhs; whnf) (by conv => lhs; whnf) rfl) (by decide) ?_
          refine alP (some 35) rfl rfl (does_assign (v := .bool ((bits .and .i64 a2 3) == 2)) (by exact rfl)) (by decide) ?_
          refine al_nil ?_
          refine hK23 _ ?_
          refine aw_bool (b := ((bits .and .i64 a2 3) == 2)) 35 rfl (fun c24 => ?_) (fun c24 => ?_)
          · have h := ifT c24 h
            refine aw_cond_t (by decide) rfl ?_
            refine aw_regL ?_
            refine alP (some 37) rfl rfl (does_fieldAddr (q := .ptr 8 0 4) (by conv => lhs; whnf) ty24 rfl ty3 (by decide) (by exact rfl)) (by decide) ?_
            refine alD none rfl rfl (do_store (cs' := [.str a1.Service, .str a1.Op, .str a1.Key, .str a1.Value, .int .i64 0, .bool a1.Err]) (by conv => lhs; whnf) (by conv => lhs; whnf) (by conv => lhs; whnf) ty3 rfl rfl rfl (by exact rfl)) (by decide) ?_
            refine al_nil ?_
            obtain rfl := Option.some.inj h
            have h := hk17
            exact ⟨_, reb_lit [(0, .sl 4 (List.map enc44 a0)), (4, .ptr 4 0 0), (8, .ptr 8 0 0)] [(4, 0), (8, 0)] [((4, 0), .box [.str a1.Service, .str a1.Op, .str a1.Key, .str a1.Value, .int .i64 a1.Dur, .bool a1.Err]), ((8, 0), .box [.str a1.Service, .str a1.Op, .str a1.Key, .str a1.Value, .int .i64 (0), .bool a1.Err])] [(4, 1), (8, 1)] (envOk_cons (by conv => lhs; whnf) (by exact rfl) (envOk_cons (by conv => lhs; whnf) (by exact rfl) (envOk_cons (by conv => lhs; whnf) (by exact rfl) envOk_nil))) (objOk_cons (by conv => lhs; whnf) (by conv => lhs; whnf) (by exact rfl) (by simp) (objOk_cons (by conv => lhs; whnf) (by conv => lhs; whnf) (by exact rfl) (by simp) objOk_nil)) (nodup_b rfl) (nodup_b rfl) rfl rfl, a1.Service, a1.Op, 0, a1.Err, h, rfl⟩
          · have h := ifF c24 h
            refine aw_cond_f (by decide) rfl ?_
            refine aw_seq_k (fun K25 hK25 => ?_)
            refine aw_regL ?_
            refine alP (some 39) rfl rfl (does_bin (v := .bool ((bits .and .i64 a2 3) == 3)) (by conv => lhs; whnf) (by conv => lhs; whnf) rfl) (by decide) ?_
            refine alP (some 38) rfl rfl (does_assign (v := .bool ((bits .and .i64 a2 3) == 3)) (by exact rfl)) (by decide) ?_
            refine al_nil ?_
            refine hK25 _ ?_
            refine aw_bool (b := ((bits .and .i64 a2 3) == 3)) 38 rfl (fun c26 => ?_) (fun c26 => ?_)
            · have h := ifT c26 h
              refine aw_cond_t (by decide) rfl ?_
              refine aw_regL ?_
              refine alP (some 40) rfl rfl (does_fieldAddr (q := .ptr 8 0 5) (by conv => lhs; whnf) ty24 rfl ty4 (by decide) (by exact rfl)) (by decide) ?_
              refine alD none rfl rfl (do_store (cs' := [.str a1.Service, .str a1.Op, .str a1.Key, .str a1.Value, .int .i64 a1.Dur, .bool false]) (by conv => lhs; whnf) (by conv => lhs; whnf) (by conv => lhs; whnf) ty4 rfl rfl rfl (by exact rfl)) (by decide) ?_
              refine al_nil ?_
              obtain rfl := Option.some.inj h
              have h := hk17
              exact ⟨_, reb_lit [(0, .sl 4 (List.map enc44 a0)), (4, .ptr 4 0 0), (8, .ptr 8 0 0)] [(4, 0), (8, 0)] [((4, 0), .box [.str a1.Service, .str a1.Op, .str a1.Key, .str a1.Value, .int .i64 a1.Dur, .bool a1.Err]), ((8, 0), .box [.str a1.Service, .str a1.Op, .str a1.Key, .str a1.Value, .int .i64 a1.Dur, .bool false])] [(4, 1), (8, 1)] (envOk_cons (by conv => lhs; whnf) (by exact rfl) (envOk_cons (by conv => lhs; whnf) (by exact rfl) (envOk_cons (by conv => lhs; whnf) (by exact rfl) envOk_nil))) (objOk_cons (by conv => lhs; whnf) (by conv => lhs; whnf) (by exact rfl) (by simp) (objOk_cons (by conv => lhs; whnf) (by conv => lhs; whnf) (by exact rfl) (by simp) objOk_nil)) (nodup_b rfl) (nodup_b rfl) rfl rfl, a1.Service, a1.Op, a1.Dur, false, h, rfl⟩
            · have h := ifF c26 h
              refine aw_cond_f (by decide) rfl ?_
              refine aw_skip ?_
              obtain rfl := Option.some.inj h
              have h := hk17
              exact ⟨_, reb_lit [(0, .sl 4 (List.map enc44 a0)), (4, .ptr 4 0 0), (8, .ptr 8 0 0)] [(4, 0), (8, 0)] [((4, 0), .box [.str a1.Service, .str a1.Op, .str a1.Key, .str a1.Value, .int .i64 a1.Dur, .bool a1.Err]), ((8, 0), .box [.str a1.Service, .str a1.Op, .str a1.Key, .str a1.Value, .int .i64 a1.Dur, .bool a1.Err])] [(4, 1), (8, 1)] (envOk_cons (by conv => lhs; whnf) (by exact rfl) (envOk_cons (by conv => lhs; whnf) (by exact rfl) (envOk_cons (by conv => lhs; whnf) (by exact rfl) envOk_nil))) (objOk_cons (by conv => lhs; whnf) (by conv => lhs; whnf) (by exact rfl) (by simp) (objOk_cons (by conv => lhs; whnf) (by conv => lhs; whnf) (by exact rfl) (by simp) objOk_nil)) (nodup_b rfl) (nodup_b rfl) rfl rfl, a1.Service, a1.Op, a1.Dur, a1.Err, h, rfl⟩
    · rintro s ⟨v8_s_0_1, v8_s_1_1, v8_s_4_1, v8_s_5_1, h, rfl⟩
      unfold gleaninglaw32_SearchNarrows_k1 at h
      refine aw_seq_k (fun K27 hK27 => ?_)
      refine aw_regL ?_
      refine alP (some 41) rfl rfl (does_move (v := .sl 4 (List.map enc44 a0)) (by exact rfl)) (by decide) ?_
      refine alR (some 42) rfl rfl (does_load (v := .agg [.str a1.Service, .str a1.Op, .str a1.Key, .str a1.Value, .int .i64 a1.Dur, .bool a1.Err]) (by conv => lhs; whnf) (by conv => lhs; whnf) ty24 (by exact rfl)) (by decide) ?_
      obtain ⟨x28, hx28, h⟩ := bnd_some h
      refine alD (some 43) rfl rfl (do_call0 43 false (search_Find_ok a0 a1 1000 hx28) rfl ent14 rfl rfl) (by decide) ?_
      refine alP (some 9) rfl rfl (does_assign (v := .sl 2 (List.map enc26 x28)) (by exact rfl)) (by decide) ?_
      refine al_nil ?_
      refine hK27 _ ?_
      refine aw_seq_k (fun K29 hK29 => ?_)
      refine aw_regL ?_
      refine alP (some 44) rfl rfl (does_move (v := .sl 4 (List.map enc44 a0)) (by exact rfl)) (by decide) ?_
      refine alR (some 45) rfl rfl (does_load (v := .agg [.str v8_s_0_1, .str v8_s_1_1, .str a1.Key, .str a1.Value, .int .i64 v8_s_4_1, .bool v8_s_5_1]) (by conv => lhs; whnf) (by conv => lhs; whnf) ty24 (by exact rfl)) (by decide) ?_
      obtain ⟨x30, hx30, h⟩ := bnd_some h
      refine alD (some 46) rfl rfl (do_call0 46 false (search_Find_ok a0 (Query.mk v8_s_0_1 v8_s_1_1 a1.Key a1.Value v8_s_4_1 v8_s_5_1) 1000 hx30) rfl ent14 rfl rfl) (by decide) ?_
      refine alP (some 10) rfl rfl (does_assign (v := .sl 2 (List.map enc26 x30)) (by exact rfl)) (by decide) ?_
      refine al_nil ?_
      refine hK29 _ ?_
      refine aw_seq_k (fun K31 hK31 => ?_)
      refine aw_regL ?_
      refine alP (some 47) rfl rfl (does_move (v := .sl 4 (List.map enc44 a0)) (by exact rfl)) (by decide) ?_
      refine alP (some 48) rfl rfl (do_build_struct (cs := [.str (strOf []), .str (strOf []), .str (strOf []), .str (strOf []), .int .i64 0, .bool false]) ty24 rfl [⟨.str, 1, 16, [.str ByteArray.empty]⟩, ⟨.str, 1, 16, [.str ByteArray.empty]⟩, ⟨.str, 1, 16, [.str ByteArray.empty]⟩, ⟨.str, 1, 16, [.str ByteArray.empty]⟩, ⟨.int .i64, 1, 8, [.int .i64 0]⟩, ⟨.bool, 1, 1, [.bool false]⟩] (by simp only [List.map, ty3, ty4, ty9]) (by rfl) (by exact rfl)) (by decide) ?_
      obtain ⟨x32, hx32, h⟩ := bnd_some h
      refine alD (some 49) rfl rfl (do_call0 49 false (search_Find_ok a0 (Query.mk (strOf []) (strOf []) (strOf []) (strOf []) 0 false) 1000 hx32) rfl ent14 rfl rfl) (by decide) ?_
      refine alP (some 11) rfl rfl (does_assign (v := .sl 2 (List.map enc26 x32)) (by exact rfl)) (by decide) ?_
      refine al_nil ?_
      refine hK31 _ ?_
      refine aw_seq_k (fun K33 hK33 => ?_)
      refine aw_regL ?_
      refine alP (some 50) rfl rfl (does_move (v := .sl 2 (List.map enc26 x28)) (by exact rfl)) (by decide) ?_
      refine alP (some 51) rfl rfl (does_move (v := .sl 2 (List.map enc26 x30)) (by exact rfl)) (by decide) ?_
      obtain ⟨x34, hx34, h⟩ := bnd_some h
      refine alD (some 52) rfl rfl (do_call0 52 false (gleaninglaw32_within_ok x28 x30 hx34) rfl ent18 rfl rfl) (by decide) ?_
      refine alP (some 53) rfl rfl (does_move (v := .bool x34) (by exact rfl)) (by decide) ?_
      refine al_bool (c := x34) 53 rfl (fun c35 => ?_) (fun c35 => ?_)
      · have h := ifT c35 h
        refine alP (some 54) rfl rfl (does_move (v := .sl 2 (List.map enc26 x30)) (by exact rfl)) (by decide) ?_
        refine alP (some 55) rfl rfl (does_move (v := .sl 2 (List.map enc26 x32)) (by exact rfl)) (by decide) ?_
        obtain ⟨x36, hx36, h⟩ := bnd_some h
        refine alD (some 56) rfl rfl (do_call0 56 false (gleaninglaw32_within_ok x30 x32 hx36) rfl ent18 rfl rfl) (by decide) ?_
        refine alP (some 57) rfl rfl (does_pick (v := .bool x36) (by conv => lhs; whnf) (by exact rfl)) (by decide) ?_
        refine alP (some 58) rfl rfl (does_move (v := .bool x36) (by exact rfl)) (by decide) ?_
        refine al_bool (c := x36) 58 rfl (fun c37 => ?_) (fun c37 => ?_)
        · have h := ifT c37 h
          refine alP (some 59) rfl rfl (does_move (v := .sl 2 (List.map enc26 x32)) (by exact rfl)) (by decide) ?_
          refine alP (some 60) rfl rfl ((does_len_sl (by conv => lhs; whnf) ty37).castp (v' := .int .i64 (List.length x32 : Int)) (by exact len_map _)) (by decide) ?_
          refine alP (some 61) rfl rfl (does_move (v := .sl 4 (List.map enc44 a0)) (by exact rfl)) (by decide) ?_
          obtain ⟨x38, hx38, h⟩ := bnd_some h
          refine alD (some 62) rfl rfl (do_call0 62 false (gleaninglaw32_spanned_ok a0 hx38) rfl ent19 rfl rfl) (by decide) ?_
          refine alP (some 63) rfl rfl (does_bin (v := .bool ((List.length x32 : Int) == x38)) (by conv => lhs; whnf) (by conv => lhs; whnf) rfl) (by decide) ?_
          refine alP (some 64) rfl rfl (does_pick (v := .bool ((List.length x32 : Int) == x38)) (by conv => lhs; whnf) (by exact rfl)) (by decide) ?_
          refine alP (some 6) rfl rfl (does_assign (v := .bool ((List.length x32 : Int) == x38)) (by exact rfl)) (by decide) ?_
          refine al_nil ?_
          refine hK33 _ ?_
          refine aw_ret ?_
          obtain rfl := Option.some.inj h
          exact ret_ok1 (by conv => lhs; whnf) (by conv => lhs; whnf) (by exact rfl) (.inr rfl) rfl
        · have h := ifF c37 h
          refine alS (some 59) rfl rfl (by decide) ?_
          refine alS (some 60) rfl rfl (by decide) ?_
          refine alS (some 61) rfl rfl (by decide) ?_
          refine alS (some 62) rfl rfl (by decide) ?_
          refine alS (some 63) rfl rfl (by decide) ?_
          refine alP (some 64) rfl rfl (does_pick (v := .bool false) (by conv => lhs; whnf) (by exact rfl)) (by decide) ?_
          refine alP (some 6) rfl rfl (does_assign (v := .bool false) (by exact rfl)) (by decide) ?_
          refine al_nil ?_
          refine hK33 _ ?_
          refine aw_ret ?_
          obtain rfl := Option.some.inj h
          exact ret_ok1 (by conv => lhs; whnf) (by conv => lhs; whnf) (by exact rfl) (.inr rfl) rfl
      · have h := ifF c35 h
        refine alS (some 54) rfl rfl (by decide) ?_
        refine alS (some 55) rfl rfl (by decide) ?_
        refine alS (some 56) rfl rfl (by decide) ?_
        refine alP (some 57) rfl rfl (does_pick (v := .bool false) (by conv => lhs; whnf) (by exact rfl)) (by decide) ?_
        refine alP (some 58) rfl rfl (does_move (v := .bool false) (by exact rfl)) (by decide) ?_
        refine alS (some 59) rfl rfl (by decide) ?_
        refine alS (some 60) rfl rfl (by decide) ?_
        refine alS (some 61) rfl rfl (by decide) ?_
        refine alS (some 62) rfl rfl (by decide) ?_
        refine alS (some 63) rfl rfl (by decide) ?_
        refine alP (some 64) rfl rfl (does_pick (v := .bool false) (by conv => lhs; whnf) (by exact rfl)) (by decide) ?_
        refine alP (some 6) rfl rfl (does_assign (v := .bool false) (by exact rfl)) (by decide) ?_
        refine al_nil ?_
        refine hK33 _ ?_
        refine aw_ret ?_
        obtain rfl := Option.some.inj h
        exact ret_ok1 (by conv => lhs; whnf) (by conv => lhs; whnf) (by exact rfl) (.inr rfl) rfl
end Go.Proofs.Ytnhjcpnoadicpaa.Ab
