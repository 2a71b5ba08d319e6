/- Chapter 13: how many nodes a policy may have. -/
import Derived.Test.YtbfmmaabaenhgaaXRule
import Derived.Test.YtbfmmaabaenhgaaProg
namespace Go.Proofs.Ytbfmmaabaenhgaa.Ab
open Go Go.RowKit
set_option linter.unusedVariables false
set_option linter.unusedSimpArgs false

def gleaninglaw13_RuleLimits_l2 (a0 : Int) (v6_s_4_s_2 : List Rule) (v7_2 : Int) : Option ((List Rule × Int) ⊕ (List Rule)) :=
  if (decide (v7_2 < a0)) = true then (gd ((List.length (v6_s_4_s_2 ++ [(Rule.mk 5 0 (strOf []) (strOf []) [])])) * 72 ≤ 140737488355328 ∧ (List.length (v6_s_4_s_2 ++ [(Rule.mk 5 0 (strOf []) (strOf []) [])])) ≤ 140737488355328) (some (Sum.inl ((v6_s_4_s_2 ++ [(Rule.mk 5 0 (strOf []) (strOf []) [])]), (IntKind.i64.wrap (v7_2 + 1)))))) else (some (Sum.inr v6_s_4_s_2))
def gleaninglaw13_RuleLimits_l4 (a1 : Int) (v8_s_0_4 : Int) (v8_s_4_s_4 : List Rule) (v9_4 : Int) : Option ((Int × List Rule × Int) ⊕ (Int × List Rule)) :=
  if (decide (v9_4 < a1)) = true then (some (Sum.inl (3, [(Rule.mk v8_s_0_4 0 (strOf []) (strOf []) v8_s_4_s_4)], (IntKind.i64.wrap (v9_4 + 1))))) else (some (Sum.inr (v8_s_0_4, v8_s_4_s_4)))
def gleaninglaw13_RuleLimits_k3 (a0 : Int) (a1 : Int) (v6_s_4_s_1 : List Rule) (v8_s_0_3 : Int) (v8_s_4_s_3 : List Rule) : Option Bool :=
  Option.bind (rule_Right (Rule.mk 2 0 (strOf []) (strOf []) v6_s_4_s_1)) (fun (x39 : Bool) => if (x39 == (decide (a0 ≤ 19))) = true then (Option.bind (rule_Right (Rule.mk v8_s_0_3 0 (strOf []) (strOf []) v8_s_4_s_3)) (fun (x41 : Bool) => if (x41 == (decide (a1 ≤ 5))) = true then (Option.bind (rule_Bytes (Rule.mk 2 0 (strOf []) (strOf []) v6_s_4_s_1)) (fun (x43 : List UInt8) => if ((decide ((0 : Int) < (List.length x43 : Int))) == (decide (a0 ≤ 19))) = true then (Option.bind (rule_Bytes (Rule.mk v8_s_0_3 0 (strOf []) (strOf []) v8_s_4_s_3)) (fun (x45 : List UInt8) => some ((decide ((0 : Int) < (List.length x45 : Int))) == (decide (a1 ≤ 5))))) else (some false))) else (some false))) else (some false))
def gleaninglaw13_RuleLimits_k1 (a0 : Int) (a1 : Int) (v6_s_4_s_1 : List Rule) : Option Bool :=
  Option.bind (loopN (fun (s : Int × List Rule × Int) => gleaninglaw13_RuleLimits_l4 a1 s.1 s.2.1 s.2.2) Fu (5, [], 1)) (fun (s : Int × List Rule) => gleaninglaw13_RuleLimits_k3 a0 a1 v6_s_4_s_1 s.1 s.2)
def gleaninglaw13_RuleLimits_k0 (a0 : Int) (a1 : Int) : Option Bool :=
  Option.bind (loopN (fun (s : List Rule × Int) => gleaninglaw13_RuleLimits_l2 a0 s.1 s.2) Fu ([], 0)) (fun (s : List Rule) => gleaninglaw13_RuleLimits_k1 a0 a1 s)
def gleaninglaw13_RuleLimits (a0 : Int) (a1 : Int) : Option Bool :=
  Option.bind (gleaninglaw13_alive) (fun (x3 : Bool) => Option.bind (if (!x3) = true then (some (Sum.inr x3)) else (if (decide (a0 < 0)) = true then (some (Sum.inr x3)) else (if (decide ((40 : Int) < a0)) = true then (some (Sum.inr x3)) else (if (decide (a1 < 1)) = true then (some (Sum.inr x3)) else (if (decide ((10 : Int) < a1)) = true then (some (Sum.inr x3)) else (some (Sum.inl ()))))))) (Sum.elim (fun (s : Unit) => gleaninglaw13_RuleLimits_k0 a0 a1) some))
set_option maxRecDepth 100000 in
set_option maxHeartbeats 8000000 in
/-- gleaning/gleaninglaw13.RuleLimits -/
theorem gleaninglaw13_RuleLimits_ok (a0 : Int) (a1 : Int) {r : Bool} (h : gleaninglaw13_RuleLimits a0 a1 = some r) : Ok Try.prog 12 [.int .i64 a0, .int .i64 a1] [] [] (.bool r) [] [] := by
  unfold gleaninglaw13_RuleLimits at h
  refine ok_of_code Try.func12 rfl (by show (2 : Nat) ≤ _; decide) (Nat.le_refl _) fun X => ?_
  refine aw_seq_k (fun K1 hK1 => ?_)
  refine aw_regL ?_
  refine alP (some 4) rfl rfl (does_assign (v := .bool false) (by exact rfl)) (by decide) ?_
  refine al_nil ?_
  refine hK1 _ ?_
  refine aw_seq_k (fun K2 hK2 => ?_)
  refine aw_regL ?_
  obtain ⟨x3, hx3, h⟩ := bnd_some h
  refine alD (some 10) rfl rfl (do_call0 10 false (gleaninglaw13_alive_ok hx3) rfl ent38 rfl rfl) (by decide) ?_
  refine alP (some 5) rfl rfl (does_assign (v := .bool x3) (by exact rfl)) (by decide) ?_
  refine al_nil ?_
  refine hK2 _ ?_
  obtain ⟨q4, h, hk5⟩ := bnd_some h
  refine aw_cut (fun s => gleaninglaw13_RuleLimits_k0 a0 a1 = some r ∧ s = lit [(0, .int .i64 a0), (1, .int .i64 a1)] [] [] X) ?_ ?_
  · skip
    refine aw_seq_k (fun K6 hK6 => ?_)
    refine aw_regL ?_
    refine alP (some 11) rfl rfl (does_move (v := .bool x3) (by exact rfl)) (by decide) ?_
    refine alP (some 12) rfl rfl (does_un (v := .bool (!x3)) (by conv => lhs; whnf) rfl) (by decide) ?_
    refine alP (some 13) rfl rfl (does_move (v := .bool (!x3)) (by exact rfl)) (by decide) ?_
    refine al_bool (c := (!x3)) 13 rfl (fun c7 => ?_) (fun c7 => ?_)
    · have h := ifT c7 h
      refine alS (some 14) rfl rfl (by decide) ?_
      refine alS (some 15) rfl rfl (by decide) ?_
      refine alP (some 16) rfl rfl (does_pick (v := .bool true) (by conv => lhs; whnf) (by exact rfl)) (by decide) ?_
      refine alP (some 17) rfl rfl (does_move (v := .bool true) (by exact rfl)) (by decide) ?_
      refine alS (some 18) rfl rfl (by decide) ?_
      refine alS (some 19) rfl rfl (by decide) ?_
      refine alP (some 20) rfl rfl (does_pick (v := .bool true) (by conv => lhs; whnf) (by exact rfl)) (by decide) ?_
      refine alP (some 21) rfl rfl (does_move (v := .bool true) (by exact rfl)) (by decide) ?_
      refine alS (some 22) rfl rfl (by decide) ?_
      refine alS (some 23) rfl rfl (by decide) ?_
      refine alP (some 24) rfl rfl (does_pick (v := .bool true) (by conv => lhs; whnf) (by exact rfl)) (by decide) ?_
      refine alP (some 25) rfl rfl (does_move (v := .bool true) (by exact rfl)) (by decide) ?_
      refine alS (some 26) rfl rfl (by decide) ?_
      refine alS (some 27) rfl rfl (by decide) ?_
      refine alP (some 28) rfl rfl (does_pick (v := .bool true) (by conv => lhs; whnf) (by exact rfl)) (by decide) ?_
      refine al_nil ?_
      refine hK6 _ ?_
      refine aw_cond_t (by decide) rfl ?_
      refine aw_seq_k (fun K8 hK8 => ?_)
      refine aw_regL ?_
      refine alP (some 29) rfl rfl (does_move (v := .bool x3) (by exact rfl)) (by decide) ?_
      refine alP (some 4) rfl rfl (does_assign (v := .bool x3) (by exact rfl)) (by decide) ?_
      refine al_nil ?_
      refine hK8 _ ?_
      refine aw_ret ?_
      have h := leafR h hk5
      obtain rfl := Option.some.inj h
      exact ret_ok1 (by conv => lhs; whnf) (by conv => lhs; whnf) (by exact rfl) (.inr rfl) rfl
    · have h := ifF c7 h
      refine alP (some 14) rfl rfl (does_move (v := .int .i64 a0) (by exact rfl)) (by decide) ?_
      refine alP (some 15) rfl rfl (does_bin (v := .bool (decide (a0 < 0))) (by conv => lhs; whnf) (by conv => lhs; whnf) rfl) (by decide) ?_
      refine alP (some 16) rfl rfl (does_pick (v := .bool (decide (a0 < 0))) (by conv => lhs; whnf) (by exact rfl)) (by decide) ?_
      refine alP (some 17) rfl rfl (does_move (v := .bool (decide (a0 < 0))) (by exact rfl)) (by decide) ?_
      refine al_bool (c := (decide (a0 < 0))) 17 rfl (fun c9 => ?_) (fun c9 => ?_)
      · have h := ifT c9 h
        refine alS (some 18) rfl rfl (by decide) ?_
        refine alS (some 19) rfl rfl (by decide) ?_
        refine alP (some 20) rfl rfl (does_pick (v := .bool true) (by conv => lhs; whnf) (by exact rfl)) (by decide) ?_
        refine alP (some 21) rfl rfl (does_move (v := .bool true) (by exact rfl)) (by decide) ?_
        refine alS (some 22) rfl rfl (by decide) ?_
        refine alS (some 23) rfl rfl (by decide) ?_
        refine alP (some 24) rfl rfl (does_pick (v := .bool true) (by conv => lhs; whnf) (by exact rfl)) (by decide) ?_
        refine alP (some 25) rfl rfl (does_move (v := .bool true) (by exact rfl)) (by decide) ?_
        refine alS (some 26) rfl rfl (by decide) ?_
        refine alS (some 27) rfl rfl (by decide) ?_
        refine alP (some 28) rfl rfl (does_pick (v := .bool true) (by conv => lhs; whnf) (by exact rfl)) (by decide) ?_
        refine al_nil ?_
        refine hK6 _ ?_
        refine aw_cond_t (by decide) rfl ?_
        refine aw_seq_k (fun K10 hK10 => ?_)
        refine aw_regL ?_
        refine alP (some 29) rfl rfl (does_move (v := .bool x3) (by exact rfl)) (by decide) ?_
        refine alP (some 4) rfl rfl (does_assign (v := .bool x3) (by exact rfl)) (by decide) ?_
        refine al_nil ?_
        refine hK10 _ ?_
        refine aw_ret ?_
        have h := leafR h hk5
        obtain rfl := Option.some.inj h
        exact ret_ok1 (by conv => lhs; whnf) (by conv => lhs; whnf) (by exact rfl) (.inr rfl) rfl
      · have h := ifF c9 h
        refine alP (some 18) rfl rfl (does_move (v := .int .i64 a0) (by exact rfl)) (by decide) ?_
        refine alP (some 19) rfl rfl (does_bin (v := .bool (decide ((40 : Int) < a0))) (by conv => lhs; whnf) (by conv => lhs; whnf) rfl) (by decide) ?_
        refine alP (some 20) rfl rfl (does_pick (v := .bool (decide ((40 : Int) < a0))) (by conv => lhs; whnf) (by exact rfl)) (by decide) ?_
        refine alP (some 21) rfl rfl (does_move (v := .bool (decide ((40 : Int) < a0))) (by exact rfl)) (by decide) ?_
        refine al_bool (c := (decide ((40 : Int) < a0))) 21 rfl (fun c11 => ?_) (fun c11 => ?_)
        · have h := ifT c11 h
          refine alS (some 22) rfl rfl (by decide) ?_
          refine alS (some 23) rfl rfl (by decide) ?_
          refine alP (some 24) rfl rfl (does_pick (v := .bool true) (by conv => lhs; whnf) (by exact rfl)) (by decide) ?_
          refine alP (some 25) rfl rfl (does_move (v := .bool true) (by exact rfl)) (by decide) ?_
          refine alS (some 26) rfl rfl (by decide) ?_
          refine alS (some 27) rfl rfl (by decide) ?_
          refine alP (some 28) rfl rfl (does_pick (v := .bool true) (by conv => lhs; whnf) (by exact rfl)) (by decide) ?_
          refine al_nil ?_
          refine hK6 _ ?_
          refine aw_cond_t (by decide) rfl ?_
          refine aw_seq_k (fun K12 hK12 => ?_)
          refine aw_regL ?_
          refine alP (some 29) rfl rfl (does_move (v := .bool x3) (by exact rfl)) (by decide) ?_
          refine alP (some 4) rfl rfl (does_assign (v := .bool x3) (by exact rfl)) (by decide) ?_
          refine al_nil ?_
          refine hK12 _ ?_
          refine aw_ret ?_
          have h := leafR h hk5
          obtain rfl := Option.some.inj h
          exact ret_ok1 (by conv => lhs; whnf) (by conv => lhs; whnf) (by exact rfl) (.inr rfl) rfl
        · have h := ifF c11 h
          refine alP (some 22) rfl rfl (does_move (v := .int .i64 a1) (by exact rfl)) (by decide) ?_
          refine alP (some 23) rfl rfl (does_bin (v := .bool (decide (a1 < 1))) (by conv => lhs; whnf) (by conv => lhs; whnf) rfl) (by decide) ?_
          refine alP (some 24) rfl rfl (does_pick (v := .bool (decide (a1 < 1))) (by conv => lhs; whnf) (by exact rfl)) (by decide) ?_
          refine alP (some 25) rfl rfl (does_move (v := .bool (decide (a1 < 1))) (by exact rfl)) (by decide) ?_
          refine al_bool (c := (decide (a1 < 1))) 25 rfl (fun c13 => ?_) (fun c13 => ?_)
          · have h := ifT c13 h
            refine alS (some 26) rfl rfl (by decide) ?_
            refine alS (some 27) rfl rfl (by decide) ?_
            refine alP (some 28) rfl rfl (does_pick (v := .bool true) (by conv => lhs; whnf) (by exact rfl)) (by decide) ?_
            refine al_nil ?_
            refine hK6 _ ?_
            refine aw_cond_t (by decide) rfl ?_
            refine aw_seq_k (fun K14 hK14 => ?_)
            refine aw_regL ?_
            refine alP (some 29) rfl rfl (does_move (v := .bool x3) (by exact rfl)) (by decide) ?_
            refine alP (some 4) rfl rfl (does_assign (v := .bool x3) (by exact rfl)) (by decide) ?_
            refine al_nil ?_
            refine hK14 _ ?_
            refine aw_ret ?_
            have h := leafR h hk5
            obtain rfl := Option.some.inj h
            exact ret_ok1 (by conv => lhs; whnf) (by conv => lhs; whnf) (by exact rfl) (.inr rfl) rfl
          · have h := ifF c13 h
            refine alP (some 26) rfl rfl (does_move (v := .int .i64 a1) (by exact rfl)) (by decide) ?_
            refine alP (some 27) rfl rfl (does_bin (v := .bool (decide ((10 : Int) < a1))) (by conv => lhs; whnf) (by conv => lhs; whnf) rfl) (by decide) ?_
            refine alP (some 28) rfl rfl (does_pick (v := .bool (decide ((10 : Int) < a1))) (by conv => lhs; whnf) (by exact rfl)) (by decide) ?_
            refine al_nil ?_
            refine hK6 _ ?_
            refine aw_bool (b := (decide ((10 : Int) < a1))) 28 rfl (fun c15 => ?_) (fun c15 => ?_)
            · have h := ifT c15 h
              refine aw_cond_t (by decide) rfl ?_
              refine aw_seq_k (fun K16 hK16 => ?_)
              refine aw_regL ?_
              refine alP (some 29) rfl rfl (does_move (v := .bool x3) (by exact rfl)) (by decide) ?_
              refine alP (some 4) rfl rfl (does_assign (v := .bool x3) (by exact rfl)) (by decide) ?_
              refine al_nil ?_
              refine hK16 _ ?_
              refine aw_ret ?_
              have h := leafR h hk5
              obtain rfl := Option.some.inj h
              exact ret_ok1 (by conv => lhs; whnf) (by conv => lhs; whnf) (by exact rfl) (.inr rfl) rfl
            · have h := ifF c15 h
              refine aw_cond_f (by decide) rfl ?_
              refine aw_skip ?_
              have h := leafL h hk5
              exact ⟨_, reb_lit [(0, .int .i64 a0), (1, .int .i64 a1)] [] [] [] (envOk_cons (by conv => lhs; whnf) (by exact rfl) (envOk_cons (by conv => lhs; whnf) (by exact rfl) envOk_nil)) objOk_nil (nodup_b rfl) (nodup_b rfl) rfl rfl, h, rfl⟩
  · rintro s ⟨h, rfl⟩
    unfold gleaninglaw13_RuleLimits_k0 at h
    refine aw_seq_k (fun K17 hK17 => ?_)
    refine aw_regL ?_
    refine alP (some 30) rfl rfl (do_build_struct (cs := [.int .i64 2, .int .i64 0, .str (strOf []), .str (strOf []), .nil]) ty24 rfl [⟨.int .i64, 1, 8, [.int .i64 0]⟩, ⟨.int .i64, 1, 8, [.int .i64 0]⟩, ⟨.str, 1, 16, [.str ByteArray.empty]⟩, ⟨.str, 1, 16, [.str ByteArray.empty]⟩, ⟨.slice 24, 1, 24, [.nil]⟩] (by simp only [List.map, ty22, ty3, ty9]) (by rfl) (by exact rfl)) (by decide) ?_
    refine alD (some 6) rfl rfl (do_new ty24 rfl rfl) (by decide) ?_
    refine alD none rfl rfl (do_store (cs' := [.int .i64 2, .int .i64 0, .str (strOf []), .str (strOf []), .nil]) (by conv => lhs; whnf) (by conv => lhs; whnf) (by conv => lhs; whnf) ty24 rfl rfl rfl (by exact rfl)) (by decide) ?_
    refine al_nil ?_
    refine hK17 _ ?_
    obtain ⟨q18, h, hk19⟩ := bnd_some h
    refine aw_cut (fun s => ∃ (v6_s_4_s_1 : List Rule), gleaninglaw13_RuleLimits_k1 a0 a1 v6_s_4_s_1 = some r ∧ s = lit [(0, .int .i64 a0), (1, .int .i64 a1), (6, .ptr 6 0 0)] [((6, 0), .box [.int .i64 2, .int .i64 0, .str (strOf []), .str (strOf []), .own 6 1]), ((6, 1), .arr 24 5 false (List.map enc23 v6_s_4_s_1))] [(6, 2)] X) ?_ ?_
    · skip
      refine aw_seq_k (fun K20 hK20 => ?_)
      refine aw_regL ?_
      refine alP (some 7) rfl rfl (does_assign (v := .int .i64 0) (by exact rfl)) (by decide) ?_
      refine al_nil ?_
      refine hK20 _ ?_
      refine aw_block ?_
      refine aw_nilOwnC 6 0 4 6 24 5 (cs := [.int .i64 2, .int .i64 0, .str (strOf []), .str (strOf []), .nil]) (by conv => lhs; whnf) rfl (by decide) ?_
      refine aw_loop' (fun m s => ∃ (v6_s_4_s_2 : List Rule), ∃ (v7_2 : Int), loopN (fun (s : List Rule × Int) => gleaninglaw13_RuleLimits_l2 a0 s.1 s.2) m (v6_s_4_s_2, v7_2) = some q18 ∧ s = lit [(0, .int .i64 a0), (1, .int .i64 a1), (6, .ptr 6 0 0), (7, .int .i64 v7_2)] [((6, 0), .box [.int .i64 2, .int .i64 0, .str (strOf []), .str (strOf []), .own 6 1]), ((6, 1), .arr 24 5 false (List.map enc23 v6_s_4_s_2))] [(6, 2)] X) Fu
        ⟨_, reb_lit [(0, .int .i64 a0), (1, .int .i64 a1), (6, .ptr 6 0 0), (7, .int .i64 (0))] [(6, 0), (6, 1)] [((6, 0), .box [.int .i64 2, .int .i64 0, .str (strOf []), .str (strOf []), .own 6 1]), ((6, 1), .arr 24 5 false (List.map enc23 []))] [(6, 2)] (envOk_cons (by conv => lhs; whnf) (by exact rfl) (envOk_cons (by conv => lhs; whnf) (by exact rfl) (envOk_cons (by conv => lhs; whnf) (by exact rfl) (envOk_cons (by conv => lhs; whnf) (by exact rfl) envOk_nil)))) (objOk_cons (by conv => lhs; whnf) (by conv => lhs; whnf) (by exact rfl) (by simp) (objOk_cons (by conv => lhs; whnf) (by conv => lhs; whnf) (by exact rfl) (by simp) objOk_nil)) (nodup_b rfl) (nodup_b rfl) rfl rfl, [], 0, h, rfl⟩ ?_
      rintro m s ⟨v6_s_4_s_2, v7_2, h, rfl⟩
      obtain ⟨m2, q21, rfl, h, hq22⟩ := loop_some h
      replace h : gleaninglaw13_RuleLimits_l2 a0 v6_s_4_s_2 v7_2 = some q21 := h
      unfold gleaninglaw13_RuleLimits_l2 at h
      refine aw_seq_k (fun K23 hK23 => ?_)
      refine aw_seq_k (fun K24 hK24 => ?_)
      refine aw_regL ?_
      refine alP (some 31) rfl rfl (does_move (v := .int .i64 v7_2) (by exact rfl)) (by decide) ?_
      refine alP (some 32) rfl rfl (does_move (v := .int .i64 a0) (by exact rfl)) (by decide) ?_
      refine alP (some 33) rfl rfl (does_bin (v := .bool (decide (v7_2 < a0))) (by conv => lhs; whnf) (by conv => lhs; whnf) rfl) (by decide) ?_
      refine al_nil ?_
      refine hK24 _ ?_
      refine aw_bool (b := (decide (v7_2 < a0))) 33 rfl (fun c25 => ?_) (fun c25 => ?_)
      · have h := ifT c25 h
        refine aw_cond_t (by decide) rfl ?_
        refine aw_skip ?_
        refine hK23 _ ?_
        refine aw_seq_k (fun K26 hK26 => ?_)
        refine aw_block ?_
        refine aw_regL ?_
        refine alP (some 36) rfl rfl (does_fieldAddr (q := .ptr 6 0 4) (by conv => lhs; whnf) ty24 rfl ty22 (by decide) (by exact rfl)) (by decide) ?_
        refine alR (some 37) rfl rfl (does_load (v := .own 6 1) (by conv => lhs; whnf) (by conv => lhs; whnf) ty22 (by exact rfl)) (by decide) ?_
        refine alP (some 38) rfl rfl ((do_build_struct (cs := [.int .i64 5, .int .i64 0, .str (strOf []), .str (strOf []), .nil]) ty24 rfl [⟨.int .i64, 1, 8, [.int .i64 0]⟩, ⟨.int .i64, 1, 8, [.int .i64 0]⟩, ⟨.str, 1, 16, [.str ByteArray.empty]⟩, ⟨.str, 1, 16, [.str ByteArray.empty]⟩, ⟨.slice 24, 1, 24, [.nil]⟩] (by simp only [List.map, ty22, ty3, ty9]) (by rfl) (by exact rfl)).weak (v' := .agg [.int .i64 5, .int .i64 0, .str (strOf []), .str (strOf []), .sl 5 (List.map enc23 [])]) (le_agg ⟨le_refl _, le_refl _, le_refl _, le_refl _, le_nil _, trivial⟩)) (by decide) ?_
        refine alD (some 39) rfl rfl (do_buildSliceE (f := enc23) (ls := [(Rule.mk 5 0 (strOf []) (strOf []) [])]) (xs := [.agg [.int .i64 5, .int .i64 0, .str (strOf []), .str (strOf []), .sl 5 (List.map enc23 [])]]) (map_consE (enc23_eq _) rfl) ty22 ty24 rfl rfl rfl rfl rfl rfl rfl rfl) (by decide) ?_
        obtain ⟨g27, h⟩ := gd_some h
        refine alD (some 40) rfl rfl (do_append (v := List.map enc23 (v6_s_4_s_2 ++ [(Rule.mk 5 0 (strOf []) (strOf []) [])])) (by conv => lhs; whnf) (by conv => lhs; whnf) ty22 ty24 rfl rfl (by conv => lhs; whnf) (by first | exact .inl rfl | exact .inr ⟨rfl, rfl⟩) (by conv => lhs; whnf) (by first | exact .inr rfl | exact .inl rfl) (map_app _ _) (fit_map g27)) (by decide) ?_
        refine alP (some 41) rfl rfl (does_fieldAddr (q := .ptr 6 0 4) (by conv => lhs; whnf) ty24 rfl ty22 (by decide) (by exact rfl)) (by decide) ?_
        refine alD none rfl rfl (do_store (cs' := [.int .i64 2, .int .i64 0, .str (strOf []), .str (strOf []), .own 40 0]) (by conv => lhs; whnf) (by conv => lhs; whnf) (by conv => lhs; whnf) ty22 rfl rfl rfl (by exact rfl)) (by decide) ?_
        refine al_nil ?_
        refine hK26 _ ?_
        refine aw_regL ?_
        refine alP (some 34) rfl rfl (does_move (v := .int .i64 v7_2) (by exact rfl)) (by decide) ?_
        refine alP (some 35) rfl rfl (does_bin (v := .int .i64 (IntKind.i64.wrap (v7_2 + 1))) (by conv => lhs; whnf) (by conv => lhs; whnf) rfl) (by decide) ?_
        refine alP (some 7) rfl rfl (does_assign (v := .int .i64 (IntKind.i64.wrap (v7_2 + 1))) (by exact rfl)) (by decide) ?_
        refine al_nil ?_
        have h := leafL h hq22
        exact ⟨m2, Nat.lt_succ_self _, _, reb_lit [(0, .int .i64 a0), (1, .int .i64 a1), (6, .ptr 6 0 0), (7, .int .i64 (IntKind.i64.wrap (v7_2 + 1)))] [(6, 0), (40, 0)] [((6, 0), .box [.int .i64 2, .int .i64 0, .str (strOf []), .str (strOf []), .own 6 1]), ((6, 1), .arr 24 5 false (List.map enc23 (v6_s_4_s_2 ++ [(Rule.mk 5 0 (strOf []) (strOf []) [])])))] [(6, 2)] (envOk_cons (by conv => lhs; whnf) (by exact rfl) (envOk_cons (by conv => lhs; whnf) (by exact rfl) (envOk_cons (by conv => lhs; whnf) (by exact rfl) (envOk_cons (by conv => lhs; whnf) (by exact rfl) envOk_nil)))) (objOk_cons (by conv => lhs; whnf) (by conv => lhs; whnf) (by exact rfl) (by simp) (objOk_cons (by conv => lhs; whnf) (by conv => lhs; whnf) (by exact rfl) (by simp) objOk_nil)) (nodup_b rfl) (nodup_b rfl) rfl rfl, (v6_s_4_s_2 ++ [(Rule.mk 5 0 (strOf []) (strOf []) [])]), (IntKind.i64.wrap (v7_2 + 1)), h, rfl⟩
      · have h := ifF c25 h
        refine aw_cond_f (by decide) rfl ?_
        refine aw_exit ?_
        have h := leafR h hq22
        obtain rfl := Option.some.inj h
        have h := hk19
        exact ⟨_, reb_lit [(0, .int .i64 a0), (1, .int .i64 a1), (6, .ptr 6 0 0)] [(6, 0), (6, 1)] [((6, 0), .box [.int .i64 2, .int .i64 0, .str (strOf []), .str (strOf []), .own 6 1]), ((6, 1), .arr 24 5 false (List.map enc23 v6_s_4_s_2))] [(6, 2)] (envOk_cons (by conv => lhs; whnf) (by exact rfl) (envOk_cons (by conv => lhs; whnf) (by exact rfl) (envOk_cons (by conv => lhs; whnf) (by exact rfl) envOk_nil))) (objOk_cons (by conv => lhs; whnf) (by conv => lhs; whnf) (by exact rfl) (by simp) (objOk_cons (by conv => lhs; whnf) (by conv => lhs; whnf) (by exact rfl) (by simp) objOk_nil)) (nodup_b rfl) (nodup_b rfl) rfl rfl, v6_s_4_s_2, h, rfl⟩
    · rintro s ⟨v6_s_4_s_1, h, rfl⟩
      unfold gleaninglaw13_RuleLimits_k1 at h
      refine aw_seq_k (fun K28 hK28 => ?_)
      refine aw_regL ?_
      refine alP (some 42) rfl rfl (do_build_struct (cs := [.int .i64 5, .int .i64 0, .str (strOf []), .str (strOf []), .nil]) ty24 rfl [⟨.int .i64, 1, 8, [.int .i64 0]⟩, ⟨.int .i64, 1, 8, [.int .i64 0]⟩, ⟨.str, 1, 16, [.str ByteArray.empty]⟩, ⟨.str, 1, 16, [.str ByteArray.empty]⟩, ⟨.slice 24, 1, 24, [.nil]⟩] (by simp only [List.map, ty22, ty3, ty9]) (by rfl) (by exact rfl)) (by decide) ?_
      refine alD (some 8) rfl rfl (do_new ty24 rfl rfl) (by decide) ?_
      refine alD none rfl rfl (do_store (cs' := [.int .i64 5, .int .i64 0, .str (strOf []), .str (strOf []), .nil]) (by conv => lhs; whnf) (by conv => lhs; whnf) (by conv => lhs; whnf) ty24 rfl rfl rfl (by exact rfl)) (by decide) ?_
      refine al_nil ?_
      refine hK28 _ ?_
      obtain ⟨q29, h, hk30⟩ := bnd_some h
      refine aw_cut (fun s => ∃ (v8_s_0_3 : Int), ∃ (v8_s_4_s_3 : List Rule), gleaninglaw13_RuleLimits_k3 a0 a1 v6_s_4_s_1 v8_s_0_3 v8_s_4_s_3 = some r ∧ s = lit [(0, .int .i64 a0), (1, .int .i64 a1), (6, .ptr 6 0 0), (8, .ptr 8 0 0)] [((6, 0), .box [.int .i64 2, .int .i64 0, .str (strOf []), .str (strOf []), .own 6 1]), ((6, 1), .arr 24 5 false (List.map enc23 v6_s_4_s_1)), ((8, 0), .box [.int .i64 v8_s_0_3, .int .i64 0, .str (strOf []), .str (strOf []), .own 8 1]), ((8, 1), .arr 24 5 false (List.map enc23 v8_s_4_s_3))] [(6, 2), (8, 2)] X) ?_ ?_
      · skip
        refine aw_seq_k (fun K31 hK31 => ?_)
        refine aw_regL ?_
        refine alP (some 9) rfl rfl (does_assign (v := .int .i64 1) (by exact rfl)) (by decide) ?_
        refine al_nil ?_
        refine hK31 _ ?_
        refine aw_block ?_
        refine aw_nilOwnC 8 0 4 8 24 5 (cs := [.int .i64 5, .int .i64 0, .str (strOf []), .str (strOf []), .nil]) (by conv => lhs; whnf) rfl (by decide) ?_
        refine aw_loop' (fun m s => ∃ (v8_s_0_4 : Int), ∃ (v8_s_4_s_4 : List Rule), ∃ (v9_4 : Int), loopN (fun (s : Int × List Rule × Int) => gleaninglaw13_RuleLimits_l4 a1 s.1 s.2.1 s.2.2) m (v8_s_0_4, v8_s_4_s_4, v9_4) = some q29 ∧ s = lit [(0, .int .i64 a0), (1, .int .i64 a1), (6, .ptr 6 0 0), (8, .ptr 8 0 0), (9, .int .i64 v9_4)] [((6, 0), .box [.int .i64 2, .int .i64 0, .str (strOf []), .str (strOf []), .own 6 1]), ((6, 1), .arr 24 5 false (List.map enc23 v6_s_4_s_1)), ((8, 0), .box [.int .i64 v8_s_0_4, .int .i64 0, .str (strOf []), .str (strOf []), .own 8 1]), ((8, 1), .arr 24 5 false (List.map enc23 v8_s_4_s_4))] [(6, 2), (8, 2)] X) Fu
          ⟨_, reb_lit [(0, .int .i64 a0), (1, .int .i64 a1), (6, .ptr 6 0 0), (8, .ptr 8 0 0), (9, .int .i64 (1))] [(6, 0), (6, 1), (8, 0), (8, 1)] [((6, 0), .box [.int .i64 2, .int .i64 0, .str (strOf []), .str (strOf []), .own 6 1]), ((6, 1), .arr 24 5 false (List.map enc23 v6_s_4_s_1)), ((8, 0), .box [.int .i64 (5), .int .i64 0, .str (strOf []), .str (strOf []), .own 8 1]), ((8, 1), .arr 24 5 false (List.map enc23 []))] [(6, 2), (8, 2)] (envOk_cons (by conv => lhs; whnf) (by exact rfl) (envOk_cons (by conv => lhs; whnf) (by exact rfl) (envOk_cons (by conv => lhs; whnf) (by exact rfl) (envOk_cons (by conv => lhs; whnf) (by exact rfl) (envOk_cons (by conv => lhs; whnf) (by exact rfl) envOk_nil))))) (objOk_cons (by conv => lhs; whnf) (by conv => lhs; whnf) (by exact rfl) (by simp) (objOk_cons (by conv => lhs; whnf) (by conv => lhs; whnf) (by exact rfl) (by simp) (objOk_cons (by conv => lhs; whnf) (by conv => lhs; whnf) (by exact rfl) (by simp) (objOk_cons (by conv => lhs; whnf) (by conv => lhs; whnf) (by exact rfl) (by simp) objOk_nil)))) (nodup_b rfl) (nodup_b rfl) rfl rfl, 5, [], 1, h, rfl⟩ ?_
        rintro m s ⟨v8_s_0_4, v8_s_4_s_4, v9_4, h, rfl⟩
        obtain ⟨m4, q32, rfl, h, hq33⟩ := loop_some h
        replace h : gleaninglaw13_RuleLimits_l4 a1 v8_s_0_4 v8_s_4_s_4 v9_4 = some q32 := h
        unfold gleaninglaw13_RuleLimits_l4 at h
        refine aw_seq_k (fun K34 hK34 => ?_)
        refine aw_seq_k (fun K35 hK35 => ?_)
        refine aw_regL ?_
        refine alP (some 43) rfl rfl (does_move (v := .int .i64 v9_4) (by exact rfl)) (by decide) ?_
        refine alP (some 44) rfl rfl (does_move (v := .int .i64 a1) (by exact rfl)) (by decide) ?_
        refine alP (some 45) rfl rfl (does_bin (v := .bool (decide (v9_4 < a1))) (by conv => lhs; whnf) (by conv => lhs; whnf) rfl) (by decide) ?_
        refine al_nil ?_
        refine hK35 _ ?_
        refine aw_bool (b := (decide (v9_4 < a1))) 45 rfl (fun c36 => ?_) (fun c36 => ?_)
        · have h := ifT c36 h
          refine aw_cond_t (by decide) rfl ?_
          refine aw_skip ?_
          refine hK34 _ ?_
          refine aw_seq_k (fun K37 hK37 => ?_)
          refine aw_block ?_
          refine aw_regL ?_
          refine alR (some 48) rfl rfl (does_load (v := .agg [.int .i64 v8_s_0_4, .int .i64 0, .str (strOf []), .str (strOf []), .own 8 1]) (by conv => lhs; whnf) (by conv => lhs; whnf) ty24 (by exact rfl)) (by decide) ?_
          refine alD (some 49) rfl rfl (does_frz (d := 8) (n := 1) (by conv => lhs; whnf) (do_buildSliceE (f := enc23) (ls := [(Rule.mk v8_s_0_4 0 (strOf []) (strOf []) v8_s_4_s_4)]) (xs := [.agg [.int .i64 v8_s_0_4, .int .i64 0, .str (strOf []), .str (strOf []), .sl 5 (List.map enc23 v8_s_4_s_4)]]) (map_consE (enc23_eq _) rfl) ty22 ty24 rfl rfl rfl rfl rfl rfl rfl rfl)) (by decide) ?_
          refine alP (some 50) rfl rfl (do_build_struct (cs := [.int .i64 3, .int .i64 0, .str (strOf []), .str (strOf []), .own 49 0]) ty24 rfl [⟨.int .i64, 1, 8, [.int .i64 0]⟩, ⟨.int .i64, 1, 8, [.int .i64 0]⟩, ⟨.str, 1, 16, [.str ByteArray.empty]⟩, ⟨.str, 1, 16, [.str ByteArray.empty]⟩, ⟨.slice 24, 1, 24, [.nil]⟩] (by simp only [List.map, ty22, ty3, ty9]) (by rfl) (by exact rfl)) (by decide) ?_
          refine alD none rfl rfl (do_store (cs' := [.int .i64 3, .int .i64 0, .str (strOf []), .str (strOf []), .own 49 0]) (by conv => lhs; whnf) (by conv => lhs; whnf) (by conv => lhs; whnf) ty24 rfl rfl rfl (by exact rfl)) (by decide) ?_
          refine al_nil ?_
          refine hK37 _ ?_
          refine aw_regL ?_
          refine alP (some 46) rfl rfl (does_move (v := .int .i64 v9_4) (by exact rfl)) (by decide) ?_
          refine alP (some 47) rfl rfl (does_bin (v := .int .i64 (IntKind.i64.wrap (v9_4 + 1))) (by conv => lhs; whnf) (by conv => lhs; whnf) rfl) (by decide) ?_
          refine alP (some 9) rfl rfl (does_assign (v := .int .i64 (IntKind.i64.wrap (v9_4 + 1))) (by exact rfl)) (by decide) ?_
          refine al_nil ?_
          have h := leafL h hq33
          exact ⟨m4, Nat.lt_succ_self _, _, reb_lit [(0, .int .i64 a0), (1, .int .i64 a1), (6, .ptr 6 0 0), (8, .ptr 8 0 0), (9, .int .i64 (IntKind.i64.wrap (v9_4 + 1)))] [(6, 0), (6, 1), (8, 0), (49, 0)] [((6, 0), .box [.int .i64 2, .int .i64 0, .str (strOf []), .str (strOf []), .own 6 1]), ((6, 1), .arr 24 5 false (List.map enc23 v6_s_4_s_1)), ((8, 0), .box [.int .i64 (3), .int .i64 0, .str (strOf []), .str (strOf []), .own 8 1]), ((8, 1), .arr 24 5 false (List.map enc23 [(Rule.mk v8_s_0_4 0 (strOf []) (strOf []) v8_s_4_s_4)]))] [(6, 2), (8, 2)] (envOk_cons (by conv => lhs; whnf) (by exact rfl) (envOk_cons (by conv => lhs; whnf) (by exact rfl) (envOk_cons (by conv => lhs; whnf) (by exact rfl) (envOk_cons (by conv => lhs; whnf) (by exact rfl) (envOk_cons (by conv => lhs; whnf) (by exact rfl) envOk_nil))))) (objOk_cons (by conv => lhs; whnf) (by conv => lhs; whnf) (by exact rfl) (by simp) (objOk_cons (by conv => lhs; whnf) (by conv => lhs; whnf) (by exact rfl) (by simp) (objOk_cons (by conv => lhs; whnf) (by conv => lhs; whnf) (by exact rfl) (by simp) (objOk_cons (by conv => lhs; whnf) (by conv => lhs; whnf) (by exact rfl) (by simp) objOk_nil)))) (nodup_b rfl) (nodup_b rfl) rfl rfl, 3, [(Rule.mk v8_s_0_4 0 (strOf []) (strOf []) v8_s_4_s_4)], (IntKind.i64.wrap (v9_4 + 1)), h, rfl⟩
        · have h := ifF c36 h
          refine aw_cond_f (by decide) rfl ?_
          refine aw_exit ?_
          have h := leafR h hq33
          obtain rfl := Option.some.inj h
          have h := hk30
          exact ⟨_, reb_lit [(0, .int .i64 a0), (1, .int .i64 a1), (6, .ptr 6 0 0), (8, .ptr 8 0 0)] [(6, 0), (6, 1), (8, 0), (8, 1)] [((6, 0), .box [.int .i64 2, .int .i64 0, .str (strOf []), .str (strOf []), .own 6 1]), ((6, 1), .arr 24 5 false (List.map enc23 v6_s_4_s_1)), ((8, 0), .box [.int .i64 v8_s_0_4, .int .i64 0, .str (strOf []), .str (strOf []), .own 8 1]), ((8, 1), .arr 24 5 false (List.map enc23 v8_s_4_s_4))] [(6, 2), (8, 2)] (envOk_cons (by conv => lhs; whnf) (by exact rfl) (envOk_cons (by conv => lhs; whnf) (by exact rfl) (envOk_cons (by conv => lhs; whnf) (by exact rfl) (envOk_cons (by conv => lhs; whnf) (by exact rfl) envOk_nil)))) (objOk_cons (by conv => lhs; whnf) (by conv => lhs; whnf) (by exact rfl) (by simp) (objOk_cons (by conv => lhs; whnf) (by conv => lhs; whnf) (by exact rfl) (by simp) (objOk_cons (by conv => lhs; whnf) (by conv => lhs; whnf) (by exact rfl) (by simp) (objOk_cons (by conv => lhs; whnf) (by conv => lhs; whnf) (by exact rfl) (by simp) objOk_nil)))) (nodup_b rfl) (nodup_b rfl) rfl rfl, v8_s_0_4, v8_s_4_s_4, h, rfl⟩
      · rintro s ⟨v8_s_0_3, v8_s_4_s_3, h, rfl⟩
        unfold gleaninglaw13_RuleLimits_k3 at h
        refine aw_seq_k (fun K38 hK38 => ?_)
        refine aw_regL ?_
        refine alR (some 51) rfl rfl (does_load (v := .agg [.int .i64 2, .int .i64 0, .str (strOf []), .str (strOf []), .own 6 1]) (by conv => lhs; whnf) (by conv => lhs; whnf) ty24 (by exact rfl)) (by decide) ?_
        obtain ⟨x39, hx39, h⟩ := bnd_some h
        refine alD (some 52) rfl rfl ((do_callG (bcs := []) [] [] [(6, 1)] 52 false (rule_Right_ok (Rule.mk 2 0 (strOf []) (strOf []) v6_s_4_s_1) hx39) rfl ent42 trivial trivial rfl rfl rfl rfl rfl rfl rfl rfl (.inr ⟨rfl, rfl, trivial⟩)).fx (y := ⟨[(6, 1)], .bool x39, [], [52]⟩) rfl) (by decide) ?_
        refine alP (some 53) rfl rfl (does_move (v := .int .i64 a0) (by exact rfl)) (by decide) ?_
        refine alP (some 54) rfl rfl (does_bin (v := .bool (decide (a0 ≤ 19))) (by conv => lhs; whnf) (by conv => lhs; whnf) rfl) (by decide) ?_
        refine alP (some 55) rfl rfl (does_eq_bool (v := .bool (x39 == (decide (a0 ≤ 19)))) (by conv => lhs; whnf) (by conv => lhs; whnf) (ty_bool ty4) rfl) (by decide) ?_
        refine alP (some 56) rfl rfl (does_move (v := .bool (x39 == (decide (a0 ≤ 19)))) (by exact rfl)) (by decide) ?_
        refine al_bool (c := (x39 == (decide (a0 ≤ 19)))) 56 rfl (fun c40 => ?_) (fun c40 => ?_)
        · have h := ifT c40 h
          refine alR (some 57) rfl rfl (does_load (v := .agg [.int .i64 v8_s_0_3, .int .i64 0, .str (strOf []), .str (strOf []), .own 8 1]) (by conv => lhs; whnf) (by conv => lhs; whnf) ty24 (by exact rfl)) (by decide) ?_
          obtain ⟨x41, hx41, h⟩ := bnd_some h
          refine alD (some 58) rfl rfl ((do_callG (bcs := []) [] [] [(8, 1)] 58 false (rule_Right_ok (Rule.mk v8_s_0_3 0 (strOf []) (strOf []) v8_s_4_s_3) hx41) rfl ent42 trivial trivial rfl rfl rfl rfl rfl rfl rfl rfl (.inr ⟨rfl, rfl, trivial⟩)).fx (y := ⟨[(8, 1)], .bool x41, [], [58]⟩) rfl) (by decide) ?_
          refine alP (some 59) rfl rfl (does_move (v := .int .i64 a1) (by exact rfl)) (by decide) ?_
          refine alP (some 60) rfl rfl (does_bin (v := .bool (decide (a1 ≤ 5))) (by conv => lhs; whnf) (by conv => lhs; whnf) rfl) (by decide) ?_
          refine alP (some 61) rfl rfl (does_eq_bool (v := .bool (x41 == (decide (a1 ≤ 5)))) (by conv => lhs; whnf) (by conv => lhs; whnf) (ty_bool ty4) rfl) (by decide) ?_
          refine alP (some 62) rfl rfl (does_pick (v := .bool (x41 == (decide (a1 ≤ 5)))) (by conv => lhs; whnf) (by exact rfl)) (by decide) ?_
          refine al_reb (reb_lit [(0, .int .i64 a0), (1, .int .i64 a1), (6, .ptr 6 0 0), (8, .ptr 8 0 0), (62, .bool (x41 == (decide (a1 ≤ 5))))] [(6, 0), (6, 1), (8, 0), (8, 1)] [((6, 0), .box [.int .i64 2, .int .i64 0, .str (strOf []), .str (strOf []), .own 6 1]), ((6, 1), .arr 24 5 false (List.map enc23 v6_s_4_s_1)), ((8, 0), .box [.int .i64 v8_s_0_3, .int .i64 0, .str (strOf []), .str (strOf []), .own 8 1]), ((8, 1), .arr 24 5 false (List.map enc23 v8_s_4_s_3))] [(6, 2), (8, 2)] (envOk_cons (by conv => lhs; whnf) (by exact rfl) (envOk_cons (by conv => lhs; whnf) (by exact rfl) (envOk_cons (by conv => lhs; whnf) (by exact rfl) (envOk_cons (by conv => lhs; whnf) (by exact rfl) (envOk_cons (by conv => lhs; whnf) (by exact rfl) envOk_nil))))) (objOk_cons (by conv => lhs; whnf) (by conv => lhs; whnf) (by exact rfl) (by simp) (objOk_cons (by conv => lhs; whnf) (by conv => lhs; whnf) (by exact rfl) (by simp) (objOk_cons (by conv => lhs; whnf) (by conv => lhs; whnf) (by exact rfl) (by simp) (objOk_cons (by conv => lhs; whnf) (by conv => lhs; whnf) (by exact rfl) (by simp) objOk_nil)))) (nodup_b rfl) (nodup_b rfl) rfl rfl) ?_
          refine alP (some 63) rfl rfl (does_move (v := .bool (x41 == (decide (a1 ≤ 5)))) (by exact rfl)) (by decide) ?_
          refine al_bool (c := (x41 == (decide (a1 ≤ 5)))) 63 rfl (fun c42 => ?_) (fun c42 => ?_)
          · have h := ifT c42 h
            refine alR (some 64) rfl rfl (does_load (v := .agg [.int .i64 2, .int .i64 0, .str (strOf []), .str (strOf []), .own 6 1]) (by conv => lhs; whnf) (by conv => lhs; whnf) ty24 (by exact rfl)) (by decide) ?_
            obtain ⟨x43, hx43, h⟩ := bnd_some h
            refine alD (some 65) rfl rfl ((do_callG (bcs := []) [] [] [(6, 1)] 65 false (rule_Bytes_ok (Rule.mk 2 0 (strOf []) (strOf []) v6_s_4_s_1) hx43) rfl ent43 trivial trivial rfl rfl rfl rfl rfl rfl rfl rfl (.inr ⟨rfl, rfl, ⟨plain_map (fun _ => rfl), trivial⟩⟩)).fx (y := ⟨[(6, 1)], .own 65 0, [((65, 0), some (.arr 5 1 false (List.map enc5 x43)))], [65, 65]⟩) rfl) (by decide) ?_
            refine alR (some 66) rfl rfl ((does_len_own (by conv => lhs; whnf) (by conv => lhs; whnf) ty43).cast (v' := .int .i64 (List.length x43 : Int)) (by exact len_map _)) (by decide) ?_
            refine alP (some 67) rfl rfl (does_bin (v := .bool (decide ((0 : Int) < (List.length x43 : Int)))) (by conv => lhs; whnf) (by conv => lhs; whnf) rfl) (by decide) ?_
            refine alP (some 68) rfl rfl (does_move (v := .int .i64 a0) (by exact rfl)) (by decide) ?_
            refine alP (some 69) rfl rfl (does_bin (v := .bool (decide (a0 ≤ 19))) (by conv => lhs; whnf) (by conv => lhs; whnf) rfl) (by decide) ?_
            refine alP (some 70) rfl rfl (does_eq_bool (v := .bool ((decide ((0 : Int) < (List.length x43 : Int))) == (decide (a0 ≤ 19)))) (by conv => lhs; whnf) (by conv => lhs; whnf) (ty_bool ty4) rfl) (by decide) ?_
            refine alP (some 71) rfl rfl (does_pick (v := .bool ((decide ((0 : Int) < (List.length x43 : Int))) == (decide (a0 ≤ 19)))) (by conv => lhs; whnf) (by exact rfl)) (by decide) ?_
            refine alP (some 72) rfl rfl (does_move (v := .bool ((decide ((0 : Int) < (List.length x43 : Int))) == (decide (a0 ≤ 19)))) (by exact rfl)) (by decide) ?_
            refine al_bool (c := ((decide ((0 : Int) < (List.length x43 : Int))) == (decide (a0 ≤ 19)))) 72 rfl (fun c44 => ?_) (fun c44 => ?_)
            · have h := ifT c44 h
              refine alR (some 73) rfl rfl (does_load (v := .agg [.int .i64 v8_s_0_3, .int .i64 0, .str (strOf []), .str (strOf []), .own 8 1]) (by conv => lhs; whnf) (by conv => lhs; whnf) ty24 (by exact rfl)) (by decide) ?_
              obtain ⟨x45, hx45, h⟩ := bnd_some h
              refine alD (some 74) rfl rfl ((do_callG (bcs := []) [] [] [(8, 1)] 74 false (rule_Bytes_ok (Rule.mk v8_s_0_3 0 (strOf []) (strOf []) v8_s_4_s_3) hx45) rfl ent43 trivial trivial rfl rfl rfl rfl rfl rfl rfl rfl (.inr ⟨rfl, rfl, ⟨plain_map (fun _ => rfl), trivial⟩⟩)).fx (y := ⟨[(8, 1)], .own 74 0, [((74, 0), some (.arr 5 1 false (List.map enc5 x45)))], [74, 74]⟩) rfl) (by decide) ?_
              refine al_reb (reb_lit [(1, .int .i64 a1), (72, .bool true), (74, .own 74 0)] [(74, 0)] [((74, 0), .arr 5 1 false (List.map enc5 x45))] [(74, 1)] (envOk_cons (by conv => lhs; whnf) (by exact rfl) (envOk_cons (by conv => lhs; whnf) (by exact rfl) (envOk_cons (by conv => lhs; whnf) (by exact rfl) envOk_nil))) (objOk_cons (by conv => lhs; whnf) (by conv => lhs; whnf) (by exact rfl) (by simp) objOk_nil) (nodup_b rfl) (nodup_b rfl) rfl rfl) ?_
              refine alR (some 75) rfl rfl ((does_len_own (by conv => lhs; whnf) (by conv => lhs; whnf) ty43).cast (v' := .int .i64 (List.length x45 : Int)) (by exact len_map _)) (by decide) ?_
              refine alP (some 76) rfl rfl (does_bin (v := .bool (decide ((0 : Int) < (List.length x45 : Int)))) (by conv => lhs; whnf) (by conv => lhs; whnf) rfl) (by decide) ?_
              refine alP (some 77) rfl rfl (does_move (v := .int .i64 a1) (by exact rfl)) (by decide) ?_
              refine alP (some 78) rfl rfl (does_bin (v := .bool (decide (a1 ≤ 5))) (by conv => lhs; whnf) (by conv => lhs; whnf) rfl) (by decide) ?_
              refine alP (some 79) rfl rfl (does_eq_bool (v := .bool ((decide ((0 : Int) < (List.length x45 : Int))) == (decide (a1 ≤ 5)))) (by conv => lhs; whnf) (by conv => lhs; whnf) (ty_bool ty4) rfl) (by decide) ?_
              refine alP (some 80) rfl rfl (does_pick (v := .bool ((decide ((0 : Int) < (List.length x45 : Int))) == (decide (a1 ≤ 5)))) (by conv => lhs; whnf) (by exact rfl)) (by decide) ?_
              refine alP (some 4) rfl rfl (does_assign (v := .bool ((decide ((0 : Int) < (List.length x45 : Int))) == (decide (a1 ≤ 5)))) (by exact rfl)) (by decide) ?_
              refine al_nil ?_
              refine hK38 _ ?_
              refine aw_ret ?_
              obtain rfl := Option.some.inj h
              exact ret_ok1 (by conv => lhs; whnf) (by conv => lhs; whnf) (by exact rfl) (.inr rfl) rfl
            · have h := ifF c44 h
              refine alS (some 73) rfl rfl (by decide) ?_
              refine alS (some 74) rfl rfl (by decide) ?_
              refine al_reb (reb_lit [(1, .int .i64 a1), (72, .bool false), (74, .skip)] [] [] [] (envOk_cons (by conv => lhs; whnf) (by exact rfl) (envOk_cons (by conv => lhs; whnf) (by exact rfl) (envOk_cons (by conv => lhs; whnf) (by exact rfl) envOk_nil))) objOk_nil (nodup_b rfl) (nodup_b rfl) rfl rfl) ?_
              refine alS (some 75) rfl rfl (by decide) ?_
              refine alS (some 76) rfl rfl (by decide) ?_
              refine alS (some 77) rfl rfl (by decide) ?_
              refine alS (some 78) rfl rfl (by decide) ?_
              refine alS (some 79) rfl rfl (by decide) ?_
              refine alP (some 80) rfl rfl (does_pick (v := .bool false) (by conv => lhs; whnf) (by exact rfl)) (by decide) ?_
              refine alP (some 4) rfl rfl (does_assign (v := .bool false) (by exact rfl)) (by decide) ?_
              refine al_nil ?_
              refine hK38 _ ?_
              refine aw_ret ?_
              obtain rfl := Option.some.inj h
              exact ret_ok1 (by conv => lhs; whnf) (by conv => lhs; whnf) (by exact rfl) (.inr rfl) rfl
          · have h := ifF c42 h
            refine alS (some 64) rfl rfl (by decide) ?_
            refine alS (some 65) rfl rfl (by decide) ?_
            refine alS (some 66) rfl rfl (by decide) ?_
            refine alS (some 67) rfl rfl (by decide) ?_
            refine alS (some 68) rfl rfl (by decide) ?_
            refine alS (some 69) rfl rfl (by decide) ?_
            refine alS (some 70) rfl rfl (by decide) ?_
            refine alP (some 71) rfl rfl (does_pick (v := .bool false) (by conv => lhs; whnf) (by exact rfl)) (by decide) ?_
            refine alP (some 72) rfl rfl (does_move (v := .bool false) (by exact rfl)) (by decide) ?_
            refine alS (some 73) rfl rfl (by decide) ?_
            refine alS (some 74) rfl rfl (by decide) ?_
            refine al_reb (reb_lit [(1, .int .i64 a1), (72, .bool false), (74, .skip)] [] [] [] (envOk_cons (by conv => lhs; whnf) (by exact rfl) (envOk_cons (by conv => lhs; whnf) (by exact rfl) (envOk_cons (by conv => lhs; whnf) (by exact rfl) envOk_nil))) objOk_nil (nodup_b rfl) (nodup_b rfl) rfl rfl) ?_
            refine alS (some 75) rfl rfl (by decide) ?_
            refine alS (some 76) rfl rfl (by decide) ?_
            refine alS (some 77) rfl rfl (by decide) ?_
            refine alS (some 78) rfl rfl (by decide) ?_
            refine alS (some 79) rfl rfl (by decide) ?_
            refine alP (some 80) rfl rfl (does_pick (v := .bool false) (by conv => lhs; whnf) (by exact rfl)) (by decide) ?_
            refine alP (some 4) rfl rfl (does_assign (v := .bool false) (by exact rfl)) (by decide) ?_
            refine al_nil ?_
            refine hK38 _ ?_
            refine aw_ret ?_
            obtain rfl := Option.some.inj h
            exact ret_ok1 (by conv => lhs; whnf) (by conv => lhs; whnf) (by exact rfl) (.inr rfl) rfl
        · have h := ifF c40 h
          refine alS (some 57) rfl rfl (by decide) ?_
          refine alS (some 58) rfl rfl (by decide) ?_
          refine alS (some 59) rfl rfl (by decide) ?_
          refine alS (some 60) rfl rfl (by decide) ?_
          refine alS (some 61) rfl rfl (by decide) ?_
          refine alP (some 62) rfl rfl (does_pick (v := .bool false) (by conv => lhs; whnf) (by exact rfl)) (by decide) ?_
          refine al_reb (reb_lit [(0, .int .i64 a0), (1, .int .i64 a1), (6, .ptr 6 0 0), (8, .ptr 8 0 0), (62, .bool false)] [(6, 0), (6, 1), (8, 0), (8, 1)] [((6, 0), .box [.int .i64 2, .int .i64 0, .str (strOf []), .str (strOf []), .own 6 1]), ((6, 1), .arr 24 5 false (List.map enc23 v6_s_4_s_1)), ((8, 0), .box [.int .i64 v8_s_0_3, .int .i64 0, .str (strOf []), .str (strOf []), .own 8 1]), ((8, 1), .arr 24 5 false (List.map enc23 v8_s_4_s_3))] [(6, 2), (8, 2)] (envOk_cons (by conv => lhs; whnf) (by exact rfl) (envOk_cons (by conv => lhs; whnf) (by exact rfl) (envOk_cons (by conv => lhs; whnf) (by exact rfl) (envOk_cons (by conv => lhs; whnf) (by exact rfl) (envOk_cons (by conv => lhs; whnf) (by exact rfl) envOk_nil))))) (objOk_cons (by conv => lhs; whnf) (by conv => lhs; whnf) (by exact rfl) (by simp) (objOk_cons (by conv => lhs; whnf) (by conv => lhs; whnf) (by exact rfl) (by simp) (objOk_cons (by conv => lhs; whnf) (by conv => lhs; whnf) (by exact rfl) (by simp) (objOk_cons (by conv => lhs; whnf) (by conv => lhs; whnf) (by exact rfl) (by simp) objOk_nil)))) (nodup_b rfl) (nodup_b rfl) rfl rfl) ?_
          refine alP (some 63) rfl rfl (does_move (v := .bool false) (by exact rfl)) (by decide) ?_
          refine alS (some 64) rfl rfl (by decide) ?_
          refine alS (some 65) rfl rfl (by decide) ?_
          refine alS (some 66) rfl rfl (by decide) ?_
          refine alS (some 67) rfl rfl (by decide) ?_
          refine alS (some 68) rfl rfl (by decide) ?_
          refine alS (some 69) rfl rfl (by decide) ?_
          refine alS (some 70) rfl rfl (by decide) ?_
          refine alP (some 71) rfl rfl (does_pick (v := .bool false) (by conv => lhs; whnf) (by exact rfl)) (by decide) ?_
          refine alP (some 72) rfl rfl (does_move (v := .bool false) (by exact rfl)) (by decide) ?_
          refine alS (some 73) rfl rfl (by decide) ?_
          refine alS (some 74) rfl rfl (by decide) ?_
          refine al_reb (reb_lit [(1, .int .i64 a1), (72, .bool false), (74, .skip)] [] [] [] (envOk_cons (by conv => lhs; whnf) (by exact rfl) (envOk_cons (by conv => lhs; whnf) (by exact rfl) (envOk_cons (by conv => lhs; whnf) (by exact rfl) envOk_nil))) objOk_nil (nodup_b rfl) (nodup_b rfl) rfl rfl) ?_
          refine alS (some 75) rfl rfl (by decide) ?_
          refine alS (some 76) rfl rfl (by decide) ?_
          refine alS (some 77) rfl rfl (by decide) ?_
          refine alS (some 78) rfl rfl (by decide) ?_
          refine alS (some 79) rfl rfl (by decide) ?_
          refine alP (some 80) rfl rfl (does_pick (v := .bool false) (by conv => lhs; whnf) (by exact rfl)) (by decide) ?_
          refine alP (some 4) rfl rfl (does_assign (v := .bool false) (by exact rfl)) (by decide) ?_
          refine al_nil ?_
          refine hK38 _ ?_
          refine aw_ret ?_
          obtain rfl := Option.some.inj h
          exact ret_ok1 (by conv => lhs; whnf) (by conv => lhs; whnf) (by exact rfl) (.inr rfl) rfl
end Go.Proofs.Ytbfmmaabaenhgaa.Ab
