/- Chapter 13: which policies may be. -/
import Derived.Test.YtbfmmaabaenhgaaXRLim
import Derived.Test.YtbfmmaabaenhgaaProg
namespace Go.Proofs.Ytbfmmaabaenhgaa.Ab
open Go Go.RowKit
set_option linter.unusedVariables false
set_option linter.unusedSimpArgs false
theorem ent44 : Ent Try.prog 44 := ⟨_, Try.func44, by kernel_rfl, rfl⟩
def gleaninglaw13_RuleTells_k0 (a0 : Rule) (a1 : Rule) (a2 : List UInt8) : Option Bool :=
  Option.bind (rule_Bytes a0) (fun (x18 : List UInt8) => gd ((List.length a2) * 1 ≤ 140737488355328 ∧ (List.length a2) ≤ 140737488355328) (Option.bind (rule_Read a2) (fun (x21 : Rule × Int) => Option.bind (gleaningref1_ReadRule a2) (fun (x23 : Rule × Int) => Option.bind (rule_Read x18) (fun (x25 : Rule × Int) => Option.bind (rule_Right a0) (fun (x27 : Bool) => Option.bind (gleaningref1_RightRule a0) (fun (x28 : Bool) => if (x27 == x28) = true then (Option.bind (gleaningref1_RuleBytes a0) (fun (x30 : List UInt8) => if (ByteArray.toList (strOf x18) == ByteArray.toList (strOf x30)) = true then (Option.bind (gleaningref1_SameRule x21.1 x23.1) (fun (x32 : Bool) => if x32 = true then (Option.bind (gleaninglaw13_num x21.2) (fun (x34 : Int) => if (x34 == x23.2) = true then (Option.bind (rule_Same a0 a1) (fun (x36 : Bool) => Option.bind (gleaningref1_SameRule a0 a1) (fun (x37 : Bool) => if (x36 == x37) = true then (Option.bind (rule_Same a0 a0) (fun (x39 : Bool) => if x39 = true then (if ((List.length x18 : Int) == 0) = true then (some true) else (Option.bind (gleaninglaw13_num x25.2) (fun (x42 : Int) => if (x42 == 0) = true then (Option.bind (gleaningref1_SameRule x25.1 a0) (fun (x44 : Bool) => some x44)) else (some false)))) else (some false))) else (some false)))) else (some false))) else (some false))) else (some false))) else (some false))))))))
def gleaninglaw13_RuleTells (a0 : Rule) (a1 : Rule) (a2 : List UInt8) : Option Bool :=
  Option.bind (gleaninglaw13_alive) (fun (x3 : Bool) => Option.bind (if (!x3) = true then (some (Sum.inr x3)) else (Option.bind (gleaninglaw13_Few a0) (fun (x9 : Bool) => if (!x9) = true then (some (Sum.inr x3)) else (Option.bind (gleaninglaw13_Few a1) (fun (x12 : Bool) => if (!x12) = true then (some (Sum.inr x3)) else (if (decide ((500 : Int) < (List.length a2 : Int))) = true then (some (Sum.inr x3)) else (some (Sum.inl ())))))))) (Sum.elim (fun (s : Unit) => gleaninglaw13_RuleTells_k0 a0 a1 a2) some))
set_option maxRecDepth 100000 in
set_option maxHeartbeats 8000000 in
/-- gleaning/gleaninglaw13.RuleTells -/
theorem gleaninglaw13_RuleTells_ok (a0 : Rule) (a1 : Rule) (a2 : List UInt8) {r : Bool} (h : gleaninglaw13_RuleTells a0 a1 a2 = some r) : Ok Try.prog 14 [.agg [.int .i64 a0.Kind, .int .i64 a0.N, .str a0.Key, .str a0.Value, .sl 5 (List.map enc23 a0.Kids)], .agg [.int .i64 a1.Kind, .int .i64 a1.N, .str a1.Key, .str a1.Value, .sl 5 (List.map enc23 a1.Kids)], .sl 1 (List.map enc5 a2)] [] [] (.bool r) [] [] := by
  unfold gleaninglaw13_RuleTells at h
  refine ok_of_code Try.func14 rfl (by show (3 : Nat) ≤ _; decide) (Nat.le_refl _) fun X => ?_
  refine aw_seq_k (fun K1 hK1 => ?_)
  refine aw_regL ?_
  refine alD (some 3) rfl rfl (do_box (by conv => lhs; whnf) rfl rfl) (by decide) ?_
  refine alD (some 4) rfl rfl (do_box (by conv => lhs; whnf) rfl rfl) (by decide) ?_
  refine alP (some 6) rfl rfl (does_assign (v := .bool false) (by exact rfl)) (by decide) ?_
  refine al_nil ?_
  refine hK1 _ ?_
  refine aw_seq_k (fun K2 hK2 => ?_)
  refine aw_regL ?_
  obtain ⟨x3, hx3, h⟩ := bnd_some h
  refine alD (some 15) rfl rfl (do_call0 15 false (gleaninglaw13_alive_ok hx3) rfl ent38 rfl rfl) (by decide) ?_
  refine alP (some 7) rfl rfl (does_assign (v := .bool x3) (by exact rfl)) (by decide) ?_
  refine al_nil ?_
  refine hK2 _ ?_
  obtain ⟨q4, h, hk5⟩ := bnd_some h
  refine aw_cut (fun s => gleaninglaw13_RuleTells_k0 a0 a1 a2 = some r ∧ s = lit [(2, .sl 1 (List.map enc5 a2)), (3, .ptr 3 0 0), (4, .ptr 4 0 0)] [((3, 0), .box [.int .i64 a0.Kind, .int .i64 a0.N, .str a0.Key, .str a0.Value, .sl 5 (List.map enc23 a0.Kids)]), ((4, 0), .box [.int .i64 a1.Kind, .int .i64 a1.N, .str a1.Key, .str a1.Value, .sl 5 (List.map enc23 a1.Kids)])] [(3, 1), (4, 1)] X) ?_ ?_
  · skip
    refine aw_seq_k (fun K6 hK6 => ?_)
    refine aw_regL ?_
    refine alP (some 16) rfl rfl (does_move (v := .bool x3) (by exact rfl)) (by decide) ?_
    refine alP (some 17) rfl rfl (does_un (v := .bool (!x3)) (by conv => lhs; whnf) rfl) (by decide) ?_
    refine alP (some 18) rfl rfl (does_move (v := .bool (!x3)) (by exact rfl)) (by decide) ?_
    refine al_bool (c := (!x3)) 18 rfl (fun c7 => ?_) (fun c7 => ?_)
    · have h := ifT c7 h
      refine alS (some 19) rfl rfl (by decide) ?_
      refine alS (some 20) rfl rfl (by decide) ?_
      refine alS (some 21) rfl rfl (by decide) ?_
      refine alP (some 22) rfl rfl (does_pick (v := .bool true) (by conv => lhs; whnf) (by exact rfl)) (by decide) ?_
      refine alP (some 23) rfl rfl (does_move (v := .bool true) (by exact rfl)) (by decide) ?_
      refine alS (some 24) rfl rfl (by decide) ?_
      refine alS (some 25) rfl rfl (by decide) ?_
      refine alS (some 26) rfl rfl (by decide) ?_
      refine alP (some 27) rfl rfl (does_pick (v := .bool true) (by conv => lhs; whnf) (by exact rfl)) (by decide) ?_
      refine alP (some 28) rfl rfl (does_move (v := .bool true) (by exact rfl)) (by decide) ?_
      refine alS (some 29) rfl rfl (by decide) ?_
      refine alS (some 30) rfl rfl (by decide) ?_
      refine alS (some 31) rfl rfl (by decide) ?_
      refine alP (some 32) rfl rfl (does_pick (v := .bool true) (by conv => lhs; whnf) (by exact rfl)) (by decide) ?_
      refine al_nil ?_
      refine hK6 _ ?_
      refine aw_cond_t (by decide) rfl ?_
      refine aw_seq_k (fun K8 hK8 => ?_)
      refine aw_regL ?_
      refine alP (some 33) rfl rfl (does_move (v := .bool x3) (by exact rfl)) (by decide) ?_
      refine alP (some 6) rfl rfl (does_assign (v := .bool x3) (by exact rfl)) (by decide) ?_
      refine al_nil ?_
      refine hK8 _ ?_
      refine aw_ret ?_
      have h := leafR h hk5
      obtain rfl := Option.some.inj h
      exact ret_ok1 (by conv => lhs; whnf) (by conv => lhs; whnf) (by exact rfl) (.inr rfl) rfl
    · have h := ifF c7 h
      refine alR (some 19) rfl rfl (does_load (v := .agg [.int .i64 a0.Kind, .int .i64 a0.N, .str a0.Key, .str a0.Value, .sl 5 (List.map enc23 a0.Kids)]) (by conv => lhs; whnf) (by conv => lhs; whnf) ty24 (by exact rfl)) (by decide) ?_
      obtain ⟨x9, hx9, h⟩ := bnd_some h
      refine alD (some 20) rfl rfl (do_call0 20 false (gleaninglaw13_Few_ok a0 hx9) rfl ent19 rfl rfl) (by decide) ?_
      refine alP (some 21) rfl rfl (does_un (v := .bool (!x9)) (by conv => lhs; whnf) rfl) (by decide) ?_
      refine alP (some 22) rfl rfl (does_pick (v := .bool (!x9)) (by conv => lhs; whnf) (by exact rfl)) (by decide) ?_
      refine alP (some 23) rfl rfl (does_move (v := .bool (!x9)) (by exact rfl)) (by decide) ?_
      refine al_bool (c := (!x9)) 23 rfl (fun c10 => ?_) (fun c10 => ?_)
      · have h := ifT c10 h
        refine alS (some 24) rfl rfl (by decide) ?_
        refine alS (some 25) rfl rfl (by decide) ?_
        refine alS (some 26) rfl rfl (by decide) ?_
        refine alP (some 27) rfl rfl (does_pick (v := .bool true) (by conv => lhs; whnf) (by exact rfl)) (by decide) ?_
        refine alP (some 28) rfl rfl (does_move (v := .bool true) (by exact rfl)) (by decide) ?_
        refine alS (some 29) rfl rfl (by decide) ?_
        refine alS (some 30) rfl rfl (by decide) ?_
        refine alS (some 31) rfl rfl (by decide) ?_
        refine alP (some 32) rfl rfl (does_pick (v := .bool true) (by conv => lhs; whnf) (by exact rfl)) (by decide) ?_
        refine al_nil ?_
        refine hK6 _ ?_
        refine aw_cond_t (by decide) rfl ?_
        refine aw_seq_k (fun K11 hK11 => ?_)
        refine aw_regL ?_
        refine alP (some 33) rfl rfl (does_move (v := .bool x3) (by exact rfl)) (by decide) ?_
        refine alP (some 6) rfl rfl (does_assign (v := .bool x3) (by exact rfl)) (by decide) ?_
        refine al_nil ?_
        refine hK11 _ ?_
        refine aw_ret ?_
        have h := leafR h hk5
        obtain rfl := Option.some.inj h
        exact ret_ok1 (by conv => lhs; whnf) (by conv => lhs; whnf) (by exact rfl) (.inr rfl) rfl
      · have h := ifF c10 h
        refine alR (some 24) rfl rfl (does_load (v := .agg [.int .i64 a1.Kind, .int .i64 a1.N, .str a1.Key, .str a1.Value, .sl 5 (List.map enc23 a1.Kids)]) (by conv => lhs; whnf) (by conv => lhs; whnf) ty24 (by exact rfl)) (by decide) ?_
        obtain ⟨x12, hx12, h⟩ := bnd_some h
        refine alD (some 25) rfl rfl (do_call0 25 false (gleaninglaw13_Few_ok a1 hx12) rfl ent19 rfl rfl) (by decide) ?_
        refine alP (some 26) rfl rfl (does_un (v := .bool (!x12)) (by conv => lhs; whnf) rfl) (by decide) ?_
        refine alP (some 27) rfl rfl (does_pick (v := .bool (!x12)) (by conv => lhs; whnf) (by exact rfl)) (by decide) ?_
        refine alP (some 28) rfl rfl (does_move (v := .bool (!x12)) (by exact rfl)) (by decide) ?_
        refine al_bool (c := (!x12)) 28 rfl (fun c13 => ?_) (fun c13 => ?_)
        · have h := ifT c13 h
          refine alS (some 29) rfl rfl (by decide) ?_
          refine alS (some 30) rfl rfl (by decide) ?_
          refine alS (some 31) rfl rfl (by decide) ?_
          refine alP (some 32) rfl rfl (does_pick (v := .bool true) (by conv => lhs; whnf) (by exact rfl)) (by decide) ?_
          refine al_nil ?_
          refine hK6 _ ?_
          refine aw_cond_t (by decide) rfl ?_
          refine aw_seq_k (fun K14 hK14 => ?_)
          refine aw_regL ?_
          refine alP (some 33) rfl rfl (does_move (v := .bool x3) (by exact rfl)) (by decide) ?_
          refine alP (some 6) rfl rfl (does_assign (v := .bool x3) (by exact rfl)) (by decide) ?_
          refine al_nil ?_
          refine hK14 _ ?_
          refine aw_ret ?_
          have h := leafR h hk5
          obtain rfl := Option.some.inj h
          exact ret_ok1 (by conv => lhs; whnf) (by conv => lhs; whnf) (by exact rfl) (.inr rfl) rfl
        · have h := ifF c13 h
          refine alP (some 29) rfl rfl (does_move (v := .sl 1 (List.map enc5 a2)) (by exact rfl)) (by decide) ?_
          refine alP (some 30) rfl rfl ((does_len_sl (by conv => lhs; whnf) ty43).castp (v' := .int .i64 (List.length a2 : Int)) (by exact len_map _)) (by decide) ?_
          refine alP (some 31) rfl rfl (does_bin (v := .bool (decide ((500 : Int) < (List.length a2 : Int)))) (by conv => lhs; whnf) (by conv => lhs; whnf) rfl) (by decide) ?_
          refine alP (some 32) rfl rfl (does_pick (v := .bool (decide ((500 : Int) < (List.length a2 : Int)))) (by conv => lhs; whnf) (by exact rfl)) (by decide) ?_
          refine al_nil ?_
          refine hK6 _ ?_
          refine aw_bool (b := (decide ((500 : Int) < (List.length a2 : Int)))) 32 rfl (fun c15 => ?_) (fun c15 => ?_)
          · have h := ifT c15 h
            refine aw_cond_t (by decide) rfl ?_
            refine aw_seq_k (fun K16 hK16 => ?_)
            refine aw_regL ?_
            refine alP (some 33) rfl rfl (does_move (v := .bool x3) (by exact rfl)) (by decide) ?_
            refine alP (some 6) rfl rfl (does_assign (v := .bool x3) (by exact rfl)) (by decide) ?_
            refine al_nil ?_
            refine hK16 _ ?_
            refine aw_ret ?_
            have h := leafR h hk5
            obtain rfl := Option.some.inj h
            exact ret_ok1 (by conv => lhs; whnf) (by conv => lhs; whnf) (by exact rfl) (.inr rfl) rfl
          · have h := ifF c15 h
            refine aw_cond_f (by decide) rfl ?_
            refine aw_skip ?_
            have h := leafL h hk5
            exact ⟨_, reb_lit [(2, .sl 1 (List.map enc5 a2)), (3, .ptr 3 0 0), (4, .ptr 4 0 0)] [(3, 0), (4, 0)] [((3, 0), .box [.int .i64 a0.Kind, .int .i64 a0.N, .str a0.Key, .str a0.Value, .sl 5 (List.map enc23 a0.Kids)]), ((4, 0), .box [.int .i64 a1.Kind, .int .i64 a1.N, .str a1.Key, .str a1.Value, .sl 5 (List.map enc23 a1.Kids)])] [(3, 1), (4, 1)] (envOk_cons (by conv => lhs; whnf) (by exact rfl) (envOk_cons (by conv => lhs; whnf) (by exact rfl) (envOk_cons (by conv => lhs; whnf) (by exact rfl) envOk_nil))) (objOk_cons (by conv => lhs; whnf) (by conv => lhs; whnf) (by exact rfl) (by simp) (objOk_cons (by conv => lhs; whnf) (by conv => lhs; whnf) (by exact rfl) (by simp) objOk_nil)) (nodup_b rfl) (nodup_b rfl) rfl rfl, h, rfl⟩
  · rintro s ⟨h, rfl⟩
    unfold gleaninglaw13_RuleTells_k0 at h
    refine aw_seq_k (fun K17 hK17 => ?_)
    refine aw_regL ?_
    refine alR (some 34) rfl rfl (does_load (v := .agg [.int .i64 a0.Kind, .int .i64 a0.N, .str a0.Key, .str a0.Value, .sl 5 (List.map enc23 a0.Kids)]) (by conv => lhs; whnf) (by conv => lhs; whnf) ty24 (by exact rfl)) (by decide) ?_
    obtain ⟨x18, hx18, h⟩ := bnd_some h
    refine alD (some 35) rfl rfl (do_call0 35 false (rule_Bytes_ok a0 hx18) rfl ent43 rfl rfl) (by decide) ?_
    refine alP (some 8) rfl rfl (does_assign (v := .own 35 0) (by exact rfl)) (by decide) ?_
    refine al_nil ?_
    refine hK17 _ ?_
    refine aw_seq_k (fun K19 hK19 => ?_)
    refine aw_regL ?_
    refine alP (some 37) rfl rfl (does_move (v := .sl 1 (List.map enc5 a2)) (by exact rfl)) (by decide) ?_
    obtain ⟨g20, h⟩ := gd_some h
    refine alD (some 38) rfl rfl (do_append (v := List.map enc5 a2) (by conv => lhs; whnf) (by conv => lhs; whnf) ty43 ty5 rfl rfl (by conv => lhs; whnf) (by first | exact .inl rfl | exact .inr ⟨rfl, rfl⟩) (by conv => lhs; whnf) (by first | exact .inr rfl | exact .inl rfl) (List.nil_append _) (fit_map g20)) (by decide) ?_
    obtain ⟨x21, hx21, h⟩ := bnd_some h
    refine alD (some 39) rfl rfl (does_frz (d := 38) (n := 0) (by conv => lhs; whnf) (do_callG (bcs := []) [] [] [(38, 0)] 39 false (rule_Read_ok a2 hx21) rfl ent40 trivial trivial rfl rfl rfl rfl rfl rfl rfl rfl (.inl ⟨⟨_, _, _, rfl⟩, trivial⟩))) (by decide) ?_
    refine alP (some 36) rfl rfl (does_move (v := .tup [.agg [.int .i64 x21.1.Kind, .int .i64 x21.1.N, .str x21.1.Key, .str x21.1.Value, .sl 5 (List.map enc23 x21.1.Kids)], .int .i64 x21.2]) (by exact rfl)) (by decide) ?_
    refine alP (some 40) rfl rfl (does_extract (v := .agg [.int .i64 x21.1.Kind, .int .i64 x21.1.N, .str x21.1.Key, .str x21.1.Value, .sl 5 (List.map enc23 x21.1.Kids)]) (by conv => lhs; whnf) (by exact rfl)) (by decide) ?_
    refine alP (some 41) rfl rfl (does_extract (v := .int .i64 x21.2) (by conv => lhs; whnf) (by exact rfl)) (by decide) ?_
    refine alD (some 9) rfl rfl (do_new ty24 rfl rfl) (by decide) ?_
    refine alD none rfl rfl (do_store (cs' := [.int .i64 x21.1.Kind, .int .i64 x21.1.N, .str x21.1.Key, .str x21.1.Value, .sl 5 (List.map enc23 x21.1.Kids)]) (by conv => lhs; whnf) (by conv => lhs; whnf) (by conv => lhs; whnf) ty24 rfl rfl rfl (by exact rfl)) (by decide) ?_
    refine alP (some 10) rfl rfl (does_assign (v := .int .i64 x21.2) (by exact rfl)) (by decide) ?_
    refine al_nil ?_
    refine hK19 _ ?_
    refine aw_seq_k (fun K22 hK22 => ?_)
    refine aw_regL ?_
    refine alP (some 43) rfl rfl (does_move (v := .sl 1 (List.map enc5 a2)) (by exact rfl)) (by decide) ?_
    obtain ⟨x23, hx23, h⟩ := bnd_some h
    refine alD (some 44) rfl rfl (do_call0 44 false (gleaningref1_ReadRule_ok a2 hx23) rfl ent44 rfl rfl) (by decide) ?_
    refine alP (some 42) rfl rfl (does_move (v := .tup [.agg [.int .i64 x23.1.Kind, .int .i64 x23.1.N, .str x23.1.Key, .str x23.1.Value, .sl 5 (List.map enc23 x23.1.Kids)], .int .i64 x23.2]) (by exact rfl)) (by decide) ?_
    refine alP (some 45) rfl rfl (does_extract (v := .agg [.int .i64 x23.1.Kind, .int .i64 x23.1.N, .str x23.1.Key, .str x23.1.Value, .sl 5 (List.map enc23 x23.1.Kids)]) (by conv => lhs; whnf) (by exact rfl)) (by decide) ?_
    refine alP (some 46) rfl rfl (does_extract (v := .int .i64 x23.2) (by conv => lhs; whnf) (by exact rfl)) (by decide) ?_
    refine alD (some 11) rfl rfl (do_new ty24 rfl rfl) (by decide) ?_
    refine alD none rfl rfl (do_store (cs' := [.int .i64 x23.1.Kind, .int .i64 x23.1.N, .str x23.1.Key, .str x23.1.Value, .sl 5 (List.map enc23 x23.1.Kids)]) (by conv => lhs; whnf) (by conv => lhs; whnf) (by conv => lhs; whnf) ty24 rfl rfl rfl (by exact rfl)) (by decide) ?_
    refine alP (some 12) rfl rfl (does_assign (v := .int .i64 x23.2) (by exact rfl)) (by decide) ?_
    refine al_nil ?_
    refine hK22 _ ?_
    refine aw_seq_k (fun K24 hK24 => ?_)
    refine aw_regL ?_
    refine alP (some 48) rfl rfl (does_move (v := .own 35 0) (by exact rfl)) (by decide) ?_
    obtain ⟨x25, hx25, h⟩ := bnd_some h
    refine alD (some 49) rfl rfl (does_frz (d := 35) (n := 0) (by conv => lhs; whnf) (do_callG (bcs := []) [] [] [(35, 0)] 49 false (rule_Read_ok x18 hx25) rfl ent40 trivial trivial rfl rfl rfl rfl rfl rfl rfl rfl (.inl ⟨⟨_, _, _, rfl⟩, trivial⟩))) (by decide) ?_
    refine alP (some 47) rfl rfl (does_move (v := .tup [.agg [.int .i64 x25.1.Kind, .int .i64 x25.1.N, .str x25.1.Key, .str x25.1.Value, .sl 5 (List.map enc23 x25.1.Kids)], .int .i64 x25.2]) (by exact rfl)) (by decide) ?_
    refine alP (some 50) rfl rfl (does_extract (v := .agg [.int .i64 x25.1.Kind, .int .i64 x25.1.N, .str x25.1.Key, .str x25.1.Value, .sl 5 (List.map enc23 x25.1.Kids)]) (by conv => lhs; whnf) (by exact rfl)) (by decide) ?_
    refine alP (some 51) rfl rfl (does_extract (v := .int .i64 x25.2) (by conv => lhs; whnf) (by exact rfl)) (by decide) ?_
    refine alD (some 13) rfl rfl (do_new ty24 rfl rfl) (by decide) ?_
    refine alD none rfl rfl (do_store (cs' := [.int .i64 x25.1.Kind, .int .i64 x25.1.N, .str x25.1.Key, .str x25.1.Value, .sl 5 (List.map enc23 x25.1.Kids)]) (by conv => lhs; whnf) (by conv => lhs; whnf) (by conv => lhs; whnf) ty24 rfl rfl rfl (by exact rfl)) (by decide) ?_
    refine alP (some 14) rfl rfl (does_assign (v := .int .i64 x25.2) (by exact rfl)) (by decide) ?_
    refine al_nil ?_
    refine hK24 _ ?_
    refine aw_seq_k (fun K26 hK26 => ?_)
    refine aw_regd (by kernel_rfl) (by decide +kernel) ?_
    refine aoR (some 52) rfl rfl (does_load (v := .agg [.int .i64 a0.Kind, .int .i64 a0.N, .str a0.Key, .str a0.Value, .sl 5 (List.map enc23 a0.Kids)]) (by conv => lhs; whnf) (by conv => lhs; whnf) ty24 (by exact rfl)) (by decide) ?_
    obtain ⟨x27, hx27, h⟩ := bnd_some h
    refine aoD (some 53) rfl rfl ((do_call0 53 false (rule_Right_ok a0 hx27) rfl ent42 rfl rfl).fx (y := ⟨[], .bool x27, [], [53]⟩) rfl) (by decide) ?_
    refine aoR (some 54) rfl rfl (does_load (v := .agg [.int .i64 a0.Kind, .int .i64 a0.N, .str a0.Key, .str a0.Value, .sl 5 (List.map enc23 a0.Kids)]) (by conv => lhs; whnf) (by conv => lhs; whnf) ty24 (by exact rfl)) (by decide) ?_
    obtain ⟨x28, hx28, h⟩ := bnd_some h
    refine aoD (some 55) rfl rfl ((do_call0 55 false (gleaningref1_RightRule_ok a0 hx28) rfl ent25 rfl rfl).fx (y := ⟨[], .bool x28, [], [55]⟩) rfl) (by decide) ?_
    refine aoP (some 56) rfl rfl (does_eq_bool (v := .bool (x27 == x28)) (by conv => lhs; whnf) (by conv => lhs; whnf) (ty_bool ty4) rfl) (by decide) ?_
    refine aoP (some 57) rfl rfl (does_move (v := .bool (x27 == x28)) (by exact rfl)) (by decide) ?_
    refine ao_bool (c := (x27 == x28)) 57 rfl (fun c29 => ?_) (fun c29 => ?_)
    · have h := ifT c29 h
      refine aoP (some 58) rfl rfl (does_move (v := .own 35 0) (by exact rfl)) (by decide) ?_
      refine aoR (some 59) rfl rfl (does_bytes_str (l := x18) (f := enc5) (by conv => lhs; whnf) (by conv => lhs; whnf) (Nat.le_refl 1) (ty_slice ty43) (ty_int ty5) (ty_str ty9) (fun _ => rfl)) (by decide) ?_
      refine aoR (some 60) rfl rfl (does_load (v := .agg [.int .i64 a0.Kind, .int .i64 a0.N, .str a0.Key, .str a0.Value, .sl 5 (List.map enc23 a0.Kids)]) (by conv => lhs; whnf) (by conv => lhs; whnf) ty24 (by exact rfl)) (by decide) ?_
      obtain ⟨x30, hx30, h⟩ := bnd_some h
      refine aoD (some 61) rfl rfl ((do_call0 61 false (gleaningref1_RuleBytes_ok a0 hx30) rfl ent39 rfl rfl).fx (y := ⟨[], .own 61 0, [((61, 0), some (.arr 5 1 false (List.map enc5 x30)))], [61, 61]⟩) rfl) (by decide) ?_
      refine aoR (some 62) rfl rfl (does_bytes_str (l := x30) (f := enc5) (by conv => lhs; whnf) (by conv => lhs; whnf) (Nat.le_refl 1) (ty_slice ty43) (ty_int ty5) (ty_str ty9) (fun _ => rfl)) (by decide) ?_
      refine aoP (some 63) rfl rfl (does_bin (v := .bool (ByteArray.toList (strOf x18) == ByteArray.toList (strOf x30))) (by conv => lhs; whnf) (by conv => lhs; whnf) rfl) (by decide) ?_
      refine aoP (some 64) rfl rfl (does_pick (v := .bool (ByteArray.toList (strOf x18) == ByteArray.toList (strOf x30))) (by conv => lhs; whnf) (by exact rfl)) (by decide) ?_
      refine aoP (some 65) rfl rfl (does_move (v := .bool (ByteArray.toList (strOf x18) == ByteArray.toList (strOf x30))) (by exact rfl)) (by decide) ?_
      refine ao_bool (c := (ByteArray.toList (strOf x18) == ByteArray.toList (strOf x30))) 65 rfl (fun c31 => ?_) (fun c31 => ?_)
      · have h := ifT c31 h
        refine aoR (some 66) rfl rfl (does_load (v := .agg [.int .i64 x21.1.Kind, .int .i64 x21.1.N, .str x21.1.Key, .str x21.1.Value, .sl 5 (List.map enc23 x21.1.Kids)]) (by conv => lhs; whnf) (by conv => lhs; whnf) ty24 (by exact rfl)) (by decide) ?_
        refine aoR (some 67) rfl rfl (does_load (v := .agg [.int .i64 x23.1.Kind, .int .i64 x23.1.N, .str x23.1.Key, .str x23.1.Value, .sl 5 (List.map enc23 x23.1.Kids)]) (by conv => lhs; whnf) (by conv => lhs; whnf) ty24 (by exact rfl)) (by decide) ?_
        obtain ⟨x32, hx32, h⟩ := bnd_some h
        refine aoD (some 68) rfl rfl ((do_call0 68 false (gleaningref1_SameRule_ok x21.1 x23.1 hx32) rfl ent45 rfl rfl).fx (y := ⟨[], .bool x32, [], [68]⟩) rfl) (by decide) ?_
        refine aoP (some 69) rfl rfl (does_pick (v := .bool x32) (by conv => lhs; whnf) (by exact rfl)) (by decide) ?_
        refine aoP (some 70) rfl rfl (does_move (v := .bool x32) (by exact rfl)) (by decide) ?_
        refine ao_bool (c := x32) 70 rfl (fun c33 => ?_) (fun c33 => ?_)
        · have h := ifT c33 h
          refine aoP (some 71) rfl rfl (does_move (v := .int .i64 x21.2) (by exact rfl)) (by decide) ?_
          obtain ⟨x34, hx34, h⟩ := bnd_some h
          refine aoD (some 72) rfl rfl ((do_call0 72 false (gleaninglaw13_num_ok x21.2 hx34) rfl ent41 rfl rfl).fx (y := ⟨[], .int .i64 x34, [], [72]⟩) rfl) (by decide) ?_
          refine aoP (some 73) rfl rfl (does_move (v := .int .i64 x23.2) (by exact rfl)) (by decide) ?_
          refine aoP (some 74) rfl rfl (does_bin (v := .bool (x34 == x23.2)) (by conv => lhs; whnf) (by conv => lhs; whnf) rfl) (by decide) ?_
          refine aoP (some 75) rfl rfl (does_pick (v := .bool (x34 == x23.2)) (by conv => lhs; whnf) (by exact rfl)) (by decide) ?_
          refine aoP (some 76) rfl rfl (does_move (v := .bool (x34 == x23.2)) (by exact rfl)) (by decide) ?_
          refine ao_bool (c := (x34 == x23.2)) 76 rfl (fun c35 => ?_) (fun c35 => ?_)
          · have h := ifT c35 h
            refine aoR (some 77) rfl rfl (does_load (v := .agg [.int .i64 a0.Kind, .int .i64 a0.N, .str a0.Key, .str a0.Value, .sl 5 (List.map enc23 a0.Kids)]) (by conv => lhs; whnf) (by conv => lhs; whnf) ty24 (by exact rfl)) (by decide) ?_
            refine aoR (some 78) rfl rfl (does_load (v := .agg [.int .i64 a1.Kind, .int .i64 a1.N, .str a1.Key, .str a1.Value, .sl 5 (List.map enc23 a1.Kids)]) (by conv => lhs; whnf) (by conv => lhs; whnf) ty24 (by exact rfl)) (by decide) ?_
            obtain ⟨x36, hx36, h⟩ := bnd_some h
            refine aoD (some 79) rfl rfl ((do_call0 79 false (rule_Same_ok a0 a1 hx36) rfl ent46 rfl rfl).fx (y := ⟨[], .bool x36, [], [79]⟩) rfl) (by decide) ?_
            refine aoR (some 80) rfl rfl (does_load (v := .agg [.int .i64 a0.Kind, .int .i64 a0.N, .str a0.Key, .str a0.Value, .sl 5 (List.map enc23 a0.Kids)]) (by conv => lhs; whnf) (by conv => lhs; whnf) ty24 (by exact rfl)) (by decide) ?_
            refine aoR (some 81) rfl rfl (does_load (v := .agg [.int .i64 a1.Kind, .int .i64 a1.N, .str a1.Key, .str a1.Value, .sl 5 (List.map enc23 a1.Kids)]) (by conv => lhs; whnf) (by conv => lhs; whnf) ty24 (by exact rfl)) (by decide) ?_
            obtain ⟨x37, hx37, h⟩ := bnd_some h
            refine aoD (some 82) rfl rfl ((do_call0 82 false (gleaningref1_SameRule_ok a0 a1 hx37) rfl ent45 rfl rfl).fx (y := ⟨[], .bool x37, [], [82]⟩) rfl) (by decide) ?_
            refine aoP (some 83) rfl rfl (does_eq_bool (v := .bool (x36 == x37)) (by conv => lhs; whnf) (by conv => lhs; whnf) (ty_bool ty4) rfl) (by decide) ?_
            refine aoP (some 84) rfl rfl (does_pick (v := .bool (x36 == x37)) (by conv => lhs; whnf) (by exact rfl)) (by decide) ?_
            refine aoP (some 85) rfl rfl (does_move (v := .bool (x36 == x37)) (by exact rfl)) (by decide) ?_
            refine ao_bool (c := (x36 == x37)) 85 rfl (fun c38 => ?_) (fun c38 => ?_)
            · have h := ifT c38 h
              refine aoR (some 86) rfl rfl (does_load (v := .agg [.int .i64 a0.Kind, .int .i64 a0.N, .str a0.Key, .str a0.Value, .sl 5 (List.map enc23 a0.Kids)]) (by conv => lhs; whnf) (by conv => lhs; whnf) ty24 (by exact rfl)) (by decide) ?_
              refine aoR (some 87) rfl rfl (does_load (v := .agg [.int .i64 a0.Kind, .int .i64 a0.N, .str a0.Key, .str a0.Value, .sl 5 (List.map enc23 a0.Kids)]) (by conv => lhs; whnf) (by conv => lhs; whnf) ty24 (by exact rfl)) (by decide) ?_
              obtain ⟨x39, hx39, h⟩ := bnd_some h
              refine aoD (some 88) rfl rfl ((do_call0 88 false (rule_Same_ok a0 a0 hx39) rfl ent46 rfl rfl).fx (y := ⟨[], .bool x39, [], [88]⟩) rfl) (by decide) ?_
              refine aoP (some 89) rfl rfl (does_pick (v := .bool x39) (by conv => lhs; whnf) (by exact rfl)) (by decide) ?_
              refine aoP (some 90) rfl rfl (does_move (v := .bool x39) (by exact rfl)) (by decide) ?_
              refine ao_bool (c := x39) 90 rfl (fun c40 => ?_) (fun c40 => ?_)
              · have h := ifT c40 h
                refine aoP (some 91) rfl rfl (does_move (v := .own 35 0) (by exact rfl)) (by decide) ?_
                refine aoR (some 92) rfl rfl ((does_len_own (by conv => lhs; whnf) (by conv => lhs; whnf) ty43).cast (v' := .int .i64 (List.length x18 : Int)) (by exact len_map _)) (by decide) ?_
                refine aoP (some 93) rfl rfl (does_bin (v := .bool ((List.length x18 : Int) == 0)) (by conv => lhs; whnf) (by conv => lhs; whnf) rfl) (by decide) ?_
                refine aoP (some 94) rfl rfl (does_move (v := .bool ((List.length x18 : Int) == 0)) (by exact rfl)) (by decide) ?_
                refine ao_bool (c := ((List.length x18 : Int) == 0)) 94 rfl (fun c41 => ?_) (fun c41 => ?_)
                · have h := ifT c41 h
                  refine aoS (some 95) rfl rfl (by decide) ?_
                  refine aoS (some 96) rfl rfl (by decide) ?_
                  refine aoS (some 97) rfl rfl (by decide) ?_
                  refine aoS (some 98) rfl rfl (by decide) ?_
                  refine aoS (some 99) rfl rfl (by decide) ?_
                  refine aoS (some 100) rfl rfl (by decide) ?_
                  refine aoS (some 101) rfl rfl (by decide) ?_
                  refine aoS (some 102) rfl rfl (by decide) ?_
                  refine aoP (some 103) rfl rfl (does_pick (v := .bool true) (by conv => lhs; whnf) (by exact rfl)) (by decide) ?_
                  refine aoP (some 104) rfl rfl (does_pick (v := .bool true) (by conv => lhs; whnf) (by exact rfl)) (by decide) ?_
                  refine aoP (some 6) rfl rfl (does_assign (v := .bool true) (by exact rfl)) (by decide) ?_
                  refine ao_nil_d (by kernel_rfl) ?_
                  refine hK26 _ ?_
                  refine aw_ret ?_
                  obtain rfl := Option.some.inj h
                  exact ret_ok1 (by conv => lhs; whnf) (by conv => lhs; whnf) (by exact rfl) (.inr rfl) rfl
                · have h := ifF c41 h
                  refine aoP (some 95) rfl rfl (does_move (v := .int .i64 x25.2) (by exact rfl)) (by decide) ?_
                  obtain ⟨x42, hx42, h⟩ := bnd_some h
                  refine aoD (some 96) rfl rfl ((do_call0 96 false (gleaninglaw13_num_ok x25.2 hx42) rfl ent41 rfl rfl).fx (y := ⟨[], .int .i64 x42, [], [96]⟩) rfl) (by decide) ?_
                  refine aoP (some 97) rfl rfl (does_bin (v := .bool (x42 == 0)) (by conv => lhs; whnf) (by conv => lhs; whnf) rfl) (by decide) ?_
                  refine aoP (some 98) rfl rfl (does_move (v := .bool (x42 == 0)) (by exact rfl)) (by decide) ?_
                  refine ao_bool (c := (x42 == 0)) 98 rfl (fun c43 => ?_) (fun c43 => ?_)
                  · have h := ifT c43 h
                    refine aoR (some 99) rfl rfl (does_load (v := .agg [.int .i64 x25.1.Kind, .int .i64 x25.1.N, .str x25.1.Key, .str x25.1.Value, .sl 5 (List.map enc23 x25.1.Kids)]) (by conv => lhs; whnf) (by conv => lhs; whnf) ty24 (by exact rfl)) (by decide) ?_
                    refine aoR (some 100) rfl rfl (does_load (v := .agg [.int .i64 a0.Kind, .int .i64 a0.N, .str a0.Key, .str a0.Value, .sl 5 (List.map enc23 a0.Kids)]) (by conv => lhs; whnf) (by conv => lhs; whnf) ty24 (by exact rfl)) (by decide) ?_
                    obtain ⟨x44, hx44, h⟩ := bnd_some h
                    refine aoD (some 101) rfl rfl ((do_call0 101 false (gleaningref1_SameRule_ok x25.1 a0 hx44) rfl ent45 rfl rfl).fx (y := ⟨[], .bool x44, [], [101]⟩) rfl) (by decide) ?_
                    refine aoP (some 102) rfl rfl (does_pick (v := .bool x44) (by conv => lhs; whnf) (by exact rfl)) (by decide) ?_
                    refine aoP (some 103) rfl rfl (does_pick (v := .bool x44) (by conv => lhs; whnf) (by exact rfl)) (by decide) ?_
                    refine aoP (some 104) rfl rfl (does_pick (v := .bool x44) (by conv => lhs; whnf) (by exact rfl)) (by decide) ?_
                    refine aoP (some 6) rfl rfl (does_assign (v := .bool x44) (by exact rfl)) (by decide) ?_
                    refine ao_nil_d (by kernel_rfl) ?_
                    refine hK26 _ ?_
                    refine aw_ret ?_
                    obtain rfl := Option.some.inj h
                    exact ret_ok1 (by conv => lhs; whnf) (by conv => lhs; whnf) (by exact rfl) (.inr rfl) rfl
                  · have h := ifF c43 h
                    refine aoS (some 99) rfl rfl (by decide) ?_
                    refine aoS (some 100) rfl rfl (by decide) ?_
                    refine aoS (some 101) rfl rfl (by decide) ?_
                    refine aoP (some 102) rfl rfl (does_pick (v := .bool false) (by conv => lhs; whnf) (by exact rfl)) (by decide) ?_
                    refine aoP (some 103) rfl rfl (does_pick (v := .bool false) (by conv => lhs; whnf) (by exact rfl)) (by decide) ?_
                    refine aoP (some 104) rfl rfl (does_pick (v := .bool false) (by conv => lhs; whnf) (by exact rfl)) (by decide) ?_
                    refine aoP (some 6) rfl rfl (does_assign (v := .bool false) (by exact rfl)) (by decide) ?_
                    refine ao_nil_d (by kernel_rfl) ?_
                    refine hK26 _ ?_
                    refine aw_ret ?_
                    obtain rfl := Option.some.inj h
                    exact ret_ok1 (by conv => lhs; whnf) (by conv => lhs; whnf) (by exact rfl) (.inr rfl) rfl
              · have h := ifF c40 h
                refine aoS (some 91) rfl rfl (by decide) ?_
                refine aoS (some 92) rfl rfl (by decide) ?_
                refine aoS (some 93) rfl rfl (by decide) ?_
                refine aoS (some 94) rfl rfl (by decide) ?_
                refine aoS (some 95) rfl rfl (by decide) ?_
                refine aoS (some 96) rfl rfl (by decide) ?_
                refine aoS (some 97) rfl rfl (by decide) ?_
                refine aoS (some 98) rfl rfl (by decide) ?_
                refine aoS (some 99) rfl rfl (by decide) ?_
                refine aoS (some 100) rfl rfl (by decide) ?_
                refine aoS (some 101) rfl rfl (by decide) ?_
                refine aoS (some 102) rfl rfl (by decide) ?_
                refine aoS (some 103) rfl rfl (by decide) ?_
                refine aoP (some 104) rfl rfl (does_pick (v := .bool false) (by conv => lhs; whnf) (by exact rfl)) (by decide) ?_
                refine aoP (some 6) rfl rfl (does_assign (v := .bool false) (by exact rfl)) (by decide) ?_
                refine ao_nil_d (by kernel_rfl) ?_
                refine hK26 _ ?_
                refine aw_ret ?_
                obtain rfl := Option.some.inj h
                exact ret_ok1 (by conv => lhs; whnf) (by conv => lhs; whnf) (by exact rfl) (.inr rfl) rfl
            · have h := ifF c38 h
              refine aoS (some 86) rfl rfl (by decide) ?_
              refine aoS (some 87) rfl rfl (by decide) ?_
              refine aoS (some 88) rfl rfl (by decide) ?_
              refine aoP (some 89) rfl rfl (does_pick (v := .bool false) (by conv => lhs; whnf) (by exact rfl)) (by decide) ?_
              refine aoP (some 90) rfl rfl (does_move (v := .bool false) (by exact rfl)) (by decide) ?_
              refine aoS (some 91) rfl rfl (by decide) ?_
              refine aoS (some 92) rfl rfl (by decide) ?_
              refine aoS (some 93) rfl rfl (by decide) ?_
              refine aoS (some 94) rfl rfl (by decide) ?_
              refine aoS (some 95) rfl rfl (by decide) ?_
              refine aoS (some 96) rfl rfl (by decide) ?_
              refine aoS (some 97) rfl rfl (by decide) ?_
              refine aoS (some 98) rfl rfl (by decide) ?_
              refine aoS (some 99) rfl rfl (by decide) ?_
              refine aoS (some 100) rfl rfl (by decide) ?_
              refine aoS (some 101) rfl rfl (by decide) ?_
              refine aoS (some 102) rfl rfl (by decide) ?_
              refine aoS (some 103) rfl rfl (by decide) ?_
              refine aoP (some 104) rfl rfl (does_pick (v := .bool false) (by conv => lhs; whnf) (by exact rfl)) (by decide) ?_
              refine aoP (some 6) rfl rfl (does_assign (v := .bool false) (by exact rfl)) (by decide) ?_
              refine ao_nil_d (by kernel_rfl) ?_
              refine hK26 _ ?_
              refine aw_ret ?_
              obtain rfl := Option.some.inj h
              exact ret_ok1 (by conv => lhs; whnf) (by conv => lhs; whnf) (by exact rfl) (.inr rfl) rfl
          · have h := ifF c35 h
            refine aoS (some 77) rfl rfl (by decide) ?_
            refine aoS (some 78) rfl rfl (by decide) ?_
            refine aoS (some 79) rfl rfl (by decide) ?_
            refine aoS (some 80) rfl rfl (by decide) ?_
            refine aoS (some 81) rfl rfl (by decide) ?_
            refine aoS (some 82) rfl rfl (by decide) ?_
            refine aoS (some 83) rfl rfl (by decide) ?_
            refine aoP (some 84) rfl rfl (does_pick (v := .bool false) (by conv => lhs; whnf) (by exact rfl)) (by decide) ?_
            refine aoP (some 85) rfl rfl (does_move (v := .bool false) (by exact rfl)) (by decide) ?_
            refine aoS (some 86) rfl rfl (by decide) ?_
            refine aoS (some 87) rfl rfl (by decide) ?_
            refine aoS (some 88) rfl rfl (by decide) ?_
            refine aoP (some 89) rfl rfl (does_pick (v := .bool false) (by conv => lhs; whnf) (by exact rfl)) (by decide) ?_
            refine aoP (some 90) rfl rfl (does_move (v := .bool false) (by exact rfl)) (by decide) ?_
            refine aoS (some 91) rfl rfl (by decide) ?_
            refine aoS (some 92) rfl rfl (by decide) ?_
            refine aoS (some 93) rfl rfl (by decide) ?_
            refine aoS (some 94) rfl rfl (by decide) ?_
            refine aoS (some 95) rfl rfl (by decide) ?_
            refine aoS (some 96) rfl rfl (by decide) ?_
            refine aoS (some 97) rfl rfl (by decide) ?_
            refine aoS (some 98) rfl rfl (by decide) ?_
            refine aoS (some 99) rfl rfl (by decide) ?_
            refine aoS (some 100) rfl rfl (by decide) ?_
            refine aoS (some 101) rfl rfl (by decide) ?_
            refine aoS (some 102) rfl rfl (by decide) ?_
            refine aoS (some 103) rfl rfl (by decide) ?_
            refine aoP (some 104) rfl rfl (does_pick (v := .bool false) (by conv => lhs; whnf) (by exact rfl)) (by decide) ?_
            refine aoP (some 6) rfl rfl (does_assign (v := .bool false) (by exact rfl)) (by decide) ?_
            refine ao_nil_d (by kernel_rfl) ?_
            refine hK26 _ ?_
            refine aw_ret ?_
            obtain rfl := Option.some.inj h
            exact ret_ok1 (by conv => lhs; whnf) (by conv => lhs; whnf) (by exact rfl) (.inr rfl) rfl
        · have h := ifF c33 h
          refine aoS (some 71) rfl rfl (by decide) ?_
          refine aoS (some 72) rfl rfl (by decide) ?_
          refine aoS (some 73) rfl rfl (by decide) ?_
          refine aoS (some 74) rfl rfl (by decide) ?_
          refine aoP (some 75) rfl rfl (does_pick (v := .bool false) (by conv => lhs; whnf) (by exact rfl)) (by decide) ?_
          refine aoP (some 76) rfl rfl (does_move (v := .bool false) (by exact rfl)) (by decide) ?_
          refine aoS (some 77) rfl rfl (by decide) ?_
          refine aoS (some 78) rfl rfl (by decide) ?_
          refine aoS (some 79) rfl rfl (by decide) ?_
          refine aoS (some 80) rfl rfl (by decide) ?_
          refine aoS (some 81) rfl rfl (by decide) ?_
          refine aoS (some 82) rfl rfl (by decide) ?_
          refine aoS (some 83) rfl rfl (by decide) ?_
          refine aoP (some 84) rfl rfl (does_pick (v := .bool false) (by conv => lhs; whnf) (by exact rfl)) (by decide) ?_
          refine aoP (some 85) rfl rfl (does_move (v := .bool false) (by exact rfl)) (by decide) ?_
          refine aoS (some 86) rfl rfl (by decide) ?_
          refine aoS (some 87) rfl rfl (by decide) ?_
          refine aoS (some 88) rfl rfl (by decide) ?_
          refine aoP (some 89) rfl rfl (does_pick (v := .bool false) (by conv => lhs; whnf) (by exact rfl)) (by decide) ?_
          refine aoP (some 90) rfl rfl (does_move (v := .bool false) (by exact rfl)) (by decide) ?_
          refine aoS (some 91) rfl rfl (by decide) ?_
          refine aoS (some 92) rfl rfl (by decide) ?_
          refine aoS (some 93) rfl rfl (by decide) ?_
          refine aoS (some 94) rfl rfl (by decide) ?_
          refine aoS (some 95) rfl rfl (by decide) ?_
          refine aoS (some 96) rfl rfl (by decide) ?_
          refine aoS (some 97) rfl rfl (by decide) ?_
          refine aoS (some 98) rfl rfl (by decide) ?_
          refine aoS (some 99) rfl rfl (by decide) ?_
          refine aoS (some 100) rfl rfl (by decide) ?_
          refine aoS (some 101) rfl rfl (by decide) ?_
          refine aoS (some 102) rfl rfl (by decide) ?_
          refine aoS (some 103) rfl rfl (by decide) ?_
          refine aoP (some 104) rfl rfl (does_pick (v := .bool false) (by conv => lhs; whnf) (by exact rfl)) (by decide) ?_
          refine aoP (some 6) rfl rfl (does_assign (v := .bool false) (by exact rfl)) (by decide) ?_
          refine ao_nil_d (by kernel_rfl) ?_
          refine hK26 _ ?_
          refine aw_ret ?_
          obtain rfl := Option.some.inj h
          exact ret_ok1 (by conv => lhs; whnf) (by conv => lhs; whnf) (by exact rfl) (.inr rfl) rfl
      · have h := ifF c31 h
        refine aoS (some 66) rfl rfl (by decide) ?_
        refine aoS (some 67) rfl rfl (by decide) ?_
        refine aoS (some 68) rfl rfl (by decide) ?_
        refine aoP (some 69) rfl rfl (does_pick (v := .bool false) (by conv => lhs; whnf) (by exact rfl)) (by decide) ?_
        refine aoP (some 70) rfl rfl (does_move (v := .bool false) (by exact rfl)) (by decide) ?_
        refine aoS (some 71) rfl rfl (by decide) ?_
        refine aoS (some 72) rfl rfl (by decide) ?_
        refine aoS (some 73) rfl rfl (by decide) ?_
        refine aoS (some 74) rfl rfl (by decide) ?_
        refine aoP (some 75) rfl rfl (does_pick (v := .bool false) (by conv => lhs; whnf) (by exact rfl)) (by decide) ?_
        refine aoP (some 76) rfl rfl (does_move (v := .bool false) (by exact rfl)) (by decide) ?_
        refine aoS (some 77) rfl rfl (by decide) ?_
        refine aoS (some 78) rfl rfl (by decide) ?_
        refine aoS (some 79) rfl rfl (by decide) ?_
        refine aoS (some 80) rfl rfl (by decide) ?_
        refine aoS (some 81) rfl rfl (by decide) ?_
        refine aoS (some 82) rfl rfl (by decide) ?_
        refine aoS (some 83) rfl rfl (by decide) ?_
        refine aoP (some 84) rfl rfl (does_pick (v := .bool false) (by conv => lhs; whnf) (by exact rfl)) (by decide) ?_
        refine aoP (some 85) rfl rfl (does_move (v := .bool false) (by exact rfl)) (by decide) ?_
        refine aoS (some 86) rfl rfl (by decide) ?_
        refine aoS (some 87) rfl rfl (by decide) ?_
        refine aoS (some 88) rfl rfl (by decide) ?_
        refine aoP (some 89) rfl rfl (does_pick (v := .bool false) (by conv => lhs; whnf) (by exact rfl)) (by decide) ?_
        refine aoP (some 90) rfl rfl (does_move (v := .bool false) (by exact rfl)) (by decide) ?_
        refine aoS (some 91) rfl rfl (by decide) ?_
        refine aoS (some 92) rfl rfl (by decide) ?_
        refine aoS (some 93) rfl rfl (by decide) ?_
        refine aoS (some 94) rfl rfl (by decide) ?_
        refine aoS (some 95) rfl rfl (by decide) ?_
        refine aoS (some 96) rfl rfl (by decide) ?_
        refine aoS (some 97) rfl rfl (by decide) ?_
        refine aoS (some 98) rfl rfl (by decide) ?_
        refine aoS (some 99) rfl rfl (by decide) ?_
        refine aoS (some 100) rfl rfl (by decide) ?_
        refine aoS (some 101) rfl rfl (by decide) ?_
        refine aoS (some 102) rfl rfl (by decide) ?_
        refine aoS (some 103) rfl rfl (by decide) ?_
        refine aoP (some 104) rfl rfl (does_pick (v := .bool false) (by conv => lhs; whnf) (by exact rfl)) (by decide) ?_
        refine aoP (some 6) rfl rfl (does_assign (v := .bool false) (by exact rfl)) (by decide) ?_
        refine ao_nil_d (by kernel_rfl) ?_
        refine hK26 _ ?_
        refine aw_ret ?_
        obtain rfl := Option.some.inj h
        exact ret_ok1 (by conv => lhs; whnf) (by conv => lhs; whnf) (by exact rfl) (.inr rfl) rfl
    · have h := ifF c29 h
      refine aoS (some 58) rfl rfl (by decide) ?_
      refine aoS (some 59) rfl rfl (by decide) ?_
      refine aoS (some 60) rfl rfl (by decide) ?_
      refine aoS (some 61) rfl rfl (by decide) ?_
      refine aoS (some 62) rfl rfl (by decide) ?_
      refine aoS (some 63) rfl rfl (by decide) ?_
      refine aoP (some 64) rfl rfl (does_pick (v := .bool false) (by conv => lhs; whnf) (by exact rfl)) (by decide) ?_
      refine aoP (some 65) rfl rfl (does_move (v := .bool false) (by exact rfl)) (by decide) ?_
      refine aoS (some 66) rfl rfl (by decide) ?_
      refine aoS (some 67) rfl rfl (by decide) ?_
      refine aoS (some 68) rfl rfl (by decide) ?_
      refine aoP (some 69) rfl rfl (does_pick (v := .bool false) (by conv => lhs; whnf) (by exact rfl)) (by decide) ?_
      refine aoP (some 70) rfl rfl (does_move (v := .bool false) (by exact rfl)) (by decide) ?_
      refine aoS (some 71) rfl rfl (by decide) ?_
      refine aoS (some 72) rfl rfl (by decide) ?_
      refine aoS (some 73) rfl rfl (by decide) ?_
      refine aoS (some 74) rfl rfl (by decide) ?_
      refine aoP (some 75) rfl rfl (does_pick (v := .bool false) (by conv => lhs; whnf) (by exact rfl)) (by decide) ?_
      refine aoP (some 76) rfl rfl (does_move (v := .bool false) (by exact rfl)) (by decide) ?_
      refine aoS (some 77) rfl rfl (by decide) ?_
      refine aoS (some 78) rfl rfl (by decide) ?_
      refine aoS (some 79) rfl rfl (by decide) ?_
      refine aoS (some 80) rfl rfl (by decide) ?_
      refine aoS (some 81) rfl rfl (by decide) ?_
      refine aoS (some 82) rfl rfl (by decide) ?_
      refine aoS (some 83) rfl rfl (by decide) ?_
      refine aoP (some 84) rfl rfl (does_pick (v := .bool false) (by conv => lhs; whnf) (by exact rfl)) (by decide) ?_
      refine aoP (some 85) rfl rfl (does_move (v := .bool false) (by exact rfl)) (by decide) ?_
      refine aoS (some 86) rfl rfl (by decide) ?_
      refine aoS (some 87) rfl rfl (by decide) ?_
      refine aoS (some 88) rfl rfl (by decide) ?_
      refine aoP (some 89) rfl rfl (does_pick (v := .bool false) (by conv => lhs; whnf) (by exact rfl)) (by decide) ?_
      refine aoP (some 90) rfl rfl (does_move (v := .bool false) (by exact rfl)) (by decide) ?_
      refine aoS (some 91) rfl rfl (by decide) ?_
      refine aoS (some 92) rfl rfl (by decide) ?_
      refine aoS (some 93) rfl rfl (by decide) ?_
      refine aoS (some 94) rfl rfl (by decide) ?_
      refine aoS (some 95) rfl rfl (by decide) ?_
      refine aoS (some 96) rfl rfl (by decide) ?_
      refine aoS (some 97) rfl rfl (by decide) ?_
      refine aoS (some 98) rfl rfl (by decide) ?_
      refine aoS (some 99) rfl rfl (by decide) ?_
      refine aoS (some 100) rfl rfl (by decide) ?_
      refine aoS (some 101) rfl rfl (by decide) ?_
      refine aoS (some 102) rfl rfl (by decide) ?_
      refine aoS (some 103) rfl rfl (by decide) ?_
      refine aoP (some 104) rfl rfl (does_pick (v := .bool false) (by conv => lhs; whnf) (by exact rfl)) (by decide) ?_
      refine aoP (some 6) rfl rfl (does_assign (v := .bool false) (by exact rfl)) (by decide) ?_
      refine ao_nil_d (by kernel_rfl) ?_
      refine hK26 _ ?_
      refine aw_ret ?_
      obtain rfl := Option.some.inj h
      exact ret_ok1 (by conv => lhs; whnf) (by conv => lhs; whnf) (by exact rfl) (.inr rfl) rfl
theorem sh43 : ∀ (m : Nat) (cs : List PV), Shape Try.prog m 43 cs → ∃ a : List UInt8, cs = [.sl 1 (List.map enc5 a)] ∧ ((List.length a) ≤ maxLen) := fun m cs h => shape_bytes h Try.underlying43 Try.underlying5 (by kernel_rfl)
end Go.Proofs.Ytbfmmaabaenhgaa.Ab
