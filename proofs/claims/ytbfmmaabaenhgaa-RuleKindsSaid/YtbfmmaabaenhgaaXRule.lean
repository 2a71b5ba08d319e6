/- Chapter 13: no beginning of a policy is one. -/
import Derived.Test.YtbfmmaabaenhgaaXR2
import Derived.Test.YtbfmmaabaenhgaaProg
namespace Go.Proofs.Ytbfmmaabaenhgaa.Ab
open Go Go.RowKit
set_option linter.unusedVariables false
set_option linter.unusedSimpArgs false
theorem ent19 : Ent Try.prog 19 := ⟨_, Try.func19, by kernel_rfl, rfl⟩
theorem ent38 : Ent Try.prog 38 := ⟨_, Try.func38, by kernel_rfl, rfl⟩
theorem ent39 : Ent Try.prog 39 := ⟨_, Try.func39, by kernel_rfl, rfl⟩
theorem ent40 : Ent Try.prog 40 := ⟨_, Try.func40, by kernel_rfl, rfl⟩
theorem ent41 : Ent Try.prog 41 := ⟨_, Try.func41, by kernel_rfl, rfl⟩
theorem ent43 : Ent Try.prog 43 := ⟨_, Try.func43, by kernel_rfl, rfl⟩
def gleaninglaw13_num (a0 : Int) : Option Int :=
  some a0
set_option maxRecDepth 100000 in
set_option maxHeartbeats 8000000 in
/-- gleaning/gleaninglaw13.num -/
theorem gleaninglaw13_num_ok (a0 : Int) {r : Int} (h : gleaninglaw13_num a0 = some r) : Ok Try.prog 41 [.int .i64 a0] [] [] (.int .i64 r) [] [] := by
  unfold gleaninglaw13_num at h
  refine ok_of_code Try.func41 rfl (by show (1 : Nat) ≤ _; decide) (Nat.le_refl _) fun X => ?_
  refine aw_seq_k (fun K1 hK1 => ?_)
  refine aw_regL ?_
  refine alP (some 2) rfl rfl (does_assign (v := .int .i64 0) (by exact rfl)) (by decide) ?_
  refine al_nil ?_
  refine hK1 _ ?_
  refine aw_seq_k (fun K2 hK2 => ?_)
  refine aw_regL ?_
  refine alP (some 3) rfl rfl (does_move (v := .int .i64 a0) (by exact rfl)) (by decide) ?_
  refine alP (some 2) rfl rfl (does_assign (v := .int .i64 a0) (by exact rfl)) (by decide) ?_
  refine al_nil ?_
  refine hK2 _ ?_
  refine aw_ret ?_
  obtain rfl := Option.some.inj h
  exact ret_ok1 (by conv => lhs; whnf) (by conv => lhs; whnf) (by exact rfl) (.inr rfl) rfl
def gleaninglaw13_alive : Option Bool :=
  Option.bind (rule_Read []) (fun (x3 : Rule × Int) => Option.bind (rule_Bytes (Rule.mk 4 9 (strOf []) (strOf []) [])) (fun (x5 : List UInt8) => Option.bind (rule_Read x5) (fun (x6 : Rule × Int) => Option.bind (gleaninglaw13_num x3.2) (fun (x8 : Int) => if (x8 == 2) = true then (Option.bind (gleaninglaw13_num x6.2) (fun (x10 : Int) => if (x10 == 0) = true then (if (x6.1.N == 9) = true then (Option.bind (rule_Right x6.1) (fun (x13 : Bool) => some x13)) else (some false)) else (some false))) else (some false)))))
set_option maxRecDepth 100000 in
set_option maxHeartbeats 8000000 in
/-- gleaning/gleaninglaw13.alive -/
theorem gleaninglaw13_alive_ok {r : Bool} (h : gleaninglaw13_alive = some r) : Ok Try.prog 38 [] [] [] (.bool r) [] [] := by
  unfold gleaninglaw13_alive at h
  refine ok_of_code Try.func38 rfl (by show (0 : Nat) ≤ _; decide) (Nat.le_refl _) fun X => ?_
  refine aw_seq_k (fun K1 hK1 => ?_)
  refine aw_regL ?_
  refine alP (some 0) rfl rfl (does_assign (v := .bool false) (by exact rfl)) (by decide) ?_
  refine al_nil ?_
  refine hK1 _ ?_
  refine aw_seq_k (fun K2 hK2 => ?_)
  refine aw_regL ?_
  obtain ⟨x3, hx3, h⟩ := bnd_some h
  refine alD (some 6) rfl rfl (do_call0 6 false ((rule_Read_ok [] hx3).weak (args' := [.nil]) ⟨le_nil _, trivial⟩) rfl ent40 rfl rfl) (by decide) ?_
  refine alP (some 5) rfl rfl (does_move (v := .tup [.agg [.int .i64 x3.1.Kind, .int .i64 x3.1.N, .str x3.1.Key, .str x3.1.Value, .sl 5 (List.map enc23 x3.1.Kids)], .int .i64 x3.2]) (by exact rfl)) (by decide) ?_
  refine alP (some 7) rfl rfl (does_extract (v := .agg [.int .i64 x3.1.Kind, .int .i64 x3.1.N, .str x3.1.Key, .str x3.1.Value, .sl 5 (List.map enc23 x3.1.Kids)]) (by conv => lhs; whnf) (by exact rfl)) (by decide) ?_
  refine alP (some 8) rfl rfl (does_extract (v := .int .i64 x3.2) (by conv => lhs; whnf) (by exact rfl)) (by decide) ?_
  refine alD (some 1) rfl rfl (do_new ty24 rfl rfl) (by decide) ?_
  refine alD none rfl rfl (do_store (cs' := [.int .i64 x3.1.Kind, .int .i64 x3.1.N, .str x3.1.Key, .str x3.1.Value, .sl 5 (List.map enc23 x3.1.Kids)]) (by conv => lhs; whnf) (by conv => lhs; whnf) (by conv => lhs; whnf) ty24 rfl rfl rfl (by exact rfl)) (by decide) ?_
  refine alP (some 2) rfl rfl (does_assign (v := .int .i64 x3.2) (by exact rfl)) (by decide) ?_
  refine al_nil ?_
  refine hK2 _ ?_
  refine aw_seq_k (fun K4 hK4 => ?_)
  refine aw_regL ?_
  refine alP (some 10) rfl rfl ((do_build_struct (cs := [.int .i64 4, .int .i64 9, .str (strOf []), .str (strOf []), .nil]) ty24 rfl [⟨.int .i64, 1, 8, [.int .i64 0]⟩, ⟨.int .i64, 1, 8, [.int .i64 0]⟩, ⟨.str, 1, 16, [.str ByteArray.empty]⟩, ⟨.str, 1, 16, [.str ByteArray.empty]⟩, ⟨.slice 24, 1, 24, [.nil]⟩] (by simp only [List.map, ty22, ty3, ty9]) (by rfl) (by exact rfl)).weak (v' := .agg [.int .i64 4, .int .i64 9, .str (strOf []), .str (strOf []), .sl 5 (List.map enc23 [])]) (le_agg ⟨le_refl _, le_refl _, le_refl _, le_refl _, le_nil _, trivial⟩)) (by decide) ?_
  obtain ⟨x5, hx5, h⟩ := bnd_some h
  refine alD (some 11) rfl rfl (do_call0 11 false (rule_Bytes_ok (Rule.mk 4 9 (strOf []) (strOf []) []) hx5) rfl ent43 rfl rfl) (by decide) ?_
  obtain ⟨x6, hx6, h⟩ := bnd_some h
  refine alD (some 12) rfl rfl (does_frz (d := 11) (n := 0) (by conv => lhs; whnf) (do_callG (bcs := []) [] [] [(11, 0)] 12 false (rule_Read_ok x5 hx6) rfl ent40 trivial trivial rfl rfl rfl rfl rfl rfl rfl rfl (.inl ⟨⟨_, _, _, rfl⟩, trivial⟩))) (by decide) ?_
  refine alP (some 9) rfl rfl (does_move (v := .tup [.agg [.int .i64 x6.1.Kind, .int .i64 x6.1.N, .str x6.1.Key, .str x6.1.Value, .sl 5 (List.map enc23 x6.1.Kids)], .int .i64 x6.2]) (by exact rfl)) (by decide) ?_
  refine alP (some 13) rfl rfl (does_extract (v := .agg [.int .i64 x6.1.Kind, .int .i64 x6.1.N, .str x6.1.Key, .str x6.1.Value, .sl 5 (List.map enc23 x6.1.Kids)]) (by conv => lhs; whnf) (by exact rfl)) (by decide) ?_
  refine alP (some 14) rfl rfl (does_extract (v := .int .i64 x6.2) (by conv => lhs; whnf) (by exact rfl)) (by decide) ?_
  refine alD (some 3) rfl rfl (do_new ty24 rfl rfl) (by decide) ?_
  refine alD none rfl rfl (do_store (cs' := [.int .i64 x6.1.Kind, .int .i64 x6.1.N, .str x6.1.Key, .str x6.1.Value, .sl 5 (List.map enc23 x6.1.Kids)]) (by conv => lhs; whnf) (by conv => lhs; whnf) (by conv => lhs; whnf) ty24 rfl rfl rfl (by exact rfl)) (by decide) ?_
  refine alP (some 4) rfl rfl (does_assign (v := .int .i64 x6.2) (by exact rfl)) (by decide) ?_
  refine al_nil ?_
  refine hK4 _ ?_
  refine aw_seq_k (fun K7 hK7 => ?_)
  refine aw_regL ?_
  refine alP (some 15) rfl rfl (does_move (v := .int .i64 x3.2) (by exact rfl)) (by decide) ?_
  obtain ⟨x8, hx8, h⟩ := bnd_some h
  refine alD (some 16) rfl rfl (do_call0 16 false (gleaninglaw13_num_ok x3.2 hx8) rfl ent41 rfl rfl) (by decide) ?_
  refine alP (some 17) rfl rfl (does_bin (v := .bool (x8 == 2)) (by conv => lhs; whnf) (by conv => lhs; whnf) rfl) (by decide) ?_
  refine alP (some 18) rfl rfl (does_move (v := .bool (x8 == 2)) (by exact rfl)) (by decide) ?_
  refine al_bool (c := (x8 == 2)) 18 rfl (fun c9 => ?_) (fun c9 => ?_)
  · have h := ifT c9 h
    refine alP (some 19) rfl rfl (does_move (v := .int .i64 x6.2) (by exact rfl)) (by decide) ?_
    obtain ⟨x10, hx10, h⟩ := bnd_some h
    refine alD (some 20) rfl rfl (do_call0 20 false (gleaninglaw13_num_ok x6.2 hx10) rfl ent41 rfl rfl) (by decide) ?_
    refine alP (some 21) rfl rfl (does_bin (v := .bool (x10 == 0)) (by conv => lhs; whnf) (by conv => lhs; whnf) rfl) (by decide) ?_
    refine alP (some 22) rfl rfl (does_pick (v := .bool (x10 == 0)) (by conv => lhs; whnf) (by exact rfl)) (by decide) ?_
    refine alP (some 23) rfl rfl (does_move (v := .bool (x10 == 0)) (by exact rfl)) (by decide) ?_
    refine al_bool (c := (x10 == 0)) 23 rfl (fun c11 => ?_) (fun c11 => ?_)
    · have h := ifT c11 h
      refine alP (some 24) rfl rfl (does_fieldAddr (q := .ptr 3 0 1) (by conv => lhs; whnf) ty24 rfl ty3 (by decide) (by exact rfl)) (by decide) ?_
      refine alR (some 25) rfl rfl (does_load (v := .int .i64 x6.1.N) (by conv => lhs; whnf) (by conv => lhs; whnf) ty3 (by exact rfl)) (by decide) ?_
      refine alP (some 26) rfl rfl (does_bin (v := .bool (x6.1.N == 9)) (by conv => lhs; whnf) (by conv => lhs; whnf) rfl) (by decide) ?_
      refine alP (some 27) rfl rfl (does_pick (v := .bool (x6.1.N == 9)) (by conv => lhs; whnf) (by exact rfl)) (by decide) ?_
      refine alP (some 28) rfl rfl (does_move (v := .bool (x6.1.N == 9)) (by exact rfl)) (by decide) ?_
      refine al_bool (c := (x6.1.N == 9)) 28 rfl (fun c12 => ?_) (fun c12 => ?_)
      · have h := ifT c12 h
        refine alR (some 29) rfl rfl (does_load (v := .agg [.int .i64 x6.1.Kind, .int .i64 x6.1.N, .str x6.1.Key, .str x6.1.Value, .sl 5 (List.map enc23 x6.1.Kids)]) (by conv => lhs; whnf) (by conv => lhs; whnf) ty24 (by exact rfl)) (by decide) ?_
        obtain ⟨x13, hx13, h⟩ := bnd_some h
        refine alD (some 30) rfl rfl (do_call0 30 false (rule_Right_ok x6.1 hx13) rfl ent42 rfl rfl) (by decide) ?_
        refine alP (some 31) rfl rfl (does_pick (v := .bool x13) (by conv => lhs; whnf) (by exact rfl)) (by decide) ?_
        refine alP (some 0) rfl rfl (does_assign (v := .bool x13) (by exact rfl)) (by decide) ?_
        refine al_nil ?_
        refine hK7 _ ?_
        refine aw_ret ?_
        obtain rfl := Option.some.inj h
        exact ret_ok1 (by conv => lhs; whnf) (by conv => lhs; whnf) (by exact rfl) (.inr rfl) rfl
      · have h := ifF c12 h
        refine alS (some 29) rfl rfl (by decide) ?_
        refine alS (some 30) rfl rfl (by decide) ?_
        refine alP (some 31) rfl rfl (does_pick (v := .bool false) (by conv => lhs; whnf) (by exact rfl)) (by decide) ?_
        refine alP (some 0) rfl rfl (does_assign (v := .bool false) (by exact rfl)) (by decide) ?_
        refine al_nil ?_
        refine hK7 _ ?_
        refine aw_ret ?_
        obtain rfl := Option.some.inj h
        exact ret_ok1 (by conv => lhs; whnf) (by conv => lhs; whnf) (by exact rfl) (.inr rfl) rfl
    · have h := ifF c11 h
      refine alS (some 24) rfl rfl (by decide) ?_
      refine alS (some 25) rfl rfl (by decide) ?_
      refine alS (some 26) rfl rfl (by decide) ?_
      refine alP (some 27) rfl rfl (does_pick (v := .bool false) (by conv => lhs; whnf) (by exact rfl)) (by decide) ?_
      refine alP (some 28) rfl rfl (does_move (v := .bool false) (by exact rfl)) (by decide) ?_
      refine alS (some 29) rfl rfl (by decide) ?_
      refine alS (some 30) rfl rfl (by decide) ?_
      refine alP (some 31) rfl rfl (does_pick (v := .bool false) (by conv => lhs; whnf) (by exact rfl)) (by decide) ?_
      refine alP (some 0) rfl rfl (does_assign (v := .bool false) (by exact rfl)) (by decide) ?_
      refine al_nil ?_
      refine hK7 _ ?_
      refine aw_ret ?_
      obtain rfl := Option.some.inj h
      exact ret_ok1 (by conv => lhs; whnf) (by conv => lhs; whnf) (by exact rfl) (.inr rfl) rfl
  · have h := ifF c9 h
    refine alS (some 19) rfl rfl (by decide) ?_
    refine alS (some 20) rfl rfl (by decide) ?_
    refine alS (some 21) rfl rfl (by decide) ?_
    refine alP (some 22) rfl rfl (does_pick (v := .bool false) (by conv => lhs; whnf) (by exact rfl)) (by decide) ?_
    refine alP (some 23) rfl rfl (does_move (v := .bool false) (by exact rfl)) (by decide) ?_
    refine alS (some 24) rfl rfl (by decide) ?_
    refine alS (some 25) rfl rfl (by decide) ?_
    refine alS (some 26) rfl rfl (by decide) ?_
    refine alP (some 27) rfl rfl (does_pick (v := .bool false) (by conv => lhs; whnf) (by exact rfl)) (by decide) ?_
    refine alP (some 28) rfl rfl (does_move (v := .bool false) (by exact rfl)) (by decide) ?_
    refine alS (some 29) rfl rfl (by decide) ?_
    refine alS (some 30) rfl rfl (by decide) ?_
    refine alP (some 31) rfl rfl (does_pick (v := .bool false) (by conv => lhs; whnf) (by exact rfl)) (by decide) ?_
    refine alP (some 0) rfl rfl (does_assign (v := .bool false) (by exact rfl)) (by decide) ?_
    refine al_nil ?_
    refine hK7 _ ?_
    refine aw_ret ?_
    obtain rfl := Option.some.inj h
    exact ret_ok1 (by conv => lhs; whnf) (by conv => lhs; whnf) (by exact rfl) (.inr rfl) rfl
def gleaninglaw13_RuleTorn_k0 (a1 : Int) (x5 : List UInt8) : Option Bool :=
  gd (¬ (List.length x5 : Int) = 0) (gd (0 ≤ (Int.tmod a1 (List.length x5 : Int))) (gd ((Int.tmod a1 (List.length x5 : Int)) ≤ (List.length x5 : Int)) (Option.bind (rule_Read (List.take (Int.toNat (Int.tmod a1 (List.length x5 : Int))) x5)) (fun (x22 : Rule × Int) => gd ((List.length x5) * 1 ≤ 140737488355328 ∧ (List.length x5) ≤ 140737488355328) (gd ((List.length (x5 ++ [(5 : UInt8)])) * 1 ≤ 140737488355328 ∧ (List.length (x5 ++ [(5 : UInt8)])) ≤ 140737488355328) (Option.bind (rule_Read (x5 ++ [(5 : UInt8)])) (fun (x26 : Rule × Int) => Option.bind (gleaninglaw13_num x22.2) (fun (x28 : Int) => if (x28 == 2) = true then (Option.bind (gleaninglaw13_num x26.2) (fun (x30 : Int) => some (x30 == 2))) else (some false)))))))))
def gleaninglaw13_RuleTorn (a0 : Rule) (a1 : Int) : Option Bool :=
  Option.bind (gleaninglaw13_alive) (fun (x3 : Bool) => Option.bind (gleaningref1_RuleBytes a0) (fun (x5 : List UInt8) => Option.bind (if (!x3) = true then (some (Sum.inr x3)) else (Option.bind (gleaninglaw13_Few a0) (fun (x11 : Bool) => if (!x11) = true then (some (Sum.inr x3)) else (if ((List.length x5 : Int) == 0) = true then (some (Sum.inr x3)) else (if (decide (a1 < 0)) = true then (some (Sum.inr x3)) else (some (Sum.inl ()))))))) (Sum.elim (fun (s : Unit) => gleaninglaw13_RuleTorn_k0 a1 x5) some)))
set_option maxRecDepth 100000 in
set_option maxHeartbeats 8000000 in
/-- gleaning/gleaninglaw13.RuleTorn -/
theorem gleaninglaw13_RuleTorn_ok (a0 : Rule) (a1 : Int) {r : Bool} (h : gleaninglaw13_RuleTorn a0 a1 = some r) : Ok Try.prog 11 [.agg [.int .i64 a0.Kind, .int .i64 a0.N, .str a0.Key, .str a0.Value, .sl 5 (List.map enc23 a0.Kids)], .int .i64 a1] [] [] (.bool r) [] [] := by
  unfold gleaninglaw13_RuleTorn at h
  refine ok_of_code Try.func11 rfl (by show (2 : Nat) ≤ _; decide) (Nat.le_refl _) fun X => ?_
  refine aw_seq_k (fun K1 hK1 => ?_)
  refine aw_regL ?_
  refine alD (some 2) rfl rfl (do_box (by conv => lhs; whnf) rfl rfl) (by decide) ?_
  refine alP (some 4) rfl rfl (does_assign (v := .bool false) (by exact rfl)) (by decide) ?_
  refine al_nil ?_
  refine hK1 _ ?_
  refine aw_seq_k (fun K2 hK2 => ?_)
  refine aw_regL ?_
  obtain ⟨x3, hx3, h⟩ := bnd_some h
  refine alD (some 11) rfl rfl (do_call0 11 false (gleaninglaw13_alive_ok hx3) rfl ent38 rfl rfl) (by decide) ?_
  refine alP (some 5) rfl rfl (does_assign (v := .bool x3) (by exact rfl)) (by decide) ?_
  refine al_nil ?_
  refine hK2 _ ?_
  refine aw_seq_k (fun K4 hK4 => ?_)
  refine aw_regL ?_
  refine alR (some 12) rfl rfl (does_load (v := .agg [.int .i64 a0.Kind, .int .i64 a0.N, .str a0.Key, .str a0.Value, .sl 5 (List.map enc23 a0.Kids)]) (by conv => lhs; whnf) (by conv => lhs; whnf) ty24 (by exact rfl)) (by decide) ?_
  obtain ⟨x5, hx5, h⟩ := bnd_some h
  refine alD (some 13) rfl rfl (do_call0 13 false (gleaningref1_RuleBytes_ok a0 hx5) rfl ent39 rfl rfl) (by decide) ?_
  refine alP (some 6) rfl rfl (does_assign (v := .own 13 0) (by exact rfl)) (by decide) ?_
  refine al_nil ?_
  refine hK4 _ ?_
  obtain ⟨q6, h, hk7⟩ := bnd_some h
  refine aw_cut (fun s => gleaninglaw13_RuleTorn_k0 a1 x5 = some r ∧ s = lit [(1, .int .i64 a1), (6, .own 13 0)] [((13, 0), .arr 5 1 false (List.map enc5 x5))] [(13, 1)] X) ?_ ?_
  · skip
    refine aw_seq_k (fun K8 hK8 => ?_)
    refine aw_regL ?_
    refine alP (some 14) rfl rfl (does_move (v := .bool x3) (by exact rfl)) (by decide) ?_
    refine alP (some 15) rfl rfl (does_un (v := .bool (!x3)) (by conv => lhs; whnf) rfl) (by decide) ?_
    refine alP (some 16) rfl rfl (does_move (v := .bool (!x3)) (by exact rfl)) (by decide) ?_
    refine al_bool (c := (!x3)) 16 rfl (fun c9 => ?_) (fun c9 => ?_)
    · have h := ifT c9 h
      refine alS (some 17) rfl rfl (by decide) ?_
      refine alS (some 18) rfl rfl (by decide) ?_
      refine alS (some 19) rfl rfl (by decide) ?_
      refine alP (some 20) rfl rfl (does_pick (v := .bool true) (by conv => lhs; whnf) (by exact rfl)) (by decide) ?_
      refine alP (some 21) rfl rfl (does_move (v := .bool true) (by exact rfl)) (by decide) ?_
      refine alS (some 22) rfl rfl (by decide) ?_
      refine alS (some 23) rfl rfl (by decide) ?_
      refine alS (some 24) rfl rfl (by decide) ?_
      refine alP (some 25) rfl rfl (does_pick (v := .bool true) (by conv => lhs; whnf) (by exact rfl)) (by decide) ?_
      refine alP (some 26) rfl rfl (does_move (v := .bool true) (by exact rfl)) (by decide) ?_
      refine alS (some 27) rfl rfl (by decide) ?_
      refine alS (some 28) rfl rfl (by decide) ?_
      refine alP (some 29) rfl rfl (does_pick (v := .bool true) (by conv => lhs; whnf) (by exact rfl)) (by decide) ?_
      refine al_nil ?_
      refine hK8 _ ?_
      refine aw_cond_t (by decide) rfl ?_
      refine aw_seq_k (fun K10 hK10 => ?_)
      refine aw_regL ?_
      refine alP (some 30) rfl rfl (does_move (v := .bool x3) (by exact rfl)) (by decide) ?_
      refine alP (some 4) rfl rfl (does_assign (v := .bool x3) (by exact rfl)) (by decide) ?_
      refine al_nil ?_
      refine hK10 _ ?_
      refine aw_ret ?_
      have h := leafR h hk7
      obtain rfl := Option.some.inj h
      exact ret_ok1 (by conv => lhs; whnf) (by conv => lhs; whnf) (by exact rfl) (.inr rfl) rfl
    · have h := ifF c9 h
      refine alR (some 17) rfl rfl (does_load (v := .agg [.int .i64 a0.Kind, .int .i64 a0.N, .str a0.Key, .str a0.Value, .sl 5 (List.map enc23 a0.Kids)]) (by conv => lhs; whnf) (by conv => lhs; whnf) ty24 (by exact rfl)) (by decide) ?_
      obtain ⟨x11, hx11, h⟩ := bnd_some h
      refine alD (some 18) rfl rfl (do_call0 18 false (gleaninglaw13_Few_ok a0 hx11) rfl ent19 rfl rfl) (by decide) ?_
      refine alP (some 19) rfl rfl (does_un (v := .bool (!x11)) (by conv => lhs; whnf) rfl) (by decide) ?_
      refine alP (some 20) rfl rfl (does_pick (v := .bool (!x11)) (by conv => lhs; whnf) (by exact rfl)) (by decide) ?_
      refine alP (some 21) rfl rfl (does_move (v := .bool (!x11)) (by exact rfl)) (by decide) ?_
      refine al_bool (c := (!x11)) 21 rfl (fun c12 => ?_) (fun c12 => ?_)
      · have h := ifT c12 h
        refine alS (some 22) rfl rfl (by decide) ?_
        refine alS (some 23) rfl rfl (by decide) ?_
        refine alS (some 24) rfl rfl (by decide) ?_
        refine alP (some 25) rfl rfl (does_pick (v := .bool true) (by conv => lhs; whnf) (by exact rfl)) (by decide) ?_
        refine alP (some 26) rfl rfl (does_move (v := .bool true) (by exact rfl)) (by decide) ?_
        refine alS (some 27) rfl rfl (by decide) ?_
        refine alS (some 28) rfl rfl (by decide) ?_
        refine alP (some 29) rfl rfl (does_pick (v := .bool true) (by conv => lhs; whnf) (by exact rfl)) (by decide) ?_
        refine al_nil ?_
        refine hK8 _ ?_
        refine aw_cond_t (by decide) rfl ?_
        refine aw_seq_k (fun K13 hK13 => ?_)
        refine aw_regL ?_
        refine alP (some 30) rfl rfl (does_move (v := .bool x3) (by exact rfl)) (by decide) ?_
        refine alP (some 4) rfl rfl (does_assign (v := .bool x3) (by exact rfl)) (by decide) ?_
        refine al_nil ?_
        refine hK13 _ ?_
        refine aw_ret ?_
        have h := leafR h hk7
        obtain rfl := Option.some.inj h
        exact ret_ok1 (by conv => lhs; whnf) (by conv => lhs; whnf) (by exact rfl) (.inr rfl) rfl
      · have h := ifF c12 h
        refine alP (some 22) rfl rfl (does_move (v := .own 13 0) (by exact rfl)) (by decide) ?_
        refine alR (some 23) rfl rfl ((does_len_own (by conv => lhs; whnf) (by conv => lhs; whnf) ty43).cast (v' := .int .i64 (List.length x5 : Int)) (by exact len_map _)) (by decide) ?_
        refine alP (some 24) rfl rfl (does_bin (v := .bool ((List.length x5 : Int) == 0)) (by conv => lhs; whnf) (by conv => lhs; whnf) rfl) (by decide) ?_
        refine alP (some 25) rfl rfl (does_pick (v := .bool ((List.length x5 : Int) == 0)) (by conv => lhs; whnf) (by exact rfl)) (by decide) ?_
        refine alP (some 26) rfl rfl (does_move (v := .bool ((List.length x5 : Int) == 0)) (by exact rfl)) (by decide) ?_
        refine al_bool (c := ((List.length x5 : Int) == 0)) 26 rfl (fun c14 => ?_) (fun c14 => ?_)
        · have h := ifT c14 h
          refine alS (some 27) rfl rfl (by decide) ?_
          refine alS (some 28) rfl rfl (by decide) ?_
          refine alP (some 29) rfl rfl (does_pick (v := .bool true) (by conv => lhs; whnf) (by exact rfl)) (by decide) ?_
          refine al_nil ?_
          refine hK8 _ ?_
          refine aw_cond_t (by decide) rfl ?_
          refine aw_seq_k (fun K15 hK15 => ?_)
          refine aw_regL ?_
          refine alP (some 30) rfl rfl (does_move (v := .bool x3) (by exact rfl)) (by decide) ?_
          refine alP (some 4) rfl rfl (does_assign (v := .bool x3) (by exact rfl)) (by decide) ?_
          refine al_nil ?_
          refine hK15 _ ?_
          refine aw_ret ?_
          have h := leafR h hk7
          obtain rfl := Option.some.inj h
          exact ret_ok1 (by conv => lhs; whnf) (by conv => lhs; whnf) (by exact rfl) (.inr rfl) rfl
        · have h := ifF c14 h
          refine alP (some 27) rfl rfl (does_move (v := .int .i64 a1) (by exact rfl)) (by decide) ?_
          refine alP (some 28) rfl rfl (does_bin (v := .bool (decide (a1 < 0))) (by conv => lhs; whnf) (by conv => lhs; whnf) rfl) (by decide) ?_
          refine alP (some 29) rfl rfl (does_pick (v := .bool (decide (a1 < 0))) (by conv => lhs; whnf) (by exact rfl)) (by decide) ?_
          refine al_nil ?_
          refine hK8 _ ?_
          refine aw_bool (b := (decide (a1 < 0))) 29 rfl (fun c16 => ?_) (fun c16 => ?_)
          · have h := ifT c16 h
            refine aw_cond_t (by decide) rfl ?_
            refine aw_seq_k (fun K17 hK17 => ?_)
            refine aw_regL ?_
            refine alP (some 30) rfl rfl (does_move (v := .bool x3) (by exact rfl)) (by decide) ?_
            refine alP (some 4) rfl rfl (does_assign (v := .bool x3) (by exact rfl)) (by decide) ?_
            refine al_nil ?_
            refine hK17 _ ?_
            refine aw_ret ?_
            have h := leafR h hk7
            obtain rfl := Option.some.inj h
            exact ret_ok1 (by conv => lhs; whnf) (by conv => lhs; whnf) (by exact rfl) (.inr rfl) rfl
          · have h := ifF c16 h
            refine aw_cond_f (by decide) rfl ?_
            refine aw_skip ?_
            have h := leafL h hk7
            exact ⟨_, reb_lit [(1, .int .i64 a1), (6, .own 13 0)] [(13, 0)] [((13, 0), .arr 5 1 false (List.map enc5 x5))] [(13, 1)] (envOk_cons (by conv => lhs; whnf) (by exact rfl) (envOk_cons (by conv => lhs; whnf) (by exact rfl) envOk_nil)) (objOk_cons (by conv => lhs; whnf) (by conv => lhs; whnf) (by exact rfl) (by simp) objOk_nil) (nodup_b rfl) (nodup_b rfl) rfl rfl, h, rfl⟩
  · rintro s ⟨h, rfl⟩
    unfold gleaninglaw13_RuleTorn_k0 at h
    refine aw_seq_k (fun K18 hK18 => ?_)
    refine aw_regL ?_
    refine alP (some 32) rfl rfl (does_move (v := .own 13 0) (by exact rfl)) (by decide) ?_
    refine alP (some 33) rfl rfl (does_move (v := .int .i64 a1) (by exact rfl)) (by decide) ?_
    refine alP (some 34) rfl rfl (does_move (v := .own 13 0) (by exact rfl)) (by decide) ?_
    refine alR (some 35) rfl rfl ((does_len_own (by conv => lhs; whnf) (by conv => lhs; whnf) ty43).cast (v' := .int .i64 (List.length x5 : Int)) (by exact len_map _)) (by decide) ?_
    obtain ⟨g19, h⟩ := gd_some h
    refine alP (some 36) rfl rfl (does_bin (v := .int .i64 (Int.tmod a1 (List.length x5 : Int))) (by conv => lhs; whnf) (by conv => lhs; whnf) (rem_hv g19)) (by decide) ?_
    obtain ⟨g20, h⟩ := gd_some h
    obtain ⟨g21, h⟩ := gd_some h
    refine alD (some 37) rfl rfl (does_frz (d := 13) (n := 0) (by conv => lhs; whnf) (does_slice_own (l := 0) (k := (Int.toNat (Int.tmod a1 (List.length x5 : Int)))) (by conv => lhs; whnf) (by conv => lhs; whnf) ty43 ty5 bd_none (bd_some (by conv => lhs; whnf) (by exact (nat_of (by omega)))) (by (try simp only [List.length_map]); omega) (by (try simp only [List.length_map]); omega) (by exact part_h _ _))) (by decide) ?_
    obtain ⟨x22, hx22, h⟩ := bnd_some h
    refine alD (some 38) rfl rfl (do_call0 38 false (rule_Read_ok (List.take (Int.toNat (Int.tmod a1 (List.length x5 : Int))) x5) hx22) rfl ent40 rfl rfl) (by decide) ?_
    refine alP (some 31) rfl rfl (does_move (v := .tup [.agg [.int .i64 x22.1.Kind, .int .i64 x22.1.N, .str x22.1.Key, .str x22.1.Value, .sl 5 (List.map enc23 x22.1.Kids)], .int .i64 x22.2]) (by exact rfl)) (by decide) ?_
    refine alP (some 39) rfl rfl (does_extract (v := .agg [.int .i64 x22.1.Kind, .int .i64 x22.1.N, .str x22.1.Key, .str x22.1.Value, .sl 5 (List.map enc23 x22.1.Kids)]) (by conv => lhs; whnf) (by exact rfl)) (by decide) ?_
    refine alP (some 40) rfl rfl (does_extract (v := .int .i64 x22.2) (by conv => lhs; whnf) (by exact rfl)) (by decide) ?_
    refine alD (some 7) rfl rfl (do_new ty24 rfl rfl) (by decide) ?_
    refine alD none rfl rfl (do_store (cs' := [.int .i64 x22.1.Kind, .int .i64 x22.1.N, .str x22.1.Key, .str x22.1.Value, .sl 5 (List.map enc23 x22.1.Kids)]) (by conv => lhs; whnf) (by conv => lhs; whnf) (by conv => lhs; whnf) ty24 rfl rfl rfl (by exact rfl)) (by decide) ?_
    refine alP (some 8) rfl rfl (does_assign (v := .int .i64 x22.2) (by exact rfl)) (by decide) ?_
    refine al_nil ?_
    refine hK18 _ ?_
    refine aw_seq_k (fun K23 hK23 => ?_)
    refine aw_regL ?_
    refine alP (some 42) rfl rfl (does_move (v := .own 13 0) (by exact rfl)) (by decide) ?_
    obtain ⟨g24, h⟩ := gd_some h
    refine alD (some 43) rfl rfl (do_append (v := List.map enc5 x5) (by conv => lhs; whnf) (by conv => lhs; whnf) ty43 ty5 rfl rfl (by conv => lhs; whnf) (by first | exact .inl rfl | exact .inr ⟨rfl, rfl⟩) (by conv => lhs; whnf) (by first | exact .inr rfl | exact .inl rfl) (List.nil_append _) (fit_map g24)) (by decide) ?_
    refine alD (some 44) rfl rfl (do_buildSlice (xs := List.map enc5 [(5 : UInt8)]) ty43 ty5 rfl rfl rfl rfl rfl rfl rfl rfl) (by decide) ?_
    obtain ⟨g25, h⟩ := gd_some h
    refine alD (some 45) rfl rfl (do_append (v := List.map enc5 (x5 ++ [(5 : UInt8)])) (by conv => lhs; whnf) (by conv => lhs; whnf) ty43 ty5 rfl rfl (by conv => lhs; whnf) (by first | exact .inl rfl | exact .inr ⟨rfl, rfl⟩) (by conv => lhs; whnf) (by first | exact .inr rfl | exact .inl rfl) (map_app _ _) (fit_map g25)) (by decide) ?_
    obtain ⟨x26, hx26, h⟩ := bnd_some h
    refine alD (some 46) rfl rfl (does_frz (d := 45) (n := 0) (by conv => lhs; whnf) (do_callG (bcs := []) [] [] [(45, 0)] 46 false (rule_Read_ok (x5 ++ [(5 : UInt8)]) hx26) rfl ent40 trivial trivial rfl rfl rfl rfl rfl rfl rfl rfl (.inl ⟨⟨_, _, _, rfl⟩, trivial⟩))) (by decide) ?_
    refine alP (some 41) rfl rfl (does_move (v := .tup [.agg [.int .i64 x26.1.Kind, .int .i64 x26.1.N, .str x26.1.Key, .str x26.1.Value, .sl 5 (List.map enc23 x26.1.Kids)], .int .i64 x26.2]) (by exact rfl)) (by decide) ?_
    refine alP (some 47) rfl rfl (does_extract (v := .agg [.int .i64 x26.1.Kind, .int .i64 x26.1.N, .str x26.1.Key, .str x26.1.Value, .sl 5 (List.map enc23 x26.1.Kids)]) (by conv => lhs; whnf) (by exact rfl)) (by decide) ?_
    refine alP (some 48) rfl rfl (does_extract (v := .int .i64 x26.2) (by conv => lhs; whnf) (by exact rfl)) (by decide) ?_
    refine alD (some 9) rfl rfl (do_new ty24 rfl rfl) (by decide) ?_
    refine alD none rfl rfl (do_store (cs' := [.int .i64 x26.1.Kind, .int .i64 x26.1.N, .str x26.1.Key, .str x26.1.Value, .sl 5 (List.map enc23 x26.1.Kids)]) (by conv => lhs; whnf) (by conv => lhs; whnf) (by conv => lhs; whnf) ty24 rfl rfl rfl (by exact rfl)) (by decide) ?_
    refine alP (some 10) rfl rfl (does_assign (v := .int .i64 x26.2) (by exact rfl)) (by decide) ?_
    refine al_nil ?_
    refine hK23 _ ?_
    refine aw_seq_k (fun K27 hK27 => ?_)
    refine aw_regL ?_
    refine alP (some 49) rfl rfl (does_move (v := .int .i64 x22.2) (by exact rfl)) (by decide) ?_
    obtain ⟨x28, hx28, h⟩ := bnd_some h
    refine alD (some 50) rfl rfl (do_call0 50 false (gleaninglaw13_num_ok x22.2 hx28) rfl ent41 rfl rfl) (by decide) ?_
    refine alP (some 51) rfl rfl (does_bin (v := .bool (x28 == 2)) (by conv => lhs; whnf) (by conv => lhs; whnf) rfl) (by decide) ?_
    refine alP (some 52) rfl rfl (does_move (v := .bool (x28 == 2)) (by exact rfl)) (by decide) ?_
    refine al_bool (c := (x28 == 2)) 52 rfl (fun c29 => ?_) (fun c29 => ?_)
    · have h := ifT c29 h
      refine alP (some 53) rfl rfl (does_move (v := .int .i64 x26.2) (by exact rfl)) (by decide) ?_
      obtain ⟨x30, hx30, h⟩ := bnd_some h
      refine alD (some 54) rfl rfl (do_call0 54 false (gleaninglaw13_num_ok x26.2 hx30) rfl ent41 rfl rfl) (by decide) ?_
      refine alP (some 55) rfl rfl (does_bin (v := .bool (x30 == 2)) (by conv => lhs; whnf) (by conv => lhs; whnf) rfl) (by decide) ?_
      refine alP (some 56) rfl rfl (does_pick (v := .bool (x30 == 2)) (by conv => lhs; whnf) (by exact rfl)) (by decide) ?_
      refine alP (some 4) rfl rfl (does_assign (v := .bool (x30 == 2)) (by exact rfl)) (by decide) ?_
      refine al_nil ?_
      refine hK27 _ ?_
      refine aw_ret ?_
      obtain rfl := Option.some.inj h
      exact ret_ok1 (by conv => lhs; whnf) (by conv => lhs; whnf) (by exact rfl) (.inr rfl) rfl
    · have h := ifF c29 h
      refine alS (some 53) rfl rfl (by decide) ?_
      refine alS (some 54) rfl rfl (by decide) ?_
      refine alS (some 55) rfl rfl (by decide) ?_
      refine alP (some 56) rfl rfl (does_pick (v := .bool false) (by conv => lhs; whnf) (by exact rfl)) (by decide) ?_
      refine alP (some 4) rfl rfl (does_assign (v := .bool false) (by exact rfl)) (by decide) ?_
      refine al_nil ?_
      refine hK27 _ ?_
      refine aw_ret ?_
      obtain rfl := Option.some.inj h
      exact ret_ok1 (by conv => lhs; whnf) (by conv => lhs; whnf) (by exact rfl) (.inr rfl) rfl
end Go.Proofs.Ytbfmmaabaenhgaa.Ab
