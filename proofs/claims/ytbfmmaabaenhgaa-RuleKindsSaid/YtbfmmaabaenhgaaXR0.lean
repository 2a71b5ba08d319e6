/- Policies: few and right; told as pure functions, and that the code comes to them. -/
import Derived.Test.YtbfmmaabaenhgaaXRW
import Derived.Test.YtbfmmaabaenhgaaProg
namespace Go.Proofs.Ytbfmmaabaenhgaa.Ab
open Go Go.RowKit
set_option linter.unusedVariables false
set_option linter.unusedSimpArgs false
structure Rule where
  Kind : Int
  N : Int
  Key : ByteArray
  Value : ByteArray
  Kids : List Rule
  deriving Inhabited
mutual
def enc23 : Rule → PV
  | .mk y0 y1 y2 y3 y4 => .agg [.int .i64 y0, .int .i64 y1, .str y2, .str y3, .sl 5 (enc23L y4)]
def enc23L : List Rule → List PV
  | [] => []
  | x :: r => enc23 x :: enc23L r
end
theorem enc23L_eq : ∀ l : List Rule, enc23L l = List.map enc23 l
  | [] => by rw [enc23L]; rfl
  | x :: r => by rw [enc23L, enc23L_eq r]; rfl
theorem enc23_eq : ∀ x : Rule, enc23 x = .agg [.int .i64 x.Kind, .int .i64 x.N, .str x.Key, .str x.Value, .sl 5 (List.map enc23 x.Kids)]
  | .mk y0 y1 y2 y3 y4 => by rw [enc23, enc23L_eq]
theorem ty22 : tyOf Try.prog 22 = some ⟨.slice 24, 1, 24, [.nil]⟩ := by kernel_rfl
theorem ty24 : tyOf Try.prog 24 = some ⟨.struct [(0, 3), (1, 3), (2, 9), (3, 9), (4, 22)], 5, 72, [.int .i64 0, .int .i64 0, .str ByteArray.empty, .str ByteArray.empty, .nil]⟩ := by kernel_rfl
theorem ent55 : Ent Try.prog 55 := ⟨_, Try.func55, by kernel_rfl, rfl⟩
theorem ent60 : Ent Try.prog 60 := ⟨_, Try.func60, by kernel_rfl, rfl⟩
theorem ent61 : Ent Try.prog 61 := ⟨_, Try.func61, by kernel_rfl, rfl⟩
theorem ent62 : Ent Try.prog 62 := ⟨_, Try.func62, by kernel_rfl, rfl⟩
theorem ent65 : Ent Try.prog 65 := ⟨_, Try.func65, by kernel_rfl, rfl⟩
theorem ent72 : Ent Try.prog 72 := ⟨_, Try.func72, by kernel_rfl, rfl⟩
theorem ent95 : Ent Try.prog 95 := ⟨_, Try.func95, by kernel_rfl, rfl⟩
theorem ent110 : Ent Try.prog 110 := ⟨_, Try.func110, by kernel_rfl, rfl⟩
theorem ent111 : Ent Try.prog 111 := ⟨_, Try.func111, by kernel_rfl, rfl⟩
def gleaninglaw13_size_b_k2 (K : Rule → Int → Option Int) (a0 : Rule) (a1 : Int) (v5_1 : Int) (v6_1 : Int) : Option ((Int × Int) ⊕ Int) :=
  gd (0 ≤ v6_1) (Option.bind (a0.Kids[(Int.toNat v6_1)]?) (fun (x25 : Rule) => Option.bind (K x25 (IntKind.i64.wrap (a1 + 1))) (fun (x26 : Int) => some (Sum.inl ((IntKind.i64.wrap (v5_1 + x26)), (IntKind.i64.wrap (v6_1 + 1)))))))
def gleaninglaw13_size_b_l1 (K : Rule → Int → Option Int) (a0 : Rule) (a1 : Int) (v5_1 : Int) (v6_1 : Int) : Option ((Int × Int) ⊕ Int) :=
  Option.bind (if (decide (v6_1 < (List.length a0.Kids : Int))) = true then (if (decide (v5_1 < 1000)) = true then (some (Sum.inl ())) else (some (Sum.inr (Sum.inr v5_1)))) else (some (Sum.inr (Sum.inr v5_1)))) (Sum.elim (fun (s : Unit) => gleaninglaw13_size_b_k2 K a0 a1 v5_1 v6_1) some)
def gleaninglaw13_size_b_k0 (K : Rule → Int → Option Int) (a0 : Rule) (a1 : Int) : Option Int :=
  loopN (fun (s : Int × Int) => gleaninglaw13_size_b_l1 K a0 a1 s.1 s.2) Fu (1, 0)
def gleaninglaw13_size_b (K : Rule → Int → Option Int) (a0 : Rule) (a1 : Int) : Option Int :=
  Option.bind (if (decide ((30 : Int) < a1)) = true then (some (Sum.inr 1000)) else (if (decide ((100 : Int) < (ByteArray.size a0.Key : Int))) = true then (some (Sum.inr 1000)) else (if (decide ((100 : Int) < (ByteArray.size a0.Value : Int))) = true then (some (Sum.inr 1000)) else (some (Sum.inl ()))))) (Sum.elim (fun (s : Unit) => gleaninglaw13_size_b_k0 K a0 a1) some)
set_option maxRecDepth 100000 in
set_option maxHeartbeats 8000000 in
/-- gleaning/gleaninglaw13.size -/
theorem gleaninglaw13_size_b_ok (K : Rule → Int → Option Int) (hK : ∀ (a0 : Rule) (a1 : Int) {r : Int}, K a0 a1 = some r → Ok Try.prog 55 [.agg [.int .i64 a0.Kind, .int .i64 a0.N, .str a0.Key, .str a0.Value, .sl 5 (List.map enc23 a0.Kids)], .int .i64 a1] [] [] (.int .i64 r) [] []) (a0 : Rule) (a1 : Int) {r : Int} (h : gleaninglaw13_size_b K a0 a1 = some r) : Ok Try.prog 55 [.agg [.int .i64 a0.Kind, .int .i64 a0.N, .str a0.Key, .str a0.Value, .sl 5 (List.map enc23 a0.Kids)], .int .i64 a1] [] [] (.int .i64 r) [] [] := by
  unfold gleaninglaw13_size_b at h
  refine ok_of_code Try.func55 rfl (by show (2 : Nat) ≤ _; decide) (Nat.le_refl _) fun X => ?_
  refine aw_seq_k (fun K1 hK1 => ?_)
  refine aw_regL ?_
  refine alD (some 2) rfl rfl (do_box (by conv => lhs; whnf) rfl rfl) (by decide) ?_
  refine alP (some 4) rfl rfl (does_assign (v := .int .i64 0) (by exact rfl)) (by decide) ?_
  refine al_nil ?_
  refine hK1 _ ?_
  obtain ⟨q2, h, hk3⟩ := bnd_some h
  refine aw_cut (fun s => gleaninglaw13_size_b_k0 K a0 a1 = some r ∧ s = lit [(1, .int .i64 a1), (2, .ptr 2 0 0)] [((2, 0), .box [.int .i64 a0.Kind, .int .i64 a0.N, .str a0.Key, .str a0.Value, .sl 5 (List.map enc23 a0.Kids)])] [(2, 1)] X) ?_ ?_
  · skip
    refine aw_seq_k (fun K4 hK4 => ?_)
    refine aw_regL ?_
    refine alP (some 7) rfl rfl (does_move (v := .int .i64 a1) (by exact rfl)) (by decide) ?_
    refine alP (some 8) rfl rfl (does_bin (v := .bool (decide ((30 : Int) < a1))) (by conv => lhs; whnf) (by conv => lhs; whnf) rfl) (by decide) ?_
    refine alP (some 9) rfl rfl (does_move (v := .bool (decide ((30 : Int) < a1))) (by exact rfl)) (by decide) ?_
    refine al_bool (c := (decide ((30 : Int) < a1))) 9 rfl (fun c5 => ?_) (fun c5 => ?_)
    · have h := ifT c5 h
      refine alS (some 10) rfl rfl (by decide) ?_
      refine alS (some 11) rfl rfl (by decide) ?_
      refine alS (some 12) rfl rfl (by decide) ?_
      refine alS (some 13) rfl rfl (by decide) ?_
      refine alP (some 14) rfl rfl (does_pick (v := .bool true) (by conv => lhs; whnf) (by exact rfl)) (by decide) ?_
      refine alP (some 15) rfl rfl (does_move (v := .bool true) (by exact rfl)) (by decide) ?_
      refine alS (some 16) rfl rfl (by decide) ?_
      refine alS (some 17) rfl rfl (by decide) ?_
      refine alS (some 18) rfl rfl (by decide) ?_
      refine alS (some 19) rfl rfl (by decide) ?_
      refine alP (some 20) rfl rfl (does_pick (v := .bool true) (by conv => lhs; whnf) (by exact rfl)) (by decide) ?_
      refine al_nil ?_
      refine hK4 _ ?_
      refine aw_cond_t (by decide) rfl ?_
      refine aw_seq_k (fun K6 hK6 => ?_)
      refine aw_regL ?_
      refine alP (some 4) rfl rfl (does_assign (v := .int .i64 1000) (by exact rfl)) (by decide) ?_
      refine al_nil ?_
      refine hK6 _ ?_
      refine aw_ret ?_
      have h := leafR h hk3
      obtain rfl := Option.some.inj h
      exact ret_ok1 (by conv => lhs; whnf) (by conv => lhs; whnf) (by exact rfl) (.inr rfl) rfl
    · have h := ifF c5 h
      refine alP (some 10) rfl rfl (does_fieldAddr (q := .ptr 2 0 2) (by conv => lhs; whnf) ty24 rfl ty9 (by decide) (by exact rfl)) (by decide) ?_
      refine alR (some 11) rfl rfl (does_load (v := .str a0.Key) (by conv => lhs; whnf) (by conv => lhs; whnf) ty9 (by exact rfl)) (by decide) ?_
      refine alP (some 12) rfl rfl (does_len_str (by conv => lhs; whnf) ty9) (by decide) ?_
      refine alP (some 13) rfl rfl (does_bin (v := .bool (decide ((100 : Int) < (ByteArray.size a0.Key : Int)))) (by conv => lhs; whnf) (by conv => lhs; whnf) rfl) (by decide) ?_
      refine alP (some 14) rfl rfl (does_pick (v := .bool (decide ((100 : Int) < (ByteArray.size a0.Key : Int)))) (by conv => lhs; whnf) (by exact rfl)) (by decide) ?_
      refine alP (some 15) rfl rfl (does_move (v := .bool (decide ((100 : Int) < (ByteArray.size a0.Key : Int)))) (by exact rfl)) (by decide) ?_
      refine al_bool (c := (decide ((100 : Int) < (ByteArray.size a0.Key : Int)))) 15 rfl (fun c7 => ?_) (fun c7 => ?_)
      · have h := ifT c7 h
        refine alS (some 16) rfl rfl (by decide) ?_
        refine alS (some 17) rfl rfl (by decide) ?_
        refine alS (some 18) rfl rfl (by decide) ?_
        refine alS (some 19) rfl rfl (by decide) ?_
        refine alP (some 20) rfl rfl (does_pick (v := .bool true) (by conv => lhs; whnf) (by exact rfl)) (by decide) ?_
        refine al_nil ?_
        refine hK4 _ ?_
        refine aw_cond_t (by decide) rfl ?_
        refine aw_seq_k (fun K8 hK8 => ?_)
        refine aw_regL ?_
        refine alP (some 4) rfl rfl (does_assign (v := .int .i64 1000) (by exact rfl)) (by decide) ?_
        refine al_nil ?_
        refine hK8 _ ?_
        refine aw_ret ?_
        have h := leafR h hk3
        obtain rfl := Option.some.inj h
        exact ret_ok1 (by conv => lhs; whnf) (by conv => lhs; whnf) (by exact rfl) (.inr rfl) rfl
      · have h := ifF c7 h
        refine alP (some 16) rfl rfl (does_fieldAddr (q := .ptr 2 0 3) (by conv => lhs; whnf) ty24 rfl ty9 (by decide) (by exact rfl)) (by decide) ?_
        refine alR (some 17) rfl rfl (does_load (v := .str a0.Value) (by conv => lhs; whnf) (by conv => lhs; whnf) ty9 (by exact rfl)) (by decide) ?_
        refine alP (some 18) rfl rfl (does_len_str (by conv => lhs; whnf) ty9) (by decide) ?_
        refine alP (some 19) rfl rfl (does_bin (v := .bool (decide ((100 : Int) < (ByteArray.size a0.Value : Int)))) (by conv => lhs; whnf) (by conv => lhs; whnf) rfl) (by decide) ?_
        refine alP (some 20) rfl rfl (does_pick (v := .bool (decide ((100 : Int) < (ByteArray.size a0.Value : Int)))) (by conv => lhs; whnf) (by exact rfl)) (by decide) ?_
        refine al_nil ?_
        refine hK4 _ ?_
        refine aw_bool (b := (decide ((100 : Int) < (ByteArray.size a0.Value : Int)))) 20 rfl (fun c9 => ?_) (fun c9 => ?_)
        · have h := ifT c9 h
          refine aw_cond_t (by decide) rfl ?_
          refine aw_seq_k (fun K10 hK10 => ?_)
          refine aw_regL ?_
          refine alP (some 4) rfl rfl (does_assign (v := .int .i64 1000) (by exact rfl)) (by decide) ?_
          refine al_nil ?_
          refine hK10 _ ?_
          refine aw_ret ?_
          have h := leafR h hk3
          obtain rfl := Option.some.inj h
          exact ret_ok1 (by conv => lhs; whnf) (by conv => lhs; whnf) (by exact rfl) (.inr rfl) rfl
        · have h := ifF c9 h
          refine aw_cond_f (by decide) rfl ?_
          refine aw_skip ?_
          have h := leafL h hk3
          exact ⟨_, reb_lit [(1, .int .i64 a1), (2, .ptr 2 0 0)] [(2, 0)] [((2, 0), .box [.int .i64 a0.Kind, .int .i64 a0.N, .str a0.Key, .str a0.Value, .sl 5 (List.map enc23 a0.Kids)])] [(2, 1)] (envOk_cons (by conv => lhs; whnf) (by exact rfl) (envOk_cons (by conv => lhs; whnf) (by exact rfl) envOk_nil)) (objOk_cons (by conv => lhs; whnf) (by conv => lhs; whnf) (by exact rfl) (by simp) objOk_nil) (nodup_b rfl) (nodup_b rfl) rfl rfl, h, rfl⟩
  · rintro s ⟨h, rfl⟩
    unfold gleaninglaw13_size_b_k0 at h
    refine aw_seq_k (fun K11 hK11 => ?_)
    refine aw_regL ?_
    refine alP (some 5) rfl rfl (does_assign (v := .int .i64 1) (by exact rfl)) (by decide) ?_
    refine al_nil ?_
    refine hK11 _ ?_
    refine aw_seq_k (fun K12 hK12 => ?_)
    refine aw_seq_k (fun K13 hK13 => ?_)
    refine aw_regL ?_
    refine alP (some 6) rfl rfl (does_assign (v := .int .i64 0) (by exact rfl)) (by decide) ?_
    refine al_nil ?_
    refine hK13 _ ?_
    refine aw_block ?_
    refine aw_loop' (fun m s => ∃ (v5_1 : Int), ∃ (v6_1 : Int), loopN (fun (s : Int × Int) => gleaninglaw13_size_b_l1 K a0 a1 s.1 s.2) m (v5_1, v6_1) = some r ∧ s = lit [(1, .int .i64 a1), (2, .ptr 2 0 0), (5, .int .i64 v5_1), (6, .int .i64 v6_1)] [((2, 0), .box [.int .i64 a0.Kind, .int .i64 a0.N, .str a0.Key, .str a0.Value, .sl 5 (List.map enc23 a0.Kids)])] [(2, 1)] X) Fu
      ⟨_, reb_lit [(1, .int .i64 a1), (2, .ptr 2 0 0), (5, .int .i64 (1)), (6, .int .i64 (0))] [(2, 0)] [((2, 0), .box [.int .i64 a0.Kind, .int .i64 a0.N, .str a0.Key, .str a0.Value, .sl 5 (List.map enc23 a0.Kids)])] [(2, 1)] (envOk_cons (by conv => lhs; whnf) (by exact rfl) (envOk_cons (by conv => lhs; whnf) (by exact rfl) (envOk_cons (by conv => lhs; whnf) (by exact rfl) (envOk_cons (by conv => lhs; whnf) (by exact rfl) envOk_nil)))) (objOk_cons (by conv => lhs; whnf) (by conv => lhs; whnf) (by exact rfl) (by simp) objOk_nil) (nodup_b rfl) (nodup_b rfl) rfl rfl, 1, 0, h, rfl⟩ ?_
    rintro m s ⟨v5_1, v6_1, h, rfl⟩
    obtain ⟨m1, q14, rfl, h, hq15⟩ := loop_some h
    replace h : gleaninglaw13_size_b_l1 K a0 a1 v5_1 v6_1 = some q14 := h
    unfold gleaninglaw13_size_b_l1 at h
    obtain ⟨q16, h, hk17⟩ := bnd_some h
    refine aw_cut (fun s => gleaninglaw13_size_b_k2 K a0 a1 v5_1 v6_1 = some q14 ∧ s = lit [(1, .int .i64 a1), (2, .ptr 2 0 0), (5, .int .i64 v5_1), (6, .int .i64 v6_1)] [((2, 0), .box [.int .i64 a0.Kind, .int .i64 a0.N, .str a0.Key, .str a0.Value, .sl 5 (List.map enc23 a0.Kids)])] [(2, 1)] X) ?_ ?_
    · skip
      refine aw_seq_k (fun K18 hK18 => ?_)
      refine aw_regL ?_
      refine alP (some 21) rfl rfl (does_move (v := .int .i64 v6_1) (by exact rfl)) (by decide) ?_
      refine alP (some 22) rfl rfl (does_fieldAddr (q := .ptr 2 0 4) (by conv => lhs; whnf) ty24 rfl ty22 (by decide) (by exact rfl)) (by decide) ?_
      refine alR (some 23) rfl rfl (does_load (v := .sl 5 (List.map enc23 a0.Kids)) (by conv => lhs; whnf) (by conv => lhs; whnf) ty22 (by exact rfl)) (by decide) ?_
      refine alP (some 24) rfl rfl ((does_len_sl (by conv => lhs; whnf) ty22).castp (v' := .int .i64 (List.length a0.Kids : Int)) (by exact len_map _)) (by decide) ?_
      refine alP (some 25) rfl rfl (does_bin (v := .bool (decide (v6_1 < (List.length a0.Kids : Int)))) (by conv => lhs; whnf) (by conv => lhs; whnf) rfl) (by decide) ?_
      refine alP (some 26) rfl rfl (does_move (v := .bool (decide (v6_1 < (List.length a0.Kids : Int)))) (by exact rfl)) (by decide) ?_
      refine al_bool (c := (decide (v6_1 < (List.length a0.Kids : Int)))) 26 rfl (fun c19 => ?_) (fun c19 => ?_)
      · have h := ifT c19 h
        refine alP (some 27) rfl rfl (does_move (v := .int .i64 v5_1) (by exact rfl)) (by decide) ?_
        refine alP (some 28) rfl rfl (does_bin (v := .bool (decide (v5_1 < 1000))) (by conv => lhs; whnf) (by conv => lhs; whnf) rfl) (by decide) ?_
        refine alP (some 29) rfl rfl (does_pick (v := .bool (decide (v5_1 < 1000))) (by conv => lhs; whnf) (by exact rfl)) (by decide) ?_
        refine al_nil ?_
        refine hK18 _ ?_
        refine aw_bool (b := (decide (v5_1 < 1000))) 29 rfl (fun c20 => ?_) (fun c20 => ?_)
        · have h := ifT c20 h
          refine aw_cond_t (by decide) rfl ?_
          refine aw_skip ?_
          have h := leafL h hk17
          exact ⟨_, reb_lit [(1, .int .i64 a1), (2, .ptr 2 0 0), (5, .int .i64 v5_1), (6, .int .i64 v6_1)] [(2, 0)] [((2, 0), .box [.int .i64 a0.Kind, .int .i64 a0.N, .str a0.Key, .str a0.Value, .sl 5 (List.map enc23 a0.Kids)])] [(2, 1)] (envOk_cons (by conv => lhs; whnf) (by exact rfl) (envOk_cons (by conv => lhs; whnf) (by exact rfl) (envOk_cons (by conv => lhs; whnf) (by exact rfl) (envOk_cons (by conv => lhs; whnf) (by exact rfl) envOk_nil)))) (objOk_cons (by conv => lhs; whnf) (by conv => lhs; whnf) (by exact rfl) (by simp) objOk_nil) (nodup_b rfl) (nodup_b rfl) rfl rfl, h, rfl⟩
        · have h := ifF c20 h
          refine aw_cond_f (by decide) rfl ?_
          refine aw_exit ?_
          have h := leafR h hk17
          have h := leafR h hq15
          refine hK12 _ ?_
          refine aw_seq_k (fun K21 hK21 => ?_)
          refine aw_regL ?_
          refine alP (some 42) rfl rfl (does_move (v := .int .i64 v5_1) (by exact rfl)) (by decide) ?_
          refine alP (some 4) rfl rfl (does_assign (v := .int .i64 v5_1) (by exact rfl)) (by decide) ?_
          refine al_nil ?_
          refine hK21 _ ?_
          refine aw_ret ?_
          obtain rfl := Option.some.inj h
          exact ret_ok1 (by conv => lhs; whnf) (by conv => lhs; whnf) (by exact rfl) (.inr rfl) rfl
      · have h := ifF c19 h
        refine alS (some 27) rfl rfl (by decide) ?_
        refine alS (some 28) rfl rfl (by decide) ?_
        refine alP (some 29) rfl rfl (does_pick (v := .bool false) (by conv => lhs; whnf) (by exact rfl)) (by decide) ?_
        refine al_nil ?_
        refine hK18 _ ?_
        refine aw_cond_f (by decide) rfl ?_
        refine aw_exit ?_
        have h := leafR h hk17
        have h := leafR h hq15
        refine hK12 _ ?_
        refine aw_seq_k (fun K22 hK22 => ?_)
        refine aw_regL ?_
        refine alP (some 42) rfl rfl (does_move (v := .int .i64 v5_1) (by exact rfl)) (by decide) ?_
        refine alP (some 4) rfl rfl (does_assign (v := .int .i64 v5_1) (by exact rfl)) (by decide) ?_
        refine al_nil ?_
        refine hK22 _ ?_
        refine aw_ret ?_
        obtain rfl := Option.some.inj h
        exact ret_ok1 (by conv => lhs; whnf) (by conv => lhs; whnf) (by exact rfl) (.inr rfl) rfl
    · rintro s ⟨h, rfl⟩
      unfold gleaninglaw13_size_b_k2 at h
      refine aw_seq_k (fun K23 hK23 => ?_)
      refine aw_block ?_
      refine aw_regL ?_
      refine alP (some 32) rfl rfl (does_move (v := .int .i64 v5_1) (by exact rfl)) (by decide) ?_
      refine alP (some 33) rfl rfl (does_fieldAddr (q := .ptr 2 0 4) (by conv => lhs; whnf) ty24 rfl ty22 (by decide) (by exact rfl)) (by decide) ?_
      refine alR (some 34) rfl rfl (does_load (v := .sl 5 (List.map enc23 a0.Kids)) (by conv => lhs; whnf) (by conv => lhs; whnf) ty22 (by exact rfl)) (by decide) ?_
      refine alP (some 35) rfl rfl (does_move (v := .int .i64 v6_1) (by exact rfl)) (by decide) ?_
      obtain ⟨g24, h⟩ := gd_some h
      obtain ⟨x25, hx25, h⟩ := bnd_some h
      refine alP (some 36) rfl rfl (does_indexAddr_sl (el := .agg [.int .i64 x25.Kind, .int .i64 x25.N, .str x25.Key, .str x25.Value, .sl 5 (List.map enc23 x25.Kids)]) (by conv => lhs; whnf) (by conv => lhs; whnf) ty22 ty24 g24 (by exact map_getE (enc23_eq _) hx25)) (by decide) ?_
      refine alR (some 37) rfl rfl (does_load (v := .agg [.int .i64 x25.Kind, .int .i64 x25.N, .str x25.Key, .str x25.Value, .sl 5 (List.map enc23 x25.Kids)]) (by conv => lhs; whnf) (by conv => lhs; whnf) ty24 (by exact rfl)) (by decide) ?_
      refine alP (some 38) rfl rfl (does_move (v := .int .i64 a1) (by exact rfl)) (by decide) ?_
      refine alP (some 39) rfl rfl (does_bin (v := .int .i64 (IntKind.i64.wrap (a1 + 1))) (by conv => lhs; whnf) (by conv => lhs; whnf) rfl) (by decide) ?_
      obtain ⟨x26, hx26, h⟩ := bnd_some h
      refine alD (some 40) rfl rfl (do_call0 40 false (hK x25 (IntKind.i64.wrap (a1 + 1)) hx26) rfl ent55 rfl rfl) (by decide) ?_
      refine alP (some 41) rfl rfl (does_bin (v := .int .i64 (IntKind.i64.wrap (v5_1 + x26))) (by conv => lhs; whnf) (by conv => lhs; whnf) rfl) (by decide) ?_
      refine alP (some 5) rfl rfl (does_assign (v := .int .i64 (IntKind.i64.wrap (v5_1 + x26))) (by exact rfl)) (by decide) ?_
      refine al_nil ?_
      refine hK23 _ ?_
      refine aw_regL ?_
      refine alP (some 30) rfl rfl (does_move (v := .int .i64 v6_1) (by exact rfl)) (by decide) ?_
      refine alP (some 31) rfl rfl (does_bin (v := .int .i64 (IntKind.i64.wrap (v6_1 + 1))) (by conv => lhs; whnf) (by conv => lhs; whnf) rfl) (by decide) ?_
      refine alP (some 6) rfl rfl (does_assign (v := .int .i64 (IntKind.i64.wrap (v6_1 + 1))) (by exact rfl)) (by decide) ?_
      refine al_nil ?_
      have h := leafL h hq15
      exact ⟨m1, Nat.lt_succ_self _, _, reb_lit [(1, .int .i64 a1), (2, .ptr 2 0 0), (5, .int .i64 (IntKind.i64.wrap (v5_1 + x26))), (6, .int .i64 (IntKind.i64.wrap (v6_1 + 1)))] [(2, 0)] [((2, 0), .box [.int .i64 a0.Kind, .int .i64 a0.N, .str a0.Key, .str a0.Value, .sl 5 (List.map enc23 a0.Kids)])] [(2, 1)] (envOk_cons (by conv => lhs; whnf) (by exact rfl) (envOk_cons (by conv => lhs; whnf) (by exact rfl) (envOk_cons (by conv => lhs; whnf) (by exact rfl) (envOk_cons (by conv => lhs; whnf) (by exact rfl) envOk_nil)))) (objOk_cons (by conv => lhs; whnf) (by conv => lhs; whnf) (by exact rfl) (by simp) objOk_nil) (nodup_b rfl) (nodup_b rfl) rfl rfl, (IntKind.i64.wrap (v5_1 + x26)), (IntKind.i64.wrap (v6_1 + 1)), h, rfl⟩
def gleaninglaw13_sizeN : Nat → Rule → Int → Option Int
  | 0, _, _ => none
  | n + 1, a0, a1 => gleaninglaw13_size_b (gleaninglaw13_sizeN n) a0 a1
theorem gleaninglaw13_sizeN_ok : ∀ (n : Nat) (a0 : Rule) (a1 : Int) {r : Int}, gleaninglaw13_sizeN n a0 a1 = some r → Ok Try.prog 55 [.agg [.int .i64 a0.Kind, .int .i64 a0.N, .str a0.Key, .str a0.Value, .sl 5 (List.map enc23 a0.Kids)], .int .i64 a1] [] [] (.int .i64 r) [] []
  | 0, _, _, _, h => by simp [gleaninglaw13_sizeN] at h
  | n + 1, a0, a1, _, h => gleaninglaw13_size_b_ok (gleaninglaw13_sizeN n) (gleaninglaw13_sizeN_ok n) a0 a1 h
def gleaninglaw13_size (a0 : Rule) (a1 : Int) : Option Int := gleaninglaw13_sizeN Fu a0 a1
theorem gleaninglaw13_size_ok (a0 : Rule) (a1 : Int) {r : Int} (h : gleaninglaw13_size a0 a1 = some r) : Ok Try.prog 55 [.agg [.int .i64 a0.Kind, .int .i64 a0.N, .str a0.Key, .str a0.Value, .sl 5 (List.map enc23 a0.Kids)], .int .i64 a1] [] [] (.int .i64 r) [] [] := gleaninglaw13_sizeN_ok Fu a0 a1 h
def gleaninglaw13_Few (a0 : Rule) : Option Bool :=
  Option.bind (gleaninglaw13_size a0 0) (fun (x3 : Int) => some (decide (x3 ≤ 100)))
set_option maxRecDepth 100000 in
set_option maxHeartbeats 8000000 in
/-- gleaning/gleaninglaw13.Few -/
theorem gleaninglaw13_Few_ok (a0 : Rule) {r : Bool} (h : gleaninglaw13_Few a0 = some r) : Ok Try.prog 19 [.agg [.int .i64 a0.Kind, .int .i64 a0.N, .str a0.Key, .str a0.Value, .sl 5 (List.map enc23 a0.Kids)]] [] [] (.bool r) [] [] := by
  unfold gleaninglaw13_Few at h
  refine ok_of_code Try.func19 rfl (by show (1 : Nat) ≤ _; decide) (Nat.le_refl _) fun X => ?_
  refine aw_seq_k (fun K1 hK1 => ?_)
  refine aw_regL ?_
  refine alD (some 1) rfl rfl (do_box (by conv => lhs; whnf) rfl rfl) (by decide) ?_
  refine alP (some 2) rfl rfl (does_assign (v := .bool false) (by exact rfl)) (by decide) ?_
  refine al_nil ?_
  refine hK1 _ ?_
  refine aw_seq_k (fun K2 hK2 => ?_)
  refine aw_regL ?_
  refine alR (some 3) rfl rfl (does_load (v := .agg [.int .i64 a0.Kind, .int .i64 a0.N, .str a0.Key, .str a0.Value, .sl 5 (List.map enc23 a0.Kids)]) (by conv => lhs; whnf) (by conv => lhs; whnf) ty24 (by exact rfl)) (by decide) ?_
  obtain ⟨x3, hx3, h⟩ := bnd_some h
  refine alD (some 4) rfl rfl (do_call0 4 false (gleaninglaw13_size_ok a0 0 hx3) rfl ent55 rfl rfl) (by decide) ?_
  refine alP (some 5) rfl rfl (does_bin (v := .bool (decide (x3 ≤ 100))) (by conv => lhs; whnf) (by conv => lhs; whnf) rfl) (by decide) ?_
  refine alP (some 2) rfl rfl (does_assign (v := .bool (decide (x3 ≤ 100))) (by exact rfl)) (by decide) ?_
  refine al_nil ?_
  refine hK2 _ ?_
  refine aw_ret ?_
  obtain rfl := Option.some.inj h
  exact ret_ok1 (by conv => lhs; whnf) (by conv => lhs; whnf) (by exact rfl) (.inr rfl) rfl
theorem sh3 : ∀ (m : Nat) (cs : List PV), Shape Try.prog m 3 cs → ∃ a : Int, cs = [.int .i64 a] ∧ (inI .i64 a) := fun m cs h => shape_i h Try.underlying3
theorem sh9 : ∀ (m : Nat) (cs : List PV), Shape Try.prog m 9 cs → ∃ a : ByteArray, cs = [.str a] ∧ ((ByteArray.size a) ≤ maxLen) := fun m cs h => shape_str h Try.underlying9
inductive Rule.wf : Rule → Prop
  | mk {y0 : Int} {y1 : Int} {y2 : ByteArray} {y3 : ByteArray} {y4 : List Rule} : (inI .i64 y0) → (inI .i64 y1) → ((ByteArray.size y2) ≤ maxLen) → ((ByteArray.size y3) ≤ maxLen) → List.length y4 ≤ maxLen → (∀ y ∈ y4, Rule.wf y) → Rule.wf (.mk y0 y1 y2 y3 y4)
theorem sh24 : ∀ (m : Nat) (cs : List PV), Shape Try.prog m 24 cs → ∃ a : Rule, cs = [.int .i64 a.Kind, .int .i64 a.N, .str a.Key, .str a.Value, .sl 5 (List.map enc23 a.Kids)] ∧ (Rule.wf a) := fun m => Nat.strongRecOn m fun m ih cs => by
  intro h
  obtain ⟨hl, m', hm, hf⟩ := shape_structR h Try.underlying24
  have f0 := hf 0 _ rfl
  obtain ⟨a0, e0, w0⟩ := sh3 _ _ f0
  rw [show Try.prog.cellsOf _ = 1 by kernel_rfl] at e0
  have f1 := hf 1 _ rfl
  obtain ⟨a1, e1, w1⟩ := sh3 _ _ f1
  rw [show Try.prog.cellsOf _ = 1 by kernel_rfl] at e1
  have f2 := hf 2 _ rfl
  obtain ⟨a2, e2, w2⟩ := sh9 _ _ f2
  rw [show Try.prog.cellsOf _ = 1 by kernel_rfl] at e2
  have f3 := hf 3 _ rfl
  obtain ⟨a3, e3, w3⟩ := sh9 _ _ f3
  rw [show Try.prog.cellsOf _ = 1 by kernel_rfl] at e3
  have f4 := hf 4 _ rfl
  obtain ⟨a4, e4, w4, v4⟩ := shape_rowsR (f := enc23) (Q := Rule.wf) f4 Try.underlying22 (fun k hk ps hs => by
    obtain ⟨a, rfl, hw⟩ := ih k (by omega) ps hs
    exact ⟨a, by rw [show aggT Try.prog 24 = true by kernel_rfl]; exact (enc23_eq a).symm, hw⟩)
  rw [show Try.prog.cellsOf 24 = 5 by kernel_rfl] at e4
  rw [show Try.prog.cellsOf _ = 1 by kernel_rfl] at e4
  exact ⟨⟨a0, a1, a2, a3, a4⟩, tile_all (l := [(1, [.int .i64 a0]), (1, [.int .i64 a1]), (1, [.str a2]), (1, [.str a3]), (1, [.sl 5 (List.map enc23 a4)])]) ⟨e0, e1, e2, e3, e4, trivial⟩ hl (by kernel_rfl), .mk w0 w1 w2 w3 w4 v4⟩
def span_Name (a0 : ByteArray) : Option Bool :=
  if (decide ((1 : Int) ≤ (ByteArray.size a0 : Int))) = true then (some (decide ((ByteArray.size a0 : Int) ≤ 16))) else (some false)
set_option maxRecDepth 100000 in
set_option maxHeartbeats 8000000 in
/-- gleaning/span.Name -/
theorem span_Name_ok (a0 : ByteArray) {r : Bool} (h : span_Name a0 = some r) : Ok Try.prog 65 [.str a0] [] [] (.bool r) [] [] := by
  unfold span_Name at h
  refine ok_of_code Try.func65 rfl (by show (1 : Nat) ≤ _; decide) (Nat.le_refl _) fun X => ?_
  refine aw_seq_k (fun K1 hK1 => ?_)
  refine aw_regL ?_
  refine alP (some 2) rfl rfl (does_assign (v := .bool false) (by exact rfl)) (by decide) ?_
  refine al_nil ?_
  refine hK1 _ ?_
  refine aw_seq_k (fun K2 hK2 => ?_)
  refine aw_regL ?_
  refine alP (some 3) rfl rfl (does_move (v := .str a0) (by exact rfl)) (by decide) ?_
  refine alP (some 4) rfl rfl (does_len_str (by conv => lhs; whnf) ty9) (by decide) ?_
  refine alP (some 5) rfl rfl (does_bin (v := .bool (decide ((1 : Int) ≤ (ByteArray.size a0 : Int)))) (by conv => lhs; whnf) (by conv => lhs; whnf) rfl) (by decide) ?_
  refine alP (some 6) rfl rfl (does_move (v := .bool (decide ((1 : Int) ≤ (ByteArray.size a0 : Int)))) (by exact rfl)) (by decide) ?_
  refine al_bool (c := (decide ((1 : Int) ≤ (ByteArray.size a0 : Int)))) 6 rfl (fun c3 => ?_) (fun c3 => ?_)
  · have h := ifT c3 h
    refine alP (some 7) rfl rfl (does_move (v := .str a0) (by exact rfl)) (by decide) ?_
    refine alP (some 8) rfl rfl (does_len_str (by conv => lhs; whnf) ty9) (by decide) ?_
    refine alP (some 9) rfl rfl (does_bin (v := .bool (decide ((ByteArray.size a0 : Int) ≤ 16))) (by conv => lhs; whnf) (by conv => lhs; whnf) rfl) (by decide) ?_
    refine alP (some 10) rfl rfl (does_pick (v := .bool (decide ((ByteArray.size a0 : Int) ≤ 16))) (by conv => lhs; whnf) (by exact rfl)) (by decide) ?_
    refine alP (some 2) rfl rfl (does_assign (v := .bool (decide ((ByteArray.size a0 : Int) ≤ 16))) (by exact rfl)) (by decide) ?_
    refine al_nil ?_
    refine hK2 _ ?_
    refine aw_ret ?_
    obtain rfl := Option.some.inj h
    exact ret_ok1 (by conv => lhs; whnf) (by conv => lhs; whnf) (by exact rfl) (.inr rfl) rfl
  · have h := ifF c3 h
    refine alS (some 7) rfl rfl (by decide) ?_
    refine alS (some 8) rfl rfl (by decide) ?_
    refine alS (some 9) rfl rfl (by decide) ?_
    refine alP (some 10) rfl rfl (does_pick (v := .bool false) (by conv => lhs; whnf) (by exact rfl)) (by decide) ?_
    refine alP (some 2) rfl rfl (does_assign (v := .bool false) (by exact rfl)) (by decide) ?_
    refine al_nil ?_
    refine hK2 _ ?_
    refine aw_ret ?_
    obtain rfl := Option.some.inj h
    exact ret_ok1 (by conv => lhs; whnf) (by conv => lhs; whnf) (by exact rfl) (.inr rfl) rfl
def rule_top_k0 (a0 : Int) (v6_0 : Bool) : Option Int :=
  if v6_0 = true then (some 1000) else (if (a0 == 9) = true then (some 1000000) else (some (-1)))
def rule_top (a0 : Int) : Option Int :=
  if (a0 == 4) = true then (some 1073741824) else (Option.bind (if (a0 == 7) = true then (some true) else (some (a0 == 8))) (fun (s : Bool) => rule_top_k0 a0 s))
set_option maxRecDepth 100000 in
set_option maxHeartbeats 8000000 in
/-- gleaning/rule.top -/
theorem rule_top_ok (a0 : Int) {r : Int} (h : rule_top a0 = some r) : Ok Try.prog 110 [.int .i64 a0] [] [] (.int .i64 r) [] [] := by
  unfold rule_top at h
  refine ok_of_code Try.func110 rfl (by show (1 : Nat) ≤ _; decide) (Nat.le_refl _) fun X => ?_
  refine aw_seq_k (fun K1 hK1 => ?_)
  refine aw_regL ?_
  refine alP (some 2) rfl rfl (does_assign (v := .int .i64 0) (by exact rfl)) (by decide) ?_
  refine al_nil ?_
  refine hK1 _ ?_
  refine aw_seq_k (fun K2 hK2 => ?_)
  refine aw_seq_k (fun K3 hK3 => ?_)
  refine aw_regL ?_
  refine alP (some 3) rfl rfl (does_move (v := .int .i64 a0) (by exact rfl)) (by decide) ?_
  refine al_nil ?_
  refine hK3 _ ?_
  refine aw_block ?_
  refine aw_seq_k (fun K4 hK4 => ?_)
  refine aw_regL ?_
  refine alP (some 5) rfl rfl (does_bin (v := .bool (a0 == 4)) (by conv => lhs; whnf) (by conv => lhs; whnf) rfl) (by decide) ?_
  refine alP (some 4) rfl rfl (does_assign (v := .bool (a0 == 4)) (by exact rfl)) (by decide) ?_
  refine al_nil ?_
  refine hK4 _ ?_
  refine aw_bool (b := (a0 == 4)) 4 rfl (fun c5 => ?_) (fun c5 => ?_)
  · have h := ifT c5 h
    refine aw_cond_t (by decide) rfl ?_
    refine aw_seq_k (fun K6 hK6 => ?_)
    refine aw_regL ?_
    refine alP (some 2) rfl rfl (does_assign (v := .int .i64 1073741824) (by exact rfl)) (by decide) ?_
    refine al_nil ?_
    refine hK6 _ ?_
    refine aw_ret ?_
    obtain rfl := Option.some.inj h
    exact ret_ok1 (by conv => lhs; whnf) (by conv => lhs; whnf) (by exact rfl) (.inr rfl) rfl
  · have h := ifF c5 h
    refine aw_cond_f (by decide) rfl ?_
    obtain ⟨q7, h, hk8⟩ := bnd_some h
    refine aw_cut (fun s => ∃ (v6_0 : Bool), rule_top_k0 a0 v6_0 = some r ∧ s = lit [(3, .int .i64 a0), (6, .bool v6_0)] [] [] X) ?_ ?_
    · skip
      refine aw_seq_k (fun K9 hK9 => ?_)
      refine aw_regL ?_
      refine alP (some 7) rfl rfl (does_bin (v := .bool (a0 == 7)) (by conv => lhs; whnf) (by conv => lhs; whnf) rfl) (by decide) ?_
      refine alP (some 6) rfl rfl (does_assign (v := .bool (a0 == 7)) (by exact rfl)) (by decide) ?_
      refine al_nil ?_
      refine hK9 _ ?_
      refine aw_bool (b := (a0 == 7)) 6 rfl (fun c10 => ?_) (fun c10 => ?_)
      · have h := ifT c10 h
        refine aw_cond_t (by decide) rfl ?_
        refine aw_skip ?_
        obtain rfl := Option.some.inj h
        have h := hk8
        exact ⟨_, reb_lit [(3, .int .i64 a0), (6, .bool true)] [] [] [] (envOk_cons (by conv => lhs; whnf) (by exact rfl) (envOk_cons (by conv => lhs; whnf) (by exact rfl) envOk_nil)) objOk_nil (nodup_b rfl) (nodup_b rfl) rfl rfl, true, h, rfl⟩
      · have h := ifF c10 h
        refine aw_cond_f (by decide) rfl ?_
        refine aw_regL ?_
        refine alP (some 8) rfl rfl (does_bin (v := .bool (a0 == 8)) (by conv => lhs; whnf) (by conv => lhs; whnf) rfl) (by decide) ?_
        refine alP (some 6) rfl rfl (does_assign (v := .bool (a0 == 8)) (by exact rfl)) (by decide) ?_
        refine al_nil ?_
        obtain rfl := Option.some.inj h
        have h := hk8
        exact ⟨_, reb_lit [(3, .int .i64 a0), (6, .bool (a0 == 8))] [] [] [] (envOk_cons (by conv => lhs; whnf) (by exact rfl) (envOk_cons (by conv => lhs; whnf) (by exact rfl) envOk_nil)) objOk_nil (nodup_b rfl) (nodup_b rfl) rfl rfl, (a0 == 8), h, rfl⟩
    · rintro s ⟨v6_0, h, rfl⟩
      unfold rule_top_k0 at h
      refine aw_bool (b := v6_0) 6 rfl (fun c11 => ?_) (fun c11 => ?_)
      · have h := ifT c11 h
        refine aw_cond_t (by decide) rfl ?_
        refine aw_seq_k (fun K12 hK12 => ?_)
        refine aw_regL ?_
        refine alP (some 2) rfl rfl (does_assign (v := .int .i64 1000) (by exact rfl)) (by decide) ?_
        refine al_nil ?_
        refine hK12 _ ?_
        refine aw_ret ?_
        obtain rfl := Option.some.inj h
        exact ret_ok1 (by conv => lhs; whnf) (by conv => lhs; whnf) (by exact rfl) (.inr rfl) rfl
      · have h := ifF c11 h
        refine aw_cond_f (by decide) rfl ?_
        refine aw_seq_k (fun K13 hK13 => ?_)
        refine aw_regL ?_
        refine alP (some 10) rfl rfl (does_bin (v := .bool (a0 == 9)) (by conv => lhs; whnf) (by conv => lhs; whnf) rfl) (by decide) ?_
        refine alP (some 9) rfl rfl (does_assign (v := .bool (a0 == 9)) (by exact rfl)) (by decide) ?_
        refine al_nil ?_
        refine hK13 _ ?_
        refine aw_bool (b := (a0 == 9)) 9 rfl (fun c14 => ?_) (fun c14 => ?_)
        · have h := ifT c14 h
          refine aw_cond_t (by decide) rfl ?_
          refine aw_seq_k (fun K15 hK15 => ?_)
          refine aw_regL ?_
          refine alP (some 2) rfl rfl (does_assign (v := .int .i64 1000000) (by exact rfl)) (by decide) ?_
          refine al_nil ?_
          refine hK15 _ ?_
          refine aw_ret ?_
          obtain rfl := Option.some.inj h
          exact ret_ok1 (by conv => lhs; whnf) (by conv => lhs; whnf) (by exact rfl) (.inr rfl) rfl
        · have h := ifF c14 h
          refine aw_cond_f (by decide) rfl ?_
          refine aw_skip ?_
          refine hK2 _ ?_
          refine aw_seq_k (fun K16 hK16 => ?_)
          refine aw_regL ?_
          refine alP (some 2) rfl rfl (does_assign (v := .int .i64 (-1)) (by exact rfl)) (by decide) ?_
          refine al_nil ?_
          refine hK16 _ ?_
          refine aw_ret ?_
          obtain rfl := Option.some.inj h
          exact ret_ok1 (by conv => lhs; whnf) (by conv => lhs; whnf) (by exact rfl) (.inr rfl) rfl
def rule_own_k2 (a0 : Rule) (v3_0 : Bool) (v14_2 : Bool) : Option (Unit ⊕ Bool) :=
  if v14_2 = true then (if (a0.N == 0) = true then (some (Sum.inr v3_0)) else (some (Sum.inr false))) else (if (a0.Kind == 3) = true then (if (a0.N == 0) = true then (if v3_0 = true then (some (Sum.inr ((List.length a0.Kids : Int) == 1))) else (some (Sum.inr false))) else (some (Sum.inr false))) else (if (a0.Kind == 5) = true then (if (a0.N == 0) = true then (if v3_0 = true then (some (Sum.inr ((List.length a0.Kids : Int) == 0))) else (some (Sum.inr false))) else (some (Sum.inr false))) else (if (a0.Kind == 6) = true then (if (a0.N == 0) = true then (Option.bind (span_Name a0.Key) (fun (x29 : Bool) => if x29 = true then (if (decide ((ByteArray.size a0.Value : Int) ≤ 16)) = true then (some (Sum.inr ((List.length a0.Kids : Int) == 0))) else (some (Sum.inr false))) else (some (Sum.inr false)))) else (some (Sum.inr false))) else (some (Sum.inl ())))))
def rule_own_k1 (a0 : Rule) (v3_0 : Bool) : Option Bool :=
  if v3_0 = true then (if (decide ((0 : Int) ≤ a0.N)) = true then (Option.bind (rule_top a0.Kind) (fun (x35 : Int) => if (decide (a0.N ≤ x35)) = true then (some ((List.length a0.Kids : Int) == 0)) else (some false))) else (some false)) else (some false)
def rule_own_k0 (a0 : Rule) (v3_0 : Bool) : Option Bool :=
  Option.bind (Option.bind (if (a0.Kind == 1) = true then (some true) else (some (a0.Kind == 2))) (fun (s : Bool) => rule_own_k2 a0 v3_0 s)) (Sum.elim (fun (s : Unit) => rule_own_k1 a0 v3_0) some)
def rule_own (a0 : Rule) : Option Bool :=
  Option.bind (if (ByteArray.toList a0.Key == ByteArray.toList (strOf [])) = true then (some (ByteArray.toList a0.Value == ByteArray.toList (strOf []))) else (some false)) (fun (s : Bool) => rule_own_k0 a0 s)
set_option maxRecDepth 100000 in
set_option maxHeartbeats 8000000 in
/-- gleaning/rule.own -/
theorem rule_own_ok (a0 : Rule) {r : Bool} (h : rule_own a0 = some r) : Ok Try.prog 111 [.agg [.int .i64 a0.Kind, .int .i64 a0.N, .str a0.Key, .str a0.Value, .sl 5 (List.map enc23 a0.Kids)]] [] [] (.bool r) [] [] := by
  unfold rule_own at h
  refine ok_of_code Try.func111 rfl (by show (1 : Nat) ≤ _; decide) (Nat.le_refl _) fun X => ?_
  refine aw_seq_k (fun K1 hK1 => ?_)
  refine aw_regL ?_
  refine alD (some 1) rfl rfl (do_box (by conv => lhs; whnf) rfl rfl) (by decide) ?_
  refine alP (some 2) rfl rfl (does_assign (v := .bool false) (by exact rfl)) (by decide) ?_
  refine al_nil ?_
  refine hK1 _ ?_
  obtain ⟨q2, h, hk3⟩ := bnd_some h
  refine aw_cut (fun s => ∃ (v3_0 : Bool), rule_own_k0 a0 v3_0 = some r ∧ s = lit [(1, .ptr 1 0 0), (3, .bool v3_0)] [((1, 0), .box [.int .i64 a0.Kind, .int .i64 a0.N, .str a0.Key, .str a0.Value, .sl 5 (List.map enc23 a0.Kids)])] [(1, 1)] X) ?_ ?_
  · skip
    refine aw_regL ?_
    refine alP (some 4) rfl rfl (does_fieldAddr (q := .ptr 1 0 2) (by conv => lhs; whnf) ty24 rfl ty9 (by decide) (by exact rfl)) (by decide) ?_
    refine alR (some 5) rfl rfl (does_load (v := .str a0.Key) (by conv => lhs; whnf) (by conv => lhs; whnf) ty9 (by exact rfl)) (by decide) ?_
    refine alP (some 6) rfl rfl (does_bin (v := .bool (ByteArray.toList a0.Key == ByteArray.toList (strOf []))) (by conv => lhs; whnf) (by conv => lhs; whnf) rfl) (by decide) ?_
    refine alP (some 7) rfl rfl (does_move (v := .bool (ByteArray.toList a0.Key == ByteArray.toList (strOf []))) (by exact rfl)) (by decide) ?_
    refine al_bool (c := (ByteArray.toList a0.Key == ByteArray.toList (strOf []))) 7 rfl (fun c4 => ?_) (fun c4 => ?_)
    · have h := ifT c4 h
      refine alP (some 8) rfl rfl (does_fieldAddr (q := .ptr 1 0 3) (by conv => lhs; whnf) ty24 rfl ty9 (by decide) (by exact rfl)) (by decide) ?_
      refine alR (some 9) rfl rfl (does_load (v := .str a0.Value) (by conv => lhs; whnf) (by conv => lhs; whnf) ty9 (by exact rfl)) (by decide) ?_
      refine alP (some 10) rfl rfl (does_bin (v := .bool (ByteArray.toList a0.Value == ByteArray.toList (strOf []))) (by conv => lhs; whnf) (by conv => lhs; whnf) rfl) (by decide) ?_
      refine alP (some 11) rfl rfl (does_pick (v := .bool (ByteArray.toList a0.Value == ByteArray.toList (strOf []))) (by conv => lhs; whnf) (by exact rfl)) (by decide) ?_
      refine alP (some 3) rfl rfl (does_assign (v := .bool (ByteArray.toList a0.Value == ByteArray.toList (strOf []))) (by exact rfl)) (by decide) ?_
      refine al_nil ?_
      obtain rfl := Option.some.inj h
      have h := hk3
      exact ⟨_, reb_lit [(1, .ptr 1 0 0), (3, .bool (ByteArray.toList a0.Value == ByteArray.toList (strOf [])))] [(1, 0)] [((1, 0), .box [.int .i64 a0.Kind, .int .i64 a0.N, .str a0.Key, .str a0.Value, .sl 5 (List.map enc23 a0.Kids)])] [(1, 1)] (envOk_cons (by conv => lhs; whnf) (by exact rfl) (envOk_cons (by conv => lhs; whnf) (by exact rfl) envOk_nil)) (objOk_cons (by conv => lhs; whnf) (by conv => lhs; whnf) (by exact rfl) (by simp) objOk_nil) (nodup_b rfl) (nodup_b rfl) rfl rfl, (ByteArray.toList a0.Value == ByteArray.toList (strOf [])), h, rfl⟩
    · have h := ifF c4 h
      refine alS (some 8) rfl rfl (by decide) ?_
      refine alS (some 9) rfl rfl (by decide) ?_
      refine alS (some 10) rfl rfl (by decide) ?_
      refine alP (some 11) rfl rfl (does_pick (v := .bool false) (by conv => lhs; whnf) (by exact rfl)) (by decide) ?_
      refine alP (some 3) rfl rfl (does_assign (v := .bool false) (by exact rfl)) (by decide) ?_
      refine al_nil ?_
      obtain rfl := Option.some.inj h
      have h := hk3
      exact ⟨_, reb_lit [(1, .ptr 1 0 0), (3, .bool false)] [(1, 0)] [((1, 0), .box [.int .i64 a0.Kind, .int .i64 a0.N, .str a0.Key, .str a0.Value, .sl 5 (List.map enc23 a0.Kids)])] [(1, 1)] (envOk_cons (by conv => lhs; whnf) (by exact rfl) (envOk_cons (by conv => lhs; whnf) (by exact rfl) envOk_nil)) (objOk_cons (by conv => lhs; whnf) (by conv => lhs; whnf) (by exact rfl) (by simp) objOk_nil) (nodup_b rfl) (nodup_b rfl) rfl rfl, false, h, rfl⟩
  · rintro s ⟨v3_0, h, rfl⟩
    unfold rule_own_k0 at h
    obtain ⟨q5, h, hk6⟩ := bnd_some h
    refine aw_cut (fun s => rule_own_k1 a0 v3_0 = some r ∧ s = lit [(1, .ptr 1 0 0), (3, .bool v3_0)] [((1, 0), .box [.int .i64 a0.Kind, .int .i64 a0.N, .str a0.Key, .str a0.Value, .sl 5 (List.map enc23 a0.Kids)])] [(1, 1)] X) ?_ ?_
    · skip
      refine aw_seq_k (fun K7 hK7 => ?_)
      refine aw_regL ?_
      refine alP (some 12) rfl rfl (does_fieldAddr (q := .ptr 1 0 0) (by conv => lhs; whnf) ty24 rfl ty3 (by decide) (by exact rfl)) (by decide) ?_
      refine alR (some 13) rfl rfl (does_load (v := .int .i64 a0.Kind) (by conv => lhs; whnf) (by conv => lhs; whnf) ty3 (by exact rfl)) (by decide) ?_
      refine al_nil ?_
      refine hK7 _ ?_
      refine aw_block ?_
      obtain ⟨q8, h, hk9⟩ := bnd_some h
      refine aw_cut (fun s => ∃ (v14_2 : Bool), rule_own_k2 a0 v3_0 v14_2 = some q5 ∧ s = lit [(1, .ptr 1 0 0), (3, .bool v3_0), (13, .int .i64 a0.Kind), (14, .bool v14_2)] [((1, 0), .box [.int .i64 a0.Kind, .int .i64 a0.N, .str a0.Key, .str a0.Value, .sl 5 (List.map enc23 a0.Kids)])] [(1, 1)] X) ?_ ?_
      · skip
        refine aw_seq_k (fun K10 hK10 => ?_)
        refine aw_regL ?_
        refine alP (some 15) rfl rfl (does_bin (v := .bool (a0.Kind == 1)) (by conv => lhs; whnf) (by conv => lhs; whnf) rfl) (by decide) ?_
        refine alP (some 14) rfl rfl (does_assign (v := .bool (a0.Kind == 1)) (by exact rfl)) (by decide) ?_
        refine al_nil ?_
        refine hK10 _ ?_
        refine aw_bool (b := (a0.Kind == 1)) 14 rfl (fun c11 => ?_) (fun c11 => ?_)
        · have h := ifT c11 h
          refine aw_cond_t (by decide) rfl ?_
          refine aw_skip ?_
          obtain rfl := Option.some.inj h
          have h := hk9
          exact ⟨_, reb_lit [(1, .ptr 1 0 0), (3, .bool v3_0), (13, .int .i64 a0.Kind), (14, .bool true)] [(1, 0)] [((1, 0), .box [.int .i64 a0.Kind, .int .i64 a0.N, .str a0.Key, .str a0.Value, .sl 5 (List.map enc23 a0.Kids)])] [(1, 1)] (envOk_cons (by conv => lhs; whnf) (by exact rfl) (envOk_cons (by conv => lhs; whnf) (by exact rfl) (envOk_cons (by conv => lhs; whnf) (by exact rfl) (envOk_cons (by conv => lhs; whnf) (by exact rfl) envOk_nil)))) (objOk_cons (by conv => lhs; whnf) (by conv => lhs; whnf) (by exact rfl) (by simp) objOk_nil) (nodup_b rfl) (nodup_b rfl) rfl rfl, true, h, rfl⟩
        · have h := ifF c11 h
          refine aw_cond_f (by decide) rfl ?_
          refine aw_regL ?_
          refine alP (some 16) rfl rfl (does_bin (v := .bool (a0.Kind == 2)) (by conv => lhs; whnf) (by conv => lhs; whnf) rfl) (by decide) ?_
          refine alP (some 14) rfl rfl (does_assign (v := .bool (a0.Kind == 2)) (by exact rfl)) (by decide) ?_
          refine al_nil ?_
          obtain rfl := Option.some.inj h
          have h := hk9
          exact ⟨_, reb_lit [(1, .ptr 1 0 0), (3, .bool v3_0), (13, .int .i64 a0.Kind), (14, .bool (a0.Kind == 2))] [(1, 0)] [((1, 0), .box [.int .i64 a0.Kind, .int .i64 a0.N, .str a0.Key, .str a0.Value, .sl 5 (List.map enc23 a0.Kids)])] [(1, 1)] (envOk_cons (by conv => lhs; whnf) (by exact rfl) (envOk_cons (by conv => lhs; whnf) (by exact rfl) (envOk_cons (by conv => lhs; whnf) (by exact rfl) (envOk_cons (by conv => lhs; whnf) (by exact rfl) envOk_nil)))) (objOk_cons (by conv => lhs; whnf) (by conv => lhs; whnf) (by exact rfl) (by simp) objOk_nil) (nodup_b rfl) (nodup_b rfl) rfl rfl, (a0.Kind == 2), h, rfl⟩
      · rintro s ⟨v14_2, h, rfl⟩
        unfold rule_own_k2 at h
        refine aw_bool (b := v14_2) 14 rfl (fun c12 => ?_) (fun c12 => ?_)
        · have h := ifT c12 h
          refine aw_cond_t (by decide) rfl ?_
          refine aw_seq_k (fun K13 hK13 => ?_)
          refine aw_regL ?_
          refine alP (some 17) rfl rfl (does_fieldAddr (q := .ptr 1 0 1) (by conv => lhs; whnf) ty24 rfl ty3 (by decide) (by exact rfl)) (by decide) ?_
          refine alR (some 18) rfl rfl (does_load (v := .int .i64 a0.N) (by conv => lhs; whnf) (by conv => lhs; whnf) ty3 (by exact rfl)) (by decide) ?_
          refine alP (some 19) rfl rfl (does_bin (v := .bool (a0.N == 0)) (by conv => lhs; whnf) (by conv => lhs; whnf) rfl) (by decide) ?_
          refine alP (some 20) rfl rfl (does_move (v := .bool (a0.N == 0)) (by exact rfl)) (by decide) ?_
          refine al_bool (c := (a0.N == 0)) 20 rfl (fun c14 => ?_) (fun c14 => ?_)
          · have h := ifT c14 h
            refine alP (some 21) rfl rfl (does_move (v := .bool v3_0) (by exact rfl)) (by decide) ?_
            refine alP (some 22) rfl rfl (does_pick (v := .bool v3_0) (by conv => lhs; whnf) (by exact rfl)) (by decide) ?_
            refine alP (some 2) rfl rfl (does_assign (v := .bool v3_0) (by exact rfl)) (by decide) ?_
            refine al_nil ?_
            refine hK13 _ ?_
            refine aw_ret ?_
            have h := leafR h hk6
            obtain rfl := Option.some.inj h
            exact ret_ok1 (by conv => lhs; whnf) (by conv => lhs; whnf) (by exact rfl) (.inr rfl) rfl
          · have h := ifF c14 h
            refine alS (some 21) rfl rfl (by decide) ?_
            refine alP (some 22) rfl rfl (does_pick (v := .bool false) (by conv => lhs; whnf) (by exact rfl)) (by decide) ?_
            refine alP (some 2) rfl rfl (does_assign (v := .bool false) (by exact rfl)) (by decide) ?_
            refine al_nil ?_
            refine hK13 _ ?_
            refine aw_ret ?_
            have h := leafR h hk6
            obtain rfl := Option.some.inj h
            exact ret_ok1 (by conv => lhs; whnf) (by conv => lhs; whnf) (by exact rfl) (.inr rfl) rfl
        · have h := ifF c12 h
          refine aw_cond_f (by decide) rfl ?_
          refine aw_seq_k (fun K15 hK15 => ?_)
          refine aw_regL ?_
          refine alP (some 24) rfl rfl (does_bin (v := .bool (a0.Kind == 3)) (by conv => lhs; whnf) (by conv => lhs; whnf) rfl) (by decide) ?_
          refine alP (some 23) rfl rfl (does_assign (v := .bool (a0.Kind == 3)) (by exact rfl)) (by decide) ?_
          refine al_nil ?_
          refine hK15 _ ?_
          refine aw_bool (b := (a0.Kind == 3)) 23 rfl (fun c16 => ?_) (fun c16 => ?_)
          · have h := ifT c16 h
            refine aw_cond_t (by decide) rfl ?_
            refine aw_seq_k (fun K17 hK17 => ?_)
            refine aw_regL ?_
            refine alP (some 25) rfl rfl (does_fieldAddr (q := .ptr 1 0 1) (by conv => lhs; whnf) ty24 rfl ty3 (by decide) (by exact rfl)) (by decide) ?_
            refine alR (some 26) rfl rfl (does_load (v := .int .i64 a0.N) (by conv => lhs; whnf) (by conv => lhs; whnf) ty3 (by exact rfl)) (by decide) ?_
            refine alP (some 27) rfl rfl (does_bin (v := .bool (a0.N == 0)) (by conv => lhs; whnf) (by conv => lhs; whnf) rfl) (by decide) ?_
            refine alP (some 28) rfl rfl (does_move (v := .bool (a0.N == 0)) (by exact rfl)) (by decide) ?_
            refine al_bool (c := (a0.N == 0)) 28 rfl (fun c18 => ?_) (fun c18 => ?_)
            · have h := ifT c18 h
              refine alP (some 29) rfl rfl (does_move (v := .bool v3_0) (by exact rfl)) (by decide) ?_
              refine alP (some 30) rfl rfl (does_pick (v := .bool v3_0) (by conv => lhs; whnf) (by exact rfl)) (by decide) ?_
              refine alP (some 31) rfl rfl (does_move (v := .bool v3_0) (by exact rfl)) (by decide) ?_
              refine al_bool (c := v3_0) 31 rfl (fun c19 => ?_) (fun c19 => ?_)
              · have h := ifT c19 h
                refine alP (some 32) rfl rfl (does_fieldAddr (q := .ptr 1 0 4) (by conv => lhs; whnf) ty24 rfl ty22 (by decide) (by exact rfl)) (by decide) ?_
                refine alR (some 33) rfl rfl (does_load (v := .sl 5 (List.map enc23 a0.Kids)) (by conv => lhs; whnf) (by conv => lhs; whnf) ty22 (by exact rfl)) (by decide) ?_
                refine alP (some 34) rfl rfl ((does_len_sl (by conv => lhs; whnf) ty22).castp (v' := .int .i64 (List.length a0.Kids : Int)) (by exact len_map _)) (by decide) ?_
                refine alP (some 35) rfl rfl (does_bin (v := .bool ((List.length a0.Kids : Int) == 1)) (by conv => lhs; whnf) (by conv => lhs; whnf) rfl) (by decide) ?_
                refine alP (some 36) rfl rfl (does_pick (v := .bool ((List.length a0.Kids : Int) == 1)) (by conv => lhs; whnf) (by exact rfl)) (by decide) ?_
                refine alP (some 2) rfl rfl (does_assign (v := .bool ((List.length a0.Kids : Int) == 1)) (by exact rfl)) (by decide) ?_
                refine al_nil ?_
                refine hK17 _ ?_
                refine aw_ret ?_
                have h := leafR h hk6
                obtain rfl := Option.some.inj h
                exact ret_ok1 (by conv => lhs; whnf) (by conv => lhs; whnf) (by exact rfl) (.inr rfl) rfl
              · have h := ifF c19 h
                refine alS (some 32) rfl rfl (by decide) ?_
                refine alS (some 33) rfl rfl (by decide) ?_
                refine alS (some 34) rfl rfl (by decide) ?_
                refine alS (some 35) rfl rfl (by decide) ?_
                refine alP (some 36) rfl rfl (does_pick (v := .bool false) (by conv => lhs; whnf) (by exact rfl)) (by decide) ?_
                refine alP (some 2) rfl rfl (does_assign (v := .bool false) (by exact rfl)) (by decide) ?_
                refine al_nil ?_
                refine hK17 _ ?_
                refine aw_ret ?_
                have h := leafR h hk6
                obtain rfl := Option.some.inj h
                exact ret_ok1 (by conv => lhs; whnf) (by conv => lhs; whnf) (by exact rfl) (.inr rfl) rfl
            · have h := ifF c18 h
              refine alS (some 29) rfl rfl (by decide) ?_
              refine alP (some 30) rfl rfl (does_pick (v := .bool false) (by conv => lhs; whnf) (by exact rfl)) (by decide) ?_
              refine alP (some 31) rfl rfl (does_move (v := .bool false) (by exact rfl)) (by decide) ?_
              refine alS (some 32) rfl rfl (by decide) ?_
              refine alS (some 33) rfl rfl (by decide) ?_
              refine alS (some 34) rfl rfl (by decide) ?_
              refine alS (some 35) rfl rfl (by decide) ?_
              refine alP (some 36) rfl rfl (does_pick (v := .bool false) (by conv => lhs; whnf) (by exact rfl)) (by decide) ?_
              refine alP (some 2) rfl rfl (does_assign (v := .bool false) (by exact rfl)) (by decide) ?_
              refine al_nil ?_
              refine hK17 _ ?_
              refine aw_ret ?_
              have h := leafR h hk6
              obtain rfl := Option.some.inj h
              exact ret_ok1 (by conv => lhs; whnf) (by conv => lhs; whnf) (by exact rfl) (.inr rfl) rfl
          · have h := ifF c16 h
            refine aw_cond_f (by decide) rfl ?_
            refine aw_seq_k (fun K20 hK20 => ?_)
            refine aw_regL ?_
            refine alP (some 38) rfl rfl (does_bin (v := .bool (a0.Kind == 5)) (by conv => lhs; whnf) (by conv => lhs; whnf) rfl) (by decide) ?_
            refine alP (some 37) rfl rfl (does_assign (v := .bool (a0.Kind == 5)) (by exact rfl)) (by decide) ?_
            refine al_nil ?_
            refine hK20 _ ?_
            refine aw_bool (b := (a0.Kind == 5)) 37 rfl (fun c21 => ?_) (fun c21 => ?_)
            · have h := ifT c21 h
              refine aw_cond_t (by decide) rfl ?_
              refine aw_seq_k (fun K22 hK22 => ?_)
              refine aw_regL ?_
              refine alP (some 39) rfl rfl (does_fieldAddr (q := .ptr 1 0 1) (by conv => lhs; whnf) ty24 rfl ty3 (by decide) (by exact rfl)) (by decide) ?_
              refine alR (some 40) rfl rfl (does_load (v := .int .i64 a0.N) (by conv => lhs; whnf) (by conv => lhs; whnf) ty3 (by exact rfl)) (by decide) ?_
              refine alP (some 41) rfl rfl (does_bin (v := .bool (a0.N == 0)) (by conv => lhs; whnf) (by conv => lhs; whnf) rfl) (by decide) ?_
              refine alP (some 42) rfl rfl (does_move (v := .bool (a0.N == 0)) (by exact rfl)) (by decide) ?_
              refine al_bool (c := (a0.N == 0)) 42 rfl (fun c23 => ?_) (fun c23 => ?_)
              · have h := ifT c23 h
                refine alP (some 43) rfl rfl (does_move (v := .bool v3_0) (by exact rfl)) (by decide) ?_
                refine alP (some 44) rfl rfl (does_pick (v := .bool v3_0) (by conv => lhs; whnf) (by exact rfl)) (by decide) ?_
                refine alP (some 45) rfl rfl (does_move (v := .bool v3_0) (by exact rfl)) (by decide) ?_
                refine al_bool (c := v3_0) 45 rfl (fun c24 => ?_) (fun c24 => ?_)
                · have h := ifT c24 h
                  refine alP (some 46) rfl rfl (does_fieldAddr (q := .ptr 1 0 4) (by conv => lhs; whnf) ty24 rfl ty22 (by decide) (by exact rfl)) (by decide) ?_
                  refine alR (some 47) rfl rfl (does_load (v := .sl 5 (List.map enc23 a0.Kids)) (by conv => lhs; whnf) (by conv => lhs; whnf) ty22 (by exact rfl)) (by decide) ?_
                  refine alP (some 48) rfl rfl ((does_len_sl (by conv => lhs; whnf) ty22).castp (v' := .int .i64 (List.length a0.Kids : Int)) (by exact len_map _)) (by decide) ?_
                  refine alP (some 49) rfl rfl (does_bin (v := .bool ((List.length a0.Kids : Int) == 0)) (by conv => lhs; whnf) (by conv => lhs; whnf) rfl) (by decide) ?_
                  refine alP (some 50) rfl rfl (does_pick (v := .bool ((List.length a0.Kids : Int) == 0)) (by conv => lhs; whnf) (by exact rfl)) (by decide) ?_
                  refine alP (some 2) rfl rfl (does_assign (v := .bool ((List.length a0.Kids : Int) == 0)) (by exact rfl)) (by decide) ?_
                  refine al_nil ?_
                  refine hK22 _ ?_
                  refine aw_ret ?_
                  have h := leafR h hk6
                  obtain rfl := Option.some.inj h
                  exact ret_ok1 (by conv => lhs; whnf) (by conv => lhs; whnf) (by exact rfl) (.inr rfl) rfl
                · have h := ifF c24 h
                  refine alS (some 46) rfl rfl (by decide) ?_
                  refine alS (some 47) rfl rfl (by decide) ?_
                  refine alS (some 48) rfl rfl (by decide) ?_
                  refine alS (some 49) rfl rfl (by decide) ?_
                  refine alP (some 50) rfl rfl (does_pick (v := .bool false) (by conv => lhs; whnf) (by exact rfl)) (by decide) ?_
                  refine alP (some 2) rfl rfl (does_assign (v := .bool false) (by exact rfl)) (by decide) ?_
                  refine al_nil ?_
                  refine hK22 _ ?_
                  refine aw_ret ?_
                  have h := leafR h hk6
                  obtain rfl := Option.some.inj h
                  exact ret_ok1 (by conv => lhs; whnf) (by conv => lhs; whnf) (by exact rfl) (.inr rfl) rfl
              · have h := ifF c23 h
                refine alS (some 43) rfl rfl (by decide) ?_
                refine alP (some 44) rfl rfl (does_pick (v := .bool false) (by conv => lhs; whnf) (by exact rfl)) (by decide) ?_
                refine alP (some 45) rfl rfl (does_move (v := .bool false) (by exact rfl)) (by decide) ?_
                refine alS (some 46) rfl rfl (by decide) ?_
                refine alS (some 47) rfl rfl (by decide) ?_
                refine alS (some 48) rfl rfl (by decide) ?_
                refine alS (some 49) rfl rfl (by decide) ?_
                refine alP (some 50) rfl rfl (does_pick (v := .bool false) (by conv => lhs; whnf) (by exact rfl)) (by decide) ?_
                refine alP (some 2) rfl rfl (does_assign (v := .bool false) (by exact rfl)) (by decide) ?_
                refine al_nil ?_
                refine hK22 _ ?_
                refine aw_ret ?_
                have h := leafR h hk6
                obtain rfl := Option.some.inj h
                exact ret_ok1 (by conv => lhs; whnf) (by conv => lhs; whnf) (by exact rfl) (.inr rfl) rfl
            · have h := ifF c21 h
              refine aw_cond_f (by decide) rfl ?_
              refine aw_seq_k (fun K25 hK25 => ?_)
              refine aw_regL ?_
              refine alP (some 52) rfl rfl (does_bin (v := .bool (a0.Kind == 6)) (by conv => lhs; whnf) (by conv => lhs; whnf) rfl) (by decide) ?_
              refine alP (some 51) rfl rfl (does_assign (v := .bool (a0.Kind == 6)) (by exact rfl)) (by decide) ?_
              refine al_nil ?_
              refine hK25 _ ?_
              refine aw_bool (b := (a0.Kind == 6)) 51 rfl (fun c26 => ?_) (fun c26 => ?_)
              · have h := ifT c26 h
                refine aw_cond_t (by decide) rfl ?_
                refine aw_seq_k (fun K27 hK27 => ?_)
                refine aw_regL ?_
                refine alP (some 53) rfl rfl (does_fieldAddr (q := .ptr 1 0 1) (by conv => lhs; whnf) ty24 rfl ty3 (by decide) (by exact rfl)) (by decide) ?_
                refine alR (some 54) rfl rfl (does_load (v := .int .i64 a0.N) (by conv => lhs; whnf) (by conv => lhs; whnf) ty3 (by exact rfl)) (by decide) ?_
                refine alP (some 55) rfl rfl (does_bin (v := .bool (a0.N == 0)) (by conv => lhs; whnf) (by conv => lhs; whnf) rfl) (by decide) ?_
                refine alP (some 56) rfl rfl (does_move (v := .bool (a0.N == 0)) (by exact rfl)) (by decide) ?_
                refine al_bool (c := (a0.N == 0)) 56 rfl (fun c28 => ?_) (fun c28 => ?_)
                · have h := ifT c28 h
                  refine alP (some 57) rfl rfl (does_fieldAddr (q := .ptr 1 0 2) (by conv => lhs; whnf) ty24 rfl ty9 (by decide) (by exact rfl)) (by decide) ?_
                  refine alR (some 58) rfl rfl (does_load (v := .str a0.Key) (by conv => lhs; whnf) (by conv => lhs; whnf) ty9 (by exact rfl)) (by decide) ?_
                  obtain ⟨x29, hx29, h⟩ := bnd_some h
                  refine alD (some 59) rfl rfl ((do_call0 59 false (span_Name_ok a0.Key hx29) rfl ent65 rfl rfl).fx (y := ⟨[], .bool x29, [], [59]⟩) rfl) (by decide) ?_
                  refine alP (some 60) rfl rfl (does_pick (v := .bool x29) (by conv => lhs; whnf) (by exact rfl)) (by decide) ?_
                  refine alP (some 61) rfl rfl (does_move (v := .bool x29) (by exact rfl)) (by decide) ?_
                  refine al_bool (c := x29) 61 rfl (fun c30 => ?_) (fun c30 => ?_)
                  · have h := ifT c30 h
                    refine alP (some 62) rfl rfl (does_fieldAddr (q := .ptr 1 0 3) (by conv => lhs; whnf) ty24 rfl ty9 (by decide) (by exact rfl)) (by decide) ?_
                    refine alR (some 63) rfl rfl (does_load (v := .str a0.Value) (by conv => lhs; whnf) (by conv => lhs; whnf) ty9 (by exact rfl)) (by decide) ?_
                    refine alP (some 64) rfl rfl (does_len_str (by conv => lhs; whnf) ty9) (by decide) ?_
                    refine alP (some 65) rfl rfl (does_bin (v := .bool (decide ((ByteArray.size a0.Value : Int) ≤ 16))) (by conv => lhs; whnf) (by conv => lhs; whnf) rfl) (by decide) ?_
                    refine alP (some 66) rfl rfl (does_pick (v := .bool (decide ((ByteArray.size a0.Value : Int) ≤ 16))) (by conv => lhs; whnf) (by exact rfl)) (by decide) ?_
                    refine alP (some 67) rfl rfl (does_move (v := .bool (decide ((ByteArray.size a0.Value : Int) ≤ 16))) (by exact rfl)) (by decide) ?_
                    refine al_bool (c := (decide ((ByteArray.size a0.Value : Int) ≤ 16))) 67 rfl (fun c31 => ?_) (fun c31 => ?_)
                    · have h := ifT c31 h
                      refine alP (some 68) rfl rfl (does_fieldAddr (q := .ptr 1 0 4) (by conv => lhs; whnf) ty24 rfl ty22 (by decide) (by exact rfl)) (by decide) ?_
                      refine alR (some 69) rfl rfl (does_load (v := .sl 5 (List.map enc23 a0.Kids)) (by conv => lhs; whnf) (by conv => lhs; whnf) ty22 (by exact rfl)) (by decide) ?_
                      refine alP (some 70) rfl rfl ((does_len_sl (by conv => lhs; whnf) ty22).castp (v' := .int .i64 (List.length a0.Kids : Int)) (by exact len_map _)) (by decide) ?_
                      refine alP (some 71) rfl rfl (does_bin (v := .bool ((List.length a0.Kids : Int) == 0)) (by conv => lhs; whnf) (by conv => lhs; whnf) rfl) (by decide) ?_
                      refine alP (some 72) rfl rfl (does_pick (v := .bool ((List.length a0.Kids : Int) == 0)) (by conv => lhs; whnf) (by exact rfl)) (by decide) ?_
                      refine alP (some 2) rfl rfl (does_assign (v := .bool ((List.length a0.Kids : Int) == 0)) (by exact rfl)) (by decide) ?_
                      refine al_nil ?_
                      refine hK27 _ ?_
                      refine aw_ret ?_
                      have h := leafR h hk6
                      obtain rfl := Option.some.inj h
                      exact ret_ok1 (by conv => lhs; whnf) (by conv => lhs; whnf) (by exact rfl) (.inr rfl) rfl
                    · have h := ifF c31 h
                      refine alS (some 68) rfl rfl (by decide) ?_
                      refine alS (some 69) rfl rfl (by decide) ?_
                      refine alS (some 70) rfl rfl (by decide) ?_
                      refine alS (some 71) rfl rfl (by decide) ?_
                      refine alP (some 72) rfl rfl (does_pick (v := .bool false) (by conv => lhs; whnf) (by exact rfl)) (by decide) ?_
                      refine alP (some 2) rfl rfl (does_assign (v := .bool false) (by exact rfl)) (by decide) ?_
                      refine al_nil ?_
                      refine hK27 _ ?_
                      refine aw_ret ?_
                      have h := leafR h hk6
                      obtain rfl := Option.some.inj h
                      exact ret_ok1 (by conv => lhs; whnf) (by conv => lhs; whnf) (by exact rfl) (.inr rfl) rfl
                  · have h := ifF c30 h
                    refine alS (some 62) rfl rfl (by decide) ?_
                    refine alS (some 63) rfl rfl (by decide) ?_
                    refine alS (some 64) rfl rfl (by decide) ?_
                    refine alS (some 65) rfl rfl (by decide) ?_
                    refine alP (some 66) rfl rfl (does_pick (v := .bool false) (by conv => lhs; whnf) (by exact rfl)) (by decide) ?_
                    refine alP (some 67) rfl rfl (does_move (v := .bool false) (by exact rfl)) (by decide) ?_
                    refine alS (some 68) rfl rfl (by decide) ?_
                    refine alS (some 69) rfl rfl (by decide) ?_
                    refine alS (some 70) rfl rfl (by decide) ?_
                    refine alS (some 71) rfl rfl (by decide) ?_
                    refine alP (some 72) rfl rfl (does_pick (v := .bool false) (by conv => lhs; whnf) (by exact rfl)) (by decide) ?_
                    refine alP (some 2) rfl rfl (does_assign (v := .bool false) (by exact rfl)) (by decide) ?_
                    refine al_nil ?_
                    refine hK27 _ ?_
                    refine aw_ret ?_
                    have h := leafR h hk6
                    obtain rfl := Option.some.inj h
                    exact ret_ok1 (by conv => lhs; whnf) (by conv => lhs; whnf) (by exact rfl) (.inr rfl) rfl
                · have h := ifF c28 h
                  refine alS (some 57) rfl rfl (by decide) ?_
                  refine alS (some 58) rfl rfl (by decide) ?_
                  refine alS (some 59) rfl rfl (by decide) ?_
                  refine alP (some 60) rfl rfl (does_pick (v := .bool false) (by conv => lhs; whnf) (by exact rfl)) (by decide) ?_
                  refine alP (some 61) rfl rfl (does_move (v := .bool false) (by exact rfl)) (by decide) ?_
                  refine alS (some 62) rfl rfl (by decide) ?_
                  refine alS (some 63) rfl rfl (by decide) ?_
                  refine alS (some 64) rfl rfl (by decide) ?_
                  refine alS (some 65) rfl rfl (by decide) ?_
                  refine alP (some 66) rfl rfl (does_pick (v := .bool false) (by conv => lhs; whnf) (by exact rfl)) (by decide) ?_
                  refine alP (some 67) rfl rfl (does_move (v := .bool false) (by exact rfl)) (by decide) ?_
                  refine alS (some 68) rfl rfl (by decide) ?_
                  refine alS (some 69) rfl rfl (by decide) ?_
                  refine alS (some 70) rfl rfl (by decide) ?_
                  refine alS (some 71) rfl rfl (by decide) ?_
                  refine alP (some 72) rfl rfl (does_pick (v := .bool false) (by conv => lhs; whnf) (by exact rfl)) (by decide) ?_
                  refine alP (some 2) rfl rfl (does_assign (v := .bool false) (by exact rfl)) (by decide) ?_
                  refine al_nil ?_
                  refine hK27 _ ?_
                  refine aw_ret ?_
                  have h := leafR h hk6
                  obtain rfl := Option.some.inj h
                  exact ret_ok1 (by conv => lhs; whnf) (by conv => lhs; whnf) (by exact rfl) (.inr rfl) rfl
              · have h := ifF c26 h
                refine aw_cond_f (by decide) rfl ?_
                refine aw_skip ?_
                have h := leafL h hk6
                exact ⟨_, reb_lit [(1, .ptr 1 0 0), (3, .bool v3_0)] [(1, 0)] [((1, 0), .box [.int .i64 a0.Kind, .int .i64 a0.N, .str a0.Key, .str a0.Value, .sl 5 (List.map enc23 a0.Kids)])] [(1, 1)] (envOk_cons (by conv => lhs; whnf) (by exact rfl) (envOk_cons (by conv => lhs; whnf) (by exact rfl) envOk_nil)) (objOk_cons (by conv => lhs; whnf) (by conv => lhs; whnf) (by exact rfl) (by simp) objOk_nil) (nodup_b rfl) (nodup_b rfl) rfl rfl, h, rfl⟩
    · rintro s ⟨h, rfl⟩
      unfold rule_own_k1 at h
      refine aw_seq_k (fun K32 hK32 => ?_)
      refine aw_regd (by kernel_rfl) (by decide +kernel) ?_
      refine aoP (some 73) rfl rfl (does_move (v := .bool v3_0) (by exact rfl)) (by decide) ?_
      refine aoP (some 74) rfl rfl (does_move (v := .bool v3_0) (by exact rfl)) (by decide) ?_
      refine ao_bool (c := v3_0) 74 rfl (fun c33 => ?_) (fun c33 => ?_)
      · have h := ifT c33 h
        refine aoP (some 75) rfl rfl (does_fieldAddr (q := .ptr 1 0 1) (by conv => lhs; whnf) ty24 rfl ty3 (by decide) (by exact rfl)) (by decide) ?_
        refine aoR (some 76) rfl rfl (does_load (v := .int .i64 a0.N) (by conv => lhs; whnf) (by conv => lhs; whnf) ty3 (by exact rfl)) (by decide) ?_
        refine aoP (some 77) rfl rfl (does_bin (v := .bool (decide ((0 : Int) ≤ a0.N))) (by conv => lhs; whnf) (by conv => lhs; whnf) rfl) (by decide) ?_
        refine aoP (some 78) rfl rfl (does_pick (v := .bool (decide ((0 : Int) ≤ a0.N))) (by conv => lhs; whnf) (by exact rfl)) (by decide) ?_
        refine aoP (some 79) rfl rfl (does_move (v := .bool (decide ((0 : Int) ≤ a0.N))) (by exact rfl)) (by decide) ?_
        refine ao_bool (c := (decide ((0 : Int) ≤ a0.N))) 79 rfl (fun c34 => ?_) (fun c34 => ?_)
        · have h := ifT c34 h
          refine aoP (some 80) rfl rfl (does_fieldAddr (q := .ptr 1 0 1) (by conv => lhs; whnf) ty24 rfl ty3 (by decide) (by exact rfl)) (by decide) ?_
          refine aoR (some 81) rfl rfl (does_load (v := .int .i64 a0.N) (by conv => lhs; whnf) (by conv => lhs; whnf) ty3 (by exact rfl)) (by decide) ?_
          refine aoP (some 82) rfl rfl (does_fieldAddr (q := .ptr 1 0 0) (by conv => lhs; whnf) ty24 rfl ty3 (by decide) (by exact rfl)) (by decide) ?_
          refine aoR (some 83) rfl rfl (does_load (v := .int .i64 a0.Kind) (by conv => lhs; whnf) (by conv => lhs; whnf) ty3 (by exact rfl)) (by decide) ?_
          obtain ⟨x35, hx35, h⟩ := bnd_some h
          refine aoD (some 84) rfl rfl ((do_call0 84 false (rule_top_ok a0.Kind hx35) rfl ent110 rfl rfl).fx (y := ⟨[], .int .i64 x35, [], [84]⟩) rfl) (by decide) ?_
          refine aoP (some 85) rfl rfl (does_bin (v := .bool (decide (a0.N ≤ x35))) (by conv => lhs; whnf) (by conv => lhs; whnf) rfl) (by decide) ?_
          refine aoP (some 86) rfl rfl (does_pick (v := .bool (decide (a0.N ≤ x35))) (by conv => lhs; whnf) (by exact rfl)) (by decide) ?_
          refine aoP (some 87) rfl rfl (does_move (v := .bool (decide (a0.N ≤ x35))) (by exact rfl)) (by decide) ?_
          refine ao_bool (c := (decide (a0.N ≤ x35))) 87 rfl (fun c36 => ?_) (fun c36 => ?_)
          · have h := ifT c36 h
            refine aoP (some 88) rfl rfl (does_fieldAddr (q := .ptr 1 0 4) (by conv => lhs; whnf) ty24 rfl ty22 (by decide) (by exact rfl)) (by decide) ?_
            refine aoR (some 89) rfl rfl (does_load (v := .sl 5 (List.map enc23 a0.Kids)) (by conv => lhs; whnf) (by conv => lhs; whnf) ty22 (by exact rfl)) (by decide) ?_
            refine aoP (some 90) rfl rfl ((does_len_sl (by conv => lhs; whnf) ty22).castp (v' := .int .i64 (List.length a0.Kids : Int)) (by exact len_map _)) (by decide) ?_
            refine aoP (some 91) rfl rfl (does_bin (v := .bool ((List.length a0.Kids : Int) == 0)) (by conv => lhs; whnf) (by conv => lhs; whnf) rfl) (by decide) ?_
            refine aoP (some 92) rfl rfl (does_pick (v := .bool ((List.length a0.Kids : Int) == 0)) (by conv => lhs; whnf) (by exact rfl)) (by decide) ?_
            refine aoP (some 2) rfl rfl (does_assign (v := .bool ((List.length a0.Kids : Int) == 0)) (by exact rfl)) (by decide) ?_
            refine ao_nil_d (by kernel_rfl) ?_
            refine hK32 _ ?_
            refine aw_ret ?_
            obtain rfl := Option.some.inj h
            exact ret_ok1 (by conv => lhs; whnf) (by conv => lhs; whnf) (by exact rfl) (.inr rfl) rfl
          · have h := ifF c36 h
            refine aoS (some 88) rfl rfl (by decide) ?_
            refine aoS (some 89) rfl rfl (by decide) ?_
            refine aoS (some 90) rfl rfl (by decide) ?_
            refine aoS (some 91) rfl rfl (by decide) ?_
            refine aoP (some 92) rfl rfl (does_pick (v := .bool false) (by conv => lhs; whnf) (by exact rfl)) (by decide) ?_
            refine aoP (some 2) rfl rfl (does_assign (v := .bool false) (by exact rfl)) (by decide) ?_
            refine ao_nil_d (by kernel_rfl) ?_
            refine hK32 _ ?_
            refine aw_ret ?_
            obtain rfl := Option.some.inj h
            exact ret_ok1 (by conv => lhs; whnf) (by conv => lhs; whnf) (by exact rfl) (.inr rfl) rfl
        · have h := ifF c34 h
          refine aoS (some 80) rfl rfl (by decide) ?_
          refine aoS (some 81) rfl rfl (by decide) ?_
          refine aoS (some 82) rfl rfl (by decide) ?_
          refine aoS (some 83) rfl rfl (by decide) ?_
          refine aoS (some 84) rfl rfl (by decide) ?_
          refine aoS (some 85) rfl rfl (by decide) ?_
          refine aoP (some 86) rfl rfl (does_pick (v := .bool false) (by conv => lhs; whnf) (by exact rfl)) (by decide) ?_
          refine aoP (some 87) rfl rfl (does_move (v := .bool false) (by exact rfl)) (by decide) ?_
          refine aoS (some 88) rfl rfl (by decide) ?_
          refine aoS (some 89) rfl rfl (by decide) ?_
          refine aoS (some 90) rfl rfl (by decide) ?_
          refine aoS (some 91) rfl rfl (by decide) ?_
          refine aoP (some 92) rfl rfl (does_pick (v := .bool false) (by conv => lhs; whnf) (by exact rfl)) (by decide) ?_
          refine aoP (some 2) rfl rfl (does_assign (v := .bool false) (by exact rfl)) (by decide) ?_
          refine ao_nil_d (by kernel_rfl) ?_
          refine hK32 _ ?_
          refine aw_ret ?_
          obtain rfl := Option.some.inj h
          exact ret_ok1 (by conv => lhs; whnf) (by conv => lhs; whnf) (by exact rfl) (.inr rfl) rfl
      · have h := ifF c33 h
        refine aoS (some 75) rfl rfl (by decide) ?_
        refine aoS (some 76) rfl rfl (by decide) ?_
        refine aoS (some 77) rfl rfl (by decide) ?_
        refine aoP (some 78) rfl rfl (does_pick (v := .bool false) (by conv => lhs; whnf) (by exact rfl)) (by decide) ?_
        refine aoP (some 79) rfl rfl (does_move (v := .bool false) (by exact rfl)) (by decide) ?_
        refine aoS (some 80) rfl rfl (by decide) ?_
        refine aoS (some 81) rfl rfl (by decide) ?_
        refine aoS (some 82) rfl rfl (by decide) ?_
        refine aoS (some 83) rfl rfl (by decide) ?_
        refine aoS (some 84) rfl rfl (by decide) ?_
        refine aoS (some 85) rfl rfl (by decide) ?_
        refine aoP (some 86) rfl rfl (does_pick (v := .bool false) (by conv => lhs; whnf) (by exact rfl)) (by decide) ?_
        refine aoP (some 87) rfl rfl (does_move (v := .bool false) (by exact rfl)) (by decide) ?_
        refine aoS (some 88) rfl rfl (by decide) ?_
        refine aoS (some 89) rfl rfl (by decide) ?_
        refine aoS (some 90) rfl rfl (by decide) ?_
        refine aoS (some 91) rfl rfl (by decide) ?_
        refine aoP (some 92) rfl rfl (does_pick (v := .bool false) (by conv => lhs; whnf) (by exact rfl)) (by decide) ?_
        refine aoP (some 2) rfl rfl (does_assign (v := .bool false) (by exact rfl)) (by decide) ?_
        refine ao_nil_d (by kernel_rfl) ?_
        refine hK32 _ ?_
        refine aw_ret ?_
        obtain rfl := Option.some.inj h
        exact ret_ok1 (by conv => lhs; whnf) (by conv => lhs; whnf) (by exact rfl) (.inr rfl) rfl
def rule_count_b_l1 (K : Rule → Int → Int → Option (Int × Bool)) (a0 : Rule) (a1 : Int) (a2 : Int) (v8_1 : Int) (v27_1 : Int) : Option ((Int × Int) ⊕ (Int × Bool)) :=
  if (decide (v27_1 < (List.length a0.Kids : Int))) = true then (gd (0 ≤ v27_1) (Option.bind (a0.Kids[(Int.toNat v27_1)]?) (fun (x23 : Rule) => Option.bind (K x23 (IntKind.i64.wrap (a1 - 1)) (IntKind.i64.wrap (a2 - v8_1))) (fun (x25 : Int × Bool) => if (!x25.2) = true then (some (Sum.inr (0, false))) else (some (Sum.inl ((IntKind.i64.wrap (v8_1 + x25.1)), (IntKind.i64.wrap (v27_1 + 1))))))))) else (some (Sum.inr (v8_1, true)))
def rule_count_b_k0 (K : Rule → Int → Int → Option (Int × Bool)) (a0 : Rule) (a1 : Int) (a2 : Int) : Option (Int × Bool) :=
  loopN (fun (s : Int × Int) => rule_count_b_l1 K a0 a1 a2 s.1 s.2) Fu (1, 0)
def rule_count_b (K : Rule → Int → Int → Option (Int × Bool)) (a0 : Rule) (a1 : Int) (a2 : Int) : Option (Int × Bool) :=
  Option.bind (if (decide (a1 < 1)) = true then (some (Sum.inr (0, false))) else (if (decide (a2 < 1)) = true then (some (Sum.inr (0, false))) else (Option.bind (rule_own a0) (fun (x9 : Bool) => if (!x9) = true then (some (Sum.inr (0, false))) else (some (Sum.inl ())))))) (Sum.elim (fun (s : Unit) => rule_count_b_k0 K a0 a1 a2) some)
set_option maxRecDepth 100000 in
set_option maxHeartbeats 8000000 in
/-- gleaning/rule.count -/
theorem rule_count_b_ok (K : Rule → Int → Int → Option (Int × Bool)) (hK : ∀ (a0 : Rule) (a1 : Int) (a2 : Int) {r : Int × Bool}, K a0 a1 a2 = some r → Ok Try.prog 72 [.agg [.int .i64 a0.Kind, .int .i64 a0.N, .str a0.Key, .str a0.Value, .sl 5 (List.map enc23 a0.Kids)], .int .i64 a1, .int .i64 a2] [] [] (.tup [.int .i64 r.1, .bool r.2]) [] []) (a0 : Rule) (a1 : Int) (a2 : Int) {r : Int × Bool} (h : rule_count_b K a0 a1 a2 = some r) : Ok Try.prog 72 [.agg [.int .i64 a0.Kind, .int .i64 a0.N, .str a0.Key, .str a0.Value, .sl 5 (List.map enc23 a0.Kids)], .int .i64 a1, .int .i64 a2] [] [] (.tup [.int .i64 r.1, .bool r.2]) [] [] := by
  unfold rule_count_b at h
  refine ok_of_code Try.func72 rfl (by show (3 : Nat) ≤ _; decide) (Nat.le_refl _) fun X => ?_
  refine aw_seq_k (fun K1 hK1 => ?_)
  refine aw_regL ?_
  refine alD (some 3) rfl rfl (do_box (by conv => lhs; whnf) rfl rfl) (by decide) ?_
  refine alP (some 6) rfl rfl (does_assign (v := .int .i64 0) (by exact rfl)) (by decide) ?_
  refine alP (some 7) rfl rfl (does_assign (v := .bool false) (by exact rfl)) (by decide) ?_
  refine al_nil ?_
  refine hK1 _ ?_
  obtain ⟨q2, h, hk3⟩ := bnd_some h
  refine aw_cut (fun s => rule_count_b_k0 K a0 a1 a2 = some r ∧ s = lit [(1, .int .i64 a1), (2, .int .i64 a2), (3, .ptr 3 0 0)] [((3, 0), .box [.int .i64 a0.Kind, .int .i64 a0.N, .str a0.Key, .str a0.Value, .sl 5 (List.map enc23 a0.Kids)])] [(3, 1)] X) ?_ ?_
  · skip
    refine aw_seq_k (fun K4 hK4 => ?_)
    refine aw_regL ?_
    refine alP (some 13) rfl rfl (does_move (v := .int .i64 a1) (by exact rfl)) (by decide) ?_
    refine alP (some 14) rfl rfl (does_bin (v := .bool (decide (a1 < 1))) (by conv => lhs; whnf) (by conv => lhs; whnf) rfl) (by decide) ?_
    refine alP (some 15) rfl rfl (does_move (v := .bool (decide (a1 < 1))) (by exact rfl)) (by decide) ?_
    refine al_bool (c := (decide (a1 < 1))) 15 rfl (fun c5 => ?_) (fun c5 => ?_)
    · have h := ifT c5 h
      refine alS (some 16) rfl rfl (by decide) ?_
      refine alS (some 17) rfl rfl (by decide) ?_
      refine alP (some 18) rfl rfl (does_pick (v := .bool true) (by conv => lhs; whnf) (by exact rfl)) (by decide) ?_
      refine alP (some 19) rfl rfl (does_move (v := .bool true) (by exact rfl)) (by decide) ?_
      refine alS (some 20) rfl rfl (by decide) ?_
      refine alS (some 21) rfl rfl (by decide) ?_
      refine alS (some 22) rfl rfl (by decide) ?_
      refine alP (some 23) rfl rfl (does_pick (v := .bool true) (by conv => lhs; whnf) (by exact rfl)) (by decide) ?_
      refine al_nil ?_
      refine hK4 _ ?_
      refine aw_cond_t (by decide) rfl ?_
      refine aw_seq_k (fun K6 hK6 => ?_)
      refine aw_regL ?_
      refine alP (some 6) rfl rfl (does_assign (v := .int .i64 0) (by exact rfl)) (by decide) ?_
      refine alP (some 7) rfl rfl (does_assign (v := .bool false) (by exact rfl)) (by decide) ?_
      refine al_nil ?_
      refine hK6 _ ?_
      refine aw_ret ?_
      have h := leafR h hk3
      obtain rfl := Option.some.inj h
      exact ret_ok1 (by conv => lhs; whnf) (by conv => lhs; whnf) (by exact rfl) (.inr rfl) rfl
    · have h := ifF c5 h
      refine alP (some 16) rfl rfl (does_move (v := .int .i64 a2) (by exact rfl)) (by decide) ?_
      refine alP (some 17) rfl rfl (does_bin (v := .bool (decide (a2 < 1))) (by conv => lhs; whnf) (by conv => lhs; whnf) rfl) (by decide) ?_
      refine alP (some 18) rfl rfl (does_pick (v := .bool (decide (a2 < 1))) (by conv => lhs; whnf) (by exact rfl)) (by decide) ?_
      refine alP (some 19) rfl rfl (does_move (v := .bool (decide (a2 < 1))) (by exact rfl)) (by decide) ?_
      refine al_bool (c := (decide (a2 < 1))) 19 rfl (fun c7 => ?_) (fun c7 => ?_)
      · have h := ifT c7 h
        refine alS (some 20) rfl rfl (by decide) ?_
        refine alS (some 21) rfl rfl (by decide) ?_
        refine alS (some 22) rfl rfl (by decide) ?_
        refine alP (some 23) rfl rfl (does_pick (v := .bool true) (by conv => lhs; whnf) (by exact rfl)) (by decide) ?_
        refine al_nil ?_
        refine hK4 _ ?_
        refine aw_cond_t (by decide) rfl ?_
        refine aw_seq_k (fun K8 hK8 => ?_)
        refine aw_regL ?_
        refine alP (some 6) rfl rfl (does_assign (v := .int .i64 0) (by exact rfl)) (by decide) ?_
        refine alP (some 7) rfl rfl (does_assign (v := .bool false) (by exact rfl)) (by decide) ?_
        refine al_nil ?_
        refine hK8 _ ?_
        refine aw_ret ?_
        have h := leafR h hk3
        obtain rfl := Option.some.inj h
        exact ret_ok1 (by conv => lhs; whnf) (by conv => lhs; whnf) (by exact rfl) (.inr rfl) rfl
      · have h := ifF c7 h
        refine alR (some 20) rfl rfl (does_load (v := .agg [.int .i64 a0.Kind, .int .i64 a0.N, .str a0.Key, .str a0.Value, .sl 5 (List.map enc23 a0.Kids)]) (by conv => lhs; whnf) (by conv => lhs; whnf) ty24 (by exact rfl)) (by decide) ?_
        obtain ⟨x9, hx9, h⟩ := bnd_some h
        refine alD (some 21) rfl rfl (do_call0 21 false (rule_own_ok a0 hx9) rfl ent111 rfl rfl) (by decide) ?_
        refine alP (some 22) rfl rfl (does_un (v := .bool (!x9)) (by conv => lhs; whnf) rfl) (by decide) ?_
        refine alP (some 23) rfl rfl (does_pick (v := .bool (!x9)) (by conv => lhs; whnf) (by exact rfl)) (by decide) ?_
        refine al_nil ?_
        refine hK4 _ ?_
        refine aw_bool (b := (!x9)) 23 rfl (fun c10 => ?_) (fun c10 => ?_)
        · have h := ifT c10 h
          refine aw_cond_t (by decide) rfl ?_
          refine aw_seq_k (fun K11 hK11 => ?_)
          refine aw_regL ?_
          refine alP (some 6) rfl rfl (does_assign (v := .int .i64 0) (by exact rfl)) (by decide) ?_
          refine alP (some 7) rfl rfl (does_assign (v := .bool false) (by exact rfl)) (by decide) ?_
          refine al_nil ?_
          refine hK11 _ ?_
          refine aw_ret ?_
          have h := leafR h hk3
          obtain rfl := Option.some.inj h
          exact ret_ok1 (by conv => lhs; whnf) (by conv => lhs; whnf) (by exact rfl) (.inr rfl) rfl
        · have h := ifF c10 h
          refine aw_cond_f (by decide) rfl ?_
          refine aw_skip ?_
          have h := leafL h hk3
          exact ⟨_, reb_lit [(1, .int .i64 a1), (2, .int .i64 a2), (3, .ptr 3 0 0)] [(3, 0)] [((3, 0), .box [.int .i64 a0.Kind, .int .i64 a0.N, .str a0.Key, .str a0.Value, .sl 5 (List.map enc23 a0.Kids)])] [(3, 1)] (envOk_cons (by conv => lhs; whnf) (by exact rfl) (envOk_cons (by conv => lhs; whnf) (by exact rfl) (envOk_cons (by conv => lhs; whnf) (by exact rfl) envOk_nil))) (objOk_cons (by conv => lhs; whnf) (by conv => lhs; whnf) (by exact rfl) (by simp) objOk_nil) (nodup_b rfl) (nodup_b rfl) rfl rfl, h, rfl⟩
  · rintro s ⟨h, rfl⟩
    unfold rule_count_b_k0 at h
    refine aw_seq_k (fun K12 hK12 => ?_)
    refine aw_regL ?_
    refine alP (some 8) rfl rfl (does_assign (v := .int .i64 1) (by exact rfl)) (by decide) ?_
    refine al_nil ?_
    refine hK12 _ ?_
    refine aw_seq_k (fun K13 hK13 => ?_)
    refine aw_seq_k (fun K14 hK14 => ?_)
    refine aw_regL ?_
    refine alP (some 24) rfl rfl (does_fieldAddr (q := .ptr 3 0 4) (by conv => lhs; whnf) ty24 rfl ty22 (by decide) (by exact rfl)) (by decide) ?_
    refine alR (some 25) rfl rfl (does_load (v := .sl 5 (List.map enc23 a0.Kids)) (by conv => lhs; whnf) (by conv => lhs; whnf) ty22 (by exact rfl)) (by decide) ?_
    refine alP (some 26) rfl rfl ((does_len_sl (by conv => lhs; whnf) ty22).castp (v' := .int .i64 (List.length a0.Kids : Int)) (by exact len_map _)) (by decide) ?_
    refine alP (some 27) rfl rfl (does_move (v := .int .i64 0) (by exact rfl)) (by decide) ?_
    refine al_nil ?_
    refine hK14 _ ?_
    refine aw_block ?_
    refine aw_loop' (fun m s => ∃ (v8_1 : Int), ∃ (v27_1 : Int), loopN (fun (s : Int × Int) => rule_count_b_l1 K a0 a1 a2 s.1 s.2) m (v8_1, v27_1) = some r ∧ s = lit [(1, .int .i64 a1), (2, .int .i64 a2), (8, .int .i64 v8_1), (25, .sl 5 (List.map enc23 a0.Kids)), (26, .int .i64 (List.length a0.Kids : Int)), (27, .int .i64 v27_1)] [] [] X) Fu
      ⟨_, reb_lit [(1, .int .i64 a1), (2, .int .i64 a2), (8, .int .i64 (1)), (25, .sl 5 (List.map enc23 a0.Kids)), (26, .int .i64 (List.length a0.Kids : Int)), (27, .int .i64 (0))] [] [] [] (envOk_cons (by conv => lhs; whnf) (by exact rfl) (envOk_cons (by conv => lhs; whnf) (by exact rfl) (envOk_cons (by conv => lhs; whnf) (by exact rfl) (envOk_cons (by conv => lhs; whnf) (by exact rfl) (envOk_cons (by conv => lhs; whnf) (by exact rfl) (envOk_cons (by conv => lhs; whnf) (by exact rfl) envOk_nil)))))) objOk_nil (nodup_b rfl) (nodup_b rfl) rfl rfl, 1, 0, h, rfl⟩ ?_
    rintro m s ⟨v8_1, v27_1, h, rfl⟩
    obtain ⟨m1, q15, rfl, h, hq16⟩ := loop_some h
    replace h : rule_count_b_l1 K a0 a1 a2 v8_1 v27_1 = some q15 := h
    unfold rule_count_b_l1 at h
    refine aw_seq_k (fun K17 hK17 => ?_)
    refine aw_regL ?_
    refine alP (some 28) rfl rfl (does_bin (v := .bool (decide (v27_1 < (List.length a0.Kids : Int)))) (by conv => lhs; whnf) (by conv => lhs; whnf) rfl) (by decide) ?_
    refine al_nil ?_
    refine hK17 _ ?_
    refine aw_seq_k (fun K18 hK18 => ?_)
    refine aw_bool (b := (decide (v27_1 < (List.length a0.Kids : Int)))) 28 rfl (fun c19 => ?_) (fun c19 => ?_)
    · have h := ifT c19 h
      refine aw_cond_t (by decide) rfl ?_
      refine aw_skip ?_
      refine hK18 _ ?_
      refine aw_seq_k (fun K20 hK20 => ?_)
      refine aw_block ?_
      refine aw_seq_k (fun K21 hK21 => ?_)
      refine aw_regL ?_
      obtain ⟨g22, h⟩ := gd_some h
      obtain ⟨x23, hx23, h⟩ := bnd_some h
      refine alP (some 29) rfl rfl (does_indexAddr_sl (el := .agg [.int .i64 x23.Kind, .int .i64 x23.N, .str x23.Key, .str x23.Value, .sl 5 (List.map enc23 x23.Kids)]) (by conv => lhs; whnf) (by conv => lhs; whnf) ty22 ty24 g22 (by exact map_getE (enc23_eq _) hx23)) (by decide) ?_
      refine alR (some 30) rfl rfl (does_load (v := .agg [.int .i64 x23.Kind, .int .i64 x23.N, .str x23.Key, .str x23.Value, .sl 5 (List.map enc23 x23.Kids)]) (by conv => lhs; whnf) (by conv => lhs; whnf) ty24 (by exact rfl)) (by decide) ?_
      refine alD (some 10) rfl rfl (do_new ty24 rfl rfl) (by decide) ?_
      refine alD none rfl rfl (do_store (cs' := [.int .i64 x23.Kind, .int .i64 x23.N, .str x23.Key, .str x23.Value, .sl 5 (List.map enc23 x23.Kids)]) (by conv => lhs; whnf) (by conv => lhs; whnf) (by conv => lhs; whnf) ty24 rfl rfl rfl (by exact rfl)) (by decide) ?_
      refine al_nil ?_
      refine hK21 _ ?_
      refine aw_seq_k (fun K24 hK24 => ?_)
      refine aw_regL ?_
      refine alR (some 32) rfl rfl (does_load (v := .agg [.int .i64 x23.Kind, .int .i64 x23.N, .str x23.Key, .str x23.Value, .sl 5 (List.map enc23 x23.Kids)]) (by conv => lhs; whnf) (by conv => lhs; whnf) ty24 (by exact rfl)) (by decide) ?_
      refine alP (some 33) rfl rfl (does_move (v := .int .i64 a1) (by exact rfl)) (by decide) ?_
      refine alP (some 34) rfl rfl (does_bin (v := .int .i64 (IntKind.i64.wrap (a1 - 1))) (by conv => lhs; whnf) (by conv => lhs; whnf) rfl) (by decide) ?_
      refine alP (some 35) rfl rfl (does_move (v := .int .i64 a2) (by exact rfl)) (by decide) ?_
      refine alP (some 36) rfl rfl (does_move (v := .int .i64 v8_1) (by exact rfl)) (by decide) ?_
      refine alP (some 37) rfl rfl (does_bin (v := .int .i64 (IntKind.i64.wrap (a2 - v8_1))) (by conv => lhs; whnf) (by conv => lhs; whnf) rfl) (by decide) ?_
      obtain ⟨x25, hx25, h⟩ := bnd_some h
      refine alD (some 38) rfl rfl (do_call0 38 false (hK x23 (IntKind.i64.wrap (a1 - 1)) (IntKind.i64.wrap (a2 - v8_1)) hx25) rfl ent72 rfl rfl) (by decide) ?_
      refine alP (some 31) rfl rfl (does_move (v := .tup [.int .i64 x25.1, .bool x25.2]) (by exact rfl)) (by decide) ?_
      refine alP (some 39) rfl rfl (does_extract (v := .int .i64 x25.1) (by conv => lhs; whnf) (by exact rfl)) (by decide) ?_
      refine alP (some 40) rfl rfl (does_extract (v := .bool x25.2) (by conv => lhs; whnf) (by exact rfl)) (by decide) ?_
      refine alP (some 11) rfl rfl (does_assign (v := .int .i64 x25.1) (by exact rfl)) (by decide) ?_
      refine alP (some 12) rfl rfl (does_assign (v := .bool x25.2) (by exact rfl)) (by decide) ?_
      refine al_nil ?_
      refine hK24 _ ?_
      refine aw_seq_k (fun K26 hK26 => ?_)
      refine aw_seq_k (fun K27 hK27 => ?_)
      refine aw_regL ?_
      refine alP (some 41) rfl rfl (does_move (v := .bool x25.2) (by exact rfl)) (by decide) ?_
      refine alP (some 42) rfl rfl (does_un (v := .bool (!x25.2)) (by conv => lhs; whnf) rfl) (by decide) ?_
      refine al_nil ?_
      refine hK27 _ ?_
      refine aw_bool (b := (!x25.2)) 42 rfl (fun c28 => ?_) (fun c28 => ?_)
      · have h := ifT c28 h
        refine aw_cond_t (by decide) rfl ?_
        refine aw_seq_k (fun K29 hK29 => ?_)
        refine aw_regL ?_
        refine alP (some 6) rfl rfl (does_assign (v := .int .i64 0) (by exact rfl)) (by decide) ?_
        refine alP (some 7) rfl rfl (does_assign (v := .bool false) (by exact rfl)) (by decide) ?_
        refine al_nil ?_
        refine hK29 _ ?_
        refine aw_ret ?_
        have h := leafR h hq16
        obtain rfl := Option.some.inj h
        exact ret_ok1 (by conv => lhs; whnf) (by conv => lhs; whnf) (by exact rfl) (.inr rfl) rfl
      · have h := ifF c28 h
        refine aw_cond_f (by decide) rfl ?_
        refine aw_skip ?_
        refine hK26 _ ?_
        refine aw_regL ?_
        refine alP (some 43) rfl rfl (does_move (v := .int .i64 v8_1) (by exact rfl)) (by decide) ?_
        refine alP (some 44) rfl rfl (does_move (v := .int .i64 x25.1) (by exact rfl)) (by decide) ?_
        refine alP (some 45) rfl rfl (does_bin (v := .int .i64 (IntKind.i64.wrap (v8_1 + x25.1))) (by conv => lhs; whnf) (by conv => lhs; whnf) rfl) (by decide) ?_
        refine alP (some 8) rfl rfl (does_assign (v := .int .i64 (IntKind.i64.wrap (v8_1 + x25.1))) (by exact rfl)) (by decide) ?_
        refine al_nil ?_
        refine hK20 _ ?_
        refine aw_regL ?_
        refine alP (some 46) rfl rfl (does_bin (v := .int .i64 (IntKind.i64.wrap (v27_1 + 1))) (by conv => lhs; whnf) (by conv => lhs; whnf) rfl) (by decide) ?_
        refine alP (some 27) rfl rfl (does_move (v := .int .i64 (IntKind.i64.wrap (v27_1 + 1))) (by exact rfl)) (by decide) ?_
        refine al_nil ?_
        have h := leafL h hq16
        exact ⟨m1, Nat.lt_succ_self _, _, reb_lit [(1, .int .i64 a1), (2, .int .i64 a2), (8, .int .i64 (IntKind.i64.wrap (v8_1 + x25.1))), (25, .sl 5 (List.map enc23 a0.Kids)), (26, .int .i64 (List.length a0.Kids : Int)), (27, .int .i64 (IntKind.i64.wrap (v27_1 + 1)))] [] [] [] (envOk_cons (by conv => lhs; whnf) (by exact rfl) (envOk_cons (by conv => lhs; whnf) (by exact rfl) (envOk_cons (by conv => lhs; whnf) (by exact rfl) (envOk_cons (by conv => lhs; whnf) (by exact rfl) (envOk_cons (by conv => lhs; whnf) (by exact rfl) (envOk_cons (by conv => lhs; whnf) (by exact rfl) envOk_nil)))))) objOk_nil (nodup_b rfl) (nodup_b rfl) rfl rfl, (IntKind.i64.wrap (v8_1 + x25.1)), (IntKind.i64.wrap (v27_1 + 1)), h, rfl⟩
    · have h := ifF c19 h
      refine aw_cond_f (by decide) rfl ?_
      refine aw_exit ?_
      have h := leafR h hq16
      refine hK13 _ ?_
      refine aw_seq_k (fun K30 hK30 => ?_)
      refine aw_regL ?_
      refine alP (some 47) rfl rfl (does_move (v := .int .i64 v8_1) (by exact rfl)) (by decide) ?_
      refine alP (some 6) rfl rfl (does_assign (v := .int .i64 v8_1) (by exact rfl)) (by decide) ?_
      refine alP (some 7) rfl rfl (does_assign (v := .bool true) (by exact rfl)) (by decide) ?_
      refine al_nil ?_
      refine hK30 _ ?_
      refine aw_ret ?_
      obtain rfl := Option.some.inj h
      exact ret_ok1 (by conv => lhs; whnf) (by conv => lhs; whnf) (by exact rfl) (.inr rfl) rfl
def rule_countN : Nat → Rule → Int → Int → Option (Int × Bool)
  | 0, _, _, _ => none
  | n + 1, a0, a1, a2 => rule_count_b (rule_countN n) a0 a1 a2
theorem rule_countN_ok : ∀ (n : Nat) (a0 : Rule) (a1 : Int) (a2 : Int) {r : Int × Bool}, rule_countN n a0 a1 a2 = some r → Ok Try.prog 72 [.agg [.int .i64 a0.Kind, .int .i64 a0.N, .str a0.Key, .str a0.Value, .sl 5 (List.map enc23 a0.Kids)], .int .i64 a1, .int .i64 a2] [] [] (.tup [.int .i64 r.1, .bool r.2]) [] []
  | 0, _, _, _, _, h => by simp [rule_countN] at h
  | n + 1, a0, a1, a2, _, h => rule_count_b_ok (rule_countN n) (rule_countN_ok n) a0 a1 a2 h
def rule_count (a0 : Rule) (a1 : Int) (a2 : Int) : Option (Int × Bool) := rule_countN Fu a0 a1 a2
theorem rule_count_ok (a0 : Rule) (a1 : Int) (a2 : Int) {r : Int × Bool} (h : rule_count a0 a1 a2 = some r) : Ok Try.prog 72 [.agg [.int .i64 a0.Kind, .int .i64 a0.N, .str a0.Key, .str a0.Value, .sl 5 (List.map enc23 a0.Kids)], .int .i64 a1, .int .i64 a2] [] [] (.tup [.int .i64 r.1, .bool r.2]) [] [] := rule_countN_ok Fu a0 a1 a2 h
def rule_Right (a0 : Rule) : Option Bool :=
  Option.bind (rule_count a0 5 20) (fun (x3 : Int × Bool) => some x3.2)
set_option maxRecDepth 100000 in
set_option maxHeartbeats 8000000 in
/-- gleaning/rule.Right -/
theorem rule_Right_ok (a0 : Rule) {r : Bool} (h : rule_Right a0 = some r) : Ok Try.prog 42 [.agg [.int .i64 a0.Kind, .int .i64 a0.N, .str a0.Key, .str a0.Value, .sl 5 (List.map enc23 a0.Kids)]] [] [] (.bool r) [] [] := by
  unfold rule_Right at h
  refine ok_of_code Try.func42 rfl (by show (1 : Nat) ≤ _; decide) (Nat.le_refl _) fun X => ?_
  refine aw_seq_k (fun K1 hK1 => ?_)
  refine aw_regL ?_
  refine alD (some 1) rfl rfl (do_box (by conv => lhs; whnf) rfl rfl) (by decide) ?_
  refine alP (some 2) rfl rfl (does_assign (v := .bool false) (by exact rfl)) (by decide) ?_
  refine al_nil ?_
  refine hK1 _ ?_
  refine aw_seq_k (fun K2 hK2 => ?_)
  refine aw_regL ?_
  refine alR (some 6) rfl rfl (does_load (v := .agg [.int .i64 a0.Kind, .int .i64 a0.N, .str a0.Key, .str a0.Value, .sl 5 (List.map enc23 a0.Kids)]) (by conv => lhs; whnf) (by conv => lhs; whnf) ty24 (by exact rfl)) (by decide) ?_
  obtain ⟨x3, hx3, h⟩ := bnd_some h
  refine alD (some 7) rfl rfl (do_call0 7 false (rule_count_ok a0 5 20 hx3) rfl ent72 rfl rfl) (by decide) ?_
  refine alP (some 5) rfl rfl (does_move (v := .tup [.int .i64 x3.1, .bool x3.2]) (by exact rfl)) (by decide) ?_
  refine alP (some 8) rfl rfl (does_extract (v := .int .i64 x3.1) (by conv => lhs; whnf) (by exact rfl)) (by decide) ?_
  refine alP (some 9) rfl rfl (does_extract (v := .bool x3.2) (by conv => lhs; whnf) (by exact rfl)) (by decide) ?_
  refine alP (some 3) rfl rfl (does_assign (v := .int .i64 x3.1) (by exact rfl)) (by decide) ?_
  refine alP (some 4) rfl rfl (does_assign (v := .bool x3.2) (by exact rfl)) (by decide) ?_
  refine al_nil ?_
  refine hK2 _ ?_
  refine aw_seq_k (fun K4 hK4 => ?_)
  refine aw_regL ?_
  refine alP (some 10) rfl rfl (does_move (v := .bool x3.2) (by exact rfl)) (by decide) ?_
  refine alP (some 2) rfl rfl (does_assign (v := .bool x3.2) (by exact rfl)) (by decide) ?_
  refine al_nil ?_
  refine hK4 _ ?_
  refine aw_ret ?_
  obtain rfl := Option.some.inj h
  exact ret_ok1 (by conv => lhs; whnf) (by conv => lhs; whnf) (by exact rfl) (.inr rfl) rfl
def gleaningref1_nodes_b_k1 (K : Rule → Int → Option Int) (a0 : Rule) (a1 : Int) (v5_0 : Int) (v6_0 : Int) : Option ((Int × Int) ⊕ Int) :=
  gd (0 ≤ v6_0) (Option.bind (a0.Kids[(Int.toNat v6_0)]?) (fun (x20 : Rule) => Option.bind (K x20 (IntKind.i64.wrap (a1 - 1))) (fun (x21 : Int) => some (Sum.inl ((IntKind.i64.wrap (v5_0 + x21)), (IntKind.i64.wrap (v6_0 + 1)))))))
def gleaningref1_nodes_b_l0 (K : Rule → Int → Option Int) (a0 : Rule) (a1 : Int) (v5_0 : Int) (v6_0 : Int) : Option ((Int × Int) ⊕ Int) :=
  Option.bind (if (decide (v6_0 < (List.length a0.Kids : Int))) = true then (if (decide (v5_0 ≤ 20)) = true then (some (Sum.inl ())) else (some (Sum.inr (Sum.inr v5_0)))) else (some (Sum.inr (Sum.inr v5_0)))) (Sum.elim (fun (s : Unit) => gleaningref1_nodes_b_k1 K a0 a1 v5_0 v6_0) some)
def gleaningref1_nodes_b (K : Rule → Int → Option Int) (a0 : Rule) (a1 : Int) : Option Int :=
  if (a1 == 0) = true then (some 21) else (loopN (fun (s : Int × Int) => gleaningref1_nodes_b_l0 K a0 a1 s.1 s.2) Fu (1, 0))
set_option maxRecDepth 100000 in
set_option maxHeartbeats 8000000 in
/-- gleaning/gleaningref1.nodes -/
theorem gleaningref1_nodes_b_ok (K : Rule → Int → Option Int) (hK : ∀ (a0 : Rule) (a1 : Int) {r : Int}, K a0 a1 = some r → Ok Try.prog 60 [.agg [.int .i64 a0.Kind, .int .i64 a0.N, .str a0.Key, .str a0.Value, .sl 5 (List.map enc23 a0.Kids)], .int .i64 a1] [] [] (.int .i64 r) [] []) (a0 : Rule) (a1 : Int) {r : Int} (h : gleaningref1_nodes_b K a0 a1 = some r) : Ok Try.prog 60 [.agg [.int .i64 a0.Kind, .int .i64 a0.N, .str a0.Key, .str a0.Value, .sl 5 (List.map enc23 a0.Kids)], .int .i64 a1] [] [] (.int .i64 r) [] [] := by
  unfold gleaningref1_nodes_b at h
  refine ok_of_code Try.func60 rfl (by show (2 : Nat) ≤ _; decide) (Nat.le_refl _) fun X => ?_
  refine aw_seq_k (fun K1 hK1 => ?_)
  refine aw_regL ?_
  refine alD (some 2) rfl rfl (do_box (by conv => lhs; whnf) rfl rfl) (by decide) ?_
  refine alP (some 4) rfl rfl (does_assign (v := .int .i64 0) (by exact rfl)) (by decide) ?_
  refine al_nil ?_
  refine hK1 _ ?_
  refine aw_seq_k (fun K2 hK2 => ?_)
  refine aw_seq_k (fun K3 hK3 => ?_)
  refine aw_regL ?_
  refine alP (some 7) rfl rfl (does_move (v := .int .i64 a1) (by exact rfl)) (by decide) ?_
  refine alP (some 8) rfl rfl (does_bin (v := .bool (a1 == 0)) (by conv => lhs; whnf) (by conv => lhs; whnf) rfl) (by decide) ?_
  refine al_nil ?_
  refine hK3 _ ?_
  refine aw_bool (b := (a1 == 0)) 8 rfl (fun c4 => ?_) (fun c4 => ?_)
  · have h := ifT c4 h
    refine aw_cond_t (by decide) rfl ?_
    refine aw_seq_k (fun K5 hK5 => ?_)
    refine aw_regL ?_
    refine alP (some 4) rfl rfl (does_assign (v := .int .i64 21) (by exact rfl)) (by decide) ?_
    refine al_nil ?_
    refine hK5 _ ?_
    refine aw_ret ?_
    obtain rfl := Option.some.inj h
    exact ret_ok1 (by conv => lhs; whnf) (by conv => lhs; whnf) (by exact rfl) (.inr rfl) rfl
  · have h := ifF c4 h
    refine aw_cond_f (by decide) rfl ?_
    refine aw_skip ?_
    refine hK2 _ ?_
    refine aw_seq_k (fun K6 hK6 => ?_)
    refine aw_regL ?_
    refine alP (some 5) rfl rfl (does_assign (v := .int .i64 1) (by exact rfl)) (by decide) ?_
    refine al_nil ?_
    refine hK6 _ ?_
    refine aw_seq_k (fun K7 hK7 => ?_)
    refine aw_seq_k (fun K8 hK8 => ?_)
    refine aw_regL ?_
    refine alP (some 6) rfl rfl (does_assign (v := .int .i64 0) (by exact rfl)) (by decide) ?_
    refine al_nil ?_
    refine hK8 _ ?_
    refine aw_block ?_
    refine aw_loop' (fun m s => ∃ (v5_0 : Int), ∃ (v6_0 : Int), loopN (fun (s : Int × Int) => gleaningref1_nodes_b_l0 K a0 a1 s.1 s.2) m (v5_0, v6_0) = some r ∧ s = lit [(1, .int .i64 a1), (2, .ptr 2 0 0), (5, .int .i64 v5_0), (6, .int .i64 v6_0)] [((2, 0), .box [.int .i64 a0.Kind, .int .i64 a0.N, .str a0.Key, .str a0.Value, .sl 5 (List.map enc23 a0.Kids)])] [(2, 1)] X) Fu
      ⟨_, reb_lit [(1, .int .i64 a1), (2, .ptr 2 0 0), (5, .int .i64 (1)), (6, .int .i64 (0))] [(2, 0)] [((2, 0), .box [.int .i64 a0.Kind, .int .i64 a0.N, .str a0.Key, .str a0.Value, .sl 5 (List.map enc23 a0.Kids)])] [(2, 1)] (envOk_cons (by conv => lhs; whnf) (by exact rfl) (envOk_cons (by conv => lhs; whnf) (by exact rfl) (envOk_cons (by conv => lhs; whnf) (by exact rfl) (envOk_cons (by conv => lhs; whnf) (by exact rfl) envOk_nil)))) (objOk_cons (by conv => lhs; whnf) (by conv => lhs; whnf) (by exact rfl) (by simp) objOk_nil) (nodup_b rfl) (nodup_b rfl) rfl rfl, 1, 0, h, rfl⟩ ?_
    rintro m s ⟨v5_0, v6_0, h, rfl⟩
    obtain ⟨m0, q9, rfl, h, hq10⟩ := loop_some h
    replace h : gleaningref1_nodes_b_l0 K a0 a1 v5_0 v6_0 = some q9 := h
    unfold gleaningref1_nodes_b_l0 at h
    obtain ⟨q11, h, hk12⟩ := bnd_some h
    refine aw_cut (fun s => gleaningref1_nodes_b_k1 K a0 a1 v5_0 v6_0 = some q9 ∧ s = lit [(1, .int .i64 a1), (2, .ptr 2 0 0), (5, .int .i64 v5_0), (6, .int .i64 v6_0)] [((2, 0), .box [.int .i64 a0.Kind, .int .i64 a0.N, .str a0.Key, .str a0.Value, .sl 5 (List.map enc23 a0.Kids)])] [(2, 1)] X) ?_ ?_
    · skip
      refine aw_seq_k (fun K13 hK13 => ?_)
      refine aw_regL ?_
      refine alP (some 9) rfl rfl (does_move (v := .int .i64 v6_0) (by exact rfl)) (by decide) ?_
      refine alP (some 10) rfl rfl (does_fieldAddr (q := .ptr 2 0 4) (by conv => lhs; whnf) ty24 rfl ty22 (by decide) (by exact rfl)) (by decide) ?_
      refine alR (some 11) rfl rfl (does_load (v := .sl 5 (List.map enc23 a0.Kids)) (by conv => lhs; whnf) (by conv => lhs; whnf) ty22 (by exact rfl)) (by decide) ?_
      refine alP (some 12) rfl rfl ((does_len_sl (by conv => lhs; whnf) ty22).castp (v' := .int .i64 (List.length a0.Kids : Int)) (by exact len_map _)) (by decide) ?_
      refine alP (some 13) rfl rfl (does_bin (v := .bool (decide (v6_0 < (List.length a0.Kids : Int)))) (by conv => lhs; whnf) (by conv => lhs; whnf) rfl) (by decide) ?_
      refine alP (some 14) rfl rfl (does_move (v := .bool (decide (v6_0 < (List.length a0.Kids : Int)))) (by exact rfl)) (by decide) ?_
      refine al_bool (c := (decide (v6_0 < (List.length a0.Kids : Int)))) 14 rfl (fun c14 => ?_) (fun c14 => ?_)
      · have h := ifT c14 h
        refine alP (some 15) rfl rfl (does_move (v := .int .i64 v5_0) (by exact rfl)) (by decide) ?_
        refine alP (some 16) rfl rfl (does_bin (v := .bool (decide (v5_0 ≤ 20))) (by conv => lhs; whnf) (by conv => lhs; whnf) rfl) (by decide) ?_
        refine alP (some 17) rfl rfl (does_pick (v := .bool (decide (v5_0 ≤ 20))) (by conv => lhs; whnf) (by exact rfl)) (by decide) ?_
        refine al_nil ?_
        refine hK13 _ ?_
        refine aw_bool (b := (decide (v5_0 ≤ 20))) 17 rfl (fun c15 => ?_) (fun c15 => ?_)
        · have h := ifT c15 h
          refine aw_cond_t (by decide) rfl ?_
          refine aw_skip ?_
          have h := leafL h hk12
          exact ⟨_, reb_lit [(1, .int .i64 a1), (2, .ptr 2 0 0), (5, .int .i64 v5_0), (6, .int .i64 v6_0)] [(2, 0)] [((2, 0), .box [.int .i64 a0.Kind, .int .i64 a0.N, .str a0.Key, .str a0.Value, .sl 5 (List.map enc23 a0.Kids)])] [(2, 1)] (envOk_cons (by conv => lhs; whnf) (by exact rfl) (envOk_cons (by conv => lhs; whnf) (by exact rfl) (envOk_cons (by conv => lhs; whnf) (by exact rfl) (envOk_cons (by conv => lhs; whnf) (by exact rfl) envOk_nil)))) (objOk_cons (by conv => lhs; whnf) (by conv => lhs; whnf) (by exact rfl) (by simp) objOk_nil) (nodup_b rfl) (nodup_b rfl) rfl rfl, h, rfl⟩
        · have h := ifF c15 h
          refine aw_cond_f (by decide) rfl ?_
          refine aw_exit ?_
          have h := leafR h hk12
          have h := leafR h hq10
          refine hK7 _ ?_
          refine aw_seq_k (fun K16 hK16 => ?_)
          refine aw_regL ?_
          refine alP (some 30) rfl rfl (does_move (v := .int .i64 v5_0) (by exact rfl)) (by decide) ?_
          refine alP (some 4) rfl rfl (does_assign (v := .int .i64 v5_0) (by exact rfl)) (by decide) ?_
          refine al_nil ?_
          refine hK16 _ ?_
          refine aw_ret ?_
          obtain rfl := Option.some.inj h
          exact ret_ok1 (by conv => lhs; whnf) (by conv => lhs; whnf) (by exact rfl) (.inr rfl) rfl
      · have h := ifF c14 h
        refine alS (some 15) rfl rfl (by decide) ?_
        refine alS (some 16) rfl rfl (by decide) ?_
        refine alP (some 17) rfl rfl (does_pick (v := .bool false) (by conv => lhs; whnf) (by exact rfl)) (by decide) ?_
        refine al_nil ?_
        refine hK13 _ ?_
        refine aw_cond_f (by decide) rfl ?_
        refine aw_exit ?_
        have h := leafR h hk12
        have h := leafR h hq10
        refine hK7 _ ?_
        refine aw_seq_k (fun K17 hK17 => ?_)
        refine aw_regL ?_
        refine alP (some 30) rfl rfl (does_move (v := .int .i64 v5_0) (by exact rfl)) (by decide) ?_
        refine alP (some 4) rfl rfl (does_assign (v := .int .i64 v5_0) (by exact rfl)) (by decide) ?_
        refine al_nil ?_
        refine hK17 _ ?_
        refine aw_ret ?_
        obtain rfl := Option.some.inj h
        exact ret_ok1 (by conv => lhs; whnf) (by conv => lhs; whnf) (by exact rfl) (.inr rfl) rfl
    · rintro s ⟨h, rfl⟩
      unfold gleaningref1_nodes_b_k1 at h
      refine aw_seq_k (fun K18 hK18 => ?_)
      refine aw_block ?_
      refine aw_regL ?_
      refine alP (some 20) rfl rfl (does_move (v := .int .i64 v5_0) (by exact rfl)) (by decide) ?_
      refine alP (some 21) rfl rfl (does_fieldAddr (q := .ptr 2 0 4) (by conv => lhs; whnf) ty24 rfl ty22 (by decide) (by exact rfl)) (by decide) ?_
      refine alR (some 22) rfl rfl (does_load (v := .sl 5 (List.map enc23 a0.Kids)) (by conv => lhs; whnf) (by conv => lhs; whnf) ty22 (by exact rfl)) (by decide) ?_
      refine alP (some 23) rfl rfl (does_move (v := .int .i64 v6_0) (by exact rfl)) (by decide) ?_
      obtain ⟨g19, h⟩ := gd_some h
      obtain ⟨x20, hx20, h⟩ := bnd_some h
      refine alP (some 24) rfl rfl (does_indexAddr_sl (el := .agg [.int .i64 x20.Kind, .int .i64 x20.N, .str x20.Key, .str x20.Value, .sl 5 (List.map enc23 x20.Kids)]) (by conv => lhs; whnf) (by conv => lhs; whnf) ty22 ty24 g19 (by exact map_getE (enc23_eq _) hx20)) (by decide) ?_
      refine alR (some 25) rfl rfl (does_load (v := .agg [.int .i64 x20.Kind, .int .i64 x20.N, .str x20.Key, .str x20.Value, .sl 5 (List.map enc23 x20.Kids)]) (by conv => lhs; whnf) (by conv => lhs; whnf) ty24 (by exact rfl)) (by decide) ?_
      refine alP (some 26) rfl rfl (does_move (v := .int .i64 a1) (by exact rfl)) (by decide) ?_
      refine alP (some 27) rfl rfl (does_bin (v := .int .i64 (IntKind.i64.wrap (a1 - 1))) (by conv => lhs; whnf) (by conv => lhs; whnf) rfl) (by decide) ?_
      obtain ⟨x21, hx21, h⟩ := bnd_some h
      refine alD (some 28) rfl rfl (do_call0 28 false (hK x20 (IntKind.i64.wrap (a1 - 1)) hx21) rfl ent60 rfl rfl) (by decide) ?_
      refine alP (some 29) rfl rfl (does_bin (v := .int .i64 (IntKind.i64.wrap (v5_0 + x21))) (by conv => lhs; whnf) (by conv => lhs; whnf) rfl) (by decide) ?_
      refine alP (some 5) rfl rfl (does_assign (v := .int .i64 (IntKind.i64.wrap (v5_0 + x21))) (by exact rfl)) (by decide) ?_
      refine al_nil ?_
      refine hK18 _ ?_
      refine aw_regL ?_
      refine alP (some 18) rfl rfl (does_move (v := .int .i64 v6_0) (by exact rfl)) (by decide) ?_
      refine alP (some 19) rfl rfl (does_bin (v := .int .i64 (IntKind.i64.wrap (v6_0 + 1))) (by conv => lhs; whnf) (by conv => lhs; whnf) rfl) (by decide) ?_
      refine alP (some 6) rfl rfl (does_assign (v := .int .i64 (IntKind.i64.wrap (v6_0 + 1))) (by exact rfl)) (by decide) ?_
      refine al_nil ?_
      have h := leafL h hq10
      exact ⟨m0, Nat.lt_succ_self _, _, reb_lit [(1, .int .i64 a1), (2, .ptr 2 0 0), (5, .int .i64 (IntKind.i64.wrap (v5_0 + x21))), (6, .int .i64 (IntKind.i64.wrap (v6_0 + 1)))] [(2, 0)] [((2, 0), .box [.int .i64 a0.Kind, .int .i64 a0.N, .str a0.Key, .str a0.Value, .sl 5 (List.map enc23 a0.Kids)])] [(2, 1)] (envOk_cons (by conv => lhs; whnf) (by exact rfl) (envOk_cons (by conv => lhs; whnf) (by exact rfl) (envOk_cons (by conv => lhs; whnf) (by exact rfl) (envOk_cons (by conv => lhs; whnf) (by exact rfl) envOk_nil)))) (objOk_cons (by conv => lhs; whnf) (by conv => lhs; whnf) (by exact rfl) (by simp) objOk_nil) (nodup_b rfl) (nodup_b rfl) rfl rfl, (IntKind.i64.wrap (v5_0 + x21)), (IntKind.i64.wrap (v6_0 + 1)), h, rfl⟩
def gleaningref1_nodesN : Nat → Rule → Int → Option Int
  | 0, _, _ => none
  | n + 1, a0, a1 => gleaningref1_nodes_b (gleaningref1_nodesN n) a0 a1
theorem gleaningref1_nodesN_ok : ∀ (n : Nat) (a0 : Rule) (a1 : Int) {r : Int}, gleaningref1_nodesN n a0 a1 = some r → Ok Try.prog 60 [.agg [.int .i64 a0.Kind, .int .i64 a0.N, .str a0.Key, .str a0.Value, .sl 5 (List.map enc23 a0.Kids)], .int .i64 a1] [] [] (.int .i64 r) [] []
  | 0, _, _, _, h => by simp [gleaningref1_nodesN] at h
  | n + 1, a0, a1, _, h => gleaningref1_nodes_b_ok (gleaningref1_nodesN n) (gleaningref1_nodesN_ok n) a0 a1 h
def gleaningref1_nodes (a0 : Rule) (a1 : Int) : Option Int := gleaningref1_nodesN Fu a0 a1
theorem gleaningref1_nodes_ok (a0 : Rule) (a1 : Int) {r : Int} (h : gleaningref1_nodes a0 a1 = some r) : Ok Try.prog 60 [.agg [.int .i64 a0.Kind, .int .i64 a0.N, .str a0.Key, .str a0.Value, .sl 5 (List.map enc23 a0.Kids)], .int .i64 a1] [] [] (.int .i64 r) [] [] := gleaningref1_nodesN_ok Fu a0 a1 h
def gleaningref1_Within (a0 : Int) (a1 : Int) (a2 : Int) : Option Bool :=
  if (decide (a1 ≤ a0)) = true then (some (decide (a0 ≤ a2))) else (some false)
set_option maxRecDepth 100000 in
set_option maxHeartbeats 8000000 in
/-- gleaning/gleaningref1.Within -/
theorem gleaningref1_Within_ok (a0 : Int) (a1 : Int) (a2 : Int) {r : Bool} (h : gleaningref1_Within a0 a1 a2 = some r) : Ok Try.prog 62 [.int .i64 a0, .int .i64 a1, .int .i64 a2] [] [] (.bool r) [] [] := by
  unfold gleaningref1_Within at h
  refine ok_of_code Try.func62 rfl (by show (3 : Nat) ≤ _; decide) (Nat.le_refl _) fun X => ?_
  refine aw_seq_k (fun K1 hK1 => ?_)
  refine aw_regL ?_
  refine alP (some 6) rfl rfl (does_assign (v := .bool false) (by exact rfl)) (by decide) ?_
  refine al_nil ?_
  refine hK1 _ ?_
  refine aw_seq_k (fun K2 hK2 => ?_)
  refine aw_regL ?_
  refine alP (some 7) rfl rfl (does_move (v := .int .i64 a0) (by exact rfl)) (by decide) ?_
  refine alP (some 8) rfl rfl (does_move (v := .int .i64 a1) (by exact rfl)) (by decide) ?_
  refine alP (some 9) rfl rfl (does_bin (v := .bool (decide (a1 ≤ a0))) (by conv => lhs; whnf) (by conv => lhs; whnf) rfl) (by decide) ?_
  refine alP (some 10) rfl rfl (does_move (v := .bool (decide (a1 ≤ a0))) (by exact rfl)) (by decide) ?_
  refine al_bool (c := (decide (a1 ≤ a0))) 10 rfl (fun c3 => ?_) (fun c3 => ?_)
  · have h := ifT c3 h
    refine alP (some 11) rfl rfl (does_move (v := .int .i64 a0) (by exact rfl)) (by decide) ?_
    refine alP (some 12) rfl rfl (does_move (v := .int .i64 a2) (by exact rfl)) (by decide) ?_
    refine alP (some 13) rfl rfl (does_bin (v := .bool (decide (a0 ≤ a2))) (by conv => lhs; whnf) (by conv => lhs; whnf) rfl) (by decide) ?_
    refine alP (some 14) rfl rfl (does_pick (v := .bool (decide (a0 ≤ a2))) (by conv => lhs; whnf) (by exact rfl)) (by decide) ?_
    refine alP (some 6) rfl rfl (does_assign (v := .bool (decide (a0 ≤ a2))) (by exact rfl)) (by decide) ?_
    refine al_nil ?_
    refine hK2 _ ?_
    refine aw_ret ?_
    obtain rfl := Option.some.inj h
    exact ret_ok1 (by conv => lhs; whnf) (by conv => lhs; whnf) (by exact rfl) (.inr rfl) rfl
  · have h := ifF c3 h
    refine alS (some 11) rfl rfl (by decide) ?_
    refine alS (some 12) rfl rfl (by decide) ?_
    refine alS (some 13) rfl rfl (by decide) ?_
    refine alP (some 14) rfl rfl (does_pick (v := .bool false) (by conv => lhs; whnf) (by exact rfl)) (by decide) ?_
    refine alP (some 6) rfl rfl (does_assign (v := .bool false) (by exact rfl)) (by decide) ?_
    refine al_nil ?_
    refine hK2 _ ?_
    refine aw_ret ?_
    obtain rfl := Option.some.inj h
    exact ret_ok1 (by conv => lhs; whnf) (by conv => lhs; whnf) (by exact rfl) (.inr rfl) rfl
def gleaningref1_one_k3 (a0 : Rule) (v4_1 : Bool) (v87_3 : Bool) : Option Bool :=
  if v87_3 = true then (if v4_1 = true then (Option.bind (gleaningref1_Within a0.N 0 1000) (fun (x45 : Bool) => some x45)) else (some false)) else (if (a0.Kind == 9) = true then (if v4_1 = true then (Option.bind (gleaningref1_Within a0.N 0 1000000) (fun (x50 : Bool) => some x50)) else (some false)) else (some false))
def gleaningref1_one_k2 (a0 : Rule) (v3_0 : Bool) (v4_1 : Bool) (v34_2 : Bool) : Option Bool :=
  if v34_2 = true then (some v3_0) else (if (a0.Kind == 3) = true then (if v3_0 = true then (some ((List.length a0.Kids : Int) == 1)) else (some false)) else (if (a0.Kind == 5) = true then (if v3_0 = true then (some ((List.length a0.Kids : Int) == 0)) else (some false)) else (if (a0.Kind == 6) = true then (if (a0.N == 0) = true then (Option.bind (gleaningref1_Within (ByteArray.size a0.Key : Int) 1 16) (fun (x30 : Bool) => if x30 = true then (if (decide ((ByteArray.size a0.Value : Int) ≤ 16)) = true then (some ((List.length a0.Kids : Int) == 0)) else (some false)) else (some false))) else (some false)) else (if (a0.Kind == 4) = true then (if v4_1 = true then (Option.bind (gleaningref1_Within a0.N 0 1073741824) (fun (x37 : Bool) => some x37)) else (some false)) else (Option.bind (if (a0.Kind == 7) = true then (some true) else (some (a0.Kind == 8))) (fun (s : Bool) => gleaningref1_one_k3 a0 v4_1 s))))))
def gleaningref1_one_k1 (a0 : Rule) (v3_0 : Bool) (v4_1 : Bool) : Option Bool :=
  Option.bind (if (a0.Kind == 1) = true then (some true) else (some (a0.Kind == 2))) (fun (s : Bool) => gleaningref1_one_k2 a0 v3_0 v4_1 s)
def gleaningref1_one_k0 (a0 : Rule) (v3_0 : Bool) : Option Bool :=
  Option.bind (if (ByteArray.toList a0.Key == ByteArray.toList (strOf [])) = true then (if (ByteArray.toList a0.Value == ByteArray.toList (strOf [])) = true then (some ((List.length a0.Kids : Int) == 0)) else (some false)) else (some false)) (fun (s : Bool) => gleaningref1_one_k1 a0 v3_0 s)
def gleaningref1_one (a0 : Rule) : Option Bool :=
  Option.bind (if (a0.N == 0) = true then (if (ByteArray.toList a0.Key == ByteArray.toList (strOf [])) = true then (some (ByteArray.toList a0.Value == ByteArray.toList (strOf []))) else (some false)) else (some false)) (fun (s : Bool) => gleaningref1_one_k0 a0 s)
set_option maxRecDepth 100000 in
set_option maxHeartbeats 8000000 in
/-- gleaning/gleaningref1.one -/
theorem gleaningref1_one_ok (a0 : Rule) {r : Bool} (h : gleaningref1_one a0 = some r) : Ok Try.prog 95 [.agg [.int .i64 a0.Kind, .int .i64 a0.N, .str a0.Key, .str a0.Value, .sl 5 (List.map enc23 a0.Kids)]] [] [] (.bool r) [] [] := by
  unfold gleaningref1_one at h
  refine ok_of_code Try.func95 rfl (by show (1 : Nat) ≤ _; decide) (Nat.le_refl _) fun X => ?_
  refine aw_seq_k (fun K1 hK1 => ?_)
  refine aw_regL ?_
  refine alD (some 1) rfl rfl (do_box (by conv => lhs; whnf) rfl rfl) (by decide) ?_
  refine alP (some 2) rfl rfl (does_assign (v := .bool false) (by exact rfl)) (by decide) ?_
  refine al_nil ?_
  refine hK1 _ ?_
  obtain ⟨q2, h, hk3⟩ := bnd_some h
  refine aw_cut (fun s => ∃ (v3_0 : Bool), gleaningref1_one_k0 a0 v3_0 = some r ∧ s = lit [(1, .ptr 1 0 0), (3, .bool v3_0)] [((1, 0), .box [.int .i64 a0.Kind, .int .i64 a0.N, .str a0.Key, .str a0.Value, .sl 5 (List.map enc23 a0.Kids)])] [(1, 1)] X) ?_ ?_
  · skip
    refine aw_regL ?_
    refine alP (some 5) rfl rfl (does_fieldAddr (q := .ptr 1 0 1) (by conv => lhs; whnf) ty24 rfl ty3 (by decide) (by exact rfl)) (by decide) ?_
    refine alR (some 6) rfl rfl (does_load (v := .int .i64 a0.N) (by conv => lhs; whnf) (by conv => lhs; whnf) ty3 (by exact rfl)) (by decide) ?_
    refine alP (some 7) rfl rfl (does_bin (v := .bool (a0.N == 0)) (by conv => lhs; whnf) (by conv => lhs; whnf) rfl) (by decide) ?_
    refine alP (some 8) rfl rfl (does_move (v := .bool (a0.N == 0)) (by exact rfl)) (by decide) ?_
    refine al_bool (c := (a0.N == 0)) 8 rfl (fun c4 => ?_) (fun c4 => ?_)
    · have h := ifT c4 h
      refine alP (some 9) rfl rfl (does_fieldAddr (q := .ptr 1 0 2) (by conv => lhs; whnf) ty24 rfl ty9 (by decide) (by exact rfl)) (by decide) ?_
      refine alR (some 10) rfl rfl (does_load (v := .str a0.Key) (by conv => lhs; whnf) (by conv => lhs; whnf) ty9 (by exact rfl)) (by decide) ?_
      refine alP (some 11) rfl rfl (does_bin (v := .bool (ByteArray.toList a0.Key == ByteArray.toList (strOf []))) (by conv => lhs; whnf) (by conv => lhs; whnf) rfl) (by decide) ?_
      refine alP (some 12) rfl rfl (does_pick (v := .bool (ByteArray.toList a0.Key == ByteArray.toList (strOf []))) (by conv => lhs; whnf) (by exact rfl)) (by decide) ?_
      refine alP (some 13) rfl rfl (does_move (v := .bool (ByteArray.toList a0.Key == ByteArray.toList (strOf []))) (by exact rfl)) (by decide) ?_
      refine al_bool (c := (ByteArray.toList a0.Key == ByteArray.toList (strOf []))) 13 rfl (fun c5 => ?_) (fun c5 => ?_)
      · have h := ifT c5 h
        refine alP (some 14) rfl rfl (does_fieldAddr (q := .ptr 1 0 3) (by conv => lhs; whnf) ty24 rfl ty9 (by decide) (by exact rfl)) (by decide) ?_
        refine alR (some 15) rfl rfl (does_load (v := .str a0.Value) (by conv => lhs; whnf) (by conv => lhs; whnf) ty9 (by exact rfl)) (by decide) ?_
        refine alP (some 16) rfl rfl (does_bin (v := .bool (ByteArray.toList a0.Value == ByteArray.toList (strOf []))) (by conv => lhs; whnf) (by conv => lhs; whnf) rfl) (by decide) ?_
        refine alP (some 17) rfl rfl (does_pick (v := .bool (ByteArray.toList a0.Value == ByteArray.toList (strOf []))) (by conv => lhs; whnf) (by exact rfl)) (by decide) ?_
        refine alP (some 3) rfl rfl (does_assign (v := .bool (ByteArray.toList a0.Value == ByteArray.toList (strOf []))) (by exact rfl)) (by decide) ?_
        refine al_nil ?_
        obtain rfl := Option.some.inj h
        have h := hk3
        exact ⟨_, reb_lit [(1, .ptr 1 0 0), (3, .bool (ByteArray.toList a0.Value == ByteArray.toList (strOf [])))] [(1, 0)] [((1, 0), .box [.int .i64 a0.Kind, .int .i64 a0.N, .str a0.Key, .str a0.Value, .sl 5 (List.map enc23 a0.Kids)])] [(1, 1)] (envOk_cons (by conv => lhs; whnf) (by exact rfl) (envOk_cons (by conv => lhs; whnf) (by exact rfl) envOk_nil)) (objOk_cons (by conv => lhs; whnf) (by conv => lhs; whnf) (by exact rfl) (by simp) objOk_nil) (nodup_b rfl) (nodup_b rfl) rfl rfl, (ByteArray.toList a0.Value == ByteArray.toList (strOf [])), h, rfl⟩
      · have h := ifF c5 h
        refine alS (some 14) rfl rfl (by decide) ?_
        refine alS (some 15) rfl rfl (by decide) ?_
        refine alS (some 16) rfl rfl (by decide) ?_
        refine alP (some 17) rfl rfl (does_pick (v := .bool false) (by conv => lhs; whnf) (by exact rfl)) (by decide) ?_
        refine alP (some 3) rfl rfl (does_assign (v := .bool false) (by exact rfl)) (by decide) ?_
        refine al_nil ?_
        obtain rfl := Option.some.inj h
        have h := hk3
        exact ⟨_, reb_lit [(1, .ptr 1 0 0), (3, .bool false)] [(1, 0)] [((1, 0), .box [.int .i64 a0.Kind, .int .i64 a0.N, .str a0.Key, .str a0.Value, .sl 5 (List.map enc23 a0.Kids)])] [(1, 1)] (envOk_cons (by conv => lhs; whnf) (by exact rfl) (envOk_cons (by conv => lhs; whnf) (by exact rfl) envOk_nil)) (objOk_cons (by conv => lhs; whnf) (by conv => lhs; whnf) (by exact rfl) (by simp) objOk_nil) (nodup_b rfl) (nodup_b rfl) rfl rfl, false, h, rfl⟩
    · have h := ifF c4 h
      refine alS (some 9) rfl rfl (by decide) ?_
      refine alS (some 10) rfl rfl (by decide) ?_
      refine alS (some 11) rfl rfl (by decide) ?_
      refine alP (some 12) rfl rfl (does_pick (v := .bool false) (by conv => lhs; whnf) (by exact rfl)) (by decide) ?_
      refine alP (some 13) rfl rfl (does_move (v := .bool false) (by exact rfl)) (by decide) ?_
      refine alS (some 14) rfl rfl (by decide) ?_
      refine alS (some 15) rfl rfl (by decide) ?_
      refine alS (some 16) rfl rfl (by decide) ?_
      refine alP (some 17) rfl rfl (does_pick (v := .bool false) (by conv => lhs; whnf) (by exact rfl)) (by decide) ?_
      refine alP (some 3) rfl rfl (does_assign (v := .bool false) (by exact rfl)) (by decide) ?_
      refine al_nil ?_
      obtain rfl := Option.some.inj h
      have h := hk3
      exact ⟨_, reb_lit [(1, .ptr 1 0 0), (3, .bool false)] [(1, 0)] [((1, 0), .box [.int .i64 a0.Kind, .int .i64 a0.N, .str a0.Key, .str a0.Value, .sl 5 (List.map enc23 a0.Kids)])] [(1, 1)] (envOk_cons (by conv => lhs; whnf) (by exact rfl) (envOk_cons (by conv => lhs; whnf) (by exact rfl) envOk_nil)) (objOk_cons (by conv => lhs; whnf) (by conv => lhs; whnf) (by exact rfl) (by simp) objOk_nil) (nodup_b rfl) (nodup_b rfl) rfl rfl, false, h, rfl⟩
  · rintro s ⟨v3_0, h, rfl⟩
    unfold gleaningref1_one_k0 at h
    obtain ⟨q6, h, hk7⟩ := bnd_some h
    refine aw_cut (fun s => ∃ (v4_1 : Bool), gleaningref1_one_k1 a0 v3_0 v4_1 = some r ∧ s = lit [(1, .ptr 1 0 0), (3, .bool v3_0), (4, .bool v4_1)] [((1, 0), .box [.int .i64 a0.Kind, .int .i64 a0.N, .str a0.Key, .str a0.Value, .sl 5 (List.map enc23 a0.Kids)])] [(1, 1)] X) ?_ ?_
    · skip
      refine aw_regL ?_
      refine alP (some 18) rfl rfl (does_fieldAddr (q := .ptr 1 0 2) (by conv => lhs; whnf) ty24 rfl ty9 (by decide) (by exact rfl)) (by decide) ?_
      refine alR (some 19) rfl rfl (does_load (v := .str a0.Key) (by conv => lhs; whnf) (by conv => lhs; whnf) ty9 (by exact rfl)) (by decide) ?_
      refine alP (some 20) rfl rfl (does_bin (v := .bool (ByteArray.toList a0.Key == ByteArray.toList (strOf []))) (by conv => lhs; whnf) (by conv => lhs; whnf) rfl) (by decide) ?_
      refine alP (some 21) rfl rfl (does_move (v := .bool (ByteArray.toList a0.Key == ByteArray.toList (strOf []))) (by exact rfl)) (by decide) ?_
      refine al_bool (c := (ByteArray.toList a0.Key == ByteArray.toList (strOf []))) 21 rfl (fun c8 => ?_) (fun c8 => ?_)
      · have h := ifT c8 h
        refine alP (some 22) rfl rfl (does_fieldAddr (q := .ptr 1 0 3) (by conv => lhs; whnf) ty24 rfl ty9 (by decide) (by exact rfl)) (by decide) ?_
        refine alR (some 23) rfl rfl (does_load (v := .str a0.Value) (by conv => lhs; whnf) (by conv => lhs; whnf) ty9 (by exact rfl)) (by decide) ?_
        refine alP (some 24) rfl rfl (does_bin (v := .bool (ByteArray.toList a0.Value == ByteArray.toList (strOf []))) (by conv => lhs; whnf) (by conv => lhs; whnf) rfl) (by decide) ?_
        refine alP (some 25) rfl rfl (does_pick (v := .bool (ByteArray.toList a0.Value == ByteArray.toList (strOf []))) (by conv => lhs; whnf) (by exact rfl)) (by decide) ?_
        refine alP (some 26) rfl rfl (does_move (v := .bool (ByteArray.toList a0.Value == ByteArray.toList (strOf []))) (by exact rfl)) (by decide) ?_
        refine al_bool (c := (ByteArray.toList a0.Value == ByteArray.toList (strOf []))) 26 rfl (fun c9 => ?_) (fun c9 => ?_)
        · have h := ifT c9 h
          refine alP (some 27) rfl rfl (does_fieldAddr (q := .ptr 1 0 4) (by conv => lhs; whnf) ty24 rfl ty22 (by decide) (by exact rfl)) (by decide) ?_
          refine alR (some 28) rfl rfl (does_load (v := .sl 5 (List.map enc23 a0.Kids)) (by conv => lhs; whnf) (by conv => lhs; whnf) ty22 (by exact rfl)) (by decide) ?_
          refine alP (some 29) rfl rfl ((does_len_sl (by conv => lhs; whnf) ty22).castp (v' := .int .i64 (List.length a0.Kids : Int)) (by exact len_map _)) (by decide) ?_
          refine alP (some 30) rfl rfl (does_bin (v := .bool ((List.length a0.Kids : Int) == 0)) (by conv => lhs; whnf) (by conv => lhs; whnf) rfl) (by decide) ?_
          refine alP (some 31) rfl rfl (does_pick (v := .bool ((List.length a0.Kids : Int) == 0)) (by conv => lhs; whnf) (by exact rfl)) (by decide) ?_
          refine alP (some 4) rfl rfl (does_assign (v := .bool ((List.length a0.Kids : Int) == 0)) (by exact rfl)) (by decide) ?_
          refine al_nil ?_
          obtain rfl := Option.some.inj h
          have h := hk7
          exact ⟨_, reb_lit [(1, .ptr 1 0 0), (3, .bool v3_0), (4, .bool ((List.length a0.Kids : Int) == 0))] [(1, 0)] [((1, 0), .box [.int .i64 a0.Kind, .int .i64 a0.N, .str a0.Key, .str a0.Value, .sl 5 (List.map enc23 a0.Kids)])] [(1, 1)] (envOk_cons (by conv => lhs; whnf) (by exact rfl) (envOk_cons (by conv => lhs; whnf) (by exact rfl) (envOk_cons (by conv => lhs; whnf) (by exact rfl) envOk_nil))) (objOk_cons (by conv => lhs; whnf) (by conv => lhs; whnf) (by exact rfl) (by simp) objOk_nil) (nodup_b rfl) (nodup_b rfl) rfl rfl, ((List.length a0.Kids : Int) == 0), h, rfl⟩
        · have h := ifF c9 h
          refine alS (some 27) rfl rfl (by decide) ?_
          refine alS (some 28) rfl rfl (by decide) ?_
          refine alS (some 29) rfl rfl (by decide) ?_
          refine alS (some 30) rfl rfl (by decide) ?_
          refine alP (some 31) rfl rfl (does_pick (v := .bool false) (by conv => lhs; whnf) (by exact rfl)) (by decide) ?_
          refine alP (some 4) rfl rfl (does_assign (v := .bool false) (by exact rfl)) (by decide) ?_
          refine al_nil ?_
          obtain rfl := Option.some.inj h
          have h := hk7
          exact ⟨_, reb_lit [(1, .ptr 1 0 0), (3, .bool v3_0), (4, .bool false)] [(1, 0)] [((1, 0), .box [.int .i64 a0.Kind, .int .i64 a0.N, .str a0.Key, .str a0.Value, .sl 5 (List.map enc23 a0.Kids)])] [(1, 1)] (envOk_cons (by conv => lhs; whnf) (by exact rfl) (envOk_cons (by conv => lhs; whnf) (by exact rfl) (envOk_cons (by conv => lhs; whnf) (by exact rfl) envOk_nil))) (objOk_cons (by conv => lhs; whnf) (by conv => lhs; whnf) (by exact rfl) (by simp) objOk_nil) (nodup_b rfl) (nodup_b rfl) rfl rfl, false, h, rfl⟩
      · have h := ifF c8 h
        refine alS (some 22) rfl rfl (by decide) ?_
        refine alS (some 23) rfl rfl (by decide) ?_
        refine alS (some 24) rfl rfl (by decide) ?_
        refine alP (some 25) rfl rfl (does_pick (v := .bool false) (by conv => lhs; whnf) (by exact rfl)) (by decide) ?_
        refine alP (some 26) rfl rfl (does_move (v := .bool false) (by exact rfl)) (by decide) ?_
        refine alS (some 27) rfl rfl (by decide) ?_
        refine alS (some 28) rfl rfl (by decide) ?_
        refine alS (some 29) rfl rfl (by decide) ?_
        refine alS (some 30) rfl rfl (by decide) ?_
        refine alP (some 31) rfl rfl (does_pick (v := .bool false) (by conv => lhs; whnf) (by exact rfl)) (by decide) ?_
        refine alP (some 4) rfl rfl (does_assign (v := .bool false) (by exact rfl)) (by decide) ?_
        refine al_nil ?_
        obtain rfl := Option.some.inj h
        have h := hk7
        exact ⟨_, reb_lit [(1, .ptr 1 0 0), (3, .bool v3_0), (4, .bool false)] [(1, 0)] [((1, 0), .box [.int .i64 a0.Kind, .int .i64 a0.N, .str a0.Key, .str a0.Value, .sl 5 (List.map enc23 a0.Kids)])] [(1, 1)] (envOk_cons (by conv => lhs; whnf) (by exact rfl) (envOk_cons (by conv => lhs; whnf) (by exact rfl) (envOk_cons (by conv => lhs; whnf) (by exact rfl) envOk_nil))) (objOk_cons (by conv => lhs; whnf) (by conv => lhs; whnf) (by exact rfl) (by simp) objOk_nil) (nodup_b rfl) (nodup_b rfl) rfl rfl, false, h, rfl⟩
    · rintro s ⟨v4_1, h, rfl⟩
      unfold gleaningref1_one_k1 at h
      refine aw_seq_k (fun K10 hK10 => ?_)
      refine aw_seq_k (fun K11 hK11 => ?_)
      refine aw_regL ?_
      refine alP (some 32) rfl rfl (does_fieldAddr (q := .ptr 1 0 0) (by conv => lhs; whnf) ty24 rfl ty3 (by decide) (by exact rfl)) (by decide) ?_
      refine alR (some 33) rfl rfl (does_load (v := .int .i64 a0.Kind) (by conv => lhs; whnf) (by conv => lhs; whnf) ty3 (by exact rfl)) (by decide) ?_
      refine al_nil ?_
      refine hK11 _ ?_
      refine aw_block ?_
      obtain ⟨q12, h, hk13⟩ := bnd_some h
      refine aw_cut (fun s => ∃ (v34_2 : Bool), gleaningref1_one_k2 a0 v3_0 v4_1 v34_2 = some r ∧ s = lit [(1, .ptr 1 0 0), (3, .bool v3_0), (4, .bool v4_1), (33, .int .i64 a0.Kind), (34, .bool v34_2)] [((1, 0), .box [.int .i64 a0.Kind, .int .i64 a0.N, .str a0.Key, .str a0.Value, .sl 5 (List.map enc23 a0.Kids)])] [(1, 1)] X) ?_ ?_
      · skip
        refine aw_seq_k (fun K14 hK14 => ?_)
        refine aw_regL ?_
        refine alP (some 35) rfl rfl (does_bin (v := .bool (a0.Kind == 1)) (by conv => lhs; whnf) (by conv => lhs; whnf) rfl) (by decide) ?_
        refine alP (some 34) rfl rfl (does_assign (v := .bool (a0.Kind == 1)) (by exact rfl)) (by decide) ?_
        refine al_nil ?_
        refine hK14 _ ?_
        refine aw_bool (b := (a0.Kind == 1)) 34 rfl (fun c15 => ?_) (fun c15 => ?_)
        · have h := ifT c15 h
          refine aw_cond_t (by decide) rfl ?_
          refine aw_skip ?_
          obtain rfl := Option.some.inj h
          have h := hk13
          exact ⟨_, reb_lit [(1, .ptr 1 0 0), (3, .bool v3_0), (4, .bool v4_1), (33, .int .i64 a0.Kind), (34, .bool true)] [(1, 0)] [((1, 0), .box [.int .i64 a0.Kind, .int .i64 a0.N, .str a0.Key, .str a0.Value, .sl 5 (List.map enc23 a0.Kids)])] [(1, 1)] (envOk_cons (by conv => lhs; whnf) (by exact rfl) (envOk_cons (by conv => lhs; whnf) (by exact rfl) (envOk_cons (by conv => lhs; whnf) (by exact rfl) (envOk_cons (by conv => lhs; whnf) (by exact rfl) (envOk_cons (by conv => lhs; whnf) (by exact rfl) envOk_nil))))) (objOk_cons (by conv => lhs; whnf) (by conv => lhs; whnf) (by exact rfl) (by simp) objOk_nil) (nodup_b rfl) (nodup_b rfl) rfl rfl, true, h, rfl⟩
        · have h := ifF c15 h
          refine aw_cond_f (by decide) rfl ?_
          refine aw_regL ?_
          refine alP (some 36) rfl rfl (does_bin (v := .bool (a0.Kind == 2)) (by conv => lhs; whnf) (by conv => lhs; whnf) rfl) (by decide) ?_
          refine alP (some 34) rfl rfl (does_assign (v := .bool (a0.Kind == 2)) (by exact rfl)) (by decide) ?_
          refine al_nil ?_
          obtain rfl := Option.some.inj h
          have h := hk13
          exact ⟨_, reb_lit [(1, .ptr 1 0 0), (3, .bool v3_0), (4, .bool v4_1), (33, .int .i64 a0.Kind), (34, .bool (a0.Kind == 2))] [(1, 0)] [((1, 0), .box [.int .i64 a0.Kind, .int .i64 a0.N, .str a0.Key, .str a0.Value, .sl 5 (List.map enc23 a0.Kids)])] [(1, 1)] (envOk_cons (by conv => lhs; whnf) (by exact rfl) (envOk_cons (by conv => lhs; whnf) (by exact rfl) (envOk_cons (by conv => lhs; whnf) (by exact rfl) (envOk_cons (by conv => lhs; whnf) (by exact rfl) (envOk_cons (by conv => lhs; whnf) (by exact rfl) envOk_nil))))) (objOk_cons (by conv => lhs; whnf) (by conv => lhs; whnf) (by exact rfl) (by simp) objOk_nil) (nodup_b rfl) (nodup_b rfl) rfl rfl, (a0.Kind == 2), h, rfl⟩
      · rintro s ⟨v34_2, h, rfl⟩
        unfold gleaningref1_one_k2 at h
        refine aw_bool (b := v34_2) 34 rfl (fun c16 => ?_) (fun c16 => ?_)
        · have h := ifT c16 h
          refine aw_cond_t (by decide) rfl ?_
          refine aw_seq_k (fun K17 hK17 => ?_)
          refine aw_regL ?_
          refine alP (some 37) rfl rfl (does_move (v := .bool v3_0) (by exact rfl)) (by decide) ?_
          refine alP (some 2) rfl rfl (does_assign (v := .bool v3_0) (by exact rfl)) (by decide) ?_
          refine al_nil ?_
          refine hK17 _ ?_
          refine aw_ret ?_
          obtain rfl := Option.some.inj h
          exact ret_ok1 (by conv => lhs; whnf) (by conv => lhs; whnf) (by exact rfl) (.inr rfl) rfl
        · have h := ifF c16 h
          refine aw_cond_f (by decide) rfl ?_
          refine aw_seq_k (fun K18 hK18 => ?_)
          refine aw_regL ?_
          refine alP (some 39) rfl rfl (does_bin (v := .bool (a0.Kind == 3)) (by conv => lhs; whnf) (by conv => lhs; whnf) rfl) (by decide) ?_
          refine alP (some 38) rfl rfl (does_assign (v := .bool (a0.Kind == 3)) (by exact rfl)) (by decide) ?_
          refine al_nil ?_
          refine hK18 _ ?_
          refine aw_bool (b := (a0.Kind == 3)) 38 rfl (fun c19 => ?_) (fun c19 => ?_)
          · have h := ifT c19 h
            refine aw_cond_t (by decide) rfl ?_
            refine aw_seq_k (fun K20 hK20 => ?_)
            refine aw_regL ?_
            refine alP (some 40) rfl rfl (does_move (v := .bool v3_0) (by exact rfl)) (by decide) ?_
            refine alP (some 41) rfl rfl (does_move (v := .bool v3_0) (by exact rfl)) (by decide) ?_
            refine al_bool (c := v3_0) 41 rfl (fun c21 => ?_) (fun c21 => ?_)
            · have h := ifT c21 h
              refine alP (some 42) rfl rfl (does_fieldAddr (q := .ptr 1 0 4) (by conv => lhs; whnf) ty24 rfl ty22 (by decide) (by exact rfl)) (by decide) ?_
              refine alR (some 43) rfl rfl (does_load (v := .sl 5 (List.map enc23 a0.Kids)) (by conv => lhs; whnf) (by conv => lhs; whnf) ty22 (by exact rfl)) (by decide) ?_
              refine alP (some 44) rfl rfl ((does_len_sl (by conv => lhs; whnf) ty22).castp (v' := .int .i64 (List.length a0.Kids : Int)) (by exact len_map _)) (by decide) ?_
              refine alP (some 45) rfl rfl (does_bin (v := .bool ((List.length a0.Kids : Int) == 1)) (by conv => lhs; whnf) (by conv => lhs; whnf) rfl) (by decide) ?_
              refine alP (some 46) rfl rfl (does_pick (v := .bool ((List.length a0.Kids : Int) == 1)) (by conv => lhs; whnf) (by exact rfl)) (by decide) ?_
              refine alP (some 2) rfl rfl (does_assign (v := .bool ((List.length a0.Kids : Int) == 1)) (by exact rfl)) (by decide) ?_
              refine al_nil ?_
              refine hK20 _ ?_
              refine aw_ret ?_
              obtain rfl := Option.some.inj h
              exact ret_ok1 (by conv => lhs; whnf) (by conv => lhs; whnf) (by exact rfl) (.inr rfl) rfl
            · have h := ifF c21 h
              refine alS (some 42) rfl rfl (by decide) ?_
              refine alS (some 43) rfl rfl (by decide) ?_
              refine alS (some 44) rfl rfl (by decide) ?_
              refine alS (some 45) rfl rfl (by decide) ?_
              refine alP (some 46) rfl rfl (does_pick (v := .bool false) (by conv => lhs; whnf) (by exact rfl)) (by decide) ?_
              refine alP (some 2) rfl rfl (does_assign (v := .bool false) (by exact rfl)) (by decide) ?_
              refine al_nil ?_
              refine hK20 _ ?_
              refine aw_ret ?_
              obtain rfl := Option.some.inj h
              exact ret_ok1 (by conv => lhs; whnf) (by conv => lhs; whnf) (by exact rfl) (.inr rfl) rfl
          · have h := ifF c19 h
            refine aw_cond_f (by decide) rfl ?_
            refine aw_seq_k (fun K22 hK22 => ?_)
            refine aw_regL ?_
            refine alP (some 48) rfl rfl (does_bin (v := .bool (a0.Kind == 5)) (by conv => lhs; whnf) (by conv => lhs; whnf) rfl) (by decide) ?_
            refine alP (some 47) rfl rfl (does_assign (v := .bool (a0.Kind == 5)) (by exact rfl)) (by decide) ?_
            refine al_nil ?_
            refine hK22 _ ?_
            refine aw_bool (b := (a0.Kind == 5)) 47 rfl (fun c23 => ?_) (fun c23 => ?_)
            · have h := ifT c23 h
              refine aw_cond_t (by decide) rfl ?_
              refine aw_seq_k (fun K24 hK24 => ?_)
              refine aw_regL ?_
              refine alP (some 49) rfl rfl (does_move (v := .bool v3_0) (by exact rfl)) (by decide) ?_
              refine alP (some 50) rfl rfl (does_move (v := .bool v3_0) (by exact rfl)) (by decide) ?_
              refine al_bool (c := v3_0) 50 rfl (fun c25 => ?_) (fun c25 => ?_)
              · have h := ifT c25 h
                refine alP (some 51) rfl rfl (does_fieldAddr (q := .ptr 1 0 4) (by conv => lhs; whnf) ty24 rfl ty22 (by decide) (by exact rfl)) (by decide) ?_
                refine alR (some 52) rfl rfl (does_load (v := .sl 5 (List.map enc23 a0.Kids)) (by conv => lhs; whnf) (by conv => lhs; whnf) ty22 (by exact rfl)) (by decide) ?_
                refine alP (some 53) rfl rfl ((does_len_sl (by conv => lhs; whnf) ty22).castp (v' := .int .i64 (List.length a0.Kids : Int)) (by exact len_map _)) (by decide) ?_
                refine alP (some 54) rfl rfl (does_bin (v := .bool ((List.length a0.Kids : Int) == 0)) (by conv => lhs; whnf) (by conv => lhs; whnf) rfl) (by decide) ?_
                refine alP (some 55) rfl rfl (does_pick (v := .bool ((List.length a0.Kids : Int) == 0)) (by conv => lhs; whnf) (by exact rfl)) (by decide) ?_
                refine alP (some 2) rfl rfl (does_assign (v := .bool ((List.length a0.Kids : Int) == 0)) (by exact rfl)) (by decide) ?_
                refine al_nil ?_
                refine hK24 _ ?_
                refine aw_ret ?_
                obtain rfl := Option.some.inj h
                exact ret_ok1 (by conv => lhs; whnf) (by conv => lhs; whnf) (by exact rfl) (.inr rfl) rfl
              · have h := ifF c25 h
                refine alS (some 51) rfl rfl (by decide) ?_
                refine alS (some 52) rfl rfl (by decide) ?_
                refine alS (some 53) rfl rfl (by decide) ?_
                refine alS (some 54) rfl rfl (by decide) ?_
                refine alP (some 55) rfl rfl (does_pick (v := .bool false) (by conv => lhs; whnf) (by exact rfl)) (by decide) ?_
                refine alP (some 2) rfl rfl (does_assign (v := .bool false) (by exact rfl)) (by decide) ?_
                refine al_nil ?_
                refine hK24 _ ?_
                refine aw_ret ?_
                obtain rfl := Option.some.inj h
                exact ret_ok1 (by conv => lhs; whnf) (by conv => lhs; whnf) (by exact rfl) (.inr rfl) rfl
            · have h := ifF c23 h
              refine aw_cond_f (by decide) rfl ?_
              refine aw_seq_k (fun K26 hK26 => ?_)
              refine aw_regL ?_
              refine alP (some 57) rfl rfl (does_bin (v := .bool (a0.Kind == 6)) (by conv => lhs; whnf) (by conv => lhs; whnf) rfl) (by decide) ?_
              refine alP (some 56) rfl rfl (does_assign (v := .bool (a0.Kind == 6)) (by exact rfl)) (by decide) ?_
              refine al_nil ?_
              refine hK26 _ ?_
              refine aw_bool (b := (a0.Kind == 6)) 56 rfl (fun c27 => ?_) (fun c27 => ?_)
              · have h := ifT c27 h
                refine aw_cond_t (by decide) rfl ?_
                refine aw_seq_k (fun K28 hK28 => ?_)
                refine aw_regL ?_
                refine alP (some 58) rfl rfl (does_fieldAddr (q := .ptr 1 0 1) (by conv => lhs; whnf) ty24 rfl ty3 (by decide) (by exact rfl)) (by decide) ?_
                refine alR (some 59) rfl rfl (does_load (v := .int .i64 a0.N) (by conv => lhs; whnf) (by conv => lhs; whnf) ty3 (by exact rfl)) (by decide) ?_
                refine alP (some 60) rfl rfl (does_bin (v := .bool (a0.N == 0)) (by conv => lhs; whnf) (by conv => lhs; whnf) rfl) (by decide) ?_
                refine alP (some 61) rfl rfl (does_move (v := .bool (a0.N == 0)) (by exact rfl)) (by decide) ?_
                refine al_bool (c := (a0.N == 0)) 61 rfl (fun c29 => ?_) (fun c29 => ?_)
                · have h := ifT c29 h
                  refine alP (some 62) rfl rfl (does_fieldAddr (q := .ptr 1 0 2) (by conv => lhs; whnf) ty24 rfl ty9 (by decide) (by exact rfl)) (by decide) ?_
                  refine alR (some 63) rfl rfl (does_load (v := .str a0.Key) (by conv => lhs; whnf) (by conv => lhs; whnf) ty9 (by exact rfl)) (by decide) ?_
                  refine alP (some 64) rfl rfl (does_len_str (by conv => lhs; whnf) ty9) (by decide) ?_
                  obtain ⟨x30, hx30, h⟩ := bnd_some h
                  refine alD (some 65) rfl rfl ((do_call0 65 false (gleaningref1_Within_ok (ByteArray.size a0.Key : Int) 1 16 hx30) rfl ent62 rfl rfl).fx (y := ⟨[], .bool x30, [], [65]⟩) rfl) (by decide) ?_
                  refine alP (some 66) rfl rfl (does_pick (v := .bool x30) (by conv => lhs; whnf) (by exact rfl)) (by decide) ?_
                  refine alP (some 67) rfl rfl (does_move (v := .bool x30) (by exact rfl)) (by decide) ?_
                  refine al_bool (c := x30) 67 rfl (fun c31 => ?_) (fun c31 => ?_)
                  · have h := ifT c31 h
                    refine alP (some 68) rfl rfl (does_fieldAddr (q := .ptr 1 0 3) (by conv => lhs; whnf) ty24 rfl ty9 (by decide) (by exact rfl)) (by decide) ?_
                    refine alR (some 69) rfl rfl (does_load (v := .str a0.Value) (by conv => lhs; whnf) (by conv => lhs; whnf) ty9 (by exact rfl)) (by decide) ?_
                    refine alP (some 70) rfl rfl (does_len_str (by conv => lhs; whnf) ty9) (by decide) ?_
                    refine alP (some 71) rfl rfl (does_bin (v := .bool (decide ((ByteArray.size a0.Value : Int) ≤ 16))) (by conv => lhs; whnf) (by conv => lhs; whnf) rfl) (by decide) ?_
                    refine alP (some 72) rfl rfl (does_pick (v := .bool (decide ((ByteArray.size a0.Value : Int) ≤ 16))) (by conv => lhs; whnf) (by exact rfl)) (by decide) ?_
                    refine alP (some 73) rfl rfl (does_move (v := .bool (decide ((ByteArray.size a0.Value : Int) ≤ 16))) (by exact rfl)) (by decide) ?_
                    refine al_bool (c := (decide ((ByteArray.size a0.Value : Int) ≤ 16))) 73 rfl (fun c32 => ?_) (fun c32 => ?_)
                    · have h := ifT c32 h
                      refine alP (some 74) rfl rfl (does_fieldAddr (q := .ptr 1 0 4) (by conv => lhs; whnf) ty24 rfl ty22 (by decide) (by exact rfl)) (by decide) ?_
                      refine alR (some 75) rfl rfl (does_load (v := .sl 5 (List.map enc23 a0.Kids)) (by conv => lhs; whnf) (by conv => lhs; whnf) ty22 (by exact rfl)) (by decide) ?_
                      refine alP (some 76) rfl rfl ((does_len_sl (by conv => lhs; whnf) ty22).castp (v' := .int .i64 (List.length a0.Kids : Int)) (by exact len_map _)) (by decide) ?_
                      refine alP (some 77) rfl rfl (does_bin (v := .bool ((List.length a0.Kids : Int) == 0)) (by conv => lhs; whnf) (by conv => lhs; whnf) rfl) (by decide) ?_
                      refine alP (some 78) rfl rfl (does_pick (v := .bool ((List.length a0.Kids : Int) == 0)) (by conv => lhs; whnf) (by exact rfl)) (by decide) ?_
                      refine alP (some 2) rfl rfl (does_assign (v := .bool ((List.length a0.Kids : Int) == 0)) (by exact rfl)) (by decide) ?_
                      refine al_nil ?_
                      refine hK28 _ ?_
                      refine aw_ret ?_
                      obtain rfl := Option.some.inj h
                      exact ret_ok1 (by conv => lhs; whnf) (by conv => lhs; whnf) (by exact rfl) (.inr rfl) rfl
                    · have h := ifF c32 h
                      refine alS (some 74) rfl rfl (by decide) ?_
                      refine alS (some 75) rfl rfl (by decide) ?_
                      refine alS (some 76) rfl rfl (by decide) ?_
                      refine alS (some 77) rfl rfl (by decide) ?_
                      refine alP (some 78) rfl rfl (does_pick (v := .bool false) (by conv => lhs; whnf) (by exact rfl)) (by decide) ?_
                      refine alP (some 2) rfl rfl (does_assign (v := .bool false) (by exact rfl)) (by decide) ?_
                      refine al_nil ?_
                      refine hK28 _ ?_
                      refine aw_ret ?_
                      obtain rfl := Option.some.inj h
                      exact ret_ok1 (by conv => lhs; whnf) (by conv => lhs; whnf) (by exact rfl) (.inr rfl) rfl
                  · have h := ifF c31 h
                    refine alS (some 68) rfl rfl (by decide) ?_
                    refine alS (some 69) rfl rfl (by decide) ?_
                    refine alS (some 70) rfl rfl (by decide) ?_
                    refine alS (some 71) rfl rfl (by decide) ?_
                    refine alP (some 72) rfl rfl (does_pick (v := .bool false) (by conv => lhs; whnf) (by exact rfl)) (by decide) ?_
                    refine alP (some 73) rfl rfl (does_move (v := .bool false) (by exact rfl)) (by decide) ?_
                    refine alS (some 74) rfl rfl (by decide) ?_
                    refine alS (some 75) rfl rfl (by decide) ?_
                    refine alS (some 76) rfl rfl (by decide) ?_
                    refine alS (some 77) rfl rfl (by decide) ?_
                    refine alP (some 78) rfl rfl (does_pick (v := .bool false) (by conv => lhs; whnf) (by exact rfl)) (by decide) ?_
                    refine alP (some 2) rfl rfl (does_assign (v := .bool false) (by exact rfl)) (by decide) ?_
                    refine al_nil ?_
                    refine hK28 _ ?_
                    refine aw_ret ?_
                    obtain rfl := Option.some.inj h
                    exact ret_ok1 (by conv => lhs; whnf) (by conv => lhs; whnf) (by exact rfl) (.inr rfl) rfl
                · have h := ifF c29 h
                  refine alS (some 62) rfl rfl (by decide) ?_
                  refine alS (some 63) rfl rfl (by decide) ?_
                  refine alS (some 64) rfl rfl (by decide) ?_
                  refine alS (some 65) rfl rfl (by decide) ?_
                  refine alP (some 66) rfl rfl (does_pick (v := .bool false) (by conv => lhs; whnf) (by exact rfl)) (by decide) ?_
                  refine alP (some 67) rfl rfl (does_move (v := .bool false) (by exact rfl)) (by decide) ?_
                  refine alS (some 68) rfl rfl (by decide) ?_
                  refine alS (some 69) rfl rfl (by decide) ?_
                  refine alS (some 70) rfl rfl (by decide) ?_
                  refine alS (some 71) rfl rfl (by decide) ?_
                  refine alP (some 72) rfl rfl (does_pick (v := .bool false) (by conv => lhs; whnf) (by exact rfl)) (by decide) ?_
                  refine alP (some 73) rfl rfl (does_move (v := .bool false) (by exact rfl)) (by decide) ?_
                  refine alS (some 74) rfl rfl (by decide) ?_
                  refine alS (some 75) rfl rfl (by decide) ?_
                  refine alS (some 76) rfl rfl (by decide) ?_
                  refine alS (some 77) rfl rfl (by decide) ?_
                  refine alP (some 78) rfl rfl (does_pick (v := .bool false) (by conv => lhs; whnf) (by exact rfl)) (by decide) ?_
                  refine alP (some 2) rfl rfl (does_assign (v := .bool false) (by exact rfl)) (by decide) ?_
                  refine al_nil ?_
                  refine hK28 _ ?_
                  refine aw_ret ?_
                  obtain rfl := Option.some.inj h
                  exact ret_ok1 (by conv => lhs; whnf) (by conv => lhs; whnf) (by exact rfl) (.inr rfl) rfl
              · have h := ifF c27 h
                refine aw_cond_f (by decide) rfl ?_
                refine aw_seq_k (fun K33 hK33 => ?_)
                refine aw_regL ?_
                refine alP (some 80) rfl rfl (does_bin (v := .bool (a0.Kind == 4)) (by conv => lhs; whnf) (by conv => lhs; whnf) rfl) (by decide) ?_
                refine alP (some 79) rfl rfl (does_assign (v := .bool (a0.Kind == 4)) (by exact rfl)) (by decide) ?_
                refine al_nil ?_
                refine hK33 _ ?_
                refine aw_bool (b := (a0.Kind == 4)) 79 rfl (fun c34 => ?_) (fun c34 => ?_)
                · have h := ifT c34 h
                  refine aw_cond_t (by decide) rfl ?_
                  refine aw_seq_k (fun K35 hK35 => ?_)
                  refine aw_regL ?_
                  refine alP (some 81) rfl rfl (does_move (v := .bool v4_1) (by exact rfl)) (by decide) ?_
                  refine alP (some 82) rfl rfl (does_move (v := .bool v4_1) (by exact rfl)) (by decide) ?_
                  refine al_bool (c := v4_1) 82 rfl (fun c36 => ?_) (fun c36 => ?_)
                  · have h := ifT c36 h
                    refine alP (some 83) rfl rfl (does_fieldAddr (q := .ptr 1 0 1) (by conv => lhs; whnf) ty24 rfl ty3 (by decide) (by exact rfl)) (by decide) ?_
                    refine alR (some 84) rfl rfl (does_load (v := .int .i64 a0.N) (by conv => lhs; whnf) (by conv => lhs; whnf) ty3 (by exact rfl)) (by decide) ?_
                    obtain ⟨x37, hx37, h⟩ := bnd_some h
                    refine alD (some 85) rfl rfl (do_call0 85 false (gleaningref1_Within_ok a0.N 0 1073741824 hx37) rfl ent62 rfl rfl) (by decide) ?_
                    refine alP (some 86) rfl rfl (does_pick (v := .bool x37) (by conv => lhs; whnf) (by exact rfl)) (by decide) ?_
                    refine alP (some 2) rfl rfl (does_assign (v := .bool x37) (by exact rfl)) (by decide) ?_
                    refine al_nil ?_
                    refine hK35 _ ?_
                    refine aw_ret ?_
                    obtain rfl := Option.some.inj h
                    exact ret_ok1 (by conv => lhs; whnf) (by conv => lhs; whnf) (by exact rfl) (.inr rfl) rfl
                  · have h := ifF c36 h
                    refine alS (some 83) rfl rfl (by decide) ?_
                    refine alS (some 84) rfl rfl (by decide) ?_
                    refine alS (some 85) rfl rfl (by decide) ?_
                    refine alP (some 86) rfl rfl (does_pick (v := .bool false) (by conv => lhs; whnf) (by exact rfl)) (by decide) ?_
                    refine alP (some 2) rfl rfl (does_assign (v := .bool false) (by exact rfl)) (by decide) ?_
                    refine al_nil ?_
                    refine hK35 _ ?_
                    refine aw_ret ?_
                    obtain rfl := Option.some.inj h
                    exact ret_ok1 (by conv => lhs; whnf) (by conv => lhs; whnf) (by exact rfl) (.inr rfl) rfl
                · have h := ifF c34 h
                  refine aw_cond_f (by decide) rfl ?_
                  obtain ⟨q38, h, hk39⟩ := bnd_some h
                  refine aw_cut (fun s => ∃ (v87_3 : Bool), gleaningref1_one_k3 a0 v4_1 v87_3 = some r ∧ s = lit [(1, .ptr 1 0 0), (4, .bool v4_1), (33, .int .i64 a0.Kind), (87, .bool v87_3)] [((1, 0), .box [.int .i64 a0.Kind, .int .i64 a0.N, .str a0.Key, .str a0.Value, .sl 5 (List.map enc23 a0.Kids)])] [(1, 1)] X) ?_ ?_
                  · skip
                    refine aw_seq_k (fun K40 hK40 => ?_)
                    refine aw_regL ?_
                    refine alP (some 88) rfl rfl (does_bin (v := .bool (a0.Kind == 7)) (by conv => lhs; whnf) (by conv => lhs; whnf) rfl) (by decide) ?_
                    refine alP (some 87) rfl rfl (does_assign (v := .bool (a0.Kind == 7)) (by exact rfl)) (by decide) ?_
                    refine al_nil ?_
                    refine hK40 _ ?_
                    refine aw_bool (b := (a0.Kind == 7)) 87 rfl (fun c41 => ?_) (fun c41 => ?_)
                    · have h := ifT c41 h
                      refine aw_cond_t (by decide) rfl ?_
                      refine aw_skip ?_
                      obtain rfl := Option.some.inj h
                      have h := hk39
                      exact ⟨_, reb_lit [(1, .ptr 1 0 0), (4, .bool v4_1), (33, .int .i64 a0.Kind), (87, .bool true)] [(1, 0)] [((1, 0), .box [.int .i64 a0.Kind, .int .i64 a0.N, .str a0.Key, .str a0.Value, .sl 5 (List.map enc23 a0.Kids)])] [(1, 1)] (envOk_cons (by conv => lhs; whnf) (by exact rfl) (envOk_cons (by conv => lhs; whnf) (by exact rfl) (envOk_cons (by conv => lhs; whnf) (by exact rfl) (envOk_cons (by conv => lhs; whnf) (by exact rfl) envOk_nil)))) (objOk_cons (by conv => lhs; whnf) (by conv => lhs; whnf) (by exact rfl) (by simp) objOk_nil) (nodup_b rfl) (nodup_b rfl) rfl rfl, true, h, rfl⟩
                    · have h := ifF c41 h
                      refine aw_cond_f (by decide) rfl ?_
                      refine aw_regL ?_
                      refine alP (some 89) rfl rfl (does_bin (v := .bool (a0.Kind == 8)) (by conv => lhs; whnf) (by conv => lhs; whnf) rfl) (by decide) ?_
                      refine alP (some 87) rfl rfl (does_assign (v := .bool (a0.Kind == 8)) (by exact rfl)) (by decide) ?_
                      refine al_nil ?_
                      obtain rfl := Option.some.inj h
                      have h := hk39
                      exact ⟨_, reb_lit [(1, .ptr 1 0 0), (4, .bool v4_1), (33, .int .i64 a0.Kind), (87, .bool (a0.Kind == 8))] [(1, 0)] [((1, 0), .box [.int .i64 a0.Kind, .int .i64 a0.N, .str a0.Key, .str a0.Value, .sl 5 (List.map enc23 a0.Kids)])] [(1, 1)] (envOk_cons (by conv => lhs; whnf) (by exact rfl) (envOk_cons (by conv => lhs; whnf) (by exact rfl) (envOk_cons (by conv => lhs; whnf) (by exact rfl) (envOk_cons (by conv => lhs; whnf) (by exact rfl) envOk_nil)))) (objOk_cons (by conv => lhs; whnf) (by conv => lhs; whnf) (by exact rfl) (by simp) objOk_nil) (nodup_b rfl) (nodup_b rfl) rfl rfl, (a0.Kind == 8), h, rfl⟩
                  · rintro s ⟨v87_3, h, rfl⟩
                    unfold gleaningref1_one_k3 at h
                    refine aw_bool (b := v87_3) 87 rfl (fun c42 => ?_) (fun c42 => ?_)
                    · have h := ifT c42 h
                      refine aw_cond_t (by decide) rfl ?_
                      refine aw_seq_k (fun K43 hK43 => ?_)
                      refine aw_regL ?_
                      refine alP (some 90) rfl rfl (does_move (v := .bool v4_1) (by exact rfl)) (by decide) ?_
                      refine alP (some 91) rfl rfl (does_move (v := .bool v4_1) (by exact rfl)) (by decide) ?_
                      refine al_bool (c := v4_1) 91 rfl (fun c44 => ?_) (fun c44 => ?_)
                      · have h := ifT c44 h
                        refine alP (some 92) rfl rfl (does_fieldAddr (q := .ptr 1 0 1) (by conv => lhs; whnf) ty24 rfl ty3 (by decide) (by exact rfl)) (by decide) ?_
                        refine alR (some 93) rfl rfl (does_load (v := .int .i64 a0.N) (by conv => lhs; whnf) (by conv => lhs; whnf) ty3 (by exact rfl)) (by decide) ?_
                        obtain ⟨x45, hx45, h⟩ := bnd_some h
                        refine alD (some 94) rfl rfl (do_call0 94 false (gleaningref1_Within_ok a0.N 0 1000 hx45) rfl ent62 rfl rfl) (by decide) ?_
                        refine alP (some 95) rfl rfl (does_pick (v := .bool x45) (by conv => lhs; whnf) (by exact rfl)) (by decide) ?_
                        refine alP (some 2) rfl rfl (does_assign (v := .bool x45) (by exact rfl)) (by decide) ?_
                        refine al_nil ?_
                        refine hK43 _ ?_
                        refine aw_ret ?_
                        obtain rfl := Option.some.inj h
                        exact ret_ok1 (by conv => lhs; whnf) (by conv => lhs; whnf) (by exact rfl) (.inr rfl) rfl
                      · have h := ifF c44 h
                        refine alS (some 92) rfl rfl (by decide) ?_
                        refine alS (some 93) rfl rfl (by decide) ?_
                        refine alS (some 94) rfl rfl (by decide) ?_
                        refine alP (some 95) rfl rfl (does_pick (v := .bool false) (by conv => lhs; whnf) (by exact rfl)) (by decide) ?_
                        refine alP (some 2) rfl rfl (does_assign (v := .bool false) (by exact rfl)) (by decide) ?_
                        refine al_nil ?_
                        refine hK43 _ ?_
                        refine aw_ret ?_
                        obtain rfl := Option.some.inj h
                        exact ret_ok1 (by conv => lhs; whnf) (by conv => lhs; whnf) (by exact rfl) (.inr rfl) rfl
                    · have h := ifF c42 h
                      refine aw_cond_f (by decide) rfl ?_
                      refine aw_seq_k (fun K46 hK46 => ?_)
                      refine aw_regL ?_
                      refine alP (some 97) rfl rfl (does_bin (v := .bool (a0.Kind == 9)) (by conv => lhs; whnf) (by conv => lhs; whnf) rfl) (by decide) ?_
                      refine alP (some 96) rfl rfl (does_assign (v := .bool (a0.Kind == 9)) (by exact rfl)) (by decide) ?_
                      refine al_nil ?_
                      refine hK46 _ ?_
                      refine aw_bool (b := (a0.Kind == 9)) 96 rfl (fun c47 => ?_) (fun c47 => ?_)
                      · have h := ifT c47 h
                        refine aw_cond_t (by decide) rfl ?_
                        refine aw_seq_k (fun K48 hK48 => ?_)
                        refine aw_regL ?_
                        refine alP (some 98) rfl rfl (does_move (v := .bool v4_1) (by exact rfl)) (by decide) ?_
                        refine alP (some 99) rfl rfl (does_move (v := .bool v4_1) (by exact rfl)) (by decide) ?_
                        refine al_bool (c := v4_1) 99 rfl (fun c49 => ?_) (fun c49 => ?_)
                        · have h := ifT c49 h
                          refine alP (some 100) rfl rfl (does_fieldAddr (q := .ptr 1 0 1) (by conv => lhs; whnf) ty24 rfl ty3 (by decide) (by exact rfl)) (by decide) ?_
                          refine alR (some 101) rfl rfl (does_load (v := .int .i64 a0.N) (by conv => lhs; whnf) (by conv => lhs; whnf) ty3 (by exact rfl)) (by decide) ?_
                          obtain ⟨x50, hx50, h⟩ := bnd_some h
                          refine alD (some 102) rfl rfl (do_call0 102 false (gleaningref1_Within_ok a0.N 0 1000000 hx50) rfl ent62 rfl rfl) (by decide) ?_
                          refine alP (some 103) rfl rfl (does_pick (v := .bool x50) (by conv => lhs; whnf) (by exact rfl)) (by decide) ?_
                          refine alP (some 2) rfl rfl (does_assign (v := .bool x50) (by exact rfl)) (by decide) ?_
                          refine al_nil ?_
                          refine hK48 _ ?_
                          refine aw_ret ?_
                          obtain rfl := Option.some.inj h
                          exact ret_ok1 (by conv => lhs; whnf) (by conv => lhs; whnf) (by exact rfl) (.inr rfl) rfl
                        · have h := ifF c49 h
                          refine alS (some 100) rfl rfl (by decide) ?_
                          refine alS (some 101) rfl rfl (by decide) ?_
                          refine alS (some 102) rfl rfl (by decide) ?_
                          refine alP (some 103) rfl rfl (does_pick (v := .bool false) (by conv => lhs; whnf) (by exact rfl)) (by decide) ?_
                          refine alP (some 2) rfl rfl (does_assign (v := .bool false) (by exact rfl)) (by decide) ?_
                          refine al_nil ?_
                          refine hK48 _ ?_
                          refine aw_ret ?_
                          obtain rfl := Option.some.inj h
                          exact ret_ok1 (by conv => lhs; whnf) (by conv => lhs; whnf) (by exact rfl) (.inr rfl) rfl
                      · have h := ifF c47 h
                        refine aw_cond_f (by decide) rfl ?_
                        refine aw_skip ?_
                        refine hK10 _ ?_
                        refine aw_seq_k (fun K51 hK51 => ?_)
                        refine aw_regL ?_
                        refine alP (some 2) rfl rfl (does_assign (v := .bool false) (by exact rfl)) (by decide) ?_
                        refine al_nil ?_
                        refine hK51 _ ?_
                        refine aw_ret ?_
                        obtain rfl := Option.some.inj h
                        exact ret_ok1 (by conv => lhs; whnf) (by conv => lhs; whnf) (by exact rfl) (.inr rfl) rfl
def gleaningref1_all_b_l0 (K : Rule → Option Bool) (a0 : Rule) (v3_0 : Int) : Option (Int ⊕ Bool) :=
  if (decide (v3_0 < (List.length a0.Kids : Int))) = true then (gd (0 ≤ v3_0) (Option.bind (a0.Kids[(Int.toNat v3_0)]?) (fun (x17 : Rule) => Option.bind (K x17) (fun (x18 : Bool) => if (!x18) = true then (some (Sum.inr false)) else (some (Sum.inl (IntKind.i64.wrap (v3_0 + 1)))))))) else (some (Sum.inr true))
def gleaningref1_all_b (K : Rule → Option Bool) (a0 : Rule) : Option Bool :=
  Option.bind (gleaningref1_one a0) (fun (x4 : Bool) => if (!x4) = true then (some false) else (loopN (fun (s : Int) => gleaningref1_all_b_l0 K a0 s) Fu 0))
set_option maxRecDepth 100000 in
set_option maxHeartbeats 8000000 in
/-- gleaning/gleaningref1.all -/
theorem gleaningref1_all_b_ok (K : Rule → Option Bool) (hK : ∀ (a0 : Rule) {r : Bool}, K a0 = some r → Ok Try.prog 61 [.agg [.int .i64 a0.Kind, .int .i64 a0.N, .str a0.Key, .str a0.Value, .sl 5 (List.map enc23 a0.Kids)]] [] [] (.bool r) [] []) (a0 : Rule) {r : Bool} (h : gleaningref1_all_b K a0 = some r) : Ok Try.prog 61 [.agg [.int .i64 a0.Kind, .int .i64 a0.N, .str a0.Key, .str a0.Value, .sl 5 (List.map enc23 a0.Kids)]] [] [] (.bool r) [] [] := by
  unfold gleaningref1_all_b at h
  refine ok_of_code Try.func61 rfl (by show (1 : Nat) ≤ _; decide) (Nat.le_refl _) fun X => ?_
  refine aw_seq_k (fun K1 hK1 => ?_)
  refine aw_regL ?_
  refine alD (some 1) rfl rfl (do_box (by conv => lhs; whnf) rfl rfl) (by decide) ?_
  refine alP (some 2) rfl rfl (does_assign (v := .bool false) (by exact rfl)) (by decide) ?_
  refine al_nil ?_
  refine hK1 _ ?_
  refine aw_seq_k (fun K2 hK2 => ?_)
  refine aw_seq_k (fun K3 hK3 => ?_)
  refine aw_regL ?_
  refine alR (some 4) rfl rfl (does_load (v := .agg [.int .i64 a0.Kind, .int .i64 a0.N, .str a0.Key, .str a0.Value, .sl 5 (List.map enc23 a0.Kids)]) (by conv => lhs; whnf) (by conv => lhs; whnf) ty24 (by exact rfl)) (by decide) ?_
  obtain ⟨x4, hx4, h⟩ := bnd_some h
  refine alD (some 5) rfl rfl (do_call0 5 false (gleaningref1_one_ok a0 hx4) rfl ent95 rfl rfl) (by decide) ?_
  refine alP (some 6) rfl rfl (does_un (v := .bool (!x4)) (by conv => lhs; whnf) rfl) (by decide) ?_
  refine al_nil ?_
  refine hK3 _ ?_
  refine aw_bool (b := (!x4)) 6 rfl (fun c5 => ?_) (fun c5 => ?_)
  · have h := ifT c5 h
    refine aw_cond_t (by decide) rfl ?_
    refine aw_seq_k (fun K6 hK6 => ?_)
    refine aw_regL ?_
    refine alP (some 2) rfl rfl (does_assign (v := .bool false) (by exact rfl)) (by decide) ?_
    refine al_nil ?_
    refine hK6 _ ?_
    refine aw_ret ?_
    obtain rfl := Option.some.inj h
    exact ret_ok1 (by conv => lhs; whnf) (by conv => lhs; whnf) (by exact rfl) (.inr rfl) rfl
  · have h := ifF c5 h
    refine aw_cond_f (by decide) rfl ?_
    refine aw_skip ?_
    refine hK2 _ ?_
    refine aw_seq_k (fun K7 hK7 => ?_)
    refine aw_seq_k (fun K8 hK8 => ?_)
    refine aw_regL ?_
    refine alP (some 3) rfl rfl (does_assign (v := .int .i64 0) (by exact rfl)) (by decide) ?_
    refine al_nil ?_
    refine hK8 _ ?_
    refine aw_block ?_
    refine aw_loop' (fun m s => ∃ (v3_0 : Int), loopN (fun (s : Int) => gleaningref1_all_b_l0 K a0 s) m v3_0 = some r ∧ s = lit [(1, .ptr 1 0 0), (3, .int .i64 v3_0)] [((1, 0), .box [.int .i64 a0.Kind, .int .i64 a0.N, .str a0.Key, .str a0.Value, .sl 5 (List.map enc23 a0.Kids)])] [(1, 1)] X) Fu
      ⟨_, reb_lit [(1, .ptr 1 0 0), (3, .int .i64 (0))] [(1, 0)] [((1, 0), .box [.int .i64 a0.Kind, .int .i64 a0.N, .str a0.Key, .str a0.Value, .sl 5 (List.map enc23 a0.Kids)])] [(1, 1)] (envOk_cons (by conv => lhs; whnf) (by exact rfl) (envOk_cons (by conv => lhs; whnf) (by exact rfl) envOk_nil)) (objOk_cons (by conv => lhs; whnf) (by conv => lhs; whnf) (by exact rfl) (by simp) objOk_nil) (nodup_b rfl) (nodup_b rfl) rfl rfl, 0, h, rfl⟩ ?_
    rintro m s ⟨v3_0, h, rfl⟩
    obtain ⟨m0, q9, rfl, h, hq10⟩ := loop_some h
    replace h : gleaningref1_all_b_l0 K a0 v3_0 = some q9 := h
    unfold gleaningref1_all_b_l0 at h
    refine aw_seq_k (fun K11 hK11 => ?_)
    refine aw_seq_k (fun K12 hK12 => ?_)
    refine aw_regL ?_
    refine alP (some 7) rfl rfl (does_move (v := .int .i64 v3_0) (by exact rfl)) (by decide) ?_
    refine alP (some 8) rfl rfl (does_fieldAddr (q := .ptr 1 0 4) (by conv => lhs; whnf) ty24 rfl ty22 (by decide) (by exact rfl)) (by decide) ?_
    refine alR (some 9) rfl rfl (does_load (v := .sl 5 (List.map enc23 a0.Kids)) (by conv => lhs; whnf) (by conv => lhs; whnf) ty22 (by exact rfl)) (by decide) ?_
    refine alP (some 10) rfl rfl ((does_len_sl (by conv => lhs; whnf) ty22).castp (v' := .int .i64 (List.length a0.Kids : Int)) (by exact len_map _)) (by decide) ?_
    refine alP (some 11) rfl rfl (does_bin (v := .bool (decide (v3_0 < (List.length a0.Kids : Int)))) (by conv => lhs; whnf) (by conv => lhs; whnf) rfl) (by decide) ?_
    refine al_nil ?_
    refine hK12 _ ?_
    refine aw_bool (b := (decide (v3_0 < (List.length a0.Kids : Int)))) 11 rfl (fun c13 => ?_) (fun c13 => ?_)
    · have h := ifT c13 h
      refine aw_cond_t (by decide) rfl ?_
      refine aw_skip ?_
      refine hK11 _ ?_
      refine aw_seq_k (fun K14 hK14 => ?_)
      refine aw_block ?_
      refine aw_seq_k (fun K15 hK15 => ?_)
      refine aw_regL ?_
      refine alP (some 14) rfl rfl (does_fieldAddr (q := .ptr 1 0 4) (by conv => lhs; whnf) ty24 rfl ty22 (by decide) (by exact rfl)) (by decide) ?_
      refine alR (some 15) rfl rfl (does_load (v := .sl 5 (List.map enc23 a0.Kids)) (by conv => lhs; whnf) (by conv => lhs; whnf) ty22 (by exact rfl)) (by decide) ?_
      refine alP (some 16) rfl rfl (does_move (v := .int .i64 v3_0) (by exact rfl)) (by decide) ?_
      obtain ⟨g16, h⟩ := gd_some h
      obtain ⟨x17, hx17, h⟩ := bnd_some h
      refine alP (some 17) rfl rfl (does_indexAddr_sl (el := .agg [.int .i64 x17.Kind, .int .i64 x17.N, .str x17.Key, .str x17.Value, .sl 5 (List.map enc23 x17.Kids)]) (by conv => lhs; whnf) (by conv => lhs; whnf) ty22 ty24 g16 (by exact map_getE (enc23_eq _) hx17)) (by decide) ?_
      refine alR (some 18) rfl rfl (does_load (v := .agg [.int .i64 x17.Kind, .int .i64 x17.N, .str x17.Key, .str x17.Value, .sl 5 (List.map enc23 x17.Kids)]) (by conv => lhs; whnf) (by conv => lhs; whnf) ty24 (by exact rfl)) (by decide) ?_
      obtain ⟨x18, hx18, h⟩ := bnd_some h
      refine alD (some 19) rfl rfl (do_call0 19 false (hK x17 hx18) rfl ent61 rfl rfl) (by decide) ?_
      refine alP (some 20) rfl rfl (does_un (v := .bool (!x18)) (by conv => lhs; whnf) rfl) (by decide) ?_
      refine al_nil ?_
      refine hK15 _ ?_
      refine aw_bool (b := (!x18)) 20 rfl (fun c19 => ?_) (fun c19 => ?_)
      · have h := ifT c19 h
        refine aw_cond_t (by decide) rfl ?_
        refine aw_seq_k (fun K20 hK20 => ?_)
        refine aw_regL ?_
        refine alP (some 2) rfl rfl (does_assign (v := .bool false) (by exact rfl)) (by decide) ?_
        refine al_nil ?_
        refine hK20 _ ?_
        refine aw_ret ?_
        have h := leafR h hq10
        obtain rfl := Option.some.inj h
        exact ret_ok1 (by conv => lhs; whnf) (by conv => lhs; whnf) (by exact rfl) (.inr rfl) rfl
      · have h := ifF c19 h
        refine aw_cond_f (by decide) rfl ?_
        refine aw_skip ?_
        refine hK14 _ ?_
        refine aw_regL ?_
        refine alP (some 12) rfl rfl (does_move (v := .int .i64 v3_0) (by exact rfl)) (by decide) ?_
        refine alP (some 13) rfl rfl (does_bin (v := .int .i64 (IntKind.i64.wrap (v3_0 + 1))) (by conv => lhs; whnf) (by conv => lhs; whnf) rfl) (by decide) ?_
        refine alP (some 3) rfl rfl (does_assign (v := .int .i64 (IntKind.i64.wrap (v3_0 + 1))) (by exact rfl)) (by decide) ?_
        refine al_nil ?_
        have h := leafL h hq10
        exact ⟨m0, Nat.lt_succ_self _, _, reb_lit [(1, .ptr 1 0 0), (3, .int .i64 (IntKind.i64.wrap (v3_0 + 1)))] [(1, 0)] [((1, 0), .box [.int .i64 a0.Kind, .int .i64 a0.N, .str a0.Key, .str a0.Value, .sl 5 (List.map enc23 a0.Kids)])] [(1, 1)] (envOk_cons (by conv => lhs; whnf) (by exact rfl) (envOk_cons (by conv => lhs; whnf) (by exact rfl) envOk_nil)) (objOk_cons (by conv => lhs; whnf) (by conv => lhs; whnf) (by exact rfl) (by simp) objOk_nil) (nodup_b rfl) (nodup_b rfl) rfl rfl, (IntKind.i64.wrap (v3_0 + 1)), h, rfl⟩
    · have h := ifF c13 h
      refine aw_cond_f (by decide) rfl ?_
      refine aw_exit ?_
      have h := leafR h hq10
      refine hK7 _ ?_
      refine aw_seq_k (fun K21 hK21 => ?_)
      refine aw_regL ?_
      refine alP (some 2) rfl rfl (does_assign (v := .bool true) (by exact rfl)) (by decide) ?_
      refine al_nil ?_
      refine hK21 _ ?_
      refine aw_ret ?_
      obtain rfl := Option.some.inj h
      exact ret_ok1 (by conv => lhs; whnf) (by conv => lhs; whnf) (by exact rfl) (.inr rfl) rfl
def gleaningref1_allN : Nat → Rule → Option Bool
  | 0, _ => none
  | n + 1, a0 => gleaningref1_all_b (gleaningref1_allN n) a0
theorem gleaningref1_allN_ok : ∀ (n : Nat) (a0 : Rule) {r : Bool}, gleaningref1_allN n a0 = some r → Ok Try.prog 61 [.agg [.int .i64 a0.Kind, .int .i64 a0.N, .str a0.Key, .str a0.Value, .sl 5 (List.map enc23 a0.Kids)]] [] [] (.bool r) [] []
  | 0, _, _, h => by simp [gleaningref1_allN] at h
  | n + 1, a0, _, h => gleaningref1_all_b_ok (gleaningref1_allN n) (gleaningref1_allN_ok n) a0 h
def gleaningref1_all (a0 : Rule) : Option Bool := gleaningref1_allN Fu a0
theorem gleaningref1_all_ok (a0 : Rule) {r : Bool} (h : gleaningref1_all a0 = some r) : Ok Try.prog 61 [.agg [.int .i64 a0.Kind, .int .i64 a0.N, .str a0.Key, .str a0.Value, .sl 5 (List.map enc23 a0.Kids)]] [] [] (.bool r) [] [] := gleaningref1_allN_ok Fu a0 h
def gleaningref1_RightRule (a0 : Rule) : Option Bool :=
  Option.bind (gleaningref1_nodes a0 5) (fun (x3 : Int) => if (decide (x3 ≤ 20)) = true then (Option.bind (gleaningref1_all a0) (fun (x5 : Bool) => some x5)) else (some false))
set_option maxRecDepth 100000 in
set_option maxHeartbeats 8000000 in
/-- gleaning/gleaningref1.RightRule -/
theorem gleaningref1_RightRule_ok (a0 : Rule) {r : Bool} (h : gleaningref1_RightRule a0 = some r) : Ok Try.prog 25 [.agg [.int .i64 a0.Kind, .int .i64 a0.N, .str a0.Key, .str a0.Value, .sl 5 (List.map enc23 a0.Kids)]] [] [] (.bool r) [] [] := by
  unfold gleaningref1_RightRule at h
  refine ok_of_code Try.func25 rfl (by show (1 : Nat) ≤ _; decide) (Nat.le_refl _) fun X => ?_
  refine aw_seq_k (fun K1 hK1 => ?_)
  refine aw_regL ?_
  refine alD (some 1) rfl rfl (do_box (by conv => lhs; whnf) rfl rfl) (by decide) ?_
  refine alP (some 2) rfl rfl (does_assign (v := .bool false) (by exact rfl)) (by decide) ?_
  refine al_nil ?_
  refine hK1 _ ?_
  refine aw_seq_k (fun K2 hK2 => ?_)
  refine aw_regL ?_
  refine alR (some 3) rfl rfl (does_load (v := .agg [.int .i64 a0.Kind, .int .i64 a0.N, .str a0.Key, .str a0.Value, .sl 5 (List.map enc23 a0.Kids)]) (by conv => lhs; whnf) (by conv => lhs; whnf) ty24 (by exact rfl)) (by decide) ?_
  obtain ⟨x3, hx3, h⟩ := bnd_some h
  refine alD (some 4) rfl rfl (do_call0 4 false (gleaningref1_nodes_ok a0 5 hx3) rfl ent60 rfl rfl) (by decide) ?_
  refine alP (some 5) rfl rfl (does_bin (v := .bool (decide (x3 ≤ 20))) (by conv => lhs; whnf) (by conv => lhs; whnf) rfl) (by decide) ?_
  refine alP (some 6) rfl rfl (does_move (v := .bool (decide (x3 ≤ 20))) (by exact rfl)) (by decide) ?_
  refine al_bool (c := (decide (x3 ≤ 20))) 6 rfl (fun c4 => ?_) (fun c4 => ?_)
  · have h := ifT c4 h
    refine alR (some 7) rfl rfl (does_load (v := .agg [.int .i64 a0.Kind, .int .i64 a0.N, .str a0.Key, .str a0.Value, .sl 5 (List.map enc23 a0.Kids)]) (by conv => lhs; whnf) (by conv => lhs; whnf) ty24 (by exact rfl)) (by decide) ?_
    obtain ⟨x5, hx5, h⟩ := bnd_some h
    refine alD (some 8) rfl rfl (do_call0 8 false (gleaningref1_all_ok a0 hx5) rfl ent61 rfl rfl) (by decide) ?_
    refine alP (some 9) rfl rfl (does_pick (v := .bool x5) (by conv => lhs; whnf) (by exact rfl)) (by decide) ?_
    refine alP (some 2) rfl rfl (does_assign (v := .bool x5) (by exact rfl)) (by decide) ?_
    refine al_nil ?_
    refine hK2 _ ?_
    refine aw_ret ?_
    obtain rfl := Option.some.inj h
    exact ret_ok1 (by conv => lhs; whnf) (by conv => lhs; whnf) (by exact rfl) (.inr rfl) rfl
  · have h := ifF c4 h
    refine alS (some 7) rfl rfl (by decide) ?_
    refine alS (some 8) rfl rfl (by decide) ?_
    refine alP (some 9) rfl rfl (does_pick (v := .bool false) (by conv => lhs; whnf) (by exact rfl)) (by decide) ?_
    refine alP (some 2) rfl rfl (does_assign (v := .bool false) (by exact rfl)) (by decide) ?_
    refine al_nil ?_
    refine hK2 _ ?_
    refine aw_ret ?_
    obtain rfl := Option.some.inj h
    exact ret_ok1 (by conv => lhs; whnf) (by conv => lhs; whnf) (by exact rfl) (.inr rfl) rfl
end Go.Proofs.Ytbfmmaabaenhgaa.Ab
