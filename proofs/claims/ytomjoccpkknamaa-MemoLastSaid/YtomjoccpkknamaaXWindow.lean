/- Chapter 9: windows, told as pure functions, and that the code comes to them. -/
import Derived.Test.YtomjoccpkknamaaXInts
import Derived.Test.YtomjoccpkknamaaProg
namespace Go.Proofs.Ytomjoccpkknamaa.Ab
open Go Go.RowKit
set_option linter.unusedVariables false
set_option linter.unusedSimpArgs false
def enc2 (x : Int) : PV := .int .i64 x
theorem ty43 : tyOf Try.prog 43 = some ⟨.slice 3, 1, 24, [.nil]⟩ := by kernel_rfl
theorem ent29 : Ent Try.prog 29 := ⟨_, Try.func29, by kernel_rfl, rfl⟩
theorem ent30 : Ent Try.prog 30 := ⟨_, Try.func30, by kernel_rfl, rfl⟩
theorem ent31 : Ent Try.prog 31 := ⟨_, Try.func31, by kernel_rfl, rfl⟩
theorem ent32 : Ent Try.prog 32 := ⟨_, Try.func32, by kernel_rfl, rfl⟩
theorem ent33 : Ent Try.prog 33 := ⟨_, Try.func33, by kernel_rfl, rfl⟩
theorem ent34 : Ent Try.prog 34 := ⟨_, Try.func34, by kernel_rfl, rfl⟩
theorem ent35 : Ent Try.prog 35 := ⟨_, Try.func35, by kernel_rfl, rfl⟩
theorem ent46 : Ent Try.prog 46 := ⟨_, Try.func46, by kernel_rfl, rfl⟩
theorem ent47 : Ent Try.prog 47 := ⟨_, Try.func47, by kernel_rfl, rfl⟩
theorem ent48 : Ent Try.prog 48 := ⟨_, Try.func48, by kernel_rfl, rfl⟩
def window_length_k0 (a0 : Int) : Option Int :=
  gd (0 ≤ a0) (Option.bind ([60, 3600, 86400][(Int.toNat a0)]?) (fun (x11 : Int) => some x11))
def window_length (a0 : Int) : Option Int :=
  Option.bind (if (decide (a0 < 0)) = true then (some (Sum.inr 0)) else (if (decide ((3 : Int) ≤ a0)) = true then (some (Sum.inr 0)) else (some (Sum.inl ())))) (Sum.elim (fun (s : Unit) => window_length_k0 a0) some)
set_option maxRecDepth 100000 in
set_option maxHeartbeats 8000000 in
/-- gleaning/window.length -/
theorem window_length_ok (a0 : Int) {r : Int} (h : window_length a0 = some r) : Ok Try.prog 46 [.int .i64 a0] [] [] (.int .i64 r) [] [] := by
  unfold window_length at h
  refine ok_of_code Try.func46 rfl (by show (1 : Nat) ≤ _; decide) (Nat.le_refl _) fun X => ?_
  refine aw_seq_k (fun K1 hK1 => ?_)
  refine aw_reg ?_
  refine ao_cons (acts_of rfl (does_assign (v := .int .i64 0) (by exact rfl))) (by decide) ?_
  refine ao_nil_n ?_
  refine hK1 _ ?_
  obtain ⟨q2, h, hk3⟩ := bnd_some h
  refine aw_cut (fun s => window_length_k0 a0 = some r ∧ s = lit [(0, .int .i64 a0)] [] [] X) ?_ ?_
  · skip
    refine aw_seq_k (fun K4 hK4 => ?_)
    refine aw_reg ?_
    refine ao_cons (acts_of rfl (does_move (v := .int .i64 a0) (by exact rfl))) (by decide) ?_
    refine ao_cons (acts_of rfl (does_bin (v := .bool (decide (a0 < 0))) (by conv => lhs; whnf) (by conv => lhs; whnf) rfl)) (by decide) ?_
    refine ao_cons (acts_of rfl (does_move (v := .bool (decide (a0 < 0))) (by exact rfl))) (by decide) ?_
    refine ao_bool (c := (decide (a0 < 0))) 5 rfl (fun c5 => ?_) (fun c5 => ?_)
    · have h := ifT c5 h
      refine ao_cons (acts_skip rfl) (by decide) ?_
      refine ao_cons (acts_skip rfl) (by decide) ?_
      refine ao_cons (acts_of rfl (does_pick (v := .bool true) (by conv => lhs; whnf) (by exact rfl))) (by decide) ?_
      refine ao_nil_n ?_
      refine hK4 _ ?_
      refine aw_cond_t (by decide) rfl ?_
      refine aw_seq_k (fun K6 hK6 => ?_)
      refine aw_reg ?_
      refine ao_cons (acts_of rfl (does_assign (v := .int .i64 0) (by exact rfl))) (by decide) ?_
      refine ao_nil_n ?_
      refine hK6 _ ?_
      refine aw_ret ?_
      have h := leafR h hk3
      obtain rfl := Option.some.inj h
      exact ret_ok1 (by conv => lhs; whnf) (by conv => lhs; whnf) (by exact rfl) (.inr rfl) rfl
    · have h := ifF c5 h
      refine ao_cons (acts_of rfl (does_move (v := .int .i64 a0) (by exact rfl))) (by decide) ?_
      refine ao_cons (acts_of rfl (does_bin (v := .bool (decide ((3 : Int) ≤ a0))) (by conv => lhs; whnf) (by conv => lhs; whnf) rfl)) (by decide) ?_
      refine ao_cons (acts_of rfl (does_pick (v := .bool (decide ((3 : Int) ≤ a0))) (by conv => lhs; whnf) (by exact rfl))) (by decide) ?_
      refine ao_nil_n ?_
      refine hK4 _ ?_
      refine aw_bool (b := (decide ((3 : Int) ≤ a0))) 8 rfl (fun c7 => ?_) (fun c7 => ?_)
      · have h := ifT c7 h
        refine aw_cond_t (by decide) rfl ?_
        refine aw_seq_k (fun K8 hK8 => ?_)
        refine aw_reg ?_
        refine ao_cons (acts_of rfl (does_assign (v := .int .i64 0) (by exact rfl))) (by decide) ?_
        refine ao_nil_n ?_
        refine hK8 _ ?_
        refine aw_ret ?_
        have h := leafR h hk3
        obtain rfl := Option.some.inj h
        exact ret_ok1 (by conv => lhs; whnf) (by conv => lhs; whnf) (by exact rfl) (.inr rfl) rfl
      · have h := ifF c7 h
        refine aw_cond_f (by decide) rfl ?_
        refine aw_skip ?_
        have h := leafL h hk3
        exact ⟨_, reb_lit [(0, .int .i64 a0)] [] [] [] (envOk_cons (by conv => lhs; whnf) (by exact rfl) envOk_nil) objOk_nil (nodup_b rfl) (nodup_b rfl) rfl rfl, h, rfl⟩
  · rintro s ⟨h, rfl⟩
    unfold window_length_k0 at h
    refine aw_seq_k (fun K9 hK9 => ?_)
    refine aw_reg ?_
    refine ao_cons (acts_of rfl (do_buildSlice (xs := List.map enc2 [60, 3600, 86400]) ty43 ty3 rfl rfl rfl rfl rfl rfl rfl rfl)) (by decide) ?_
    refine ao_cons (acts_of rfl (does_move (v := .int .i64 a0) (by exact rfl))) (by decide) ?_
    obtain ⟨g10, h⟩ := gd_some h
    obtain ⟨x11, hx11, h⟩ := bnd_some h
    refine ao_cons (acts_of rfl (does_indexAddr_own (by conv => lhs; whnf) (by conv => lhs; whnf) (by conv => lhs; whnf) ty43 ty3 g10 (by exact own_lt hx11))) (by decide) ?_
    refine ao_cons (acts_of rfl (does_load (v := .int .i64 x11) (by conv => lhs; whnf) (cellsAt_eptr (by conv => lhs; whnf) (by exact map_get hx11)) ty3 (by exact rfl))) (by decide) ?_
    refine ao_cons (acts_of rfl (does_assign (v := .int .i64 x11) (by exact rfl))) (by decide) ?_
    refine ao_nil_n ?_
    refine hK9 _ ?_
    refine aw_ret ?_
    obtain rfl := Option.some.inj h
    exact ret_ok1 (by conv => lhs; whnf) (by conv => lhs; whnf) (by exact rfl) (.inr rfl) rfl
def window_Span_k0 (a1 : Int) (x3 : Int) : Option (Int × Int × Bool) :=
  some ((IntKind.i64.wrap (a1 * x3)), (IntKind.i64.wrap ((IntKind.i64.wrap (a1 + 1)) * x3)), true)
def window_Span (a0 : Int) (a1 : Int) : Option (Int × Int × Bool) :=
  Option.bind (window_length a0) (fun (x3 : Int) => Option.bind (if (x3 == 0) = true then (some (Sum.inr (0, 0, false))) else (if (decide (a1 < 0)) = true then (some (Sum.inr (0, 0, false))) else (gd (¬ x3 = 0) (if (decide ((IntKind.i64.wrap (Int.tdiv 1099511627776 x3)) < a1)) = true then (some (Sum.inr (0, 0, false))) else (some (Sum.inl ())))))) (Sum.elim (fun (s : Unit) => window_Span_k0 a1 x3) some))
set_option maxRecDepth 100000 in
set_option maxHeartbeats 8000000 in
/-- gleaning/window.Span -/
theorem window_Span_ok (a0 : Int) (a1 : Int) {r : Int × Int × Bool} (h : window_Span a0 a1 = some r) : Ok Try.prog 30 [.int .i64 a0, .int .i64 a1] [] [] (.tup [.int .i64 r.1, .int .i64 r.2.1, .bool r.2.2]) [] [] := by
  unfold window_Span at h
  refine ok_of_code Try.func30 rfl (by show (2 : Nat) ≤ _; decide) (Nat.le_refl _) fun X => ?_
  refine aw_seq_k (fun K1 hK1 => ?_)
  refine aw_reg ?_
  refine ao_cons (acts_of rfl (does_assign (v := .int .i64 0) (by exact rfl))) (by decide) ?_
  refine ao_cons (acts_of rfl (does_assign (v := .int .i64 0) (by exact rfl))) (by decide) ?_
  refine ao_cons (acts_of rfl (does_assign (v := .bool false) (by exact rfl))) (by decide) ?_
  refine ao_nil_n ?_
  refine hK1 _ ?_
  refine aw_seq_k (fun K2 hK2 => ?_)
  refine aw_reg ?_
  refine ao_cons (acts_of rfl (does_move (v := .int .i64 a0) (by exact rfl))) (by decide) ?_
  obtain ⟨x3, hx3, h⟩ := bnd_some h
  refine ao_cons (acts_of rfl (do_call0 9 false (window_length_ok a0 hx3) rfl ent46 rfl rfl)) (by decide) ?_
  refine ao_cons (acts_of rfl (does_assign (v := .int .i64 x3) (by exact rfl))) (by decide) ?_
  refine ao_nil_n ?_
  refine hK2 _ ?_
  obtain ⟨q4, h, hk5⟩ := bnd_some h
  refine aw_cut (fun s => window_Span_k0 a1 x3 = some r ∧ s = lit [(1, .int .i64 a1), (7, .int .i64 x3)] [] [] X) ?_ ?_
  · skip
    refine aw_seq_k (fun K6 hK6 => ?_)
    refine aw_reg ?_
    refine ao_cons (acts_of rfl (does_move (v := .int .i64 x3) (by exact rfl))) (by decide) ?_
    refine ao_cons (acts_of rfl (does_bin (v := .bool (x3 == 0)) (by conv => lhs; whnf) (by conv => lhs; whnf) rfl)) (by decide) ?_
    refine ao_cons (acts_of rfl (does_move (v := .bool (x3 == 0)) (by exact rfl))) (by decide) ?_
    refine ao_bool (c := (x3 == 0)) 12 rfl (fun c7 => ?_) (fun c7 => ?_)
    · have h := ifT c7 h
      refine ao_cons (acts_skip rfl) (by decide) ?_
      refine ao_cons (acts_skip rfl) (by decide) ?_
      refine ao_cons (acts_of rfl (does_pick (v := .bool true) (by conv => lhs; whnf) (by exact rfl))) (by decide) ?_
      refine ao_cons (acts_of rfl (does_move (v := .bool true) (by exact rfl))) (by decide) ?_
      refine ao_cons (acts_skip rfl) (by decide) ?_
      refine ao_cons (acts_skip rfl) (by decide) ?_
      refine ao_cons (acts_skip rfl) (by decide) ?_
      refine ao_cons (acts_skip rfl) (by decide) ?_
      refine ao_cons (acts_of rfl (does_pick (v := .bool true) (by conv => lhs; whnf) (by exact rfl))) (by decide) ?_
      refine ao_nil_n ?_
      refine hK6 _ ?_
      refine aw_cond_t (by decide) rfl ?_
      refine aw_seq_k (fun K8 hK8 => ?_)
      refine aw_reg ?_
      refine ao_cons (acts_of rfl (does_assign (v := .int .i64 0) (by exact rfl))) (by decide) ?_
      refine ao_cons (acts_of rfl (does_assign (v := .int .i64 0) (by exact rfl))) (by decide) ?_
      refine ao_cons (acts_of rfl (does_assign (v := .bool false) (by exact rfl))) (by decide) ?_
      refine ao_nil_n ?_
      refine hK8 _ ?_
      refine aw_ret ?_
      have h := leafR h hk5
      obtain rfl := Option.some.inj h
      exact ret_ok1 (by conv => lhs; whnf) (by conv => lhs; whnf) (by exact rfl) (.inr rfl) rfl
    · have h := ifF c7 h
      refine ao_cons (acts_of rfl (does_move (v := .int .i64 a1) (by exact rfl))) (by decide) ?_
      refine ao_cons (acts_of rfl (does_bin (v := .bool (decide (a1 < 0))) (by conv => lhs; whnf) (by conv => lhs; whnf) rfl)) (by decide) ?_
      refine ao_cons (acts_of rfl (does_pick (v := .bool (decide (a1 < 0))) (by conv => lhs; whnf) (by exact rfl))) (by decide) ?_
      refine ao_cons (acts_of rfl (does_move (v := .bool (decide (a1 < 0))) (by exact rfl))) (by decide) ?_
      refine ao_bool (c := (decide (a1 < 0))) 16 rfl (fun c9 => ?_) (fun c9 => ?_)
      · have h := ifT c9 h
        refine ao_cons (acts_skip rfl) (by decide) ?_
        refine ao_cons (acts_skip rfl) (by decide) ?_
        refine ao_cons (acts_skip rfl) (by decide) ?_
        refine ao_cons (acts_skip rfl) (by decide) ?_
        refine ao_cons (acts_of rfl (does_pick (v := .bool true) (by conv => lhs; whnf) (by exact rfl))) (by decide) ?_
        refine ao_nil_n ?_
        refine hK6 _ ?_
        refine aw_cond_t (by decide) rfl ?_
        refine aw_seq_k (fun K10 hK10 => ?_)
        refine aw_reg ?_
        refine ao_cons (acts_of rfl (does_assign (v := .int .i64 0) (by exact rfl))) (by decide) ?_
        refine ao_cons (acts_of rfl (does_assign (v := .int .i64 0) (by exact rfl))) (by decide) ?_
        refine ao_cons (acts_of rfl (does_assign (v := .bool false) (by exact rfl))) (by decide) ?_
        refine ao_nil_n ?_
        refine hK10 _ ?_
        refine aw_ret ?_
        have h := leafR h hk5
        obtain rfl := Option.some.inj h
        exact ret_ok1 (by conv => lhs; whnf) (by conv => lhs; whnf) (by exact rfl) (.inr rfl) rfl
      · have h := ifF c9 h
        refine ao_cons (acts_of rfl (does_move (v := .int .i64 a1) (by exact rfl))) (by decide) ?_
        refine ao_cons (acts_of rfl (does_move (v := .int .i64 x3) (by exact rfl))) (by decide) ?_
        obtain ⟨g11, h⟩ := gd_some h
        refine ao_cons (acts_of rfl (does_bin (v := .int .i64 (IntKind.i64.wrap (Int.tdiv 1099511627776 x3))) (by conv => lhs; whnf) (by conv => lhs; whnf) (quo_hv g11))) (by decide) ?_
        refine ao_cons (acts_of rfl (does_bin (v := .bool (decide ((IntKind.i64.wrap (Int.tdiv 1099511627776 x3)) < a1))) (by conv => lhs; whnf) (by conv => lhs; whnf) rfl)) (by decide) ?_
        refine ao_cons (acts_of rfl (does_pick (v := .bool (decide ((IntKind.i64.wrap (Int.tdiv 1099511627776 x3)) < a1))) (by conv => lhs; whnf) (by exact rfl))) (by decide) ?_
        refine ao_nil_n ?_
        refine hK6 _ ?_
        refine aw_bool (b := (decide ((IntKind.i64.wrap (Int.tdiv 1099511627776 x3)) < a1))) 21 rfl (fun c12 => ?_) (fun c12 => ?_)
        · have h := ifT c12 h
          refine aw_cond_t (by decide) rfl ?_
          refine aw_seq_k (fun K13 hK13 => ?_)
          refine aw_reg ?_
          refine ao_cons (acts_of rfl (does_assign (v := .int .i64 0) (by exact rfl))) (by decide) ?_
          refine ao_cons (acts_of rfl (does_assign (v := .int .i64 0) (by exact rfl))) (by decide) ?_
          refine ao_cons (acts_of rfl (does_assign (v := .bool false) (by exact rfl))) (by decide) ?_
          refine ao_nil_n ?_
          refine hK13 _ ?_
          refine aw_ret ?_
          have h := leafR h hk5
          obtain rfl := Option.some.inj h
          exact ret_ok1 (by conv => lhs; whnf) (by conv => lhs; whnf) (by exact rfl) (.inr rfl) rfl
        · have h := ifF c12 h
          refine aw_cond_f (by decide) rfl ?_
          refine aw_skip ?_
          have h := leafL h hk5
          exact ⟨_, reb_lit [(1, .int .i64 a1), (7, .int .i64 x3)] [] [] [] (envOk_cons (by conv => lhs; whnf) (by exact rfl) (envOk_cons (by conv => lhs; whnf) (by exact rfl) envOk_nil)) objOk_nil (nodup_b rfl) (nodup_b rfl) rfl rfl, h, rfl⟩
  · rintro s ⟨h, rfl⟩
    unfold window_Span_k0 at h
    refine aw_seq_k (fun K14 hK14 => ?_)
    refine aw_reg ?_
    refine ao_cons (acts_of rfl (does_move (v := .int .i64 a1) (by exact rfl))) (by decide) ?_
    refine ao_cons (acts_of rfl (does_move (v := .int .i64 x3) (by exact rfl))) (by decide) ?_
    refine ao_cons (acts_of rfl (does_bin (v := .int .i64 (IntKind.i64.wrap (a1 * x3))) (by conv => lhs; whnf) (by conv => lhs; whnf) rfl)) (by decide) ?_
    refine ao_cons (acts_of rfl (does_move (v := .int .i64 a1) (by exact rfl))) (by decide) ?_
    refine ao_cons (acts_of rfl (does_bin (v := .int .i64 (IntKind.i64.wrap (a1 + 1))) (by conv => lhs; whnf) (by conv => lhs; whnf) rfl)) (by decide) ?_
    refine ao_cons (acts_of rfl (does_move (v := .int .i64 x3) (by exact rfl))) (by decide) ?_
    refine ao_cons (acts_of rfl (does_bin (v := .int .i64 (IntKind.i64.wrap ((IntKind.i64.wrap (a1 + 1)) * x3))) (by conv => lhs; whnf) (by conv => lhs; whnf) rfl)) (by decide) ?_
    refine ao_cons (acts_of rfl (does_assign (v := .int .i64 (IntKind.i64.wrap (a1 * x3))) (by exact rfl))) (by decide) ?_
    refine ao_cons (acts_of rfl (does_assign (v := .int .i64 (IntKind.i64.wrap ((IntKind.i64.wrap (a1 + 1)) * x3))) (by exact rfl))) (by decide) ?_
    refine ao_cons (acts_of rfl (does_assign (v := .bool true) (by exact rfl))) (by decide) ?_
    refine ao_nil_n ?_
    refine hK14 _ ?_
    refine aw_ret ?_
    obtain rfl := Option.some.inj h
    exact ret_ok1 (by conv => lhs; whnf) (by conv => lhs; whnf) (by exact rfl) (.inr rfl) rfl
def window_Of_k0 (a1 : Int) (x3 : Int) : Option Int :=
  gd (¬ x3 = 0) (some (IntKind.i64.wrap (Int.tdiv a1 x3)))
def window_Of (a0 : Int) (a1 : Int) : Option Int :=
  Option.bind (window_length a0) (fun (x3 : Int) => Option.bind (if (x3 == 0) = true then (some (Sum.inr (-1))) else (if (decide (a1 < 0)) = true then (some (Sum.inr (-1))) else (if (decide ((1099511627776 : Int) < a1)) = true then (some (Sum.inr (-1))) else (some (Sum.inl ()))))) (Sum.elim (fun (s : Unit) => window_Of_k0 a1 x3) some))
set_option maxRecDepth 100000 in
set_option maxHeartbeats 8000000 in
/-- gleaning/window.Of -/
theorem window_Of_ok (a0 : Int) (a1 : Int) {r : Int} (h : window_Of a0 a1 = some r) : Ok Try.prog 34 [.int .i64 a0, .int .i64 a1] [] [] (.int .i64 r) [] [] := by
  unfold window_Of at h
  refine ok_of_code Try.func34 rfl (by show (2 : Nat) ≤ _; decide) (Nat.le_refl _) fun X => ?_
  refine aw_seq_k (fun K1 hK1 => ?_)
  refine aw_reg ?_
  refine ao_cons (acts_of rfl (does_assign (v := .int .i64 0) (by exact rfl))) (by decide) ?_
  refine ao_nil_n ?_
  refine hK1 _ ?_
  refine aw_seq_k (fun K2 hK2 => ?_)
  refine aw_reg ?_
  refine ao_cons (acts_of rfl (does_move (v := .int .i64 a0) (by exact rfl))) (by decide) ?_
  obtain ⟨x3, hx3, h⟩ := bnd_some h
  refine ao_cons (acts_of rfl (do_call0 7 false (window_length_ok a0 hx3) rfl ent46 rfl rfl)) (by decide) ?_
  refine ao_cons (acts_of rfl (does_assign (v := .int .i64 x3) (by exact rfl))) (by decide) ?_
  refine ao_nil_n ?_
  refine hK2 _ ?_
  obtain ⟨q4, h, hk5⟩ := bnd_some h
  refine aw_cut (fun s => window_Of_k0 a1 x3 = some r ∧ s = lit [(1, .int .i64 a1), (5, .int .i64 x3)] [] [] X) ?_ ?_
  · skip
    refine aw_seq_k (fun K6 hK6 => ?_)
    refine aw_reg ?_
    refine ao_cons (acts_of rfl (does_move (v := .int .i64 x3) (by exact rfl))) (by decide) ?_
    refine ao_cons (acts_of rfl (does_bin (v := .bool (x3 == 0)) (by conv => lhs; whnf) (by conv => lhs; whnf) rfl)) (by decide) ?_
    refine ao_cons (acts_of rfl (does_move (v := .bool (x3 == 0)) (by exact rfl))) (by decide) ?_
    refine ao_bool (c := (x3 == 0)) 10 rfl (fun c7 => ?_) (fun c7 => ?_)
    · have h := ifT c7 h
      refine ao_cons (acts_skip rfl) (by decide) ?_
      refine ao_cons (acts_skip rfl) (by decide) ?_
      refine ao_cons (acts_of rfl (does_pick (v := .bool true) (by conv => lhs; whnf) (by exact rfl))) (by decide) ?_
      refine ao_cons (acts_of rfl (does_move (v := .bool true) (by exact rfl))) (by decide) ?_
      refine ao_cons (acts_skip rfl) (by decide) ?_
      refine ao_cons (acts_skip rfl) (by decide) ?_
      refine ao_cons (acts_of rfl (does_pick (v := .bool true) (by conv => lhs; whnf) (by exact rfl))) (by decide) ?_
      refine ao_nil_n ?_
      refine hK6 _ ?_
      refine aw_cond_t (by decide) rfl ?_
      refine aw_seq_k (fun K8 hK8 => ?_)
      refine aw_reg ?_
      refine ao_cons (acts_of rfl (does_assign (v := .int .i64 (-1)) (by exact rfl))) (by decide) ?_
      refine ao_nil_n ?_
      refine hK8 _ ?_
      refine aw_ret ?_
      have h := leafR h hk5
      obtain rfl := Option.some.inj h
      exact ret_ok1 (by conv => lhs; whnf) (by conv => lhs; whnf) (by exact rfl) (.inr rfl) rfl
    · have h := ifF c7 h
      refine ao_cons (acts_of rfl (does_move (v := .int .i64 a1) (by exact rfl))) (by decide) ?_
      refine ao_cons (acts_of rfl (does_bin (v := .bool (decide (a1 < 0))) (by conv => lhs; whnf) (by conv => lhs; whnf) rfl)) (by decide) ?_
      refine ao_cons (acts_of rfl (does_pick (v := .bool (decide (a1 < 0))) (by conv => lhs; whnf) (by exact rfl))) (by decide) ?_
      refine ao_cons (acts_of rfl (does_move (v := .bool (decide (a1 < 0))) (by exact rfl))) (by decide) ?_
      refine ao_bool (c := (decide (a1 < 0))) 14 rfl (fun c9 => ?_) (fun c9 => ?_)
      · have h := ifT c9 h
        refine ao_cons (acts_skip rfl) (by decide) ?_
        refine ao_cons (acts_skip rfl) (by decide) ?_
        refine ao_cons (acts_of rfl (does_pick (v := .bool true) (by conv => lhs; whnf) (by exact rfl))) (by decide) ?_
        refine ao_nil_n ?_
        refine hK6 _ ?_
        refine aw_cond_t (by decide) rfl ?_
        refine aw_seq_k (fun K10 hK10 => ?_)
        refine aw_reg ?_
        refine ao_cons (acts_of rfl (does_assign (v := .int .i64 (-1)) (by exact rfl))) (by decide) ?_
        refine ao_nil_n ?_
        refine hK10 _ ?_
        refine aw_ret ?_
        have h := leafR h hk5
        obtain rfl := Option.some.inj h
        exact ret_ok1 (by conv => lhs; whnf) (by conv => lhs; whnf) (by exact rfl) (.inr rfl) rfl
      · have h := ifF c9 h
        refine ao_cons (acts_of rfl (does_move (v := .int .i64 a1) (by exact rfl))) (by decide) ?_
        refine ao_cons (acts_of rfl (does_bin (v := .bool (decide ((1099511627776 : Int) < a1))) (by conv => lhs; whnf) (by conv => lhs; whnf) rfl)) (by decide) ?_
        refine ao_cons (acts_of rfl (does_pick (v := .bool (decide ((1099511627776 : Int) < a1))) (by conv => lhs; whnf) (by exact rfl))) (by decide) ?_
        refine ao_nil_n ?_
        refine hK6 _ ?_
        refine aw_bool (b := (decide ((1099511627776 : Int) < a1))) 17 rfl (fun c11 => ?_) (fun c11 => ?_)
        · have h := ifT c11 h
          refine aw_cond_t (by decide) rfl ?_
          refine aw_seq_k (fun K12 hK12 => ?_)
          refine aw_reg ?_
          refine ao_cons (acts_of rfl (does_assign (v := .int .i64 (-1)) (by exact rfl))) (by decide) ?_
          refine ao_nil_n ?_
          refine hK12 _ ?_
          refine aw_ret ?_
          have h := leafR h hk5
          obtain rfl := Option.some.inj h
          exact ret_ok1 (by conv => lhs; whnf) (by conv => lhs; whnf) (by exact rfl) (.inr rfl) rfl
        · have h := ifF c11 h
          refine aw_cond_f (by decide) rfl ?_
          refine aw_skip ?_
          have h := leafL h hk5
          exact ⟨_, reb_lit [(1, .int .i64 a1), (5, .int .i64 x3)] [] [] [] (envOk_cons (by conv => lhs; whnf) (by exact rfl) (envOk_cons (by conv => lhs; whnf) (by exact rfl) envOk_nil)) objOk_nil (nodup_b rfl) (nodup_b rfl) rfl rfl, h, rfl⟩
  · rintro s ⟨h, rfl⟩
    unfold window_Of_k0 at h
    refine aw_seq_k (fun K13 hK13 => ?_)
    refine aw_reg ?_
    refine ao_cons (acts_of rfl (does_move (v := .int .i64 a1) (by exact rfl))) (by decide) ?_
    refine ao_cons (acts_of rfl (does_move (v := .int .i64 x3) (by exact rfl))) (by decide) ?_
    obtain ⟨g14, h⟩ := gd_some h
    refine ao_cons (acts_of rfl (does_bin (v := .int .i64 (IntKind.i64.wrap (Int.tdiv a1 x3))) (by conv => lhs; whnf) (by conv => lhs; whnf) (quo_hv g14))) (by decide) ?_
    refine ao_cons (acts_of rfl (does_assign (v := .int .i64 (IntKind.i64.wrap (Int.tdiv a1 x3))) (by exact rfl))) (by decide) ?_
    refine ao_nil_n ?_
    refine hK13 _ ?_
    refine aw_ret ?_
    obtain rfl := Option.some.inj h
    exact ret_ok1 (by conv => lhs; whnf) (by conv => lhs; whnf) (by exact rfl) (.inr rfl) rfl
def gleaninglaw9_alive : Option Bool :=
  Option.bind (window_Span 1 2) (fun (x3 : Int × Int × Bool) => Option.bind (window_Of 0 60) (fun (x5 : Int) => if (x5 == 1) = true then (if (x3.1 == 7200) = true then (if (x3.2.1 == 10800) = true then (some x3.2.2) else (some false)) else (some false)) else (some false)))
set_option maxRecDepth 100000 in
set_option maxHeartbeats 8000000 in
/-- gleaning/gleaninglaw9.alive -/
theorem gleaninglaw9_alive_ok {r : Bool} (h : gleaninglaw9_alive = some r) : Ok Try.prog 29 [] [] [] (.bool r) [] [] := by
  unfold gleaninglaw9_alive at h
  refine ok_of_code Try.func29 rfl (by show (0 : Nat) ≤ _; decide) (Nat.le_refl _) fun X => ?_
  refine aw_seq_k (fun K1 hK1 => ?_)
  refine aw_reg ?_
  refine ao_cons (acts_of rfl (does_assign (v := .bool false) (by exact rfl))) (by decide) ?_
  refine ao_nil_n ?_
  refine hK1 _ ?_
  refine aw_seq_k (fun K2 hK2 => ?_)
  refine aw_reg ?_
  obtain ⟨x3, hx3, h⟩ := bnd_some h
  refine ao_cons (acts_of rfl (do_call0 5 false (window_Span_ok 1 2 hx3) rfl ent30 rfl rfl)) (by decide) ?_
  refine ao_cons (acts_of rfl (does_move (v := .tup [.int .i64 x3.1, .int .i64 x3.2.1, .bool x3.2.2]) (by exact rfl))) (by decide) ?_
  refine ao_cons (acts_of rfl (does_extract (v := .int .i64 x3.1) (by conv => lhs; whnf) (by exact rfl))) (by decide) ?_
  refine ao_cons (acts_of rfl (does_extract (v := .int .i64 x3.2.1) (by conv => lhs; whnf) (by exact rfl))) (by decide) ?_
  refine ao_cons (acts_of rfl (does_extract (v := .bool x3.2.2) (by conv => lhs; whnf) (by exact rfl))) (by decide) ?_
  refine ao_cons (acts_of rfl (does_assign (v := .int .i64 x3.1) (by exact rfl))) (by decide) ?_
  refine ao_cons (acts_of rfl (does_assign (v := .int .i64 x3.2.1) (by exact rfl))) (by decide) ?_
  refine ao_cons (acts_of rfl (does_assign (v := .bool x3.2.2) (by exact rfl))) (by decide) ?_
  refine ao_nil_n ?_
  refine hK2 _ ?_
  refine aw_seq_k (fun K4 hK4 => ?_)
  refine aw_reg ?_
  obtain ⟨x5, hx5, h⟩ := bnd_some h
  refine ao_cons (acts_of rfl (do_call0 9 false (window_Of_ok 0 60 hx5) rfl ent34 rfl rfl)) (by decide) ?_
  refine ao_cons (acts_of rfl (does_bin (v := .bool (x5 == 1)) (by conv => lhs; whnf) (by conv => lhs; whnf) rfl)) (by decide) ?_
  refine ao_cons (acts_of rfl (does_move (v := .bool (x5 == 1)) (by exact rfl))) (by decide) ?_
  refine ao_bool (c := (x5 == 1)) 11 rfl (fun c6 => ?_) (fun c6 => ?_)
  · have h := ifT c6 h
    refine ao_cons (acts_of rfl (does_move (v := .int .i64 x3.1) (by exact rfl))) (by decide) ?_
    refine ao_cons (acts_of rfl (does_bin (v := .bool (x3.1 == 7200)) (by conv => lhs; whnf) (by conv => lhs; whnf) rfl)) (by decide) ?_
    refine ao_cons (acts_of rfl (does_pick (v := .bool (x3.1 == 7200)) (by conv => lhs; whnf) (by exact rfl))) (by decide) ?_
    refine ao_cons (acts_of rfl (does_move (v := .bool (x3.1 == 7200)) (by exact rfl))) (by decide) ?_
    refine ao_bool (c := (x3.1 == 7200)) 15 rfl (fun c7 => ?_) (fun c7 => ?_)
    · have h := ifT c7 h
      refine ao_cons (acts_of rfl (does_move (v := .int .i64 x3.2.1) (by exact rfl))) (by decide) ?_
      refine ao_cons (acts_of rfl (does_bin (v := .bool (x3.2.1 == 10800)) (by conv => lhs; whnf) (by conv => lhs; whnf) rfl)) (by decide) ?_
      refine ao_cons (acts_of rfl (does_pick (v := .bool (x3.2.1 == 10800)) (by conv => lhs; whnf) (by exact rfl))) (by decide) ?_
      refine ao_cons (acts_of rfl (does_move (v := .bool (x3.2.1 == 10800)) (by exact rfl))) (by decide) ?_
      refine ao_bool (c := (x3.2.1 == 10800)) 19 rfl (fun c8 => ?_) (fun c8 => ?_)
      · have h := ifT c8 h
        refine ao_cons (acts_of rfl (does_move (v := .bool x3.2.2) (by exact rfl))) (by decide) ?_
        refine ao_cons (acts_of rfl (does_pick (v := .bool x3.2.2) (by conv => lhs; whnf) (by exact rfl))) (by decide) ?_
        refine ao_cons (acts_of rfl (does_assign (v := .bool x3.2.2) (by exact rfl))) (by decide) ?_
        refine ao_nil_n ?_
        refine hK4 _ ?_
        refine aw_ret ?_
        obtain rfl := Option.some.inj h
        exact ret_ok1 (by conv => lhs; whnf) (by conv => lhs; whnf) (by exact rfl) (.inr rfl) rfl
      · have h := ifF c8 h
        refine ao_cons (acts_skip rfl) (by decide) ?_
        refine ao_cons (acts_of rfl (does_pick (v := .bool false) (by conv => lhs; whnf) (by exact rfl))) (by decide) ?_
        refine ao_cons (acts_of rfl (does_assign (v := .bool false) (by exact rfl))) (by decide) ?_
        refine ao_nil_n ?_
        refine hK4 _ ?_
        refine aw_ret ?_
        obtain rfl := Option.some.inj h
        exact ret_ok1 (by conv => lhs; whnf) (by conv => lhs; whnf) (by exact rfl) (.inr rfl) rfl
    · have h := ifF c7 h
      refine ao_cons (acts_skip rfl) (by decide) ?_
      refine ao_cons (acts_skip rfl) (by decide) ?_
      refine ao_cons (acts_of rfl (does_pick (v := .bool false) (by conv => lhs; whnf) (by exact rfl))) (by decide) ?_
      refine ao_cons (acts_of rfl (does_move (v := .bool false) (by exact rfl))) (by decide) ?_
      refine ao_cons (acts_skip rfl) (by decide) ?_
      refine ao_cons (acts_of rfl (does_pick (v := .bool false) (by conv => lhs; whnf) (by exact rfl))) (by decide) ?_
      refine ao_cons (acts_of rfl (does_assign (v := .bool false) (by exact rfl))) (by decide) ?_
      refine ao_nil_n ?_
      refine hK4 _ ?_
      refine aw_ret ?_
      obtain rfl := Option.some.inj h
      exact ret_ok1 (by conv => lhs; whnf) (by conv => lhs; whnf) (by exact rfl) (.inr rfl) rfl
  · have h := ifF c6 h
    refine ao_cons (acts_skip rfl) (by decide) ?_
    refine ao_cons (acts_skip rfl) (by decide) ?_
    refine ao_cons (acts_of rfl (does_pick (v := .bool false) (by conv => lhs; whnf) (by exact rfl))) (by decide) ?_
    refine ao_cons (acts_of rfl (does_move (v := .bool false) (by exact rfl))) (by decide) ?_
    refine ao_cons (acts_skip rfl) (by decide) ?_
    refine ao_cons (acts_skip rfl) (by decide) ?_
    refine ao_cons (acts_of rfl (does_pick (v := .bool false) (by conv => lhs; whnf) (by exact rfl))) (by decide) ?_
    refine ao_cons (acts_of rfl (does_move (v := .bool false) (by exact rfl))) (by decide) ?_
    refine ao_cons (acts_skip rfl) (by decide) ?_
    refine ao_cons (acts_of rfl (does_pick (v := .bool false) (by conv => lhs; whnf) (by exact rfl))) (by decide) ?_
    refine ao_cons (acts_of rfl (does_assign (v := .bool false) (by exact rfl))) (by decide) ?_
    refine ao_nil_n ?_
    refine hK4 _ ?_
    refine aw_ret ?_
    obtain rfl := Option.some.inj h
    exact ret_ok1 (by conv => lhs; whnf) (by conv => lhs; whnf) (by exact rfl) (.inr rfl) rfl
def gleaningref1_Long (a0 : Int) : Option Int :=
  if (a0 == 0) = true then (some 60) else (if (a0 == 1) = true then (some 3600) else (if (a0 == 2) = true then (some 86400) else (some 0)))
set_option maxRecDepth 100000 in
set_option maxHeartbeats 8000000 in
/-- gleaning/gleaningref1.Long -/
theorem gleaningref1_Long_ok (a0 : Int) {r : Int} (h : gleaningref1_Long a0 = some r) : Ok Try.prog 47 [.int .i64 a0] [] [] (.int .i64 r) [] [] := by
  unfold gleaningref1_Long at h
  refine ok_of_code Try.func47 rfl (by show (1 : Nat) ≤ _; decide) (Nat.le_refl _) fun X => ?_
  refine aw_seq_k (fun K1 hK1 => ?_)
  refine aw_reg ?_
  refine ao_cons (acts_of rfl (does_assign (v := .int .i64 0) (by exact rfl))) (by decide) ?_
  refine ao_nil_n ?_
  refine hK1 _ ?_
  refine aw_seq_k (fun K2 hK2 => ?_)
  refine aw_seq_k (fun K3 hK3 => ?_)
  refine aw_reg ?_
  refine ao_cons (acts_of rfl (does_move (v := .int .i64 a0) (by exact rfl))) (by decide) ?_
  refine ao_nil_n ?_
  refine hK3 _ ?_
  refine aw_block ?_
  refine aw_seq_k (fun K4 hK4 => ?_)
  refine aw_reg ?_
  refine ao_cons (acts_of rfl (does_bin (v := .bool (a0 == 0)) (by conv => lhs; whnf) (by conv => lhs; whnf) rfl)) (by decide) ?_
  refine ao_cons (acts_of rfl (does_assign (v := .bool (a0 == 0)) (by exact rfl))) (by decide) ?_
  refine ao_nil_n ?_
  refine hK4 _ ?_
  refine aw_bool (b := (a0 == 0)) 4 rfl (fun c5 => ?_) (fun c5 => ?_)
  · have h := ifT c5 h
    refine aw_cond_t (by decide) rfl ?_
    refine aw_seq_k (fun K6 hK6 => ?_)
    refine aw_reg ?_
    refine ao_cons (acts_of rfl (does_assign (v := .int .i64 60) (by exact rfl))) (by decide) ?_
    refine ao_nil_n ?_
    refine hK6 _ ?_
    refine aw_ret ?_
    obtain rfl := Option.some.inj h
    exact ret_ok1 (by conv => lhs; whnf) (by conv => lhs; whnf) (by exact rfl) (.inr rfl) rfl
  · have h := ifF c5 h
    refine aw_cond_f (by decide) rfl ?_
    refine aw_seq_k (fun K7 hK7 => ?_)
    refine aw_reg ?_
    refine ao_cons (acts_of rfl (does_bin (v := .bool (a0 == 1)) (by conv => lhs; whnf) (by conv => lhs; whnf) rfl)) (by decide) ?_
    refine ao_cons (acts_of rfl (does_assign (v := .bool (a0 == 1)) (by exact rfl))) (by decide) ?_
    refine ao_nil_n ?_
    refine hK7 _ ?_
    refine aw_bool (b := (a0 == 1)) 6 rfl (fun c8 => ?_) (fun c8 => ?_)
    · have h := ifT c8 h
      refine aw_cond_t (by decide) rfl ?_
      refine aw_seq_k (fun K9 hK9 => ?_)
      refine aw_reg ?_
      refine ao_cons (acts_of rfl (does_assign (v := .int .i64 3600) (by exact rfl))) (by decide) ?_
      refine ao_nil_n ?_
      refine hK9 _ ?_
      refine aw_ret ?_
      obtain rfl := Option.some.inj h
      exact ret_ok1 (by conv => lhs; whnf) (by conv => lhs; whnf) (by exact rfl) (.inr rfl) rfl
    · have h := ifF c8 h
      refine aw_cond_f (by decide) rfl ?_
      refine aw_seq_k (fun K10 hK10 => ?_)
      refine aw_reg ?_
      refine ao_cons (acts_of rfl (does_bin (v := .bool (a0 == 2)) (by conv => lhs; whnf) (by conv => lhs; whnf) rfl)) (by decide) ?_
      refine ao_cons (acts_of rfl (does_assign (v := .bool (a0 == 2)) (by exact rfl))) (by decide) ?_
      refine ao_nil_n ?_
      refine hK10 _ ?_
      refine aw_bool (b := (a0 == 2)) 8 rfl (fun c11 => ?_) (fun c11 => ?_)
      · have h := ifT c11 h
        refine aw_cond_t (by decide) rfl ?_
        refine aw_seq_k (fun K12 hK12 => ?_)
        refine aw_reg ?_
        refine ao_cons (acts_of rfl (does_assign (v := .int .i64 86400) (by exact rfl))) (by decide) ?_
        refine ao_nil_n ?_
        refine hK12 _ ?_
        refine aw_ret ?_
        obtain rfl := Option.some.inj h
        exact ret_ok1 (by conv => lhs; whnf) (by conv => lhs; whnf) (by exact rfl) (.inr rfl) rfl
      · have h := ifF c11 h
        refine aw_cond_f (by decide) rfl ?_
        refine aw_skip ?_
        refine hK2 _ ?_
        refine aw_seq_k (fun K13 hK13 => ?_)
        refine aw_reg ?_
        refine ao_cons (acts_of rfl (does_assign (v := .int .i64 0) (by exact rfl))) (by decide) ?_
        refine ao_nil_n ?_
        refine hK13 _ ?_
        refine aw_ret ?_
        obtain rfl := Option.some.inj h
        exact ret_ok1 (by conv => lhs; whnf) (by conv => lhs; whnf) (by exact rfl) (.inr rfl) rfl
def gleaningref1_Within (a0 : Int) (a1 : Int) (a2 : Int) : Option Bool :=
  if (decide (a1 ≤ a0)) = true then (some (decide (a0 ≤ a2))) else (some false)
set_option maxRecDepth 100000 in
set_option maxHeartbeats 8000000 in
/-- gleaning/gleaningref1.Within -/
theorem gleaningref1_Within_ok (a0 : Int) (a1 : Int) (a2 : Int) {r : Bool} (h : gleaningref1_Within a0 a1 a2 = some r) : Ok Try.prog 48 [.int .i64 a0, .int .i64 a1, .int .i64 a2] [] [] (.bool r) [] [] := by
  unfold gleaningref1_Within at h
  refine ok_of_code Try.func48 rfl (by show (3 : Nat) ≤ _; decide) (Nat.le_refl _) fun X => ?_
  refine aw_seq_k (fun K1 hK1 => ?_)
  refine aw_reg ?_
  refine ao_cons (acts_of rfl (does_assign (v := .bool false) (by exact rfl))) (by decide) ?_
  refine ao_nil_n ?_
  refine hK1 _ ?_
  refine aw_seq_k (fun K2 hK2 => ?_)
  refine aw_reg ?_
  refine ao_cons (acts_of rfl (does_move (v := .int .i64 a0) (by exact rfl))) (by decide) ?_
  refine ao_cons (acts_of rfl (does_move (v := .int .i64 a1) (by exact rfl))) (by decide) ?_
  refine ao_cons (acts_of rfl (does_bin (v := .bool (decide (a1 ≤ a0))) (by conv => lhs; whnf) (by conv => lhs; whnf) rfl)) (by decide) ?_
  refine ao_cons (acts_of rfl (does_move (v := .bool (decide (a1 ≤ a0))) (by exact rfl))) (by decide) ?_
  refine ao_bool (c := (decide (a1 ≤ a0))) 10 rfl (fun c3 => ?_) (fun c3 => ?_)
  · have h := ifT c3 h
    refine ao_cons (acts_of rfl (does_move (v := .int .i64 a0) (by exact rfl))) (by decide) ?_
    refine ao_cons (acts_of rfl (does_move (v := .int .i64 a2) (by exact rfl))) (by decide) ?_
    refine ao_cons (acts_of rfl (does_bin (v := .bool (decide (a0 ≤ a2))) (by conv => lhs; whnf) (by conv => lhs; whnf) rfl)) (by decide) ?_
    refine ao_cons (acts_of rfl (does_pick (v := .bool (decide (a0 ≤ a2))) (by conv => lhs; whnf) (by exact rfl))) (by decide) ?_
    refine ao_cons (acts_of rfl (does_assign (v := .bool (decide (a0 ≤ a2))) (by exact rfl))) (by decide) ?_
    refine ao_nil_n ?_
    refine hK2 _ ?_
    refine aw_ret ?_
    obtain rfl := Option.some.inj h
    exact ret_ok1 (by conv => lhs; whnf) (by conv => lhs; whnf) (by exact rfl) (.inr rfl) rfl
  · have h := ifF c3 h
    refine ao_cons (acts_skip rfl) (by decide) ?_
    refine ao_cons (acts_skip rfl) (by decide) ?_
    refine ao_cons (acts_skip rfl) (by decide) ?_
    refine ao_cons (acts_of rfl (does_pick (v := .bool false) (by conv => lhs; whnf) (by exact rfl))) (by decide) ?_
    refine ao_cons (acts_of rfl (does_assign (v := .bool false) (by exact rfl))) (by decide) ?_
    refine ao_nil_n ?_
    refine hK2 _ ?_
    refine aw_ret ?_
    obtain rfl := Option.some.inj h
    exact ret_ok1 (by conv => lhs; whnf) (by conv => lhs; whnf) (by exact rfl) (.inr rfl) rfl
def gleaningref1_Lasts_k0 (a1 : Int) (x3 : Int) : Option (Int × Int × Bool) :=
  some ((IntKind.i64.wrap (a1 * x3)), (IntKind.i64.wrap ((IntKind.i64.wrap (a1 * x3)) + x3)), true)
def gleaningref1_Lasts (a0 : Int) (a1 : Int) : Option (Int × Int × Bool) :=
  Option.bind (gleaningref1_Long a0) (fun (x3 : Int) => Option.bind (if (x3 == 0) = true then (some (Sum.inr (0, 0, false))) else (gd (¬ x3 = 0) (Option.bind (gleaningref1_Within a1 0 (IntKind.i64.wrap (Int.tdiv 1099511627776 x3))) (fun (x10 : Bool) => if (!x10) = true then (some (Sum.inr (0, 0, false))) else (some (Sum.inl ())))))) (Sum.elim (fun (s : Unit) => gleaningref1_Lasts_k0 a1 x3) some))
set_option maxRecDepth 100000 in
set_option maxHeartbeats 8000000 in
/-- gleaning/gleaningref1.Lasts -/
theorem gleaningref1_Lasts_ok (a0 : Int) (a1 : Int) {r : Int × Int × Bool} (h : gleaningref1_Lasts a0 a1 = some r) : Ok Try.prog 31 [.int .i64 a0, .int .i64 a1] [] [] (.tup [.int .i64 r.1, .int .i64 r.2.1, .bool r.2.2]) [] [] := by
  unfold gleaningref1_Lasts at h
  refine ok_of_code Try.func31 rfl (by show (2 : Nat) ≤ _; decide) (Nat.le_refl _) fun X => ?_
  refine aw_seq_k (fun K1 hK1 => ?_)
  refine aw_reg ?_
  refine ao_cons (acts_of rfl (does_assign (v := .int .i64 0) (by exact rfl))) (by decide) ?_
  refine ao_cons (acts_of rfl (does_assign (v := .int .i64 0) (by exact rfl))) (by decide) ?_
  refine ao_cons (acts_of rfl (does_assign (v := .bool false) (by exact rfl))) (by decide) ?_
  refine ao_nil_n ?_
  refine hK1 _ ?_
  refine aw_seq_k (fun K2 hK2 => ?_)
  refine aw_reg ?_
  refine ao_cons (acts_of rfl (does_move (v := .int .i64 a0) (by exact rfl))) (by decide) ?_
  obtain ⟨x3, hx3, h⟩ := bnd_some h
  refine ao_cons (acts_of rfl (do_call0 9 false (gleaningref1_Long_ok a0 hx3) rfl ent47 rfl rfl)) (by decide) ?_
  refine ao_cons (acts_of rfl (does_assign (v := .int .i64 x3) (by exact rfl))) (by decide) ?_
  refine ao_nil_n ?_
  refine hK2 _ ?_
  obtain ⟨q4, h, hk5⟩ := bnd_some h
  refine aw_cut (fun s => gleaningref1_Lasts_k0 a1 x3 = some r ∧ s = lit [(1, .int .i64 a1), (7, .int .i64 x3)] [] [] X) ?_ ?_
  · skip
    refine aw_seq_k (fun K6 hK6 => ?_)
    refine aw_reg ?_
    refine ao_cons (acts_of rfl (does_move (v := .int .i64 x3) (by exact rfl))) (by decide) ?_
    refine ao_cons (acts_of rfl (does_bin (v := .bool (x3 == 0)) (by conv => lhs; whnf) (by conv => lhs; whnf) rfl)) (by decide) ?_
    refine ao_cons (acts_of rfl (does_move (v := .bool (x3 == 0)) (by exact rfl))) (by decide) ?_
    refine ao_bool (c := (x3 == 0)) 12 rfl (fun c7 => ?_) (fun c7 => ?_)
    · have h := ifT c7 h
      refine ao_cons (acts_skip rfl) (by decide) ?_
      refine ao_cons (acts_skip rfl) (by decide) ?_
      refine ao_cons (acts_skip rfl) (by decide) ?_
      refine ao_cons (acts_skip rfl) (by decide) ?_
      refine ao_cons (acts_skip rfl) (by decide) ?_
      refine ao_cons (acts_of rfl (does_pick (v := .bool true) (by conv => lhs; whnf) (by exact rfl))) (by decide) ?_
      refine ao_nil_n ?_
      refine hK6 _ ?_
      refine aw_cond_t (by decide) rfl ?_
      refine aw_seq_k (fun K8 hK8 => ?_)
      refine aw_reg ?_
      refine ao_cons (acts_of rfl (does_assign (v := .int .i64 0) (by exact rfl))) (by decide) ?_
      refine ao_cons (acts_of rfl (does_assign (v := .int .i64 0) (by exact rfl))) (by decide) ?_
      refine ao_cons (acts_of rfl (does_assign (v := .bool false) (by exact rfl))) (by decide) ?_
      refine ao_nil_n ?_
      refine hK8 _ ?_
      refine aw_ret ?_
      have h := leafR h hk5
      obtain rfl := Option.some.inj h
      exact ret_ok1 (by conv => lhs; whnf) (by conv => lhs; whnf) (by exact rfl) (.inr rfl) rfl
    · have h := ifF c7 h
      refine ao_cons (acts_of rfl (does_move (v := .int .i64 a1) (by exact rfl))) (by decide) ?_
      refine ao_cons (acts_of rfl (does_move (v := .int .i64 x3) (by exact rfl))) (by decide) ?_
      obtain ⟨g9, h⟩ := gd_some h
      refine ao_cons (acts_of rfl (does_bin (v := .int .i64 (IntKind.i64.wrap (Int.tdiv 1099511627776 x3))) (by conv => lhs; whnf) (by conv => lhs; whnf) (quo_hv g9))) (by decide) ?_
      obtain ⟨x10, hx10, h⟩ := bnd_some h
      refine ao_cons (acts_of rfl (do_call0 16 false (gleaningref1_Within_ok a1 0 (IntKind.i64.wrap (Int.tdiv 1099511627776 x3)) hx10) rfl ent48 rfl rfl)) (by decide) ?_
      refine ao_cons (acts_of rfl (does_un (v := .bool (!x10)) (by conv => lhs; whnf) rfl)) (by decide) ?_
      refine ao_cons (acts_of rfl (does_pick (v := .bool (!x10)) (by conv => lhs; whnf) (by exact rfl))) (by decide) ?_
      refine ao_nil_n ?_
      refine hK6 _ ?_
      refine aw_bool (b := (!x10)) 18 rfl (fun c11 => ?_) (fun c11 => ?_)
      · have h := ifT c11 h
        refine aw_cond_t (by decide) rfl ?_
        refine aw_seq_k (fun K12 hK12 => ?_)
        refine aw_reg ?_
        refine ao_cons (acts_of rfl (does_assign (v := .int .i64 0) (by exact rfl))) (by decide) ?_
        refine ao_cons (acts_of rfl (does_assign (v := .int .i64 0) (by exact rfl))) (by decide) ?_
        refine ao_cons (acts_of rfl (does_assign (v := .bool false) (by exact rfl))) (by decide) ?_
        refine ao_nil_n ?_
        refine hK12 _ ?_
        refine aw_ret ?_
        have h := leafR h hk5
        obtain rfl := Option.some.inj h
        exact ret_ok1 (by conv => lhs; whnf) (by conv => lhs; whnf) (by exact rfl) (.inr rfl) rfl
      · have h := ifF c11 h
        refine aw_cond_f (by decide) rfl ?_
        refine aw_skip ?_
        have h := leafL h hk5
        exact ⟨_, reb_lit [(1, .int .i64 a1), (7, .int .i64 x3)] [] [] [] (envOk_cons (by conv => lhs; whnf) (by exact rfl) (envOk_cons (by conv => lhs; whnf) (by exact rfl) envOk_nil)) objOk_nil (nodup_b rfl) (nodup_b rfl) rfl rfl, h, rfl⟩
  · rintro s ⟨h, rfl⟩
    unfold gleaningref1_Lasts_k0 at h
    refine aw_seq_k (fun K13 hK13 => ?_)
    refine aw_reg ?_
    refine ao_cons (acts_of rfl (does_move (v := .int .i64 a1) (by exact rfl))) (by decide) ?_
    refine ao_cons (acts_of rfl (does_move (v := .int .i64 x3) (by exact rfl))) (by decide) ?_
    refine ao_cons (acts_of rfl (does_bin (v := .int .i64 (IntKind.i64.wrap (a1 * x3))) (by conv => lhs; whnf) (by conv => lhs; whnf) rfl)) (by decide) ?_
    refine ao_cons (acts_of rfl (does_move (v := .int .i64 a1) (by exact rfl))) (by decide) ?_
    refine ao_cons (acts_of rfl (does_move (v := .int .i64 x3) (by exact rfl))) (by decide) ?_
    refine ao_cons (acts_of rfl (does_bin (v := .int .i64 (IntKind.i64.wrap (a1 * x3))) (by conv => lhs; whnf) (by conv => lhs; whnf) rfl)) (by decide) ?_
    refine ao_cons (acts_of rfl (does_move (v := .int .i64 x3) (by exact rfl))) (by decide) ?_
    refine ao_cons (acts_of rfl (does_bin (v := .int .i64 (IntKind.i64.wrap ((IntKind.i64.wrap (a1 * x3)) + x3))) (by conv => lhs; whnf) (by conv => lhs; whnf) rfl)) (by decide) ?_
    refine ao_cons (acts_of rfl (does_assign (v := .int .i64 (IntKind.i64.wrap (a1 * x3))) (by exact rfl))) (by decide) ?_
    refine ao_cons (acts_of rfl (does_assign (v := .int .i64 (IntKind.i64.wrap ((IntKind.i64.wrap (a1 * x3)) + x3))) (by exact rfl))) (by decide) ?_
    refine ao_cons (acts_of rfl (does_assign (v := .bool true) (by exact rfl))) (by decide) ?_
    refine ao_nil_n ?_
    refine hK13 _ ?_
    refine aw_ret ?_
    obtain rfl := Option.some.inj h
    exact ret_ok1 (by conv => lhs; whnf) (by conv => lhs; whnf) (by exact rfl) (.inr rfl) rfl
def window_Up_k0 (a0 : Int) (x3 : Int × Int × Bool) : Option (Int × Int × Bool) :=
  Option.bind (window_Of (IntKind.i64.wrap (a0 + 1)) x3.1) (fun (x12 : Int) => some ((IntKind.i64.wrap (a0 + 1)), x12, true))
def window_Up (a0 : Int) (a1 : Int) : Option (Int × Int × Bool) :=
  Option.bind (window_Span a0 a1) (fun (x3 : Int × Int × Bool) => Option.bind (if (!x3.2.2) = true then (some (Sum.inr (0, 0, false))) else (if (a0 == 2) = true then (some (Sum.inr (0, 0, false))) else (some (Sum.inl ())))) (Sum.elim (fun (s : Unit) => window_Up_k0 a0 x3) some))
set_option maxRecDepth 100000 in
set_option maxHeartbeats 8000000 in
/-- gleaning/window.Up -/
theorem window_Up_ok (a0 : Int) (a1 : Int) {r : Int × Int × Bool} (h : window_Up a0 a1 = some r) : Ok Try.prog 32 [.int .i64 a0, .int .i64 a1] [] [] (.tup [.int .i64 r.1, .int .i64 r.2.1, .bool r.2.2]) [] [] := by
  unfold window_Up at h
  refine ok_of_code Try.func32 rfl (by show (2 : Nat) ≤ _; decide) (Nat.le_refl _) fun X => ?_
  refine aw_seq_k (fun K1 hK1 => ?_)
  refine aw_reg ?_
  refine ao_cons (acts_of rfl (does_assign (v := .int .i64 0) (by exact rfl))) (by decide) ?_
  refine ao_cons (acts_of rfl (does_assign (v := .int .i64 0) (by exact rfl))) (by decide) ?_
  refine ao_cons (acts_of rfl (does_assign (v := .bool false) (by exact rfl))) (by decide) ?_
  refine ao_nil_n ?_
  refine hK1 _ ?_
  refine aw_seq_k (fun K2 hK2 => ?_)
  refine aw_reg ?_
  refine ao_cons (acts_of rfl (does_move (v := .int .i64 a0) (by exact rfl))) (by decide) ?_
  refine ao_cons (acts_of rfl (does_move (v := .int .i64 a1) (by exact rfl))) (by decide) ?_
  obtain ⟨x3, hx3, h⟩ := bnd_some h
  refine ao_cons (acts_of rfl (do_call0 13 false (window_Span_ok a0 a1 hx3) rfl ent30 rfl rfl)) (by decide) ?_
  refine ao_cons (acts_of rfl (does_move (v := .tup [.int .i64 x3.1, .int .i64 x3.2.1, .bool x3.2.2]) (by exact rfl))) (by decide) ?_
  refine ao_cons (acts_of rfl (does_extract (v := .int .i64 x3.1) (by conv => lhs; whnf) (by exact rfl))) (by decide) ?_
  refine ao_cons (acts_of rfl (does_extract (v := .int .i64 x3.2.1) (by conv => lhs; whnf) (by exact rfl))) (by decide) ?_
  refine ao_cons (acts_of rfl (does_extract (v := .bool x3.2.2) (by conv => lhs; whnf) (by exact rfl))) (by decide) ?_
  refine ao_cons (acts_of rfl (does_assign (v := .int .i64 x3.1) (by exact rfl))) (by decide) ?_
  refine ao_cons (acts_of rfl (does_assign (v := .int .i64 x3.2.1) (by exact rfl))) (by decide) ?_
  refine ao_cons (acts_of rfl (does_assign (v := .bool x3.2.2) (by exact rfl))) (by decide) ?_
  refine ao_nil_n ?_
  refine hK2 _ ?_
  obtain ⟨q4, h, hk5⟩ := bnd_some h
  refine aw_cut (fun s => window_Up_k0 a0 x3 = some r ∧ s = lit [(0, .int .i64 a0), (7, .int .i64 x3.1)] [] [] X) ?_ ?_
  · skip
    refine aw_seq_k (fun K6 hK6 => ?_)
    refine aw_reg ?_
    refine ao_cons (acts_of rfl (does_move (v := .bool x3.2.2) (by exact rfl))) (by decide) ?_
    refine ao_cons (acts_of rfl (does_un (v := .bool (!x3.2.2)) (by conv => lhs; whnf) rfl)) (by decide) ?_
    refine ao_cons (acts_of rfl (does_move (v := .bool (!x3.2.2)) (by exact rfl))) (by decide) ?_
    refine ao_bool (c := (!x3.2.2)) 19 rfl (fun c7 => ?_) (fun c7 => ?_)
    · have h := ifT c7 h
      refine ao_cons (acts_skip rfl) (by decide) ?_
      refine ao_cons (acts_skip rfl) (by decide) ?_
      refine ao_cons (acts_of rfl (does_pick (v := .bool true) (by conv => lhs; whnf) (by exact rfl))) (by decide) ?_
      refine ao_nil_n ?_
      refine hK6 _ ?_
      refine aw_cond_t (by decide) rfl ?_
      refine aw_seq_k (fun K8 hK8 => ?_)
      refine aw_reg ?_
      refine ao_cons (acts_of rfl (does_assign (v := .int .i64 0) (by exact rfl))) (by decide) ?_
      refine ao_cons (acts_of rfl (does_assign (v := .int .i64 0) (by exact rfl))) (by decide) ?_
      refine ao_cons (acts_of rfl (does_assign (v := .bool false) (by exact rfl))) (by decide) ?_
      refine ao_nil_n ?_
      refine hK8 _ ?_
      refine aw_ret ?_
      have h := leafR h hk5
      obtain rfl := Option.some.inj h
      exact ret_ok1 (by conv => lhs; whnf) (by conv => lhs; whnf) (by exact rfl) (.inr rfl) rfl
    · have h := ifF c7 h
      refine ao_cons (acts_of rfl (does_move (v := .int .i64 a0) (by exact rfl))) (by decide) ?_
      refine ao_cons (acts_of rfl (does_bin (v := .bool (a0 == 2)) (by conv => lhs; whnf) (by conv => lhs; whnf) rfl)) (by decide) ?_
      refine ao_cons (acts_of rfl (does_pick (v := .bool (a0 == 2)) (by conv => lhs; whnf) (by exact rfl))) (by decide) ?_
      refine ao_nil_n ?_
      refine hK6 _ ?_
      refine aw_bool (b := (a0 == 2)) 22 rfl (fun c9 => ?_) (fun c9 => ?_)
      · have h := ifT c9 h
        refine aw_cond_t (by decide) rfl ?_
        refine aw_seq_k (fun K10 hK10 => ?_)
        refine aw_reg ?_
        refine ao_cons (acts_of rfl (does_assign (v := .int .i64 0) (by exact rfl))) (by decide) ?_
        refine ao_cons (acts_of rfl (does_assign (v := .int .i64 0) (by exact rfl))) (by decide) ?_
        refine ao_cons (acts_of rfl (does_assign (v := .bool false) (by exact rfl))) (by decide) ?_
        refine ao_nil_n ?_
        refine hK10 _ ?_
        refine aw_ret ?_
        have h := leafR h hk5
        obtain rfl := Option.some.inj h
        exact ret_ok1 (by conv => lhs; whnf) (by conv => lhs; whnf) (by exact rfl) (.inr rfl) rfl
      · have h := ifF c9 h
        refine aw_cond_f (by decide) rfl ?_
        refine aw_skip ?_
        have h := leafL h hk5
        exact ⟨_, reb_lit [(0, .int .i64 a0), (7, .int .i64 x3.1)] [] [] [] (envOk_cons (by conv => lhs; whnf) (by exact rfl) (envOk_cons (by conv => lhs; whnf) (by exact rfl) envOk_nil)) objOk_nil (nodup_b rfl) (nodup_b rfl) rfl rfl, h, rfl⟩
  · rintro s ⟨h, rfl⟩
    unfold window_Up_k0 at h
    refine aw_seq_k (fun K11 hK11 => ?_)
    refine aw_reg ?_
    refine ao_cons (acts_of rfl (does_move (v := .int .i64 a0) (by exact rfl))) (by decide) ?_
    refine ao_cons (acts_of rfl (does_bin (v := .int .i64 (IntKind.i64.wrap (a0 + 1))) (by conv => lhs; whnf) (by conv => lhs; whnf) rfl)) (by decide) ?_
    refine ao_cons (acts_of rfl (does_move (v := .int .i64 a0) (by exact rfl))) (by decide) ?_
    refine ao_cons (acts_of rfl (does_bin (v := .int .i64 (IntKind.i64.wrap (a0 + 1))) (by conv => lhs; whnf) (by conv => lhs; whnf) rfl)) (by decide) ?_
    refine ao_cons (acts_of rfl (does_move (v := .int .i64 x3.1) (by exact rfl))) (by decide) ?_
    obtain ⟨x12, hx12, h⟩ := bnd_some h
    refine ao_cons (acts_of rfl (do_call0 28 false (window_Of_ok (IntKind.i64.wrap (a0 + 1)) x3.1 hx12) rfl ent34 rfl rfl)) (by decide) ?_
    refine ao_cons (acts_of rfl (does_assign (v := .int .i64 (IntKind.i64.wrap (a0 + 1))) (by exact rfl))) (by decide) ?_
    refine ao_cons (acts_of rfl (does_assign (v := .int .i64 x12) (by exact rfl))) (by decide) ?_
    refine ao_cons (acts_of rfl (does_assign (v := .bool true) (by exact rfl))) (by decide) ?_
    refine ao_nil_n ?_
    refine hK11 _ ?_
    refine aw_ret ?_
    obtain rfl := Option.some.inj h
    exact ret_ok1 (by conv => lhs; whnf) (by conv => lhs; whnf) (by exact rfl) (.inr rfl) rfl
def gleaningref1_Up_k0 (a0 : Int) (x3 : Int × Int × Bool) : Option (Int × Int × Bool) :=
  Option.bind (gleaningref1_Long (IntKind.i64.wrap (a0 + 1))) (fun (x12 : Int) => gd (¬ x12 = 0) (some ((IntKind.i64.wrap (a0 + 1)), (IntKind.i64.wrap (Int.tdiv x3.1 x12)), true)))
def gleaningref1_Up (a0 : Int) (a1 : Int) : Option (Int × Int × Bool) :=
  Option.bind (gleaningref1_Lasts a0 a1) (fun (x3 : Int × Int × Bool) => Option.bind (if (!x3.2.2) = true then (some (Sum.inr (0, 0, false))) else (if (a0 == 2) = true then (some (Sum.inr (0, 0, false))) else (some (Sum.inl ())))) (Sum.elim (fun (s : Unit) => gleaningref1_Up_k0 a0 x3) some))
set_option maxRecDepth 100000 in
set_option maxHeartbeats 8000000 in
/-- gleaning/gleaningref1.Up -/
theorem gleaningref1_Up_ok (a0 : Int) (a1 : Int) {r : Int × Int × Bool} (h : gleaningref1_Up a0 a1 = some r) : Ok Try.prog 33 [.int .i64 a0, .int .i64 a1] [] [] (.tup [.int .i64 r.1, .int .i64 r.2.1, .bool r.2.2]) [] [] := by
  unfold gleaningref1_Up at h
  refine ok_of_code Try.func33 rfl (by show (2 : Nat) ≤ _; decide) (Nat.le_refl _) fun X => ?_
  refine aw_seq_k (fun K1 hK1 => ?_)
  refine aw_reg ?_
  refine ao_cons (acts_of rfl (does_assign (v := .int .i64 0) (by exact rfl))) (by decide) ?_
  refine ao_cons (acts_of rfl (does_assign (v := .int .i64 0) (by exact rfl))) (by decide) ?_
  refine ao_cons (acts_of rfl (does_assign (v := .bool false) (by exact rfl))) (by decide) ?_
  refine ao_nil_n ?_
  refine hK1 _ ?_
  refine aw_seq_k (fun K2 hK2 => ?_)
  refine aw_reg ?_
  refine ao_cons (acts_of rfl (does_move (v := .int .i64 a0) (by exact rfl))) (by decide) ?_
  refine ao_cons (acts_of rfl (does_move (v := .int .i64 a1) (by exact rfl))) (by decide) ?_
  obtain ⟨x3, hx3, h⟩ := bnd_some h
  refine ao_cons (acts_of rfl (do_call0 13 false (gleaningref1_Lasts_ok a0 a1 hx3) rfl ent31 rfl rfl)) (by decide) ?_
  refine ao_cons (acts_of rfl (does_move (v := .tup [.int .i64 x3.1, .int .i64 x3.2.1, .bool x3.2.2]) (by exact rfl))) (by decide) ?_
  refine ao_cons (acts_of rfl (does_extract (v := .int .i64 x3.1) (by conv => lhs; whnf) (by exact rfl))) (by decide) ?_
  refine ao_cons (acts_of rfl (does_extract (v := .int .i64 x3.2.1) (by conv => lhs; whnf) (by exact rfl))) (by decide) ?_
  refine ao_cons (acts_of rfl (does_extract (v := .bool x3.2.2) (by conv => lhs; whnf) (by exact rfl))) (by decide) ?_
  refine ao_cons (acts_of rfl (does_assign (v := .int .i64 x3.1) (by exact rfl))) (by decide) ?_
  refine ao_cons (acts_of rfl (does_assign (v := .int .i64 x3.2.1) (by exact rfl))) (by decide) ?_
  refine ao_cons (acts_of rfl (does_assign (v := .bool x3.2.2) (by exact rfl))) (by decide) ?_
  refine ao_nil_n ?_
  refine hK2 _ ?_
  obtain ⟨q4, h, hk5⟩ := bnd_some h
  refine aw_cut (fun s => gleaningref1_Up_k0 a0 x3 = some r ∧ s = lit [(0, .int .i64 a0), (7, .int .i64 x3.1)] [] [] X) ?_ ?_
  · skip
    refine aw_seq_k (fun K6 hK6 => ?_)
    refine aw_reg ?_
    refine ao_cons (acts_of rfl (does_move (v := .bool x3.2.2) (by exact rfl))) (by decide) ?_
    refine ao_cons (acts_of rfl (does_un (v := .bool (!x3.2.2)) (by conv => lhs; whnf) rfl)) (by decide) ?_
    refine ao_cons (acts_of rfl (does_move (v := .bool (!x3.2.2)) (by exact rfl))) (by decide) ?_
    refine ao_bool (c := (!x3.2.2)) 19 rfl (fun c7 => ?_) (fun c7 => ?_)
    · have h := ifT c7 h
      refine ao_cons (acts_skip rfl) (by decide) ?_
      refine ao_cons (acts_skip rfl) (by decide) ?_
      refine ao_cons (acts_of rfl (does_pick (v := .bool true) (by conv => lhs; whnf) (by exact rfl))) (by decide) ?_
      refine ao_nil_n ?_
      refine hK6 _ ?_
      refine aw_cond_t (by decide) rfl ?_
      refine aw_seq_k (fun K8 hK8 => ?_)
      refine aw_reg ?_
      refine ao_cons (acts_of rfl (does_assign (v := .int .i64 0) (by exact rfl))) (by decide) ?_
      refine ao_cons (acts_of rfl (does_assign (v := .int .i64 0) (by exact rfl))) (by decide) ?_
      refine ao_cons (acts_of rfl (does_assign (v := .bool false) (by exact rfl))) (by decide) ?_
      refine ao_nil_n ?_
      refine hK8 _ ?_
      refine aw_ret ?_
      have h := leafR h hk5
      obtain rfl := Option.some.inj h
      exact ret_ok1 (by conv => lhs; whnf) (by conv => lhs; whnf) (by exact rfl) (.inr rfl) rfl
    · have h := ifF c7 h
      refine ao_cons (acts_of rfl (does_move (v := .int .i64 a0) (by exact rfl))) (by decide) ?_
      refine ao_cons (acts_of rfl (does_bin (v := .bool (a0 == 2)) (by conv => lhs; whnf) (by conv => lhs; whnf) rfl)) (by decide) ?_
      refine ao_cons (acts_of rfl (does_pick (v := .bool (a0 == 2)) (by conv => lhs; whnf) (by exact rfl))) (by decide) ?_
      refine ao_nil_n ?_
      refine hK6 _ ?_
      refine aw_bool (b := (a0 == 2)) 22 rfl (fun c9 => ?_) (fun c9 => ?_)
      · have h := ifT c9 h
        refine aw_cond_t (by decide) rfl ?_
        refine aw_seq_k (fun K10 hK10 => ?_)
        refine aw_reg ?_
        refine ao_cons (acts_of rfl (does_assign (v := .int .i64 0) (by exact rfl))) (by decide) ?_
        refine ao_cons (acts_of rfl (does_assign (v := .int .i64 0) (by exact rfl))) (by decide) ?_
        refine ao_cons (acts_of rfl (does_assign (v := .bool false) (by exact rfl))) (by decide) ?_
        refine ao_nil_n ?_
        refine hK10 _ ?_
        refine aw_ret ?_
        have h := leafR h hk5
        obtain rfl := Option.some.inj h
        exact ret_ok1 (by conv => lhs; whnf) (by conv => lhs; whnf) (by exact rfl) (.inr rfl) rfl
      · have h := ifF c9 h
        refine aw_cond_f (by decide) rfl ?_
        refine aw_skip ?_
        have h := leafL h hk5
        exact ⟨_, reb_lit [(0, .int .i64 a0), (7, .int .i64 x3.1)] [] [] [] (envOk_cons (by conv => lhs; whnf) (by exact rfl) (envOk_cons (by conv => lhs; whnf) (by exact rfl) envOk_nil)) objOk_nil (nodup_b rfl) (nodup_b rfl) rfl rfl, h, rfl⟩
  · rintro s ⟨h, rfl⟩
    unfold gleaningref1_Up_k0 at h
    refine aw_seq_k (fun K11 hK11 => ?_)
    refine aw_regd (by kernel_rfl) (by decide +kernel) ?_
    refine ao_cons (acts_of rfl (does_move (v := .int .i64 a0) (by exact rfl))) (by decide) ?_
    refine ao_cons (acts_of rfl (does_bin (v := .int .i64 (IntKind.i64.wrap (a0 + 1))) (by conv => lhs; whnf) (by conv => lhs; whnf) rfl)) (by decide) ?_
    refine ao_cons (acts_of rfl (does_move (v := .int .i64 x3.1) (by exact rfl))) (by decide) ?_
    refine ao_cons (acts_of rfl (does_move (v := .int .i64 a0) (by exact rfl))) (by decide) ?_
    refine ao_cons (acts_of rfl (does_bin (v := .int .i64 (IntKind.i64.wrap (a0 + 1))) (by conv => lhs; whnf) (by conv => lhs; whnf) rfl)) (by decide) ?_
    obtain ⟨x12, hx12, h⟩ := bnd_some h
    refine ao_cons (acts_of rfl (do_call0 28 false (gleaningref1_Long_ok (IntKind.i64.wrap (a0 + 1)) hx12) rfl ent47 rfl rfl)) (by decide) ?_
    obtain ⟨g13, h⟩ := gd_some h
    refine ao_cons (acts_of rfl (does_bin (v := .int .i64 (IntKind.i64.wrap (Int.tdiv x3.1 x12))) (by conv => lhs; whnf) (by conv => lhs; whnf) (quo_hv g13))) (by decide) ?_
    refine ao_cons (acts_of rfl (does_assign (v := .int .i64 (IntKind.i64.wrap (a0 + 1))) (by exact rfl))) (by decide) ?_
    refine ao_cons (acts_of rfl (does_assign (v := .int .i64 (IntKind.i64.wrap (Int.tdiv x3.1 x12))) (by exact rfl))) (by decide) ?_
    refine ao_cons (acts_of rfl (does_assign (v := .bool true) (by exact rfl))) (by decide) ?_
    refine ao_nil_d (by kernel_rfl) ?_
    refine hK11 _ ?_
    refine aw_ret ?_
    obtain rfl := Option.some.inj h
    exact ret_ok1 (by conv => lhs; whnf) (by conv => lhs; whnf) (by exact rfl) (.inr rfl) rfl
def gleaningref1_Window_k0 (a1 : Int) (x3 : Int) : Option Int :=
  gd (¬ x3 = 0) (some (IntKind.i64.wrap (Int.tdiv a1 x3)))
def gleaningref1_Window (a0 : Int) (a1 : Int) : Option Int :=
  Option.bind (gleaningref1_Long a0) (fun (x3 : Int) => Option.bind (if (x3 == 0) = true then (some (Sum.inr (-1))) else (Option.bind (gleaningref1_Within a1 0 1099511627776) (fun (x9 : Bool) => if (!x9) = true then (some (Sum.inr (-1))) else (some (Sum.inl ()))))) (Sum.elim (fun (s : Unit) => gleaningref1_Window_k0 a1 x3) some))
set_option maxRecDepth 100000 in
set_option maxHeartbeats 8000000 in
/-- gleaning/gleaningref1.Window -/
theorem gleaningref1_Window_ok (a0 : Int) (a1 : Int) {r : Int} (h : gleaningref1_Window a0 a1 = some r) : Ok Try.prog 35 [.int .i64 a0, .int .i64 a1] [] [] (.int .i64 r) [] [] := by
  unfold gleaningref1_Window at h
  refine ok_of_code Try.func35 rfl (by show (2 : Nat) ≤ _; decide) (Nat.le_refl _) fun X => ?_
  refine aw_seq_k (fun K1 hK1 => ?_)
  refine aw_reg ?_
  refine ao_cons (acts_of rfl (does_assign (v := .int .i64 0) (by exact rfl))) (by decide) ?_
  refine ao_nil_n ?_
  refine hK1 _ ?_
  refine aw_seq_k (fun K2 hK2 => ?_)
  refine aw_reg ?_
  refine ao_cons (acts_of rfl (does_move (v := .int .i64 a0) (by exact rfl))) (by decide) ?_
  obtain ⟨x3, hx3, h⟩ := bnd_some h
  refine ao_cons (acts_of rfl (do_call0 7 false (gleaningref1_Long_ok a0 hx3) rfl ent47 rfl rfl)) (by decide) ?_
  refine ao_cons (acts_of rfl (does_assign (v := .int .i64 x3) (by exact rfl))) (by decide) ?_
  refine ao_nil_n ?_
  refine hK2 _ ?_
  obtain ⟨q4, h, hk5⟩ := bnd_some h
  refine aw_cut (fun s => gleaningref1_Window_k0 a1 x3 = some r ∧ s = lit [(1, .int .i64 a1), (5, .int .i64 x3)] [] [] X) ?_ ?_
  · skip
    refine aw_seq_k (fun K6 hK6 => ?_)
    refine aw_reg ?_
    refine ao_cons (acts_of rfl (does_move (v := .int .i64 x3) (by exact rfl))) (by decide) ?_
    refine ao_cons (acts_of rfl (does_bin (v := .bool (x3 == 0)) (by conv => lhs; whnf) (by conv => lhs; whnf) rfl)) (by decide) ?_
    refine ao_cons (acts_of rfl (does_move (v := .bool (x3 == 0)) (by exact rfl))) (by decide) ?_
    refine ao_bool (c := (x3 == 0)) 10 rfl (fun c7 => ?_) (fun c7 => ?_)
    · have h := ifT c7 h
      refine ao_cons (acts_skip rfl) (by decide) ?_
      refine ao_cons (acts_skip rfl) (by decide) ?_
      refine ao_cons (acts_skip rfl) (by decide) ?_
      refine ao_cons (acts_of rfl (does_pick (v := .bool true) (by conv => lhs; whnf) (by exact rfl))) (by decide) ?_
      refine ao_nil_n ?_
      refine hK6 _ ?_
      refine aw_cond_t (by decide) rfl ?_
      refine aw_seq_k (fun K8 hK8 => ?_)
      refine aw_reg ?_
      refine ao_cons (acts_of rfl (does_assign (v := .int .i64 (-1)) (by exact rfl))) (by decide) ?_
      refine ao_nil_n ?_
      refine hK8 _ ?_
      refine aw_ret ?_
      have h := leafR h hk5
      obtain rfl := Option.some.inj h
      exact ret_ok1 (by conv => lhs; whnf) (by conv => lhs; whnf) (by exact rfl) (.inr rfl) rfl
    · have h := ifF c7 h
      refine ao_cons (acts_of rfl (does_move (v := .int .i64 a1) (by exact rfl))) (by decide) ?_
      obtain ⟨x9, hx9, h⟩ := bnd_some h
      refine ao_cons (acts_of rfl (do_call0 12 false (gleaningref1_Within_ok a1 0 1099511627776 hx9) rfl ent48 rfl rfl)) (by decide) ?_
      refine ao_cons (acts_of rfl (does_un (v := .bool (!x9)) (by conv => lhs; whnf) rfl)) (by decide) ?_
      refine ao_cons (acts_of rfl (does_pick (v := .bool (!x9)) (by conv => lhs; whnf) (by exact rfl))) (by decide) ?_
      refine ao_nil_n ?_
      refine hK6 _ ?_
      refine aw_bool (b := (!x9)) 14 rfl (fun c10 => ?_) (fun c10 => ?_)
      · have h := ifT c10 h
        refine aw_cond_t (by decide) rfl ?_
        refine aw_seq_k (fun K11 hK11 => ?_)
        refine aw_reg ?_
        refine ao_cons (acts_of rfl (does_assign (v := .int .i64 (-1)) (by exact rfl))) (by decide) ?_
        refine ao_nil_n ?_
        refine hK11 _ ?_
        refine aw_ret ?_
        have h := leafR h hk5
        obtain rfl := Option.some.inj h
        exact ret_ok1 (by conv => lhs; whnf) (by conv => lhs; whnf) (by exact rfl) (.inr rfl) rfl
      · have h := ifF c10 h
        refine aw_cond_f (by decide) rfl ?_
        refine aw_skip ?_
        have h := leafL h hk5
        exact ⟨_, reb_lit [(1, .int .i64 a1), (5, .int .i64 x3)] [] [] [] (envOk_cons (by conv => lhs; whnf) (by exact rfl) (envOk_cons (by conv => lhs; whnf) (by exact rfl) envOk_nil)) objOk_nil (nodup_b rfl) (nodup_b rfl) rfl rfl, h, rfl⟩
  · rintro s ⟨h, rfl⟩
    unfold gleaningref1_Window_k0 at h
    refine aw_seq_k (fun K12 hK12 => ?_)
    refine aw_reg ?_
    refine ao_cons (acts_of rfl (does_move (v := .int .i64 a1) (by exact rfl))) (by decide) ?_
    refine ao_cons (acts_of rfl (does_move (v := .int .i64 x3) (by exact rfl))) (by decide) ?_
    obtain ⟨g13, h⟩ := gd_some h
    refine ao_cons (acts_of rfl (does_bin (v := .int .i64 (IntKind.i64.wrap (Int.tdiv a1 x3))) (by conv => lhs; whnf) (by conv => lhs; whnf) (quo_hv g13))) (by decide) ?_
    refine ao_cons (acts_of rfl (does_assign (v := .int .i64 (IntKind.i64.wrap (Int.tdiv a1 x3))) (by exact rfl))) (by decide) ?_
    refine ao_nil_n ?_
    refine hK12 _ ?_
    refine aw_ret ?_
    obtain rfl := Option.some.inj h
    exact ret_ok1 (by conv => lhs; whnf) (by conv => lhs; whnf) (by exact rfl) (.inr rfl) rfl
def gleaninglaw9_WindowTells (a0 : Int) (a1 : Int) (a2 : Int) : Option Bool :=
  Option.bind (gleaninglaw9_alive) (fun (x3 : Bool) => Option.bind (window_Span a0 a2) (fun (x5 : Int × Int × Bool) => Option.bind (gleaningref1_Lasts a0 a2) (fun (x7 : Int × Int × Bool) => Option.bind (window_Up a0 a2) (fun (x9 : Int × Int × Bool) => Option.bind (gleaningref1_Up a0 a2) (fun (x11 : Int × Int × Bool) => if x3 = true then (Option.bind (window_Of a0 a1) (fun (x14 : Int) => Option.bind (gleaningref1_Window a0 a1) (fun (x15 : Int) => if (x14 == x15) = true then (if (x5.1 == x7.1) = true then (if (x5.2.1 == x7.2.1) = true then (if (x5.2.2 == x7.2.2) = true then (if (x9.1 == x11.1) = true then (if (x9.2.1 == x11.2.1) = true then (some (x9.2.2 == x11.2.2)) else (some false)) else (some false)) else (some false)) else (some false)) else (some false)) else (some false)))) else (some false))))))
set_option maxRecDepth 100000 in
set_option maxHeartbeats 8000000 in
/-- gleaning/gleaninglaw9.WindowTells -/
theorem gleaninglaw9_WindowTells_ok (a0 : Int) (a1 : Int) (a2 : Int) {r : Bool} (h : gleaninglaw9_WindowTells a0 a1 a2 = some r) : Ok Try.prog 10 [.int .i64 a0, .int .i64 a1, .int .i64 a2] [] [] (.bool r) [] [] := by
  unfold gleaninglaw9_WindowTells at h
  refine ok_of_code Try.func10 rfl (by show (3 : Nat) ≤ _; decide) (Nat.le_refl _) fun X => ?_
  refine aw_seq_k (fun K1 hK1 => ?_)
  refine aw_reg ?_
  refine ao_cons (acts_of rfl (does_assign (v := .bool false) (by exact rfl))) (by decide) ?_
  refine ao_nil_n ?_
  refine hK1 _ ?_
  refine aw_seq_k (fun K2 hK2 => ?_)
  refine aw_reg ?_
  obtain ⟨x3, hx3, h⟩ := bnd_some h
  refine ao_cons (acts_of rfl (do_call0 20 false (gleaninglaw9_alive_ok hx3) rfl ent29 rfl rfl)) (by decide) ?_
  refine ao_cons (acts_of rfl (does_assign (v := .bool x3) (by exact rfl))) (by decide) ?_
  refine ao_nil_n ?_
  refine hK2 _ ?_
  refine aw_seq_k (fun K4 hK4 => ?_)
  refine aw_reg ?_
  refine ao_cons (acts_of rfl (does_move (v := .int .i64 a0) (by exact rfl))) (by decide) ?_
  refine ao_cons (acts_of rfl (does_move (v := .int .i64 a2) (by exact rfl))) (by decide) ?_
  obtain ⟨x5, hx5, h⟩ := bnd_some h
  refine ao_cons (acts_of rfl (do_call0 24 false (window_Span_ok a0 a2 hx5) rfl ent30 rfl rfl)) (by decide) ?_
  refine ao_cons (acts_of rfl (does_move (v := .tup [.int .i64 x5.1, .int .i64 x5.2.1, .bool x5.2.2]) (by exact rfl))) (by decide) ?_
  refine ao_cons (acts_of rfl (does_extract (v := .int .i64 x5.1) (by conv => lhs; whnf) (by exact rfl))) (by decide) ?_
  refine ao_cons (acts_of rfl (does_extract (v := .int .i64 x5.2.1) (by conv => lhs; whnf) (by exact rfl))) (by decide) ?_
  refine ao_cons (acts_of rfl (does_extract (v := .bool x5.2.2) (by conv => lhs; whnf) (by exact rfl))) (by decide) ?_
  refine ao_cons (acts_of rfl (does_assign (v := .int .i64 x5.1) (by exact rfl))) (by decide) ?_
  refine ao_cons (acts_of rfl (does_assign (v := .int .i64 x5.2.1) (by exact rfl))) (by decide) ?_
  refine ao_cons (acts_of rfl (does_assign (v := .bool x5.2.2) (by exact rfl))) (by decide) ?_
  refine ao_nil_n ?_
  refine hK4 _ ?_
  refine aw_seq_k (fun K6 hK6 => ?_)
  refine aw_reg ?_
  refine ao_cons (acts_of rfl (does_move (v := .int .i64 a0) (by exact rfl))) (by decide) ?_
  refine ao_cons (acts_of rfl (does_move (v := .int .i64 a2) (by exact rfl))) (by decide) ?_
  obtain ⟨x7, hx7, h⟩ := bnd_some h
  refine ao_cons (acts_of rfl (do_call0 31 false (gleaningref1_Lasts_ok a0 a2 hx7) rfl ent31 rfl rfl)) (by decide) ?_
  refine ao_cons (acts_of rfl (does_move (v := .tup [.int .i64 x7.1, .int .i64 x7.2.1, .bool x7.2.2]) (by exact rfl))) (by decide) ?_
  refine ao_cons (acts_of rfl (does_extract (v := .int .i64 x7.1) (by conv => lhs; whnf) (by exact rfl))) (by decide) ?_
  refine ao_cons (acts_of rfl (does_extract (v := .int .i64 x7.2.1) (by conv => lhs; whnf) (by exact rfl))) (by decide) ?_
  refine ao_cons (acts_of rfl (does_extract (v := .bool x7.2.2) (by conv => lhs; whnf) (by exact rfl))) (by decide) ?_
  refine ao_cons (acts_of rfl (does_assign (v := .int .i64 x7.1) (by exact rfl))) (by decide) ?_
  refine ao_cons (acts_of rfl (does_assign (v := .int .i64 x7.2.1) (by exact rfl))) (by decide) ?_
  refine ao_cons (acts_of rfl (does_assign (v := .bool x7.2.2) (by exact rfl))) (by decide) ?_
  refine ao_nil_n ?_
  refine hK6 _ ?_
  refine aw_seq_k (fun K8 hK8 => ?_)
  refine aw_reg ?_
  refine ao_cons (acts_of rfl (does_move (v := .int .i64 a0) (by exact rfl))) (by decide) ?_
  refine ao_cons (acts_of rfl (does_move (v := .int .i64 a2) (by exact rfl))) (by decide) ?_
  obtain ⟨x9, hx9, h⟩ := bnd_some h
  refine ao_cons (acts_of rfl (do_call0 38 false (window_Up_ok a0 a2 hx9) rfl ent32 rfl rfl)) (by decide) ?_
  refine ao_cons (acts_of rfl (does_move (v := .tup [.int .i64 x9.1, .int .i64 x9.2.1, .bool x9.2.2]) (by exact rfl))) (by decide) ?_
  refine ao_cons (acts_of rfl (does_extract (v := .int .i64 x9.1) (by conv => lhs; whnf) (by exact rfl))) (by decide) ?_
  refine ao_cons (acts_of rfl (does_extract (v := .int .i64 x9.2.1) (by conv => lhs; whnf) (by exact rfl))) (by decide) ?_
  refine ao_cons (acts_of rfl (does_extract (v := .bool x9.2.2) (by conv => lhs; whnf) (by exact rfl))) (by decide) ?_
  refine ao_cons (acts_of rfl (does_assign (v := .int .i64 x9.1) (by exact rfl))) (by decide) ?_
  refine ao_cons (acts_of rfl (does_assign (v := .int .i64 x9.2.1) (by exact rfl))) (by decide) ?_
  refine ao_cons (acts_of rfl (does_assign (v := .bool x9.2.2) (by exact rfl))) (by decide) ?_
  refine ao_nil_n ?_
  refine hK8 _ ?_
  refine aw_seq_k (fun K10 hK10 => ?_)
  refine aw_reg ?_
  refine ao_cons (acts_of rfl (does_move (v := .int .i64 a0) (by exact rfl))) (by decide) ?_
  refine ao_cons (acts_of rfl (does_move (v := .int .i64 a2) (by exact rfl))) (by decide) ?_
  obtain ⟨x11, hx11, h⟩ := bnd_some h
  refine ao_cons (acts_of rfl (do_call0 45 false (gleaningref1_Up_ok a0 a2 hx11) rfl ent33 rfl rfl)) (by decide) ?_
  refine ao_cons (acts_of rfl (does_move (v := .tup [.int .i64 x11.1, .int .i64 x11.2.1, .bool x11.2.2]) (by exact rfl))) (by decide) ?_
  refine ao_cons (acts_of rfl (does_extract (v := .int .i64 x11.1) (by conv => lhs; whnf) (by exact rfl))) (by decide) ?_
  refine ao_cons (acts_of rfl (does_extract (v := .int .i64 x11.2.1) (by conv => lhs; whnf) (by exact rfl))) (by decide) ?_
  refine ao_cons (acts_of rfl (does_extract (v := .bool x11.2.2) (by conv => lhs; whnf) (by exact rfl))) (by decide) ?_
  refine ao_cons (acts_of rfl (does_assign (v := .int .i64 x11.1) (by exact rfl))) (by decide) ?_
  refine ao_cons (acts_of rfl (does_assign (v := .int .i64 x11.2.1) (by exact rfl))) (by decide) ?_
  refine ao_cons (acts_of rfl (does_assign (v := .bool x11.2.2) (by exact rfl))) (by decide) ?_
  refine ao_nil_n ?_
  refine hK10 _ ?_
  refine aw_seq_k (fun K12 hK12 => ?_)
  refine aw_reg ?_
  refine ao_cons (acts_of rfl (does_move (v := .bool x3) (by exact rfl))) (by decide) ?_
  refine ao_cons (acts_of rfl (does_move (v := .bool x3) (by exact rfl))) (by decide) ?_
  refine ao_bool (c := x3) 50 rfl (fun c13 => ?_) (fun c13 => ?_)
  · have h := ifT c13 h
    refine ao_cons (acts_of rfl (does_move (v := .int .i64 a0) (by exact rfl))) (by decide) ?_
    refine ao_cons (acts_of rfl (does_move (v := .int .i64 a1) (by exact rfl))) (by decide) ?_
    obtain ⟨x14, hx14, h⟩ := bnd_some h
    refine ao_cons (acts_of rfl (do_call0 53 false (window_Of_ok a0 a1 hx14) rfl ent34 rfl rfl)) (by decide) ?_
    refine ao_cons (acts_of rfl (does_move (v := .int .i64 a0) (by exact rfl))) (by decide) ?_
    refine ao_cons (acts_of rfl (does_move (v := .int .i64 a1) (by exact rfl))) (by decide) ?_
    obtain ⟨x15, hx15, h⟩ := bnd_some h
    refine ao_cons (acts_of rfl (do_call0 56 false (gleaningref1_Window_ok a0 a1 hx15) rfl ent35 rfl rfl)) (by decide) ?_
    refine ao_cons (acts_of rfl (does_bin (v := .bool (x14 == x15)) (by conv => lhs; whnf) (by conv => lhs; whnf) rfl)) (by decide) ?_
    refine ao_cons (acts_of rfl (does_pick (v := .bool (x14 == x15)) (by conv => lhs; whnf) (by exact rfl))) (by decide) ?_
    refine ao_cons (acts_of rfl (does_move (v := .bool (x14 == x15)) (by exact rfl))) (by decide) ?_
    refine ao_bool (c := (x14 == x15)) 59 rfl (fun c16 => ?_) (fun c16 => ?_)
    · have h := ifT c16 h
      refine ao_cons (acts_of rfl (does_move (v := .int .i64 x5.1) (by exact rfl))) (by decide) ?_
      refine ao_cons (acts_of rfl (does_move (v := .int .i64 x7.1) (by exact rfl))) (by decide) ?_
      refine ao_cons (acts_of rfl (does_bin (v := .bool (x5.1 == x7.1)) (by conv => lhs; whnf) (by conv => lhs; whnf) rfl)) (by decide) ?_
      refine ao_cons (acts_of rfl (does_pick (v := .bool (x5.1 == x7.1)) (by conv => lhs; whnf) (by exact rfl))) (by decide) ?_
      refine ao_cons (acts_of rfl (does_move (v := .bool (x5.1 == x7.1)) (by exact rfl))) (by decide) ?_
      refine ao_bool (c := (x5.1 == x7.1)) 64 rfl (fun c17 => ?_) (fun c17 => ?_)
      · have h := ifT c17 h
        refine ao_cons (acts_of rfl (does_move (v := .int .i64 x5.2.1) (by exact rfl))) (by decide) ?_
        refine ao_cons (acts_of rfl (does_move (v := .int .i64 x7.2.1) (by exact rfl))) (by decide) ?_
        refine ao_cons (acts_of rfl (does_bin (v := .bool (x5.2.1 == x7.2.1)) (by conv => lhs; whnf) (by conv => lhs; whnf) rfl)) (by decide) ?_
        refine ao_cons (acts_of rfl (does_pick (v := .bool (x5.2.1 == x7.2.1)) (by conv => lhs; whnf) (by exact rfl))) (by decide) ?_
        refine ao_cons (acts_of rfl (does_move (v := .bool (x5.2.1 == x7.2.1)) (by exact rfl))) (by decide) ?_
        refine ao_bool (c := (x5.2.1 == x7.2.1)) 69 rfl (fun c18 => ?_) (fun c18 => ?_)
        · have h := ifT c18 h
          refine ao_cons (acts_of rfl (does_move (v := .bool x5.2.2) (by exact rfl))) (by decide) ?_
          refine ao_cons (acts_of rfl (does_move (v := .bool x7.2.2) (by exact rfl))) (by decide) ?_
          refine ao_cons (acts_of rfl (does_eq_bool (v := .bool (x5.2.2 == x7.2.2)) (by conv => lhs; whnf) (by conv => lhs; whnf) (ty_bool ty4) rfl)) (by decide) ?_
          refine ao_cons (acts_of rfl (does_pick (v := .bool (x5.2.2 == x7.2.2)) (by conv => lhs; whnf) (by exact rfl))) (by decide) ?_
          refine ao_cons (acts_of rfl (does_move (v := .bool (x5.2.2 == x7.2.2)) (by exact rfl))) (by decide) ?_
          refine ao_bool (c := (x5.2.2 == x7.2.2)) 74 rfl (fun c19 => ?_) (fun c19 => ?_)
          · have h := ifT c19 h
            refine ao_cons (acts_of rfl (does_move (v := .int .i64 x9.1) (by exact rfl))) (by decide) ?_
            refine ao_cons (acts_of rfl (does_move (v := .int .i64 x11.1) (by exact rfl))) (by decide) ?_
            refine ao_cons (acts_of rfl (does_bin (v := .bool (x9.1 == x11.1)) (by conv => lhs; whnf) (by conv => lhs; whnf) rfl)) (by decide) ?_
            refine ao_cons (acts_of rfl (does_pick (v := .bool (x9.1 == x11.1)) (by conv => lhs; whnf) (by exact rfl))) (by decide) ?_
            refine ao_cons (acts_of rfl (does_move (v := .bool (x9.1 == x11.1)) (by exact rfl))) (by decide) ?_
            refine ao_bool (c := (x9.1 == x11.1)) 79 rfl (fun c20 => ?_) (fun c20 => ?_)
            · have h := ifT c20 h
              refine ao_cons (acts_of rfl (does_move (v := .int .i64 x9.2.1) (by exact rfl))) (by decide) ?_
              refine ao_cons (acts_of rfl (does_move (v := .int .i64 x11.2.1) (by exact rfl))) (by decide) ?_
              refine ao_cons (acts_of rfl (does_bin (v := .bool (x9.2.1 == x11.2.1)) (by conv => lhs; whnf) (by conv => lhs; whnf) rfl)) (by decide) ?_
              refine ao_cons (acts_of rfl (does_pick (v := .bool (x9.2.1 == x11.2.1)) (by conv => lhs; whnf) (by exact rfl))) (by decide) ?_
              refine ao_cons (acts_of rfl (does_move (v := .bool (x9.2.1 == x11.2.1)) (by exact rfl))) (by decide) ?_
              refine ao_bool (c := (x9.2.1 == x11.2.1)) 84 rfl (fun c21 => ?_) (fun c21 => ?_)
              · have h := ifT c21 h
                refine ao_cons (acts_of rfl (does_move (v := .bool x9.2.2) (by exact rfl))) (by decide) ?_
                refine ao_cons (acts_of rfl (does_move (v := .bool x11.2.2) (by exact rfl))) (by decide) ?_
                refine ao_cons (acts_of rfl (does_eq_bool (v := .bool (x9.2.2 == x11.2.2)) (by conv => lhs; whnf) (by conv => lhs; whnf) (ty_bool ty4) rfl)) (by decide) ?_
                refine ao_cons (acts_of rfl (does_pick (v := .bool (x9.2.2 == x11.2.2)) (by conv => lhs; whnf) (by exact rfl))) (by decide) ?_
                refine ao_cons (acts_of rfl (does_assign (v := .bool (x9.2.2 == x11.2.2)) (by exact rfl))) (by decide) ?_
                refine ao_nil_n ?_
                refine hK12 _ ?_
                refine aw_ret ?_
                obtain rfl := Option.some.inj h
                exact ret_ok1 (by conv => lhs; whnf) (by conv => lhs; whnf) (by exact rfl) (.inr rfl) rfl
              · have h := ifF c21 h
                refine ao_cons (acts_skip rfl) (by decide) ?_
                refine ao_cons (acts_skip rfl) (by decide) ?_
                refine ao_cons (acts_skip rfl) (by decide) ?_
                refine ao_cons (acts_of rfl (does_pick (v := .bool false) (by conv => lhs; whnf) (by exact rfl))) (by decide) ?_
                refine ao_cons (acts_of rfl (does_assign (v := .bool false) (by exact rfl))) (by decide) ?_
                refine ao_nil_n ?_
                refine hK12 _ ?_
                refine aw_ret ?_
                obtain rfl := Option.some.inj h
                exact ret_ok1 (by conv => lhs; whnf) (by conv => lhs; whnf) (by exact rfl) (.inr rfl) rfl
            · have h := ifF c20 h
              refine ao_cons (acts_skip rfl) (by decide) ?_
              refine ao_cons (acts_skip rfl) (by decide) ?_
              refine ao_cons (acts_skip rfl) (by decide) ?_
              refine ao_cons (acts_of rfl (does_pick (v := .bool false) (by conv => lhs; whnf) (by exact rfl))) (by decide) ?_
              refine ao_cons (acts_of rfl (does_move (v := .bool false) (by exact rfl))) (by decide) ?_
              refine ao_cons (acts_skip rfl) (by decide) ?_
              refine ao_cons (acts_skip rfl) (by decide) ?_
              refine ao_cons (acts_skip rfl) (by decide) ?_
              refine ao_cons (acts_of rfl (does_pick (v := .bool false) (by conv => lhs; whnf) (by exact rfl))) (by decide) ?_
              refine ao_cons (acts_of rfl (does_assign (v := .bool false) (by exact rfl))) (by decide) ?_
              refine ao_nil_n ?_
              refine hK12 _ ?_
              refine aw_ret ?_
              obtain rfl := Option.some.inj h
              exact ret_ok1 (by conv => lhs; whnf) (by conv => lhs; whnf) (by exact rfl) (.inr rfl) rfl
          · have h := ifF c19 h
            refine ao_cons (acts_skip rfl) (by decide) ?_
            refine ao_cons (acts_skip rfl) (by decide) ?_
            refine ao_cons (acts_skip rfl) (by decide) ?_
            refine ao_cons (acts_of rfl (does_pick (v := .bool false) (by conv => lhs; whnf) (by exact rfl))) (by decide) ?_
            refine ao_cons (acts_of rfl (does_move (v := .bool false) (by exact rfl))) (by decide) ?_
            refine ao_cons (acts_skip rfl) (by decide) ?_
            refine ao_cons (acts_skip rfl) (by decide) ?_
            refine ao_cons (acts_skip rfl) (by decide) ?_
            refine ao_cons (acts_of rfl (does_pick (v := .bool false) (by conv => lhs; whnf) (by exact rfl))) (by decide) ?_
            refine ao_cons (acts_of rfl (does_move (v := .bool false) (by exact rfl))) (by decide) ?_
            refine ao_cons (acts_skip rfl) (by decide) ?_
            refine ao_cons (acts_skip rfl) (by decide) ?_
            refine ao_cons (acts_skip rfl) (by decide) ?_
            refine ao_cons (acts_of rfl (does_pick (v := .bool false) (by conv => lhs; whnf) (by exact rfl))) (by decide) ?_
            refine ao_cons (acts_of rfl (does_assign (v := .bool false) (by exact rfl))) (by decide) ?_
            refine ao_nil_n ?_
            refine hK12 _ ?_
            refine aw_ret ?_
            obtain rfl := Option.some.inj h
            exact ret_ok1 (by conv => lhs; whnf) (by conv => lhs; whnf) (by exact rfl) (.inr rfl) rfl
        · have h := ifF c18 h
          refine ao_cons (acts_skip rfl) (by decide) ?_
          refine ao_cons (acts_skip rfl) (by decide) ?_
          refine ao_cons (acts_skip rfl) (by decide) ?_
          refine ao_cons (acts_of rfl (does_pick (v := .bool false) (by conv => lhs; whnf) (by exact rfl))) (by decide) ?_
          refine ao_cons (acts_of rfl (does_move (v := .bool false) (by exact rfl))) (by decide) ?_
          refine ao_cons (acts_skip rfl) (by decide) ?_
          refine ao_cons (acts_skip rfl) (by decide) ?_
          refine ao_cons (acts_skip rfl) (by decide) ?_
          refine ao_cons (acts_of rfl (does_pick (v := .bool false) (by conv => lhs; whnf) (by exact rfl))) (by decide) ?_
          refine ao_cons (acts_of rfl (does_move (v := .bool false) (by exact rfl))) (by decide) ?_
          refine ao_cons (acts_skip rfl) (by decide) ?_
          refine ao_cons (acts_skip rfl) (by decide) ?_
          refine ao_cons (acts_skip rfl) (by decide) ?_
          refine ao_cons (acts_of rfl (does_pick (v := .bool false) (by conv => lhs; whnf) (by exact rfl))) (by decide) ?_
          refine ao_cons (acts_of rfl (does_move (v := .bool false) (by exact rfl))) (by decide) ?_
          refine ao_cons (acts_skip rfl) (by decide) ?_
          refine ao_cons (acts_skip rfl) (by decide) ?_
          refine ao_cons (acts_skip rfl) (by decide) ?_
          refine ao_cons (acts_of rfl (does_pick (v := .bool false) (by conv => lhs; whnf) (by exact rfl))) (by decide) ?_
          refine ao_cons (acts_of rfl (does_assign (v := .bool false) (by exact rfl))) (by decide) ?_
          refine ao_nil_n ?_
          refine hK12 _ ?_
          refine aw_ret ?_
          obtain rfl := Option.some.inj h
          exact ret_ok1 (by conv => lhs; whnf) (by conv => lhs; whnf) (by exact rfl) (.inr rfl) rfl
      · have h := ifF c17 h
        refine ao_cons (acts_skip rfl) (by decide) ?_
        refine ao_cons (acts_skip rfl) (by decide) ?_
        refine ao_cons (acts_skip rfl) (by decide) ?_
        refine ao_cons (acts_of rfl (does_pick (v := .bool false) (by conv => lhs; whnf) (by exact rfl))) (by decide) ?_
        refine ao_cons (acts_of rfl (does_move (v := .bool false) (by exact rfl))) (by decide) ?_
        refine ao_cons (acts_skip rfl) (by decide) ?_
        refine ao_cons (acts_skip rfl) (by decide) ?_
        refine ao_cons (acts_skip rfl) (by decide) ?_
        refine ao_cons (acts_of rfl (does_pick (v := .bool false) (by conv => lhs; whnf) (by exact rfl))) (by decide) ?_
        refine ao_cons (acts_of rfl (does_move (v := .bool false) (by exact rfl))) (by decide) ?_
        refine ao_cons (acts_skip rfl) (by decide) ?_
        refine ao_cons (acts_skip rfl) (by decide) ?_
        refine ao_cons (acts_skip rfl) (by decide) ?_
        refine ao_cons (acts_of rfl (does_pick (v := .bool false) (by conv => lhs; whnf) (by exact rfl))) (by decide) ?_
        refine ao_cons (acts_of rfl (does_move (v := .bool false) (by exact rfl))) (by decide) ?_
        refine ao_cons (acts_skip rfl) (by decide) ?_
        refine ao_cons (acts_skip rfl) (by decide) ?_
        refine ao_cons (acts_skip rfl) (by decide) ?_
        refine ao_cons (acts_of rfl (does_pick (v := .bool false) (by conv => lhs; whnf) (by exact rfl))) (by decide) ?_
        refine ao_cons (acts_of rfl (does_move (v := .bool false) (by exact rfl))) (by decide) ?_
        refine ao_cons (acts_skip rfl) (by decide) ?_
        refine ao_cons (acts_skip rfl) (by decide) ?_
        refine ao_cons (acts_skip rfl) (by decide) ?_
        refine ao_cons (acts_of rfl (does_pick (v := .bool false) (by conv => lhs; whnf) (by exact rfl))) (by decide) ?_
        refine ao_cons (acts_of rfl (does_assign (v := .bool false) (by exact rfl))) (by decide) ?_
        refine ao_nil_n ?_
        refine hK12 _ ?_
        refine aw_ret ?_
        obtain rfl := Option.some.inj h
        exact ret_ok1 (by conv => lhs; whnf) (by conv => lhs; whnf) (by exact rfl) (.inr rfl) rfl
    · have h := ifF c16 h
      refine ao_cons (acts_skip rfl) (by decide) ?_
      refine ao_cons (acts_skip rfl) (by decide) ?_
      refine ao_cons (acts_skip rfl) (by decide) ?_
      refine ao_cons (acts_of rfl (does_pick (v := .bool false) (by conv => lhs; whnf) (by exact rfl))) (by decide) ?_
      refine ao_cons (acts_of rfl (does_move (v := .bool false) (by exact rfl))) (by decide) ?_
      refine ao_cons (acts_skip rfl) (by decide) ?_
      refine ao_cons (acts_skip rfl) (by decide) ?_
      refine ao_cons (acts_skip rfl) (by decide) ?_
      refine ao_cons (acts_of rfl (does_pick (v := .bool false) (by conv => lhs; whnf) (by exact rfl))) (by decide) ?_
      refine ao_cons (acts_of rfl (does_move (v := .bool false) (by exact rfl))) (by decide) ?_
      refine ao_cons (acts_skip rfl) (by decide) ?_
      refine ao_cons (acts_skip rfl) (by decide) ?_
      refine ao_cons (acts_skip rfl) (by decide) ?_
      refine ao_cons (acts_of rfl (does_pick (v := .bool false) (by conv => lhs; whnf) (by exact rfl))) (by decide) ?_
      refine ao_cons (acts_of rfl (does_move (v := .bool false) (by exact rfl))) (by decide) ?_
      refine ao_cons (acts_skip rfl) (by decide) ?_
      refine ao_cons (acts_skip rfl) (by decide) ?_
      refine ao_cons (acts_skip rfl) (by decide) ?_
      refine ao_cons (acts_of rfl (does_pick (v := .bool false) (by conv => lhs; whnf) (by exact rfl))) (by decide) ?_
      refine ao_cons (acts_of rfl (does_move (v := .bool false) (by exact rfl))) (by decide) ?_
      refine ao_cons (acts_skip rfl) (by decide) ?_
      refine ao_cons (acts_skip rfl) (by decide) ?_
      refine ao_cons (acts_skip rfl) (by decide) ?_
      refine ao_cons (acts_of rfl (does_pick (v := .bool false) (by conv => lhs; whnf) (by exact rfl))) (by decide) ?_
      refine ao_cons (acts_of rfl (does_move (v := .bool false) (by exact rfl))) (by decide) ?_
      refine ao_cons (acts_skip rfl) (by decide) ?_
      refine ao_cons (acts_skip rfl) (by decide) ?_
      refine ao_cons (acts_skip rfl) (by decide) ?_
      refine ao_cons (acts_of rfl (does_pick (v := .bool false) (by conv => lhs; whnf) (by exact rfl))) (by decide) ?_
      refine ao_cons (acts_of rfl (does_assign (v := .bool false) (by exact rfl))) (by decide) ?_
      refine ao_nil_n ?_
      refine hK12 _ ?_
      refine aw_ret ?_
      obtain rfl := Option.some.inj h
      exact ret_ok1 (by conv => lhs; whnf) (by conv => lhs; whnf) (by exact rfl) (.inr rfl) rfl
  · have h := ifF c13 h
    refine ao_cons (acts_skip rfl) (by decide) ?_
    refine ao_cons (acts_skip rfl) (by decide) ?_
    refine ao_cons (acts_skip rfl) (by decide) ?_
    refine ao_cons (acts_skip rfl) (by decide) ?_
    refine ao_cons (acts_skip rfl) (by decide) ?_
    refine ao_cons (acts_skip rfl) (by decide) ?_
    refine ao_cons (acts_skip rfl) (by decide) ?_
    refine ao_cons (acts_of rfl (does_pick (v := .bool false) (by conv => lhs; whnf) (by exact rfl))) (by decide) ?_
    refine ao_cons (acts_of rfl (does_move (v := .bool false) (by exact rfl))) (by decide) ?_
    refine ao_cons (acts_skip rfl) (by decide) ?_
    refine ao_cons (acts_skip rfl) (by decide) ?_
    refine ao_cons (acts_skip rfl) (by decide) ?_
    refine ao_cons (acts_of rfl (does_pick (v := .bool false) (by conv => lhs; whnf) (by exact rfl))) (by decide) ?_
    refine ao_cons (acts_of rfl (does_move (v := .bool false) (by exact rfl))) (by decide) ?_
    refine ao_cons (acts_skip rfl) (by decide) ?_
    refine ao_cons (acts_skip rfl) (by decide) ?_
    refine ao_cons (acts_skip rfl) (by decide) ?_
    refine ao_cons (acts_of rfl (does_pick (v := .bool false) (by conv => lhs; whnf) (by exact rfl))) (by decide) ?_
    refine ao_cons (acts_of rfl (does_move (v := .bool false) (by exact rfl))) (by decide) ?_
    refine ao_cons (acts_skip rfl) (by decide) ?_
    refine ao_cons (acts_skip rfl) (by decide) ?_
    refine ao_cons (acts_skip rfl) (by decide) ?_
    refine ao_cons (acts_of rfl (does_pick (v := .bool false) (by conv => lhs; whnf) (by exact rfl))) (by decide) ?_
    refine ao_cons (acts_of rfl (does_move (v := .bool false) (by exact rfl))) (by decide) ?_
    refine ao_cons (acts_skip rfl) (by decide) ?_
    refine ao_cons (acts_skip rfl) (by decide) ?_
    refine ao_cons (acts_skip rfl) (by decide) ?_
    refine ao_cons (acts_of rfl (does_pick (v := .bool false) (by conv => lhs; whnf) (by exact rfl))) (by decide) ?_
    refine ao_cons (acts_of rfl (does_move (v := .bool false) (by exact rfl))) (by decide) ?_
    refine ao_cons (acts_skip rfl) (by decide) ?_
    refine ao_cons (acts_skip rfl) (by decide) ?_
    refine ao_cons (acts_skip rfl) (by decide) ?_
    refine ao_cons (acts_of rfl (does_pick (v := .bool false) (by conv => lhs; whnf) (by exact rfl))) (by decide) ?_
    refine ao_cons (acts_of rfl (does_move (v := .bool false) (by exact rfl))) (by decide) ?_
    refine ao_cons (acts_skip rfl) (by decide) ?_
    refine ao_cons (acts_skip rfl) (by decide) ?_
    refine ao_cons (acts_skip rfl) (by decide) ?_
    refine ao_cons (acts_of rfl (does_pick (v := .bool false) (by conv => lhs; whnf) (by exact rfl))) (by decide) ?_
    refine ao_cons (acts_of rfl (does_assign (v := .bool false) (by exact rfl))) (by decide) ?_
    refine ao_nil_n ?_
    refine hK12 _ ?_
    refine aw_ret ?_
    obtain rfl := Option.some.inj h
    exact ret_ok1 (by conv => lhs; whnf) (by conv => lhs; whnf) (by exact rfl) (.inr rfl) rfl
def gleaninglaw9_WindowHolds_k1 (a0 : Int) (a1 : Int) (x18 : Int) (x20 : Int × Int × Bool) : Option Bool :=
  if (a0 == 2) = true then (some true) else (Option.bind (window_Up a0 x18) (fun (x40 : Int × Int × Bool) => Option.bind (window_Span x40.1 x40.2.1) (fun (x42 : Int × Int × Bool) => if x40.2.2 = true then (if x42.2.2 = true then (if (x40.1 == (IntKind.i64.wrap (a0 + 1))) = true then (Option.bind (window_Of x40.1 a1) (fun (x47 : Int) => if (x40.2.1 == x47) = true then (if (decide (x42.1 ≤ x20.1)) = true then (some (decide (x20.2.1 ≤ x42.2.1))) else (some false)) else (some false))) else (some false)) else (some false)) else (some false))))
def gleaninglaw9_WindowHolds_k0 (a0 : Int) (a1 : Int) : Option Bool :=
  Option.bind (window_Of a0 a1) (fun (x18 : Int) => Option.bind (window_Span a0 x18) (fun (x20 : Int × Int × Bool) => Option.bind (window_Span a0 (IntKind.i64.wrap (x18 - 1))) (fun (x22 : Int × Int × Bool) => Option.bind (if (!x20.2.2) = true then (some (Sum.inr false)) else (if (decide (a1 < x20.1)) = true then (some (Sum.inr false)) else (if (decide (x20.2.1 ≤ a1)) = true then (some (Sum.inr false)) else (if (decide ((0 : Int) < x18)) = true then (if (x22.2.1 != x20.1) = true then (some (Sum.inr false)) else (some (Sum.inl ()))) else (some (Sum.inl ())))))) (Sum.elim (fun (s : Unit) => gleaninglaw9_WindowHolds_k1 a0 a1 x18 x20) some))))
def gleaninglaw9_WindowHolds (a0 : Int) (a1 : Int) : Option Bool :=
  Option.bind (gleaninglaw9_alive) (fun (x3 : Bool) => Option.bind (if (!x3) = true then (some (Sum.inr x3)) else (if (decide (a0 < 0)) = true then (some (Sum.inr x3)) else (if (decide ((2 : Int) < a0)) = true then (some (Sum.inr x3)) else (if (decide (a1 < 0)) = true then (some (Sum.inr x3)) else (if (decide ((1099511627776 : Int) < a1)) = true then (some (Sum.inr x3)) else (some (Sum.inl ()))))))) (Sum.elim (fun (s : Unit) => gleaninglaw9_WindowHolds_k0 a0 a1) some))
set_option maxRecDepth 100000 in
set_option maxHeartbeats 8000000 in
/-- gleaning/gleaninglaw9.WindowHolds -/
theorem gleaninglaw9_WindowHolds_ok (a0 : Int) (a1 : Int) {r : Bool} (h : gleaninglaw9_WindowHolds a0 a1 = some r) : Ok Try.prog 11 [.int .i64 a0, .int .i64 a1] [] [] (.bool r) [] [] := by
  unfold gleaninglaw9_WindowHolds at h
  refine ok_of_code Try.func11 rfl (by show (2 : Nat) ≤ _; decide) (Nat.le_refl _) fun X => ?_
  refine aw_seq_k (fun K1 hK1 => ?_)
  refine aw_reg ?_
  refine ao_cons (acts_of rfl (does_assign (v := .bool false) (by exact rfl))) (by decide) ?_
  refine ao_nil_n ?_
  refine hK1 _ ?_
  refine aw_seq_k (fun K2 hK2 => ?_)
  refine aw_reg ?_
  obtain ⟨x3, hx3, h⟩ := bnd_some h
  refine ao_cons (acts_of rfl (do_call0 19 false (gleaninglaw9_alive_ok hx3) rfl ent29 rfl rfl)) (by decide) ?_
  refine ao_cons (acts_of rfl (does_assign (v := .bool x3) (by exact rfl))) (by decide) ?_
  refine ao_nil_n ?_
  refine hK2 _ ?_
  obtain ⟨q4, h, hk5⟩ := bnd_some h
  refine aw_cut (fun s => gleaninglaw9_WindowHolds_k0 a0 a1 = some r ∧ s = lit [(0, .int .i64 a0), (1, .int .i64 a1)] [] [] X) ?_ ?_
  · skip
    refine aw_seq_k (fun K6 hK6 => ?_)
    refine aw_reg ?_
    refine ao_cons (acts_of rfl (does_move (v := .bool x3) (by exact rfl))) (by decide) ?_
    refine ao_cons (acts_of rfl (does_un (v := .bool (!x3)) (by conv => lhs; whnf) rfl)) (by decide) ?_
    refine ao_cons (acts_of rfl (does_move (v := .bool (!x3)) (by exact rfl))) (by decide) ?_
    refine ao_bool (c := (!x3)) 22 rfl (fun c7 => ?_) (fun c7 => ?_)
    · have h := ifT c7 h
      refine ao_cons (acts_skip rfl) (by decide) ?_
      refine ao_cons (acts_skip rfl) (by decide) ?_
      refine ao_cons (acts_of rfl (does_pick (v := .bool true) (by conv => lhs; whnf) (by exact rfl))) (by decide) ?_
      refine ao_cons (acts_of rfl (does_move (v := .bool true) (by exact rfl))) (by decide) ?_
      refine ao_cons (acts_skip rfl) (by decide) ?_
      refine ao_cons (acts_skip rfl) (by decide) ?_
      refine ao_cons (acts_of rfl (does_pick (v := .bool true) (by conv => lhs; whnf) (by exact rfl))) (by decide) ?_
      refine ao_cons (acts_of rfl (does_move (v := .bool true) (by exact rfl))) (by decide) ?_
      refine ao_cons (acts_skip rfl) (by decide) ?_
      refine ao_cons (acts_skip rfl) (by decide) ?_
      refine ao_cons (acts_of rfl (does_pick (v := .bool true) (by conv => lhs; whnf) (by exact rfl))) (by decide) ?_
      refine ao_cons (acts_of rfl (does_move (v := .bool true) (by exact rfl))) (by decide) ?_
      refine ao_cons (acts_skip rfl) (by decide) ?_
      refine ao_cons (acts_skip rfl) (by decide) ?_
      refine ao_cons (acts_of rfl (does_pick (v := .bool true) (by conv => lhs; whnf) (by exact rfl))) (by decide) ?_
      refine ao_nil_n ?_
      refine hK6 _ ?_
      refine aw_cond_t (by decide) rfl ?_
      refine aw_seq_k (fun K8 hK8 => ?_)
      refine aw_reg ?_
      refine ao_cons (acts_of rfl (does_move (v := .bool x3) (by exact rfl))) (by decide) ?_
      refine ao_cons (acts_of rfl (does_assign (v := .bool x3) (by exact rfl))) (by decide) ?_
      refine ao_nil_n ?_
      refine hK8 _ ?_
      refine aw_ret ?_
      have h := leafR h hk5
      obtain rfl := Option.some.inj h
      exact ret_ok1 (by conv => lhs; whnf) (by conv => lhs; whnf) (by exact rfl) (.inr rfl) rfl
    · have h := ifF c7 h
      refine ao_cons (acts_of rfl (does_move (v := .int .i64 a0) (by exact rfl))) (by decide) ?_
      refine ao_cons (acts_of rfl (does_bin (v := .bool (decide (a0 < 0))) (by conv => lhs; whnf) (by conv => lhs; whnf) rfl)) (by decide) ?_
      refine ao_cons (acts_of rfl (does_pick (v := .bool (decide (a0 < 0))) (by conv => lhs; whnf) (by exact rfl))) (by decide) ?_
      refine ao_cons (acts_of rfl (does_move (v := .bool (decide (a0 < 0))) (by exact rfl))) (by decide) ?_
      refine ao_bool (c := (decide (a0 < 0))) 26 rfl (fun c9 => ?_) (fun c9 => ?_)
      · have h := ifT c9 h
        refine ao_cons (acts_skip rfl) (by decide) ?_
        refine ao_cons (acts_skip rfl) (by decide) ?_
        refine ao_cons (acts_of rfl (does_pick (v := .bool true) (by conv => lhs; whnf) (by exact rfl))) (by decide) ?_
        refine ao_cons (acts_of rfl (does_move (v := .bool true) (by exact rfl))) (by decide) ?_
        refine ao_cons (acts_skip rfl) (by decide) ?_
        refine ao_cons (acts_skip rfl) (by decide) ?_
        refine ao_cons (acts_of rfl (does_pick (v := .bool true) (by conv => lhs; whnf) (by exact rfl))) (by decide) ?_
        refine ao_cons (acts_of rfl (does_move (v := .bool true) (by exact rfl))) (by decide) ?_
        refine ao_cons (acts_skip rfl) (by decide) ?_
        refine ao_cons (acts_skip rfl) (by decide) ?_
        refine ao_cons (acts_of rfl (does_pick (v := .bool true) (by conv => lhs; whnf) (by exact rfl))) (by decide) ?_
        refine ao_nil_n ?_
        refine hK6 _ ?_
        refine aw_cond_t (by decide) rfl ?_
        refine aw_seq_k (fun K10 hK10 => ?_)
        refine aw_reg ?_
        refine ao_cons (acts_of rfl (does_move (v := .bool x3) (by exact rfl))) (by decide) ?_
        refine ao_cons (acts_of rfl (does_assign (v := .bool x3) (by exact rfl))) (by decide) ?_
        refine ao_nil_n ?_
        refine hK10 _ ?_
        refine aw_ret ?_
        have h := leafR h hk5
        obtain rfl := Option.some.inj h
        exact ret_ok1 (by conv => lhs; whnf) (by conv => lhs; whnf) (by exact rfl) (.inr rfl) rfl
      · have h := ifF c9 h
        refine ao_cons (acts_of rfl (does_move (v := .int .i64 a0) (by exact rfl))) (by decide) ?_
        refine ao_cons (acts_of rfl (does_bin (v := .bool (decide ((2 : Int) < a0))) (by conv => lhs; whnf) (by conv => lhs; whnf) rfl)) (by decide) ?_
        refine ao_cons (acts_of rfl (does_pick (v := .bool (decide ((2 : Int) < a0))) (by conv => lhs; whnf) (by exact rfl))) (by decide) ?_
        refine ao_cons (acts_of rfl (does_move (v := .bool (decide ((2 : Int) < a0))) (by exact rfl))) (by decide) ?_
        refine ao_bool (c := (decide ((2 : Int) < a0))) 30 rfl (fun c11 => ?_) (fun c11 => ?_)
        · have h := ifT c11 h
          refine ao_cons (acts_skip rfl) (by decide) ?_
          refine ao_cons (acts_skip rfl) (by decide) ?_
          refine ao_cons (acts_of rfl (does_pick (v := .bool true) (by conv => lhs; whnf) (by exact rfl))) (by decide) ?_
          refine ao_cons (acts_of rfl (does_move (v := .bool true) (by exact rfl))) (by decide) ?_
          refine ao_cons (acts_skip rfl) (by decide) ?_
          refine ao_cons (acts_skip rfl) (by decide) ?_
          refine ao_cons (acts_of rfl (does_pick (v := .bool true) (by conv => lhs; whnf) (by exact rfl))) (by decide) ?_
          refine ao_nil_n ?_
          refine hK6 _ ?_
          refine aw_cond_t (by decide) rfl ?_
          refine aw_seq_k (fun K12 hK12 => ?_)
          refine aw_reg ?_
          refine ao_cons (acts_of rfl (does_move (v := .bool x3) (by exact rfl))) (by decide) ?_
          refine ao_cons (acts_of rfl (does_assign (v := .bool x3) (by exact rfl))) (by decide) ?_
          refine ao_nil_n ?_
          refine hK12 _ ?_
          refine aw_ret ?_
          have h := leafR h hk5
          obtain rfl := Option.some.inj h
          exact ret_ok1 (by conv => lhs; whnf) (by conv => lhs; whnf) (by exact rfl) (.inr rfl) rfl
        · have h := ifF c11 h
          refine ao_cons (acts_of rfl (does_move (v := .int .i64 a1) (by exact rfl))) (by decide) ?_
          refine ao_cons (acts_of rfl (does_bin (v := .bool (decide (a1 < 0))) (by conv => lhs; whnf) (by conv => lhs; whnf) rfl)) (by decide) ?_
          refine ao_cons (acts_of rfl (does_pick (v := .bool (decide (a1 < 0))) (by conv => lhs; whnf) (by exact rfl))) (by decide) ?_
          refine ao_cons (acts_of rfl (does_move (v := .bool (decide (a1 < 0))) (by exact rfl))) (by decide) ?_
          refine ao_bool (c := (decide (a1 < 0))) 34 rfl (fun c13 => ?_) (fun c13 => ?_)
          · have h := ifT c13 h
            refine ao_cons (acts_skip rfl) (by decide) ?_
            refine ao_cons (acts_skip rfl) (by decide) ?_
            refine ao_cons (acts_of rfl (does_pick (v := .bool true) (by conv => lhs; whnf) (by exact rfl))) (by decide) ?_
            refine ao_nil_n ?_
            refine hK6 _ ?_
            refine aw_cond_t (by decide) rfl ?_
            refine aw_seq_k (fun K14 hK14 => ?_)
            refine aw_reg ?_
            refine ao_cons (acts_of rfl (does_move (v := .bool x3) (by exact rfl))) (by decide) ?_
            refine ao_cons (acts_of rfl (does_assign (v := .bool x3) (by exact rfl))) (by decide) ?_
            refine ao_nil_n ?_
            refine hK14 _ ?_
            refine aw_ret ?_
            have h := leafR h hk5
            obtain rfl := Option.some.inj h
            exact ret_ok1 (by conv => lhs; whnf) (by conv => lhs; whnf) (by exact rfl) (.inr rfl) rfl
          · have h := ifF c13 h
            refine ao_cons (acts_of rfl (does_move (v := .int .i64 a1) (by exact rfl))) (by decide) ?_
            refine ao_cons (acts_of rfl (does_bin (v := .bool (decide ((1099511627776 : Int) < a1))) (by conv => lhs; whnf) (by conv => lhs; whnf) rfl)) (by decide) ?_
            refine ao_cons (acts_of rfl (does_pick (v := .bool (decide ((1099511627776 : Int) < a1))) (by conv => lhs; whnf) (by exact rfl))) (by decide) ?_
            refine ao_nil_n ?_
            refine hK6 _ ?_
            refine aw_bool (b := (decide ((1099511627776 : Int) < a1))) 37 rfl (fun c15 => ?_) (fun c15 => ?_)
            · have h := ifT c15 h
              refine aw_cond_t (by decide) rfl ?_
              refine aw_seq_k (fun K16 hK16 => ?_)
              refine aw_reg ?_
              refine ao_cons (acts_of rfl (does_move (v := .bool x3) (by exact rfl))) (by decide) ?_
              refine ao_cons (acts_of rfl (does_assign (v := .bool x3) (by exact rfl))) (by decide) ?_
              refine ao_nil_n ?_
              refine hK16 _ ?_
              refine aw_ret ?_
              have h := leafR h hk5
              obtain rfl := Option.some.inj h
              exact ret_ok1 (by conv => lhs; whnf) (by conv => lhs; whnf) (by exact rfl) (.inr rfl) rfl
            · have h := ifF c15 h
              refine aw_cond_f (by decide) rfl ?_
              refine aw_skip ?_
              have h := leafL h hk5
              exact ⟨_, reb_lit [(0, .int .i64 a0), (1, .int .i64 a1)] [] [] [] (envOk_cons (by conv => lhs; whnf) (by exact rfl) (envOk_cons (by conv => lhs; whnf) (by exact rfl) envOk_nil)) objOk_nil (nodup_b rfl) (nodup_b rfl) rfl rfl, h, rfl⟩
  · rintro s ⟨h, rfl⟩
    unfold gleaninglaw9_WindowHolds_k0 at h
    refine aw_seq_k (fun K17 hK17 => ?_)
    refine aw_reg ?_
    refine ao_cons (acts_of rfl (does_move (v := .int .i64 a0) (by exact rfl))) (by decide) ?_
    refine ao_cons (acts_of rfl (does_move (v := .int .i64 a1) (by exact rfl))) (by decide) ?_
    obtain ⟨x18, hx18, h⟩ := bnd_some h
    refine ao_cons (acts_of rfl (do_call0 41 false (window_Of_ok a0 a1 hx18) rfl ent34 rfl rfl)) (by decide) ?_
    refine ao_cons (acts_of rfl (does_assign (v := .int .i64 x18) (by exact rfl))) (by decide) ?_
    refine ao_nil_n ?_
    refine hK17 _ ?_
    refine aw_seq_k (fun K19 hK19 => ?_)
    refine aw_reg ?_
    refine ao_cons (acts_of rfl (does_move (v := .int .i64 a0) (by exact rfl))) (by decide) ?_
    refine ao_cons (acts_of rfl (does_move (v := .int .i64 x18) (by exact rfl))) (by decide) ?_
    obtain ⟨x20, hx20, h⟩ := bnd_some h
    refine ao_cons (acts_of rfl (do_call0 45 false (window_Span_ok a0 x18 hx20) rfl ent30 rfl rfl)) (by decide) ?_
    refine ao_cons (acts_of rfl (does_move (v := .tup [.int .i64 x20.1, .int .i64 x20.2.1, .bool x20.2.2]) (by exact rfl))) (by decide) ?_
    refine ao_cons (acts_of rfl (does_extract (v := .int .i64 x20.1) (by conv => lhs; whnf) (by exact rfl))) (by decide) ?_
    refine ao_cons (acts_of rfl (does_extract (v := .int .i64 x20.2.1) (by conv => lhs; whnf) (by exact rfl))) (by decide) ?_
    refine ao_cons (acts_of rfl (does_extract (v := .bool x20.2.2) (by conv => lhs; whnf) (by exact rfl))) (by decide) ?_
    refine ao_cons (acts_of rfl (does_assign (v := .int .i64 x20.1) (by exact rfl))) (by decide) ?_
    refine ao_cons (acts_of rfl (does_assign (v := .int .i64 x20.2.1) (by exact rfl))) (by decide) ?_
    refine ao_cons (acts_of rfl (does_assign (v := .bool x20.2.2) (by exact rfl))) (by decide) ?_
    refine ao_nil_n ?_
    refine hK19 _ ?_
    refine aw_seq_k (fun K21 hK21 => ?_)
    refine aw_reg ?_
    refine ao_cons (acts_of rfl (does_move (v := .int .i64 a0) (by exact rfl))) (by decide) ?_
    refine ao_cons (acts_of rfl (does_move (v := .int .i64 x18) (by exact rfl))) (by decide) ?_
    refine ao_cons (acts_of rfl (does_bin (v := .int .i64 (IntKind.i64.wrap (x18 - 1))) (by conv => lhs; whnf) (by conv => lhs; whnf) rfl)) (by decide) ?_
    obtain ⟨x22, hx22, h⟩ := bnd_some h
    refine ao_cons (acts_of rfl (do_call0 53 false (window_Span_ok a0 (IntKind.i64.wrap (x18 - 1)) hx22) rfl ent30 rfl rfl)) (by decide) ?_
    refine ao_cons (acts_of rfl (does_move (v := .tup [.int .i64 x22.1, .int .i64 x22.2.1, .bool x22.2.2]) (by exact rfl))) (by decide) ?_
    refine ao_cons (acts_of rfl (does_extract (v := .int .i64 x22.1) (by conv => lhs; whnf) (by exact rfl))) (by decide) ?_
    refine ao_cons (acts_of rfl (does_extract (v := .int .i64 x22.2.1) (by conv => lhs; whnf) (by exact rfl))) (by decide) ?_
    refine ao_cons (acts_of rfl (does_extract (v := .bool x22.2.2) (by conv => lhs; whnf) (by exact rfl))) (by decide) ?_
    refine ao_cons (acts_of rfl (does_assign (v := .int .i64 x22.1) (by exact rfl))) (by decide) ?_
    refine ao_cons (acts_of rfl (does_assign (v := .int .i64 x22.2.1) (by exact rfl))) (by decide) ?_
    refine ao_cons (acts_of rfl (does_assign (v := .bool x22.2.2) (by exact rfl))) (by decide) ?_
    refine ao_nil_n ?_
    refine hK21 _ ?_
    obtain ⟨q23, h, hk24⟩ := bnd_some h
    refine aw_cut (fun s => gleaninglaw9_WindowHolds_k1 a0 a1 x18 x20 = some r ∧ s = lit [(0, .int .i64 a0), (1, .int .i64 a1), (6, .int .i64 x18), (7, .int .i64 x20.1), (8, .int .i64 x20.2.1)] [] [] X) ?_ ?_
    · skip
      refine aw_seq_k (fun K25 hK25 => ?_)
      refine aw_reg ?_
      refine ao_cons (acts_of rfl (does_move (v := .bool x20.2.2) (by exact rfl))) (by decide) ?_
      refine ao_cons (acts_of rfl (does_un (v := .bool (!x20.2.2)) (by conv => lhs; whnf) rfl)) (by decide) ?_
      refine ao_cons (acts_of rfl (does_move (v := .bool (!x20.2.2)) (by exact rfl))) (by decide) ?_
      refine ao_bool (c := (!x20.2.2)) 59 rfl (fun c26 => ?_) (fun c26 => ?_)
      · have h := ifT c26 h
        refine ao_cons (acts_skip rfl) (by decide) ?_
        refine ao_cons (acts_skip rfl) (by decide) ?_
        refine ao_cons (acts_skip rfl) (by decide) ?_
        refine ao_cons (acts_of rfl (does_pick (v := .bool true) (by conv => lhs; whnf) (by exact rfl))) (by decide) ?_
        refine ao_cons (acts_of rfl (does_move (v := .bool true) (by exact rfl))) (by decide) ?_
        refine ao_cons (acts_skip rfl) (by decide) ?_
        refine ao_cons (acts_skip rfl) (by decide) ?_
        refine ao_cons (acts_skip rfl) (by decide) ?_
        refine ao_cons (acts_of rfl (does_pick (v := .bool true) (by conv => lhs; whnf) (by exact rfl))) (by decide) ?_
        refine ao_cons (acts_of rfl (does_move (v := .bool true) (by exact rfl))) (by decide) ?_
        refine ao_cons (acts_skip rfl) (by decide) ?_
        refine ao_cons (acts_skip rfl) (by decide) ?_
        refine ao_cons (acts_skip rfl) (by decide) ?_
        refine ao_cons (acts_skip rfl) (by decide) ?_
        refine ao_cons (acts_skip rfl) (by decide) ?_
        refine ao_cons (acts_skip rfl) (by decide) ?_
        refine ao_cons (acts_skip rfl) (by decide) ?_
        refine ao_cons (acts_of rfl (does_pick (v := .bool true) (by conv => lhs; whnf) (by exact rfl))) (by decide) ?_
        refine ao_nil_n ?_
        refine hK25 _ ?_
        refine aw_cond_t (by decide) rfl ?_
        refine aw_seq_k (fun K27 hK27 => ?_)
        refine aw_reg ?_
        refine ao_cons (acts_of rfl (does_assign (v := .bool false) (by exact rfl))) (by decide) ?_
        refine ao_nil_n ?_
        refine hK27 _ ?_
        refine aw_ret ?_
        have h := leafR h hk24
        obtain rfl := Option.some.inj h
        exact ret_ok1 (by conv => lhs; whnf) (by conv => lhs; whnf) (by exact rfl) (.inr rfl) rfl
      · have h := ifF c26 h
        refine ao_cons (acts_of rfl (does_move (v := .int .i64 a1) (by exact rfl))) (by decide) ?_
        refine ao_cons (acts_of rfl (does_move (v := .int .i64 x20.1) (by exact rfl))) (by decide) ?_
        refine ao_cons (acts_of rfl (does_bin (v := .bool (decide (a1 < x20.1))) (by conv => lhs; whnf) (by conv => lhs; whnf) rfl)) (by decide) ?_
        refine ao_cons (acts_of rfl (does_pick (v := .bool (decide (a1 < x20.1))) (by conv => lhs; whnf) (by exact rfl))) (by decide) ?_
        refine ao_cons (acts_of rfl (does_move (v := .bool (decide (a1 < x20.1))) (by exact rfl))) (by decide) ?_
        refine ao_bool (c := (decide (a1 < x20.1))) 64 rfl (fun c28 => ?_) (fun c28 => ?_)
        · have h := ifT c28 h
          refine ao_cons (acts_skip rfl) (by decide) ?_
          refine ao_cons (acts_skip rfl) (by decide) ?_
          refine ao_cons (acts_skip rfl) (by decide) ?_
          refine ao_cons (acts_of rfl (does_pick (v := .bool true) (by conv => lhs; whnf) (by exact rfl))) (by decide) ?_
          refine ao_cons (acts_of rfl (does_move (v := .bool true) (by exact rfl))) (by decide) ?_
          refine ao_cons (acts_skip rfl) (by decide) ?_
          refine ao_cons (acts_skip rfl) (by decide) ?_
          refine ao_cons (acts_skip rfl) (by decide) ?_
          refine ao_cons (acts_skip rfl) (by decide) ?_
          refine ao_cons (acts_skip rfl) (by decide) ?_
          refine ao_cons (acts_skip rfl) (by decide) ?_
          refine ao_cons (acts_skip rfl) (by decide) ?_
          refine ao_cons (acts_of rfl (does_pick (v := .bool true) (by conv => lhs; whnf) (by exact rfl))) (by decide) ?_
          refine ao_nil_n ?_
          refine hK25 _ ?_
          refine aw_cond_t (by decide) rfl ?_
          refine aw_seq_k (fun K29 hK29 => ?_)
          refine aw_reg ?_
          refine ao_cons (acts_of rfl (does_assign (v := .bool false) (by exact rfl))) (by decide) ?_
          refine ao_nil_n ?_
          refine hK29 _ ?_
          refine aw_ret ?_
          have h := leafR h hk24
          obtain rfl := Option.some.inj h
          exact ret_ok1 (by conv => lhs; whnf) (by conv => lhs; whnf) (by exact rfl) (.inr rfl) rfl
        · have h := ifF c28 h
          refine ao_cons (acts_of rfl (does_move (v := .int .i64 a1) (by exact rfl))) (by decide) ?_
          refine ao_cons (acts_of rfl (does_move (v := .int .i64 x20.2.1) (by exact rfl))) (by decide) ?_
          refine ao_cons (acts_of rfl (does_bin (v := .bool (decide (x20.2.1 ≤ a1))) (by conv => lhs; whnf) (by conv => lhs; whnf) rfl)) (by decide) ?_
          refine ao_cons (acts_of rfl (does_pick (v := .bool (decide (x20.2.1 ≤ a1))) (by conv => lhs; whnf) (by exact rfl))) (by decide) ?_
          refine ao_cons (acts_of rfl (does_move (v := .bool (decide (x20.2.1 ≤ a1))) (by exact rfl))) (by decide) ?_
          refine ao_bool (c := (decide (x20.2.1 ≤ a1))) 69 rfl (fun c30 => ?_) (fun c30 => ?_)
          · have h := ifT c30 h
            refine ao_cons (acts_skip rfl) (by decide) ?_
            refine ao_cons (acts_skip rfl) (by decide) ?_
            refine ao_cons (acts_skip rfl) (by decide) ?_
            refine ao_cons (acts_skip rfl) (by decide) ?_
            refine ao_cons (acts_skip rfl) (by decide) ?_
            refine ao_cons (acts_skip rfl) (by decide) ?_
            refine ao_cons (acts_skip rfl) (by decide) ?_
            refine ao_cons (acts_of rfl (does_pick (v := .bool true) (by conv => lhs; whnf) (by exact rfl))) (by decide) ?_
            refine ao_nil_n ?_
            refine hK25 _ ?_
            refine aw_cond_t (by decide) rfl ?_
            refine aw_seq_k (fun K31 hK31 => ?_)
            refine aw_reg ?_
            refine ao_cons (acts_of rfl (does_assign (v := .bool false) (by exact rfl))) (by decide) ?_
            refine ao_nil_n ?_
            refine hK31 _ ?_
            refine aw_ret ?_
            have h := leafR h hk24
            obtain rfl := Option.some.inj h
            exact ret_ok1 (by conv => lhs; whnf) (by conv => lhs; whnf) (by exact rfl) (.inr rfl) rfl
          · have h := ifF c30 h
            refine ao_cons (acts_of rfl (does_move (v := .int .i64 x18) (by exact rfl))) (by decide) ?_
            refine ao_cons (acts_of rfl (does_bin (v := .bool (decide ((0 : Int) < x18))) (by conv => lhs; whnf) (by conv => lhs; whnf) rfl)) (by decide) ?_
            refine ao_cons (acts_of rfl (does_move (v := .bool (decide ((0 : Int) < x18))) (by exact rfl))) (by decide) ?_
            refine ao_bool (c := (decide ((0 : Int) < x18))) 72 rfl (fun c32 => ?_) (fun c32 => ?_)
            · have h := ifT c32 h
              refine ao_cons (acts_of rfl (does_move (v := .int .i64 x22.2.1) (by exact rfl))) (by decide) ?_
              refine ao_cons (acts_of rfl (does_move (v := .int .i64 x20.1) (by exact rfl))) (by decide) ?_
              refine ao_cons (acts_of rfl (does_bin (v := .bool (x22.2.1 != x20.1)) (by conv => lhs; whnf) (by conv => lhs; whnf) rfl)) (by decide) ?_
              refine ao_cons (acts_of rfl (does_pick (v := .bool (x22.2.1 != x20.1)) (by conv => lhs; whnf) (by exact rfl))) (by decide) ?_
              refine ao_cons (acts_of rfl (does_pick (v := .bool (x22.2.1 != x20.1)) (by conv => lhs; whnf) (by exact rfl))) (by decide) ?_
              refine ao_nil_n ?_
              refine hK25 _ ?_
              refine aw_bool (b := (x22.2.1 != x20.1)) 77 rfl (fun c33 => ?_) (fun c33 => ?_)
              · have h := ifT c33 h
                refine aw_cond_t (by decide) rfl ?_
                refine aw_seq_k (fun K34 hK34 => ?_)
                refine aw_reg ?_
                refine ao_cons (acts_of rfl (does_assign (v := .bool false) (by exact rfl))) (by decide) ?_
                refine ao_nil_n ?_
                refine hK34 _ ?_
                refine aw_ret ?_
                have h := leafR h hk24
                obtain rfl := Option.some.inj h
                exact ret_ok1 (by conv => lhs; whnf) (by conv => lhs; whnf) (by exact rfl) (.inr rfl) rfl
              · have h := ifF c33 h
                refine aw_cond_f (by decide) rfl ?_
                refine aw_skip ?_
                have h := leafL h hk24
                exact ⟨_, reb_lit [(0, .int .i64 a0), (1, .int .i64 a1), (6, .int .i64 x18), (7, .int .i64 x20.1), (8, .int .i64 x20.2.1)] [] [] [] (envOk_cons (by conv => lhs; whnf) (by exact rfl) (envOk_cons (by conv => lhs; whnf) (by exact rfl) (envOk_cons (by conv => lhs; whnf) (by exact rfl) (envOk_cons (by conv => lhs; whnf) (by exact rfl) (envOk_cons (by conv => lhs; whnf) (by exact rfl) envOk_nil))))) objOk_nil (nodup_b rfl) (nodup_b rfl) rfl rfl, h, rfl⟩
            · have h := ifF c32 h
              refine ao_cons (acts_skip rfl) (by decide) ?_
              refine ao_cons (acts_skip rfl) (by decide) ?_
              refine ao_cons (acts_skip rfl) (by decide) ?_
              refine ao_cons (acts_of rfl (does_pick (v := .bool false) (by conv => lhs; whnf) (by exact rfl))) (by decide) ?_
              refine ao_cons (acts_of rfl (does_pick (v := .bool false) (by conv => lhs; whnf) (by exact rfl))) (by decide) ?_
              refine ao_nil_n ?_
              refine hK25 _ ?_
              refine aw_cond_f (by decide) rfl ?_
              refine aw_skip ?_
              have h := leafL h hk24
              exact ⟨_, reb_lit [(0, .int .i64 a0), (1, .int .i64 a1), (6, .int .i64 x18), (7, .int .i64 x20.1), (8, .int .i64 x20.2.1)] [] [] [] (envOk_cons (by conv => lhs; whnf) (by exact rfl) (envOk_cons (by conv => lhs; whnf) (by exact rfl) (envOk_cons (by conv => lhs; whnf) (by exact rfl) (envOk_cons (by conv => lhs; whnf) (by exact rfl) (envOk_cons (by conv => lhs; whnf) (by exact rfl) envOk_nil))))) objOk_nil (nodup_b rfl) (nodup_b rfl) rfl rfl, h, rfl⟩
    · rintro s ⟨h, rfl⟩
      unfold gleaninglaw9_WindowHolds_k1 at h
      refine aw_seq_k (fun K35 hK35 => ?_)
      refine aw_seq_k (fun K36 hK36 => ?_)
      refine aw_reg ?_
      refine ao_cons (acts_of rfl (does_move (v := .int .i64 a0) (by exact rfl))) (by decide) ?_
      refine ao_cons (acts_of rfl (does_bin (v := .bool (a0 == 2)) (by conv => lhs; whnf) (by conv => lhs; whnf) rfl)) (by decide) ?_
      refine ao_nil_n ?_
      refine hK36 _ ?_
      refine aw_bool (b := (a0 == 2)) 79 rfl (fun c37 => ?_) (fun c37 => ?_)
      · have h := ifT c37 h
        refine aw_cond_t (by decide) rfl ?_
        refine aw_seq_k (fun K38 hK38 => ?_)
        refine aw_reg ?_
        refine ao_cons (acts_of rfl (does_assign (v := .bool true) (by exact rfl))) (by decide) ?_
        refine ao_nil_n ?_
        refine hK38 _ ?_
        refine aw_ret ?_
        obtain rfl := Option.some.inj h
        exact ret_ok1 (by conv => lhs; whnf) (by conv => lhs; whnf) (by exact rfl) (.inr rfl) rfl
      · have h := ifF c37 h
        refine aw_cond_f (by decide) rfl ?_
        refine aw_skip ?_
        refine hK35 _ ?_
        refine aw_seq_k (fun K39 hK39 => ?_)
        refine aw_reg ?_
        refine ao_cons (acts_of rfl (does_move (v := .int .i64 a0) (by exact rfl))) (by decide) ?_
        refine ao_cons (acts_of rfl (does_move (v := .int .i64 x18) (by exact rfl))) (by decide) ?_
        obtain ⟨x40, hx40, h⟩ := bnd_some h
        refine ao_cons (acts_of rfl (do_call0 83 false (window_Up_ok a0 x18 hx40) rfl ent32 rfl rfl)) (by decide) ?_
        refine ao_cons (acts_of rfl (does_move (v := .tup [.int .i64 x40.1, .int .i64 x40.2.1, .bool x40.2.2]) (by exact rfl))) (by decide) ?_
        refine ao_cons (acts_of rfl (does_extract (v := .int .i64 x40.1) (by conv => lhs; whnf) (by exact rfl))) (by decide) ?_
        refine ao_cons (acts_of rfl (does_extract (v := .int .i64 x40.2.1) (by conv => lhs; whnf) (by exact rfl))) (by decide) ?_
        refine ao_cons (acts_of rfl (does_extract (v := .bool x40.2.2) (by conv => lhs; whnf) (by exact rfl))) (by decide) ?_
        refine ao_cons (acts_of rfl (does_assign (v := .int .i64 x40.1) (by exact rfl))) (by decide) ?_
        refine ao_cons (acts_of rfl (does_assign (v := .int .i64 x40.2.1) (by exact rfl))) (by decide) ?_
        refine ao_cons (acts_of rfl (does_assign (v := .bool x40.2.2) (by exact rfl))) (by decide) ?_
        refine ao_nil_n ?_
        refine hK39 _ ?_
        refine aw_seq_k (fun K41 hK41 => ?_)
        refine aw_reg ?_
        refine ao_cons (acts_of rfl (does_move (v := .int .i64 x40.1) (by exact rfl))) (by decide) ?_
        refine ao_cons (acts_of rfl (does_move (v := .int .i64 x40.2.1) (by exact rfl))) (by decide) ?_
        obtain ⟨x42, hx42, h⟩ := bnd_some h
        refine ao_cons (acts_of rfl (do_call0 90 false (window_Span_ok x40.1 x40.2.1 hx42) rfl ent30 rfl rfl)) (by decide) ?_
        refine ao_cons (acts_of rfl (does_move (v := .tup [.int .i64 x42.1, .int .i64 x42.2.1, .bool x42.2.2]) (by exact rfl))) (by decide) ?_
        refine ao_cons (acts_of rfl (does_extract (v := .int .i64 x42.1) (by conv => lhs; whnf) (by exact rfl))) (by decide) ?_
        refine ao_cons (acts_of rfl (does_extract (v := .int .i64 x42.2.1) (by conv => lhs; whnf) (by exact rfl))) (by decide) ?_
        refine ao_cons (acts_of rfl (does_extract (v := .bool x42.2.2) (by conv => lhs; whnf) (by exact rfl))) (by decide) ?_
        refine ao_cons (acts_of rfl (does_assign (v := .int .i64 x42.1) (by exact rfl))) (by decide) ?_
        refine ao_cons (acts_of rfl (does_assign (v := .int .i64 x42.2.1) (by exact rfl))) (by decide) ?_
        refine ao_cons (acts_of rfl (does_assign (v := .bool x42.2.2) (by exact rfl))) (by decide) ?_
        refine ao_nil_n ?_
        refine hK41 _ ?_
        refine aw_seq_k (fun K43 hK43 => ?_)
        refine aw_reg ?_
        refine ao_cons (acts_of rfl (does_move (v := .bool x40.2.2) (by exact rfl))) (by decide) ?_
        refine ao_cons (acts_of rfl (does_move (v := .bool x40.2.2) (by exact rfl))) (by decide) ?_
        refine ao_bool (c := x40.2.2) 95 rfl (fun c44 => ?_) (fun c44 => ?_)
        · have h := ifT c44 h
          refine ao_cons (acts_of rfl (does_move (v := .bool x42.2.2) (by exact rfl))) (by decide) ?_
          refine ao_cons (acts_of rfl (does_pick (v := .bool x42.2.2) (by conv => lhs; whnf) (by exact rfl))) (by decide) ?_
          refine ao_cons (acts_of rfl (does_move (v := .bool x42.2.2) (by exact rfl))) (by decide) ?_
          refine ao_bool (c := x42.2.2) 98 rfl (fun c45 => ?_) (fun c45 => ?_)
          · have h := ifT c45 h
            refine ao_cons (acts_of rfl (does_move (v := .int .i64 x40.1) (by exact rfl))) (by decide) ?_
            refine ao_cons (acts_of rfl (does_move (v := .int .i64 a0) (by exact rfl))) (by decide) ?_
            refine ao_cons (acts_of rfl (does_bin (v := .int .i64 (IntKind.i64.wrap (a0 + 1))) (by conv => lhs; whnf) (by conv => lhs; whnf) rfl)) (by decide) ?_
            refine ao_cons (acts_of rfl (does_bin (v := .bool (x40.1 == (IntKind.i64.wrap (a0 + 1)))) (by conv => lhs; whnf) (by conv => lhs; whnf) rfl)) (by decide) ?_
            refine ao_cons (acts_of rfl (does_pick (v := .bool (x40.1 == (IntKind.i64.wrap (a0 + 1)))) (by conv => lhs; whnf) (by exact rfl))) (by decide) ?_
            refine ao_cons (acts_of rfl (does_move (v := .bool (x40.1 == (IntKind.i64.wrap (a0 + 1)))) (by exact rfl))) (by decide) ?_
            refine ao_bool (c := (x40.1 == (IntKind.i64.wrap (a0 + 1)))) 104 rfl (fun c46 => ?_) (fun c46 => ?_)
            · have h := ifT c46 h
              refine ao_cons (acts_of rfl (does_move (v := .int .i64 x40.2.1) (by exact rfl))) (by decide) ?_
              refine ao_cons (acts_of rfl (does_move (v := .int .i64 x40.1) (by exact rfl))) (by decide) ?_
              refine ao_cons (acts_of rfl (does_move (v := .int .i64 a1) (by exact rfl))) (by decide) ?_
              obtain ⟨x47, hx47, h⟩ := bnd_some h
              refine ao_cons (acts_of rfl (do_call0 108 false (window_Of_ok x40.1 a1 hx47) rfl ent34 rfl rfl)) (by decide) ?_
              refine ao_cons (acts_of rfl (does_bin (v := .bool (x40.2.1 == x47)) (by conv => lhs; whnf) (by conv => lhs; whnf) rfl)) (by decide) ?_
              refine ao_cons (acts_of rfl (does_pick (v := .bool (x40.2.1 == x47)) (by conv => lhs; whnf) (by exact rfl))) (by decide) ?_
              refine ao_cons (acts_of rfl (does_move (v := .bool (x40.2.1 == x47)) (by exact rfl))) (by decide) ?_
              refine ao_bool (c := (x40.2.1 == x47)) 111 rfl (fun c48 => ?_) (fun c48 => ?_)
              · have h := ifT c48 h
                refine ao_cons (acts_of rfl (does_move (v := .int .i64 x42.1) (by exact rfl))) (by decide) ?_
                refine ao_cons (acts_of rfl (does_move (v := .int .i64 x20.1) (by exact rfl))) (by decide) ?_
                refine ao_cons (acts_of rfl (does_bin (v := .bool (decide (x42.1 ≤ x20.1))) (by conv => lhs; whnf) (by conv => lhs; whnf) rfl)) (by decide) ?_
                refine ao_cons (acts_of rfl (does_pick (v := .bool (decide (x42.1 ≤ x20.1))) (by conv => lhs; whnf) (by exact rfl))) (by decide) ?_
                refine ao_cons (acts_of rfl (does_move (v := .bool (decide (x42.1 ≤ x20.1))) (by exact rfl))) (by decide) ?_
                refine ao_bool (c := (decide (x42.1 ≤ x20.1))) 116 rfl (fun c49 => ?_) (fun c49 => ?_)
                · have h := ifT c49 h
                  refine ao_cons (acts_of rfl (does_move (v := .int .i64 x20.2.1) (by exact rfl))) (by decide) ?_
                  refine ao_cons (acts_of rfl (does_move (v := .int .i64 x42.2.1) (by exact rfl))) (by decide) ?_
                  refine ao_cons (acts_of rfl (does_bin (v := .bool (decide (x20.2.1 ≤ x42.2.1))) (by conv => lhs; whnf) (by conv => lhs; whnf) rfl)) (by decide) ?_
                  refine ao_cons (acts_of rfl (does_pick (v := .bool (decide (x20.2.1 ≤ x42.2.1))) (by conv => lhs; whnf) (by exact rfl))) (by decide) ?_
                  refine ao_cons (acts_of rfl (does_assign (v := .bool (decide (x20.2.1 ≤ x42.2.1))) (by exact rfl))) (by decide) ?_
                  refine ao_nil_n ?_
                  refine hK43 _ ?_
                  refine aw_ret ?_
                  obtain rfl := Option.some.inj h
                  exact ret_ok1 (by conv => lhs; whnf) (by conv => lhs; whnf) (by exact rfl) (.inr rfl) rfl
                · have h := ifF c49 h
                  refine ao_cons (acts_skip rfl) (by decide) ?_
                  refine ao_cons (acts_skip rfl) (by decide) ?_
                  refine ao_cons (acts_skip rfl) (by decide) ?_
                  refine ao_cons (acts_of rfl (does_pick (v := .bool false) (by conv => lhs; whnf) (by exact rfl))) (by decide) ?_
                  refine ao_cons (acts_of rfl (does_assign (v := .bool false) (by exact rfl))) (by decide) ?_
                  refine ao_nil_n ?_
                  refine hK43 _ ?_
                  refine aw_ret ?_
                  obtain rfl := Option.some.inj h
                  exact ret_ok1 (by conv => lhs; whnf) (by conv => lhs; whnf) (by exact rfl) (.inr rfl) rfl
              · have h := ifF c48 h
                refine ao_cons (acts_skip rfl) (by decide) ?_
                refine ao_cons (acts_skip rfl) (by decide) ?_
                refine ao_cons (acts_skip rfl) (by decide) ?_
                refine ao_cons (acts_of rfl (does_pick (v := .bool false) (by conv => lhs; whnf) (by exact rfl))) (by decide) ?_
                refine ao_cons (acts_of rfl (does_move (v := .bool false) (by exact rfl))) (by decide) ?_
                refine ao_cons (acts_skip rfl) (by decide) ?_
                refine ao_cons (acts_skip rfl) (by decide) ?_
                refine ao_cons (acts_skip rfl) (by decide) ?_
                refine ao_cons (acts_of rfl (does_pick (v := .bool false) (by conv => lhs; whnf) (by exact rfl))) (by decide) ?_
                refine ao_cons (acts_of rfl (does_assign (v := .bool false) (by exact rfl))) (by decide) ?_
                refine ao_nil_n ?_
                refine hK43 _ ?_
                refine aw_ret ?_
                obtain rfl := Option.some.inj h
                exact ret_ok1 (by conv => lhs; whnf) (by conv => lhs; whnf) (by exact rfl) (.inr rfl) rfl
            · have h := ifF c46 h
              refine ao_cons (acts_skip rfl) (by decide) ?_
              refine ao_cons (acts_skip rfl) (by decide) ?_
              refine ao_cons (acts_skip rfl) (by decide) ?_
              refine ao_cons (acts_skip rfl) (by decide) ?_
              refine ao_cons (acts_skip rfl) (by decide) ?_
              refine ao_cons (acts_of rfl (does_pick (v := .bool false) (by conv => lhs; whnf) (by exact rfl))) (by decide) ?_
              refine ao_cons (acts_of rfl (does_move (v := .bool false) (by exact rfl))) (by decide) ?_
              refine ao_cons (acts_skip rfl) (by decide) ?_
              refine ao_cons (acts_skip rfl) (by decide) ?_
              refine ao_cons (acts_skip rfl) (by decide) ?_
              refine ao_cons (acts_of rfl (does_pick (v := .bool false) (by conv => lhs; whnf) (by exact rfl))) (by decide) ?_
              refine ao_cons (acts_of rfl (does_move (v := .bool false) (by exact rfl))) (by decide) ?_
              refine ao_cons (acts_skip rfl) (by decide) ?_
              refine ao_cons (acts_skip rfl) (by decide) ?_
              refine ao_cons (acts_skip rfl) (by decide) ?_
              refine ao_cons (acts_of rfl (does_pick (v := .bool false) (by conv => lhs; whnf) (by exact rfl))) (by decide) ?_
              refine ao_cons (acts_of rfl (does_assign (v := .bool false) (by exact rfl))) (by decide) ?_
              refine ao_nil_n ?_
              refine hK43 _ ?_
              refine aw_ret ?_
              obtain rfl := Option.some.inj h
              exact ret_ok1 (by conv => lhs; whnf) (by conv => lhs; whnf) (by exact rfl) (.inr rfl) rfl
          · have h := ifF c45 h
            refine ao_cons (acts_skip rfl) (by decide) ?_
            refine ao_cons (acts_skip rfl) (by decide) ?_
            refine ao_cons (acts_skip rfl) (by decide) ?_
            refine ao_cons (acts_skip rfl) (by decide) ?_
            refine ao_cons (acts_of rfl (does_pick (v := .bool false) (by conv => lhs; whnf) (by exact rfl))) (by decide) ?_
            refine ao_cons (acts_of rfl (does_move (v := .bool false) (by exact rfl))) (by decide) ?_
            refine ao_cons (acts_skip rfl) (by decide) ?_
            refine ao_cons (acts_skip rfl) (by decide) ?_
            refine ao_cons (acts_skip rfl) (by decide) ?_
            refine ao_cons (acts_skip rfl) (by decide) ?_
            refine ao_cons (acts_skip rfl) (by decide) ?_
            refine ao_cons (acts_of rfl (does_pick (v := .bool false) (by conv => lhs; whnf) (by exact rfl))) (by decide) ?_
            refine ao_cons (acts_of rfl (does_move (v := .bool false) (by exact rfl))) (by decide) ?_
            refine ao_cons (acts_skip rfl) (by decide) ?_
            refine ao_cons (acts_skip rfl) (by decide) ?_
            refine ao_cons (acts_skip rfl) (by decide) ?_
            refine ao_cons (acts_of rfl (does_pick (v := .bool false) (by conv => lhs; whnf) (by exact rfl))) (by decide) ?_
            refine ao_cons (acts_of rfl (does_move (v := .bool false) (by exact rfl))) (by decide) ?_
            refine ao_cons (acts_skip rfl) (by decide) ?_
            refine ao_cons (acts_skip rfl) (by decide) ?_
            refine ao_cons (acts_skip rfl) (by decide) ?_
            refine ao_cons (acts_of rfl (does_pick (v := .bool false) (by conv => lhs; whnf) (by exact rfl))) (by decide) ?_
            refine ao_cons (acts_of rfl (does_assign (v := .bool false) (by exact rfl))) (by decide) ?_
            refine ao_nil_n ?_
            refine hK43 _ ?_
            refine aw_ret ?_
            obtain rfl := Option.some.inj h
            exact ret_ok1 (by conv => lhs; whnf) (by conv => lhs; whnf) (by exact rfl) (.inr rfl) rfl
        · have h := ifF c44 h
          refine ao_cons (acts_skip rfl) (by decide) ?_
          refine ao_cons (acts_of rfl (does_pick (v := .bool false) (by conv => lhs; whnf) (by exact rfl))) (by decide) ?_
          refine ao_cons (acts_of rfl (does_move (v := .bool false) (by exact rfl))) (by decide) ?_
          refine ao_cons (acts_skip rfl) (by decide) ?_
          refine ao_cons (acts_skip rfl) (by decide) ?_
          refine ao_cons (acts_skip rfl) (by decide) ?_
          refine ao_cons (acts_skip rfl) (by decide) ?_
          refine ao_cons (acts_of rfl (does_pick (v := .bool false) (by conv => lhs; whnf) (by exact rfl))) (by decide) ?_
          refine ao_cons (acts_of rfl (does_move (v := .bool false) (by exact rfl))) (by decide) ?_
          refine ao_cons (acts_skip rfl) (by decide) ?_
          refine ao_cons (acts_skip rfl) (by decide) ?_
          refine ao_cons (acts_skip rfl) (by decide) ?_
          refine ao_cons (acts_skip rfl) (by decide) ?_
          refine ao_cons (acts_skip rfl) (by decide) ?_
          refine ao_cons (acts_of rfl (does_pick (v := .bool false) (by conv => lhs; whnf) (by exact rfl))) (by decide) ?_
          refine ao_cons (acts_of rfl (does_move (v := .bool false) (by exact rfl))) (by decide) ?_
          refine ao_cons (acts_skip rfl) (by decide) ?_
          refine ao_cons (acts_skip rfl) (by decide) ?_
          refine ao_cons (acts_skip rfl) (by decide) ?_
          refine ao_cons (acts_of rfl (does_pick (v := .bool false) (by conv => lhs; whnf) (by exact rfl))) (by decide) ?_
          refine ao_cons (acts_of rfl (does_move (v := .bool false) (by exact rfl))) (by decide) ?_
          refine ao_cons (acts_skip rfl) (by decide) ?_
          refine ao_cons (acts_skip rfl) (by decide) ?_
          refine ao_cons (acts_skip rfl) (by decide) ?_
          refine ao_cons (acts_of rfl (does_pick (v := .bool false) (by conv => lhs; whnf) (by exact rfl))) (by decide) ?_
          refine ao_cons (acts_of rfl (does_assign (v := .bool false) (by exact rfl))) (by decide) ?_
          refine ao_nil_n ?_
          refine hK43 _ ?_
          refine aw_ret ?_
          obtain rfl := Option.some.inj h
          exact ret_ok1 (by conv => lhs; whnf) (by conv => lhs; whnf) (by exact rfl) (.inr rfl) rfl
def gleaninglaw9_WindowNest_k1 (a0 : Int) (a1 : Int) (x18 : Int × Int × Bool) (x20 : Int × Int × Bool) (x22 : Int × Int × Bool) : Option Bool :=
  Option.bind (window_Up a0 (IntKind.i64.wrap (a1 + 1))) (fun (x48 : Int × Int × Bool) => if (x48.1 == x18.1) = true then (if (x48.2.1 == x18.2.1) = true then (some true) else (if (x48.2.1 == (IntKind.i64.wrap (x18.2.1 + 1))) = true then (some (x20.2.1 == x22.2.1)) else (some false))) else (some false))
def gleaninglaw9_WindowNest_k0 (a0 : Int) (a1 : Int) : Option Bool :=
  Option.bind (window_Up a0 a1) (fun (x18 : Int × Int × Bool) => Option.bind (window_Span a0 a1) (fun (x20 : Int × Int × Bool) => Option.bind (window_Span x18.1 x18.2.1) (fun (x22 : Int × Int × Bool) => gd (0 ≤ a0) (Option.bind ([60, 24][(Int.toNat a0)]?) (fun (x25 : Int) => Option.bind (if (!x18.2.2) = true then (some (Sum.inr false)) else (if (!x22.2.2) = true then (some (Sum.inr false)) else (if (x18.1 != (IntKind.i64.wrap (a0 + 1))) = true then (some (Sum.inr false)) else (if (decide (x20.1 < x22.1)) = true then (some (Sum.inr false)) else (if (decide (x22.2.1 < x20.2.1)) = true then (some (Sum.inr false)) else (Option.bind (window_Of x18.1 x20.1) (fun (x39 : Int) => if (x39 != x18.2.1) = true then (some (Sum.inr false)) else (Option.bind (window_Of x18.1 (IntKind.i64.wrap (x20.2.1 - 1))) (fun (x42 : Int) => if (x42 != x18.2.1) = true then (some (Sum.inr false)) else (if ((IntKind.i64.wrap (x22.2.1 - x22.1)) != (IntKind.i64.wrap (x25 * (IntKind.i64.wrap (x20.2.1 - x20.1))))) = true then (some (Sum.inr false)) else (some (Sum.inl ())))))))))))) (Sum.elim (fun (s : Unit) => gleaninglaw9_WindowNest_k1 a0 a1 x18 x20 x22) some))))))
def gleaninglaw9_WindowNest (a0 : Int) (a1 : Int) : Option Bool :=
  Option.bind (gleaninglaw9_alive) (fun (x3 : Bool) => Option.bind (if (!x3) = true then (some (Sum.inr x3)) else (if (decide (a0 < 0)) = true then (some (Sum.inr x3)) else (if (decide ((1 : Int) < a0)) = true then (some (Sum.inr x3)) else (if (decide (a1 < 0)) = true then (some (Sum.inr x3)) else (if (decide ((16777216 : Int) < a1)) = true then (some (Sum.inr x3)) else (some (Sum.inl ()))))))) (Sum.elim (fun (s : Unit) => gleaninglaw9_WindowNest_k0 a0 a1) some))
set_option maxRecDepth 100000 in
set_option maxHeartbeats 8000000 in
/-- gleaning/gleaninglaw9.WindowNest -/
theorem gleaninglaw9_WindowNest_ok (a0 : Int) (a1 : Int) {r : Bool} (h : gleaninglaw9_WindowNest a0 a1 = some r) : Ok Try.prog 12 [.int .i64 a0, .int .i64 a1] [] [] (.bool r) [] [] := by
  unfold gleaninglaw9_WindowNest at h
  refine ok_of_code Try.func12 rfl (by show (2 : Nat) ≤ _; decide) (Nat.le_refl _) fun X => ?_
  refine aw_seq_k (fun K1 hK1 => ?_)
  refine aw_reg ?_
  refine ao_cons (acts_of rfl (does_assign (v := .bool false) (by exact rfl))) (by decide) ?_
  refine ao_nil_n ?_
  refine hK1 _ ?_
  refine aw_seq_k (fun K2 hK2 => ?_)
  refine aw_reg ?_
  obtain ⟨x3, hx3, h⟩ := bnd_some h
  refine ao_cons (acts_of rfl (do_call0 19 false (gleaninglaw9_alive_ok hx3) rfl ent29 rfl rfl)) (by decide) ?_
  refine ao_cons (acts_of rfl (does_assign (v := .bool x3) (by exact rfl))) (by decide) ?_
  refine ao_nil_n ?_
  refine hK2 _ ?_
  obtain ⟨q4, h, hk5⟩ := bnd_some h
  refine aw_cut (fun s => gleaninglaw9_WindowNest_k0 a0 a1 = some r ∧ s = lit [(0, .int .i64 a0), (1, .int .i64 a1)] [] [] X) ?_ ?_
  · skip
    refine aw_seq_k (fun K6 hK6 => ?_)
    refine aw_reg ?_
    refine ao_cons (acts_of rfl (does_move (v := .bool x3) (by exact rfl))) (by decide) ?_
    refine ao_cons (acts_of rfl (does_un (v := .bool (!x3)) (by conv => lhs; whnf) rfl)) (by decide) ?_
    refine ao_cons (acts_of rfl (does_move (v := .bool (!x3)) (by exact rfl))) (by decide) ?_
    refine ao_bool (c := (!x3)) 22 rfl (fun c7 => ?_) (fun c7 => ?_)
    · have h := ifT c7 h
      refine ao_cons (acts_skip rfl) (by decide) ?_
      refine ao_cons (acts_skip rfl) (by decide) ?_
      refine ao_cons (acts_of rfl (does_pick (v := .bool true) (by conv => lhs; whnf) (by exact rfl))) (by decide) ?_
      refine ao_cons (acts_of rfl (does_move (v := .bool true) (by exact rfl))) (by decide) ?_
      refine ao_cons (acts_skip rfl) (by decide) ?_
      refine ao_cons (acts_skip rfl) (by decide) ?_
      refine ao_cons (acts_of rfl (does_pick (v := .bool true) (by conv => lhs; whnf) (by exact rfl))) (by decide) ?_
      refine ao_cons (acts_of rfl (does_move (v := .bool true) (by exact rfl))) (by decide) ?_
      refine ao_cons (acts_skip rfl) (by decide) ?_
      refine ao_cons (acts_skip rfl) (by decide) ?_
      refine ao_cons (acts_of rfl (does_pick (v := .bool true) (by conv => lhs; whnf) (by exact rfl))) (by decide) ?_
      refine ao_cons (acts_of rfl (does_move (v := .bool true) (by exact rfl))) (by decide) ?_
      refine ao_cons (acts_skip rfl) (by decide) ?_
      refine ao_cons (acts_skip rfl) (by decide) ?_
      refine ao_cons (acts_of rfl (does_pick (v := .bool true) (by conv => lhs; whnf) (by exact rfl))) (by decide) ?_
      refine ao_nil_n ?_
      refine hK6 _ ?_
      refine aw_cond_t (by decide) rfl ?_
      refine aw_seq_k (fun K8 hK8 => ?_)
      refine aw_reg ?_
      refine ao_cons (acts_of rfl (does_move (v := .bool x3) (by exact rfl))) (by decide) ?_
      refine ao_cons (acts_of rfl (does_assign (v := .bool x3) (by exact rfl))) (by decide) ?_
      refine ao_nil_n ?_
      refine hK8 _ ?_
      refine aw_ret ?_
      have h := leafR h hk5
      obtain rfl := Option.some.inj h
      exact ret_ok1 (by conv => lhs; whnf) (by conv => lhs; whnf) (by exact rfl) (.inr rfl) rfl
    · have h := ifF c7 h
      refine ao_cons (acts_of rfl (does_move (v := .int .i64 a0) (by exact rfl))) (by decide) ?_
      refine ao_cons (acts_of rfl (does_bin (v := .bool (decide (a0 < 0))) (by conv => lhs; whnf) (by conv => lhs; whnf) rfl)) (by decide) ?_
      refine ao_cons (acts_of rfl (does_pick (v := .bool (decide (a0 < 0))) (by conv => lhs; whnf) (by exact rfl))) (by decide) ?_
      refine ao_cons (acts_of rfl (does_move (v := .bool (decide (a0 < 0))) (by exact rfl))) (by decide) ?_
      refine ao_bool (c := (decide (a0 < 0))) 26 rfl (fun c9 => ?_) (fun c9 => ?_)
      · have h := ifT c9 h
        refine ao_cons (acts_skip rfl) (by decide) ?_
        refine ao_cons (acts_skip rfl) (by decide) ?_
        refine ao_cons (acts_of rfl (does_pick (v := .bool true) (by conv => lhs; whnf) (by exact rfl))) (by decide) ?_
        refine ao_cons (acts_of rfl (does_move (v := .bool true) (by exact rfl))) (by decide) ?_
        refine ao_cons (acts_skip rfl) (by decide) ?_
        refine ao_cons (acts_skip rfl) (by decide) ?_
        refine ao_cons (acts_of rfl (does_pick (v := .bool true) (by conv => lhs; whnf) (by exact rfl))) (by decide) ?_
        refine ao_cons (acts_of rfl (does_move (v := .bool true) (by exact rfl))) (by decide) ?_
        refine ao_cons (acts_skip rfl) (by decide) ?_
        refine ao_cons (acts_skip rfl) (by decide) ?_
        refine ao_cons (acts_of rfl (does_pick (v := .bool true) (by conv => lhs; whnf) (by exact rfl))) (by decide) ?_
        refine ao_nil_n ?_
        refine hK6 _ ?_
        refine aw_cond_t (by decide) rfl ?_
        refine aw_seq_k (fun K10 hK10 => ?_)
        refine aw_reg ?_
        refine ao_cons (acts_of rfl (does_move (v := .bool x3) (by exact rfl))) (by decide) ?_
        refine ao_cons (acts_of rfl (does_assign (v := .bool x3) (by exact rfl))) (by decide) ?_
        refine ao_nil_n ?_
        refine hK10 _ ?_
        refine aw_ret ?_
        have h := leafR h hk5
        obtain rfl := Option.some.inj h
        exact ret_ok1 (by conv => lhs; whnf) (by conv => lhs; whnf) (by exact rfl) (.inr rfl) rfl
      · have h := ifF c9 h
        refine ao_cons (acts_of rfl (does_move (v := .int .i64 a0) (by exact rfl))) (by decide) ?_
        refine ao_cons (acts_of rfl (does_bin (v := .bool (decide ((1 : Int) < a0))) (by conv => lhs; whnf) (by conv => lhs; whnf) rfl)) (by decide) ?_
        refine ao_cons (acts_of rfl (does_pick (v := .bool (decide ((1 : Int) < a0))) (by conv => lhs; whnf) (by exact rfl))) (by decide) ?_
        refine ao_cons (acts_of rfl (does_move (v := .bool (decide ((1 : Int) < a0))) (by exact rfl))) (by decide) ?_
        refine ao_bool (c := (decide ((1 : Int) < a0))) 30 rfl (fun c11 => ?_) (fun c11 => ?_)
        · have h := ifT c11 h
          refine ao_cons (acts_skip rfl) (by decide) ?_
          refine ao_cons (acts_skip rfl) (by decide) ?_
          refine ao_cons (acts_of rfl (does_pick (v := .bool true) (by conv => lhs; whnf) (by exact rfl))) (by decide) ?_
          refine ao_cons (acts_of rfl (does_move (v := .bool true) (by exact rfl))) (by decide) ?_
          refine ao_cons (acts_skip rfl) (by decide) ?_
          refine ao_cons (acts_skip rfl) (by decide) ?_
          refine ao_cons (acts_of rfl (does_pick (v := .bool true) (by conv => lhs; whnf) (by exact rfl))) (by decide) ?_
          refine ao_nil_n ?_
          refine hK6 _ ?_
          refine aw_cond_t (by decide) rfl ?_
          refine aw_seq_k (fun K12 hK12 => ?_)
          refine aw_reg ?_
          refine ao_cons (acts_of rfl (does_move (v := .bool x3) (by exact rfl))) (by decide) ?_
          refine ao_cons (acts_of rfl (does_assign (v := .bool x3) (by exact rfl))) (by decide) ?_
          refine ao_nil_n ?_
          refine hK12 _ ?_
          refine aw_ret ?_
          have h := leafR h hk5
          obtain rfl := Option.some.inj h
          exact ret_ok1 (by conv => lhs; whnf) (by conv => lhs; whnf) (by exact rfl) (.inr rfl) rfl
        · have h := ifF c11 h
          refine ao_cons (acts_of rfl (does_move (v := .int .i64 a1) (by exact rfl))) (by decide) ?_
          refine ao_cons (acts_of rfl (does_bin (v := .bool (decide (a1 < 0))) (by conv => lhs; whnf) (by conv => lhs; whnf) rfl)) (by decide) ?_
          refine ao_cons (acts_of rfl (does_pick (v := .bool (decide (a1 < 0))) (by conv => lhs; whnf) (by exact rfl))) (by decide) ?_
          refine ao_cons (acts_of rfl (does_move (v := .bool (decide (a1 < 0))) (by exact rfl))) (by decide) ?_
          refine ao_bool (c := (decide (a1 < 0))) 34 rfl (fun c13 => ?_) (fun c13 => ?_)
          · have h := ifT c13 h
            refine ao_cons (acts_skip rfl) (by decide) ?_
            refine ao_cons (acts_skip rfl) (by decide) ?_
            refine ao_cons (acts_of rfl (does_pick (v := .bool true) (by conv => lhs; whnf) (by exact rfl))) (by decide) ?_
            refine ao_nil_n ?_
            refine hK6 _ ?_
            refine aw_cond_t (by decide) rfl ?_
            refine aw_seq_k (fun K14 hK14 => ?_)
            refine aw_reg ?_
            refine ao_cons (acts_of rfl (does_move (v := .bool x3) (by exact rfl))) (by decide) ?_
            refine ao_cons (acts_of rfl (does_assign (v := .bool x3) (by exact rfl))) (by decide) ?_
            refine ao_nil_n ?_
            refine hK14 _ ?_
            refine aw_ret ?_
            have h := leafR h hk5
            obtain rfl := Option.some.inj h
            exact ret_ok1 (by conv => lhs; whnf) (by conv => lhs; whnf) (by exact rfl) (.inr rfl) rfl
          · have h := ifF c13 h
            refine ao_cons (acts_of rfl (does_move (v := .int .i64 a1) (by exact rfl))) (by decide) ?_
            refine ao_cons (acts_of rfl (does_bin (v := .bool (decide ((16777216 : Int) < a1))) (by conv => lhs; whnf) (by conv => lhs; whnf) rfl)) (by decide) ?_
            refine ao_cons (acts_of rfl (does_pick (v := .bool (decide ((16777216 : Int) < a1))) (by conv => lhs; whnf) (by exact rfl))) (by decide) ?_
            refine ao_nil_n ?_
            refine hK6 _ ?_
            refine aw_bool (b := (decide ((16777216 : Int) < a1))) 37 rfl (fun c15 => ?_) (fun c15 => ?_)
            · have h := ifT c15 h
              refine aw_cond_t (by decide) rfl ?_
              refine aw_seq_k (fun K16 hK16 => ?_)
              refine aw_reg ?_
              refine ao_cons (acts_of rfl (does_move (v := .bool x3) (by exact rfl))) (by decide) ?_
              refine ao_cons (acts_of rfl (does_assign (v := .bool x3) (by exact rfl))) (by decide) ?_
              refine ao_nil_n ?_
              refine hK16 _ ?_
              refine aw_ret ?_
              have h := leafR h hk5
              obtain rfl := Option.some.inj h
              exact ret_ok1 (by conv => lhs; whnf) (by conv => lhs; whnf) (by exact rfl) (.inr rfl) rfl
            · have h := ifF c15 h
              refine aw_cond_f (by decide) rfl ?_
              refine aw_skip ?_
              have h := leafL h hk5
              exact ⟨_, reb_lit [(0, .int .i64 a0), (1, .int .i64 a1)] [] [] [] (envOk_cons (by conv => lhs; whnf) (by exact rfl) (envOk_cons (by conv => lhs; whnf) (by exact rfl) envOk_nil)) objOk_nil (nodup_b rfl) (nodup_b rfl) rfl rfl, h, rfl⟩
  · rintro s ⟨h, rfl⟩
    unfold gleaninglaw9_WindowNest_k0 at h
    refine aw_seq_k (fun K17 hK17 => ?_)
    refine aw_reg ?_
    refine ao_cons (acts_of rfl (does_move (v := .int .i64 a0) (by exact rfl))) (by decide) ?_
    refine ao_cons (acts_of rfl (does_move (v := .int .i64 a1) (by exact rfl))) (by decide) ?_
    obtain ⟨x18, hx18, h⟩ := bnd_some h
    refine ao_cons (acts_of rfl (do_call0 42 false (window_Up_ok a0 a1 hx18) rfl ent32 rfl rfl)) (by decide) ?_
    refine ao_cons (acts_of rfl (does_move (v := .tup [.int .i64 x18.1, .int .i64 x18.2.1, .bool x18.2.2]) (by exact rfl))) (by decide) ?_
    refine ao_cons (acts_of rfl (does_extract (v := .int .i64 x18.1) (by conv => lhs; whnf) (by exact rfl))) (by decide) ?_
    refine ao_cons (acts_of rfl (does_extract (v := .int .i64 x18.2.1) (by conv => lhs; whnf) (by exact rfl))) (by decide) ?_
    refine ao_cons (acts_of rfl (does_extract (v := .bool x18.2.2) (by conv => lhs; whnf) (by exact rfl))) (by decide) ?_
    refine ao_cons (acts_of rfl (does_assign (v := .int .i64 x18.1) (by exact rfl))) (by decide) ?_
    refine ao_cons (acts_of rfl (does_assign (v := .int .i64 x18.2.1) (by exact rfl))) (by decide) ?_
    refine ao_cons (acts_of rfl (does_assign (v := .bool x18.2.2) (by exact rfl))) (by decide) ?_
    refine ao_nil_n ?_
    refine hK17 _ ?_
    refine aw_seq_k (fun K19 hK19 => ?_)
    refine aw_reg ?_
    refine ao_cons (acts_of rfl (does_move (v := .int .i64 a0) (by exact rfl))) (by decide) ?_
    refine ao_cons (acts_of rfl (does_move (v := .int .i64 a1) (by exact rfl))) (by decide) ?_
    obtain ⟨x20, hx20, h⟩ := bnd_some h
    refine ao_cons (acts_of rfl (do_call0 49 false (window_Span_ok a0 a1 hx20) rfl ent30 rfl rfl)) (by decide) ?_
    refine ao_cons (acts_of rfl (does_move (v := .tup [.int .i64 x20.1, .int .i64 x20.2.1, .bool x20.2.2]) (by exact rfl))) (by decide) ?_
    refine ao_cons (acts_of rfl (does_extract (v := .int .i64 x20.1) (by conv => lhs; whnf) (by exact rfl))) (by decide) ?_
    refine ao_cons (acts_of rfl (does_extract (v := .int .i64 x20.2.1) (by conv => lhs; whnf) (by exact rfl))) (by decide) ?_
    refine ao_cons (acts_of rfl (does_extract (v := .bool x20.2.2) (by conv => lhs; whnf) (by exact rfl))) (by decide) ?_
    refine ao_cons (acts_of rfl (does_assign (v := .int .i64 x20.1) (by exact rfl))) (by decide) ?_
    refine ao_cons (acts_of rfl (does_assign (v := .int .i64 x20.2.1) (by exact rfl))) (by decide) ?_
    refine ao_cons (acts_of rfl (does_assign (v := .bool x20.2.2) (by exact rfl))) (by decide) ?_
    refine ao_nil_n ?_
    refine hK19 _ ?_
    refine aw_seq_k (fun K21 hK21 => ?_)
    refine aw_reg ?_
    refine ao_cons (acts_of rfl (does_move (v := .int .i64 x18.1) (by exact rfl))) (by decide) ?_
    refine ao_cons (acts_of rfl (does_move (v := .int .i64 x18.2.1) (by exact rfl))) (by decide) ?_
    obtain ⟨x22, hx22, h⟩ := bnd_some h
    refine ao_cons (acts_of rfl (do_call0 56 false (window_Span_ok x18.1 x18.2.1 hx22) rfl ent30 rfl rfl)) (by decide) ?_
    refine ao_cons (acts_of rfl (does_move (v := .tup [.int .i64 x22.1, .int .i64 x22.2.1, .bool x22.2.2]) (by exact rfl))) (by decide) ?_
    refine ao_cons (acts_of rfl (does_extract (v := .int .i64 x22.1) (by conv => lhs; whnf) (by exact rfl))) (by decide) ?_
    refine ao_cons (acts_of rfl (does_extract (v := .int .i64 x22.2.1) (by conv => lhs; whnf) (by exact rfl))) (by decide) ?_
    refine ao_cons (acts_of rfl (does_extract (v := .bool x22.2.2) (by conv => lhs; whnf) (by exact rfl))) (by decide) ?_
    refine ao_cons (acts_of rfl (does_assign (v := .int .i64 x22.1) (by exact rfl))) (by decide) ?_
    refine ao_cons (acts_of rfl (does_assign (v := .int .i64 x22.2.1) (by exact rfl))) (by decide) ?_
    refine ao_cons (acts_of rfl (does_assign (v := .bool x22.2.2) (by exact rfl))) (by decide) ?_
    refine ao_nil_n ?_
    refine hK21 _ ?_
    refine aw_seq_k (fun K23 hK23 => ?_)
    refine aw_reg ?_
    refine ao_cons (acts_of rfl (do_buildSlice (xs := List.map enc2 [60, 24]) ty43 ty3 rfl rfl rfl rfl rfl rfl rfl rfl)) (by decide) ?_
    refine ao_cons (acts_of rfl (does_move (v := .int .i64 a0) (by exact rfl))) (by decide) ?_
    obtain ⟨g24, h⟩ := gd_some h
    obtain ⟨x25, hx25, h⟩ := bnd_some h
    refine ao_cons (acts_of rfl (does_indexAddr_own (by conv => lhs; whnf) (by conv => lhs; whnf) (by conv => lhs; whnf) ty43 ty3 g24 (by exact own_lt hx25))) (by decide) ?_
    refine ao_cons (acts_of rfl (does_load (v := .int .i64 x25) (by conv => lhs; whnf) (cellsAt_eptr (by conv => lhs; whnf) (by exact map_get hx25)) ty3 (by exact rfl))) (by decide) ?_
    refine ao_cons (acts_of rfl (does_assign (v := .int .i64 x25) (by exact rfl))) (by decide) ?_
    refine ao_nil_n ?_
    refine hK23 _ ?_
    obtain ⟨q26, h, hk27⟩ := bnd_some h
    refine aw_cut (fun s => gleaninglaw9_WindowNest_k1 a0 a1 x18 x20 x22 = some r ∧ s = lit [(0, .int .i64 a0), (1, .int .i64 a1), (6, .int .i64 x18.1), (7, .int .i64 x18.2.1), (10, .int .i64 x20.2.1), (13, .int .i64 x22.2.1)] [] [] X) ?_ ?_
    · skip
      refine aw_seq_k (fun K28 hK28 => ?_)
      refine aw_reg ?_
      refine ao_cons (acts_of rfl (does_move (v := .bool x18.2.2) (by exact rfl))) (by decide) ?_
      refine ao_cons (acts_of rfl (does_un (v := .bool (!x18.2.2)) (by conv => lhs; whnf) rfl)) (by decide) ?_
      refine ao_cons (acts_of rfl (does_move (v := .bool (!x18.2.2)) (by exact rfl))) (by decide) ?_
      refine ao_bool (c := (!x18.2.2)) 66 rfl (fun c29 => ?_) (fun c29 => ?_)
      · have h := ifT c29 h
        refine ao_cons (acts_skip rfl) (by decide) ?_
        refine ao_cons (acts_skip rfl) (by decide) ?_
        refine ao_cons (acts_of rfl (does_pick (v := .bool true) (by conv => lhs; whnf) (by exact rfl))) (by decide) ?_
        refine ao_cons (acts_of rfl (does_move (v := .bool true) (by exact rfl))) (by decide) ?_
        refine ao_cons (acts_skip rfl) (by decide) ?_
        refine ao_cons (acts_skip rfl) (by decide) ?_
        refine ao_cons (acts_skip rfl) (by decide) ?_
        refine ao_cons (acts_skip rfl) (by decide) ?_
        refine ao_cons (acts_of rfl (does_pick (v := .bool true) (by conv => lhs; whnf) (by exact rfl))) (by decide) ?_
        refine ao_cons (acts_of rfl (does_move (v := .bool true) (by exact rfl))) (by decide) ?_
        refine ao_cons (acts_skip rfl) (by decide) ?_
        refine ao_cons (acts_skip rfl) (by decide) ?_
        refine ao_cons (acts_skip rfl) (by decide) ?_
        refine ao_cons (acts_of rfl (does_pick (v := .bool true) (by conv => lhs; whnf) (by exact rfl))) (by decide) ?_
        refine ao_cons (acts_of rfl (does_move (v := .bool true) (by exact rfl))) (by decide) ?_
        refine ao_cons (acts_skip rfl) (by decide) ?_
        refine ao_cons (acts_skip rfl) (by decide) ?_
        refine ao_cons (acts_skip rfl) (by decide) ?_
        refine ao_cons (acts_of rfl (does_pick (v := .bool true) (by conv => lhs; whnf) (by exact rfl))) (by decide) ?_
        refine ao_cons (acts_of rfl (does_move (v := .bool true) (by exact rfl))) (by decide) ?_
        refine ao_cons (acts_skip rfl) (by decide) ?_
        refine ao_cons (acts_skip rfl) (by decide) ?_
        refine ao_cons (acts_skip rfl) (by decide) ?_
        refine ao_cons (acts_skip rfl) (by decide) ?_
        refine ao_cons (acts_skip rfl) (by decide) ?_
        refine ao_cons (acts_of rfl (does_pick (v := .bool true) (by conv => lhs; whnf) (by exact rfl))) (by decide) ?_
        refine ao_cons (acts_of rfl (does_move (v := .bool true) (by exact rfl))) (by decide) ?_
        refine ao_cons (acts_skip rfl) (by decide) ?_
        refine ao_cons (acts_skip rfl) (by decide) ?_
        refine ao_cons (acts_skip rfl) (by decide) ?_
        refine ao_cons (acts_skip rfl) (by decide) ?_
        refine ao_cons (acts_skip rfl) (by decide) ?_
        refine ao_cons (acts_skip rfl) (by decide) ?_
        refine ao_cons (acts_of rfl (does_pick (v := .bool true) (by conv => lhs; whnf) (by exact rfl))) (by decide) ?_
        refine ao_cons (acts_of rfl (does_move (v := .bool true) (by exact rfl))) (by decide) ?_
        refine ao_cons (acts_skip rfl) (by decide) ?_
        refine ao_cons (acts_skip rfl) (by decide) ?_
        refine ao_cons (acts_skip rfl) (by decide) ?_
        refine ao_cons (acts_skip rfl) (by decide) ?_
        refine ao_cons (acts_skip rfl) (by decide) ?_
        refine ao_cons (acts_skip rfl) (by decide) ?_
        refine ao_cons (acts_skip rfl) (by decide) ?_
        refine ao_cons (acts_skip rfl) (by decide) ?_
        refine ao_cons (acts_skip rfl) (by decide) ?_
        refine ao_cons (acts_of rfl (does_pick (v := .bool true) (by conv => lhs; whnf) (by exact rfl))) (by decide) ?_
        refine ao_nil_n ?_
        refine hK28 _ ?_
        refine aw_cond_t (by decide) rfl ?_
        refine aw_seq_k (fun K30 hK30 => ?_)
        refine aw_reg ?_
        refine ao_cons (acts_of rfl (does_assign (v := .bool false) (by exact rfl))) (by decide) ?_
        refine ao_nil_n ?_
        refine hK30 _ ?_
        refine aw_ret ?_
        have h := leafR h hk27
        obtain rfl := Option.some.inj h
        exact ret_ok1 (by conv => lhs; whnf) (by conv => lhs; whnf) (by exact rfl) (.inr rfl) rfl
      · have h := ifF c29 h
        refine ao_cons (acts_of rfl (does_move (v := .bool x22.2.2) (by exact rfl))) (by decide) ?_
        refine ao_cons (acts_of rfl (does_un (v := .bool (!x22.2.2)) (by conv => lhs; whnf) rfl)) (by decide) ?_
        refine ao_cons (acts_of rfl (does_pick (v := .bool (!x22.2.2)) (by conv => lhs; whnf) (by exact rfl))) (by decide) ?_
        refine ao_cons (acts_of rfl (does_move (v := .bool (!x22.2.2)) (by exact rfl))) (by decide) ?_
        refine ao_bool (c := (!x22.2.2)) 70 rfl (fun c31 => ?_) (fun c31 => ?_)
        · have h := ifT c31 h
          refine ao_cons (acts_skip rfl) (by decide) ?_
          refine ao_cons (acts_skip rfl) (by decide) ?_
          refine ao_cons (acts_skip rfl) (by decide) ?_
          refine ao_cons (acts_skip rfl) (by decide) ?_
          refine ao_cons (acts_of rfl (does_pick (v := .bool true) (by conv => lhs; whnf) (by exact rfl))) (by decide) ?_
          refine ao_cons (acts_of rfl (does_move (v := .bool true) (by exact rfl))) (by decide) ?_
          refine ao_cons (acts_skip rfl) (by decide) ?_
          refine ao_cons (acts_skip rfl) (by decide) ?_
          refine ao_cons (acts_skip rfl) (by decide) ?_
          refine ao_cons (acts_of rfl (does_pick (v := .bool true) (by conv => lhs; whnf) (by exact rfl))) (by decide) ?_
          refine ao_cons (acts_of rfl (does_move (v := .bool true) (by exact rfl))) (by decide) ?_
          refine ao_cons (acts_skip rfl) (by decide) ?_
          refine ao_cons (acts_skip rfl) (by decide) ?_
          refine ao_cons (acts_skip rfl) (by decide) ?_
          refine ao_cons (acts_of rfl (does_pick (v := .bool true) (by conv => lhs; whnf) (by exact rfl))) (by decide) ?_
          refine ao_cons (acts_of rfl (does_move (v := .bool true) (by exact rfl))) (by decide) ?_
          refine ao_cons (acts_skip rfl) (by decide) ?_
          refine ao_cons (acts_skip rfl) (by decide) ?_
          refine ao_cons (acts_skip rfl) (by decide) ?_
          refine ao_cons (acts_skip rfl) (by decide) ?_
          refine ao_cons (acts_skip rfl) (by decide) ?_
          refine ao_cons (acts_of rfl (does_pick (v := .bool true) (by conv => lhs; whnf) (by exact rfl))) (by decide) ?_
          refine ao_cons (acts_of rfl (does_move (v := .bool true) (by exact rfl))) (by decide) ?_
          refine ao_cons (acts_skip rfl) (by decide) ?_
          refine ao_cons (acts_skip rfl) (by decide) ?_
          refine ao_cons (acts_skip rfl) (by decide) ?_
          refine ao_cons (acts_skip rfl) (by decide) ?_
          refine ao_cons (acts_skip rfl) (by decide) ?_
          refine ao_cons (acts_skip rfl) (by decide) ?_
          refine ao_cons (acts_of rfl (does_pick (v := .bool true) (by conv => lhs; whnf) (by exact rfl))) (by decide) ?_
          refine ao_cons (acts_of rfl (does_move (v := .bool true) (by exact rfl))) (by decide) ?_
          refine ao_cons (acts_skip rfl) (by decide) ?_
          refine ao_cons (acts_skip rfl) (by decide) ?_
          refine ao_cons (acts_skip rfl) (by decide) ?_
          refine ao_cons (acts_skip rfl) (by decide) ?_
          refine ao_cons (acts_skip rfl) (by decide) ?_
          refine ao_cons (acts_skip rfl) (by decide) ?_
          refine ao_cons (acts_skip rfl) (by decide) ?_
          refine ao_cons (acts_skip rfl) (by decide) ?_
          refine ao_cons (acts_skip rfl) (by decide) ?_
          refine ao_cons (acts_of rfl (does_pick (v := .bool true) (by conv => lhs; whnf) (by exact rfl))) (by decide) ?_
          refine ao_nil_n ?_
          refine hK28 _ ?_
          refine aw_cond_t (by decide) rfl ?_
          refine aw_seq_k (fun K32 hK32 => ?_)
          refine aw_reg ?_
          refine ao_cons (acts_of rfl (does_assign (v := .bool false) (by exact rfl))) (by decide) ?_
          refine ao_nil_n ?_
          refine hK32 _ ?_
          refine aw_ret ?_
          have h := leafR h hk27
          obtain rfl := Option.some.inj h
          exact ret_ok1 (by conv => lhs; whnf) (by conv => lhs; whnf) (by exact rfl) (.inr rfl) rfl
        · have h := ifF c31 h
          refine ao_cons (acts_of rfl (does_move (v := .int .i64 x18.1) (by exact rfl))) (by decide) ?_
          refine ao_cons (acts_of rfl (does_move (v := .int .i64 a0) (by exact rfl))) (by decide) ?_
          refine ao_cons (acts_of rfl (does_bin (v := .int .i64 (IntKind.i64.wrap (a0 + 1))) (by conv => lhs; whnf) (by conv => lhs; whnf) rfl)) (by decide) ?_
          refine ao_cons (acts_of rfl (does_bin (v := .bool (x18.1 != (IntKind.i64.wrap (a0 + 1)))) (by conv => lhs; whnf) (by conv => lhs; whnf) rfl)) (by decide) ?_
          refine ao_cons (acts_of rfl (does_pick (v := .bool (x18.1 != (IntKind.i64.wrap (a0 + 1)))) (by conv => lhs; whnf) (by exact rfl))) (by decide) ?_
          refine ao_cons (acts_of rfl (does_move (v := .bool (x18.1 != (IntKind.i64.wrap (a0 + 1)))) (by exact rfl))) (by decide) ?_
          refine ao_bool (c := (x18.1 != (IntKind.i64.wrap (a0 + 1)))) 76 rfl (fun c33 => ?_) (fun c33 => ?_)
          · have h := ifT c33 h
            refine ao_cons (acts_skip rfl) (by decide) ?_
            refine ao_cons (acts_skip rfl) (by decide) ?_
            refine ao_cons (acts_skip rfl) (by decide) ?_
            refine ao_cons (acts_of rfl (does_pick (v := .bool true) (by conv => lhs; whnf) (by exact rfl))) (by decide) ?_
            refine ao_cons (acts_of rfl (does_move (v := .bool true) (by exact rfl))) (by decide) ?_
            refine ao_cons (acts_skip rfl) (by decide) ?_
            refine ao_cons (acts_skip rfl) (by decide) ?_
            refine ao_cons (acts_skip rfl) (by decide) ?_
            refine ao_cons (acts_of rfl (does_pick (v := .bool true) (by conv => lhs; whnf) (by exact rfl))) (by decide) ?_
            refine ao_cons (acts_of rfl (does_move (v := .bool true) (by exact rfl))) (by decide) ?_
            refine ao_cons (acts_skip rfl) (by decide) ?_
            refine ao_cons (acts_skip rfl) (by decide) ?_
            refine ao_cons (acts_skip rfl) (by decide) ?_
            refine ao_cons (acts_skip rfl) (by decide) ?_
            refine ao_cons (acts_skip rfl) (by decide) ?_
            refine ao_cons (acts_of rfl (does_pick (v := .bool true) (by conv => lhs; whnf) (by exact rfl))) (by decide) ?_
            refine ao_cons (acts_of rfl (does_move (v := .bool true) (by exact rfl))) (by decide) ?_
            refine ao_cons (acts_skip rfl) (by decide) ?_
            refine ao_cons (acts_skip rfl) (by decide) ?_
            refine ao_cons (acts_skip rfl) (by decide) ?_
            refine ao_cons (acts_skip rfl) (by decide) ?_
            refine ao_cons (acts_skip rfl) (by decide) ?_
            refine ao_cons (acts_skip rfl) (by decide) ?_
            refine ao_cons (acts_of rfl (does_pick (v := .bool true) (by conv => lhs; whnf) (by exact rfl))) (by decide) ?_
            refine ao_cons (acts_of rfl (does_move (v := .bool true) (by exact rfl))) (by decide) ?_
            refine ao_cons (acts_skip rfl) (by decide) ?_
            refine ao_cons (acts_skip rfl) (by decide) ?_
            refine ao_cons (acts_skip rfl) (by decide) ?_
            refine ao_cons (acts_skip rfl) (by decide) ?_
            refine ao_cons (acts_skip rfl) (by decide) ?_
            refine ao_cons (acts_skip rfl) (by decide) ?_
            refine ao_cons (acts_skip rfl) (by decide) ?_
            refine ao_cons (acts_skip rfl) (by decide) ?_
            refine ao_cons (acts_skip rfl) (by decide) ?_
            refine ao_cons (acts_of rfl (does_pick (v := .bool true) (by conv => lhs; whnf) (by exact rfl))) (by decide) ?_
            refine ao_nil_n ?_
            refine hK28 _ ?_
            refine aw_cond_t (by decide) rfl ?_
            refine aw_seq_k (fun K34 hK34 => ?_)
            refine aw_reg ?_
            refine ao_cons (acts_of rfl (does_assign (v := .bool false) (by exact rfl))) (by decide) ?_
            refine ao_nil_n ?_
            refine hK34 _ ?_
            refine aw_ret ?_
            have h := leafR h hk27
            obtain rfl := Option.some.inj h
            exact ret_ok1 (by conv => lhs; whnf) (by conv => lhs; whnf) (by exact rfl) (.inr rfl) rfl
          · have h := ifF c33 h
            refine ao_cons (acts_of rfl (does_move (v := .int .i64 x22.1) (by exact rfl))) (by decide) ?_
            refine ao_cons (acts_of rfl (does_move (v := .int .i64 x20.1) (by exact rfl))) (by decide) ?_
            refine ao_cons (acts_of rfl (does_bin (v := .bool (decide (x20.1 < x22.1))) (by conv => lhs; whnf) (by conv => lhs; whnf) rfl)) (by decide) ?_
            refine ao_cons (acts_of rfl (does_pick (v := .bool (decide (x20.1 < x22.1))) (by conv => lhs; whnf) (by exact rfl))) (by decide) ?_
            refine ao_cons (acts_of rfl (does_move (v := .bool (decide (x20.1 < x22.1))) (by exact rfl))) (by decide) ?_
            refine ao_bool (c := (decide (x20.1 < x22.1))) 81 rfl (fun c35 => ?_) (fun c35 => ?_)
            · have h := ifT c35 h
              refine ao_cons (acts_skip rfl) (by decide) ?_
              refine ao_cons (acts_skip rfl) (by decide) ?_
              refine ao_cons (acts_skip rfl) (by decide) ?_
              refine ao_cons (acts_of rfl (does_pick (v := .bool true) (by conv => lhs; whnf) (by exact rfl))) (by decide) ?_
              refine ao_cons (acts_of rfl (does_move (v := .bool true) (by exact rfl))) (by decide) ?_
              refine ao_cons (acts_skip rfl) (by decide) ?_
              refine ao_cons (acts_skip rfl) (by decide) ?_
              refine ao_cons (acts_skip rfl) (by decide) ?_
              refine ao_cons (acts_skip rfl) (by decide) ?_
              refine ao_cons (acts_skip rfl) (by decide) ?_
              refine ao_cons (acts_of rfl (does_pick (v := .bool true) (by conv => lhs; whnf) (by exact rfl))) (by decide) ?_
              refine ao_cons (acts_of rfl (does_move (v := .bool true) (by exact rfl))) (by decide) ?_
              refine ao_cons (acts_skip rfl) (by decide) ?_
              refine ao_cons (acts_skip rfl) (by decide) ?_
              refine ao_cons (acts_skip rfl) (by decide) ?_
              refine ao_cons (acts_skip rfl) (by decide) ?_
              refine ao_cons (acts_skip rfl) (by decide) ?_
              refine ao_cons (acts_skip rfl) (by decide) ?_
              refine ao_cons (acts_of rfl (does_pick (v := .bool true) (by conv => lhs; whnf) (by exact rfl))) (by decide) ?_
              refine ao_cons (acts_of rfl (does_move (v := .bool true) (by exact rfl))) (by decide) ?_
              refine ao_cons (acts_skip rfl) (by decide) ?_
              refine ao_cons (acts_skip rfl) (by decide) ?_
              refine ao_cons (acts_skip rfl) (by decide) ?_
              refine ao_cons (acts_skip rfl) (by decide) ?_
              refine ao_cons (acts_skip rfl) (by decide) ?_
              refine ao_cons (acts_skip rfl) (by decide) ?_
              refine ao_cons (acts_skip rfl) (by decide) ?_
              refine ao_cons (acts_skip rfl) (by decide) ?_
              refine ao_cons (acts_skip rfl) (by decide) ?_
              refine ao_cons (acts_of rfl (does_pick (v := .bool true) (by conv => lhs; whnf) (by exact rfl))) (by decide) ?_
              refine ao_nil_n ?_
              refine hK28 _ ?_
              refine aw_cond_t (by decide) rfl ?_
              refine aw_seq_k (fun K36 hK36 => ?_)
              refine aw_reg ?_
              refine ao_cons (acts_of rfl (does_assign (v := .bool false) (by exact rfl))) (by decide) ?_
              refine ao_nil_n ?_
              refine hK36 _ ?_
              refine aw_ret ?_
              have h := leafR h hk27
              obtain rfl := Option.some.inj h
              exact ret_ok1 (by conv => lhs; whnf) (by conv => lhs; whnf) (by exact rfl) (.inr rfl) rfl
            · have h := ifF c35 h
              refine ao_cons (acts_of rfl (does_move (v := .int .i64 x20.2.1) (by exact rfl))) (by decide) ?_
              refine ao_cons (acts_of rfl (does_move (v := .int .i64 x22.2.1) (by exact rfl))) (by decide) ?_
              refine ao_cons (acts_of rfl (does_bin (v := .bool (decide (x22.2.1 < x20.2.1))) (by conv => lhs; whnf) (by conv => lhs; whnf) rfl)) (by decide) ?_
              refine ao_cons (acts_of rfl (does_pick (v := .bool (decide (x22.2.1 < x20.2.1))) (by conv => lhs; whnf) (by exact rfl))) (by decide) ?_
              refine ao_cons (acts_of rfl (does_move (v := .bool (decide (x22.2.1 < x20.2.1))) (by exact rfl))) (by decide) ?_
              refine ao_bool (c := (decide (x22.2.1 < x20.2.1))) 86 rfl (fun c37 => ?_) (fun c37 => ?_)
              · have h := ifT c37 h
                refine ao_cons (acts_skip rfl) (by decide) ?_
                refine ao_cons (acts_skip rfl) (by decide) ?_
                refine ao_cons (acts_skip rfl) (by decide) ?_
                refine ao_cons (acts_skip rfl) (by decide) ?_
                refine ao_cons (acts_skip rfl) (by decide) ?_
                refine ao_cons (acts_of rfl (does_pick (v := .bool true) (by conv => lhs; whnf) (by exact rfl))) (by decide) ?_
                refine ao_cons (acts_of rfl (does_move (v := .bool true) (by exact rfl))) (by decide) ?_
                refine ao_cons (acts_skip rfl) (by decide) ?_
                refine ao_cons (acts_skip rfl) (by decide) ?_
                refine ao_cons (acts_skip rfl) (by decide) ?_
                refine ao_cons (acts_skip rfl) (by decide) ?_
                refine ao_cons (acts_skip rfl) (by decide) ?_
                refine ao_cons (acts_skip rfl) (by decide) ?_
                refine ao_cons (acts_of rfl (does_pick (v := .bool true) (by conv => lhs; whnf) (by exact rfl))) (by decide) ?_
                refine ao_cons (acts_of rfl (does_move (v := .bool true) (by exact rfl))) (by decide) ?_
                refine ao_cons (acts_skip rfl) (by decide) ?_
                refine ao_cons (acts_skip rfl) (by decide) ?_
                refine ao_cons (acts_skip rfl) (by decide) ?_
                refine ao_cons (acts_skip rfl) (by decide) ?_
                refine ao_cons (acts_skip rfl) (by decide) ?_
                refine ao_cons (acts_skip rfl) (by decide) ?_
                refine ao_cons (acts_skip rfl) (by decide) ?_
                refine ao_cons (acts_skip rfl) (by decide) ?_
                refine ao_cons (acts_skip rfl) (by decide) ?_
                refine ao_cons (acts_of rfl (does_pick (v := .bool true) (by conv => lhs; whnf) (by exact rfl))) (by decide) ?_
                refine ao_nil_n ?_
                refine hK28 _ ?_
                refine aw_cond_t (by decide) rfl ?_
                refine aw_seq_k (fun K38 hK38 => ?_)
                refine aw_reg ?_
                refine ao_cons (acts_of rfl (does_assign (v := .bool false) (by exact rfl))) (by decide) ?_
                refine ao_nil_n ?_
                refine hK38 _ ?_
                refine aw_ret ?_
                have h := leafR h hk27
                obtain rfl := Option.some.inj h
                exact ret_ok1 (by conv => lhs; whnf) (by conv => lhs; whnf) (by exact rfl) (.inr rfl) rfl
              · have h := ifF c37 h
                refine ao_cons (acts_of rfl (does_move (v := .int .i64 x18.1) (by exact rfl))) (by decide) ?_
                refine ao_cons (acts_of rfl (does_move (v := .int .i64 x20.1) (by exact rfl))) (by decide) ?_
                obtain ⟨x39, hx39, h⟩ := bnd_some h
                refine ao_cons (acts_of rfl (do_call0 89 false (window_Of_ok x18.1 x20.1 hx39) rfl ent34 rfl rfl)) (by decide) ?_
                refine ao_cons (acts_of rfl (does_move (v := .int .i64 x18.2.1) (by exact rfl))) (by decide) ?_
                refine ao_cons (acts_of rfl (does_bin (v := .bool (x39 != x18.2.1)) (by conv => lhs; whnf) (by conv => lhs; whnf) rfl)) (by decide) ?_
                refine ao_cons (acts_of rfl (does_pick (v := .bool (x39 != x18.2.1)) (by conv => lhs; whnf) (by exact rfl))) (by decide) ?_
                refine ao_cons (acts_of rfl (does_move (v := .bool (x39 != x18.2.1)) (by exact rfl))) (by decide) ?_
                refine ao_bool (c := (x39 != x18.2.1)) 93 rfl (fun c40 => ?_) (fun c40 => ?_)
                · have h := ifT c40 h
                  refine ao_cons (acts_skip rfl) (by decide) ?_
                  refine ao_cons (acts_skip rfl) (by decide) ?_
                  refine ao_cons (acts_skip rfl) (by decide) ?_
                  refine ao_cons (acts_skip rfl) (by decide) ?_
                  refine ao_cons (acts_skip rfl) (by decide) ?_
                  refine ao_cons (acts_skip rfl) (by decide) ?_
                  refine ao_cons (acts_of rfl (does_pick (v := .bool true) (by conv => lhs; whnf) (by exact rfl))) (by decide) ?_
                  refine ao_cons (acts_of rfl (does_move (v := .bool true) (by exact rfl))) (by decide) ?_
                  refine ao_cons (acts_skip rfl) (by decide) ?_
                  refine ao_cons (acts_skip rfl) (by decide) ?_
                  refine ao_cons (acts_skip rfl) (by decide) ?_
                  refine ao_cons (acts_skip rfl) (by decide) ?_
                  refine ao_cons (acts_skip rfl) (by decide) ?_
                  refine ao_cons (acts_skip rfl) (by decide) ?_
                  refine ao_cons (acts_skip rfl) (by decide) ?_
                  refine ao_cons (acts_skip rfl) (by decide) ?_
                  refine ao_cons (acts_skip rfl) (by decide) ?_
                  refine ao_cons (acts_of rfl (does_pick (v := .bool true) (by conv => lhs; whnf) (by exact rfl))) (by decide) ?_
                  refine ao_nil_n ?_
                  refine hK28 _ ?_
                  refine aw_cond_t (by decide) rfl ?_
                  refine aw_seq_k (fun K41 hK41 => ?_)
                  refine aw_reg ?_
                  refine ao_cons (acts_of rfl (does_assign (v := .bool false) (by exact rfl))) (by decide) ?_
                  refine ao_nil_n ?_
                  refine hK41 _ ?_
                  refine aw_ret ?_
                  have h := leafR h hk27
                  obtain rfl := Option.some.inj h
                  exact ret_ok1 (by conv => lhs; whnf) (by conv => lhs; whnf) (by exact rfl) (.inr rfl) rfl
                · have h := ifF c40 h
                  refine ao_cons (acts_of rfl (does_move (v := .int .i64 x18.1) (by exact rfl))) (by decide) ?_
                  refine ao_cons (acts_of rfl (does_move (v := .int .i64 x20.2.1) (by exact rfl))) (by decide) ?_
                  refine ao_cons (acts_of rfl (does_bin (v := .int .i64 (IntKind.i64.wrap (x20.2.1 - 1))) (by conv => lhs; whnf) (by conv => lhs; whnf) rfl)) (by decide) ?_
                  obtain ⟨x42, hx42, h⟩ := bnd_some h
                  refine ao_cons (acts_of rfl (do_call0 97 false (window_Of_ok x18.1 (IntKind.i64.wrap (x20.2.1 - 1)) hx42) rfl ent34 rfl rfl)) (by decide) ?_
                  refine ao_cons (acts_of rfl (does_move (v := .int .i64 x18.2.1) (by exact rfl))) (by decide) ?_
                  refine ao_cons (acts_of rfl (does_bin (v := .bool (x42 != x18.2.1)) (by conv => lhs; whnf) (by conv => lhs; whnf) rfl)) (by decide) ?_
                  refine ao_cons (acts_of rfl (does_pick (v := .bool (x42 != x18.2.1)) (by conv => lhs; whnf) (by exact rfl))) (by decide) ?_
                  refine ao_cons (acts_of rfl (does_move (v := .bool (x42 != x18.2.1)) (by exact rfl))) (by decide) ?_
                  refine ao_bool (c := (x42 != x18.2.1)) 101 rfl (fun c43 => ?_) (fun c43 => ?_)
                  · have h := ifT c43 h
                    refine ao_cons (acts_skip rfl) (by decide) ?_
                    refine ao_cons (acts_skip rfl) (by decide) ?_
                    refine ao_cons (acts_skip rfl) (by decide) ?_
                    refine ao_cons (acts_skip rfl) (by decide) ?_
                    refine ao_cons (acts_skip rfl) (by decide) ?_
                    refine ao_cons (acts_skip rfl) (by decide) ?_
                    refine ao_cons (acts_skip rfl) (by decide) ?_
                    refine ao_cons (acts_skip rfl) (by decide) ?_
                    refine ao_cons (acts_skip rfl) (by decide) ?_
                    refine ao_cons (acts_of rfl (does_pick (v := .bool true) (by conv => lhs; whnf) (by exact rfl))) (by decide) ?_
                    refine ao_nil_n ?_
                    refine hK28 _ ?_
                    refine aw_cond_t (by decide) rfl ?_
                    refine aw_seq_k (fun K44 hK44 => ?_)
                    refine aw_reg ?_
                    refine ao_cons (acts_of rfl (does_assign (v := .bool false) (by exact rfl))) (by decide) ?_
                    refine ao_nil_n ?_
                    refine hK44 _ ?_
                    refine aw_ret ?_
                    have h := leafR h hk27
                    obtain rfl := Option.some.inj h
                    exact ret_ok1 (by conv => lhs; whnf) (by conv => lhs; whnf) (by exact rfl) (.inr rfl) rfl
                  · have h := ifF c43 h
                    refine ao_cons (acts_of rfl (does_move (v := .int .i64 x22.2.1) (by exact rfl))) (by decide) ?_
                    refine ao_cons (acts_of rfl (does_move (v := .int .i64 x22.1) (by exact rfl))) (by decide) ?_
                    refine ao_cons (acts_of rfl (does_bin (v := .int .i64 (IntKind.i64.wrap (x22.2.1 - x22.1))) (by conv => lhs; whnf) (by conv => lhs; whnf) rfl)) (by decide) ?_
                    refine ao_cons (acts_of rfl (does_move (v := .int .i64 x25) (by exact rfl))) (by decide) ?_
                    refine ao_cons (acts_of rfl (does_move (v := .int .i64 x20.2.1) (by exact rfl))) (by decide) ?_
                    refine ao_cons (acts_of rfl (does_move (v := .int .i64 x20.1) (by exact rfl))) (by decide) ?_
                    refine ao_cons (acts_of rfl (does_bin (v := .int .i64 (IntKind.i64.wrap (x20.2.1 - x20.1))) (by conv => lhs; whnf) (by conv => lhs; whnf) rfl)) (by decide) ?_
                    refine ao_cons (acts_of rfl (does_bin (v := .int .i64 (IntKind.i64.wrap (x25 * (IntKind.i64.wrap (x20.2.1 - x20.1))))) (by conv => lhs; whnf) (by conv => lhs; whnf) rfl)) (by decide) ?_
                    refine ao_cons (acts_of rfl (does_bin (v := .bool ((IntKind.i64.wrap (x22.2.1 - x22.1)) != (IntKind.i64.wrap (x25 * (IntKind.i64.wrap (x20.2.1 - x20.1)))))) (by conv => lhs; whnf) (by conv => lhs; whnf) rfl)) (by decide) ?_
                    refine ao_cons (acts_of rfl (does_pick (v := .bool ((IntKind.i64.wrap (x22.2.1 - x22.1)) != (IntKind.i64.wrap (x25 * (IntKind.i64.wrap (x20.2.1 - x20.1)))))) (by conv => lhs; whnf) (by exact rfl))) (by decide) ?_
                    refine ao_nil_n ?_
                    refine hK28 _ ?_
                    refine aw_bool (b := ((IntKind.i64.wrap (x22.2.1 - x22.1)) != (IntKind.i64.wrap (x25 * (IntKind.i64.wrap (x20.2.1 - x20.1)))))) 111 rfl (fun c45 => ?_) (fun c45 => ?_)
                    · have h := ifT c45 h
                      refine aw_cond_t (by decide) rfl ?_
                      refine aw_seq_k (fun K46 hK46 => ?_)
                      refine aw_reg ?_
                      refine ao_cons (acts_of rfl (does_assign (v := .bool false) (by exact rfl))) (by decide) ?_
                      refine ao_nil_n ?_
                      refine hK46 _ ?_
                      refine aw_ret ?_
                      have h := leafR h hk27
                      obtain rfl := Option.some.inj h
                      exact ret_ok1 (by conv => lhs; whnf) (by conv => lhs; whnf) (by exact rfl) (.inr rfl) rfl
                    · have h := ifF c45 h
                      refine aw_cond_f (by decide) rfl ?_
                      refine aw_skip ?_
                      have h := leafL h hk27
                      exact ⟨_, reb_lit [(0, .int .i64 a0), (1, .int .i64 a1), (6, .int .i64 x18.1), (7, .int .i64 x18.2.1), (10, .int .i64 x20.2.1), (13, .int .i64 x22.2.1)] [] [] [] (envOk_cons (by conv => lhs; whnf) (by exact rfl) (envOk_cons (by conv => lhs; whnf) (by exact rfl) (envOk_cons (by conv => lhs; whnf) (by exact rfl) (envOk_cons (by conv => lhs; whnf) (by exact rfl) (envOk_cons (by conv => lhs; whnf) (by exact rfl) (envOk_cons (by conv => lhs; whnf) (by exact rfl) envOk_nil)))))) objOk_nil (nodup_b rfl) (nodup_b rfl) rfl rfl, h, rfl⟩
    · rintro s ⟨h, rfl⟩
      unfold gleaninglaw9_WindowNest_k1 at h
      refine aw_seq_k (fun K47 hK47 => ?_)
      refine aw_reg ?_
      refine ao_cons (acts_of rfl (does_move (v := .int .i64 a0) (by exact rfl))) (by decide) ?_
      refine ao_cons (acts_of rfl (does_move (v := .int .i64 a1) (by exact rfl))) (by decide) ?_
      refine ao_cons (acts_of rfl (does_bin (v := .int .i64 (IntKind.i64.wrap (a1 + 1))) (by conv => lhs; whnf) (by conv => lhs; whnf) rfl)) (by decide) ?_
      obtain ⟨x48, hx48, h⟩ := bnd_some h
      refine ao_cons (acts_of rfl (do_call0 116 false (window_Up_ok a0 (IntKind.i64.wrap (a1 + 1)) hx48) rfl ent32 rfl rfl)) (by decide) ?_
      refine ao_cons (acts_of rfl (does_move (v := .tup [.int .i64 x48.1, .int .i64 x48.2.1, .bool x48.2.2]) (by exact rfl))) (by decide) ?_
      refine ao_cons (acts_of rfl (does_extract (v := .int .i64 x48.1) (by conv => lhs; whnf) (by exact rfl))) (by decide) ?_
      refine ao_cons (acts_of rfl (does_extract (v := .int .i64 x48.2.1) (by conv => lhs; whnf) (by exact rfl))) (by decide) ?_
      refine ao_cons (acts_of rfl (does_extract (v := .bool x48.2.2) (by conv => lhs; whnf) (by exact rfl))) (by decide) ?_
      refine ao_cons (acts_of rfl (does_assign (v := .int .i64 x48.1) (by exact rfl))) (by decide) ?_
      refine ao_cons (acts_of rfl (does_assign (v := .int .i64 x48.2.1) (by exact rfl))) (by decide) ?_
      refine ao_cons (acts_of rfl (does_assign (v := .bool x48.2.2) (by exact rfl))) (by decide) ?_
      refine ao_nil_n ?_
      refine hK47 _ ?_
      refine aw_seq_k (fun K49 hK49 => ?_)
      refine aw_reg ?_
      refine ao_cons (acts_of rfl (does_move (v := .int .i64 x48.1) (by exact rfl))) (by decide) ?_
      refine ao_cons (acts_of rfl (does_move (v := .int .i64 x18.1) (by exact rfl))) (by decide) ?_
      refine ao_cons (acts_of rfl (does_bin (v := .bool (x48.1 == x18.1)) (by conv => lhs; whnf) (by conv => lhs; whnf) rfl)) (by decide) ?_
      refine ao_cons (acts_of rfl (does_move (v := .bool (x48.1 == x18.1)) (by exact rfl))) (by decide) ?_
      refine ao_bool (c := (x48.1 == x18.1)) 123 rfl (fun c50 => ?_) (fun c50 => ?_)
      · have h := ifT c50 h
        refine ao_cons (acts_of rfl (does_move (v := .int .i64 x48.2.1) (by exact rfl))) (by decide) ?_
        refine ao_cons (acts_of rfl (does_move (v := .int .i64 x18.2.1) (by exact rfl))) (by decide) ?_
        refine ao_cons (acts_of rfl (does_bin (v := .bool (x48.2.1 == x18.2.1)) (by conv => lhs; whnf) (by conv => lhs; whnf) rfl)) (by decide) ?_
        refine ao_cons (acts_of rfl (does_move (v := .bool (x48.2.1 == x18.2.1)) (by exact rfl))) (by decide) ?_
        refine ao_bool (c := (x48.2.1 == x18.2.1)) 127 rfl (fun c51 => ?_) (fun c51 => ?_)
        · have h := ifT c51 h
          refine ao_cons (acts_skip rfl) (by decide) ?_
          refine ao_cons (acts_skip rfl) (by decide) ?_
          refine ao_cons (acts_skip rfl) (by decide) ?_
          refine ao_cons (acts_skip rfl) (by decide) ?_
          refine ao_cons (acts_skip rfl) (by decide) ?_
          refine ao_cons (acts_skip rfl) (by decide) ?_
          refine ao_cons (acts_skip rfl) (by decide) ?_
          refine ao_cons (acts_skip rfl) (by decide) ?_
          refine ao_cons (acts_skip rfl) (by decide) ?_
          refine ao_cons (acts_of rfl (does_pick (v := .bool true) (by conv => lhs; whnf) (by exact rfl))) (by decide) ?_
          refine ao_cons (acts_of rfl (does_pick (v := .bool true) (by conv => lhs; whnf) (by exact rfl))) (by decide) ?_
          refine ao_cons (acts_of rfl (does_assign (v := .bool true) (by exact rfl))) (by decide) ?_
          refine ao_nil_n ?_
          refine hK49 _ ?_
          refine aw_ret ?_
          obtain rfl := Option.some.inj h
          exact ret_ok1 (by conv => lhs; whnf) (by conv => lhs; whnf) (by exact rfl) (.inr rfl) rfl
        · have h := ifF c51 h
          refine ao_cons (acts_of rfl (does_move (v := .int .i64 x48.2.1) (by exact rfl))) (by decide) ?_
          refine ao_cons (acts_of rfl (does_move (v := .int .i64 x18.2.1) (by exact rfl))) (by decide) ?_
          refine ao_cons (acts_of rfl (does_bin (v := .int .i64 (IntKind.i64.wrap (x18.2.1 + 1))) (by conv => lhs; whnf) (by conv => lhs; whnf) rfl)) (by decide) ?_
          refine ao_cons (acts_of rfl (does_bin (v := .bool (x48.2.1 == (IntKind.i64.wrap (x18.2.1 + 1)))) (by conv => lhs; whnf) (by conv => lhs; whnf) rfl)) (by decide) ?_
          refine ao_cons (acts_of rfl (does_move (v := .bool (x48.2.1 == (IntKind.i64.wrap (x18.2.1 + 1)))) (by exact rfl))) (by decide) ?_
          refine ao_bool (c := (x48.2.1 == (IntKind.i64.wrap (x18.2.1 + 1)))) 132 rfl (fun c52 => ?_) (fun c52 => ?_)
          · have h := ifT c52 h
            refine ao_cons (acts_of rfl (does_move (v := .int .i64 x20.2.1) (by exact rfl))) (by decide) ?_
            refine ao_cons (acts_of rfl (does_move (v := .int .i64 x22.2.1) (by exact rfl))) (by decide) ?_
            refine ao_cons (acts_of rfl (does_bin (v := .bool (x20.2.1 == x22.2.1)) (by conv => lhs; whnf) (by conv => lhs; whnf) rfl)) (by decide) ?_
            refine ao_cons (acts_of rfl (does_pick (v := .bool (x20.2.1 == x22.2.1)) (by conv => lhs; whnf) (by exact rfl))) (by decide) ?_
            refine ao_cons (acts_of rfl (does_pick (v := .bool (x20.2.1 == x22.2.1)) (by conv => lhs; whnf) (by exact rfl))) (by decide) ?_
            refine ao_cons (acts_of rfl (does_pick (v := .bool (x20.2.1 == x22.2.1)) (by conv => lhs; whnf) (by exact rfl))) (by decide) ?_
            refine ao_cons (acts_of rfl (does_assign (v := .bool (x20.2.1 == x22.2.1)) (by exact rfl))) (by decide) ?_
            refine ao_nil_n ?_
            refine hK49 _ ?_
            refine aw_ret ?_
            obtain rfl := Option.some.inj h
            exact ret_ok1 (by conv => lhs; whnf) (by conv => lhs; whnf) (by exact rfl) (.inr rfl) rfl
          · have h := ifF c52 h
            refine ao_cons (acts_skip rfl) (by decide) ?_
            refine ao_cons (acts_skip rfl) (by decide) ?_
            refine ao_cons (acts_skip rfl) (by decide) ?_
            refine ao_cons (acts_of rfl (does_pick (v := .bool false) (by conv => lhs; whnf) (by exact rfl))) (by decide) ?_
            refine ao_cons (acts_of rfl (does_pick (v := .bool false) (by conv => lhs; whnf) (by exact rfl))) (by decide) ?_
            refine ao_cons (acts_of rfl (does_pick (v := .bool false) (by conv => lhs; whnf) (by exact rfl))) (by decide) ?_
            refine ao_cons (acts_of rfl (does_assign (v := .bool false) (by exact rfl))) (by decide) ?_
            refine ao_nil_n ?_
            refine hK49 _ ?_
            refine aw_ret ?_
            obtain rfl := Option.some.inj h
            exact ret_ok1 (by conv => lhs; whnf) (by conv => lhs; whnf) (by exact rfl) (.inr rfl) rfl
      · have h := ifF c50 h
        refine ao_cons (acts_skip rfl) (by decide) ?_
        refine ao_cons (acts_skip rfl) (by decide) ?_
        refine ao_cons (acts_skip rfl) (by decide) ?_
        refine ao_cons (acts_skip rfl) (by decide) ?_
        refine ao_cons (acts_skip rfl) (by decide) ?_
        refine ao_cons (acts_skip rfl) (by decide) ?_
        refine ao_cons (acts_skip rfl) (by decide) ?_
        refine ao_cons (acts_skip rfl) (by decide) ?_
        refine ao_cons (acts_skip rfl) (by decide) ?_
        refine ao_cons (acts_skip rfl) (by decide) ?_
        refine ao_cons (acts_skip rfl) (by decide) ?_
        refine ao_cons (acts_skip rfl) (by decide) ?_
        refine ao_cons (acts_skip rfl) (by decide) ?_
        refine ao_cons (acts_skip rfl) (by decide) ?_
        refine ao_cons (acts_of rfl (does_pick (v := .bool false) (by conv => lhs; whnf) (by exact rfl))) (by decide) ?_
        refine ao_cons (acts_of rfl (does_assign (v := .bool false) (by exact rfl))) (by decide) ?_
        refine ao_nil_n ?_
        refine hK49 _ ?_
        refine aw_ret ?_
        obtain rfl := Option.some.inj h
        exact ret_ok1 (by conv => lhs; whnf) (by conv => lhs; whnf) (by exact rfl) (.inr rfl) rfl
end Go.Proofs.Ytomjoccpkknamaa.Ab
