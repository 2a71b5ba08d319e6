/- Package api. -/
import Derived.Test.YtlkdpgemdopbfaaXInts
import Derived.Test.YtlkdpgemdopbfaaProg
namespace Go.Proofs.Ytlkdpgemdopbfaa.Ab
open Go Go.RowKit
set_option linter.unusedVariables false
set_option linter.unusedSimpArgs false
structure A78 where
  c0 : Int
  c1 : Int
  deriving DecidableEq
def enc78 (x : A78) : PV := .agg [.int .i64 x.c0, .int .i64 x.c1]
theorem ty78 : tyOf Try.prog 78 = some ⟨.arr 2 3, 2, 16, [.int .i64 0, .int .i64 0]⟩ := by kernel_rfl
theorem ty79 : tyOf Try.prog 79 = some ⟨.slice 78, 1, 24, [.nil]⟩ := by kernel_rfl
theorem ent28 : Ent Try.prog 28 := ⟨_, Try.func28, by kernel_rfl, rfl⟩
theorem ent29 : Ent Try.prog 29 := ⟨_, Try.func29, by kernel_rfl, rfl⟩
theorem ent30 : Ent Try.prog 30 := ⟨_, Try.func30, by kernel_rfl, rfl⟩
theorem ent50 : Ent Try.prog 50 := ⟨_, Try.func50, by kernel_rfl, rfl⟩
def gleaningtop_are_l0 (a0 : List A78) (v3_0 : Int) : Option (Int ⊕ Bool) :=
  if (decide (v3_0 < (List.length a0 : Int))) = true then (gd (0 ≤ v3_0) (Option.bind (a0[(Int.toNat v3_0)]?) (fun (x12 : A78) => gd (0 ≤ v3_0) (Option.bind (a0[(Int.toNat v3_0)]?) (fun (x14 : A78) => if (x12.c0 != x14.c1) = true then (some (Sum.inr false)) else (some (Sum.inl (IntKind.i64.wrap (v3_0 + 1))))))))) else (some (Sum.inr true))
def gleaningtop_are (a0 : List A78) : Option Bool :=
  loopN (fun (s : Int) => gleaningtop_are_l0 a0 s) Fu 0
set_option maxRecDepth 100000 in
set_option maxHeartbeats 8000000 in
/-- gleaning/gleaningtop.are -/
theorem gleaningtop_are_ok (a0 : List A78) {r : Bool} (h : gleaningtop_are a0 = some r) : Ok Try.prog 50 [.sl 2 (List.map enc78 a0)] [] [] (.bool r) [] [] := by
  unfold gleaningtop_are at h
  refine ok_of_code Try.func50 rfl (by show (1 : Nat) ≤ _; decide) (Nat.le_refl _) fun X => ?_
  refine aw_seq_k (fun K1 hK1 => ?_)
  refine aw_reg ?_
  refine ao_cons (acts_of rfl (does_assign (v := .bool false) (by exact rfl))) (by decide) ?_
  refine ao_nil_n ?_
  refine hK1 _ ?_
  refine aw_seq_k (fun K2 hK2 => ?_)
  refine aw_seq_k (fun K3 hK3 => ?_)
  refine aw_reg ?_
  refine ao_cons (acts_of rfl (does_assign (v := .int .i64 0) (by exact rfl))) (by decide) ?_
  refine ao_nil_n ?_
  refine hK3 _ ?_
  refine aw_block ?_
  refine aw_loop' (fun m s => ∃ (v3_0 : Int), loopN (fun (s : Int) => gleaningtop_are_l0 a0 s) m v3_0 = some r ∧ s = lit [(0, .sl 2 (List.map enc78 a0)), (3, .int .i64 v3_0)] [] [] X) Fu
    ⟨_, reb_lit [(0, .sl 2 (List.map enc78 a0)), (3, .int .i64 (0))] [] [] [] (envOk_cons (by conv => lhs; whnf) (by exact rfl) (envOk_cons (by conv => lhs; whnf) (by exact rfl) envOk_nil)) objOk_nil (nodup_b rfl) (nodup_b rfl) rfl rfl, 0, h, rfl⟩ ?_
  rintro m s ⟨v3_0, h, rfl⟩
  obtain ⟨m0, q4, rfl, h, hq5⟩ := loop_some h
  replace h : gleaningtop_are_l0 a0 v3_0 = some q4 := h
  unfold gleaningtop_are_l0 at h
  refine aw_seq_k (fun K6 hK6 => ?_)
  refine aw_seq_k (fun K7 hK7 => ?_)
  refine aw_reg ?_
  refine ao_cons (acts_of rfl (does_move (v := .int .i64 v3_0) (by exact rfl))) (by decide) ?_
  refine ao_cons (acts_of rfl (does_move (v := .sl 2 (List.map enc78 a0)) (by exact rfl))) (by decide) ?_
  refine ao_cons (acts_of rfl ((does_len_sl (by conv => lhs; whnf) ty79).castp (v' := .int .i64 (List.length a0 : Int)) (by exact len_map _))) (by decide) ?_
  refine ao_cons (acts_of rfl (does_bin (v := .bool (decide (v3_0 < (List.length a0 : Int)))) (by conv => lhs; whnf) (by conv => lhs; whnf) rfl)) (by decide) ?_
  refine ao_nil_n ?_
  refine hK7 _ ?_
  refine aw_bool (b := (decide (v3_0 < (List.length a0 : Int)))) 7 rfl (fun c8 => ?_) (fun c8 => ?_)
  · have h := ifT c8 h
    refine aw_cond_t (by decide) rfl ?_
    refine aw_skip ?_
    refine hK6 _ ?_
    refine aw_seq_k (fun K9 hK9 => ?_)
    refine aw_block ?_
    refine aw_seq_k (fun K10 hK10 => ?_)
    refine aw_regd (by kernel_rfl) (by decide +kernel) ?_
    refine ao_cons (acts_of rfl (does_move (v := .sl 2 (List.map enc78 a0)) (by exact rfl))) (by decide) ?_
    refine ao_cons (acts_of rfl (does_move (v := .int .i64 v3_0) (by exact rfl))) (by decide) ?_
    obtain ⟨g11, h⟩ := gd_some h
    obtain ⟨x12, hx12, h⟩ := bnd_some h
    refine ao_cons (acts_of rfl (does_indexAddr_sl (el := .agg [.int .i64 x12.c0, .int .i64 x12.c1]) (by conv => lhs; whnf) (by conv => lhs; whnf) ty79 ty78 g11 (by exact map_get hx12))) (by decide) ?_
    refine ao_cons (acts_of rfl (does_indexAddr_arr (q := .rptr [.int .i64 x12.c0, .int .i64 x12.c1]) (by conv => lhs; whnf) (by conv => lhs; whnf) ty78 ty3 (by decide) (by decide) rfl)) (by decide) ?_
    refine ao_cons (acts_of rfl (does_load (v := .int .i64 x12.c0) (by conv => lhs; whnf) (by conv => lhs; whnf) ty3 (by exact rfl))) (by decide) ?_
    refine ao_cons (acts_of rfl (does_move (v := .sl 2 (List.map enc78 a0)) (by exact rfl))) (by decide) ?_
    refine ao_cons (acts_of rfl (does_move (v := .int .i64 v3_0) (by exact rfl))) (by decide) ?_
    obtain ⟨g13, h⟩ := gd_some h
    obtain ⟨x14, hx14, h⟩ := bnd_some h
    refine ao_cons (acts_of rfl (does_indexAddr_sl (el := .agg [.int .i64 x14.c0, .int .i64 x14.c1]) (by conv => lhs; whnf) (by conv => lhs; whnf) ty79 ty78 g13 (by exact map_get hx14))) (by decide) ?_
    refine ao_cons (acts_of rfl (does_indexAddr_arr (q := .rptr [.int .i64 x14.c1]) (by conv => lhs; whnf) (by conv => lhs; whnf) ty78 ty3 (by decide) (by decide) rfl)) (by decide) ?_
    refine ao_cons (acts_of rfl (does_load (v := .int .i64 x14.c1) (by conv => lhs; whnf) (by conv => lhs; whnf) ty3 (by exact rfl))) (by decide) ?_
    refine ao_cons (acts_of rfl (does_bin (v := .bool (x12.c0 != x14.c1)) (by conv => lhs; whnf) (by conv => lhs; whnf) rfl)) (by decide) ?_
    refine ao_nil_d (by kernel_rfl) ?_
    refine hK10 _ ?_
    refine aw_bool (b := (x12.c0 != x14.c1)) 20 rfl (fun c15 => ?_) (fun c15 => ?_)
    · have h := ifT c15 h
      refine aw_cond_t (by decide) rfl ?_
      refine aw_seq_k (fun K16 hK16 => ?_)
      refine aw_reg ?_
      refine ao_cons (acts_of rfl (does_assign (v := .bool false) (by exact rfl))) (by decide) ?_
      refine ao_nil_n ?_
      refine hK16 _ ?_
      refine aw_ret ?_
      have h := leafR h hq5
      obtain rfl := Option.some.inj h
      exact ret_ok1 (by conv => lhs; whnf) (by conv => lhs; whnf) (by exact rfl) (.inr rfl) rfl
    · have h := ifF c15 h
      refine aw_cond_f (by decide) rfl ?_
      refine aw_skip ?_
      refine hK9 _ ?_
      refine aw_reg ?_
      refine ao_cons (acts_of rfl (does_move (v := .int .i64 v3_0) (by exact rfl))) (by decide) ?_
      refine ao_cons (acts_of rfl (does_bin (v := .int .i64 (IntKind.i64.wrap (v3_0 + 1))) (by conv => lhs; whnf) (by conv => lhs; whnf) rfl)) (by decide) ?_
      refine ao_cons (acts_of rfl (does_assign (v := .int .i64 (IntKind.i64.wrap (v3_0 + 1))) (by exact rfl))) (by decide) ?_
      refine ao_nil_n ?_
      have h := leafL h hq5
      exact ⟨m0, Nat.lt_succ_self _, _, reb_lit [(0, .sl 2 (List.map enc78 a0)), (3, .int .i64 (IntKind.i64.wrap (v3_0 + 1)))] [] [] [] (envOk_cons (by conv => lhs; whnf) (by exact rfl) (envOk_cons (by conv => lhs; whnf) (by exact rfl) envOk_nil)) objOk_nil (nodup_b rfl) (nodup_b rfl) rfl rfl, (IntKind.i64.wrap (v3_0 + 1)), h, rfl⟩
  · have h := ifF c8 h
    refine aw_cond_f (by decide) rfl ?_
    refine aw_exit ?_
    have h := leafR h hq5
    refine hK2 _ ?_
    refine aw_seq_k (fun K17 hK17 => ?_)
    refine aw_reg ?_
    refine ao_cons (acts_of rfl (does_assign (v := .bool true) (by exact rfl))) (by decide) ?_
    refine ao_nil_n ?_
    refine hK17 _ ?_
    refine aw_ret ?_
    obtain rfl := Option.some.inj h
    exact ret_ok1 (by conv => lhs; whnf) (by conv => lhs; whnf) (by exact rfl) (.inr rfl) rfl
def gleaningtop_first : Option Bool :=
  Option.bind (gleaningtop_are [(A78.mk 0 0), (A78.mk 1 1), (A78.mk 2 2), (A78.mk 3 3), (A78.mk 4 4), (A78.mk 5 5), (A78.mk 16 16), (A78.mk 4 4), (A78.mk 50 50), (A78.mk 1099511627776 1099511627776), (A78.mk 1073741824 1073741824), (A78.mk 20 20), (A78.mk 5 5), (A78.mk 8 8), (A78.mk 3 3)]) (fun (x3 : Bool) => some x3)
set_option maxRecDepth 100000 in
set_option maxHeartbeats 8000000 in
/-- gleaning/gleaningtop.first -/
theorem gleaningtop_first_ok {r : Bool} (h : gleaningtop_first = some r) : Ok Try.prog 28 [] [] [] (.bool r) [] [] := by
  unfold gleaningtop_first at h
  refine ok_of_code Try.func28 rfl (by show (0 : Nat) ≤ _; decide) (Nat.le_refl _) fun X => ?_
  refine aw_seq_k (fun K1 hK1 => ?_)
  refine aw_reg ?_
  refine ao_cons (acts_of rfl (does_assign (v := .bool false) (by exact rfl))) (by decide) ?_
  refine ao_nil_n ?_
  refine hK1 _ ?_
  refine aw_seq_k (fun K2 hK2 => ?_)
  refine aw_reg ?_
  refine ao_cons (acts_of rfl (do_build_arr (cs := [.int .i64 0, .int .i64 0]) ty78 rfl ty3 (by rfl) (by exact rfl))) (by decide) ?_
  refine ao_cons (acts_of rfl (do_build_arr (cs := [.int .i64 1, .int .i64 1]) ty78 rfl ty3 (by rfl) (by exact rfl))) (by decide) ?_
  refine ao_cons (acts_of rfl (do_build_arr (cs := [.int .i64 2, .int .i64 2]) ty78 rfl ty3 (by rfl) (by exact rfl))) (by decide) ?_
  refine ao_cons (acts_of rfl (do_build_arr (cs := [.int .i64 3, .int .i64 3]) ty78 rfl ty3 (by rfl) (by exact rfl))) (by decide) ?_
  refine ao_cons (acts_of rfl (do_build_arr (cs := [.int .i64 4, .int .i64 4]) ty78 rfl ty3 (by rfl) (by exact rfl))) (by decide) ?_
  refine ao_cons (acts_of rfl (do_build_arr (cs := [.int .i64 5, .int .i64 5]) ty78 rfl ty3 (by rfl) (by exact rfl))) (by decide) ?_
  refine ao_cons (acts_of rfl (do_build_arr (cs := [.int .i64 16, .int .i64 16]) ty78 rfl ty3 (by rfl) (by exact rfl))) (by decide) ?_
  refine ao_cons (acts_of rfl (do_build_arr (cs := [.int .i64 4, .int .i64 4]) ty78 rfl ty3 (by rfl) (by exact rfl))) (by decide) ?_
  refine ao_cons (acts_of rfl (do_build_arr (cs := [.int .i64 50, .int .i64 50]) ty78 rfl ty3 (by rfl) (by exact rfl))) (by decide) ?_
  refine ao_cons (acts_of rfl (do_build_arr (cs := [.int .i64 1099511627776, .int .i64 1099511627776]) ty78 rfl ty3 (by rfl) (by exact rfl))) (by decide) ?_
  refine ao_cons (acts_of rfl (do_build_arr (cs := [.int .i64 1073741824, .int .i64 1073741824]) ty78 rfl ty3 (by rfl) (by exact rfl))) (by decide) ?_
  refine ao_cons (acts_of rfl (do_build_arr (cs := [.int .i64 20, .int .i64 20]) ty78 rfl ty3 (by rfl) (by exact rfl))) (by decide) ?_
  refine ao_cons (acts_of rfl (do_build_arr (cs := [.int .i64 5, .int .i64 5]) ty78 rfl ty3 (by rfl) (by exact rfl))) (by decide) ?_
  refine ao_cons (acts_of rfl (do_build_arr (cs := [.int .i64 8, .int .i64 8]) ty78 rfl ty3 (by rfl) (by exact rfl))) (by decide) ?_
  refine ao_cons (acts_of rfl (do_build_arr (cs := [.int .i64 3, .int .i64 3]) ty78 rfl ty3 (by rfl) (by exact rfl))) (by decide) ?_
  refine ao_cons (acts_of rfl (do_buildSlice (xs := List.map enc78 [(A78.mk 0 0), (A78.mk 1 1), (A78.mk 2 2), (A78.mk 3 3), (A78.mk 4 4), (A78.mk 5 5), (A78.mk 16 16), (A78.mk 4 4), (A78.mk 50 50), (A78.mk 1099511627776 1099511627776), (A78.mk 1073741824 1073741824), (A78.mk 20 20), (A78.mk 5 5), (A78.mk 8 8), (A78.mk 3 3)]) ty79 ty78 rfl rfl rfl rfl rfl rfl rfl rfl)) (by decide) ?_
  obtain ⟨x3, hx3, h⟩ := bnd_some h
  refine ao_cons (acts_of rfl (do_callG (bcs := []) [] [] [(16, 0)] 17 false (gleaningtop_are_ok [(A78.mk 0 0), (A78.mk 1 1), (A78.mk 2 2), (A78.mk 3 3), (A78.mk 4 4), (A78.mk 5 5), (A78.mk 16 16), (A78.mk 4 4), (A78.mk 50 50), (A78.mk 1099511627776 1099511627776), (A78.mk 1073741824 1073741824), (A78.mk 20 20), (A78.mk 5 5), (A78.mk 8 8), (A78.mk 3 3)] hx3) rfl ent50 trivial trivial rfl rfl rfl rfl rfl rfl rfl rfl (.inr ⟨rfl, rfl, trivial⟩))) (by decide) ?_
  refine ao_cons (acts_of rfl (does_assign (v := .bool x3) (by exact rfl))) (by decide) ?_
  refine ao_nil_n ?_
  refine hK2 _ ?_
  refine aw_ret ?_
  obtain rfl := Option.some.inj h
  exact ret_ok1 (by conv => lhs; whnf) (by conv => lhs; whnf) (by exact rfl) (.inr rfl) rfl
def gleaningtop_second : Option Bool :=
  Option.bind (gleaningtop_are [(A78.mk 2 2), (A78.mk 2000 2000), (A78.mk 1099511627776 1099511627776), (A78.mk 1 1), (A78.mk 2 2), (A78.mk 3 3), (A78.mk 4 4), (A78.mk 5 5), (A78.mk 6 6), (A78.mk 7 7), (A78.mk 8 8), (A78.mk 9 9), (A78.mk 1 1), (A78.mk 2 2), (A78.mk 3 3)]) (fun (x3 : Bool) => some x3)
set_option maxRecDepth 100000 in
set_option maxHeartbeats 8000000 in
/-- gleaning/gleaningtop.second -/
theorem gleaningtop_second_ok {r : Bool} (h : gleaningtop_second = some r) : Ok Try.prog 29 [] [] [] (.bool r) [] [] := by
  unfold gleaningtop_second at h
  refine ok_of_code Try.func29 rfl (by show (0 : Nat) ≤ _; decide) (Nat.le_refl _) fun X => ?_
  refine aw_seq_k (fun K1 hK1 => ?_)
  refine aw_reg ?_
  refine ao_cons (acts_of rfl (does_assign (v := .bool false) (by exact rfl))) (by decide) ?_
  refine ao_nil_n ?_
  refine hK1 _ ?_
  refine aw_seq_k (fun K2 hK2 => ?_)
  refine aw_reg ?_
  refine ao_cons (acts_of rfl (do_build_arr (cs := [.int .i64 2, .int .i64 2]) ty78 rfl ty3 (by rfl) (by exact rfl))) (by decide) ?_
  refine ao_cons (acts_of rfl (do_build_arr (cs := [.int .i64 2000, .int .i64 2000]) ty78 rfl ty3 (by rfl) (by exact rfl))) (by decide) ?_
  refine ao_cons (acts_of rfl (do_build_arr (cs := [.int .i64 1099511627776, .int .i64 1099511627776]) ty78 rfl ty3 (by rfl) (by exact rfl))) (by decide) ?_
  refine ao_cons (acts_of rfl (do_build_arr (cs := [.int .i64 1, .int .i64 1]) ty78 rfl ty3 (by rfl) (by exact rfl))) (by decide) ?_
  refine ao_cons (acts_of rfl (do_build_arr (cs := [.int .i64 2, .int .i64 2]) ty78 rfl ty3 (by rfl) (by exact rfl))) (by decide) ?_
  refine ao_cons (acts_of rfl (do_build_arr (cs := [.int .i64 3, .int .i64 3]) ty78 rfl ty3 (by rfl) (by exact rfl))) (by decide) ?_
  refine ao_cons (acts_of rfl (do_build_arr (cs := [.int .i64 4, .int .i64 4]) ty78 rfl ty3 (by rfl) (by exact rfl))) (by decide) ?_
  refine ao_cons (acts_of rfl (do_build_arr (cs := [.int .i64 5, .int .i64 5]) ty78 rfl ty3 (by rfl) (by exact rfl))) (by decide) ?_
  refine ao_cons (acts_of rfl (do_build_arr (cs := [.int .i64 6, .int .i64 6]) ty78 rfl ty3 (by rfl) (by exact rfl))) (by decide) ?_
  refine ao_cons (acts_of rfl (do_build_arr (cs := [.int .i64 7, .int .i64 7]) ty78 rfl ty3 (by rfl) (by exact rfl))) (by decide) ?_
  refine ao_cons (acts_of rfl (do_build_arr (cs := [.int .i64 8, .int .i64 8]) ty78 rfl ty3 (by rfl) (by exact rfl))) (by decide) ?_
  refine ao_cons (acts_of rfl (do_build_arr (cs := [.int .i64 9, .int .i64 9]) ty78 rfl ty3 (by rfl) (by exact rfl))) (by decide) ?_
  refine ao_cons (acts_of rfl (do_build_arr (cs := [.int .i64 1, .int .i64 1]) ty78 rfl ty3 (by rfl) (by exact rfl))) (by decide) ?_
  refine ao_cons (acts_of rfl (do_build_arr (cs := [.int .i64 2, .int .i64 2]) ty78 rfl ty3 (by rfl) (by exact rfl))) (by decide) ?_
  refine ao_cons (acts_of rfl (do_build_arr (cs := [.int .i64 3, .int .i64 3]) ty78 rfl ty3 (by rfl) (by exact rfl))) (by decide) ?_
  refine ao_cons (acts_of rfl (do_buildSlice (xs := List.map enc78 [(A78.mk 2 2), (A78.mk 2000 2000), (A78.mk 1099511627776 1099511627776), (A78.mk 1 1), (A78.mk 2 2), (A78.mk 3 3), (A78.mk 4 4), (A78.mk 5 5), (A78.mk 6 6), (A78.mk 7 7), (A78.mk 8 8), (A78.mk 9 9), (A78.mk 1 1), (A78.mk 2 2), (A78.mk 3 3)]) ty79 ty78 rfl rfl rfl rfl rfl rfl rfl rfl)) (by decide) ?_
  obtain ⟨x3, hx3, h⟩ := bnd_some h
  refine ao_cons (acts_of rfl (do_callG (bcs := []) [] [] [(16, 0)] 17 false (gleaningtop_are_ok [(A78.mk 2 2), (A78.mk 2000 2000), (A78.mk 1099511627776 1099511627776), (A78.mk 1 1), (A78.mk 2 2), (A78.mk 3 3), (A78.mk 4 4), (A78.mk 5 5), (A78.mk 6 6), (A78.mk 7 7), (A78.mk 8 8), (A78.mk 9 9), (A78.mk 1 1), (A78.mk 2 2), (A78.mk 3 3)] hx3) rfl ent50 trivial trivial rfl rfl rfl rfl rfl rfl rfl rfl (.inr ⟨rfl, rfl, trivial⟩))) (by decide) ?_
  refine ao_cons (acts_of rfl (does_assign (v := .bool x3) (by exact rfl))) (by decide) ?_
  refine ao_nil_n ?_
  refine hK2 _ ?_
  refine aw_ret ?_
  obtain rfl := Option.some.inj h
  exact ret_ok1 (by conv => lhs; whnf) (by conv => lhs; whnf) (by exact rfl) (.inr rfl) rfl
def gleaningtop_third : Option Bool :=
  Option.bind (gleaningtop_are [(A78.mk 4 4), (A78.mk 1 1), (A78.mk 2 2), (A78.mk 3 3), (A78.mk 4 4), (A78.mk 5 5), (A78.mk 6 6), (A78.mk 12 12), (A78.mk 7 7), (A78.mk 8 8), (A78.mk 9 9), (A78.mk 10 10), (A78.mk 11 11)]) (fun (x3 : Bool) => some x3)
set_option maxRecDepth 100000 in
set_option maxHeartbeats 8000000 in
/-- gleaning/gleaningtop.third -/
theorem gleaningtop_third_ok {r : Bool} (h : gleaningtop_third = some r) : Ok Try.prog 30 [] [] [] (.bool r) [] [] := by
  unfold gleaningtop_third at h
  refine ok_of_code Try.func30 rfl (by show (0 : Nat) ≤ _; decide) (Nat.le_refl _) fun X => ?_
  refine aw_seq_k (fun K1 hK1 => ?_)
  refine aw_reg ?_
  refine ao_cons (acts_of rfl (does_assign (v := .bool false) (by exact rfl))) (by decide) ?_
  refine ao_nil_n ?_
  refine hK1 _ ?_
  refine aw_seq_k (fun K2 hK2 => ?_)
  refine aw_reg ?_
  refine ao_cons (acts_of rfl (do_build_arr (cs := [.int .i64 4, .int .i64 4]) ty78 rfl ty3 (by rfl) (by exact rfl))) (by decide) ?_
  refine ao_cons (acts_of rfl (do_build_arr (cs := [.int .i64 1, .int .i64 1]) ty78 rfl ty3 (by rfl) (by exact rfl))) (by decide) ?_
  refine ao_cons (acts_of rfl (do_build_arr (cs := [.int .i64 2, .int .i64 2]) ty78 rfl ty3 (by rfl) (by exact rfl))) (by decide) ?_
  refine ao_cons (acts_of rfl (do_build_arr (cs := [.int .i64 3, .int .i64 3]) ty78 rfl ty3 (by rfl) (by exact rfl))) (by decide) ?_
  refine ao_cons (acts_of rfl (do_build_arr (cs := [.int .i64 4, .int .i64 4]) ty78 rfl ty3 (by rfl) (by exact rfl))) (by decide) ?_
  refine ao_cons (acts_of rfl (do_build_arr (cs := [.int .i64 5, .int .i64 5]) ty78 rfl ty3 (by rfl) (by exact rfl))) (by decide) ?_
  refine ao_cons (acts_of rfl (do_build_arr (cs := [.int .i64 6, .int .i64 6]) ty78 rfl ty3 (by rfl) (by exact rfl))) (by decide) ?_
  refine ao_cons (acts_of rfl (do_build_arr (cs := [.int .i64 12, .int .i64 12]) ty78 rfl ty3 (by rfl) (by exact rfl))) (by decide) ?_
  refine ao_cons (acts_of rfl (do_build_arr (cs := [.int .i64 7, .int .i64 7]) ty78 rfl ty3 (by rfl) (by exact rfl))) (by decide) ?_
  refine ao_cons (acts_of rfl (do_build_arr (cs := [.int .i64 8, .int .i64 8]) ty78 rfl ty3 (by rfl) (by exact rfl))) (by decide) ?_
  refine ao_cons (acts_of rfl (do_build_arr (cs := [.int .i64 9, .int .i64 9]) ty78 rfl ty3 (by rfl) (by exact rfl))) (by decide) ?_
  refine ao_cons (acts_of rfl (do_build_arr (cs := [.int .i64 10, .int .i64 10]) ty78 rfl ty3 (by rfl) (by exact rfl))) (by decide) ?_
  refine ao_cons (acts_of rfl (do_build_arr (cs := [.int .i64 11, .int .i64 11]) ty78 rfl ty3 (by rfl) (by exact rfl))) (by decide) ?_
  refine ao_cons (acts_of rfl (do_buildSlice (xs := List.map enc78 [(A78.mk 4 4), (A78.mk 1 1), (A78.mk 2 2), (A78.mk 3 3), (A78.mk 4 4), (A78.mk 5 5), (A78.mk 6 6), (A78.mk 12 12), (A78.mk 7 7), (A78.mk 8 8), (A78.mk 9 9), (A78.mk 10 10), (A78.mk 11 11)]) ty79 ty78 rfl rfl rfl rfl rfl rfl rfl rfl)) (by decide) ?_
  obtain ⟨x3, hx3, h⟩ := bnd_some h
  refine ao_cons (acts_of rfl (do_callG (bcs := []) [] [] [(14, 0)] 15 false (gleaningtop_are_ok [(A78.mk 4 4), (A78.mk 1 1), (A78.mk 2 2), (A78.mk 3 3), (A78.mk 4 4), (A78.mk 5 5), (A78.mk 6 6), (A78.mk 12 12), (A78.mk 7 7), (A78.mk 8 8), (A78.mk 9 9), (A78.mk 10 10), (A78.mk 11 11)] hx3) rfl ent50 trivial trivial rfl rfl rfl rfl rfl rfl rfl rfl (.inr ⟨rfl, rfl, trivial⟩))) (by decide) ?_
  refine ao_cons (acts_of rfl (does_assign (v := .bool x3) (by exact rfl))) (by decide) ?_
  refine ao_nil_n ?_
  refine hK2 _ ?_
  refine aw_ret ?_
  obtain rfl := Option.some.inj h
  exact ret_ok1 (by conv => lhs; whnf) (by conv => lhs; whnf) (by exact rfl) (.inr rfl) rfl
def gleaningtop_TopNames : Option Bool :=
  Option.bind (gleaningtop_first) (fun (x3 : Bool) => if x3 = true then (Option.bind (gleaningtop_second) (fun (x5 : Bool) => if x5 = true then (Option.bind (gleaningtop_third) (fun (x7 : Bool) => some x7)) else (some false))) else (some false))
set_option maxRecDepth 100000 in
set_option maxHeartbeats 8000000 in
/-- gleaning/gleaningtop.TopNames -/
theorem gleaningtop_TopNames_ok {r : Bool} (h : gleaningtop_TopNames = some r) : Ok Try.prog 7 [] [] [] (.bool r) [] [] := by
  unfold gleaningtop_TopNames at h
  refine ok_of_code Try.func7 rfl (by show (0 : Nat) ≤ _; decide) (Nat.le_refl _) fun X => ?_
  refine aw_seq_k (fun K1 hK1 => ?_)
  refine aw_reg ?_
  refine ao_cons (acts_of rfl (does_assign (v := .bool false) (by exact rfl))) (by decide) ?_
  refine ao_nil_n ?_
  refine hK1 _ ?_
  refine aw_seq_k (fun K2 hK2 => ?_)
  refine aw_reg ?_
  obtain ⟨x3, hx3, h⟩ := bnd_some h
  refine ao_cons (acts_of rfl (do_call0 1 false (gleaningtop_first_ok hx3) rfl ent28 rfl rfl)) (by decide) ?_
  refine ao_cons (acts_of rfl (does_move (v := .bool x3) (by exact rfl))) (by decide) ?_
  refine ao_bool (c := x3) 2 rfl (fun c4 => ?_) (fun c4 => ?_)
  · have h := ifT c4 h
    obtain ⟨x5, hx5, h⟩ := bnd_some h
    refine ao_cons (acts_of rfl (do_call0 3 false (gleaningtop_second_ok hx5) rfl ent29 rfl rfl)) (by decide) ?_
    refine ao_cons (acts_of rfl (does_pick (v := .bool x5) (by conv => lhs; whnf) (by exact rfl))) (by decide) ?_
    refine ao_cons (acts_of rfl (does_move (v := .bool x5) (by exact rfl))) (by decide) ?_
    refine ao_bool (c := x5) 5 rfl (fun c6 => ?_) (fun c6 => ?_)
    · have h := ifT c6 h
      obtain ⟨x7, hx7, h⟩ := bnd_some h
      refine ao_cons (acts_of rfl (do_call0 6 false (gleaningtop_third_ok hx7) rfl ent30 rfl rfl)) (by decide) ?_
      refine ao_cons (acts_of rfl (does_pick (v := .bool x7) (by conv => lhs; whnf) (by exact rfl))) (by decide) ?_
      refine ao_cons (acts_of rfl (does_assign (v := .bool x7) (by exact rfl))) (by decide) ?_
      refine ao_nil_n ?_
      refine hK2 _ ?_
      refine aw_ret ?_
      obtain rfl := Option.some.inj h
      exact ret_ok1 (by conv => lhs; whnf) (by conv => lhs; whnf) (by exact rfl) (.inr rfl) rfl
    · have h := ifF c6 h
      refine ao_cons (acts_skip rfl) (by decide) ?_
      refine ao_cons (acts_of rfl (does_pick (v := .bool false) (by conv => lhs; whnf) (by exact rfl))) (by decide) ?_
      refine ao_cons (acts_of rfl (does_assign (v := .bool false) (by exact rfl))) (by decide) ?_
      refine ao_nil_n ?_
      refine hK2 _ ?_
      refine aw_ret ?_
      obtain rfl := Option.some.inj h
      exact ret_ok1 (by conv => lhs; whnf) (by conv => lhs; whnf) (by exact rfl) (.inr rfl) rfl
  · have h := ifF c4 h
    refine ao_cons (acts_skip rfl) (by decide) ?_
    refine ao_cons (acts_of rfl (does_pick (v := .bool false) (by conv => lhs; whnf) (by exact rfl))) (by decide) ?_
    refine ao_cons (acts_of rfl (does_move (v := .bool false) (by exact rfl))) (by decide) ?_
    refine ao_cons (acts_skip rfl) (by decide) ?_
    refine ao_cons (acts_of rfl (does_pick (v := .bool false) (by conv => lhs; whnf) (by exact rfl))) (by decide) ?_
    refine ao_cons (acts_of rfl (does_assign (v := .bool false) (by exact rfl))) (by decide) ?_
    refine ao_nil_n ?_
    refine hK2 _ ?_
    refine aw_ret ?_
    obtain rfl := Option.some.inj h
    exact ret_ok1 (by conv => lhs; whnf) (by conv => lhs; whnf) (by exact rfl) (.inr rfl) rfl
end Go.Proofs.Ytlkdpgemdopbfaa.Ab
