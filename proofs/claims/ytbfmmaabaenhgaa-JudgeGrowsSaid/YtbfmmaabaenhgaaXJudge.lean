/- Chapter 14: the laws. -/
import Derived.Test.YtbfmmaabaenhgaaXJ2
import Derived.Test.YtbfmmaabaenhgaaProg
namespace Go.Proofs.Ytbfmmaabaenhgaa.Ab
open Go Go.RowKit
set_option linter.unusedVariables false
set_option linter.unusedSimpArgs false
theorem ent18 : Ent Try.prog 18 := ⟨_, Try.func18, by kernel_rfl, rfl⟩
theorem ent19 : Ent Try.prog 19 := ⟨_, Try.func19, by kernel_rfl, rfl⟩
theorem ent20 : Ent Try.prog 20 := ⟨_, Try.func20, by kernel_rfl, rfl⟩
theorem ent23 : Ent Try.prog 23 := ⟨_, Try.func23, by kernel_rfl, rfl⟩
theorem ent24 : Ent Try.prog 24 := ⟨_, Try.func24, by kernel_rfl, rfl⟩
theorem ent26 : Ent Try.prog 26 := ⟨_, Try.func26, by kernel_rfl, rfl⟩
def gleaninglaw14_alive : Option Bool :=
  Option.bind (judge_Keep (Rule.mk 1 0 (strOf []) (strOf []) []) (Episode.mk (Trace.mk 0 0) 0 0 false []) 0) (fun (x4 : Bool) => if x4 = true then (Option.bind (judge_Keep (Rule.mk 4 9 (strOf []) (strOf []) []) (Episode.mk (Trace.mk 0 0) 0 0 false [(Span.mk (Trace.mk 0 0) 0 0 (strOf []) (strOf []) 0 9 false [])]) 0) (fun (x6 : Bool) => if x6 = true then (Option.bind (judge_Keep (Rule.mk 4 10 (strOf []) (strOf []) []) (Episode.mk (Trace.mk 0 0) 0 0 false [(Span.mk (Trace.mk 0 0) 0 0 (strOf []) (strOf []) 0 9 false [])]) 0) (fun (x8 : Bool) => some (!x8))) else (some false))) else (some false))
set_option maxRecDepth 100000 in
set_option maxHeartbeats 8000000 in
/-- gleaning/gleaninglaw14.alive -/
theorem gleaninglaw14_alive_ok {r : Bool} (h : gleaninglaw14_alive = some r) : Ok Try.prog 18 [] [] [] (.bool r) [] [] := by
  unfold gleaninglaw14_alive at h
  refine ok_of_code Try.func18 rfl (by show (0 : Nat) ≤ _; decide) (Nat.le_refl _) fun X => ?_
  refine aw_seq_k (fun K1 hK1 => ?_)
  refine aw_reg ?_
  refine ao_cons (acts_of rfl (does_assign (v := .bool false) (by exact rfl))) (by decide) ?_
  refine ao_nil_n ?_
  refine hK1 _ ?_
  refine aw_seq_k (fun K2 hK2 => ?_)
  refine aw_reg ?_
  refine ao_cons (acts_of rfl ((do_build_struct (cs := [.int .u64 0, .int .u64 0, .int .u64 0, .int .u64 0, .str (strOf []), .str (strOf []), .int .i64 0, .int .i64 9, .bool false, .nil]) ty42 rfl [⟨.struct [(0, 25), (1, 25)], 2, 16, [.int .u64 0, .int .u64 0]⟩, ⟨.int .u64, 1, 8, [.int .u64 0]⟩, ⟨.int .u64, 1, 8, [.int .u64 0]⟩, ⟨.str, 1, 16, [.str ByteArray.empty]⟩, ⟨.str, 1, 16, [.str ByteArray.empty]⟩, ⟨.int .i64, 1, 8, [.int .i64 0]⟩, ⟨.int .i64, 1, 8, [.int .i64 0]⟩, ⟨.bool, 1, 1, [.bool false]⟩, ⟨.slice 53, 1, 24, [.nil]⟩] (by simp only [List.map, ty25, ty27, ty3, ty4, ty40, ty9]) (by rfl) (by exact rfl)).weak (v' := .agg [.int .u64 0, .int .u64 0, .int .u64 0, .int .u64 0, .str (strOf []), .str (strOf []), .int .i64 0, .int .i64 9, .bool false, .sl 2 (List.map enc52 [])]) (le_agg ⟨le_refl _, le_refl _, le_refl _, le_refl _, le_refl _, le_refl _, le_refl _, le_refl _, le_refl _, le_nil _, trivial⟩))) (by decide) ?_
  refine ao_cons (acts_of rfl (do_buildSlice (xs := List.map enc41 [(Span.mk (Trace.mk 0 0) 0 0 (strOf []) (strOf []) 0 9 false [])]) ty28 ty42 rfl rfl rfl rfl rfl rfl rfl rfl)) (by decide) ?_
  refine ao_cons (acts_of rfl (do_build_struct (cs := [.int .u64 0, .int .u64 0, .int .i64 0, .int .i64 0, .bool false, .own 3 0]) ty30 rfl [⟨.struct [(0, 25), (1, 25)], 2, 16, [.int .u64 0, .int .u64 0]⟩, ⟨.int .i64, 1, 8, [.int .i64 0]⟩, ⟨.int .i64, 1, 8, [.int .i64 0]⟩, ⟨.bool, 1, 1, [.bool false]⟩, ⟨.slice 42, 1, 24, [.nil]⟩] (by simp only [List.map, ty27, ty28, ty3, ty4]) (by rfl) (by exact rfl))) (by decide) ?_
  refine ao_cons (acts_of rfl (do_new ty30 rfl rfl)) (by decide) ?_
  refine ao_cons (acts_of rfl (do_store (cs' := [.int .u64 0, .int .u64 0, .int .i64 0, .int .i64 0, .bool false, .own 3 0]) (by conv => lhs; whnf) (by conv => lhs; whnf) (by conv => lhs; whnf) ty30 rfl rfl rfl (by exact rfl))) (by decide) ?_
  refine ao_nil_n ?_
  refine hK2 _ ?_
  refine aw_seq_k (fun K3 hK3 => ?_)
  refine aw_reg ?_
  refine ao_cons (acts_of rfl ((do_build_struct (cs := [.int .i64 1, .int .i64 0, .str (strOf []), .str (strOf []), .nil]) ty24 rfl [⟨.int .i64, 1, 8, [.int .i64 0]⟩, ⟨.int .i64, 1, 8, [.int .i64 0]⟩, ⟨.str, 1, 16, [.str ByteArray.empty]⟩, ⟨.str, 1, 16, [.str ByteArray.empty]⟩, ⟨.slice 24, 1, 24, [.nil]⟩] (by simp only [List.map, ty22, ty3, ty9]) (by rfl) (by exact rfl)).weak (v' := .agg [.int .i64 1, .int .i64 0, .str (strOf []), .str (strOf []), .sl 5 (List.map enc23 [])]) (le_agg ⟨le_refl _, le_refl _, le_refl _, le_refl _, le_nil _, trivial⟩))) (by decide) ?_
  refine ao_cons (acts_of rfl ((do_build_struct (cs := [.int .u64 0, .int .u64 0, .int .i64 0, .int .i64 0, .bool false, .nil]) ty30 rfl [⟨.struct [(0, 25), (1, 25)], 2, 16, [.int .u64 0, .int .u64 0]⟩, ⟨.int .i64, 1, 8, [.int .i64 0]⟩, ⟨.int .i64, 1, 8, [.int .i64 0]⟩, ⟨.bool, 1, 1, [.bool false]⟩, ⟨.slice 42, 1, 24, [.nil]⟩] (by simp only [List.map, ty27, ty28, ty3, ty4]) (by rfl) (by exact rfl)).weak (v' := .agg [.int .u64 0, .int .u64 0, .int .i64 0, .int .i64 0, .bool false, .sl 10 (List.map enc41 [])]) (le_agg ⟨le_refl _, le_refl _, le_refl _, le_refl _, le_refl _, le_nil _, trivial⟩))) (by decide) ?_
  obtain ⟨x4, hx4, h⟩ := bnd_some h
  refine ao_cons (acts_of rfl (do_call0 7 false (judge_Keep_ok (Rule.mk 1 0 (strOf []) (strOf []) []) (Episode.mk (Trace.mk 0 0) 0 0 false []) 0 hx4) rfl ent23 rfl rfl)) (by decide) ?_
  refine ao_cons (acts_of rfl (does_move (v := .bool x4) (by exact rfl))) (by decide) ?_
  refine ao_bool (c := x4) 8 rfl (fun c5 => ?_) (fun c5 => ?_)
  · have h := ifT c5 h
    refine ao_cons (acts_of rfl ((do_build_struct (cs := [.int .i64 4, .int .i64 9, .str (strOf []), .str (strOf []), .nil]) ty24 rfl [⟨.int .i64, 1, 8, [.int .i64 0]⟩, ⟨.int .i64, 1, 8, [.int .i64 0]⟩, ⟨.str, 1, 16, [.str ByteArray.empty]⟩, ⟨.str, 1, 16, [.str ByteArray.empty]⟩, ⟨.slice 24, 1, 24, [.nil]⟩] (by simp only [List.map, ty22, ty3, ty9]) (by rfl) (by exact rfl)).weak (v' := .agg [.int .i64 4, .int .i64 9, .str (strOf []), .str (strOf []), .sl 5 (List.map enc23 [])]) (le_agg ⟨le_refl _, le_refl _, le_refl _, le_refl _, le_nil _, trivial⟩))) (by decide) ?_
    refine ao_cons (acts_of rfl (does_load (v := .agg [.int .u64 0, .int .u64 0, .int .i64 0, .int .i64 0, .bool false, .own 3 0]) (by conv => lhs; whnf) (by conv => lhs; whnf) ty30 (by exact rfl))) (by decide) ?_
    obtain ⟨x6, hx6, h⟩ := bnd_some h
    refine ao_cons (acts_of rfl (do_callG (bcs := []) [] [] [(3, 0)] 11 false (judge_Keep_ok (Rule.mk 4 9 (strOf []) (strOf []) []) (Episode.mk (Trace.mk 0 0) 0 0 false [(Span.mk (Trace.mk 0 0) 0 0 (strOf []) (strOf []) 0 9 false [])]) 0 hx6) rfl ent23 trivial trivial rfl rfl rfl rfl rfl rfl rfl rfl (.inr ⟨rfl, rfl, trivial⟩))) (by decide) ?_
    refine ao_cons (acts_of rfl (does_pick (v := .bool x6) (by conv => lhs; whnf) (by exact rfl))) (by decide) ?_
    refine ao_cons (acts_of rfl (does_move (v := .bool x6) (by exact rfl))) (by decide) ?_
    refine ao_bool (c := x6) 13 rfl (fun c7 => ?_) (fun c7 => ?_)
    · have h := ifT c7 h
      refine ao_cons (acts_of rfl ((do_build_struct (cs := [.int .i64 4, .int .i64 10, .str (strOf []), .str (strOf []), .nil]) ty24 rfl [⟨.int .i64, 1, 8, [.int .i64 0]⟩, ⟨.int .i64, 1, 8, [.int .i64 0]⟩, ⟨.str, 1, 16, [.str ByteArray.empty]⟩, ⟨.str, 1, 16, [.str ByteArray.empty]⟩, ⟨.slice 24, 1, 24, [.nil]⟩] (by simp only [List.map, ty22, ty3, ty9]) (by rfl) (by exact rfl)).weak (v' := .agg [.int .i64 4, .int .i64 10, .str (strOf []), .str (strOf []), .sl 5 (List.map enc23 [])]) (le_agg ⟨le_refl _, le_refl _, le_refl _, le_refl _, le_nil _, trivial⟩))) (by decide) ?_
      refine ao_cons (acts_of rfl (does_load (v := .agg [.int .u64 0, .int .u64 0, .int .i64 0, .int .i64 0, .bool false, .own 3 0]) (by conv => lhs; whnf) (by conv => lhs; whnf) ty30 (by exact rfl))) (by decide) ?_
      obtain ⟨x8, hx8, h⟩ := bnd_some h
      refine ao_cons (acts_of rfl (do_callG (bcs := []) [] [] [(3, 0)] 16 false (judge_Keep_ok (Rule.mk 4 10 (strOf []) (strOf []) []) (Episode.mk (Trace.mk 0 0) 0 0 false [(Span.mk (Trace.mk 0 0) 0 0 (strOf []) (strOf []) 0 9 false [])]) 0 hx8) rfl ent23 trivial trivial rfl rfl rfl rfl rfl rfl rfl rfl (.inr ⟨rfl, rfl, trivial⟩))) (by decide) ?_
      refine ao_cons (acts_of rfl (does_un (v := .bool (!x8)) (by conv => lhs; whnf) rfl)) (by decide) ?_
      refine ao_cons (acts_of rfl (does_pick (v := .bool (!x8)) (by conv => lhs; whnf) (by exact rfl))) (by decide) ?_
      refine ao_cons (acts_of rfl (does_assign (v := .bool (!x8)) (by exact rfl))) (by decide) ?_
      refine ao_nil_n ?_
      refine hK3 _ ?_
      refine aw_ret ?_
      obtain rfl := Option.some.inj h
      exact ret_ok1 (by conv => lhs; whnf) (by conv => lhs; whnf) (by exact rfl) (.inr rfl) rfl
    · have h := ifF c7 h
      refine ao_cons (acts_skip rfl) (by decide) ?_
      refine ao_cons (acts_skip rfl) (by decide) ?_
      refine ao_cons (acts_skip rfl) (by decide) ?_
      refine ao_cons (acts_skip rfl) (by decide) ?_
      refine ao_cons (acts_of rfl (does_pick (v := .bool false) (by conv => lhs; whnf) (by exact rfl))) (by decide) ?_
      refine ao_cons (acts_of rfl (does_assign (v := .bool false) (by exact rfl))) (by decide) ?_
      refine ao_nil_n ?_
      refine hK3 _ ?_
      refine aw_ret ?_
      obtain rfl := Option.some.inj h
      exact ret_ok1 (by conv => lhs; whnf) (by conv => lhs; whnf) (by exact rfl) (.inr rfl) rfl
  · have h := ifF c5 h
    refine ao_cons (acts_skip rfl) (by decide) ?_
    refine ao_cons (acts_skip rfl) (by decide) ?_
    refine ao_cons (acts_skip rfl) (by decide) ?_
    refine ao_cons (acts_of rfl (does_pick (v := .bool false) (by conv => lhs; whnf) (by exact rfl))) (by decide) ?_
    refine ao_cons (acts_of rfl (does_move (v := .bool false) (by exact rfl))) (by decide) ?_
    refine ao_cons (acts_skip rfl) (by decide) ?_
    refine ao_cons (acts_skip rfl) (by decide) ?_
    refine ao_cons (acts_skip rfl) (by decide) ?_
    refine ao_cons (acts_skip rfl) (by decide) ?_
    refine ao_cons (acts_of rfl (does_pick (v := .bool false) (by conv => lhs; whnf) (by exact rfl))) (by decide) ?_
    refine ao_cons (acts_of rfl (does_assign (v := .bool false) (by exact rfl))) (by decide) ?_
    refine ao_nil_n ?_
    refine hK3 _ ?_
    refine aw_ret ?_
    obtain rfl := Option.some.inj h
    exact ret_ok1 (by conv => lhs; whnf) (by conv => lhs; whnf) (by exact rfl) (.inr rfl) rfl
def gleaninglaw14_JudgeTells_k0 (a0 : Rule) (a1 : Episode) (a2 : Int) (a3 : Trace) : Option Bool :=
  Option.bind (judge_Hash a3) (fun (x16 : Int) => Option.bind (gleaningref1_Hash a3) (fun (x17 : Int) => if (x16 == x17) = true then (Option.bind (judge_Keep a0 a1 a2) (fun (x19 : Bool) => Option.bind (gleaningref1_Keep a0 a1 a2) (fun (x20 : Bool) => some (x19 == x20)))) else (some false)))
def gleaninglaw14_JudgeTells (a0 : Rule) (a1 : Episode) (a2 : Int) (a3 : Trace) : Option Bool :=
  Option.bind (gleaninglaw14_alive) (fun (x3 : Bool) => Option.bind (if (!x3) = true then (some (Sum.inr x3)) else (Option.bind (gleaninglaw13_Few a0) (fun (x9 : Bool) => if (!x9) = true then (some (Sum.inr x3)) else (Option.bind (gleaninglaw3_FewAll a1.Spans) (fun (x12 : Bool) => if (!x12) = true then (some (Sum.inr x3)) else (some (Sum.inl ()))))))) (Sum.elim (fun (s : Unit) => gleaninglaw14_JudgeTells_k0 a0 a1 a2 a3) some))
set_option maxRecDepth 100000 in
set_option maxHeartbeats 8000000 in
/-- gleaning/gleaninglaw14.JudgeTells -/
theorem gleaninglaw14_JudgeTells_ok (a0 : Rule) (a1 : Episode) (a2 : Int) (a3 : Trace) {r : Bool} (h : gleaninglaw14_JudgeTells a0 a1 a2 a3 = some r) : Ok Try.prog 3 [.agg [.int .i64 a0.Kind, .int .i64 a0.N, .str a0.Key, .str a0.Value, .sl 5 (List.map enc23 a0.Kids)], .agg [.int .u64 a1.Trace.Hi, .int .u64 a1.Trace.Lo, .int .i64 a1.First, .int .i64 a1.Last, .bool a1.Sure, .sl 10 (List.map enc41 a1.Spans)], .int .i64 a2, .agg [.int .u64 a3.Hi, .int .u64 a3.Lo]] [] [] (.bool r) [] [] := by
  unfold gleaninglaw14_JudgeTells at h
  refine ok_of_code Try.func3 rfl (by show (4 : Nat) ≤ _; decide) (Nat.le_refl _) fun X => ?_
  refine aw_seq_k (fun K1 hK1 => ?_)
  refine aw_reg ?_
  refine ao_cons (acts_of rfl (do_box (by conv => lhs; whnf) rfl rfl)) (by decide) ?_
  refine ao_cons (acts_of rfl (do_box (by conv => lhs; whnf) rfl rfl)) (by decide) ?_
  refine ao_cons (acts_of rfl (do_box (by conv => lhs; whnf) rfl rfl)) (by decide) ?_
  refine ao_cons (acts_of rfl (does_assign (v := .bool false) (by exact rfl))) (by decide) ?_
  refine ao_nil_n ?_
  refine hK1 _ ?_
  refine aw_seq_k (fun K2 hK2 => ?_)
  refine aw_reg ?_
  obtain ⟨x3, hx3, h⟩ := bnd_some h
  refine ao_cons (acts_of rfl (do_call0 10 false (gleaninglaw14_alive_ok hx3) rfl ent18 rfl rfl)) (by decide) ?_
  refine ao_cons (acts_of rfl (does_assign (v := .bool x3) (by exact rfl))) (by decide) ?_
  refine ao_nil_n ?_
  refine hK2 _ ?_
  obtain ⟨q4, h, hk5⟩ := bnd_some h
  refine aw_cut (fun s => gleaninglaw14_JudgeTells_k0 a0 a1 a2 a3 = some r ∧ s = lit [(2, .int .i64 a2), (4, .ptr 4 0 0), (5, .ptr 5 0 0), (7, .ptr 7 0 0)] [((4, 0), .box [.int .i64 a0.Kind, .int .i64 a0.N, .str a0.Key, .str a0.Value, .sl 5 (List.map enc23 a0.Kids)]), ((5, 0), .box [.int .u64 a1.Trace.Hi, .int .u64 a1.Trace.Lo, .int .i64 a1.First, .int .i64 a1.Last, .bool a1.Sure, .sl 10 (List.map enc41 a1.Spans)]), ((7, 0), .box [.int .u64 a3.Hi, .int .u64 a3.Lo])] [(4, 1), (5, 1), (7, 1)] X) ?_ ?_
  · skip
    refine aw_seq_k (fun K6 hK6 => ?_)
    refine aw_reg ?_
    refine ao_cons (acts_of rfl (does_move (v := .bool x3) (by exact rfl))) (by decide) ?_
    refine ao_cons (acts_of rfl (does_un (v := .bool (!x3)) (by conv => lhs; whnf) rfl)) (by decide) ?_
    refine ao_cons (acts_of rfl (does_move (v := .bool (!x3)) (by exact rfl))) (by decide) ?_
    refine ao_bool (c := (!x3)) 13 rfl (fun c7 => ?_) (fun c7 => ?_)
    · have h := ifT c7 h
      refine ao_cons (acts_skip rfl) (by decide) ?_
      refine ao_cons (acts_skip rfl) (by decide) ?_
      refine ao_cons (acts_skip rfl) (by decide) ?_
      refine ao_cons (acts_of rfl (does_pick (v := .bool true) (by conv => lhs; whnf) (by exact rfl))) (by decide) ?_
      refine ao_cons (acts_of rfl (does_move (v := .bool true) (by exact rfl))) (by decide) ?_
      refine ao_cons (acts_skip rfl) (by decide) ?_
      refine ao_cons (acts_skip rfl) (by decide) ?_
      refine ao_cons (acts_skip rfl) (by decide) ?_
      refine ao_cons (acts_skip rfl) (by decide) ?_
      refine ao_cons (acts_of rfl (does_pick (v := .bool true) (by conv => lhs; whnf) (by exact rfl))) (by decide) ?_
      refine ao_nil_n ?_
      refine hK6 _ ?_
      refine aw_cond_t (by decide) rfl ?_
      refine aw_seq_k (fun K8 hK8 => ?_)
      refine aw_reg ?_
      refine ao_cons (acts_of rfl (does_move (v := .bool x3) (by exact rfl))) (by decide) ?_
      refine ao_cons (acts_of rfl (does_assign (v := .bool x3) (by exact rfl))) (by decide) ?_
      refine ao_nil_n ?_
      refine hK8 _ ?_
      refine aw_ret ?_
      have h := leafR h hk5
      obtain rfl := Option.some.inj h
      exact ret_ok1 (by conv => lhs; whnf) (by conv => lhs; whnf) (by exact rfl) (.inr rfl) rfl
    · have h := ifF c7 h
      refine ao_cons (acts_of rfl (does_load (v := .agg [.int .i64 a0.Kind, .int .i64 a0.N, .str a0.Key, .str a0.Value, .sl 5 (List.map enc23 a0.Kids)]) (by conv => lhs; whnf) (by conv => lhs; whnf) ty24 (by exact rfl))) (by decide) ?_
      obtain ⟨x9, hx9, h⟩ := bnd_some h
      refine ao_cons (acts_of rfl (do_call0 15 false (gleaninglaw13_Few_ok a0 hx9) rfl ent19 rfl rfl)) (by decide) ?_
      refine ao_cons (acts_of rfl (does_un (v := .bool (!x9)) (by conv => lhs; whnf) rfl)) (by decide) ?_
      refine ao_cons (acts_of rfl (does_pick (v := .bool (!x9)) (by conv => lhs; whnf) (by exact rfl))) (by decide) ?_
      refine ao_cons (acts_of rfl (does_move (v := .bool (!x9)) (by exact rfl))) (by decide) ?_
      refine ao_bool (c := (!x9)) 18 rfl (fun c10 => ?_) (fun c10 => ?_)
      · have h := ifT c10 h
        refine ao_cons (acts_skip rfl) (by decide) ?_
        refine ao_cons (acts_skip rfl) (by decide) ?_
        refine ao_cons (acts_skip rfl) (by decide) ?_
        refine ao_cons (acts_skip rfl) (by decide) ?_
        refine ao_cons (acts_of rfl (does_pick (v := .bool true) (by conv => lhs; whnf) (by exact rfl))) (by decide) ?_
        refine ao_nil_n ?_
        refine hK6 _ ?_
        refine aw_cond_t (by decide) rfl ?_
        refine aw_seq_k (fun K11 hK11 => ?_)
        refine aw_reg ?_
        refine ao_cons (acts_of rfl (does_move (v := .bool x3) (by exact rfl))) (by decide) ?_
        refine ao_cons (acts_of rfl (does_assign (v := .bool x3) (by exact rfl))) (by decide) ?_
        refine ao_nil_n ?_
        refine hK11 _ ?_
        refine aw_ret ?_
        have h := leafR h hk5
        obtain rfl := Option.some.inj h
        exact ret_ok1 (by conv => lhs; whnf) (by conv => lhs; whnf) (by exact rfl) (.inr rfl) rfl
      · have h := ifF c10 h
        refine ao_cons (acts_of rfl (does_fieldAddr (q := .ptr 5 0 5) (by conv => lhs; whnf) ty30 rfl ty28 (by decide) (by exact rfl))) (by decide) ?_
        refine ao_cons (acts_of rfl (does_load (v := .sl 10 (List.map enc41 a1.Spans)) (by conv => lhs; whnf) (by conv => lhs; whnf) ty28 (by exact rfl))) (by decide) ?_
        obtain ⟨x12, hx12, h⟩ := bnd_some h
        refine ao_cons (acts_of rfl (do_call0 21 false (gleaninglaw3_FewAll_ok a1.Spans hx12) rfl ent20 rfl rfl)) (by decide) ?_
        refine ao_cons (acts_of rfl (does_un (v := .bool (!x12)) (by conv => lhs; whnf) rfl)) (by decide) ?_
        refine ao_cons (acts_of rfl (does_pick (v := .bool (!x12)) (by conv => lhs; whnf) (by exact rfl))) (by decide) ?_
        refine ao_nil_n ?_
        refine hK6 _ ?_
        refine aw_bool (b := (!x12)) 23 rfl (fun c13 => ?_) (fun c13 => ?_)
        · have h := ifT c13 h
          refine aw_cond_t (by decide) rfl ?_
          refine aw_seq_k (fun K14 hK14 => ?_)
          refine aw_reg ?_
          refine ao_cons (acts_of rfl (does_move (v := .bool x3) (by exact rfl))) (by decide) ?_
          refine ao_cons (acts_of rfl (does_assign (v := .bool x3) (by exact rfl))) (by decide) ?_
          refine ao_nil_n ?_
          refine hK14 _ ?_
          refine aw_ret ?_
          have h := leafR h hk5
          obtain rfl := Option.some.inj h
          exact ret_ok1 (by conv => lhs; whnf) (by conv => lhs; whnf) (by exact rfl) (.inr rfl) rfl
        · have h := ifF c13 h
          refine aw_cond_f (by decide) rfl ?_
          refine aw_skip ?_
          have h := leafL h hk5
          exact ⟨_, reb_lit [(2, .int .i64 a2), (4, .ptr 4 0 0), (5, .ptr 5 0 0), (7, .ptr 7 0 0)] [(4, 0), (5, 0), (7, 0)] [((4, 0), .box [.int .i64 a0.Kind, .int .i64 a0.N, .str a0.Key, .str a0.Value, .sl 5 (List.map enc23 a0.Kids)]), ((5, 0), .box [.int .u64 a1.Trace.Hi, .int .u64 a1.Trace.Lo, .int .i64 a1.First, .int .i64 a1.Last, .bool a1.Sure, .sl 10 (List.map enc41 a1.Spans)]), ((7, 0), .box [.int .u64 a3.Hi, .int .u64 a3.Lo])] [(4, 1), (5, 1), (7, 1)] (envOk_cons (by conv => lhs; whnf) (by exact rfl) (envOk_cons (by conv => lhs; whnf) (by exact rfl) (envOk_cons (by conv => lhs; whnf) (by exact rfl) (envOk_cons (by conv => lhs; whnf) (by exact rfl) envOk_nil)))) (objOk_cons (by conv => lhs; whnf) (by conv => lhs; whnf) (by exact rfl) (by simp) (objOk_cons (by conv => lhs; whnf) (by conv => lhs; whnf) (by exact rfl) (by simp) (objOk_cons (by conv => lhs; whnf) (by conv => lhs; whnf) (by exact rfl) (by simp) objOk_nil))) (nodup_b rfl) (nodup_b rfl) rfl rfl, h, rfl⟩
  · rintro s ⟨h, rfl⟩
    unfold gleaninglaw14_JudgeTells_k0 at h
    refine aw_seq_k (fun K15 hK15 => ?_)
    refine aw_regd (by kernel_rfl) (by decide +kernel) ?_
    refine ao_cons (acts_of rfl (does_load (v := .agg [.int .u64 a3.Hi, .int .u64 a3.Lo]) (by conv => lhs; whnf) (by conv => lhs; whnf) ty27 (by exact rfl))) (by decide) ?_
    obtain ⟨x16, hx16, h⟩ := bnd_some h
    refine ao_cons (acts_of rfl (do_call0 26 false (judge_Hash_ok a3 hx16) rfl ent21 rfl rfl)) (by decide) ?_
    refine ao_cons (acts_of rfl (does_load (v := .agg [.int .u64 a3.Hi, .int .u64 a3.Lo]) (by conv => lhs; whnf) (by conv => lhs; whnf) ty27 (by exact rfl))) (by decide) ?_
    obtain ⟨x17, hx17, h⟩ := bnd_some h
    refine ao_cons (acts_of rfl (do_call0 28 false (gleaningref1_Hash_ok a3 hx17) rfl ent22 rfl rfl)) (by decide) ?_
    refine ao_cons (acts_of rfl (does_bin (v := .bool (x16 == x17)) (by conv => lhs; whnf) (by conv => lhs; whnf) rfl)) (by decide) ?_
    refine ao_cons (acts_of rfl (does_move (v := .bool (x16 == x17)) (by exact rfl))) (by decide) ?_
    refine ao_bool (c := (x16 == x17)) 30 rfl (fun c18 => ?_) (fun c18 => ?_)
    · have h := ifT c18 h
      refine ao_cons (acts_of rfl (does_load (v := .agg [.int .i64 a0.Kind, .int .i64 a0.N, .str a0.Key, .str a0.Value, .sl 5 (List.map enc23 a0.Kids)]) (by conv => lhs; whnf) (by conv => lhs; whnf) ty24 (by exact rfl))) (by decide) ?_
      refine ao_cons (acts_of rfl (does_load (v := .agg [.int .u64 a1.Trace.Hi, .int .u64 a1.Trace.Lo, .int .i64 a1.First, .int .i64 a1.Last, .bool a1.Sure, .sl 10 (List.map enc41 a1.Spans)]) (by conv => lhs; whnf) (by conv => lhs; whnf) ty30 (by exact rfl))) (by decide) ?_
      refine ao_cons (acts_of rfl (does_move (v := .int .i64 a2) (by exact rfl))) (by decide) ?_
      obtain ⟨x19, hx19, h⟩ := bnd_some h
      refine ao_cons (acts_of rfl (do_call0 34 false (judge_Keep_ok a0 a1 a2 hx19) rfl ent23 rfl rfl)) (by decide) ?_
      refine ao_cons (acts_of rfl (does_load (v := .agg [.int .i64 a0.Kind, .int .i64 a0.N, .str a0.Key, .str a0.Value, .sl 5 (List.map enc23 a0.Kids)]) (by conv => lhs; whnf) (by conv => lhs; whnf) ty24 (by exact rfl))) (by decide) ?_
      refine ao_cons (acts_of rfl (does_load (v := .agg [.int .u64 a1.Trace.Hi, .int .u64 a1.Trace.Lo, .int .i64 a1.First, .int .i64 a1.Last, .bool a1.Sure, .sl 10 (List.map enc41 a1.Spans)]) (by conv => lhs; whnf) (by conv => lhs; whnf) ty30 (by exact rfl))) (by decide) ?_
      refine ao_cons (acts_of rfl (does_move (v := .int .i64 a2) (by exact rfl))) (by decide) ?_
      obtain ⟨x20, hx20, h⟩ := bnd_some h
      refine ao_cons (acts_of rfl (do_call0 38 false (gleaningref1_Keep_ok a0 a1 a2 hx20) rfl ent24 rfl rfl)) (by decide) ?_
      refine ao_cons (acts_of rfl (does_eq_bool (v := .bool (x19 == x20)) (by conv => lhs; whnf) (by conv => lhs; whnf) (ty_bool ty4) rfl)) (by decide) ?_
      refine ao_cons (acts_of rfl (does_pick (v := .bool (x19 == x20)) (by conv => lhs; whnf) (by exact rfl))) (by decide) ?_
      refine ao_cons (acts_of rfl (does_assign (v := .bool (x19 == x20)) (by exact rfl))) (by decide) ?_
      refine ao_nil_d (by kernel_rfl) ?_
      refine hK15 _ ?_
      refine aw_ret ?_
      obtain rfl := Option.some.inj h
      exact ret_ok1 (by conv => lhs; whnf) (by conv => lhs; whnf) (by exact rfl) (.inr rfl) rfl
    · have h := ifF c18 h
      refine ao_cons (acts_skip rfl) (by decide) ?_
      refine ao_cons (acts_skip rfl) (by decide) ?_
      refine ao_cons (acts_skip rfl) (by decide) ?_
      refine ao_cons (acts_skip rfl) (by decide) ?_
      refine ao_cons (acts_skip rfl) (by decide) ?_
      refine ao_cons (acts_skip rfl) (by decide) ?_
      refine ao_cons (acts_skip rfl) (by decide) ?_
      refine ao_cons (acts_skip rfl) (by decide) ?_
      refine ao_cons (acts_skip rfl) (by decide) ?_
      refine ao_cons (acts_of rfl (does_pick (v := .bool false) (by conv => lhs; whnf) (by exact rfl))) (by decide) ?_
      refine ao_cons (acts_of rfl (does_assign (v := .bool false) (by exact rfl))) (by decide) ?_
      refine ao_nil_d (by kernel_rfl) ?_
      refine hK15 _ ?_
      refine aw_ret ?_
      obtain rfl := Option.some.inj h
      exact ret_ok1 (by conv => lhs; whnf) (by conv => lhs; whnf) (by exact rfl) (.inr rfl) rfl
def Episode.wf (a : Episode) : Prop := (Trace.wf a.Trace) ∧ (inI .i64 a.First) ∧ (inI .i64 a.Last) ∧ True ∧ ((List.length a.Spans) ≤ maxLen ∧ ∀ y ∈ a.Spans, Span.wf y)
theorem sh30 : ∀ (m : Nat) (cs : List PV), Shape Try.prog m 30 cs → ∃ a : Episode, cs = [.int .u64 a.Trace.Hi, .int .u64 a.Trace.Lo, .int .i64 a.First, .int .i64 a.Last, .bool a.Sure, .sl 10 (List.map enc41 a.Spans)] ∧ (Episode.wf a) := fun m cs h => by
  obtain ⟨hl, m, hf⟩ := shape_struct h Try.underlying30
  have f0 := hf 0 _ rfl
  obtain ⟨a0, e0, w0⟩ := sh27 m _ f0
  rw [show Try.prog.cellsOf _ = 2 by kernel_rfl] at e0
  have f1 := hf 1 _ rfl
  obtain ⟨a1, e1, w1⟩ := sh3 m _ f1
  rw [show Try.prog.cellsOf _ = 1 by kernel_rfl] at e1
  have f2 := hf 2 _ rfl
  obtain ⟨a2, e2, w2⟩ := sh3 m _ f2
  rw [show Try.prog.cellsOf _ = 1 by kernel_rfl] at e2
  have f3 := hf 3 _ rfl
  obtain ⟨a3, e3, w3⟩ := sh4 m _ f3
  rw [show Try.prog.cellsOf _ = 1 by kernel_rfl] at e3
  have f4 := hf 4 _ rfl
  obtain ⟨a4, e4, w4⟩ := sh28 m _ f4
  rw [show Try.prog.cellsOf _ = 1 by kernel_rfl] at e4
  exact ⟨⟨a0, a1, a2, a3, a4⟩, tile_all (l := [(2, [.int .u64 a0.Hi, .int .u64 a0.Lo]), (1, [.int .i64 a1]), (1, [.int .i64 a2]), (1, [.bool a3]), (1, [.sl 10 (List.map enc41 a4)])]) ⟨e0, e1, e2, e3, e4, trivial⟩ hl (by kernel_rfl), ⟨w0, w1, w2, w3, w4⟩⟩
def gleaninglaw14_JudgeLaws_k1 (a0 : Rule) (a1 : Rule) (a2 : Episode) (a3 : Int) : Option Bool :=
  Option.bind (judge_Keep a0 a2 a3) (fun (x36 : Bool) => Option.bind (judge_Keep a1 a2 a3) (fun (x38 : Bool) => Option.bind (judge_Keep (Rule.mk 3 0 (strOf []) (strOf []) (List.take 1 [a0, a1])) a2 a3) (fun (x40 : Bool) => if (x40 == (!x36)) = true then (Option.bind (judge_Keep (Rule.mk 1 0 (strOf []) (strOf []) [a0, a1]) a2 a3) (fun (x42 : Bool) => if x36 = true then (if (x42 == x38) = true then (Option.bind (judge_Keep (Rule.mk 2 0 (strOf []) (strOf []) [a0, a1]) a2 a3) (fun (x45 : Bool) => if x36 = true then (some (x45 == true)) else (some (x45 == x38)))) else (some false)) else (if (x42 == false) = true then (Option.bind (judge_Keep (Rule.mk 2 0 (strOf []) (strOf []) [a0, a1]) a2 a3) (fun (x48 : Bool) => if x36 = true then (some (x48 == true)) else (some (x48 == x38)))) else (some false)))) else (some false))))
def gleaninglaw14_JudgeLaws_k0 (a0 : Rule) (a1 : Rule) (a2 : Episode) (a3 : Int) : Option Bool :=
  gd ((1 : Int) ≤ (List.length [a0, a1] : Int)) (Option.bind (Option.bind (gleaningref1_RightRule (Rule.mk 3 0 (strOf []) (strOf []) (List.take 1 [a0, a1]))) (fun (x26 : Bool) => if (!x26) = true then (some (Sum.inr true)) else (Option.bind (gleaningref1_RightRule (Rule.mk 1 0 (strOf []) (strOf []) [a0, a1])) (fun (x29 : Bool) => if (!x29) = true then (some (Sum.inr true)) else (Option.bind (gleaningref1_RightRule (Rule.mk 2 0 (strOf []) (strOf []) [a0, a1])) (fun (x32 : Bool) => if (!x32) = true then (some (Sum.inr true)) else (some (Sum.inl ())))))))) (Sum.elim (fun (s : Unit) => gleaninglaw14_JudgeLaws_k1 a0 a1 a2 a3) some))
def gleaninglaw14_JudgeLaws (a0 : Rule) (a1 : Rule) (a2 : Episode) (a3 : Int) : Option Bool :=
  Option.bind (gleaninglaw14_alive) (fun (x3 : Bool) => Option.bind (if (!x3) = true then (some (Sum.inr x3)) else (Option.bind (gleaninglaw13_Few a0) (fun (x9 : Bool) => if (!x9) = true then (some (Sum.inr x3)) else (Option.bind (gleaninglaw13_Few a1) (fun (x12 : Bool) => if (!x12) = true then (some (Sum.inr x3)) else (Option.bind (gleaninglaw3_FewAll a2.Spans) (fun (x15 : Bool) => if (!x15) = true then (some (Sum.inr x3)) else (some (Sum.inl ()))))))))) (Sum.elim (fun (s : Unit) => gleaninglaw14_JudgeLaws_k0 a0 a1 a2 a3) some))
set_option maxRecDepth 100000 in
set_option maxHeartbeats 8000000 in
/-- gleaning/gleaninglaw14.JudgeLaws -/
theorem gleaninglaw14_JudgeLaws_ok (a0 : Rule) (a1 : Rule) (a2 : Episode) (a3 : Int) {r : Bool} (h : gleaninglaw14_JudgeLaws a0 a1 a2 a3 = some r) : Ok Try.prog 4 [.agg [.int .i64 a0.Kind, .int .i64 a0.N, .str a0.Key, .str a0.Value, .sl 5 (List.map enc23 a0.Kids)], .agg [.int .i64 a1.Kind, .int .i64 a1.N, .str a1.Key, .str a1.Value, .sl 5 (List.map enc23 a1.Kids)], .agg [.int .u64 a2.Trace.Hi, .int .u64 a2.Trace.Lo, .int .i64 a2.First, .int .i64 a2.Last, .bool a2.Sure, .sl 10 (List.map enc41 a2.Spans)], .int .i64 a3] [] [] (.bool r) [] [] := by
  unfold gleaninglaw14_JudgeLaws at h
  refine ok_of_code Try.func4 rfl (by show (4 : Nat) ≤ _; decide) (Nat.le_refl _) fun X => ?_
  refine aw_seq_k (fun K1 hK1 => ?_)
  refine aw_reg ?_
  refine ao_cons (acts_of rfl (do_box (by conv => lhs; whnf) rfl rfl)) (by decide) ?_
  refine ao_cons (acts_of rfl (do_box (by conv => lhs; whnf) rfl rfl)) (by decide) ?_
  refine ao_cons (acts_of rfl (do_box (by conv => lhs; whnf) rfl rfl)) (by decide) ?_
  refine ao_cons (acts_of rfl (does_assign (v := .bool false) (by exact rfl))) (by decide) ?_
  refine ao_nil_n ?_
  refine hK1 _ ?_
  refine aw_seq_k (fun K2 hK2 => ?_)
  refine aw_reg ?_
  obtain ⟨x3, hx3, h⟩ := bnd_some h
  refine ao_cons (acts_of rfl (do_call0 16 false (gleaninglaw14_alive_ok hx3) rfl ent18 rfl rfl)) (by decide) ?_
  refine ao_cons (acts_of rfl (does_assign (v := .bool x3) (by exact rfl))) (by decide) ?_
  refine ao_nil_n ?_
  refine hK2 _ ?_
  obtain ⟨q4, h, hk5⟩ := bnd_some h
  refine aw_cut (fun s => gleaninglaw14_JudgeLaws_k0 a0 a1 a2 a3 = some r ∧ s = lit [(3, .int .i64 a3), (4, .ptr 4 0 0), (5, .ptr 5 0 0), (6, .ptr 6 0 0)] [((4, 0), .box [.int .i64 a0.Kind, .int .i64 a0.N, .str a0.Key, .str a0.Value, .sl 5 (List.map enc23 a0.Kids)]), ((5, 0), .box [.int .i64 a1.Kind, .int .i64 a1.N, .str a1.Key, .str a1.Value, .sl 5 (List.map enc23 a1.Kids)]), ((6, 0), .box [.int .u64 a2.Trace.Hi, .int .u64 a2.Trace.Lo, .int .i64 a2.First, .int .i64 a2.Last, .bool a2.Sure, .sl 10 (List.map enc41 a2.Spans)])] [(4, 1), (5, 1), (6, 1)] X) ?_ ?_
  · skip
    refine aw_seq_k (fun K6 hK6 => ?_)
    refine aw_reg ?_
    refine ao_cons (acts_of rfl (does_move (v := .bool x3) (by exact rfl))) (by decide) ?_
    refine ao_cons (acts_of rfl (does_un (v := .bool (!x3)) (by conv => lhs; whnf) rfl)) (by decide) ?_
    refine ao_cons (acts_of rfl (does_move (v := .bool (!x3)) (by exact rfl))) (by decide) ?_
    refine ao_bool (c := (!x3)) 19 rfl (fun c7 => ?_) (fun c7 => ?_)
    · have h := ifT c7 h
      refine ao_cons (acts_skip rfl) (by decide) ?_
      refine ao_cons (acts_skip rfl) (by decide) ?_
      refine ao_cons (acts_skip rfl) (by decide) ?_
      refine ao_cons (acts_of rfl (does_pick (v := .bool true) (by conv => lhs; whnf) (by exact rfl))) (by decide) ?_
      refine ao_cons (acts_of rfl (does_move (v := .bool true) (by exact rfl))) (by decide) ?_
      refine ao_cons (acts_skip rfl) (by decide) ?_
      refine ao_cons (acts_skip rfl) (by decide) ?_
      refine ao_cons (acts_skip rfl) (by decide) ?_
      refine ao_cons (acts_of rfl (does_pick (v := .bool true) (by conv => lhs; whnf) (by exact rfl))) (by decide) ?_
      refine ao_cons (acts_of rfl (does_move (v := .bool true) (by exact rfl))) (by decide) ?_
      refine ao_cons (acts_skip rfl) (by decide) ?_
      refine ao_cons (acts_skip rfl) (by decide) ?_
      refine ao_cons (acts_skip rfl) (by decide) ?_
      refine ao_cons (acts_skip rfl) (by decide) ?_
      refine ao_cons (acts_of rfl (does_pick (v := .bool true) (by conv => lhs; whnf) (by exact rfl))) (by decide) ?_
      refine ao_nil_n ?_
      refine hK6 _ ?_
      refine aw_cond_t (by decide) rfl ?_
      refine aw_seq_k (fun K8 hK8 => ?_)
      refine aw_reg ?_
      refine ao_cons (acts_of rfl (does_move (v := .bool x3) (by exact rfl))) (by decide) ?_
      refine ao_cons (acts_of rfl (does_assign (v := .bool x3) (by exact rfl))) (by decide) ?_
      refine ao_nil_n ?_
      refine hK8 _ ?_
      refine aw_ret ?_
      have h := leafR h hk5
      obtain rfl := Option.some.inj h
      exact ret_ok1 (by conv => lhs; whnf) (by conv => lhs; whnf) (by exact rfl) (.inr rfl) rfl
    · have h := ifF c7 h
      refine ao_cons (acts_of rfl (does_load (v := .agg [.int .i64 a0.Kind, .int .i64 a0.N, .str a0.Key, .str a0.Value, .sl 5 (List.map enc23 a0.Kids)]) (by conv => lhs; whnf) (by conv => lhs; whnf) ty24 (by exact rfl))) (by decide) ?_
      obtain ⟨x9, hx9, h⟩ := bnd_some h
      refine ao_cons (acts_of rfl (do_call0 21 false (gleaninglaw13_Few_ok a0 hx9) rfl ent19 rfl rfl)) (by decide) ?_
      refine ao_cons (acts_of rfl (does_un (v := .bool (!x9)) (by conv => lhs; whnf) rfl)) (by decide) ?_
      refine ao_cons (acts_of rfl (does_pick (v := .bool (!x9)) (by conv => lhs; whnf) (by exact rfl))) (by decide) ?_
      refine ao_cons (acts_of rfl (does_move (v := .bool (!x9)) (by exact rfl))) (by decide) ?_
      refine ao_bool (c := (!x9)) 24 rfl (fun c10 => ?_) (fun c10 => ?_)
      · have h := ifT c10 h
        refine ao_cons (acts_skip rfl) (by decide) ?_
        refine ao_cons (acts_skip rfl) (by decide) ?_
        refine ao_cons (acts_skip rfl) (by decide) ?_
        refine ao_cons (acts_of rfl (does_pick (v := .bool true) (by conv => lhs; whnf) (by exact rfl))) (by decide) ?_
        refine ao_cons (acts_of rfl (does_move (v := .bool true) (by exact rfl))) (by decide) ?_
        refine ao_cons (acts_skip rfl) (by decide) ?_
        refine ao_cons (acts_skip rfl) (by decide) ?_
        refine ao_cons (acts_skip rfl) (by decide) ?_
        refine ao_cons (acts_skip rfl) (by decide) ?_
        refine ao_cons (acts_of rfl (does_pick (v := .bool true) (by conv => lhs; whnf) (by exact rfl))) (by decide) ?_
        refine ao_nil_n ?_
        refine hK6 _ ?_
        refine aw_cond_t (by decide) rfl ?_
        refine aw_seq_k (fun K11 hK11 => ?_)
        refine aw_reg ?_
        refine ao_cons (acts_of rfl (does_move (v := .bool x3) (by exact rfl))) (by decide) ?_
        refine ao_cons (acts_of rfl (does_assign (v := .bool x3) (by exact rfl))) (by decide) ?_
        refine ao_nil_n ?_
        refine hK11 _ ?_
        refine aw_ret ?_
        have h := leafR h hk5
        obtain rfl := Option.some.inj h
        exact ret_ok1 (by conv => lhs; whnf) (by conv => lhs; whnf) (by exact rfl) (.inr rfl) rfl
      · have h := ifF c10 h
        refine ao_cons (acts_of rfl (does_load (v := .agg [.int .i64 a1.Kind, .int .i64 a1.N, .str a1.Key, .str a1.Value, .sl 5 (List.map enc23 a1.Kids)]) (by conv => lhs; whnf) (by conv => lhs; whnf) ty24 (by exact rfl))) (by decide) ?_
        obtain ⟨x12, hx12, h⟩ := bnd_some h
        refine ao_cons (acts_of rfl (do_call0 26 false (gleaninglaw13_Few_ok a1 hx12) rfl ent19 rfl rfl)) (by decide) ?_
        refine ao_cons (acts_of rfl (does_un (v := .bool (!x12)) (by conv => lhs; whnf) rfl)) (by decide) ?_
        refine ao_cons (acts_of rfl (does_pick (v := .bool (!x12)) (by conv => lhs; whnf) (by exact rfl))) (by decide) ?_
        refine ao_cons (acts_of rfl (does_move (v := .bool (!x12)) (by exact rfl))) (by decide) ?_
        refine ao_bool (c := (!x12)) 29 rfl (fun c13 => ?_) (fun c13 => ?_)
        · have h := ifT c13 h
          refine ao_cons (acts_skip rfl) (by decide) ?_
          refine ao_cons (acts_skip rfl) (by decide) ?_
          refine ao_cons (acts_skip rfl) (by decide) ?_
          refine ao_cons (acts_skip rfl) (by decide) ?_
          refine ao_cons (acts_of rfl (does_pick (v := .bool true) (by conv => lhs; whnf) (by exact rfl))) (by decide) ?_
          refine ao_nil_n ?_
          refine hK6 _ ?_
          refine aw_cond_t (by decide) rfl ?_
          refine aw_seq_k (fun K14 hK14 => ?_)
          refine aw_reg ?_
          refine ao_cons (acts_of rfl (does_move (v := .bool x3) (by exact rfl))) (by decide) ?_
          refine ao_cons (acts_of rfl (does_assign (v := .bool x3) (by exact rfl))) (by decide) ?_
          refine ao_nil_n ?_
          refine hK14 _ ?_
          refine aw_ret ?_
          have h := leafR h hk5
          obtain rfl := Option.some.inj h
          exact ret_ok1 (by conv => lhs; whnf) (by conv => lhs; whnf) (by exact rfl) (.inr rfl) rfl
        · have h := ifF c13 h
          refine ao_cons (acts_of rfl (does_fieldAddr (q := .ptr 6 0 5) (by conv => lhs; whnf) ty30 rfl ty28 (by decide) (by exact rfl))) (by decide) ?_
          refine ao_cons (acts_of rfl (does_load (v := .sl 10 (List.map enc41 a2.Spans)) (by conv => lhs; whnf) (by conv => lhs; whnf) ty28 (by exact rfl))) (by decide) ?_
          obtain ⟨x15, hx15, h⟩ := bnd_some h
          refine ao_cons (acts_of rfl (do_call0 32 false (gleaninglaw3_FewAll_ok a2.Spans hx15) rfl ent20 rfl rfl)) (by decide) ?_
          refine ao_cons (acts_of rfl (does_un (v := .bool (!x15)) (by conv => lhs; whnf) rfl)) (by decide) ?_
          refine ao_cons (acts_of rfl (does_pick (v := .bool (!x15)) (by conv => lhs; whnf) (by exact rfl))) (by decide) ?_
          refine ao_nil_n ?_
          refine hK6 _ ?_
          refine aw_bool (b := (!x15)) 34 rfl (fun c16 => ?_) (fun c16 => ?_)
          · have h := ifT c16 h
            refine aw_cond_t (by decide) rfl ?_
            refine aw_seq_k (fun K17 hK17 => ?_)
            refine aw_reg ?_
            refine ao_cons (acts_of rfl (does_move (v := .bool x3) (by exact rfl))) (by decide) ?_
            refine ao_cons (acts_of rfl (does_assign (v := .bool x3) (by exact rfl))) (by decide) ?_
            refine ao_nil_n ?_
            refine hK17 _ ?_
            refine aw_ret ?_
            have h := leafR h hk5
            obtain rfl := Option.some.inj h
            exact ret_ok1 (by conv => lhs; whnf) (by conv => lhs; whnf) (by exact rfl) (.inr rfl) rfl
          · have h := ifF c16 h
            refine aw_cond_f (by decide) rfl ?_
            refine aw_skip ?_
            have h := leafL h hk5
            exact ⟨_, reb_lit [(3, .int .i64 a3), (4, .ptr 4 0 0), (5, .ptr 5 0 0), (6, .ptr 6 0 0)] [(4, 0), (5, 0), (6, 0)] [((4, 0), .box [.int .i64 a0.Kind, .int .i64 a0.N, .str a0.Key, .str a0.Value, .sl 5 (List.map enc23 a0.Kids)]), ((5, 0), .box [.int .i64 a1.Kind, .int .i64 a1.N, .str a1.Key, .str a1.Value, .sl 5 (List.map enc23 a1.Kids)]), ((6, 0), .box [.int .u64 a2.Trace.Hi, .int .u64 a2.Trace.Lo, .int .i64 a2.First, .int .i64 a2.Last, .bool a2.Sure, .sl 10 (List.map enc41 a2.Spans)])] [(4, 1), (5, 1), (6, 1)] (envOk_cons (by conv => lhs; whnf) (by exact rfl) (envOk_cons (by conv => lhs; whnf) (by exact rfl) (envOk_cons (by conv => lhs; whnf) (by exact rfl) (envOk_cons (by conv => lhs; whnf) (by exact rfl) envOk_nil)))) (objOk_cons (by conv => lhs; whnf) (by conv => lhs; whnf) (by exact rfl) (by simp) (objOk_cons (by conv => lhs; whnf) (by conv => lhs; whnf) (by exact rfl) (by simp) (objOk_cons (by conv => lhs; whnf) (by conv => lhs; whnf) (by exact rfl) (by simp) objOk_nil))) (nodup_b rfl) (nodup_b rfl) rfl rfl, h, rfl⟩
  · rintro s ⟨h, rfl⟩
    unfold gleaninglaw14_JudgeLaws_k0 at h
    refine aw_seq_k (fun K18 hK18 => ?_)
    refine aw_reg ?_
    refine ao_cons (acts_of rfl (does_load (v := .agg [.int .i64 a0.Kind, .int .i64 a0.N, .str a0.Key, .str a0.Value, .sl 5 (List.map enc23 a0.Kids)]) (by conv => lhs; whnf) (by conv => lhs; whnf) ty24 (by exact rfl))) (by decide) ?_
    refine ao_cons (acts_of rfl (does_load (v := .agg [.int .i64 a1.Kind, .int .i64 a1.N, .str a1.Key, .str a1.Value, .sl 5 (List.map enc23 a1.Kids)]) (by conv => lhs; whnf) (by conv => lhs; whnf) ty24 (by exact rfl))) (by decide) ?_
    refine ao_cons (acts_of rfl (do_buildSliceE (f := enc23) (ls := [a0, a1]) (xs := [.agg [.int .i64 a0.Kind, .int .i64 a0.N, .str a0.Key, .str a0.Value, .sl 5 (List.map enc23 a0.Kids)], .agg [.int .i64 a1.Kind, .int .i64 a1.N, .str a1.Key, .str a1.Value, .sl 5 (List.map enc23 a1.Kids)]]) (map_consE (enc23_eq _) (map_consE (enc23_eq _) rfl)) ty22 ty24 rfl rfl rfl rfl rfl rfl rfl rfl)) (by decide) ?_
    refine ao_cons (acts_of rfl (does_assign (v := .own 38 0) (by exact rfl))) (by decide) ?_
    refine ao_nil_n ?_
    refine hK18 _ ?_
    refine aw_seq_k (fun K19 hK19 => ?_)
    refine aw_reg ?_
    refine ao_cons (acts_of rfl (does_move (v := .own 38 0) (by exact rfl))) (by decide) ?_
    obtain ⟨g20, h⟩ := gd_some h
    refine ao_cons (acts_of rfl (does_frz (d := 38) (n := 0) (by conv => lhs; whnf) (does_slice_own (l := 0) (k := 1) (by conv => lhs; whnf) (by conv => lhs; whnf) ty22 ty24 bd_none (bd_some (by conv => lhs; whnf) (by exact rfl)) (by (try simp only [List.length_map]); omega) (by (try simp only [List.length_map]); omega) (by exact part_h _ _)))) (by decide) ?_
    refine ao_cons (acts_of rfl (do_build_struct (cs := [.int .i64 3, .int .i64 0, .str (strOf []), .str (strOf []), .sl 5 (List.map enc23 (List.take 1 [a0, a1]))]) ty24 rfl [⟨.int .i64, 1, 8, [.int .i64 0]⟩, ⟨.int .i64, 1, 8, [.int .i64 0]⟩, ⟨.str, 1, 16, [.str ByteArray.empty]⟩, ⟨.str, 1, 16, [.str ByteArray.empty]⟩, ⟨.slice 24, 1, 24, [.nil]⟩] (by simp only [List.map, ty22, ty3, ty9]) (by rfl) (by exact rfl))) (by decide) ?_
    refine ao_cons (acts_of rfl (do_new ty24 rfl rfl)) (by decide) ?_
    refine ao_cons (acts_of rfl (do_store (cs' := [.int .i64 3, .int .i64 0, .str (strOf []), .str (strOf []), .sl 5 (List.map enc23 (List.take 1 [a0, a1]))]) (by conv => lhs; whnf) (by conv => lhs; whnf) (by conv => lhs; whnf) ty24 rfl rfl rfl (by exact rfl))) (by decide) ?_
    refine ao_nil_n ?_
    refine hK19 _ ?_
    refine aw_seq_k (fun K21 hK21 => ?_)
    refine aw_reg ?_
    refine ao_cons (acts_of rfl (does_move (v := .own 38 0) (by exact rfl))) (by decide) ?_
    refine ao_cons (acts_of rfl (do_build_struct (cs := [.int .i64 1, .int .i64 0, .str (strOf []), .str (strOf []), .own 38 0]) ty24 rfl [⟨.int .i64, 1, 8, [.int .i64 0]⟩, ⟨.int .i64, 1, 8, [.int .i64 0]⟩, ⟨.str, 1, 16, [.str ByteArray.empty]⟩, ⟨.str, 1, 16, [.str ByteArray.empty]⟩, ⟨.slice 24, 1, 24, [.nil]⟩] (by simp only [List.map, ty22, ty3, ty9]) (by rfl) (by exact rfl))) (by decide) ?_
    refine ao_cons (acts_of rfl (do_new ty24 rfl rfl)) (by decide) ?_
    refine ao_cons (acts_of rfl (do_store (cs' := [.int .i64 1, .int .i64 0, .str (strOf []), .str (strOf []), .own 38 0]) (by conv => lhs; whnf) (by conv => lhs; whnf) (by conv => lhs; whnf) ty24 rfl rfl rfl (by exact rfl))) (by decide) ?_
    refine ao_nil_n ?_
    refine hK21 _ ?_
    refine aw_seq_k (fun K22 hK22 => ?_)
    refine aw_reg ?_
    refine ao_cons (acts_of rfl (does_move (v := .own 38 0) (by exact rfl))) (by decide) ?_
    refine ao_cons (acts_of rfl (do_build_struct (cs := [.int .i64 2, .int .i64 0, .str (strOf []), .str (strOf []), .own 38 0]) ty24 rfl [⟨.int .i64, 1, 8, [.int .i64 0]⟩, ⟨.int .i64, 1, 8, [.int .i64 0]⟩, ⟨.str, 1, 16, [.str ByteArray.empty]⟩, ⟨.str, 1, 16, [.str ByteArray.empty]⟩, ⟨.slice 24, 1, 24, [.nil]⟩] (by simp only [List.map, ty22, ty3, ty9]) (by rfl) (by exact rfl))) (by decide) ?_
    refine ao_cons (acts_of rfl (do_new ty24 rfl rfl)) (by decide) ?_
    refine ao_cons (acts_of rfl (do_store (cs' := [.int .i64 2, .int .i64 0, .str (strOf []), .str (strOf []), .own 38 0]) (by conv => lhs; whnf) (by conv => lhs; whnf) (by conv => lhs; whnf) ty24 rfl rfl rfl (by exact rfl))) (by decide) ?_
    refine ao_nil_n ?_
    refine hK22 _ ?_
    obtain ⟨q23, h, hk24⟩ := bnd_some h
    refine aw_cut (fun s => gleaninglaw14_JudgeLaws_k1 a0 a1 a2 a3 = some r ∧ s = lit [(3, .int .i64 a3), (4, .ptr 4 0 0), (5, .ptr 5 0 0), (6, .ptr 6 0 0), (11, .ptr 11 0 0), (12, .ptr 12 0 0), (13, .ptr 13 0 0)] [((4, 0), .box [.int .i64 a0.Kind, .int .i64 a0.N, .str a0.Key, .str a0.Value, .sl 5 (List.map enc23 a0.Kids)]), ((5, 0), .box [.int .i64 a1.Kind, .int .i64 a1.N, .str a1.Key, .str a1.Value, .sl 5 (List.map enc23 a1.Kids)]), ((6, 0), .box [.int .u64 a2.Trace.Hi, .int .u64 a2.Trace.Lo, .int .i64 a2.First, .int .i64 a2.Last, .bool a2.Sure, .sl 10 (List.map enc41 a2.Spans)]), ((11, 0), .box [.int .i64 3, .int .i64 0, .str (strOf []), .str (strOf []), .sl 5 (List.map enc23 (List.take 1 [a0, a1]))]), ((12, 0), .box [.int .i64 1, .int .i64 0, .str (strOf []), .str (strOf []), .own 38 0]), ((38, 0), .arr 24 5 true (List.map enc23 [a0, a1])), ((13, 0), .box [.int .i64 2, .int .i64 0, .str (strOf []), .str (strOf []), .own 38 0])] [(4, 1), (5, 1), (6, 1), (11, 1), (12, 1), (13, 1), (38, 1)] X) ?_ ?_
    · skip
      refine aw_seq_k (fun K25 hK25 => ?_)
      refine aw_reg ?_
      refine ao_cons (acts_of rfl (does_load (v := .agg [.int .i64 3, .int .i64 0, .str (strOf []), .str (strOf []), .sl 5 (List.map enc23 (List.take 1 [a0, a1]))]) (by conv => lhs; whnf) (by conv => lhs; whnf) ty24 (by exact rfl))) (by decide) ?_
      obtain ⟨x26, hx26, h⟩ := bnd_some h
      refine ao_cons (acts_of rfl (do_call0 47 false (gleaningref1_RightRule_ok (Rule.mk 3 0 (strOf []) (strOf []) (List.take 1 [a0, a1])) hx26) rfl ent25 rfl rfl)) (by decide) ?_
      refine ao_cons (acts_of rfl (does_un (v := .bool (!x26)) (by conv => lhs; whnf) rfl)) (by decide) ?_
      refine ao_cons (acts_of rfl (does_move (v := .bool (!x26)) (by exact rfl))) (by decide) ?_
      refine ao_bool (c := (!x26)) 49 rfl (fun c27 => ?_) (fun c27 => ?_)
      · have h := ifT c27 h
        refine ao_cons (acts_skip rfl) (by decide) ?_
        refine ao_cons (acts_skip rfl) (by decide) ?_
        refine ao_cons (acts_skip rfl) (by decide) ?_
        refine ao_cons (acts_of rfl (does_pick (v := .bool true) (by conv => lhs; whnf) (by exact rfl))) (by decide) ?_
        refine ao_cons (acts_of rfl (does_move (v := .bool true) (by exact rfl))) (by decide) ?_
        refine ao_cons (acts_skip rfl) (by decide) ?_
        refine ao_cons (acts_skip rfl) (by decide) ?_
        refine ao_cons (acts_skip rfl) (by decide) ?_
        refine ao_cons (acts_of rfl (does_pick (v := .bool true) (by conv => lhs; whnf) (by exact rfl))) (by decide) ?_
        refine ao_nil_n ?_
        refine hK25 _ ?_
        refine aw_cond_t (by decide) rfl ?_
        refine aw_seq_k (fun K28 hK28 => ?_)
        refine aw_reg ?_
        refine ao_cons (acts_of rfl (does_assign (v := .bool true) (by exact rfl))) (by decide) ?_
        refine ao_nil_n ?_
        refine hK28 _ ?_
        refine aw_ret ?_
        have h := leafR h hk24
        obtain rfl := Option.some.inj h
        exact ret_ok1 (by conv => lhs; whnf) (by conv => lhs; whnf) (by exact rfl) (.inr rfl) rfl
      · have h := ifF c27 h
        refine ao_cons (acts_of rfl (does_load (v := .agg [.int .i64 1, .int .i64 0, .str (strOf []), .str (strOf []), .own 38 0]) (by conv => lhs; whnf) (by conv => lhs; whnf) ty24 (by exact rfl))) (by decide) ?_
        obtain ⟨x29, hx29, h⟩ := bnd_some h
        refine ao_cons (acts_of rfl (do_callG (bcs := []) [] [] [(38, 0)] 51 false (gleaningref1_RightRule_ok (Rule.mk 1 0 (strOf []) (strOf []) [a0, a1]) hx29) rfl ent25 trivial trivial rfl rfl rfl rfl rfl rfl rfl rfl (.inr ⟨rfl, rfl, trivial⟩))) (by decide) ?_
        refine ao_cons (acts_of rfl (does_un (v := .bool (!x29)) (by conv => lhs; whnf) rfl)) (by decide) ?_
        refine ao_cons (acts_of rfl (does_pick (v := .bool (!x29)) (by conv => lhs; whnf) (by exact rfl))) (by decide) ?_
        refine ao_cons (acts_of rfl (does_move (v := .bool (!x29)) (by exact rfl))) (by decide) ?_
        refine ao_bool (c := (!x29)) 54 rfl (fun c30 => ?_) (fun c30 => ?_)
        · have h := ifT c30 h
          refine ao_cons (acts_skip rfl) (by decide) ?_
          refine ao_cons (acts_skip rfl) (by decide) ?_
          refine ao_cons (acts_skip rfl) (by decide) ?_
          refine ao_cons (acts_of rfl (does_pick (v := .bool true) (by conv => lhs; whnf) (by exact rfl))) (by decide) ?_
          refine ao_nil_n ?_
          refine hK25 _ ?_
          refine aw_cond_t (by decide) rfl ?_
          refine aw_seq_k (fun K31 hK31 => ?_)
          refine aw_reg ?_
          refine ao_cons (acts_of rfl (does_assign (v := .bool true) (by exact rfl))) (by decide) ?_
          refine ao_nil_n ?_
          refine hK31 _ ?_
          refine aw_ret ?_
          have h := leafR h hk24
          obtain rfl := Option.some.inj h
          exact ret_ok1 (by conv => lhs; whnf) (by conv => lhs; whnf) (by exact rfl) (.inr rfl) rfl
        · have h := ifF c30 h
          refine ao_cons (acts_of rfl (does_load (v := .agg [.int .i64 2, .int .i64 0, .str (strOf []), .str (strOf []), .own 38 0]) (by conv => lhs; whnf) (by conv => lhs; whnf) ty24 (by exact rfl))) (by decide) ?_
          obtain ⟨x32, hx32, h⟩ := bnd_some h
          refine ao_cons (acts_of rfl (do_callG (bcs := []) [] [] [(38, 0)] 56 false (gleaningref1_RightRule_ok (Rule.mk 2 0 (strOf []) (strOf []) [a0, a1]) hx32) rfl ent25 trivial trivial rfl rfl rfl rfl rfl rfl rfl rfl (.inr ⟨rfl, rfl, trivial⟩))) (by decide) ?_
          refine ao_cons (acts_of rfl (does_un (v := .bool (!x32)) (by conv => lhs; whnf) rfl)) (by decide) ?_
          refine ao_cons (acts_of rfl (does_pick (v := .bool (!x32)) (by conv => lhs; whnf) (by exact rfl))) (by decide) ?_
          refine ao_nil_n ?_
          refine hK25 _ ?_
          refine aw_bool (b := (!x32)) 58 rfl (fun c33 => ?_) (fun c33 => ?_)
          · have h := ifT c33 h
            refine aw_cond_t (by decide) rfl ?_
            refine aw_seq_k (fun K34 hK34 => ?_)
            refine aw_reg ?_
            refine ao_cons (acts_of rfl (does_assign (v := .bool true) (by exact rfl))) (by decide) ?_
            refine ao_nil_n ?_
            refine hK34 _ ?_
            refine aw_ret ?_
            have h := leafR h hk24
            obtain rfl := Option.some.inj h
            exact ret_ok1 (by conv => lhs; whnf) (by conv => lhs; whnf) (by exact rfl) (.inr rfl) rfl
          · have h := ifF c33 h
            refine aw_cond_f (by decide) rfl ?_
            refine aw_skip ?_
            have h := leafL h hk24
            exact ⟨_, reb_lit [(3, .int .i64 a3), (4, .ptr 4 0 0), (5, .ptr 5 0 0), (6, .ptr 6 0 0), (11, .ptr 11 0 0), (12, .ptr 12 0 0), (13, .ptr 13 0 0)] [(4, 0), (5, 0), (6, 0), (11, 0), (12, 0), (38, 0), (13, 0)] [((4, 0), .box [.int .i64 a0.Kind, .int .i64 a0.N, .str a0.Key, .str a0.Value, .sl 5 (List.map enc23 a0.Kids)]), ((5, 0), .box [.int .i64 a1.Kind, .int .i64 a1.N, .str a1.Key, .str a1.Value, .sl 5 (List.map enc23 a1.Kids)]), ((6, 0), .box [.int .u64 a2.Trace.Hi, .int .u64 a2.Trace.Lo, .int .i64 a2.First, .int .i64 a2.Last, .bool a2.Sure, .sl 10 (List.map enc41 a2.Spans)]), ((11, 0), .box [.int .i64 3, .int .i64 0, .str (strOf []), .str (strOf []), .sl 5 (List.map enc23 (List.take 1 [a0, a1]))]), ((12, 0), .box [.int .i64 1, .int .i64 0, .str (strOf []), .str (strOf []), .own 38 0]), ((38, 0), .arr 24 5 true (List.map enc23 [a0, a1])), ((13, 0), .box [.int .i64 2, .int .i64 0, .str (strOf []), .str (strOf []), .own 38 0])] [(4, 1), (5, 1), (6, 1), (11, 1), (12, 1), (13, 1), (38, 1)] (envOk_cons (by conv => lhs; whnf) (by exact rfl) (envOk_cons (by conv => lhs; whnf) (by exact rfl) (envOk_cons (by conv => lhs; whnf) (by exact rfl) (envOk_cons (by conv => lhs; whnf) (by exact rfl) (envOk_cons (by conv => lhs; whnf) (by exact rfl) (envOk_cons (by conv => lhs; whnf) (by exact rfl) (envOk_cons (by conv => lhs; whnf) (by exact rfl) envOk_nil))))))) (objOk_cons (by conv => lhs; whnf) (by conv => lhs; whnf) (by exact rfl) (by simp) (objOk_cons (by conv => lhs; whnf) (by conv => lhs; whnf) (by exact rfl) (by simp) (objOk_cons (by conv => lhs; whnf) (by conv => lhs; whnf) (by exact rfl) (by simp) (objOk_cons (by conv => lhs; whnf) (by conv => lhs; whnf) (by exact rfl) (by simp) (objOk_cons (by conv => lhs; whnf) (by conv => lhs; whnf) (by exact rfl) (by simp) (objOk_cons (by conv => lhs; whnf) (by conv => lhs; whnf) (by exact rfl) (by simp) (objOk_cons (by conv => lhs; whnf) (by conv => lhs; whnf) (by exact rfl) (by simp) objOk_nil))))))) (nodup_b rfl) (nodup_b rfl) rfl rfl, h, rfl⟩
    · rintro s ⟨h, rfl⟩
      unfold gleaninglaw14_JudgeLaws_k1 at h
      refine aw_seq_k (fun K35 hK35 => ?_)
      refine aw_reg ?_
      refine ao_cons (acts_of rfl (does_load (v := .agg [.int .i64 a0.Kind, .int .i64 a0.N, .str a0.Key, .str a0.Value, .sl 5 (List.map enc23 a0.Kids)]) (by conv => lhs; whnf) (by conv => lhs; whnf) ty24 (by exact rfl))) (by decide) ?_
      refine ao_cons (acts_of rfl (does_load (v := .agg [.int .u64 a2.Trace.Hi, .int .u64 a2.Trace.Lo, .int .i64 a2.First, .int .i64 a2.Last, .bool a2.Sure, .sl 10 (List.map enc41 a2.Spans)]) (by conv => lhs; whnf) (by conv => lhs; whnf) ty30 (by exact rfl))) (by decide) ?_
      refine ao_cons (acts_of rfl (does_move (v := .int .i64 a3) (by exact rfl))) (by decide) ?_
      obtain ⟨x36, hx36, h⟩ := bnd_some h
      refine ao_cons (acts_of rfl (do_call0 62 false (judge_Keep_ok a0 a2 a3 hx36) rfl ent23 rfl rfl)) (by decide) ?_
      refine ao_cons (acts_of rfl (does_assign (v := .bool x36) (by exact rfl))) (by decide) ?_
      refine ao_nil_n ?_
      refine hK35 _ ?_
      refine aw_seq_k (fun K37 hK37 => ?_)
      refine aw_reg ?_
      refine ao_cons (acts_of rfl (does_load (v := .agg [.int .i64 a1.Kind, .int .i64 a1.N, .str a1.Key, .str a1.Value, .sl 5 (List.map enc23 a1.Kids)]) (by conv => lhs; whnf) (by conv => lhs; whnf) ty24 (by exact rfl))) (by decide) ?_
      refine ao_cons (acts_of rfl (does_load (v := .agg [.int .u64 a2.Trace.Hi, .int .u64 a2.Trace.Lo, .int .i64 a2.First, .int .i64 a2.Last, .bool a2.Sure, .sl 10 (List.map enc41 a2.Spans)]) (by conv => lhs; whnf) (by conv => lhs; whnf) ty30 (by exact rfl))) (by decide) ?_
      refine ao_cons (acts_of rfl (does_move (v := .int .i64 a3) (by exact rfl))) (by decide) ?_
      obtain ⟨x38, hx38, h⟩ := bnd_some h
      refine ao_cons (acts_of rfl (do_call0 66 false (judge_Keep_ok a1 a2 a3 hx38) rfl ent23 rfl rfl)) (by decide) ?_
      refine ao_cons (acts_of rfl (does_assign (v := .bool x38) (by exact rfl))) (by decide) ?_
      refine ao_nil_n ?_
      refine hK37 _ ?_
      refine aw_seq_k (fun K39 hK39 => ?_)
      refine aw_reg ?_
      refine ao_cons (acts_of rfl (does_load (v := .agg [.int .i64 3, .int .i64 0, .str (strOf []), .str (strOf []), .sl 5 (List.map enc23 (List.take 1 [a0, a1]))]) (by conv => lhs; whnf) (by conv => lhs; whnf) ty24 (by exact rfl))) (by decide) ?_
      refine ao_cons (acts_of rfl (does_load (v := .agg [.int .u64 a2.Trace.Hi, .int .u64 a2.Trace.Lo, .int .i64 a2.First, .int .i64 a2.Last, .bool a2.Sure, .sl 10 (List.map enc41 a2.Spans)]) (by conv => lhs; whnf) (by conv => lhs; whnf) ty30 (by exact rfl))) (by decide) ?_
      refine ao_cons (acts_of rfl (does_move (v := .int .i64 a3) (by exact rfl))) (by decide) ?_
      obtain ⟨x40, hx40, h⟩ := bnd_some h
      refine ao_cons (acts_of rfl (do_call0 70 false (judge_Keep_ok (Rule.mk 3 0 (strOf []) (strOf []) (List.take 1 [a0, a1])) a2 a3 hx40) rfl ent23 rfl rfl)) (by decide) ?_
      refine ao_cons (acts_of rfl (does_move (v := .bool x36) (by exact rfl))) (by decide) ?_
      refine ao_cons (acts_of rfl (does_un (v := .bool (!x36)) (by conv => lhs; whnf) rfl)) (by decide) ?_
      refine ao_cons (acts_of rfl (does_eq_bool (v := .bool (x40 == (!x36))) (by conv => lhs; whnf) (by conv => lhs; whnf) (ty_bool ty4) rfl)) (by decide) ?_
      refine ao_cons (acts_of rfl (does_move (v := .bool (x40 == (!x36))) (by exact rfl))) (by decide) ?_
      refine ao_bool (c := (x40 == (!x36))) 74 rfl (fun c41 => ?_) (fun c41 => ?_)
      · have h := ifT c41 h
        refine ao_cons (acts_of rfl (does_load (v := .agg [.int .i64 1, .int .i64 0, .str (strOf []), .str (strOf []), .own 38 0]) (by conv => lhs; whnf) (by conv => lhs; whnf) ty24 (by exact rfl))) (by decide) ?_
        refine ao_cons (acts_of rfl (does_load (v := .agg [.int .u64 a2.Trace.Hi, .int .u64 a2.Trace.Lo, .int .i64 a2.First, .int .i64 a2.Last, .bool a2.Sure, .sl 10 (List.map enc41 a2.Spans)]) (by conv => lhs; whnf) (by conv => lhs; whnf) ty30 (by exact rfl))) (by decide) ?_
        refine ao_cons (acts_of rfl (does_move (v := .int .i64 a3) (by exact rfl))) (by decide) ?_
        obtain ⟨x42, hx42, h⟩ := bnd_some h
        refine ao_cons (acts_of rfl (do_callG (bcs := []) [] [] [(38, 0)] 78 false (judge_Keep_ok (Rule.mk 1 0 (strOf []) (strOf []) [a0, a1]) a2 a3 hx42) rfl ent23 trivial trivial rfl rfl rfl rfl rfl rfl rfl rfl (.inr ⟨rfl, rfl, trivial⟩))) (by decide) ?_
        refine ao_cons (acts_of rfl (does_move (v := .bool x36) (by exact rfl))) (by decide) ?_
        refine ao_cons (acts_of rfl (does_move (v := .bool x36) (by exact rfl))) (by decide) ?_
        refine ao_bool (c := x36) 80 rfl (fun c43 => ?_) (fun c43 => ?_)
        · have h := ifT c43 h
          refine ao_cons (acts_of rfl (does_move (v := .bool x38) (by exact rfl))) (by decide) ?_
          refine ao_cons (acts_of rfl (does_pick (v := .bool x38) (by conv => lhs; whnf) (by exact rfl))) (by decide) ?_
          refine ao_cons (acts_of rfl (does_eq_bool (v := .bool (x42 == x38)) (by conv => lhs; whnf) (by conv => lhs; whnf) (ty_bool ty4) rfl)) (by decide) ?_
          refine ao_cons (acts_of rfl (does_pick (v := .bool (x42 == x38)) (by conv => lhs; whnf) (by exact rfl))) (by decide) ?_
          refine ao_cons (acts_of rfl (does_move (v := .bool (x42 == x38)) (by exact rfl))) (by decide) ?_
          refine ao_bool (c := (x42 == x38)) 85 rfl (fun c44 => ?_) (fun c44 => ?_)
          · have h := ifT c44 h
            refine ao_cons (acts_of rfl (does_load (v := .agg [.int .i64 2, .int .i64 0, .str (strOf []), .str (strOf []), .own 38 0]) (by conv => lhs; whnf) (by conv => lhs; whnf) ty24 (by exact rfl))) (by decide) ?_
            refine ao_cons (acts_of rfl (does_load (v := .agg [.int .u64 a2.Trace.Hi, .int .u64 a2.Trace.Lo, .int .i64 a2.First, .int .i64 a2.Last, .bool a2.Sure, .sl 10 (List.map enc41 a2.Spans)]) (by conv => lhs; whnf) (by conv => lhs; whnf) ty30 (by exact rfl))) (by decide) ?_
            refine ao_cons (acts_of rfl (does_move (v := .int .i64 a3) (by exact rfl))) (by decide) ?_
            obtain ⟨x45, hx45, h⟩ := bnd_some h
            refine ao_cons (acts_of rfl (do_callG (bcs := []) [] [] [(38, 0)] 89 false (judge_Keep_ok (Rule.mk 2 0 (strOf []) (strOf []) [a0, a1]) a2 a3 hx45) rfl ent23 trivial trivial rfl rfl rfl rfl rfl rfl rfl rfl (.inr ⟨rfl, rfl, trivial⟩))) (by decide) ?_
            refine ao_cons (acts_of rfl (does_move (v := .bool x36) (by exact rfl))) (by decide) ?_
            refine ao_cons (acts_of rfl (does_move (v := .bool x36) (by exact rfl))) (by decide) ?_
            refine ao_bool (c := x36) 91 rfl (fun c46 => ?_) (fun c46 => ?_)
            · have h := ifT c46 h
              refine ao_cons (acts_skip rfl) (by decide) ?_
              refine ao_cons (acts_of rfl (does_pick (v := .bool true) (by conv => lhs; whnf) (by exact rfl))) (by decide) ?_
              refine ao_cons (acts_of rfl (does_eq_bool (v := .bool (x45 == true)) (by conv => lhs; whnf) (by conv => lhs; whnf) (ty_bool ty4) rfl)) (by decide) ?_
              refine ao_cons (acts_of rfl (does_pick (v := .bool (x45 == true)) (by conv => lhs; whnf) (by exact rfl))) (by decide) ?_
              refine ao_cons (acts_of rfl (does_assign (v := .bool (x45 == true)) (by exact rfl))) (by decide) ?_
              refine ao_nil_n ?_
              refine hK39 _ ?_
              refine aw_ret ?_
              obtain rfl := Option.some.inj h
              exact ret_ok1 (by conv => lhs; whnf) (by conv => lhs; whnf) (by exact rfl) (.inr rfl) rfl
            · have h := ifF c46 h
              refine ao_cons (acts_of rfl (does_move (v := .bool x38) (by exact rfl))) (by decide) ?_
              refine ao_cons (acts_of rfl (does_pick (v := .bool x38) (by conv => lhs; whnf) (by exact rfl))) (by decide) ?_
              refine ao_cons (acts_of rfl (does_eq_bool (v := .bool (x45 == x38)) (by conv => lhs; whnf) (by conv => lhs; whnf) (ty_bool ty4) rfl)) (by decide) ?_
              refine ao_cons (acts_of rfl (does_pick (v := .bool (x45 == x38)) (by conv => lhs; whnf) (by exact rfl))) (by decide) ?_
              refine ao_cons (acts_of rfl (does_assign (v := .bool (x45 == x38)) (by exact rfl))) (by decide) ?_
              refine ao_nil_n ?_
              refine hK39 _ ?_
              refine aw_ret ?_
              obtain rfl := Option.some.inj h
              exact ret_ok1 (by conv => lhs; whnf) (by conv => lhs; whnf) (by exact rfl) (.inr rfl) rfl
          · have h := ifF c44 h
            refine ao_cons (acts_skip rfl) (by decide) ?_
            refine ao_cons (acts_skip rfl) (by decide) ?_
            refine ao_cons (acts_skip rfl) (by decide) ?_
            refine ao_cons (acts_skip rfl) (by decide) ?_
            refine ao_cons (acts_skip rfl) (by decide) ?_
            refine ao_cons (acts_skip rfl) (by decide) ?_
            refine ao_cons (acts_skip rfl) (by decide) ?_
            refine ao_cons (acts_skip rfl) (by decide) ?_
            refine ao_cons (acts_skip rfl) (by decide) ?_
            refine ao_cons (acts_of rfl (does_pick (v := .bool false) (by conv => lhs; whnf) (by exact rfl))) (by decide) ?_
            refine ao_cons (acts_of rfl (does_assign (v := .bool false) (by exact rfl))) (by decide) ?_
            refine ao_nil_n ?_
            refine hK39 _ ?_
            refine aw_ret ?_
            obtain rfl := Option.some.inj h
            exact ret_ok1 (by conv => lhs; whnf) (by conv => lhs; whnf) (by exact rfl) (.inr rfl) rfl
        · have h := ifF c43 h
          refine ao_cons (acts_skip rfl) (by decide) ?_
          refine ao_cons (acts_of rfl (does_pick (v := .bool false) (by conv => lhs; whnf) (by exact rfl))) (by decide) ?_
          refine ao_cons (acts_of rfl (does_eq_bool (v := .bool (x42 == false)) (by conv => lhs; whnf) (by conv => lhs; whnf) (ty_bool ty4) rfl)) (by decide) ?_
          refine ao_cons (acts_of rfl (does_pick (v := .bool (x42 == false)) (by conv => lhs; whnf) (by exact rfl))) (by decide) ?_
          refine ao_cons (acts_of rfl (does_move (v := .bool (x42 == false)) (by exact rfl))) (by decide) ?_
          refine ao_bool (c := (x42 == false)) 85 rfl (fun c47 => ?_) (fun c47 => ?_)
          · have h := ifT c47 h
            refine ao_cons (acts_of rfl (does_load (v := .agg [.int .i64 2, .int .i64 0, .str (strOf []), .str (strOf []), .own 38 0]) (by conv => lhs; whnf) (by conv => lhs; whnf) ty24 (by exact rfl))) (by decide) ?_
            refine ao_cons (acts_of rfl (does_load (v := .agg [.int .u64 a2.Trace.Hi, .int .u64 a2.Trace.Lo, .int .i64 a2.First, .int .i64 a2.Last, .bool a2.Sure, .sl 10 (List.map enc41 a2.Spans)]) (by conv => lhs; whnf) (by conv => lhs; whnf) ty30 (by exact rfl))) (by decide) ?_
            refine ao_cons (acts_of rfl (does_move (v := .int .i64 a3) (by exact rfl))) (by decide) ?_
            obtain ⟨x48, hx48, h⟩ := bnd_some h
            refine ao_cons (acts_of rfl (do_callG (bcs := []) [] [] [(38, 0)] 89 false (judge_Keep_ok (Rule.mk 2 0 (strOf []) (strOf []) [a0, a1]) a2 a3 hx48) rfl ent23 trivial trivial rfl rfl rfl rfl rfl rfl rfl rfl (.inr ⟨rfl, rfl, trivial⟩))) (by decide) ?_
            refine ao_cons (acts_of rfl (does_move (v := .bool x36) (by exact rfl))) (by decide) ?_
            refine ao_cons (acts_of rfl (does_move (v := .bool x36) (by exact rfl))) (by decide) ?_
            refine ao_bool (c := x36) 91 rfl (fun c49 => ?_) (fun c49 => ?_)
            · have h := ifT c49 h
              refine ao_cons (acts_skip rfl) (by decide) ?_
              refine ao_cons (acts_of rfl (does_pick (v := .bool true) (by conv => lhs; whnf) (by exact rfl))) (by decide) ?_
              refine ao_cons (acts_of rfl (does_eq_bool (v := .bool (x48 == true)) (by conv => lhs; whnf) (by conv => lhs; whnf) (ty_bool ty4) rfl)) (by decide) ?_
              refine ao_cons (acts_of rfl (does_pick (v := .bool (x48 == true)) (by conv => lhs; whnf) (by exact rfl))) (by decide) ?_
              refine ao_cons (acts_of rfl (does_assign (v := .bool (x48 == true)) (by exact rfl))) (by decide) ?_
              refine ao_nil_n ?_
              refine hK39 _ ?_
              refine aw_ret ?_
              obtain rfl := Option.some.inj h
              exact ret_ok1 (by conv => lhs; whnf) (by conv => lhs; whnf) (by exact rfl) (.inr rfl) rfl
            · have h := ifF c49 h
              refine ao_cons (acts_of rfl (does_move (v := .bool x38) (by exact rfl))) (by decide) ?_
              refine ao_cons (acts_of rfl (does_pick (v := .bool x38) (by conv => lhs; whnf) (by exact rfl))) (by decide) ?_
              refine ao_cons (acts_of rfl (does_eq_bool (v := .bool (x48 == x38)) (by conv => lhs; whnf) (by conv => lhs; whnf) (ty_bool ty4) rfl)) (by decide) ?_
              refine ao_cons (acts_of rfl (does_pick (v := .bool (x48 == x38)) (by conv => lhs; whnf) (by exact rfl))) (by decide) ?_
              refine ao_cons (acts_of rfl (does_assign (v := .bool (x48 == x38)) (by exact rfl))) (by decide) ?_
              refine ao_nil_n ?_
              refine hK39 _ ?_
              refine aw_ret ?_
              obtain rfl := Option.some.inj h
              exact ret_ok1 (by conv => lhs; whnf) (by conv => lhs; whnf) (by exact rfl) (.inr rfl) rfl
          · have h := ifF c47 h
            refine ao_cons (acts_skip rfl) (by decide) ?_
            refine ao_cons (acts_skip rfl) (by decide) ?_
            refine ao_cons (acts_skip rfl) (by decide) ?_
            refine ao_cons (acts_skip rfl) (by decide) ?_
            refine ao_cons (acts_skip rfl) (by decide) ?_
            refine ao_cons (acts_skip rfl) (by decide) ?_
            refine ao_cons (acts_skip rfl) (by decide) ?_
            refine ao_cons (acts_skip rfl) (by decide) ?_
            refine ao_cons (acts_skip rfl) (by decide) ?_
            refine ao_cons (acts_of rfl (does_pick (v := .bool false) (by conv => lhs; whnf) (by exact rfl))) (by decide) ?_
            refine ao_cons (acts_of rfl (does_assign (v := .bool false) (by exact rfl))) (by decide) ?_
            refine ao_nil_n ?_
            refine hK39 _ ?_
            refine aw_ret ?_
            obtain rfl := Option.some.inj h
            exact ret_ok1 (by conv => lhs; whnf) (by conv => lhs; whnf) (by exact rfl) (.inr rfl) rfl
      · have h := ifF c41 h
        refine ao_cons (acts_skip rfl) (by decide) ?_
        refine ao_cons (acts_skip rfl) (by decide) ?_
        refine ao_cons (acts_skip rfl) (by decide) ?_
        refine ao_cons (acts_skip rfl) (by decide) ?_
        refine ao_cons (acts_skip rfl) (by decide) ?_
        refine ao_cons (acts_skip rfl) (by decide) ?_
        refine ao_cons (acts_skip rfl) (by decide) ?_
        refine ao_cons (acts_skip rfl) (by decide) ?_
        refine ao_cons (acts_skip rfl) (by decide) ?_
        refine ao_cons (acts_of rfl (does_pick (v := .bool false) (by conv => lhs; whnf) (by exact rfl))) (by decide) ?_
        refine ao_cons (acts_of rfl (does_move (v := .bool false) (by exact rfl))) (by decide) ?_
        refine ao_cons (acts_skip rfl) (by decide) ?_
        refine ao_cons (acts_skip rfl) (by decide) ?_
        refine ao_cons (acts_skip rfl) (by decide) ?_
        refine ao_cons (acts_skip rfl) (by decide) ?_
        refine ao_cons (acts_skip rfl) (by decide) ?_
        refine ao_cons (acts_skip rfl) (by decide) ?_
        refine ao_cons (acts_skip rfl) (by decide) ?_
        refine ao_cons (acts_skip rfl) (by decide) ?_
        refine ao_cons (acts_skip rfl) (by decide) ?_
        refine ao_cons (acts_of rfl (does_pick (v := .bool false) (by conv => lhs; whnf) (by exact rfl))) (by decide) ?_
        refine ao_cons (acts_of rfl (does_assign (v := .bool false) (by exact rfl))) (by decide) ?_
        refine ao_nil_n ?_
        refine hK39 _ ?_
        refine aw_ret ?_
        obtain rfl := Option.some.inj h
        exact ret_ok1 (by conv => lhs; whnf) (by conv => lhs; whnf) (by exact rfl) (.inr rfl) rfl
def gleaninglaw14_JudgeHash_k0 (a0 : Trace) (a1 : Int) (a2 : Int) (a3 : List Span) : Option Bool :=
  Option.bind (judge_Hash a0) (fun (x19 : Int) => Option.bind (judge_Keep (Rule.mk 8 a1 (strOf []) (strOf []) []) (Episode.mk a0 0 0 false a3) 0) (fun (x21 : Bool) => Option.bind (judge_Keep (Rule.mk 8 a2 (strOf []) (strOf []) []) (Episode.mk a0 0 0 false []) 9) (fun (x23 : Bool) => if (decide ((0 : Int) ≤ x19)) = true then (if (decide (x19 < 1000)) = true then (if (x21 == (decide (x19 < a1))) = true then (if (!x21) = true then (Option.bind (judge_Keep (Rule.mk 8 1000 (strOf []) (strOf []) []) (Episode.mk a0 0 0 false []) 0) (fun (x29 : Bool) => if x29 = true then (Option.bind (judge_Keep (Rule.mk 8 0 (strOf []) (strOf []) []) (Episode.mk a0 0 0 false []) 0) (fun (x31 : Bool) => some (!x31))) else (some false))) else (if x23 = true then (Option.bind (judge_Keep (Rule.mk 8 1000 (strOf []) (strOf []) []) (Episode.mk a0 0 0 false []) 0) (fun (x33 : Bool) => if x33 = true then (Option.bind (judge_Keep (Rule.mk 8 0 (strOf []) (strOf []) []) (Episode.mk a0 0 0 false []) 0) (fun (x35 : Bool) => some (!x35))) else (some false))) else (some false))) else (some false)) else (some false)) else (some false))))
def gleaninglaw14_JudgeHash (a0 : Trace) (a1 : Int) (a2 : Int) (a3 : List Span) : Option Bool :=
  Option.bind (gleaninglaw14_alive) (fun (x3 : Bool) => Option.bind (if (!x3) = true then (some (Sum.inr x3)) else (if (decide (a1 < 0)) = true then (some (Sum.inr x3)) else (if (decide (a2 < a1)) = true then (some (Sum.inr x3)) else (if (decide ((1000 : Int) < a2)) = true then (some (Sum.inr x3)) else (Option.bind (gleaninglaw3_FewAll a3) (fun (x15 : Bool) => if (!x15) = true then (some (Sum.inr x3)) else (some (Sum.inl ())))))))) (Sum.elim (fun (s : Unit) => gleaninglaw14_JudgeHash_k0 a0 a1 a2 a3) some))
set_option maxRecDepth 100000 in
set_option maxHeartbeats 8000000 in
/-- gleaning/gleaninglaw14.JudgeHash -/
theorem gleaninglaw14_JudgeHash_ok (a0 : Trace) (a1 : Int) (a2 : Int) (a3 : List Span) {r : Bool} (h : gleaninglaw14_JudgeHash a0 a1 a2 a3 = some r) : Ok Try.prog 5 [.agg [.int .u64 a0.Hi, .int .u64 a0.Lo], .int .i64 a1, .int .i64 a2, .sl 10 (List.map enc41 a3)] [] [] (.bool r) [] [] := by
  unfold gleaninglaw14_JudgeHash at h
  refine ok_of_code Try.func5 rfl (by show (4 : Nat) ≤ _; decide) (Nat.le_refl _) fun X => ?_
  refine aw_seq_k (fun K1 hK1 => ?_)
  refine aw_reg ?_
  refine ao_cons (acts_of rfl (do_box (by conv => lhs; whnf) rfl rfl)) (by decide) ?_
  refine ao_cons (acts_of rfl (does_assign (v := .bool false) (by exact rfl))) (by decide) ?_
  refine ao_nil_n ?_
  refine hK1 _ ?_
  refine aw_seq_k (fun K2 hK2 => ?_)
  refine aw_reg ?_
  obtain ⟨x3, hx3, h⟩ := bnd_some h
  refine ao_cons (acts_of rfl (do_call0 13 false (gleaninglaw14_alive_ok hx3) rfl ent18 rfl rfl)) (by decide) ?_
  refine ao_cons (acts_of rfl (does_assign (v := .bool x3) (by exact rfl))) (by decide) ?_
  refine ao_nil_n ?_
  refine hK2 _ ?_
  obtain ⟨q4, h, hk5⟩ := bnd_some h
  refine aw_cut (fun s => gleaninglaw14_JudgeHash_k0 a0 a1 a2 a3 = some r ∧ s = lit [(1, .int .i64 a1), (2, .int .i64 a2), (3, .sl 10 (List.map enc41 a3)), (4, .ptr 4 0 0)] [((4, 0), .box [.int .u64 a0.Hi, .int .u64 a0.Lo])] [(4, 1)] X) ?_ ?_
  · skip
    refine aw_seq_k (fun K6 hK6 => ?_)
    refine aw_reg ?_
    refine ao_cons (acts_of rfl (does_move (v := .bool x3) (by exact rfl))) (by decide) ?_
    refine ao_cons (acts_of rfl (does_un (v := .bool (!x3)) (by conv => lhs; whnf) rfl)) (by decide) ?_
    refine ao_cons (acts_of rfl (does_move (v := .bool (!x3)) (by exact rfl))) (by decide) ?_
    refine ao_bool (c := (!x3)) 16 rfl (fun c7 => ?_) (fun c7 => ?_)
    · have h := ifT c7 h
      refine ao_cons (acts_skip rfl) (by decide) ?_
      refine ao_cons (acts_skip rfl) (by decide) ?_
      refine ao_cons (acts_of rfl (does_pick (v := .bool true) (by conv => lhs; whnf) (by exact rfl))) (by decide) ?_
      refine ao_cons (acts_of rfl (does_move (v := .bool true) (by exact rfl))) (by decide) ?_
      refine ao_cons (acts_skip rfl) (by decide) ?_
      refine ao_cons (acts_skip rfl) (by decide) ?_
      refine ao_cons (acts_skip rfl) (by decide) ?_
      refine ao_cons (acts_of rfl (does_pick (v := .bool true) (by conv => lhs; whnf) (by exact rfl))) (by decide) ?_
      refine ao_cons (acts_of rfl (does_move (v := .bool true) (by exact rfl))) (by decide) ?_
      refine ao_cons (acts_skip rfl) (by decide) ?_
      refine ao_cons (acts_skip rfl) (by decide) ?_
      refine ao_cons (acts_of rfl (does_pick (v := .bool true) (by conv => lhs; whnf) (by exact rfl))) (by decide) ?_
      refine ao_cons (acts_of rfl (does_move (v := .bool true) (by exact rfl))) (by decide) ?_
      refine ao_cons (acts_skip rfl) (by decide) ?_
      refine ao_cons (acts_skip rfl) (by decide) ?_
      refine ao_cons (acts_skip rfl) (by decide) ?_
      refine ao_cons (acts_of rfl (does_pick (v := .bool true) (by conv => lhs; whnf) (by exact rfl))) (by decide) ?_
      refine ao_nil_n ?_
      refine hK6 _ ?_
      refine aw_cond_t (by decide) rfl ?_
      refine aw_seq_k (fun K8 hK8 => ?_)
      refine aw_reg ?_
      refine ao_cons (acts_of rfl (does_move (v := .bool x3) (by exact rfl))) (by decide) ?_
      refine ao_cons (acts_of rfl (does_assign (v := .bool x3) (by exact rfl))) (by decide) ?_
      refine ao_nil_n ?_
      refine hK8 _ ?_
      refine aw_ret ?_
      have h := leafR h hk5
      obtain rfl := Option.some.inj h
      exact ret_ok1 (by conv => lhs; whnf) (by conv => lhs; whnf) (by exact rfl) (.inr rfl) rfl
    · have h := ifF c7 h
      refine ao_cons (acts_of rfl (does_move (v := .int .i64 a1) (by exact rfl))) (by decide) ?_
      refine ao_cons (acts_of rfl (does_bin (v := .bool (decide (a1 < 0))) (by conv => lhs; whnf) (by conv => lhs; whnf) rfl)) (by decide) ?_
      refine ao_cons (acts_of rfl (does_pick (v := .bool (decide (a1 < 0))) (by conv => lhs; whnf) (by exact rfl))) (by decide) ?_
      refine ao_cons (acts_of rfl (does_move (v := .bool (decide (a1 < 0))) (by exact rfl))) (by decide) ?_
      refine ao_bool (c := (decide (a1 < 0))) 20 rfl (fun c9 => ?_) (fun c9 => ?_)
      · have h := ifT c9 h
        refine ao_cons (acts_skip rfl) (by decide) ?_
        refine ao_cons (acts_skip rfl) (by decide) ?_
        refine ao_cons (acts_skip rfl) (by decide) ?_
        refine ao_cons (acts_of rfl (does_pick (v := .bool true) (by conv => lhs; whnf) (by exact rfl))) (by decide) ?_
        refine ao_cons (acts_of rfl (does_move (v := .bool true) (by exact rfl))) (by decide) ?_
        refine ao_cons (acts_skip rfl) (by decide) ?_
        refine ao_cons (acts_skip rfl) (by decide) ?_
        refine ao_cons (acts_of rfl (does_pick (v := .bool true) (by conv => lhs; whnf) (by exact rfl))) (by decide) ?_
        refine ao_cons (acts_of rfl (does_move (v := .bool true) (by exact rfl))) (by decide) ?_
        refine ao_cons (acts_skip rfl) (by decide) ?_
        refine ao_cons (acts_skip rfl) (by decide) ?_
        refine ao_cons (acts_skip rfl) (by decide) ?_
        refine ao_cons (acts_of rfl (does_pick (v := .bool true) (by conv => lhs; whnf) (by exact rfl))) (by decide) ?_
        refine ao_nil_n ?_
        refine hK6 _ ?_
        refine aw_cond_t (by decide) rfl ?_
        refine aw_seq_k (fun K10 hK10 => ?_)
        refine aw_reg ?_
        refine ao_cons (acts_of rfl (does_move (v := .bool x3) (by exact rfl))) (by decide) ?_
        refine ao_cons (acts_of rfl (does_assign (v := .bool x3) (by exact rfl))) (by decide) ?_
        refine ao_nil_n ?_
        refine hK10 _ ?_
        refine aw_ret ?_
        have h := leafR h hk5
        obtain rfl := Option.some.inj h
        exact ret_ok1 (by conv => lhs; whnf) (by conv => lhs; whnf) (by exact rfl) (.inr rfl) rfl
      · have h := ifF c9 h
        refine ao_cons (acts_of rfl (does_move (v := .int .i64 a1) (by exact rfl))) (by decide) ?_
        refine ao_cons (acts_of rfl (does_move (v := .int .i64 a2) (by exact rfl))) (by decide) ?_
        refine ao_cons (acts_of rfl (does_bin (v := .bool (decide (a2 < a1))) (by conv => lhs; whnf) (by conv => lhs; whnf) rfl)) (by decide) ?_
        refine ao_cons (acts_of rfl (does_pick (v := .bool (decide (a2 < a1))) (by conv => lhs; whnf) (by exact rfl))) (by decide) ?_
        refine ao_cons (acts_of rfl (does_move (v := .bool (decide (a2 < a1))) (by exact rfl))) (by decide) ?_
        refine ao_bool (c := (decide (a2 < a1))) 25 rfl (fun c11 => ?_) (fun c11 => ?_)
        · have h := ifT c11 h
          refine ao_cons (acts_skip rfl) (by decide) ?_
          refine ao_cons (acts_skip rfl) (by decide) ?_
          refine ao_cons (acts_of rfl (does_pick (v := .bool true) (by conv => lhs; whnf) (by exact rfl))) (by decide) ?_
          refine ao_cons (acts_of rfl (does_move (v := .bool true) (by exact rfl))) (by decide) ?_
          refine ao_cons (acts_skip rfl) (by decide) ?_
          refine ao_cons (acts_skip rfl) (by decide) ?_
          refine ao_cons (acts_skip rfl) (by decide) ?_
          refine ao_cons (acts_of rfl (does_pick (v := .bool true) (by conv => lhs; whnf) (by exact rfl))) (by decide) ?_
          refine ao_nil_n ?_
          refine hK6 _ ?_
          refine aw_cond_t (by decide) rfl ?_
          refine aw_seq_k (fun K12 hK12 => ?_)
          refine aw_reg ?_
          refine ao_cons (acts_of rfl (does_move (v := .bool x3) (by exact rfl))) (by decide) ?_
          refine ao_cons (acts_of rfl (does_assign (v := .bool x3) (by exact rfl))) (by decide) ?_
          refine ao_nil_n ?_
          refine hK12 _ ?_
          refine aw_ret ?_
          have h := leafR h hk5
          obtain rfl := Option.some.inj h
          exact ret_ok1 (by conv => lhs; whnf) (by conv => lhs; whnf) (by exact rfl) (.inr rfl) rfl
        · have h := ifF c11 h
          refine ao_cons (acts_of rfl (does_move (v := .int .i64 a2) (by exact rfl))) (by decide) ?_
          refine ao_cons (acts_of rfl (does_bin (v := .bool (decide ((1000 : Int) < a2))) (by conv => lhs; whnf) (by conv => lhs; whnf) rfl)) (by decide) ?_
          refine ao_cons (acts_of rfl (does_pick (v := .bool (decide ((1000 : Int) < a2))) (by conv => lhs; whnf) (by exact rfl))) (by decide) ?_
          refine ao_cons (acts_of rfl (does_move (v := .bool (decide ((1000 : Int) < a2))) (by exact rfl))) (by decide) ?_
          refine ao_bool (c := (decide ((1000 : Int) < a2))) 29 rfl (fun c13 => ?_) (fun c13 => ?_)
          · have h := ifT c13 h
            refine ao_cons (acts_skip rfl) (by decide) ?_
            refine ao_cons (acts_skip rfl) (by decide) ?_
            refine ao_cons (acts_skip rfl) (by decide) ?_
            refine ao_cons (acts_of rfl (does_pick (v := .bool true) (by conv => lhs; whnf) (by exact rfl))) (by decide) ?_
            refine ao_nil_n ?_
            refine hK6 _ ?_
            refine aw_cond_t (by decide) rfl ?_
            refine aw_seq_k (fun K14 hK14 => ?_)
            refine aw_reg ?_
            refine ao_cons (acts_of rfl (does_move (v := .bool x3) (by exact rfl))) (by decide) ?_
            refine ao_cons (acts_of rfl (does_assign (v := .bool x3) (by exact rfl))) (by decide) ?_
            refine ao_nil_n ?_
            refine hK14 _ ?_
            refine aw_ret ?_
            have h := leafR h hk5
            obtain rfl := Option.some.inj h
            exact ret_ok1 (by conv => lhs; whnf) (by conv => lhs; whnf) (by exact rfl) (.inr rfl) rfl
          · have h := ifF c13 h
            refine ao_cons (acts_of rfl (does_move (v := .sl 10 (List.map enc41 a3)) (by exact rfl))) (by decide) ?_
            obtain ⟨x15, hx15, h⟩ := bnd_some h
            refine ao_cons (acts_of rfl (do_call0 31 false (gleaninglaw3_FewAll_ok a3 hx15) rfl ent20 rfl rfl)) (by decide) ?_
            refine ao_cons (acts_of rfl (does_un (v := .bool (!x15)) (by conv => lhs; whnf) rfl)) (by decide) ?_
            refine ao_cons (acts_of rfl (does_pick (v := .bool (!x15)) (by conv => lhs; whnf) (by exact rfl))) (by decide) ?_
            refine ao_nil_n ?_
            refine hK6 _ ?_
            refine aw_bool (b := (!x15)) 33 rfl (fun c16 => ?_) (fun c16 => ?_)
            · have h := ifT c16 h
              refine aw_cond_t (by decide) rfl ?_
              refine aw_seq_k (fun K17 hK17 => ?_)
              refine aw_reg ?_
              refine ao_cons (acts_of rfl (does_move (v := .bool x3) (by exact rfl))) (by decide) ?_
              refine ao_cons (acts_of rfl (does_assign (v := .bool x3) (by exact rfl))) (by decide) ?_
              refine ao_nil_n ?_
              refine hK17 _ ?_
              refine aw_ret ?_
              have h := leafR h hk5
              obtain rfl := Option.some.inj h
              exact ret_ok1 (by conv => lhs; whnf) (by conv => lhs; whnf) (by exact rfl) (.inr rfl) rfl
            · have h := ifF c16 h
              refine aw_cond_f (by decide) rfl ?_
              refine aw_skip ?_
              have h := leafL h hk5
              exact ⟨_, reb_lit [(1, .int .i64 a1), (2, .int .i64 a2), (3, .sl 10 (List.map enc41 a3)), (4, .ptr 4 0 0)] [(4, 0)] [((4, 0), .box [.int .u64 a0.Hi, .int .u64 a0.Lo])] [(4, 1)] (envOk_cons (by conv => lhs; whnf) (by exact rfl) (envOk_cons (by conv => lhs; whnf) (by exact rfl) (envOk_cons (by conv => lhs; whnf) (by exact rfl) (envOk_cons (by conv => lhs; whnf) (by exact rfl) envOk_nil)))) (objOk_cons (by conv => lhs; whnf) (by conv => lhs; whnf) (by exact rfl) (by simp) objOk_nil) (nodup_b rfl) (nodup_b rfl) rfl rfl, h, rfl⟩
  · rintro s ⟨h, rfl⟩
    unfold gleaninglaw14_JudgeHash_k0 at h
    refine aw_seq_k (fun K18 hK18 => ?_)
    refine aw_reg ?_
    refine ao_cons (acts_of rfl (does_load (v := .agg [.int .u64 a0.Hi, .int .u64 a0.Lo]) (by conv => lhs; whnf) (by conv => lhs; whnf) ty27 (by exact rfl))) (by decide) ?_
    obtain ⟨x19, hx19, h⟩ := bnd_some h
    refine ao_cons (acts_of rfl (do_call0 36 false (judge_Hash_ok a0 hx19) rfl ent21 rfl rfl)) (by decide) ?_
    refine ao_cons (acts_of rfl (does_assign (v := .int .i64 x19) (by exact rfl))) (by decide) ?_
    refine ao_nil_n ?_
    refine hK18 _ ?_
    refine aw_seq_k (fun K20 hK20 => ?_)
    refine aw_reg ?_
    refine ao_cons (acts_of rfl (does_move (v := .int .i64 a1) (by exact rfl))) (by decide) ?_
    refine ao_cons (acts_of rfl ((do_build_struct (cs := [.int .i64 8, .int .i64 a1, .str (strOf []), .str (strOf []), .nil]) ty24 rfl [⟨.int .i64, 1, 8, [.int .i64 0]⟩, ⟨.int .i64, 1, 8, [.int .i64 0]⟩, ⟨.str, 1, 16, [.str ByteArray.empty]⟩, ⟨.str, 1, 16, [.str ByteArray.empty]⟩, ⟨.slice 24, 1, 24, [.nil]⟩] (by simp only [List.map, ty22, ty3, ty9]) (by rfl) (by exact rfl)).weak (v' := .agg [.int .i64 8, .int .i64 a1, .str (strOf []), .str (strOf []), .sl 5 (List.map enc23 [])]) (le_agg ⟨le_refl _, le_refl _, le_refl _, le_refl _, le_nil _, trivial⟩))) (by decide) ?_
    refine ao_cons (acts_of rfl (does_load (v := .agg [.int .u64 a0.Hi, .int .u64 a0.Lo]) (by conv => lhs; whnf) (by conv => lhs; whnf) ty27 (by exact rfl))) (by decide) ?_
    refine ao_cons (acts_of rfl (does_move (v := .sl 10 (List.map enc41 a3)) (by exact rfl))) (by decide) ?_
    refine ao_cons (acts_of rfl (do_build_struct (cs := [.int .u64 a0.Hi, .int .u64 a0.Lo, .int .i64 0, .int .i64 0, .bool false, .sl 10 (List.map enc41 a3)]) ty30 rfl [⟨.struct [(0, 25), (1, 25)], 2, 16, [.int .u64 0, .int .u64 0]⟩, ⟨.int .i64, 1, 8, [.int .i64 0]⟩, ⟨.int .i64, 1, 8, [.int .i64 0]⟩, ⟨.bool, 1, 1, [.bool false]⟩, ⟨.slice 42, 1, 24, [.nil]⟩] (by simp only [List.map, ty27, ty28, ty3, ty4]) (by rfl) (by exact rfl))) (by decide) ?_
    obtain ⟨x21, hx21, h⟩ := bnd_some h
    refine ao_cons (acts_of rfl (do_call0 42 false (judge_Keep_ok (Rule.mk 8 a1 (strOf []) (strOf []) []) (Episode.mk a0 0 0 false a3) 0 hx21) rfl ent23 rfl rfl)) (by decide) ?_
    refine ao_cons (acts_of rfl (does_assign (v := .bool x21) (by exact rfl))) (by decide) ?_
    refine ao_nil_n ?_
    refine hK20 _ ?_
    refine aw_seq_k (fun K22 hK22 => ?_)
    refine aw_reg ?_
    refine ao_cons (acts_of rfl (does_move (v := .int .i64 a2) (by exact rfl))) (by decide) ?_
    refine ao_cons (acts_of rfl ((do_build_struct (cs := [.int .i64 8, .int .i64 a2, .str (strOf []), .str (strOf []), .nil]) ty24 rfl [⟨.int .i64, 1, 8, [.int .i64 0]⟩, ⟨.int .i64, 1, 8, [.int .i64 0]⟩, ⟨.str, 1, 16, [.str ByteArray.empty]⟩, ⟨.str, 1, 16, [.str ByteArray.empty]⟩, ⟨.slice 24, 1, 24, [.nil]⟩] (by simp only [List.map, ty22, ty3, ty9]) (by rfl) (by exact rfl)).weak (v' := .agg [.int .i64 8, .int .i64 a2, .str (strOf []), .str (strOf []), .sl 5 (List.map enc23 [])]) (le_agg ⟨le_refl _, le_refl _, le_refl _, le_refl _, le_nil _, trivial⟩))) (by decide) ?_
    refine ao_cons (acts_of rfl (does_load (v := .agg [.int .u64 a0.Hi, .int .u64 a0.Lo]) (by conv => lhs; whnf) (by conv => lhs; whnf) ty27 (by exact rfl))) (by decide) ?_
    refine ao_cons (acts_of rfl ((do_build_struct (cs := [.int .u64 a0.Hi, .int .u64 a0.Lo, .int .i64 0, .int .i64 0, .bool false, .nil]) ty30 rfl [⟨.struct [(0, 25), (1, 25)], 2, 16, [.int .u64 0, .int .u64 0]⟩, ⟨.int .i64, 1, 8, [.int .i64 0]⟩, ⟨.int .i64, 1, 8, [.int .i64 0]⟩, ⟨.bool, 1, 1, [.bool false]⟩, ⟨.slice 42, 1, 24, [.nil]⟩] (by simp only [List.map, ty27, ty28, ty3, ty4]) (by rfl) (by exact rfl)).weak (v' := .agg [.int .u64 a0.Hi, .int .u64 a0.Lo, .int .i64 0, .int .i64 0, .bool false, .sl 10 (List.map enc41 [])]) (le_agg ⟨le_refl _, le_refl _, le_refl _, le_refl _, le_refl _, le_nil _, trivial⟩))) (by decide) ?_
    obtain ⟨x23, hx23, h⟩ := bnd_some h
    refine ao_cons (acts_of rfl (do_call0 47 false (judge_Keep_ok (Rule.mk 8 a2 (strOf []) (strOf []) []) (Episode.mk a0 0 0 false []) 9 hx23) rfl ent23 rfl rfl)) (by decide) ?_
    refine ao_cons (acts_of rfl (does_assign (v := .bool x23) (by exact rfl))) (by decide) ?_
    refine ao_nil_n ?_
    refine hK22 _ ?_
    refine aw_seq_k (fun K24 hK24 => ?_)
    refine aw_reg ?_
    refine ao_cons (acts_of rfl (does_move (v := .int .i64 x19) (by exact rfl))) (by decide) ?_
    refine ao_cons (acts_of rfl (does_bin (v := .bool (decide ((0 : Int) ≤ x19))) (by conv => lhs; whnf) (by conv => lhs; whnf) rfl)) (by decide) ?_
    refine ao_cons (acts_of rfl (does_move (v := .bool (decide ((0 : Int) ≤ x19))) (by exact rfl))) (by decide) ?_
    refine ao_bool (c := (decide ((0 : Int) ≤ x19))) 50 rfl (fun c25 => ?_) (fun c25 => ?_)
    · have h := ifT c25 h
      refine ao_cons (acts_of rfl (does_move (v := .int .i64 x19) (by exact rfl))) (by decide) ?_
      refine ao_cons (acts_of rfl (does_bin (v := .bool (decide (x19 < 1000))) (by conv => lhs; whnf) (by conv => lhs; whnf) rfl)) (by decide) ?_
      refine ao_cons (acts_of rfl (does_pick (v := .bool (decide (x19 < 1000))) (by conv => lhs; whnf) (by exact rfl))) (by decide) ?_
      refine ao_cons (acts_of rfl (does_move (v := .bool (decide (x19 < 1000))) (by exact rfl))) (by decide) ?_
      refine ao_bool (c := (decide (x19 < 1000))) 54 rfl (fun c26 => ?_) (fun c26 => ?_)
      · have h := ifT c26 h
        refine ao_cons (acts_of rfl (does_move (v := .bool x21) (by exact rfl))) (by decide) ?_
        refine ao_cons (acts_of rfl (does_move (v := .int .i64 x19) (by exact rfl))) (by decide) ?_
        refine ao_cons (acts_of rfl (does_move (v := .int .i64 a1) (by exact rfl))) (by decide) ?_
        refine ao_cons (acts_of rfl (does_bin (v := .bool (decide (x19 < a1))) (by conv => lhs; whnf) (by conv => lhs; whnf) rfl)) (by decide) ?_
        refine ao_cons (acts_of rfl (does_eq_bool (v := .bool (x21 == (decide (x19 < a1)))) (by conv => lhs; whnf) (by conv => lhs; whnf) (ty_bool ty4) rfl)) (by decide) ?_
        refine ao_cons (acts_of rfl (does_pick (v := .bool (x21 == (decide (x19 < a1)))) (by conv => lhs; whnf) (by exact rfl))) (by decide) ?_
        refine ao_cons (acts_of rfl (does_move (v := .bool (x21 == (decide (x19 < a1)))) (by exact rfl))) (by decide) ?_
        refine ao_bool (c := (x21 == (decide (x19 < a1)))) 61 rfl (fun c27 => ?_) (fun c27 => ?_)
        · have h := ifT c27 h
          refine ao_cons (acts_of rfl (does_move (v := .bool x21) (by exact rfl))) (by decide) ?_
          refine ao_cons (acts_of rfl (does_un (v := .bool (!x21)) (by conv => lhs; whnf) rfl)) (by decide) ?_
          refine ao_cons (acts_of rfl (does_move (v := .bool (!x21)) (by exact rfl))) (by decide) ?_
          refine ao_bool (c := (!x21)) 64 rfl (fun c28 => ?_) (fun c28 => ?_)
          · have h := ifT c28 h
            refine ao_cons (acts_skip rfl) (by decide) ?_
            refine ao_cons (acts_of rfl (does_pick (v := .bool true) (by conv => lhs; whnf) (by exact rfl))) (by decide) ?_
            refine ao_cons (acts_of rfl (does_pick (v := .bool true) (by conv => lhs; whnf) (by exact rfl))) (by decide) ?_
            refine ao_cons (acts_of rfl (does_move (v := .bool true) (by exact rfl))) (by decide) ?_
            refine ao_cons (acts_of rfl ((do_build_struct (cs := [.int .i64 8, .int .i64 1000, .str (strOf []), .str (strOf []), .nil]) ty24 rfl [⟨.int .i64, 1, 8, [.int .i64 0]⟩, ⟨.int .i64, 1, 8, [.int .i64 0]⟩, ⟨.str, 1, 16, [.str ByteArray.empty]⟩, ⟨.str, 1, 16, [.str ByteArray.empty]⟩, ⟨.slice 24, 1, 24, [.nil]⟩] (by simp only [List.map, ty22, ty3, ty9]) (by rfl) (by exact rfl)).weak (v' := .agg [.int .i64 8, .int .i64 1000, .str (strOf []), .str (strOf []), .sl 5 (List.map enc23 [])]) (le_agg ⟨le_refl _, le_refl _, le_refl _, le_refl _, le_nil _, trivial⟩))) (by decide) ?_
            refine ao_cons (acts_of rfl (does_load (v := .agg [.int .u64 a0.Hi, .int .u64 a0.Lo]) (by conv => lhs; whnf) (by conv => lhs; whnf) ty27 (by exact rfl))) (by decide) ?_
            refine ao_cons (acts_of rfl ((do_build_struct (cs := [.int .u64 a0.Hi, .int .u64 a0.Lo, .int .i64 0, .int .i64 0, .bool false, .nil]) ty30 rfl [⟨.struct [(0, 25), (1, 25)], 2, 16, [.int .u64 0, .int .u64 0]⟩, ⟨.int .i64, 1, 8, [.int .i64 0]⟩, ⟨.int .i64, 1, 8, [.int .i64 0]⟩, ⟨.bool, 1, 1, [.bool false]⟩, ⟨.slice 42, 1, 24, [.nil]⟩] (by simp only [List.map, ty27, ty28, ty3, ty4]) (by rfl) (by exact rfl)).weak (v' := .agg [.int .u64 a0.Hi, .int .u64 a0.Lo, .int .i64 0, .int .i64 0, .bool false, .sl 10 (List.map enc41 [])]) (le_agg ⟨le_refl _, le_refl _, le_refl _, le_refl _, le_refl _, le_nil _, trivial⟩))) (by decide) ?_
            obtain ⟨x29, hx29, h⟩ := bnd_some h
            refine ao_cons (acts_of rfl (do_call0 72 false (judge_Keep_ok (Rule.mk 8 1000 (strOf []) (strOf []) []) (Episode.mk a0 0 0 false []) 0 hx29) rfl ent23 rfl rfl)) (by decide) ?_
            refine ao_cons (acts_of rfl (does_pick (v := .bool x29) (by conv => lhs; whnf) (by exact rfl))) (by decide) ?_
            refine ao_cons (acts_of rfl (does_move (v := .bool x29) (by exact rfl))) (by decide) ?_
            refine ao_bool (c := x29) 74 rfl (fun c30 => ?_) (fun c30 => ?_)
            · have h := ifT c30 h
              refine ao_cons (acts_of rfl ((do_build_struct (cs := [.int .i64 8, .int .i64 0, .str (strOf []), .str (strOf []), .nil]) ty24 rfl [⟨.int .i64, 1, 8, [.int .i64 0]⟩, ⟨.int .i64, 1, 8, [.int .i64 0]⟩, ⟨.str, 1, 16, [.str ByteArray.empty]⟩, ⟨.str, 1, 16, [.str ByteArray.empty]⟩, ⟨.slice 24, 1, 24, [.nil]⟩] (by simp only [List.map, ty22, ty3, ty9]) (by rfl) (by exact rfl)).weak (v' := .agg [.int .i64 8, .int .i64 0, .str (strOf []), .str (strOf []), .sl 5 (List.map enc23 [])]) (le_agg ⟨le_refl _, le_refl _, le_refl _, le_refl _, le_nil _, trivial⟩))) (by decide) ?_
              refine ao_cons (acts_of rfl (does_load (v := .agg [.int .u64 a0.Hi, .int .u64 a0.Lo]) (by conv => lhs; whnf) (by conv => lhs; whnf) ty27 (by exact rfl))) (by decide) ?_
              refine ao_cons (acts_of rfl ((do_build_struct (cs := [.int .u64 a0.Hi, .int .u64 a0.Lo, .int .i64 0, .int .i64 0, .bool false, .nil]) ty30 rfl [⟨.struct [(0, 25), (1, 25)], 2, 16, [.int .u64 0, .int .u64 0]⟩, ⟨.int .i64, 1, 8, [.int .i64 0]⟩, ⟨.int .i64, 1, 8, [.int .i64 0]⟩, ⟨.bool, 1, 1, [.bool false]⟩, ⟨.slice 42, 1, 24, [.nil]⟩] (by simp only [List.map, ty27, ty28, ty3, ty4]) (by rfl) (by exact rfl)).weak (v' := .agg [.int .u64 a0.Hi, .int .u64 a0.Lo, .int .i64 0, .int .i64 0, .bool false, .sl 10 (List.map enc41 [])]) (le_agg ⟨le_refl _, le_refl _, le_refl _, le_refl _, le_refl _, le_nil _, trivial⟩))) (by decide) ?_
              obtain ⟨x31, hx31, h⟩ := bnd_some h
              refine ao_cons (acts_of rfl (do_call0 78 false (judge_Keep_ok (Rule.mk 8 0 (strOf []) (strOf []) []) (Episode.mk a0 0 0 false []) 0 hx31) rfl ent23 rfl rfl)) (by decide) ?_
              refine ao_cons (acts_of rfl (does_un (v := .bool (!x31)) (by conv => lhs; whnf) rfl)) (by decide) ?_
              refine ao_cons (acts_of rfl (does_pick (v := .bool (!x31)) (by conv => lhs; whnf) (by exact rfl))) (by decide) ?_
              refine ao_cons (acts_of rfl (does_assign (v := .bool (!x31)) (by exact rfl))) (by decide) ?_
              refine ao_nil_n ?_
              refine hK24 _ ?_
              refine aw_ret ?_
              obtain rfl := Option.some.inj h
              exact ret_ok1 (by conv => lhs; whnf) (by conv => lhs; whnf) (by exact rfl) (.inr rfl) rfl
            · have h := ifF c30 h
              refine ao_cons (acts_skip rfl) (by decide) ?_
              refine ao_cons (acts_skip rfl) (by decide) ?_
              refine ao_cons (acts_skip rfl) (by decide) ?_
              refine ao_cons (acts_skip rfl) (by decide) ?_
              refine ao_cons (acts_skip rfl) (by decide) ?_
              refine ao_cons (acts_of rfl (does_pick (v := .bool false) (by conv => lhs; whnf) (by exact rfl))) (by decide) ?_
              refine ao_cons (acts_of rfl (does_assign (v := .bool false) (by exact rfl))) (by decide) ?_
              refine ao_nil_n ?_
              refine hK24 _ ?_
              refine aw_ret ?_
              obtain rfl := Option.some.inj h
              exact ret_ok1 (by conv => lhs; whnf) (by conv => lhs; whnf) (by exact rfl) (.inr rfl) rfl
          · have h := ifF c28 h
            refine ao_cons (acts_of rfl (does_move (v := .bool x23) (by exact rfl))) (by decide) ?_
            refine ao_cons (acts_of rfl (does_pick (v := .bool x23) (by conv => lhs; whnf) (by exact rfl))) (by decide) ?_
            refine ao_cons (acts_of rfl (does_pick (v := .bool x23) (by conv => lhs; whnf) (by exact rfl))) (by decide) ?_
            refine ao_cons (acts_of rfl (does_move (v := .bool x23) (by exact rfl))) (by decide) ?_
            refine ao_bool (c := x23) 68 rfl (fun c32 => ?_) (fun c32 => ?_)
            · have h := ifT c32 h
              refine ao_cons (acts_of rfl ((do_build_struct (cs := [.int .i64 8, .int .i64 1000, .str (strOf []), .str (strOf []), .nil]) ty24 rfl [⟨.int .i64, 1, 8, [.int .i64 0]⟩, ⟨.int .i64, 1, 8, [.int .i64 0]⟩, ⟨.str, 1, 16, [.str ByteArray.empty]⟩, ⟨.str, 1, 16, [.str ByteArray.empty]⟩, ⟨.slice 24, 1, 24, [.nil]⟩] (by simp only [List.map, ty22, ty3, ty9]) (by rfl) (by exact rfl)).weak (v' := .agg [.int .i64 8, .int .i64 1000, .str (strOf []), .str (strOf []), .sl 5 (List.map enc23 [])]) (le_agg ⟨le_refl _, le_refl _, le_refl _, le_refl _, le_nil _, trivial⟩))) (by decide) ?_
              refine ao_cons (acts_of rfl (does_load (v := .agg [.int .u64 a0.Hi, .int .u64 a0.Lo]) (by conv => lhs; whnf) (by conv => lhs; whnf) ty27 (by exact rfl))) (by decide) ?_
              refine ao_cons (acts_of rfl ((do_build_struct (cs := [.int .u64 a0.Hi, .int .u64 a0.Lo, .int .i64 0, .int .i64 0, .bool false, .nil]) ty30 rfl [⟨.struct [(0, 25), (1, 25)], 2, 16, [.int .u64 0, .int .u64 0]⟩, ⟨.int .i64, 1, 8, [.int .i64 0]⟩, ⟨.int .i64, 1, 8, [.int .i64 0]⟩, ⟨.bool, 1, 1, [.bool false]⟩, ⟨.slice 42, 1, 24, [.nil]⟩] (by simp only [List.map, ty27, ty28, ty3, ty4]) (by rfl) (by exact rfl)).weak (v' := .agg [.int .u64 a0.Hi, .int .u64 a0.Lo, .int .i64 0, .int .i64 0, .bool false, .sl 10 (List.map enc41 [])]) (le_agg ⟨le_refl _, le_refl _, le_refl _, le_refl _, le_refl _, le_nil _, trivial⟩))) (by decide) ?_
              obtain ⟨x33, hx33, h⟩ := bnd_some h
              refine ao_cons (acts_of rfl (do_call0 72 false (judge_Keep_ok (Rule.mk 8 1000 (strOf []) (strOf []) []) (Episode.mk a0 0 0 false []) 0 hx33) rfl ent23 rfl rfl)) (by decide) ?_
              refine ao_cons (acts_of rfl (does_pick (v := .bool x33) (by conv => lhs; whnf) (by exact rfl))) (by decide) ?_
              refine ao_cons (acts_of rfl (does_move (v := .bool x33) (by exact rfl))) (by decide) ?_
              refine ao_bool (c := x33) 74 rfl (fun c34 => ?_) (fun c34 => ?_)
              · have h := ifT c34 h
                refine ao_cons (acts_of rfl ((do_build_struct (cs := [.int .i64 8, .int .i64 0, .str (strOf []), .str (strOf []), .nil]) ty24 rfl [⟨.int .i64, 1, 8, [.int .i64 0]⟩, ⟨.int .i64, 1, 8, [.int .i64 0]⟩, ⟨.str, 1, 16, [.str ByteArray.empty]⟩, ⟨.str, 1, 16, [.str ByteArray.empty]⟩, ⟨.slice 24, 1, 24, [.nil]⟩] (by simp only [List.map, ty22, ty3, ty9]) (by rfl) (by exact rfl)).weak (v' := .agg [.int .i64 8, .int .i64 0, .str (strOf []), .str (strOf []), .sl 5 (List.map enc23 [])]) (le_agg ⟨le_refl _, le_refl _, le_refl _, le_refl _, le_nil _, trivial⟩))) (by decide) ?_
                refine ao_cons (acts_of rfl (does_load (v := .agg [.int .u64 a0.Hi, .int .u64 a0.Lo]) (by conv => lhs; whnf) (by conv => lhs; whnf) ty27 (by exact rfl))) (by decide) ?_
                refine ao_cons (acts_of rfl ((do_build_struct (cs := [.int .u64 a0.Hi, .int .u64 a0.Lo, .int .i64 0, .int .i64 0, .bool false, .nil]) ty30 rfl [⟨.struct [(0, 25), (1, 25)], 2, 16, [.int .u64 0, .int .u64 0]⟩, ⟨.int .i64, 1, 8, [.int .i64 0]⟩, ⟨.int .i64, 1, 8, [.int .i64 0]⟩, ⟨.bool, 1, 1, [.bool false]⟩, ⟨.slice 42, 1, 24, [.nil]⟩] (by simp only [List.map, ty27, ty28, ty3, ty4]) (by rfl) (by exact rfl)).weak (v' := .agg [.int .u64 a0.Hi, .int .u64 a0.Lo, .int .i64 0, .int .i64 0, .bool false, .sl 10 (List.map enc41 [])]) (le_agg ⟨le_refl _, le_refl _, le_refl _, le_refl _, le_refl _, le_nil _, trivial⟩))) (by decide) ?_
                obtain ⟨x35, hx35, h⟩ := bnd_some h
                refine ao_cons (acts_of rfl (do_call0 78 false (judge_Keep_ok (Rule.mk 8 0 (strOf []) (strOf []) []) (Episode.mk a0 0 0 false []) 0 hx35) rfl ent23 rfl rfl)) (by decide) ?_
                refine ao_cons (acts_of rfl (does_un (v := .bool (!x35)) (by conv => lhs; whnf) rfl)) (by decide) ?_
                refine ao_cons (acts_of rfl (does_pick (v := .bool (!x35)) (by conv => lhs; whnf) (by exact rfl))) (by decide) ?_
                refine ao_cons (acts_of rfl (does_assign (v := .bool (!x35)) (by exact rfl))) (by decide) ?_
                refine ao_nil_n ?_
                refine hK24 _ ?_
                refine aw_ret ?_
                obtain rfl := Option.some.inj h
                exact ret_ok1 (by conv => lhs; whnf) (by conv => lhs; whnf) (by exact rfl) (.inr rfl) rfl
              · have h := ifF c34 h
                refine ao_cons (acts_skip rfl) (by decide) ?_
                refine ao_cons (acts_skip rfl) (by decide) ?_
                refine ao_cons (acts_skip rfl) (by decide) ?_
                refine ao_cons (acts_skip rfl) (by decide) ?_
                refine ao_cons (acts_skip rfl) (by decide) ?_
                refine ao_cons (acts_of rfl (does_pick (v := .bool false) (by conv => lhs; whnf) (by exact rfl))) (by decide) ?_
                refine ao_cons (acts_of rfl (does_assign (v := .bool false) (by exact rfl))) (by decide) ?_
                refine ao_nil_n ?_
                refine hK24 _ ?_
                refine aw_ret ?_
                obtain rfl := Option.some.inj h
                exact ret_ok1 (by conv => lhs; whnf) (by conv => lhs; whnf) (by exact rfl) (.inr rfl) rfl
            · have h := ifF c32 h
              refine ao_cons (acts_skip rfl) (by decide) ?_
              refine ao_cons (acts_skip rfl) (by decide) ?_
              refine ao_cons (acts_skip rfl) (by decide) ?_
              refine ao_cons (acts_skip rfl) (by decide) ?_
              refine ao_cons (acts_of rfl (does_pick (v := .bool false) (by conv => lhs; whnf) (by exact rfl))) (by decide) ?_
              refine ao_cons (acts_of rfl (does_move (v := .bool false) (by exact rfl))) (by decide) ?_
              refine ao_cons (acts_skip rfl) (by decide) ?_
              refine ao_cons (acts_skip rfl) (by decide) ?_
              refine ao_cons (acts_skip rfl) (by decide) ?_
              refine ao_cons (acts_skip rfl) (by decide) ?_
              refine ao_cons (acts_skip rfl) (by decide) ?_
              refine ao_cons (acts_of rfl (does_pick (v := .bool false) (by conv => lhs; whnf) (by exact rfl))) (by decide) ?_
              refine ao_cons (acts_of rfl (does_assign (v := .bool false) (by exact rfl))) (by decide) ?_
              refine ao_nil_n ?_
              refine hK24 _ ?_
              refine aw_ret ?_
              obtain rfl := Option.some.inj h
              exact ret_ok1 (by conv => lhs; whnf) (by conv => lhs; whnf) (by exact rfl) (.inr rfl) rfl
        · have h := ifF c27 h
          refine ao_cons (acts_skip rfl) (by decide) ?_
          refine ao_cons (acts_skip rfl) (by decide) ?_
          refine ao_cons (acts_skip rfl) (by decide) ?_
          refine ao_cons (acts_skip rfl) (by decide) ?_
          refine ao_cons (acts_skip rfl) (by decide) ?_
          refine ao_cons (acts_of rfl (does_pick (v := .bool false) (by conv => lhs; whnf) (by exact rfl))) (by decide) ?_
          refine ao_cons (acts_of rfl (does_move (v := .bool false) (by exact rfl))) (by decide) ?_
          refine ao_cons (acts_skip rfl) (by decide) ?_
          refine ao_cons (acts_skip rfl) (by decide) ?_
          refine ao_cons (acts_skip rfl) (by decide) ?_
          refine ao_cons (acts_skip rfl) (by decide) ?_
          refine ao_cons (acts_of rfl (does_pick (v := .bool false) (by conv => lhs; whnf) (by exact rfl))) (by decide) ?_
          refine ao_cons (acts_of rfl (does_move (v := .bool false) (by exact rfl))) (by decide) ?_
          refine ao_cons (acts_skip rfl) (by decide) ?_
          refine ao_cons (acts_skip rfl) (by decide) ?_
          refine ao_cons (acts_skip rfl) (by decide) ?_
          refine ao_cons (acts_skip rfl) (by decide) ?_
          refine ao_cons (acts_skip rfl) (by decide) ?_
          refine ao_cons (acts_of rfl (does_pick (v := .bool false) (by conv => lhs; whnf) (by exact rfl))) (by decide) ?_
          refine ao_cons (acts_of rfl (does_assign (v := .bool false) (by exact rfl))) (by decide) ?_
          refine ao_nil_n ?_
          refine hK24 _ ?_
          refine aw_ret ?_
          obtain rfl := Option.some.inj h
          exact ret_ok1 (by conv => lhs; whnf) (by conv => lhs; whnf) (by exact rfl) (.inr rfl) rfl
      · have h := ifF c26 h
        refine ao_cons (acts_skip rfl) (by decide) ?_
        refine ao_cons (acts_skip rfl) (by decide) ?_
        refine ao_cons (acts_skip rfl) (by decide) ?_
        refine ao_cons (acts_skip rfl) (by decide) ?_
        refine ao_cons (acts_skip rfl) (by decide) ?_
        refine ao_cons (acts_of rfl (does_pick (v := .bool false) (by conv => lhs; whnf) (by exact rfl))) (by decide) ?_
        refine ao_cons (acts_of rfl (does_move (v := .bool false) (by exact rfl))) (by decide) ?_
        refine ao_cons (acts_skip rfl) (by decide) ?_
        refine ao_cons (acts_skip rfl) (by decide) ?_
        refine ao_cons (acts_skip rfl) (by decide) ?_
        refine ao_cons (acts_skip rfl) (by decide) ?_
        refine ao_cons (acts_skip rfl) (by decide) ?_
        refine ao_cons (acts_of rfl (does_pick (v := .bool false) (by conv => lhs; whnf) (by exact rfl))) (by decide) ?_
        refine ao_cons (acts_of rfl (does_move (v := .bool false) (by exact rfl))) (by decide) ?_
        refine ao_cons (acts_skip rfl) (by decide) ?_
        refine ao_cons (acts_skip rfl) (by decide) ?_
        refine ao_cons (acts_skip rfl) (by decide) ?_
        refine ao_cons (acts_skip rfl) (by decide) ?_
        refine ao_cons (acts_of rfl (does_pick (v := .bool false) (by conv => lhs; whnf) (by exact rfl))) (by decide) ?_
        refine ao_cons (acts_of rfl (does_move (v := .bool false) (by exact rfl))) (by decide) ?_
        refine ao_cons (acts_skip rfl) (by decide) ?_
        refine ao_cons (acts_skip rfl) (by decide) ?_
        refine ao_cons (acts_skip rfl) (by decide) ?_
        refine ao_cons (acts_skip rfl) (by decide) ?_
        refine ao_cons (acts_skip rfl) (by decide) ?_
        refine ao_cons (acts_of rfl (does_pick (v := .bool false) (by conv => lhs; whnf) (by exact rfl))) (by decide) ?_
        refine ao_cons (acts_of rfl (does_assign (v := .bool false) (by exact rfl))) (by decide) ?_
        refine ao_nil_n ?_
        refine hK24 _ ?_
        refine aw_ret ?_
        obtain rfl := Option.some.inj h
        exact ret_ok1 (by conv => lhs; whnf) (by conv => lhs; whnf) (by exact rfl) (.inr rfl) rfl
    · have h := ifF c25 h
      refine ao_cons (acts_skip rfl) (by decide) ?_
      refine ao_cons (acts_skip rfl) (by decide) ?_
      refine ao_cons (acts_of rfl (does_pick (v := .bool false) (by conv => lhs; whnf) (by exact rfl))) (by decide) ?_
      refine ao_cons (acts_of rfl (does_move (v := .bool false) (by exact rfl))) (by decide) ?_
      refine ao_cons (acts_skip rfl) (by decide) ?_
      refine ao_cons (acts_skip rfl) (by decide) ?_
      refine ao_cons (acts_skip rfl) (by decide) ?_
      refine ao_cons (acts_skip rfl) (by decide) ?_
      refine ao_cons (acts_skip rfl) (by decide) ?_
      refine ao_cons (acts_of rfl (does_pick (v := .bool false) (by conv => lhs; whnf) (by exact rfl))) (by decide) ?_
      refine ao_cons (acts_of rfl (does_move (v := .bool false) (by exact rfl))) (by decide) ?_
      refine ao_cons (acts_skip rfl) (by decide) ?_
      refine ao_cons (acts_skip rfl) (by decide) ?_
      refine ao_cons (acts_skip rfl) (by decide) ?_
      refine ao_cons (acts_skip rfl) (by decide) ?_
      refine ao_cons (acts_skip rfl) (by decide) ?_
      refine ao_cons (acts_of rfl (does_pick (v := .bool false) (by conv => lhs; whnf) (by exact rfl))) (by decide) ?_
      refine ao_cons (acts_of rfl (does_move (v := .bool false) (by exact rfl))) (by decide) ?_
      refine ao_cons (acts_skip rfl) (by decide) ?_
      refine ao_cons (acts_skip rfl) (by decide) ?_
      refine ao_cons (acts_skip rfl) (by decide) ?_
      refine ao_cons (acts_skip rfl) (by decide) ?_
      refine ao_cons (acts_of rfl (does_pick (v := .bool false) (by conv => lhs; whnf) (by exact rfl))) (by decide) ?_
      refine ao_cons (acts_of rfl (does_move (v := .bool false) (by exact rfl))) (by decide) ?_
      refine ao_cons (acts_skip rfl) (by decide) ?_
      refine ao_cons (acts_skip rfl) (by decide) ?_
      refine ao_cons (acts_skip rfl) (by decide) ?_
      refine ao_cons (acts_skip rfl) (by decide) ?_
      refine ao_cons (acts_skip rfl) (by decide) ?_
      refine ao_cons (acts_of rfl (does_pick (v := .bool false) (by conv => lhs; whnf) (by exact rfl))) (by decide) ?_
      refine ao_cons (acts_of rfl (does_assign (v := .bool false) (by exact rfl))) (by decide) ?_
      refine ao_nil_n ?_
      refine hK24 _ ?_
      refine aw_ret ?_
      obtain rfl := Option.some.inj h
      exact ret_ok1 (by conv => lhs; whnf) (by conv => lhs; whnf) (by exact rfl) (.inr rfl) rfl
def gleaninglaw14_plain_b_l1 (K : Rule → Option Bool) (a0 : Rule) (v3_1 : Int) : Option (Int ⊕ (Unit ⊕ Bool)) :=
  if (decide (v3_1 < (List.length a0.Kids : Int))) = true then (gd (0 ≤ v3_1) (Option.bind (a0.Kids[(Int.toNat v3_1)]?) (fun (x13 : Rule) => Option.bind (K x13) (fun (x14 : Bool) => if (!x14) = true then (some (Sum.inr (Sum.inr false))) else (some (Sum.inl (IntKind.i64.wrap (v3_1 + 1)))))))) else (some (Sum.inr (Sum.inl ())))
def gleaninglaw14_plain_b_k0 (a0 : Rule) : Option Bool :=
  if (a0.Kind != 3) = true then (some (a0.Kind != 9)) else (some false)
def gleaninglaw14_plain_b (K : Rule → Option Bool) (a0 : Rule) : Option Bool :=
  Option.bind (loopN (fun (s : Int) => gleaninglaw14_plain_b_l1 K a0 s) Fu 0) (Sum.elim (fun (s : Unit) => gleaninglaw14_plain_b_k0 a0) some)
set_option maxRecDepth 100000 in
set_option maxHeartbeats 8000000 in
/-- gleaning/gleaninglaw14.plain -/
theorem gleaninglaw14_plain_b_ok (K : Rule → Option Bool) (hK : ∀ (a0 : Rule) {r : Bool}, K a0 = some r → Ok Try.prog 26 [.agg [.int .i64 a0.Kind, .int .i64 a0.N, .str a0.Key, .str a0.Value, .sl 5 (List.map enc23 a0.Kids)]] [] [] (.bool r) [] []) (a0 : Rule) {r : Bool} (h : gleaninglaw14_plain_b K a0 = some r) : Ok Try.prog 26 [.agg [.int .i64 a0.Kind, .int .i64 a0.N, .str a0.Key, .str a0.Value, .sl 5 (List.map enc23 a0.Kids)]] [] [] (.bool r) [] [] := by
  unfold gleaninglaw14_plain_b at h
  refine ok_of_code Try.func26 rfl (by show (1 : Nat) ≤ _; decide) (Nat.le_refl _) fun X => ?_
  refine aw_seq_k (fun K1 hK1 => ?_)
  refine aw_reg ?_
  refine ao_cons (acts_of rfl (do_box (by conv => lhs; whnf) rfl rfl)) (by decide) ?_
  refine ao_cons (acts_of rfl (does_assign (v := .bool false) (by exact rfl))) (by decide) ?_
  refine ao_nil_n ?_
  refine hK1 _ ?_
  obtain ⟨q2, h, hk3⟩ := bnd_some h
  refine aw_cut (fun s => gleaninglaw14_plain_b_k0 a0 = some r ∧ s = lit [(1, .ptr 1 0 0)] [((1, 0), .box [.int .i64 a0.Kind, .int .i64 a0.N, .str a0.Key, .str a0.Value, .sl 5 (List.map enc23 a0.Kids)])] [(1, 1)] X) ?_ ?_
  · skip
    refine aw_seq_k (fun K4 hK4 => ?_)
    refine aw_reg ?_
    refine ao_cons (acts_of rfl (does_assign (v := .int .i64 0) (by exact rfl))) (by decide) ?_
    refine ao_nil_n ?_
    refine hK4 _ ?_
    refine aw_block ?_
    refine aw_loop' (fun m s => ∃ (v3_1 : Int), loopN (fun (s : Int) => gleaninglaw14_plain_b_l1 K a0 s) m v3_1 = some q2 ∧ s = lit [(1, .ptr 1 0 0), (3, .int .i64 v3_1)] [((1, 0), .box [.int .i64 a0.Kind, .int .i64 a0.N, .str a0.Key, .str a0.Value, .sl 5 (List.map enc23 a0.Kids)])] [(1, 1)] X) Fu
      ⟨_, reb_lit [(1, .ptr 1 0 0), (3, .int .i64 (0))] [(1, 0)] [((1, 0), .box [.int .i64 a0.Kind, .int .i64 a0.N, .str a0.Key, .str a0.Value, .sl 5 (List.map enc23 a0.Kids)])] [(1, 1)] (envOk_cons (by conv => lhs; whnf) (by exact rfl) (envOk_cons (by conv => lhs; whnf) (by exact rfl) envOk_nil)) (objOk_cons (by conv => lhs; whnf) (by conv => lhs; whnf) (by exact rfl) (by simp) objOk_nil) (nodup_b rfl) (nodup_b rfl) rfl rfl, 0, h, rfl⟩ ?_
    rintro m s ⟨v3_1, h, rfl⟩
    obtain ⟨m1, q5, rfl, h, hq6⟩ := loop_some h
    replace h : gleaninglaw14_plain_b_l1 K a0 v3_1 = some q5 := h
    unfold gleaninglaw14_plain_b_l1 at h
    refine aw_seq_k (fun K7 hK7 => ?_)
    refine aw_seq_k (fun K8 hK8 => ?_)
    refine aw_reg ?_
    refine ao_cons (acts_of rfl (does_move (v := .int .i64 v3_1) (by exact rfl))) (by decide) ?_
    refine ao_cons (acts_of rfl (does_fieldAddr (q := .ptr 1 0 4) (by conv => lhs; whnf) ty24 rfl ty22 (by decide) (by exact rfl))) (by decide) ?_
    refine ao_cons (acts_of rfl (does_load (v := .sl 5 (List.map enc23 a0.Kids)) (by conv => lhs; whnf) (by conv => lhs; whnf) ty22 (by exact rfl))) (by decide) ?_
    refine ao_cons (acts_of rfl ((does_len_sl (by conv => lhs; whnf) ty22).castp (v' := .int .i64 (List.length a0.Kids : Int)) (by exact len_map _))) (by decide) ?_
    refine ao_cons (acts_of rfl (does_bin (v := .bool (decide (v3_1 < (List.length a0.Kids : Int)))) (by conv => lhs; whnf) (by conv => lhs; whnf) rfl)) (by decide) ?_
    refine ao_nil_n ?_
    refine hK8 _ ?_
    refine aw_bool (b := (decide (v3_1 < (List.length a0.Kids : Int)))) 8 rfl (fun c9 => ?_) (fun c9 => ?_)
    · have h := ifT c9 h
      refine aw_cond_t (by decide) rfl ?_
      refine aw_skip ?_
      refine hK7 _ ?_
      refine aw_seq_k (fun K10 hK10 => ?_)
      refine aw_block ?_
      refine aw_seq_k (fun K11 hK11 => ?_)
      refine aw_reg ?_
      refine ao_cons (acts_of rfl (does_fieldAddr (q := .ptr 1 0 4) (by conv => lhs; whnf) ty24 rfl ty22 (by decide) (by exact rfl))) (by decide) ?_
      refine ao_cons (acts_of rfl (does_load (v := .sl 5 (List.map enc23 a0.Kids)) (by conv => lhs; whnf) (by conv => lhs; whnf) ty22 (by exact rfl))) (by decide) ?_
      refine ao_cons (acts_of rfl (does_move (v := .int .i64 v3_1) (by exact rfl))) (by decide) ?_
      obtain ⟨g12, h⟩ := gd_some h
      obtain ⟨x13, hx13, h⟩ := bnd_some h
      refine ao_cons (acts_of rfl (does_indexAddr_sl (el := .agg [.int .i64 x13.Kind, .int .i64 x13.N, .str x13.Key, .str x13.Value, .sl 5 (List.map enc23 x13.Kids)]) (by conv => lhs; whnf) (by conv => lhs; whnf) ty22 ty24 g12 (by exact map_getE (enc23_eq _) hx13))) (by decide) ?_
      refine ao_cons (acts_of rfl (does_load (v := .agg [.int .i64 x13.Kind, .int .i64 x13.N, .str x13.Key, .str x13.Value, .sl 5 (List.map enc23 x13.Kids)]) (by conv => lhs; whnf) (by conv => lhs; whnf) ty24 (by exact rfl))) (by decide) ?_
      obtain ⟨x14, hx14, h⟩ := bnd_some h
      refine ao_cons (acts_of rfl (do_call0 16 false (hK x13 hx14) rfl ent26 rfl rfl)) (by decide) ?_
      refine ao_cons (acts_of rfl (does_un (v := .bool (!x14)) (by conv => lhs; whnf) rfl)) (by decide) ?_
      refine ao_nil_n ?_
      refine hK11 _ ?_
      refine aw_bool (b := (!x14)) 17 rfl (fun c15 => ?_) (fun c15 => ?_)
      · have h := ifT c15 h
        refine aw_cond_t (by decide) rfl ?_
        refine aw_seq_k (fun K16 hK16 => ?_)
        refine aw_reg ?_
        refine ao_cons (acts_of rfl (does_assign (v := .bool false) (by exact rfl))) (by decide) ?_
        refine ao_nil_n ?_
        refine hK16 _ ?_
        refine aw_ret ?_
        have h := leafR h hq6
        have h := leafR h hk3
        obtain rfl := Option.some.inj h
        exact ret_ok1 (by conv => lhs; whnf) (by conv => lhs; whnf) (by exact rfl) (.inr rfl) rfl
      · have h := ifF c15 h
        refine aw_cond_f (by decide) rfl ?_
        refine aw_skip ?_
        refine hK10 _ ?_
        refine aw_reg ?_
        refine ao_cons (acts_of rfl (does_move (v := .int .i64 v3_1) (by exact rfl))) (by decide) ?_
        refine ao_cons (acts_of rfl (does_bin (v := .int .i64 (IntKind.i64.wrap (v3_1 + 1))) (by conv => lhs; whnf) (by conv => lhs; whnf) rfl)) (by decide) ?_
        refine ao_cons (acts_of rfl (does_assign (v := .int .i64 (IntKind.i64.wrap (v3_1 + 1))) (by exact rfl))) (by decide) ?_
        refine ao_nil_n ?_
        have h := leafL h hq6
        exact ⟨m1, Nat.lt_succ_self _, _, reb_lit [(1, .ptr 1 0 0), (3, .int .i64 (IntKind.i64.wrap (v3_1 + 1)))] [(1, 0)] [((1, 0), .box [.int .i64 a0.Kind, .int .i64 a0.N, .str a0.Key, .str a0.Value, .sl 5 (List.map enc23 a0.Kids)])] [(1, 1)] (envOk_cons (by conv => lhs; whnf) (by exact rfl) (envOk_cons (by conv => lhs; whnf) (by exact rfl) envOk_nil)) (objOk_cons (by conv => lhs; whnf) (by conv => lhs; whnf) (by exact rfl) (by simp) objOk_nil) (nodup_b rfl) (nodup_b rfl) rfl rfl, (IntKind.i64.wrap (v3_1 + 1)), h, rfl⟩
    · have h := ifF c9 h
      refine aw_cond_f (by decide) rfl ?_
      refine aw_exit ?_
      have h := leafR h hq6
      have h := leafL h hk3
      exact ⟨_, reb_lit [(1, .ptr 1 0 0)] [(1, 0)] [((1, 0), .box [.int .i64 a0.Kind, .int .i64 a0.N, .str a0.Key, .str a0.Value, .sl 5 (List.map enc23 a0.Kids)])] [(1, 1)] (envOk_cons (by conv => lhs; whnf) (by exact rfl) envOk_nil) (objOk_cons (by conv => lhs; whnf) (by conv => lhs; whnf) (by exact rfl) (by simp) objOk_nil) (nodup_b rfl) (nodup_b rfl) rfl rfl, h, rfl⟩
  · rintro s ⟨h, rfl⟩
    unfold gleaninglaw14_plain_b_k0 at h
    refine aw_seq_k (fun K17 hK17 => ?_)
    refine aw_reg ?_
    refine ao_cons (acts_of rfl (does_fieldAddr (q := .ptr 1 0 0) (by conv => lhs; whnf) ty24 rfl ty3 (by decide) (by exact rfl))) (by decide) ?_
    refine ao_cons (acts_of rfl (does_load (v := .int .i64 a0.Kind) (by conv => lhs; whnf) (by conv => lhs; whnf) ty3 (by exact rfl))) (by decide) ?_
    refine ao_cons (acts_of rfl (does_bin (v := .bool (a0.Kind != 3)) (by conv => lhs; whnf) (by conv => lhs; whnf) rfl)) (by decide) ?_
    refine ao_cons (acts_of rfl (does_move (v := .bool (a0.Kind != 3)) (by exact rfl))) (by decide) ?_
    refine ao_bool (c := (a0.Kind != 3)) 21 rfl (fun c18 => ?_) (fun c18 => ?_)
    · have h := ifT c18 h
      refine ao_cons (acts_of rfl (does_fieldAddr (q := .ptr 1 0 0) (by conv => lhs; whnf) ty24 rfl ty3 (by decide) (by exact rfl))) (by decide) ?_
      refine ao_cons (acts_of rfl (does_load (v := .int .i64 a0.Kind) (by conv => lhs; whnf) (by conv => lhs; whnf) ty3 (by exact rfl))) (by decide) ?_
      refine ao_cons (acts_of rfl (does_bin (v := .bool (a0.Kind != 9)) (by conv => lhs; whnf) (by conv => lhs; whnf) rfl)) (by decide) ?_
      refine ao_cons (acts_of rfl (does_pick (v := .bool (a0.Kind != 9)) (by conv => lhs; whnf) (by exact rfl))) (by decide) ?_
      refine ao_cons (acts_of rfl (does_assign (v := .bool (a0.Kind != 9)) (by exact rfl))) (by decide) ?_
      refine ao_nil_n ?_
      refine hK17 _ ?_
      refine aw_ret ?_
      obtain rfl := Option.some.inj h
      exact ret_ok1 (by conv => lhs; whnf) (by conv => lhs; whnf) (by exact rfl) (.inr rfl) rfl
    · have h := ifF c18 h
      refine ao_cons (acts_skip rfl) (by decide) ?_
      refine ao_cons (acts_skip rfl) (by decide) ?_
      refine ao_cons (acts_skip rfl) (by decide) ?_
      refine ao_cons (acts_of rfl (does_pick (v := .bool false) (by conv => lhs; whnf) (by exact rfl))) (by decide) ?_
      refine ao_cons (acts_of rfl (does_assign (v := .bool false) (by exact rfl))) (by decide) ?_
      refine ao_nil_n ?_
      refine hK17 _ ?_
      refine aw_ret ?_
      obtain rfl := Option.some.inj h
      exact ret_ok1 (by conv => lhs; whnf) (by conv => lhs; whnf) (by exact rfl) (.inr rfl) rfl
def gleaninglaw14_plainN : Nat → Rule → Option Bool
  | 0, _ => none
  | n + 1, a0 => gleaninglaw14_plain_b (gleaninglaw14_plainN n) a0
theorem gleaninglaw14_plainN_ok : ∀ (n : Nat) (a0 : Rule) {r : Bool}, gleaninglaw14_plainN n a0 = some r → Ok Try.prog 26 [.agg [.int .i64 a0.Kind, .int .i64 a0.N, .str a0.Key, .str a0.Value, .sl 5 (List.map enc23 a0.Kids)]] [] [] (.bool r) [] []
  | 0, _, _, h => by simp [gleaninglaw14_plainN] at h
  | n + 1, a0, _, h => gleaninglaw14_plain_b_ok (gleaninglaw14_plainN n) (gleaninglaw14_plainN_ok n) a0 h
def gleaninglaw14_plain (a0 : Rule) : Option Bool := gleaninglaw14_plainN Fu a0
theorem gleaninglaw14_plain_ok (a0 : Rule) {r : Bool} (h : gleaninglaw14_plain a0 = some r) : Ok Try.prog 26 [.agg [.int .i64 a0.Kind, .int .i64 a0.N, .str a0.Key, .str a0.Value, .sl 5 (List.map enc23 a0.Kids)]] [] [] (.bool r) [] [] := gleaninglaw14_plainN_ok Fu a0 h
def gleaninglaw14_JudgeGrows_k0 (a0 : Rule) (a1 : Episode) (a2 : List Span) (a3 : Int) : Option Bool :=
  gd ((List.length a1.Spans) * 112 ≤ 140737488355328 ∧ (List.length a1.Spans) ≤ 140737488355328) (gd ((List.length (a1.Spans ++ a2)) * 112 ≤ 140737488355328 ∧ (List.length (a1.Spans ++ a2)) ≤ 140737488355328) (Option.bind (judge_Keep a0 a1 a3) (fun (x26 : Bool) => if (!x26) = true then (some true) else (Option.bind (judge_Keep a0 (Episode.mk a1.Trace a1.First a1.Last a1.Sure (a1.Spans ++ a2)) (IntKind.i64.wrap (a3 + 1))) (fun (x28 : Bool) => some x28)))))
def gleaninglaw14_JudgeGrows (a0 : Rule) (a1 : Episode) (a2 : List Span) (a3 : Int) : Option Bool :=
  Option.bind (gleaninglaw14_alive) (fun (x3 : Bool) => Option.bind (if (!x3) = true then (some (Sum.inr x3)) else (Option.bind (gleaninglaw13_Few a0) (fun (x9 : Bool) => if (!x9) = true then (some (Sum.inr x3)) else (Option.bind (gleaninglaw3_FewAll a1.Spans) (fun (x12 : Bool) => if (!x12) = true then (some (Sum.inr x3)) else (Option.bind (gleaninglaw3_FewAll a2) (fun (x15 : Bool) => if (!x15) = true then (some (Sum.inr x3)) else (Option.bind (gleaninglaw14_plain a0) (fun (x18 : Bool) => if (!x18) = true then (some (Sum.inr x3)) else (some (Sum.inl ()))))))))))) (Sum.elim (fun (s : Unit) => gleaninglaw14_JudgeGrows_k0 a0 a1 a2 a3) some))
set_option maxRecDepth 100000 in
set_option maxHeartbeats 8000000 in
/-- gleaning/gleaninglaw14.JudgeGrows -/
theorem gleaninglaw14_JudgeGrows_ok (a0 : Rule) (a1 : Episode) (a2 : List Span) (a3 : Int) {r : Bool} (h : gleaninglaw14_JudgeGrows a0 a1 a2 a3 = some r) : Ok Try.prog 6 [.agg [.int .i64 a0.Kind, .int .i64 a0.N, .str a0.Key, .str a0.Value, .sl 5 (List.map enc23 a0.Kids)], .agg [.int .u64 a1.Trace.Hi, .int .u64 a1.Trace.Lo, .int .i64 a1.First, .int .i64 a1.Last, .bool a1.Sure, .sl 10 (List.map enc41 a1.Spans)], .sl 10 (List.map enc41 a2), .int .i64 a3] [] [] (.bool r) [] [] := by
  unfold gleaninglaw14_JudgeGrows at h
  refine ok_of_code Try.func6 rfl (by show (4 : Nat) ≤ _; decide) (Nat.le_refl _) fun X => ?_
  refine aw_seq_k (fun K1 hK1 => ?_)
  refine aw_reg ?_
  refine ao_cons (acts_of rfl (do_box (by conv => lhs; whnf) rfl rfl)) (by decide) ?_
  refine ao_cons (acts_of rfl (do_box (by conv => lhs; whnf) rfl rfl)) (by decide) ?_
  refine ao_cons (acts_of rfl (does_assign (v := .bool false) (by exact rfl))) (by decide) ?_
  refine ao_nil_n ?_
  refine hK1 _ ?_
  refine aw_seq_k (fun K2 hK2 => ?_)
  refine aw_reg ?_
  obtain ⟨x3, hx3, h⟩ := bnd_some h
  refine ao_cons (acts_of rfl (do_call0 11 false (gleaninglaw14_alive_ok hx3) rfl ent18 rfl rfl)) (by decide) ?_
  refine ao_cons (acts_of rfl (does_assign (v := .bool x3) (by exact rfl))) (by decide) ?_
  refine ao_nil_n ?_
  refine hK2 _ ?_
  obtain ⟨q4, h, hk5⟩ := bnd_some h
  refine aw_cut (fun s => gleaninglaw14_JudgeGrows_k0 a0 a1 a2 a3 = some r ∧ s = lit [(2, .sl 10 (List.map enc41 a2)), (3, .int .i64 a3), (4, .ptr 4 0 0), (5, .ptr 5 0 0)] [((4, 0), .box [.int .i64 a0.Kind, .int .i64 a0.N, .str a0.Key, .str a0.Value, .sl 5 (List.map enc23 a0.Kids)]), ((5, 0), .box [.int .u64 a1.Trace.Hi, .int .u64 a1.Trace.Lo, .int .i64 a1.First, .int .i64 a1.Last, .bool a1.Sure, .sl 10 (List.map enc41 a1.Spans)])] [(4, 1), (5, 1)] X) ?_ ?_
  · skip
    refine aw_seq_k (fun K6 hK6 => ?_)
    refine aw_reg ?_
    refine ao_cons (acts_of rfl (does_move (v := .bool x3) (by exact rfl))) (by decide) ?_
    refine ao_cons (acts_of rfl (does_un (v := .bool (!x3)) (by conv => lhs; whnf) rfl)) (by decide) ?_
    refine ao_cons (acts_of rfl (does_move (v := .bool (!x3)) (by exact rfl))) (by decide) ?_
    refine ao_bool (c := (!x3)) 14 rfl (fun c7 => ?_) (fun c7 => ?_)
    · have h := ifT c7 h
      refine ao_cons (acts_skip rfl) (by decide) ?_
      refine ao_cons (acts_skip rfl) (by decide) ?_
      refine ao_cons (acts_skip rfl) (by decide) ?_
      refine ao_cons (acts_of rfl (does_pick (v := .bool true) (by conv => lhs; whnf) (by exact rfl))) (by decide) ?_
      refine ao_cons (acts_of rfl (does_move (v := .bool true) (by exact rfl))) (by decide) ?_
      refine ao_cons (acts_skip rfl) (by decide) ?_
      refine ao_cons (acts_skip rfl) (by decide) ?_
      refine ao_cons (acts_skip rfl) (by decide) ?_
      refine ao_cons (acts_skip rfl) (by decide) ?_
      refine ao_cons (acts_of rfl (does_pick (v := .bool true) (by conv => lhs; whnf) (by exact rfl))) (by decide) ?_
      refine ao_cons (acts_of rfl (does_move (v := .bool true) (by exact rfl))) (by decide) ?_
      refine ao_cons (acts_skip rfl) (by decide) ?_
      refine ao_cons (acts_skip rfl) (by decide) ?_
      refine ao_cons (acts_skip rfl) (by decide) ?_
      refine ao_cons (acts_of rfl (does_pick (v := .bool true) (by conv => lhs; whnf) (by exact rfl))) (by decide) ?_
      refine ao_cons (acts_of rfl (does_move (v := .bool true) (by exact rfl))) (by decide) ?_
      refine ao_cons (acts_skip rfl) (by decide) ?_
      refine ao_cons (acts_skip rfl) (by decide) ?_
      refine ao_cons (acts_skip rfl) (by decide) ?_
      refine ao_cons (acts_of rfl (does_pick (v := .bool true) (by conv => lhs; whnf) (by exact rfl))) (by decide) ?_
      refine ao_nil_n ?_
      refine hK6 _ ?_
      refine aw_cond_t (by decide) rfl ?_
      refine aw_seq_k (fun K8 hK8 => ?_)
      refine aw_reg ?_
      refine ao_cons (acts_of rfl (does_move (v := .bool x3) (by exact rfl))) (by decide) ?_
      refine ao_cons (acts_of rfl (does_assign (v := .bool x3) (by exact rfl))) (by decide) ?_
      refine ao_nil_n ?_
      refine hK8 _ ?_
      refine aw_ret ?_
      have h := leafR h hk5
      obtain rfl := Option.some.inj h
      exact ret_ok1 (by conv => lhs; whnf) (by conv => lhs; whnf) (by exact rfl) (.inr rfl) rfl
    · have h := ifF c7 h
      refine ao_cons (acts_of rfl (does_load (v := .agg [.int .i64 a0.Kind, .int .i64 a0.N, .str a0.Key, .str a0.Value, .sl 5 (List.map enc23 a0.Kids)]) (by conv => lhs; whnf) (by conv => lhs; whnf) ty24 (by exact rfl))) (by decide) ?_
      obtain ⟨x9, hx9, h⟩ := bnd_some h
      refine ao_cons (acts_of rfl (do_call0 16 false (gleaninglaw13_Few_ok a0 hx9) rfl ent19 rfl rfl)) (by decide) ?_
      refine ao_cons (acts_of rfl (does_un (v := .bool (!x9)) (by conv => lhs; whnf) rfl)) (by decide) ?_
      refine ao_cons (acts_of rfl (does_pick (v := .bool (!x9)) (by conv => lhs; whnf) (by exact rfl))) (by decide) ?_
      refine ao_cons (acts_of rfl (does_move (v := .bool (!x9)) (by exact rfl))) (by decide) ?_
      refine ao_bool (c := (!x9)) 19 rfl (fun c10 => ?_) (fun c10 => ?_)
      · have h := ifT c10 h
        refine ao_cons (acts_skip rfl) (by decide) ?_
        refine ao_cons (acts_skip rfl) (by decide) ?_
        refine ao_cons (acts_skip rfl) (by decide) ?_
        refine ao_cons (acts_skip rfl) (by decide) ?_
        refine ao_cons (acts_of rfl (does_pick (v := .bool true) (by conv => lhs; whnf) (by exact rfl))) (by decide) ?_
        refine ao_cons (acts_of rfl (does_move (v := .bool true) (by exact rfl))) (by decide) ?_
        refine ao_cons (acts_skip rfl) (by decide) ?_
        refine ao_cons (acts_skip rfl) (by decide) ?_
        refine ao_cons (acts_skip rfl) (by decide) ?_
        refine ao_cons (acts_of rfl (does_pick (v := .bool true) (by conv => lhs; whnf) (by exact rfl))) (by decide) ?_
        refine ao_cons (acts_of rfl (does_move (v := .bool true) (by exact rfl))) (by decide) ?_
        refine ao_cons (acts_skip rfl) (by decide) ?_
        refine ao_cons (acts_skip rfl) (by decide) ?_
        refine ao_cons (acts_skip rfl) (by decide) ?_
        refine ao_cons (acts_of rfl (does_pick (v := .bool true) (by conv => lhs; whnf) (by exact rfl))) (by decide) ?_
        refine ao_nil_n ?_
        refine hK6 _ ?_
        refine aw_cond_t (by decide) rfl ?_
        refine aw_seq_k (fun K11 hK11 => ?_)
        refine aw_reg ?_
        refine ao_cons (acts_of rfl (does_move (v := .bool x3) (by exact rfl))) (by decide) ?_
        refine ao_cons (acts_of rfl (does_assign (v := .bool x3) (by exact rfl))) (by decide) ?_
        refine ao_nil_n ?_
        refine hK11 _ ?_
        refine aw_ret ?_
        have h := leafR h hk5
        obtain rfl := Option.some.inj h
        exact ret_ok1 (by conv => lhs; whnf) (by conv => lhs; whnf) (by exact rfl) (.inr rfl) rfl
      · have h := ifF c10 h
        refine ao_cons (acts_of rfl (does_fieldAddr (q := .ptr 5 0 5) (by conv => lhs; whnf) ty30 rfl ty28 (by decide) (by exact rfl))) (by decide) ?_
        refine ao_cons (acts_of rfl (does_load (v := .sl 10 (List.map enc41 a1.Spans)) (by conv => lhs; whnf) (by conv => lhs; whnf) ty28 (by exact rfl))) (by decide) ?_
        obtain ⟨x12, hx12, h⟩ := bnd_some h
        refine ao_cons (acts_of rfl (do_call0 22 false (gleaninglaw3_FewAll_ok a1.Spans hx12) rfl ent20 rfl rfl)) (by decide) ?_
        refine ao_cons (acts_of rfl (does_un (v := .bool (!x12)) (by conv => lhs; whnf) rfl)) (by decide) ?_
        refine ao_cons (acts_of rfl (does_pick (v := .bool (!x12)) (by conv => lhs; whnf) (by exact rfl))) (by decide) ?_
        refine ao_cons (acts_of rfl (does_move (v := .bool (!x12)) (by exact rfl))) (by decide) ?_
        refine ao_bool (c := (!x12)) 25 rfl (fun c13 => ?_) (fun c13 => ?_)
        · have h := ifT c13 h
          refine ao_cons (acts_skip rfl) (by decide) ?_
          refine ao_cons (acts_skip rfl) (by decide) ?_
          refine ao_cons (acts_skip rfl) (by decide) ?_
          refine ao_cons (acts_of rfl (does_pick (v := .bool true) (by conv => lhs; whnf) (by exact rfl))) (by decide) ?_
          refine ao_cons (acts_of rfl (does_move (v := .bool true) (by exact rfl))) (by decide) ?_
          refine ao_cons (acts_skip rfl) (by decide) ?_
          refine ao_cons (acts_skip rfl) (by decide) ?_
          refine ao_cons (acts_skip rfl) (by decide) ?_
          refine ao_cons (acts_of rfl (does_pick (v := .bool true) (by conv => lhs; whnf) (by exact rfl))) (by decide) ?_
          refine ao_nil_n ?_
          refine hK6 _ ?_
          refine aw_cond_t (by decide) rfl ?_
          refine aw_seq_k (fun K14 hK14 => ?_)
          refine aw_reg ?_
          refine ao_cons (acts_of rfl (does_move (v := .bool x3) (by exact rfl))) (by decide) ?_
          refine ao_cons (acts_of rfl (does_assign (v := .bool x3) (by exact rfl))) (by decide) ?_
          refine ao_nil_n ?_
          refine hK14 _ ?_
          refine aw_ret ?_
          have h := leafR h hk5
          obtain rfl := Option.some.inj h
          exact ret_ok1 (by conv => lhs; whnf) (by conv => lhs; whnf) (by exact rfl) (.inr rfl) rfl
        · have h := ifF c13 h
          refine ao_cons (acts_of rfl (does_move (v := .sl 10 (List.map enc41 a2)) (by exact rfl))) (by decide) ?_
          obtain ⟨x15, hx15, h⟩ := bnd_some h
          refine ao_cons (acts_of rfl (do_call0 27 false (gleaninglaw3_FewAll_ok a2 hx15) rfl ent20 rfl rfl)) (by decide) ?_
          refine ao_cons (acts_of rfl (does_un (v := .bool (!x15)) (by conv => lhs; whnf) rfl)) (by decide) ?_
          refine ao_cons (acts_of rfl (does_pick (v := .bool (!x15)) (by conv => lhs; whnf) (by exact rfl))) (by decide) ?_
          refine ao_cons (acts_of rfl (does_move (v := .bool (!x15)) (by exact rfl))) (by decide) ?_
          refine ao_bool (c := (!x15)) 30 rfl (fun c16 => ?_) (fun c16 => ?_)
          · have h := ifT c16 h
            refine ao_cons (acts_skip rfl) (by decide) ?_
            refine ao_cons (acts_skip rfl) (by decide) ?_
            refine ao_cons (acts_skip rfl) (by decide) ?_
            refine ao_cons (acts_of rfl (does_pick (v := .bool true) (by conv => lhs; whnf) (by exact rfl))) (by decide) ?_
            refine ao_nil_n ?_
            refine hK6 _ ?_
            refine aw_cond_t (by decide) rfl ?_
            refine aw_seq_k (fun K17 hK17 => ?_)
            refine aw_reg ?_
            refine ao_cons (acts_of rfl (does_move (v := .bool x3) (by exact rfl))) (by decide) ?_
            refine ao_cons (acts_of rfl (does_assign (v := .bool x3) (by exact rfl))) (by decide) ?_
            refine ao_nil_n ?_
            refine hK17 _ ?_
            refine aw_ret ?_
            have h := leafR h hk5
            obtain rfl := Option.some.inj h
            exact ret_ok1 (by conv => lhs; whnf) (by conv => lhs; whnf) (by exact rfl) (.inr rfl) rfl
          · have h := ifF c16 h
            refine ao_cons (acts_of rfl (does_load (v := .agg [.int .i64 a0.Kind, .int .i64 a0.N, .str a0.Key, .str a0.Value, .sl 5 (List.map enc23 a0.Kids)]) (by conv => lhs; whnf) (by conv => lhs; whnf) ty24 (by exact rfl))) (by decide) ?_
            obtain ⟨x18, hx18, h⟩ := bnd_some h
            refine ao_cons (acts_of rfl (do_call0 32 false (gleaninglaw14_plain_ok a0 hx18) rfl ent26 rfl rfl)) (by decide) ?_
            refine ao_cons (acts_of rfl (does_un (v := .bool (!x18)) (by conv => lhs; whnf) rfl)) (by decide) ?_
            refine ao_cons (acts_of rfl (does_pick (v := .bool (!x18)) (by conv => lhs; whnf) (by exact rfl))) (by decide) ?_
            refine ao_nil_n ?_
            refine hK6 _ ?_
            refine aw_bool (b := (!x18)) 34 rfl (fun c19 => ?_) (fun c19 => ?_)
            · have h := ifT c19 h
              refine aw_cond_t (by decide) rfl ?_
              refine aw_seq_k (fun K20 hK20 => ?_)
              refine aw_reg ?_
              refine ao_cons (acts_of rfl (does_move (v := .bool x3) (by exact rfl))) (by decide) ?_
              refine ao_cons (acts_of rfl (does_assign (v := .bool x3) (by exact rfl))) (by decide) ?_
              refine ao_nil_n ?_
              refine hK20 _ ?_
              refine aw_ret ?_
              have h := leafR h hk5
              obtain rfl := Option.some.inj h
              exact ret_ok1 (by conv => lhs; whnf) (by conv => lhs; whnf) (by exact rfl) (.inr rfl) rfl
            · have h := ifF c19 h
              refine aw_cond_f (by decide) rfl ?_
              refine aw_skip ?_
              have h := leafL h hk5
              exact ⟨_, reb_lit [(2, .sl 10 (List.map enc41 a2)), (3, .int .i64 a3), (4, .ptr 4 0 0), (5, .ptr 5 0 0)] [(4, 0), (5, 0)] [((4, 0), .box [.int .i64 a0.Kind, .int .i64 a0.N, .str a0.Key, .str a0.Value, .sl 5 (List.map enc23 a0.Kids)]), ((5, 0), .box [.int .u64 a1.Trace.Hi, .int .u64 a1.Trace.Lo, .int .i64 a1.First, .int .i64 a1.Last, .bool a1.Sure, .sl 10 (List.map enc41 a1.Spans)])] [(4, 1), (5, 1)] (envOk_cons (by conv => lhs; whnf) (by exact rfl) (envOk_cons (by conv => lhs; whnf) (by exact rfl) (envOk_cons (by conv => lhs; whnf) (by exact rfl) (envOk_cons (by conv => lhs; whnf) (by exact rfl) envOk_nil)))) (objOk_cons (by conv => lhs; whnf) (by conv => lhs; whnf) (by exact rfl) (by simp) (objOk_cons (by conv => lhs; whnf) (by conv => lhs; whnf) (by exact rfl) (by simp) objOk_nil)) (nodup_b rfl) (nodup_b rfl) rfl rfl, h, rfl⟩
  · rintro s ⟨h, rfl⟩
    unfold gleaninglaw14_JudgeGrows_k0 at h
    refine aw_seq_k (fun K21 hK21 => ?_)
    refine aw_reg ?_
    refine ao_cons (acts_of rfl (does_load (v := .agg [.int .u64 a1.Trace.Hi, .int .u64 a1.Trace.Lo, .int .i64 a1.First, .int .i64 a1.Last, .bool a1.Sure, .sl 10 (List.map enc41 a1.Spans)]) (by conv => lhs; whnf) (by conv => lhs; whnf) ty30 (by exact rfl))) (by decide) ?_
    refine ao_cons (acts_of rfl (do_new ty30 rfl rfl)) (by decide) ?_
    refine ao_cons (acts_of rfl (do_store (cs' := [.int .u64 a1.Trace.Hi, .int .u64 a1.Trace.Lo, .int .i64 a1.First, .int .i64 a1.Last, .bool a1.Sure, .sl 10 (List.map enc41 a1.Spans)]) (by conv => lhs; whnf) (by conv => lhs; whnf) (by conv => lhs; whnf) ty30 rfl rfl rfl (by exact rfl))) (by decide) ?_
    refine ao_nil_n ?_
    refine hK21 _ ?_
    refine aw_seq_k (fun K22 hK22 => ?_)
    refine aw_reg ?_
    refine ao_cons (acts_of rfl (does_fieldAddr (q := .ptr 5 0 5) (by conv => lhs; whnf) ty30 rfl ty28 (by decide) (by exact rfl))) (by decide) ?_
    refine ao_cons (acts_of rfl (does_load (v := .sl 10 (List.map enc41 a1.Spans)) (by conv => lhs; whnf) (by conv => lhs; whnf) ty28 (by exact rfl))) (by decide) ?_
    obtain ⟨g23, h⟩ := gd_some h
    refine ao_cons (acts_of rfl (do_append (v := List.map enc41 a1.Spans) (by conv => lhs; whnf) (by conv => lhs; whnf) ty28 ty42 rfl rfl (by conv => lhs; whnf) (by first | exact .inl rfl | exact .inr ⟨rfl, rfl⟩) (by conv => lhs; whnf) (by first | exact .inr rfl | exact .inl rfl) (List.nil_append _) (fit_map g23))) (by decide) ?_
    refine ao_cons (acts_of rfl (does_move (v := .sl 10 (List.map enc41 a2)) (by exact rfl))) (by decide) ?_
    obtain ⟨g24, h⟩ := gd_some h
    refine ao_cons (acts_of rfl (do_append (v := List.map enc41 (a1.Spans ++ a2)) (by conv => lhs; whnf) (by conv => lhs; whnf) ty28 ty42 rfl rfl (by conv => lhs; whnf) (by first | exact .inl rfl | exact .inr ⟨rfl, rfl⟩) (by conv => lhs; whnf) (by first | exact .inr rfl | exact .inl rfl) (map_app _ _) (fit_map g24))) (by decide) ?_
    refine ao_cons (acts_of rfl (does_fieldAddr (q := .ptr 10 0 5) (by conv => lhs; whnf) ty30 rfl ty28 (by decide) (by exact rfl))) (by decide) ?_
    refine ao_cons (acts_of rfl (do_store (cs' := [.int .u64 a1.Trace.Hi, .int .u64 a1.Trace.Lo, .int .i64 a1.First, .int .i64 a1.Last, .bool a1.Sure, .own 41 0]) (by conv => lhs; whnf) (by conv => lhs; whnf) (by conv => lhs; whnf) ty28 rfl rfl rfl (by exact rfl))) (by decide) ?_
    refine ao_nil_n ?_
    refine hK22 _ ?_
    refine aw_seq_k (fun K25 hK25 => ?_)
    refine aw_reg ?_
    refine ao_cons (acts_of rfl (does_load (v := .agg [.int .i64 a0.Kind, .int .i64 a0.N, .str a0.Key, .str a0.Value, .sl 5 (List.map enc23 a0.Kids)]) (by conv => lhs; whnf) (by conv => lhs; whnf) ty24 (by exact rfl))) (by decide) ?_
    refine ao_cons (acts_of rfl (does_load (v := .agg [.int .u64 a1.Trace.Hi, .int .u64 a1.Trace.Lo, .int .i64 a1.First, .int .i64 a1.Last, .bool a1.Sure, .sl 10 (List.map enc41 a1.Spans)]) (by conv => lhs; whnf) (by conv => lhs; whnf) ty30 (by exact rfl))) (by decide) ?_
    refine ao_cons (acts_of rfl (does_move (v := .int .i64 a3) (by exact rfl))) (by decide) ?_
    obtain ⟨x26, hx26, h⟩ := bnd_some h
    refine ao_cons (acts_of rfl (do_call0 46 false (judge_Keep_ok a0 a1 a3 hx26) rfl ent23 rfl rfl)) (by decide) ?_
    refine ao_cons (acts_of rfl (does_un (v := .bool (!x26)) (by conv => lhs; whnf) rfl)) (by decide) ?_
    refine ao_cons (acts_of rfl (does_move (v := .bool (!x26)) (by exact rfl))) (by decide) ?_
    refine ao_bool (c := (!x26)) 48 rfl (fun c27 => ?_) (fun c27 => ?_)
    · have h := ifT c27 h
      refine ao_cons (acts_skip rfl) (by decide) ?_
      refine ao_cons (acts_skip rfl) (by decide) ?_
      refine ao_cons (acts_skip rfl) (by decide) ?_
      refine ao_cons (acts_skip rfl) (by decide) ?_
      refine ao_cons (acts_skip rfl) (by decide) ?_
      refine ao_cons (acts_of rfl (does_pick (v := .bool true) (by conv => lhs; whnf) (by exact rfl))) (by decide) ?_
      refine ao_cons (acts_of rfl (does_assign (v := .bool true) (by exact rfl))) (by decide) ?_
      refine ao_nil_n ?_
      refine hK25 _ ?_
      refine aw_ret ?_
      obtain rfl := Option.some.inj h
      exact ret_ok1 (by conv => lhs; whnf) (by conv => lhs; whnf) (by exact rfl) (.inr rfl) rfl
    · have h := ifF c27 h
      refine ao_cons (acts_of rfl (does_load (v := .agg [.int .i64 a0.Kind, .int .i64 a0.N, .str a0.Key, .str a0.Value, .sl 5 (List.map enc23 a0.Kids)]) (by conv => lhs; whnf) (by conv => lhs; whnf) ty24 (by exact rfl))) (by decide) ?_
      refine ao_cons (acts_of rfl (does_load (v := .agg [.int .u64 a1.Trace.Hi, .int .u64 a1.Trace.Lo, .int .i64 a1.First, .int .i64 a1.Last, .bool a1.Sure, .own 41 0]) (by conv => lhs; whnf) (by conv => lhs; whnf) ty30 (by exact rfl))) (by decide) ?_
      refine ao_cons (acts_of rfl (does_move (v := .int .i64 a3) (by exact rfl))) (by decide) ?_
      refine ao_cons (acts_of rfl (does_bin (v := .int .i64 (IntKind.i64.wrap (a3 + 1))) (by conv => lhs; whnf) (by conv => lhs; whnf) rfl)) (by decide) ?_
      obtain ⟨x28, hx28, h⟩ := bnd_some h
      refine ao_cons (acts_of rfl (do_callG (bcs := []) [] [] [(41, 0)] 53 false (judge_Keep_ok a0 (Episode.mk a1.Trace a1.First a1.Last a1.Sure (a1.Spans ++ a2)) (IntKind.i64.wrap (a3 + 1)) hx28) rfl ent23 trivial trivial rfl rfl rfl rfl rfl rfl rfl rfl (.inr ⟨rfl, rfl, trivial⟩))) (by decide) ?_
      refine ao_cons (acts_of rfl (does_pick (v := .bool x28) (by conv => lhs; whnf) (by exact rfl))) (by decide) ?_
      refine ao_cons (acts_of rfl (does_assign (v := .bool x28) (by exact rfl))) (by decide) ?_
      refine ao_nil_n ?_
      refine hK25 _ ?_
      refine aw_ret ?_
      obtain rfl := Option.some.inj h
      exact ret_ok1 (by conv => lhs; whnf) (by conv => lhs; whnf) (by exact rfl) (.inr rfl) rfl
end Go.Proofs.Ytbfmmaabaenhgaa.Ab
