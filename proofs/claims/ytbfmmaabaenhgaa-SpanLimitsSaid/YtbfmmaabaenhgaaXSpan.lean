/- Chapter 3: the laws. -/
import Derived.Test.YtbfmmaabaenhgaaXSpan2
import Derived.Test.YtbfmmaabaenhgaaProg
namespace Go.Proofs.Ytbfmmaabaenhgaa.Ab
open Go Go.RowKit
set_option linter.unusedVariables false
set_option linter.unusedSimpArgs false
theorem ent27 : Ent Try.prog 27 := ⟨_, Try.func27, by kernel_rfl, rfl⟩
theorem ent29 : Ent Try.prog 29 := ⟨_, Try.func29, by kernel_rfl, rfl⟩
theorem ent30 : Ent Try.prog 30 := ⟨_, Try.func30, by kernel_rfl, rfl⟩
theorem ent31 : Ent Try.prog 31 := ⟨_, Try.func31, by kernel_rfl, rfl⟩
theorem ent35 : Ent Try.prog 35 := ⟨_, Try.func35, by kernel_rfl, rfl⟩
theorem ent36 : Ent Try.prog 36 := ⟨_, Try.func36, by kernel_rfl, rfl⟩
theorem ent37 : Ent Try.prog 37 := ⟨_, Try.func37, by kernel_rfl, rfl⟩
def gleaninglaw3_num (a0 : Int) : Option Int :=
  some a0
set_option maxRecDepth 100000 in
set_option maxHeartbeats 8000000 in
/-- gleaning/gleaninglaw3.num -/
theorem gleaninglaw3_num_ok (a0 : Int) {r : Int} (h : gleaninglaw3_num a0 = some r) : Ok Try.prog 31 [.int .i64 a0] [] [] (.int .i64 r) [] [] := by
  unfold gleaninglaw3_num at h
  refine ok_of_code Try.func31 rfl (by show (1 : Nat) ≤ _; decide) (Nat.le_refl _) fun X => ?_
  refine aw_seq_k (fun K1 hK1 => ?_)
  refine aw_reg ?_
  refine ao_cons (acts_of rfl (does_assign (v := .int .i64 0) (by exact rfl))) (by decide) ?_
  refine ao_nil_n ?_
  refine hK1 _ ?_
  refine aw_seq_k (fun K2 hK2 => ?_)
  refine aw_reg ?_
  refine ao_cons (acts_of rfl (does_move (v := .int .i64 a0) (by exact rfl))) (by decide) ?_
  refine ao_cons (acts_of rfl (does_assign (v := .int .i64 a0) (by exact rfl))) (by decide) ?_
  refine ao_nil_n ?_
  refine hK2 _ ?_
  refine aw_ret ?_
  obtain rfl := Option.some.inj h
  exact ret_ok1 (by conv => lhs; whnf) (by conv => lhs; whnf) (by exact rfl) (.inr rfl) rfl
def gleaninglaw3_alive : Option Bool :=
  Option.bind (span_Bytes (Span.mk (Trace.mk 0 0) 0 0 (strOf [97]) (strOf [98]) 0 7 false [])) (fun (x4 : List UInt8) => Option.bind (span_Read x4) (fun (x5 : Span × Int × Int) => Option.bind (span_Bytes (Span.mk (Trace.mk 0 0) 0 0 (strOf []) (strOf []) 0 0 false [])) (fun (x7 : List UInt8) => if ((List.length x7 : Int) == 0) = true then (Option.bind (gleaninglaw3_num x5.2.2) (fun (x9 : Int) => if (x9 == 0) = true then (if (decide ((0 : Int) < x5.2.1)) = true then (if (x5.1.Dur == 7) = true then (Option.bind (span_Right (Span.mk (Trace.mk 0 0) 0 0 (strOf [97]) (strOf [98]) 0 7 false [])) (fun (x13 : Bool) => some x13)) else (some false)) else (some false)) else (some false))) else (some false))))
set_option maxRecDepth 100000 in
set_option maxHeartbeats 8000000 in
/-- gleaning/gleaninglaw3.alive -/
theorem gleaninglaw3_alive_ok {r : Bool} (h : gleaninglaw3_alive = some r) : Ok Try.prog 27 [] [] [] (.bool r) [] [] := by
  unfold gleaninglaw3_alive at h
  refine ok_of_code Try.func27 rfl (by show (0 : Nat) ≤ _; decide) (Nat.le_refl _) fun X => ?_
  refine aw_seq_k (fun K1 hK1 => ?_)
  refine aw_reg ?_
  refine ao_cons (acts_of rfl (does_assign (v := .bool false) (by exact rfl))) (by decide) ?_
  refine ao_nil_n ?_
  refine hK1 _ ?_
  refine aw_seq_k (fun K2 hK2 => ?_)
  refine aw_reg ?_
  refine ao_cons (acts_of rfl (do_build_struct (cs := [.int .u64 0, .int .u64 0, .int .u64 0, .int .u64 0, .str (strOf [97]), .str (strOf [98]), .int .i64 0, .int .i64 7, .bool false, .nil]) ty42 rfl [⟨.struct [(0, 25), (1, 25)], 2, 16, [.int .u64 0, .int .u64 0]⟩, ⟨.int .u64, 1, 8, [.int .u64 0]⟩, ⟨.int .u64, 1, 8, [.int .u64 0]⟩, ⟨.str, 1, 16, [.str ByteArray.empty]⟩, ⟨.str, 1, 16, [.str ByteArray.empty]⟩, ⟨.int .i64, 1, 8, [.int .i64 0]⟩, ⟨.int .i64, 1, 8, [.int .i64 0]⟩, ⟨.bool, 1, 1, [.bool false]⟩, ⟨.slice 53, 1, 24, [.nil]⟩] (by simp only [List.map, ty25, ty27, ty3, ty4, ty40, ty9]) (by rfl) (by exact rfl))) (by decide) ?_
  refine ao_cons (acts_of rfl (do_new ty42 rfl rfl)) (by decide) ?_
  refine ao_cons (acts_of rfl (do_store (cs' := [.int .u64 0, .int .u64 0, .int .u64 0, .int .u64 0, .str (strOf [97]), .str (strOf [98]), .int .i64 0, .int .i64 7, .bool false, .nil]) (by conv => lhs; whnf) (by conv => lhs; whnf) (by conv => lhs; whnf) ty42 rfl rfl rfl (by exact rfl))) (by decide) ?_
  refine ao_nil_n ?_
  refine hK2 _ ?_
  refine aw_seq_k (fun K3 hK3 => ?_)
  refine aw_reg ?_
  refine ao_cons (acts_of rfl ((does_load (v := .agg [.int .u64 0, .int .u64 0, .int .u64 0, .int .u64 0, .str (strOf [97]), .str (strOf [98]), .int .i64 0, .int .i64 7, .bool false, .nil]) (by conv => lhs; whnf) (by conv => lhs; whnf) ty42 (by exact rfl)).weak (v' := .agg [.int .u64 0, .int .u64 0, .int .u64 0, .int .u64 0, .str (strOf [97]), .str (strOf [98]), .int .i64 0, .int .i64 7, .bool false, .sl 2 (List.map enc52 [])]) (le_agg ⟨le_refl _, le_refl _, le_refl _, le_refl _, le_refl _, le_refl _, le_refl _, le_refl _, le_refl _, le_nil _, trivial⟩))) (by decide) ?_
  obtain ⟨x4, hx4, h⟩ := bnd_some h
  refine ao_cons (acts_of rfl (do_call0 8 false (span_Bytes_ok (Span.mk (Trace.mk 0 0) 0 0 (strOf [97]) (strOf [98]) 0 7 false []) hx4) rfl ent29 rfl rfl)) (by decide) ?_
  obtain ⟨x5, hx5, h⟩ := bnd_some h
  refine ao_cons (acts_of rfl (does_frz (d := 8) (n := 0) (by conv => lhs; whnf) (do_callG (bcs := []) [] [] [(8, 0)] 9 false (span_Read_ok x4 hx5) rfl ent30 trivial trivial rfl rfl rfl rfl rfl rfl rfl rfl (.inl ⟨⟨_, _, _, rfl⟩, trivial⟩)))) (by decide) ?_
  refine ao_cons (acts_of rfl (does_move (v := .tup [.agg [.int .u64 x5.1.Trace.Hi, .int .u64 x5.1.Trace.Lo, .int .u64 x5.1.Id, .int .u64 x5.1.Parent, .str x5.1.Service, .str x5.1.Op, .int .i64 x5.1.Start, .int .i64 x5.1.Dur, .bool x5.1.Err, .sl 2 (List.map enc52 x5.1.Attrs)], .int .i64 x5.2.1, .int .i64 x5.2.2]) (by exact rfl))) (by decide) ?_
  refine ao_cons (acts_of rfl (does_extract (v := .agg [.int .u64 x5.1.Trace.Hi, .int .u64 x5.1.Trace.Lo, .int .u64 x5.1.Id, .int .u64 x5.1.Parent, .str x5.1.Service, .str x5.1.Op, .int .i64 x5.1.Start, .int .i64 x5.1.Dur, .bool x5.1.Err, .sl 2 (List.map enc52 x5.1.Attrs)]) (by conv => lhs; whnf) (by exact rfl))) (by decide) ?_
  refine ao_cons (acts_of rfl (does_extract (v := .int .i64 x5.2.1) (by conv => lhs; whnf) (by exact rfl))) (by decide) ?_
  refine ao_cons (acts_of rfl (does_extract (v := .int .i64 x5.2.2) (by conv => lhs; whnf) (by exact rfl))) (by decide) ?_
  refine ao_cons (acts_of rfl (do_new ty42 rfl rfl)) (by decide) ?_
  refine ao_cons (acts_of rfl (do_store (cs' := [.int .u64 x5.1.Trace.Hi, .int .u64 x5.1.Trace.Lo, .int .u64 x5.1.Id, .int .u64 x5.1.Parent, .str x5.1.Service, .str x5.1.Op, .int .i64 x5.1.Start, .int .i64 x5.1.Dur, .bool x5.1.Err, .sl 2 (List.map enc52 x5.1.Attrs)]) (by conv => lhs; whnf) (by conv => lhs; whnf) (by conv => lhs; whnf) ty42 rfl rfl rfl (by exact rfl))) (by decide) ?_
  refine ao_cons (acts_of rfl (does_assign (v := .int .i64 x5.2.1) (by exact rfl))) (by decide) ?_
  refine ao_cons (acts_of rfl (does_assign (v := .int .i64 x5.2.2) (by exact rfl))) (by decide) ?_
  refine ao_nil_n ?_
  refine hK3 _ ?_
  refine aw_seq_k (fun K6 hK6 => ?_)
  refine aw_reg ?_
  refine ao_cons (acts_of rfl ((do_build_struct (cs := [.int .u64 0, .int .u64 0, .int .u64 0, .int .u64 0, .str (strOf []), .str (strOf []), .int .i64 0, .int .i64 0, .bool false, .nil]) ty42 rfl [⟨.struct [(0, 25), (1, 25)], 2, 16, [.int .u64 0, .int .u64 0]⟩, ⟨.int .u64, 1, 8, [.int .u64 0]⟩, ⟨.int .u64, 1, 8, [.int .u64 0]⟩, ⟨.str, 1, 16, [.str ByteArray.empty]⟩, ⟨.str, 1, 16, [.str ByteArray.empty]⟩, ⟨.int .i64, 1, 8, [.int .i64 0]⟩, ⟨.int .i64, 1, 8, [.int .i64 0]⟩, ⟨.bool, 1, 1, [.bool false]⟩, ⟨.slice 53, 1, 24, [.nil]⟩] (by simp only [List.map, ty25, ty27, ty3, ty4, ty40, ty9]) (by rfl) (by exact rfl)).weak (v' := .agg [.int .u64 0, .int .u64 0, .int .u64 0, .int .u64 0, .str (strOf []), .str (strOf []), .int .i64 0, .int .i64 0, .bool false, .sl 2 (List.map enc52 [])]) (le_agg ⟨le_refl _, le_refl _, le_refl _, le_refl _, le_refl _, le_refl _, le_refl _, le_refl _, le_refl _, le_nil _, trivial⟩))) (by decide) ?_
  obtain ⟨x7, hx7, h⟩ := bnd_some h
  refine ao_cons (acts_of rfl (do_call0 14 false (span_Bytes_ok (Span.mk (Trace.mk 0 0) 0 0 (strOf []) (strOf []) 0 0 false []) hx7) rfl ent29 rfl rfl)) (by decide) ?_
  refine ao_cons (acts_of rfl ((does_len_own (by conv => lhs; whnf) (by conv => lhs; whnf) ty43).cast (v' := .int .i64 (List.length x7 : Int)) (by exact len_map _))) (by decide) ?_
  refine ao_cons (acts_of rfl (does_bin (v := .bool ((List.length x7 : Int) == 0)) (by conv => lhs; whnf) (by conv => lhs; whnf) rfl)) (by decide) ?_
  refine ao_cons (acts_of rfl (does_move (v := .bool ((List.length x7 : Int) == 0)) (by exact rfl))) (by decide) ?_
  refine ao_bool (c := ((List.length x7 : Int) == 0)) 17 rfl (fun c8 => ?_) (fun c8 => ?_)
  · have h := ifT c8 h
    refine ao_cons (acts_of rfl (does_move (v := .int .i64 x5.2.2) (by exact rfl))) (by decide) ?_
    obtain ⟨x9, hx9, h⟩ := bnd_some h
    refine ao_cons (acts_of rfl (do_call0 19 false (gleaninglaw3_num_ok x5.2.2 hx9) rfl ent31 rfl rfl)) (by decide) ?_
    refine ao_cons (acts_of rfl (does_bin (v := .bool (x9 == 0)) (by conv => lhs; whnf) (by conv => lhs; whnf) rfl)) (by decide) ?_
    refine ao_cons (acts_of rfl (does_pick (v := .bool (x9 == 0)) (by conv => lhs; whnf) (by exact rfl))) (by decide) ?_
    refine ao_cons (acts_of rfl (does_move (v := .bool (x9 == 0)) (by exact rfl))) (by decide) ?_
    refine ao_bool (c := (x9 == 0)) 22 rfl (fun c10 => ?_) (fun c10 => ?_)
    · have h := ifT c10 h
      refine ao_cons (acts_of rfl (does_move (v := .int .i64 x5.2.1) (by exact rfl))) (by decide) ?_
      refine ao_cons (acts_of rfl (does_bin (v := .bool (decide ((0 : Int) < x5.2.1))) (by conv => lhs; whnf) (by conv => lhs; whnf) rfl)) (by decide) ?_
      refine ao_cons (acts_of rfl (does_pick (v := .bool (decide ((0 : Int) < x5.2.1))) (by conv => lhs; whnf) (by exact rfl))) (by decide) ?_
      refine ao_cons (acts_of rfl (does_move (v := .bool (decide ((0 : Int) < x5.2.1))) (by exact rfl))) (by decide) ?_
      refine ao_bool (c := (decide ((0 : Int) < x5.2.1))) 26 rfl (fun c11 => ?_) (fun c11 => ?_)
      · have h := ifT c11 h
        refine ao_cons (acts_of rfl (does_fieldAddr (q := .ptr 2 0 7) (by conv => lhs; whnf) ty42 rfl ty3 (by decide) (by exact rfl))) (by decide) ?_
        refine ao_cons (acts_of rfl (does_load (v := .int .i64 x5.1.Dur) (by conv => lhs; whnf) (by conv => lhs; whnf) ty3 (by exact rfl))) (by decide) ?_
        refine ao_cons (acts_of rfl (does_bin (v := .bool (x5.1.Dur == 7)) (by conv => lhs; whnf) (by conv => lhs; whnf) rfl)) (by decide) ?_
        refine ao_cons (acts_of rfl (does_pick (v := .bool (x5.1.Dur == 7)) (by conv => lhs; whnf) (by exact rfl))) (by decide) ?_
        refine ao_cons (acts_of rfl (does_move (v := .bool (x5.1.Dur == 7)) (by exact rfl))) (by decide) ?_
        refine ao_bool (c := (x5.1.Dur == 7)) 31 rfl (fun c12 => ?_) (fun c12 => ?_)
        · have h := ifT c12 h
          refine ao_cons (acts_of rfl ((does_load (v := .agg [.int .u64 0, .int .u64 0, .int .u64 0, .int .u64 0, .str (strOf [97]), .str (strOf [98]), .int .i64 0, .int .i64 7, .bool false, .nil]) (by conv => lhs; whnf) (by conv => lhs; whnf) ty42 (by exact rfl)).weak (v' := .agg [.int .u64 0, .int .u64 0, .int .u64 0, .int .u64 0, .str (strOf [97]), .str (strOf [98]), .int .i64 0, .int .i64 7, .bool false, .sl 2 (List.map enc52 [])]) (le_agg ⟨le_refl _, le_refl _, le_refl _, le_refl _, le_refl _, le_refl _, le_refl _, le_refl _, le_refl _, le_nil _, trivial⟩))) (by decide) ?_
          obtain ⟨x13, hx13, h⟩ := bnd_some h
          refine ao_cons (acts_of rfl (do_call0 33 false (span_Right_ok (Span.mk (Trace.mk 0 0) 0 0 (strOf [97]) (strOf [98]) 0 7 false []) hx13) rfl ent33 rfl rfl)) (by decide) ?_
          refine ao_cons (acts_of rfl (does_pick (v := .bool x13) (by conv => lhs; whnf) (by exact rfl))) (by decide) ?_
          refine ao_cons (acts_of rfl (does_assign (v := .bool x13) (by exact rfl))) (by decide) ?_
          refine ao_nil_n ?_
          refine hK6 _ ?_
          refine aw_ret ?_
          obtain rfl := Option.some.inj h
          exact ret_ok1 (by conv => lhs; whnf) (by conv => lhs; whnf) (by exact rfl) (.inr rfl) rfl
        · have h := ifF c12 h
          refine ao_cons (acts_skip rfl) (by decide) ?_
          refine ao_cons (acts_skip rfl) (by decide) ?_
          refine ao_cons (acts_of rfl (does_pick (v := .bool false) (by conv => lhs; whnf) (by exact rfl))) (by decide) ?_
          refine ao_cons (acts_of rfl (does_assign (v := .bool false) (by exact rfl))) (by decide) ?_
          refine ao_nil_n ?_
          refine hK6 _ ?_
          refine aw_ret ?_
          obtain rfl := Option.some.inj h
          exact ret_ok1 (by conv => lhs; whnf) (by conv => lhs; whnf) (by exact rfl) (.inr rfl) rfl
      · have h := ifF c11 h
        refine ao_cons (acts_skip rfl) (by decide) ?_
        refine ao_cons (acts_skip rfl) (by decide) ?_
        refine ao_cons (acts_skip rfl) (by decide) ?_
        refine ao_cons (acts_of rfl (does_pick (v := .bool false) (by conv => lhs; whnf) (by exact rfl))) (by decide) ?_
        refine ao_cons (acts_of rfl (does_move (v := .bool false) (by exact rfl))) (by decide) ?_
        refine ao_cons (acts_skip rfl) (by decide) ?_
        refine ao_cons (acts_skip rfl) (by decide) ?_
        refine ao_cons (acts_of rfl (does_pick (v := .bool false) (by conv => lhs; whnf) (by exact rfl))) (by decide) ?_
        refine ao_cons (acts_of rfl (does_assign (v := .bool false) (by exact rfl))) (by decide) ?_
        refine ao_nil_n ?_
        refine hK6 _ ?_
        refine aw_ret ?_
        obtain rfl := Option.some.inj h
        exact ret_ok1 (by conv => lhs; whnf) (by conv => lhs; whnf) (by exact rfl) (.inr rfl) rfl
    · have h := ifF c10 h
      refine ao_cons (acts_skip rfl) (by decide) ?_
      refine ao_cons (acts_skip rfl) (by decide) ?_
      refine ao_cons (acts_of rfl (does_pick (v := .bool false) (by conv => lhs; whnf) (by exact rfl))) (by decide) ?_
      refine ao_cons (acts_of rfl (does_move (v := .bool false) (by exact rfl))) (by decide) ?_
      refine ao_cons (acts_skip rfl) (by decide) ?_
      refine ao_cons (acts_skip rfl) (by decide) ?_
      refine ao_cons (acts_skip rfl) (by decide) ?_
      refine ao_cons (acts_of rfl (does_pick (v := .bool false) (by conv => lhs; whnf) (by exact rfl))) (by decide) ?_
      refine ao_cons (acts_of rfl (does_move (v := .bool false) (by exact rfl))) (by decide) ?_
      refine ao_cons (acts_skip rfl) (by decide) ?_
      refine ao_cons (acts_skip rfl) (by decide) ?_
      refine ao_cons (acts_of rfl (does_pick (v := .bool false) (by conv => lhs; whnf) (by exact rfl))) (by decide) ?_
      refine ao_cons (acts_of rfl (does_assign (v := .bool false) (by exact rfl))) (by decide) ?_
      refine ao_nil_n ?_
      refine hK6 _ ?_
      refine aw_ret ?_
      obtain rfl := Option.some.inj h
      exact ret_ok1 (by conv => lhs; whnf) (by conv => lhs; whnf) (by exact rfl) (.inr rfl) rfl
  · have h := ifF c8 h
    refine ao_cons (acts_skip rfl) (by decide) ?_
    refine ao_cons (acts_skip rfl) (by decide) ?_
    refine ao_cons (acts_skip rfl) (by decide) ?_
    refine ao_cons (acts_of rfl (does_pick (v := .bool false) (by conv => lhs; whnf) (by exact rfl))) (by decide) ?_
    refine ao_cons (acts_of rfl (does_move (v := .bool false) (by exact rfl))) (by decide) ?_
    refine ao_cons (acts_skip rfl) (by decide) ?_
    refine ao_cons (acts_skip rfl) (by decide) ?_
    refine ao_cons (acts_of rfl (does_pick (v := .bool false) (by conv => lhs; whnf) (by exact rfl))) (by decide) ?_
    refine ao_cons (acts_of rfl (does_move (v := .bool false) (by exact rfl))) (by decide) ?_
    refine ao_cons (acts_skip rfl) (by decide) ?_
    refine ao_cons (acts_skip rfl) (by decide) ?_
    refine ao_cons (acts_skip rfl) (by decide) ?_
    refine ao_cons (acts_of rfl (does_pick (v := .bool false) (by conv => lhs; whnf) (by exact rfl))) (by decide) ?_
    refine ao_cons (acts_of rfl (does_move (v := .bool false) (by exact rfl))) (by decide) ?_
    refine ao_cons (acts_skip rfl) (by decide) ?_
    refine ao_cons (acts_skip rfl) (by decide) ?_
    refine ao_cons (acts_of rfl (does_pick (v := .bool false) (by conv => lhs; whnf) (by exact rfl))) (by decide) ?_
    refine ao_cons (acts_of rfl (does_assign (v := .bool false) (by exact rfl))) (by decide) ?_
    refine ao_nil_n ?_
    refine hK6 _ ?_
    refine aw_ret ?_
    obtain rfl := Option.some.inj h
    exact ret_ok1 (by conv => lhs; whnf) (by conv => lhs; whnf) (by exact rfl) (.inr rfl) rfl
def gleaninglaw3_SpanBack_k0 (a0 : Span) (a1 : List UInt8) (a2 : Int) : Option Bool :=
  Option.bind (span_Bytes a0) (fun (x17 : List UInt8) => if ((List.length x17 : Int) == 0) = true then (some false) else (gd ((List.length x17) * 1 ≤ 140737488355328 ∧ (List.length x17) ≤ 140737488355328) (gd ((List.length (x17 ++ a1)) * 1 ≤ 140737488355328 ∧ (List.length (x17 ++ a1)) ≤ 140737488355328) (Option.bind (span_Read (x17 ++ a1)) (fun (x25 : Span × Int × Int) => gd (¬ (List.length x17 : Int) = 0) (gd (0 ≤ (Int.tmod a2 (List.length x17 : Int))) (gd ((Int.tmod a2 (List.length x17 : Int)) ≤ (List.length x17 : Int)) (Option.bind (span_Read (List.take (Int.toNat (Int.tmod a2 (List.length x17 : Int))) x17)) (fun (x30 : Span × Int × Int) => Option.bind (gleaninglaw3_num x25.2.2) (fun (x32 : Int) => if (x32 == 0) = true then (if (x25.2.1 == (List.length x17 : Int)) = true then (Option.bind (gleaningref1_SameSpan x25.1 a0) (fun (x35 : Bool) => if x35 = true then (Option.bind (gleaninglaw3_num x30.2.2) (fun (x37 : Int) => some (x37 == 2))) else (some false))) else (some false)) else (some false)))))))))))
def gleaninglaw3_SpanBack (a0 : Span) (a1 : List UInt8) (a2 : Int) : Option Bool :=
  Option.bind (gleaninglaw3_alive) (fun (x3 : Bool) => Option.bind (if (!x3) = true then (some (Sum.inr x3)) else (Option.bind (gleaningref1_RightSpan a0) (fun (x9 : Bool) => if (!x9) = true then (some (Sum.inr x3)) else (if (decide ((100 : Int) < (List.length a1 : Int))) = true then (some (Sum.inr x3)) else (if (decide (a2 < 0)) = true then (some (Sum.inr x3)) else (some (Sum.inl ()))))))) (Sum.elim (fun (s : Unit) => gleaninglaw3_SpanBack_k0 a0 a1 a2) some))
set_option maxRecDepth 100000 in
set_option maxHeartbeats 8000000 in
/-- gleaning/gleaninglaw3.SpanBack -/
theorem gleaninglaw3_SpanBack_ok (a0 : Span) (a1 : List UInt8) (a2 : Int) {r : Bool} (h : gleaninglaw3_SpanBack a0 a1 a2 = some r) : Ok Try.prog 7 [.agg [.int .u64 a0.Trace.Hi, .int .u64 a0.Trace.Lo, .int .u64 a0.Id, .int .u64 a0.Parent, .str a0.Service, .str a0.Op, .int .i64 a0.Start, .int .i64 a0.Dur, .bool a0.Err, .sl 2 (List.map enc52 a0.Attrs)], .sl 1 (List.map enc5 a1), .int .i64 a2] [] [] (.bool r) [] [] := by
  unfold gleaninglaw3_SpanBack at h
  refine ok_of_code Try.func7 rfl (by show (3 : Nat) ≤ _; decide) (Nat.le_refl _) fun X => ?_
  refine aw_seq_k (fun K1 hK1 => ?_)
  refine aw_reg ?_
  refine ao_cons (acts_of rfl (do_box (by conv => lhs; whnf) rfl rfl)) (by decide) ?_
  refine ao_cons (acts_of rfl (does_assign (v := .bool false) (by exact rfl))) (by decide) ?_
  refine ao_nil_n ?_
  refine hK1 _ ?_
  refine aw_seq_k (fun K2 hK2 => ?_)
  refine aw_reg ?_
  obtain ⟨x3, hx3, h⟩ := bnd_some h
  refine ao_cons (acts_of rfl (do_call0 15 false (gleaninglaw3_alive_ok hx3) rfl ent27 rfl rfl)) (by decide) ?_
  refine ao_cons (acts_of rfl (does_assign (v := .bool x3) (by exact rfl))) (by decide) ?_
  refine ao_nil_n ?_
  refine hK2 _ ?_
  obtain ⟨q4, h, hk5⟩ := bnd_some h
  refine aw_cut (fun s => gleaninglaw3_SpanBack_k0 a0 a1 a2 = some r ∧ s = lit [(1, .sl 1 (List.map enc5 a1)), (2, .int .i64 a2), (3, .ptr 3 0 0)] [((3, 0), .box [.int .u64 a0.Trace.Hi, .int .u64 a0.Trace.Lo, .int .u64 a0.Id, .int .u64 a0.Parent, .str a0.Service, .str a0.Op, .int .i64 a0.Start, .int .i64 a0.Dur, .bool a0.Err, .sl 2 (List.map enc52 a0.Attrs)])] [(3, 1)] X) ?_ ?_
  · skip
    refine aw_seq_k (fun K6 hK6 => ?_)
    refine aw_reg ?_
    refine ao_cons (acts_of rfl (does_move (v := .bool x3) (by exact rfl))) (by decide) ?_
    refine ao_cons (acts_of rfl (does_un (v := .bool (!x3)) (by conv => lhs; whnf) rfl)) (by decide) ?_
    refine ao_cons (acts_of rfl (does_move (v := .bool (!x3)) (by exact rfl))) (by decide) ?_
    refine ao_bool (c := (!x3)) 18 rfl (fun c7 => ?_) (fun c7 => ?_)
    · have h := ifT c7 h
      refine ao_cons (acts_skip rfl) (by decide) ?_
      refine ao_cons (acts_skip rfl) (by decide) ?_
      refine ao_cons (acts_skip rfl) (by decide) ?_
      refine ao_cons (acts_of rfl (does_pick (v := .bool true) (by conv => lhs; whnf) (by exact rfl))) (by decide) ?_
      refine ao_cons (acts_of rfl (does_move (v := .bool true) (by exact rfl))) (by decide) ?_
      refine ao_cons (acts_skip rfl) (by decide) ?_
      refine ao_cons (acts_skip rfl) (by decide) ?_
      refine ao_cons (acts_skip rfl) (by decide) ?_
      refine ao_cons (acts_of rfl (does_pick (v := .bool true) (by conv => lhs; whnf) (by exact rfl))) (by decide) ?_
      refine ao_cons (acts_of rfl (does_move (v := .bool true) (by exact rfl))) (by decide) ?_
      refine ao_cons (acts_skip rfl) (by decide) ?_
      refine ao_cons (acts_skip rfl) (by decide) ?_
      refine ao_cons (acts_of rfl (does_pick (v := .bool true) (by conv => lhs; whnf) (by exact rfl))) (by decide) ?_
      refine ao_nil_n ?_
      refine hK6 _ ?_
      refine aw_cond_t (by decide) rfl ?_
      refine aw_seq_k (fun K8 hK8 => ?_)
      refine aw_reg ?_
      refine ao_cons (acts_of rfl (does_move (v := .bool x3) (by exact rfl))) (by decide) ?_
      refine ao_cons (acts_of rfl (does_assign (v := .bool x3) (by exact rfl))) (by decide) ?_
      refine ao_nil_n ?_
      refine hK8 _ ?_
      refine aw_ret ?_
      have h := leafR h hk5
      obtain rfl := Option.some.inj h
      exact ret_ok1 (by conv => lhs; whnf) (by conv => lhs; whnf) (by exact rfl) (.inr rfl) rfl
    · have h := ifF c7 h
      refine ao_cons (acts_of rfl (does_load (v := .agg [.int .u64 a0.Trace.Hi, .int .u64 a0.Trace.Lo, .int .u64 a0.Id, .int .u64 a0.Parent, .str a0.Service, .str a0.Op, .int .i64 a0.Start, .int .i64 a0.Dur, .bool a0.Err, .sl 2 (List.map enc52 a0.Attrs)]) (by conv => lhs; whnf) (by conv => lhs; whnf) ty42 (by exact rfl))) (by decide) ?_
      obtain ⟨x9, hx9, h⟩ := bnd_some h
      refine ao_cons (acts_of rfl (do_call0 20 false (gleaningref1_RightSpan_ok a0 hx9) rfl ent28 rfl rfl)) (by decide) ?_
      refine ao_cons (acts_of rfl (does_un (v := .bool (!x9)) (by conv => lhs; whnf) rfl)) (by decide) ?_
      refine ao_cons (acts_of rfl (does_pick (v := .bool (!x9)) (by conv => lhs; whnf) (by exact rfl))) (by decide) ?_
      refine ao_cons (acts_of rfl (does_move (v := .bool (!x9)) (by exact rfl))) (by decide) ?_
      refine ao_bool (c := (!x9)) 23 rfl (fun c10 => ?_) (fun c10 => ?_)
      · have h := ifT c10 h
        refine ao_cons (acts_skip rfl) (by decide) ?_
        refine ao_cons (acts_skip rfl) (by decide) ?_
        refine ao_cons (acts_skip rfl) (by decide) ?_
        refine ao_cons (acts_of rfl (does_pick (v := .bool true) (by conv => lhs; whnf) (by exact rfl))) (by decide) ?_
        refine ao_cons (acts_of rfl (does_move (v := .bool true) (by exact rfl))) (by decide) ?_
        refine ao_cons (acts_skip rfl) (by decide) ?_
        refine ao_cons (acts_skip rfl) (by decide) ?_
        refine ao_cons (acts_of rfl (does_pick (v := .bool true) (by conv => lhs; whnf) (by exact rfl))) (by decide) ?_
        refine ao_nil_n ?_
        refine hK6 _ ?_
        refine aw_cond_t (by decide) rfl ?_
        refine aw_seq_k (fun K11 hK11 => ?_)
        refine aw_reg ?_
        refine ao_cons (acts_of rfl (does_move (v := .bool x3) (by exact rfl))) (by decide) ?_
        refine ao_cons (acts_of rfl (does_assign (v := .bool x3) (by exact rfl))) (by decide) ?_
        refine ao_nil_n ?_
        refine hK11 _ ?_
        refine aw_ret ?_
        have h := leafR h hk5
        obtain rfl := Option.some.inj h
        exact ret_ok1 (by conv => lhs; whnf) (by conv => lhs; whnf) (by exact rfl) (.inr rfl) rfl
      · have h := ifF c10 h
        refine ao_cons (acts_of rfl (does_move (v := .sl 1 (List.map enc5 a1)) (by exact rfl))) (by decide) ?_
        refine ao_cons (acts_of rfl ((does_len_sl (by conv => lhs; whnf) ty43).castp (v' := .int .i64 (List.length a1 : Int)) (by exact len_map _))) (by decide) ?_
        refine ao_cons (acts_of rfl (does_bin (v := .bool (decide ((100 : Int) < (List.length a1 : Int)))) (by conv => lhs; whnf) (by conv => lhs; whnf) rfl)) (by decide) ?_
        refine ao_cons (acts_of rfl (does_pick (v := .bool (decide ((100 : Int) < (List.length a1 : Int)))) (by conv => lhs; whnf) (by exact rfl))) (by decide) ?_
        refine ao_cons (acts_of rfl (does_move (v := .bool (decide ((100 : Int) < (List.length a1 : Int)))) (by exact rfl))) (by decide) ?_
        refine ao_bool (c := (decide ((100 : Int) < (List.length a1 : Int)))) 28 rfl (fun c12 => ?_) (fun c12 => ?_)
        · have h := ifT c12 h
          refine ao_cons (acts_skip rfl) (by decide) ?_
          refine ao_cons (acts_skip rfl) (by decide) ?_
          refine ao_cons (acts_of rfl (does_pick (v := .bool true) (by conv => lhs; whnf) (by exact rfl))) (by decide) ?_
          refine ao_nil_n ?_
          refine hK6 _ ?_
          refine aw_cond_t (by decide) rfl ?_
          refine aw_seq_k (fun K13 hK13 => ?_)
          refine aw_reg ?_
          refine ao_cons (acts_of rfl (does_move (v := .bool x3) (by exact rfl))) (by decide) ?_
          refine ao_cons (acts_of rfl (does_assign (v := .bool x3) (by exact rfl))) (by decide) ?_
          refine ao_nil_n ?_
          refine hK13 _ ?_
          refine aw_ret ?_
          have h := leafR h hk5
          obtain rfl := Option.some.inj h
          exact ret_ok1 (by conv => lhs; whnf) (by conv => lhs; whnf) (by exact rfl) (.inr rfl) rfl
        · have h := ifF c12 h
          refine ao_cons (acts_of rfl (does_move (v := .int .i64 a2) (by exact rfl))) (by decide) ?_
          refine ao_cons (acts_of rfl (does_bin (v := .bool (decide (a2 < 0))) (by conv => lhs; whnf) (by conv => lhs; whnf) rfl)) (by decide) ?_
          refine ao_cons (acts_of rfl (does_pick (v := .bool (decide (a2 < 0))) (by conv => lhs; whnf) (by exact rfl))) (by decide) ?_
          refine ao_nil_n ?_
          refine hK6 _ ?_
          refine aw_bool (b := (decide (a2 < 0))) 31 rfl (fun c14 => ?_) (fun c14 => ?_)
          · have h := ifT c14 h
            refine aw_cond_t (by decide) rfl ?_
            refine aw_seq_k (fun K15 hK15 => ?_)
            refine aw_reg ?_
            refine ao_cons (acts_of rfl (does_move (v := .bool x3) (by exact rfl))) (by decide) ?_
            refine ao_cons (acts_of rfl (does_assign (v := .bool x3) (by exact rfl))) (by decide) ?_
            refine ao_nil_n ?_
            refine hK15 _ ?_
            refine aw_ret ?_
            have h := leafR h hk5
            obtain rfl := Option.some.inj h
            exact ret_ok1 (by conv => lhs; whnf) (by conv => lhs; whnf) (by exact rfl) (.inr rfl) rfl
          · have h := ifF c14 h
            refine aw_cond_f (by decide) rfl ?_
            refine aw_skip ?_
            have h := leafL h hk5
            exact ⟨_, reb_lit [(1, .sl 1 (List.map enc5 a1)), (2, .int .i64 a2), (3, .ptr 3 0 0)] [(3, 0)] [((3, 0), .box [.int .u64 a0.Trace.Hi, .int .u64 a0.Trace.Lo, .int .u64 a0.Id, .int .u64 a0.Parent, .str a0.Service, .str a0.Op, .int .i64 a0.Start, .int .i64 a0.Dur, .bool a0.Err, .sl 2 (List.map enc52 a0.Attrs)])] [(3, 1)] (envOk_cons (by conv => lhs; whnf) (by exact rfl) (envOk_cons (by conv => lhs; whnf) (by exact rfl) (envOk_cons (by conv => lhs; whnf) (by exact rfl) envOk_nil))) (objOk_cons (by conv => lhs; whnf) (by conv => lhs; whnf) (by exact rfl) (by simp) objOk_nil) (nodup_b rfl) (nodup_b rfl) rfl rfl, h, rfl⟩
  · rintro s ⟨h, rfl⟩
    unfold gleaninglaw3_SpanBack_k0 at h
    refine aw_seq_k (fun K16 hK16 => ?_)
    refine aw_reg ?_
    refine ao_cons (acts_of rfl (does_load (v := .agg [.int .u64 a0.Trace.Hi, .int .u64 a0.Trace.Lo, .int .u64 a0.Id, .int .u64 a0.Parent, .str a0.Service, .str a0.Op, .int .i64 a0.Start, .int .i64 a0.Dur, .bool a0.Err, .sl 2 (List.map enc52 a0.Attrs)]) (by conv => lhs; whnf) (by conv => lhs; whnf) ty42 (by exact rfl))) (by decide) ?_
    obtain ⟨x17, hx17, h⟩ := bnd_some h
    refine ao_cons (acts_of rfl (do_call0 34 false (span_Bytes_ok a0 hx17) rfl ent29 rfl rfl)) (by decide) ?_
    refine ao_cons (acts_of rfl (does_assign (v := .own 34 0) (by exact rfl))) (by decide) ?_
    refine ao_nil_n ?_
    refine hK16 _ ?_
    refine aw_seq_k (fun K18 hK18 => ?_)
    refine aw_seq_k (fun K19 hK19 => ?_)
    refine aw_reg ?_
    refine ao_cons (acts_of rfl (does_move (v := .own 34 0) (by exact rfl))) (by decide) ?_
    refine ao_cons (acts_of rfl ((does_len_own (by conv => lhs; whnf) (by conv => lhs; whnf) ty43).cast (v' := .int .i64 (List.length x17 : Int)) (by exact len_map _))) (by decide) ?_
    refine ao_cons (acts_of rfl (does_bin (v := .bool ((List.length x17 : Int) == 0)) (by conv => lhs; whnf) (by conv => lhs; whnf) rfl)) (by decide) ?_
    refine ao_nil_n ?_
    refine hK19 _ ?_
    refine aw_bool (b := ((List.length x17 : Int) == 0)) 37 rfl (fun c20 => ?_) (fun c20 => ?_)
    · have h := ifT c20 h
      refine aw_cond_t (by decide) rfl ?_
      refine aw_seq_k (fun K21 hK21 => ?_)
      refine aw_reg ?_
      refine ao_cons (acts_of rfl (does_assign (v := .bool false) (by exact rfl))) (by decide) ?_
      refine ao_nil_n ?_
      refine hK21 _ ?_
      refine aw_ret ?_
      obtain rfl := Option.some.inj h
      exact ret_ok1 (by conv => lhs; whnf) (by conv => lhs; whnf) (by exact rfl) (.inr rfl) rfl
    · have h := ifF c20 h
      refine aw_cond_f (by decide) rfl ?_
      refine aw_skip ?_
      refine hK18 _ ?_
      refine aw_seq_k (fun K22 hK22 => ?_)
      refine aw_reg ?_
      refine ao_cons (acts_of rfl (does_move (v := .own 34 0) (by exact rfl))) (by decide) ?_
      obtain ⟨g23, h⟩ := gd_some h
      refine ao_cons (acts_of rfl (do_append (v := List.map enc5 x17) (by conv => lhs; whnf) (by conv => lhs; whnf) ty43 ty5 rfl rfl (by conv => lhs; whnf) (by first | exact .inl rfl | exact .inr ⟨rfl, rfl⟩) (by conv => lhs; whnf) (by first | exact .inr rfl | exact .inl rfl) (List.nil_append _) (fit_map g23))) (by decide) ?_
      refine ao_cons (acts_of rfl (does_move (v := .sl 1 (List.map enc5 a1)) (by exact rfl))) (by decide) ?_
      obtain ⟨g24, h⟩ := gd_some h
      refine ao_cons (acts_of rfl (do_append (v := List.map enc5 (x17 ++ a1)) (by conv => lhs; whnf) (by conv => lhs; whnf) ty43 ty5 rfl rfl (by conv => lhs; whnf) (by first | exact .inl rfl | exact .inr ⟨rfl, rfl⟩) (by conv => lhs; whnf) (by first | exact .inr rfl | exact .inl rfl) (map_app _ _) (fit_map g24))) (by decide) ?_
      obtain ⟨x25, hx25, h⟩ := bnd_some h
      refine ao_cons (acts_of rfl (does_frz (d := 42) (n := 0) (by conv => lhs; whnf) (do_callG (bcs := []) [] [] [(42, 0)] 43 false (span_Read_ok (x17 ++ a1) hx25) rfl ent30 trivial trivial rfl rfl rfl rfl rfl rfl rfl rfl (.inl ⟨⟨_, _, _, rfl⟩, trivial⟩)))) (by decide) ?_
      refine ao_cons (acts_of rfl (does_move (v := .tup [.agg [.int .u64 x25.1.Trace.Hi, .int .u64 x25.1.Trace.Lo, .int .u64 x25.1.Id, .int .u64 x25.1.Parent, .str x25.1.Service, .str x25.1.Op, .int .i64 x25.1.Start, .int .i64 x25.1.Dur, .bool x25.1.Err, .sl 2 (List.map enc52 x25.1.Attrs)], .int .i64 x25.2.1, .int .i64 x25.2.2]) (by exact rfl))) (by decide) ?_
      refine ao_cons (acts_of rfl (does_extract (v := .agg [.int .u64 x25.1.Trace.Hi, .int .u64 x25.1.Trace.Lo, .int .u64 x25.1.Id, .int .u64 x25.1.Parent, .str x25.1.Service, .str x25.1.Op, .int .i64 x25.1.Start, .int .i64 x25.1.Dur, .bool x25.1.Err, .sl 2 (List.map enc52 x25.1.Attrs)]) (by conv => lhs; whnf) (by exact rfl))) (by decide) ?_
      refine ao_cons (acts_of rfl (does_extract (v := .int .i64 x25.2.1) (by conv => lhs; whnf) (by exact rfl))) (by decide) ?_
      refine ao_cons (acts_of rfl (does_extract (v := .int .i64 x25.2.2) (by conv => lhs; whnf) (by exact rfl))) (by decide) ?_
      refine ao_cons (acts_of rfl (do_new ty42 rfl rfl)) (by decide) ?_
      refine ao_cons (acts_of rfl (do_store (cs' := [.int .u64 x25.1.Trace.Hi, .int .u64 x25.1.Trace.Lo, .int .u64 x25.1.Id, .int .u64 x25.1.Parent, .str x25.1.Service, .str x25.1.Op, .int .i64 x25.1.Start, .int .i64 x25.1.Dur, .bool x25.1.Err, .sl 2 (List.map enc52 x25.1.Attrs)]) (by conv => lhs; whnf) (by conv => lhs; whnf) (by conv => lhs; whnf) ty42 rfl rfl rfl (by exact rfl))) (by decide) ?_
      refine ao_cons (acts_of rfl (does_assign (v := .int .i64 x25.2.1) (by exact rfl))) (by decide) ?_
      refine ao_cons (acts_of rfl (does_assign (v := .int .i64 x25.2.2) (by exact rfl))) (by decide) ?_
      refine ao_nil_n ?_
      refine hK22 _ ?_
      refine aw_seq_k (fun K26 hK26 => ?_)
      refine aw_reg ?_
      refine ao_cons (acts_of rfl (does_move (v := .own 34 0) (by exact rfl))) (by decide) ?_
      refine ao_cons (acts_of rfl (does_move (v := .int .i64 a2) (by exact rfl))) (by decide) ?_
      refine ao_cons (acts_of rfl (does_move (v := .own 34 0) (by exact rfl))) (by decide) ?_
      refine ao_cons (acts_of rfl ((does_len_own (by conv => lhs; whnf) (by conv => lhs; whnf) ty43).cast (v' := .int .i64 (List.length x17 : Int)) (by exact len_map _))) (by decide) ?_
      obtain ⟨g27, h⟩ := gd_some h
      refine ao_cons (acts_of rfl (does_bin (v := .int .i64 (Int.tmod a2 (List.length x17 : Int))) (by conv => lhs; whnf) (by conv => lhs; whnf) (rem_hv g27))) (by decide) ?_
      obtain ⟨g28, h⟩ := gd_some h
      obtain ⟨g29, h⟩ := gd_some h
      refine ao_cons (acts_of rfl (does_frz (d := 34) (n := 0) (by conv => lhs; whnf) (does_slice_own (l := 0) (k := (Int.toNat (Int.tmod a2 (List.length x17 : Int)))) (by conv => lhs; whnf) (by conv => lhs; whnf) ty43 ty5 bd_none (bd_some (by conv => lhs; whnf) (by exact (nat_of (by omega)))) (by (try simp only [List.length_map]); omega) (by (try simp only [List.length_map]); omega) (by exact part_h _ _)))) (by decide) ?_
      obtain ⟨x30, hx30, h⟩ := bnd_some h
      refine ao_cons (acts_of rfl (do_call0 54 false (span_Read_ok (List.take (Int.toNat (Int.tmod a2 (List.length x17 : Int))) x17) hx30) rfl ent30 rfl rfl)) (by decide) ?_
      refine ao_cons (acts_of rfl (does_move (v := .tup [.agg [.int .u64 x30.1.Trace.Hi, .int .u64 x30.1.Trace.Lo, .int .u64 x30.1.Id, .int .u64 x30.1.Parent, .str x30.1.Service, .str x30.1.Op, .int .i64 x30.1.Start, .int .i64 x30.1.Dur, .bool x30.1.Err, .sl 2 (List.map enc52 x30.1.Attrs)], .int .i64 x30.2.1, .int .i64 x30.2.2]) (by exact rfl))) (by decide) ?_
      refine ao_cons (acts_of rfl (does_extract (v := .agg [.int .u64 x30.1.Trace.Hi, .int .u64 x30.1.Trace.Lo, .int .u64 x30.1.Id, .int .u64 x30.1.Parent, .str x30.1.Service, .str x30.1.Op, .int .i64 x30.1.Start, .int .i64 x30.1.Dur, .bool x30.1.Err, .sl 2 (List.map enc52 x30.1.Attrs)]) (by conv => lhs; whnf) (by exact rfl))) (by decide) ?_
      refine ao_cons (acts_of rfl (does_extract (v := .int .i64 x30.2.1) (by conv => lhs; whnf) (by exact rfl))) (by decide) ?_
      refine ao_cons (acts_of rfl (does_extract (v := .int .i64 x30.2.2) (by conv => lhs; whnf) (by exact rfl))) (by decide) ?_
      refine ao_cons (acts_of rfl (do_new ty42 rfl rfl)) (by decide) ?_
      refine ao_cons (acts_of rfl (do_store (cs' := [.int .u64 x30.1.Trace.Hi, .int .u64 x30.1.Trace.Lo, .int .u64 x30.1.Id, .int .u64 x30.1.Parent, .str x30.1.Service, .str x30.1.Op, .int .i64 x30.1.Start, .int .i64 x30.1.Dur, .bool x30.1.Err, .sl 2 (List.map enc52 x30.1.Attrs)]) (by conv => lhs; whnf) (by conv => lhs; whnf) (by conv => lhs; whnf) ty42 rfl rfl rfl (by exact rfl))) (by decide) ?_
      refine ao_cons (acts_of rfl (does_assign (v := .int .i64 x30.2.1) (by exact rfl))) (by decide) ?_
      refine ao_cons (acts_of rfl (does_assign (v := .int .i64 x30.2.2) (by exact rfl))) (by decide) ?_
      refine ao_nil_n ?_
      refine hK26 _ ?_
      refine aw_seq_k (fun K31 hK31 => ?_)
      refine aw_reg ?_
      refine ao_cons (acts_of rfl (does_move (v := .int .i64 x25.2.2) (by exact rfl))) (by decide) ?_
      obtain ⟨x32, hx32, h⟩ := bnd_some h
      refine ao_cons (acts_of rfl (do_call0 59 false (gleaninglaw3_num_ok x25.2.2 hx32) rfl ent31 rfl rfl)) (by decide) ?_
      refine ao_cons (acts_of rfl (does_bin (v := .bool (x32 == 0)) (by conv => lhs; whnf) (by conv => lhs; whnf) rfl)) (by decide) ?_
      refine ao_cons (acts_of rfl (does_move (v := .bool (x32 == 0)) (by exact rfl))) (by decide) ?_
      refine ao_bool (c := (x32 == 0)) 61 rfl (fun c33 => ?_) (fun c33 => ?_)
      · have h := ifT c33 h
        refine ao_cons (acts_of rfl (does_move (v := .int .i64 x25.2.1) (by exact rfl))) (by decide) ?_
        refine ao_cons (acts_of rfl (does_move (v := .own 34 0) (by exact rfl))) (by decide) ?_
        refine ao_cons (acts_of rfl ((does_len_own (by conv => lhs; whnf) (by conv => lhs; whnf) ty43).cast (v' := .int .i64 (List.length x17 : Int)) (by exact len_map _))) (by decide) ?_
        refine ao_cons (acts_of rfl (does_bin (v := .bool (x25.2.1 == (List.length x17 : Int))) (by conv => lhs; whnf) (by conv => lhs; whnf) rfl)) (by decide) ?_
        refine ao_cons (acts_of rfl (does_pick (v := .bool (x25.2.1 == (List.length x17 : Int))) (by conv => lhs; whnf) (by exact rfl))) (by decide) ?_
        refine ao_cons (acts_of rfl (does_move (v := .bool (x25.2.1 == (List.length x17 : Int))) (by exact rfl))) (by decide) ?_
        refine ao_bool (c := (x25.2.1 == (List.length x17 : Int))) 67 rfl (fun c34 => ?_) (fun c34 => ?_)
        · have h := ifT c34 h
          refine ao_cons (acts_of rfl (does_load (v := .agg [.int .u64 x25.1.Trace.Hi, .int .u64 x25.1.Trace.Lo, .int .u64 x25.1.Id, .int .u64 x25.1.Parent, .str x25.1.Service, .str x25.1.Op, .int .i64 x25.1.Start, .int .i64 x25.1.Dur, .bool x25.1.Err, .sl 2 (List.map enc52 x25.1.Attrs)]) (by conv => lhs; whnf) (by conv => lhs; whnf) ty42 (by exact rfl))) (by decide) ?_
          refine ao_cons (acts_of rfl (does_load (v := .agg [.int .u64 a0.Trace.Hi, .int .u64 a0.Trace.Lo, .int .u64 a0.Id, .int .u64 a0.Parent, .str a0.Service, .str a0.Op, .int .i64 a0.Start, .int .i64 a0.Dur, .bool a0.Err, .sl 2 (List.map enc52 a0.Attrs)]) (by conv => lhs; whnf) (by conv => lhs; whnf) ty42 (by exact rfl))) (by decide) ?_
          obtain ⟨x35, hx35, h⟩ := bnd_some h
          refine ao_cons (acts_of rfl (do_call0 70 false (gleaningref1_SameSpan_ok x25.1 a0 hx35) rfl ent32 rfl rfl)) (by decide) ?_
          refine ao_cons (acts_of rfl (does_pick (v := .bool x35) (by conv => lhs; whnf) (by exact rfl))) (by decide) ?_
          refine ao_cons (acts_of rfl (does_move (v := .bool x35) (by exact rfl))) (by decide) ?_
          refine ao_bool (c := x35) 72 rfl (fun c36 => ?_) (fun c36 => ?_)
          · have h := ifT c36 h
            refine ao_cons (acts_of rfl (does_move (v := .int .i64 x30.2.2) (by exact rfl))) (by decide) ?_
            obtain ⟨x37, hx37, h⟩ := bnd_some h
            refine ao_cons (acts_of rfl (do_call0 74 false (gleaninglaw3_num_ok x30.2.2 hx37) rfl ent31 rfl rfl)) (by decide) ?_
            refine ao_cons (acts_of rfl (does_bin (v := .bool (x37 == 2)) (by conv => lhs; whnf) (by conv => lhs; whnf) rfl)) (by decide) ?_
            refine ao_cons (acts_of rfl (does_pick (v := .bool (x37 == 2)) (by conv => lhs; whnf) (by exact rfl))) (by decide) ?_
            refine ao_cons (acts_of rfl (does_assign (v := .bool (x37 == 2)) (by exact rfl))) (by decide) ?_
            refine ao_nil_n ?_
            refine hK31 _ ?_
            refine aw_ret ?_
            obtain rfl := Option.some.inj h
            exact ret_ok1 (by conv => lhs; whnf) (by conv => lhs; whnf) (by exact rfl) (.inr rfl) rfl
          · have h := ifF c36 h
            refine ao_cons (acts_skip rfl) (by decide) ?_
            refine ao_cons (acts_skip rfl) (by decide) ?_
            refine ao_cons (acts_skip rfl) (by decide) ?_
            refine ao_cons (acts_of rfl (does_pick (v := .bool false) (by conv => lhs; whnf) (by exact rfl))) (by decide) ?_
            refine ao_cons (acts_of rfl (does_assign (v := .bool false) (by exact rfl))) (by decide) ?_
            refine ao_nil_n ?_
            refine hK31 _ ?_
            refine aw_ret ?_
            obtain rfl := Option.some.inj h
            exact ret_ok1 (by conv => lhs; whnf) (by conv => lhs; whnf) (by exact rfl) (.inr rfl) rfl
        · have h := ifF c34 h
          refine ao_cons (acts_skip rfl) (by decide) ?_
          refine ao_cons (acts_skip rfl) (by decide) ?_
          refine ao_cons (acts_skip rfl) (by decide) ?_
          refine ao_cons (acts_of rfl (does_pick (v := .bool false) (by conv => lhs; whnf) (by exact rfl))) (by decide) ?_
          refine ao_cons (acts_of rfl (does_move (v := .bool false) (by exact rfl))) (by decide) ?_
          refine ao_cons (acts_skip rfl) (by decide) ?_
          refine ao_cons (acts_skip rfl) (by decide) ?_
          refine ao_cons (acts_skip rfl) (by decide) ?_
          refine ao_cons (acts_of rfl (does_pick (v := .bool false) (by conv => lhs; whnf) (by exact rfl))) (by decide) ?_
          refine ao_cons (acts_of rfl (does_assign (v := .bool false) (by exact rfl))) (by decide) ?_
          refine ao_nil_n ?_
          refine hK31 _ ?_
          refine aw_ret ?_
          obtain rfl := Option.some.inj h
          exact ret_ok1 (by conv => lhs; whnf) (by conv => lhs; whnf) (by exact rfl) (.inr rfl) rfl
      · have h := ifF c33 h
        refine ao_cons (acts_skip rfl) (by decide) ?_
        refine ao_cons (acts_skip rfl) (by decide) ?_
        refine ao_cons (acts_skip rfl) (by decide) ?_
        refine ao_cons (acts_skip rfl) (by decide) ?_
        refine ao_cons (acts_of rfl (does_pick (v := .bool false) (by conv => lhs; whnf) (by exact rfl))) (by decide) ?_
        refine ao_cons (acts_of rfl (does_move (v := .bool false) (by exact rfl))) (by decide) ?_
        refine ao_cons (acts_skip rfl) (by decide) ?_
        refine ao_cons (acts_skip rfl) (by decide) ?_
        refine ao_cons (acts_skip rfl) (by decide) ?_
        refine ao_cons (acts_of rfl (does_pick (v := .bool false) (by conv => lhs; whnf) (by exact rfl))) (by decide) ?_
        refine ao_cons (acts_of rfl (does_move (v := .bool false) (by exact rfl))) (by decide) ?_
        refine ao_cons (acts_skip rfl) (by decide) ?_
        refine ao_cons (acts_skip rfl) (by decide) ?_
        refine ao_cons (acts_skip rfl) (by decide) ?_
        refine ao_cons (acts_of rfl (does_pick (v := .bool false) (by conv => lhs; whnf) (by exact rfl))) (by decide) ?_
        refine ao_cons (acts_of rfl (does_assign (v := .bool false) (by exact rfl))) (by decide) ?_
        refine ao_nil_n ?_
        refine hK31 _ ?_
        refine aw_ret ?_
        obtain rfl := Option.some.inj h
        exact ret_ok1 (by conv => lhs; whnf) (by conv => lhs; whnf) (by exact rfl) (.inr rfl) rfl
theorem sh43 : ∀ (m : Nat) (cs : List PV), Shape Try.prog m 43 cs → ∃ a : List UInt8, cs = [.sl 1 (List.map enc5 a)] ∧ ((List.length a) ≤ maxLen) := fun m cs h => shape_bytes h Try.underlying43 Try.underlying5 (by kernel_rfl)
def gleaninglaw3_SpanLimits_l3 (v6_1 : Int) (v8_s_9_s_3 : List Attr) (v9_3 : Int) : Option ((List Attr × Int) ⊕ (ByteArray × ByteArray × Int × Int × List Attr)) :=
  if (decide (v9_3 < (IntKind.i64.wrap (4 + v6_1)))) = true then (gd (0 ≤ v9_3) (gd (v9_3 ≤ (IntKind.i64.wrap (v9_3 + 1))) (gd ((IntKind.i64.wrap (v9_3 + 1)) ≤ (ByteArray.size (strOf [97, 98, 99, 100, 101, 102, 103, 104, 105, 106, 107, 108, 109, 110, 111, 112, 113]) : Int)) (gd ((List.length (v8_s_9_s_3 ++ [(Attr.mk (ByteArray.extract (strOf [97, 98, 99, 100, 101, 102, 103, 104, 105, 106, 107, 108, 109, 110, 111, 112, 113]) (Int.toNat v9_3) (Int.toNat (IntKind.i64.wrap (v9_3 + 1)))) (strOf []))])) * 32 ≤ 140737488355328 ∧ (List.length (v8_s_9_s_3 ++ [(Attr.mk (ByteArray.extract (strOf [97, 98, 99, 100, 101, 102, 103, 104, 105, 106, 107, 108, 109, 110, 111, 112, 113]) (Int.toNat v9_3) (Int.toNat (IntKind.i64.wrap (v9_3 + 1)))) (strOf []))])) ≤ 140737488355328) (some (Sum.inl ((v8_s_9_s_3 ++ [(Attr.mk (ByteArray.extract (strOf [97, 98, 99, 100, 101, 102, 103, 104, 105, 106, 107, 108, 109, 110, 111, 112, 113]) (Int.toNat v9_3) (Int.toNat (IntKind.i64.wrap (v9_3 + 1)))) (strOf []))]), (IntKind.i64.wrap (v9_3 + 1))))))))) else (some (Sum.inr ((strOf [97]), (strOf [98]), 0, 0, v8_s_9_s_3)))
def gleaninglaw3_SpanLimits_k2 (a1 : Bool) (v8_s_4_2 : ByteArray) (v8_s_5_2 : ByteArray) (v8_s_6_2 : Int) (v8_s_7_2 : Int) (v8_s_9_s_2 : List Attr) : Option Bool :=
  Option.bind (span_Right (Span.mk (Trace.mk 0 0) 0 0 v8_s_4_2 v8_s_5_2 v8_s_6_2 v8_s_7_2 false v8_s_9_s_2)) (fun (x62 : Bool) => if (x62 == (!a1)) = true then (Option.bind (span_Bytes (Span.mk (Trace.mk 0 0) 0 0 v8_s_4_2 v8_s_5_2 v8_s_6_2 v8_s_7_2 false v8_s_9_s_2)) (fun (x64 : List UInt8) => some ((decide ((0 : Int) < (List.length x64 : Int))) == (!a1)))) else (some false))
def gleaninglaw3_SpanLimits_k1 (a0 : Int) (a1 : Bool) (v6_1 : Int) : Option Bool :=
  Option.bind (if (a0 == 0) = true then (gd (0 ≤ (IntKind.i64.wrap (16 + v6_1))) (gd ((IntKind.i64.wrap (16 + v6_1)) ≤ (ByteArray.size (strOf [97, 98, 99, 100, 101, 102, 103, 104, 105, 106, 107, 108, 109, 110, 111, 112, 113]) : Int)) (some ((ByteArray.extract (strOf [97, 98, 99, 100, 101, 102, 103, 104, 105, 106, 107, 108, 109, 110, 111, 112, 113]) 0 (Int.toNat (IntKind.i64.wrap (16 + v6_1)))), (strOf [98]), 0, 0, [])))) else (if (a0 == 1) = true then (gd (0 ≤ (IntKind.i64.wrap (1 - v6_1))) (gd ((IntKind.i64.wrap (1 - v6_1)) ≤ (ByteArray.size (strOf [97, 98, 99, 100, 101, 102, 103, 104, 105, 106, 107, 108, 109, 110, 111, 112, 113]) : Int)) (some ((strOf [97]), (ByteArray.extract (strOf [97, 98, 99, 100, 101, 102, 103, 104, 105, 106, 107, 108, 109, 110, 111, 112, 113]) 0 (Int.toNat (IntKind.i64.wrap (1 - v6_1)))), 0, 0, [])))) else (if (a0 == 2) = true then (some ((strOf [97]), (strOf [98]), (IntKind.i64.wrap (1099511627776 + v6_1)), 0, [])) else (if (a0 == 3) = true then (some ((strOf [97]), (strOf [98]), (IntKind.i64.wrap (0 - v6_1)), 0, [])) else (if (a0 == 4) = true then (some ((strOf [97]), (strOf [98]), 0, (IntKind.i64.wrap (1073741824 + v6_1)), [])) else (if (a0 == 5) = true then (loopN (fun (s : List Attr × Int) => gleaninglaw3_SpanLimits_l3 v6_1 s.1 s.2) Fu ([], 0)) else (if (a0 == 6) = true then (gd (0 ≤ (IntKind.i64.wrap (1 - v6_1))) (gd ((IntKind.i64.wrap (1 - v6_1)) ≤ (ByteArray.size (strOf [97, 98, 99, 100, 101, 102, 103, 104, 105, 106, 107, 108, 109, 110, 111, 112, 113]) : Int)) (some ((strOf [97]), (strOf [98]), 0, 0, [(Attr.mk (ByteArray.extract (strOf [97, 98, 99, 100, 101, 102, 103, 104, 105, 106, 107, 108, 109, 110, 111, 112, 113]) 0 (Int.toNat (IntKind.i64.wrap (1 - v6_1)))) (strOf []))])))) else (if (a0 == 7) = true then (gd (0 ≤ (IntKind.i64.wrap (16 + v6_1))) (gd ((IntKind.i64.wrap (16 + v6_1)) ≤ (ByteArray.size (strOf [97, 98, 99, 100, 101, 102, 103, 104, 105, 106, 107, 108, 109, 110, 111, 112, 113]) : Int)) (some ((strOf [97]), (strOf [98]), 0, 0, [(Attr.mk (strOf [107]) (ByteArray.extract (strOf [97, 98, 99, 100, 101, 102, 103, 104, 105, 106, 107, 108, 109, 110, 111, 112, 113]) 0 (Int.toNat (IntKind.i64.wrap (16 + v6_1)))))])))) else (gd (0 ≤ v6_1) (gd (v6_1 ≤ (IntKind.i64.wrap (v6_1 + 1))) (gd ((IntKind.i64.wrap (v6_1 + 1)) ≤ (ByteArray.size (strOf [108, 107]) : Int)) (some ((strOf [97]), (strOf [98]), 0, 0, [(Attr.mk (strOf [107]) (strOf [])), (Attr.mk (ByteArray.extract (strOf [108, 107]) (Int.toNat v6_1) (Int.toNat (IntKind.i64.wrap (v6_1 + 1)))) (strOf []))]))))))))))))) (fun (s : ByteArray × ByteArray × Int × Int × List Attr) => gleaninglaw3_SpanLimits_k2 a1 s.1 s.2.1 s.2.2.1 s.2.2.2.1 s.2.2.2.2)
def gleaninglaw3_SpanLimits_k0 (a0 : Int) (a1 : Bool) : Option Bool :=
  Option.bind (if a1 = true then (some 1) else (some 0)) (fun (s : Int) => gleaninglaw3_SpanLimits_k1 a0 a1 s)
def gleaninglaw3_SpanLimits (a0 : Int) (a1 : Bool) : Option Bool :=
  Option.bind (gleaninglaw3_alive) (fun (x3 : Bool) => Option.bind (if (!x3) = true then (some (Sum.inr x3)) else (if (decide (a0 < 0)) = true then (some (Sum.inr x3)) else (if (decide ((8 : Int) < a0)) = true then (some (Sum.inr x3)) else (some (Sum.inl ()))))) (Sum.elim (fun (s : Unit) => gleaninglaw3_SpanLimits_k0 a0 a1) some))
set_option maxRecDepth 100000 in
set_option maxHeartbeats 8000000 in
/-- gleaning/gleaninglaw3.SpanLimits -/
theorem gleaninglaw3_SpanLimits_ok (a0 : Int) (a1 : Bool) {r : Bool} (h : gleaninglaw3_SpanLimits a0 a1 = some r) : Ok Try.prog 8 [.int .i64 a0, .bool a1] [] [] (.bool r) [] [] := by
  unfold gleaninglaw3_SpanLimits at h
  refine ok_of_code Try.func8 rfl (by show (2 : Nat) ≤ _; decide) (Nat.le_refl _) fun X => ?_
  refine aw_seq_k (fun K1 hK1 => ?_)
  refine aw_reg ?_
  refine ao_cons (acts_of rfl (does_assign (v := .bool false) (by exact rfl))) (by decide) ?_
  refine ao_nil_n ?_
  refine hK1 _ ?_
  refine aw_seq_k (fun K2 hK2 => ?_)
  refine aw_reg ?_
  obtain ⟨x3, hx3, h⟩ := bnd_some h
  refine ao_cons (acts_of rfl (do_call0 10 false (gleaninglaw3_alive_ok hx3) rfl ent27 rfl rfl)) (by decide) ?_
  refine ao_cons (acts_of rfl (does_assign (v := .bool x3) (by exact rfl))) (by decide) ?_
  refine ao_nil_n ?_
  refine hK2 _ ?_
  obtain ⟨q4, h, hk5⟩ := bnd_some h
  refine aw_cut (fun s => gleaninglaw3_SpanLimits_k0 a0 a1 = some r ∧ s = lit [(0, .int .i64 a0), (1, .bool a1)] [] [] X) ?_ ?_
  · skip
    refine aw_seq_k (fun K6 hK6 => ?_)
    refine aw_reg ?_
    refine ao_cons (acts_of rfl (does_move (v := .bool x3) (by exact rfl))) (by decide) ?_
    refine ao_cons (acts_of rfl (does_un (v := .bool (!x3)) (by conv => lhs; whnf) rfl)) (by decide) ?_
    refine ao_cons (acts_of rfl (does_move (v := .bool (!x3)) (by exact rfl))) (by decide) ?_
    refine ao_bool (c := (!x3)) 13 rfl (fun c7 => ?_) (fun c7 => ?_)
    · have h := ifT c7 h
      refine ao_cons (acts_skip rfl) (by decide) ?_
      refine ao_cons (acts_skip rfl) (by decide) ?_
      refine ao_cons (acts_of rfl (does_pick (v := .bool true) (by conv => lhs; whnf) (by exact rfl))) (by decide) ?_
      refine ao_cons (acts_of rfl (does_move (v := .bool true) (by exact rfl))) (by decide) ?_
      refine ao_cons (acts_skip rfl) (by decide) ?_
      refine ao_cons (acts_skip rfl) (by decide) ?_
      refine ao_cons (acts_of rfl (does_pick (v := .bool true) (by conv => lhs; whnf) (by exact rfl))) (by decide) ?_
      refine ao_nil_n ?_
      refine hK6 _ ?_
      refine aw_cond_t (by decide) rfl ?_
      refine aw_seq_k (fun K8 hK8 => ?_)
      refine aw_reg ?_
      refine ao_cons (acts_of rfl (does_move (v := .bool x3) (by exact rfl))) (by decide) ?_
      refine ao_cons (acts_of rfl (does_assign (v := .bool x3) (by exact rfl))) (by decide) ?_
      refine ao_nil_n ?_
      refine hK8 _ ?_
      refine aw_ret ?_
      have h := leafR h hk5
      obtain rfl := Option.some.inj h
      exact ret_ok1 (by conv => lhs; whnf) (by conv => lhs; whnf) (by exact rfl) (.inr rfl) rfl
    · have h := ifF c7 h
      refine ao_cons (acts_of rfl (does_move (v := .int .i64 a0) (by exact rfl))) (by decide) ?_
      refine ao_cons (acts_of rfl (does_bin (v := .bool (decide (a0 < 0))) (by conv => lhs; whnf) (by conv => lhs; whnf) rfl)) (by decide) ?_
      refine ao_cons (acts_of rfl (does_pick (v := .bool (decide (a0 < 0))) (by conv => lhs; whnf) (by exact rfl))) (by decide) ?_
      refine ao_cons (acts_of rfl (does_move (v := .bool (decide (a0 < 0))) (by exact rfl))) (by decide) ?_
      refine ao_bool (c := (decide (a0 < 0))) 17 rfl (fun c9 => ?_) (fun c9 => ?_)
      · have h := ifT c9 h
        refine ao_cons (acts_skip rfl) (by decide) ?_
        refine ao_cons (acts_skip rfl) (by decide) ?_
        refine ao_cons (acts_of rfl (does_pick (v := .bool true) (by conv => lhs; whnf) (by exact rfl))) (by decide) ?_
        refine ao_nil_n ?_
        refine hK6 _ ?_
        refine aw_cond_t (by decide) rfl ?_
        refine aw_seq_k (fun K10 hK10 => ?_)
        refine aw_reg ?_
        refine ao_cons (acts_of rfl (does_move (v := .bool x3) (by exact rfl))) (by decide) ?_
        refine ao_cons (acts_of rfl (does_assign (v := .bool x3) (by exact rfl))) (by decide) ?_
        refine ao_nil_n ?_
        refine hK10 _ ?_
        refine aw_ret ?_
        have h := leafR h hk5
        obtain rfl := Option.some.inj h
        exact ret_ok1 (by conv => lhs; whnf) (by conv => lhs; whnf) (by exact rfl) (.inr rfl) rfl
      · have h := ifF c9 h
        refine ao_cons (acts_of rfl (does_move (v := .int .i64 a0) (by exact rfl))) (by decide) ?_
        refine ao_cons (acts_of rfl (does_bin (v := .bool (decide ((8 : Int) < a0))) (by conv => lhs; whnf) (by conv => lhs; whnf) rfl)) (by decide) ?_
        refine ao_cons (acts_of rfl (does_pick (v := .bool (decide ((8 : Int) < a0))) (by conv => lhs; whnf) (by exact rfl))) (by decide) ?_
        refine ao_nil_n ?_
        refine hK6 _ ?_
        refine aw_bool (b := (decide ((8 : Int) < a0))) 20 rfl (fun c11 => ?_) (fun c11 => ?_)
        · have h := ifT c11 h
          refine aw_cond_t (by decide) rfl ?_
          refine aw_seq_k (fun K12 hK12 => ?_)
          refine aw_reg ?_
          refine ao_cons (acts_of rfl (does_move (v := .bool x3) (by exact rfl))) (by decide) ?_
          refine ao_cons (acts_of rfl (does_assign (v := .bool x3) (by exact rfl))) (by decide) ?_
          refine ao_nil_n ?_
          refine hK12 _ ?_
          refine aw_ret ?_
          have h := leafR h hk5
          obtain rfl := Option.some.inj h
          exact ret_ok1 (by conv => lhs; whnf) (by conv => lhs; whnf) (by exact rfl) (.inr rfl) rfl
        · have h := ifF c11 h
          refine aw_cond_f (by decide) rfl ?_
          refine aw_skip ?_
          have h := leafL h hk5
          exact ⟨_, reb_lit [(0, .int .i64 a0), (1, .bool a1)] [] [] [] (envOk_cons (by conv => lhs; whnf) (by exact rfl) (envOk_cons (by conv => lhs; whnf) (by exact rfl) envOk_nil)) objOk_nil (nodup_b rfl) (nodup_b rfl) rfl rfl, h, rfl⟩
  · rintro s ⟨h, rfl⟩
    unfold gleaninglaw3_SpanLimits_k0 at h
    refine aw_seq_k (fun K13 hK13 => ?_)
    refine aw_reg ?_
    refine ao_cons (acts_of rfl (does_assign (v := .int .i64 0) (by exact rfl))) (by decide) ?_
    refine ao_nil_n ?_
    refine hK13 _ ?_
    obtain ⟨q14, h, hk15⟩ := bnd_some h
    refine aw_cut (fun s => ∃ (v6_1 : Int), gleaninglaw3_SpanLimits_k1 a0 a1 v6_1 = some r ∧ s = lit [(0, .int .i64 a0), (1, .bool a1), (6, .int .i64 v6_1)] [] [] X) ?_ ?_
    · skip
      refine aw_seq_k (fun K16 hK16 => ?_)
      refine aw_reg ?_
      refine ao_cons (acts_of rfl (does_move (v := .bool a1) (by exact rfl))) (by decide) ?_
      refine ao_nil_n ?_
      refine hK16 _ ?_
      refine aw_bool (b := a1) 22 rfl (fun c17 => ?_) (fun c17 => ?_)
      · have h := ifT c17 h
        refine aw_cond_t (by decide) rfl ?_
        refine aw_reg ?_
        refine ao_cons (acts_of rfl (does_assign (v := .int .i64 1) (by exact rfl))) (by decide) ?_
        refine ao_nil_n ?_
        obtain rfl := Option.some.inj h
        have h := hk15
        exact ⟨_, reb_lit [(0, .int .i64 a0), (1, .bool a1), (6, .int .i64 (1))] [] [] [] (envOk_cons (by conv => lhs; whnf) (by exact rfl) (envOk_cons (by conv => lhs; whnf) (by exact rfl) (envOk_cons (by conv => lhs; whnf) (by exact rfl) envOk_nil))) objOk_nil (nodup_b rfl) (nodup_b rfl) rfl rfl, 1, h, rfl⟩
      · have h := ifF c17 h
        refine aw_cond_f (by decide) rfl ?_
        refine aw_skip ?_
        obtain rfl := Option.some.inj h
        have h := hk15
        exact ⟨_, reb_lit [(0, .int .i64 a0), (1, .bool a1), (6, .int .i64 (0))] [] [] [] (envOk_cons (by conv => lhs; whnf) (by exact rfl) (envOk_cons (by conv => lhs; whnf) (by exact rfl) (envOk_cons (by conv => lhs; whnf) (by exact rfl) envOk_nil))) objOk_nil (nodup_b rfl) (nodup_b rfl) rfl rfl, 0, h, rfl⟩
    · rintro s ⟨v6_1, h, rfl⟩
      unfold gleaninglaw3_SpanLimits_k1 at h
      refine aw_seq_k (fun K18 hK18 => ?_)
      refine aw_reg ?_
      refine ao_cons (acts_of rfl (does_assign (v := .str (strOf [97, 98, 99, 100, 101, 102, 103, 104, 105, 106, 107, 108, 109, 110, 111, 112, 113])) (by exact rfl))) (by decide) ?_
      refine ao_nil_n ?_
      refine hK18 _ ?_
      refine aw_seq_k (fun K19 hK19 => ?_)
      refine aw_reg ?_
      refine ao_cons (acts_of rfl (do_build_struct (cs := [.int .u64 0, .int .u64 0, .int .u64 0, .int .u64 0, .str (strOf [97]), .str (strOf [98]), .int .i64 0, .int .i64 0, .bool false, .nil]) ty42 rfl [⟨.struct [(0, 25), (1, 25)], 2, 16, [.int .u64 0, .int .u64 0]⟩, ⟨.int .u64, 1, 8, [.int .u64 0]⟩, ⟨.int .u64, 1, 8, [.int .u64 0]⟩, ⟨.str, 1, 16, [.str ByteArray.empty]⟩, ⟨.str, 1, 16, [.str ByteArray.empty]⟩, ⟨.int .i64, 1, 8, [.int .i64 0]⟩, ⟨.int .i64, 1, 8, [.int .i64 0]⟩, ⟨.bool, 1, 1, [.bool false]⟩, ⟨.slice 53, 1, 24, [.nil]⟩] (by simp only [List.map, ty25, ty27, ty3, ty4, ty40, ty9]) (by rfl) (by exact rfl))) (by decide) ?_
      refine ao_cons (acts_of rfl (do_new ty42 rfl rfl)) (by decide) ?_
      refine ao_cons (acts_of rfl (do_store (cs' := [.int .u64 0, .int .u64 0, .int .u64 0, .int .u64 0, .str (strOf [97]), .str (strOf [98]), .int .i64 0, .int .i64 0, .bool false, .nil]) (by conv => lhs; whnf) (by conv => lhs; whnf) (by conv => lhs; whnf) ty42 rfl rfl rfl (by exact rfl))) (by decide) ?_
      refine ao_nil_n ?_
      refine hK19 _ ?_
      obtain ⟨q20, h, hk21⟩ := bnd_some h
      refine aw_cut (fun s => ∃ (v8_s_4_2 : ByteArray), ∃ (v8_s_5_2 : ByteArray), ∃ (v8_s_6_2 : Int), ∃ (v8_s_7_2 : Int), ∃ (v8_s_9_s_2 : List Attr), gleaninglaw3_SpanLimits_k2 a1 v8_s_4_2 v8_s_5_2 v8_s_6_2 v8_s_7_2 v8_s_9_s_2 = some r ∧ s = lit [(1, .bool a1), (8, .ptr 8 0 0)] [((8, 0), .box [.int .u64 0, .int .u64 0, .int .u64 0, .int .u64 0, .str v8_s_4_2, .str v8_s_5_2, .int .i64 v8_s_6_2, .int .i64 v8_s_7_2, .bool false, .own 8 1]), ((8, 1), .arr 53 2 false (List.map enc52 v8_s_9_s_2))] [(8, 2)] X) ?_ ?_
      · skip
        refine aw_seq_k (fun K22 hK22 => ?_)
        refine aw_reg ?_
        refine ao_cons (acts_of rfl (does_move (v := .int .i64 a0) (by exact rfl))) (by decide) ?_
        refine ao_nil_n ?_
        refine hK22 _ ?_
        refine aw_block ?_
        refine aw_seq_k (fun K23 hK23 => ?_)
        refine aw_reg ?_
        refine ao_cons (acts_of rfl (does_bin (v := .bool (a0 == 0)) (by conv => lhs; whnf) (by conv => lhs; whnf) rfl)) (by decide) ?_
        refine ao_cons (acts_of rfl (does_assign (v := .bool (a0 == 0)) (by exact rfl))) (by decide) ?_
        refine ao_nil_n ?_
        refine hK23 _ ?_
        refine aw_bool (b := (a0 == 0)) 33 rfl (fun c24 => ?_) (fun c24 => ?_)
        · have h := ifT c24 h
          refine aw_cond_t (by decide) rfl ?_
          refine aw_reg ?_
          refine ao_cons (acts_of rfl (does_move (v := .str (strOf [97, 98, 99, 100, 101, 102, 103, 104, 105, 106, 107, 108, 109, 110, 111, 112, 113])) (by exact rfl))) (by decide) ?_
          refine ao_cons (acts_of rfl (does_move (v := .int .i64 v6_1) (by exact rfl))) (by decide) ?_
          refine ao_cons (acts_of rfl (does_bin (v := .int .i64 (IntKind.i64.wrap (16 + v6_1))) (by conv => lhs; whnf) (by conv => lhs; whnf) rfl)) (by decide) ?_
          obtain ⟨g25, h⟩ := gd_some h
          obtain ⟨g26, h⟩ := gd_some h
          refine ao_cons (acts_of rfl (does_slice_str (l := 0) (k := (Int.toNat (IntKind.i64.wrap (16 + v6_1)))) (by conv => lhs; whnf) (ty_str ty9) bd_none (bd_some (by conv => lhs; whnf) (by exact (nat_of (by omega)))) (by omega) (by first | omega | exact Int.toNat_le.2 g26 | exact Int.le_of_ofNat_le_ofNat g26) rfl)) (by decide) ?_
          refine ao_cons (acts_of rfl (does_fieldAddr (q := .ptr 8 0 4) (by conv => lhs; whnf) ty42 rfl ty9 (by decide) (by exact rfl))) (by decide) ?_
          refine ao_cons (acts_of rfl (do_store (cs' := [.int .u64 0, .int .u64 0, .int .u64 0, .int .u64 0, .str (ByteArray.extract (strOf [97, 98, 99, 100, 101, 102, 103, 104, 105, 106, 107, 108, 109, 110, 111, 112, 113]) 0 (Int.toNat (IntKind.i64.wrap (16 + v6_1)))), .str (strOf [98]), .int .i64 0, .int .i64 0, .bool false, .nil]) (by conv => lhs; whnf) (by conv => lhs; whnf) (by conv => lhs; whnf) ty9 rfl rfl rfl (by exact rfl))) (by decide) ?_
          refine ao_nil_n ?_
          obtain rfl := Option.some.inj h
          have h := hk21
          exact ⟨_, (reb_nilOwnC (d := 8) (n := 0) (k := 9) (D := 8) (e := 53) (sz := 2) (cs := [.int .u64 0, .int .u64 0, .int .u64 0, .int .u64 0, .str (ByteArray.extract (strOf [97, 98, 99, 100, 101, 102, 103, 104, 105, 106, 107, 108, 109, 110, 111, 112, 113]) 0 (Int.toNat (IntKind.i64.wrap (16 + v6_1)))), .str (strOf [98]), .int .i64 0, .int .i64 0, .bool false, .nil]) (by conv => lhs; whnf) rfl (by decide)).trans (reb_lit [(1, .bool a1), (8, .ptr 8 0 0)] [(8, 0), (8, 1)] [((8, 0), .box [.int .u64 0, .int .u64 0, .int .u64 0, .int .u64 0, .str (ByteArray.extract (strOf [97, 98, 99, 100, 101, 102, 103, 104, 105, 106, 107, 108, 109, 110, 111, 112, 113]) 0 (Int.toNat (IntKind.i64.wrap (16 + v6_1)))), .str (strOf [98]), .int .i64 (0), .int .i64 (0), .bool false, .own 8 1]), ((8, 1), .arr 53 2 false (List.map enc52 []))] [(8, 2)] (envOk_cons (by conv => lhs; whnf) (by exact rfl) (envOk_cons (by conv => lhs; whnf) (by exact rfl) envOk_nil)) (objOk_cons (by conv => lhs; whnf) (by conv => lhs; whnf) (by exact rfl) (by simp) (objOk_cons (by conv => lhs; whnf) (by conv => lhs; whnf) (by exact rfl) (by simp) objOk_nil)) (nodup_b rfl) (nodup_b rfl) rfl rfl), (ByteArray.extract (strOf [97, 98, 99, 100, 101, 102, 103, 104, 105, 106, 107, 108, 109, 110, 111, 112, 113]) 0 (Int.toNat (IntKind.i64.wrap (16 + v6_1)))), (strOf [98]), 0, 0, [], h, rfl⟩
        · have h := ifF c24 h
          refine aw_cond_f (by decide) rfl ?_
          refine aw_seq_k (fun K27 hK27 => ?_)
          refine aw_reg ?_
          refine ao_cons (acts_of rfl (does_bin (v := .bool (a0 == 1)) (by conv => lhs; whnf) (by conv => lhs; whnf) rfl)) (by decide) ?_
          refine ao_cons (acts_of rfl (does_assign (v := .bool (a0 == 1)) (by exact rfl))) (by decide) ?_
          refine ao_nil_n ?_
          refine hK27 _ ?_
          refine aw_bool (b := (a0 == 1)) 40 rfl (fun c28 => ?_) (fun c28 => ?_)
          · have h := ifT c28 h
            refine aw_cond_t (by decide) rfl ?_
            refine aw_reg ?_
            refine ao_cons (acts_of rfl (does_move (v := .str (strOf [97, 98, 99, 100, 101, 102, 103, 104, 105, 106, 107, 108, 109, 110, 111, 112, 113])) (by exact rfl))) (by decide) ?_
            refine ao_cons (acts_of rfl (does_move (v := .int .i64 v6_1) (by exact rfl))) (by decide) ?_
            refine ao_cons (acts_of rfl (does_bin (v := .int .i64 (IntKind.i64.wrap (1 - v6_1))) (by conv => lhs; whnf) (by conv => lhs; whnf) rfl)) (by decide) ?_
            obtain ⟨g29, h⟩ := gd_some h
            obtain ⟨g30, h⟩ := gd_some h
            refine ao_cons (acts_of rfl (does_slice_str (l := 0) (k := (Int.toNat (IntKind.i64.wrap (1 - v6_1)))) (by conv => lhs; whnf) (ty_str ty9) bd_none (bd_some (by conv => lhs; whnf) (by exact (nat_of (by omega)))) (by omega) (by first | omega | exact Int.toNat_le.2 g30 | exact Int.le_of_ofNat_le_ofNat g30) rfl)) (by decide) ?_
            refine ao_cons (acts_of rfl (does_fieldAddr (q := .ptr 8 0 5) (by conv => lhs; whnf) ty42 rfl ty9 (by decide) (by exact rfl))) (by decide) ?_
            refine ao_cons (acts_of rfl (do_store (cs' := [.int .u64 0, .int .u64 0, .int .u64 0, .int .u64 0, .str (strOf [97]), .str (ByteArray.extract (strOf [97, 98, 99, 100, 101, 102, 103, 104, 105, 106, 107, 108, 109, 110, 111, 112, 113]) 0 (Int.toNat (IntKind.i64.wrap (1 - v6_1)))), .int .i64 0, .int .i64 0, .bool false, .nil]) (by conv => lhs; whnf) (by conv => lhs; whnf) (by conv => lhs; whnf) ty9 rfl rfl rfl (by exact rfl))) (by decide) ?_
            refine ao_nil_n ?_
            obtain rfl := Option.some.inj h
            have h := hk21
            exact ⟨_, (reb_nilOwnC (d := 8) (n := 0) (k := 9) (D := 8) (e := 53) (sz := 2) (cs := [.int .u64 0, .int .u64 0, .int .u64 0, .int .u64 0, .str (strOf [97]), .str (ByteArray.extract (strOf [97, 98, 99, 100, 101, 102, 103, 104, 105, 106, 107, 108, 109, 110, 111, 112, 113]) 0 (Int.toNat (IntKind.i64.wrap (1 - v6_1)))), .int .i64 0, .int .i64 0, .bool false, .nil]) (by conv => lhs; whnf) rfl (by decide)).trans (reb_lit [(1, .bool a1), (8, .ptr 8 0 0)] [(8, 0), (8, 1)] [((8, 0), .box [.int .u64 0, .int .u64 0, .int .u64 0, .int .u64 0, .str (strOf [97]), .str (ByteArray.extract (strOf [97, 98, 99, 100, 101, 102, 103, 104, 105, 106, 107, 108, 109, 110, 111, 112, 113]) 0 (Int.toNat (IntKind.i64.wrap (1 - v6_1)))), .int .i64 (0), .int .i64 (0), .bool false, .own 8 1]), ((8, 1), .arr 53 2 false (List.map enc52 []))] [(8, 2)] (envOk_cons (by conv => lhs; whnf) (by exact rfl) (envOk_cons (by conv => lhs; whnf) (by exact rfl) envOk_nil)) (objOk_cons (by conv => lhs; whnf) (by conv => lhs; whnf) (by exact rfl) (by simp) (objOk_cons (by conv => lhs; whnf) (by conv => lhs; whnf) (by exact rfl) (by simp) objOk_nil)) (nodup_b rfl) (nodup_b rfl) rfl rfl), (strOf [97]), (ByteArray.extract (strOf [97, 98, 99, 100, 101, 102, 103, 104, 105, 106, 107, 108, 109, 110, 111, 112, 113]) 0 (Int.toNat (IntKind.i64.wrap (1 - v6_1)))), 0, 0, [], h, rfl⟩
          · have h := ifF c28 h
            refine aw_cond_f (by decide) rfl ?_
            refine aw_seq_k (fun K31 hK31 => ?_)
            refine aw_reg ?_
            refine ao_cons (acts_of rfl (does_bin (v := .bool (a0 == 2)) (by conv => lhs; whnf) (by conv => lhs; whnf) rfl)) (by decide) ?_
            refine ao_cons (acts_of rfl (does_assign (v := .bool (a0 == 2)) (by exact rfl))) (by decide) ?_
            refine ao_nil_n ?_
            refine hK31 _ ?_
            refine aw_bool (b := (a0 == 2)) 47 rfl (fun c32 => ?_) (fun c32 => ?_)
            · have h := ifT c32 h
              refine aw_cond_t (by decide) rfl ?_
              refine aw_reg ?_
              refine ao_cons (acts_of rfl (does_move (v := .int .i64 v6_1) (by exact rfl))) (by decide) ?_
              refine ao_cons (acts_of rfl (does_bin (v := .int .i64 (IntKind.i64.wrap (1099511627776 + v6_1))) (by conv => lhs; whnf) (by conv => lhs; whnf) rfl)) (by decide) ?_
              refine ao_cons (acts_of rfl (does_fieldAddr (q := .ptr 8 0 6) (by conv => lhs; whnf) ty42 rfl ty3 (by decide) (by exact rfl))) (by decide) ?_
              refine ao_cons (acts_of rfl (do_store (cs' := [.int .u64 0, .int .u64 0, .int .u64 0, .int .u64 0, .str (strOf [97]), .str (strOf [98]), .int .i64 (IntKind.i64.wrap (1099511627776 + v6_1)), .int .i64 0, .bool false, .nil]) (by conv => lhs; whnf) (by conv => lhs; whnf) (by conv => lhs; whnf) ty3 rfl rfl rfl (by exact rfl))) (by decide) ?_
              refine ao_nil_n ?_
              obtain rfl := Option.some.inj h
              have h := hk21
              exact ⟨_, (reb_nilOwnC (d := 8) (n := 0) (k := 9) (D := 8) (e := 53) (sz := 2) (cs := [.int .u64 0, .int .u64 0, .int .u64 0, .int .u64 0, .str (strOf [97]), .str (strOf [98]), .int .i64 (IntKind.i64.wrap (1099511627776 + v6_1)), .int .i64 0, .bool false, .nil]) (by conv => lhs; whnf) rfl (by decide)).trans (reb_lit [(1, .bool a1), (8, .ptr 8 0 0)] [(8, 0), (8, 1)] [((8, 0), .box [.int .u64 0, .int .u64 0, .int .u64 0, .int .u64 0, .str (strOf [97]), .str (strOf [98]), .int .i64 (IntKind.i64.wrap (1099511627776 + v6_1)), .int .i64 (0), .bool false, .own 8 1]), ((8, 1), .arr 53 2 false (List.map enc52 []))] [(8, 2)] (envOk_cons (by conv => lhs; whnf) (by exact rfl) (envOk_cons (by conv => lhs; whnf) (by exact rfl) envOk_nil)) (objOk_cons (by conv => lhs; whnf) (by conv => lhs; whnf) (by exact rfl) (by simp) (objOk_cons (by conv => lhs; whnf) (by conv => lhs; whnf) (by exact rfl) (by simp) objOk_nil)) (nodup_b rfl) (nodup_b rfl) rfl rfl), (strOf [97]), (strOf [98]), (IntKind.i64.wrap (1099511627776 + v6_1)), 0, [], h, rfl⟩
            · have h := ifF c32 h
              refine aw_cond_f (by decide) rfl ?_
              refine aw_seq_k (fun K33 hK33 => ?_)
              refine aw_reg ?_
              refine ao_cons (acts_of rfl (does_bin (v := .bool (a0 == 3)) (by conv => lhs; whnf) (by conv => lhs; whnf) rfl)) (by decide) ?_
              refine ao_cons (acts_of rfl (does_assign (v := .bool (a0 == 3)) (by exact rfl))) (by decide) ?_
              refine ao_nil_n ?_
              refine hK33 _ ?_
              refine aw_bool (b := (a0 == 3)) 52 rfl (fun c34 => ?_) (fun c34 => ?_)
              · have h := ifT c34 h
                refine aw_cond_t (by decide) rfl ?_
                refine aw_reg ?_
                refine ao_cons (acts_of rfl (does_move (v := .int .i64 v6_1) (by exact rfl))) (by decide) ?_
                refine ao_cons (acts_of rfl (does_un (v := .int .i64 (IntKind.i64.wrap (0 - v6_1))) (by conv => lhs; whnf) rfl)) (by decide) ?_
                refine ao_cons (acts_of rfl (does_fieldAddr (q := .ptr 8 0 6) (by conv => lhs; whnf) ty42 rfl ty3 (by decide) (by exact rfl))) (by decide) ?_
                refine ao_cons (acts_of rfl (do_store (cs' := [.int .u64 0, .int .u64 0, .int .u64 0, .int .u64 0, .str (strOf [97]), .str (strOf [98]), .int .i64 (IntKind.i64.wrap (0 - v6_1)), .int .i64 0, .bool false, .nil]) (by conv => lhs; whnf) (by conv => lhs; whnf) (by conv => lhs; whnf) ty3 rfl rfl rfl (by exact rfl))) (by decide) ?_
                refine ao_nil_n ?_
                obtain rfl := Option.some.inj h
                have h := hk21
                exact ⟨_, (reb_nilOwnC (d := 8) (n := 0) (k := 9) (D := 8) (e := 53) (sz := 2) (cs := [.int .u64 0, .int .u64 0, .int .u64 0, .int .u64 0, .str (strOf [97]), .str (strOf [98]), .int .i64 (IntKind.i64.wrap (0 - v6_1)), .int .i64 0, .bool false, .nil]) (by conv => lhs; whnf) rfl (by decide)).trans (reb_lit [(1, .bool a1), (8, .ptr 8 0 0)] [(8, 0), (8, 1)] [((8, 0), .box [.int .u64 0, .int .u64 0, .int .u64 0, .int .u64 0, .str (strOf [97]), .str (strOf [98]), .int .i64 (IntKind.i64.wrap (0 - v6_1)), .int .i64 (0), .bool false, .own 8 1]), ((8, 1), .arr 53 2 false (List.map enc52 []))] [(8, 2)] (envOk_cons (by conv => lhs; whnf) (by exact rfl) (envOk_cons (by conv => lhs; whnf) (by exact rfl) envOk_nil)) (objOk_cons (by conv => lhs; whnf) (by conv => lhs; whnf) (by exact rfl) (by simp) (objOk_cons (by conv => lhs; whnf) (by conv => lhs; whnf) (by exact rfl) (by simp) objOk_nil)) (nodup_b rfl) (nodup_b rfl) rfl rfl), (strOf [97]), (strOf [98]), (IntKind.i64.wrap (0 - v6_1)), 0, [], h, rfl⟩
              · have h := ifF c34 h
                refine aw_cond_f (by decide) rfl ?_
                refine aw_seq_k (fun K35 hK35 => ?_)
                refine aw_reg ?_
                refine ao_cons (acts_of rfl (does_bin (v := .bool (a0 == 4)) (by conv => lhs; whnf) (by conv => lhs; whnf) rfl)) (by decide) ?_
                refine ao_cons (acts_of rfl (does_assign (v := .bool (a0 == 4)) (by exact rfl))) (by decide) ?_
                refine ao_nil_n ?_
                refine hK35 _ ?_
                refine aw_bool (b := (a0 == 4)) 57 rfl (fun c36 => ?_) (fun c36 => ?_)
                · have h := ifT c36 h
                  refine aw_cond_t (by decide) rfl ?_
                  refine aw_reg ?_
                  refine ao_cons (acts_of rfl (does_move (v := .int .i64 v6_1) (by exact rfl))) (by decide) ?_
                  refine ao_cons (acts_of rfl (does_bin (v := .int .i64 (IntKind.i64.wrap (1073741824 + v6_1))) (by conv => lhs; whnf) (by conv => lhs; whnf) rfl)) (by decide) ?_
                  refine ao_cons (acts_of rfl (does_fieldAddr (q := .ptr 8 0 7) (by conv => lhs; whnf) ty42 rfl ty3 (by decide) (by exact rfl))) (by decide) ?_
                  refine ao_cons (acts_of rfl (do_store (cs' := [.int .u64 0, .int .u64 0, .int .u64 0, .int .u64 0, .str (strOf [97]), .str (strOf [98]), .int .i64 0, .int .i64 (IntKind.i64.wrap (1073741824 + v6_1)), .bool false, .nil]) (by conv => lhs; whnf) (by conv => lhs; whnf) (by conv => lhs; whnf) ty3 rfl rfl rfl (by exact rfl))) (by decide) ?_
                  refine ao_nil_n ?_
                  obtain rfl := Option.some.inj h
                  have h := hk21
                  exact ⟨_, (reb_nilOwnC (d := 8) (n := 0) (k := 9) (D := 8) (e := 53) (sz := 2) (cs := [.int .u64 0, .int .u64 0, .int .u64 0, .int .u64 0, .str (strOf [97]), .str (strOf [98]), .int .i64 0, .int .i64 (IntKind.i64.wrap (1073741824 + v6_1)), .bool false, .nil]) (by conv => lhs; whnf) rfl (by decide)).trans (reb_lit [(1, .bool a1), (8, .ptr 8 0 0)] [(8, 0), (8, 1)] [((8, 0), .box [.int .u64 0, .int .u64 0, .int .u64 0, .int .u64 0, .str (strOf [97]), .str (strOf [98]), .int .i64 (0), .int .i64 (IntKind.i64.wrap (1073741824 + v6_1)), .bool false, .own 8 1]), ((8, 1), .arr 53 2 false (List.map enc52 []))] [(8, 2)] (envOk_cons (by conv => lhs; whnf) (by exact rfl) (envOk_cons (by conv => lhs; whnf) (by exact rfl) envOk_nil)) (objOk_cons (by conv => lhs; whnf) (by conv => lhs; whnf) (by exact rfl) (by simp) (objOk_cons (by conv => lhs; whnf) (by conv => lhs; whnf) (by exact rfl) (by simp) objOk_nil)) (nodup_b rfl) (nodup_b rfl) rfl rfl), (strOf [97]), (strOf [98]), 0, (IntKind.i64.wrap (1073741824 + v6_1)), [], h, rfl⟩
                · have h := ifF c36 h
                  refine aw_cond_f (by decide) rfl ?_
                  refine aw_seq_k (fun K37 hK37 => ?_)
                  refine aw_reg ?_
                  refine ao_cons (acts_of rfl (does_bin (v := .bool (a0 == 5)) (by conv => lhs; whnf) (by conv => lhs; whnf) rfl)) (by decide) ?_
                  refine ao_cons (acts_of rfl (does_assign (v := .bool (a0 == 5)) (by exact rfl))) (by decide) ?_
                  refine ao_nil_n ?_
                  refine hK37 _ ?_
                  refine aw_bool (b := (a0 == 5)) 62 rfl (fun c38 => ?_) (fun c38 => ?_)
                  · have h := ifT c38 h
                    refine aw_cond_t (by decide) rfl ?_
                    refine aw_seq_k (fun K39 hK39 => ?_)
                    refine aw_reg ?_
                    refine ao_cons (acts_of rfl (does_assign (v := .int .i64 0) (by exact rfl))) (by decide) ?_
                    refine ao_nil_n ?_
                    refine hK39 _ ?_
                    refine aw_block ?_
                    refine aw_nilOwnC 8 0 9 8 53 2 (cs := [.int .u64 0, .int .u64 0, .int .u64 0, .int .u64 0, .str (strOf [97]), .str (strOf [98]), .int .i64 0, .int .i64 0, .bool false, .nil]) (by conv => lhs; whnf) rfl (by decide) ?_
                    refine aw_loop' (fun m s => ∃ (v8_s_9_s_3 : List Attr), ∃ (v9_3 : Int), loopN (fun (s : List Attr × Int) => gleaninglaw3_SpanLimits_l3 v6_1 s.1 s.2) m (v8_s_9_s_3, v9_3) = some q20 ∧ s = lit [(1, .bool a1), (6, .int .i64 v6_1), (7, .str (strOf [97, 98, 99, 100, 101, 102, 103, 104, 105, 106, 107, 108, 109, 110, 111, 112, 113])), (8, .ptr 8 0 0), (9, .int .i64 v9_3)] [((8, 0), .box [.int .u64 0, .int .u64 0, .int .u64 0, .int .u64 0, .str (strOf [97]), .str (strOf [98]), .int .i64 0, .int .i64 0, .bool false, .own 8 1]), ((8, 1), .arr 53 2 false (List.map enc52 v8_s_9_s_3))] [(8, 2)] X) Fu
                      ⟨_, reb_lit [(1, .bool a1), (6, .int .i64 v6_1), (7, .str (strOf [97, 98, 99, 100, 101, 102, 103, 104, 105, 106, 107, 108, 109, 110, 111, 112, 113])), (8, .ptr 8 0 0), (9, .int .i64 (0))] [(8, 0), (8, 1)] [((8, 0), .box [.int .u64 0, .int .u64 0, .int .u64 0, .int .u64 0, .str (strOf [97]), .str (strOf [98]), .int .i64 0, .int .i64 0, .bool false, .own 8 1]), ((8, 1), .arr 53 2 false (List.map enc52 []))] [(8, 2)] (envOk_cons (by conv => lhs; whnf) (by exact rfl) (envOk_cons (by conv => lhs; whnf) (by exact rfl) (envOk_cons (by conv => lhs; whnf) (by exact rfl) (envOk_cons (by conv => lhs; whnf) (by exact rfl) (envOk_cons (by conv => lhs; whnf) (by exact rfl) envOk_nil))))) (objOk_cons (by conv => lhs; whnf) (by conv => lhs; whnf) (by exact rfl) (by simp) (objOk_cons (by conv => lhs; whnf) (by conv => lhs; whnf) (by exact rfl) (by simp) objOk_nil)) (nodup_b rfl) (nodup_b rfl) rfl rfl, [], 0, h, rfl⟩ ?_
                    rintro m s ⟨v8_s_9_s_3, v9_3, h, rfl⟩
                    obtain ⟨m3, q40, rfl, h, hq41⟩ := loop_some h
                    replace h : gleaninglaw3_SpanLimits_l3 v6_1 v8_s_9_s_3 v9_3 = some q40 := h
                    unfold gleaninglaw3_SpanLimits_l3 at h
                    refine aw_seq_k (fun K42 hK42 => ?_)
                    refine aw_seq_k (fun K43 hK43 => ?_)
                    refine aw_reg ?_
                    refine ao_cons (acts_of rfl (does_move (v := .int .i64 v9_3) (by exact rfl))) (by decide) ?_
                    refine ao_cons (acts_of rfl (does_move (v := .int .i64 v6_1) (by exact rfl))) (by decide) ?_
                    refine ao_cons (acts_of rfl (does_bin (v := .int .i64 (IntKind.i64.wrap (4 + v6_1))) (by conv => lhs; whnf) (by conv => lhs; whnf) rfl)) (by decide) ?_
                    refine ao_cons (acts_of rfl (does_bin (v := .bool (decide (v9_3 < (IntKind.i64.wrap (4 + v6_1))))) (by conv => lhs; whnf) (by conv => lhs; whnf) rfl)) (by decide) ?_
                    refine ao_nil_n ?_
                    refine hK43 _ ?_
                    refine aw_bool (b := (decide (v9_3 < (IntKind.i64.wrap (4 + v6_1))))) 67 rfl (fun c44 => ?_) (fun c44 => ?_)
                    · have h := ifT c44 h
                      refine aw_cond_t (by decide) rfl ?_
                      refine aw_skip ?_
                      refine hK42 _ ?_
                      refine aw_seq_k (fun K45 hK45 => ?_)
                      refine aw_block ?_
                      refine aw_regd (by kernel_rfl) (by decide +kernel) ?_
                      refine ao_cons (acts_of rfl (does_fieldAddr (q := .ptr 8 0 9) (by conv => lhs; whnf) ty42 rfl ty40 (by decide) (by exact rfl))) (by decide) ?_
                      refine ao_cons (acts_of rfl (does_load (v := .own 8 1) (by conv => lhs; whnf) (by conv => lhs; whnf) ty40 (by exact rfl))) (by decide) ?_
                      refine ao_cons (acts_of rfl (does_move (v := .str (strOf [97, 98, 99, 100, 101, 102, 103, 104, 105, 106, 107, 108, 109, 110, 111, 112, 113])) (by exact rfl))) (by decide) ?_
                      refine ao_cons (acts_of rfl (does_move (v := .int .i64 v9_3) (by exact rfl))) (by decide) ?_
                      refine ao_cons (acts_of rfl (does_move (v := .int .i64 v9_3) (by exact rfl))) (by decide) ?_
                      refine ao_cons (acts_of rfl (does_bin (v := .int .i64 (IntKind.i64.wrap (v9_3 + 1))) (by conv => lhs; whnf) (by conv => lhs; whnf) rfl)) (by decide) ?_
                      obtain ⟨g46, h⟩ := gd_some h
                      obtain ⟨g47, h⟩ := gd_some h
                      obtain ⟨g48, h⟩ := gd_some h
                      refine ao_cons (acts_of rfl (does_slice_str (l := (Int.toNat v9_3)) (k := (Int.toNat (IntKind.i64.wrap (v9_3 + 1)))) (by conv => lhs; whnf) (ty_str ty9) (bd_some (by conv => lhs; whnf) (by exact (nat_of g46))) (bd_some (by conv => lhs; whnf) (by exact (nat_of (by omega)))) (by omega) (by first | omega | exact Int.toNat_le.2 g48 | exact Int.le_of_ofNat_le_ofNat g48) rfl)) (by decide) ?_
                      refine ao_cons (acts_of rfl (do_build_struct (cs := [.str (ByteArray.extract (strOf [97, 98, 99, 100, 101, 102, 103, 104, 105, 106, 107, 108, 109, 110, 111, 112, 113]) (Int.toNat v9_3) (Int.toNat (IntKind.i64.wrap (v9_3 + 1)))), .str (strOf [])]) ty53 rfl [⟨.str, 1, 16, [.str ByteArray.empty]⟩, ⟨.str, 1, 16, [.str ByteArray.empty]⟩] (by simp only [List.map, ty9]) (by rfl) (by exact rfl))) (by decide) ?_
                      refine ao_cons (acts_of rfl (do_buildSlice (xs := List.map enc52 [(Attr.mk (ByteArray.extract (strOf [97, 98, 99, 100, 101, 102, 103, 104, 105, 106, 107, 108, 109, 110, 111, 112, 113]) (Int.toNat v9_3) (Int.toNat (IntKind.i64.wrap (v9_3 + 1)))) (strOf []))]) ty40 ty53 rfl rfl rfl rfl rfl rfl rfl rfl)) (by decide) ?_
                      obtain ⟨g49, h⟩ := gd_some h
                      refine ao_cons (acts_of rfl (do_append (v := List.map enc52 (v8_s_9_s_3 ++ [(Attr.mk (ByteArray.extract (strOf [97, 98, 99, 100, 101, 102, 103, 104, 105, 106, 107, 108, 109, 110, 111, 112, 113]) (Int.toNat v9_3) (Int.toNat (IntKind.i64.wrap (v9_3 + 1)))) (strOf []))])) (by conv => lhs; whnf) (by conv => lhs; whnf) ty40 ty53 rfl rfl (by conv => lhs; whnf) (by first | exact .inl rfl | exact .inr ⟨rfl, rfl⟩) (by conv => lhs; whnf) (by first | exact .inr rfl | exact .inl rfl) (map_app _ _) (fit_map g49))) (by decide) ?_
                      refine ao_cons (acts_of rfl (does_fieldAddr (q := .ptr 8 0 9) (by conv => lhs; whnf) ty42 rfl ty40 (by decide) (by exact rfl))) (by decide) ?_
                      refine ao_cons (acts_of rfl (do_store (cs' := [.int .u64 0, .int .u64 0, .int .u64 0, .int .u64 0, .str (strOf [97]), .str (strOf [98]), .int .i64 0, .int .i64 0, .bool false, .own 79 0]) (by conv => lhs; whnf) (by conv => lhs; whnf) (by conv => lhs; whnf) ty40 rfl rfl rfl (by exact rfl))) (by decide) ?_
                      refine ao_nil_d (by kernel_rfl) ?_
                      refine hK45 _ ?_
                      refine aw_reg ?_
                      refine ao_cons (acts_of rfl (does_move (v := .int .i64 v9_3) (by exact rfl))) (by decide) ?_
                      refine ao_cons (acts_of rfl (does_bin (v := .int .i64 (IntKind.i64.wrap (v9_3 + 1))) (by conv => lhs; whnf) (by conv => lhs; whnf) rfl)) (by decide) ?_
                      refine ao_cons (acts_of rfl (does_assign (v := .int .i64 (IntKind.i64.wrap (v9_3 + 1))) (by exact rfl))) (by decide) ?_
                      refine ao_nil_n ?_
                      have h := leafL h hq41
                      exact ⟨m3, Nat.lt_succ_self _, _, reb_lit [(1, .bool a1), (6, .int .i64 v6_1), (7, .str (strOf [97, 98, 99, 100, 101, 102, 103, 104, 105, 106, 107, 108, 109, 110, 111, 112, 113])), (8, .ptr 8 0 0), (9, .int .i64 (IntKind.i64.wrap (v9_3 + 1)))] [(8, 0), (79, 0)] [((8, 0), .box [.int .u64 0, .int .u64 0, .int .u64 0, .int .u64 0, .str (strOf [97]), .str (strOf [98]), .int .i64 0, .int .i64 0, .bool false, .own 8 1]), ((8, 1), .arr 53 2 false (List.map enc52 (v8_s_9_s_3 ++ [(Attr.mk (ByteArray.extract (strOf [97, 98, 99, 100, 101, 102, 103, 104, 105, 106, 107, 108, 109, 110, 111, 112, 113]) (Int.toNat v9_3) (Int.toNat (IntKind.i64.wrap (v9_3 + 1)))) (strOf []))])))] [(8, 2)] (envOk_cons (by conv => lhs; whnf) (by exact rfl) (envOk_cons (by conv => lhs; whnf) (by exact rfl) (envOk_cons (by conv => lhs; whnf) (by exact rfl) (envOk_cons (by conv => lhs; whnf) (by exact rfl) (envOk_cons (by conv => lhs; whnf) (by exact rfl) envOk_nil))))) (objOk_cons (by conv => lhs; whnf) (by conv => lhs; whnf) (by exact rfl) (by simp) (objOk_cons (by conv => lhs; whnf) (by conv => lhs; whnf) (by exact rfl) (by simp) objOk_nil)) (nodup_b rfl) (nodup_b rfl) rfl rfl, (v8_s_9_s_3 ++ [(Attr.mk (ByteArray.extract (strOf [97, 98, 99, 100, 101, 102, 103, 104, 105, 106, 107, 108, 109, 110, 111, 112, 113]) (Int.toNat v9_3) (Int.toNat (IntKind.i64.wrap (v9_3 + 1)))) (strOf []))]), (IntKind.i64.wrap (v9_3 + 1)), h, rfl⟩
                    · have h := ifF c44 h
                      refine aw_cond_f (by decide) rfl ?_
                      refine aw_exit ?_
                      have h := leafR h hq41
                      obtain rfl := Option.some.inj h
                      have h := hk21
                      exact ⟨_, reb_lit [(1, .bool a1), (8, .ptr 8 0 0)] [(8, 0), (8, 1)] [((8, 0), .box [.int .u64 0, .int .u64 0, .int .u64 0, .int .u64 0, .str (strOf [97]), .str (strOf [98]), .int .i64 (0), .int .i64 (0), .bool false, .own 8 1]), ((8, 1), .arr 53 2 false (List.map enc52 v8_s_9_s_3))] [(8, 2)] (envOk_cons (by conv => lhs; whnf) (by exact rfl) (envOk_cons (by conv => lhs; whnf) (by exact rfl) envOk_nil)) (objOk_cons (by conv => lhs; whnf) (by conv => lhs; whnf) (by exact rfl) (by simp) (objOk_cons (by conv => lhs; whnf) (by conv => lhs; whnf) (by exact rfl) (by simp) objOk_nil)) (nodup_b rfl) (nodup_b rfl) rfl rfl, (strOf [97]), (strOf [98]), 0, 0, v8_s_9_s_3, h, rfl⟩
                  · have h := ifF c38 h
                    refine aw_cond_f (by decide) rfl ?_
                    refine aw_seq_k (fun K50 hK50 => ?_)
                    refine aw_reg ?_
                    refine ao_cons (acts_of rfl (does_bin (v := .bool (a0 == 6)) (by conv => lhs; whnf) (by conv => lhs; whnf) rfl)) (by decide) ?_
                    refine ao_cons (acts_of rfl (does_assign (v := .bool (a0 == 6)) (by exact rfl))) (by decide) ?_
                    refine ao_nil_n ?_
                    refine hK50 _ ?_
                    refine aw_bool (b := (a0 == 6)) 81 rfl (fun c51 => ?_) (fun c51 => ?_)
                    · have h := ifT c51 h
                      refine aw_cond_t (by decide) rfl ?_
                      refine aw_reg ?_
                      refine ao_cons (acts_of rfl (does_move (v := .str (strOf [97, 98, 99, 100, 101, 102, 103, 104, 105, 106, 107, 108, 109, 110, 111, 112, 113])) (by exact rfl))) (by decide) ?_
                      refine ao_cons (acts_of rfl (does_move (v := .int .i64 v6_1) (by exact rfl))) (by decide) ?_
                      refine ao_cons (acts_of rfl (does_bin (v := .int .i64 (IntKind.i64.wrap (1 - v6_1))) (by conv => lhs; whnf) (by conv => lhs; whnf) rfl)) (by decide) ?_
                      obtain ⟨g52, h⟩ := gd_some h
                      obtain ⟨g53, h⟩ := gd_some h
                      refine ao_cons (acts_of rfl (does_slice_str (l := 0) (k := (Int.toNat (IntKind.i64.wrap (1 - v6_1)))) (by conv => lhs; whnf) (ty_str ty9) bd_none (bd_some (by conv => lhs; whnf) (by exact (nat_of (by omega)))) (by omega) (by first | omega | exact Int.toNat_le.2 g53 | exact Int.le_of_ofNat_le_ofNat g53) rfl)) (by decide) ?_
                      refine ao_cons (acts_of rfl (do_build_struct (cs := [.str (ByteArray.extract (strOf [97, 98, 99, 100, 101, 102, 103, 104, 105, 106, 107, 108, 109, 110, 111, 112, 113]) 0 (Int.toNat (IntKind.i64.wrap (1 - v6_1)))), .str (strOf [])]) ty53 rfl [⟨.str, 1, 16, [.str ByteArray.empty]⟩, ⟨.str, 1, 16, [.str ByteArray.empty]⟩] (by simp only [List.map, ty9]) (by rfl) (by exact rfl))) (by decide) ?_
                      refine ao_cons (acts_of rfl (do_buildSlice (xs := List.map enc52 [(Attr.mk (ByteArray.extract (strOf [97, 98, 99, 100, 101, 102, 103, 104, 105, 106, 107, 108, 109, 110, 111, 112, 113]) 0 (Int.toNat (IntKind.i64.wrap (1 - v6_1)))) (strOf []))]) ty40 ty53 rfl rfl rfl rfl rfl rfl rfl rfl)) (by decide) ?_
                      refine ao_cons (acts_of rfl (does_fieldAddr (q := .ptr 8 0 9) (by conv => lhs; whnf) ty42 rfl ty40 (by decide) (by exact rfl))) (by decide) ?_
                      refine ao_cons (acts_of rfl (do_store (cs' := [.int .u64 0, .int .u64 0, .int .u64 0, .int .u64 0, .str (strOf [97]), .str (strOf [98]), .int .i64 0, .int .i64 0, .bool false, .own 88 0]) (by conv => lhs; whnf) (by conv => lhs; whnf) (by conv => lhs; whnf) ty40 rfl rfl rfl (by exact rfl))) (by decide) ?_
                      refine ao_nil_n ?_
                      obtain rfl := Option.some.inj h
                      have h := hk21
                      exact ⟨_, reb_lit [(1, .bool a1), (8, .ptr 8 0 0)] [(8, 0), (88, 0)] [((8, 0), .box [.int .u64 0, .int .u64 0, .int .u64 0, .int .u64 0, .str (strOf [97]), .str (strOf [98]), .int .i64 (0), .int .i64 (0), .bool false, .own 8 1]), ((8, 1), .arr 53 2 false (List.map enc52 [(Attr.mk (ByteArray.extract (strOf [97, 98, 99, 100, 101, 102, 103, 104, 105, 106, 107, 108, 109, 110, 111, 112, 113]) 0 (Int.toNat (IntKind.i64.wrap (1 - v6_1)))) (strOf []))]))] [(8, 2)] (envOk_cons (by conv => lhs; whnf) (by exact rfl) (envOk_cons (by conv => lhs; whnf) (by exact rfl) envOk_nil)) (objOk_cons (by conv => lhs; whnf) (by conv => lhs; whnf) (by exact rfl) (by simp) (objOk_cons (by conv => lhs; whnf) (by conv => lhs; whnf) (by exact rfl) (by simp) objOk_nil)) (nodup_b rfl) (nodup_b rfl) rfl rfl, (strOf [97]), (strOf [98]), 0, 0, [(Attr.mk (ByteArray.extract (strOf [97, 98, 99, 100, 101, 102, 103, 104, 105, 106, 107, 108, 109, 110, 111, 112, 113]) 0 (Int.toNat (IntKind.i64.wrap (1 - v6_1)))) (strOf []))], h, rfl⟩
                    · have h := ifF c51 h
                      refine aw_cond_f (by decide) rfl ?_
                      refine aw_seq_k (fun K54 hK54 => ?_)
                      refine aw_reg ?_
                      refine ao_cons (acts_of rfl (does_bin (v := .bool (a0 == 7)) (by conv => lhs; whnf) (by conv => lhs; whnf) rfl)) (by decide) ?_
                      refine ao_cons (acts_of rfl (does_assign (v := .bool (a0 == 7)) (by exact rfl))) (by decide) ?_
                      refine ao_nil_n ?_
                      refine hK54 _ ?_
                      refine aw_bool (b := (a0 == 7)) 90 rfl (fun c55 => ?_) (fun c55 => ?_)
                      · have h := ifT c55 h
                        refine aw_cond_t (by decide) rfl ?_
                        refine aw_reg ?_
                        refine ao_cons (acts_of rfl (does_move (v := .str (strOf [97, 98, 99, 100, 101, 102, 103, 104, 105, 106, 107, 108, 109, 110, 111, 112, 113])) (by exact rfl))) (by decide) ?_
                        refine ao_cons (acts_of rfl (does_move (v := .int .i64 v6_1) (by exact rfl))) (by decide) ?_
                        refine ao_cons (acts_of rfl (does_bin (v := .int .i64 (IntKind.i64.wrap (16 + v6_1))) (by conv => lhs; whnf) (by conv => lhs; whnf) rfl)) (by decide) ?_
                        obtain ⟨g56, h⟩ := gd_some h
                        obtain ⟨g57, h⟩ := gd_some h
                        refine ao_cons (acts_of rfl (does_slice_str (l := 0) (k := (Int.toNat (IntKind.i64.wrap (16 + v6_1)))) (by conv => lhs; whnf) (ty_str ty9) bd_none (bd_some (by conv => lhs; whnf) (by exact (nat_of (by omega)))) (by omega) (by first | omega | exact Int.toNat_le.2 g57 | exact Int.le_of_ofNat_le_ofNat g57) rfl)) (by decide) ?_
                        refine ao_cons (acts_of rfl (do_build_struct (cs := [.str (strOf [107]), .str (ByteArray.extract (strOf [97, 98, 99, 100, 101, 102, 103, 104, 105, 106, 107, 108, 109, 110, 111, 112, 113]) 0 (Int.toNat (IntKind.i64.wrap (16 + v6_1))))]) ty53 rfl [⟨.str, 1, 16, [.str ByteArray.empty]⟩, ⟨.str, 1, 16, [.str ByteArray.empty]⟩] (by simp only [List.map, ty9]) (by rfl) (by exact rfl))) (by decide) ?_
                        refine ao_cons (acts_of rfl (do_buildSlice (xs := List.map enc52 [(Attr.mk (strOf [107]) (ByteArray.extract (strOf [97, 98, 99, 100, 101, 102, 103, 104, 105, 106, 107, 108, 109, 110, 111, 112, 113]) 0 (Int.toNat (IntKind.i64.wrap (16 + v6_1)))))]) ty40 ty53 rfl rfl rfl rfl rfl rfl rfl rfl)) (by decide) ?_
                        refine ao_cons (acts_of rfl (does_fieldAddr (q := .ptr 8 0 9) (by conv => lhs; whnf) ty42 rfl ty40 (by decide) (by exact rfl))) (by decide) ?_
                        refine ao_cons (acts_of rfl (do_store (cs' := [.int .u64 0, .int .u64 0, .int .u64 0, .int .u64 0, .str (strOf [97]), .str (strOf [98]), .int .i64 0, .int .i64 0, .bool false, .own 97 0]) (by conv => lhs; whnf) (by conv => lhs; whnf) (by conv => lhs; whnf) ty40 rfl rfl rfl (by exact rfl))) (by decide) ?_
                        refine ao_nil_n ?_
                        obtain rfl := Option.some.inj h
                        have h := hk21
                        exact ⟨_, reb_lit [(1, .bool a1), (8, .ptr 8 0 0)] [(8, 0), (97, 0)] [((8, 0), .box [.int .u64 0, .int .u64 0, .int .u64 0, .int .u64 0, .str (strOf [97]), .str (strOf [98]), .int .i64 (0), .int .i64 (0), .bool false, .own 8 1]), ((8, 1), .arr 53 2 false (List.map enc52 [(Attr.mk (strOf [107]) (ByteArray.extract (strOf [97, 98, 99, 100, 101, 102, 103, 104, 105, 106, 107, 108, 109, 110, 111, 112, 113]) 0 (Int.toNat (IntKind.i64.wrap (16 + v6_1)))))]))] [(8, 2)] (envOk_cons (by conv => lhs; whnf) (by exact rfl) (envOk_cons (by conv => lhs; whnf) (by exact rfl) envOk_nil)) (objOk_cons (by conv => lhs; whnf) (by conv => lhs; whnf) (by exact rfl) (by simp) (objOk_cons (by conv => lhs; whnf) (by conv => lhs; whnf) (by exact rfl) (by simp) objOk_nil)) (nodup_b rfl) (nodup_b rfl) rfl rfl, (strOf [97]), (strOf [98]), 0, 0, [(Attr.mk (strOf [107]) (ByteArray.extract (strOf [97, 98, 99, 100, 101, 102, 103, 104, 105, 106, 107, 108, 109, 110, 111, 112, 113]) 0 (Int.toNat (IntKind.i64.wrap (16 + v6_1)))))], h, rfl⟩
                      · have h := ifF c55 h
                        refine aw_cond_f (by decide) rfl ?_
                        refine aw_reg ?_
                        refine ao_cons (acts_of rfl (do_build_struct (cs := [.str (strOf [107]), .str (strOf [])]) ty53 rfl [⟨.str, 1, 16, [.str ByteArray.empty]⟩, ⟨.str, 1, 16, [.str ByteArray.empty]⟩] (by simp only [List.map, ty9]) (by rfl) (by exact rfl))) (by decide) ?_
                        refine ao_cons (acts_of rfl (does_move (v := .int .i64 v6_1) (by exact rfl))) (by decide) ?_
                        refine ao_cons (acts_of rfl (does_move (v := .int .i64 v6_1) (by exact rfl))) (by decide) ?_
                        refine ao_cons (acts_of rfl (does_bin (v := .int .i64 (IntKind.i64.wrap (v6_1 + 1))) (by conv => lhs; whnf) (by conv => lhs; whnf) rfl)) (by decide) ?_
                        obtain ⟨g58, h⟩ := gd_some h
                        obtain ⟨g59, h⟩ := gd_some h
                        obtain ⟨g60, h⟩ := gd_some h
                        refine ao_cons (acts_of rfl (does_slice_str (l := (Int.toNat v6_1)) (k := (Int.toNat (IntKind.i64.wrap (v6_1 + 1)))) (by conv => lhs; whnf) (ty_str ty9) (bd_some (by conv => lhs; whnf) (by exact (nat_of g58))) (bd_some (by conv => lhs; whnf) (by exact (nat_of (by omega)))) (by omega) (by first | omega | exact Int.toNat_le.2 g60 | exact Int.le_of_ofNat_le_ofNat g60) rfl)) (by decide) ?_
                        refine ao_cons (acts_of rfl (do_build_struct (cs := [.str (ByteArray.extract (strOf [108, 107]) (Int.toNat v6_1) (Int.toNat (IntKind.i64.wrap (v6_1 + 1)))), .str (strOf [])]) ty53 rfl [⟨.str, 1, 16, [.str ByteArray.empty]⟩, ⟨.str, 1, 16, [.str ByteArray.empty]⟩] (by simp only [List.map, ty9]) (by rfl) (by exact rfl))) (by decide) ?_
                        refine ao_cons (acts_of rfl (do_buildSlice (xs := List.map enc52 [(Attr.mk (strOf [107]) (strOf [])), (Attr.mk (ByteArray.extract (strOf [108, 107]) (Int.toNat v6_1) (Int.toNat (IntKind.i64.wrap (v6_1 + 1)))) (strOf []))]) ty40 ty53 rfl rfl rfl rfl rfl rfl rfl rfl)) (by decide) ?_
                        refine ao_cons (acts_of rfl (does_fieldAddr (q := .ptr 8 0 9) (by conv => lhs; whnf) ty42 rfl ty40 (by decide) (by exact rfl))) (by decide) ?_
                        refine ao_cons (acts_of rfl (do_store (cs' := [.int .u64 0, .int .u64 0, .int .u64 0, .int .u64 0, .str (strOf [97]), .str (strOf [98]), .int .i64 0, .int .i64 0, .bool false, .own 31 0]) (by conv => lhs; whnf) (by conv => lhs; whnf) (by conv => lhs; whnf) ty40 rfl rfl rfl (by exact rfl))) (by decide) ?_
                        refine ao_nil_n ?_
                        obtain rfl := Option.some.inj h
                        have h := hk21
                        exact ⟨_, reb_lit [(1, .bool a1), (8, .ptr 8 0 0)] [(8, 0), (31, 0)] [((8, 0), .box [.int .u64 0, .int .u64 0, .int .u64 0, .int .u64 0, .str (strOf [97]), .str (strOf [98]), .int .i64 (0), .int .i64 (0), .bool false, .own 8 1]), ((8, 1), .arr 53 2 false (List.map enc52 [(Attr.mk (strOf [107]) (strOf [])), (Attr.mk (ByteArray.extract (strOf [108, 107]) (Int.toNat v6_1) (Int.toNat (IntKind.i64.wrap (v6_1 + 1)))) (strOf []))]))] [(8, 2)] (envOk_cons (by conv => lhs; whnf) (by exact rfl) (envOk_cons (by conv => lhs; whnf) (by exact rfl) envOk_nil)) (objOk_cons (by conv => lhs; whnf) (by conv => lhs; whnf) (by exact rfl) (by simp) (objOk_cons (by conv => lhs; whnf) (by conv => lhs; whnf) (by exact rfl) (by simp) objOk_nil)) (nodup_b rfl) (nodup_b rfl) rfl rfl, (strOf [97]), (strOf [98]), 0, 0, [(Attr.mk (strOf [107]) (strOf [])), (Attr.mk (ByteArray.extract (strOf [108, 107]) (Int.toNat v6_1) (Int.toNat (IntKind.i64.wrap (v6_1 + 1)))) (strOf []))], h, rfl⟩
      · rintro s ⟨v8_s_4_2, v8_s_5_2, v8_s_6_2, v8_s_7_2, v8_s_9_s_2, h, rfl⟩
        unfold gleaninglaw3_SpanLimits_k2 at h
        refine aw_seq_k (fun K61 hK61 => ?_)
        refine aw_reg ?_
        refine ao_cons (acts_of rfl (does_load (v := .agg [.int .u64 0, .int .u64 0, .int .u64 0, .int .u64 0, .str v8_s_4_2, .str v8_s_5_2, .int .i64 v8_s_6_2, .int .i64 v8_s_7_2, .bool false, .own 8 1]) (by conv => lhs; whnf) (by conv => lhs; whnf) ty42 (by exact rfl))) (by decide) ?_
        obtain ⟨x62, hx62, h⟩ := bnd_some h
        refine ao_cons (acts_of rfl (do_callG (bcs := []) [] [] [(8, 1)] 100 false (span_Right_ok (Span.mk (Trace.mk 0 0) 0 0 v8_s_4_2 v8_s_5_2 v8_s_6_2 v8_s_7_2 false v8_s_9_s_2) hx62) rfl ent33 trivial trivial rfl rfl rfl rfl rfl rfl rfl rfl (.inr ⟨rfl, rfl, trivial⟩))) (by decide) ?_
        refine ao_cons (acts_of rfl (does_move (v := .bool a1) (by exact rfl))) (by decide) ?_
        refine ao_cons (acts_of rfl (does_un (v := .bool (!a1)) (by conv => lhs; whnf) rfl)) (by decide) ?_
        refine ao_cons (acts_of rfl (does_eq_bool (v := .bool (x62 == (!a1))) (by conv => lhs; whnf) (by conv => lhs; whnf) (ty_bool ty4) rfl)) (by decide) ?_
        refine ao_cons (acts_of rfl (does_move (v := .bool (x62 == (!a1))) (by exact rfl))) (by decide) ?_
        refine ao_bool (c := (x62 == (!a1))) 104 rfl (fun c63 => ?_) (fun c63 => ?_)
        · have h := ifT c63 h
          refine ao_cons (acts_of rfl (does_load (v := .agg [.int .u64 0, .int .u64 0, .int .u64 0, .int .u64 0, .str v8_s_4_2, .str v8_s_5_2, .int .i64 v8_s_6_2, .int .i64 v8_s_7_2, .bool false, .own 8 1]) (by conv => lhs; whnf) (by conv => lhs; whnf) ty42 (by exact rfl))) (by decide) ?_
          obtain ⟨x64, hx64, h⟩ := bnd_some h
          refine ao_cons (acts_of rfl (do_callG (bcs := []) [] [] [(8, 1)] 106 false (span_Bytes_ok (Span.mk (Trace.mk 0 0) 0 0 v8_s_4_2 v8_s_5_2 v8_s_6_2 v8_s_7_2 false v8_s_9_s_2) hx64) rfl ent29 trivial trivial rfl rfl rfl rfl rfl rfl rfl rfl (.inr ⟨rfl, rfl, ⟨plain_map (fun _ => rfl), trivial⟩⟩))) (by decide) ?_
          refine ao_cons (acts_of rfl ((does_len_own (by conv => lhs; whnf) (by conv => lhs; whnf) ty43).cast (v' := .int .i64 (List.length x64 : Int)) (by exact len_map _))) (by decide) ?_
          refine ao_cons (acts_of rfl (does_bin (v := .bool (decide ((0 : Int) < (List.length x64 : Int)))) (by conv => lhs; whnf) (by conv => lhs; whnf) rfl)) (by decide) ?_
          refine ao_cons (acts_of rfl (does_move (v := .bool a1) (by exact rfl))) (by decide) ?_
          refine ao_cons (acts_of rfl (does_un (v := .bool (!a1)) (by conv => lhs; whnf) rfl)) (by decide) ?_
          refine ao_cons (acts_of rfl (does_eq_bool (v := .bool ((decide ((0 : Int) < (List.length x64 : Int))) == (!a1))) (by conv => lhs; whnf) (by conv => lhs; whnf) (ty_bool ty4) rfl)) (by decide) ?_
          refine ao_cons (acts_of rfl (does_pick (v := .bool ((decide ((0 : Int) < (List.length x64 : Int))) == (!a1))) (by conv => lhs; whnf) (by exact rfl))) (by decide) ?_
          refine ao_cons (acts_of rfl (does_assign (v := .bool ((decide ((0 : Int) < (List.length x64 : Int))) == (!a1))) (by exact rfl))) (by decide) ?_
          refine ao_nil_n ?_
          refine hK61 _ ?_
          refine aw_ret ?_
          obtain rfl := Option.some.inj h
          exact ret_ok1 (by conv => lhs; whnf) (by conv => lhs; whnf) (by exact rfl) (.inr rfl) rfl
        · have h := ifF c63 h
          refine ao_cons (acts_skip rfl) (by decide) ?_
          refine ao_cons (acts_skip rfl) (by decide) ?_
          refine ao_cons (acts_skip rfl) (by decide) ?_
          refine ao_cons (acts_skip rfl) (by decide) ?_
          refine ao_cons (acts_skip rfl) (by decide) ?_
          refine ao_cons (acts_skip rfl) (by decide) ?_
          refine ao_cons (acts_skip rfl) (by decide) ?_
          refine ao_cons (acts_of rfl (does_pick (v := .bool false) (by conv => lhs; whnf) (by exact rfl))) (by decide) ?_
          refine ao_cons (acts_of rfl (does_assign (v := .bool false) (by exact rfl))) (by decide) ?_
          refine ao_nil_n ?_
          refine hK61 _ ?_
          refine aw_ret ?_
          obtain rfl := Option.some.inj h
          exact ret_ok1 (by conv => lhs; whnf) (by conv => lhs; whnf) (by exact rfl) (.inr rfl) rfl
def gleaninglaw3_SpanApart_k1 (a0 : Span) (a1 : Span) (x16 : List UInt8) (x18 : List UInt8) : Option Bool :=
  Option.bind (gleaningref1_SameSpan a0 a1) (fun (x28 : Bool) => if x28 = true then (some (ByteArray.toList (strOf x16) == ByteArray.toList (strOf x18))) else (if (decide ((ByteArray.size (strOf x18) : Int) < (ByteArray.size (strOf x16) : Int))) = true then (gd (0 ≤ (ByteArray.size (strOf x18) : Int)) (gd ((ByteArray.size (strOf x18) : Int) ≤ (ByteArray.size (strOf x16) : Int)) (if (!(ByteArray.toList (ByteArray.extract (strOf x16) 0 (Int.toNat (ByteArray.size (strOf x18) : Int))) == ByteArray.toList (strOf x18))) = true then (some true) else (if (decide ((ByteArray.size (strOf x16) : Int) ≤ (ByteArray.size (strOf x18) : Int))) = true then (gd (0 ≤ (ByteArray.size (strOf x16) : Int)) (gd ((ByteArray.size (strOf x16) : Int) ≤ (ByteArray.size (strOf x18) : Int)) (some (!(ByteArray.toList (ByteArray.extract (strOf x18) 0 (Int.toNat (ByteArray.size (strOf x16) : Int))) == ByteArray.toList (strOf x16)))))) else (some false))))) else (if (decide ((ByteArray.size (strOf x16) : Int) ≤ (ByteArray.size (strOf x18) : Int))) = true then (gd (0 ≤ (ByteArray.size (strOf x16) : Int)) (gd ((ByteArray.size (strOf x16) : Int) ≤ (ByteArray.size (strOf x18) : Int)) (some (!(ByteArray.toList (ByteArray.extract (strOf x18) 0 (Int.toNat (ByteArray.size (strOf x16) : Int))) == ByteArray.toList (strOf x16)))))) else (some false))))
def gleaninglaw3_SpanApart_k0 (a0 : Span) (a1 : Span) : Option Bool :=
  Option.bind (span_Bytes a0) (fun (x16 : List UInt8) => Option.bind (span_Bytes a1) (fun (x18 : List UInt8) => Option.bind (if ((ByteArray.size (strOf x16) : Int) == 0) = true then (some (Sum.inr false)) else (if ((ByteArray.size (strOf x18) : Int) == 0) = true then (some (Sum.inr false)) else (some (Sum.inl ())))) (Sum.elim (fun (s : Unit) => gleaninglaw3_SpanApart_k1 a0 a1 x16 x18) some)))
def gleaninglaw3_SpanApart (a0 : Span) (a1 : Span) : Option Bool :=
  Option.bind (gleaninglaw3_alive) (fun (x3 : Bool) => Option.bind (if (!x3) = true then (some (Sum.inr x3)) else (Option.bind (gleaningref1_RightSpan a0) (fun (x9 : Bool) => if (!x9) = true then (some (Sum.inr x3)) else (Option.bind (gleaningref1_RightSpan a1) (fun (x12 : Bool) => if (!x12) = true then (some (Sum.inr x3)) else (some (Sum.inl ()))))))) (Sum.elim (fun (s : Unit) => gleaninglaw3_SpanApart_k0 a0 a1) some))
set_option maxRecDepth 100000 in
set_option maxHeartbeats 8000000 in
/-- gleaning/gleaninglaw3.SpanApart -/
theorem gleaninglaw3_SpanApart_ok (a0 : Span) (a1 : Span) {r : Bool} (h : gleaninglaw3_SpanApart a0 a1 = some r) : Ok Try.prog 9 [.agg [.int .u64 a0.Trace.Hi, .int .u64 a0.Trace.Lo, .int .u64 a0.Id, .int .u64 a0.Parent, .str a0.Service, .str a0.Op, .int .i64 a0.Start, .int .i64 a0.Dur, .bool a0.Err, .sl 2 (List.map enc52 a0.Attrs)], .agg [.int .u64 a1.Trace.Hi, .int .u64 a1.Trace.Lo, .int .u64 a1.Id, .int .u64 a1.Parent, .str a1.Service, .str a1.Op, .int .i64 a1.Start, .int .i64 a1.Dur, .bool a1.Err, .sl 2 (List.map enc52 a1.Attrs)]] [] [] (.bool r) [] [] := by
  unfold gleaninglaw3_SpanApart at h
  refine ok_of_code Try.func9 rfl (by show (2 : Nat) ≤ _; decide) (Nat.le_refl _) fun X => ?_
  refine aw_seq_k (fun K1 hK1 => ?_)
  refine aw_reg ?_
  refine ao_cons (acts_of rfl (do_box (by conv => lhs; whnf) rfl rfl)) (by decide) ?_
  refine ao_cons (acts_of rfl (do_box (by conv => lhs; whnf) rfl rfl)) (by decide) ?_
  refine ao_cons (acts_of rfl (does_assign (v := .bool false) (by exact rfl))) (by decide) ?_
  refine ao_nil_n ?_
  refine hK1 _ ?_
  refine aw_seq_k (fun K2 hK2 => ?_)
  refine aw_reg ?_
  obtain ⟨x3, hx3, h⟩ := bnd_some h
  refine ao_cons (acts_of rfl (do_call0 8 false (gleaninglaw3_alive_ok hx3) rfl ent27 rfl rfl)) (by decide) ?_
  refine ao_cons (acts_of rfl (does_assign (v := .bool x3) (by exact rfl))) (by decide) ?_
  refine ao_nil_n ?_
  refine hK2 _ ?_
  obtain ⟨q4, h, hk5⟩ := bnd_some h
  refine aw_cut (fun s => gleaninglaw3_SpanApart_k0 a0 a1 = some r ∧ s = lit [(2, .ptr 2 0 0), (3, .ptr 3 0 0)] [((2, 0), .box [.int .u64 a0.Trace.Hi, .int .u64 a0.Trace.Lo, .int .u64 a0.Id, .int .u64 a0.Parent, .str a0.Service, .str a0.Op, .int .i64 a0.Start, .int .i64 a0.Dur, .bool a0.Err, .sl 2 (List.map enc52 a0.Attrs)]), ((3, 0), .box [.int .u64 a1.Trace.Hi, .int .u64 a1.Trace.Lo, .int .u64 a1.Id, .int .u64 a1.Parent, .str a1.Service, .str a1.Op, .int .i64 a1.Start, .int .i64 a1.Dur, .bool a1.Err, .sl 2 (List.map enc52 a1.Attrs)])] [(2, 1), (3, 1)] X) ?_ ?_
  · skip
    refine aw_seq_k (fun K6 hK6 => ?_)
    refine aw_reg ?_
    refine ao_cons (acts_of rfl (does_move (v := .bool x3) (by exact rfl))) (by decide) ?_
    refine ao_cons (acts_of rfl (does_un (v := .bool (!x3)) (by conv => lhs; whnf) rfl)) (by decide) ?_
    refine ao_cons (acts_of rfl (does_move (v := .bool (!x3)) (by exact rfl))) (by decide) ?_
    refine ao_bool (c := (!x3)) 11 rfl (fun c7 => ?_) (fun c7 => ?_)
    · have h := ifT c7 h
      refine ao_cons (acts_skip rfl) (by decide) ?_
      refine ao_cons (acts_skip rfl) (by decide) ?_
      refine ao_cons (acts_skip rfl) (by decide) ?_
      refine ao_cons (acts_of rfl (does_pick (v := .bool true) (by conv => lhs; whnf) (by exact rfl))) (by decide) ?_
      refine ao_cons (acts_of rfl (does_move (v := .bool true) (by exact rfl))) (by decide) ?_
      refine ao_cons (acts_skip rfl) (by decide) ?_
      refine ao_cons (acts_skip rfl) (by decide) ?_
      refine ao_cons (acts_skip rfl) (by decide) ?_
      refine ao_cons (acts_of rfl (does_pick (v := .bool true) (by conv => lhs; whnf) (by exact rfl))) (by decide) ?_
      refine ao_nil_n ?_
      refine hK6 _ ?_
      refine aw_cond_t (by decide) rfl ?_
      refine aw_seq_k (fun K8 hK8 => ?_)
      refine aw_reg ?_
      refine ao_cons (acts_of rfl (does_move (v := .bool x3) (by exact rfl))) (by decide) ?_
      refine ao_cons (acts_of rfl (does_assign (v := .bool x3) (by exact rfl))) (by decide) ?_
      refine ao_nil_n ?_
      refine hK8 _ ?_
      refine aw_ret ?_
      have h := leafR h hk5
      obtain rfl := Option.some.inj h
      exact ret_ok1 (by conv => lhs; whnf) (by conv => lhs; whnf) (by exact rfl) (.inr rfl) rfl
    · have h := ifF c7 h
      refine ao_cons (acts_of rfl (does_load (v := .agg [.int .u64 a0.Trace.Hi, .int .u64 a0.Trace.Lo, .int .u64 a0.Id, .int .u64 a0.Parent, .str a0.Service, .str a0.Op, .int .i64 a0.Start, .int .i64 a0.Dur, .bool a0.Err, .sl 2 (List.map enc52 a0.Attrs)]) (by conv => lhs; whnf) (by conv => lhs; whnf) ty42 (by exact rfl))) (by decide) ?_
      obtain ⟨x9, hx9, h⟩ := bnd_some h
      refine ao_cons (acts_of rfl (do_call0 13 false (gleaningref1_RightSpan_ok a0 hx9) rfl ent28 rfl rfl)) (by decide) ?_
      refine ao_cons (acts_of rfl (does_un (v := .bool (!x9)) (by conv => lhs; whnf) rfl)) (by decide) ?_
      refine ao_cons (acts_of rfl (does_pick (v := .bool (!x9)) (by conv => lhs; whnf) (by exact rfl))) (by decide) ?_
      refine ao_cons (acts_of rfl (does_move (v := .bool (!x9)) (by exact rfl))) (by decide) ?_
      refine ao_bool (c := (!x9)) 16 rfl (fun c10 => ?_) (fun c10 => ?_)
      · have h := ifT c10 h
        refine ao_cons (acts_skip rfl) (by decide) ?_
        refine ao_cons (acts_skip rfl) (by decide) ?_
        refine ao_cons (acts_skip rfl) (by decide) ?_
        refine ao_cons (acts_of rfl (does_pick (v := .bool true) (by conv => lhs; whnf) (by exact rfl))) (by decide) ?_
        refine ao_nil_n ?_
        refine hK6 _ ?_
        refine aw_cond_t (by decide) rfl ?_
        refine aw_seq_k (fun K11 hK11 => ?_)
        refine aw_reg ?_
        refine ao_cons (acts_of rfl (does_move (v := .bool x3) (by exact rfl))) (by decide) ?_
        refine ao_cons (acts_of rfl (does_assign (v := .bool x3) (by exact rfl))) (by decide) ?_
        refine ao_nil_n ?_
        refine hK11 _ ?_
        refine aw_ret ?_
        have h := leafR h hk5
        obtain rfl := Option.some.inj h
        exact ret_ok1 (by conv => lhs; whnf) (by conv => lhs; whnf) (by exact rfl) (.inr rfl) rfl
      · have h := ifF c10 h
        refine ao_cons (acts_of rfl (does_load (v := .agg [.int .u64 a1.Trace.Hi, .int .u64 a1.Trace.Lo, .int .u64 a1.Id, .int .u64 a1.Parent, .str a1.Service, .str a1.Op, .int .i64 a1.Start, .int .i64 a1.Dur, .bool a1.Err, .sl 2 (List.map enc52 a1.Attrs)]) (by conv => lhs; whnf) (by conv => lhs; whnf) ty42 (by exact rfl))) (by decide) ?_
        obtain ⟨x12, hx12, h⟩ := bnd_some h
        refine ao_cons (acts_of rfl (do_call0 18 false (gleaningref1_RightSpan_ok a1 hx12) rfl ent28 rfl rfl)) (by decide) ?_
        refine ao_cons (acts_of rfl (does_un (v := .bool (!x12)) (by conv => lhs; whnf) rfl)) (by decide) ?_
        refine ao_cons (acts_of rfl (does_pick (v := .bool (!x12)) (by conv => lhs; whnf) (by exact rfl))) (by decide) ?_
        refine ao_nil_n ?_
        refine hK6 _ ?_
        refine aw_bool (b := (!x12)) 20 rfl (fun c13 => ?_) (fun c13 => ?_)
        · have h := ifT c13 h
          refine aw_cond_t (by decide) rfl ?_
          refine aw_seq_k (fun K14 hK14 => ?_)
          refine aw_reg ?_
          refine ao_cons (acts_of rfl (does_move (v := .bool x3) (by exact rfl))) (by decide) ?_
          refine ao_cons (acts_of rfl (does_assign (v := .bool x3) (by exact rfl))) (by decide) ?_
          refine ao_nil_n ?_
          refine hK14 _ ?_
          refine aw_ret ?_
          have h := leafR h hk5
          obtain rfl := Option.some.inj h
          exact ret_ok1 (by conv => lhs; whnf) (by conv => lhs; whnf) (by exact rfl) (.inr rfl) rfl
        · have h := ifF c13 h
          refine aw_cond_f (by decide) rfl ?_
          refine aw_skip ?_
          have h := leafL h hk5
          exact ⟨_, reb_lit [(2, .ptr 2 0 0), (3, .ptr 3 0 0)] [(2, 0), (3, 0)] [((2, 0), .box [.int .u64 a0.Trace.Hi, .int .u64 a0.Trace.Lo, .int .u64 a0.Id, .int .u64 a0.Parent, .str a0.Service, .str a0.Op, .int .i64 a0.Start, .int .i64 a0.Dur, .bool a0.Err, .sl 2 (List.map enc52 a0.Attrs)]), ((3, 0), .box [.int .u64 a1.Trace.Hi, .int .u64 a1.Trace.Lo, .int .u64 a1.Id, .int .u64 a1.Parent, .str a1.Service, .str a1.Op, .int .i64 a1.Start, .int .i64 a1.Dur, .bool a1.Err, .sl 2 (List.map enc52 a1.Attrs)])] [(2, 1), (3, 1)] (envOk_cons (by conv => lhs; whnf) (by exact rfl) (envOk_cons (by conv => lhs; whnf) (by exact rfl) envOk_nil)) (objOk_cons (by conv => lhs; whnf) (by conv => lhs; whnf) (by exact rfl) (by simp) (objOk_cons (by conv => lhs; whnf) (by conv => lhs; whnf) (by exact rfl) (by simp) objOk_nil)) (nodup_b rfl) (nodup_b rfl) rfl rfl, h, rfl⟩
  · rintro s ⟨h, rfl⟩
    unfold gleaninglaw3_SpanApart_k0 at h
    refine aw_seq_k (fun K15 hK15 => ?_)
    refine aw_reg ?_
    refine ao_cons (acts_of rfl (does_load (v := .agg [.int .u64 a0.Trace.Hi, .int .u64 a0.Trace.Lo, .int .u64 a0.Id, .int .u64 a0.Parent, .str a0.Service, .str a0.Op, .int .i64 a0.Start, .int .i64 a0.Dur, .bool a0.Err, .sl 2 (List.map enc52 a0.Attrs)]) (by conv => lhs; whnf) (by conv => lhs; whnf) ty42 (by exact rfl))) (by decide) ?_
    obtain ⟨x16, hx16, h⟩ := bnd_some h
    refine ao_cons (acts_of rfl (do_call0 23 false (span_Bytes_ok a0 hx16) rfl ent29 rfl rfl)) (by decide) ?_
    refine ao_cons (acts_of rfl (does_bytes_str (l := x16) (f := enc5) (by conv => lhs; whnf) (by conv => lhs; whnf) (Nat.le_refl 1) (ty_slice ty43) (ty_int ty5) (ty_str ty9) (fun _ => rfl))) (by decide) ?_
    refine ao_cons (acts_of rfl (does_assign (v := .str (strOf x16)) (by exact rfl))) (by decide) ?_
    refine ao_nil_n ?_
    refine hK15 _ ?_
    refine aw_seq_k (fun K17 hK17 => ?_)
    refine aw_reg ?_
    refine ao_cons (acts_of rfl (does_load (v := .agg [.int .u64 a1.Trace.Hi, .int .u64 a1.Trace.Lo, .int .u64 a1.Id, .int .u64 a1.Parent, .str a1.Service, .str a1.Op, .int .i64 a1.Start, .int .i64 a1.Dur, .bool a1.Err, .sl 2 (List.map enc52 a1.Attrs)]) (by conv => lhs; whnf) (by conv => lhs; whnf) ty42 (by exact rfl))) (by decide) ?_
    obtain ⟨x18, hx18, h⟩ := bnd_some h
    refine ao_cons (acts_of rfl (do_call0 26 false (span_Bytes_ok a1 hx18) rfl ent29 rfl rfl)) (by decide) ?_
    refine ao_cons (acts_of rfl (does_bytes_str (l := x18) (f := enc5) (by conv => lhs; whnf) (by conv => lhs; whnf) (Nat.le_refl 1) (ty_slice ty43) (ty_int ty5) (ty_str ty9) (fun _ => rfl))) (by decide) ?_
    refine ao_cons (acts_of rfl (does_assign (v := .str (strOf x18)) (by exact rfl))) (by decide) ?_
    refine ao_nil_n ?_
    refine hK17 _ ?_
    obtain ⟨q19, h, hk20⟩ := bnd_some h
    refine aw_cut (fun s => gleaninglaw3_SpanApart_k1 a0 a1 x16 x18 = some r ∧ s = lit [(2, .ptr 2 0 0), (3, .ptr 3 0 0), (6, .str (strOf x16)), (7, .str (strOf x18))] [((2, 0), .box [.int .u64 a0.Trace.Hi, .int .u64 a0.Trace.Lo, .int .u64 a0.Id, .int .u64 a0.Parent, .str a0.Service, .str a0.Op, .int .i64 a0.Start, .int .i64 a0.Dur, .bool a0.Err, .sl 2 (List.map enc52 a0.Attrs)]), ((3, 0), .box [.int .u64 a1.Trace.Hi, .int .u64 a1.Trace.Lo, .int .u64 a1.Id, .int .u64 a1.Parent, .str a1.Service, .str a1.Op, .int .i64 a1.Start, .int .i64 a1.Dur, .bool a1.Err, .sl 2 (List.map enc52 a1.Attrs)])] [(2, 1), (3, 1)] X) ?_ ?_
    · skip
      refine aw_seq_k (fun K21 hK21 => ?_)
      refine aw_reg ?_
      refine ao_cons (acts_of rfl (does_move (v := .str (strOf x16)) (by exact rfl))) (by decide) ?_
      refine ao_cons (acts_of rfl (does_len_str (by conv => lhs; whnf) ty9)) (by decide) ?_
      refine ao_cons (acts_of rfl (does_bin (v := .bool ((ByteArray.size (strOf x16) : Int) == 0)) (by conv => lhs; whnf) (by conv => lhs; whnf) rfl)) (by decide) ?_
      refine ao_cons (acts_of rfl (does_move (v := .bool ((ByteArray.size (strOf x16) : Int) == 0)) (by exact rfl))) (by decide) ?_
      refine ao_bool (c := ((ByteArray.size (strOf x16) : Int) == 0)) 31 rfl (fun c22 => ?_) (fun c22 => ?_)
      · have h := ifT c22 h
        refine ao_cons (acts_skip rfl) (by decide) ?_
        refine ao_cons (acts_skip rfl) (by decide) ?_
        refine ao_cons (acts_skip rfl) (by decide) ?_
        refine ao_cons (acts_of rfl (does_pick (v := .bool true) (by conv => lhs; whnf) (by exact rfl))) (by decide) ?_
        refine ao_nil_n ?_
        refine hK21 _ ?_
        refine aw_cond_t (by decide) rfl ?_
        refine aw_seq_k (fun K23 hK23 => ?_)
        refine aw_reg ?_
        refine ao_cons (acts_of rfl (does_assign (v := .bool false) (by exact rfl))) (by decide) ?_
        refine ao_nil_n ?_
        refine hK23 _ ?_
        refine aw_ret ?_
        have h := leafR h hk20
        obtain rfl := Option.some.inj h
        exact ret_ok1 (by conv => lhs; whnf) (by conv => lhs; whnf) (by exact rfl) (.inr rfl) rfl
      · have h := ifF c22 h
        refine ao_cons (acts_of rfl (does_move (v := .str (strOf x18)) (by exact rfl))) (by decide) ?_
        refine ao_cons (acts_of rfl (does_len_str (by conv => lhs; whnf) ty9)) (by decide) ?_
        refine ao_cons (acts_of rfl (does_bin (v := .bool ((ByteArray.size (strOf x18) : Int) == 0)) (by conv => lhs; whnf) (by conv => lhs; whnf) rfl)) (by decide) ?_
        refine ao_cons (acts_of rfl (does_pick (v := .bool ((ByteArray.size (strOf x18) : Int) == 0)) (by conv => lhs; whnf) (by exact rfl))) (by decide) ?_
        refine ao_nil_n ?_
        refine hK21 _ ?_
        refine aw_bool (b := ((ByteArray.size (strOf x18) : Int) == 0)) 35 rfl (fun c24 => ?_) (fun c24 => ?_)
        · have h := ifT c24 h
          refine aw_cond_t (by decide) rfl ?_
          refine aw_seq_k (fun K25 hK25 => ?_)
          refine aw_reg ?_
          refine ao_cons (acts_of rfl (does_assign (v := .bool false) (by exact rfl))) (by decide) ?_
          refine ao_nil_n ?_
          refine hK25 _ ?_
          refine aw_ret ?_
          have h := leafR h hk20
          obtain rfl := Option.some.inj h
          exact ret_ok1 (by conv => lhs; whnf) (by conv => lhs; whnf) (by exact rfl) (.inr rfl) rfl
        · have h := ifF c24 h
          refine aw_cond_f (by decide) rfl ?_
          refine aw_skip ?_
          have h := leafL h hk20
          exact ⟨_, reb_lit [(2, .ptr 2 0 0), (3, .ptr 3 0 0), (6, .str (strOf x16)), (7, .str (strOf x18))] [(2, 0), (3, 0)] [((2, 0), .box [.int .u64 a0.Trace.Hi, .int .u64 a0.Trace.Lo, .int .u64 a0.Id, .int .u64 a0.Parent, .str a0.Service, .str a0.Op, .int .i64 a0.Start, .int .i64 a0.Dur, .bool a0.Err, .sl 2 (List.map enc52 a0.Attrs)]), ((3, 0), .box [.int .u64 a1.Trace.Hi, .int .u64 a1.Trace.Lo, .int .u64 a1.Id, .int .u64 a1.Parent, .str a1.Service, .str a1.Op, .int .i64 a1.Start, .int .i64 a1.Dur, .bool a1.Err, .sl 2 (List.map enc52 a1.Attrs)])] [(2, 1), (3, 1)] (envOk_cons (by conv => lhs; whnf) (by exact rfl) (envOk_cons (by conv => lhs; whnf) (by exact rfl) (envOk_cons (by conv => lhs; whnf) (by exact rfl) (envOk_cons (by conv => lhs; whnf) (by exact rfl) envOk_nil)))) (objOk_cons (by conv => lhs; whnf) (by conv => lhs; whnf) (by exact rfl) (by simp) (objOk_cons (by conv => lhs; whnf) (by conv => lhs; whnf) (by exact rfl) (by simp) objOk_nil)) (nodup_b rfl) (nodup_b rfl) rfl rfl, h, rfl⟩
    · rintro s ⟨h, rfl⟩
      unfold gleaninglaw3_SpanApart_k1 at h
      refine aw_seq_k (fun K26 hK26 => ?_)
      refine aw_seq_k (fun K27 hK27 => ?_)
      refine aw_reg ?_
      refine ao_cons (acts_of rfl (does_load (v := .agg [.int .u64 a0.Trace.Hi, .int .u64 a0.Trace.Lo, .int .u64 a0.Id, .int .u64 a0.Parent, .str a0.Service, .str a0.Op, .int .i64 a0.Start, .int .i64 a0.Dur, .bool a0.Err, .sl 2 (List.map enc52 a0.Attrs)]) (by conv => lhs; whnf) (by conv => lhs; whnf) ty42 (by exact rfl))) (by decide) ?_
      refine ao_cons (acts_of rfl (does_load (v := .agg [.int .u64 a1.Trace.Hi, .int .u64 a1.Trace.Lo, .int .u64 a1.Id, .int .u64 a1.Parent, .str a1.Service, .str a1.Op, .int .i64 a1.Start, .int .i64 a1.Dur, .bool a1.Err, .sl 2 (List.map enc52 a1.Attrs)]) (by conv => lhs; whnf) (by conv => lhs; whnf) ty42 (by exact rfl))) (by decide) ?_
      obtain ⟨x28, hx28, h⟩ := bnd_some h
      refine ao_cons (acts_of rfl (do_call0 38 false (gleaningref1_SameSpan_ok a0 a1 hx28) rfl ent32 rfl rfl)) (by decide) ?_
      refine ao_nil_n ?_
      refine hK27 _ ?_
      refine aw_bool (b := x28) 38 rfl (fun c29 => ?_) (fun c29 => ?_)
      · have h := ifT c29 h
        refine aw_cond_t (by decide) rfl ?_
        refine aw_seq_k (fun K30 hK30 => ?_)
        refine aw_reg ?_
        refine ao_cons (acts_of rfl (does_move (v := .str (strOf x16)) (by exact rfl))) (by decide) ?_
        refine ao_cons (acts_of rfl (does_move (v := .str (strOf x18)) (by exact rfl))) (by decide) ?_
        refine ao_cons (acts_of rfl (does_bin (v := .bool (ByteArray.toList (strOf x16) == ByteArray.toList (strOf x18))) (by conv => lhs; whnf) (by conv => lhs; whnf) rfl)) (by decide) ?_
        refine ao_cons (acts_of rfl (does_assign (v := .bool (ByteArray.toList (strOf x16) == ByteArray.toList (strOf x18))) (by exact rfl))) (by decide) ?_
        refine ao_nil_n ?_
        refine hK30 _ ?_
        refine aw_ret ?_
        obtain rfl := Option.some.inj h
        exact ret_ok1 (by conv => lhs; whnf) (by conv => lhs; whnf) (by exact rfl) (.inr rfl) rfl
      · have h := ifF c29 h
        refine aw_cond_f (by decide) rfl ?_
        refine aw_skip ?_
        refine hK26 _ ?_
        refine aw_seq_k (fun K31 hK31 => ?_)
        refine aw_reg ?_
        refine ao_cons (acts_of rfl (does_move (v := .str (strOf x16)) (by exact rfl))) (by decide) ?_
        refine ao_cons (acts_of rfl (does_len_str (by conv => lhs; whnf) ty9)) (by decide) ?_
        refine ao_cons (acts_of rfl (does_move (v := .str (strOf x18)) (by exact rfl))) (by decide) ?_
        refine ao_cons (acts_of rfl (does_len_str (by conv => lhs; whnf) ty9)) (by decide) ?_
        refine ao_cons (acts_of rfl (does_bin (v := .bool (decide ((ByteArray.size (strOf x18) : Int) < (ByteArray.size (strOf x16) : Int)))) (by conv => lhs; whnf) (by conv => lhs; whnf) rfl)) (by decide) ?_
        refine ao_cons (acts_of rfl (does_move (v := .bool (decide ((ByteArray.size (strOf x18) : Int) < (ByteArray.size (strOf x16) : Int)))) (by exact rfl))) (by decide) ?_
        refine ao_bool (c := (decide ((ByteArray.size (strOf x18) : Int) < (ByteArray.size (strOf x16) : Int)))) 47 rfl (fun c32 => ?_) (fun c32 => ?_)
        · have h := ifT c32 h
          refine ao_cons (acts_of rfl (does_move (v := .str (strOf x16)) (by exact rfl))) (by decide) ?_
          refine ao_cons (acts_of rfl (does_move (v := .str (strOf x18)) (by exact rfl))) (by decide) ?_
          refine ao_cons (acts_of rfl (does_len_str (by conv => lhs; whnf) ty9)) (by decide) ?_
          obtain ⟨g33, h⟩ := gd_some h
          obtain ⟨g34, h⟩ := gd_some h
          refine ao_cons (acts_of rfl (does_slice_str (l := 0) (k := (Int.toNat (ByteArray.size (strOf x18) : Int))) (by conv => lhs; whnf) (ty_str ty9) bd_none (bd_some (by conv => lhs; whnf) (by exact (nat_of (by omega)))) (by omega) (by first | omega | exact Int.toNat_le.2 g34 | exact Int.le_of_ofNat_le_ofNat g34) rfl)) (by decide) ?_
          refine ao_cons (acts_of rfl (does_move (v := .str (strOf x18)) (by exact rfl))) (by decide) ?_
          refine ao_cons (acts_of rfl (does_bin (v := .bool (!(ByteArray.toList (ByteArray.extract (strOf x16) 0 (Int.toNat (ByteArray.size (strOf x18) : Int))) == ByteArray.toList (strOf x18)))) (by conv => lhs; whnf) (by conv => lhs; whnf) rfl)) (by decide) ?_
          refine ao_cons (acts_of rfl (does_pick (v := .bool (!(ByteArray.toList (ByteArray.extract (strOf x16) 0 (Int.toNat (ByteArray.size (strOf x18) : Int))) == ByteArray.toList (strOf x18)))) (by conv => lhs; whnf) (by exact rfl))) (by decide) ?_
          refine ao_cons (acts_of rfl (does_move (v := .bool (!(ByteArray.toList (ByteArray.extract (strOf x16) 0 (Int.toNat (ByteArray.size (strOf x18) : Int))) == ByteArray.toList (strOf x18)))) (by exact rfl))) (by decide) ?_
          refine ao_bool (c := (!(ByteArray.toList (ByteArray.extract (strOf x16) 0 (Int.toNat (ByteArray.size (strOf x18) : Int))) == ByteArray.toList (strOf x18)))) 55 rfl (fun c35 => ?_) (fun c35 => ?_)
          · have h := ifT c35 h
            refine ao_cons (acts_skip rfl) (by decide) ?_
            refine ao_cons (acts_skip rfl) (by decide) ?_
            refine ao_cons (acts_skip rfl) (by decide) ?_
            refine ao_cons (acts_skip rfl) (by decide) ?_
            refine ao_cons (acts_skip rfl) (by decide) ?_
            refine ao_cons (acts_skip rfl) (by decide) ?_
            refine ao_cons (acts_skip rfl) (by decide) ?_
            refine ao_cons (acts_skip rfl) (by decide) ?_
            refine ao_cons (acts_skip rfl) (by decide) ?_
            refine ao_cons (acts_skip rfl) (by decide) ?_
            refine ao_cons (acts_skip rfl) (by decide) ?_
            refine ao_cons (acts_skip rfl) (by decide) ?_
            refine ao_cons (acts_skip rfl) (by decide) ?_
            refine ao_cons (acts_of rfl (does_pick (v := .bool true) (by conv => lhs; whnf) (by exact rfl))) (by decide) ?_
            refine ao_cons (acts_of rfl (does_assign (v := .bool true) (by exact rfl))) (by decide) ?_
            refine ao_nil_n ?_
            refine hK31 _ ?_
            refine aw_ret ?_
            obtain rfl := Option.some.inj h
            exact ret_ok1 (by conv => lhs; whnf) (by conv => lhs; whnf) (by exact rfl) (.inr rfl) rfl
          · have h := ifF c35 h
            refine ao_cons (acts_of rfl (does_move (v := .str (strOf x16)) (by exact rfl))) (by decide) ?_
            refine ao_cons (acts_of rfl (does_len_str (by conv => lhs; whnf) ty9)) (by decide) ?_
            refine ao_cons (acts_of rfl (does_move (v := .str (strOf x18)) (by exact rfl))) (by decide) ?_
            refine ao_cons (acts_of rfl (does_len_str (by conv => lhs; whnf) ty9)) (by decide) ?_
            refine ao_cons (acts_of rfl (does_bin (v := .bool (decide ((ByteArray.size (strOf x16) : Int) ≤ (ByteArray.size (strOf x18) : Int)))) (by conv => lhs; whnf) (by conv => lhs; whnf) rfl)) (by decide) ?_
            refine ao_cons (acts_of rfl (does_move (v := .bool (decide ((ByteArray.size (strOf x16) : Int) ≤ (ByteArray.size (strOf x18) : Int)))) (by exact rfl))) (by decide) ?_
            refine ao_bool (c := (decide ((ByteArray.size (strOf x16) : Int) ≤ (ByteArray.size (strOf x18) : Int)))) 61 rfl (fun c36 => ?_) (fun c36 => ?_)
            · have h := ifT c36 h
              refine ao_cons (acts_of rfl (does_move (v := .str (strOf x18)) (by exact rfl))) (by decide) ?_
              refine ao_cons (acts_of rfl (does_move (v := .str (strOf x16)) (by exact rfl))) (by decide) ?_
              refine ao_cons (acts_of rfl (does_len_str (by conv => lhs; whnf) ty9)) (by decide) ?_
              obtain ⟨g37, h⟩ := gd_some h
              obtain ⟨g38, h⟩ := gd_some h
              refine ao_cons (acts_of rfl (does_slice_str (l := 0) (k := (Int.toNat (ByteArray.size (strOf x16) : Int))) (by conv => lhs; whnf) (ty_str ty9) bd_none (bd_some (by conv => lhs; whnf) (by exact (nat_of (by omega)))) (by omega) (by first | omega | exact Int.toNat_le.2 g38 | exact Int.le_of_ofNat_le_ofNat g38) rfl)) (by decide) ?_
              refine ao_cons (acts_of rfl (does_move (v := .str (strOf x16)) (by exact rfl))) (by decide) ?_
              refine ao_cons (acts_of rfl (does_bin (v := .bool (!(ByteArray.toList (ByteArray.extract (strOf x18) 0 (Int.toNat (ByteArray.size (strOf x16) : Int))) == ByteArray.toList (strOf x16)))) (by conv => lhs; whnf) (by conv => lhs; whnf) rfl)) (by decide) ?_
              refine ao_cons (acts_of rfl (does_pick (v := .bool (!(ByteArray.toList (ByteArray.extract (strOf x18) 0 (Int.toNat (ByteArray.size (strOf x16) : Int))) == ByteArray.toList (strOf x16)))) (by conv => lhs; whnf) (by exact rfl))) (by decide) ?_
              refine ao_cons (acts_of rfl (does_pick (v := .bool (!(ByteArray.toList (ByteArray.extract (strOf x18) 0 (Int.toNat (ByteArray.size (strOf x16) : Int))) == ByteArray.toList (strOf x16)))) (by conv => lhs; whnf) (by exact rfl))) (by decide) ?_
              refine ao_cons (acts_of rfl (does_assign (v := .bool (!(ByteArray.toList (ByteArray.extract (strOf x18) 0 (Int.toNat (ByteArray.size (strOf x16) : Int))) == ByteArray.toList (strOf x16)))) (by exact rfl))) (by decide) ?_
              refine ao_nil_n ?_
              refine hK31 _ ?_
              refine aw_ret ?_
              obtain rfl := Option.some.inj h
              exact ret_ok1 (by conv => lhs; whnf) (by conv => lhs; whnf) (by exact rfl) (.inr rfl) rfl
            · have h := ifF c36 h
              refine ao_cons (acts_skip rfl) (by decide) ?_
              refine ao_cons (acts_skip rfl) (by decide) ?_
              refine ao_cons (acts_skip rfl) (by decide) ?_
              refine ao_cons (acts_skip rfl) (by decide) ?_
              refine ao_cons (acts_skip rfl) (by decide) ?_
              refine ao_cons (acts_skip rfl) (by decide) ?_
              refine ao_cons (acts_of rfl (does_pick (v := .bool false) (by conv => lhs; whnf) (by exact rfl))) (by decide) ?_
              refine ao_cons (acts_of rfl (does_pick (v := .bool false) (by conv => lhs; whnf) (by exact rfl))) (by decide) ?_
              refine ao_cons (acts_of rfl (does_assign (v := .bool false) (by exact rfl))) (by decide) ?_
              refine ao_nil_n ?_
              refine hK31 _ ?_
              refine aw_ret ?_
              obtain rfl := Option.some.inj h
              exact ret_ok1 (by conv => lhs; whnf) (by conv => lhs; whnf) (by exact rfl) (.inr rfl) rfl
        · have h := ifF c32 h
          refine ao_cons (acts_skip rfl) (by decide) ?_
          refine ao_cons (acts_skip rfl) (by decide) ?_
          refine ao_cons (acts_skip rfl) (by decide) ?_
          refine ao_cons (acts_skip rfl) (by decide) ?_
          refine ao_cons (acts_skip rfl) (by decide) ?_
          refine ao_cons (acts_skip rfl) (by decide) ?_
          refine ao_cons (acts_of rfl (does_pick (v := .bool false) (by conv => lhs; whnf) (by exact rfl))) (by decide) ?_
          refine ao_cons (acts_of rfl (does_move (v := .bool false) (by exact rfl))) (by decide) ?_
          refine ao_cons (acts_of rfl (does_move (v := .str (strOf x16)) (by exact rfl))) (by decide) ?_
          refine ao_cons (acts_of rfl (does_len_str (by conv => lhs; whnf) ty9)) (by decide) ?_
          refine ao_cons (acts_of rfl (does_move (v := .str (strOf x18)) (by exact rfl))) (by decide) ?_
          refine ao_cons (acts_of rfl (does_len_str (by conv => lhs; whnf) ty9)) (by decide) ?_
          refine ao_cons (acts_of rfl (does_bin (v := .bool (decide ((ByteArray.size (strOf x16) : Int) ≤ (ByteArray.size (strOf x18) : Int)))) (by conv => lhs; whnf) (by conv => lhs; whnf) rfl)) (by decide) ?_
          refine ao_cons (acts_of rfl (does_move (v := .bool (decide ((ByteArray.size (strOf x16) : Int) ≤ (ByteArray.size (strOf x18) : Int)))) (by exact rfl))) (by decide) ?_
          refine ao_bool (c := (decide ((ByteArray.size (strOf x16) : Int) ≤ (ByteArray.size (strOf x18) : Int)))) 61 rfl (fun c39 => ?_) (fun c39 => ?_)
          · have h := ifT c39 h
            refine ao_cons (acts_of rfl (does_move (v := .str (strOf x18)) (by exact rfl))) (by decide) ?_
            refine ao_cons (acts_of rfl (does_move (v := .str (strOf x16)) (by exact rfl))) (by decide) ?_
            refine ao_cons (acts_of rfl (does_len_str (by conv => lhs; whnf) ty9)) (by decide) ?_
            obtain ⟨g40, h⟩ := gd_some h
            obtain ⟨g41, h⟩ := gd_some h
            refine ao_cons (acts_of rfl (does_slice_str (l := 0) (k := (Int.toNat (ByteArray.size (strOf x16) : Int))) (by conv => lhs; whnf) (ty_str ty9) bd_none (bd_some (by conv => lhs; whnf) (by exact (nat_of (by omega)))) (by omega) (by first | omega | exact Int.toNat_le.2 g41 | exact Int.le_of_ofNat_le_ofNat g41) rfl)) (by decide) ?_
            refine ao_cons (acts_of rfl (does_move (v := .str (strOf x16)) (by exact rfl))) (by decide) ?_
            refine ao_cons (acts_of rfl (does_bin (v := .bool (!(ByteArray.toList (ByteArray.extract (strOf x18) 0 (Int.toNat (ByteArray.size (strOf x16) : Int))) == ByteArray.toList (strOf x16)))) (by conv => lhs; whnf) (by conv => lhs; whnf) rfl)) (by decide) ?_
            refine ao_cons (acts_of rfl (does_pick (v := .bool (!(ByteArray.toList (ByteArray.extract (strOf x18) 0 (Int.toNat (ByteArray.size (strOf x16) : Int))) == ByteArray.toList (strOf x16)))) (by conv => lhs; whnf) (by exact rfl))) (by decide) ?_
            refine ao_cons (acts_of rfl (does_pick (v := .bool (!(ByteArray.toList (ByteArray.extract (strOf x18) 0 (Int.toNat (ByteArray.size (strOf x16) : Int))) == ByteArray.toList (strOf x16)))) (by conv => lhs; whnf) (by exact rfl))) (by decide) ?_
            refine ao_cons (acts_of rfl (does_assign (v := .bool (!(ByteArray.toList (ByteArray.extract (strOf x18) 0 (Int.toNat (ByteArray.size (strOf x16) : Int))) == ByteArray.toList (strOf x16)))) (by exact rfl))) (by decide) ?_
            refine ao_nil_n ?_
            refine hK31 _ ?_
            refine aw_ret ?_
            obtain rfl := Option.some.inj h
            exact ret_ok1 (by conv => lhs; whnf) (by conv => lhs; whnf) (by exact rfl) (.inr rfl) rfl
          · have h := ifF c39 h
            refine ao_cons (acts_skip rfl) (by decide) ?_
            refine ao_cons (acts_skip rfl) (by decide) ?_
            refine ao_cons (acts_skip rfl) (by decide) ?_
            refine ao_cons (acts_skip rfl) (by decide) ?_
            refine ao_cons (acts_skip rfl) (by decide) ?_
            refine ao_cons (acts_skip rfl) (by decide) ?_
            refine ao_cons (acts_of rfl (does_pick (v := .bool false) (by conv => lhs; whnf) (by exact rfl))) (by decide) ?_
            refine ao_cons (acts_of rfl (does_pick (v := .bool false) (by conv => lhs; whnf) (by exact rfl))) (by decide) ?_
            refine ao_cons (acts_of rfl (does_assign (v := .bool false) (by exact rfl))) (by decide) ?_
            refine ao_nil_n ?_
            refine hK31 _ ?_
            refine aw_ret ?_
            obtain rfl := Option.some.inj h
            exact ret_ok1 (by conv => lhs; whnf) (by conv => lhs; whnf) (by exact rfl) (.inr rfl) rfl
def gleaninglaw3_SpanTells_k0 (a0 : Span) (a1 : Span) (a2 : List UInt8) : Option Bool :=
  gd ((List.length a2) * 1 ≤ 140737488355328 ∧ (List.length a2) ≤ 140737488355328) (Option.bind (span_Read a2) (fun (x19 : Span × Int × Int) => Option.bind (gleaningref1_ReadSpan a2) (fun (x21 : Span × Int × Int) => Option.bind (span_Right a0) (fun (x23 : Bool) => Option.bind (gleaningref1_RightSpan a0) (fun (x24 : Bool) => if (x23 == x24) = true then (Option.bind (span_Bytes a0) (fun (x26 : List UInt8) => Option.bind (gleaningref1_SpanBytes a0) (fun (x27 : List UInt8) => if (ByteArray.toList (strOf x26) == ByteArray.toList (strOf x27)) = true then (Option.bind (gleaningref1_SameSpan x19.1 x21.1) (fun (x29 : Bool) => if x29 = true then (if (x19.2.1 == x21.2.1) = true then (Option.bind (gleaninglaw3_num x19.2.2) (fun (x32 : Int) => if (x32 == x21.2.2) = true then (Option.bind (span_Same a0 a1) (fun (x34 : Bool) => Option.bind (gleaningref1_SameSpan a0 a1) (fun (x35 : Bool) => if (x34 == x35) = true then (Option.bind (span_Same a0 a0) (fun (x37 : Bool) => some x37)) else (some false)))) else (some false))) else (some false)) else (some false))) else (some false)))) else (some false))))))
def gleaninglaw3_SpanTells (a0 : Span) (a1 : Span) (a2 : List UInt8) : Option Bool :=
  Option.bind (gleaninglaw3_alive) (fun (x3 : Bool) => Option.bind (if (!x3) = true then (some (Sum.inr x3)) else (Option.bind (gleaninglaw3_Few a0) (fun (x9 : Bool) => if (!x9) = true then (some (Sum.inr x3)) else (Option.bind (gleaninglaw3_Few a1) (fun (x12 : Bool) => if (!x12) = true then (some (Sum.inr x3)) else (if (decide ((500 : Int) < (List.length a2 : Int))) = true then (some (Sum.inr x3)) else (some (Sum.inl ())))))))) (Sum.elim (fun (s : Unit) => gleaninglaw3_SpanTells_k0 a0 a1 a2) some))
set_option maxRecDepth 100000 in
set_option maxHeartbeats 8000000 in
/-- gleaning/gleaninglaw3.SpanTells -/
theorem gleaninglaw3_SpanTells_ok (a0 : Span) (a1 : Span) (a2 : List UInt8) {r : Bool} (h : gleaninglaw3_SpanTells a0 a1 a2 = some r) : Ok Try.prog 10 [.agg [.int .u64 a0.Trace.Hi, .int .u64 a0.Trace.Lo, .int .u64 a0.Id, .int .u64 a0.Parent, .str a0.Service, .str a0.Op, .int .i64 a0.Start, .int .i64 a0.Dur, .bool a0.Err, .sl 2 (List.map enc52 a0.Attrs)], .agg [.int .u64 a1.Trace.Hi, .int .u64 a1.Trace.Lo, .int .u64 a1.Id, .int .u64 a1.Parent, .str a1.Service, .str a1.Op, .int .i64 a1.Start, .int .i64 a1.Dur, .bool a1.Err, .sl 2 (List.map enc52 a1.Attrs)], .sl 1 (List.map enc5 a2)] [] [] (.bool r) [] [] := by
  unfold gleaninglaw3_SpanTells at h
  refine ok_of_code Try.func10 rfl (by show (3 : Nat) ≤ _; decide) (Nat.le_refl _) fun X => ?_
  refine aw_seq_k (fun K1 hK1 => ?_)
  refine aw_reg ?_
  refine ao_cons (acts_of rfl (do_box (by conv => lhs; whnf) rfl rfl)) (by decide) ?_
  refine ao_cons (acts_of rfl (do_box (by conv => lhs; whnf) rfl rfl)) (by decide) ?_
  refine ao_cons (acts_of rfl (does_assign (v := .bool false) (by exact rfl))) (by decide) ?_
  refine ao_nil_n ?_
  refine hK1 _ ?_
  refine aw_seq_k (fun K2 hK2 => ?_)
  refine aw_reg ?_
  obtain ⟨x3, hx3, h⟩ := bnd_some h
  refine ao_cons (acts_of rfl (do_call0 14 false (gleaninglaw3_alive_ok hx3) rfl ent27 rfl rfl)) (by decide) ?_
  refine ao_cons (acts_of rfl (does_assign (v := .bool x3) (by exact rfl))) (by decide) ?_
  refine ao_nil_n ?_
  refine hK2 _ ?_
  obtain ⟨q4, h, hk5⟩ := bnd_some h
  refine aw_cut (fun s => gleaninglaw3_SpanTells_k0 a0 a1 a2 = some r ∧ s = lit [(2, .sl 1 (List.map enc5 a2)), (3, .ptr 3 0 0), (4, .ptr 4 0 0)] [((3, 0), .box [.int .u64 a0.Trace.Hi, .int .u64 a0.Trace.Lo, .int .u64 a0.Id, .int .u64 a0.Parent, .str a0.Service, .str a0.Op, .int .i64 a0.Start, .int .i64 a0.Dur, .bool a0.Err, .sl 2 (List.map enc52 a0.Attrs)]), ((4, 0), .box [.int .u64 a1.Trace.Hi, .int .u64 a1.Trace.Lo, .int .u64 a1.Id, .int .u64 a1.Parent, .str a1.Service, .str a1.Op, .int .i64 a1.Start, .int .i64 a1.Dur, .bool a1.Err, .sl 2 (List.map enc52 a1.Attrs)])] [(3, 1), (4, 1)] X) ?_ ?_
  · skip
    refine aw_seq_k (fun K6 hK6 => ?_)
    refine aw_reg ?_
    refine ao_cons (acts_of rfl (does_move (v := .bool x3) (by exact rfl))) (by decide) ?_
    refine ao_cons (acts_of rfl (does_un (v := .bool (!x3)) (by conv => lhs; whnf) rfl)) (by decide) ?_
    refine ao_cons (acts_of rfl (does_move (v := .bool (!x3)) (by exact rfl))) (by decide) ?_
    refine ao_bool (c := (!x3)) 17 rfl (fun c7 => ?_) (fun c7 => ?_)
    · have h := ifT c7 h
      refine ao_cons (acts_skip rfl) (by decide) ?_
      refine ao_cons (acts_skip rfl) (by decide) ?_
      refine ao_cons (acts_skip rfl) (by decide) ?_
      refine ao_cons (acts_of rfl (does_pick (v := .bool true) (by conv => lhs; whnf) (by exact rfl))) (by decide) ?_
      refine ao_cons (acts_of rfl (does_move (v := .bool true) (by exact rfl))) (by decide) ?_
      refine ao_cons (acts_skip rfl) (by decide) ?_
      refine ao_cons (acts_skip rfl) (by decide) ?_
      refine ao_cons (acts_skip rfl) (by decide) ?_
      refine ao_cons (acts_of rfl (does_pick (v := .bool true) (by conv => lhs; whnf) (by exact rfl))) (by decide) ?_
      refine ao_cons (acts_of rfl (does_move (v := .bool true) (by exact rfl))) (by decide) ?_
      refine ao_cons (acts_skip rfl) (by decide) ?_
      refine ao_cons (acts_skip rfl) (by decide) ?_
      refine ao_cons (acts_skip rfl) (by decide) ?_
      refine ao_cons (acts_of rfl (does_pick (v := .bool true) (by conv => lhs; whnf) (by exact rfl))) (by decide) ?_
      refine ao_nil_n ?_
      refine hK6 _ ?_
      refine aw_cond_t (by decide) rfl ?_
      refine aw_seq_k (fun K8 hK8 => ?_)
      refine aw_reg ?_
      refine ao_cons (acts_of rfl (does_move (v := .bool x3) (by exact rfl))) (by decide) ?_
      refine ao_cons (acts_of rfl (does_assign (v := .bool x3) (by exact rfl))) (by decide) ?_
      refine ao_nil_n ?_
      refine hK8 _ ?_
      refine aw_ret ?_
      have h := leafR h hk5
      obtain rfl := Option.some.inj h
      exact ret_ok1 (by conv => lhs; whnf) (by conv => lhs; whnf) (by exact rfl) (.inr rfl) rfl
    · have h := ifF c7 h
      refine ao_cons (acts_of rfl (does_load (v := .agg [.int .u64 a0.Trace.Hi, .int .u64 a0.Trace.Lo, .int .u64 a0.Id, .int .u64 a0.Parent, .str a0.Service, .str a0.Op, .int .i64 a0.Start, .int .i64 a0.Dur, .bool a0.Err, .sl 2 (List.map enc52 a0.Attrs)]) (by conv => lhs; whnf) (by conv => lhs; whnf) ty42 (by exact rfl))) (by decide) ?_
      obtain ⟨x9, hx9, h⟩ := bnd_some h
      refine ao_cons (acts_of rfl (do_call0 19 false (gleaninglaw3_Few_ok a0 hx9) rfl ent34 rfl rfl)) (by decide) ?_
      refine ao_cons (acts_of rfl (does_un (v := .bool (!x9)) (by conv => lhs; whnf) rfl)) (by decide) ?_
      refine ao_cons (acts_of rfl (does_pick (v := .bool (!x9)) (by conv => lhs; whnf) (by exact rfl))) (by decide) ?_
      refine ao_cons (acts_of rfl (does_move (v := .bool (!x9)) (by exact rfl))) (by decide) ?_
      refine ao_bool (c := (!x9)) 22 rfl (fun c10 => ?_) (fun c10 => ?_)
      · have h := ifT c10 h
        refine ao_cons (acts_skip rfl) (by decide) ?_
        refine ao_cons (acts_skip rfl) (by decide) ?_
        refine ao_cons (acts_skip rfl) (by decide) ?_
        refine ao_cons (acts_of rfl (does_pick (v := .bool true) (by conv => lhs; whnf) (by exact rfl))) (by decide) ?_
        refine ao_cons (acts_of rfl (does_move (v := .bool true) (by exact rfl))) (by decide) ?_
        refine ao_cons (acts_skip rfl) (by decide) ?_
        refine ao_cons (acts_skip rfl) (by decide) ?_
        refine ao_cons (acts_skip rfl) (by decide) ?_
        refine ao_cons (acts_of rfl (does_pick (v := .bool true) (by conv => lhs; whnf) (by exact rfl))) (by decide) ?_
        refine ao_nil_n ?_
        refine hK6 _ ?_
        refine aw_cond_t (by decide) rfl ?_
        refine aw_seq_k (fun K11 hK11 => ?_)
        refine aw_reg ?_
        refine ao_cons (acts_of rfl (does_move (v := .bool x3) (by exact rfl))) (by decide) ?_
        refine ao_cons (acts_of rfl (does_assign (v := .bool x3) (by exact rfl))) (by decide) ?_
        refine ao_nil_n ?_
        refine hK11 _ ?_
        refine aw_ret ?_
        have h := leafR h hk5
        obtain rfl := Option.some.inj h
        exact ret_ok1 (by conv => lhs; whnf) (by conv => lhs; whnf) (by exact rfl) (.inr rfl) rfl
      · have h := ifF c10 h
        refine ao_cons (acts_of rfl (does_load (v := .agg [.int .u64 a1.Trace.Hi, .int .u64 a1.Trace.Lo, .int .u64 a1.Id, .int .u64 a1.Parent, .str a1.Service, .str a1.Op, .int .i64 a1.Start, .int .i64 a1.Dur, .bool a1.Err, .sl 2 (List.map enc52 a1.Attrs)]) (by conv => lhs; whnf) (by conv => lhs; whnf) ty42 (by exact rfl))) (by decide) ?_
        obtain ⟨x12, hx12, h⟩ := bnd_some h
        refine ao_cons (acts_of rfl (do_call0 24 false (gleaninglaw3_Few_ok a1 hx12) rfl ent34 rfl rfl)) (by decide) ?_
        refine ao_cons (acts_of rfl (does_un (v := .bool (!x12)) (by conv => lhs; whnf) rfl)) (by decide) ?_
        refine ao_cons (acts_of rfl (does_pick (v := .bool (!x12)) (by conv => lhs; whnf) (by exact rfl))) (by decide) ?_
        refine ao_cons (acts_of rfl (does_move (v := .bool (!x12)) (by exact rfl))) (by decide) ?_
        refine ao_bool (c := (!x12)) 27 rfl (fun c13 => ?_) (fun c13 => ?_)
        · have h := ifT c13 h
          refine ao_cons (acts_skip rfl) (by decide) ?_
          refine ao_cons (acts_skip rfl) (by decide) ?_
          refine ao_cons (acts_skip rfl) (by decide) ?_
          refine ao_cons (acts_of rfl (does_pick (v := .bool true) (by conv => lhs; whnf) (by exact rfl))) (by decide) ?_
          refine ao_nil_n ?_
          refine hK6 _ ?_
          refine aw_cond_t (by decide) rfl ?_
          refine aw_seq_k (fun K14 hK14 => ?_)
          refine aw_reg ?_
          refine ao_cons (acts_of rfl (does_move (v := .bool x3) (by exact rfl))) (by decide) ?_
          refine ao_cons (acts_of rfl (does_assign (v := .bool x3) (by exact rfl))) (by decide) ?_
          refine ao_nil_n ?_
          refine hK14 _ ?_
          refine aw_ret ?_
          have h := leafR h hk5
          obtain rfl := Option.some.inj h
          exact ret_ok1 (by conv => lhs; whnf) (by conv => lhs; whnf) (by exact rfl) (.inr rfl) rfl
        · have h := ifF c13 h
          refine ao_cons (acts_of rfl (does_move (v := .sl 1 (List.map enc5 a2)) (by exact rfl))) (by decide) ?_
          refine ao_cons (acts_of rfl ((does_len_sl (by conv => lhs; whnf) ty43).castp (v' := .int .i64 (List.length a2 : Int)) (by exact len_map _))) (by decide) ?_
          refine ao_cons (acts_of rfl (does_bin (v := .bool (decide ((500 : Int) < (List.length a2 : Int)))) (by conv => lhs; whnf) (by conv => lhs; whnf) rfl)) (by decide) ?_
          refine ao_cons (acts_of rfl (does_pick (v := .bool (decide ((500 : Int) < (List.length a2 : Int)))) (by conv => lhs; whnf) (by exact rfl))) (by decide) ?_
          refine ao_nil_n ?_
          refine hK6 _ ?_
          refine aw_bool (b := (decide ((500 : Int) < (List.length a2 : Int)))) 31 rfl (fun c15 => ?_) (fun c15 => ?_)
          · have h := ifT c15 h
            refine aw_cond_t (by decide) rfl ?_
            refine aw_seq_k (fun K16 hK16 => ?_)
            refine aw_reg ?_
            refine ao_cons (acts_of rfl (does_move (v := .bool x3) (by exact rfl))) (by decide) ?_
            refine ao_cons (acts_of rfl (does_assign (v := .bool x3) (by exact rfl))) (by decide) ?_
            refine ao_nil_n ?_
            refine hK16 _ ?_
            refine aw_ret ?_
            have h := leafR h hk5
            obtain rfl := Option.some.inj h
            exact ret_ok1 (by conv => lhs; whnf) (by conv => lhs; whnf) (by exact rfl) (.inr rfl) rfl
          · have h := ifF c15 h
            refine aw_cond_f (by decide) rfl ?_
            refine aw_skip ?_
            have h := leafL h hk5
            exact ⟨_, reb_lit [(2, .sl 1 (List.map enc5 a2)), (3, .ptr 3 0 0), (4, .ptr 4 0 0)] [(3, 0), (4, 0)] [((3, 0), .box [.int .u64 a0.Trace.Hi, .int .u64 a0.Trace.Lo, .int .u64 a0.Id, .int .u64 a0.Parent, .str a0.Service, .str a0.Op, .int .i64 a0.Start, .int .i64 a0.Dur, .bool a0.Err, .sl 2 (List.map enc52 a0.Attrs)]), ((4, 0), .box [.int .u64 a1.Trace.Hi, .int .u64 a1.Trace.Lo, .int .u64 a1.Id, .int .u64 a1.Parent, .str a1.Service, .str a1.Op, .int .i64 a1.Start, .int .i64 a1.Dur, .bool a1.Err, .sl 2 (List.map enc52 a1.Attrs)])] [(3, 1), (4, 1)] (envOk_cons (by conv => lhs; whnf) (by exact rfl) (envOk_cons (by conv => lhs; whnf) (by exact rfl) (envOk_cons (by conv => lhs; whnf) (by exact rfl) envOk_nil))) (objOk_cons (by conv => lhs; whnf) (by conv => lhs; whnf) (by exact rfl) (by simp) (objOk_cons (by conv => lhs; whnf) (by conv => lhs; whnf) (by exact rfl) (by simp) objOk_nil)) (nodup_b rfl) (nodup_b rfl) rfl rfl, h, rfl⟩
  · rintro s ⟨h, rfl⟩
    unfold gleaninglaw3_SpanTells_k0 at h
    refine aw_seq_k (fun K17 hK17 => ?_)
    refine aw_reg ?_
    refine ao_cons (acts_of rfl (does_move (v := .sl 1 (List.map enc5 a2)) (by exact rfl))) (by decide) ?_
    obtain ⟨g18, h⟩ := gd_some h
    refine ao_cons (acts_of rfl (do_append (v := List.map enc5 a2) (by conv => lhs; whnf) (by conv => lhs; whnf) ty43 ty5 rfl rfl (by conv => lhs; whnf) (by first | exact .inl rfl | exact .inr ⟨rfl, rfl⟩) (by conv => lhs; whnf) (by first | exact .inr rfl | exact .inl rfl) (List.nil_append _) (fit_map g18))) (by decide) ?_
    obtain ⟨x19, hx19, h⟩ := bnd_some h
    refine ao_cons (acts_of rfl (does_frz (d := 35) (n := 0) (by conv => lhs; whnf) (do_callG (bcs := []) [] [] [(35, 0)] 36 false (span_Read_ok a2 hx19) rfl ent30 trivial trivial rfl rfl rfl rfl rfl rfl rfl rfl (.inl ⟨⟨_, _, _, rfl⟩, trivial⟩)))) (by decide) ?_
    refine ao_cons (acts_of rfl (does_move (v := .tup [.agg [.int .u64 x19.1.Trace.Hi, .int .u64 x19.1.Trace.Lo, .int .u64 x19.1.Id, .int .u64 x19.1.Parent, .str x19.1.Service, .str x19.1.Op, .int .i64 x19.1.Start, .int .i64 x19.1.Dur, .bool x19.1.Err, .sl 2 (List.map enc52 x19.1.Attrs)], .int .i64 x19.2.1, .int .i64 x19.2.2]) (by exact rfl))) (by decide) ?_
    refine ao_cons (acts_of rfl (does_extract (v := .agg [.int .u64 x19.1.Trace.Hi, .int .u64 x19.1.Trace.Lo, .int .u64 x19.1.Id, .int .u64 x19.1.Parent, .str x19.1.Service, .str x19.1.Op, .int .i64 x19.1.Start, .int .i64 x19.1.Dur, .bool x19.1.Err, .sl 2 (List.map enc52 x19.1.Attrs)]) (by conv => lhs; whnf) (by exact rfl))) (by decide) ?_
    refine ao_cons (acts_of rfl (does_extract (v := .int .i64 x19.2.1) (by conv => lhs; whnf) (by exact rfl))) (by decide) ?_
    refine ao_cons (acts_of rfl (does_extract (v := .int .i64 x19.2.2) (by conv => lhs; whnf) (by exact rfl))) (by decide) ?_
    refine ao_cons (acts_of rfl (do_new ty42 rfl rfl)) (by decide) ?_
    refine ao_cons (acts_of rfl (do_store (cs' := [.int .u64 x19.1.Trace.Hi, .int .u64 x19.1.Trace.Lo, .int .u64 x19.1.Id, .int .u64 x19.1.Parent, .str x19.1.Service, .str x19.1.Op, .int .i64 x19.1.Start, .int .i64 x19.1.Dur, .bool x19.1.Err, .sl 2 (List.map enc52 x19.1.Attrs)]) (by conv => lhs; whnf) (by conv => lhs; whnf) (by conv => lhs; whnf) ty42 rfl rfl rfl (by exact rfl))) (by decide) ?_
    refine ao_cons (acts_of rfl (does_assign (v := .int .i64 x19.2.1) (by exact rfl))) (by decide) ?_
    refine ao_cons (acts_of rfl (does_assign (v := .int .i64 x19.2.2) (by exact rfl))) (by decide) ?_
    refine ao_nil_n ?_
    refine hK17 _ ?_
    refine aw_seq_k (fun K20 hK20 => ?_)
    refine aw_reg ?_
    refine ao_cons (acts_of rfl (does_move (v := .sl 1 (List.map enc5 a2)) (by exact rfl))) (by decide) ?_
    obtain ⟨x21, hx21, h⟩ := bnd_some h
    refine ao_cons (acts_of rfl (do_call0 42 false (gleaningref1_ReadSpan_ok a2 hx21) rfl ent35 rfl rfl)) (by decide) ?_
    refine ao_cons (acts_of rfl (does_move (v := .tup [.agg [.int .u64 x21.1.Trace.Hi, .int .u64 x21.1.Trace.Lo, .int .u64 x21.1.Id, .int .u64 x21.1.Parent, .str x21.1.Service, .str x21.1.Op, .int .i64 x21.1.Start, .int .i64 x21.1.Dur, .bool x21.1.Err, .sl 2 (List.map enc52 x21.1.Attrs)], .int .i64 x21.2.1, .int .i64 x21.2.2]) (by exact rfl))) (by decide) ?_
    refine ao_cons (acts_of rfl (does_extract (v := .agg [.int .u64 x21.1.Trace.Hi, .int .u64 x21.1.Trace.Lo, .int .u64 x21.1.Id, .int .u64 x21.1.Parent, .str x21.1.Service, .str x21.1.Op, .int .i64 x21.1.Start, .int .i64 x21.1.Dur, .bool x21.1.Err, .sl 2 (List.map enc52 x21.1.Attrs)]) (by conv => lhs; whnf) (by exact rfl))) (by decide) ?_
    refine ao_cons (acts_of rfl (does_extract (v := .int .i64 x21.2.1) (by conv => lhs; whnf) (by exact rfl))) (by decide) ?_
    refine ao_cons (acts_of rfl (does_extract (v := .int .i64 x21.2.2) (by conv => lhs; whnf) (by exact rfl))) (by decide) ?_
    refine ao_cons (acts_of rfl (do_new ty42 rfl rfl)) (by decide) ?_
    refine ao_cons (acts_of rfl (do_store (cs' := [.int .u64 x21.1.Trace.Hi, .int .u64 x21.1.Trace.Lo, .int .u64 x21.1.Id, .int .u64 x21.1.Parent, .str x21.1.Service, .str x21.1.Op, .int .i64 x21.1.Start, .int .i64 x21.1.Dur, .bool x21.1.Err, .sl 2 (List.map enc52 x21.1.Attrs)]) (by conv => lhs; whnf) (by conv => lhs; whnf) (by conv => lhs; whnf) ty42 rfl rfl rfl (by exact rfl))) (by decide) ?_
    refine ao_cons (acts_of rfl (does_assign (v := .int .i64 x21.2.1) (by exact rfl))) (by decide) ?_
    refine ao_cons (acts_of rfl (does_assign (v := .int .i64 x21.2.2) (by exact rfl))) (by decide) ?_
    refine ao_nil_n ?_
    refine hK20 _ ?_
    refine aw_seq_k (fun K22 hK22 => ?_)
    refine aw_regd (by kernel_rfl) (by decide +kernel) ?_
    refine ao_cons (acts_of rfl (does_load (v := .agg [.int .u64 a0.Trace.Hi, .int .u64 a0.Trace.Lo, .int .u64 a0.Id, .int .u64 a0.Parent, .str a0.Service, .str a0.Op, .int .i64 a0.Start, .int .i64 a0.Dur, .bool a0.Err, .sl 2 (List.map enc52 a0.Attrs)]) (by conv => lhs; whnf) (by conv => lhs; whnf) ty42 (by exact rfl))) (by decide) ?_
    obtain ⟨x23, hx23, h⟩ := bnd_some h
    refine ao_cons (acts_of rfl (do_call0 47 false (span_Right_ok a0 hx23) rfl ent33 rfl rfl)) (by decide) ?_
    refine ao_cons (acts_of rfl (does_load (v := .agg [.int .u64 a0.Trace.Hi, .int .u64 a0.Trace.Lo, .int .u64 a0.Id, .int .u64 a0.Parent, .str a0.Service, .str a0.Op, .int .i64 a0.Start, .int .i64 a0.Dur, .bool a0.Err, .sl 2 (List.map enc52 a0.Attrs)]) (by conv => lhs; whnf) (by conv => lhs; whnf) ty42 (by exact rfl))) (by decide) ?_
    obtain ⟨x24, hx24, h⟩ := bnd_some h
    refine ao_cons (acts_of rfl (do_call0 49 false (gleaningref1_RightSpan_ok a0 hx24) rfl ent28 rfl rfl)) (by decide) ?_
    refine ao_cons (acts_of rfl (does_eq_bool (v := .bool (x23 == x24)) (by conv => lhs; whnf) (by conv => lhs; whnf) (ty_bool ty4) rfl)) (by decide) ?_
    refine ao_cons (acts_of rfl (does_move (v := .bool (x23 == x24)) (by exact rfl))) (by decide) ?_
    refine ao_bool (c := (x23 == x24)) 51 rfl (fun c25 => ?_) (fun c25 => ?_)
    · have h := ifT c25 h
      refine ao_cons (acts_of rfl (does_load (v := .agg [.int .u64 a0.Trace.Hi, .int .u64 a0.Trace.Lo, .int .u64 a0.Id, .int .u64 a0.Parent, .str a0.Service, .str a0.Op, .int .i64 a0.Start, .int .i64 a0.Dur, .bool a0.Err, .sl 2 (List.map enc52 a0.Attrs)]) (by conv => lhs; whnf) (by conv => lhs; whnf) ty42 (by exact rfl))) (by decide) ?_
      obtain ⟨x26, hx26, h⟩ := bnd_some h
      refine ao_cons (acts_of rfl (do_call0 53 false (span_Bytes_ok a0 hx26) rfl ent29 rfl rfl)) (by decide) ?_
      refine ao_cons (acts_of rfl (does_bytes_str (l := x26) (f := enc5) (by conv => lhs; whnf) (by conv => lhs; whnf) (Nat.le_refl 1) (ty_slice ty43) (ty_int ty5) (ty_str ty9) (fun _ => rfl))) (by decide) ?_
      refine ao_cons (acts_of rfl (does_load (v := .agg [.int .u64 a0.Trace.Hi, .int .u64 a0.Trace.Lo, .int .u64 a0.Id, .int .u64 a0.Parent, .str a0.Service, .str a0.Op, .int .i64 a0.Start, .int .i64 a0.Dur, .bool a0.Err, .sl 2 (List.map enc52 a0.Attrs)]) (by conv => lhs; whnf) (by conv => lhs; whnf) ty42 (by exact rfl))) (by decide) ?_
      obtain ⟨x27, hx27, h⟩ := bnd_some h
      refine ao_cons (acts_of rfl (do_call0 56 false (gleaningref1_SpanBytes_ok a0 hx27) rfl ent36 rfl rfl)) (by decide) ?_
      refine ao_cons (acts_of rfl (does_bytes_str (l := x27) (f := enc5) (by conv => lhs; whnf) (by conv => lhs; whnf) (Nat.le_refl 1) (ty_slice ty43) (ty_int ty5) (ty_str ty9) (fun _ => rfl))) (by decide) ?_
      refine ao_cons (acts_of rfl (does_bin (v := .bool (ByteArray.toList (strOf x26) == ByteArray.toList (strOf x27))) (by conv => lhs; whnf) (by conv => lhs; whnf) rfl)) (by decide) ?_
      refine ao_cons (acts_of rfl (does_pick (v := .bool (ByteArray.toList (strOf x26) == ByteArray.toList (strOf x27))) (by conv => lhs; whnf) (by exact rfl))) (by decide) ?_
      refine ao_cons (acts_of rfl (does_move (v := .bool (ByteArray.toList (strOf x26) == ByteArray.toList (strOf x27))) (by exact rfl))) (by decide) ?_
      refine ao_bool (c := (ByteArray.toList (strOf x26) == ByteArray.toList (strOf x27))) 60 rfl (fun c28 => ?_) (fun c28 => ?_)
      · have h := ifT c28 h
        refine ao_cons (acts_of rfl (does_load (v := .agg [.int .u64 x19.1.Trace.Hi, .int .u64 x19.1.Trace.Lo, .int .u64 x19.1.Id, .int .u64 x19.1.Parent, .str x19.1.Service, .str x19.1.Op, .int .i64 x19.1.Start, .int .i64 x19.1.Dur, .bool x19.1.Err, .sl 2 (List.map enc52 x19.1.Attrs)]) (by conv => lhs; whnf) (by conv => lhs; whnf) ty42 (by exact rfl))) (by decide) ?_
        refine ao_cons (acts_of rfl (does_load (v := .agg [.int .u64 x21.1.Trace.Hi, .int .u64 x21.1.Trace.Lo, .int .u64 x21.1.Id, .int .u64 x21.1.Parent, .str x21.1.Service, .str x21.1.Op, .int .i64 x21.1.Start, .int .i64 x21.1.Dur, .bool x21.1.Err, .sl 2 (List.map enc52 x21.1.Attrs)]) (by conv => lhs; whnf) (by conv => lhs; whnf) ty42 (by exact rfl))) (by decide) ?_
        obtain ⟨x29, hx29, h⟩ := bnd_some h
        refine ao_cons (acts_of rfl (do_call0 63 false (gleaningref1_SameSpan_ok x19.1 x21.1 hx29) rfl ent32 rfl rfl)) (by decide) ?_
        refine ao_cons (acts_of rfl (does_pick (v := .bool x29) (by conv => lhs; whnf) (by exact rfl))) (by decide) ?_
        refine ao_cons (acts_of rfl (does_move (v := .bool x29) (by exact rfl))) (by decide) ?_
        refine ao_bool (c := x29) 65 rfl (fun c30 => ?_) (fun c30 => ?_)
        · have h := ifT c30 h
          refine ao_cons (acts_of rfl (does_move (v := .int .i64 x19.2.1) (by exact rfl))) (by decide) ?_
          refine ao_cons (acts_of rfl (does_move (v := .int .i64 x21.2.1) (by exact rfl))) (by decide) ?_
          refine ao_cons (acts_of rfl (does_bin (v := .bool (x19.2.1 == x21.2.1)) (by conv => lhs; whnf) (by conv => lhs; whnf) rfl)) (by decide) ?_
          refine ao_cons (acts_of rfl (does_pick (v := .bool (x19.2.1 == x21.2.1)) (by conv => lhs; whnf) (by exact rfl))) (by decide) ?_
          refine ao_cons (acts_of rfl (does_move (v := .bool (x19.2.1 == x21.2.1)) (by exact rfl))) (by decide) ?_
          refine ao_bool (c := (x19.2.1 == x21.2.1)) 70 rfl (fun c31 => ?_) (fun c31 => ?_)
          · have h := ifT c31 h
            refine ao_cons (acts_of rfl (does_move (v := .int .i64 x19.2.2) (by exact rfl))) (by decide) ?_
            obtain ⟨x32, hx32, h⟩ := bnd_some h
            refine ao_cons (acts_of rfl (do_call0 72 false (gleaninglaw3_num_ok x19.2.2 hx32) rfl ent31 rfl rfl)) (by decide) ?_
            refine ao_cons (acts_of rfl (does_move (v := .int .i64 x21.2.2) (by exact rfl))) (by decide) ?_
            refine ao_cons (acts_of rfl (does_bin (v := .bool (x32 == x21.2.2)) (by conv => lhs; whnf) (by conv => lhs; whnf) rfl)) (by decide) ?_
            refine ao_cons (acts_of rfl (does_pick (v := .bool (x32 == x21.2.2)) (by conv => lhs; whnf) (by exact rfl))) (by decide) ?_
            refine ao_cons (acts_of rfl (does_move (v := .bool (x32 == x21.2.2)) (by exact rfl))) (by decide) ?_
            refine ao_bool (c := (x32 == x21.2.2)) 76 rfl (fun c33 => ?_) (fun c33 => ?_)
            · have h := ifT c33 h
              refine ao_cons (acts_of rfl (does_load (v := .agg [.int .u64 a0.Trace.Hi, .int .u64 a0.Trace.Lo, .int .u64 a0.Id, .int .u64 a0.Parent, .str a0.Service, .str a0.Op, .int .i64 a0.Start, .int .i64 a0.Dur, .bool a0.Err, .sl 2 (List.map enc52 a0.Attrs)]) (by conv => lhs; whnf) (by conv => lhs; whnf) ty42 (by exact rfl))) (by decide) ?_
              refine ao_cons (acts_of rfl (does_load (v := .agg [.int .u64 a1.Trace.Hi, .int .u64 a1.Trace.Lo, .int .u64 a1.Id, .int .u64 a1.Parent, .str a1.Service, .str a1.Op, .int .i64 a1.Start, .int .i64 a1.Dur, .bool a1.Err, .sl 2 (List.map enc52 a1.Attrs)]) (by conv => lhs; whnf) (by conv => lhs; whnf) ty42 (by exact rfl))) (by decide) ?_
              obtain ⟨x34, hx34, h⟩ := bnd_some h
              refine ao_cons (acts_of rfl (do_call0 79 false (span_Same_ok a0 a1 hx34) rfl ent37 rfl rfl)) (by decide) ?_
              refine ao_cons (acts_of rfl (does_load (v := .agg [.int .u64 a0.Trace.Hi, .int .u64 a0.Trace.Lo, .int .u64 a0.Id, .int .u64 a0.Parent, .str a0.Service, .str a0.Op, .int .i64 a0.Start, .int .i64 a0.Dur, .bool a0.Err, .sl 2 (List.map enc52 a0.Attrs)]) (by conv => lhs; whnf) (by conv => lhs; whnf) ty42 (by exact rfl))) (by decide) ?_
              refine ao_cons (acts_of rfl (does_load (v := .agg [.int .u64 a1.Trace.Hi, .int .u64 a1.Trace.Lo, .int .u64 a1.Id, .int .u64 a1.Parent, .str a1.Service, .str a1.Op, .int .i64 a1.Start, .int .i64 a1.Dur, .bool a1.Err, .sl 2 (List.map enc52 a1.Attrs)]) (by conv => lhs; whnf) (by conv => lhs; whnf) ty42 (by exact rfl))) (by decide) ?_
              obtain ⟨x35, hx35, h⟩ := bnd_some h
              refine ao_cons (acts_of rfl (do_call0 82 false (gleaningref1_SameSpan_ok a0 a1 hx35) rfl ent32 rfl rfl)) (by decide) ?_
              refine ao_cons (acts_of rfl (does_eq_bool (v := .bool (x34 == x35)) (by conv => lhs; whnf) (by conv => lhs; whnf) (ty_bool ty4) rfl)) (by decide) ?_
              refine ao_cons (acts_of rfl (does_pick (v := .bool (x34 == x35)) (by conv => lhs; whnf) (by exact rfl))) (by decide) ?_
              refine ao_cons (acts_of rfl (does_move (v := .bool (x34 == x35)) (by exact rfl))) (by decide) ?_
              refine ao_bool (c := (x34 == x35)) 85 rfl (fun c36 => ?_) (fun c36 => ?_)
              · have h := ifT c36 h
                refine ao_cons (acts_of rfl (does_load (v := .agg [.int .u64 a0.Trace.Hi, .int .u64 a0.Trace.Lo, .int .u64 a0.Id, .int .u64 a0.Parent, .str a0.Service, .str a0.Op, .int .i64 a0.Start, .int .i64 a0.Dur, .bool a0.Err, .sl 2 (List.map enc52 a0.Attrs)]) (by conv => lhs; whnf) (by conv => lhs; whnf) ty42 (by exact rfl))) (by decide) ?_
                refine ao_cons (acts_of rfl (does_load (v := .agg [.int .u64 a0.Trace.Hi, .int .u64 a0.Trace.Lo, .int .u64 a0.Id, .int .u64 a0.Parent, .str a0.Service, .str a0.Op, .int .i64 a0.Start, .int .i64 a0.Dur, .bool a0.Err, .sl 2 (List.map enc52 a0.Attrs)]) (by conv => lhs; whnf) (by conv => lhs; whnf) ty42 (by exact rfl))) (by decide) ?_
                obtain ⟨x37, hx37, h⟩ := bnd_some h
                refine ao_cons (acts_of rfl (do_call0 88 false (span_Same_ok a0 a0 hx37) rfl ent37 rfl rfl)) (by decide) ?_
                refine ao_cons (acts_of rfl (does_pick (v := .bool x37) (by conv => lhs; whnf) (by exact rfl))) (by decide) ?_
                refine ao_cons (acts_of rfl (does_assign (v := .bool x37) (by exact rfl))) (by decide) ?_
                refine ao_nil_d (by kernel_rfl) ?_
                refine hK22 _ ?_
                refine aw_ret ?_
                obtain rfl := Option.some.inj h
                exact ret_ok1 (by conv => lhs; whnf) (by conv => lhs; whnf) (by exact rfl) (.inr rfl) rfl
              · have h := ifF c36 h
                refine ao_cons (acts_skip rfl) (by decide) ?_
                refine ao_cons (acts_skip rfl) (by decide) ?_
                refine ao_cons (acts_skip rfl) (by decide) ?_
                refine ao_cons (acts_of rfl (does_pick (v := .bool false) (by conv => lhs; whnf) (by exact rfl))) (by decide) ?_
                refine ao_cons (acts_of rfl (does_assign (v := .bool false) (by exact rfl))) (by decide) ?_
                refine ao_nil_d (by kernel_rfl) ?_
                refine hK22 _ ?_
                refine aw_ret ?_
                obtain rfl := Option.some.inj h
                exact ret_ok1 (by conv => lhs; whnf) (by conv => lhs; whnf) (by exact rfl) (.inr rfl) rfl
            · have h := ifF c33 h
              refine ao_cons (acts_skip rfl) (by decide) ?_
              refine ao_cons (acts_skip rfl) (by decide) ?_
              refine ao_cons (acts_skip rfl) (by decide) ?_
              refine ao_cons (acts_skip rfl) (by decide) ?_
              refine ao_cons (acts_skip rfl) (by decide) ?_
              refine ao_cons (acts_skip rfl) (by decide) ?_
              refine ao_cons (acts_skip rfl) (by decide) ?_
              refine ao_cons (acts_of rfl (does_pick (v := .bool false) (by conv => lhs; whnf) (by exact rfl))) (by decide) ?_
              refine ao_cons (acts_of rfl (does_move (v := .bool false) (by exact rfl))) (by decide) ?_
              refine ao_cons (acts_skip rfl) (by decide) ?_
              refine ao_cons (acts_skip rfl) (by decide) ?_
              refine ao_cons (acts_skip rfl) (by decide) ?_
              refine ao_cons (acts_of rfl (does_pick (v := .bool false) (by conv => lhs; whnf) (by exact rfl))) (by decide) ?_
              refine ao_cons (acts_of rfl (does_assign (v := .bool false) (by exact rfl))) (by decide) ?_
              refine ao_nil_d (by kernel_rfl) ?_
              refine hK22 _ ?_
              refine aw_ret ?_
              obtain rfl := Option.some.inj h
              exact ret_ok1 (by conv => lhs; whnf) (by conv => lhs; whnf) (by exact rfl) (.inr rfl) rfl
          · have h := ifF c31 h
            refine ao_cons (acts_skip rfl) (by decide) ?_
            refine ao_cons (acts_skip rfl) (by decide) ?_
            refine ao_cons (acts_skip rfl) (by decide) ?_
            refine ao_cons (acts_skip rfl) (by decide) ?_
            refine ao_cons (acts_of rfl (does_pick (v := .bool false) (by conv => lhs; whnf) (by exact rfl))) (by decide) ?_
            refine ao_cons (acts_of rfl (does_move (v := .bool false) (by exact rfl))) (by decide) ?_
            refine ao_cons (acts_skip rfl) (by decide) ?_
            refine ao_cons (acts_skip rfl) (by decide) ?_
            refine ao_cons (acts_skip rfl) (by decide) ?_
            refine ao_cons (acts_skip rfl) (by decide) ?_
            refine ao_cons (acts_skip rfl) (by decide) ?_
            refine ao_cons (acts_skip rfl) (by decide) ?_
            refine ao_cons (acts_skip rfl) (by decide) ?_
            refine ao_cons (acts_of rfl (does_pick (v := .bool false) (by conv => lhs; whnf) (by exact rfl))) (by decide) ?_
            refine ao_cons (acts_of rfl (does_move (v := .bool false) (by exact rfl))) (by decide) ?_
            refine ao_cons (acts_skip rfl) (by decide) ?_
            refine ao_cons (acts_skip rfl) (by decide) ?_
            refine ao_cons (acts_skip rfl) (by decide) ?_
            refine ao_cons (acts_of rfl (does_pick (v := .bool false) (by conv => lhs; whnf) (by exact rfl))) (by decide) ?_
            refine ao_cons (acts_of rfl (does_assign (v := .bool false) (by exact rfl))) (by decide) ?_
            refine ao_nil_d (by kernel_rfl) ?_
            refine hK22 _ ?_
            refine aw_ret ?_
            obtain rfl := Option.some.inj h
            exact ret_ok1 (by conv => lhs; whnf) (by conv => lhs; whnf) (by exact rfl) (.inr rfl) rfl
        · have h := ifF c30 h
          refine ao_cons (acts_skip rfl) (by decide) ?_
          refine ao_cons (acts_skip rfl) (by decide) ?_
          refine ao_cons (acts_skip rfl) (by decide) ?_
          refine ao_cons (acts_of rfl (does_pick (v := .bool false) (by conv => lhs; whnf) (by exact rfl))) (by decide) ?_
          refine ao_cons (acts_of rfl (does_move (v := .bool false) (by exact rfl))) (by decide) ?_
          refine ao_cons (acts_skip rfl) (by decide) ?_
          refine ao_cons (acts_skip rfl) (by decide) ?_
          refine ao_cons (acts_skip rfl) (by decide) ?_
          refine ao_cons (acts_skip rfl) (by decide) ?_
          refine ao_cons (acts_of rfl (does_pick (v := .bool false) (by conv => lhs; whnf) (by exact rfl))) (by decide) ?_
          refine ao_cons (acts_of rfl (does_move (v := .bool false) (by exact rfl))) (by decide) ?_
          refine ao_cons (acts_skip rfl) (by decide) ?_
          refine ao_cons (acts_skip rfl) (by decide) ?_
          refine ao_cons (acts_skip rfl) (by decide) ?_
          refine ao_cons (acts_skip rfl) (by decide) ?_
          refine ao_cons (acts_skip rfl) (by decide) ?_
          refine ao_cons (acts_skip rfl) (by decide) ?_
          refine ao_cons (acts_skip rfl) (by decide) ?_
          refine ao_cons (acts_of rfl (does_pick (v := .bool false) (by conv => lhs; whnf) (by exact rfl))) (by decide) ?_
          refine ao_cons (acts_of rfl (does_move (v := .bool false) (by exact rfl))) (by decide) ?_
          refine ao_cons (acts_skip rfl) (by decide) ?_
          refine ao_cons (acts_skip rfl) (by decide) ?_
          refine ao_cons (acts_skip rfl) (by decide) ?_
          refine ao_cons (acts_of rfl (does_pick (v := .bool false) (by conv => lhs; whnf) (by exact rfl))) (by decide) ?_
          refine ao_cons (acts_of rfl (does_assign (v := .bool false) (by exact rfl))) (by decide) ?_
          refine ao_nil_d (by kernel_rfl) ?_
          refine hK22 _ ?_
          refine aw_ret ?_
          obtain rfl := Option.some.inj h
          exact ret_ok1 (by conv => lhs; whnf) (by conv => lhs; whnf) (by exact rfl) (.inr rfl) rfl
      · have h := ifF c28 h
        refine ao_cons (acts_skip rfl) (by decide) ?_
        refine ao_cons (acts_skip rfl) (by decide) ?_
        refine ao_cons (acts_skip rfl) (by decide) ?_
        refine ao_cons (acts_of rfl (does_pick (v := .bool false) (by conv => lhs; whnf) (by exact rfl))) (by decide) ?_
        refine ao_cons (acts_of rfl (does_move (v := .bool false) (by exact rfl))) (by decide) ?_
        refine ao_cons (acts_skip rfl) (by decide) ?_
        refine ao_cons (acts_skip rfl) (by decide) ?_
        refine ao_cons (acts_skip rfl) (by decide) ?_
        refine ao_cons (acts_of rfl (does_pick (v := .bool false) (by conv => lhs; whnf) (by exact rfl))) (by decide) ?_
        refine ao_cons (acts_of rfl (does_move (v := .bool false) (by exact rfl))) (by decide) ?_
        refine ao_cons (acts_skip rfl) (by decide) ?_
        refine ao_cons (acts_skip rfl) (by decide) ?_
        refine ao_cons (acts_skip rfl) (by decide) ?_
        refine ao_cons (acts_skip rfl) (by decide) ?_
        refine ao_cons (acts_of rfl (does_pick (v := .bool false) (by conv => lhs; whnf) (by exact rfl))) (by decide) ?_
        refine ao_cons (acts_of rfl (does_move (v := .bool false) (by exact rfl))) (by decide) ?_
        refine ao_cons (acts_skip rfl) (by decide) ?_
        refine ao_cons (acts_skip rfl) (by decide) ?_
        refine ao_cons (acts_skip rfl) (by decide) ?_
        refine ao_cons (acts_skip rfl) (by decide) ?_
        refine ao_cons (acts_skip rfl) (by decide) ?_
        refine ao_cons (acts_skip rfl) (by decide) ?_
        refine ao_cons (acts_skip rfl) (by decide) ?_
        refine ao_cons (acts_of rfl (does_pick (v := .bool false) (by conv => lhs; whnf) (by exact rfl))) (by decide) ?_
        refine ao_cons (acts_of rfl (does_move (v := .bool false) (by exact rfl))) (by decide) ?_
        refine ao_cons (acts_skip rfl) (by decide) ?_
        refine ao_cons (acts_skip rfl) (by decide) ?_
        refine ao_cons (acts_skip rfl) (by decide) ?_
        refine ao_cons (acts_of rfl (does_pick (v := .bool false) (by conv => lhs; whnf) (by exact rfl))) (by decide) ?_
        refine ao_cons (acts_of rfl (does_assign (v := .bool false) (by exact rfl))) (by decide) ?_
        refine ao_nil_d (by kernel_rfl) ?_
        refine hK22 _ ?_
        refine aw_ret ?_
        obtain rfl := Option.some.inj h
        exact ret_ok1 (by conv => lhs; whnf) (by conv => lhs; whnf) (by exact rfl) (.inr rfl) rfl
    · have h := ifF c25 h
      refine ao_cons (acts_skip rfl) (by decide) ?_
      refine ao_cons (acts_skip rfl) (by decide) ?_
      refine ao_cons (acts_skip rfl) (by decide) ?_
      refine ao_cons (acts_skip rfl) (by decide) ?_
      refine ao_cons (acts_skip rfl) (by decide) ?_
      refine ao_cons (acts_skip rfl) (by decide) ?_
      refine ao_cons (acts_skip rfl) (by decide) ?_
      refine ao_cons (acts_of rfl (does_pick (v := .bool false) (by conv => lhs; whnf) (by exact rfl))) (by decide) ?_
      refine ao_cons (acts_of rfl (does_move (v := .bool false) (by exact rfl))) (by decide) ?_
      refine ao_cons (acts_skip rfl) (by decide) ?_
      refine ao_cons (acts_skip rfl) (by decide) ?_
      refine ao_cons (acts_skip rfl) (by decide) ?_
      refine ao_cons (acts_of rfl (does_pick (v := .bool false) (by conv => lhs; whnf) (by exact rfl))) (by decide) ?_
      refine ao_cons (acts_of rfl (does_move (v := .bool false) (by exact rfl))) (by decide) ?_
      refine ao_cons (acts_skip rfl) (by decide) ?_
      refine ao_cons (acts_skip rfl) (by decide) ?_
      refine ao_cons (acts_skip rfl) (by decide) ?_
      refine ao_cons (acts_of rfl (does_pick (v := .bool false) (by conv => lhs; whnf) (by exact rfl))) (by decide) ?_
      refine ao_cons (acts_of rfl (does_move (v := .bool false) (by exact rfl))) (by decide) ?_
      refine ao_cons (acts_skip rfl) (by decide) ?_
      refine ao_cons (acts_skip rfl) (by decide) ?_
      refine ao_cons (acts_skip rfl) (by decide) ?_
      refine ao_cons (acts_skip rfl) (by decide) ?_
      refine ao_cons (acts_of rfl (does_pick (v := .bool false) (by conv => lhs; whnf) (by exact rfl))) (by decide) ?_
      refine ao_cons (acts_of rfl (does_move (v := .bool false) (by exact rfl))) (by decide) ?_
      refine ao_cons (acts_skip rfl) (by decide) ?_
      refine ao_cons (acts_skip rfl) (by decide) ?_
      refine ao_cons (acts_skip rfl) (by decide) ?_
      refine ao_cons (acts_skip rfl) (by decide) ?_
      refine ao_cons (acts_skip rfl) (by decide) ?_
      refine ao_cons (acts_skip rfl) (by decide) ?_
      refine ao_cons (acts_skip rfl) (by decide) ?_
      refine ao_cons (acts_of rfl (does_pick (v := .bool false) (by conv => lhs; whnf) (by exact rfl))) (by decide) ?_
      refine ao_cons (acts_of rfl (does_move (v := .bool false) (by exact rfl))) (by decide) ?_
      refine ao_cons (acts_skip rfl) (by decide) ?_
      refine ao_cons (acts_skip rfl) (by decide) ?_
      refine ao_cons (acts_skip rfl) (by decide) ?_
      refine ao_cons (acts_of rfl (does_pick (v := .bool false) (by conv => lhs; whnf) (by exact rfl))) (by decide) ?_
      refine ao_cons (acts_of rfl (does_assign (v := .bool false) (by exact rfl))) (by decide) ?_
      refine ao_nil_d (by kernel_rfl) ?_
      refine hK22 _ ?_
      refine aw_ret ?_
      obtain rfl := Option.some.inj h
      exact ret_ok1 (by conv => lhs; whnf) (by conv => lhs; whnf) (by exact rfl) (.inr rfl) rfl
end Go.Proofs.Ytbfmmaabaenhgaa.Ab
