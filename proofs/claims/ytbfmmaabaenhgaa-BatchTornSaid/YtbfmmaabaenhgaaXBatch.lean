/- Chapter 4: how any batch is written and read. -/
import Derived.Test.YtbfmmaabaenhgaaXB1
import Derived.Test.YtbfmmaabaenhgaaProg
namespace Go.Proofs.Ytbfmmaabaenhgaa.Ab
open Go Go.RowKit
set_option linter.unusedVariables false
set_option linter.unusedSimpArgs false
theorem ent20 : Ent Try.prog 20 := ⟨_, Try.func20, by kernel_rfl, rfl⟩
theorem ent47 : Ent Try.prog 47 := ⟨_, Try.func47, by kernel_rfl, rfl⟩
theorem ent48 : Ent Try.prog 48 := ⟨_, Try.func48, by kernel_rfl, rfl⟩
theorem ent49 : Ent Try.prog 49 := ⟨_, Try.func49, by kernel_rfl, rfl⟩
theorem ent50 : Ent Try.prog 50 := ⟨_, Try.func50, by kernel_rfl, rfl⟩
theorem ent51 : Ent Try.prog 51 := ⟨_, Try.func51, by kernel_rfl, rfl⟩
theorem ent52 : Ent Try.prog 52 := ⟨_, Try.func52, by kernel_rfl, rfl⟩
theorem ent53 : Ent Try.prog 53 := ⟨_, Try.func53, by kernel_rfl, rfl⟩
def gleaninglaw4_num (a0 : Int) : Option Int :=
  some a0
set_option maxRecDepth 100000 in
set_option maxHeartbeats 8000000 in
/-- gleaning/gleaninglaw4.num -/
theorem gleaninglaw4_num_ok (a0 : Int) {r : Int} (h : gleaninglaw4_num a0 = some r) : Ok Try.prog 53 [.int .i64 a0] [] [] (.int .i64 r) [] [] := by
  unfold gleaninglaw4_num at h
  refine ok_of_code Try.func53 rfl (by show (1 : Nat) ≤ _; decide) (Nat.le_refl _) fun X => ?_
  refine aw_seq_k (fun K1 hK1 => ?_)
  refine aw_regL ?_
  refine alP (some 2) rfl rfl (does_assign (v := .int .i64 0) (by exact rfl)) (by decide) ?_
  refine al_nil ?_
  refine hK1 _ ?_
  refine aw_seq_k (fun K2 hK2 => ?_)
  refine aw_regL ?_
  refine alP (some 3) rfl rfl (does_move (v := .int .i64 a0) (by exact rfl)) (by decide) ?_
  refine alP (some 2) rfl rfl (does_assign (v := .int .i64 a0) (by exact rfl)) (by decide) ?_
  refine al_nil ?_
  refine hK2 _ ?_
  refine aw_ret ?_
  obtain rfl := Option.some.inj h
  exact ret_ok1 (by conv => lhs; whnf) (by conv => lhs; whnf) (by exact rfl) (.inr rfl) rfl
def gleaninglaw4_alive : Option Bool :=
  Option.bind (batch_Read []) (fun (x3 : List Span × Int) => Option.bind (batch_Bytes [(Span.mk (Trace.mk 0 0) 0 0 (strOf [97]) (strOf [98]) 0 0 false [])]) (fun (x5 : List UInt8) => Option.bind (batch_Read x5) (fun (x6 : List Span × Int) => Option.bind (gleaninglaw4_num x3.2) (fun (x8 : Int) => if (x8 == 2) = true then (Option.bind (gleaninglaw4_num x6.2) (fun (x10 : Int) => if (x10 == 0) = true then (if ((List.length x6.1 : Int) == 1) = true then (Option.bind (x6.1[0]?) (fun (x13 : Span) => some (ByteArray.toList x13.Op == ByteArray.toList (strOf [98])))) else (some false)) else (some false))) else (some false)))))
set_option maxRecDepth 100000 in
set_option maxHeartbeats 8000000 in
/-- gleaning/gleaninglaw4.alive -/
theorem gleaninglaw4_alive_ok {r : Bool} (h : gleaninglaw4_alive = some r) : Ok Try.prog 47 [] [] [] (.bool r) [] [] := by
  unfold gleaninglaw4_alive at h
  refine ok_of_code Try.func47 rfl (by show (0 : Nat) ≤ _; decide) (Nat.le_refl _) fun X => ?_
  refine aw_seq_k (fun K1 hK1 => ?_)
  refine aw_regL ?_
  refine alP (some 0) rfl rfl (does_assign (v := .bool false) (by exact rfl)) (by decide) ?_
  refine al_nil ?_
  refine hK1 _ ?_
  refine aw_seq_k (fun K2 hK2 => ?_)
  refine aw_regL ?_
  obtain ⟨x3, hx3, h⟩ := bnd_some h
  refine alD (some 6) rfl rfl (do_call0 6 false ((batch_Read_ok [] hx3).weak (args' := [.nil]) ⟨le_nil _, trivial⟩) rfl ent49 rfl rfl) (by decide) ?_
  refine alP (some 5) rfl rfl (does_move (v := .tup [.own 6 0, .int .i64 x3.2]) (by exact rfl)) (by decide) ?_
  refine alP (some 7) rfl rfl (does_extract (v := .own 6 0) (by conv => lhs; whnf) (by exact rfl)) (by decide) ?_
  refine alP (some 8) rfl rfl (does_extract (v := .int .i64 x3.2) (by conv => lhs; whnf) (by exact rfl)) (by decide) ?_
  refine alP (some 1) rfl rfl (does_assign (v := .own 6 0) (by exact rfl)) (by decide) ?_
  refine alP (some 2) rfl rfl (does_assign (v := .int .i64 x3.2) (by exact rfl)) (by decide) ?_
  refine al_nil ?_
  refine hK2 _ ?_
  refine aw_seq_k (fun K4 hK4 => ?_)
  refine aw_regL ?_
  refine alP (some 10) rfl rfl ((do_build_struct (cs := [.int .u64 0, .int .u64 0, .int .u64 0, .int .u64 0, .str (strOf [97]), .str (strOf [98]), .int .i64 0, .int .i64 0, .bool false, .nil]) ty42 rfl [⟨.struct [(0, 25), (1, 25)], 2, 16, [.int .u64 0, .int .u64 0]⟩, ⟨.int .u64, 1, 8, [.int .u64 0]⟩, ⟨.int .u64, 1, 8, [.int .u64 0]⟩, ⟨.str, 1, 16, [.str ByteArray.empty]⟩, ⟨.str, 1, 16, [.str ByteArray.empty]⟩, ⟨.int .i64, 1, 8, [.int .i64 0]⟩, ⟨.int .i64, 1, 8, [.int .i64 0]⟩, ⟨.bool, 1, 1, [.bool false]⟩, ⟨.slice 53, 1, 24, [.nil]⟩] (by simp only [List.map, ty25, ty27, ty3, ty4, ty40, ty9]) (by rfl) (by exact rfl)).weak (v' := .agg [.int .u64 0, .int .u64 0, .int .u64 0, .int .u64 0, .str (strOf [97]), .str (strOf [98]), .int .i64 0, .int .i64 0, .bool false, .sl 2 (List.map enc52 [])]) (le_agg ⟨le_refl _, le_refl _, le_refl _, le_refl _, le_refl _, le_refl _, le_refl _, le_refl _, le_refl _, le_nil _, trivial⟩)) (by decide) ?_
  refine alD (some 11) rfl rfl (do_buildSlice (xs := List.map enc41 [(Span.mk (Trace.mk 0 0) 0 0 (strOf [97]) (strOf [98]) 0 0 false [])]) ty28 ty42 rfl rfl rfl rfl rfl rfl rfl rfl) (by decide) ?_
  obtain ⟨x5, hx5, h⟩ := bnd_some h
  refine alD (some 12) rfl rfl (do_callG (bcs := []) [] [] [(11, 0)] 12 false (batch_Bytes_ok [(Span.mk (Trace.mk 0 0) 0 0 (strOf [97]) (strOf [98]) 0 0 false [])] hx5) rfl ent48 trivial trivial rfl rfl rfl rfl rfl rfl rfl rfl (.inr ⟨rfl, rfl, ⟨plain_map (fun _ => rfl), trivial⟩⟩)) (by decide) ?_
  obtain ⟨x6, hx6, h⟩ := bnd_some h
  refine alD (some 13) rfl rfl (does_frz (d := 12) (n := 0) (by conv => lhs; whnf) (do_callG (bcs := []) [] [] [(12, 0)] 13 false (batch_Read_ok x5 hx6) rfl ent49 trivial trivial rfl rfl rfl rfl rfl rfl rfl rfl (.inl ⟨⟨_, _, _, rfl⟩, trivial⟩))) (by decide) ?_
  refine alP (some 9) rfl rfl (does_move (v := .tup [.own 13 0, .int .i64 x6.2]) (by exact rfl)) (by decide) ?_
  refine alP (some 14) rfl rfl (does_extract (v := .own 13 0) (by conv => lhs; whnf) (by exact rfl)) (by decide) ?_
  refine alP (some 15) rfl rfl (does_extract (v := .int .i64 x6.2) (by conv => lhs; whnf) (by exact rfl)) (by decide) ?_
  refine alP (some 3) rfl rfl (does_assign (v := .own 13 0) (by exact rfl)) (by decide) ?_
  refine alP (some 4) rfl rfl (does_assign (v := .int .i64 x6.2) (by exact rfl)) (by decide) ?_
  refine al_nil ?_
  refine hK4 _ ?_
  refine aw_seq_k (fun K7 hK7 => ?_)
  refine aw_regL ?_
  refine alP (some 16) rfl rfl (does_move (v := .int .i64 x3.2) (by exact rfl)) (by decide) ?_
  obtain ⟨x8, hx8, h⟩ := bnd_some h
  refine alD (some 17) rfl rfl ((do_call0 17 false (gleaninglaw4_num_ok x3.2 hx8) rfl ent53 rfl rfl).fx (y := ⟨[], .int .i64 x8, [], [17]⟩) rfl) (by decide) ?_
  refine alP (some 18) rfl rfl (does_bin (v := .bool (x8 == 2)) (by conv => lhs; whnf) (by conv => lhs; whnf) rfl) (by decide) ?_
  refine alP (some 19) rfl rfl (does_move (v := .bool (x8 == 2)) (by exact rfl)) (by decide) ?_
  refine al_bool (c := (x8 == 2)) 19 rfl (fun c9 => ?_) (fun c9 => ?_)
  · have h := ifT c9 h
    refine alP (some 20) rfl rfl (does_move (v := .int .i64 x6.2) (by exact rfl)) (by decide) ?_
    obtain ⟨x10, hx10, h⟩ := bnd_some h
    refine alD (some 21) rfl rfl ((do_call0 21 false (gleaninglaw4_num_ok x6.2 hx10) rfl ent53 rfl rfl).fx (y := ⟨[], .int .i64 x10, [], [21]⟩) rfl) (by decide) ?_
    refine alP (some 22) rfl rfl (does_bin (v := .bool (x10 == 0)) (by conv => lhs; whnf) (by conv => lhs; whnf) rfl) (by decide) ?_
    refine alP (some 23) rfl rfl (does_pick (v := .bool (x10 == 0)) (by conv => lhs; whnf) (by exact rfl)) (by decide) ?_
    refine alP (some 24) rfl rfl (does_move (v := .bool (x10 == 0)) (by exact rfl)) (by decide) ?_
    refine al_bool (c := (x10 == 0)) 24 rfl (fun c11 => ?_) (fun c11 => ?_)
    · have h := ifT c11 h
      refine alP (some 25) rfl rfl (does_move (v := .own 13 0) (by exact rfl)) (by decide) ?_
      refine alR (some 26) rfl rfl ((does_len_own (by conv => lhs; whnf) (by conv => lhs; whnf) ty28).cast (v' := .int .i64 (List.length x6.1 : Int)) (by exact len_map _)) (by decide) ?_
      refine alP (some 27) rfl rfl (does_bin (v := .bool ((List.length x6.1 : Int) == 1)) (by conv => lhs; whnf) (by conv => lhs; whnf) rfl) (by decide) ?_
      refine alP (some 28) rfl rfl (does_pick (v := .bool ((List.length x6.1 : Int) == 1)) (by conv => lhs; whnf) (by exact rfl)) (by decide) ?_
      refine alP (some 29) rfl rfl (does_move (v := .bool ((List.length x6.1 : Int) == 1)) (by exact rfl)) (by decide) ?_
      refine al_bool (c := ((List.length x6.1 : Int) == 1)) 29 rfl (fun c12 => ?_) (fun c12 => ?_)
      · have h := ifT c12 h
        refine alP (some 30) rfl rfl (does_move (v := .own 13 0) (by exact rfl)) (by decide) ?_
        obtain ⟨x13, hx13, h⟩ := bnd_some h
        refine alR (some 31) rfl rfl (does_indexAddr_own (by conv => lhs; whnf) (by conv => lhs; whnf) (by conv => lhs; whnf) ty28 ty42 (by decide) (by exact own_lt hx13)) (by decide) ?_
        refine alP (some 32) rfl rfl (does_fieldAddr (q := .eptr 13 0 10 0 5) (by conv => lhs; whnf) ty42 rfl ty9 (by decide) (by exact rfl)) (by decide) ?_
        refine alR (some 33) rfl rfl (does_load (v := .str x13.Op) (by conv => lhs; whnf) (cellsAt_eptr (by conv => lhs; whnf) (by exact map_get hx13)) ty9 (by exact rfl)) (by decide) ?_
        refine alP (some 34) rfl rfl (does_bin (v := .bool (ByteArray.toList x13.Op == ByteArray.toList (strOf [98]))) (by conv => lhs; whnf) (by conv => lhs; whnf) rfl) (by decide) ?_
        refine alP (some 35) rfl rfl (does_pick (v := .bool (ByteArray.toList x13.Op == ByteArray.toList (strOf [98]))) (by conv => lhs; whnf) (by exact rfl)) (by decide) ?_
        refine alP (some 0) rfl rfl (does_assign (v := .bool (ByteArray.toList x13.Op == ByteArray.toList (strOf [98]))) (by exact rfl)) (by decide) ?_
        refine al_nil ?_
        refine hK7 _ ?_
        refine aw_ret ?_
        obtain rfl := Option.some.inj h
        exact ret_ok1 (by conv => lhs; whnf) (by conv => lhs; whnf) (by exact rfl) (.inr rfl) rfl
      · have h := ifF c12 h
        refine alS (some 30) rfl rfl (by decide) ?_
        refine alS (some 31) rfl rfl (by decide) ?_
        refine alS (some 32) rfl rfl (by decide) ?_
        refine alS (some 33) rfl rfl (by decide) ?_
        refine alS (some 34) rfl rfl (by decide) ?_
        refine alP (some 35) rfl rfl (does_pick (v := .bool false) (by conv => lhs; whnf) (by exact rfl)) (by decide) ?_
        refine alP (some 0) rfl rfl (does_assign (v := .bool false) (by exact rfl)) (by decide) ?_
        refine al_nil ?_
        refine hK7 _ ?_
        refine aw_ret ?_
        obtain rfl := Option.some.inj h
        exact ret_ok1 (by conv => lhs; whnf) (by conv => lhs; whnf) (by exact rfl) (.inr rfl) rfl
    · have h := ifF c11 h
      refine alS (some 25) rfl rfl (by decide) ?_
      refine alS (some 26) rfl rfl (by decide) ?_
      refine alS (some 27) rfl rfl (by decide) ?_
      refine alP (some 28) rfl rfl (does_pick (v := .bool false) (by conv => lhs; whnf) (by exact rfl)) (by decide) ?_
      refine alP (some 29) rfl rfl (does_move (v := .bool false) (by exact rfl)) (by decide) ?_
      refine alS (some 30) rfl rfl (by decide) ?_
      refine alS (some 31) rfl rfl (by decide) ?_
      refine alS (some 32) rfl rfl (by decide) ?_
      refine alS (some 33) rfl rfl (by decide) ?_
      refine alS (some 34) rfl rfl (by decide) ?_
      refine alP (some 35) rfl rfl (does_pick (v := .bool false) (by conv => lhs; whnf) (by exact rfl)) (by decide) ?_
      refine alP (some 0) rfl rfl (does_assign (v := .bool false) (by exact rfl)) (by decide) ?_
      refine al_nil ?_
      refine hK7 _ ?_
      refine aw_ret ?_
      obtain rfl := Option.some.inj h
      exact ret_ok1 (by conv => lhs; whnf) (by conv => lhs; whnf) (by exact rfl) (.inr rfl) rfl
  · have h := ifF c9 h
    refine alS (some 20) rfl rfl (by decide) ?_
    refine alS (some 21) rfl rfl (by decide) ?_
    refine alS (some 22) rfl rfl (by decide) ?_
    refine alP (some 23) rfl rfl (does_pick (v := .bool false) (by conv => lhs; whnf) (by exact rfl)) (by decide) ?_
    refine alP (some 24) rfl rfl (does_move (v := .bool false) (by exact rfl)) (by decide) ?_
    refine alS (some 25) rfl rfl (by decide) ?_
    refine alS (some 26) rfl rfl (by decide) ?_
    refine alS (some 27) rfl rfl (by decide) ?_
    refine alP (some 28) rfl rfl (does_pick (v := .bool false) (by conv => lhs; whnf) (by exact rfl)) (by decide) ?_
    refine alP (some 29) rfl rfl (does_move (v := .bool false) (by exact rfl)) (by decide) ?_
    refine alS (some 30) rfl rfl (by decide) ?_
    refine alS (some 31) rfl rfl (by decide) ?_
    refine alS (some 32) rfl rfl (by decide) ?_
    refine alS (some 33) rfl rfl (by decide) ?_
    refine alS (some 34) rfl rfl (by decide) ?_
    refine alP (some 35) rfl rfl (does_pick (v := .bool false) (by conv => lhs; whnf) (by exact rfl)) (by decide) ?_
    refine alP (some 0) rfl rfl (does_assign (v := .bool false) (by exact rfl)) (by decide) ?_
    refine al_nil ?_
    refine hK7 _ ?_
    refine aw_ret ?_
    obtain rfl := Option.some.inj h
    exact ret_ok1 (by conv => lhs; whnf) (by conv => lhs; whnf) (by exact rfl) (.inr rfl) rfl
def gleaninglaw4_BatchTells_k0 (a0 : List Span) (a1 : List UInt8) : Option Bool :=
  gd ((List.length a0) * 112 ≤ 140737488355328 ∧ (List.length a0) ≤ 140737488355328) (Option.bind (batch_Bytes a0) (fun (x16 : List UInt8) => gd ((List.length a1) * 1 ≤ 140737488355328 ∧ (List.length a1) ≤ 140737488355328) (Option.bind (batch_Read a1) (fun (x19 : List Span × Int) => Option.bind (gleaningref1_ReadBatch a1) (fun (x21 : List Span × Int) => Option.bind (batch_Read x16) (fun (x23 : List Span × Int) => Option.bind (gleaningref1_BatchBytes a0) (fun (x25 : List UInt8) => if (ByteArray.toList (strOf x16) == ByteArray.toList (strOf x25)) = true then (Option.bind (gleaningref1_SameSpans x19.1 x21.1) (fun (x27 : Bool) => if x27 = true then (Option.bind (gleaninglaw4_num x19.2) (fun (x29 : Int) => if (x29 == x21.2) = true then (if ((List.length x16 : Int) == 0) = true then (some true) else (Option.bind (gleaninglaw4_num x23.2) (fun (x32 : Int) => if (x32 == 0) = true then (Option.bind (gleaningref1_SameSpans x23.1 a0) (fun (x34 : Bool) => some x34)) else (some false)))) else (some false))) else (some false))) else (some false))))))))
def gleaninglaw4_BatchTells (a0 : List Span) (a1 : List UInt8) : Option Bool :=
  Option.bind (gleaninglaw4_alive) (fun (x3 : Bool) => Option.bind (if (!x3) = true then (some (Sum.inr x3)) else (Option.bind (gleaninglaw3_FewAll a0) (fun (x9 : Bool) => if (!x9) = true then (some (Sum.inr x3)) else (if (decide ((1000 : Int) < (List.length a1 : Int))) = true then (some (Sum.inr x3)) else (some (Sum.inl ())))))) (Sum.elim (fun (s : Unit) => gleaninglaw4_BatchTells_k0 a0 a1) some))
set_option maxRecDepth 100000 in
set_option maxHeartbeats 8000000 in
/-- gleaning/gleaninglaw4.BatchTells -/
theorem gleaninglaw4_BatchTells_ok (a0 : List Span) (a1 : List UInt8) {r : Bool} (h : gleaninglaw4_BatchTells a0 a1 = some r) : Ok Try.prog 15 [.sl 10 (List.map enc41 a0), .sl 1 (List.map enc5 a1)] [] [] (.bool r) [] [] := by
  unfold gleaninglaw4_BatchTells at h
  refine ok_of_code Try.func15 rfl (by show (2 : Nat) ≤ _; decide) (Nat.le_refl _) fun X => ?_
  refine aw_seq_k (fun K1 hK1 => ?_)
  refine aw_regL ?_
  refine alP (some 4) rfl rfl (does_assign (v := .bool false) (by exact rfl)) (by decide) ?_
  refine al_nil ?_
  refine hK1 _ ?_
  refine aw_seq_k (fun K2 hK2 => ?_)
  refine aw_regL ?_
  obtain ⟨x3, hx3, h⟩ := bnd_some h
  refine alD (some 13) rfl rfl (do_call0 13 false (gleaninglaw4_alive_ok hx3) rfl ent47 rfl rfl) (by decide) ?_
  refine alP (some 5) rfl rfl (does_assign (v := .bool x3) (by exact rfl)) (by decide) ?_
  refine al_nil ?_
  refine hK2 _ ?_
  obtain ⟨q4, h, hk5⟩ := bnd_some h
  refine aw_cut (fun s => gleaninglaw4_BatchTells_k0 a0 a1 = some r ∧ s = lit [(0, .sl 10 (List.map enc41 a0)), (1, .sl 1 (List.map enc5 a1))] [] [] X) ?_ ?_
  · skip
    refine aw_seq_k (fun K6 hK6 => ?_)
    refine aw_regL ?_
    refine alP (some 14) rfl rfl (does_move (v := .bool x3) (by exact rfl)) (by decide) ?_
    refine alP (some 15) rfl rfl (does_un (v := .bool (!x3)) (by conv => lhs; whnf) rfl) (by decide) ?_
    refine alP (some 16) rfl rfl (does_move (v := .bool (!x3)) (by exact rfl)) (by decide) ?_
    refine al_bool (c := (!x3)) 16 rfl (fun c7 => ?_) (fun c7 => ?_)
    · have h := ifT c7 h
      refine alS (some 17) rfl rfl (by decide) ?_
      refine alS (some 18) rfl rfl (by decide) ?_
      refine alS (some 19) rfl rfl (by decide) ?_
      refine alP (some 20) rfl rfl (does_pick (v := .bool true) (by conv => lhs; whnf) (by exact rfl)) (by decide) ?_
      refine alP (some 21) rfl rfl (does_move (v := .bool true) (by exact rfl)) (by decide) ?_
      refine alS (some 22) rfl rfl (by decide) ?_
      refine alS (some 23) rfl rfl (by decide) ?_
      refine alS (some 24) rfl rfl (by decide) ?_
      refine alP (some 25) rfl rfl (does_pick (v := .bool true) (by conv => lhs; whnf) (by exact rfl)) (by decide) ?_
      refine al_nil ?_
      refine hK6 _ ?_
      refine aw_cond_t (by decide) rfl ?_
      refine aw_seq_k (fun K8 hK8 => ?_)
      refine aw_regL ?_
      refine alP (some 26) rfl rfl (does_move (v := .bool x3) (by exact rfl)) (by decide) ?_
      refine alP (some 4) rfl rfl (does_assign (v := .bool x3) (by exact rfl)) (by decide) ?_
      refine al_nil ?_
      refine hK8 _ ?_
      refine aw_ret ?_
      have h := leafR h hk5
      obtain rfl := Option.some.inj h
      exact ret_ok1 (by conv => lhs; whnf) (by conv => lhs; whnf) (by exact rfl) (.inr rfl) rfl
    · have h := ifF c7 h
      refine alP (some 17) rfl rfl (does_move (v := .sl 10 (List.map enc41 a0)) (by exact rfl)) (by decide) ?_
      obtain ⟨x9, hx9, h⟩ := bnd_some h
      refine alD (some 18) rfl rfl (do_call0 18 false (gleaninglaw3_FewAll_ok a0 hx9) rfl ent20 rfl rfl) (by decide) ?_
      refine alP (some 19) rfl rfl (does_un (v := .bool (!x9)) (by conv => lhs; whnf) rfl) (by decide) ?_
      refine alP (some 20) rfl rfl (does_pick (v := .bool (!x9)) (by conv => lhs; whnf) (by exact rfl)) (by decide) ?_
      refine alP (some 21) rfl rfl (does_move (v := .bool (!x9)) (by exact rfl)) (by decide) ?_
      refine al_bool (c := (!x9)) 21 rfl (fun c10 => ?_) (fun c10 => ?_)
      · have h := ifT c10 h
        refine alS (some 22) rfl rfl (by decide) ?_
        refine alS (some 23) rfl rfl (by decide) ?_
        refine alS (some 24) rfl rfl (by decide) ?_
        refine alP (some 25) rfl rfl (does_pick (v := .bool true) (by conv => lhs; whnf) (by exact rfl)) (by decide) ?_
        refine al_nil ?_
        refine hK6 _ ?_
        refine aw_cond_t (by decide) rfl ?_
        refine aw_seq_k (fun K11 hK11 => ?_)
        refine aw_regL ?_
        refine alP (some 26) rfl rfl (does_move (v := .bool x3) (by exact rfl)) (by decide) ?_
        refine alP (some 4) rfl rfl (does_assign (v := .bool x3) (by exact rfl)) (by decide) ?_
        refine al_nil ?_
        refine hK11 _ ?_
        refine aw_ret ?_
        have h := leafR h hk5
        obtain rfl := Option.some.inj h
        exact ret_ok1 (by conv => lhs; whnf) (by conv => lhs; whnf) (by exact rfl) (.inr rfl) rfl
      · have h := ifF c10 h
        refine alP (some 22) rfl rfl (does_move (v := .sl 1 (List.map enc5 a1)) (by exact rfl)) (by decide) ?_
        refine alP (some 23) rfl rfl ((does_len_sl (by conv => lhs; whnf) ty43).castp (v' := .int .i64 (List.length a1 : Int)) (by exact len_map _)) (by decide) ?_
        refine alP (some 24) rfl rfl (does_bin (v := .bool (decide ((1000 : Int) < (List.length a1 : Int)))) (by conv => lhs; whnf) (by conv => lhs; whnf) rfl) (by decide) ?_
        refine alP (some 25) rfl rfl (does_pick (v := .bool (decide ((1000 : Int) < (List.length a1 : Int)))) (by conv => lhs; whnf) (by exact rfl)) (by decide) ?_
        refine al_nil ?_
        refine hK6 _ ?_
        refine aw_bool (b := (decide ((1000 : Int) < (List.length a1 : Int)))) 25 rfl (fun c12 => ?_) (fun c12 => ?_)
        · have h := ifT c12 h
          refine aw_cond_t (by decide) rfl ?_
          refine aw_seq_k (fun K13 hK13 => ?_)
          refine aw_regL ?_
          refine alP (some 26) rfl rfl (does_move (v := .bool x3) (by exact rfl)) (by decide) ?_
          refine alP (some 4) rfl rfl (does_assign (v := .bool x3) (by exact rfl)) (by decide) ?_
          refine al_nil ?_
          refine hK13 _ ?_
          refine aw_ret ?_
          have h := leafR h hk5
          obtain rfl := Option.some.inj h
          exact ret_ok1 (by conv => lhs; whnf) (by conv => lhs; whnf) (by exact rfl) (.inr rfl) rfl
        · have h := ifF c12 h
          refine aw_cond_f (by decide) rfl ?_
          refine aw_skip ?_
          have h := leafL h hk5
          exact ⟨_, reb_lit [(0, .sl 10 (List.map enc41 a0)), (1, .sl 1 (List.map enc5 a1))] [] [] [] (envOk_cons (by conv => lhs; whnf) (by exact rfl) (envOk_cons (by conv => lhs; whnf) (by exact rfl) envOk_nil)) objOk_nil (nodup_b rfl) (nodup_b rfl) rfl rfl, h, rfl⟩
  · rintro s ⟨h, rfl⟩
    unfold gleaninglaw4_BatchTells_k0 at h
    refine aw_seq_k (fun K14 hK14 => ?_)
    refine aw_regL ?_
    refine alP (some 27) rfl rfl (does_move (v := .sl 10 (List.map enc41 a0)) (by exact rfl)) (by decide) ?_
    obtain ⟨g15, h⟩ := gd_some h
    refine alD (some 28) rfl rfl (do_append (v := List.map enc41 a0) (by conv => lhs; whnf) (by conv => lhs; whnf) ty28 ty42 rfl rfl (by conv => lhs; whnf) (by first | exact .inl rfl | exact .inr ⟨rfl, rfl⟩) (by conv => lhs; whnf) (by first | exact .inr rfl | exact .inl rfl) (List.nil_append _) (fit_map g15)) (by decide) ?_
    obtain ⟨x16, hx16, h⟩ := bnd_some h
    refine alD (some 29) rfl rfl (do_callG (bcs := []) [] [] [(28, 0)] 29 false (batch_Bytes_ok a0 hx16) rfl ent48 trivial trivial rfl rfl rfl rfl rfl rfl rfl rfl (.inr ⟨rfl, rfl, ⟨plain_map (fun _ => rfl), trivial⟩⟩)) (by decide) ?_
    refine alP (some 6) rfl rfl (does_assign (v := .own 29 0) (by exact rfl)) (by decide) ?_
    refine al_nil ?_
    refine hK14 _ ?_
    refine aw_seq_k (fun K17 hK17 => ?_)
    refine aw_regL ?_
    refine alP (some 31) rfl rfl (does_move (v := .sl 1 (List.map enc5 a1)) (by exact rfl)) (by decide) ?_
    obtain ⟨g18, h⟩ := gd_some h
    refine alD (some 32) rfl rfl (do_append (v := List.map enc5 a1) (by conv => lhs; whnf) (by conv => lhs; whnf) ty43 ty5 rfl rfl (by conv => lhs; whnf) (by first | exact .inl rfl | exact .inr ⟨rfl, rfl⟩) (by conv => lhs; whnf) (by first | exact .inr rfl | exact .inl rfl) (List.nil_append _) (fit_map g18)) (by decide) ?_
    obtain ⟨x19, hx19, h⟩ := bnd_some h
    refine alD (some 33) rfl rfl (does_frz (d := 32) (n := 0) (by conv => lhs; whnf) (do_callG (bcs := []) [] [] [(32, 0)] 33 false (batch_Read_ok a1 hx19) rfl ent49 trivial trivial rfl rfl rfl rfl rfl rfl rfl rfl (.inl ⟨⟨_, _, _, rfl⟩, trivial⟩))) (by decide) ?_
    refine alP (some 30) rfl rfl (does_move (v := .tup [.own 33 0, .int .i64 x19.2]) (by exact rfl)) (by decide) ?_
    refine alP (some 34) rfl rfl (does_extract (v := .own 33 0) (by conv => lhs; whnf) (by exact rfl)) (by decide) ?_
    refine alP (some 35) rfl rfl (does_extract (v := .int .i64 x19.2) (by conv => lhs; whnf) (by exact rfl)) (by decide) ?_
    refine alP (some 7) rfl rfl (does_assign (v := .own 33 0) (by exact rfl)) (by decide) ?_
    refine alP (some 8) rfl rfl (does_assign (v := .int .i64 x19.2) (by exact rfl)) (by decide) ?_
    refine al_nil ?_
    refine hK17 _ ?_
    refine aw_seq_k (fun K20 hK20 => ?_)
    refine aw_regL ?_
    refine alP (some 37) rfl rfl (does_move (v := .sl 1 (List.map enc5 a1)) (by exact rfl)) (by decide) ?_
    obtain ⟨x21, hx21, h⟩ := bnd_some h
    refine alD (some 38) rfl rfl (do_call0 38 false (gleaningref1_ReadBatch_ok a1 hx21) rfl ent50 rfl rfl) (by decide) ?_
    refine alP (some 36) rfl rfl (does_move (v := .tup [.own 38 0, .int .i64 x21.2]) (by exact rfl)) (by decide) ?_
    refine alP (some 39) rfl rfl (does_extract (v := .own 38 0) (by conv => lhs; whnf) (by exact rfl)) (by decide) ?_
    refine alP (some 40) rfl rfl (does_extract (v := .int .i64 x21.2) (by conv => lhs; whnf) (by exact rfl)) (by decide) ?_
    refine alP (some 9) rfl rfl (does_assign (v := .own 38 0) (by exact rfl)) (by decide) ?_
    refine alP (some 10) rfl rfl (does_assign (v := .int .i64 x21.2) (by exact rfl)) (by decide) ?_
    refine al_nil ?_
    refine hK20 _ ?_
    refine aw_seq_k (fun K22 hK22 => ?_)
    refine aw_regL ?_
    refine alP (some 42) rfl rfl (does_move (v := .own 29 0) (by exact rfl)) (by decide) ?_
    obtain ⟨x23, hx23, h⟩ := bnd_some h
    refine alD (some 43) rfl rfl (does_frz (d := 29) (n := 0) (by conv => lhs; whnf) (do_callG (bcs := []) [] [] [(29, 0)] 43 false (batch_Read_ok x16 hx23) rfl ent49 trivial trivial rfl rfl rfl rfl rfl rfl rfl rfl (.inl ⟨⟨_, _, _, rfl⟩, trivial⟩))) (by decide) ?_
    refine alP (some 41) rfl rfl (does_move (v := .tup [.own 43 0, .int .i64 x23.2]) (by exact rfl)) (by decide) ?_
    refine alP (some 44) rfl rfl (does_extract (v := .own 43 0) (by conv => lhs; whnf) (by exact rfl)) (by decide) ?_
    refine alP (some 45) rfl rfl (does_extract (v := .int .i64 x23.2) (by conv => lhs; whnf) (by exact rfl)) (by decide) ?_
    refine alP (some 11) rfl rfl (does_assign (v := .own 43 0) (by exact rfl)) (by decide) ?_
    refine alP (some 12) rfl rfl (does_assign (v := .int .i64 x23.2) (by exact rfl)) (by decide) ?_
    refine al_nil ?_
    refine hK22 _ ?_
    refine aw_seq_k (fun K24 hK24 => ?_)
    refine aw_regd (by kernel_rfl) (by decide +kernel) ?_
    refine aoP (some 46) rfl rfl (does_move (v := .own 29 0) (by exact rfl)) (by decide) ?_
    refine aoR (some 47) rfl rfl (does_bytes_str (l := x16) (f := enc5) (by conv => lhs; whnf) (by conv => lhs; whnf) (Nat.le_refl 1) (ty_slice ty43) (ty_int ty5) (ty_str ty9) (fun _ => rfl)) (by decide) ?_
    refine aoP (some 48) rfl rfl (does_move (v := .sl 10 (List.map enc41 a0)) (by exact rfl)) (by decide) ?_
    obtain ⟨x25, hx25, h⟩ := bnd_some h
    refine aoD (some 49) rfl rfl ((do_call0 49 false (gleaningref1_BatchBytes_ok a0 hx25) rfl ent51 rfl rfl).fx (y := ⟨[], .own 49 0, [((49, 0), some (.arr 5 1 false (List.map enc5 x25)))], [49, 49]⟩) rfl) (by decide) ?_
    refine aoR (some 50) rfl rfl (does_bytes_str (l := x25) (f := enc5) (by conv => lhs; whnf) (by conv => lhs; whnf) (Nat.le_refl 1) (ty_slice ty43) (ty_int ty5) (ty_str ty9) (fun _ => rfl)) (by decide) ?_
    refine aoP (some 51) rfl rfl (does_bin (v := .bool (ByteArray.toList (strOf x16) == ByteArray.toList (strOf x25))) (by conv => lhs; whnf) (by conv => lhs; whnf) rfl) (by decide) ?_
    refine aoP (some 52) rfl rfl (does_move (v := .bool (ByteArray.toList (strOf x16) == ByteArray.toList (strOf x25))) (by exact rfl)) (by decide) ?_
    refine ao_bool (c := (ByteArray.toList (strOf x16) == ByteArray.toList (strOf x25))) 52 rfl (fun c26 => ?_) (fun c26 => ?_)
    · have h := ifT c26 h
      refine aoP (some 53) rfl rfl (does_move (v := .own 33 0) (by exact rfl)) (by decide) ?_
      refine aoP (some 54) rfl rfl (does_move (v := .own 38 0) (by exact rfl)) (by decide) ?_
      obtain ⟨x27, hx27, h⟩ := bnd_some h
      refine aoD (some 55) rfl rfl ((do_callG (bcs := []) [] [] [(33, 0), (38, 0)] 55 false (gleaningref1_SameSpans_ok x19.1 x21.1 hx27) rfl ent52 trivial trivial rfl rfl rfl rfl rfl rfl rfl rfl (.inr ⟨rfl, rfl, trivial⟩)).fx (y := ⟨[(33, 0), (38, 0)], .bool x27, [], [55]⟩) rfl) (by decide) ?_
      refine aoP (some 56) rfl rfl (does_pick (v := .bool x27) (by conv => lhs; whnf) (by exact rfl)) (by decide) ?_
      refine aoP (some 57) rfl rfl (does_move (v := .bool x27) (by exact rfl)) (by decide) ?_
      refine ao_bool (c := x27) 57 rfl (fun c28 => ?_) (fun c28 => ?_)
      · have h := ifT c28 h
        refine aoP (some 58) rfl rfl (does_move (v := .int .i64 x19.2) (by exact rfl)) (by decide) ?_
        obtain ⟨x29, hx29, h⟩ := bnd_some h
        refine aoD (some 59) rfl rfl ((do_call0 59 false (gleaninglaw4_num_ok x19.2 hx29) rfl ent53 rfl rfl).fx (y := ⟨[], .int .i64 x29, [], [59]⟩) rfl) (by decide) ?_
        refine aoP (some 60) rfl rfl (does_move (v := .int .i64 x21.2) (by exact rfl)) (by decide) ?_
        refine aoP (some 61) rfl rfl (does_bin (v := .bool (x29 == x21.2)) (by conv => lhs; whnf) (by conv => lhs; whnf) rfl) (by decide) ?_
        refine aoP (some 62) rfl rfl (does_pick (v := .bool (x29 == x21.2)) (by conv => lhs; whnf) (by exact rfl)) (by decide) ?_
        refine aoP (some 63) rfl rfl (does_move (v := .bool (x29 == x21.2)) (by exact rfl)) (by decide) ?_
        refine ao_bool (c := (x29 == x21.2)) 63 rfl (fun c30 => ?_) (fun c30 => ?_)
        · have h := ifT c30 h
          refine aoP (some 64) rfl rfl (does_move (v := .own 29 0) (by exact rfl)) (by decide) ?_
          refine aoR (some 65) rfl rfl ((does_len_own (by conv => lhs; whnf) (by conv => lhs; whnf) ty43).cast (v' := .int .i64 (List.length x16 : Int)) (by exact len_map _)) (by decide) ?_
          refine aoP (some 66) rfl rfl (does_bin (v := .bool ((List.length x16 : Int) == 0)) (by conv => lhs; whnf) (by conv => lhs; whnf) rfl) (by decide) ?_
          refine aoP (some 67) rfl rfl (does_move (v := .bool ((List.length x16 : Int) == 0)) (by exact rfl)) (by decide) ?_
          refine ao_bool (c := ((List.length x16 : Int) == 0)) 67 rfl (fun c31 => ?_) (fun c31 => ?_)
          · have h := ifT c31 h
            refine aoS (some 68) rfl rfl (by decide) ?_
            refine aoS (some 69) rfl rfl (by decide) ?_
            refine aoS (some 70) rfl rfl (by decide) ?_
            refine aoS (some 71) rfl rfl (by decide) ?_
            refine aoS (some 72) rfl rfl (by decide) ?_
            refine aoS (some 73) rfl rfl (by decide) ?_
            refine aoS (some 74) rfl rfl (by decide) ?_
            refine aoS (some 75) rfl rfl (by decide) ?_
            refine aoP (some 76) rfl rfl (does_pick (v := .bool true) (by conv => lhs; whnf) (by exact rfl)) (by decide) ?_
            refine aoP (some 77) rfl rfl (does_pick (v := .bool true) (by conv => lhs; whnf) (by exact rfl)) (by decide) ?_
            refine aoP (some 4) rfl rfl (does_assign (v := .bool true) (by exact rfl)) (by decide) ?_
            refine ao_nil_d (by kernel_rfl) ?_
            refine hK24 _ ?_
            refine aw_ret ?_
            obtain rfl := Option.some.inj h
            exact ret_ok1 (by conv => lhs; whnf) (by conv => lhs; whnf) (by exact rfl) (.inr rfl) rfl
          · have h := ifF c31 h
            refine aoP (some 68) rfl rfl (does_move (v := .int .i64 x23.2) (by exact rfl)) (by decide) ?_
            obtain ⟨x32, hx32, h⟩ := bnd_some h
            refine aoD (some 69) rfl rfl ((do_call0 69 false (gleaninglaw4_num_ok x23.2 hx32) rfl ent53 rfl rfl).fx (y := ⟨[], .int .i64 x32, [], [69]⟩) rfl) (by decide) ?_
            refine aoP (some 70) rfl rfl (does_bin (v := .bool (x32 == 0)) (by conv => lhs; whnf) (by conv => lhs; whnf) rfl) (by decide) ?_
            refine aoP (some 71) rfl rfl (does_move (v := .bool (x32 == 0)) (by exact rfl)) (by decide) ?_
            refine ao_bool (c := (x32 == 0)) 71 rfl (fun c33 => ?_) (fun c33 => ?_)
            · have h := ifT c33 h
              refine aoP (some 72) rfl rfl (does_move (v := .own 43 0) (by exact rfl)) (by decide) ?_
              refine aoP (some 73) rfl rfl (does_move (v := .sl 10 (List.map enc41 a0)) (by exact rfl)) (by decide) ?_
              obtain ⟨x34, hx34, h⟩ := bnd_some h
              refine aoD (some 74) rfl rfl ((do_callG (bcs := []) [] [] [(43, 0)] 74 false (gleaningref1_SameSpans_ok x23.1 a0 hx34) rfl ent52 trivial trivial rfl rfl rfl rfl rfl rfl rfl rfl (.inr ⟨rfl, rfl, trivial⟩)).fx (y := ⟨[(43, 0)], .bool x34, [], [74]⟩) rfl) (by decide) ?_
              refine aoP (some 75) rfl rfl (does_pick (v := .bool x34) (by conv => lhs; whnf) (by exact rfl)) (by decide) ?_
              refine aoP (some 76) rfl rfl (does_pick (v := .bool x34) (by conv => lhs; whnf) (by exact rfl)) (by decide) ?_
              refine aoP (some 77) rfl rfl (does_pick (v := .bool x34) (by conv => lhs; whnf) (by exact rfl)) (by decide) ?_
              refine aoP (some 4) rfl rfl (does_assign (v := .bool x34) (by exact rfl)) (by decide) ?_
              refine ao_nil_d (by kernel_rfl) ?_
              refine hK24 _ ?_
              refine aw_ret ?_
              obtain rfl := Option.some.inj h
              exact ret_ok1 (by conv => lhs; whnf) (by conv => lhs; whnf) (by exact rfl) (.inr rfl) rfl
            · have h := ifF c33 h
              refine aoS (some 72) rfl rfl (by decide) ?_
              refine aoS (some 73) rfl rfl (by decide) ?_
              refine aoS (some 74) rfl rfl (by decide) ?_
              refine aoP (some 75) rfl rfl (does_pick (v := .bool false) (by conv => lhs; whnf) (by exact rfl)) (by decide) ?_
              refine aoP (some 76) rfl rfl (does_pick (v := .bool false) (by conv => lhs; whnf) (by exact rfl)) (by decide) ?_
              refine aoP (some 77) rfl rfl (does_pick (v := .bool false) (by conv => lhs; whnf) (by exact rfl)) (by decide) ?_
              refine aoP (some 4) rfl rfl (does_assign (v := .bool false) (by exact rfl)) (by decide) ?_
              refine ao_nil_d (by kernel_rfl) ?_
              refine hK24 _ ?_
              refine aw_ret ?_
              obtain rfl := Option.some.inj h
              exact ret_ok1 (by conv => lhs; whnf) (by conv => lhs; whnf) (by exact rfl) (.inr rfl) rfl
        · have h := ifF c30 h
          refine aoS (some 64) rfl rfl (by decide) ?_
          refine aoS (some 65) rfl rfl (by decide) ?_
          refine aoS (some 66) rfl rfl (by decide) ?_
          refine aoS (some 67) rfl rfl (by decide) ?_
          refine aoS (some 68) rfl rfl (by decide) ?_
          refine aoS (some 69) rfl rfl (by decide) ?_
          refine aoS (some 70) rfl rfl (by decide) ?_
          refine aoS (some 71) rfl rfl (by decide) ?_
          refine aoS (some 72) rfl rfl (by decide) ?_
          refine aoS (some 73) rfl rfl (by decide) ?_
          refine aoS (some 74) rfl rfl (by decide) ?_
          refine aoS (some 75) rfl rfl (by decide) ?_
          refine aoS (some 76) rfl rfl (by decide) ?_
          refine aoP (some 77) rfl rfl (does_pick (v := .bool false) (by conv => lhs; whnf) (by exact rfl)) (by decide) ?_
          refine aoP (some 4) rfl rfl (does_assign (v := .bool false) (by exact rfl)) (by decide) ?_
          refine ao_nil_d (by kernel_rfl) ?_
          refine hK24 _ ?_
          refine aw_ret ?_
          obtain rfl := Option.some.inj h
          exact ret_ok1 (by conv => lhs; whnf) (by conv => lhs; whnf) (by exact rfl) (.inr rfl) rfl
      · have h := ifF c28 h
        refine aoS (some 58) rfl rfl (by decide) ?_
        refine aoS (some 59) rfl rfl (by decide) ?_
        refine aoS (some 60) rfl rfl (by decide) ?_
        refine aoS (some 61) rfl rfl (by decide) ?_
        refine aoP (some 62) rfl rfl (does_pick (v := .bool false) (by conv => lhs; whnf) (by exact rfl)) (by decide) ?_
        refine aoP (some 63) rfl rfl (does_move (v := .bool false) (by exact rfl)) (by decide) ?_
        refine aoS (some 64) rfl rfl (by decide) ?_
        refine aoS (some 65) rfl rfl (by decide) ?_
        refine aoS (some 66) rfl rfl (by decide) ?_
        refine aoS (some 67) rfl rfl (by decide) ?_
        refine aoS (some 68) rfl rfl (by decide) ?_
        refine aoS (some 69) rfl rfl (by decide) ?_
        refine aoS (some 70) rfl rfl (by decide) ?_
        refine aoS (some 71) rfl rfl (by decide) ?_
        refine aoS (some 72) rfl rfl (by decide) ?_
        refine aoS (some 73) rfl rfl (by decide) ?_
        refine aoS (some 74) rfl rfl (by decide) ?_
        refine aoS (some 75) rfl rfl (by decide) ?_
        refine aoS (some 76) rfl rfl (by decide) ?_
        refine aoP (some 77) rfl rfl (does_pick (v := .bool false) (by conv => lhs; whnf) (by exact rfl)) (by decide) ?_
        refine aoP (some 4) rfl rfl (does_assign (v := .bool false) (by exact rfl)) (by decide) ?_
        refine ao_nil_d (by kernel_rfl) ?_
        refine hK24 _ ?_
        refine aw_ret ?_
        obtain rfl := Option.some.inj h
        exact ret_ok1 (by conv => lhs; whnf) (by conv => lhs; whnf) (by exact rfl) (.inr rfl) rfl
    · have h := ifF c26 h
      refine aoS (some 53) rfl rfl (by decide) ?_
      refine aoS (some 54) rfl rfl (by decide) ?_
      refine aoS (some 55) rfl rfl (by decide) ?_
      refine aoP (some 56) rfl rfl (does_pick (v := .bool false) (by conv => lhs; whnf) (by exact rfl)) (by decide) ?_
      refine aoP (some 57) rfl rfl (does_move (v := .bool false) (by exact rfl)) (by decide) ?_
      refine aoS (some 58) rfl rfl (by decide) ?_
      refine aoS (some 59) rfl rfl (by decide) ?_
      refine aoS (some 60) rfl rfl (by decide) ?_
      refine aoS (some 61) rfl rfl (by decide) ?_
      refine aoP (some 62) rfl rfl (does_pick (v := .bool false) (by conv => lhs; whnf) (by exact rfl)) (by decide) ?_
      refine aoP (some 63) rfl rfl (does_move (v := .bool false) (by exact rfl)) (by decide) ?_
      refine aoS (some 64) rfl rfl (by decide) ?_
      refine aoS (some 65) rfl rfl (by decide) ?_
      refine aoS (some 66) rfl rfl (by decide) ?_
      refine aoS (some 67) rfl rfl (by decide) ?_
      refine aoS (some 68) rfl rfl (by decide) ?_
      refine aoS (some 69) rfl rfl (by decide) ?_
      refine aoS (some 70) rfl rfl (by decide) ?_
      refine aoS (some 71) rfl rfl (by decide) ?_
      refine aoS (some 72) rfl rfl (by decide) ?_
      refine aoS (some 73) rfl rfl (by decide) ?_
      refine aoS (some 74) rfl rfl (by decide) ?_
      refine aoS (some 75) rfl rfl (by decide) ?_
      refine aoS (some 76) rfl rfl (by decide) ?_
      refine aoP (some 77) rfl rfl (does_pick (v := .bool false) (by conv => lhs; whnf) (by exact rfl)) (by decide) ?_
      refine aoP (some 4) rfl rfl (does_assign (v := .bool false) (by exact rfl)) (by decide) ?_
      refine ao_nil_d (by kernel_rfl) ?_
      refine hK24 _ ?_
      refine aw_ret ?_
      obtain rfl := Option.some.inj h
      exact ret_ok1 (by conv => lhs; whnf) (by conv => lhs; whnf) (by exact rfl) (.inr rfl) rfl
theorem sh43 : ∀ (m : Nat) (cs : List PV), Shape Try.prog m 43 cs → ∃ a : List UInt8, cs = [.sl 1 (List.map enc5 a)] ∧ ((List.length a) ≤ maxLen) := fun m cs h => shape_bytes h Try.underlying43 Try.underlying5 (by kernel_rfl)
end Go.Proofs.Ytbfmmaabaenhgaa.Ab
