/- Chapter 3: spans as bytes, the document. -/
import Derived.Test.YtbfmmaabaenhgaaXSpan1
import Derived.Test.YtbfmmaabaenhgaaProg
namespace Go.Proofs.Ytbfmmaabaenhgaa.Ab
open Go Go.RowKit
set_option linter.unusedVariables false
set_option linter.unusedSimpArgs false
theorem ent28 : Ent Try.prog 28 := ⟨_, Try.func28, by kernel_rfl, rfl⟩
theorem ent62 : Ent Try.prog 62 := ⟨_, Try.func62, by kernel_rfl, rfl⟩
theorem ent67 : Ent Try.prog 67 := ⟨_, Try.func67, by kernel_rfl, rfl⟩
theorem ent68 : Ent Try.prog 68 := ⟨_, Try.func68, by kernel_rfl, rfl⟩
theorem ent82 : Ent Try.prog 82 := ⟨_, Try.func82, by kernel_rfl, rfl⟩
theorem ent105 : Ent Try.prog 105 := ⟨_, Try.func105, by kernel_rfl, rfl⟩
theorem ent106 : Ent Try.prog 106 := ⟨_, Try.func106, by kernel_rfl, rfl⟩
theorem ent107 : Ent Try.prog 107 := ⟨_, Try.func107, by kernel_rfl, rfl⟩
def gleaningref1_Within (a0 : Int) (a1 : Int) (a2 : Int) : Option Bool :=
  if (decide (a1 ≤ a0)) = true then (some (decide (a0 ≤ a2))) else (some false)
set_option maxRecDepth 100000 in
set_option maxHeartbeats 8000000 in
/-- gleaning/gleaningref1.Within -/
theorem gleaningref1_Within_ok (a0 : Int) (a1 : Int) (a2 : Int) {r : Bool} (h : gleaningref1_Within a0 a1 a2 = some r) : Ok Try.prog 62 [.int .i64 a0, .int .i64 a1, .int .i64 a2] [] [] (.bool r) [] [] := by
  unfold gleaningref1_Within at h
  refine ok_of_code Try.func62 rfl (by show (3 : Nat) ≤ _; decide) (Nat.le_refl _) fun X => ?_
  refine aw_seq_k (fun K1 hK1 => ?_)
  refine aw_regL ?_
  refine alP (some 6) rfl rfl (does_assign (v := .bool false) (by exact rfl)) (by decide) ?_
  refine al_nil ?_
  refine hK1 _ ?_
  refine aw_seq_k (fun K2 hK2 => ?_)
  refine aw_regL ?_
  refine alP (some 7) rfl rfl (does_move (v := .int .i64 a0) (by exact rfl)) (by decide) ?_
  refine alP (some 8) rfl rfl (does_move (v := .int .i64 a1) (by exact rfl)) (by decide) ?_
  refine alP (some 9) rfl rfl (does_bin (v := .bool (decide (a1 ≤ a0))) (by conv => lhs; whnf) (by conv => lhs; whnf) rfl) (by decide) ?_
  refine alP (some 10) rfl rfl (does_move (v := .bool (decide (a1 ≤ a0))) (by exact rfl)) (by decide) ?_
  refine al_bool (c := (decide (a1 ≤ a0))) 10 rfl (fun c3 => ?_) (fun c3 => ?_)
  · have h := ifT c3 h
    refine alP (some 11) rfl rfl (does_move (v := .int .i64 a0) (by exact rfl)) (by decide) ?_
    refine alP (some 12) rfl rfl (does_move (v := .int .i64 a2) (by exact rfl)) (by decide) ?_
    refine alP (some 13) rfl rfl (does_bin (v := .bool (decide (a0 ≤ a2))) (by conv => lhs; whnf) (by conv => lhs; whnf) rfl) (by decide) ?_
    refine alP (some 14) rfl rfl (does_pick (v := .bool (decide (a0 ≤ a2))) (by conv => lhs; whnf) (by exact rfl)) (by decide) ?_
    refine alP (some 6) rfl rfl (does_assign (v := .bool (decide (a0 ≤ a2))) (by exact rfl)) (by decide) ?_
    refine al_nil ?_
    refine hK2 _ ?_
    refine aw_ret ?_
    obtain rfl := Option.some.inj h
    exact ret_ok1 (by conv => lhs; whnf) (by conv => lhs; whnf) (by exact rfl) (.inr rfl) rfl
  · have h := ifF c3 h
    refine alS (some 11) rfl rfl (by decide) ?_
    refine alS (some 12) rfl rfl (by decide) ?_
    refine alS (some 13) rfl rfl (by decide) ?_
    refine alP (some 14) rfl rfl (does_pick (v := .bool false) (by conv => lhs; whnf) (by exact rfl)) (by decide) ?_
    refine alP (some 6) rfl rfl (does_assign (v := .bool false) (by exact rfl)) (by decide) ?_
    refine al_nil ?_
    refine hK2 _ ?_
    refine aw_ret ?_
    obtain rfl := Option.some.inj h
    exact ret_ok1 (by conv => lhs; whnf) (by conv => lhs; whnf) (by exact rfl) (.inr rfl) rfl
def gleaningref1_RightSpan_l3 (a0 : Span) (v3_1 : Int) (v4_3 : Int) : Option (Int ⊕ (Int ⊕ Bool)) :=
  if (decide (v4_3 < v3_1)) = true then (gd (0 ≤ v4_3) (Option.bind (a0.Attrs[(Int.toNat v4_3)]?) (fun (x48 : Attr) => gd (0 ≤ v3_1) (Option.bind (a0.Attrs[(Int.toNat v3_1)]?) (fun (x50 : Attr) => if (ByteArray.toList x48.Key == ByteArray.toList x50.Key) = true then (some (Sum.inr (Sum.inr false))) else (some (Sum.inl (IntKind.i64.wrap (v4_3 + 1))))))))) else (some (Sum.inr (Sum.inl (IntKind.i64.wrap (v3_1 + 1)))))
def gleaningref1_RightSpan_k2 (a0 : Span) (v3_1 : Int) : Option (Int ⊕ Bool) :=
  loopN (fun (s : Int) => gleaningref1_RightSpan_l3 a0 v3_1 s) Fu 0
def gleaningref1_RightSpan_l1 (a0 : Span) (v3_1 : Int) : Option (Int ⊕ Bool) :=
  if (decide (v3_1 < (List.length a0.Attrs : Int))) = true then (Option.bind (gd (0 ≤ v3_1) (Option.bind (a0.Attrs[(Int.toNat v3_1)]?) (fun (x31 : Attr) => Option.bind (gleaningref1_Within (ByteArray.size x31.Key : Int) 1 16) (fun (x32 : Bool) => if (!x32) = true then (some (Sum.inr (Sum.inr false))) else (gd (0 ≤ v3_1) (Option.bind (a0.Attrs[(Int.toNat v3_1)]?) (fun (x36 : Attr) => if (decide ((16 : Int) < (ByteArray.size x36.Value : Int))) = true then (some (Sum.inr (Sum.inr false))) else (some (Sum.inl ()))))))))) (Sum.elim (fun (s : Unit) => gleaningref1_RightSpan_k2 a0 v3_1) some)) else (some (Sum.inr true))
def gleaningref1_RightSpan_k0 (a0 : Span) : Option Bool :=
  loopN (fun (s : Int) => gleaningref1_RightSpan_l1 a0 s) Fu 0
def gleaningref1_RightSpan (a0 : Span) : Option Bool :=
  Option.bind (Option.bind (gleaningref1_Within (ByteArray.size a0.Service : Int) 1 16) (fun (x5 : Bool) => if (!x5) = true then (some (Sum.inr false)) else (Option.bind (gleaningref1_Within (ByteArray.size a0.Op : Int) 1 16) (fun (x8 : Bool) => if (!x8) = true then (some (Sum.inr false)) else (Option.bind (gleaningref1_Within a0.Start 0 1099511627776) (fun (x11 : Bool) => if (!x11) = true then (some (Sum.inr false)) else (Option.bind (gleaningref1_Within a0.Dur 0 1073741824) (fun (x14 : Bool) => if (!x14) = true then (some (Sum.inr false)) else (if (decide ((4 : Int) < (List.length a0.Attrs : Int))) = true then (some (Sum.inr false)) else (some (Sum.inl ()))))))))))) (Sum.elim (fun (s : Unit) => gleaningref1_RightSpan_k0 a0) some)
set_option maxRecDepth 100000 in
set_option maxHeartbeats 8000000 in
/-- gleaning/gleaningref1.RightSpan -/
theorem gleaningref1_RightSpan_ok (a0 : Span) {r : Bool} (h : gleaningref1_RightSpan a0 = some r) : Ok Try.prog 28 [.agg [.int .u64 a0.Trace.Hi, .int .u64 a0.Trace.Lo, .int .u64 a0.Id, .int .u64 a0.Parent, .str a0.Service, .str a0.Op, .int .i64 a0.Start, .int .i64 a0.Dur, .bool a0.Err, .sl 2 (List.map enc52 a0.Attrs)]] [] [] (.bool r) [] [] := by
  unfold gleaningref1_RightSpan at h
  refine ok_of_code Try.func28 rfl (by show (1 : Nat) ≤ _; decide) (Nat.le_refl _) fun X => ?_
  refine aw_seq_k (fun K1 hK1 => ?_)
  refine aw_regL ?_
  refine alD (some 1) rfl rfl (do_box (by conv => lhs; whnf) rfl rfl) (by decide) ?_
  refine alP (some 2) rfl rfl (does_assign (v := .bool false) (by exact rfl)) (by decide) ?_
  refine al_nil ?_
  refine hK1 _ ?_
  obtain ⟨q2, h, hk3⟩ := bnd_some h
  refine aw_cut (fun s => gleaningref1_RightSpan_k0 a0 = some r ∧ s = lit [(1, .ptr 1 0 0)] [((1, 0), .box [.int .u64 a0.Trace.Hi, .int .u64 a0.Trace.Lo, .int .u64 a0.Id, .int .u64 a0.Parent, .str a0.Service, .str a0.Op, .int .i64 a0.Start, .int .i64 a0.Dur, .bool a0.Err, .sl 2 (List.map enc52 a0.Attrs)])] [(1, 1)] X) ?_ ?_
  · skip
    refine aw_seq_k (fun K4 hK4 => ?_)
    refine aw_regL ?_
    refine alP (some 5) rfl rfl (does_fieldAddr (q := .ptr 1 0 4) (by conv => lhs; whnf) ty42 rfl ty9 (by decide) (by exact rfl)) (by decide) ?_
    refine alR (some 6) rfl rfl (does_load (v := .str a0.Service) (by conv => lhs; whnf) (by conv => lhs; whnf) ty9 (by exact rfl)) (by decide) ?_
    refine alP (some 7) rfl rfl (does_len_str (by conv => lhs; whnf) ty9) (by decide) ?_
    obtain ⟨x5, hx5, h⟩ := bnd_some h
    refine alD (some 8) rfl rfl ((do_call0 8 false (gleaningref1_Within_ok (ByteArray.size a0.Service : Int) 1 16 hx5) rfl ent62 rfl rfl).fx (y := ⟨[], .bool x5, [], [8]⟩) rfl) (by decide) ?_
    refine alP (some 9) rfl rfl (does_un (v := .bool (!x5)) (by conv => lhs; whnf) rfl) (by decide) ?_
    refine alP (some 10) rfl rfl (does_move (v := .bool (!x5)) (by exact rfl)) (by decide) ?_
    refine al_bool (c := (!x5)) 10 rfl (fun c6 => ?_) (fun c6 => ?_)
    · have h := ifT c6 h
      refine alS (some 11) rfl rfl (by decide) ?_
      refine alS (some 12) rfl rfl (by decide) ?_
      refine alS (some 13) rfl rfl (by decide) ?_
      refine alS (some 14) rfl rfl (by decide) ?_
      refine alS (some 15) rfl rfl (by decide) ?_
      refine alP (some 16) rfl rfl (does_pick (v := .bool true) (by conv => lhs; whnf) (by exact rfl)) (by decide) ?_
      refine alP (some 17) rfl rfl (does_move (v := .bool true) (by exact rfl)) (by decide) ?_
      refine alS (some 18) rfl rfl (by decide) ?_
      refine alS (some 19) rfl rfl (by decide) ?_
      refine alS (some 20) rfl rfl (by decide) ?_
      refine alS (some 21) rfl rfl (by decide) ?_
      refine alP (some 22) rfl rfl (does_pick (v := .bool true) (by conv => lhs; whnf) (by exact rfl)) (by decide) ?_
      refine alP (some 23) rfl rfl (does_move (v := .bool true) (by exact rfl)) (by decide) ?_
      refine alS (some 24) rfl rfl (by decide) ?_
      refine alS (some 25) rfl rfl (by decide) ?_
      refine alS (some 26) rfl rfl (by decide) ?_
      refine alS (some 27) rfl rfl (by decide) ?_
      refine alP (some 28) rfl rfl (does_pick (v := .bool true) (by conv => lhs; whnf) (by exact rfl)) (by decide) ?_
      refine alP (some 29) rfl rfl (does_move (v := .bool true) (by exact rfl)) (by decide) ?_
      refine alS (some 30) rfl rfl (by decide) ?_
      refine alS (some 31) rfl rfl (by decide) ?_
      refine alS (some 32) rfl rfl (by decide) ?_
      refine alS (some 33) rfl rfl (by decide) ?_
      refine alP (some 34) rfl rfl (does_pick (v := .bool true) (by conv => lhs; whnf) (by exact rfl)) (by decide) ?_
      refine al_nil ?_
      refine hK4 _ ?_
      refine aw_cond_t (by decide) rfl ?_
      refine aw_seq_k (fun K7 hK7 => ?_)
      refine aw_regL ?_
      refine alP (some 2) rfl rfl (does_assign (v := .bool false) (by exact rfl)) (by decide) ?_
      refine al_nil ?_
      refine hK7 _ ?_
      refine aw_ret ?_
      have h := leafR h hk3
      obtain rfl := Option.some.inj h
      exact ret_ok1 (by conv => lhs; whnf) (by conv => lhs; whnf) (by exact rfl) (.inr rfl) rfl
    · have h := ifF c6 h
      refine alP (some 11) rfl rfl (does_fieldAddr (q := .ptr 1 0 5) (by conv => lhs; whnf) ty42 rfl ty9 (by decide) (by exact rfl)) (by decide) ?_
      refine alR (some 12) rfl rfl (does_load (v := .str a0.Op) (by conv => lhs; whnf) (by conv => lhs; whnf) ty9 (by exact rfl)) (by decide) ?_
      refine alP (some 13) rfl rfl (does_len_str (by conv => lhs; whnf) ty9) (by decide) ?_
      obtain ⟨x8, hx8, h⟩ := bnd_some h
      refine alD (some 14) rfl rfl ((do_call0 14 false (gleaningref1_Within_ok (ByteArray.size a0.Op : Int) 1 16 hx8) rfl ent62 rfl rfl).fx (y := ⟨[], .bool x8, [], [14]⟩) rfl) (by decide) ?_
      refine alP (some 15) rfl rfl (does_un (v := .bool (!x8)) (by conv => lhs; whnf) rfl) (by decide) ?_
      refine alP (some 16) rfl rfl (does_pick (v := .bool (!x8)) (by conv => lhs; whnf) (by exact rfl)) (by decide) ?_
      refine alP (some 17) rfl rfl (does_move (v := .bool (!x8)) (by exact rfl)) (by decide) ?_
      refine al_bool (c := (!x8)) 17 rfl (fun c9 => ?_) (fun c9 => ?_)
      · have h := ifT c9 h
        refine alS (some 18) rfl rfl (by decide) ?_
        refine alS (some 19) rfl rfl (by decide) ?_
        refine alS (some 20) rfl rfl (by decide) ?_
        refine alS (some 21) rfl rfl (by decide) ?_
        refine alP (some 22) rfl rfl (does_pick (v := .bool true) (by conv => lhs; whnf) (by exact rfl)) (by decide) ?_
        refine alP (some 23) rfl rfl (does_move (v := .bool true) (by exact rfl)) (by decide) ?_
        refine alS (some 24) rfl rfl (by decide) ?_
        refine alS (some 25) rfl rfl (by decide) ?_
        refine alS (some 26) rfl rfl (by decide) ?_
        refine alS (some 27) rfl rfl (by decide) ?_
        refine alP (some 28) rfl rfl (does_pick (v := .bool true) (by conv => lhs; whnf) (by exact rfl)) (by decide) ?_
        refine alP (some 29) rfl rfl (does_move (v := .bool true) (by exact rfl)) (by decide) ?_
        refine alS (some 30) rfl rfl (by decide) ?_
        refine alS (some 31) rfl rfl (by decide) ?_
        refine alS (some 32) rfl rfl (by decide) ?_
        refine alS (some 33) rfl rfl (by decide) ?_
        refine alP (some 34) rfl rfl (does_pick (v := .bool true) (by conv => lhs; whnf) (by exact rfl)) (by decide) ?_
        refine al_nil ?_
        refine hK4 _ ?_
        refine aw_cond_t (by decide) rfl ?_
        refine aw_seq_k (fun K10 hK10 => ?_)
        refine aw_regL ?_
        refine alP (some 2) rfl rfl (does_assign (v := .bool false) (by exact rfl)) (by decide) ?_
        refine al_nil ?_
        refine hK10 _ ?_
        refine aw_ret ?_
        have h := leafR h hk3
        obtain rfl := Option.some.inj h
        exact ret_ok1 (by conv => lhs; whnf) (by conv => lhs; whnf) (by exact rfl) (.inr rfl) rfl
      · have h := ifF c9 h
        refine alP (some 18) rfl rfl (does_fieldAddr (q := .ptr 1 0 6) (by conv => lhs; whnf) ty42 rfl ty3 (by decide) (by exact rfl)) (by decide) ?_
        refine alR (some 19) rfl rfl (does_load (v := .int .i64 a0.Start) (by conv => lhs; whnf) (by conv => lhs; whnf) ty3 (by exact rfl)) (by decide) ?_
        obtain ⟨x11, hx11, h⟩ := bnd_some h
        refine alD (some 20) rfl rfl ((do_call0 20 false (gleaningref1_Within_ok a0.Start 0 1099511627776 hx11) rfl ent62 rfl rfl).fx (y := ⟨[], .bool x11, [], [20]⟩) rfl) (by decide) ?_
        refine alP (some 21) rfl rfl (does_un (v := .bool (!x11)) (by conv => lhs; whnf) rfl) (by decide) ?_
        refine alP (some 22) rfl rfl (does_pick (v := .bool (!x11)) (by conv => lhs; whnf) (by exact rfl)) (by decide) ?_
        refine alP (some 23) rfl rfl (does_move (v := .bool (!x11)) (by exact rfl)) (by decide) ?_
        refine al_bool (c := (!x11)) 23 rfl (fun c12 => ?_) (fun c12 => ?_)
        · have h := ifT c12 h
          refine alS (some 24) rfl rfl (by decide) ?_
          refine alS (some 25) rfl rfl (by decide) ?_
          refine alS (some 26) rfl rfl (by decide) ?_
          refine alS (some 27) rfl rfl (by decide) ?_
          refine alP (some 28) rfl rfl (does_pick (v := .bool true) (by conv => lhs; whnf) (by exact rfl)) (by decide) ?_
          refine alP (some 29) rfl rfl (does_move (v := .bool true) (by exact rfl)) (by decide) ?_
          refine alS (some 30) rfl rfl (by decide) ?_
          refine alS (some 31) rfl rfl (by decide) ?_
          refine alS (some 32) rfl rfl (by decide) ?_
          refine alS (some 33) rfl rfl (by decide) ?_
          refine alP (some 34) rfl rfl (does_pick (v := .bool true) (by conv => lhs; whnf) (by exact rfl)) (by decide) ?_
          refine al_nil ?_
          refine hK4 _ ?_
          refine aw_cond_t (by decide) rfl ?_
          refine aw_seq_k (fun K13 hK13 => ?_)
          refine aw_regL ?_
          refine alP (some 2) rfl rfl (does_assign (v := .bool false) (by exact rfl)) (by decide) ?_
          refine al_nil ?_
          refine hK13 _ ?_
          refine aw_ret ?_
          have h := leafR h hk3
          obtain rfl := Option.some.inj h
          exact ret_ok1 (by conv => lhs; whnf) (by conv => lhs; whnf) (by exact rfl) (.inr rfl) rfl
        · have h := ifF c12 h
          refine alP (some 24) rfl rfl (does_fieldAddr (q := .ptr 1 0 7) (by conv => lhs; whnf) ty42 rfl ty3 (by decide) (by exact rfl)) (by decide) ?_
          refine alR (some 25) rfl rfl (does_load (v := .int .i64 a0.Dur) (by conv => lhs; whnf) (by conv => lhs; whnf) ty3 (by exact rfl)) (by decide) ?_
          obtain ⟨x14, hx14, h⟩ := bnd_some h
          refine alD (some 26) rfl rfl ((do_call0 26 false (gleaningref1_Within_ok a0.Dur 0 1073741824 hx14) rfl ent62 rfl rfl).fx (y := ⟨[], .bool x14, [], [26]⟩) rfl) (by decide) ?_
          refine alP (some 27) rfl rfl (does_un (v := .bool (!x14)) (by conv => lhs; whnf) rfl) (by decide) ?_
          refine alP (some 28) rfl rfl (does_pick (v := .bool (!x14)) (by conv => lhs; whnf) (by exact rfl)) (by decide) ?_
          refine alP (some 29) rfl rfl (does_move (v := .bool (!x14)) (by exact rfl)) (by decide) ?_
          refine al_bool (c := (!x14)) 29 rfl (fun c15 => ?_) (fun c15 => ?_)
          · have h := ifT c15 h
            refine alS (some 30) rfl rfl (by decide) ?_
            refine alS (some 31) rfl rfl (by decide) ?_
            refine alS (some 32) rfl rfl (by decide) ?_
            refine alS (some 33) rfl rfl (by decide) ?_
            refine alP (some 34) rfl rfl (does_pick (v := .bool true) (by conv => lhs; whnf) (by exact rfl)) (by decide) ?_
            refine al_nil ?_
            refine hK4 _ ?_
            refine aw_cond_t (by decide) rfl ?_
            refine aw_seq_k (fun K16 hK16 => ?_)
            refine aw_regL ?_
            refine alP (some 2) rfl rfl (does_assign (v := .bool false) (by exact rfl)) (by decide) ?_
            refine al_nil ?_
            refine hK16 _ ?_
            refine aw_ret ?_
            have h := leafR h hk3
            obtain rfl := Option.some.inj h
            exact ret_ok1 (by conv => lhs; whnf) (by conv => lhs; whnf) (by exact rfl) (.inr rfl) rfl
          · have h := ifF c15 h
            refine alP (some 30) rfl rfl (does_fieldAddr (q := .ptr 1 0 9) (by conv => lhs; whnf) ty42 rfl ty40 (by decide) (by exact rfl)) (by decide) ?_
            refine alR (some 31) rfl rfl (does_load (v := .sl 2 (List.map enc52 a0.Attrs)) (by conv => lhs; whnf) (by conv => lhs; whnf) ty40 (by exact rfl)) (by decide) ?_
            refine alP (some 32) rfl rfl ((does_len_sl (by conv => lhs; whnf) ty40).castp (v' := .int .i64 (List.length a0.Attrs : Int)) (by exact len_map _)) (by decide) ?_
            refine alP (some 33) rfl rfl (does_bin (v := .bool (decide ((4 : Int) < (List.length a0.Attrs : Int)))) (by conv => lhs; whnf) (by conv => lhs; whnf) rfl) (by decide) ?_
            refine alP (some 34) rfl rfl (does_pick (v := .bool (decide ((4 : Int) < (List.length a0.Attrs : Int)))) (by conv => lhs; whnf) (by exact rfl)) (by decide) ?_
            refine al_nil ?_
            refine hK4 _ ?_
            refine aw_bool (b := (decide ((4 : Int) < (List.length a0.Attrs : Int)))) 34 rfl (fun c17 => ?_) (fun c17 => ?_)
            · have h := ifT c17 h
              refine aw_cond_t (by decide) rfl ?_
              refine aw_seq_k (fun K18 hK18 => ?_)
              refine aw_regL ?_
              refine alP (some 2) rfl rfl (does_assign (v := .bool false) (by exact rfl)) (by decide) ?_
              refine al_nil ?_
              refine hK18 _ ?_
              refine aw_ret ?_
              have h := leafR h hk3
              obtain rfl := Option.some.inj h
              exact ret_ok1 (by conv => lhs; whnf) (by conv => lhs; whnf) (by exact rfl) (.inr rfl) rfl
            · have h := ifF c17 h
              refine aw_cond_f (by decide) rfl ?_
              refine aw_skip ?_
              have h := leafL h hk3
              exact ⟨_, reb_lit [(1, .ptr 1 0 0)] [(1, 0)] [((1, 0), .box [.int .u64 a0.Trace.Hi, .int .u64 a0.Trace.Lo, .int .u64 a0.Id, .int .u64 a0.Parent, .str a0.Service, .str a0.Op, .int .i64 a0.Start, .int .i64 a0.Dur, .bool a0.Err, .sl 2 (List.map enc52 a0.Attrs)])] [(1, 1)] (envOk_cons (by conv => lhs; whnf) (by exact rfl) envOk_nil) (objOk_cons (by conv => lhs; whnf) (by conv => lhs; whnf) (by exact rfl) (by simp) objOk_nil) (nodup_b rfl) (nodup_b rfl) rfl rfl, h, rfl⟩
  · rintro s ⟨h, rfl⟩
    unfold gleaningref1_RightSpan_k0 at h
    refine aw_seq_k (fun K19 hK19 => ?_)
    refine aw_seq_k (fun K20 hK20 => ?_)
    refine aw_regL ?_
    refine alP (some 3) rfl rfl (does_assign (v := .int .i64 0) (by exact rfl)) (by decide) ?_
    refine al_nil ?_
    refine hK20 _ ?_
    refine aw_block ?_
    refine aw_loop' (fun m s => ∃ (v3_1 : Int), loopN (fun (s : Int) => gleaningref1_RightSpan_l1 a0 s) m v3_1 = some r ∧ s = lit [(1, .ptr 1 0 0), (3, .int .i64 v3_1)] [((1, 0), .box [.int .u64 a0.Trace.Hi, .int .u64 a0.Trace.Lo, .int .u64 a0.Id, .int .u64 a0.Parent, .str a0.Service, .str a0.Op, .int .i64 a0.Start, .int .i64 a0.Dur, .bool a0.Err, .sl 2 (List.map enc52 a0.Attrs)])] [(1, 1)] X) Fu
      ⟨_, reb_lit [(1, .ptr 1 0 0), (3, .int .i64 (0))] [(1, 0)] [((1, 0), .box [.int .u64 a0.Trace.Hi, .int .u64 a0.Trace.Lo, .int .u64 a0.Id, .int .u64 a0.Parent, .str a0.Service, .str a0.Op, .int .i64 a0.Start, .int .i64 a0.Dur, .bool a0.Err, .sl 2 (List.map enc52 a0.Attrs)])] [(1, 1)] (envOk_cons (by conv => lhs; whnf) (by exact rfl) (envOk_cons (by conv => lhs; whnf) (by exact rfl) envOk_nil)) (objOk_cons (by conv => lhs; whnf) (by conv => lhs; whnf) (by exact rfl) (by simp) objOk_nil) (nodup_b rfl) (nodup_b rfl) rfl rfl, 0, h, rfl⟩ ?_
    rintro m s ⟨v3_1, h, rfl⟩
    obtain ⟨m1, q21, rfl, h, hq22⟩ := loop_some h
    replace h : gleaningref1_RightSpan_l1 a0 v3_1 = some q21 := h
    unfold gleaningref1_RightSpan_l1 at h
    refine aw_seq_k (fun K23 hK23 => ?_)
    refine aw_seq_k (fun K24 hK24 => ?_)
    refine aw_regL ?_
    refine alP (some 35) rfl rfl (does_move (v := .int .i64 v3_1) (by exact rfl)) (by decide) ?_
    refine alP (some 36) rfl rfl (does_fieldAddr (q := .ptr 1 0 9) (by conv => lhs; whnf) ty42 rfl ty40 (by decide) (by exact rfl)) (by decide) ?_
    refine alR (some 37) rfl rfl (does_load (v := .sl 2 (List.map enc52 a0.Attrs)) (by conv => lhs; whnf) (by conv => lhs; whnf) ty40 (by exact rfl)) (by decide) ?_
    refine alP (some 38) rfl rfl ((does_len_sl (by conv => lhs; whnf) ty40).castp (v' := .int .i64 (List.length a0.Attrs : Int)) (by exact len_map _)) (by decide) ?_
    refine alP (some 39) rfl rfl (does_bin (v := .bool (decide (v3_1 < (List.length a0.Attrs : Int)))) (by conv => lhs; whnf) (by conv => lhs; whnf) rfl) (by decide) ?_
    refine al_nil ?_
    refine hK24 _ ?_
    refine aw_bool (b := (decide (v3_1 < (List.length a0.Attrs : Int)))) 39 rfl (fun c25 => ?_) (fun c25 => ?_)
    · have h := ifT c25 h
      refine aw_cond_t (by decide) rfl ?_
      refine aw_skip ?_
      refine hK23 _ ?_
      refine aw_seq_k (fun K26 hK26 => ?_)
      refine aw_block ?_
      obtain ⟨q27, h, hk28⟩ := bnd_some h
      refine aw_cut (fun s => gleaningref1_RightSpan_k2 a0 v3_1 = some q21 ∧ s = lit [(1, .ptr 1 0 0), (3, .int .i64 v3_1)] [((1, 0), .box [.int .u64 a0.Trace.Hi, .int .u64 a0.Trace.Lo, .int .u64 a0.Id, .int .u64 a0.Parent, .str a0.Service, .str a0.Op, .int .i64 a0.Start, .int .i64 a0.Dur, .bool a0.Err, .sl 2 (List.map enc52 a0.Attrs)])] [(1, 1)] X) ?_ ?_
      · skip
        refine aw_seq_k (fun K29 hK29 => ?_)
        refine aw_regL ?_
        refine alP (some 42) rfl rfl (does_fieldAddr (q := .ptr 1 0 9) (by conv => lhs; whnf) ty42 rfl ty40 (by decide) (by exact rfl)) (by decide) ?_
        refine alR (some 43) rfl rfl (does_load (v := .sl 2 (List.map enc52 a0.Attrs)) (by conv => lhs; whnf) (by conv => lhs; whnf) ty40 (by exact rfl)) (by decide) ?_
        refine alP (some 44) rfl rfl (does_move (v := .int .i64 v3_1) (by exact rfl)) (by decide) ?_
        obtain ⟨g30, h⟩ := gd_some h
        obtain ⟨x31, hx31, h⟩ := bnd_some h
        refine alP (some 45) rfl rfl (does_indexAddr_sl (el := .agg [.str x31.Key, .str x31.Value]) (by conv => lhs; whnf) (by conv => lhs; whnf) ty40 ty53 g30 (by exact map_get hx31)) (by decide) ?_
        refine alP (some 46) rfl rfl (does_fieldAddr (q := .rptr [.str x31.Key, .str x31.Value]) (by conv => lhs; whnf) ty53 rfl ty9 (by decide) (by exact rfl)) (by decide) ?_
        refine alR (some 47) rfl rfl (does_load (v := .str x31.Key) (by conv => lhs; whnf) (by conv => lhs; whnf) ty9 (by exact rfl)) (by decide) ?_
        refine alP (some 48) rfl rfl (does_len_str (by conv => lhs; whnf) ty9) (by decide) ?_
        obtain ⟨x32, hx32, h⟩ := bnd_some h
        refine alD (some 49) rfl rfl (do_call0 49 false (gleaningref1_Within_ok (ByteArray.size x31.Key : Int) 1 16 hx32) rfl ent62 rfl rfl) (by decide) ?_
        refine alP (some 50) rfl rfl (does_un (v := .bool (!x32)) (by conv => lhs; whnf) rfl) (by decide) ?_
        refine alP (some 51) rfl rfl (does_move (v := .bool (!x32)) (by exact rfl)) (by decide) ?_
        refine al_bool (c := (!x32)) 51 rfl (fun c33 => ?_) (fun c33 => ?_)
        · have h := ifT c33 h
          refine alS (some 52) rfl rfl (by decide) ?_
          refine alS (some 53) rfl rfl (by decide) ?_
          refine alS (some 54) rfl rfl (by decide) ?_
          refine alS (some 55) rfl rfl (by decide) ?_
          refine alS (some 56) rfl rfl (by decide) ?_
          refine alS (some 57) rfl rfl (by decide) ?_
          refine alS (some 58) rfl rfl (by decide) ?_
          refine alS (some 59) rfl rfl (by decide) ?_
          refine alP (some 60) rfl rfl (does_pick (v := .bool true) (by conv => lhs; whnf) (by exact rfl)) (by decide) ?_
          refine al_nil ?_
          refine hK29 _ ?_
          refine aw_cond_t (by decide) rfl ?_
          refine aw_seq_k (fun K34 hK34 => ?_)
          refine aw_regL ?_
          refine alP (some 2) rfl rfl (does_assign (v := .bool false) (by exact rfl)) (by decide) ?_
          refine al_nil ?_
          refine hK34 _ ?_
          refine aw_ret ?_
          have h := leafR h hk28
          have h := leafR h hq22
          obtain rfl := Option.some.inj h
          exact ret_ok1 (by conv => lhs; whnf) (by conv => lhs; whnf) (by exact rfl) (.inr rfl) rfl
        · have h := ifF c33 h
          refine alP (some 52) rfl rfl (does_fieldAddr (q := .ptr 1 0 9) (by conv => lhs; whnf) ty42 rfl ty40 (by decide) (by exact rfl)) (by decide) ?_
          refine alR (some 53) rfl rfl (does_load (v := .sl 2 (List.map enc52 a0.Attrs)) (by conv => lhs; whnf) (by conv => lhs; whnf) ty40 (by exact rfl)) (by decide) ?_
          refine alP (some 54) rfl rfl (does_move (v := .int .i64 v3_1) (by exact rfl)) (by decide) ?_
          obtain ⟨g35, h⟩ := gd_some h
          obtain ⟨x36, hx36, h⟩ := bnd_some h
          refine alP (some 55) rfl rfl (does_indexAddr_sl (el := .agg [.str x36.Key, .str x36.Value]) (by conv => lhs; whnf) (by conv => lhs; whnf) ty40 ty53 g35 (by exact map_get hx36)) (by decide) ?_
          refine alP (some 56) rfl rfl (does_fieldAddr (q := .rptr [.str x36.Value]) (by conv => lhs; whnf) ty53 rfl ty9 (by decide) (by exact rfl)) (by decide) ?_
          refine alR (some 57) rfl rfl (does_load (v := .str x36.Value) (by conv => lhs; whnf) (by conv => lhs; whnf) ty9 (by exact rfl)) (by decide) ?_
          refine alP (some 58) rfl rfl (does_len_str (by conv => lhs; whnf) ty9) (by decide) ?_
          refine alP (some 59) rfl rfl (does_bin (v := .bool (decide ((16 : Int) < (ByteArray.size x36.Value : Int)))) (by conv => lhs; whnf) (by conv => lhs; whnf) rfl) (by decide) ?_
          refine alP (some 60) rfl rfl (does_pick (v := .bool (decide ((16 : Int) < (ByteArray.size x36.Value : Int)))) (by conv => lhs; whnf) (by exact rfl)) (by decide) ?_
          refine al_nil ?_
          refine hK29 _ ?_
          refine aw_bool (b := (decide ((16 : Int) < (ByteArray.size x36.Value : Int)))) 60 rfl (fun c37 => ?_) (fun c37 => ?_)
          · have h := ifT c37 h
            refine aw_cond_t (by decide) rfl ?_
            refine aw_seq_k (fun K38 hK38 => ?_)
            refine aw_regL ?_
            refine alP (some 2) rfl rfl (does_assign (v := .bool false) (by exact rfl)) (by decide) ?_
            refine al_nil ?_
            refine hK38 _ ?_
            refine aw_ret ?_
            have h := leafR h hk28
            have h := leafR h hq22
            obtain rfl := Option.some.inj h
            exact ret_ok1 (by conv => lhs; whnf) (by conv => lhs; whnf) (by exact rfl) (.inr rfl) rfl
          · have h := ifF c37 h
            refine aw_cond_f (by decide) rfl ?_
            refine aw_skip ?_
            have h := leafL h hk28
            exact ⟨_, reb_lit [(1, .ptr 1 0 0), (3, .int .i64 v3_1)] [(1, 0)] [((1, 0), .box [.int .u64 a0.Trace.Hi, .int .u64 a0.Trace.Lo, .int .u64 a0.Id, .int .u64 a0.Parent, .str a0.Service, .str a0.Op, .int .i64 a0.Start, .int .i64 a0.Dur, .bool a0.Err, .sl 2 (List.map enc52 a0.Attrs)])] [(1, 1)] (envOk_cons (by conv => lhs; whnf) (by exact rfl) (envOk_cons (by conv => lhs; whnf) (by exact rfl) envOk_nil)) (objOk_cons (by conv => lhs; whnf) (by conv => lhs; whnf) (by exact rfl) (by simp) objOk_nil) (nodup_b rfl) (nodup_b rfl) rfl rfl, h, rfl⟩
      · rintro s ⟨h, rfl⟩
        unfold gleaningref1_RightSpan_k2 at h
        refine aw_seq_k (fun K39 hK39 => ?_)
        refine aw_regL ?_
        refine alP (some 4) rfl rfl (does_assign (v := .int .i64 0) (by exact rfl)) (by decide) ?_
        refine al_nil ?_
        refine hK39 _ ?_
        refine aw_block ?_
        refine aw_loop' (fun m s => ∃ (v4_3 : Int), loopN (fun (s : Int) => gleaningref1_RightSpan_l3 a0 v3_1 s) m v4_3 = some q21 ∧ s = lit [(1, .ptr 1 0 0), (3, .int .i64 v3_1), (4, .int .i64 v4_3)] [((1, 0), .box [.int .u64 a0.Trace.Hi, .int .u64 a0.Trace.Lo, .int .u64 a0.Id, .int .u64 a0.Parent, .str a0.Service, .str a0.Op, .int .i64 a0.Start, .int .i64 a0.Dur, .bool a0.Err, .sl 2 (List.map enc52 a0.Attrs)])] [(1, 1)] X) Fu
          ⟨_, reb_lit [(1, .ptr 1 0 0), (3, .int .i64 v3_1), (4, .int .i64 (0))] [(1, 0)] [((1, 0), .box [.int .u64 a0.Trace.Hi, .int .u64 a0.Trace.Lo, .int .u64 a0.Id, .int .u64 a0.Parent, .str a0.Service, .str a0.Op, .int .i64 a0.Start, .int .i64 a0.Dur, .bool a0.Err, .sl 2 (List.map enc52 a0.Attrs)])] [(1, 1)] (envOk_cons (by conv => lhs; whnf) (by exact rfl) (envOk_cons (by conv => lhs; whnf) (by exact rfl) (envOk_cons (by conv => lhs; whnf) (by exact rfl) envOk_nil))) (objOk_cons (by conv => lhs; whnf) (by conv => lhs; whnf) (by exact rfl) (by simp) objOk_nil) (nodup_b rfl) (nodup_b rfl) rfl rfl, 0, h, rfl⟩ ?_
        rintro m s ⟨v4_3, h, rfl⟩
        obtain ⟨m3, q40, rfl, h, hq41⟩ := loop_some h
        replace h : gleaningref1_RightSpan_l3 a0 v3_1 v4_3 = some q40 := h
        unfold gleaningref1_RightSpan_l3 at h
        refine aw_seq_k (fun K42 hK42 => ?_)
        refine aw_seq_k (fun K43 hK43 => ?_)
        refine aw_regL ?_
        refine alP (some 61) rfl rfl (does_move (v := .int .i64 v4_3) (by exact rfl)) (by decide) ?_
        refine alP (some 62) rfl rfl (does_move (v := .int .i64 v3_1) (by exact rfl)) (by decide) ?_
        refine alP (some 63) rfl rfl (does_bin (v := .bool (decide (v4_3 < v3_1))) (by conv => lhs; whnf) (by conv => lhs; whnf) rfl) (by decide) ?_
        refine al_nil ?_
        refine hK43 _ ?_
        refine aw_bool (b := (decide (v4_3 < v3_1))) 63 rfl (fun c44 => ?_) (fun c44 => ?_)
        · have h := ifT c44 h
          refine aw_cond_t (by decide) rfl ?_
          refine aw_skip ?_
          refine hK42 _ ?_
          refine aw_seq_k (fun K45 hK45 => ?_)
          refine aw_block ?_
          refine aw_seq_k (fun K46 hK46 => ?_)
          refine aw_regd (by kernel_rfl) (by decide +kernel) ?_
          refine aoP (some 66) rfl rfl (does_fieldAddr (q := .ptr 1 0 9) (by conv => lhs; whnf) ty42 rfl ty40 (by decide) (by exact rfl)) (by decide) ?_
          refine aoR (some 67) rfl rfl (does_load (v := .sl 2 (List.map enc52 a0.Attrs)) (by conv => lhs; whnf) (by conv => lhs; whnf) ty40 (by exact rfl)) (by decide) ?_
          refine aoP (some 68) rfl rfl (does_move (v := .int .i64 v4_3) (by exact rfl)) (by decide) ?_
          obtain ⟨g47, h⟩ := gd_some h
          obtain ⟨x48, hx48, h⟩ := bnd_some h
          refine aoP (some 69) rfl rfl (does_indexAddr_sl (el := .agg [.str x48.Key, .str x48.Value]) (by conv => lhs; whnf) (by conv => lhs; whnf) ty40 ty53 g47 (by exact map_get hx48)) (by decide) ?_
          refine aoP (some 70) rfl rfl (does_fieldAddr (q := .rptr [.str x48.Key, .str x48.Value]) (by conv => lhs; whnf) ty53 rfl ty9 (by decide) (by exact rfl)) (by decide) ?_
          refine aoR (some 71) rfl rfl (does_load (v := .str x48.Key) (by conv => lhs; whnf) (by conv => lhs; whnf) ty9 (by exact rfl)) (by decide) ?_
          refine aoP (some 72) rfl rfl (does_fieldAddr (q := .ptr 1 0 9) (by conv => lhs; whnf) ty42 rfl ty40 (by decide) (by exact rfl)) (by decide) ?_
          refine aoR (some 73) rfl rfl (does_load (v := .sl 2 (List.map enc52 a0.Attrs)) (by conv => lhs; whnf) (by conv => lhs; whnf) ty40 (by exact rfl)) (by decide) ?_
          refine aoP (some 74) rfl rfl (does_move (v := .int .i64 v3_1) (by exact rfl)) (by decide) ?_
          obtain ⟨g49, h⟩ := gd_some h
          obtain ⟨x50, hx50, h⟩ := bnd_some h
          refine aoP (some 75) rfl rfl (does_indexAddr_sl (el := .agg [.str x50.Key, .str x50.Value]) (by conv => lhs; whnf) (by conv => lhs; whnf) ty40 ty53 g49 (by exact map_get hx50)) (by decide) ?_
          refine aoP (some 76) rfl rfl (does_fieldAddr (q := .rptr [.str x50.Key, .str x50.Value]) (by conv => lhs; whnf) ty53 rfl ty9 (by decide) (by exact rfl)) (by decide) ?_
          refine aoR (some 77) rfl rfl (does_load (v := .str x50.Key) (by conv => lhs; whnf) (by conv => lhs; whnf) ty9 (by exact rfl)) (by decide) ?_
          refine aoP (some 78) rfl rfl (does_bin (v := .bool (ByteArray.toList x48.Key == ByteArray.toList x50.Key)) (by conv => lhs; whnf) (by conv => lhs; whnf) rfl) (by decide) ?_
          refine ao_nil_d (by kernel_rfl) ?_
          refine hK46 _ ?_
          refine aw_bool (b := (ByteArray.toList x48.Key == ByteArray.toList x50.Key)) 78 rfl (fun c51 => ?_) (fun c51 => ?_)
          · have h := ifT c51 h
            refine aw_cond_t (by decide) rfl ?_
            refine aw_seq_k (fun K52 hK52 => ?_)
            refine aw_regL ?_
            refine alP (some 2) rfl rfl (does_assign (v := .bool false) (by exact rfl)) (by decide) ?_
            refine al_nil ?_
            refine hK52 _ ?_
            refine aw_ret ?_
            have h := leafR h hq41
            have h := leafR h hq22
            obtain rfl := Option.some.inj h
            exact ret_ok1 (by conv => lhs; whnf) (by conv => lhs; whnf) (by exact rfl) (.inr rfl) rfl
          · have h := ifF c51 h
            refine aw_cond_f (by decide) rfl ?_
            refine aw_skip ?_
            refine hK45 _ ?_
            refine aw_regL ?_
            refine alP (some 64) rfl rfl (does_move (v := .int .i64 v4_3) (by exact rfl)) (by decide) ?_
            refine alP (some 65) rfl rfl (does_bin (v := .int .i64 (IntKind.i64.wrap (v4_3 + 1))) (by conv => lhs; whnf) (by conv => lhs; whnf) rfl) (by decide) ?_
            refine alP (some 4) rfl rfl (does_assign (v := .int .i64 (IntKind.i64.wrap (v4_3 + 1))) (by exact rfl)) (by decide) ?_
            refine al_nil ?_
            have h := leafL h hq41
            exact ⟨m3, Nat.lt_succ_self _, _, reb_lit [(1, .ptr 1 0 0), (3, .int .i64 v3_1), (4, .int .i64 (IntKind.i64.wrap (v4_3 + 1)))] [(1, 0)] [((1, 0), .box [.int .u64 a0.Trace.Hi, .int .u64 a0.Trace.Lo, .int .u64 a0.Id, .int .u64 a0.Parent, .str a0.Service, .str a0.Op, .int .i64 a0.Start, .int .i64 a0.Dur, .bool a0.Err, .sl 2 (List.map enc52 a0.Attrs)])] [(1, 1)] (envOk_cons (by conv => lhs; whnf) (by exact rfl) (envOk_cons (by conv => lhs; whnf) (by exact rfl) (envOk_cons (by conv => lhs; whnf) (by exact rfl) envOk_nil))) (objOk_cons (by conv => lhs; whnf) (by conv => lhs; whnf) (by exact rfl) (by simp) objOk_nil) (nodup_b rfl) (nodup_b rfl) rfl rfl, (IntKind.i64.wrap (v4_3 + 1)), h, rfl⟩
        · have h := ifF c44 h
          refine aw_cond_f (by decide) rfl ?_
          refine aw_exit ?_
          have h := leafR h hq41
          refine hK26 _ ?_
          refine aw_regL ?_
          refine alP (some 40) rfl rfl (does_move (v := .int .i64 v3_1) (by exact rfl)) (by decide) ?_
          refine alP (some 41) rfl rfl (does_bin (v := .int .i64 (IntKind.i64.wrap (v3_1 + 1))) (by conv => lhs; whnf) (by conv => lhs; whnf) rfl) (by decide) ?_
          refine alP (some 3) rfl rfl (does_assign (v := .int .i64 (IntKind.i64.wrap (v3_1 + 1))) (by exact rfl)) (by decide) ?_
          refine al_nil ?_
          have h := leafL h hq22
          exact ⟨m1, Nat.lt_succ_self _, _, reb_lit [(1, .ptr 1 0 0), (3, .int .i64 (IntKind.i64.wrap (v3_1 + 1)))] [(1, 0)] [((1, 0), .box [.int .u64 a0.Trace.Hi, .int .u64 a0.Trace.Lo, .int .u64 a0.Id, .int .u64 a0.Parent, .str a0.Service, .str a0.Op, .int .i64 a0.Start, .int .i64 a0.Dur, .bool a0.Err, .sl 2 (List.map enc52 a0.Attrs)])] [(1, 1)] (envOk_cons (by conv => lhs; whnf) (by exact rfl) (envOk_cons (by conv => lhs; whnf) (by exact rfl) envOk_nil)) (objOk_cons (by conv => lhs; whnf) (by conv => lhs; whnf) (by exact rfl) (by simp) objOk_nil) (nodup_b rfl) (nodup_b rfl) rfl rfl, (IntKind.i64.wrap (v3_1 + 1)), h, rfl⟩
    · have h := ifF c25 h
      refine aw_cond_f (by decide) rfl ?_
      refine aw_exit ?_
      have h := leafR h hq22
      refine hK19 _ ?_
      refine aw_seq_k (fun K53 hK53 => ?_)
      refine aw_regL ?_
      refine alP (some 2) rfl rfl (does_assign (v := .bool true) (by exact rfl)) (by decide) ?_
      refine al_nil ?_
      refine hK53 _ ?_
      refine aw_ret ?_
      obtain rfl := Option.some.inj h
      exact ret_ok1 (by conv => lhs; whnf) (by conv => lhs; whnf) (by exact rfl) (.inr rfl) rfl
def gleaningref1_Bit (a0 : Bool) : Option Int :=
  if a0 = true then (some 1) else (some 0)
set_option maxRecDepth 100000 in
set_option maxHeartbeats 8000000 in
/-- gleaning/gleaningref1.Bit -/
theorem gleaningref1_Bit_ok (a0 : Bool) {r : Int} (h : gleaningref1_Bit a0 = some r) : Ok Try.prog 107 [.bool a0] [] [] (.int .u64 r) [] [] := by
  unfold gleaningref1_Bit at h
  refine ok_of_code Try.func107 rfl (by show (1 : Nat) ≤ _; decide) (Nat.le_refl _) fun X => ?_
  refine aw_seq_k (fun K1 hK1 => ?_)
  refine aw_regL ?_
  refine alP (some 2) rfl rfl (does_assign (v := .int .u64 0) (by exact rfl)) (by decide) ?_
  refine al_nil ?_
  refine hK1 _ ?_
  refine aw_seq_k (fun K2 hK2 => ?_)
  refine aw_seq_k (fun K3 hK3 => ?_)
  refine aw_regL ?_
  refine alP (some 3) rfl rfl (does_move (v := .bool a0) (by exact rfl)) (by decide) ?_
  refine al_nil ?_
  refine hK3 _ ?_
  refine aw_bool (b := a0) 3 rfl (fun c4 => ?_) (fun c4 => ?_)
  · have h := ifT c4 h
    refine aw_cond_t (by decide) rfl ?_
    refine aw_seq_k (fun K5 hK5 => ?_)
    refine aw_regL ?_
    refine alP (some 2) rfl rfl (does_assign (v := .int .u64 1) (by exact rfl)) (by decide) ?_
    refine al_nil ?_
    refine hK5 _ ?_
    refine aw_ret ?_
    obtain rfl := Option.some.inj h
    exact ret_ok1 (by conv => lhs; whnf) (by conv => lhs; whnf) (by exact rfl) (.inr rfl) rfl
  · have h := ifF c4 h
    refine aw_cond_f (by decide) rfl ?_
    refine aw_skip ?_
    refine hK2 _ ?_
    refine aw_seq_k (fun K6 hK6 => ?_)
    refine aw_regL ?_
    refine alP (some 2) rfl rfl (does_assign (v := .int .u64 0) (by exact rfl)) (by decide) ?_
    refine al_nil ?_
    refine hK6 _ ?_
    refine aw_ret ?_
    obtain rfl := Option.some.inj h
    exact ret_ok1 (by conv => lhs; whnf) (by conv => lhs; whnf) (by exact rfl) (.inr rfl) rfl
def gleaningref1_AddSpan_l0 (a1 : Span) (v0_s_0 : List UInt8) (v5_0 : Int) : Option ((List UInt8 × Int) ⊕ (List UInt8)) :=
  if (decide (v5_0 < (List.length a1.Attrs : Int))) = true then (gd (0 ≤ v5_0) (Option.bind (a1.Attrs[(Int.toNat v5_0)]?) (fun (x26 : Attr) => Option.bind (gleaningref1_Text v0_s_0 x26.Key) (fun (x27 : List UInt8) => gd (0 ≤ v5_0) (Option.bind (a1.Attrs[(Int.toNat v5_0)]?) (fun (x29 : Attr) => Option.bind (gleaningref1_Text x27 x29.Value) (fun (x30 : List UInt8) => some (Sum.inl (x30, (IntKind.i64.wrap (v5_0 + 1))))))))))) else (some (Sum.inr v0_s_0))
def gleaningref1_AddSpan (a0 : List UInt8) (a1 : Span) : Option (List UInt8) :=
  Option.bind (gleaningref1_Put a0 a1.Trace.Hi) (fun (x3 : List UInt8) => Option.bind (gleaningref1_Put x3 a1.Trace.Lo) (fun (x4 : List UInt8) => Option.bind (gleaningref1_Put x4 a1.Id) (fun (x5 : List UInt8) => Option.bind (gleaningref1_Put x5 a1.Parent) (fun (x6 : List UInt8) => Option.bind (gleaningref1_Text x6 a1.Service) (fun (x8 : List UInt8) => Option.bind (gleaningref1_Text x8 a1.Op) (fun (x9 : List UInt8) => Option.bind (gleaningref1_Put x9 (IntKind.u64.wrap a1.Start)) (fun (x11 : List UInt8) => Option.bind (gleaningref1_Put x11 (IntKind.u64.wrap a1.Dur)) (fun (x12 : List UInt8) => Option.bind (gleaningref1_Bit a1.Err) (fun (x13 : Int) => Option.bind (gleaningref1_Put x12 x13) (fun (x14 : List UInt8) => Option.bind (gleaningref1_Put x14 (IntKind.u64.wrap (List.length a1.Attrs : Int))) (fun (x16 : List UInt8) => loopN (fun (s : List UInt8 × Int) => gleaningref1_AddSpan_l0 a1 s.1 s.2) Fu (x16, 0))))))))))))
set_option maxRecDepth 100000 in
set_option maxHeartbeats 8000000 in
/-- gleaning/gleaningref1.AddSpan -/
theorem gleaningref1_AddSpan_ok (a0 : List UInt8) (a1 : Span) {r : List UInt8} (h : gleaningref1_AddSpan a0 a1 = some r) : Ok Try.prog 68 [.own 1 0, .agg [.int .u64 a1.Trace.Hi, .int .u64 a1.Trace.Lo, .int .u64 a1.Id, .int .u64 a1.Parent, .str a1.Service, .str a1.Op, .int .i64 a1.Start, .int .i64 a1.Dur, .bool a1.Err, .sl 2 (List.map enc52 a1.Attrs)]] [] [(5, 1, List.map enc5 a0)] (.own 2 0) [] [(5, 1, List.map enc5 r)] := by
  unfold gleaningref1_AddSpan at h
  refine ok_of_code Try.func68 rfl (by show (2 : Nat) ≤ _; decide) (Nat.le_refl _) fun X => ?_
  refine aw_seq_k (fun K1 hK1 => ?_)
  refine aw_regL ?_
  refine alD (some 3) rfl rfl (do_box (by conv => lhs; whnf) rfl rfl) (by decide) ?_
  refine alP (some 4) rfl rfl (does_assign (v := .nil) (by exact rfl)) (by decide) ?_
  refine al_nil ?_
  refine hK1 _ ?_
  refine aw_seq_k (fun K2 hK2 => ?_)
  refine aw_regd (by kernel_rfl) (by decide +kernel) ?_
  refine aoP (some 6) rfl rfl (does_move (v := .own 1 0) (by exact rfl)) (by decide) ?_
  refine aoP (some 7) rfl rfl (does_fieldAddr (q := .ptr 3 0 0) (by conv => lhs; whnf) ty42 rfl ty27 (by decide) (by exact rfl)) (by decide) ?_
  refine aoP (some 8) rfl rfl (does_fieldAddr (q := .ptr 3 0 0) (by conv => lhs; whnf) ty27 rfl ty25 (by decide) (by exact rfl)) (by decide) ?_
  refine aoR (some 9) rfl rfl (does_load (v := .int .u64 a1.Trace.Hi) (by conv => lhs; whnf) (by conv => lhs; whnf) ty25 (by exact rfl)) (by decide) ?_
  obtain ⟨x3, hx3, h⟩ := bnd_some h
  refine aoD (some 10) rfl rfl (do_callG (bcs := []) [] [(1, 0)] [] 10 false (gleaningref1_Put_ok a0 a1.Trace.Hi hx3) rfl ent84 trivial (rowsOk_cons (by conv => lhs; whnf) (by exact rfl) trivial) rfl rfl rfl rfl rfl rfl rfl rfl (.inr ⟨rfl, rfl, ⟨plain_map (fun _ => rfl), trivial⟩⟩)) (by decide) ?_
  refine aoP (some 11) rfl rfl (does_fieldAddr (q := .ptr 3 0 0) (by conv => lhs; whnf) ty42 rfl ty27 (by decide) (by exact rfl)) (by decide) ?_
  refine aoP (some 12) rfl rfl (does_fieldAddr (q := .ptr 3 0 1) (by conv => lhs; whnf) ty27 rfl ty25 (by decide) (by exact rfl)) (by decide) ?_
  refine aoR (some 13) rfl rfl (does_load (v := .int .u64 a1.Trace.Lo) (by conv => lhs; whnf) (by conv => lhs; whnf) ty25 (by exact rfl)) (by decide) ?_
  obtain ⟨x4, hx4, h⟩ := bnd_some h
  refine aoD (some 14) rfl rfl (do_callG (bcs := []) [] [(10, 0)] [] 14 false (gleaningref1_Put_ok x3 a1.Trace.Lo hx4) rfl ent84 trivial (rowsOk_cons (by conv => lhs; whnf) (by exact rfl) trivial) rfl rfl rfl rfl rfl rfl rfl rfl (.inr ⟨rfl, rfl, ⟨plain_map (fun _ => rfl), trivial⟩⟩)) (by decide) ?_
  refine aoP (some 15) rfl rfl (does_fieldAddr (q := .ptr 3 0 2) (by conv => lhs; whnf) ty42 rfl ty25 (by decide) (by exact rfl)) (by decide) ?_
  refine aoR (some 16) rfl rfl (does_load (v := .int .u64 a1.Id) (by conv => lhs; whnf) (by conv => lhs; whnf) ty25 (by exact rfl)) (by decide) ?_
  obtain ⟨x5, hx5, h⟩ := bnd_some h
  refine aoD (some 17) rfl rfl (do_callG (bcs := []) [] [(14, 0)] [] 17 false (gleaningref1_Put_ok x4 a1.Id hx5) rfl ent84 trivial (rowsOk_cons (by conv => lhs; whnf) (by exact rfl) trivial) rfl rfl rfl rfl rfl rfl rfl rfl (.inr ⟨rfl, rfl, ⟨plain_map (fun _ => rfl), trivial⟩⟩)) (by decide) ?_
  refine aoP (some 18) rfl rfl (does_fieldAddr (q := .ptr 3 0 3) (by conv => lhs; whnf) ty42 rfl ty25 (by decide) (by exact rfl)) (by decide) ?_
  refine aoR (some 19) rfl rfl (does_load (v := .int .u64 a1.Parent) (by conv => lhs; whnf) (by conv => lhs; whnf) ty25 (by exact rfl)) (by decide) ?_
  obtain ⟨x6, hx6, h⟩ := bnd_some h
  refine aoD (some 20) rfl rfl (do_callG (bcs := []) [] [(17, 0)] [] 20 false (gleaningref1_Put_ok x5 a1.Parent hx6) rfl ent84 trivial (rowsOk_cons (by conv => lhs; whnf) (by exact rfl) trivial) rfl rfl rfl rfl rfl rfl rfl rfl (.inr ⟨rfl, rfl, ⟨plain_map (fun _ => rfl), trivial⟩⟩)) (by decide) ?_
  refine aoP (some 0) rfl rfl (does_assign (v := .own 20 0) (by exact rfl)) (by decide) ?_
  refine ao_nil_d (by kernel_rfl) ?_
  refine hK2 _ ?_
  refine aw_seq_k (fun K7 hK7 => ?_)
  refine aw_regd (by kernel_rfl) (by decide +kernel) ?_
  refine aoP (some 21) rfl rfl (does_move (v := .own 20 0) (by exact rfl)) (by decide) ?_
  refine aoP (some 22) rfl rfl (does_fieldAddr (q := .ptr 3 0 4) (by conv => lhs; whnf) ty42 rfl ty9 (by decide) (by exact rfl)) (by decide) ?_
  refine aoR (some 23) rfl rfl (does_load (v := .str a1.Service) (by conv => lhs; whnf) (by conv => lhs; whnf) ty9 (by exact rfl)) (by decide) ?_
  obtain ⟨x8, hx8, h⟩ := bnd_some h
  refine aoD (some 24) rfl rfl (do_callG (bcs := []) [] [(20, 0)] [] 24 false (gleaningref1_Text_ok x6 a1.Service hx8) rfl ent106 trivial (rowsOk_cons (by conv => lhs; whnf) (by exact rfl) trivial) rfl rfl rfl rfl rfl rfl rfl rfl (.inr ⟨rfl, rfl, ⟨plain_map (fun _ => rfl), trivial⟩⟩)) (by decide) ?_
  refine aoP (some 25) rfl rfl (does_fieldAddr (q := .ptr 3 0 5) (by conv => lhs; whnf) ty42 rfl ty9 (by decide) (by exact rfl)) (by decide) ?_
  refine aoR (some 26) rfl rfl (does_load (v := .str a1.Op) (by conv => lhs; whnf) (by conv => lhs; whnf) ty9 (by exact rfl)) (by decide) ?_
  obtain ⟨x9, hx9, h⟩ := bnd_some h
  refine aoD (some 27) rfl rfl (do_callG (bcs := []) [] [(24, 0)] [] 27 false (gleaningref1_Text_ok x8 a1.Op hx9) rfl ent106 trivial (rowsOk_cons (by conv => lhs; whnf) (by exact rfl) trivial) rfl rfl rfl rfl rfl rfl rfl rfl (.inr ⟨rfl, rfl, ⟨plain_map (fun _ => rfl), trivial⟩⟩)) (by decide) ?_
  refine aoP (some 0) rfl rfl (does_assign (v := .own 27 0) (by exact rfl)) (by decide) ?_
  refine ao_nil_d (by kernel_rfl) ?_
  refine hK7 _ ?_
  refine aw_seq_k (fun K10 hK10 => ?_)
  refine aw_regd (by kernel_rfl) (by decide +kernel) ?_
  refine aoP (some 28) rfl rfl (does_move (v := .own 27 0) (by exact rfl)) (by decide) ?_
  refine aoP (some 29) rfl rfl (does_fieldAddr (q := .ptr 3 0 6) (by conv => lhs; whnf) ty42 rfl ty3 (by decide) (by exact rfl)) (by decide) ?_
  refine aoR (some 30) rfl rfl (does_load (v := .int .i64 a1.Start) (by conv => lhs; whnf) (by conv => lhs; whnf) ty3 (by exact rfl)) (by decide) ?_
  refine aoP (some 31) rfl rfl (does_conv_int (v := .int .u64 (IntKind.u64.wrap a1.Start)) (by conv => lhs; whnf) (ty_some ty3) (ty_int ty25) rfl) (by decide) ?_
  obtain ⟨x11, hx11, h⟩ := bnd_some h
  refine aoD (some 32) rfl rfl (do_callG (bcs := []) [] [(27, 0)] [] 32 false (gleaningref1_Put_ok x9 (IntKind.u64.wrap a1.Start) hx11) rfl ent84 trivial (rowsOk_cons (by conv => lhs; whnf) (by exact rfl) trivial) rfl rfl rfl rfl rfl rfl rfl rfl (.inr ⟨rfl, rfl, ⟨plain_map (fun _ => rfl), trivial⟩⟩)) (by decide) ?_
  refine aoP (some 33) rfl rfl (does_fieldAddr (q := .ptr 3 0 7) (by conv => lhs; whnf) ty42 rfl ty3 (by decide) (by exact rfl)) (by decide) ?_
  refine aoR (some 34) rfl rfl (does_load (v := .int .i64 a1.Dur) (by conv => lhs; whnf) (by conv => lhs; whnf) ty3 (by exact rfl)) (by decide) ?_
  refine aoP (some 35) rfl rfl (does_conv_int (v := .int .u64 (IntKind.u64.wrap a1.Dur)) (by conv => lhs; whnf) (ty_some ty3) (ty_int ty25) rfl) (by decide) ?_
  obtain ⟨x12, hx12, h⟩ := bnd_some h
  refine aoD (some 36) rfl rfl (do_callG (bcs := []) [] [(32, 0)] [] 36 false (gleaningref1_Put_ok x11 (IntKind.u64.wrap a1.Dur) hx12) rfl ent84 trivial (rowsOk_cons (by conv => lhs; whnf) (by exact rfl) trivial) rfl rfl rfl rfl rfl rfl rfl rfl (.inr ⟨rfl, rfl, ⟨plain_map (fun _ => rfl), trivial⟩⟩)) (by decide) ?_
  refine aoP (some 37) rfl rfl (does_fieldAddr (q := .ptr 3 0 8) (by conv => lhs; whnf) ty42 rfl ty4 (by decide) (by exact rfl)) (by decide) ?_
  refine aoR (some 38) rfl rfl (does_load (v := .bool a1.Err) (by conv => lhs; whnf) (by conv => lhs; whnf) ty4 (by exact rfl)) (by decide) ?_
  obtain ⟨x13, hx13, h⟩ := bnd_some h
  refine aoD (some 39) rfl rfl (do_call0 39 false (gleaningref1_Bit_ok a1.Err hx13) rfl ent107 rfl rfl) (by decide) ?_
  obtain ⟨x14, hx14, h⟩ := bnd_some h
  refine aoD (some 40) rfl rfl (do_callG (bcs := []) [] [(36, 0)] [] 40 false (gleaningref1_Put_ok x12 x13 hx14) rfl ent84 trivial (rowsOk_cons (by conv => lhs; whnf) (by exact rfl) trivial) rfl rfl rfl rfl rfl rfl rfl rfl (.inr ⟨rfl, rfl, ⟨plain_map (fun _ => rfl), trivial⟩⟩)) (by decide) ?_
  refine aoP (some 0) rfl rfl (does_assign (v := .own 40 0) (by exact rfl)) (by decide) ?_
  refine ao_nil_d (by kernel_rfl) ?_
  refine hK10 _ ?_
  refine aw_seq_k (fun K15 hK15 => ?_)
  refine aw_regL ?_
  refine alP (some 41) rfl rfl (does_move (v := .own 40 0) (by exact rfl)) (by decide) ?_
  refine alP (some 42) rfl rfl (does_fieldAddr (q := .ptr 3 0 9) (by conv => lhs; whnf) ty42 rfl ty40 (by decide) (by exact rfl)) (by decide) ?_
  refine alR (some 43) rfl rfl (does_load (v := .sl 2 (List.map enc52 a1.Attrs)) (by conv => lhs; whnf) (by conv => lhs; whnf) ty40 (by exact rfl)) (by decide) ?_
  refine alP (some 44) rfl rfl ((does_len_sl (by conv => lhs; whnf) ty40).castp (v' := .int .i64 (List.length a1.Attrs : Int)) (by exact len_map _)) (by decide) ?_
  refine alP (some 45) rfl rfl (does_conv_int (v := .int .u64 (IntKind.u64.wrap (List.length a1.Attrs : Int))) (by conv => lhs; whnf) (ty_some ty3) (ty_int ty25) rfl) (by decide) ?_
  obtain ⟨x16, hx16, h⟩ := bnd_some h
  refine alD (some 46) rfl rfl (do_callG (bcs := []) [] [(40, 0)] [] 46 false (gleaningref1_Put_ok x14 (IntKind.u64.wrap (List.length a1.Attrs : Int)) hx16) rfl ent84 trivial (rowsOk_cons (by conv => lhs; whnf) (by exact rfl) trivial) rfl rfl rfl rfl rfl rfl rfl rfl (.inr ⟨rfl, rfl, ⟨plain_map (fun _ => rfl), trivial⟩⟩)) (by decide) ?_
  refine alP (some 0) rfl rfl (does_assign (v := .own 46 0) (by exact rfl)) (by decide) ?_
  refine al_nil ?_
  refine hK15 _ ?_
  refine aw_seq_k (fun K17 hK17 => ?_)
  refine aw_seq_k (fun K18 hK18 => ?_)
  refine aw_regL ?_
  refine alP (some 5) rfl rfl (does_assign (v := .int .i64 0) (by exact rfl)) (by decide) ?_
  refine al_nil ?_
  refine hK18 _ ?_
  refine aw_block ?_
  refine aw_loop' (fun m s => ∃ (v0_s_0 : List UInt8), ∃ (v5_0 : Int), loopN (fun (s : List UInt8 × Int) => gleaningref1_AddSpan_l0 a1 s.1 s.2) m (v0_s_0, v5_0) = some r ∧ s = lit [(0, .own 46 0), (3, .ptr 3 0 0), (5, .int .i64 v5_0)] [((46, 0), .arr 5 1 false (List.map enc5 v0_s_0)), ((3, 0), .box [.int .u64 a1.Trace.Hi, .int .u64 a1.Trace.Lo, .int .u64 a1.Id, .int .u64 a1.Parent, .str a1.Service, .str a1.Op, .int .i64 a1.Start, .int .i64 a1.Dur, .bool a1.Err, .sl 2 (List.map enc52 a1.Attrs)])] [(3, 1), (46, 1)] X) Fu
    ⟨_, reb_lit [(0, .own 46 0), (3, .ptr 3 0 0), (5, .int .i64 (0))] [(46, 0), (3, 0)] [((46, 0), .arr 5 1 false (List.map enc5 x16)), ((3, 0), .box [.int .u64 a1.Trace.Hi, .int .u64 a1.Trace.Lo, .int .u64 a1.Id, .int .u64 a1.Parent, .str a1.Service, .str a1.Op, .int .i64 a1.Start, .int .i64 a1.Dur, .bool a1.Err, .sl 2 (List.map enc52 a1.Attrs)])] [(3, 1), (46, 1)] (envOk_cons (by conv => lhs; whnf) (by exact rfl) (envOk_cons (by conv => lhs; whnf) (by exact rfl) (envOk_cons (by conv => lhs; whnf) (by exact rfl) envOk_nil))) (objOk_cons (by conv => lhs; whnf) (by conv => lhs; whnf) (by exact rfl) (by simp) (objOk_cons (by conv => lhs; whnf) (by conv => lhs; whnf) (by exact rfl) (by simp) objOk_nil)) (nodup_b rfl) (nodup_b rfl) rfl rfl, x16, 0, h, rfl⟩ ?_
  rintro m s ⟨v0_s_0, v5_0, h, rfl⟩
  obtain ⟨m0, q19, rfl, h, hq20⟩ := loop_some h
  replace h : gleaningref1_AddSpan_l0 a1 v0_s_0 v5_0 = some q19 := h
  unfold gleaningref1_AddSpan_l0 at h
  refine aw_seq_k (fun K21 hK21 => ?_)
  refine aw_seq_k (fun K22 hK22 => ?_)
  refine aw_regL ?_
  refine alP (some 47) rfl rfl (does_move (v := .int .i64 v5_0) (by exact rfl)) (by decide) ?_
  refine alP (some 48) rfl rfl (does_fieldAddr (q := .ptr 3 0 9) (by conv => lhs; whnf) ty42 rfl ty40 (by decide) (by exact rfl)) (by decide) ?_
  refine alR (some 49) rfl rfl (does_load (v := .sl 2 (List.map enc52 a1.Attrs)) (by conv => lhs; whnf) (by conv => lhs; whnf) ty40 (by exact rfl)) (by decide) ?_
  refine alP (some 50) rfl rfl ((does_len_sl (by conv => lhs; whnf) ty40).castp (v' := .int .i64 (List.length a1.Attrs : Int)) (by exact len_map _)) (by decide) ?_
  refine alP (some 51) rfl rfl (does_bin (v := .bool (decide (v5_0 < (List.length a1.Attrs : Int)))) (by conv => lhs; whnf) (by conv => lhs; whnf) rfl) (by decide) ?_
  refine al_nil ?_
  refine hK22 _ ?_
  refine aw_bool (b := (decide (v5_0 < (List.length a1.Attrs : Int)))) 51 rfl (fun c23 => ?_) (fun c23 => ?_)
  · have h := ifT c23 h
    refine aw_cond_t (by decide) rfl ?_
    refine aw_skip ?_
    refine hK21 _ ?_
    refine aw_seq_k (fun K24 hK24 => ?_)
    refine aw_block ?_
    refine aw_regd (by kernel_rfl) (by decide +kernel) ?_
    refine aoP (some 54) rfl rfl (does_move (v := .own 46 0) (by exact rfl)) (by decide) ?_
    refine aoP (some 55) rfl rfl (does_fieldAddr (q := .ptr 3 0 9) (by conv => lhs; whnf) ty42 rfl ty40 (by decide) (by exact rfl)) (by decide) ?_
    refine aoR (some 56) rfl rfl (does_load (v := .sl 2 (List.map enc52 a1.Attrs)) (by conv => lhs; whnf) (by conv => lhs; whnf) ty40 (by exact rfl)) (by decide) ?_
    refine aoP (some 57) rfl rfl (does_move (v := .int .i64 v5_0) (by exact rfl)) (by decide) ?_
    obtain ⟨g25, h⟩ := gd_some h
    obtain ⟨x26, hx26, h⟩ := bnd_some h
    refine aoP (some 58) rfl rfl (does_indexAddr_sl (el := .agg [.str x26.Key, .str x26.Value]) (by conv => lhs; whnf) (by conv => lhs; whnf) ty40 ty53 g25 (by exact map_get hx26)) (by decide) ?_
    refine aoP (some 59) rfl rfl (does_fieldAddr (q := .rptr [.str x26.Key, .str x26.Value]) (by conv => lhs; whnf) ty53 rfl ty9 (by decide) (by exact rfl)) (by decide) ?_
    refine aoR (some 60) rfl rfl (does_load (v := .str x26.Key) (by conv => lhs; whnf) (by conv => lhs; whnf) ty9 (by exact rfl)) (by decide) ?_
    obtain ⟨x27, hx27, h⟩ := bnd_some h
    refine aoD (some 61) rfl rfl (do_callG (bcs := []) [] [(46, 0)] [] 61 false (gleaningref1_Text_ok v0_s_0 x26.Key hx27) rfl ent106 trivial (rowsOk_cons (by conv => lhs; whnf) (by exact rfl) trivial) rfl rfl rfl rfl rfl rfl rfl rfl (.inr ⟨rfl, rfl, ⟨plain_map (fun _ => rfl), trivial⟩⟩)) (by decide) ?_
    refine aoP (some 62) rfl rfl (does_fieldAddr (q := .ptr 3 0 9) (by conv => lhs; whnf) ty42 rfl ty40 (by decide) (by exact rfl)) (by decide) ?_
    refine aoR (some 63) rfl rfl (does_load (v := .sl 2 (List.map enc52 a1.Attrs)) (by conv => lhs; whnf) (by conv => lhs; whnf) ty40 (by exact rfl)) (by decide) ?_
    refine aoP (some 64) rfl rfl (does_move (v := .int .i64 v5_0) (by exact rfl)) (by decide) ?_
    obtain ⟨g28, h⟩ := gd_some h
    obtain ⟨x29, hx29, h⟩ := bnd_some h
    refine aoP (some 65) rfl rfl (does_indexAddr_sl (el := .agg [.str x29.Key, .str x29.Value]) (by conv => lhs; whnf) (by conv => lhs; whnf) ty40 ty53 g28 (by exact map_get hx29)) (by decide) ?_
    refine aoP (some 66) rfl rfl (does_fieldAddr (q := .rptr [.str x29.Value]) (by conv => lhs; whnf) ty53 rfl ty9 (by decide) (by exact rfl)) (by decide) ?_
    refine aoR (some 67) rfl rfl (does_load (v := .str x29.Value) (by conv => lhs; whnf) (by conv => lhs; whnf) ty9 (by exact rfl)) (by decide) ?_
    obtain ⟨x30, hx30, h⟩ := bnd_some h
    refine aoD (some 68) rfl rfl (do_callG (bcs := []) [] [(61, 0)] [] 68 false (gleaningref1_Text_ok x27 x29.Value hx30) rfl ent106 trivial (rowsOk_cons (by conv => lhs; whnf) (by exact rfl) trivial) rfl rfl rfl rfl rfl rfl rfl rfl (.inr ⟨rfl, rfl, ⟨plain_map (fun _ => rfl), trivial⟩⟩)) (by decide) ?_
    refine aoP (some 0) rfl rfl (does_assign (v := .own 68 0) (by exact rfl)) (by decide) ?_
    refine ao_nil_d (by kernel_rfl) ?_
    refine hK24 _ ?_
    refine aw_regL ?_
    refine alP (some 52) rfl rfl (does_move (v := .int .i64 v5_0) (by exact rfl)) (by decide) ?_
    refine alP (some 53) rfl rfl (does_bin (v := .int .i64 (IntKind.i64.wrap (v5_0 + 1))) (by conv => lhs; whnf) (by conv => lhs; whnf) rfl) (by decide) ?_
    refine alP (some 5) rfl rfl (does_assign (v := .int .i64 (IntKind.i64.wrap (v5_0 + 1))) (by exact rfl)) (by decide) ?_
    refine al_nil ?_
    have h := leafL h hq20
    exact ⟨m0, Nat.lt_succ_self _, _, reb_lit [(0, .own 46 0), (3, .ptr 3 0 0), (5, .int .i64 (IntKind.i64.wrap (v5_0 + 1)))] [(68, 0), (3, 0)] [((46, 0), .arr 5 1 false (List.map enc5 x30)), ((3, 0), .box [.int .u64 a1.Trace.Hi, .int .u64 a1.Trace.Lo, .int .u64 a1.Id, .int .u64 a1.Parent, .str a1.Service, .str a1.Op, .int .i64 a1.Start, .int .i64 a1.Dur, .bool a1.Err, .sl 2 (List.map enc52 a1.Attrs)])] [(3, 1), (46, 1)] (envOk_cons (by conv => lhs; whnf) (by exact rfl) (envOk_cons (by conv => lhs; whnf) (by exact rfl) (envOk_cons (by conv => lhs; whnf) (by exact rfl) envOk_nil))) (objOk_cons (by conv => lhs; whnf) (by conv => lhs; whnf) (by exact rfl) (by simp) (objOk_cons (by conv => lhs; whnf) (by conv => lhs; whnf) (by exact rfl) (by simp) objOk_nil)) (nodup_b rfl) (nodup_b rfl) rfl rfl, x30, (IntKind.i64.wrap (v5_0 + 1)), h, rfl⟩
  · have h := ifF c23 h
    refine aw_cond_f (by decide) rfl ?_
    refine aw_exit ?_
    have h := leafR h hq20
    refine hK17 _ ?_
    refine aw_seq_k (fun K31 hK31 => ?_)
    refine aw_regL ?_
    refine alP (some 69) rfl rfl (does_move (v := .own 46 0) (by exact rfl)) (by decide) ?_
    refine alP (some 4) rfl rfl (does_assign (v := .own 46 0) (by exact rfl)) (by decide) ?_
    refine al_nil ?_
    refine hK31 _ ?_
    refine aw_ret ?_
    obtain rfl := Option.some.inj h
    exact ret_okR [(46, 0)] (by conv => lhs; whnf) (by conv => lhs; whnf) (by exact rfl) (rowsOk_cons (by conv => lhs; whnf) (by exact rfl) trivial) (nodup_b rfl) (.inr rfl) rfl
def gleaningref1_SpanBytes (a0 : Span) : Option (List UInt8) :=
  Option.bind (gleaningref1_RightSpan a0) (fun (x4 : Bool) => if (!x4) = true then (some []) else (Option.bind (gleaningref1_AddSpan [] a0) (fun (x8 : List UInt8) => some x8)))
set_option maxRecDepth 100000 in
set_option maxHeartbeats 8000000 in
/-- gleaning/gleaningref1.SpanBytes -/
theorem gleaningref1_SpanBytes_ok (a0 : Span) {r : List UInt8} (h : gleaningref1_SpanBytes a0 = some r) : Ok Try.prog 36 [.agg [.int .u64 a0.Trace.Hi, .int .u64 a0.Trace.Lo, .int .u64 a0.Id, .int .u64 a0.Parent, .str a0.Service, .str a0.Op, .int .i64 a0.Start, .int .i64 a0.Dur, .bool a0.Err, .sl 2 (List.map enc52 a0.Attrs)]] [] [] (.own 2 0) [] [(5, 1, List.map enc5 r)] := by
  unfold gleaningref1_SpanBytes at h
  refine ok_of_code Try.func36 rfl (by show (1 : Nat) ≤ _; decide) (Nat.le_refl _) fun X => ?_
  refine aw_seq_k (fun K1 hK1 => ?_)
  refine aw_regL ?_
  refine alD (some 1) rfl rfl (do_box (by conv => lhs; whnf) rfl rfl) (by decide) ?_
  refine alP (some 2) rfl rfl (does_assign (v := .nil) (by exact rfl)) (by decide) ?_
  refine al_nil ?_
  refine hK1 _ ?_
  refine aw_seq_k (fun K2 hK2 => ?_)
  refine aw_seq_k (fun K3 hK3 => ?_)
  refine aw_regL ?_
  refine alR (some 3) rfl rfl (does_load (v := .agg [.int .u64 a0.Trace.Hi, .int .u64 a0.Trace.Lo, .int .u64 a0.Id, .int .u64 a0.Parent, .str a0.Service, .str a0.Op, .int .i64 a0.Start, .int .i64 a0.Dur, .bool a0.Err, .sl 2 (List.map enc52 a0.Attrs)]) (by conv => lhs; whnf) (by conv => lhs; whnf) ty42 (by exact rfl)) (by decide) ?_
  obtain ⟨x4, hx4, h⟩ := bnd_some h
  refine alD (some 4) rfl rfl (do_call0 4 false (gleaningref1_RightSpan_ok a0 hx4) rfl ent28 rfl rfl) (by decide) ?_
  refine alP (some 5) rfl rfl (does_un (v := .bool (!x4)) (by conv => lhs; whnf) rfl) (by decide) ?_
  refine al_nil ?_
  refine hK3 _ ?_
  refine aw_bool (b := (!x4)) 5 rfl (fun c5 => ?_) (fun c5 => ?_)
  · have h := ifT c5 h
    refine aw_cond_t (by decide) rfl ?_
    refine aw_seq_k (fun K6 hK6 => ?_)
    refine aw_regL ?_
    refine alP (some 2) rfl rfl (does_assign (v := .nil) (by exact rfl)) (by decide) ?_
    refine al_nil ?_
    refine hK6 _ ?_
    refine aw_nilOwn 2 5 1 (by conv => lhs; whnf) (by decide) (by decide) ?_
    refine aw_ret ?_
    obtain rfl := Option.some.inj h
    exact ret_okR [(2, 0)] (by conv => lhs; whnf) (by conv => lhs; whnf) (by exact rfl) (rowsOk_cons (by conv => lhs; whnf) (by exact rfl) trivial) (nodup_b rfl) (.inr rfl) rfl
  · have h := ifF c5 h
    refine aw_cond_f (by decide) rfl ?_
    refine aw_skip ?_
    refine hK2 _ ?_
    refine aw_seq_k (fun K7 hK7 => ?_)
    refine aw_regL ?_
    refine alR (some 6) rfl rfl (does_load (v := .agg [.int .u64 a0.Trace.Hi, .int .u64 a0.Trace.Lo, .int .u64 a0.Id, .int .u64 a0.Parent, .str a0.Service, .str a0.Op, .int .i64 a0.Start, .int .i64 a0.Dur, .bool a0.Err, .sl 2 (List.map enc52 a0.Attrs)]) (by conv => lhs; whnf) (by conv => lhs; whnf) ty42 (by exact rfl)) (by decide) ?_
    obtain ⟨x8, hx8, h⟩ := bnd_some h
    refine alD (some 7) rfl rfl (do_call0 7 false ((gleaningref1_AddSpan_ok [] a0 hx8).nilRow0) rfl ent68 rfl rfl) (by decide) ?_
    refine alP (some 2) rfl rfl (does_assign (v := .own 7 0) (by exact rfl)) (by decide) ?_
    refine al_nil ?_
    refine hK7 _ ?_
    refine aw_ret ?_
    obtain rfl := Option.some.inj h
    exact ret_okR [(7, 0)] (by conv => lhs; whnf) (by conv => lhs; whnf) (by exact rfl) (rowsOk_cons (by conv => lhs; whnf) (by exact rfl) trivial) (nodup_b rfl) (.inr rfl) rfl
def gleaningref1_Reader_Span_k2 (vb0_s_0_1 : List UInt8) (vb0_s_1_1 : Bool) (v3_s_9_s_1 : List Attr) (v5_1 : Int) : Option ((List UInt8 × Bool × List Attr × Int) ⊕ (List UInt8 × Bool × List Attr)) :=
  Option.bind (gleaningref1_Reader_Text (Reader.mk vb0_s_0_1 vb0_s_1_1)) (fun (x26 : ByteArray × Reader) => Option.bind (gleaningref1_Reader_Text x26.2) (fun (x27 : ByteArray × Reader) => gd ((List.length (v3_s_9_s_1 ++ [(Attr.mk x26.1 x27.1)])) * 32 ≤ 140737488355328 ∧ (List.length (v3_s_9_s_1 ++ [(Attr.mk x26.1 x27.1)])) ≤ 140737488355328) (some (Sum.inl (x27.2.B, x27.2.Bad, (v3_s_9_s_1 ++ [(Attr.mk x26.1 x27.1)]), (IntKind.i64.wrap (v5_1 + 1)))))))
def gleaningref1_Reader_Span_l1 (x14 : Int × Reader) (vb0_s_0_1 : List UInt8) (vb0_s_1_1 : Bool) (v3_s_9_s_1 : List Attr) (v5_1 : Int) : Option ((List UInt8 × Bool × List Attr × Int) ⊕ (List UInt8 × Bool × List Attr)) :=
  Option.bind (if (decide (v5_1 < x14.1)) = true then (if (!vb0_s_1_1) = true then (some (Sum.inl ())) else (some (Sum.inr (Sum.inr (vb0_s_0_1, vb0_s_1_1, v3_s_9_s_1))))) else (some (Sum.inr (Sum.inr (vb0_s_0_1, vb0_s_1_1, v3_s_9_s_1))))) (Sum.elim (fun (s : Unit) => gleaningref1_Reader_Span_k2 vb0_s_0_1 vb0_s_1_1 v3_s_9_s_1 v5_1) some)
def gleaningref1_Reader_Span_k0 (x3 : Int × Reader) (x4 : Int × Reader) (x5 : Int × Reader) (x6 : Int × Reader) (x7 : ByteArray × Reader) (x8 : ByteArray × Reader) (x9 : Int × Reader) (x10 : Int × Reader) (x12 : Int × Reader) (vb0_s_0_0 : List UInt8) (vb0_s_1_0 : Bool) (v3_s_9_s_0 : List Attr) : Option (Span × Reader) :=
  if vb0_s_1_0 = true then (some ((Span.mk (Trace.mk x3.1 x4.1) x5.1 x6.1 x7.1 x8.1 x9.1 x10.1 (x12.1 == 1) v3_s_9_s_0), (Reader.mk vb0_s_0_0 true))) else (Option.bind (gleaningref1_RightSpan (Span.mk (Trace.mk x3.1 x4.1) x5.1 x6.1 x7.1 x8.1 x9.1 x10.1 (x12.1 == 1) v3_s_9_s_0)) (fun (x32 : Bool) => some ((Span.mk (Trace.mk x3.1 x4.1) x5.1 x6.1 x7.1 x8.1 x9.1 x10.1 (x12.1 == 1) v3_s_9_s_0), (Reader.mk vb0_s_0_0 (!x32)))))
def gleaningref1_Reader_Span (a0 : Reader) : Option (Span × Reader) :=
  Option.bind (gleaningref1_Reader_Num a0) (fun (x3 : Int × Reader) => Option.bind (gleaningref1_Reader_Num x3.2) (fun (x4 : Int × Reader) => Option.bind (gleaningref1_Reader_Num x4.2) (fun (x5 : Int × Reader) => Option.bind (gleaningref1_Reader_Num x5.2) (fun (x6 : Int × Reader) => Option.bind (gleaningref1_Reader_Text x6.2) (fun (x7 : ByteArray × Reader) => Option.bind (gleaningref1_Reader_Text x7.2) (fun (x8 : ByteArray × Reader) => Option.bind (gleaningref1_Reader_Int x8.2 1099511627776) (fun (x9 : Int × Reader) => Option.bind (gleaningref1_Reader_Int x9.2 1073741824) (fun (x10 : Int × Reader) => Option.bind (gleaningref1_Reader_Int x10.2 1) (fun (x12 : Int × Reader) => Option.bind (gleaningref1_Reader_Int x12.2 4) (fun (x14 : Int × Reader) => Option.bind (loopN (fun (s : List UInt8 × Bool × List Attr × Int) => gleaningref1_Reader_Span_l1 x14 s.1 s.2.1 s.2.2.1 s.2.2.2) Fu (x14.2.B, x14.2.Bad, [], 0)) (fun (s : List UInt8 × Bool × List Attr) => gleaningref1_Reader_Span_k0 x3 x4 x5 x6 x7 x8 x9 x10 x12 s.1 s.2.1 s.2.2)))))))))))
set_option maxRecDepth 100000 in
set_option maxHeartbeats 8000000 in
/-- (*gleaning/gleaningref1.Reader).Span -/
theorem gleaningref1_Reader_Span_ok (a0 : Reader) {r : Span × Reader} (h : gleaningref1_Reader_Span a0 = some r) : Ok Try.prog 67 [.ptr 0 0 0] [[.sl 1 (List.map enc5 a0.B), .bool a0.Bad]] [] (.agg [.int .u64 r.1.Trace.Hi, .int .u64 r.1.Trace.Lo, .int .u64 r.1.Id, .int .u64 r.1.Parent, .str r.1.Service, .str r.1.Op, .int .i64 r.1.Start, .int .i64 r.1.Dur, .bool r.1.Err, .own 2 0]) [[.sl 1 (List.map enc5 r.2.B), .bool r.2.Bad]] [(53, 2, List.map enc52 r.1.Attrs)] := by
  unfold gleaningref1_Reader_Span at h
  refine ok_of_code Try.func67 rfl (by show (1 : Nat) ≤ _; decide) (Nat.le_refl _) fun X => ?_
  refine aw_seq_k (fun K1 hK1 => ?_)
  refine aw_regL ?_
  refine alD (some 2) rfl rfl (do_new ty42 rfl rfl) (by decide) ?_
  refine al_nil ?_
  refine hK1 _ ?_
  refine aw_seq_k (fun K2 hK2 => ?_)
  refine aw_regL ?_
  refine alP (some 6) rfl rfl (does_move (v := .ptr 0 0 0) (by exact rfl)) (by decide) ?_
  obtain ⟨x3, hx3, h⟩ := bnd_some h
  refine alD (some 7) rfl rfl (do_callG (bcs := [[.sl 1 (List.map enc5 a0.B), .bool a0.Bad]]) [(0, 0)] [] [] 7 false (gleaningref1_Reader_Num_ok a0 hx3) rfl ent104 ⟨(by exact rfl), trivial⟩ trivial rfl rfl rfl rfl rfl rfl rfl rfl (.inl trivial)) (by decide) ?_
  refine alP (some 8) rfl rfl (does_move (v := .ptr 0 0 0) (by exact rfl)) (by decide) ?_
  obtain ⟨x4, hx4, h⟩ := bnd_some h
  refine alD (some 9) rfl rfl (do_callG (bcs := [[.sl 1 (List.map enc5 x3.2.B), .bool x3.2.Bad]]) [(0, 0)] [] [] 9 false (gleaningref1_Reader_Num_ok x3.2 hx4) rfl ent104 ⟨(by exact rfl), trivial⟩ trivial rfl rfl rfl rfl rfl rfl rfl rfl (.inl trivial)) (by decide) ?_
  refine alP (some 10) rfl rfl (do_build_struct (cs := [.int .u64 x3.1, .int .u64 x4.1]) ty27 rfl [⟨.int .u64, 1, 8, [.int .u64 0]⟩, ⟨.int .u64, 1, 8, [.int .u64 0]⟩] (by simp only [List.map, ty25]) (by rfl) (by exact rfl)) (by decide) ?_
  refine alP (some 11) rfl rfl (does_move (v := .ptr 0 0 0) (by exact rfl)) (by decide) ?_
  obtain ⟨x5, hx5, h⟩ := bnd_some h
  refine alD (some 12) rfl rfl (do_callG (bcs := [[.sl 1 (List.map enc5 x4.2.B), .bool x4.2.Bad]]) [(0, 0)] [] [] 12 false (gleaningref1_Reader_Num_ok x4.2 hx5) rfl ent104 ⟨(by exact rfl), trivial⟩ trivial rfl rfl rfl rfl rfl rfl rfl rfl (.inl trivial)) (by decide) ?_
  refine alP (some 13) rfl rfl (does_move (v := .ptr 0 0 0) (by exact rfl)) (by decide) ?_
  obtain ⟨x6, hx6, h⟩ := bnd_some h
  refine alD (some 14) rfl rfl (do_callG (bcs := [[.sl 1 (List.map enc5 x5.2.B), .bool x5.2.Bad]]) [(0, 0)] [] [] 14 false (gleaningref1_Reader_Num_ok x5.2 hx6) rfl ent104 ⟨(by exact rfl), trivial⟩ trivial rfl rfl rfl rfl rfl rfl rfl rfl (.inl trivial)) (by decide) ?_
  refine alP (some 15) rfl rfl (does_move (v := .ptr 0 0 0) (by exact rfl)) (by decide) ?_
  obtain ⟨x7, hx7, h⟩ := bnd_some h
  refine alD (some 16) rfl rfl (do_callG (bcs := [[.sl 1 (List.map enc5 x6.2.B), .bool x6.2.Bad]]) [(0, 0)] [] [] 16 false (gleaningref1_Reader_Text_ok x6.2 hx7) rfl ent105 ⟨(by exact rfl), trivial⟩ trivial rfl rfl rfl rfl rfl rfl rfl rfl (.inl trivial)) (by decide) ?_
  refine alP (some 17) rfl rfl (does_move (v := .ptr 0 0 0) (by exact rfl)) (by decide) ?_
  obtain ⟨x8, hx8, h⟩ := bnd_some h
  refine alD (some 18) rfl rfl (do_callG (bcs := [[.sl 1 (List.map enc5 x7.2.B), .bool x7.2.Bad]]) [(0, 0)] [] [] 18 false (gleaningref1_Reader_Text_ok x7.2 hx8) rfl ent105 ⟨(by exact rfl), trivial⟩ trivial rfl rfl rfl rfl rfl rfl rfl rfl (.inl trivial)) (by decide) ?_
  refine alP (some 19) rfl rfl (does_move (v := .ptr 0 0 0) (by exact rfl)) (by decide) ?_
  obtain ⟨x9, hx9, h⟩ := bnd_some h
  refine alD (some 20) rfl rfl (do_callG (bcs := [[.sl 1 (List.map enc5 x8.2.B), .bool x8.2.Bad]]) [(0, 0)] [] [] 20 false (gleaningref1_Reader_Int_ok x8.2 1099511627776 hx9) rfl ent82 ⟨(by exact rfl), trivial⟩ trivial rfl rfl rfl rfl rfl rfl rfl rfl (.inl trivial)) (by decide) ?_
  refine alP (some 21) rfl rfl (does_move (v := .ptr 0 0 0) (by exact rfl)) (by decide) ?_
  obtain ⟨x10, hx10, h⟩ := bnd_some h
  refine alD (some 22) rfl rfl (do_callG (bcs := [[.sl 1 (List.map enc5 x9.2.B), .bool x9.2.Bad]]) [(0, 0)] [] [] 22 false (gleaningref1_Reader_Int_ok x9.2 1073741824 hx10) rfl ent82 ⟨(by exact rfl), trivial⟩ trivial rfl rfl rfl rfl rfl rfl rfl rfl (.inl trivial)) (by decide) ?_
  refine alP (some 23) rfl rfl (do_build_struct (cs := [.int .u64 x3.1, .int .u64 x4.1, .int .u64 x5.1, .int .u64 x6.1, .str x7.1, .str x8.1, .int .i64 x9.1, .int .i64 x10.1, .bool false, .nil]) ty42 rfl [⟨.struct [(0, 25), (1, 25)], 2, 16, [.int .u64 0, .int .u64 0]⟩, ⟨.int .u64, 1, 8, [.int .u64 0]⟩, ⟨.int .u64, 1, 8, [.int .u64 0]⟩, ⟨.str, 1, 16, [.str ByteArray.empty]⟩, ⟨.str, 1, 16, [.str ByteArray.empty]⟩, ⟨.int .i64, 1, 8, [.int .i64 0]⟩, ⟨.int .i64, 1, 8, [.int .i64 0]⟩, ⟨.bool, 1, 1, [.bool false]⟩, ⟨.slice 53, 1, 24, [.nil]⟩] (by simp only [List.map, ty25, ty27, ty3, ty4, ty40, ty9]) (by rfl) (by exact rfl)) (by decide) ?_
  refine alD (some 3) rfl rfl (do_new ty42 rfl rfl) (by decide) ?_
  refine alD none rfl rfl (do_store (cs' := [.int .u64 x3.1, .int .u64 x4.1, .int .u64 x5.1, .int .u64 x6.1, .str x7.1, .str x8.1, .int .i64 x9.1, .int .i64 x10.1, .bool false, .nil]) (by conv => lhs; whnf) (by conv => lhs; whnf) (by conv => lhs; whnf) ty42 rfl rfl rfl (by exact rfl)) (by decide) ?_
  refine al_nil ?_
  refine hK2 _ ?_
  refine aw_seq_k (fun K11 hK11 => ?_)
  refine aw_regL ?_
  refine alP (some 24) rfl rfl (does_move (v := .ptr 0 0 0) (by exact rfl)) (by decide) ?_
  obtain ⟨x12, hx12, h⟩ := bnd_some h
  refine alD (some 25) rfl rfl (do_callG (bcs := [[.sl 1 (List.map enc5 x10.2.B), .bool x10.2.Bad]]) [(0, 0)] [] [] 25 false (gleaningref1_Reader_Int_ok x10.2 1 hx12) rfl ent82 ⟨(by exact rfl), trivial⟩ trivial rfl rfl rfl rfl rfl rfl rfl rfl (.inl trivial)) (by decide) ?_
  refine alP (some 26) rfl rfl (does_bin (v := .bool (x12.1 == 1)) (by conv => lhs; whnf) (by conv => lhs; whnf) rfl) (by decide) ?_
  refine alP (some 27) rfl rfl (does_fieldAddr (q := .ptr 3 0 8) (by conv => lhs; whnf) ty42 rfl ty4 (by decide) (by exact rfl)) (by decide) ?_
  refine alD none rfl rfl (do_store (cs' := [.int .u64 x3.1, .int .u64 x4.1, .int .u64 x5.1, .int .u64 x6.1, .str x7.1, .str x8.1, .int .i64 x9.1, .int .i64 x10.1, .bool (x12.1 == 1), .nil]) (by conv => lhs; whnf) (by conv => lhs; whnf) (by conv => lhs; whnf) ty4 rfl rfl rfl (by exact rfl)) (by decide) ?_
  refine al_nil ?_
  refine hK11 _ ?_
  refine aw_seq_k (fun K13 hK13 => ?_)
  refine aw_regL ?_
  refine alP (some 28) rfl rfl (does_move (v := .ptr 0 0 0) (by exact rfl)) (by decide) ?_
  obtain ⟨x14, hx14, h⟩ := bnd_some h
  refine alD (some 29) rfl rfl (do_callG (bcs := [[.sl 1 (List.map enc5 x12.2.B), .bool x12.2.Bad]]) [(0, 0)] [] [] 29 false (gleaningref1_Reader_Int_ok x12.2 4 hx14) rfl ent82 ⟨(by exact rfl), trivial⟩ trivial rfl rfl rfl rfl rfl rfl rfl rfl (.inl trivial)) (by decide) ?_
  refine alP (some 4) rfl rfl (does_assign (v := .int .i64 x14.1) (by exact rfl)) (by decide) ?_
  refine al_nil ?_
  refine hK13 _ ?_
  obtain ⟨q15, h, hk16⟩ := bnd_some h
  refine aw_cut (fun s => ∃ (vb0_s_0_0 : List UInt8), ∃ (vb0_s_1_0 : Bool), ∃ (v3_s_9_s_0 : List Attr), gleaningref1_Reader_Span_k0 x3 x4 x5 x6 x7 x8 x9 x10 x12 vb0_s_0_0 vb0_s_1_0 v3_s_9_s_0 = some r ∧ s = lit [(0, .ptr 0 0 0), (2, .ptr 2 0 0), (3, .ptr 3 0 0)] [((0, 0), .box [.sl 1 (List.map enc5 vb0_s_0_0), .bool vb0_s_1_0]), ((2, 0), .box [.int .u64 0, .int .u64 0, .int .u64 0, .int .u64 0, .str (strOf []), .str (strOf []), .int .i64 0, .int .i64 0, .bool false, .nil]), ((3, 0), .box [.int .u64 x3.1, .int .u64 x4.1, .int .u64 x5.1, .int .u64 x6.1, .str x7.1, .str x8.1, .int .i64 x9.1, .int .i64 x10.1, .bool (x12.1 == 1), .own 3 1]), ((3, 1), .arr 53 2 false (List.map enc52 v3_s_9_s_0))] [(0, 1), (2, 1), (3, 2)] X) ?_ ?_
  · skip
    refine aw_seq_k (fun K17 hK17 => ?_)
    refine aw_regL ?_
    refine alP (some 5) rfl rfl (does_assign (v := .int .i64 0) (by exact rfl)) (by decide) ?_
    refine al_nil ?_
    refine hK17 _ ?_
    refine aw_block ?_
    refine aw_nilOwnC 3 0 9 3 53 2 (cs := [.int .u64 x3.1, .int .u64 x4.1, .int .u64 x5.1, .int .u64 x6.1, .str x7.1, .str x8.1, .int .i64 x9.1, .int .i64 x10.1, .bool (x12.1 == 1), .nil]) (by conv => lhs; whnf) rfl (by decide) ?_
    refine aw_loop' (fun m s => ∃ (vb0_s_0_1 : List UInt8), ∃ (vb0_s_1_1 : Bool), ∃ (v3_s_9_s_1 : List Attr), ∃ (v5_1 : Int), loopN (fun (s : List UInt8 × Bool × List Attr × Int) => gleaningref1_Reader_Span_l1 x14 s.1 s.2.1 s.2.2.1 s.2.2.2) m (vb0_s_0_1, vb0_s_1_1, v3_s_9_s_1, v5_1) = some q15 ∧ s = lit [(0, .ptr 0 0 0), (2, .ptr 2 0 0), (3, .ptr 3 0 0), (4, .int .i64 x14.1), (5, .int .i64 v5_1)] [((0, 0), .box [.sl 1 (List.map enc5 vb0_s_0_1), .bool vb0_s_1_1]), ((2, 0), .box [.int .u64 0, .int .u64 0, .int .u64 0, .int .u64 0, .str (strOf []), .str (strOf []), .int .i64 0, .int .i64 0, .bool false, .nil]), ((3, 0), .box [.int .u64 x3.1, .int .u64 x4.1, .int .u64 x5.1, .int .u64 x6.1, .str x7.1, .str x8.1, .int .i64 x9.1, .int .i64 x10.1, .bool (x12.1 == 1), .own 3 1]), ((3, 1), .arr 53 2 false (List.map enc52 v3_s_9_s_1))] [(0, 1), (2, 1), (3, 2)] X) Fu
      ⟨_, reb_lit [(0, .ptr 0 0 0), (2, .ptr 2 0 0), (3, .ptr 3 0 0), (4, .int .i64 x14.1), (5, .int .i64 (0))] [(0, 0), (2, 0), (3, 0), (3, 1)] [((0, 0), .box [.sl 1 (List.map enc5 x14.2.B), .bool x14.2.Bad]), ((2, 0), .box [.int .u64 0, .int .u64 0, .int .u64 0, .int .u64 0, .str (strOf []), .str (strOf []), .int .i64 0, .int .i64 0, .bool false, .nil]), ((3, 0), .box [.int .u64 x3.1, .int .u64 x4.1, .int .u64 x5.1, .int .u64 x6.1, .str x7.1, .str x8.1, .int .i64 x9.1, .int .i64 x10.1, .bool (x12.1 == 1), .own 3 1]), ((3, 1), .arr 53 2 false (List.map enc52 []))] [(0, 1), (2, 1), (3, 2)] (envOk_cons (by conv => lhs; whnf) (by exact rfl) (envOk_cons (by conv => lhs; whnf) (by exact rfl) (envOk_cons (by conv => lhs; whnf) (by exact rfl) (envOk_cons (by conv => lhs; whnf) (by exact rfl) (envOk_cons (by conv => lhs; whnf) (by exact rfl) envOk_nil))))) (objOk_cons (by conv => lhs; whnf) (by conv => lhs; whnf) (by exact rfl) (by simp) (objOk_cons (by conv => lhs; whnf) (by conv => lhs; whnf) (by exact rfl) (by simp) (objOk_cons (by conv => lhs; whnf) (by conv => lhs; whnf) (by exact rfl) (by simp) (objOk_cons (by conv => lhs; whnf) (by conv => lhs; whnf) (by exact rfl) (by simp) objOk_nil)))) (nodup_b rfl) (nodup_b rfl) rfl rfl, x14.2.B, x14.2.Bad, [], 0, h, rfl⟩ ?_
    rintro m s ⟨vb0_s_0_1, vb0_s_1_1, v3_s_9_s_1, v5_1, h, rfl⟩
    obtain ⟨m1, q18, rfl, h, hq19⟩ := loop_some h
    replace h : gleaningref1_Reader_Span_l1 x14 vb0_s_0_1 vb0_s_1_1 v3_s_9_s_1 v5_1 = some q18 := h
    unfold gleaningref1_Reader_Span_l1 at h
    obtain ⟨q20, h, hk21⟩ := bnd_some h
    refine aw_cut (fun s => gleaningref1_Reader_Span_k2 vb0_s_0_1 vb0_s_1_1 v3_s_9_s_1 v5_1 = some q18 ∧ s = lit [(0, .ptr 0 0 0), (2, .ptr 2 0 0), (3, .ptr 3 0 0), (4, .int .i64 x14.1), (5, .int .i64 v5_1)] [((0, 0), .box [.sl 1 (List.map enc5 vb0_s_0_1), .bool vb0_s_1_1]), ((2, 0), .box [.int .u64 0, .int .u64 0, .int .u64 0, .int .u64 0, .str (strOf []), .str (strOf []), .int .i64 0, .int .i64 0, .bool false, .nil]), ((3, 0), .box [.int .u64 x3.1, .int .u64 x4.1, .int .u64 x5.1, .int .u64 x6.1, .str x7.1, .str x8.1, .int .i64 x9.1, .int .i64 x10.1, .bool (x12.1 == 1), .own 3 1]), ((3, 1), .arr 53 2 false (List.map enc52 v3_s_9_s_1))] [(0, 1), (2, 1), (3, 2)] X) ?_ ?_
    · skip
      refine aw_seq_k (fun K22 hK22 => ?_)
      refine aw_regL ?_
      refine alP (some 30) rfl rfl (does_move (v := .int .i64 v5_1) (by exact rfl)) (by decide) ?_
      refine alP (some 31) rfl rfl (does_move (v := .int .i64 x14.1) (by exact rfl)) (by decide) ?_
      refine alP (some 32) rfl rfl (does_bin (v := .bool (decide (v5_1 < x14.1))) (by conv => lhs; whnf) (by conv => lhs; whnf) rfl) (by decide) ?_
      refine alP (some 33) rfl rfl (does_move (v := .bool (decide (v5_1 < x14.1))) (by exact rfl)) (by decide) ?_
      refine al_bool (c := (decide (v5_1 < x14.1))) 33 rfl (fun c23 => ?_) (fun c23 => ?_)
      · have h := ifT c23 h
        refine alP (some 34) rfl rfl (does_move (v := .ptr 0 0 0) (by exact rfl)) (by decide) ?_
        refine alP (some 35) rfl rfl (does_nilCheck (p := .ptr 0 0 0) (by conv => lhs; whnf) rfl) (by decide) ?_
        refine alP (some 36) rfl rfl (does_fieldAddr (q := .ptr 0 0 1) (by conv => lhs; whnf) ty96 rfl ty4 (by decide) (by exact rfl)) (by decide) ?_
        refine alR (some 37) rfl rfl (does_load (v := .bool vb0_s_1_1) (by conv => lhs; whnf) (by conv => lhs; whnf) ty4 (by exact rfl)) (by decide) ?_
        refine alP (some 38) rfl rfl (does_un (v := .bool (!vb0_s_1_1)) (by conv => lhs; whnf) rfl) (by decide) ?_
        refine alP (some 39) rfl rfl (does_pick (v := .bool (!vb0_s_1_1)) (by conv => lhs; whnf) (by exact rfl)) (by decide) ?_
        refine al_nil ?_
        refine hK22 _ ?_
        refine aw_bool (b := (!vb0_s_1_1)) 39 rfl (fun c24 => ?_) (fun c24 => ?_)
        · have h := ifT c24 h
          refine aw_cond_t (by decide) rfl ?_
          refine aw_skip ?_
          have h := leafL h hk21
          exact ⟨_, reb_lit [(0, .ptr 0 0 0), (2, .ptr 2 0 0), (3, .ptr 3 0 0), (4, .int .i64 x14.1), (5, .int .i64 v5_1)] [(0, 0), (2, 0), (3, 0), (3, 1)] [((0, 0), .box [.sl 1 (List.map enc5 vb0_s_0_1), .bool vb0_s_1_1]), ((2, 0), .box [.int .u64 0, .int .u64 0, .int .u64 0, .int .u64 0, .str (strOf []), .str (strOf []), .int .i64 0, .int .i64 0, .bool false, .nil]), ((3, 0), .box [.int .u64 x3.1, .int .u64 x4.1, .int .u64 x5.1, .int .u64 x6.1, .str x7.1, .str x8.1, .int .i64 x9.1, .int .i64 x10.1, .bool (x12.1 == 1), .own 3 1]), ((3, 1), .arr 53 2 false (List.map enc52 v3_s_9_s_1))] [(0, 1), (2, 1), (3, 2)] (envOk_cons (by conv => lhs; whnf) (by exact rfl) (envOk_cons (by conv => lhs; whnf) (by exact rfl) (envOk_cons (by conv => lhs; whnf) (by exact rfl) (envOk_cons (by conv => lhs; whnf) (by exact rfl) (envOk_cons (by conv => lhs; whnf) (by exact rfl) envOk_nil))))) (objOk_cons (by conv => lhs; whnf) (by conv => lhs; whnf) (by exact rfl) (by simp) (objOk_cons (by conv => lhs; whnf) (by conv => lhs; whnf) (by exact rfl) (by simp) (objOk_cons (by conv => lhs; whnf) (by conv => lhs; whnf) (by exact rfl) (by simp) (objOk_cons (by conv => lhs; whnf) (by conv => lhs; whnf) (by exact rfl) (by simp) objOk_nil)))) (nodup_b rfl) (nodup_b rfl) rfl rfl, h, rfl⟩
        · have h := ifF c24 h
          refine aw_cond_f (by decide) rfl ?_
          refine aw_exit ?_
          have h := leafR h hk21
          have h := leafR h hq19
          obtain rfl := Option.some.inj h
          have h := hk16
          exact ⟨_, reb_lit [(0, .ptr 0 0 0), (2, .ptr 2 0 0), (3, .ptr 3 0 0)] [(0, 0), (2, 0), (3, 0), (3, 1)] [((0, 0), .box [.sl 1 (List.map enc5 vb0_s_0_1), .bool vb0_s_1_1]), ((2, 0), .box [.int .u64 0, .int .u64 0, .int .u64 0, .int .u64 0, .str (strOf []), .str (strOf []), .int .i64 0, .int .i64 0, .bool false, .nil]), ((3, 0), .box [.int .u64 x3.1, .int .u64 x4.1, .int .u64 x5.1, .int .u64 x6.1, .str x7.1, .str x8.1, .int .i64 x9.1, .int .i64 x10.1, .bool (x12.1 == 1), .own 3 1]), ((3, 1), .arr 53 2 false (List.map enc52 v3_s_9_s_1))] [(0, 1), (2, 1), (3, 2)] (envOk_cons (by conv => lhs; whnf) (by exact rfl) (envOk_cons (by conv => lhs; whnf) (by exact rfl) (envOk_cons (by conv => lhs; whnf) (by exact rfl) envOk_nil))) (objOk_cons (by conv => lhs; whnf) (by conv => lhs; whnf) (by exact rfl) (by simp) (objOk_cons (by conv => lhs; whnf) (by conv => lhs; whnf) (by exact rfl) (by simp) (objOk_cons (by conv => lhs; whnf) (by conv => lhs; whnf) (by exact rfl) (by simp) (objOk_cons (by conv => lhs; whnf) (by conv => lhs; whnf) (by exact rfl) (by simp) objOk_nil)))) (nodup_b rfl) (nodup_b rfl) rfl rfl, vb0_s_0_1, vb0_s_1_1, v3_s_9_s_1, h, rfl⟩
      · have h := ifF c23 h
        refine alS (some 34) rfl rfl (by decide) ?_
        refine alS (some 35) rfl rfl (by decide) ?_
        refine alS (some 36) rfl rfl (by decide) ?_
        refine alS (some 37) rfl rfl (by decide) ?_
        refine alS (some 38) rfl rfl (by decide) ?_
        refine alP (some 39) rfl rfl (does_pick (v := .bool false) (by conv => lhs; whnf) (by exact rfl)) (by decide) ?_
        refine al_nil ?_
        refine hK22 _ ?_
        refine aw_cond_f (by decide) rfl ?_
        refine aw_exit ?_
        have h := leafR h hk21
        have h := leafR h hq19
        obtain rfl := Option.some.inj h
        have h := hk16
        exact ⟨_, reb_lit [(0, .ptr 0 0 0), (2, .ptr 2 0 0), (3, .ptr 3 0 0)] [(0, 0), (2, 0), (3, 0), (3, 1)] [((0, 0), .box [.sl 1 (List.map enc5 vb0_s_0_1), .bool vb0_s_1_1]), ((2, 0), .box [.int .u64 0, .int .u64 0, .int .u64 0, .int .u64 0, .str (strOf []), .str (strOf []), .int .i64 0, .int .i64 0, .bool false, .nil]), ((3, 0), .box [.int .u64 x3.1, .int .u64 x4.1, .int .u64 x5.1, .int .u64 x6.1, .str x7.1, .str x8.1, .int .i64 x9.1, .int .i64 x10.1, .bool (x12.1 == 1), .own 3 1]), ((3, 1), .arr 53 2 false (List.map enc52 v3_s_9_s_1))] [(0, 1), (2, 1), (3, 2)] (envOk_cons (by conv => lhs; whnf) (by exact rfl) (envOk_cons (by conv => lhs; whnf) (by exact rfl) (envOk_cons (by conv => lhs; whnf) (by exact rfl) envOk_nil))) (objOk_cons (by conv => lhs; whnf) (by conv => lhs; whnf) (by exact rfl) (by simp) (objOk_cons (by conv => lhs; whnf) (by conv => lhs; whnf) (by exact rfl) (by simp) (objOk_cons (by conv => lhs; whnf) (by conv => lhs; whnf) (by exact rfl) (by simp) (objOk_cons (by conv => lhs; whnf) (by conv => lhs; whnf) (by exact rfl) (by simp) objOk_nil)))) (nodup_b rfl) (nodup_b rfl) rfl rfl, vb0_s_0_1, vb0_s_1_1, v3_s_9_s_1, h, rfl⟩
    · rintro s ⟨h, rfl⟩
      unfold gleaningref1_Reader_Span_k2 at h
      refine aw_seq_k (fun K25 hK25 => ?_)
      refine aw_block ?_
      refine aw_regd (by kernel_rfl) (by decide +kernel) ?_
      refine aoP (some 42) rfl rfl (does_fieldAddr (q := .ptr 3 0 9) (by conv => lhs; whnf) ty42 rfl ty40 (by decide) (by exact rfl)) (by decide) ?_
      refine aoR (some 43) rfl rfl (does_load (v := .own 3 1) (by conv => lhs; whnf) (by conv => lhs; whnf) ty40 (by exact rfl)) (by decide) ?_
      refine aoP (some 44) rfl rfl (does_move (v := .ptr 0 0 0) (by exact rfl)) (by decide) ?_
      obtain ⟨x26, hx26, h⟩ := bnd_some h
      refine aoD (some 45) rfl rfl (do_callG (bcs := [[.sl 1 (List.map enc5 vb0_s_0_1), .bool vb0_s_1_1]]) [(0, 0)] [] [] 45 false (gleaningref1_Reader_Text_ok (Reader.mk vb0_s_0_1 vb0_s_1_1) hx26) rfl ent105 ⟨(by exact rfl), trivial⟩ trivial rfl rfl rfl rfl rfl rfl rfl rfl (.inl trivial)) (by decide) ?_
      refine aoP (some 46) rfl rfl (does_move (v := .ptr 0 0 0) (by exact rfl)) (by decide) ?_
      obtain ⟨x27, hx27, h⟩ := bnd_some h
      refine aoD (some 47) rfl rfl (do_callG (bcs := [[.sl 1 (List.map enc5 x26.2.B), .bool x26.2.Bad]]) [(0, 0)] [] [] 47 false (gleaningref1_Reader_Text_ok x26.2 hx27) rfl ent105 ⟨(by exact rfl), trivial⟩ trivial rfl rfl rfl rfl rfl rfl rfl rfl (.inl trivial)) (by decide) ?_
      refine aoP (some 48) rfl rfl (do_build_struct (cs := [.str x26.1, .str x27.1]) ty53 rfl [⟨.str, 1, 16, [.str ByteArray.empty]⟩, ⟨.str, 1, 16, [.str ByteArray.empty]⟩] (by simp only [List.map, ty9]) (by rfl) (by exact rfl)) (by decide) ?_
      refine aoD (some 49) rfl rfl (do_buildSlice (xs := List.map enc52 [(Attr.mk x26.1 x27.1)]) ty40 ty53 rfl rfl rfl rfl rfl rfl rfl rfl) (by decide) ?_
      obtain ⟨g28, h⟩ := gd_some h
      refine aoD (some 50) rfl rfl (do_append (v := List.map enc52 (v3_s_9_s_1 ++ [(Attr.mk x26.1 x27.1)])) (by conv => lhs; whnf) (by conv => lhs; whnf) ty40 ty53 rfl rfl (by conv => lhs; whnf) (by first | exact .inl rfl | exact .inr ⟨rfl, rfl⟩) (by conv => lhs; whnf) (by first | exact .inr rfl | exact .inl rfl) (map_app _ _) (fit_map g28)) (by decide) ?_
      refine aoP (some 51) rfl rfl (does_fieldAddr (q := .ptr 3 0 9) (by conv => lhs; whnf) ty42 rfl ty40 (by decide) (by exact rfl)) (by decide) ?_
      refine aoD none rfl rfl (do_store (cs' := [.int .u64 x3.1, .int .u64 x4.1, .int .u64 x5.1, .int .u64 x6.1, .str x7.1, .str x8.1, .int .i64 x9.1, .int .i64 x10.1, .bool (x12.1 == 1), .own 50 0]) (by conv => lhs; whnf) (by conv => lhs; whnf) (by conv => lhs; whnf) ty40 rfl rfl rfl (by exact rfl)) (by decide) ?_
      refine ao_nil_d (by kernel_rfl) ?_
      refine hK25 _ ?_
      refine aw_regL ?_
      refine alP (some 40) rfl rfl (does_move (v := .int .i64 v5_1) (by exact rfl)) (by decide) ?_
      refine alP (some 41) rfl rfl (does_bin (v := .int .i64 (IntKind.i64.wrap (v5_1 + 1))) (by conv => lhs; whnf) (by conv => lhs; whnf) rfl) (by decide) ?_
      refine alP (some 5) rfl rfl (does_assign (v := .int .i64 (IntKind.i64.wrap (v5_1 + 1))) (by exact rfl)) (by decide) ?_
      refine al_nil ?_
      have h := leafL h hq19
      exact ⟨m1, Nat.lt_succ_self _, _, reb_lit [(0, .ptr 0 0 0), (2, .ptr 2 0 0), (3, .ptr 3 0 0), (4, .int .i64 x14.1), (5, .int .i64 (IntKind.i64.wrap (v5_1 + 1)))] [(0, 0), (2, 0), (3, 0), (50, 0)] [((0, 0), .box [.sl 1 (List.map enc5 x27.2.B), .bool x27.2.Bad]), ((2, 0), .box [.int .u64 0, .int .u64 0, .int .u64 0, .int .u64 0, .str (strOf []), .str (strOf []), .int .i64 0, .int .i64 0, .bool false, .nil]), ((3, 0), .box [.int .u64 x3.1, .int .u64 x4.1, .int .u64 x5.1, .int .u64 x6.1, .str x7.1, .str x8.1, .int .i64 x9.1, .int .i64 x10.1, .bool (x12.1 == 1), .own 3 1]), ((3, 1), .arr 53 2 false (List.map enc52 (v3_s_9_s_1 ++ [(Attr.mk x26.1 x27.1)])))] [(0, 1), (2, 1), (3, 2)] (envOk_cons (by conv => lhs; whnf) (by exact rfl) (envOk_cons (by conv => lhs; whnf) (by exact rfl) (envOk_cons (by conv => lhs; whnf) (by exact rfl) (envOk_cons (by conv => lhs; whnf) (by exact rfl) (envOk_cons (by conv => lhs; whnf) (by exact rfl) envOk_nil))))) (objOk_cons (by conv => lhs; whnf) (by conv => lhs; whnf) (by exact rfl) (by simp) (objOk_cons (by conv => lhs; whnf) (by conv => lhs; whnf) (by exact rfl) (by simp) (objOk_cons (by conv => lhs; whnf) (by conv => lhs; whnf) (by exact rfl) (by simp) (objOk_cons (by conv => lhs; whnf) (by conv => lhs; whnf) (by exact rfl) (by simp) objOk_nil)))) (nodup_b rfl) (nodup_b rfl) rfl rfl, x27.2.B, x27.2.Bad, (v3_s_9_s_1 ++ [(Attr.mk x26.1 x27.1)]), (IntKind.i64.wrap (v5_1 + 1)), h, rfl⟩
  · rintro s ⟨vb0_s_0_0, vb0_s_1_0, v3_s_9_s_0, h, rfl⟩
    unfold gleaningref1_Reader_Span_k0 at h
    refine aw_seq_k (fun K29 hK29 => ?_)
    refine aw_regL ?_
    refine alP (some 52) rfl rfl (does_move (v := .ptr 0 0 0) (by exact rfl)) (by decide) ?_
    refine alP (some 53) rfl rfl (does_move (v := .ptr 0 0 0) (by exact rfl)) (by decide) ?_
    refine alP (some 54) rfl rfl (does_nilCheck (p := .ptr 0 0 0) (by conv => lhs; whnf) rfl) (by decide) ?_
    refine alP (some 55) rfl rfl (does_fieldAddr (q := .ptr 0 0 1) (by conv => lhs; whnf) ty96 rfl ty4 (by decide) (by exact rfl)) (by decide) ?_
    refine alR (some 56) rfl rfl (does_load (v := .bool vb0_s_1_0) (by conv => lhs; whnf) (by conv => lhs; whnf) ty4 (by exact rfl)) (by decide) ?_
    refine alP (some 57) rfl rfl (does_move (v := .bool vb0_s_1_0) (by exact rfl)) (by decide) ?_
    refine al_bool (c := vb0_s_1_0) 57 rfl (fun c30 => ?_) (fun c30 => ?_)
    · have h := ifT c30 h
      refine alS (some 58) rfl rfl (by decide) ?_
      refine alS (some 59) rfl rfl (by decide) ?_
      refine alS (some 60) rfl rfl (by decide) ?_
      refine alP (some 61) rfl rfl (does_pick (v := .bool true) (by conv => lhs; whnf) (by exact rfl)) (by decide) ?_
      refine alP (some 62) rfl rfl (does_nilCheck (p := .ptr 0 0 0) (by conv => lhs; whnf) rfl) (by decide) ?_
      refine alP (some 63) rfl rfl (does_fieldAddr (q := .ptr 0 0 1) (by conv => lhs; whnf) ty96 rfl ty4 (by decide) (by exact rfl)) (by decide) ?_
      refine alD none rfl rfl (do_store (cs' := [.sl 1 (List.map enc5 vb0_s_0_0), .bool true]) (by conv => lhs; whnf) (by conv => lhs; whnf) (by conv => lhs; whnf) ty4 rfl rfl rfl (by exact rfl)) (by decide) ?_
      refine al_nil ?_
      refine hK29 _ ?_
      refine aw_seq_k (fun K31 hK31 => ?_)
      refine aw_regL ?_
      refine alR (some 64) rfl rfl (does_load (v := .agg [.int .u64 x3.1, .int .u64 x4.1, .int .u64 x5.1, .int .u64 x6.1, .str x7.1, .str x8.1, .int .i64 x9.1, .int .i64 x10.1, .bool (x12.1 == 1), .own 3 1]) (by conv => lhs; whnf) (by conv => lhs; whnf) ty42 (by exact rfl)) (by decide) ?_
      refine alD none rfl rfl (do_store (cs' := [.int .u64 x3.1, .int .u64 x4.1, .int .u64 x5.1, .int .u64 x6.1, .str x7.1, .str x8.1, .int .i64 x9.1, .int .i64 x10.1, .bool (x12.1 == 1), .own 3 1]) (by conv => lhs; whnf) (by conv => lhs; whnf) (by conv => lhs; whnf) ty42 rfl rfl rfl (by exact rfl)) (by decide) ?_
      refine al_nil ?_
      refine hK31 _ ?_
      refine aw_ret ?_
      obtain rfl := Option.some.inj h
      exact ret_okB [(3, 1)] (by conv => lhs; whnf) (by conv => lhs; whnf) (by exact rfl) (rowsOk_cons (by conv => lhs; whnf) (by exact rfl) trivial) (boxesOk_cons (by conv => lhs; whnf) (by conv => lhs; whnf) (by exact rfl) trivial) (nodup_b rfl) (.inr rfl) rfl
    · have h := ifF c30 h
      refine alR (some 58) rfl rfl (does_load (v := .agg [.int .u64 x3.1, .int .u64 x4.1, .int .u64 x5.1, .int .u64 x6.1, .str x7.1, .str x8.1, .int .i64 x9.1, .int .i64 x10.1, .bool (x12.1 == 1), .own 3 1]) (by conv => lhs; whnf) (by conv => lhs; whnf) ty42 (by exact rfl)) (by decide) ?_
      obtain ⟨x32, hx32, h⟩ := bnd_some h
      refine alD (some 59) rfl rfl (do_callG (bcs := []) [] [] [(3, 1)] 59 false (gleaningref1_RightSpan_ok (Span.mk (Trace.mk x3.1 x4.1) x5.1 x6.1 x7.1 x8.1 x9.1 x10.1 (x12.1 == 1) v3_s_9_s_0) hx32) rfl ent28 trivial trivial rfl rfl rfl rfl rfl rfl rfl rfl (.inr ⟨rfl, rfl, trivial⟩)) (by decide) ?_
      refine alP (some 60) rfl rfl (does_un (v := .bool (!x32)) (by conv => lhs; whnf) rfl) (by decide) ?_
      refine alP (some 61) rfl rfl (does_pick (v := .bool (!x32)) (by conv => lhs; whnf) (by exact rfl)) (by decide) ?_
      refine alP (some 62) rfl rfl (does_nilCheck (p := .ptr 0 0 0) (by conv => lhs; whnf) rfl) (by decide) ?_
      refine alP (some 63) rfl rfl (does_fieldAddr (q := .ptr 0 0 1) (by conv => lhs; whnf) ty96 rfl ty4 (by decide) (by exact rfl)) (by decide) ?_
      refine alD none rfl rfl (do_store (cs' := [.sl 1 (List.map enc5 vb0_s_0_0), .bool (!x32)]) (by conv => lhs; whnf) (by conv => lhs; whnf) (by conv => lhs; whnf) ty4 rfl rfl rfl (by exact rfl)) (by decide) ?_
      refine al_nil ?_
      refine hK29 _ ?_
      refine aw_seq_k (fun K33 hK33 => ?_)
      refine aw_regL ?_
      refine alR (some 64) rfl rfl (does_load (v := .agg [.int .u64 x3.1, .int .u64 x4.1, .int .u64 x5.1, .int .u64 x6.1, .str x7.1, .str x8.1, .int .i64 x9.1, .int .i64 x10.1, .bool (x12.1 == 1), .own 3 1]) (by conv => lhs; whnf) (by conv => lhs; whnf) ty42 (by exact rfl)) (by decide) ?_
      refine alD none rfl rfl (do_store (cs' := [.int .u64 x3.1, .int .u64 x4.1, .int .u64 x5.1, .int .u64 x6.1, .str x7.1, .str x8.1, .int .i64 x9.1, .int .i64 x10.1, .bool (x12.1 == 1), .own 3 1]) (by conv => lhs; whnf) (by conv => lhs; whnf) (by conv => lhs; whnf) ty42 rfl rfl rfl (by exact rfl)) (by decide) ?_
      refine al_nil ?_
      refine hK33 _ ?_
      refine aw_ret ?_
      obtain rfl := Option.some.inj h
      exact ret_okB [(3, 1)] (by conv => lhs; whnf) (by conv => lhs; whnf) (by exact rfl) (rowsOk_cons (by conv => lhs; whnf) (by exact rfl) trivial) (boxesOk_cons (by conv => lhs; whnf) (by conv => lhs; whnf) (by exact rfl) trivial) (nodup_b rfl) (.inr rfl) rfl
def gleaningref1_ReadSpan (a0 : List UInt8) : Option (Span × Int × Int) :=
  Option.bind (gleaningref1_Reader_Span (Reader.mk a0 false)) (fun (x4 : Span × Reader) => if x4.2.Bad = true then (some ((Span.mk (Trace.mk 0 0) 0 0 (strOf []) (strOf []) 0 0 false []), 0, 2)) else (some (x4.1, (IntKind.i64.wrap ((List.length a0 : Int) - (List.length x4.2.B : Int))), 0)))
set_option maxRecDepth 100000 in
set_option maxHeartbeats 8000000 in
/-- gleaning/gleaningref1.ReadSpan -/
theorem gleaningref1_ReadSpan_ok (a0 : List UInt8) {r : Span × Int × Int} (h : gleaningref1_ReadSpan a0 = some r) : Ok Try.prog 35 [.sl 1 (List.map enc5 a0)] [] [] (.tup [.agg [.int .u64 r.1.Trace.Hi, .int .u64 r.1.Trace.Lo, .int .u64 r.1.Id, .int .u64 r.1.Parent, .str r.1.Service, .str r.1.Op, .int .i64 r.1.Start, .int .i64 r.1.Dur, .bool r.1.Err, .sl 2 (List.map enc52 r.1.Attrs)], .int .i64 r.2.1, .int .i64 r.2.2]) [] [] := by
  unfold gleaningref1_ReadSpan at h
  refine ok_of_code Try.func35 rfl (by show (1 : Nat) ≤ _; decide) (Nat.le_refl _) fun X => ?_
  refine aw_seq_k (fun K1 hK1 => ?_)
  refine aw_regL ?_
  refine alD (some 2) rfl rfl (do_new ty42 rfl rfl) (by decide) ?_
  refine alP (some 3) rfl rfl (does_assign (v := .int .i64 0) (by exact rfl)) (by decide) ?_
  refine alP (some 4) rfl rfl (does_assign (v := .int .i64 0) (by exact rfl)) (by decide) ?_
  refine al_nil ?_
  refine hK1 _ ?_
  refine aw_seq_k (fun K2 hK2 => ?_)
  refine aw_regL ?_
  refine alP (some 7) rfl rfl (does_move (v := .sl 1 (List.map enc5 a0)) (by exact rfl)) (by decide) ?_
  refine alP (some 8) rfl rfl (do_build_struct (cs := [.sl 1 (List.map enc5 a0), .bool false]) ty96 rfl [⟨.slice 5, 1, 24, [.nil]⟩, ⟨.bool, 1, 1, [.bool false]⟩] (by simp only [List.map, ty4, ty43]) (by rfl) (by exact rfl)) (by decide) ?_
  refine alD (some 9) rfl rfl (do_box (by conv => lhs; whnf) rfl rfl) (by decide) ?_
  refine alP (some 5) rfl rfl (does_assign (v := .ptr 9 0 0) (by exact rfl)) (by decide) ?_
  refine al_nil ?_
  refine hK2 _ ?_
  refine aw_seq_k (fun K3 hK3 => ?_)
  refine aw_regL ?_
  refine alP (some 10) rfl rfl (does_move (v := .ptr 9 0 0) (by exact rfl)) (by decide) ?_
  obtain ⟨x4, hx4, h⟩ := bnd_some h
  refine alD (some 11) rfl rfl (do_callG (bcs := [[.sl 1 (List.map enc5 a0), .bool false]]) [(9, 0)] [] [] 11 false (gleaningref1_Reader_Span_ok (Reader.mk a0 false) hx4) rfl ent67 ⟨(by exact rfl), trivial⟩ trivial rfl rfl rfl rfl rfl rfl rfl rfl (.inl trivial)) (by decide) ?_
  refine alD (some 6) rfl rfl (do_new ty42 rfl rfl) (by decide) ?_
  refine alD none rfl rfl (do_store (cs' := [.int .u64 x4.1.Trace.Hi, .int .u64 x4.1.Trace.Lo, .int .u64 x4.1.Id, .int .u64 x4.1.Parent, .str x4.1.Service, .str x4.1.Op, .int .i64 x4.1.Start, .int .i64 x4.1.Dur, .bool x4.1.Err, .own 11 0]) (by conv => lhs; whnf) (by conv => lhs; whnf) (by conv => lhs; whnf) ty42 rfl rfl rfl (by exact rfl)) (by decide) ?_
  refine al_nil ?_
  refine hK3 _ ?_
  refine aw_seq_k (fun K5 hK5 => ?_)
  refine aw_seq_k (fun K6 hK6 => ?_)
  refine aw_regL ?_
  refine alP (some 12) rfl rfl (does_move (v := .ptr 9 0 0) (by exact rfl)) (by decide) ?_
  refine alP (some 13) rfl rfl (does_nilCheck (p := .ptr 9 0 0) (by conv => lhs; whnf) rfl) (by decide) ?_
  refine alP (some 14) rfl rfl (does_fieldAddr (q := .ptr 9 0 1) (by conv => lhs; whnf) ty96 rfl ty4 (by decide) (by exact rfl)) (by decide) ?_
  refine alR (some 15) rfl rfl (does_load (v := .bool x4.2.Bad) (by conv => lhs; whnf) (by conv => lhs; whnf) ty4 (by exact rfl)) (by decide) ?_
  refine al_nil ?_
  refine hK6 _ ?_
  refine aw_bool (b := x4.2.Bad) 15 rfl (fun c7 => ?_) (fun c7 => ?_)
  · have h := ifT c7 h
    refine aw_cond_t (by decide) rfl ?_
    refine aw_seq_k (fun K8 hK8 => ?_)
    refine aw_regL ?_
    refine alP (some 16) rfl rfl (do_build_struct (cs := [.int .u64 0, .int .u64 0, .int .u64 0, .int .u64 0, .str (strOf []), .str (strOf []), .int .i64 0, .int .i64 0, .bool false, .nil]) ty42 rfl [⟨.struct [(0, 25), (1, 25)], 2, 16, [.int .u64 0, .int .u64 0]⟩, ⟨.int .u64, 1, 8, [.int .u64 0]⟩, ⟨.int .u64, 1, 8, [.int .u64 0]⟩, ⟨.str, 1, 16, [.str ByteArray.empty]⟩, ⟨.str, 1, 16, [.str ByteArray.empty]⟩, ⟨.int .i64, 1, 8, [.int .i64 0]⟩, ⟨.int .i64, 1, 8, [.int .i64 0]⟩, ⟨.bool, 1, 1, [.bool false]⟩, ⟨.slice 53, 1, 24, [.nil]⟩] (by simp only [List.map, ty25, ty27, ty3, ty4, ty40, ty9]) (by rfl) (by exact rfl)) (by decide) ?_
    refine alD none rfl rfl (do_store (cs' := [.int .u64 0, .int .u64 0, .int .u64 0, .int .u64 0, .str (strOf []), .str (strOf []), .int .i64 0, .int .i64 0, .bool false, .nil]) (by conv => lhs; whnf) (by conv => lhs; whnf) (by conv => lhs; whnf) ty42 rfl rfl rfl (by exact rfl)) (by decide) ?_
    refine alP (some 3) rfl rfl (does_assign (v := .int .i64 0) (by exact rfl)) (by decide) ?_
    refine alP (some 4) rfl rfl (does_assign (v := .int .i64 2) (by exact rfl)) (by decide) ?_
    refine al_nil ?_
    refine hK8 _ ?_
    refine aw_reb (reb_w (tl' := [(2, .ptr 2 0 0), (3, .int .i64 0), (4, .int .i64 2)]) (ol' := [((2, 0), .box [.int .u64 0, .int .u64 0, .int .u64 0, .int .u64 0, .str (strOf []), .str (strOf []), .int .i64 0, .int .i64 0, .bool false, .sl 2 (List.map enc52 [])])]) (reb_lit [(2, .ptr 2 0 0), (3, .int .i64 0), (4, .int .i64 2)] [(2, 0)] [((2, 0), .box [.int .u64 0, .int .u64 0, .int .u64 0, .int .u64 0, .str (strOf []), .str (strOf []), .int .i64 0, .int .i64 0, .bool false, .nil])] [(2, 1)] (envOk_cons (by conv => lhs; whnf) (by exact rfl) (envOk_cons (by conv => lhs; whnf) (by exact rfl) (envOk_cons (by conv => lhs; whnf) (by exact rfl) envOk_nil))) (objOk_cons (by conv => lhs; whnf) (by conv => lhs; whnf) (by exact rfl) (by simp) objOk_nil) (nodup_b rfl) (nodup_b rfl) rfl rfl) ⟨rfl, le_refl _, rfl, le_refl _, rfl, le_refl _, trivial⟩ ⟨rfl, (.box ⟨le_refl _, le_refl _, le_refl _, le_refl _, le_refl _, le_refl _, le_refl _, le_refl _, le_refl _, le_nil _, trivial⟩), trivial⟩) ?_
    refine aw_ret ?_
    obtain rfl := Option.some.inj h
    exact ret_ok1 (by conv => lhs; whnf) (by conv => lhs; whnf) (by exact rfl) (.inr rfl) rfl
  · have h := ifF c7 h
    refine aw_cond_f (by decide) rfl ?_
    refine aw_skip ?_
    refine hK5 _ ?_
    refine aw_seq_k (fun K9 hK9 => ?_)
    refine aw_regd (by kernel_rfl) (by decide +kernel) ?_
    refine aoR (some 17) rfl rfl (does_load (v := .agg [.int .u64 x4.1.Trace.Hi, .int .u64 x4.1.Trace.Lo, .int .u64 x4.1.Id, .int .u64 x4.1.Parent, .str x4.1.Service, .str x4.1.Op, .int .i64 x4.1.Start, .int .i64 x4.1.Dur, .bool x4.1.Err, .own 11 0]) (by conv => lhs; whnf) (by conv => lhs; whnf) ty42 (by exact rfl)) (by decide) ?_
    refine aoP (some 18) rfl rfl (does_move (v := .sl 1 (List.map enc5 a0)) (by exact rfl)) (by decide) ?_
    refine aoP (some 19) rfl rfl ((does_len_sl (by conv => lhs; whnf) ty43).castp (v' := .int .i64 (List.length a0 : Int)) (by exact len_map _)) (by decide) ?_
    refine aoP (some 20) rfl rfl (does_move (v := .ptr 9 0 0) (by exact rfl)) (by decide) ?_
    refine aoP (some 21) rfl rfl (does_nilCheck (p := .ptr 9 0 0) (by conv => lhs; whnf) rfl) (by decide) ?_
    refine aoP (some 22) rfl rfl (does_fieldAddr (q := .ptr 9 0 0) (by conv => lhs; whnf) ty96 rfl ty43 (by decide) (by exact rfl)) (by decide) ?_
    refine aoR (some 23) rfl rfl (does_load (v := .sl 1 (List.map enc5 x4.2.B)) (by conv => lhs; whnf) (by conv => lhs; whnf) ty43 (by exact rfl)) (by decide) ?_
    refine aoP (some 24) rfl rfl ((does_len_sl (by conv => lhs; whnf) ty43).castp (v' := .int .i64 (List.length x4.2.B : Int)) (by exact len_map _)) (by decide) ?_
    refine aoP (some 25) rfl rfl (does_bin (v := .int .i64 (IntKind.i64.wrap ((List.length a0 : Int) - (List.length x4.2.B : Int)))) (by conv => lhs; whnf) (by conv => lhs; whnf) rfl) (by decide) ?_
    refine aoD none rfl rfl (do_store (cs' := [.int .u64 x4.1.Trace.Hi, .int .u64 x4.1.Trace.Lo, .int .u64 x4.1.Id, .int .u64 x4.1.Parent, .str x4.1.Service, .str x4.1.Op, .int .i64 x4.1.Start, .int .i64 x4.1.Dur, .bool x4.1.Err, .own 11 0]) (by conv => lhs; whnf) (by conv => lhs; whnf) (by conv => lhs; whnf) ty42 rfl rfl rfl (by exact rfl)) (by decide) ?_
    refine aoP (some 3) rfl rfl (does_assign (v := .int .i64 (IntKind.i64.wrap ((List.length a0 : Int) - (List.length x4.2.B : Int)))) (by exact rfl)) (by decide) ?_
    refine aoP (some 4) rfl rfl (does_assign (v := .int .i64 0) (by exact rfl)) (by decide) ?_
    refine ao_nil_d (by kernel_rfl) ?_
    refine hK9 _ ?_
    refine aw_ret ?_
    obtain rfl := Option.some.inj h
    exact ret_ok1 (by conv => lhs; whnf) (by conv => lhs; whnf) (by exact rfl) (.inr rfl) rfl
end Go.Proofs.Ytbfmmaabaenhgaa.Ab
