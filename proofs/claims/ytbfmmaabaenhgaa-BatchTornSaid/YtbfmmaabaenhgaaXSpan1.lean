/- Chapter 3: spans as bytes, the program. -/
import Derived.Test.YtbfmmaabaenhgaaXSpan0
import Derived.Test.YtbfmmaabaenhgaaProg
namespace Go.Proofs.Ytbfmmaabaenhgaa.Ab
open Go Go.RowKit
set_option linter.unusedVariables false
set_option linter.unusedSimpArgs false
theorem ent33 : Ent Try.prog 33 := ⟨_, Try.func33, by kernel_rfl, rfl⟩
theorem ent63 : Ent Try.prog 63 := ⟨_, Try.func63, by kernel_rfl, rfl⟩
theorem ent64 : Ent Try.prog 64 := ⟨_, Try.func64, by kernel_rfl, rfl⟩
theorem ent65 : Ent Try.prog 65 := ⟨_, Try.func65, by kernel_rfl, rfl⟩
theorem ent66 : Ent Try.prog 66 := ⟨_, Try.func66, by kernel_rfl, rfl⟩
theorem ent69 : Ent Try.prog 69 := ⟨_, Try.func69, by kernel_rfl, rfl⟩
theorem ent97 : Ent Try.prog 97 := ⟨_, Try.func97, by kernel_rfl, rfl⟩
theorem ent98 : Ent Try.prog 98 := ⟨_, Try.func98, by kernel_rfl, rfl⟩
theorem ent100 : Ent Try.prog 100 := ⟨_, Try.func100, by kernel_rfl, rfl⟩
theorem ent101 : Ent Try.prog 101 := ⟨_, Try.func101, by kernel_rfl, rfl⟩
theorem ent102 : Ent Try.prog 102 := ⟨_, Try.func102, by kernel_rfl, rfl⟩
theorem ent103 : Ent Try.prog 103 := ⟨_, Try.func103, by kernel_rfl, rfl⟩
theorem ent121 : Ent Try.prog 121 := ⟨_, Try.func121, by kernel_rfl, rfl⟩
def slices_Equal_Attr_l0 (a0 : List Attr) (a1 : List Attr) (v13_0 : Int) : Option (Int ⊕ Bool) :=
  if (decide (v13_0 < (List.length a0 : Int))) = true then (gd (0 ≤ v13_0) (Option.bind (a0[(Int.toNat v13_0)]?) (fun (x17 : Attr) => gd (0 ≤ v13_0) (Option.bind (a1[(Int.toNat v13_0)]?) (fun (x19 : Attr) => if (!((ByteArray.toList x17.Key == ByteArray.toList x19.Key) && ((ByteArray.toList x17.Value == ByteArray.toList x19.Value) && true))) = true then (some (Sum.inr false)) else (some (Sum.inl (IntKind.i64.wrap (v13_0 + 1))))))))) else (some (Sum.inr true))
def slices_Equal_Attr (a0 : List Attr) (a1 : List Attr) : Option Bool :=
  if ((List.length a0 : Int) != (List.length a1 : Int)) = true then (some false) else (loopN (fun (s : Int) => slices_Equal_Attr_l0 a0 a1 s) Fu 0)
set_option maxRecDepth 100000 in
set_option maxHeartbeats 8000000 in
/-- slices.Equal[[]gleaning/api.Attr,gleaning/api.Attr] -/
theorem slices_Equal_Attr_ok (a0 : List Attr) (a1 : List Attr) {r : Bool} (h : slices_Equal_Attr a0 a1 = some r) : Ok Try.prog 69 [.sl 2 (List.map enc52 a0), .sl 2 (List.map enc52 a1)] [] [] (.bool r) [] [] := by
  unfold slices_Equal_Attr at h
  refine ok_of_code Try.func69 rfl (by show (2 : Nat) ≤ _; decide) (Nat.le_refl _) fun X => ?_
  refine aw_seq_k (fun K1 hK1 => ?_)
  refine aw_regL ?_
  refine alP (some 4) rfl rfl (does_assign (v := .bool false) (by exact rfl)) (by decide) ?_
  refine al_nil ?_
  refine hK1 _ ?_
  refine aw_seq_k (fun K2 hK2 => ?_)
  refine aw_seq_k (fun K3 hK3 => ?_)
  refine aw_regL ?_
  refine alP (some 6) rfl rfl (does_move (v := .sl 2 (List.map enc52 a0)) (by exact rfl)) (by decide) ?_
  refine alP (some 7) rfl rfl ((does_len_sl (by conv => lhs; whnf) ty40).castp (v' := .int .i64 (List.length a0 : Int)) (by exact len_map _)) (by decide) ?_
  refine alP (some 8) rfl rfl (does_move (v := .sl 2 (List.map enc52 a1)) (by exact rfl)) (by decide) ?_
  refine alP (some 9) rfl rfl ((does_len_sl (by conv => lhs; whnf) ty40).castp (v' := .int .i64 (List.length a1 : Int)) (by exact len_map _)) (by decide) ?_
  refine alP (some 10) rfl rfl (does_bin (v := .bool ((List.length a0 : Int) != (List.length a1 : Int))) (by conv => lhs; whnf) (by conv => lhs; whnf) rfl) (by decide) ?_
  refine al_nil ?_
  refine hK3 _ ?_
  refine aw_bool (b := ((List.length a0 : Int) != (List.length a1 : Int))) 10 rfl (fun c4 => ?_) (fun c4 => ?_)
  · have h := ifT c4 h
    refine aw_cond_t (by decide) rfl ?_
    refine aw_seq_k (fun K5 hK5 => ?_)
    refine aw_regL ?_
    refine alP (some 4) rfl rfl (does_assign (v := .bool false) (by exact rfl)) (by decide) ?_
    refine al_nil ?_
    refine hK5 _ ?_
    refine aw_ret ?_
    obtain rfl := Option.some.inj h
    exact ret_ok1 (by conv => lhs; whnf) (by conv => lhs; whnf) (by exact rfl) (.inr rfl) rfl
  · have h := ifF c4 h
    refine aw_cond_f (by decide) rfl ?_
    refine aw_skip ?_
    refine hK2 _ ?_
    refine aw_seq_k (fun K6 hK6 => ?_)
    refine aw_seq_k (fun K7 hK7 => ?_)
    refine aw_regL ?_
    refine alP (some 11) rfl rfl (does_move (v := .sl 2 (List.map enc52 a0)) (by exact rfl)) (by decide) ?_
    refine alP (some 12) rfl rfl ((does_len_sl (by conv => lhs; whnf) ty40).castp (v' := .int .i64 (List.length a0 : Int)) (by exact len_map _)) (by decide) ?_
    refine alP (some 13) rfl rfl (does_move (v := .int .i64 0) (by exact rfl)) (by decide) ?_
    refine al_nil ?_
    refine hK7 _ ?_
    refine aw_block ?_
    refine aw_loop' (fun m s => ∃ (v13_0 : Int), loopN (fun (s : Int) => slices_Equal_Attr_l0 a0 a1 s) m v13_0 = some r ∧ s = lit [(0, .sl 2 (List.map enc52 a0)), (1, .sl 2 (List.map enc52 a1)), (12, .int .i64 (List.length a0 : Int)), (13, .int .i64 v13_0)] [] [] X) Fu
      ⟨_, reb_lit [(0, .sl 2 (List.map enc52 a0)), (1, .sl 2 (List.map enc52 a1)), (12, .int .i64 (List.length a0 : Int)), (13, .int .i64 (0))] [] [] [] (envOk_cons (by conv => lhs; whnf) (by exact rfl) (envOk_cons (by conv => lhs; whnf) (by exact rfl) (envOk_cons (by conv => lhs; whnf) (by exact rfl) (envOk_cons (by conv => lhs; whnf) (by exact rfl) envOk_nil)))) objOk_nil (nodup_b rfl) (nodup_b rfl) rfl rfl, 0, h, rfl⟩ ?_
    rintro m s ⟨v13_0, h, rfl⟩
    obtain ⟨m0, q8, rfl, h, hq9⟩ := loop_some h
    replace h : slices_Equal_Attr_l0 a0 a1 v13_0 = some q8 := h
    unfold slices_Equal_Attr_l0 at h
    refine aw_seq_k (fun K10 hK10 => ?_)
    refine aw_regL ?_
    refine alP (some 14) rfl rfl (does_bin (v := .bool (decide (v13_0 < (List.length a0 : Int)))) (by conv => lhs; whnf) (by conv => lhs; whnf) rfl) (by decide) ?_
    refine al_nil ?_
    refine hK10 _ ?_
    refine aw_seq_k (fun K11 hK11 => ?_)
    refine aw_bool (b := (decide (v13_0 < (List.length a0 : Int)))) 14 rfl (fun c12 => ?_) (fun c12 => ?_)
    · have h := ifT c12 h
      refine aw_cond_t (by decide) rfl ?_
      refine aw_skip ?_
      refine hK11 _ ?_
      refine aw_seq_k (fun K13 hK13 => ?_)
      refine aw_block ?_
      refine aw_seq_k (fun K14 hK14 => ?_)
      refine aw_regL ?_
      refine alP (some 15) rfl rfl (does_move (v := .int .i64 v13_0) (by exact rfl)) (by decide) ?_
      refine alP (some 5) rfl rfl (does_assign (v := .int .i64 v13_0) (by exact rfl)) (by decide) ?_
      refine al_nil ?_
      refine hK14 _ ?_
      refine aw_seq_k (fun K15 hK15 => ?_)
      refine aw_regd (by kernel_rfl) (by decide +kernel) ?_
      refine aoP (some 16) rfl rfl (does_move (v := .sl 2 (List.map enc52 a0)) (by exact rfl)) (by decide) ?_
      refine aoP (some 17) rfl rfl (does_move (v := .int .i64 v13_0) (by exact rfl)) (by decide) ?_
      obtain ⟨g16, h⟩ := gd_some h
      obtain ⟨x17, hx17, h⟩ := bnd_some h
      refine aoP (some 18) rfl rfl (does_indexAddr_sl (el := .agg [.str x17.Key, .str x17.Value]) (by conv => lhs; whnf) (by conv => lhs; whnf) ty40 ty53 g16 (by exact map_get hx17)) (by decide) ?_
      refine aoR (some 19) rfl rfl (does_load (v := .agg [.str x17.Key, .str x17.Value]) (by conv => lhs; whnf) (by conv => lhs; whnf) ty53 (by exact rfl)) (by decide) ?_
      refine aoP (some 20) rfl rfl (does_move (v := .sl 2 (List.map enc52 a1)) (by exact rfl)) (by decide) ?_
      refine aoP (some 21) rfl rfl (does_move (v := .int .i64 v13_0) (by exact rfl)) (by decide) ?_
      obtain ⟨g18, h⟩ := gd_some h
      obtain ⟨x19, hx19, h⟩ := bnd_some h
      refine aoP (some 22) rfl rfl (does_indexAddr_sl (el := .agg [.str x19.Key, .str x19.Value]) (by conv => lhs; whnf) (by conv => lhs; whnf) ty40 ty53 g18 (by exact map_get hx19)) (by decide) ?_
      refine aoR (some 23) rfl rfl (does_load (v := .agg [.str x19.Key, .str x19.Value]) (by conv => lhs; whnf) (by conv => lhs; whnf) ty53 (by exact rfl)) (by decide) ?_
      refine aoP (some 24) rfl rfl (does_eq_struct (v := .bool (!((ByteArray.toList x17.Key == ByteArray.toList x19.Key) && ((ByteArray.toList x17.Value == ByteArray.toList x19.Value) && true)))) (by conv => lhs; whnf) (by conv => lhs; whnf) fk53 rfl ag53 eg53 (by conv => lhs; whnf) rfl) (by decide) ?_
      refine ao_nil_d (by kernel_rfl) ?_
      refine hK15 _ ?_
      refine aw_bool (b := (!((ByteArray.toList x17.Key == ByteArray.toList x19.Key) && ((ByteArray.toList x17.Value == ByteArray.toList x19.Value) && true)))) 24 rfl (fun c20 => ?_) (fun c20 => ?_)
      · have h := ifT c20 h
        refine aw_cond_t (by decide) rfl ?_
        refine aw_seq_k (fun K21 hK21 => ?_)
        refine aw_regL ?_
        refine alP (some 4) rfl rfl (does_assign (v := .bool false) (by exact rfl)) (by decide) ?_
        refine al_nil ?_
        refine hK21 _ ?_
        refine aw_ret ?_
        have h := leafR h hq9
        obtain rfl := Option.some.inj h
        exact ret_ok1 (by conv => lhs; whnf) (by conv => lhs; whnf) (by exact rfl) (.inr rfl) rfl
      · have h := ifF c20 h
        refine aw_cond_f (by decide) rfl ?_
        refine aw_skip ?_
        refine hK13 _ ?_
        refine aw_regL ?_
        refine alP (some 25) rfl rfl (does_bin (v := .int .i64 (IntKind.i64.wrap (v13_0 + 1))) (by conv => lhs; whnf) (by conv => lhs; whnf) rfl) (by decide) ?_
        refine alP (some 13) rfl rfl (does_move (v := .int .i64 (IntKind.i64.wrap (v13_0 + 1))) (by exact rfl)) (by decide) ?_
        refine al_nil ?_
        have h := leafL h hq9
        exact ⟨m0, Nat.lt_succ_self _, _, reb_lit [(0, .sl 2 (List.map enc52 a0)), (1, .sl 2 (List.map enc52 a1)), (12, .int .i64 (List.length a0 : Int)), (13, .int .i64 (IntKind.i64.wrap (v13_0 + 1)))] [] [] [] (envOk_cons (by conv => lhs; whnf) (by exact rfl) (envOk_cons (by conv => lhs; whnf) (by exact rfl) (envOk_cons (by conv => lhs; whnf) (by exact rfl) (envOk_cons (by conv => lhs; whnf) (by exact rfl) envOk_nil)))) objOk_nil (nodup_b rfl) (nodup_b rfl) rfl rfl, (IntKind.i64.wrap (v13_0 + 1)), h, rfl⟩
    · have h := ifF c12 h
      refine aw_cond_f (by decide) rfl ?_
      refine aw_exit ?_
      have h := leafR h hq9
      refine hK6 _ ?_
      refine aw_seq_k (fun K22 hK22 => ?_)
      refine aw_regL ?_
      refine alP (some 4) rfl rfl (does_assign (v := .bool true) (by exact rfl)) (by decide) ?_
      refine al_nil ?_
      refine hK22 _ ?_
      refine aw_ret ?_
      obtain rfl := Option.some.inj h
      exact ret_ok1 (by conv => lhs; whnf) (by conv => lhs; whnf) (by exact rfl) (.inr rfl) rfl
def span_Same (a0 : Span) (a1 : Span) : Option Bool :=
  if ((a0.Trace.Hi == a1.Trace.Hi) && ((a0.Trace.Lo == a1.Trace.Lo) && true)) = true then (if (a0.Id == a1.Id) = true then (if (a0.Parent == a1.Parent) = true then (if (ByteArray.toList a0.Service == ByteArray.toList a1.Service) = true then (if (ByteArray.toList a0.Op == ByteArray.toList a1.Op) = true then (if (a0.Start == a1.Start) = true then (if (a0.Dur == a1.Dur) = true then (if (a0.Err == a1.Err) = true then (Option.bind (slices_Equal_Attr a0.Attrs a1.Attrs) (fun (x11 : Bool) => some x11)) else (some false)) else (some false)) else (some false)) else (some false)) else (some false)) else (some false)) else (some false)) else (some false)
set_option maxRecDepth 100000 in
set_option maxHeartbeats 8000000 in
/-- gleaning/span.Same -/
theorem span_Same_ok (a0 : Span) (a1 : Span) {r : Bool} (h : span_Same a0 a1 = some r) : Ok Try.prog 37 [.agg [.int .u64 a0.Trace.Hi, .int .u64 a0.Trace.Lo, .int .u64 a0.Id, .int .u64 a0.Parent, .str a0.Service, .str a0.Op, .int .i64 a0.Start, .int .i64 a0.Dur, .bool a0.Err, .sl 2 (List.map enc52 a0.Attrs)], .agg [.int .u64 a1.Trace.Hi, .int .u64 a1.Trace.Lo, .int .u64 a1.Id, .int .u64 a1.Parent, .str a1.Service, .str a1.Op, .int .i64 a1.Start, .int .i64 a1.Dur, .bool a1.Err, .sl 2 (List.map enc52 a1.Attrs)]] [] [] (.bool r) [] [] := by
  unfold span_Same at h
  refine ok_of_code Try.func37 rfl (by show (2 : Nat) ≤ _; decide) (Nat.le_refl _) fun X => ?_
  refine aw_seq_k (fun K1 hK1 => ?_)
  refine aw_regL ?_
  refine alD (some 2) rfl rfl (do_box (by conv => lhs; whnf) rfl rfl) (by decide) ?_
  refine alD (some 3) rfl rfl (do_box (by conv => lhs; whnf) rfl rfl) (by decide) ?_
  refine alP (some 4) rfl rfl (does_assign (v := .bool false) (by exact rfl)) (by decide) ?_
  refine al_nil ?_
  refine hK1 _ ?_
  refine aw_seq_k (fun K2 hK2 => ?_)
  refine aw_regL ?_
  refine alP (some 5) rfl rfl (does_fieldAddr (q := .ptr 2 0 0) (by conv => lhs; whnf) ty42 rfl ty27 (by decide) (by exact rfl)) (by decide) ?_
  refine alR (some 6) rfl rfl (does_load (v := .agg [.int .u64 a0.Trace.Hi, .int .u64 a0.Trace.Lo]) (by conv => lhs; whnf) (by conv => lhs; whnf) ty27 (by exact rfl)) (by decide) ?_
  refine alP (some 7) rfl rfl (does_fieldAddr (q := .ptr 3 0 0) (by conv => lhs; whnf) ty42 rfl ty27 (by decide) (by exact rfl)) (by decide) ?_
  refine alR (some 8) rfl rfl (does_load (v := .agg [.int .u64 a1.Trace.Hi, .int .u64 a1.Trace.Lo]) (by conv => lhs; whnf) (by conv => lhs; whnf) ty27 (by exact rfl)) (by decide) ?_
  refine alP (some 9) rfl rfl (does_eq_struct (v := .bool ((a0.Trace.Hi == a1.Trace.Hi) && ((a0.Trace.Lo == a1.Trace.Lo) && true))) (by conv => lhs; whnf) (by conv => lhs; whnf) fk27 rfl ag27 eg27 (by conv => lhs; whnf) rfl) (by decide) ?_
  refine alP (some 10) rfl rfl (does_move (v := .bool ((a0.Trace.Hi == a1.Trace.Hi) && ((a0.Trace.Lo == a1.Trace.Lo) && true))) (by exact rfl)) (by decide) ?_
  refine al_bool (c := ((a0.Trace.Hi == a1.Trace.Hi) && ((a0.Trace.Lo == a1.Trace.Lo) && true))) 10 rfl (fun c3 => ?_) (fun c3 => ?_)
  · have h := ifT c3 h
    refine alP (some 11) rfl rfl (does_fieldAddr (q := .ptr 2 0 2) (by conv => lhs; whnf) ty42 rfl ty25 (by decide) (by exact rfl)) (by decide) ?_
    refine alR (some 12) rfl rfl (does_load (v := .int .u64 a0.Id) (by conv => lhs; whnf) (by conv => lhs; whnf) ty25 (by exact rfl)) (by decide) ?_
    refine alP (some 13) rfl rfl (does_fieldAddr (q := .ptr 3 0 2) (by conv => lhs; whnf) ty42 rfl ty25 (by decide) (by exact rfl)) (by decide) ?_
    refine alR (some 14) rfl rfl (does_load (v := .int .u64 a1.Id) (by conv => lhs; whnf) (by conv => lhs; whnf) ty25 (by exact rfl)) (by decide) ?_
    refine alP (some 15) rfl rfl (does_bin (v := .bool (a0.Id == a1.Id)) (by conv => lhs; whnf) (by conv => lhs; whnf) rfl) (by decide) ?_
    refine alP (some 16) rfl rfl (does_pick (v := .bool (a0.Id == a1.Id)) (by conv => lhs; whnf) (by exact rfl)) (by decide) ?_
    refine alP (some 17) rfl rfl (does_move (v := .bool (a0.Id == a1.Id)) (by exact rfl)) (by decide) ?_
    refine al_bool (c := (a0.Id == a1.Id)) 17 rfl (fun c4 => ?_) (fun c4 => ?_)
    · have h := ifT c4 h
      refine alP (some 18) rfl rfl (does_fieldAddr (q := .ptr 2 0 3) (by conv => lhs; whnf) ty42 rfl ty25 (by decide) (by exact rfl)) (by decide) ?_
      refine alR (some 19) rfl rfl (does_load (v := .int .u64 a0.Parent) (by conv => lhs; whnf) (by conv => lhs; whnf) ty25 (by exact rfl)) (by decide) ?_
      refine alP (some 20) rfl rfl (does_fieldAddr (q := .ptr 3 0 3) (by conv => lhs; whnf) ty42 rfl ty25 (by decide) (by exact rfl)) (by decide) ?_
      refine alR (some 21) rfl rfl (does_load (v := .int .u64 a1.Parent) (by conv => lhs; whnf) (by conv => lhs; whnf) ty25 (by exact rfl)) (by decide) ?_
      refine alP (some 22) rfl rfl (does_bin (v := .bool (a0.Parent == a1.Parent)) (by conv => lhs; whnf) (by conv => lhs; whnf) rfl) (by decide) ?_
      refine alP (some 23) rfl rfl (does_pick (v := .bool (a0.Parent == a1.Parent)) (by conv => lhs; whnf) (by exact rfl)) (by decide) ?_
      refine alP (some 24) rfl rfl (does_move (v := .bool (a0.Parent == a1.Parent)) (by exact rfl)) (by decide) ?_
      refine al_bool (c := (a0.Parent == a1.Parent)) 24 rfl (fun c5 => ?_) (fun c5 => ?_)
      · have h := ifT c5 h
        refine alP (some 25) rfl rfl (does_fieldAddr (q := .ptr 2 0 4) (by conv => lhs; whnf) ty42 rfl ty9 (by decide) (by exact rfl)) (by decide) ?_
        refine alR (some 26) rfl rfl (does_load (v := .str a0.Service) (by conv => lhs; whnf) (by conv => lhs; whnf) ty9 (by exact rfl)) (by decide) ?_
        refine alP (some 27) rfl rfl (does_fieldAddr (q := .ptr 3 0 4) (by conv => lhs; whnf) ty42 rfl ty9 (by decide) (by exact rfl)) (by decide) ?_
        refine alR (some 28) rfl rfl (does_load (v := .str a1.Service) (by conv => lhs; whnf) (by conv => lhs; whnf) ty9 (by exact rfl)) (by decide) ?_
        refine alP (some 29) rfl rfl (does_bin (v := .bool (ByteArray.toList a0.Service == ByteArray.toList a1.Service)) (by conv => lhs; whnf) (by conv => lhs; whnf) rfl) (by decide) ?_
        refine alP (some 30) rfl rfl (does_pick (v := .bool (ByteArray.toList a0.Service == ByteArray.toList a1.Service)) (by conv => lhs; whnf) (by exact rfl)) (by decide) ?_
        refine alP (some 31) rfl rfl (does_move (v := .bool (ByteArray.toList a0.Service == ByteArray.toList a1.Service)) (by exact rfl)) (by decide) ?_
        refine al_bool (c := (ByteArray.toList a0.Service == ByteArray.toList a1.Service)) 31 rfl (fun c6 => ?_) (fun c6 => ?_)
        · have h := ifT c6 h
          refine alP (some 32) rfl rfl (does_fieldAddr (q := .ptr 2 0 5) (by conv => lhs; whnf) ty42 rfl ty9 (by decide) (by exact rfl)) (by decide) ?_
          refine alR (some 33) rfl rfl (does_load (v := .str a0.Op) (by conv => lhs; whnf) (by conv => lhs; whnf) ty9 (by exact rfl)) (by decide) ?_
          refine alP (some 34) rfl rfl (does_fieldAddr (q := .ptr 3 0 5) (by conv => lhs; whnf) ty42 rfl ty9 (by decide) (by exact rfl)) (by decide) ?_
          refine alR (some 35) rfl rfl (does_load (v := .str a1.Op) (by conv => lhs; whnf) (by conv => lhs; whnf) ty9 (by exact rfl)) (by decide) ?_
          refine alP (some 36) rfl rfl (does_bin (v := .bool (ByteArray.toList a0.Op == ByteArray.toList a1.Op)) (by conv => lhs; whnf) (by conv => lhs; whnf) rfl) (by decide) ?_
          refine alP (some 37) rfl rfl (does_pick (v := .bool (ByteArray.toList a0.Op == ByteArray.toList a1.Op)) (by conv => lhs; whnf) (by exact rfl)) (by decide) ?_
          refine alP (some 38) rfl rfl (does_move (v := .bool (ByteArray.toList a0.Op == ByteArray.toList a1.Op)) (by exact rfl)) (by decide) ?_
          refine al_bool (c := (ByteArray.toList a0.Op == ByteArray.toList a1.Op)) 38 rfl (fun c7 => ?_) (fun c7 => ?_)
          · have h := ifT c7 h
            refine alP (some 39) rfl rfl (does_fieldAddr (q := .ptr 2 0 6) (by conv => lhs; whnf) ty42 rfl ty3 (by decide) (by exact rfl)) (by decide) ?_
            refine alR (some 40) rfl rfl (does_load (v := .int .i64 a0.Start) (by conv => lhs; whnf) (by conv => lhs; whnf) ty3 (by exact rfl)) (by decide) ?_
            refine alP (some 41) rfl rfl (does_fieldAddr (q := .ptr 3 0 6) (by conv => lhs; whnf) ty42 rfl ty3 (by decide) (by exact rfl)) (by decide) ?_
            refine alR (some 42) rfl rfl (does_load (v := .int .i64 a1.Start) (by conv => lhs; whnf) (by conv => lhs; whnf) ty3 (by exact rfl)) (by decide) ?_
            refine alP (some 43) rfl rfl (does_bin (v := .bool (a0.Start == a1.Start)) (by conv => lhs; whnf) (by conv => lhs; whnf) rfl) (by decide) ?_
            refine alP (some 44) rfl rfl (does_pick (v := .bool (a0.Start == a1.Start)) (by conv => lhs; whnf) (by exact rfl)) (by decide) ?_
            refine alP (some 45) rfl rfl (does_move (v := .bool (a0.Start == a1.Start)) (by exact rfl)) (by decide) ?_
            refine al_bool (c := (a0.Start == a1.Start)) 45 rfl (fun c8 => ?_) (fun c8 => ?_)
            · have h := ifT c8 h
              refine alP (some 46) rfl rfl (does_fieldAddr (q := .ptr 2 0 7) (by conv => lhs; whnf) ty42 rfl ty3 (by decide) (by exact rfl)) (by decide) ?_
              refine alR (some 47) rfl rfl (does_load (v := .int .i64 a0.Dur) (by conv => lhs; whnf) (by conv => lhs; whnf) ty3 (by exact rfl)) (by decide) ?_
              refine alP (some 48) rfl rfl (does_fieldAddr (q := .ptr 3 0 7) (by conv => lhs; whnf) ty42 rfl ty3 (by decide) (by exact rfl)) (by decide) ?_
              refine alR (some 49) rfl rfl (does_load (v := .int .i64 a1.Dur) (by conv => lhs; whnf) (by conv => lhs; whnf) ty3 (by exact rfl)) (by decide) ?_
              refine alP (some 50) rfl rfl (does_bin (v := .bool (a0.Dur == a1.Dur)) (by conv => lhs; whnf) (by conv => lhs; whnf) rfl) (by decide) ?_
              refine alP (some 51) rfl rfl (does_pick (v := .bool (a0.Dur == a1.Dur)) (by conv => lhs; whnf) (by exact rfl)) (by decide) ?_
              refine alP (some 52) rfl rfl (does_move (v := .bool (a0.Dur == a1.Dur)) (by exact rfl)) (by decide) ?_
              refine al_bool (c := (a0.Dur == a1.Dur)) 52 rfl (fun c9 => ?_) (fun c9 => ?_)
              · have h := ifT c9 h
                refine alP (some 53) rfl rfl (does_fieldAddr (q := .ptr 2 0 8) (by conv => lhs; whnf) ty42 rfl ty4 (by decide) (by exact rfl)) (by decide) ?_
                refine alR (some 54) rfl rfl (does_load (v := .bool a0.Err) (by conv => lhs; whnf) (by conv => lhs; whnf) ty4 (by exact rfl)) (by decide) ?_
                refine alP (some 55) rfl rfl (does_fieldAddr (q := .ptr 3 0 8) (by conv => lhs; whnf) ty42 rfl ty4 (by decide) (by exact rfl)) (by decide) ?_
                refine alR (some 56) rfl rfl (does_load (v := .bool a1.Err) (by conv => lhs; whnf) (by conv => lhs; whnf) ty4 (by exact rfl)) (by decide) ?_
                refine alP (some 57) rfl rfl (does_eq_bool (v := .bool (a0.Err == a1.Err)) (by conv => lhs; whnf) (by conv => lhs; whnf) (ty_bool ty4) rfl) (by decide) ?_
                refine alP (some 58) rfl rfl (does_pick (v := .bool (a0.Err == a1.Err)) (by conv => lhs; whnf) (by exact rfl)) (by decide) ?_
                refine alP (some 59) rfl rfl (does_move (v := .bool (a0.Err == a1.Err)) (by exact rfl)) (by decide) ?_
                refine al_bool (c := (a0.Err == a1.Err)) 59 rfl (fun c10 => ?_) (fun c10 => ?_)
                · have h := ifT c10 h
                  refine alP (some 60) rfl rfl (does_fieldAddr (q := .ptr 2 0 9) (by conv => lhs; whnf) ty42 rfl ty40 (by decide) (by exact rfl)) (by decide) ?_
                  refine alR (some 61) rfl rfl (does_load (v := .sl 2 (List.map enc52 a0.Attrs)) (by conv => lhs; whnf) (by conv => lhs; whnf) ty40 (by exact rfl)) (by decide) ?_
                  refine alP (some 62) rfl rfl (does_fieldAddr (q := .ptr 3 0 9) (by conv => lhs; whnf) ty42 rfl ty40 (by decide) (by exact rfl)) (by decide) ?_
                  refine alR (some 63) rfl rfl (does_load (v := .sl 2 (List.map enc52 a1.Attrs)) (by conv => lhs; whnf) (by conv => lhs; whnf) ty40 (by exact rfl)) (by decide) ?_
                  obtain ⟨x11, hx11, h⟩ := bnd_some h
                  refine alD (some 64) rfl rfl ((do_call0 64 false (slices_Equal_Attr_ok a0.Attrs a1.Attrs hx11) rfl ent69 rfl rfl).fx (y := ⟨[], .bool x11, [], [64]⟩) rfl) (by decide) ?_
                  refine alP (some 65) rfl rfl (does_pick (v := .bool x11) (by conv => lhs; whnf) (by exact rfl)) (by decide) ?_
                  refine alP (some 4) rfl rfl (does_assign (v := .bool x11) (by exact rfl)) (by decide) ?_
                  refine al_nil ?_
                  refine hK2 _ ?_
                  refine aw_ret ?_
                  obtain rfl := Option.some.inj h
                  exact ret_ok1 (by conv => lhs; whnf) (by conv => lhs; whnf) (by exact rfl) (.inr rfl) rfl
                · have h := ifF c10 h
                  refine alS (some 60) rfl rfl (by decide) ?_
                  refine alS (some 61) rfl rfl (by decide) ?_
                  refine alS (some 62) rfl rfl (by decide) ?_
                  refine alS (some 63) rfl rfl (by decide) ?_
                  refine alS (some 64) rfl rfl (by decide) ?_
                  refine alP (some 65) rfl rfl (does_pick (v := .bool false) (by conv => lhs; whnf) (by exact rfl)) (by decide) ?_
                  refine alP (some 4) rfl rfl (does_assign (v := .bool false) (by exact rfl)) (by decide) ?_
                  refine al_nil ?_
                  refine hK2 _ ?_
                  refine aw_ret ?_
                  obtain rfl := Option.some.inj h
                  exact ret_ok1 (by conv => lhs; whnf) (by conv => lhs; whnf) (by exact rfl) (.inr rfl) rfl
              · have h := ifF c9 h
                refine alS (some 53) rfl rfl (by decide) ?_
                refine alS (some 54) rfl rfl (by decide) ?_
                refine alS (some 55) rfl rfl (by decide) ?_
                refine alS (some 56) rfl rfl (by decide) ?_
                refine alS (some 57) rfl rfl (by decide) ?_
                refine alP (some 58) rfl rfl (does_pick (v := .bool false) (by conv => lhs; whnf) (by exact rfl)) (by decide) ?_
                refine alP (some 59) rfl rfl (does_move (v := .bool false) (by exact rfl)) (by decide) ?_
                refine alS (some 60) rfl rfl (by decide) ?_
                refine alS (some 61) rfl rfl (by decide) ?_
                refine alS (some 62) rfl rfl (by decide) ?_
                refine alS (some 63) rfl rfl (by decide) ?_
                refine alS (some 64) rfl rfl (by decide) ?_
                refine alP (some 65) rfl rfl (does_pick (v := .bool false) (by conv => lhs; whnf) (by exact rfl)) (by decide) ?_
                refine alP (some 4) rfl rfl (does_assign (v := .bool false) (by exact rfl)) (by decide) ?_
                refine al_nil ?_
                refine hK2 _ ?_
                refine aw_ret ?_
                obtain rfl := Option.some.inj h
                exact ret_ok1 (by conv => lhs; whnf) (by conv => lhs; whnf) (by exact rfl) (.inr rfl) rfl
            · have h := ifF c8 h
              refine alS (some 46) rfl rfl (by decide) ?_
              refine alS (some 47) rfl rfl (by decide) ?_
              refine alS (some 48) rfl rfl (by decide) ?_
              refine alS (some 49) rfl rfl (by decide) ?_
              refine alS (some 50) rfl rfl (by decide) ?_
              refine alP (some 51) rfl rfl (does_pick (v := .bool false) (by conv => lhs; whnf) (by exact rfl)) (by decide) ?_
              refine alP (some 52) rfl rfl (does_move (v := .bool false) (by exact rfl)) (by decide) ?_
              refine alS (some 53) rfl rfl (by decide) ?_
              refine alS (some 54) rfl rfl (by decide) ?_
              refine alS (some 55) rfl rfl (by decide) ?_
              refine alS (some 56) rfl rfl (by decide) ?_
              refine alS (some 57) rfl rfl (by decide) ?_
              refine alP (some 58) rfl rfl (does_pick (v := .bool false) (by conv => lhs; whnf) (by exact rfl)) (by decide) ?_
              refine alP (some 59) rfl rfl (does_move (v := .bool false) (by exact rfl)) (by decide) ?_
              refine alS (some 60) rfl rfl (by decide) ?_
              refine alS (some 61) rfl rfl (by decide) ?_
              refine alS (some 62) rfl rfl (by decide) ?_
              refine alS (some 63) rfl rfl (by decide) ?_
              refine alS (some 64) rfl rfl (by decide) ?_
              refine alP (some 65) rfl rfl (does_pick (v := .bool false) (by conv => lhs; whnf) (by exact rfl)) (by decide) ?_
              refine alP (some 4) rfl rfl (does_assign (v := .bool false) (by exact rfl)) (by decide) ?_
              refine al_nil ?_
              refine hK2 _ ?_
              refine aw_ret ?_
              obtain rfl := Option.some.inj h
              exact ret_ok1 (by conv => lhs; whnf) (by conv => lhs; whnf) (by exact rfl) (.inr rfl) rfl
          · have h := ifF c7 h
            refine alS (some 39) rfl rfl (by decide) ?_
            refine alS (some 40) rfl rfl (by decide) ?_
            refine alS (some 41) rfl rfl (by decide) ?_
            refine alS (some 42) rfl rfl (by decide) ?_
            refine alS (some 43) rfl rfl (by decide) ?_
            refine alP (some 44) rfl rfl (does_pick (v := .bool false) (by conv => lhs; whnf) (by exact rfl)) (by decide) ?_
            refine alP (some 45) rfl rfl (does_move (v := .bool false) (by exact rfl)) (by decide) ?_
            refine alS (some 46) rfl rfl (by decide) ?_
            refine alS (some 47) rfl rfl (by decide) ?_
            refine alS (some 48) rfl rfl (by decide) ?_
            refine alS (some 49) rfl rfl (by decide) ?_
            refine alS (some 50) rfl rfl (by decide) ?_
            refine alP (some 51) rfl rfl (does_pick (v := .bool false) (by conv => lhs; whnf) (by exact rfl)) (by decide) ?_
            refine alP (some 52) rfl rfl (does_move (v := .bool false) (by exact rfl)) (by decide) ?_
            refine alS (some 53) rfl rfl (by decide) ?_
            refine alS (some 54) rfl rfl (by decide) ?_
            refine alS (some 55) rfl rfl (by decide) ?_
            refine alS (some 56) rfl rfl (by decide) ?_
            refine alS (some 57) rfl rfl (by decide) ?_
            refine alP (some 58) rfl rfl (does_pick (v := .bool false) (by conv => lhs; whnf) (by exact rfl)) (by decide) ?_
            refine alP (some 59) rfl rfl (does_move (v := .bool false) (by exact rfl)) (by decide) ?_
            refine alS (some 60) rfl rfl (by decide) ?_
            refine alS (some 61) rfl rfl (by decide) ?_
            refine alS (some 62) rfl rfl (by decide) ?_
            refine alS (some 63) rfl rfl (by decide) ?_
            refine alS (some 64) rfl rfl (by decide) ?_
            refine alP (some 65) rfl rfl (does_pick (v := .bool false) (by conv => lhs; whnf) (by exact rfl)) (by decide) ?_
            refine alP (some 4) rfl rfl (does_assign (v := .bool false) (by exact rfl)) (by decide) ?_
            refine al_nil ?_
            refine hK2 _ ?_
            refine aw_ret ?_
            obtain rfl := Option.some.inj h
            exact ret_ok1 (by conv => lhs; whnf) (by conv => lhs; whnf) (by exact rfl) (.inr rfl) rfl
        · have h := ifF c6 h
          refine alS (some 32) rfl rfl (by decide) ?_
          refine alS (some 33) rfl rfl (by decide) ?_
          refine alS (some 34) rfl rfl (by decide) ?_
          refine alS (some 35) rfl rfl (by decide) ?_
          refine alS (some 36) rfl rfl (by decide) ?_
          refine alP (some 37) rfl rfl (does_pick (v := .bool false) (by conv => lhs; whnf) (by exact rfl)) (by decide) ?_
          refine alP (some 38) rfl rfl (does_move (v := .bool false) (by exact rfl)) (by decide) ?_
          refine alS (some 39) rfl rfl (by decide) ?_
          refine alS (some 40) rfl rfl (by decide) ?_
          refine alS (some 41) rfl rfl (by decide) ?_
          refine alS (some 42) rfl rfl (by decide) ?_
          refine alS (some 43) rfl rfl (by decide) ?_
          refine alP (some 44) rfl rfl (does_pick (v := .bool false) (by conv => lhs; whnf) (by exact rfl)) (by decide) ?_
          refine alP (some 45) rfl rfl (does_move (v := .bool false) (by exact rfl)) (by decide) ?_
          refine alS (some 46) rfl rfl (by decide) ?_
          refine alS (some 47) rfl rfl (by decide) ?_
          refine alS (some 48) rfl rfl (by decide) ?_
          refine alS (some 49) rfl rfl (by decide) ?_
          refine alS (some 50) rfl rfl (by decide) ?_
          refine alP (some 51) rfl rfl (does_pick (v := .bool false) (by conv => lhs; whnf) (by exact rfl)) (by decide) ?_
          refine alP (some 52) rfl rfl (does_move (v := .bool false) (by exact rfl)) (by decide) ?_
          refine alS (some 53) rfl rfl (by decide) ?_
          refine alS (some 54) rfl rfl (by decide) ?_
          refine alS (some 55) rfl rfl (by decide) ?_
          refine alS (some 56) rfl rfl (by decide) ?_
          refine alS (some 57) rfl rfl (by decide) ?_
          refine alP (some 58) rfl rfl (does_pick (v := .bool false) (by conv => lhs; whnf) (by exact rfl)) (by decide) ?_
          refine alP (some 59) rfl rfl (does_move (v := .bool false) (by exact rfl)) (by decide) ?_
          refine alS (some 60) rfl rfl (by decide) ?_
          refine alS (some 61) rfl rfl (by decide) ?_
          refine alS (some 62) rfl rfl (by decide) ?_
          refine alS (some 63) rfl rfl (by decide) ?_
          refine alS (some 64) rfl rfl (by decide) ?_
          refine alP (some 65) rfl rfl (does_pick (v := .bool false) (by conv => lhs; whnf) (by exact rfl)) (by decide) ?_
          refine alP (some 4) rfl rfl (does_assign (v := .bool false) (by exact rfl)) (by decide) ?_
          refine al_nil ?_
          refine hK2 _ ?_
          refine aw_ret ?_
          obtain rfl := Option.some.inj h
          exact ret_ok1 (by conv => lhs; whnf) (by conv => lhs; whnf) (by exact rfl) (.inr rfl) rfl
      · have h := ifF c5 h
        refine alS (some 25) rfl rfl (by decide) ?_
        refine alS (some 26) rfl rfl (by decide) ?_
        refine alS (some 27) rfl rfl (by decide) ?_
        refine alS (some 28) rfl rfl (by decide) ?_
        refine alS (some 29) rfl rfl (by decide) ?_
        refine alP (some 30) rfl rfl (does_pick (v := .bool false) (by conv => lhs; whnf) (by exact rfl)) (by decide) ?_
        refine alP (some 31) rfl rfl (does_move (v := .bool false) (by exact rfl)) (by decide) ?_
        refine alS (some 32) rfl rfl (by decide) ?_
        refine alS (some 33) rfl rfl (by decide) ?_
        refine alS (some 34) rfl rfl (by decide) ?_
        refine alS (some 35) rfl rfl (by decide) ?_
        refine alS (some 36) rfl rfl (by decide) ?_
        refine alP (some 37) rfl rfl (does_pick (v := .bool false) (by conv => lhs; whnf) (by exact rfl)) (by decide) ?_
        refine alP (some 38) rfl rfl (does_move (v := .bool false) (by exact rfl)) (by decide) ?_
        refine alS (some 39) rfl rfl (by decide) ?_
        refine alS (some 40) rfl rfl (by decide) ?_
        refine alS (some 41) rfl rfl (by decide) ?_
        refine alS (some 42) rfl rfl (by decide) ?_
        refine alS (some 43) rfl rfl (by decide) ?_
        refine alP (some 44) rfl rfl (does_pick (v := .bool false) (by conv => lhs; whnf) (by exact rfl)) (by decide) ?_
        refine alP (some 45) rfl rfl (does_move (v := .bool false) (by exact rfl)) (by decide) ?_
        refine alS (some 46) rfl rfl (by decide) ?_
        refine alS (some 47) rfl rfl (by decide) ?_
        refine alS (some 48) rfl rfl (by decide) ?_
        refine alS (some 49) rfl rfl (by decide) ?_
        refine alS (some 50) rfl rfl (by decide) ?_
        refine alP (some 51) rfl rfl (does_pick (v := .bool false) (by conv => lhs; whnf) (by exact rfl)) (by decide) ?_
        refine alP (some 52) rfl rfl (does_move (v := .bool false) (by exact rfl)) (by decide) ?_
        refine alS (some 53) rfl rfl (by decide) ?_
        refine alS (some 54) rfl rfl (by decide) ?_
        refine alS (some 55) rfl rfl (by decide) ?_
        refine alS (some 56) rfl rfl (by decide) ?_
        refine alS (some 57) rfl rfl (by decide) ?_
        refine alP (some 58) rfl rfl (does_pick (v := .bool false) (by conv => lhs; whnf) (by exact rfl)) (by decide) ?_
        refine alP (some 59) rfl rfl (does_move (v := .bool false) (by exact rfl)) (by decide) ?_
        refine alS (some 60) rfl rfl (by decide) ?_
        refine alS (some 61) rfl rfl (by decide) ?_
        refine alS (some 62) rfl rfl (by decide) ?_
        refine alS (some 63) rfl rfl (by decide) ?_
        refine alS (some 64) rfl rfl (by decide) ?_
        refine alP (some 65) rfl rfl (does_pick (v := .bool false) (by conv => lhs; whnf) (by exact rfl)) (by decide) ?_
        refine alP (some 4) rfl rfl (does_assign (v := .bool false) (by exact rfl)) (by decide) ?_
        refine al_nil ?_
        refine hK2 _ ?_
        refine aw_ret ?_
        obtain rfl := Option.some.inj h
        exact ret_ok1 (by conv => lhs; whnf) (by conv => lhs; whnf) (by exact rfl) (.inr rfl) rfl
    · have h := ifF c4 h
      refine alS (some 18) rfl rfl (by decide) ?_
      refine alS (some 19) rfl rfl (by decide) ?_
      refine alS (some 20) rfl rfl (by decide) ?_
      refine alS (some 21) rfl rfl (by decide) ?_
      refine alS (some 22) rfl rfl (by decide) ?_
      refine alP (some 23) rfl rfl (does_pick (v := .bool false) (by conv => lhs; whnf) (by exact rfl)) (by decide) ?_
      refine alP (some 24) rfl rfl (does_move (v := .bool false) (by exact rfl)) (by decide) ?_
      refine alS (some 25) rfl rfl (by decide) ?_
      refine alS (some 26) rfl rfl (by decide) ?_
      refine alS (some 27) rfl rfl (by decide) ?_
      refine alS (some 28) rfl rfl (by decide) ?_
      refine alS (some 29) rfl rfl (by decide) ?_
      refine alP (some 30) rfl rfl (does_pick (v := .bool false) (by conv => lhs; whnf) (by exact rfl)) (by decide) ?_
      refine alP (some 31) rfl rfl (does_move (v := .bool false) (by exact rfl)) (by decide) ?_
      refine alS (some 32) rfl rfl (by decide) ?_
      refine alS (some 33) rfl rfl (by decide) ?_
      refine alS (some 34) rfl rfl (by decide) ?_
      refine alS (some 35) rfl rfl (by decide) ?_
      refine alS (some 36) rfl rfl (by decide) ?_
      refine alP (some 37) rfl rfl (does_pick (v := .bool false) (by conv => lhs; whnf) (by exact rfl)) (by decide) ?_
      refine alP (some 38) rfl rfl (does_move (v := .bool false) (by exact rfl)) (by decide) ?_
      refine alS (some 39) rfl rfl (by decide) ?_
      refine alS (some 40) rfl rfl (by decide) ?_
      refine alS (some 41) rfl rfl (by decide) ?_
      refine alS (some 42) rfl rfl (by decide) ?_
      refine alS (some 43) rfl rfl (by decide) ?_
      refine alP (some 44) rfl rfl (does_pick (v := .bool false) (by conv => lhs; whnf) (by exact rfl)) (by decide) ?_
      refine alP (some 45) rfl rfl (does_move (v := .bool false) (by exact rfl)) (by decide) ?_
      refine alS (some 46) rfl rfl (by decide) ?_
      refine alS (some 47) rfl rfl (by decide) ?_
      refine alS (some 48) rfl rfl (by decide) ?_
      refine alS (some 49) rfl rfl (by decide) ?_
      refine alS (some 50) rfl rfl (by decide) ?_
      refine alP (some 51) rfl rfl (does_pick (v := .bool false) (by conv => lhs; whnf) (by exact rfl)) (by decide) ?_
      refine alP (some 52) rfl rfl (does_move (v := .bool false) (by exact rfl)) (by decide) ?_
      refine alS (some 53) rfl rfl (by decide) ?_
      refine alS (some 54) rfl rfl (by decide) ?_
      refine alS (some 55) rfl rfl (by decide) ?_
      refine alS (some 56) rfl rfl (by decide) ?_
      refine alS (some 57) rfl rfl (by decide) ?_
      refine alP (some 58) rfl rfl (does_pick (v := .bool false) (by conv => lhs; whnf) (by exact rfl)) (by decide) ?_
      refine alP (some 59) rfl rfl (does_move (v := .bool false) (by exact rfl)) (by decide) ?_
      refine alS (some 60) rfl rfl (by decide) ?_
      refine alS (some 61) rfl rfl (by decide) ?_
      refine alS (some 62) rfl rfl (by decide) ?_
      refine alS (some 63) rfl rfl (by decide) ?_
      refine alS (some 64) rfl rfl (by decide) ?_
      refine alP (some 65) rfl rfl (does_pick (v := .bool false) (by conv => lhs; whnf) (by exact rfl)) (by decide) ?_
      refine alP (some 4) rfl rfl (does_assign (v := .bool false) (by exact rfl)) (by decide) ?_
      refine al_nil ?_
      refine hK2 _ ?_
      refine aw_ret ?_
      obtain rfl := Option.some.inj h
      exact ret_ok1 (by conv => lhs; whnf) (by conv => lhs; whnf) (by exact rfl) (.inr rfl) rfl
  · have h := ifF c3 h
    refine alS (some 11) rfl rfl (by decide) ?_
    refine alS (some 12) rfl rfl (by decide) ?_
    refine alS (some 13) rfl rfl (by decide) ?_
    refine alS (some 14) rfl rfl (by decide) ?_
    refine alS (some 15) rfl rfl (by decide) ?_
    refine alP (some 16) rfl rfl (does_pick (v := .bool false) (by conv => lhs; whnf) (by exact rfl)) (by decide) ?_
    refine alP (some 17) rfl rfl (does_move (v := .bool false) (by exact rfl)) (by decide) ?_
    refine alS (some 18) rfl rfl (by decide) ?_
    refine alS (some 19) rfl rfl (by decide) ?_
    refine alS (some 20) rfl rfl (by decide) ?_
    refine alS (some 21) rfl rfl (by decide) ?_
    refine alS (some 22) rfl rfl (by decide) ?_
    refine alP (some 23) rfl rfl (does_pick (v := .bool false) (by conv => lhs; whnf) (by exact rfl)) (by decide) ?_
    refine alP (some 24) rfl rfl (does_move (v := .bool false) (by exact rfl)) (by decide) ?_
    refine alS (some 25) rfl rfl (by decide) ?_
    refine alS (some 26) rfl rfl (by decide) ?_
    refine alS (some 27) rfl rfl (by decide) ?_
    refine alS (some 28) rfl rfl (by decide) ?_
    refine alS (some 29) rfl rfl (by decide) ?_
    refine alP (some 30) rfl rfl (does_pick (v := .bool false) (by conv => lhs; whnf) (by exact rfl)) (by decide) ?_
    refine alP (some 31) rfl rfl (does_move (v := .bool false) (by exact rfl)) (by decide) ?_
    refine alS (some 32) rfl rfl (by decide) ?_
    refine alS (some 33) rfl rfl (by decide) ?_
    refine alS (some 34) rfl rfl (by decide) ?_
    refine alS (some 35) rfl rfl (by decide) ?_
    refine alS (some 36) rfl rfl (by decide) ?_
    refine alP (some 37) rfl rfl (does_pick (v := .bool false) (by conv => lhs; whnf) (by exact rfl)) (by decide) ?_
    refine alP (some 38) rfl rfl (does_move (v := .bool false) (by exact rfl)) (by decide) ?_
    refine alS (some 39) rfl rfl (by decide) ?_
    refine alS (some 40) rfl rfl (by decide) ?_
    refine alS (some 41) rfl rfl (by decide) ?_
    refine alS (some 42) rfl rfl (by decide) ?_
    refine alS (some 43) rfl rfl (by decide) ?_
    refine alP (some 44) rfl rfl (does_pick (v := .bool false) (by conv => lhs; whnf) (by exact rfl)) (by decide) ?_
    refine alP (some 45) rfl rfl (does_move (v := .bool false) (by exact rfl)) (by decide) ?_
    refine alS (some 46) rfl rfl (by decide) ?_
    refine alS (some 47) rfl rfl (by decide) ?_
    refine alS (some 48) rfl rfl (by decide) ?_
    refine alS (some 49) rfl rfl (by decide) ?_
    refine alS (some 50) rfl rfl (by decide) ?_
    refine alP (some 51) rfl rfl (does_pick (v := .bool false) (by conv => lhs; whnf) (by exact rfl)) (by decide) ?_
    refine alP (some 52) rfl rfl (does_move (v := .bool false) (by exact rfl)) (by decide) ?_
    refine alS (some 53) rfl rfl (by decide) ?_
    refine alS (some 54) rfl rfl (by decide) ?_
    refine alS (some 55) rfl rfl (by decide) ?_
    refine alS (some 56) rfl rfl (by decide) ?_
    refine alS (some 57) rfl rfl (by decide) ?_
    refine alP (some 58) rfl rfl (does_pick (v := .bool false) (by conv => lhs; whnf) (by exact rfl)) (by decide) ?_
    refine alP (some 59) rfl rfl (does_move (v := .bool false) (by exact rfl)) (by decide) ?_
    refine alS (some 60) rfl rfl (by decide) ?_
    refine alS (some 61) rfl rfl (by decide) ?_
    refine alS (some 62) rfl rfl (by decide) ?_
    refine alS (some 63) rfl rfl (by decide) ?_
    refine alS (some 64) rfl rfl (by decide) ?_
    refine alP (some 65) rfl rfl (does_pick (v := .bool false) (by conv => lhs; whnf) (by exact rfl)) (by decide) ?_
    refine alP (some 4) rfl rfl (does_assign (v := .bool false) (by exact rfl)) (by decide) ?_
    refine al_nil ?_
    refine hK2 _ ?_
    refine aw_ret ?_
    obtain rfl := Option.some.inj h
    exact ret_ok1 (by conv => lhs; whnf) (by conv => lhs; whnf) (by exact rfl) (.inr rfl) rfl
def span_Name (a0 : ByteArray) : Option Bool :=
  if (decide ((1 : Int) ≤ (ByteArray.size a0 : Int))) = true then (some (decide ((ByteArray.size a0 : Int) ≤ 16))) else (some false)
set_option maxRecDepth 100000 in
set_option maxHeartbeats 8000000 in
/-- gleaning/span.Name -/
theorem span_Name_ok (a0 : ByteArray) {r : Bool} (h : span_Name a0 = some r) : Ok Try.prog 65 [.str a0] [] [] (.bool r) [] [] := by
  unfold span_Name at h
  refine ok_of_code Try.func65 rfl (by show (1 : Nat) ≤ _; decide) (Nat.le_refl _) fun X => ?_
  refine aw_seq_k (fun K1 hK1 => ?_)
  refine aw_regL ?_
  refine alP (some 2) rfl rfl (does_assign (v := .bool false) (by exact rfl)) (by decide) ?_
  refine al_nil ?_
  refine hK1 _ ?_
  refine aw_seq_k (fun K2 hK2 => ?_)
  refine aw_regL ?_
  refine alP (some 3) rfl rfl (does_move (v := .str a0) (by exact rfl)) (by decide) ?_
  refine alP (some 4) rfl rfl (does_len_str (by conv => lhs; whnf) ty9) (by decide) ?_
  refine alP (some 5) rfl rfl (does_bin (v := .bool (decide ((1 : Int) ≤ (ByteArray.size a0 : Int)))) (by conv => lhs; whnf) (by conv => lhs; whnf) rfl) (by decide) ?_
  refine alP (some 6) rfl rfl (does_move (v := .bool (decide ((1 : Int) ≤ (ByteArray.size a0 : Int)))) (by exact rfl)) (by decide) ?_
  refine al_bool (c := (decide ((1 : Int) ≤ (ByteArray.size a0 : Int)))) 6 rfl (fun c3 => ?_) (fun c3 => ?_)
  · have h := ifT c3 h
    refine alP (some 7) rfl rfl (does_move (v := .str a0) (by exact rfl)) (by decide) ?_
    refine alP (some 8) rfl rfl (does_len_str (by conv => lhs; whnf) ty9) (by decide) ?_
    refine alP (some 9) rfl rfl (does_bin (v := .bool (decide ((ByteArray.size a0 : Int) ≤ 16))) (by conv => lhs; whnf) (by conv => lhs; whnf) rfl) (by decide) ?_
    refine alP (some 10) rfl rfl (does_pick (v := .bool (decide ((ByteArray.size a0 : Int) ≤ 16))) (by conv => lhs; whnf) (by exact rfl)) (by decide) ?_
    refine alP (some 2) rfl rfl (does_assign (v := .bool (decide ((ByteArray.size a0 : Int) ≤ 16))) (by exact rfl)) (by decide) ?_
    refine al_nil ?_
    refine hK2 _ ?_
    refine aw_ret ?_
    obtain rfl := Option.some.inj h
    exact ret_ok1 (by conv => lhs; whnf) (by conv => lhs; whnf) (by exact rfl) (.inr rfl) rfl
  · have h := ifF c3 h
    refine alS (some 7) rfl rfl (by decide) ?_
    refine alS (some 8) rfl rfl (by decide) ?_
    refine alS (some 9) rfl rfl (by decide) ?_
    refine alP (some 10) rfl rfl (does_pick (v := .bool false) (by conv => lhs; whnf) (by exact rfl)) (by decide) ?_
    refine alP (some 2) rfl rfl (does_assign (v := .bool false) (by exact rfl)) (by decide) ?_
    refine al_nil ?_
    refine hK2 _ ?_
    refine aw_ret ?_
    obtain rfl := Option.some.inj h
    exact ret_ok1 (by conv => lhs; whnf) (by conv => lhs; whnf) (by exact rfl) (.inr rfl) rfl
def span_attrs_c1 (a0 : Attr) (a1 : Attr) : Option Bool :=
  some (ByteArray.toList a0.Key == ByteArray.toList a1.Key)
set_option maxRecDepth 100000 in
set_option maxHeartbeats 8000000 in
/-- gleaning/span.attrs$1 -/
theorem span_attrs_c1_ok (a0 : Attr) (a1 : Attr) {r : Bool} (h : span_attrs_c1 a0 a1 = some r) : Ok Try.prog 103 [.agg [.str a0.Key, .str a0.Value], .rptr [.str a1.Key, .str a1.Value]] [] [] (.bool r) [] [] := by
  unfold span_attrs_c1 at h
  refine ok_of_code Try.func103 rfl (by show (2 : Nat) ≤ _; decide) (Nat.le_refl _) fun X => ?_
  refine aw_seq_k (fun K1 hK1 => ?_)
  refine aw_regL ?_
  refine alD (some 2) rfl rfl (do_box (by conv => lhs; whnf) rfl rfl) (by decide) ?_
  refine alP (some 3) rfl rfl (does_assign (v := .bool false) (by exact rfl)) (by decide) ?_
  refine al_nil ?_
  refine hK1 _ ?_
  refine aw_seq_k (fun K2 hK2 => ?_)
  refine aw_regL ?_
  refine alP (some 4) rfl rfl (does_fieldAddr (q := .ptr 2 0 0) (by conv => lhs; whnf) ty53 rfl ty9 (by decide) (by exact rfl)) (by decide) ?_
  refine alR (some 5) rfl rfl (does_load (v := .str a0.Key) (by conv => lhs; whnf) (by conv => lhs; whnf) ty9 (by exact rfl)) (by decide) ?_
  refine alP (some 6) rfl rfl (does_fieldAddr (q := .rptr [.str a1.Key, .str a1.Value]) (by conv => lhs; whnf) ty53 rfl ty9 (by decide) (by exact rfl)) (by decide) ?_
  refine alR (some 7) rfl rfl (does_load (v := .str a1.Key) (by conv => lhs; whnf) (by conv => lhs; whnf) ty9 (by exact rfl)) (by decide) ?_
  refine alP (some 8) rfl rfl (does_bin (v := .bool (ByteArray.toList a0.Key == ByteArray.toList a1.Key)) (by conv => lhs; whnf) (by conv => lhs; whnf) rfl) (by decide) ?_
  refine alP (some 3) rfl rfl (does_assign (v := .bool (ByteArray.toList a0.Key == ByteArray.toList a1.Key)) (by exact rfl)) (by decide) ?_
  refine al_nil ?_
  refine hK2 _ ?_
  refine aw_ret ?_
  obtain rfl := Option.some.inj h
  exact ret_ok1 (by conv => lhs; whnf) (by conv => lhs; whnf) (by exact rfl) (.inr rfl) rfl
def slices_IndexFunc_Attr_span_attrs_c1_l0 (a0 : List Attr) (a1_0 : Attr) (v8_0 : Int) : Option (Int ⊕ Int) :=
  if (decide (v8_0 < (List.length a0 : Int))) = true then (gd (0 ≤ v8_0) (Option.bind (a0[(Int.toNat v8_0)]?) (fun (x13 : Attr) => Option.bind (span_attrs_c1 x13 a1_0) (fun (x14 : Bool) => if x14 = true then (some (Sum.inr v8_0)) else (some (Sum.inl (IntKind.i64.wrap (v8_0 + 1)))))))) else (some (Sum.inr (-1)))
def slices_IndexFunc_Attr_span_attrs_c1 (a0 : List Attr) (a1_0 : Attr) : Option Int :=
  loopN (fun (s : Int) => slices_IndexFunc_Attr_span_attrs_c1_l0 a0 a1_0 s) Fu 0
set_option maxRecDepth 100000 in
set_option maxHeartbeats 8000000 in
/-- slices.IndexFunc[[]gleaning/api.Attr,gleaning/api.Attr] -/
theorem slices_IndexFunc_Attr_span_attrs_c1_ok (a0 : List Attr) (a1_0 : Attr) {r : Int} (h : slices_IndexFunc_Attr_span_attrs_c1 a0 a1_0 = some r) : Ok Try.prog 121 [.sl 2 (List.map enc52 a0), .fn 103 [.rptr [.str a1_0.Key, .str a1_0.Value]]] [] [] (.int .i64 r) [] [] := by
  unfold slices_IndexFunc_Attr_span_attrs_c1 at h
  refine ok_of_code Try.func121 rfl (by show (2 : Nat) ≤ _; decide) (Nat.le_refl _) fun X => ?_
  refine aw_seq_k (fun K1 hK1 => ?_)
  refine aw_regL ?_
  refine alP (some 4) rfl rfl (does_assign (v := .int .i64 0) (by exact rfl)) (by decide) ?_
  refine al_nil ?_
  refine hK1 _ ?_
  refine aw_seq_k (fun K2 hK2 => ?_)
  refine aw_seq_k (fun K3 hK3 => ?_)
  refine aw_regL ?_
  refine alP (some 6) rfl rfl (does_move (v := .sl 2 (List.map enc52 a0)) (by exact rfl)) (by decide) ?_
  refine alP (some 7) rfl rfl ((does_len_sl (by conv => lhs; whnf) ty40).castp (v' := .int .i64 (List.length a0 : Int)) (by exact len_map _)) (by decide) ?_
  refine alP (some 8) rfl rfl (does_move (v := .int .i64 0) (by exact rfl)) (by decide) ?_
  refine al_nil ?_
  refine hK3 _ ?_
  refine aw_block ?_
  refine aw_loop' (fun m s => ∃ (v8_0 : Int), loopN (fun (s : Int) => slices_IndexFunc_Attr_span_attrs_c1_l0 a0 a1_0 s) m v8_0 = some r ∧ s = lit [(0, .sl 2 (List.map enc52 a0)), (1, .fn 103 [.rptr [.str a1_0.Key, .str a1_0.Value]]), (7, .int .i64 (List.length a0 : Int)), (8, .int .i64 v8_0)] [] [] X) Fu
    ⟨_, reb_lit [(0, .sl 2 (List.map enc52 a0)), (1, .fn 103 [.rptr [.str a1_0.Key, .str a1_0.Value]]), (7, .int .i64 (List.length a0 : Int)), (8, .int .i64 (0))] [] [] [] (envOk_cons (by conv => lhs; whnf) (by exact rfl) (envOk_cons (by conv => lhs; whnf) (by exact rfl) (envOk_cons (by conv => lhs; whnf) (by exact rfl) (envOk_cons (by conv => lhs; whnf) (by exact rfl) envOk_nil)))) objOk_nil (nodup_b rfl) (nodup_b rfl) rfl rfl, 0, h, rfl⟩ ?_
  rintro m s ⟨v8_0, h, rfl⟩
  obtain ⟨m0, q4, rfl, h, hq5⟩ := loop_some h
  replace h : slices_IndexFunc_Attr_span_attrs_c1_l0 a0 a1_0 v8_0 = some q4 := h
  unfold slices_IndexFunc_Attr_span_attrs_c1_l0 at h
  refine aw_seq_k (fun K6 hK6 => ?_)
  refine aw_regL ?_
  refine alP (some 9) rfl rfl (does_bin (v := .bool (decide (v8_0 < (List.length a0 : Int)))) (by conv => lhs; whnf) (by conv => lhs; whnf) rfl) (by decide) ?_
  refine al_nil ?_
  refine hK6 _ ?_
  refine aw_seq_k (fun K7 hK7 => ?_)
  refine aw_bool (b := (decide (v8_0 < (List.length a0 : Int)))) 9 rfl (fun c8 => ?_) (fun c8 => ?_)
  · have h := ifT c8 h
    refine aw_cond_t (by decide) rfl ?_
    refine aw_skip ?_
    refine hK7 _ ?_
    refine aw_seq_k (fun K9 hK9 => ?_)
    refine aw_block ?_
    refine aw_seq_k (fun K10 hK10 => ?_)
    refine aw_regL ?_
    refine alP (some 10) rfl rfl (does_move (v := .int .i64 v8_0) (by exact rfl)) (by decide) ?_
    refine alP (some 5) rfl rfl (does_assign (v := .int .i64 v8_0) (by exact rfl)) (by decide) ?_
    refine al_nil ?_
    refine hK10 _ ?_
    refine aw_seq_k (fun K11 hK11 => ?_)
    refine aw_regL ?_
    refine alP (some 11) rfl rfl (does_move (v := .fn 103 [.rptr [.str a1_0.Key, .str a1_0.Value]]) (by exact rfl)) (by decide) ?_
    refine alP (some 12) rfl rfl (does_move (v := .sl 2 (List.map enc52 a0)) (by exact rfl)) (by decide) ?_
    refine alP (some 13) rfl rfl (does_move (v := .int .i64 v8_0) (by exact rfl)) (by decide) ?_
    obtain ⟨g12, h⟩ := gd_some h
    obtain ⟨x13, hx13, h⟩ := bnd_some h
    refine alP (some 14) rfl rfl (does_indexAddr_sl (el := .agg [.str x13.Key, .str x13.Value]) (by conv => lhs; whnf) (by conv => lhs; whnf) ty40 ty53 g12 (by exact map_get hx13)) (by decide) ?_
    refine alR (some 15) rfl rfl (does_load (v := .agg [.str x13.Key, .str x13.Value]) (by conv => lhs; whnf) (by conv => lhs; whnf) ty53 (by exact rfl)) (by decide) ?_
    obtain ⟨x14, hx14, h⟩ := bnd_some h
    refine alD (some 16) rfl rfl (do_call0 16 false (span_attrs_c1_ok x13 a1_0 hx14) rfl ent103 rfl rfl) (by decide) ?_
    refine al_nil ?_
    refine hK11 _ ?_
    refine aw_bool (b := x14) 16 rfl (fun c15 => ?_) (fun c15 => ?_)
    · have h := ifT c15 h
      refine aw_cond_t (by decide) rfl ?_
      refine aw_seq_k (fun K16 hK16 => ?_)
      refine aw_regL ?_
      refine alP (some 17) rfl rfl (does_move (v := .int .i64 v8_0) (by exact rfl)) (by decide) ?_
      refine alP (some 4) rfl rfl (does_assign (v := .int .i64 v8_0) (by exact rfl)) (by decide) ?_
      refine al_nil ?_
      refine hK16 _ ?_
      refine aw_ret ?_
      have h := leafR h hq5
      obtain rfl := Option.some.inj h
      exact ret_ok1 (by conv => lhs; whnf) (by conv => lhs; whnf) (by exact rfl) (.inr rfl) rfl
    · have h := ifF c15 h
      refine aw_cond_f (by decide) rfl ?_
      refine aw_skip ?_
      refine hK9 _ ?_
      refine aw_regL ?_
      refine alP (some 18) rfl rfl (does_bin (v := .int .i64 (IntKind.i64.wrap (v8_0 + 1))) (by conv => lhs; whnf) (by conv => lhs; whnf) rfl) (by decide) ?_
      refine alP (some 8) rfl rfl (does_move (v := .int .i64 (IntKind.i64.wrap (v8_0 + 1))) (by exact rfl)) (by decide) ?_
      refine al_nil ?_
      have h := leafL h hq5
      exact ⟨m0, Nat.lt_succ_self _, _, reb_lit [(0, .sl 2 (List.map enc52 a0)), (1, .fn 103 [.rptr [.str a1_0.Key, .str a1_0.Value]]), (7, .int .i64 (List.length a0 : Int)), (8, .int .i64 (IntKind.i64.wrap (v8_0 + 1)))] [] [] [] (envOk_cons (by conv => lhs; whnf) (by exact rfl) (envOk_cons (by conv => lhs; whnf) (by exact rfl) (envOk_cons (by conv => lhs; whnf) (by exact rfl) (envOk_cons (by conv => lhs; whnf) (by exact rfl) envOk_nil)))) objOk_nil (nodup_b rfl) (nodup_b rfl) rfl rfl, (IntKind.i64.wrap (v8_0 + 1)), h, rfl⟩
  · have h := ifF c8 h
    refine aw_cond_f (by decide) rfl ?_
    refine aw_exit ?_
    have h := leafR h hq5
    refine hK2 _ ?_
    refine aw_seq_k (fun K17 hK17 => ?_)
    refine aw_regL ?_
    refine alP (some 4) rfl rfl (does_assign (v := .int .i64 (-1)) (by exact rfl)) (by decide) ?_
    refine al_nil ?_
    refine hK17 _ ?_
    refine aw_ret ?_
    obtain rfl := Option.some.inj h
    exact ret_ok1 (by conv => lhs; whnf) (by conv => lhs; whnf) (by exact rfl) (.inr rfl) rfl
def slices_ContainsFunc_Attr_span_attrs_c1 (a0 : List Attr) (a1_0 : Attr) : Option Bool :=
  Option.bind (slices_IndexFunc_Attr_span_attrs_c1 a0 a1_0) (fun (x3 : Int) => some (decide ((0 : Int) ≤ x3)))
set_option maxRecDepth 100000 in
set_option maxHeartbeats 8000000 in
/-- slices.ContainsFunc[[]gleaning/api.Attr,gleaning/api.Attr] -/
theorem slices_ContainsFunc_Attr_span_attrs_c1_ok (a0 : List Attr) (a1_0 : Attr) {r : Bool} (h : slices_ContainsFunc_Attr_span_attrs_c1 a0 a1_0 = some r) : Ok Try.prog 102 [.sl 2 (List.map enc52 a0), .fn 103 [.rptr [.str a1_0.Key, .str a1_0.Value]]] [] [] (.bool r) [] [] := by
  unfold slices_ContainsFunc_Attr_span_attrs_c1 at h
  refine ok_of_code Try.func102 rfl (by show (2 : Nat) ≤ _; decide) (Nat.le_refl _) fun X => ?_
  refine aw_seq_k (fun K1 hK1 => ?_)
  refine aw_regL ?_
  refine alP (some 4) rfl rfl (does_assign (v := .bool false) (by exact rfl)) (by decide) ?_
  refine al_nil ?_
  refine hK1 _ ?_
  refine aw_seq_k (fun K2 hK2 => ?_)
  refine aw_regL ?_
  refine alP (some 5) rfl rfl (does_move (v := .sl 2 (List.map enc52 a0)) (by exact rfl)) (by decide) ?_
  refine alP (some 6) rfl rfl (does_move (v := .fn 103 [.rptr [.str a1_0.Key, .str a1_0.Value]]) (by exact rfl)) (by decide) ?_
  obtain ⟨x3, hx3, h⟩ := bnd_some h
  refine alD (some 7) rfl rfl (do_call0 7 false (slices_IndexFunc_Attr_span_attrs_c1_ok a0 a1_0 hx3) rfl ent121 rfl rfl) (by decide) ?_
  refine alP (some 8) rfl rfl (does_bin (v := .bool (decide ((0 : Int) ≤ x3))) (by conv => lhs; whnf) (by conv => lhs; whnf) rfl) (by decide) ?_
  refine alP (some 4) rfl rfl (does_assign (v := .bool (decide ((0 : Int) ≤ x3))) (by exact rfl)) (by decide) ?_
  refine al_nil ?_
  refine hK2 _ ?_
  refine aw_ret ?_
  obtain rfl := Option.some.inj h
  exact ret_ok1 (by conv => lhs; whnf) (by conv => lhs; whnf) (by exact rfl) (.inr rfl) rfl
def span_attrs_l1 (a0 : List Attr) (v7_1 : Int) : Option (Int ⊕ (Unit ⊕ Bool)) :=
  if (decide (v7_1 < (List.length a0 : Int))) = true then (gd (0 ≤ v7_1) (Option.bind (a0[(Int.toNat v7_1)]?) (fun (x13 : Attr) => Option.bind (span_Name x13.Key) (fun (x15 : Bool) => if (!x15) = true then (some (Sum.inr (Sum.inr false))) else (if (decide ((16 : Int) < (ByteArray.size x13.Value : Int))) = true then (some (Sum.inr (Sum.inr false))) else (gd (0 ≤ v7_1) (gd (v7_1 ≤ (List.length a0 : Int)) (Option.bind (slices_ContainsFunc_Attr_span_attrs_c1 (List.take (Int.toNat v7_1) a0) x13) (fun (x22 : Bool) => if x22 = true then (some (Sum.inr (Sum.inr false))) else (some (Sum.inl (IntKind.i64.wrap (v7_1 + 1))))))))))))) else (some (Sum.inr (Sum.inl ())))
def span_attrs_k0 (a0 : List Attr) : Option Bool :=
  some (decide ((List.length a0 : Int) ≤ 4))
def span_attrs (a0 : List Attr) : Option Bool :=
  Option.bind (loopN (fun (s : Int) => span_attrs_l1 a0 s) Fu 0) (Sum.elim (fun (s : Unit) => span_attrs_k0 a0) some)
set_option maxRecDepth 100000 in
set_option maxHeartbeats 8000000 in
/-- gleaning/span.attrs -/
theorem span_attrs_ok (a0 : List Attr) {r : Bool} (h : span_attrs a0 = some r) : Ok Try.prog 66 [.sl 2 (List.map enc52 a0)] [] [] (.bool r) [] [] := by
  unfold span_attrs at h
  refine ok_of_code Try.func66 rfl (by show (1 : Nat) ≤ _; decide) (Nat.le_refl _) fun X => ?_
  refine aw_seq_k (fun K1 hK1 => ?_)
  refine aw_regL ?_
  refine alP (some 2) rfl rfl (does_assign (v := .bool false) (by exact rfl)) (by decide) ?_
  refine al_nil ?_
  refine hK1 _ ?_
  obtain ⟨q2, h, hk3⟩ := bnd_some h
  refine aw_cut (fun s => span_attrs_k0 a0 = some r ∧ s = lit [(0, .sl 2 (List.map enc52 a0))] [] [] X) ?_ ?_
  · skip
    refine aw_seq_k (fun K4 hK4 => ?_)
    refine aw_regL ?_
    refine alP (some 5) rfl rfl (does_move (v := .sl 2 (List.map enc52 a0)) (by exact rfl)) (by decide) ?_
    refine alP (some 6) rfl rfl ((does_len_sl (by conv => lhs; whnf) ty40).castp (v' := .int .i64 (List.length a0 : Int)) (by exact len_map _)) (by decide) ?_
    refine alP (some 7) rfl rfl (does_move (v := .int .i64 0) (by exact rfl)) (by decide) ?_
    refine al_nil ?_
    refine hK4 _ ?_
    refine aw_block ?_
    refine aw_loop' (fun m s => ∃ (v7_1 : Int), loopN (fun (s : Int) => span_attrs_l1 a0 s) m v7_1 = some q2 ∧ s = lit [(0, .sl 2 (List.map enc52 a0)), (5, .sl 2 (List.map enc52 a0)), (6, .int .i64 (List.length a0 : Int)), (7, .int .i64 v7_1)] [] [] X) Fu
      ⟨_, reb_lit [(0, .sl 2 (List.map enc52 a0)), (5, .sl 2 (List.map enc52 a0)), (6, .int .i64 (List.length a0 : Int)), (7, .int .i64 (0))] [] [] [] (envOk_cons (by conv => lhs; whnf) (by exact rfl) (envOk_cons (by conv => lhs; whnf) (by exact rfl) (envOk_cons (by conv => lhs; whnf) (by exact rfl) (envOk_cons (by conv => lhs; whnf) (by exact rfl) envOk_nil)))) objOk_nil (nodup_b rfl) (nodup_b rfl) rfl rfl, 0, h, rfl⟩ ?_
    rintro m s ⟨v7_1, h, rfl⟩
    obtain ⟨m1, q5, rfl, h, hq6⟩ := loop_some h
    replace h : span_attrs_l1 a0 v7_1 = some q5 := h
    unfold span_attrs_l1 at h
    refine aw_seq_k (fun K7 hK7 => ?_)
    refine aw_regL ?_
    refine alP (some 8) rfl rfl (does_bin (v := .bool (decide (v7_1 < (List.length a0 : Int)))) (by conv => lhs; whnf) (by conv => lhs; whnf) rfl) (by decide) ?_
    refine al_nil ?_
    refine hK7 _ ?_
    refine aw_seq_k (fun K8 hK8 => ?_)
    refine aw_bool (b := (decide (v7_1 < (List.length a0 : Int)))) 8 rfl (fun c9 => ?_) (fun c9 => ?_)
    · have h := ifT c9 h
      refine aw_cond_t (by decide) rfl ?_
      refine aw_skip ?_
      refine hK8 _ ?_
      refine aw_seq_k (fun K10 hK10 => ?_)
      refine aw_block ?_
      refine aw_seq_k (fun K11 hK11 => ?_)
      refine aw_regL ?_
      refine alP (some 9) rfl rfl (does_move (v := .int .i64 v7_1) (by exact rfl)) (by decide) ?_
      obtain ⟨g12, h⟩ := gd_some h
      obtain ⟨x13, hx13, h⟩ := bnd_some h
      refine alP (some 10) rfl rfl (does_indexAddr_sl (el := .agg [.str x13.Key, .str x13.Value]) (by conv => lhs; whnf) (by conv => lhs; whnf) ty40 ty53 g12 (by exact map_get hx13)) (by decide) ?_
      refine alR (some 11) rfl rfl (does_load (v := .agg [.str x13.Key, .str x13.Value]) (by conv => lhs; whnf) (by conv => lhs; whnf) ty53 (by exact rfl)) (by decide) ?_
      refine alD (some 4) rfl rfl (do_new ty53 rfl rfl) (by decide) ?_
      refine alP (some 3) rfl rfl (does_assign (v := .int .i64 v7_1) (by exact rfl)) (by decide) ?_
      refine alD none rfl rfl (do_store (cs' := [.str x13.Key, .str x13.Value]) (by conv => lhs; whnf) (by conv => lhs; whnf) (by conv => lhs; whnf) ty53 rfl rfl rfl (by exact rfl)) (by decide) ?_
      refine al_nil ?_
      refine hK11 _ ?_
      refine aw_seq_k (fun K14 hK14 => ?_)
      refine aw_regL ?_
      refine alP (some 12) rfl rfl (does_fieldAddr (q := .ptr 4 0 0) (by conv => lhs; whnf) ty53 rfl ty9 (by decide) (by exact rfl)) (by decide) ?_
      refine alR (some 13) rfl rfl (does_load (v := .str x13.Key) (by conv => lhs; whnf) (by conv => lhs; whnf) ty9 (by exact rfl)) (by decide) ?_
      obtain ⟨x15, hx15, h⟩ := bnd_some h
      refine alD (some 14) rfl rfl (do_call0 14 false (span_Name_ok x13.Key hx15) rfl ent65 rfl rfl) (by decide) ?_
      refine alP (some 15) rfl rfl (does_un (v := .bool (!x15)) (by conv => lhs; whnf) rfl) (by decide) ?_
      refine alP (some 16) rfl rfl (does_move (v := .bool (!x15)) (by exact rfl)) (by decide) ?_
      refine al_bool (c := (!x15)) 16 rfl (fun c16 => ?_) (fun c16 => ?_)
      · have h := ifT c16 h
        refine alS (some 17) rfl rfl (by decide) ?_
        refine alS (some 18) rfl rfl (by decide) ?_
        refine alS (some 19) rfl rfl (by decide) ?_
        refine alS (some 20) rfl rfl (by decide) ?_
        refine alP (some 21) rfl rfl (does_pick (v := .bool true) (by conv => lhs; whnf) (by exact rfl)) (by decide) ?_
        refine alP (some 22) rfl rfl (does_move (v := .bool true) (by exact rfl)) (by decide) ?_
        refine alS (some 23) rfl rfl (by decide) ?_
        refine alS (some 24) rfl rfl (by decide) ?_
        refine alS (some 25) rfl rfl (by decide) ?_
        refine alS (some 26) rfl rfl (by decide) ?_
        refine alS (some 27) rfl rfl (by decide) ?_
        refine alP (some 28) rfl rfl (does_pick (v := .bool true) (by conv => lhs; whnf) (by exact rfl)) (by decide) ?_
        refine al_nil ?_
        refine hK14 _ ?_
        refine aw_cond_t (by decide) rfl ?_
        refine aw_seq_k (fun K17 hK17 => ?_)
        refine aw_regL ?_
        refine alP (some 2) rfl rfl (does_assign (v := .bool false) (by exact rfl)) (by decide) ?_
        refine al_nil ?_
        refine hK17 _ ?_
        refine aw_ret ?_
        have h := leafR h hq6
        have h := leafR h hk3
        obtain rfl := Option.some.inj h
        exact ret_ok1 (by conv => lhs; whnf) (by conv => lhs; whnf) (by exact rfl) (.inr rfl) rfl
      · have h := ifF c16 h
        refine alP (some 17) rfl rfl (does_fieldAddr (q := .ptr 4 0 1) (by conv => lhs; whnf) ty53 rfl ty9 (by decide) (by exact rfl)) (by decide) ?_
        refine alR (some 18) rfl rfl (does_load (v := .str x13.Value) (by conv => lhs; whnf) (by conv => lhs; whnf) ty9 (by exact rfl)) (by decide) ?_
        refine alP (some 19) rfl rfl (does_len_str (by conv => lhs; whnf) ty9) (by decide) ?_
        refine alP (some 20) rfl rfl (does_bin (v := .bool (decide ((16 : Int) < (ByteArray.size x13.Value : Int)))) (by conv => lhs; whnf) (by conv => lhs; whnf) rfl) (by decide) ?_
        refine alP (some 21) rfl rfl (does_pick (v := .bool (decide ((16 : Int) < (ByteArray.size x13.Value : Int)))) (by conv => lhs; whnf) (by exact rfl)) (by decide) ?_
        refine alP (some 22) rfl rfl (does_move (v := .bool (decide ((16 : Int) < (ByteArray.size x13.Value : Int)))) (by exact rfl)) (by decide) ?_
        refine al_bool (c := (decide ((16 : Int) < (ByteArray.size x13.Value : Int)))) 22 rfl (fun c18 => ?_) (fun c18 => ?_)
        · have h := ifT c18 h
          refine alS (some 23) rfl rfl (by decide) ?_
          refine alS (some 24) rfl rfl (by decide) ?_
          refine alS (some 25) rfl rfl (by decide) ?_
          refine alS (some 26) rfl rfl (by decide) ?_
          refine alS (some 27) rfl rfl (by decide) ?_
          refine alP (some 28) rfl rfl (does_pick (v := .bool true) (by conv => lhs; whnf) (by exact rfl)) (by decide) ?_
          refine al_nil ?_
          refine hK14 _ ?_
          refine aw_cond_t (by decide) rfl ?_
          refine aw_seq_k (fun K19 hK19 => ?_)
          refine aw_regL ?_
          refine alP (some 2) rfl rfl (does_assign (v := .bool false) (by exact rfl)) (by decide) ?_
          refine al_nil ?_
          refine hK19 _ ?_
          refine aw_ret ?_
          have h := leafR h hq6
          have h := leafR h hk3
          obtain rfl := Option.some.inj h
          exact ret_ok1 (by conv => lhs; whnf) (by conv => lhs; whnf) (by exact rfl) (.inr rfl) rfl
        · have h := ifF c18 h
          refine alP (some 23) rfl rfl (does_move (v := .sl 2 (List.map enc52 a0)) (by exact rfl)) (by decide) ?_
          refine alP (some 24) rfl rfl (does_move (v := .int .i64 v7_1) (by exact rfl)) (by decide) ?_
          obtain ⟨g20, h⟩ := gd_some h
          obtain ⟨g21, h⟩ := gd_some h
          refine alP (some 25) rfl rfl (does_slice_sl (l := 0) (k := (Int.toNat v7_1)) (by conv => lhs; whnf) ty40 ty53 bd_none (bd_some (by conv => lhs; whnf) (by exact (nat_of (by omega)))) (by (try simp only [List.length_map]); omega) (by (try simp only [List.length_map]); omega) (by exact part_h _ _)) (by decide) ?_
          refine alP (some 26) rfl rfl (does_makeFunc (vs := [.ptr 4 0 0]) rfl) (by decide) ?_
          obtain ⟨x22, hx22, h⟩ := bnd_some h
          refine alD (some 27) rfl rfl (do_callG (bcs := []) [] [] [(4, 0)] 27 false (slices_ContainsFunc_Attr_span_attrs_c1_ok (List.take (Int.toNat v7_1) a0) x13 hx22) rfl ent102 trivial trivial rfl rfl rfl rfl rfl rfl rfl rfl (.inr ⟨rfl, rfl, trivial⟩)) (by decide) ?_
          refine alP (some 28) rfl rfl (does_pick (v := .bool x22) (by conv => lhs; whnf) (by exact rfl)) (by decide) ?_
          refine al_nil ?_
          refine hK14 _ ?_
          refine aw_bool (b := x22) 28 rfl (fun c23 => ?_) (fun c23 => ?_)
          · have h := ifT c23 h
            refine aw_cond_t (by decide) rfl ?_
            refine aw_seq_k (fun K24 hK24 => ?_)
            refine aw_regL ?_
            refine alP (some 2) rfl rfl (does_assign (v := .bool false) (by exact rfl)) (by decide) ?_
            refine al_nil ?_
            refine hK24 _ ?_
            refine aw_ret ?_
            have h := leafR h hq6
            have h := leafR h hk3
            obtain rfl := Option.some.inj h
            exact ret_ok1 (by conv => lhs; whnf) (by conv => lhs; whnf) (by exact rfl) (.inr rfl) rfl
          · have h := ifF c23 h
            refine aw_cond_f (by decide) rfl ?_
            refine aw_skip ?_
            refine hK10 _ ?_
            refine aw_regL ?_
            refine alP (some 29) rfl rfl (does_bin (v := .int .i64 (IntKind.i64.wrap (v7_1 + 1))) (by conv => lhs; whnf) (by conv => lhs; whnf) rfl) (by decide) ?_
            refine alP (some 7) rfl rfl (does_move (v := .int .i64 (IntKind.i64.wrap (v7_1 + 1))) (by exact rfl)) (by decide) ?_
            refine al_nil ?_
            have h := leafL h hq6
            exact ⟨m1, Nat.lt_succ_self _, _, reb_lit [(0, .sl 2 (List.map enc52 a0)), (5, .sl 2 (List.map enc52 a0)), (6, .int .i64 (List.length a0 : Int)), (7, .int .i64 (IntKind.i64.wrap (v7_1 + 1)))] [] [] [] (envOk_cons (by conv => lhs; whnf) (by exact rfl) (envOk_cons (by conv => lhs; whnf) (by exact rfl) (envOk_cons (by conv => lhs; whnf) (by exact rfl) (envOk_cons (by conv => lhs; whnf) (by exact rfl) envOk_nil)))) objOk_nil (nodup_b rfl) (nodup_b rfl) rfl rfl, (IntKind.i64.wrap (v7_1 + 1)), h, rfl⟩
    · have h := ifF c9 h
      refine aw_cond_f (by decide) rfl ?_
      refine aw_exit ?_
      have h := leafR h hq6
      have h := leafL h hk3
      exact ⟨_, reb_lit [(0, .sl 2 (List.map enc52 a0))] [] [] [] (envOk_cons (by conv => lhs; whnf) (by exact rfl) envOk_nil) objOk_nil (nodup_b rfl) (nodup_b rfl) rfl rfl, h, rfl⟩
  · rintro s ⟨h, rfl⟩
    unfold span_attrs_k0 at h
    refine aw_seq_k (fun K25 hK25 => ?_)
    refine aw_regL ?_
    refine alP (some 30) rfl rfl (does_move (v := .sl 2 (List.map enc52 a0)) (by exact rfl)) (by decide) ?_
    refine alP (some 31) rfl rfl ((does_len_sl (by conv => lhs; whnf) ty40).castp (v' := .int .i64 (List.length a0 : Int)) (by exact len_map _)) (by decide) ?_
    refine alP (some 32) rfl rfl (does_bin (v := .bool (decide ((List.length a0 : Int) ≤ 4))) (by conv => lhs; whnf) (by conv => lhs; whnf) rfl) (by decide) ?_
    refine alP (some 2) rfl rfl (does_assign (v := .bool (decide ((List.length a0 : Int) ≤ 4))) (by exact rfl)) (by decide) ?_
    refine al_nil ?_
    refine hK25 _ ?_
    refine aw_ret ?_
    obtain rfl := Option.some.inj h
    exact ret_ok1 (by conv => lhs; whnf) (by conv => lhs; whnf) (by exact rfl) (.inr rfl) rfl
def span_Right (a0 : Span) : Option Bool :=
  Option.bind (span_Name a0.Service) (fun (x3 : Bool) => if x3 = true then (Option.bind (span_Name a0.Op) (fun (x5 : Bool) => if x5 = true then (if (decide ((0 : Int) ≤ a0.Start)) = true then (if (decide (a0.Start ≤ 1099511627776)) = true then (if (decide ((0 : Int) ≤ a0.Dur)) = true then (if (decide (a0.Dur ≤ 1073741824)) = true then (if (decide ((List.length a0.Attrs : Int) ≤ 4)) = true then (Option.bind (span_attrs a0.Attrs) (fun (x12 : Bool) => some x12)) else (some false)) else (some false)) else (some false)) else (some false)) else (some false)) else (some false))) else (some false))
set_option maxRecDepth 100000 in
set_option maxHeartbeats 8000000 in
/-- gleaning/span.Right -/
theorem span_Right_ok (a0 : Span) {r : Bool} (h : span_Right a0 = some r) : Ok Try.prog 33 [.agg [.int .u64 a0.Trace.Hi, .int .u64 a0.Trace.Lo, .int .u64 a0.Id, .int .u64 a0.Parent, .str a0.Service, .str a0.Op, .int .i64 a0.Start, .int .i64 a0.Dur, .bool a0.Err, .sl 2 (List.map enc52 a0.Attrs)]] [] [] (.bool r) [] [] := by
  unfold span_Right at h
  refine ok_of_code Try.func33 rfl (by show (1 : Nat) ≤ _; decide) (Nat.le_refl _) fun X => ?_
  refine aw_seq_k (fun K1 hK1 => ?_)
  refine aw_regL ?_
  refine alD (some 1) rfl rfl (do_box (by conv => lhs; whnf) rfl rfl) (by decide) ?_
  refine alP (some 2) rfl rfl (does_assign (v := .bool false) (by exact rfl)) (by decide) ?_
  refine al_nil ?_
  refine hK1 _ ?_
  refine aw_seq_k (fun K2 hK2 => ?_)
  refine aw_regL ?_
  refine alP (some 3) rfl rfl (does_fieldAddr (q := .ptr 1 0 4) (by conv => lhs; whnf) ty42 rfl ty9 (by decide) (by exact rfl)) (by decide) ?_
  refine alR (some 4) rfl rfl (does_load (v := .str a0.Service) (by conv => lhs; whnf) (by conv => lhs; whnf) ty9 (by exact rfl)) (by decide) ?_
  obtain ⟨x3, hx3, h⟩ := bnd_some h
  refine alD (some 5) rfl rfl ((do_call0 5 false (span_Name_ok a0.Service hx3) rfl ent65 rfl rfl).fx (y := ⟨[], .bool x3, [], [5]⟩) rfl) (by decide) ?_
  refine alP (some 6) rfl rfl (does_move (v := .bool x3) (by exact rfl)) (by decide) ?_
  refine al_bool (c := x3) 6 rfl (fun c4 => ?_) (fun c4 => ?_)
  · have h := ifT c4 h
    refine alP (some 7) rfl rfl (does_fieldAddr (q := .ptr 1 0 5) (by conv => lhs; whnf) ty42 rfl ty9 (by decide) (by exact rfl)) (by decide) ?_
    refine alR (some 8) rfl rfl (does_load (v := .str a0.Op) (by conv => lhs; whnf) (by conv => lhs; whnf) ty9 (by exact rfl)) (by decide) ?_
    obtain ⟨x5, hx5, h⟩ := bnd_some h
    refine alD (some 9) rfl rfl ((do_call0 9 false (span_Name_ok a0.Op hx5) rfl ent65 rfl rfl).fx (y := ⟨[], .bool x5, [], [9]⟩) rfl) (by decide) ?_
    refine alP (some 10) rfl rfl (does_pick (v := .bool x5) (by conv => lhs; whnf) (by exact rfl)) (by decide) ?_
    refine alP (some 11) rfl rfl (does_move (v := .bool x5) (by exact rfl)) (by decide) ?_
    refine al_bool (c := x5) 11 rfl (fun c6 => ?_) (fun c6 => ?_)
    · have h := ifT c6 h
      refine alP (some 12) rfl rfl (does_fieldAddr (q := .ptr 1 0 6) (by conv => lhs; whnf) ty42 rfl ty3 (by decide) (by exact rfl)) (by decide) ?_
      refine alR (some 13) rfl rfl (does_load (v := .int .i64 a0.Start) (by conv => lhs; whnf) (by conv => lhs; whnf) ty3 (by exact rfl)) (by decide) ?_
      refine alP (some 14) rfl rfl (does_bin (v := .bool (decide ((0 : Int) ≤ a0.Start))) (by conv => lhs; whnf) (by conv => lhs; whnf) rfl) (by decide) ?_
      refine alP (some 15) rfl rfl (does_pick (v := .bool (decide ((0 : Int) ≤ a0.Start))) (by conv => lhs; whnf) (by exact rfl)) (by decide) ?_
      refine alP (some 16) rfl rfl (does_move (v := .bool (decide ((0 : Int) ≤ a0.Start))) (by exact rfl)) (by decide) ?_
      refine al_bool (c := (decide ((0 : Int) ≤ a0.Start))) 16 rfl (fun c7 => ?_) (fun c7 => ?_)
      · have h := ifT c7 h
        refine alP (some 17) rfl rfl (does_fieldAddr (q := .ptr 1 0 6) (by conv => lhs; whnf) ty42 rfl ty3 (by decide) (by exact rfl)) (by decide) ?_
        refine alR (some 18) rfl rfl (does_load (v := .int .i64 a0.Start) (by conv => lhs; whnf) (by conv => lhs; whnf) ty3 (by exact rfl)) (by decide) ?_
        refine alP (some 19) rfl rfl (does_bin (v := .bool (decide (a0.Start ≤ 1099511627776))) (by conv => lhs; whnf) (by conv => lhs; whnf) rfl) (by decide) ?_
        refine alP (some 20) rfl rfl (does_pick (v := .bool (decide (a0.Start ≤ 1099511627776))) (by conv => lhs; whnf) (by exact rfl)) (by decide) ?_
        refine alP (some 21) rfl rfl (does_move (v := .bool (decide (a0.Start ≤ 1099511627776))) (by exact rfl)) (by decide) ?_
        refine al_bool (c := (decide (a0.Start ≤ 1099511627776))) 21 rfl (fun c8 => ?_) (fun c8 => ?_)
        · have h := ifT c8 h
          refine alP (some 22) rfl rfl (does_fieldAddr (q := .ptr 1 0 7) (by conv => lhs; whnf) ty42 rfl ty3 (by decide) (by exact rfl)) (by decide) ?_
          refine alR (some 23) rfl rfl (does_load (v := .int .i64 a0.Dur) (by conv => lhs; whnf) (by conv => lhs; whnf) ty3 (by exact rfl)) (by decide) ?_
          refine alP (some 24) rfl rfl (does_bin (v := .bool (decide ((0 : Int) ≤ a0.Dur))) (by conv => lhs; whnf) (by conv => lhs; whnf) rfl) (by decide) ?_
          refine alP (some 25) rfl rfl (does_pick (v := .bool (decide ((0 : Int) ≤ a0.Dur))) (by conv => lhs; whnf) (by exact rfl)) (by decide) ?_
          refine alP (some 26) rfl rfl (does_move (v := .bool (decide ((0 : Int) ≤ a0.Dur))) (by exact rfl)) (by decide) ?_
          refine al_bool (c := (decide ((0 : Int) ≤ a0.Dur))) 26 rfl (fun c9 => ?_) (fun c9 => ?_)
          · have h := ifT c9 h
            refine alP (some 27) rfl rfl (does_fieldAddr (q := .ptr 1 0 7) (by conv => lhs; whnf) ty42 rfl ty3 (by decide) (by exact rfl)) (by decide) ?_
            refine alR (some 28) rfl rfl (does_load (v := .int .i64 a0.Dur) (by conv => lhs; whnf) (by conv => lhs; whnf) ty3 (by exact rfl)) (by decide) ?_
            refine alP (some 29) rfl rfl (does_bin (v := .bool (decide (a0.Dur ≤ 1073741824))) (by conv => lhs; whnf) (by conv => lhs; whnf) rfl) (by decide) ?_
            refine alP (some 30) rfl rfl (does_pick (v := .bool (decide (a0.Dur ≤ 1073741824))) (by conv => lhs; whnf) (by exact rfl)) (by decide) ?_
            refine alP (some 31) rfl rfl (does_move (v := .bool (decide (a0.Dur ≤ 1073741824))) (by exact rfl)) (by decide) ?_
            refine al_bool (c := (decide (a0.Dur ≤ 1073741824))) 31 rfl (fun c10 => ?_) (fun c10 => ?_)
            · have h := ifT c10 h
              refine alP (some 32) rfl rfl (does_fieldAddr (q := .ptr 1 0 9) (by conv => lhs; whnf) ty42 rfl ty40 (by decide) (by exact rfl)) (by decide) ?_
              refine alR (some 33) rfl rfl (does_load (v := .sl 2 (List.map enc52 a0.Attrs)) (by conv => lhs; whnf) (by conv => lhs; whnf) ty40 (by exact rfl)) (by decide) ?_
              refine alP (some 34) rfl rfl ((does_len_sl (by conv => lhs; whnf) ty40).castp (v' := .int .i64 (List.length a0.Attrs : Int)) (by exact len_map _)) (by decide) ?_
              refine alP (some 35) rfl rfl (does_bin (v := .bool (decide ((List.length a0.Attrs : Int) ≤ 4))) (by conv => lhs; whnf) (by conv => lhs; whnf) rfl) (by decide) ?_
              refine alP (some 36) rfl rfl (does_pick (v := .bool (decide ((List.length a0.Attrs : Int) ≤ 4))) (by conv => lhs; whnf) (by exact rfl)) (by decide) ?_
              refine alP (some 37) rfl rfl (does_move (v := .bool (decide ((List.length a0.Attrs : Int) ≤ 4))) (by exact rfl)) (by decide) ?_
              refine al_bool (c := (decide ((List.length a0.Attrs : Int) ≤ 4))) 37 rfl (fun c11 => ?_) (fun c11 => ?_)
              · have h := ifT c11 h
                refine alP (some 38) rfl rfl (does_fieldAddr (q := .ptr 1 0 9) (by conv => lhs; whnf) ty42 rfl ty40 (by decide) (by exact rfl)) (by decide) ?_
                refine alR (some 39) rfl rfl (does_load (v := .sl 2 (List.map enc52 a0.Attrs)) (by conv => lhs; whnf) (by conv => lhs; whnf) ty40 (by exact rfl)) (by decide) ?_
                obtain ⟨x12, hx12, h⟩ := bnd_some h
                refine alD (some 40) rfl rfl ((do_call0 40 false (span_attrs_ok a0.Attrs hx12) rfl ent66 rfl rfl).fx (y := ⟨[], .bool x12, [], [40]⟩) rfl) (by decide) ?_
                refine alP (some 41) rfl rfl (does_pick (v := .bool x12) (by conv => lhs; whnf) (by exact rfl)) (by decide) ?_
                refine alP (some 2) rfl rfl (does_assign (v := .bool x12) (by exact rfl)) (by decide) ?_
                refine al_nil ?_
                refine hK2 _ ?_
                refine aw_ret ?_
                obtain rfl := Option.some.inj h
                exact ret_ok1 (by conv => lhs; whnf) (by conv => lhs; whnf) (by exact rfl) (.inr rfl) rfl
              · have h := ifF c11 h
                refine alS (some 38) rfl rfl (by decide) ?_
                refine alS (some 39) rfl rfl (by decide) ?_
                refine alS (some 40) rfl rfl (by decide) ?_
                refine alP (some 41) rfl rfl (does_pick (v := .bool false) (by conv => lhs; whnf) (by exact rfl)) (by decide) ?_
                refine alP (some 2) rfl rfl (does_assign (v := .bool false) (by exact rfl)) (by decide) ?_
                refine al_nil ?_
                refine hK2 _ ?_
                refine aw_ret ?_
                obtain rfl := Option.some.inj h
                exact ret_ok1 (by conv => lhs; whnf) (by conv => lhs; whnf) (by exact rfl) (.inr rfl) rfl
            · have h := ifF c10 h
              refine alS (some 32) rfl rfl (by decide) ?_
              refine alS (some 33) rfl rfl (by decide) ?_
              refine alS (some 34) rfl rfl (by decide) ?_
              refine alS (some 35) rfl rfl (by decide) ?_
              refine alP (some 36) rfl rfl (does_pick (v := .bool false) (by conv => lhs; whnf) (by exact rfl)) (by decide) ?_
              refine alP (some 37) rfl rfl (does_move (v := .bool false) (by exact rfl)) (by decide) ?_
              refine alS (some 38) rfl rfl (by decide) ?_
              refine alS (some 39) rfl rfl (by decide) ?_
              refine alS (some 40) rfl rfl (by decide) ?_
              refine alP (some 41) rfl rfl (does_pick (v := .bool false) (by conv => lhs; whnf) (by exact rfl)) (by decide) ?_
              refine alP (some 2) rfl rfl (does_assign (v := .bool false) (by exact rfl)) (by decide) ?_
              refine al_nil ?_
              refine hK2 _ ?_
              refine aw_ret ?_
              obtain rfl := Option.some.inj h
              exact ret_ok1 (by conv => lhs; whnf) (by conv => lhs; whnf) (by exact rfl) (.inr rfl) rfl
          · have h := ifF c9 h
            refine alS (some 27) rfl rfl (by decide) ?_
            refine alS (some 28) rfl rfl (by decide) ?_
            refine alS (some 29) rfl rfl (by decide) ?_
            refine alP (some 30) rfl rfl (does_pick (v := .bool false) (by conv => lhs; whnf) (by exact rfl)) (by decide) ?_
            refine alP (some 31) rfl rfl (does_move (v := .bool false) (by exact rfl)) (by decide) ?_
            refine alS (some 32) rfl rfl (by decide) ?_
            refine alS (some 33) rfl rfl (by decide) ?_
            refine alS (some 34) rfl rfl (by decide) ?_
            refine alS (some 35) rfl rfl (by decide) ?_
            refine alP (some 36) rfl rfl (does_pick (v := .bool false) (by conv => lhs; whnf) (by exact rfl)) (by decide) ?_
            refine alP (some 37) rfl rfl (does_move (v := .bool false) (by exact rfl)) (by decide) ?_
            refine alS (some 38) rfl rfl (by decide) ?_
            refine alS (some 39) rfl rfl (by decide) ?_
            refine alS (some 40) rfl rfl (by decide) ?_
            refine alP (some 41) rfl rfl (does_pick (v := .bool false) (by conv => lhs; whnf) (by exact rfl)) (by decide) ?_
            refine alP (some 2) rfl rfl (does_assign (v := .bool false) (by exact rfl)) (by decide) ?_
            refine al_nil ?_
            refine hK2 _ ?_
            refine aw_ret ?_
            obtain rfl := Option.some.inj h
            exact ret_ok1 (by conv => lhs; whnf) (by conv => lhs; whnf) (by exact rfl) (.inr rfl) rfl
        · have h := ifF c8 h
          refine alS (some 22) rfl rfl (by decide) ?_
          refine alS (some 23) rfl rfl (by decide) ?_
          refine alS (some 24) rfl rfl (by decide) ?_
          refine alP (some 25) rfl rfl (does_pick (v := .bool false) (by conv => lhs; whnf) (by exact rfl)) (by decide) ?_
          refine alP (some 26) rfl rfl (does_move (v := .bool false) (by exact rfl)) (by decide) ?_
          refine alS (some 27) rfl rfl (by decide) ?_
          refine alS (some 28) rfl rfl (by decide) ?_
          refine alS (some 29) rfl rfl (by decide) ?_
          refine alP (some 30) rfl rfl (does_pick (v := .bool false) (by conv => lhs; whnf) (by exact rfl)) (by decide) ?_
          refine alP (some 31) rfl rfl (does_move (v := .bool false) (by exact rfl)) (by decide) ?_
          refine alS (some 32) rfl rfl (by decide) ?_
          refine alS (some 33) rfl rfl (by decide) ?_
          refine alS (some 34) rfl rfl (by decide) ?_
          refine alS (some 35) rfl rfl (by decide) ?_
          refine alP (some 36) rfl rfl (does_pick (v := .bool false) (by conv => lhs; whnf) (by exact rfl)) (by decide) ?_
          refine alP (some 37) rfl rfl (does_move (v := .bool false) (by exact rfl)) (by decide) ?_
          refine alS (some 38) rfl rfl (by decide) ?_
          refine alS (some 39) rfl rfl (by decide) ?_
          refine alS (some 40) rfl rfl (by decide) ?_
          refine alP (some 41) rfl rfl (does_pick (v := .bool false) (by conv => lhs; whnf) (by exact rfl)) (by decide) ?_
          refine alP (some 2) rfl rfl (does_assign (v := .bool false) (by exact rfl)) (by decide) ?_
          refine al_nil ?_
          refine hK2 _ ?_
          refine aw_ret ?_
          obtain rfl := Option.some.inj h
          exact ret_ok1 (by conv => lhs; whnf) (by conv => lhs; whnf) (by exact rfl) (.inr rfl) rfl
      · have h := ifF c7 h
        refine alS (some 17) rfl rfl (by decide) ?_
        refine alS (some 18) rfl rfl (by decide) ?_
        refine alS (some 19) rfl rfl (by decide) ?_
        refine alP (some 20) rfl rfl (does_pick (v := .bool false) (by conv => lhs; whnf) (by exact rfl)) (by decide) ?_
        refine alP (some 21) rfl rfl (does_move (v := .bool false) (by exact rfl)) (by decide) ?_
        refine alS (some 22) rfl rfl (by decide) ?_
        refine alS (some 23) rfl rfl (by decide) ?_
        refine alS (some 24) rfl rfl (by decide) ?_
        refine alP (some 25) rfl rfl (does_pick (v := .bool false) (by conv => lhs; whnf) (by exact rfl)) (by decide) ?_
        refine alP (some 26) rfl rfl (does_move (v := .bool false) (by exact rfl)) (by decide) ?_
        refine alS (some 27) rfl rfl (by decide) ?_
        refine alS (some 28) rfl rfl (by decide) ?_
        refine alS (some 29) rfl rfl (by decide) ?_
        refine alP (some 30) rfl rfl (does_pick (v := .bool false) (by conv => lhs; whnf) (by exact rfl)) (by decide) ?_
        refine alP (some 31) rfl rfl (does_move (v := .bool false) (by exact rfl)) (by decide) ?_
        refine alS (some 32) rfl rfl (by decide) ?_
        refine alS (some 33) rfl rfl (by decide) ?_
        refine alS (some 34) rfl rfl (by decide) ?_
        refine alS (some 35) rfl rfl (by decide) ?_
        refine alP (some 36) rfl rfl (does_pick (v := .bool false) (by conv => lhs; whnf) (by exact rfl)) (by decide) ?_
        refine alP (some 37) rfl rfl (does_move (v := .bool false) (by exact rfl)) (by decide) ?_
        refine alS (some 38) rfl rfl (by decide) ?_
        refine alS (some 39) rfl rfl (by decide) ?_
        refine alS (some 40) rfl rfl (by decide) ?_
        refine alP (some 41) rfl rfl (does_pick (v := .bool false) (by conv => lhs; whnf) (by exact rfl)) (by decide) ?_
        refine alP (some 2) rfl rfl (does_assign (v := .bool false) (by exact rfl)) (by decide) ?_
        refine al_nil ?_
        refine hK2 _ ?_
        refine aw_ret ?_
        obtain rfl := Option.some.inj h
        exact ret_ok1 (by conv => lhs; whnf) (by conv => lhs; whnf) (by exact rfl) (.inr rfl) rfl
    · have h := ifF c6 h
      refine alS (some 12) rfl rfl (by decide) ?_
      refine alS (some 13) rfl rfl (by decide) ?_
      refine alS (some 14) rfl rfl (by decide) ?_
      refine alP (some 15) rfl rfl (does_pick (v := .bool false) (by conv => lhs; whnf) (by exact rfl)) (by decide) ?_
      refine alP (some 16) rfl rfl (does_move (v := .bool false) (by exact rfl)) (by decide) ?_
      refine alS (some 17) rfl rfl (by decide) ?_
      refine alS (some 18) rfl rfl (by decide) ?_
      refine alS (some 19) rfl rfl (by decide) ?_
      refine alP (some 20) rfl rfl (does_pick (v := .bool false) (by conv => lhs; whnf) (by exact rfl)) (by decide) ?_
      refine alP (some 21) rfl rfl (does_move (v := .bool false) (by exact rfl)) (by decide) ?_
      refine alS (some 22) rfl rfl (by decide) ?_
      refine alS (some 23) rfl rfl (by decide) ?_
      refine alS (some 24) rfl rfl (by decide) ?_
      refine alP (some 25) rfl rfl (does_pick (v := .bool false) (by conv => lhs; whnf) (by exact rfl)) (by decide) ?_
      refine alP (some 26) rfl rfl (does_move (v := .bool false) (by exact rfl)) (by decide) ?_
      refine alS (some 27) rfl rfl (by decide) ?_
      refine alS (some 28) rfl rfl (by decide) ?_
      refine alS (some 29) rfl rfl (by decide) ?_
      refine alP (some 30) rfl rfl (does_pick (v := .bool false) (by conv => lhs; whnf) (by exact rfl)) (by decide) ?_
      refine alP (some 31) rfl rfl (does_move (v := .bool false) (by exact rfl)) (by decide) ?_
      refine alS (some 32) rfl rfl (by decide) ?_
      refine alS (some 33) rfl rfl (by decide) ?_
      refine alS (some 34) rfl rfl (by decide) ?_
      refine alS (some 35) rfl rfl (by decide) ?_
      refine alP (some 36) rfl rfl (does_pick (v := .bool false) (by conv => lhs; whnf) (by exact rfl)) (by decide) ?_
      refine alP (some 37) rfl rfl (does_move (v := .bool false) (by exact rfl)) (by decide) ?_
      refine alS (some 38) rfl rfl (by decide) ?_
      refine alS (some 39) rfl rfl (by decide) ?_
      refine alS (some 40) rfl rfl (by decide) ?_
      refine alP (some 41) rfl rfl (does_pick (v := .bool false) (by conv => lhs; whnf) (by exact rfl)) (by decide) ?_
      refine alP (some 2) rfl rfl (does_assign (v := .bool false) (by exact rfl)) (by decide) ?_
      refine al_nil ?_
      refine hK2 _ ?_
      refine aw_ret ?_
      obtain rfl := Option.some.inj h
      exact ret_ok1 (by conv => lhs; whnf) (by conv => lhs; whnf) (by exact rfl) (.inr rfl) rfl
  · have h := ifF c4 h
    refine alS (some 7) rfl rfl (by decide) ?_
    refine alS (some 8) rfl rfl (by decide) ?_
    refine alS (some 9) rfl rfl (by decide) ?_
    refine alP (some 10) rfl rfl (does_pick (v := .bool false) (by conv => lhs; whnf) (by exact rfl)) (by decide) ?_
    refine alP (some 11) rfl rfl (does_move (v := .bool false) (by exact rfl)) (by decide) ?_
    refine alS (some 12) rfl rfl (by decide) ?_
    refine alS (some 13) rfl rfl (by decide) ?_
    refine alS (some 14) rfl rfl (by decide) ?_
    refine alP (some 15) rfl rfl (does_pick (v := .bool false) (by conv => lhs; whnf) (by exact rfl)) (by decide) ?_
    refine alP (some 16) rfl rfl (does_move (v := .bool false) (by exact rfl)) (by decide) ?_
    refine alS (some 17) rfl rfl (by decide) ?_
    refine alS (some 18) rfl rfl (by decide) ?_
    refine alS (some 19) rfl rfl (by decide) ?_
    refine alP (some 20) rfl rfl (does_pick (v := .bool false) (by conv => lhs; whnf) (by exact rfl)) (by decide) ?_
    refine alP (some 21) rfl rfl (does_move (v := .bool false) (by exact rfl)) (by decide) ?_
    refine alS (some 22) rfl rfl (by decide) ?_
    refine alS (some 23) rfl rfl (by decide) ?_
    refine alS (some 24) rfl rfl (by decide) ?_
    refine alP (some 25) rfl rfl (does_pick (v := .bool false) (by conv => lhs; whnf) (by exact rfl)) (by decide) ?_
    refine alP (some 26) rfl rfl (does_move (v := .bool false) (by exact rfl)) (by decide) ?_
    refine alS (some 27) rfl rfl (by decide) ?_
    refine alS (some 28) rfl rfl (by decide) ?_
    refine alS (some 29) rfl rfl (by decide) ?_
    refine alP (some 30) rfl rfl (does_pick (v := .bool false) (by conv => lhs; whnf) (by exact rfl)) (by decide) ?_
    refine alP (some 31) rfl rfl (does_move (v := .bool false) (by exact rfl)) (by decide) ?_
    refine alS (some 32) rfl rfl (by decide) ?_
    refine alS (some 33) rfl rfl (by decide) ?_
    refine alS (some 34) rfl rfl (by decide) ?_
    refine alS (some 35) rfl rfl (by decide) ?_
    refine alP (some 36) rfl rfl (does_pick (v := .bool false) (by conv => lhs; whnf) (by exact rfl)) (by decide) ?_
    refine alP (some 37) rfl rfl (does_move (v := .bool false) (by exact rfl)) (by decide) ?_
    refine alS (some 38) rfl rfl (by decide) ?_
    refine alS (some 39) rfl rfl (by decide) ?_
    refine alS (some 40) rfl rfl (by decide) ?_
    refine alP (some 41) rfl rfl (does_pick (v := .bool false) (by conv => lhs; whnf) (by exact rfl)) (by decide) ?_
    refine alP (some 2) rfl rfl (does_assign (v := .bool false) (by exact rfl)) (by decide) ?_
    refine al_nil ?_
    refine hK2 _ ?_
    refine aw_ret ?_
    obtain rfl := Option.some.inj h
    exact ret_ok1 (by conv => lhs; whnf) (by conv => lhs; whnf) (by exact rfl) (.inr rfl) rfl
def span_Put_l0 (a1 : Span) (vb0_s_0_s_0 : List UInt8) (v46_0 : Int) : Option ((List UInt8 × Int) ⊕ Writer) :=
  if (decide (v46_0 < (List.length a1.Attrs : Int))) = true then (gd (0 ≤ v46_0) (Option.bind (a1.Attrs[(Int.toNat v46_0)]?) (fun (x21 : Attr) => Option.bind (ints_Writer_Text (Writer.mk vb0_s_0_s_0) [x21.Key, x21.Value]) (fun (x22 : Writer) => some (Sum.inl (x22.B, (IntKind.i64.wrap (v46_0 + 1)))))))) else (some (Sum.inr (Writer.mk vb0_s_0_s_0)))
def span_Put (a0 : Writer) (a1 : Span) : Option Writer :=
  Option.bind (ints_Writer_Wide a0 [a1.Trace.Hi, a1.Trace.Lo, a1.Id, a1.Parent]) (fun (x3 : Writer) => Option.bind (ints_Writer_Text x3 [a1.Service, a1.Op]) (fun (x5 : Writer) => Option.bind (ints_Writer_Num x5 [a1.Start, a1.Dur]) (fun (x7 : Writer) => Option.bind (ints_Writer_Flag x7 a1.Err) (fun (x9 : Writer) => Option.bind (ints_Writer_Num x9 [(List.length a1.Attrs : Int)]) (fun (x11 : Writer) => loopN (fun (s : List UInt8 × Int) => span_Put_l0 a1 s.1 s.2) Fu (x11.B, 0))))))
set_option maxRecDepth 100000 in
set_option maxHeartbeats 8000000 in
/-- gleaning/span.Put -/
theorem span_Put_ok (a0 : Writer) (a1 : Span) {r : Writer} (h : span_Put a0 a1 = some r) : Ok Try.prog 63 [.ptr 0 0 0, .agg [.int .u64 a1.Trace.Hi, .int .u64 a1.Trace.Lo, .int .u64 a1.Id, .int .u64 a1.Parent, .str a1.Service, .str a1.Op, .int .i64 a1.Start, .int .i64 a1.Dur, .bool a1.Err, .sl 2 (List.map enc52 a1.Attrs)]] [[.own 1 0]] [(5, 1, List.map enc5 a0.B)] (.tup []) [[.own 2 0]] [(5, 1, List.map enc5 r.B)] := by
  unfold span_Put at h
  refine ok_of_code Try.func63 rfl (by show (2 : Nat) ≤ _; decide) (Nat.le_refl _) fun X => ?_
  refine aw_seq_k (fun K1 hK1 => ?_)
  refine aw_regL ?_
  refine alD (some 3) rfl rfl (do_box (by conv => lhs; whnf) rfl rfl) (by decide) ?_
  refine al_nil ?_
  refine hK1 _ ?_
  refine aw_seq_k (fun K2 hK2 => ?_)
  refine aw_regL ?_
  refine alP (some 6) rfl rfl (does_move (v := .ptr 0 0 0) (by exact rfl)) (by decide) ?_
  refine alP (some 7) rfl rfl (does_fieldAddr (q := .ptr 3 0 0) (by conv => lhs; whnf) ty42 rfl ty27 (by decide) (by exact rfl)) (by decide) ?_
  refine alP (some 8) rfl rfl (does_fieldAddr (q := .ptr 3 0 0) (by conv => lhs; whnf) ty27 rfl ty25 (by decide) (by exact rfl)) (by decide) ?_
  refine alR (some 9) rfl rfl (does_load (v := .int .u64 a1.Trace.Hi) (by conv => lhs; whnf) (by conv => lhs; whnf) ty25 (by exact rfl)) (by decide) ?_
  refine alP (some 10) rfl rfl (does_fieldAddr (q := .ptr 3 0 0) (by conv => lhs; whnf) ty42 rfl ty27 (by decide) (by exact rfl)) (by decide) ?_
  refine alP (some 11) rfl rfl (does_fieldAddr (q := .ptr 3 0 1) (by conv => lhs; whnf) ty27 rfl ty25 (by decide) (by exact rfl)) (by decide) ?_
  refine alR (some 12) rfl rfl (does_load (v := .int .u64 a1.Trace.Lo) (by conv => lhs; whnf) (by conv => lhs; whnf) ty25 (by exact rfl)) (by decide) ?_
  refine alP (some 13) rfl rfl (does_fieldAddr (q := .ptr 3 0 2) (by conv => lhs; whnf) ty42 rfl ty25 (by decide) (by exact rfl)) (by decide) ?_
  refine alR (some 14) rfl rfl (does_load (v := .int .u64 a1.Id) (by conv => lhs; whnf) (by conv => lhs; whnf) ty25 (by exact rfl)) (by decide) ?_
  refine alP (some 15) rfl rfl (does_fieldAddr (q := .ptr 3 0 3) (by conv => lhs; whnf) ty42 rfl ty25 (by decide) (by exact rfl)) (by decide) ?_
  refine alR (some 16) rfl rfl (does_load (v := .int .u64 a1.Parent) (by conv => lhs; whnf) (by conv => lhs; whnf) ty25 (by exact rfl)) (by decide) ?_
  refine alD (some 17) rfl rfl (do_buildSlice (xs := List.map enc12 [a1.Trace.Hi, a1.Trace.Lo, a1.Id, a1.Parent]) ty81 ty25 rfl rfl rfl rfl rfl rfl rfl rfl) (by decide) ?_
  obtain ⟨x3, hx3, h⟩ := bnd_some h
  refine alD (some 18) rfl rfl (does_frz (d := 17) (n := 0) (by conv => lhs; whnf) (do_callG (bcs := [[.own 1 0]]) [(0, 0)] [(1, 0)] [(17, 0)] 18 false (ints_Writer_Wide_ok a0 [a1.Trace.Hi, a1.Trace.Lo, a1.Id, a1.Parent] hx3) rfl ent96 ⟨(by exact rfl), trivial⟩ (rowsOk_cons (by conv => lhs; whnf) (by exact rfl) trivial) rfl rfl rfl rfl rfl rfl rfl rfl (.inl ⟨⟨_, _, _, rfl⟩, trivial⟩))) (by decide) ?_
  refine al_nil ?_
  refine hK2 _ ?_
  refine aw_seq_k (fun K4 hK4 => ?_)
  refine aw_regL ?_
  refine alP (some 19) rfl rfl (does_move (v := .ptr 0 0 0) (by exact rfl)) (by decide) ?_
  refine alP (some 20) rfl rfl (does_fieldAddr (q := .ptr 3 0 4) (by conv => lhs; whnf) ty42 rfl ty9 (by decide) (by exact rfl)) (by decide) ?_
  refine alR (some 21) rfl rfl (does_load (v := .str a1.Service) (by conv => lhs; whnf) (by conv => lhs; whnf) ty9 (by exact rfl)) (by decide) ?_
  refine alP (some 22) rfl rfl (does_fieldAddr (q := .ptr 3 0 5) (by conv => lhs; whnf) ty42 rfl ty9 (by decide) (by exact rfl)) (by decide) ?_
  refine alR (some 23) rfl rfl (does_load (v := .str a1.Op) (by conv => lhs; whnf) (by conv => lhs; whnf) ty9 (by exact rfl)) (by decide) ?_
  refine alD (some 24) rfl rfl (do_buildSlice (xs := List.map enc9 [a1.Service, a1.Op]) ty137 ty9 rfl rfl rfl rfl rfl rfl rfl rfl) (by decide) ?_
  obtain ⟨x5, hx5, h⟩ := bnd_some h
  refine alD (some 25) rfl rfl (does_frz (d := 24) (n := 0) (by conv => lhs; whnf) (do_callG (bcs := [[.own 18 0]]) [(0, 0)] [(18, 0)] [(24, 0)] 25 false (ints_Writer_Text_ok x3 [a1.Service, a1.Op] hx5) rfl ent97 ⟨(by exact rfl), trivial⟩ (rowsOk_cons (by conv => lhs; whnf) (by exact rfl) trivial) rfl rfl rfl rfl rfl rfl rfl rfl (.inl ⟨⟨_, _, _, rfl⟩, trivial⟩))) (by decide) ?_
  refine al_nil ?_
  refine hK4 _ ?_
  refine aw_seq_k (fun K6 hK6 => ?_)
  refine aw_regL ?_
  refine alP (some 26) rfl rfl (does_move (v := .ptr 0 0 0) (by exact rfl)) (by decide) ?_
  refine alP (some 27) rfl rfl (does_fieldAddr (q := .ptr 3 0 6) (by conv => lhs; whnf) ty42 rfl ty3 (by decide) (by exact rfl)) (by decide) ?_
  refine alR (some 28) rfl rfl (does_load (v := .int .i64 a1.Start) (by conv => lhs; whnf) (by conv => lhs; whnf) ty3 (by exact rfl)) (by decide) ?_
  refine alP (some 29) rfl rfl (does_fieldAddr (q := .ptr 3 0 7) (by conv => lhs; whnf) ty42 rfl ty3 (by decide) (by exact rfl)) (by decide) ?_
  refine alR (some 30) rfl rfl (does_load (v := .int .i64 a1.Dur) (by conv => lhs; whnf) (by conv => lhs; whnf) ty3 (by exact rfl)) (by decide) ?_
  refine alD (some 31) rfl rfl (do_buildSlice (xs := List.map enc2 [a1.Start, a1.Dur]) ty129 ty3 rfl rfl rfl rfl rfl rfl rfl rfl) (by decide) ?_
  obtain ⟨x7, hx7, h⟩ := bnd_some h
  refine alD (some 32) rfl rfl (does_frz (d := 31) (n := 0) (by conv => lhs; whnf) (do_callG (bcs := [[.own 25 0]]) [(0, 0)] [(25, 0)] [(31, 0)] 32 false (ints_Writer_Num_ok x5 [a1.Start, a1.Dur] hx7) rfl ent77 ⟨(by exact rfl), trivial⟩ (rowsOk_cons (by conv => lhs; whnf) (by exact rfl) trivial) rfl rfl rfl rfl rfl rfl rfl rfl (.inl ⟨⟨_, _, _, rfl⟩, trivial⟩))) (by decide) ?_
  refine al_nil ?_
  refine hK6 _ ?_
  refine aw_seq_k (fun K8 hK8 => ?_)
  refine aw_regL ?_
  refine alP (some 33) rfl rfl (does_move (v := .ptr 0 0 0) (by exact rfl)) (by decide) ?_
  refine alP (some 34) rfl rfl (does_fieldAddr (q := .ptr 3 0 8) (by conv => lhs; whnf) ty42 rfl ty4 (by decide) (by exact rfl)) (by decide) ?_
  refine alR (some 35) rfl rfl (does_load (v := .bool a1.Err) (by conv => lhs; whnf) (by conv => lhs; whnf) ty4 (by exact rfl)) (by decide) ?_
  obtain ⟨x9, hx9, h⟩ := bnd_some h
  refine alD (some 36) rfl rfl (do_callG (bcs := [[.own 32 0]]) [(0, 0)] [(32, 0)] [] 36 false (ints_Writer_Flag_ok x7 a1.Err hx9) rfl ent98 ⟨(by exact rfl), trivial⟩ (rowsOk_cons (by conv => lhs; whnf) (by exact rfl) trivial) rfl rfl rfl rfl rfl rfl rfl rfl (.inl trivial)) (by decide) ?_
  refine al_nil ?_
  refine hK8 _ ?_
  refine aw_seq_k (fun K10 hK10 => ?_)
  refine aw_regL ?_
  refine alP (some 37) rfl rfl (does_move (v := .ptr 0 0 0) (by exact rfl)) (by decide) ?_
  refine alP (some 38) rfl rfl (does_fieldAddr (q := .ptr 3 0 9) (by conv => lhs; whnf) ty42 rfl ty40 (by decide) (by exact rfl)) (by decide) ?_
  refine alR (some 39) rfl rfl (does_load (v := .sl 2 (List.map enc52 a1.Attrs)) (by conv => lhs; whnf) (by conv => lhs; whnf) ty40 (by exact rfl)) (by decide) ?_
  refine alP (some 40) rfl rfl ((does_len_sl (by conv => lhs; whnf) ty40).castp (v' := .int .i64 (List.length a1.Attrs : Int)) (by exact len_map _)) (by decide) ?_
  refine alD (some 41) rfl rfl (do_buildSlice (xs := List.map enc2 [(List.length a1.Attrs : Int)]) ty129 ty3 rfl rfl rfl rfl rfl rfl rfl rfl) (by decide) ?_
  obtain ⟨x11, hx11, h⟩ := bnd_some h
  refine alD (some 42) rfl rfl (does_frz (d := 41) (n := 0) (by conv => lhs; whnf) (do_callG (bcs := [[.own 36 0]]) [(0, 0)] [(36, 0)] [(41, 0)] 42 false (ints_Writer_Num_ok x9 [(List.length a1.Attrs : Int)] hx11) rfl ent77 ⟨(by exact rfl), trivial⟩ (rowsOk_cons (by conv => lhs; whnf) (by exact rfl) trivial) rfl rfl rfl rfl rfl rfl rfl rfl (.inl ⟨⟨_, _, _, rfl⟩, trivial⟩))) (by decide) ?_
  refine al_nil ?_
  refine hK10 _ ?_
  refine aw_seq_k (fun K12 hK12 => ?_)
  refine aw_regL ?_
  refine alP (some 43) rfl rfl (does_fieldAddr (q := .ptr 3 0 9) (by conv => lhs; whnf) ty42 rfl ty40 (by decide) (by exact rfl)) (by decide) ?_
  refine alR (some 44) rfl rfl (does_load (v := .sl 2 (List.map enc52 a1.Attrs)) (by conv => lhs; whnf) (by conv => lhs; whnf) ty40 (by exact rfl)) (by decide) ?_
  refine alP (some 45) rfl rfl ((does_len_sl (by conv => lhs; whnf) ty40).castp (v' := .int .i64 (List.length a1.Attrs : Int)) (by exact len_map _)) (by decide) ?_
  refine alP (some 46) rfl rfl (does_move (v := .int .i64 0) (by exact rfl)) (by decide) ?_
  refine al_nil ?_
  refine hK12 _ ?_
  refine aw_block ?_
  refine aw_loop' (fun m s => ∃ (vb0_s_0_s_0 : List UInt8), ∃ (v46_0 : Int), loopN (fun (s : List UInt8 × Int) => span_Put_l0 a1 s.1 s.2) m (vb0_s_0_s_0, v46_0) = some r ∧ s = lit [(0, .ptr 0 0 0), (44, .sl 2 (List.map enc52 a1.Attrs)), (45, .int .i64 (List.length a1.Attrs : Int)), (46, .int .i64 v46_0)] [((0, 0), .box [.own 42 0]), ((42, 0), .arr 5 1 false (List.map enc5 vb0_s_0_s_0))] [(0, 1), (42, 1)] X) Fu
    ⟨_, reb_lit [(0, .ptr 0 0 0), (44, .sl 2 (List.map enc52 a1.Attrs)), (45, .int .i64 (List.length a1.Attrs : Int)), (46, .int .i64 (0))] [(0, 0), (42, 0)] [((0, 0), .box [.own 42 0]), ((42, 0), .arr 5 1 false (List.map enc5 x11.B))] [(0, 1), (42, 1)] (envOk_cons (by conv => lhs; whnf) (by exact rfl) (envOk_cons (by conv => lhs; whnf) (by exact rfl) (envOk_cons (by conv => lhs; whnf) (by exact rfl) (envOk_cons (by conv => lhs; whnf) (by exact rfl) envOk_nil)))) (objOk_cons (by conv => lhs; whnf) (by conv => lhs; whnf) (by exact rfl) (by simp) (objOk_cons (by conv => lhs; whnf) (by conv => lhs; whnf) (by exact rfl) (by simp) objOk_nil)) (nodup_b rfl) (nodup_b rfl) rfl rfl, x11.B, 0, h, rfl⟩ ?_
  rintro m s ⟨vb0_s_0_s_0, v46_0, h, rfl⟩
  obtain ⟨m0, q13, rfl, h, hq14⟩ := loop_some h
  replace h : span_Put_l0 a1 vb0_s_0_s_0 v46_0 = some q13 := h
  unfold span_Put_l0 at h
  refine aw_seq_k (fun K15 hK15 => ?_)
  refine aw_regL ?_
  refine alP (some 47) rfl rfl (does_bin (v := .bool (decide (v46_0 < (List.length a1.Attrs : Int)))) (by conv => lhs; whnf) (by conv => lhs; whnf) rfl) (by decide) ?_
  refine al_nil ?_
  refine hK15 _ ?_
  refine aw_seq_k (fun K16 hK16 => ?_)
  refine aw_bool (b := (decide (v46_0 < (List.length a1.Attrs : Int)))) 47 rfl (fun c17 => ?_) (fun c17 => ?_)
  · have h := ifT c17 h
    refine aw_cond_t (by decide) rfl ?_
    refine aw_skip ?_
    refine hK16 _ ?_
    refine aw_seq_k (fun K18 hK18 => ?_)
    refine aw_block ?_
    refine aw_seq_k (fun K19 hK19 => ?_)
    refine aw_regL ?_
    obtain ⟨g20, h⟩ := gd_some h
    obtain ⟨x21, hx21, h⟩ := bnd_some h
    refine alP (some 48) rfl rfl (does_indexAddr_sl (el := .agg [.str x21.Key, .str x21.Value]) (by conv => lhs; whnf) (by conv => lhs; whnf) ty40 ty53 g20 (by exact map_get hx21)) (by decide) ?_
    refine alR (some 49) rfl rfl (does_load (v := .agg [.str x21.Key, .str x21.Value]) (by conv => lhs; whnf) (by conv => lhs; whnf) ty53 (by exact rfl)) (by decide) ?_
    refine alD (some 5) rfl rfl (do_new ty53 rfl rfl) (by decide) ?_
    refine alD none rfl rfl (do_store (cs' := [.str x21.Key, .str x21.Value]) (by conv => lhs; whnf) (by conv => lhs; whnf) (by conv => lhs; whnf) ty53 rfl rfl rfl (by exact rfl)) (by decide) ?_
    refine al_nil ?_
    refine hK19 _ ?_
    refine aw_regL ?_
    refine alP (some 50) rfl rfl (does_move (v := .ptr 0 0 0) (by exact rfl)) (by decide) ?_
    refine alP (some 51) rfl rfl (does_fieldAddr (q := .ptr 5 0 0) (by conv => lhs; whnf) ty53 rfl ty9 (by decide) (by exact rfl)) (by decide) ?_
    refine alR (some 52) rfl rfl (does_load (v := .str x21.Key) (by conv => lhs; whnf) (by conv => lhs; whnf) ty9 (by exact rfl)) (by decide) ?_
    refine alP (some 53) rfl rfl (does_fieldAddr (q := .ptr 5 0 1) (by conv => lhs; whnf) ty53 rfl ty9 (by decide) (by exact rfl)) (by decide) ?_
    refine alR (some 54) rfl rfl (does_load (v := .str x21.Value) (by conv => lhs; whnf) (by conv => lhs; whnf) ty9 (by exact rfl)) (by decide) ?_
    refine alD (some 55) rfl rfl (do_buildSlice (xs := List.map enc9 [x21.Key, x21.Value]) ty137 ty9 rfl rfl rfl rfl rfl rfl rfl rfl) (by decide) ?_
    obtain ⟨x22, hx22, h⟩ := bnd_some h
    refine alD (some 56) rfl rfl (does_frz (d := 55) (n := 0) (by conv => lhs; whnf) (do_callG (bcs := [[.own 42 0]]) [(0, 0)] [(42, 0)] [(55, 0)] 56 false (ints_Writer_Text_ok (Writer.mk vb0_s_0_s_0) [x21.Key, x21.Value] hx22) rfl ent97 ⟨(by exact rfl), trivial⟩ (rowsOk_cons (by conv => lhs; whnf) (by exact rfl) trivial) rfl rfl rfl rfl rfl rfl rfl rfl (.inl ⟨⟨_, _, _, rfl⟩, trivial⟩))) (by decide) ?_
    refine al_nil ?_
    refine hK18 _ ?_
    refine aw_regL ?_
    refine alP (some 57) rfl rfl (does_bin (v := .int .i64 (IntKind.i64.wrap (v46_0 + 1))) (by conv => lhs; whnf) (by conv => lhs; whnf) rfl) (by decide) ?_
    refine alP (some 46) rfl rfl (does_move (v := .int .i64 (IntKind.i64.wrap (v46_0 + 1))) (by exact rfl)) (by decide) ?_
    refine al_nil ?_
    have h := leafL h hq14
    exact ⟨m0, Nat.lt_succ_self _, _, reb_lit [(0, .ptr 0 0 0), (44, .sl 2 (List.map enc52 a1.Attrs)), (45, .int .i64 (List.length a1.Attrs : Int)), (46, .int .i64 (IntKind.i64.wrap (v46_0 + 1)))] [(0, 0), (56, 0)] [((0, 0), .box [.own 42 0]), ((42, 0), .arr 5 1 false (List.map enc5 x22.B))] [(0, 1), (42, 1)] (envOk_cons (by conv => lhs; whnf) (by exact rfl) (envOk_cons (by conv => lhs; whnf) (by exact rfl) (envOk_cons (by conv => lhs; whnf) (by exact rfl) (envOk_cons (by conv => lhs; whnf) (by exact rfl) envOk_nil)))) (objOk_cons (by conv => lhs; whnf) (by conv => lhs; whnf) (by exact rfl) (by simp) (objOk_cons (by conv => lhs; whnf) (by conv => lhs; whnf) (by exact rfl) (by simp) objOk_nil)) (nodup_b rfl) (nodup_b rfl) rfl rfl, x22.B, (IntKind.i64.wrap (v46_0 + 1)), h, rfl⟩
  · have h := ifF c17 h
    refine aw_cond_f (by decide) rfl ?_
    refine aw_exit ?_
    have h := leafR h hq14
    obtain rfl := Option.some.inj h
    exact ret_okB [(42, 0)] (by conv => lhs; whnf) (by conv => lhs; whnf) (by exact rfl) (rowsOk_cons (by conv => lhs; whnf) (by exact rfl) trivial) (boxesOk_cons (by conv => lhs; whnf) (by conv => lhs; whnf) (by exact rfl) trivial) (nodup_b rfl) (.inl rfl) rfl
def span_Bytes (a0 : Span) : Option (List UInt8) :=
  Option.bind (span_Right a0) (fun (x4 : Bool) => if (!x4) = true then (some []) else (Option.bind (span_Put (Writer.mk []) a0) (fun (x9 : Writer) => some x9.B)))
set_option maxRecDepth 100000 in
set_option maxHeartbeats 8000000 in
/-- gleaning/span.Bytes -/
theorem span_Bytes_ok (a0 : Span) {r : List UInt8} (h : span_Bytes a0 = some r) : Ok Try.prog 29 [.agg [.int .u64 a0.Trace.Hi, .int .u64 a0.Trace.Lo, .int .u64 a0.Id, .int .u64 a0.Parent, .str a0.Service, .str a0.Op, .int .i64 a0.Start, .int .i64 a0.Dur, .bool a0.Err, .sl 2 (List.map enc52 a0.Attrs)]] [] [] (.own 2 0) [] [(5, 1, List.map enc5 r)] := by
  unfold span_Bytes at h
  refine ok_of_code Try.func29 rfl (by show (1 : Nat) ≤ _; decide) (Nat.le_refl _) fun X => ?_
  refine aw_seq_k (fun K1 hK1 => ?_)
  refine aw_regL ?_
  refine alD (some 1) rfl rfl (do_box (by conv => lhs; whnf) rfl rfl) (by decide) ?_
  refine alP (some 2) rfl rfl (does_assign (v := .nil) (by exact rfl)) (by decide) ?_
  refine al_nil ?_
  refine hK1 _ ?_
  refine aw_seq_k (fun K2 hK2 => ?_)
  refine aw_seq_k (fun K3 hK3 => ?_)
  refine aw_regL ?_
  refine alR (some 4) rfl rfl (does_load (v := .agg [.int .u64 a0.Trace.Hi, .int .u64 a0.Trace.Lo, .int .u64 a0.Id, .int .u64 a0.Parent, .str a0.Service, .str a0.Op, .int .i64 a0.Start, .int .i64 a0.Dur, .bool a0.Err, .sl 2 (List.map enc52 a0.Attrs)]) (by conv => lhs; whnf) (by conv => lhs; whnf) ty42 (by exact rfl)) (by decide) ?_
  obtain ⟨x4, hx4, h⟩ := bnd_some h
  refine alD (some 5) rfl rfl (do_call0 5 false (span_Right_ok a0 hx4) rfl ent33 rfl rfl) (by decide) ?_
  refine alP (some 6) rfl rfl (does_un (v := .bool (!x4)) (by conv => lhs; whnf) rfl) (by decide) ?_
  refine al_nil ?_
  refine hK3 _ ?_
  refine aw_bool (b := (!x4)) 6 rfl (fun c5 => ?_) (fun c5 => ?_)
  · have h := ifT c5 h
    refine aw_cond_t (by decide) rfl ?_
    refine aw_seq_k (fun K6 hK6 => ?_)
    refine aw_regL ?_
    refine alP (some 2) rfl rfl (does_assign (v := .nil) (by exact rfl)) (by decide) ?_
    refine al_nil ?_
    refine hK6 _ ?_
    refine aw_nilOwn 2 5 1 (by conv => lhs; whnf) (by decide) (by decide) ?_
    refine aw_ret ?_
    obtain rfl := Option.some.inj h
    exact ret_okR [(2, 0)] (by conv => lhs; whnf) (by conv => lhs; whnf) (by exact rfl) (rowsOk_cons (by conv => lhs; whnf) (by exact rfl) trivial) (nodup_b rfl) (.inr rfl) rfl
  · have h := ifF c5 h
    refine aw_cond_f (by decide) rfl ?_
    refine aw_skip ?_
    refine hK2 _ ?_
    refine aw_seq_k (fun K7 hK7 => ?_)
    refine aw_regL ?_
    refine alP (some 7) rfl rfl (do_build_struct (cs := [.nil]) ty87 rfl [⟨.slice 5, 1, 24, [.nil]⟩] (by simp only [List.map, ty43]) (by rfl) (by exact rfl)) (by decide) ?_
    refine alD (some 8) rfl rfl (do_box (by conv => lhs; whnf) rfl rfl) (by decide) ?_
    refine alP (some 3) rfl rfl (does_assign (v := .ptr 8 0 0) (by exact rfl)) (by decide) ?_
    refine al_nil ?_
    refine hK7 _ ?_
    refine aw_seq_k (fun K8 hK8 => ?_)
    refine aw_nilOwnC 8 0 0 8 5 1 (cs := [.nil]) (by exact rfl) rfl (by decide) ?_
    refine aw_regL ?_
    refine alP (some 9) rfl rfl (does_move (v := .ptr 8 0 0) (by exact rfl)) (by decide) ?_
    refine alR (some 10) rfl rfl (does_load (v := .agg [.int .u64 a0.Trace.Hi, .int .u64 a0.Trace.Lo, .int .u64 a0.Id, .int .u64 a0.Parent, .str a0.Service, .str a0.Op, .int .i64 a0.Start, .int .i64 a0.Dur, .bool a0.Err, .sl 2 (List.map enc52 a0.Attrs)]) (by conv => lhs; whnf) (by conv => lhs; whnf) ty42 (by exact rfl)) (by decide) ?_
    obtain ⟨x9, hx9, h⟩ := bnd_some h
    refine alD (some 11) rfl rfl (do_callG (bcs := [[.own 8 1]]) [(8, 0)] [(8, 1)] [] 11 false (span_Put_ok (Writer.mk []) a0 hx9) rfl ent63 ⟨(by exact rfl), trivial⟩ (rowsOk_cons (by conv => lhs; whnf) (by exact rfl) trivial) rfl rfl rfl rfl rfl rfl rfl rfl (.inl trivial)) (by decide) ?_
    refine al_nil ?_
    refine hK8 _ ?_
    refine aw_seq_k (fun K10 hK10 => ?_)
    refine aw_regL ?_
    refine alP (some 12) rfl rfl (does_move (v := .ptr 8 0 0) (by exact rfl)) (by decide) ?_
    refine alP (some 13) rfl rfl (does_nilCheck (p := .ptr 8 0 0) (by conv => lhs; whnf) rfl) (by decide) ?_
    refine alP (some 14) rfl rfl (does_fieldAddr (q := .ptr 8 0 0) (by conv => lhs; whnf) ty87 rfl ty43 (by decide) (by exact rfl)) (by decide) ?_
    refine alR (some 15) rfl rfl (does_load (v := .own 11 0) (by conv => lhs; whnf) (by conv => lhs; whnf) ty43 (by exact rfl)) (by decide) ?_
    refine alP (some 2) rfl rfl (does_assign (v := .own 11 0) (by exact rfl)) (by decide) ?_
    refine al_nil ?_
    refine hK10 _ ?_
    refine aw_ret ?_
    obtain rfl := Option.some.inj h
    exact ret_okR [(11, 0)] (by conv => lhs; whnf) (by conv => lhs; whnf) (by exact rfl) (rowsOk_cons (by conv => lhs; whnf) (by exact rfl) trivial) (nodup_b rfl) (.inr rfl) rfl
def span_Get_l1 (x24 : Int × Reader) (vb0_s_0_1 : List UInt8) (vb0_s_1_1 : Bool) (v3_s_9_s_1 : List Attr) (v36_1 : Int) : Option ((List UInt8 × Bool × List Attr × Int) ⊕ (List UInt8 × Bool × List Attr)) :=
  if (decide (v36_1 < x24.1)) = true then (Option.bind (ints_Reader_Text (Reader.mk vb0_s_0_1 vb0_s_1_1)) (fun (x32 : ByteArray × Reader) => Option.bind (ints_Reader_Text x32.2) (fun (x33 : ByteArray × Reader) => gd ((List.length (v3_s_9_s_1 ++ [(Attr.mk x32.1 x33.1)])) * 32 ≤ 140737488355328 ∧ (List.length (v3_s_9_s_1 ++ [(Attr.mk x32.1 x33.1)])) ≤ 140737488355328) (some (Sum.inl (x33.2.B, x33.2.Bad, (v3_s_9_s_1 ++ [(Attr.mk x32.1 x33.1)]), (IntKind.i64.wrap (v36_1 + 1)))))))) else (some (Sum.inr (vb0_s_0_1, vb0_s_1_1, v3_s_9_s_1)))
def span_Get_k0 (x4 : Int × Reader) (x6 : Int × Reader) (x8 : Int × Reader) (x10 : Int × Reader) (x12 : ByteArray × Reader) (x14 : ByteArray × Reader) (x16 : Int × Reader) (x18 : Int × Reader) (x20 : Bool × Reader) (vb0_s_0_0 : List UInt8) (vb0_s_1_0 : Bool) (v3_s_9_s_0 : List Attr) : Option (Span × Reader) :=
  if vb0_s_1_0 = true then (some ((Span.mk (Trace.mk x4.1 x6.1) x8.1 x10.1 x12.1 x14.1 x16.1 x18.1 x20.1 v3_s_9_s_0), (Reader.mk vb0_s_0_0 true))) else (Option.bind (span_Right (Span.mk (Trace.mk x4.1 x6.1) x8.1 x10.1 x12.1 x14.1 x16.1 x18.1 x20.1 v3_s_9_s_0)) (fun (x38 : Bool) => some ((Span.mk (Trace.mk x4.1 x6.1) x8.1 x10.1 x12.1 x14.1 x16.1 x18.1 x20.1 v3_s_9_s_0), (Reader.mk vb0_s_0_0 (!x38)))))
def span_Get (a0 : Reader) : Option (Span × Reader) :=
  Option.bind (ints_Reader_Wide a0) (fun (x4 : Int × Reader) => Option.bind (ints_Reader_Wide x4.2) (fun (x6 : Int × Reader) => Option.bind (ints_Reader_Wide x6.2) (fun (x8 : Int × Reader) => Option.bind (ints_Reader_Wide x8.2) (fun (x10 : Int × Reader) => Option.bind (ints_Reader_Text x10.2) (fun (x12 : ByteArray × Reader) => Option.bind (ints_Reader_Text x12.2) (fun (x14 : ByteArray × Reader) => Option.bind (ints_Reader_Num x14.2 1099511627776) (fun (x16 : Int × Reader) => Option.bind (ints_Reader_Num x16.2 1073741824) (fun (x18 : Int × Reader) => Option.bind (ints_Reader_Flag x18.2) (fun (x20 : Bool × Reader) => Option.bind (Option.bind (ints_Reader_Num x20.2 4) (fun (x24 : Int × Reader) => loopN (fun (s : List UInt8 × Bool × List Attr × Int) => span_Get_l1 x24 s.1 s.2.1 s.2.2.1 s.2.2.2) Fu (x24.2.B, x24.2.Bad, [], 0))) (fun (s : List UInt8 × Bool × List Attr) => span_Get_k0 x4 x6 x8 x10 x12 x14 x16 x18 x20 s.1 s.2.1 s.2.2))))))))))
set_option maxRecDepth 100000 in
set_option maxHeartbeats 8000000 in
/-- gleaning/span.Get -/
theorem span_Get_ok (a0 : Reader) {r : Span × Reader} (h : span_Get a0 = some r) : Ok Try.prog 64 [.ptr 0 0 0] [[.sl 1 (List.map enc5 a0.B), .bool a0.Bad]] [] (.agg [.int .u64 r.1.Trace.Hi, .int .u64 r.1.Trace.Lo, .int .u64 r.1.Id, .int .u64 r.1.Parent, .str r.1.Service, .str r.1.Op, .int .i64 r.1.Start, .int .i64 r.1.Dur, .bool r.1.Err, .own 2 0]) [[.sl 1 (List.map enc5 r.2.B), .bool r.2.Bad]] [(53, 2, List.map enc52 r.1.Attrs)] := by
  unfold span_Get at h
  refine ok_of_code Try.func64 rfl (by show (1 : Nat) ≤ _; decide) (Nat.le_refl _) fun X => ?_
  refine aw_seq_k (fun K1 hK1 => ?_)
  refine aw_regL ?_
  refine alD (some 2) rfl rfl (do_new ty42 rfl rfl) (by decide) ?_
  refine al_nil ?_
  refine hK1 _ ?_
  refine aw_seq_k (fun K2 hK2 => ?_)
  refine aw_regL ?_
  refine alD (some 3) rfl rfl (do_new ty42 rfl rfl) (by decide) ?_
  refine al_nil ?_
  refine hK2 _ ?_
  refine aw_seq_k (fun K3 hK3 => ?_)
  refine aw_regL ?_
  refine alP (some 5) rfl rfl (does_move (v := .ptr 0 0 0) (by exact rfl)) (by decide) ?_
  obtain ⟨x4, hx4, h⟩ := bnd_some h
  refine alD (some 6) rfl rfl (do_callG (bcs := [[.sl 1 (List.map enc5 a0.B), .bool a0.Bad]]) [(0, 0)] [] [] 6 false (ints_Reader_Wide_ok a0 hx4) rfl ent99 ⟨(by exact rfl), trivial⟩ trivial rfl rfl rfl rfl rfl rfl rfl rfl (.inl trivial)) (by decide) ?_
  refine alP (some 7) rfl rfl (does_fieldAddr (q := .ptr 3 0 0) (by conv => lhs; whnf) ty42 rfl ty27 (by decide) (by exact rfl)) (by decide) ?_
  refine alP (some 8) rfl rfl (does_fieldAddr (q := .ptr 3 0 0) (by conv => lhs; whnf) ty27 rfl ty25 (by decide) (by exact rfl)) (by decide) ?_
  refine alD none rfl rfl (do_store (cs' := [.int .u64 x4.1, .int .u64 0, .int .u64 0, .int .u64 0, .str (strOf []), .str (strOf []), .int .i64 0, .int .i64 0, .bool false, .nil]) (by conv => lhs; whnf) (by conv => lhs; whnf) (by conv => lhs; whnf) ty25 rfl rfl rfl (by exact rfl)) (by decide) ?_
  refine al_nil ?_
  refine hK3 _ ?_
  refine aw_seq_k (fun K5 hK5 => ?_)
  refine aw_regL ?_
  refine alP (some 9) rfl rfl (does_move (v := .ptr 0 0 0) (by exact rfl)) (by decide) ?_
  obtain ⟨x6, hx6, h⟩ := bnd_some h
  refine alD (some 10) rfl rfl (do_callG (bcs := [[.sl 1 (List.map enc5 x4.2.B), .bool x4.2.Bad]]) [(0, 0)] [] [] 10 false (ints_Reader_Wide_ok x4.2 hx6) rfl ent99 ⟨(by exact rfl), trivial⟩ trivial rfl rfl rfl rfl rfl rfl rfl rfl (.inl trivial)) (by decide) ?_
  refine alP (some 11) rfl rfl (does_fieldAddr (q := .ptr 3 0 0) (by conv => lhs; whnf) ty42 rfl ty27 (by decide) (by exact rfl)) (by decide) ?_
  refine alP (some 12) rfl rfl (does_fieldAddr (q := .ptr 3 0 1) (by conv => lhs; whnf) ty27 rfl ty25 (by decide) (by exact rfl)) (by decide) ?_
  refine alD none rfl rfl (do_store (cs' := [.int .u64 x4.1, .int .u64 x6.1, .int .u64 0, .int .u64 0, .str (strOf []), .str (strOf []), .int .i64 0, .int .i64 0, .bool false, .nil]) (by conv => lhs; whnf) (by conv => lhs; whnf) (by conv => lhs; whnf) ty25 rfl rfl rfl (by exact rfl)) (by decide) ?_
  refine al_nil ?_
  refine hK5 _ ?_
  refine aw_seq_k (fun K7 hK7 => ?_)
  refine aw_regL ?_
  refine alP (some 13) rfl rfl (does_move (v := .ptr 0 0 0) (by exact rfl)) (by decide) ?_
  obtain ⟨x8, hx8, h⟩ := bnd_some h
  refine alD (some 14) rfl rfl (do_callG (bcs := [[.sl 1 (List.map enc5 x6.2.B), .bool x6.2.Bad]]) [(0, 0)] [] [] 14 false (ints_Reader_Wide_ok x6.2 hx8) rfl ent99 ⟨(by exact rfl), trivial⟩ trivial rfl rfl rfl rfl rfl rfl rfl rfl (.inl trivial)) (by decide) ?_
  refine alP (some 15) rfl rfl (does_fieldAddr (q := .ptr 3 0 2) (by conv => lhs; whnf) ty42 rfl ty25 (by decide) (by exact rfl)) (by decide) ?_
  refine alD none rfl rfl (do_store (cs' := [.int .u64 x4.1, .int .u64 x6.1, .int .u64 x8.1, .int .u64 0, .str (strOf []), .str (strOf []), .int .i64 0, .int .i64 0, .bool false, .nil]) (by conv => lhs; whnf) (by conv => lhs; whnf) (by conv => lhs; whnf) ty25 rfl rfl rfl (by exact rfl)) (by decide) ?_
  refine al_nil ?_
  refine hK7 _ ?_
  refine aw_seq_k (fun K9 hK9 => ?_)
  refine aw_regL ?_
  refine alP (some 16) rfl rfl (does_move (v := .ptr 0 0 0) (by exact rfl)) (by decide) ?_
  obtain ⟨x10, hx10, h⟩ := bnd_some h
  refine alD (some 17) rfl rfl (do_callG (bcs := [[.sl 1 (List.map enc5 x8.2.B), .bool x8.2.Bad]]) [(0, 0)] [] [] 17 false (ints_Reader_Wide_ok x8.2 hx10) rfl ent99 ⟨(by exact rfl), trivial⟩ trivial rfl rfl rfl rfl rfl rfl rfl rfl (.inl trivial)) (by decide) ?_
  refine alP (some 18) rfl rfl (does_fieldAddr (q := .ptr 3 0 3) (by conv => lhs; whnf) ty42 rfl ty25 (by decide) (by exact rfl)) (by decide) ?_
  refine alD none rfl rfl (do_store (cs' := [.int .u64 x4.1, .int .u64 x6.1, .int .u64 x8.1, .int .u64 x10.1, .str (strOf []), .str (strOf []), .int .i64 0, .int .i64 0, .bool false, .nil]) (by conv => lhs; whnf) (by conv => lhs; whnf) (by conv => lhs; whnf) ty25 rfl rfl rfl (by exact rfl)) (by decide) ?_
  refine al_nil ?_
  refine hK9 _ ?_
  refine aw_seq_k (fun K11 hK11 => ?_)
  refine aw_regL ?_
  refine alP (some 19) rfl rfl (does_move (v := .ptr 0 0 0) (by exact rfl)) (by decide) ?_
  obtain ⟨x12, hx12, h⟩ := bnd_some h
  refine alD (some 20) rfl rfl (do_callG (bcs := [[.sl 1 (List.map enc5 x10.2.B), .bool x10.2.Bad]]) [(0, 0)] [] [] 20 false (ints_Reader_Text_ok x10.2 hx12) rfl ent100 ⟨(by exact rfl), trivial⟩ trivial rfl rfl rfl rfl rfl rfl rfl rfl (.inl trivial)) (by decide) ?_
  refine alP (some 21) rfl rfl (does_fieldAddr (q := .ptr 3 0 4) (by conv => lhs; whnf) ty42 rfl ty9 (by decide) (by exact rfl)) (by decide) ?_
  refine alD none rfl rfl (do_store (cs' := [.int .u64 x4.1, .int .u64 x6.1, .int .u64 x8.1, .int .u64 x10.1, .str x12.1, .str (strOf []), .int .i64 0, .int .i64 0, .bool false, .nil]) (by conv => lhs; whnf) (by conv => lhs; whnf) (by conv => lhs; whnf) ty9 rfl rfl rfl (by exact rfl)) (by decide) ?_
  refine al_nil ?_
  refine hK11 _ ?_
  refine aw_seq_k (fun K13 hK13 => ?_)
  refine aw_regL ?_
  refine alP (some 22) rfl rfl (does_move (v := .ptr 0 0 0) (by exact rfl)) (by decide) ?_
  obtain ⟨x14, hx14, h⟩ := bnd_some h
  refine alD (some 23) rfl rfl (do_callG (bcs := [[.sl 1 (List.map enc5 x12.2.B), .bool x12.2.Bad]]) [(0, 0)] [] [] 23 false (ints_Reader_Text_ok x12.2 hx14) rfl ent100 ⟨(by exact rfl), trivial⟩ trivial rfl rfl rfl rfl rfl rfl rfl rfl (.inl trivial)) (by decide) ?_
  refine alP (some 24) rfl rfl (does_fieldAddr (q := .ptr 3 0 5) (by conv => lhs; whnf) ty42 rfl ty9 (by decide) (by exact rfl)) (by decide) ?_
  refine alD none rfl rfl (do_store (cs' := [.int .u64 x4.1, .int .u64 x6.1, .int .u64 x8.1, .int .u64 x10.1, .str x12.1, .str x14.1, .int .i64 0, .int .i64 0, .bool false, .nil]) (by conv => lhs; whnf) (by conv => lhs; whnf) (by conv => lhs; whnf) ty9 rfl rfl rfl (by exact rfl)) (by decide) ?_
  refine al_nil ?_
  refine hK13 _ ?_
  refine aw_seq_k (fun K15 hK15 => ?_)
  refine aw_regL ?_
  refine alP (some 25) rfl rfl (does_move (v := .ptr 0 0 0) (by exact rfl)) (by decide) ?_
  obtain ⟨x16, hx16, h⟩ := bnd_some h
  refine alD (some 26) rfl rfl (do_callG (bcs := [[.sl 1 (List.map enc5 x14.2.B), .bool x14.2.Bad]]) [(0, 0)] [] [] 26 false (ints_Reader_Num_ok x14.2 1099511627776 hx16) rfl ent80 ⟨(by exact rfl), trivial⟩ trivial rfl rfl rfl rfl rfl rfl rfl rfl (.inl trivial)) (by decide) ?_
  refine alP (some 27) rfl rfl (does_fieldAddr (q := .ptr 3 0 6) (by conv => lhs; whnf) ty42 rfl ty3 (by decide) (by exact rfl)) (by decide) ?_
  refine alD none rfl rfl (do_store (cs' := [.int .u64 x4.1, .int .u64 x6.1, .int .u64 x8.1, .int .u64 x10.1, .str x12.1, .str x14.1, .int .i64 x16.1, .int .i64 0, .bool false, .nil]) (by conv => lhs; whnf) (by conv => lhs; whnf) (by conv => lhs; whnf) ty3 rfl rfl rfl (by exact rfl)) (by decide) ?_
  refine al_nil ?_
  refine hK15 _ ?_
  refine aw_seq_k (fun K17 hK17 => ?_)
  refine aw_regL ?_
  refine alP (some 28) rfl rfl (does_move (v := .ptr 0 0 0) (by exact rfl)) (by decide) ?_
  obtain ⟨x18, hx18, h⟩ := bnd_some h
  refine alD (some 29) rfl rfl (do_callG (bcs := [[.sl 1 (List.map enc5 x16.2.B), .bool x16.2.Bad]]) [(0, 0)] [] [] 29 false (ints_Reader_Num_ok x16.2 1073741824 hx18) rfl ent80 ⟨(by exact rfl), trivial⟩ trivial rfl rfl rfl rfl rfl rfl rfl rfl (.inl trivial)) (by decide) ?_
  refine alP (some 30) rfl rfl (does_fieldAddr (q := .ptr 3 0 7) (by conv => lhs; whnf) ty42 rfl ty3 (by decide) (by exact rfl)) (by decide) ?_
  refine alD none rfl rfl (do_store (cs' := [.int .u64 x4.1, .int .u64 x6.1, .int .u64 x8.1, .int .u64 x10.1, .str x12.1, .str x14.1, .int .i64 x16.1, .int .i64 x18.1, .bool false, .nil]) (by conv => lhs; whnf) (by conv => lhs; whnf) (by conv => lhs; whnf) ty3 rfl rfl rfl (by exact rfl)) (by decide) ?_
  refine al_nil ?_
  refine hK17 _ ?_
  refine aw_seq_k (fun K19 hK19 => ?_)
  refine aw_regL ?_
  refine alP (some 31) rfl rfl (does_move (v := .ptr 0 0 0) (by exact rfl)) (by decide) ?_
  obtain ⟨x20, hx20, h⟩ := bnd_some h
  refine alD (some 32) rfl rfl (do_callG (bcs := [[.sl 1 (List.map enc5 x18.2.B), .bool x18.2.Bad]]) [(0, 0)] [] [] 32 false (ints_Reader_Flag_ok x18.2 hx20) rfl ent101 ⟨(by exact rfl), trivial⟩ trivial rfl rfl rfl rfl rfl rfl rfl rfl (.inl trivial)) (by decide) ?_
  refine alP (some 33) rfl rfl (does_fieldAddr (q := .ptr 3 0 8) (by conv => lhs; whnf) ty42 rfl ty4 (by decide) (by exact rfl)) (by decide) ?_
  refine alD none rfl rfl (do_store (cs' := [.int .u64 x4.1, .int .u64 x6.1, .int .u64 x8.1, .int .u64 x10.1, .str x12.1, .str x14.1, .int .i64 x16.1, .int .i64 x18.1, .bool x20.1, .nil]) (by conv => lhs; whnf) (by conv => lhs; whnf) (by conv => lhs; whnf) ty4 rfl rfl rfl (by exact rfl)) (by decide) ?_
  refine al_nil ?_
  refine hK19 _ ?_
  obtain ⟨q21, h, hk22⟩ := bnd_some h
  refine aw_cut (fun s => ∃ (vb0_s_0_0 : List UInt8), ∃ (vb0_s_1_0 : Bool), ∃ (v3_s_9_s_0 : List Attr), span_Get_k0 x4 x6 x8 x10 x12 x14 x16 x18 x20 vb0_s_0_0 vb0_s_1_0 v3_s_9_s_0 = some r ∧ s = lit [(0, .ptr 0 0 0), (2, .ptr 2 0 0), (3, .ptr 3 0 0)] [((0, 0), .box [.sl 1 (List.map enc5 vb0_s_0_0), .bool vb0_s_1_0]), ((2, 0), .box [.int .u64 0, .int .u64 0, .int .u64 0, .int .u64 0, .str (strOf []), .str (strOf []), .int .i64 0, .int .i64 0, .bool false, .nil]), ((3, 0), .box [.int .u64 x4.1, .int .u64 x6.1, .int .u64 x8.1, .int .u64 x10.1, .str x12.1, .str x14.1, .int .i64 x16.1, .int .i64 x18.1, .bool x20.1, .own 3 1]), ((3, 1), .arr 53 2 false (List.map enc52 v3_s_9_s_0))] [(0, 1), (2, 1), (3, 2)] X) ?_ ?_
  · skip
    refine aw_seq_k (fun K23 hK23 => ?_)
    refine aw_regL ?_
    refine alP (some 34) rfl rfl (does_move (v := .ptr 0 0 0) (by exact rfl)) (by decide) ?_
    obtain ⟨x24, hx24, h⟩ := bnd_some h
    refine alD (some 35) rfl rfl (do_callG (bcs := [[.sl 1 (List.map enc5 x20.2.B), .bool x20.2.Bad]]) [(0, 0)] [] [] 35 false (ints_Reader_Num_ok x20.2 4 hx24) rfl ent80 ⟨(by exact rfl), trivial⟩ trivial rfl rfl rfl rfl rfl rfl rfl rfl (.inl trivial)) (by decide) ?_
    refine alP (some 36) rfl rfl (does_move (v := .int .i64 0) (by exact rfl)) (by decide) ?_
    refine al_nil ?_
    refine hK23 _ ?_
    refine aw_block ?_
    refine aw_nilOwnC 3 0 9 3 53 2 (cs := [.int .u64 x4.1, .int .u64 x6.1, .int .u64 x8.1, .int .u64 x10.1, .str x12.1, .str x14.1, .int .i64 x16.1, .int .i64 x18.1, .bool x20.1, .nil]) (by conv => lhs; whnf) rfl (by decide) ?_
    refine aw_loop' (fun m s => ∃ (vb0_s_0_1 : List UInt8), ∃ (vb0_s_1_1 : Bool), ∃ (v3_s_9_s_1 : List Attr), ∃ (v36_1 : Int), loopN (fun (s : List UInt8 × Bool × List Attr × Int) => span_Get_l1 x24 s.1 s.2.1 s.2.2.1 s.2.2.2) m (vb0_s_0_1, vb0_s_1_1, v3_s_9_s_1, v36_1) = some q21 ∧ s = lit [(0, .ptr 0 0 0), (2, .ptr 2 0 0), (3, .ptr 3 0 0), (35, .int .i64 x24.1), (36, .int .i64 v36_1)] [((0, 0), .box [.sl 1 (List.map enc5 vb0_s_0_1), .bool vb0_s_1_1]), ((2, 0), .box [.int .u64 0, .int .u64 0, .int .u64 0, .int .u64 0, .str (strOf []), .str (strOf []), .int .i64 0, .int .i64 0, .bool false, .nil]), ((3, 0), .box [.int .u64 x4.1, .int .u64 x6.1, .int .u64 x8.1, .int .u64 x10.1, .str x12.1, .str x14.1, .int .i64 x16.1, .int .i64 x18.1, .bool x20.1, .own 3 1]), ((3, 1), .arr 53 2 false (List.map enc52 v3_s_9_s_1))] [(0, 1), (2, 1), (3, 2)] X) Fu
      ⟨_, reb_lit [(0, .ptr 0 0 0), (2, .ptr 2 0 0), (3, .ptr 3 0 0), (35, .int .i64 x24.1), (36, .int .i64 (0))] [(0, 0), (2, 0), (3, 0), (3, 1)] [((0, 0), .box [.sl 1 (List.map enc5 x24.2.B), .bool x24.2.Bad]), ((2, 0), .box [.int .u64 0, .int .u64 0, .int .u64 0, .int .u64 0, .str (strOf []), .str (strOf []), .int .i64 0, .int .i64 0, .bool false, .nil]), ((3, 0), .box [.int .u64 x4.1, .int .u64 x6.1, .int .u64 x8.1, .int .u64 x10.1, .str x12.1, .str x14.1, .int .i64 x16.1, .int .i64 x18.1, .bool x20.1, .own 3 1]), ((3, 1), .arr 53 2 false (List.map enc52 []))] [(0, 1), (2, 1), (3, 2)] (envOk_cons (by conv => lhs; whnf) (by exact rfl) (envOk_cons (by conv => lhs; whnf) (by exact rfl) (envOk_cons (by conv => lhs; whnf) (by exact rfl) (envOk_cons (by conv => lhs; whnf) (by exact rfl) (envOk_cons (by conv => lhs; whnf) (by exact rfl) envOk_nil))))) (objOk_cons (by conv => lhs; whnf) (by conv => lhs; whnf) (by exact rfl) (by simp) (objOk_cons (by conv => lhs; whnf) (by conv => lhs; whnf) (by exact rfl) (by simp) (objOk_cons (by conv => lhs; whnf) (by conv => lhs; whnf) (by exact rfl) (by simp) (objOk_cons (by conv => lhs; whnf) (by conv => lhs; whnf) (by exact rfl) (by simp) objOk_nil)))) (nodup_b rfl) (nodup_b rfl) rfl rfl, x24.2.B, x24.2.Bad, [], 0, h, rfl⟩ ?_
    rintro m s ⟨vb0_s_0_1, vb0_s_1_1, v3_s_9_s_1, v36_1, h, rfl⟩
    obtain ⟨m1, q25, rfl, h, hq26⟩ := loop_some h
    replace h : span_Get_l1 x24 vb0_s_0_1 vb0_s_1_1 v3_s_9_s_1 v36_1 = some q25 := h
    unfold span_Get_l1 at h
    refine aw_seq_k (fun K27 hK27 => ?_)
    refine aw_regL ?_
    refine alP (some 37) rfl rfl (does_bin (v := .bool (decide (v36_1 < x24.1))) (by conv => lhs; whnf) (by conv => lhs; whnf) rfl) (by decide) ?_
    refine al_nil ?_
    refine hK27 _ ?_
    refine aw_seq_k (fun K28 hK28 => ?_)
    refine aw_bool (b := (decide (v36_1 < x24.1))) 37 rfl (fun c29 => ?_) (fun c29 => ?_)
    · have h := ifT c29 h
      refine aw_cond_t (by decide) rfl ?_
      refine aw_skip ?_
      refine hK28 _ ?_
      refine aw_seq_k (fun K30 hK30 => ?_)
      refine aw_block ?_
      refine aw_seq_k (fun K31 hK31 => ?_)
      refine aw_regL ?_
      refine alP (some 38) rfl rfl (does_move (v := .ptr 0 0 0) (by exact rfl)) (by decide) ?_
      obtain ⟨x32, hx32, h⟩ := bnd_some h
      refine alD (some 39) rfl rfl (do_callG (bcs := [[.sl 1 (List.map enc5 vb0_s_0_1), .bool vb0_s_1_1]]) [(0, 0)] [] [] 39 false (ints_Reader_Text_ok (Reader.mk vb0_s_0_1 vb0_s_1_1) hx32) rfl ent100 ⟨(by exact rfl), trivial⟩ trivial rfl rfl rfl rfl rfl rfl rfl rfl (.inl trivial)) (by decide) ?_
      refine alP (some 4) rfl rfl (does_assign (v := .str x32.1) (by exact rfl)) (by decide) ?_
      refine al_nil ?_
      refine hK31 _ ?_
      refine aw_regd (by kernel_rfl) (by decide +kernel) ?_
      refine aoP (some 40) rfl rfl (does_fieldAddr (q := .ptr 3 0 9) (by conv => lhs; whnf) ty42 rfl ty40 (by decide) (by exact rfl)) (by decide) ?_
      refine aoR (some 41) rfl rfl (does_load (v := .own 3 1) (by conv => lhs; whnf) (by conv => lhs; whnf) ty40 (by exact rfl)) (by decide) ?_
      refine aoP (some 42) rfl rfl (does_move (v := .str x32.1) (by exact rfl)) (by decide) ?_
      refine aoP (some 43) rfl rfl (does_move (v := .ptr 0 0 0) (by exact rfl)) (by decide) ?_
      obtain ⟨x33, hx33, h⟩ := bnd_some h
      refine aoD (some 44) rfl rfl (do_callG (bcs := [[.sl 1 (List.map enc5 x32.2.B), .bool x32.2.Bad]]) [(0, 0)] [] [] 44 false (ints_Reader_Text_ok x32.2 hx33) rfl ent100 ⟨(by exact rfl), trivial⟩ trivial rfl rfl rfl rfl rfl rfl rfl rfl (.inl trivial)) (by decide) ?_
      refine aoP (some 45) rfl rfl (do_build_struct (cs := [.str x32.1, .str x33.1]) ty53 rfl [⟨.str, 1, 16, [.str ByteArray.empty]⟩, ⟨.str, 1, 16, [.str ByteArray.empty]⟩] (by simp only [List.map, ty9]) (by rfl) (by exact rfl)) (by decide) ?_
      refine aoD (some 46) rfl rfl (do_buildSlice (xs := List.map enc52 [(Attr.mk x32.1 x33.1)]) ty40 ty53 rfl rfl rfl rfl rfl rfl rfl rfl) (by decide) ?_
      obtain ⟨g34, h⟩ := gd_some h
      refine aoD (some 47) rfl rfl (do_append (v := List.map enc52 (v3_s_9_s_1 ++ [(Attr.mk x32.1 x33.1)])) (by conv => lhs; whnf) (by conv => lhs; whnf) ty40 ty53 rfl rfl (by conv => lhs; whnf) (by first | exact .inl rfl | exact .inr ⟨rfl, rfl⟩) (by conv => lhs; whnf) (by first | exact .inr rfl | exact .inl rfl) (map_app _ _) (fit_map g34)) (by decide) ?_
      refine aoP (some 48) rfl rfl (does_fieldAddr (q := .ptr 3 0 9) (by conv => lhs; whnf) ty42 rfl ty40 (by decide) (by exact rfl)) (by decide) ?_
      refine aoD none rfl rfl (do_store (cs' := [.int .u64 x4.1, .int .u64 x6.1, .int .u64 x8.1, .int .u64 x10.1, .str x12.1, .str x14.1, .int .i64 x16.1, .int .i64 x18.1, .bool x20.1, .own 47 0]) (by conv => lhs; whnf) (by conv => lhs; whnf) (by conv => lhs; whnf) ty40 rfl rfl rfl (by exact rfl)) (by decide) ?_
      refine ao_nil_d (by kernel_rfl) ?_
      refine hK30 _ ?_
      refine aw_regL ?_
      refine alP (some 49) rfl rfl (does_bin (v := .int .i64 (IntKind.i64.wrap (v36_1 + 1))) (by conv => lhs; whnf) (by conv => lhs; whnf) rfl) (by decide) ?_
      refine alP (some 36) rfl rfl (does_move (v := .int .i64 (IntKind.i64.wrap (v36_1 + 1))) (by exact rfl)) (by decide) ?_
      refine al_nil ?_
      have h := leafL h hq26
      exact ⟨m1, Nat.lt_succ_self _, _, reb_lit [(0, .ptr 0 0 0), (2, .ptr 2 0 0), (3, .ptr 3 0 0), (35, .int .i64 x24.1), (36, .int .i64 (IntKind.i64.wrap (v36_1 + 1)))] [(0, 0), (2, 0), (3, 0), (47, 0)] [((0, 0), .box [.sl 1 (List.map enc5 x33.2.B), .bool x33.2.Bad]), ((2, 0), .box [.int .u64 0, .int .u64 0, .int .u64 0, .int .u64 0, .str (strOf []), .str (strOf []), .int .i64 0, .int .i64 0, .bool false, .nil]), ((3, 0), .box [.int .u64 x4.1, .int .u64 x6.1, .int .u64 x8.1, .int .u64 x10.1, .str x12.1, .str x14.1, .int .i64 x16.1, .int .i64 x18.1, .bool x20.1, .own 3 1]), ((3, 1), .arr 53 2 false (List.map enc52 (v3_s_9_s_1 ++ [(Attr.mk x32.1 x33.1)])))] [(0, 1), (2, 1), (3, 2)] (envOk_cons (by conv => lhs; whnf) (by exact rfl) (envOk_cons (by conv => lhs; whnf) (by exact rfl) (envOk_cons (by conv => lhs; whnf) (by exact rfl) (envOk_cons (by conv => lhs; whnf) (by exact rfl) (envOk_cons (by conv => lhs; whnf) (by exact rfl) envOk_nil))))) (objOk_cons (by conv => lhs; whnf) (by conv => lhs; whnf) (by exact rfl) (by simp) (objOk_cons (by conv => lhs; whnf) (by conv => lhs; whnf) (by exact rfl) (by simp) (objOk_cons (by conv => lhs; whnf) (by conv => lhs; whnf) (by exact rfl) (by simp) (objOk_cons (by conv => lhs; whnf) (by conv => lhs; whnf) (by exact rfl) (by simp) objOk_nil)))) (nodup_b rfl) (nodup_b rfl) rfl rfl, x33.2.B, x33.2.Bad, (v3_s_9_s_1 ++ [(Attr.mk x32.1 x33.1)]), (IntKind.i64.wrap (v36_1 + 1)), h, rfl⟩
    · have h := ifF c29 h
      refine aw_cond_f (by decide) rfl ?_
      refine aw_exit ?_
      have h := leafR h hq26
      obtain rfl := Option.some.inj h
      have h := hk22
      exact ⟨_, reb_lit [(0, .ptr 0 0 0), (2, .ptr 2 0 0), (3, .ptr 3 0 0)] [(0, 0), (2, 0), (3, 0), (3, 1)] [((0, 0), .box [.sl 1 (List.map enc5 vb0_s_0_1), .bool vb0_s_1_1]), ((2, 0), .box [.int .u64 0, .int .u64 0, .int .u64 0, .int .u64 0, .str (strOf []), .str (strOf []), .int .i64 0, .int .i64 0, .bool false, .nil]), ((3, 0), .box [.int .u64 x4.1, .int .u64 x6.1, .int .u64 x8.1, .int .u64 x10.1, .str x12.1, .str x14.1, .int .i64 x16.1, .int .i64 x18.1, .bool x20.1, .own 3 1]), ((3, 1), .arr 53 2 false (List.map enc52 v3_s_9_s_1))] [(0, 1), (2, 1), (3, 2)] (envOk_cons (by conv => lhs; whnf) (by exact rfl) (envOk_cons (by conv => lhs; whnf) (by exact rfl) (envOk_cons (by conv => lhs; whnf) (by exact rfl) envOk_nil))) (objOk_cons (by conv => lhs; whnf) (by conv => lhs; whnf) (by exact rfl) (by simp) (objOk_cons (by conv => lhs; whnf) (by conv => lhs; whnf) (by exact rfl) (by simp) (objOk_cons (by conv => lhs; whnf) (by conv => lhs; whnf) (by exact rfl) (by simp) (objOk_cons (by conv => lhs; whnf) (by conv => lhs; whnf) (by exact rfl) (by simp) objOk_nil)))) (nodup_b rfl) (nodup_b rfl) rfl rfl, vb0_s_0_1, vb0_s_1_1, v3_s_9_s_1, h, rfl⟩
  · rintro s ⟨vb0_s_0_0, vb0_s_1_0, v3_s_9_s_0, h, rfl⟩
    unfold span_Get_k0 at h
    refine aw_seq_k (fun K35 hK35 => ?_)
    refine aw_regL ?_
    refine alP (some 50) rfl rfl (does_move (v := .ptr 0 0 0) (by exact rfl)) (by decide) ?_
    refine alP (some 51) rfl rfl (does_move (v := .ptr 0 0 0) (by exact rfl)) (by decide) ?_
    refine alP (some 52) rfl rfl (does_nilCheck (p := .ptr 0 0 0) (by conv => lhs; whnf) rfl) (by decide) ?_
    refine alP (some 53) rfl rfl (does_fieldAddr (q := .ptr 0 0 1) (by conv => lhs; whnf) ty91 rfl ty4 (by decide) (by exact rfl)) (by decide) ?_
    refine alR (some 54) rfl rfl (does_load (v := .bool vb0_s_1_0) (by conv => lhs; whnf) (by conv => lhs; whnf) ty4 (by exact rfl)) (by decide) ?_
    refine alP (some 55) rfl rfl (does_move (v := .bool vb0_s_1_0) (by exact rfl)) (by decide) ?_
    refine al_bool (c := vb0_s_1_0) 55 rfl (fun c36 => ?_) (fun c36 => ?_)
    · have h := ifT c36 h
      refine alS (some 56) rfl rfl (by decide) ?_
      refine alS (some 57) rfl rfl (by decide) ?_
      refine alS (some 58) rfl rfl (by decide) ?_
      refine alP (some 59) rfl rfl (does_pick (v := .bool true) (by conv => lhs; whnf) (by exact rfl)) (by decide) ?_
      refine alP (some 60) rfl rfl (does_nilCheck (p := .ptr 0 0 0) (by conv => lhs; whnf) rfl) (by decide) ?_
      refine alP (some 61) rfl rfl (does_fieldAddr (q := .ptr 0 0 1) (by conv => lhs; whnf) ty91 rfl ty4 (by decide) (by exact rfl)) (by decide) ?_
      refine alD none rfl rfl (do_store (cs' := [.sl 1 (List.map enc5 vb0_s_0_0), .bool true]) (by conv => lhs; whnf) (by conv => lhs; whnf) (by conv => lhs; whnf) ty4 rfl rfl rfl (by exact rfl)) (by decide) ?_
      refine al_nil ?_
      refine hK35 _ ?_
      refine aw_seq_k (fun K37 hK37 => ?_)
      refine aw_regL ?_
      refine alR (some 62) rfl rfl (does_load (v := .agg [.int .u64 x4.1, .int .u64 x6.1, .int .u64 x8.1, .int .u64 x10.1, .str x12.1, .str x14.1, .int .i64 x16.1, .int .i64 x18.1, .bool x20.1, .own 3 1]) (by conv => lhs; whnf) (by conv => lhs; whnf) ty42 (by exact rfl)) (by decide) ?_
      refine alD none rfl rfl (do_store (cs' := [.int .u64 x4.1, .int .u64 x6.1, .int .u64 x8.1, .int .u64 x10.1, .str x12.1, .str x14.1, .int .i64 x16.1, .int .i64 x18.1, .bool x20.1, .own 3 1]) (by conv => lhs; whnf) (by conv => lhs; whnf) (by conv => lhs; whnf) ty42 rfl rfl rfl (by exact rfl)) (by decide) ?_
      refine al_nil ?_
      refine hK37 _ ?_
      refine aw_ret ?_
      obtain rfl := Option.some.inj h
      exact ret_okB [(3, 1)] (by conv => lhs; whnf) (by conv => lhs; whnf) (by exact rfl) (rowsOk_cons (by conv => lhs; whnf) (by exact rfl) trivial) (boxesOk_cons (by conv => lhs; whnf) (by conv => lhs; whnf) (by exact rfl) trivial) (nodup_b rfl) (.inr rfl) rfl
    · have h := ifF c36 h
      refine alR (some 56) rfl rfl (does_load (v := .agg [.int .u64 x4.1, .int .u64 x6.1, .int .u64 x8.1, .int .u64 x10.1, .str x12.1, .str x14.1, .int .i64 x16.1, .int .i64 x18.1, .bool x20.1, .own 3 1]) (by conv => lhs; whnf) (by conv => lhs; whnf) ty42 (by exact rfl)) (by decide) ?_
      obtain ⟨x38, hx38, h⟩ := bnd_some h
      refine alD (some 57) rfl rfl (do_callG (bcs := []) [] [] [(3, 1)] 57 false (span_Right_ok (Span.mk (Trace.mk x4.1 x6.1) x8.1 x10.1 x12.1 x14.1 x16.1 x18.1 x20.1 v3_s_9_s_0) hx38) rfl ent33 trivial trivial rfl rfl rfl rfl rfl rfl rfl rfl (.inr ⟨rfl, rfl, trivial⟩)) (by decide) ?_
      refine alP (some 58) rfl rfl (does_un (v := .bool (!x38)) (by conv => lhs; whnf) rfl) (by decide) ?_
      refine alP (some 59) rfl rfl (does_pick (v := .bool (!x38)) (by conv => lhs; whnf) (by exact rfl)) (by decide) ?_
      refine alP (some 60) rfl rfl (does_nilCheck (p := .ptr 0 0 0) (by conv => lhs; whnf) rfl) (by decide) ?_
      refine alP (some 61) rfl rfl (does_fieldAddr (q := .ptr 0 0 1) (by conv => lhs; whnf) ty91 rfl ty4 (by decide) (by exact rfl)) (by decide) ?_
      refine alD none rfl rfl (do_store (cs' := [.sl 1 (List.map enc5 vb0_s_0_0), .bool (!x38)]) (by conv => lhs; whnf) (by conv => lhs; whnf) (by conv => lhs; whnf) ty4 rfl rfl rfl (by exact rfl)) (by decide) ?_
      refine al_nil ?_
      refine hK35 _ ?_
      refine aw_seq_k (fun K39 hK39 => ?_)
      refine aw_regL ?_
      refine alR (some 62) rfl rfl (does_load (v := .agg [.int .u64 x4.1, .int .u64 x6.1, .int .u64 x8.1, .int .u64 x10.1, .str x12.1, .str x14.1, .int .i64 x16.1, .int .i64 x18.1, .bool x20.1, .own 3 1]) (by conv => lhs; whnf) (by conv => lhs; whnf) ty42 (by exact rfl)) (by decide) ?_
      refine alD none rfl rfl (do_store (cs' := [.int .u64 x4.1, .int .u64 x6.1, .int .u64 x8.1, .int .u64 x10.1, .str x12.1, .str x14.1, .int .i64 x16.1, .int .i64 x18.1, .bool x20.1, .own 3 1]) (by conv => lhs; whnf) (by conv => lhs; whnf) (by conv => lhs; whnf) ty42 rfl rfl rfl (by exact rfl)) (by decide) ?_
      refine al_nil ?_
      refine hK39 _ ?_
      refine aw_ret ?_
      obtain rfl := Option.some.inj h
      exact ret_okB [(3, 1)] (by conv => lhs; whnf) (by conv => lhs; whnf) (by exact rfl) (rowsOk_cons (by conv => lhs; whnf) (by exact rfl) trivial) (boxesOk_cons (by conv => lhs; whnf) (by conv => lhs; whnf) (by exact rfl) trivial) (nodup_b rfl) (.inr rfl) rfl
def span_Read (a0 : List UInt8) : Option (Span × Int × Int) :=
  Option.bind (span_Get (Reader.mk a0 false)) (fun (x4 : Span × Reader) => if x4.2.Bad = true then (some ((Span.mk (Trace.mk 0 0) 0 0 (strOf []) (strOf []) 0 0 false []), 0, 2)) else (some (x4.1, (IntKind.i64.wrap ((List.length a0 : Int) - (List.length x4.2.B : Int))), 0)))
set_option maxRecDepth 100000 in
set_option maxHeartbeats 8000000 in
/-- gleaning/span.Read -/
theorem span_Read_ok (a0 : List UInt8) {r : Span × Int × Int} (h : span_Read a0 = some r) : Ok Try.prog 30 [.sl 1 (List.map enc5 a0)] [] [] (.tup [.agg [.int .u64 r.1.Trace.Hi, .int .u64 r.1.Trace.Lo, .int .u64 r.1.Id, .int .u64 r.1.Parent, .str r.1.Service, .str r.1.Op, .int .i64 r.1.Start, .int .i64 r.1.Dur, .bool r.1.Err, .sl 2 (List.map enc52 r.1.Attrs)], .int .i64 r.2.1, .int .i64 r.2.2]) [] [] := by
  unfold span_Read at h
  refine ok_of_code Try.func30 rfl (by show (1 : Nat) ≤ _; decide) (Nat.le_refl _) fun X => ?_
  refine aw_seq_k (fun K1 hK1 => ?_)
  refine aw_regL ?_
  refine alD (some 2) rfl rfl (do_new ty42 rfl rfl) (by decide) ?_
  refine alP (some 3) rfl rfl (does_assign (v := .int .i64 0) (by exact rfl)) (by decide) ?_
  refine alP (some 4) rfl rfl (does_assign (v := .int .i64 0) (by exact rfl)) (by decide) ?_
  refine al_nil ?_
  refine hK1 _ ?_
  refine aw_seq_k (fun K2 hK2 => ?_)
  refine aw_regL ?_
  refine alP (some 7) rfl rfl (does_move (v := .sl 1 (List.map enc5 a0)) (by exact rfl)) (by decide) ?_
  refine alP (some 8) rfl rfl (do_build_struct (cs := [.sl 1 (List.map enc5 a0), .bool false]) ty91 rfl [⟨.slice 5, 1, 24, [.nil]⟩, ⟨.bool, 1, 1, [.bool false]⟩] (by simp only [List.map, ty4, ty43]) (by rfl) (by exact rfl)) (by decide) ?_
  refine alD (some 9) rfl rfl (do_box (by conv => lhs; whnf) rfl rfl) (by decide) ?_
  refine alP (some 5) rfl rfl (does_assign (v := .ptr 9 0 0) (by exact rfl)) (by decide) ?_
  refine al_nil ?_
  refine hK2 _ ?_
  refine aw_seq_k (fun K3 hK3 => ?_)
  refine aw_regL ?_
  refine alP (some 10) rfl rfl (does_move (v := .ptr 9 0 0) (by exact rfl)) (by decide) ?_
  obtain ⟨x4, hx4, h⟩ := bnd_some h
  refine alD (some 11) rfl rfl (do_callG (bcs := [[.sl 1 (List.map enc5 a0), .bool false]]) [(9, 0)] [] [] 11 false (span_Get_ok (Reader.mk a0 false) hx4) rfl ent64 ⟨(by exact rfl), trivial⟩ trivial rfl rfl rfl rfl rfl rfl rfl rfl (.inl trivial)) (by decide) ?_
  refine alD (some 6) rfl rfl (do_new ty42 rfl rfl) (by decide) ?_
  refine alD none rfl rfl (do_store (cs' := [.int .u64 x4.1.Trace.Hi, .int .u64 x4.1.Trace.Lo, .int .u64 x4.1.Id, .int .u64 x4.1.Parent, .str x4.1.Service, .str x4.1.Op, .int .i64 x4.1.Start, .int .i64 x4.1.Dur, .bool x4.1.Err, .own 11 0]) (by conv => lhs; whnf) (by conv => lhs; whnf) (by conv => lhs; whnf) ty42 rfl rfl rfl (by exact rfl)) (by decide) ?_
  refine al_nil ?_
  refine hK3 _ ?_
  refine aw_seq_k (fun K5 hK5 => ?_)
  refine aw_seq_k (fun K6 hK6 => ?_)
  refine aw_regL ?_
  refine alP (some 12) rfl rfl (does_move (v := .ptr 9 0 0) (by exact rfl)) (by decide) ?_
  refine alP (some 13) rfl rfl (does_nilCheck (p := .ptr 9 0 0) (by conv => lhs; whnf) rfl) (by decide) ?_
  refine alP (some 14) rfl rfl (does_fieldAddr (q := .ptr 9 0 1) (by conv => lhs; whnf) ty91 rfl ty4 (by decide) (by exact rfl)) (by decide) ?_
  refine alR (some 15) rfl rfl (does_load (v := .bool x4.2.Bad) (by conv => lhs; whnf) (by conv => lhs; whnf) ty4 (by exact rfl)) (by decide) ?_
  refine al_nil ?_
  refine hK6 _ ?_
  refine aw_bool (b := x4.2.Bad) 15 rfl (fun c7 => ?_) (fun c7 => ?_)
  · have h := ifT c7 h
    refine aw_cond_t (by decide) rfl ?_
    refine aw_seq_k (fun K8 hK8 => ?_)
    refine aw_regL ?_
    refine alP (some 16) rfl rfl (do_build_struct (cs := [.int .u64 0, .int .u64 0, .int .u64 0, .int .u64 0, .str (strOf []), .str (strOf []), .int .i64 0, .int .i64 0, .bool false, .nil]) ty42 rfl [⟨.struct [(0, 25), (1, 25)], 2, 16, [.int .u64 0, .int .u64 0]⟩, ⟨.int .u64, 1, 8, [.int .u64 0]⟩, ⟨.int .u64, 1, 8, [.int .u64 0]⟩, ⟨.str, 1, 16, [.str ByteArray.empty]⟩, ⟨.str, 1, 16, [.str ByteArray.empty]⟩, ⟨.int .i64, 1, 8, [.int .i64 0]⟩, ⟨.int .i64, 1, 8, [.int .i64 0]⟩, ⟨.bool, 1, 1, [.bool false]⟩, ⟨.slice 53, 1, 24, [.nil]⟩] (by simp only [List.map, ty25, ty27, ty3, ty4, ty40, ty9]) (by rfl) (by exact rfl)) (by decide) ?_
    refine alD none rfl rfl (do_store (cs' := [.int .u64 0, .int .u64 0, .int .u64 0, .int .u64 0, .str (strOf []), .str (strOf []), .int .i64 0, .int .i64 0, .bool false, .nil]) (by conv => lhs; whnf) (by conv => lhs; whnf) (by conv => lhs; whnf) ty42 rfl rfl rfl (by exact rfl)) (by decide) ?_
    refine alP (some 3) rfl rfl (does_assign (v := .int .i64 0) (by exact rfl)) (by decide) ?_
    refine alP (some 4) rfl rfl (does_assign (v := .int .i64 2) (by exact rfl)) (by decide) ?_
    refine al_nil ?_
    refine hK8 _ ?_
    refine aw_reb (reb_w (tl' := [(2, .ptr 2 0 0), (3, .int .i64 0), (4, .int .i64 2)]) (ol' := [((2, 0), .box [.int .u64 0, .int .u64 0, .int .u64 0, .int .u64 0, .str (strOf []), .str (strOf []), .int .i64 0, .int .i64 0, .bool false, .sl 2 (List.map enc52 [])])]) (reb_lit [(2, .ptr 2 0 0), (3, .int .i64 0), (4, .int .i64 2)] [(2, 0)] [((2, 0), .box [.int .u64 0, .int .u64 0, .int .u64 0, .int .u64 0, .str (strOf []), .str (strOf []), .int .i64 0, .int .i64 0, .bool false, .nil])] [(2, 1)] (envOk_cons (by conv => lhs; whnf) (by exact rfl) (envOk_cons (by conv => lhs; whnf) (by exact rfl) (envOk_cons (by conv => lhs; whnf) (by exact rfl) envOk_nil))) (objOk_cons (by conv => lhs; whnf) (by conv => lhs; whnf) (by exact rfl) (by simp) objOk_nil) (nodup_b rfl) (nodup_b rfl) rfl rfl) ⟨rfl, le_refl _, rfl, le_refl _, rfl, le_refl _, trivial⟩ ⟨rfl, (.box ⟨le_refl _, le_refl _, le_refl _, le_refl _, le_refl _, le_refl _, le_refl _, le_refl _, le_refl _, le_nil _, trivial⟩), trivial⟩) ?_
    refine aw_ret ?_
    obtain rfl := Option.some.inj h
    exact ret_ok1 (by conv => lhs; whnf) (by conv => lhs; whnf) (by exact rfl) (.inr rfl) rfl
  · have h := ifF c7 h
    refine aw_cond_f (by decide) rfl ?_
    refine aw_skip ?_
    refine hK5 _ ?_
    refine aw_seq_k (fun K9 hK9 => ?_)
    refine aw_regd (by kernel_rfl) (by decide +kernel) ?_
    refine aoR (some 17) rfl rfl (does_load (v := .agg [.int .u64 x4.1.Trace.Hi, .int .u64 x4.1.Trace.Lo, .int .u64 x4.1.Id, .int .u64 x4.1.Parent, .str x4.1.Service, .str x4.1.Op, .int .i64 x4.1.Start, .int .i64 x4.1.Dur, .bool x4.1.Err, .own 11 0]) (by conv => lhs; whnf) (by conv => lhs; whnf) ty42 (by exact rfl)) (by decide) ?_
    refine aoP (some 18) rfl rfl (does_move (v := .sl 1 (List.map enc5 a0)) (by exact rfl)) (by decide) ?_
    refine aoP (some 19) rfl rfl ((does_len_sl (by conv => lhs; whnf) ty43).castp (v' := .int .i64 (List.length a0 : Int)) (by exact len_map _)) (by decide) ?_
    refine aoP (some 20) rfl rfl (does_move (v := .ptr 9 0 0) (by exact rfl)) (by decide) ?_
    refine aoP (some 21) rfl rfl (does_nilCheck (p := .ptr 9 0 0) (by conv => lhs; whnf) rfl) (by decide) ?_
    refine aoP (some 22) rfl rfl (does_fieldAddr (q := .ptr 9 0 0) (by conv => lhs; whnf) ty91 rfl ty43 (by decide) (by exact rfl)) (by decide) ?_
    refine aoR (some 23) rfl rfl (does_load (v := .sl 1 (List.map enc5 x4.2.B)) (by conv => lhs; whnf) (by conv => lhs; whnf) ty43 (by exact rfl)) (by decide) ?_
    refine aoP (some 24) rfl rfl ((does_len_sl (by conv => lhs; whnf) ty43).castp (v' := .int .i64 (List.length x4.2.B : Int)) (by exact len_map _)) (by decide) ?_
    refine aoP (some 25) rfl rfl (does_bin (v := .int .i64 (IntKind.i64.wrap ((List.length a0 : Int) - (List.length x4.2.B : Int)))) (by conv => lhs; whnf) (by conv => lhs; whnf) rfl) (by decide) ?_
    refine aoD none rfl rfl (do_store (cs' := [.int .u64 x4.1.Trace.Hi, .int .u64 x4.1.Trace.Lo, .int .u64 x4.1.Id, .int .u64 x4.1.Parent, .str x4.1.Service, .str x4.1.Op, .int .i64 x4.1.Start, .int .i64 x4.1.Dur, .bool x4.1.Err, .own 11 0]) (by conv => lhs; whnf) (by conv => lhs; whnf) (by conv => lhs; whnf) ty42 rfl rfl rfl (by exact rfl)) (by decide) ?_
    refine aoP (some 3) rfl rfl (does_assign (v := .int .i64 (IntKind.i64.wrap ((List.length a0 : Int) - (List.length x4.2.B : Int)))) (by exact rfl)) (by decide) ?_
    refine aoP (some 4) rfl rfl (does_assign (v := .int .i64 0) (by exact rfl)) (by decide) ?_
    refine ao_nil_d (by kernel_rfl) ?_
    refine hK9 _ ?_
    refine aw_ret ?_
    obtain rfl := Option.some.inj h
    exact ret_ok1 (by conv => lhs; whnf) (by conv => lhs; whnf) (by exact rfl) (.inr rfl) rfl
end Go.Proofs.Ytbfmmaabaenhgaa.Ab
