/- Spans as bytes, the program. -/
import Derived.Test.YtdhpmlgalddgfaaXSpan0
import Derived.Test.YtdhpmlgalddgfaaProg
namespace Go.Proofs.Ytdhpmlgalddgfaa.Ab
open Go Go.RowKit
set_option linter.unusedVariables false
set_option linter.unusedSimpArgs false
set_option maxRecDepth 100000
set_option maxHeartbeats 8000000
theorem ent57 : Ent Try.prog 57 := ⟨_, Try.func57, by kernel_rfl, rfl⟩
theorem ent58 : Ent Try.prog 58 := ⟨_, Try.func58, by kernel_rfl, rfl⟩
theorem ent62 : Ent Try.prog 62 := ⟨_, Try.func62, by kernel_rfl, rfl⟩
theorem ent63 : Ent Try.prog 63 := ⟨_, Try.func63, by kernel_rfl, rfl⟩
theorem ent64 : Ent Try.prog 64 := ⟨_, Try.func64, by kernel_rfl, rfl⟩
theorem ent84 : Ent Try.prog 84 := ⟨_, Try.func84, by kernel_rfl, rfl⟩
theorem ent85 : Ent Try.prog 85 := ⟨_, Try.func85, by kernel_rfl, rfl⟩
theorem ent91 : Ent Try.prog 91 := ⟨_, Try.func91, by kernel_rfl, rfl⟩
theorem ent92 : Ent Try.prog 92 := ⟨_, Try.func92, by kernel_rfl, rfl⟩
theorem ent93 : Ent Try.prog 93 := ⟨_, Try.func93, by kernel_rfl, rfl⟩
def span_Name (a0 : ByteArray) : Option Bool :=
 if (decide ((1 : Int) ≤ (ByteArray.size a0 : Int))) = true then (some (decide ((ByteArray.size a0 : Int) ≤ 16))) else (some false)
theorem span_Name_ok (a0 : ByteArray) {r : Bool} (h : span_Name a0 = some r) : Ok Try.prog 84 [.str a0] [] [] (.bool r) [] [] := by
 unfold span_Name at h
 refine ok_of_code Try.func84 rfl (by show (1 : Nat) ≤ _; decide) (Nat.le_refl _) fun X => ?_
 refine sr fun K1 hK1 => ?_
 refine pa 2 (.bool false) ?_
 refine en hK1 ?_
 refine sr fun K2 hK2 => ?_
 refine pm 3 (.str a0) ?_
 refine pP 4 (does_len_str W_ ty9) ?_
 refine pb 5 (.bool (decide ((1 : Int) ≤ (ByteArray.size a0 : Int)))) ?_
 refine pm 6 (.bool (decide ((1 : Int) ≤ (ByteArray.size a0 : Int)))) ?_
 refine al_bool (c := (decide ((1 : Int) ≤ (ByteArray.size a0 : Int)))) 6 rfl (fun c3 => ?_) (fun c3 => ?_)
 ·have h := ifT c3 h
  refine pm 7 (.str a0) ?_
  refine pP 8 (does_len_str W_ ty9) ?_
  refine pb 9 (.bool (decide ((ByteArray.size a0 : Int) ≤ 16))) ?_
  refine pk 10 (.bool (decide ((ByteArray.size a0 : Int) ≤ 16))) ?_
  refine pa 2 (.bool (decide ((ByteArray.size a0 : Int) ≤ 16))) ?_
  refine en hK2 ?_
  refine aw_ret ?_
  obtain rfl := Option.some.inj h
  exact ret_ok1 W_ W_ R_ (.inr rfl) rfl
 ·have h := ifF c3 h
  refine pS 7 ?_
  refine pS 8 ?_
  refine pS 9 ?_
  refine pk 10 (.bool false) ?_
  refine pa 2 (.bool false) ?_
  refine en hK2 ?_
  refine aw_ret ?_
  obtain rfl := Option.some.inj h
  exact ret_ok1 W_ W_ R_ (.inr rfl) rfl
def span_attrs_c1 (a0 : Attr) (a1 : Attr) : Option Bool :=
 some (ByteArray.toList a0.Key == ByteArray.toList a1.Key)
theorem span_attrs_c1_ok (a0 : Attr) (a1 : Attr) {r : Bool} (h : span_attrs_c1 a0 a1 = some r) : Ok Try.prog 92 [.agg [.str a0.Key, .str a0.Value], .rptr [.str a1.Key, .str a1.Value]] [] [] (.bool r) [] [] := by
 unfold span_attrs_c1 at h
 refine ok_of_code Try.func92 rfl (by show (2 : Nat) ≤ _; decide) (Nat.le_refl _) fun X => ?_
 refine sr fun K1 hK1 => ?_
 refine pD 2 (do_box W_ rfl rfl) ?_
 refine pa 3 (.bool false) ?_
 refine en hK1 ?_
 refine sr fun K2 hK2 => ?_
 refine pf 4 (.ptr 2 0 0) ty91 ty9 ?_
 refine pl 5 (.str a0.Key) ty9 ?_
 refine pf 6 (.rptr [.str a1.Key, .str a1.Value]) ty91 ty9 ?_
 refine pl 7 (.str a1.Key) ty9 ?_
 refine pb 8 (.bool (ByteArray.toList a0.Key == ByteArray.toList a1.Key)) ?_
 refine pa 3 (.bool (ByteArray.toList a0.Key == ByteArray.toList a1.Key)) ?_
 refine en hK2 ?_
 refine aw_ret ?_
 obtain rfl := Option.some.inj h
 exact ret_ok1 W_ W_ R_ (.inr rfl) rfl
def slices_IndexFunc_Attr_span_attrs_c1_l0 (a0 : List Attr) (a1_0 : Attr) (v8_0 : Int) : Option (Int ⊕ Int) :=
 if (decide (v8_0 < (List.length a0 : Int))) = true then (gd (0 ≤ v8_0) (Option.bind (a0[(Int.toNat v8_0)]?) (fun (x13 : Attr) => Option.bind (span_attrs_c1 x13 a1_0) (fun (x14 : Bool) => if x14 = true then (some (Sum.inr v8_0)) else (some (Sum.inl (IntKind.i64.wrap (v8_0 + 1)))))))) else (some (Sum.inr (-1)))
def slices_IndexFunc_Attr_span_attrs_c1 (a0 : List Attr) (a1_0 : Attr) : Option Int :=
 loopN (fun (s : Int) => slices_IndexFunc_Attr_span_attrs_c1_l0 a0 a1_0 s) Fu 0
theorem slices_IndexFunc_Attr_span_attrs_c1_ok (a0 : List Attr) (a1_0 : Attr) {r : Int} (h : slices_IndexFunc_Attr_span_attrs_c1 a0 a1_0 = some r) : Ok Try.prog 93 [.sl 2 (List.map enc90 a0), .fn 92 [.rptr [.str a1_0.Key, .str a1_0.Value]]] [] [] (.int .i64 r) [] [] := by
 unfold slices_IndexFunc_Attr_span_attrs_c1 at h
 refine ok_of_code Try.func93 rfl (by show (2 : Nat) ≤ _; decide) (Nat.le_refl _) fun X => ?_
 refine sr fun K1 hK1 => ?_
 refine pa 4 (.int .i64 0) ?_
 refine en hK1 ?_
 refine aw_seq_k (fun K2 hK2 => ?_)
 refine sr fun K3 hK3 => ?_
 refine pm 6 (.sl 2 (List.map enc90 a0)) ?_
 refine pP 7 ((does_len_sl W_ ty67).castp (v' := .int .i64 (List.length a0 : Int)) (by exact len_map _)) ?_
 refine pm 8 (.int .i64 0) ?_
 refine en hK3 ?_
 refine aw_block ?_
 refine aw_loop' (fun m s => ∃ (v8_0 : Int), loopN (fun (s : Int) => slices_IndexFunc_Attr_span_attrs_c1_l0 a0 a1_0 s) m v8_0 = some r ∧ s = lit [(0, .sl 2 (List.map enc90 a0)), (1, .fn 92 [.rptr [.str a1_0.Key, .str a1_0.Value]]), (7, .int .i64 (List.length a0 : Int)), (8, .int .i64 v8_0)] [] [] X) Fu
  ⟨_, reb_lit [(0, .sl 2 (List.map enc90 a0)), (1, .fn 92 [.rptr [.str a1_0.Key, .str a1_0.Value]]), (7, .int .i64 (List.length a0 : Int)), (8, .int .i64 (0))] [] [] [] (ec (ec (ec (ec envOk_nil)))) objOk_nil (nodup_b rfl) (nodup_b rfl) rfl rfl, 0, h, rfl⟩ ?_
 rintro m s ⟨v8_0, h, rfl⟩
 obtain ⟨m0, q4, rfl, h, hq5⟩ := loop_some h
 replace h : slices_IndexFunc_Attr_span_attrs_c1_l0 a0 a1_0 v8_0 = some q4 := h
 unfold slices_IndexFunc_Attr_span_attrs_c1_l0 at h
 refine sr fun K6 hK6 => ?_
 refine pb 9 (.bool (decide (v8_0 < (List.length a0 : Int)))) ?_
 refine en hK6 ?_
 refine aw_seq_k (fun K7 hK7 => ?_)
 refine aw_bool (b := (decide (v8_0 < (List.length a0 : Int)))) 9 rfl (fun c8 => ?_) (fun c8 => ?_)
 ·have h := ifT c8 h
  refine aw_cond_t D_ rfl ?_
  refine aw_skip ?_
  refine hK7 _ ?_
  refine aw_seq_k (fun K9 hK9 => ?_)
  refine aw_block ?_
  refine sr fun K10 hK10 => ?_
  refine pm 10 (.int .i64 v8_0) ?_
  refine pa 5 (.int .i64 v8_0) ?_
  refine en hK10 ?_
  refine sr fun K11 hK11 => ?_
  refine pm 11 (.fn 92 [.rptr [.str a1_0.Key, .str a1_0.Value]]) ?_
  refine pm 12 (.sl 2 (List.map enc90 a0)) ?_
  refine pm 13 (.int .i64 v8_0) ?_
  obtain ⟨g12, h⟩ := gd_some h
  obtain ⟨x13, hx13, h⟩ := bnd_some h
  refine pP 14 (does_indexAddr_sl (el := .agg [.str x13.Key, .str x13.Value]) W_ W_ ty67 ty91 g12 (by exact map_get hx13)) ?_
  refine pl 15 (.agg [.str x13.Key, .str x13.Value]) ty91 ?_
  obtain ⟨x14, hx14, h⟩ := bnd_some h
  refine pD 16 (do_call0 16 false (span_attrs_c1_ok x13 a1_0 hx14) rfl ent92 rfl rfl) ?_
  refine en hK11 ?_
  refine aw_bool (b := x14) 16 rfl (fun c15 => ?_) (fun c15 => ?_)
  ·have h := ifT c15 h
   refine aw_cond_t D_ rfl ?_
   refine sr fun K16 hK16 => ?_
   refine pm 17 (.int .i64 v8_0) ?_
   refine pa 4 (.int .i64 v8_0) ?_
   refine en hK16 ?_
   refine aw_ret ?_
   have h := leafR h hq5
   obtain rfl := Option.some.inj h
   exact ret_ok1 W_ W_ R_ (.inr rfl) rfl
  ·have h := ifF c15 h
   refine aw_cond_f D_ rfl ?_
   refine aw_skip ?_
   refine hK9 _ ?_
   refine aw_regL ?_
   refine pb 18 (.int .i64 (IntKind.i64.wrap (v8_0 + 1))) ?_
   refine pm 8 (.int .i64 (IntKind.i64.wrap (v8_0 + 1))) ?_
   refine al_nil ?_
   have h := leafL h hq5
   exact ⟨m0, Nat.lt_succ_self _, _, reb_lit [(0, .sl 2 (List.map enc90 a0)), (1, .fn 92 [.rptr [.str a1_0.Key, .str a1_0.Value]]), (7, .int .i64 (List.length a0 : Int)), (8, .int .i64 (IntKind.i64.wrap (v8_0 + 1)))] [] [] [] (ec (ec (ec (ec envOk_nil)))) objOk_nil (nodup_b rfl) (nodup_b rfl) rfl rfl, (IntKind.i64.wrap (v8_0 + 1)), h, rfl⟩
 ·have h := ifF c8 h
  refine aw_cond_f D_ rfl ?_
  refine aw_exit ?_
  have h := leafR h hq5
  refine hK2 _ ?_
  refine sr fun K17 hK17 => ?_
  refine pa 4 (.int .i64 (-1)) ?_
  refine en hK17 ?_
  refine aw_ret ?_
  obtain rfl := Option.some.inj h
  exact ret_ok1 W_ W_ R_ (.inr rfl) rfl
def slices_ContainsFunc_Attr_span_attrs_c1 (a0 : List Attr) (a1_0 : Attr) : Option Bool :=
 Option.bind (slices_IndexFunc_Attr_span_attrs_c1 a0 a1_0) (fun (x3 : Int) => some (decide ((0 : Int) ≤ x3)))
theorem slices_ContainsFunc_Attr_span_attrs_c1_ok (a0 : List Attr) (a1_0 : Attr) {r : Bool} (h : slices_ContainsFunc_Attr_span_attrs_c1 a0 a1_0 = some r) : Ok Try.prog 91 [.sl 2 (List.map enc90 a0), .fn 92 [.rptr [.str a1_0.Key, .str a1_0.Value]]] [] [] (.bool r) [] [] := by
 unfold slices_ContainsFunc_Attr_span_attrs_c1 at h
 refine ok_of_code Try.func91 rfl (by show (2 : Nat) ≤ _; decide) (Nat.le_refl _) fun X => ?_
 refine sr fun K1 hK1 => ?_
 refine pa 4 (.bool false) ?_
 refine en hK1 ?_
 refine sr fun K2 hK2 => ?_
 refine pm 5 (.sl 2 (List.map enc90 a0)) ?_
 refine pm 6 (.fn 92 [.rptr [.str a1_0.Key, .str a1_0.Value]]) ?_
 obtain ⟨x3, hx3, h⟩ := bnd_some h
 refine pD 7 (do_call0 7 false (slices_IndexFunc_Attr_span_attrs_c1_ok a0 a1_0 hx3) rfl ent93 rfl rfl) ?_
 refine pb 8 (.bool (decide ((0 : Int) ≤ x3))) ?_
 refine pa 4 (.bool (decide ((0 : Int) ≤ x3))) ?_
 refine en hK2 ?_
 refine aw_ret ?_
 obtain rfl := Option.some.inj h
 exact ret_ok1 W_ W_ R_ (.inr rfl) rfl
def span_attrs_l1 (a0 : List Attr) (v7_1 : Int) : Option (Int ⊕ (Unit ⊕ Bool)) :=
 if (decide (v7_1 < (List.length a0 : Int))) = true then (gd (0 ≤ v7_1) (Option.bind (a0[(Int.toNat v7_1)]?) (fun (x13 : Attr) => Option.bind (span_Name x13.Key) (fun (x15 : Bool) => if (!x15) = true then (some (Sum.inr (Sum.inr false))) else (if (decide ((16 : Int) < (ByteArray.size x13.Value : Int))) = true then (some (Sum.inr (Sum.inr false))) else (gd (0 ≤ v7_1) (gd (v7_1 ≤ (List.length a0 : Int)) (Option.bind (slices_ContainsFunc_Attr_span_attrs_c1 (List.take (Int.toNat v7_1) a0) x13) (fun (x22 : Bool) => if x22 = true then (some (Sum.inr (Sum.inr false))) else (some (Sum.inl (IntKind.i64.wrap (v7_1 + 1))))))))))))) else (some (Sum.inr (Sum.inl ())))
def span_attrs_k0 (a0 : List Attr) : Option Bool :=
 some (decide ((List.length a0 : Int) ≤ 4))
def span_attrs (a0 : List Attr) : Option Bool :=
 Option.bind (loopN (fun (s : Int) => span_attrs_l1 a0 s) Fu 0) (Sum.elim (fun (s : Unit) => span_attrs_k0 a0) some)
theorem span_attrs_ok (a0 : List Attr) {r : Bool} (h : span_attrs a0 = some r) : Ok Try.prog 85 [.sl 2 (List.map enc90 a0)] [] [] (.bool r) [] [] := by
 unfold span_attrs at h
 refine ok_of_code Try.func85 rfl (by show (1 : Nat) ≤ _; decide) (Nat.le_refl _) fun X => ?_
 refine sr fun K1 hK1 => ?_
 refine pa 2 (.bool false) ?_
 refine en hK1 ?_
 obtain ⟨q2, h, hk3⟩ := bnd_some h
 refine aw_cut (fun s => span_attrs_k0 a0 = some r ∧ s = lit [(0, .sl 2 (List.map enc90 a0))] [] [] X) ?_ ?_
 ·skip
  refine sr fun K4 hK4 => ?_
  refine pm 5 (.sl 2 (List.map enc90 a0)) ?_
  refine pP 6 ((does_len_sl W_ ty67).castp (v' := .int .i64 (List.length a0 : Int)) (by exact len_map _)) ?_
  refine pm 7 (.int .i64 0) ?_
  refine en hK4 ?_
  refine aw_block ?_
  refine aw_loop' (fun m s => ∃ (v7_1 : Int), loopN (fun (s : Int) => span_attrs_l1 a0 s) m v7_1 = some q2 ∧ s = lit [(0, .sl 2 (List.map enc90 a0)), (5, .sl 2 (List.map enc90 a0)), (6, .int .i64 (List.length a0 : Int)), (7, .int .i64 v7_1)] [] [] X) Fu
   ⟨_, reb_lit [(0, .sl 2 (List.map enc90 a0)), (5, .sl 2 (List.map enc90 a0)), (6, .int .i64 (List.length a0 : Int)), (7, .int .i64 (0))] [] [] [] (ec (ec (ec (ec envOk_nil)))) objOk_nil (nodup_b rfl) (nodup_b rfl) rfl rfl, 0, h, rfl⟩ ?_
  rintro m s ⟨v7_1, h, rfl⟩
  obtain ⟨m1, q5, rfl, h, hq6⟩ := loop_some h
  replace h : span_attrs_l1 a0 v7_1 = some q5 := h
  unfold span_attrs_l1 at h
  refine sr fun K7 hK7 => ?_
  refine pb 8 (.bool (decide (v7_1 < (List.length a0 : Int)))) ?_
  refine en hK7 ?_
  refine aw_seq_k (fun K8 hK8 => ?_)
  refine aw_bool (b := (decide (v7_1 < (List.length a0 : Int)))) 8 rfl (fun c9 => ?_) (fun c9 => ?_)
  ·have h := ifT c9 h
   refine aw_cond_t D_ rfl ?_
   refine aw_skip ?_
   refine hK8 _ ?_
   refine aw_seq_k (fun K10 hK10 => ?_)
   refine aw_block ?_
   refine sr fun K11 hK11 => ?_
   refine pm 9 (.int .i64 v7_1) ?_
   obtain ⟨g12, h⟩ := gd_some h
   obtain ⟨x13, hx13, h⟩ := bnd_some h
   refine pP 10 (does_indexAddr_sl (el := .agg [.str x13.Key, .str x13.Value]) W_ W_ ty67 ty91 g12 (by exact map_get hx13)) ?_
   refine pl 11 (.agg [.str x13.Key, .str x13.Value]) ty91 ?_
   refine pD 4 (do_new ty91 rfl rfl) ?_
   refine pa 3 (.int .i64 v7_1) ?_
   refine alD none rfl rfl (do_store (cs' := [.str x13.Key, .str x13.Value]) W_ W_ W_ ty91 rfl rfl rfl R_) D_ ?_
   refine en hK11 ?_
   refine sr fun K14 hK14 => ?_
   refine pf 12 (.ptr 4 0 0) ty91 ty9 ?_
   refine pl 13 (.str x13.Key) ty9 ?_
   obtain ⟨x15, hx15, h⟩ := bnd_some h
   refine pD 14 (do_call0 14 false (span_Name_ok x13.Key hx15) rfl ent84 rfl rfl) ?_
   refine pP 15 (does_un (v := .bool (!x15)) W_ rfl) ?_
   refine pm 16 (.bool (!x15)) ?_
   refine al_bool (c := (!x15)) 16 rfl (fun c16 => ?_) (fun c16 => ?_)
   ·have h := ifT c16 h
    refine pS 17 ?_
    refine pS 18 ?_
    refine pS 19 ?_
    refine pS 20 ?_
    refine pk 21 (.bool true) ?_
    refine pm 22 (.bool true) ?_
    refine pS 23 ?_
    refine pS 24 ?_
    refine pS 25 ?_
    refine pS 26 ?_
    refine pS 27 ?_
    refine pk 28 (.bool true) ?_
    refine en hK14 ?_
    refine aw_cond_t D_ rfl ?_
    refine sr fun K17 hK17 => ?_
    refine pa 2 (.bool false) ?_
    refine en hK17 ?_
    refine aw_ret ?_
    have h := leafR h hq6
    have h := leafR h hk3
    obtain rfl := Option.some.inj h
    exact ret_ok1 W_ W_ R_ (.inr rfl) rfl
   ·have h := ifF c16 h
    refine pf 17 (.ptr 4 0 1) ty91 ty9 ?_
    refine pl 18 (.str x13.Value) ty9 ?_
    refine pP 19 (does_len_str W_ ty9) ?_
    refine pb 20 (.bool (decide ((16 : Int) < (ByteArray.size x13.Value : Int)))) ?_
    refine pk 21 (.bool (decide ((16 : Int) < (ByteArray.size x13.Value : Int)))) ?_
    refine pm 22 (.bool (decide ((16 : Int) < (ByteArray.size x13.Value : Int)))) ?_
    refine al_bool (c := (decide ((16 : Int) < (ByteArray.size x13.Value : Int)))) 22 rfl (fun c18 => ?_) (fun c18 => ?_)
    ·have h := ifT c18 h
     refine pS 23 ?_
     refine pS 24 ?_
     refine pS 25 ?_
     refine pS 26 ?_
     refine pS 27 ?_
     refine pk 28 (.bool true) ?_
     refine en hK14 ?_
     refine aw_cond_t D_ rfl ?_
     refine sr fun K19 hK19 => ?_
     refine pa 2 (.bool false) ?_
     refine en hK19 ?_
     refine aw_ret ?_
     have h := leafR h hq6
     have h := leafR h hk3
     obtain rfl := Option.some.inj h
     exact ret_ok1 W_ W_ R_ (.inr rfl) rfl
    ·have h := ifF c18 h
     refine pm 23 (.sl 2 (List.map enc90 a0)) ?_
     refine pm 24 (.int .i64 v7_1) ?_
     obtain ⟨g20, h⟩ := gd_some h
     obtain ⟨g21, h⟩ := gd_some h
     refine pP 25 (does_slice_sl (l := 0) (k := (Int.toNat v7_1)) W_ ty67 ty91 bd_none (bd_some W_ (by exact (nat_of (by omega)))) (by (try simp only [List.length_map]); omega) (by (try simp only [List.length_map]); omega) (by exact part_h _ _)) ?_
     refine pP 26 (does_makeFunc (vs := [.ptr 4 0 0]) rfl) ?_
     obtain ⟨x22, hx22, h⟩ := bnd_some h
     refine pD 27 (do_callG (bcs := []) [] [] [(4, 0)] 27 false (slices_ContainsFunc_Attr_span_attrs_c1_ok (List.take (Int.toNat v7_1) a0) x13 hx22) rfl ent91 trivial trivial rfl rfl rfl rfl rfl rfl rfl rfl (.inr ⟨rfl, rfl, trivial⟩)) ?_
     refine pk 28 (.bool x22) ?_
     refine en hK14 ?_
     refine aw_bool (b := x22) 28 rfl (fun c23 => ?_) (fun c23 => ?_)
     ·have h := ifT c23 h
      refine aw_cond_t D_ rfl ?_
      refine sr fun K24 hK24 => ?_
      refine pa 2 (.bool false) ?_
      refine en hK24 ?_
      refine aw_ret ?_
      have h := leafR h hq6
      have h := leafR h hk3
      obtain rfl := Option.some.inj h
      exact ret_ok1 W_ W_ R_ (.inr rfl) rfl
     ·have h := ifF c23 h
      refine aw_cond_f D_ rfl ?_
      refine aw_skip ?_
      refine hK10 _ ?_
      refine aw_regL ?_
      refine pb 29 (.int .i64 (IntKind.i64.wrap (v7_1 + 1))) ?_
      refine pm 7 (.int .i64 (IntKind.i64.wrap (v7_1 + 1))) ?_
      refine al_nil ?_
      have h := leafL h hq6
      exact ⟨m1, Nat.lt_succ_self _, _, reb_lit [(0, .sl 2 (List.map enc90 a0)), (5, .sl 2 (List.map enc90 a0)), (6, .int .i64 (List.length a0 : Int)), (7, .int .i64 (IntKind.i64.wrap (v7_1 + 1)))] [] [] [] (ec (ec (ec (ec envOk_nil)))) objOk_nil (nodup_b rfl) (nodup_b rfl) rfl rfl, (IntKind.i64.wrap (v7_1 + 1)), h, rfl⟩
  ·have h := ifF c9 h
   refine aw_cond_f D_ rfl ?_
   refine aw_exit ?_
   have h := leafR h hq6
   have h := leafL h hk3
   exact ⟨_, reb_lit [(0, .sl 2 (List.map enc90 a0))] [] [] [] (ec envOk_nil) objOk_nil (nodup_b rfl) (nodup_b rfl) rfl rfl, h, rfl⟩
 ·rintro s ⟨h, rfl⟩
  unfold span_attrs_k0 at h
  refine sr fun K25 hK25 => ?_
  refine pm 30 (.sl 2 (List.map enc90 a0)) ?_
  refine pP 31 ((does_len_sl W_ ty67).castp (v' := .int .i64 (List.length a0 : Int)) (by exact len_map _)) ?_
  refine pb 32 (.bool (decide ((List.length a0 : Int) ≤ 4))) ?_
  refine pa 2 (.bool (decide ((List.length a0 : Int) ≤ 4))) ?_
  refine en hK25 ?_
  refine aw_ret ?_
  obtain rfl := Option.some.inj h
  exact ret_ok1 W_ W_ R_ (.inr rfl) rfl
def span_Right (a0 : Span) : Option Bool :=
 Option.bind (span_Name a0.Service) (fun (x3 : Bool) => if x3 = true then (Option.bind (span_Name a0.Op) (fun (x5 : Bool) => if x5 = true then (if (decide ((0 : Int) ≤ a0.Start)) = true then (if (decide (a0.Start ≤ 1099511627776)) = true then (if (decide ((0 : Int) ≤ a0.Dur)) = true then (if (decide (a0.Dur ≤ 1073741824)) = true then (if (decide ((List.length a0.Attrs : Int) ≤ 4)) = true then (Option.bind (span_attrs a0.Attrs) (fun (x12 : Bool) => some x12)) else (some false)) else (some false)) else (some false)) else (some false)) else (some false)) else (some false))) else (some false))
theorem span_Right_ok (a0 : Span) {r : Bool} (h : span_Right a0 = some r) : Ok Try.prog 64 [.agg [.int .u64 a0.Trace.Hi, .int .u64 a0.Trace.Lo, .int .u64 a0.Id, .int .u64 a0.Parent, .str a0.Service, .str a0.Op, .int .i64 a0.Start, .int .i64 a0.Dur, .bool a0.Err, .sl 2 (List.map enc90 a0.Attrs)]] [] [] (.bool r) [] [] := by
 unfold span_Right at h
 refine ok_of_code Try.func64 rfl (by show (1 : Nat) ≤ _; decide) (Nat.le_refl _) fun X => ?_
 refine sr fun K1 hK1 => ?_
 refine pD 1 (do_box W_ rfl rfl) ?_
 refine pa 2 (.bool false) ?_
 refine en hK1 ?_
 refine sr fun K2 hK2 => ?_
 refine pf 3 (.ptr 1 0 4) ty69 ty9 ?_
 refine pl 4 (.str a0.Service) ty9 ?_
 obtain ⟨x3, hx3, h⟩ := bnd_some h
 refine pD 5 ((do_call0 5 false (span_Name_ok a0.Service hx3) rfl ent84 rfl rfl).fx (y := ⟨[], .bool x3, [], [5]⟩) rfl) ?_
 refine pm 6 (.bool x3) ?_
 refine al_bool (c := x3) 6 rfl (fun c4 => ?_) (fun c4 => ?_)
 ·have h := ifT c4 h
  refine pf 7 (.ptr 1 0 5) ty69 ty9 ?_
  refine pl 8 (.str a0.Op) ty9 ?_
  obtain ⟨x5, hx5, h⟩ := bnd_some h
  refine pD 9 ((do_call0 9 false (span_Name_ok a0.Op hx5) rfl ent84 rfl rfl).fx (y := ⟨[], .bool x5, [], [9]⟩) rfl) ?_
  refine pk 10 (.bool x5) ?_
  refine pm 11 (.bool x5) ?_
  refine al_bool (c := x5) 11 rfl (fun c6 => ?_) (fun c6 => ?_)
  ·have h := ifT c6 h
   refine pf 12 (.ptr 1 0 6) ty69 ty3 ?_
   refine pl 13 (.int .i64 a0.Start) ty3 ?_
   refine pb 14 (.bool (decide ((0 : Int) ≤ a0.Start))) ?_
   refine pk 15 (.bool (decide ((0 : Int) ≤ a0.Start))) ?_
   refine pm 16 (.bool (decide ((0 : Int) ≤ a0.Start))) ?_
   refine al_bool (c := (decide ((0 : Int) ≤ a0.Start))) 16 rfl (fun c7 => ?_) (fun c7 => ?_)
   ·have h := ifT c7 h
    refine pf 17 (.ptr 1 0 6) ty69 ty3 ?_
    refine pl 18 (.int .i64 a0.Start) ty3 ?_
    refine pb 19 (.bool (decide (a0.Start ≤ 1099511627776))) ?_
    refine pk 20 (.bool (decide (a0.Start ≤ 1099511627776))) ?_
    refine pm 21 (.bool (decide (a0.Start ≤ 1099511627776))) ?_
    refine al_bool (c := (decide (a0.Start ≤ 1099511627776))) 21 rfl (fun c8 => ?_) (fun c8 => ?_)
    ·have h := ifT c8 h
     refine pf 22 (.ptr 1 0 7) ty69 ty3 ?_
     refine pl 23 (.int .i64 a0.Dur) ty3 ?_
     refine pb 24 (.bool (decide ((0 : Int) ≤ a0.Dur))) ?_
     refine pk 25 (.bool (decide ((0 : Int) ≤ a0.Dur))) ?_
     refine pm 26 (.bool (decide ((0 : Int) ≤ a0.Dur))) ?_
     refine al_bool (c := (decide ((0 : Int) ≤ a0.Dur))) 26 rfl (fun c9 => ?_) (fun c9 => ?_)
     ·have h := ifT c9 h
      refine pf 27 (.ptr 1 0 7) ty69 ty3 ?_
      refine pl 28 (.int .i64 a0.Dur) ty3 ?_
      refine pb 29 (.bool (decide (a0.Dur ≤ 1073741824))) ?_
      refine pk 30 (.bool (decide (a0.Dur ≤ 1073741824))) ?_
      refine pm 31 (.bool (decide (a0.Dur ≤ 1073741824))) ?_
      refine al_bool (c := (decide (a0.Dur ≤ 1073741824))) 31 rfl (fun c10 => ?_) (fun c10 => ?_)
      ·have h := ifT c10 h
       refine pf 32 (.ptr 1 0 9) ty69 ty67 ?_
       refine pl 33 (.sl 2 (List.map enc90 a0.Attrs)) ty67 ?_
       refine pP 34 ((does_len_sl W_ ty67).castp (v' := .int .i64 (List.length a0.Attrs : Int)) (by exact len_map _)) ?_
       refine pb 35 (.bool (decide ((List.length a0.Attrs : Int) ≤ 4))) ?_
       refine pk 36 (.bool (decide ((List.length a0.Attrs : Int) ≤ 4))) ?_
       refine pm 37 (.bool (decide ((List.length a0.Attrs : Int) ≤ 4))) ?_
       refine al_bool (c := (decide ((List.length a0.Attrs : Int) ≤ 4))) 37 rfl (fun c11 => ?_) (fun c11 => ?_)
       ·have h := ifT c11 h
        refine pf 38 (.ptr 1 0 9) ty69 ty67 ?_
        refine pl 39 (.sl 2 (List.map enc90 a0.Attrs)) ty67 ?_
        obtain ⟨x12, hx12, h⟩ := bnd_some h
        refine pD 40 ((do_call0 40 false (span_attrs_ok a0.Attrs hx12) rfl ent85 rfl rfl).fx (y := ⟨[], .bool x12, [], [40]⟩) rfl) ?_
        refine pk 41 (.bool x12) ?_
        refine pa 2 (.bool x12) ?_
        refine en hK2 ?_
        refine aw_ret ?_
        obtain rfl := Option.some.inj h
        exact ret_ok1 W_ W_ R_ (.inr rfl) rfl
       ·have h := ifF c11 h
        refine pS 38 ?_
        refine pS 39 ?_
        refine pS 40 ?_
        refine pk 41 (.bool false) ?_
        refine pa 2 (.bool false) ?_
        refine en hK2 ?_
        refine aw_ret ?_
        obtain rfl := Option.some.inj h
        exact ret_ok1 W_ W_ R_ (.inr rfl) rfl
      ·have h := ifF c10 h
       refine pS 32 ?_
       refine pS 33 ?_
       refine pS 34 ?_
       refine pS 35 ?_
       refine pk 36 (.bool false) ?_
       refine pm 37 (.bool false) ?_
       refine pS 38 ?_
       refine pS 39 ?_
       refine pS 40 ?_
       refine pk 41 (.bool false) ?_
       refine pa 2 (.bool false) ?_
       refine en hK2 ?_
       refine aw_ret ?_
       obtain rfl := Option.some.inj h
       exact ret_ok1 W_ W_ R_ (.inr rfl) rfl
     ·have h := ifF c9 h
      refine pS 27 ?_
      refine pS 28 ?_
      refine pS 29 ?_
      refine pk 30 (.bool false) ?_
      refine pm 31 (.bool false) ?_
      refine pS 32 ?_
      refine pS 33 ?_
      refine pS 34 ?_
      refine pS 35 ?_
      refine pk 36 (.bool false) ?_
      refine pm 37 (.bool false) ?_
      refine pS 38 ?_
      refine pS 39 ?_
      refine pS 40 ?_
      refine pk 41 (.bool false) ?_
      refine pa 2 (.bool false) ?_
      refine en hK2 ?_
      refine aw_ret ?_
      obtain rfl := Option.some.inj h
      exact ret_ok1 W_ W_ R_ (.inr rfl) rfl
    ·have h := ifF c8 h
     refine pS 22 ?_
     refine pS 23 ?_
     refine pS 24 ?_
     refine pk 25 (.bool false) ?_
     refine pm 26 (.bool false) ?_
     refine pS 27 ?_
     refine pS 28 ?_
     refine pS 29 ?_
     refine pk 30 (.bool false) ?_
     refine pm 31 (.bool false) ?_
     refine pS 32 ?_
     refine pS 33 ?_
     refine pS 34 ?_
     refine pS 35 ?_
     refine pk 36 (.bool false) ?_
     refine pm 37 (.bool false) ?_
     refine pS 38 ?_
     refine pS 39 ?_
     refine pS 40 ?_
     refine pk 41 (.bool false) ?_
     refine pa 2 (.bool false) ?_
     refine en hK2 ?_
     refine aw_ret ?_
     obtain rfl := Option.some.inj h
     exact ret_ok1 W_ W_ R_ (.inr rfl) rfl
   ·have h := ifF c7 h
    refine pS 17 ?_
    refine pS 18 ?_
    refine pS 19 ?_
    refine pk 20 (.bool false) ?_
    refine pm 21 (.bool false) ?_
    refine pS 22 ?_
    refine pS 23 ?_
    refine pS 24 ?_
    refine pk 25 (.bool false) ?_
    refine pm 26 (.bool false) ?_
    refine pS 27 ?_
    refine pS 28 ?_
    refine pS 29 ?_
    refine pk 30 (.bool false) ?_
    refine pm 31 (.bool false) ?_
    refine pS 32 ?_
    refine pS 33 ?_
    refine pS 34 ?_
    refine pS 35 ?_
    refine pk 36 (.bool false) ?_
    refine pm 37 (.bool false) ?_
    refine pS 38 ?_
    refine pS 39 ?_
    refine pS 40 ?_
    refine pk 41 (.bool false) ?_
    refine pa 2 (.bool false) ?_
    refine en hK2 ?_
    refine aw_ret ?_
    obtain rfl := Option.some.inj h
    exact ret_ok1 W_ W_ R_ (.inr rfl) rfl
  ·have h := ifF c6 h
   refine pS 12 ?_
   refine pS 13 ?_
   refine pS 14 ?_
   refine pk 15 (.bool false) ?_
   refine pm 16 (.bool false) ?_
   refine pS 17 ?_
   refine pS 18 ?_
   refine pS 19 ?_
   refine pk 20 (.bool false) ?_
   refine pm 21 (.bool false) ?_
   refine pS 22 ?_
   refine pS 23 ?_
   refine pS 24 ?_
   refine pk 25 (.bool false) ?_
   refine pm 26 (.bool false) ?_
   refine pS 27 ?_
   refine pS 28 ?_
   refine pS 29 ?_
   refine pk 30 (.bool false) ?_
   refine pm 31 (.bool false) ?_
   refine pS 32 ?_
   refine pS 33 ?_
   refine pS 34 ?_
   refine pS 35 ?_
   refine pk 36 (.bool false) ?_
   refine pm 37 (.bool false) ?_
   refine pS 38 ?_
   refine pS 39 ?_
   refine pS 40 ?_
   refine pk 41 (.bool false) ?_
   refine pa 2 (.bool false) ?_
   refine en hK2 ?_
   refine aw_ret ?_
   obtain rfl := Option.some.inj h
   exact ret_ok1 W_ W_ R_ (.inr rfl) rfl
 ·have h := ifF c4 h
  refine pS 7 ?_
  refine pS 8 ?_
  refine pS 9 ?_
  refine pk 10 (.bool false) ?_
  refine pm 11 (.bool false) ?_
  refine pS 12 ?_
  refine pS 13 ?_
  refine pS 14 ?_
  refine pk 15 (.bool false) ?_
  refine pm 16 (.bool false) ?_
  refine pS 17 ?_
  refine pS 18 ?_
  refine pS 19 ?_
  refine pk 20 (.bool false) ?_
  refine pm 21 (.bool false) ?_
  refine pS 22 ?_
  refine pS 23 ?_
  refine pS 24 ?_
  refine pk 25 (.bool false) ?_
  refine pm 26 (.bool false) ?_
  refine pS 27 ?_
  refine pS 28 ?_
  refine pS 29 ?_
  refine pk 30 (.bool false) ?_
  refine pm 31 (.bool false) ?_
  refine pS 32 ?_
  refine pS 33 ?_
  refine pS 34 ?_
  refine pS 35 ?_
  refine pk 36 (.bool false) ?_
  refine pm 37 (.bool false) ?_
  refine pS 38 ?_
  refine pS 39 ?_
  refine pS 40 ?_
  refine pk 41 (.bool false) ?_
  refine pa 2 (.bool false) ?_
  refine en hK2 ?_
  refine aw_ret ?_
  obtain rfl := Option.some.inj h
  exact ret_ok1 W_ W_ R_ (.inr rfl) rfl
def span_Put_l0 (a1 : Span) (vb0_s_0_s_0 : List UInt8) (v46_0 : Int) : Option ((List UInt8 × Int) ⊕ Writer) :=
 if (decide (v46_0 < (List.length a1.Attrs : Int))) = true then (gd (0 ≤ v46_0) (Option.bind (a1.Attrs[(Int.toNat v46_0)]?) (fun (x21 : Attr) => Option.bind (ints_Writer_Text (Writer.mk vb0_s_0_s_0) [x21.Key, x21.Value]) (fun (x22 : Writer) => some (Sum.inl (x22.B, (IntKind.i64.wrap (v46_0 + 1)))))))) else (some (Sum.inr (Writer.mk vb0_s_0_s_0)))
def span_Put (a0 : Writer) (a1 : Span) : Option Writer :=
 Option.bind (ints_Writer_Wide a0 [a1.Trace.Hi, a1.Trace.Lo, a1.Id, a1.Parent]) (fun (x3 : Writer) => Option.bind (ints_Writer_Text x3 [a1.Service, a1.Op]) (fun (x5 : Writer) => Option.bind (ints_Writer_Num x5 [a1.Start, a1.Dur]) (fun (x7 : Writer) => Option.bind (ints_Writer_Flag x7 a1.Err) (fun (x9 : Writer) => Option.bind (ints_Writer_Num x9 [(List.length a1.Attrs : Int)]) (fun (x11 : Writer) => loopN (fun (s : List UInt8 × Int) => span_Put_l0 a1 s.1 s.2) Fu (x11.B, 0))))))
theorem span_Put_ok (a0 : Writer) (a1 : Span) {r : Writer} (h : span_Put a0 a1 = some r) : Ok Try.prog 35 [.ptr 0 0 0, .agg [.int .u64 a1.Trace.Hi, .int .u64 a1.Trace.Lo, .int .u64 a1.Id, .int .u64 a1.Parent, .str a1.Service, .str a1.Op, .int .i64 a1.Start, .int .i64 a1.Dur, .bool a1.Err, .sl 2 (List.map enc90 a1.Attrs)]] [[.own 1 0]] [(5, 1, List.map enc5 a0.B)] (.tup []) [[.own 2 0]] [(5, 1, List.map enc5 r.B)] := by
 unfold span_Put at h
 refine ok_of_code Try.func35 rfl (by show (2 : Nat) ≤ _; decide) (Nat.le_refl _) fun X => ?_
 refine sr fun K1 hK1 => ?_
 refine pD 3 (do_box W_ rfl rfl) ?_
 refine en hK1 ?_
 refine sr fun K2 hK2 => ?_
 refine pm 6 (.ptr 0 0 0) ?_
 refine pf 7 (.ptr 3 0 0) ty69 ty66 ?_
 refine pf 8 (.ptr 3 0 0) ty66 ty46 ?_
 refine pl 9 (.int .u64 a1.Trace.Hi) ty46 ?_
 refine pf 10 (.ptr 3 0 0) ty69 ty66 ?_
 refine pf 11 (.ptr 3 0 1) ty66 ty46 ?_
 refine pl 12 (.int .u64 a1.Trace.Lo) ty46 ?_
 refine pf 13 (.ptr 3 0 2) ty69 ty46 ?_
 refine pl 14 (.int .u64 a1.Id) ty46 ?_
 refine pf 15 (.ptr 3 0 3) ty69 ty46 ?_
 refine pl 16 (.int .u64 a1.Parent) ty46 ?_
 refine pD 17 (do_buildSlice (xs := List.map enc12 [a1.Trace.Hi, a1.Trace.Lo, a1.Id, a1.Parent]) ty115 ty46 rfl rfl rfl rfl rfl rfl rfl rfl) ?_
 obtain ⟨x3, hx3, h⟩ := bnd_some h
 refine pD 18 (does_frz (d := 17) (n := 0) W_ (do_callG (bcs := [[.own 1 0]]) [(0, 0)] [(1, 0)] [(17, 0)] 18 false (ints_Writer_Wide_ok a0 [a1.Trace.Hi, a1.Trace.Lo, a1.Id, a1.Parent] hx3) rfl ent56 ⟨R_, trivial⟩ (rowsOk_cons W_ R_ trivial) rfl rfl rfl rfl rfl rfl rfl rfl (.inl ⟨⟨_, _, _, rfl⟩, trivial⟩))) ?_
 refine en hK2 ?_
 refine sr fun K4 hK4 => ?_
 refine pm 19 (.ptr 0 0 0) ?_
 refine pf 20 (.ptr 3 0 4) ty69 ty9 ?_
 refine pl 21 (.str a1.Service) ty9 ?_
 refine pf 22 (.ptr 3 0 5) ty69 ty9 ?_
 refine pl 23 (.str a1.Op) ty9 ?_
 refine pD 24 (do_buildSlice (xs := List.map enc9 [a1.Service, a1.Op]) ty116 ty9 rfl rfl rfl rfl rfl rfl rfl rfl) ?_
 obtain ⟨x5, hx5, h⟩ := bnd_some h
 refine pD 25 (does_frz (d := 24) (n := 0) W_ (do_callG (bcs := [[.own 18 0]]) [(0, 0)] [(18, 0)] [(24, 0)] 25 false (ints_Writer_Text_ok x3 [a1.Service, a1.Op] hx5) rfl ent57 ⟨R_, trivial⟩ (rowsOk_cons W_ R_ trivial) rfl rfl rfl rfl rfl rfl rfl rfl (.inl ⟨⟨_, _, _, rfl⟩, trivial⟩))) ?_
 refine en hK4 ?_
 refine sr fun K6 hK6 => ?_
 refine pm 26 (.ptr 0 0 0) ?_
 refine pf 27 (.ptr 3 0 6) ty69 ty3 ?_
 refine pl 28 (.int .i64 a1.Start) ty3 ?_
 refine pf 29 (.ptr 3 0 7) ty69 ty3 ?_
 refine pl 30 (.int .i64 a1.Dur) ty3 ?_
 refine pD 31 (do_buildSlice (xs := List.map enc2 [a1.Start, a1.Dur]) ty92 ty3 rfl rfl rfl rfl rfl rfl rfl rfl) ?_
 obtain ⟨x7, hx7, h⟩ := bnd_some h
 refine pD 32 (does_frz (d := 31) (n := 0) W_ (do_callG (bcs := [[.own 25 0]]) [(0, 0)] [(25, 0)] [(31, 0)] 32 false (ints_Writer_Num_ok x5 [a1.Start, a1.Dur] hx7) rfl ent34 ⟨R_, trivial⟩ (rowsOk_cons W_ R_ trivial) rfl rfl rfl rfl rfl rfl rfl rfl (.inl ⟨⟨_, _, _, rfl⟩, trivial⟩))) ?_
 refine en hK6 ?_
 refine sr fun K8 hK8 => ?_
 refine pm 33 (.ptr 0 0 0) ?_
 refine pf 34 (.ptr 3 0 8) ty69 ty4 ?_
 refine pl 35 (.bool a1.Err) ty4 ?_
 obtain ⟨x9, hx9, h⟩ := bnd_some h
 refine pD 36 (do_callG (bcs := [[.own 32 0]]) [(0, 0)] [(32, 0)] [] 36 false (ints_Writer_Flag_ok x7 a1.Err hx9) rfl ent58 ⟨R_, trivial⟩ (rowsOk_cons W_ R_ trivial) rfl rfl rfl rfl rfl rfl rfl rfl (.inl trivial)) ?_
 refine en hK8 ?_
 refine sr fun K10 hK10 => ?_
 refine pm 37 (.ptr 0 0 0) ?_
 refine pf 38 (.ptr 3 0 9) ty69 ty67 ?_
 refine pl 39 (.sl 2 (List.map enc90 a1.Attrs)) ty67 ?_
 refine pP 40 ((does_len_sl W_ ty67).castp (v' := .int .i64 (List.length a1.Attrs : Int)) (by exact len_map _)) ?_
 refine pD 41 (do_buildSlice (xs := List.map enc2 [(List.length a1.Attrs : Int)]) ty92 ty3 rfl rfl rfl rfl rfl rfl rfl rfl) ?_
 obtain ⟨x11, hx11, h⟩ := bnd_some h
 refine pD 42 (does_frz (d := 41) (n := 0) W_ (do_callG (bcs := [[.own 36 0]]) [(0, 0)] [(36, 0)] [(41, 0)] 42 false (ints_Writer_Num_ok x9 [(List.length a1.Attrs : Int)] hx11) rfl ent34 ⟨R_, trivial⟩ (rowsOk_cons W_ R_ trivial) rfl rfl rfl rfl rfl rfl rfl rfl (.inl ⟨⟨_, _, _, rfl⟩, trivial⟩))) ?_
 refine en hK10 ?_
 refine sr fun K12 hK12 => ?_
 refine pf 43 (.ptr 3 0 9) ty69 ty67 ?_
 refine pl 44 (.sl 2 (List.map enc90 a1.Attrs)) ty67 ?_
 refine pP 45 ((does_len_sl W_ ty67).castp (v' := .int .i64 (List.length a1.Attrs : Int)) (by exact len_map _)) ?_
 refine pm 46 (.int .i64 0) ?_
 refine en hK12 ?_
 refine aw_block ?_
 refine aw_loop' (fun m s => ∃ (vb0_s_0_s_0 : List UInt8), ∃ (v46_0 : Int), loopN (fun (s : List UInt8 × Int) => span_Put_l0 a1 s.1 s.2) m (vb0_s_0_s_0, v46_0) = some r ∧ s = lit [(0, .ptr 0 0 0), (44, .sl 2 (List.map enc90 a1.Attrs)), (45, .int .i64 (List.length a1.Attrs : Int)), (46, .int .i64 v46_0)] [((0, 0), .box [.own 42 0]), ((42, 0), .arr 5 1 false (List.map enc5 vb0_s_0_s_0))] [(0, 1), (42, 1)] X) Fu
  ⟨_, reb_lit [(0, .ptr 0 0 0), (44, .sl 2 (List.map enc90 a1.Attrs)), (45, .int .i64 (List.length a1.Attrs : Int)), (46, .int .i64 (0))] [(0, 0), (42, 0)] [((0, 0), .box [.own 42 0]), ((42, 0), .arr 5 1 false (List.map enc5 x11.B))] [(0, 1), (42, 1)] (ec (ec (ec (ec envOk_nil)))) (objOk_cons W_ W_ R_ (by simp) (objOk_cons W_ W_ R_ (by simp) objOk_nil)) (nodup_b rfl) (nodup_b rfl) rfl rfl, x11.B, 0, h, rfl⟩ ?_
 rintro m s ⟨vb0_s_0_s_0, v46_0, h, rfl⟩
 obtain ⟨m0, q13, rfl, h, hq14⟩ := loop_some h
 replace h : span_Put_l0 a1 vb0_s_0_s_0 v46_0 = some q13 := h
 unfold span_Put_l0 at h
 refine sr fun K15 hK15 => ?_
 refine pb 47 (.bool (decide (v46_0 < (List.length a1.Attrs : Int)))) ?_
 refine en hK15 ?_
 refine aw_seq_k (fun K16 hK16 => ?_)
 refine aw_bool (b := (decide (v46_0 < (List.length a1.Attrs : Int)))) 47 rfl (fun c17 => ?_) (fun c17 => ?_)
 ·have h := ifT c17 h
  refine aw_cond_t D_ rfl ?_
  refine aw_skip ?_
  refine hK16 _ ?_
  refine aw_seq_k (fun K18 hK18 => ?_)
  refine aw_block ?_
  refine sr fun K19 hK19 => ?_
  obtain ⟨g20, h⟩ := gd_some h
  obtain ⟨x21, hx21, h⟩ := bnd_some h
  refine pP 48 (does_indexAddr_sl (el := .agg [.str x21.Key, .str x21.Value]) W_ W_ ty67 ty91 g20 (by exact map_get hx21)) ?_
  refine pl 49 (.agg [.str x21.Key, .str x21.Value]) ty91 ?_
  refine pD 5 (do_new ty91 rfl rfl) ?_
  refine alD none rfl rfl (do_store (cs' := [.str x21.Key, .str x21.Value]) W_ W_ W_ ty91 rfl rfl rfl R_) D_ ?_
  refine en hK19 ?_
  refine aw_regL ?_
  refine pm 50 (.ptr 0 0 0) ?_
  refine pf 51 (.ptr 5 0 0) ty91 ty9 ?_
  refine pl 52 (.str x21.Key) ty9 ?_
  refine pf 53 (.ptr 5 0 1) ty91 ty9 ?_
  refine pl 54 (.str x21.Value) ty9 ?_
  refine pD 55 (do_buildSlice (xs := List.map enc9 [x21.Key, x21.Value]) ty116 ty9 rfl rfl rfl rfl rfl rfl rfl rfl) ?_
  obtain ⟨x22, hx22, h⟩ := bnd_some h
  refine pD 56 (does_frz (d := 55) (n := 0) W_ (do_callG (bcs := [[.own 42 0]]) [(0, 0)] [(42, 0)] [(55, 0)] 56 false (ints_Writer_Text_ok (Writer.mk vb0_s_0_s_0) [x21.Key, x21.Value] hx22) rfl ent57 ⟨R_, trivial⟩ (rowsOk_cons W_ R_ trivial) rfl rfl rfl rfl rfl rfl rfl rfl (.inl ⟨⟨_, _, _, rfl⟩, trivial⟩))) ?_
  refine en hK18 ?_
  refine aw_regL ?_
  refine pb 57 (.int .i64 (IntKind.i64.wrap (v46_0 + 1))) ?_
  refine pm 46 (.int .i64 (IntKind.i64.wrap (v46_0 + 1))) ?_
  refine al_nil ?_
  have h := leafL h hq14
  exact ⟨m0, Nat.lt_succ_self _, _, reb_lit [(0, .ptr 0 0 0), (44, .sl 2 (List.map enc90 a1.Attrs)), (45, .int .i64 (List.length a1.Attrs : Int)), (46, .int .i64 (IntKind.i64.wrap (v46_0 + 1)))] [(0, 0), (56, 0)] [((0, 0), .box [.own 42 0]), ((42, 0), .arr 5 1 false (List.map enc5 x22.B))] [(0, 1), (42, 1)] (ec (ec (ec (ec envOk_nil)))) (objOk_cons W_ W_ R_ (by simp) (objOk_cons W_ W_ R_ (by simp) objOk_nil)) (nodup_b rfl) (nodup_b rfl) rfl rfl, x22.B, (IntKind.i64.wrap (v46_0 + 1)), h, rfl⟩
 ·have h := ifF c17 h
  refine aw_cond_f D_ rfl ?_
  refine aw_exit ?_
  have h := leafR h hq14
  obtain rfl := Option.some.inj h
  exact ret_okB [(42, 0)] W_ W_ R_ (rowsOk_cons W_ R_ trivial) (boxesOk_cons W_ W_ R_ trivial) (nodup_b rfl) (.inl rfl) rfl
def span_Get_l1 (x24 : Int × Reader) (vb0_s_0_1 : List UInt8) (vb0_s_1_1 : Bool) (v3_s_9_s_1 : List Attr) (v36_1 : Int) : Option ((List UInt8 × Bool × List Attr × Int) ⊕ (List UInt8 × Bool × List Attr)) :=
 if (decide (v36_1 < x24.1)) = true then (Option.bind (ints_Reader_Text (Reader.mk vb0_s_0_1 vb0_s_1_1)) (fun (x32 : ByteArray × Reader) => Option.bind (ints_Reader_Text x32.2) (fun (x33 : ByteArray × Reader) => gd ((List.length (v3_s_9_s_1 ++ [(Attr.mk x32.1 x33.1)])) * 32 ≤ 140737488355328 ∧ (List.length (v3_s_9_s_1 ++ [(Attr.mk x32.1 x33.1)])) ≤ 140737488355328) (some (Sum.inl (x33.2.B, x33.2.Bad, (v3_s_9_s_1 ++ [(Attr.mk x32.1 x33.1)]), (IntKind.i64.wrap (v36_1 + 1)))))))) else (some (Sum.inr (vb0_s_0_1, vb0_s_1_1, v3_s_9_s_1)))
def span_Get_k0 (x4 : Int × Reader) (x6 : Int × Reader) (x8 : Int × Reader) (x10 : Int × Reader) (x12 : ByteArray × Reader) (x14 : ByteArray × Reader) (x16 : Int × Reader) (x18 : Int × Reader) (x20 : Bool × Reader) (vb0_s_0_0 : List UInt8) (vb0_s_1_0 : Bool) (v3_s_9_s_0 : List Attr) : Option (Span × Reader) :=
 if vb0_s_1_0 = true then (some ((Span.mk (Trace.mk x4.1 x6.1) x8.1 x10.1 x12.1 x14.1 x16.1 x18.1 x20.1 v3_s_9_s_0), (Reader.mk vb0_s_0_0 true))) else (Option.bind (span_Right (Span.mk (Trace.mk x4.1 x6.1) x8.1 x10.1 x12.1 x14.1 x16.1 x18.1 x20.1 v3_s_9_s_0)) (fun (x38 : Bool) => some ((Span.mk (Trace.mk x4.1 x6.1) x8.1 x10.1 x12.1 x14.1 x16.1 x18.1 x20.1 v3_s_9_s_0), (Reader.mk vb0_s_0_0 (!x38)))))
def span_Get (a0 : Reader) : Option (Span × Reader) :=
 Option.bind (ints_Reader_Wide a0) (fun (x4 : Int × Reader) => Option.bind (ints_Reader_Wide x4.2) (fun (x6 : Int × Reader) => Option.bind (ints_Reader_Wide x6.2) (fun (x8 : Int × Reader) => Option.bind (ints_Reader_Wide x8.2) (fun (x10 : Int × Reader) => Option.bind (ints_Reader_Text x10.2) (fun (x12 : ByteArray × Reader) => Option.bind (ints_Reader_Text x12.2) (fun (x14 : ByteArray × Reader) => Option.bind (ints_Reader_Num x14.2 1099511627776) (fun (x16 : Int × Reader) => Option.bind (ints_Reader_Num x16.2 1073741824) (fun (x18 : Int × Reader) => Option.bind (ints_Reader_Flag x18.2) (fun (x20 : Bool × Reader) => Option.bind (Option.bind (ints_Reader_Num x20.2 4) (fun (x24 : Int × Reader) => loopN (fun (s : List UInt8 × Bool × List Attr × Int) => span_Get_l1 x24 s.1 s.2.1 s.2.2.1 s.2.2.2) Fu (x24.2.B, x24.2.Bad, [], 0))) (fun (s : List UInt8 × Bool × List Attr) => span_Get_k0 x4 x6 x8 x10 x12 x14 x16 x18 x20 s.1 s.2.1 s.2.2))))))))))
theorem span_Get_ok (a0 : Reader) {r : Span × Reader} (h : span_Get a0 = some r) : Ok Try.prog 39 [.ptr 0 0 0] [[.sl 1 (List.map enc5 a0.B), .bool a0.Bad]] [] (.agg [.int .u64 r.1.Trace.Hi, .int .u64 r.1.Trace.Lo, .int .u64 r.1.Id, .int .u64 r.1.Parent, .str r.1.Service, .str r.1.Op, .int .i64 r.1.Start, .int .i64 r.1.Dur, .bool r.1.Err, .own 2 0]) [[.sl 1 (List.map enc5 r.2.B), .bool r.2.Bad]] [(91, 2, List.map enc90 r.1.Attrs)] := by
 unfold span_Get at h
 refine ok_of_code Try.func39 rfl (by show (1 : Nat) ≤ _; decide) (Nat.le_refl _) fun X => ?_
 refine sr fun K1 hK1 => ?_
 refine pD 2 (do_new ty69 rfl rfl) ?_
 refine en hK1 ?_
 refine sr fun K2 hK2 => ?_
 refine pD 3 (do_new ty69 rfl rfl) ?_
 refine en hK2 ?_
 refine sr fun K3 hK3 => ?_
 refine pm 5 (.ptr 0 0 0) ?_
 obtain ⟨x4, hx4, h⟩ := bnd_some h
 refine pD 6 (do_callG (bcs := [[.sl 1 (List.map enc5 a0.B), .bool a0.Bad]]) [(0, 0)] [] [] 6 false (ints_Reader_Wide_ok a0 hx4) rfl ent41 ⟨R_, trivial⟩ trivial rfl rfl rfl rfl rfl rfl rfl rfl (.inl trivial)) ?_
 refine pf 7 (.ptr 3 0 0) ty69 ty66 ?_
 refine pf 8 (.ptr 3 0 0) ty66 ty46 ?_
 refine alD none rfl rfl (do_store (cs' := [.int .u64 x4.1, .int .u64 0, .int .u64 0, .int .u64 0, .str (strOf []), .str (strOf []), .int .i64 0, .int .i64 0, .bool false, .nil]) W_ W_ W_ ty46 rfl rfl rfl R_) D_ ?_
 refine en hK3 ?_
 refine sr fun K5 hK5 => ?_
 refine pm 9 (.ptr 0 0 0) ?_
 obtain ⟨x6, hx6, h⟩ := bnd_some h
 refine pD 10 (do_callG (bcs := [[.sl 1 (List.map enc5 x4.2.B), .bool x4.2.Bad]]) [(0, 0)] [] [] 10 false (ints_Reader_Wide_ok x4.2 hx6) rfl ent41 ⟨R_, trivial⟩ trivial rfl rfl rfl rfl rfl rfl rfl rfl (.inl trivial)) ?_
 refine pf 11 (.ptr 3 0 0) ty69 ty66 ?_
 refine pf 12 (.ptr 3 0 1) ty66 ty46 ?_
 refine alD none rfl rfl (do_store (cs' := [.int .u64 x4.1, .int .u64 x6.1, .int .u64 0, .int .u64 0, .str (strOf []), .str (strOf []), .int .i64 0, .int .i64 0, .bool false, .nil]) W_ W_ W_ ty46 rfl rfl rfl R_) D_ ?_
 refine en hK5 ?_
 refine sr fun K7 hK7 => ?_
 refine pm 13 (.ptr 0 0 0) ?_
 obtain ⟨x8, hx8, h⟩ := bnd_some h
 refine pD 14 (do_callG (bcs := [[.sl 1 (List.map enc5 x6.2.B), .bool x6.2.Bad]]) [(0, 0)] [] [] 14 false (ints_Reader_Wide_ok x6.2 hx8) rfl ent41 ⟨R_, trivial⟩ trivial rfl rfl rfl rfl rfl rfl rfl rfl (.inl trivial)) ?_
 refine pf 15 (.ptr 3 0 2) ty69 ty46 ?_
 refine alD none rfl rfl (do_store (cs' := [.int .u64 x4.1, .int .u64 x6.1, .int .u64 x8.1, .int .u64 0, .str (strOf []), .str (strOf []), .int .i64 0, .int .i64 0, .bool false, .nil]) W_ W_ W_ ty46 rfl rfl rfl R_) D_ ?_
 refine en hK7 ?_
 refine sr fun K9 hK9 => ?_
 refine pm 16 (.ptr 0 0 0) ?_
 obtain ⟨x10, hx10, h⟩ := bnd_some h
 refine pD 17 (do_callG (bcs := [[.sl 1 (List.map enc5 x8.2.B), .bool x8.2.Bad]]) [(0, 0)] [] [] 17 false (ints_Reader_Wide_ok x8.2 hx10) rfl ent41 ⟨R_, trivial⟩ trivial rfl rfl rfl rfl rfl rfl rfl rfl (.inl trivial)) ?_
 refine pf 18 (.ptr 3 0 3) ty69 ty46 ?_
 refine alD none rfl rfl (do_store (cs' := [.int .u64 x4.1, .int .u64 x6.1, .int .u64 x8.1, .int .u64 x10.1, .str (strOf []), .str (strOf []), .int .i64 0, .int .i64 0, .bool false, .nil]) W_ W_ W_ ty46 rfl rfl rfl R_) D_ ?_
 refine en hK9 ?_
 refine sr fun K11 hK11 => ?_
 refine pm 19 (.ptr 0 0 0) ?_
 obtain ⟨x12, hx12, h⟩ := bnd_some h
 refine pD 20 (do_callG (bcs := [[.sl 1 (List.map enc5 x10.2.B), .bool x10.2.Bad]]) [(0, 0)] [] [] 20 false (ints_Reader_Text_ok x10.2 hx12) rfl ent62 ⟨R_, trivial⟩ trivial rfl rfl rfl rfl rfl rfl rfl rfl (.inl trivial)) ?_
 refine pf 21 (.ptr 3 0 4) ty69 ty9 ?_
 refine alD none rfl rfl (do_store (cs' := [.int .u64 x4.1, .int .u64 x6.1, .int .u64 x8.1, .int .u64 x10.1, .str x12.1, .str (strOf []), .int .i64 0, .int .i64 0, .bool false, .nil]) W_ W_ W_ ty9 rfl rfl rfl R_) D_ ?_
 refine en hK11 ?_
 refine sr fun K13 hK13 => ?_
 refine pm 22 (.ptr 0 0 0) ?_
 obtain ⟨x14, hx14, h⟩ := bnd_some h
 refine pD 23 (do_callG (bcs := [[.sl 1 (List.map enc5 x12.2.B), .bool x12.2.Bad]]) [(0, 0)] [] [] 23 false (ints_Reader_Text_ok x12.2 hx14) rfl ent62 ⟨R_, trivial⟩ trivial rfl rfl rfl rfl rfl rfl rfl rfl (.inl trivial)) ?_
 refine pf 24 (.ptr 3 0 5) ty69 ty9 ?_
 refine alD none rfl rfl (do_store (cs' := [.int .u64 x4.1, .int .u64 x6.1, .int .u64 x8.1, .int .u64 x10.1, .str x12.1, .str x14.1, .int .i64 0, .int .i64 0, .bool false, .nil]) W_ W_ W_ ty9 rfl rfl rfl R_) D_ ?_
 refine en hK13 ?_
 refine sr fun K15 hK15 => ?_
 refine pm 25 (.ptr 0 0 0) ?_
 obtain ⟨x16, hx16, h⟩ := bnd_some h
 refine pD 26 (do_callG (bcs := [[.sl 1 (List.map enc5 x14.2.B), .bool x14.2.Bad]]) [(0, 0)] [] [] 26 false (ints_Reader_Num_ok x14.2 1099511627776 hx16) rfl ent20 ⟨R_, trivial⟩ trivial rfl rfl rfl rfl rfl rfl rfl rfl (.inl trivial)) ?_
 refine pf 27 (.ptr 3 0 6) ty69 ty3 ?_
 refine alD none rfl rfl (do_store (cs' := [.int .u64 x4.1, .int .u64 x6.1, .int .u64 x8.1, .int .u64 x10.1, .str x12.1, .str x14.1, .int .i64 x16.1, .int .i64 0, .bool false, .nil]) W_ W_ W_ ty3 rfl rfl rfl R_) D_ ?_
 refine en hK15 ?_
 refine sr fun K17 hK17 => ?_
 refine pm 28 (.ptr 0 0 0) ?_
 obtain ⟨x18, hx18, h⟩ := bnd_some h
 refine pD 29 (do_callG (bcs := [[.sl 1 (List.map enc5 x16.2.B), .bool x16.2.Bad]]) [(0, 0)] [] [] 29 false (ints_Reader_Num_ok x16.2 1073741824 hx18) rfl ent20 ⟨R_, trivial⟩ trivial rfl rfl rfl rfl rfl rfl rfl rfl (.inl trivial)) ?_
 refine pf 30 (.ptr 3 0 7) ty69 ty3 ?_
 refine alD none rfl rfl (do_store (cs' := [.int .u64 x4.1, .int .u64 x6.1, .int .u64 x8.1, .int .u64 x10.1, .str x12.1, .str x14.1, .int .i64 x16.1, .int .i64 x18.1, .bool false, .nil]) W_ W_ W_ ty3 rfl rfl rfl R_) D_ ?_
 refine en hK17 ?_
 refine sr fun K19 hK19 => ?_
 refine pm 31 (.ptr 0 0 0) ?_
 obtain ⟨x20, hx20, h⟩ := bnd_some h
 refine pD 32 (do_callG (bcs := [[.sl 1 (List.map enc5 x18.2.B), .bool x18.2.Bad]]) [(0, 0)] [] [] 32 false (ints_Reader_Flag_ok x18.2 hx20) rfl ent63 ⟨R_, trivial⟩ trivial rfl rfl rfl rfl rfl rfl rfl rfl (.inl trivial)) ?_
 refine pf 33 (.ptr 3 0 8) ty69 ty4 ?_
 refine alD none rfl rfl (do_store (cs' := [.int .u64 x4.1, .int .u64 x6.1, .int .u64 x8.1, .int .u64 x10.1, .str x12.1, .str x14.1, .int .i64 x16.1, .int .i64 x18.1, .bool x20.1, .nil]) W_ W_ W_ ty4 rfl rfl rfl R_) D_ ?_
 refine en hK19 ?_
 obtain ⟨q21, h, hk22⟩ := bnd_some h
 refine aw_cut (fun s => ∃ (vb0_s_0_0 : List UInt8), ∃ (vb0_s_1_0 : Bool), ∃ (v3_s_9_s_0 : List Attr), span_Get_k0 x4 x6 x8 x10 x12 x14 x16 x18 x20 vb0_s_0_0 vb0_s_1_0 v3_s_9_s_0 = some r ∧ s = lit [(0, .ptr 0 0 0), (2, .ptr 2 0 0), (3, .ptr 3 0 0)] [((0, 0), .box [.sl 1 (List.map enc5 vb0_s_0_0), .bool vb0_s_1_0]), ((2, 0), .box [.int .u64 0, .int .u64 0, .int .u64 0, .int .u64 0, .str (strOf []), .str (strOf []), .int .i64 0, .int .i64 0, .bool false, .nil]), ((3, 0), .box [.int .u64 x4.1, .int .u64 x6.1, .int .u64 x8.1, .int .u64 x10.1, .str x12.1, .str x14.1, .int .i64 x16.1, .int .i64 x18.1, .bool x20.1, .own 3 1]), ((3, 1), .arr 91 2 false (List.map enc90 v3_s_9_s_0))] [(0, 1), (2, 1), (3, 2)] X) ?_ ?_
 ·skip
  refine sr fun K23 hK23 => ?_
  refine pm 34 (.ptr 0 0 0) ?_
  obtain ⟨x24, hx24, h⟩ := bnd_some h
  refine pD 35 (do_callG (bcs := [[.sl 1 (List.map enc5 x20.2.B), .bool x20.2.Bad]]) [(0, 0)] [] [] 35 false (ints_Reader_Num_ok x20.2 4 hx24) rfl ent20 ⟨R_, trivial⟩ trivial rfl rfl rfl rfl rfl rfl rfl rfl (.inl trivial)) ?_
  refine pm 36 (.int .i64 0) ?_
  refine en hK23 ?_
  refine aw_block ?_
  refine aw_nilOwnC 3 0 9 3 91 2 (cs := [.int .u64 x4.1, .int .u64 x6.1, .int .u64 x8.1, .int .u64 x10.1, .str x12.1, .str x14.1, .int .i64 x16.1, .int .i64 x18.1, .bool x20.1, .nil]) W_ rfl D_ ?_
  refine aw_loop' (fun m s => ∃ (vb0_s_0_1 : List UInt8), ∃ (vb0_s_1_1 : Bool), ∃ (v3_s_9_s_1 : List Attr), ∃ (v36_1 : Int), loopN (fun (s : List UInt8 × Bool × List Attr × Int) => span_Get_l1 x24 s.1 s.2.1 s.2.2.1 s.2.2.2) m (vb0_s_0_1, vb0_s_1_1, v3_s_9_s_1, v36_1) = some q21 ∧ s = lit [(0, .ptr 0 0 0), (2, .ptr 2 0 0), (3, .ptr 3 0 0), (35, .int .i64 x24.1), (36, .int .i64 v36_1)] [((0, 0), .box [.sl 1 (List.map enc5 vb0_s_0_1), .bool vb0_s_1_1]), ((2, 0), .box [.int .u64 0, .int .u64 0, .int .u64 0, .int .u64 0, .str (strOf []), .str (strOf []), .int .i64 0, .int .i64 0, .bool false, .nil]), ((3, 0), .box [.int .u64 x4.1, .int .u64 x6.1, .int .u64 x8.1, .int .u64 x10.1, .str x12.1, .str x14.1, .int .i64 x16.1, .int .i64 x18.1, .bool x20.1, .own 3 1]), ((3, 1), .arr 91 2 false (List.map enc90 v3_s_9_s_1))] [(0, 1), (2, 1), (3, 2)] X) Fu
   ⟨_, reb_lit [(0, .ptr 0 0 0), (2, .ptr 2 0 0), (3, .ptr 3 0 0), (35, .int .i64 x24.1), (36, .int .i64 (0))] [(0, 0), (2, 0), (3, 0), (3, 1)] [((0, 0), .box [.sl 1 (List.map enc5 x24.2.B), .bool x24.2.Bad]), ((2, 0), .box [.int .u64 0, .int .u64 0, .int .u64 0, .int .u64 0, .str (strOf []), .str (strOf []), .int .i64 0, .int .i64 0, .bool false, .nil]), ((3, 0), .box [.int .u64 x4.1, .int .u64 x6.1, .int .u64 x8.1, .int .u64 x10.1, .str x12.1, .str x14.1, .int .i64 x16.1, .int .i64 x18.1, .bool x20.1, .own 3 1]), ((3, 1), .arr 91 2 false (List.map enc90 []))] [(0, 1), (2, 1), (3, 2)] (ec (ec (ec (ec (ec envOk_nil))))) (objOk_cons W_ W_ R_ (by simp) (objOk_cons W_ W_ R_ (by simp) (objOk_cons W_ W_ R_ (by simp) (objOk_cons W_ W_ R_ (by simp) objOk_nil)))) (nodup_b rfl) (nodup_b rfl) rfl rfl, x24.2.B, x24.2.Bad, [], 0, h, rfl⟩ ?_
  rintro m s ⟨vb0_s_0_1, vb0_s_1_1, v3_s_9_s_1, v36_1, h, rfl⟩
  obtain ⟨m1, q25, rfl, h, hq26⟩ := loop_some h
  replace h : span_Get_l1 x24 vb0_s_0_1 vb0_s_1_1 v3_s_9_s_1 v36_1 = some q25 := h
  unfold span_Get_l1 at h
  refine sr fun K27 hK27 => ?_
  refine pb 37 (.bool (decide (v36_1 < x24.1))) ?_
  refine en hK27 ?_
  refine aw_seq_k (fun K28 hK28 => ?_)
  refine aw_bool (b := (decide (v36_1 < x24.1))) 37 rfl (fun c29 => ?_) (fun c29 => ?_)
  ·have h := ifT c29 h
   refine aw_cond_t D_ rfl ?_
   refine aw_skip ?_
   refine hK28 _ ?_
   refine aw_seq_k (fun K30 hK30 => ?_)
   refine aw_block ?_
   refine sr fun K31 hK31 => ?_
   refine pm 38 (.ptr 0 0 0) ?_
   obtain ⟨x32, hx32, h⟩ := bnd_some h
   refine pD 39 (do_callG (bcs := [[.sl 1 (List.map enc5 vb0_s_0_1), .bool vb0_s_1_1]]) [(0, 0)] [] [] 39 false (ints_Reader_Text_ok (Reader.mk vb0_s_0_1 vb0_s_1_1) hx32) rfl ent62 ⟨R_, trivial⟩ trivial rfl rfl rfl rfl rfl rfl rfl rfl (.inl trivial)) ?_
   refine pa 4 (.str x32.1) ?_
   refine en hK31 ?_
   refine aw_regd (by kernel_rfl) (by decide +kernel) ?_
   refine qP 40 (does_fieldAddr (q := .ptr 3 0 9) W_ ty69 rfl ty67 D_ R_) ?_
   refine qR 41 (does_load (v := .own 3 1) W_ W_ ty67 R_) ?_
   refine qP 42 (does_move (v := .str x32.1) R_) ?_
   refine qP 43 (does_move (v := .ptr 0 0 0) R_) ?_
   obtain ⟨x33, hx33, h⟩ := bnd_some h
   refine qD 44 (do_callG (bcs := [[.sl 1 (List.map enc5 x32.2.B), .bool x32.2.Bad]]) [(0, 0)] [] [] 44 false (ints_Reader_Text_ok x32.2 hx33) rfl ent62 ⟨R_, trivial⟩ trivial rfl rfl rfl rfl rfl rfl rfl rfl (.inl trivial)) ?_
   refine qP 45 (do_build_struct (cs := [.str x32.1, .str x33.1]) ty91 rfl [⟨.str, 1, 16, [.str ByteArray.empty]⟩, ⟨.str, 1, 16, [.str ByteArray.empty]⟩] (by simp only [List.map, ty9]) (by rfl) R_) ?_
   refine qD 46 (do_buildSlice (xs := List.map enc90 [(Attr.mk x32.1 x33.1)]) ty67 ty91 rfl rfl rfl rfl rfl rfl rfl rfl) ?_
   obtain ⟨g34, h⟩ := gd_some h
   refine qD 47 (do_append (v := List.map enc90 (v3_s_9_s_1 ++ [(Attr.mk x32.1 x33.1)])) W_ W_ ty67 ty91 rfl rfl W_ (by first | exact .inl rfl | exact .inr ⟨rfl, rfl⟩) W_ (by first | exact .inr rfl | exact .inl rfl) (map_app _ _) (fit_map g34)) ?_
   refine qP 48 (does_fieldAddr (q := .ptr 3 0 9) W_ ty69 rfl ty67 D_ R_) ?_
   refine aoD none rfl rfl (do_store (cs' := [.int .u64 x4.1, .int .u64 x6.1, .int .u64 x8.1, .int .u64 x10.1, .str x12.1, .str x14.1, .int .i64 x16.1, .int .i64 x18.1, .bool x20.1, .own 47 0]) W_ W_ W_ ty67 rfl rfl rfl R_) D_ ?_
   refine ao_nil_d (by kernel_rfl) ?_
   refine hK30 _ ?_
   refine aw_regL ?_
   refine pb 49 (.int .i64 (IntKind.i64.wrap (v36_1 + 1))) ?_
   refine pm 36 (.int .i64 (IntKind.i64.wrap (v36_1 + 1))) ?_
   refine al_nil ?_
   have h := leafL h hq26
   exact ⟨m1, Nat.lt_succ_self _, _, reb_lit [(0, .ptr 0 0 0), (2, .ptr 2 0 0), (3, .ptr 3 0 0), (35, .int .i64 x24.1), (36, .int .i64 (IntKind.i64.wrap (v36_1 + 1)))] [(0, 0), (2, 0), (3, 0), (47, 0)] [((0, 0), .box [.sl 1 (List.map enc5 x33.2.B), .bool x33.2.Bad]), ((2, 0), .box [.int .u64 0, .int .u64 0, .int .u64 0, .int .u64 0, .str (strOf []), .str (strOf []), .int .i64 0, .int .i64 0, .bool false, .nil]), ((3, 0), .box [.int .u64 x4.1, .int .u64 x6.1, .int .u64 x8.1, .int .u64 x10.1, .str x12.1, .str x14.1, .int .i64 x16.1, .int .i64 x18.1, .bool x20.1, .own 3 1]), ((3, 1), .arr 91 2 false (List.map enc90 (v3_s_9_s_1 ++ [(Attr.mk x32.1 x33.1)])))] [(0, 1), (2, 1), (3, 2)] (ec (ec (ec (ec (ec envOk_nil))))) (objOk_cons W_ W_ R_ (by simp) (objOk_cons W_ W_ R_ (by simp) (objOk_cons W_ W_ R_ (by simp) (objOk_cons W_ W_ R_ (by simp) objOk_nil)))) (nodup_b rfl) (nodup_b rfl) rfl rfl, x33.2.B, x33.2.Bad, (v3_s_9_s_1 ++ [(Attr.mk x32.1 x33.1)]), (IntKind.i64.wrap (v36_1 + 1)), h, rfl⟩
  ·have h := ifF c29 h
   refine aw_cond_f D_ rfl ?_
   refine aw_exit ?_
   have h := leafR h hq26
   obtain rfl := Option.some.inj h
   have h := hk22
   exact ⟨_, reb_lit [(0, .ptr 0 0 0), (2, .ptr 2 0 0), (3, .ptr 3 0 0)] [(0, 0), (2, 0), (3, 0), (3, 1)] [((0, 0), .box [.sl 1 (List.map enc5 vb0_s_0_1), .bool vb0_s_1_1]), ((2, 0), .box [.int .u64 0, .int .u64 0, .int .u64 0, .int .u64 0, .str (strOf []), .str (strOf []), .int .i64 0, .int .i64 0, .bool false, .nil]), ((3, 0), .box [.int .u64 x4.1, .int .u64 x6.1, .int .u64 x8.1, .int .u64 x10.1, .str x12.1, .str x14.1, .int .i64 x16.1, .int .i64 x18.1, .bool x20.1, .own 3 1]), ((3, 1), .arr 91 2 false (List.map enc90 v3_s_9_s_1))] [(0, 1), (2, 1), (3, 2)] (ec (ec (ec envOk_nil))) (objOk_cons W_ W_ R_ (by simp) (objOk_cons W_ W_ R_ (by simp) (objOk_cons W_ W_ R_ (by simp) (objOk_cons W_ W_ R_ (by simp) objOk_nil)))) (nodup_b rfl) (nodup_b rfl) rfl rfl, vb0_s_0_1, vb0_s_1_1, v3_s_9_s_1, h, rfl⟩
 ·rintro s ⟨vb0_s_0_0, vb0_s_1_0, v3_s_9_s_0, h, rfl⟩
  unfold span_Get_k0 at h
  refine sr fun K35 hK35 => ?_
  refine pm 50 (.ptr 0 0 0) ?_
  refine pm 51 (.ptr 0 0 0) ?_
  refine pP 52 (does_nilCheck (p := .ptr 0 0 0) W_ rfl) ?_
  refine pf 53 (.ptr 0 0 1) ty54 ty4 ?_
  refine pl 54 (.bool vb0_s_1_0) ty4 ?_
  refine pm 55 (.bool vb0_s_1_0) ?_
  refine al_bool (c := vb0_s_1_0) 55 rfl (fun c36 => ?_) (fun c36 => ?_)
  ·have h := ifT c36 h
   refine pS 56 ?_
   refine pS 57 ?_
   refine pS 58 ?_
   refine pk 59 (.bool true) ?_
   refine pP 60 (does_nilCheck (p := .ptr 0 0 0) W_ rfl) ?_
   refine pf 61 (.ptr 0 0 1) ty54 ty4 ?_
   refine alD none rfl rfl (do_store (cs' := [.sl 1 (List.map enc5 vb0_s_0_0), .bool true]) W_ W_ W_ ty4 rfl rfl rfl R_) D_ ?_
   refine en hK35 ?_
   refine sr fun K37 hK37 => ?_
   refine pl 62 (.agg [.int .u64 x4.1, .int .u64 x6.1, .int .u64 x8.1, .int .u64 x10.1, .str x12.1, .str x14.1, .int .i64 x16.1, .int .i64 x18.1, .bool x20.1, .own 3 1]) ty69 ?_
   refine alD none rfl rfl (do_store (cs' := [.int .u64 x4.1, .int .u64 x6.1, .int .u64 x8.1, .int .u64 x10.1, .str x12.1, .str x14.1, .int .i64 x16.1, .int .i64 x18.1, .bool x20.1, .own 3 1]) W_ W_ W_ ty69 rfl rfl rfl R_) D_ ?_
   refine en hK37 ?_
   refine aw_ret ?_
   obtain rfl := Option.some.inj h
   exact ret_okB [(3, 1)] W_ W_ R_ (rowsOk_cons W_ R_ trivial) (boxesOk_cons W_ W_ R_ trivial) (nodup_b rfl) (.inr rfl) rfl
  ·have h := ifF c36 h
   refine pl 56 (.agg [.int .u64 x4.1, .int .u64 x6.1, .int .u64 x8.1, .int .u64 x10.1, .str x12.1, .str x14.1, .int .i64 x16.1, .int .i64 x18.1, .bool x20.1, .own 3 1]) ty69 ?_
   obtain ⟨x38, hx38, h⟩ := bnd_some h
   refine pD 57 (do_callG (bcs := []) [] [] [(3, 1)] 57 false (span_Right_ok (Span.mk (Trace.mk x4.1 x6.1) x8.1 x10.1 x12.1 x14.1 x16.1 x18.1 x20.1 v3_s_9_s_0) hx38) rfl ent64 trivial trivial rfl rfl rfl rfl rfl rfl rfl rfl (.inr ⟨rfl, rfl, trivial⟩)) ?_
   refine pP 58 (does_un (v := .bool (!x38)) W_ rfl) ?_
   refine pk 59 (.bool (!x38)) ?_
   refine pP 60 (does_nilCheck (p := .ptr 0 0 0) W_ rfl) ?_
   refine pf 61 (.ptr 0 0 1) ty54 ty4 ?_
   refine alD none rfl rfl (do_store (cs' := [.sl 1 (List.map enc5 vb0_s_0_0), .bool (!x38)]) W_ W_ W_ ty4 rfl rfl rfl R_) D_ ?_
   refine en hK35 ?_
   refine sr fun K39 hK39 => ?_
   refine pl 62 (.agg [.int .u64 x4.1, .int .u64 x6.1, .int .u64 x8.1, .int .u64 x10.1, .str x12.1, .str x14.1, .int .i64 x16.1, .int .i64 x18.1, .bool x20.1, .own 3 1]) ty69 ?_
   refine alD none rfl rfl (do_store (cs' := [.int .u64 x4.1, .int .u64 x6.1, .int .u64 x8.1, .int .u64 x10.1, .str x12.1, .str x14.1, .int .i64 x16.1, .int .i64 x18.1, .bool x20.1, .own 3 1]) W_ W_ W_ ty69 rfl rfl rfl R_) D_ ?_
   refine en hK39 ?_
   refine aw_ret ?_
   obtain rfl := Option.some.inj h
   exact ret_okB [(3, 1)] W_ W_ R_ (rowsOk_cons W_ R_ trivial) (boxesOk_cons W_ W_ R_ trivial) (nodup_b rfl) (.inr rfl) rfl
end Go.Proofs.Ytdhpmlgalddgfaa.Ab
