/- Spans as bytes, the document. -/
import Derived.Test.YtdhpmlgalddgfaaXSpan1
import Derived.Test.YtdhpmlgalddgfaaProg
namespace Go.Proofs.Ytdhpmlgalddgfaa.Ab
open Go Go.RowKit
set_option linter.unusedVariables false
set_option linter.unusedSimpArgs false
set_option maxRecDepth 100000
set_option maxHeartbeats 8000000
theorem ent22 : Ent Try.prog 22 := ⟨_, Try.func22, by kernel_rfl, rfl⟩
theorem ent71 : Ent Try.prog 71 := ⟨_, Try.func71, by kernel_rfl, rfl⟩
theorem ent72 : Ent Try.prog 72 := ⟨_, Try.func72, by kernel_rfl, rfl⟩
theorem ent76 : Ent Try.prog 76 := ⟨_, Try.func76, by kernel_rfl, rfl⟩
theorem ent77 : Ent Try.prog 77 := ⟨_, Try.func77, by kernel_rfl, rfl⟩
theorem ent88 : Ent Try.prog 88 := ⟨_, Try.func88, by kernel_rfl, rfl⟩
def gleaningref1_Within (a0 : Int) (a1 : Int) (a2 : Int) : Option Bool :=
 if (decide (a1 ≤ a0)) = true then (some (decide (a0 ≤ a2))) else (some false)
theorem gleaningref1_Within_ok (a0 : Int) (a1 : Int) (a2 : Int) {r : Bool} (h : gleaningref1_Within a0 a1 a2 = some r) : Ok Try.prog 88 [.int .i64 a0, .int .i64 a1, .int .i64 a2] [] [] (.bool r) [] [] := by
 unfold gleaningref1_Within at h
 refine ok_of_code Try.func88 rfl (by show (3 : Nat) ≤ _; decide) (Nat.le_refl _) fun X => ?_
 refine sr fun K1 hK1 => ?_
 refine pa 6 (.bool false) ?_
 refine en hK1 ?_
 refine sr fun K2 hK2 => ?_
 refine pm 7 (.int .i64 a0) ?_
 refine pm 8 (.int .i64 a1) ?_
 refine pb 9 (.bool (decide (a1 ≤ a0))) ?_
 refine pm 10 (.bool (decide (a1 ≤ a0))) ?_
 refine al_bool (c := (decide (a1 ≤ a0))) 10 rfl (fun c3 => ?_) (fun c3 => ?_)
 ·have h := ifT c3 h
  refine pm 11 (.int .i64 a0) ?_
  refine pm 12 (.int .i64 a2) ?_
  refine pb 13 (.bool (decide (a0 ≤ a2))) ?_
  refine pk 14 (.bool (decide (a0 ≤ a2))) ?_
  refine pa 6 (.bool (decide (a0 ≤ a2))) ?_
  refine en hK2 ?_
  refine aw_ret ?_
  obtain rfl := Option.some.inj h
  exact ret_ok1 W_ W_ R_ (.inr rfl) rfl
 ·have h := ifF c3 h
  refine pS 11 ?_
  refine pS 12 ?_
  refine pS 13 ?_
  refine pk 14 (.bool false) ?_
  refine pa 6 (.bool false) ?_
  refine en hK2 ?_
  refine aw_ret ?_
  obtain rfl := Option.some.inj h
  exact ret_ok1 W_ W_ R_ (.inr rfl) rfl
def gleaningref1_RightSpan_l3 (a0 : Span) (v3_1 : Int) (v4_3 : Int) : Option (Int ⊕ (Int ⊕ Bool)) :=
 if (decide (v4_3 < v3_1)) = true then (gd (0 ≤ v4_3) (Option.bind (a0.Attrs[(Int.toNat v4_3)]?) (fun (x48 : Attr) => gd (0 ≤ v3_1) (Option.bind (a0.Attrs[(Int.toNat v3_1)]?) (fun (x50 : Attr) => if (ByteArray.toList x48.Key == ByteArray.toList x50.Key) = true then (some (Sum.inr (Sum.inr false))) else (some (Sum.inl (IntKind.i64.wrap (v4_3 + 1))))))))) else (some (Sum.inr (Sum.inl (IntKind.i64.wrap (v3_1 + 1)))))
def gleaningref1_RightSpan_k2 (a0 : Span) (v3_1 : Int) : Option (Int ⊕ Bool) :=
 loopN (fun (s : Int) => gleaningref1_RightSpan_l3 a0 v3_1 s) Fu 0
def gleaningref1_RightSpan_l1 (a0 : Span) (v3_1 : Int) : Option (Int ⊕ Bool) :=
 if (decide (v3_1 < (List.length a0.Attrs : Int))) = true then (Option.bind (gd (0 ≤ v3_1) (Option.bind (a0.Attrs[(Int.toNat v3_1)]?) (fun (x31 : Attr) => Option.bind (gleaningref1_Within (ByteArray.size x31.Key : Int) 1 16) (fun (x32 : Bool) => if (!x32) = true then (some (Sum.inr (Sum.inr false))) else (gd (0 ≤ v3_1) (Option.bind (a0.Attrs[(Int.toNat v3_1)]?) (fun (x36 : Attr) => if (decide ((16 : Int) < (ByteArray.size x36.Value : Int))) = true then (some (Sum.inr (Sum.inr false))) else (some (Sum.inl ()))))))))) (Sum.elim (fun (s : Unit) => gleaningref1_RightSpan_k2 a0 v3_1) some)) else (some (Sum.inr true))
def gleaningref1_RightSpan_k0 (a0 : Span) : Option Bool :=
 loopN (fun (s : Int) => gleaningref1_RightSpan_l1 a0 s) Fu 0
def gleaningref1_RightSpan (a0 : Span) : Option Bool :=
 Option.bind (Option.bind (gleaningref1_Within (ByteArray.size a0.Service : Int) 1 16) (fun (x5 : Bool) => if (!x5) = true then (some (Sum.inr false)) else (Option.bind (gleaningref1_Within (ByteArray.size a0.Op : Int) 1 16) (fun (x8 : Bool) => if (!x8) = true then (some (Sum.inr false)) else (Option.bind (gleaningref1_Within a0.Start 0 1099511627776) (fun (x11 : Bool) => if (!x11) = true then (some (Sum.inr false)) else (Option.bind (gleaningref1_Within a0.Dur 0 1073741824) (fun (x14 : Bool) => if (!x14) = true then (some (Sum.inr false)) else (if (decide ((4 : Int) < (List.length a0.Attrs : Int))) = true then (some (Sum.inr false)) else (some (Sum.inl ()))))))))))) (Sum.elim (fun (s : Unit) => gleaningref1_RightSpan_k0 a0) some)
theorem gleaningref1_RightSpan_ok (a0 : Span) {r : Bool} (h : gleaningref1_RightSpan a0 = some r) : Ok Try.prog 72 [.agg [.int .u64 a0.Trace.Hi, .int .u64 a0.Trace.Lo, .int .u64 a0.Id, .int .u64 a0.Parent, .str a0.Service, .str a0.Op, .int .i64 a0.Start, .int .i64 a0.Dur, .bool a0.Err, .sl 2 (List.map enc90 a0.Attrs)]] [] [] (.bool r) [] [] := by
 unfold gleaningref1_RightSpan at h
 refine ok_of_code Try.func72 rfl (by show (1 : Nat) ≤ _; decide) (Nat.le_refl _) fun X => ?_
 refine sr fun K1 hK1 => ?_
 refine pD 1 (do_box W_ rfl rfl) ?_
 refine pa 2 (.bool false) ?_
 refine en hK1 ?_
 obtain ⟨q2, h, hk3⟩ := bnd_some h
 refine aw_cut (fun s => gleaningref1_RightSpan_k0 a0 = some r ∧ s = lit [(1, .ptr 1 0 0)] [((1, 0), .box [.int .u64 a0.Trace.Hi, .int .u64 a0.Trace.Lo, .int .u64 a0.Id, .int .u64 a0.Parent, .str a0.Service, .str a0.Op, .int .i64 a0.Start, .int .i64 a0.Dur, .bool a0.Err, .sl 2 (List.map enc90 a0.Attrs)])] [(1, 1)] X) ?_ ?_
 ·skip
  refine sr fun K4 hK4 => ?_
  refine pf 5 (.ptr 1 0 4) ty69 ty9 ?_
  refine pl 6 (.str a0.Service) ty9 ?_
  refine pP 7 (does_len_str W_ ty9) ?_
  obtain ⟨x5, hx5, h⟩ := bnd_some h
  refine pD 8 ((do_call0 8 false (gleaningref1_Within_ok (ByteArray.size a0.Service : Int) 1 16 hx5) rfl ent88 rfl rfl).fx (y := ⟨[], .bool x5, [], [8]⟩) rfl) ?_
  refine pP 9 (does_un (v := .bool (!x5)) W_ rfl) ?_
  refine pm 10 (.bool (!x5)) ?_
  refine al_bool (c := (!x5)) 10 rfl (fun c6 => ?_) (fun c6 => ?_)
  ·have h := ifT c6 h
   refine pS 11 ?_
   refine pS 12 ?_
   refine pS 13 ?_
   refine pS 14 ?_
   refine pS 15 ?_
   refine pk 16 (.bool true) ?_
   refine pm 17 (.bool true) ?_
   refine pS 18 ?_
   refine pS 19 ?_
   refine pS 20 ?_
   refine pS 21 ?_
   refine pk 22 (.bool true) ?_
   refine pm 23 (.bool true) ?_
   refine pS 24 ?_
   refine pS 25 ?_
   refine pS 26 ?_
   refine pS 27 ?_
   refine pk 28 (.bool true) ?_
   refine pm 29 (.bool true) ?_
   refine pS 30 ?_
   refine pS 31 ?_
   refine pS 32 ?_
   refine pS 33 ?_
   refine pk 34 (.bool true) ?_
   refine en hK4 ?_
   refine aw_cond_t D_ rfl ?_
   refine sr fun K7 hK7 => ?_
   refine pa 2 (.bool false) ?_
   refine en hK7 ?_
   refine aw_ret ?_
   have h := leafR h hk3
   obtain rfl := Option.some.inj h
   exact ret_ok1 W_ W_ R_ (.inr rfl) rfl
  ·have h := ifF c6 h
   refine pf 11 (.ptr 1 0 5) ty69 ty9 ?_
   refine pl 12 (.str a0.Op) ty9 ?_
   refine pP 13 (does_len_str W_ ty9) ?_
   obtain ⟨x8, hx8, h⟩ := bnd_some h
   refine pD 14 ((do_call0 14 false (gleaningref1_Within_ok (ByteArray.size a0.Op : Int) 1 16 hx8) rfl ent88 rfl rfl).fx (y := ⟨[], .bool x8, [], [14]⟩) rfl) ?_
   refine pP 15 (does_un (v := .bool (!x8)) W_ rfl) ?_
   refine pk 16 (.bool (!x8)) ?_
   refine pm 17 (.bool (!x8)) ?_
   refine al_bool (c := (!x8)) 17 rfl (fun c9 => ?_) (fun c9 => ?_)
   ·have h := ifT c9 h
    refine pS 18 ?_
    refine pS 19 ?_
    refine pS 20 ?_
    refine pS 21 ?_
    refine pk 22 (.bool true) ?_
    refine pm 23 (.bool true) ?_
    refine pS 24 ?_
    refine pS 25 ?_
    refine pS 26 ?_
    refine pS 27 ?_
    refine pk 28 (.bool true) ?_
    refine pm 29 (.bool true) ?_
    refine pS 30 ?_
    refine pS 31 ?_
    refine pS 32 ?_
    refine pS 33 ?_
    refine pk 34 (.bool true) ?_
    refine en hK4 ?_
    refine aw_cond_t D_ rfl ?_
    refine sr fun K10 hK10 => ?_
    refine pa 2 (.bool false) ?_
    refine en hK10 ?_
    refine aw_ret ?_
    have h := leafR h hk3
    obtain rfl := Option.some.inj h
    exact ret_ok1 W_ W_ R_ (.inr rfl) rfl
   ·have h := ifF c9 h
    refine pf 18 (.ptr 1 0 6) ty69 ty3 ?_
    refine pl 19 (.int .i64 a0.Start) ty3 ?_
    obtain ⟨x11, hx11, h⟩ := bnd_some h
    refine pD 20 ((do_call0 20 false (gleaningref1_Within_ok a0.Start 0 1099511627776 hx11) rfl ent88 rfl rfl).fx (y := ⟨[], .bool x11, [], [20]⟩) rfl) ?_
    refine pP 21 (does_un (v := .bool (!x11)) W_ rfl) ?_
    refine pk 22 (.bool (!x11)) ?_
    refine pm 23 (.bool (!x11)) ?_
    refine al_bool (c := (!x11)) 23 rfl (fun c12 => ?_) (fun c12 => ?_)
    ·have h := ifT c12 h
     refine pS 24 ?_
     refine pS 25 ?_
     refine pS 26 ?_
     refine pS 27 ?_
     refine pk 28 (.bool true) ?_
     refine pm 29 (.bool true) ?_
     refine pS 30 ?_
     refine pS 31 ?_
     refine pS 32 ?_
     refine pS 33 ?_
     refine pk 34 (.bool true) ?_
     refine en hK4 ?_
     refine aw_cond_t D_ rfl ?_
     refine sr fun K13 hK13 => ?_
     refine pa 2 (.bool false) ?_
     refine en hK13 ?_
     refine aw_ret ?_
     have h := leafR h hk3
     obtain rfl := Option.some.inj h
     exact ret_ok1 W_ W_ R_ (.inr rfl) rfl
    ·have h := ifF c12 h
     refine pf 24 (.ptr 1 0 7) ty69 ty3 ?_
     refine pl 25 (.int .i64 a0.Dur) ty3 ?_
     obtain ⟨x14, hx14, h⟩ := bnd_some h
     refine pD 26 ((do_call0 26 false (gleaningref1_Within_ok a0.Dur 0 1073741824 hx14) rfl ent88 rfl rfl).fx (y := ⟨[], .bool x14, [], [26]⟩) rfl) ?_
     refine pP 27 (does_un (v := .bool (!x14)) W_ rfl) ?_
     refine pk 28 (.bool (!x14)) ?_
     refine pm 29 (.bool (!x14)) ?_
     refine al_bool (c := (!x14)) 29 rfl (fun c15 => ?_) (fun c15 => ?_)
     ·have h := ifT c15 h
      refine pS 30 ?_
      refine pS 31 ?_
      refine pS 32 ?_
      refine pS 33 ?_
      refine pk 34 (.bool true) ?_
      refine en hK4 ?_
      refine aw_cond_t D_ rfl ?_
      refine sr fun K16 hK16 => ?_
      refine pa 2 (.bool false) ?_
      refine en hK16 ?_
      refine aw_ret ?_
      have h := leafR h hk3
      obtain rfl := Option.some.inj h
      exact ret_ok1 W_ W_ R_ (.inr rfl) rfl
     ·have h := ifF c15 h
      refine pf 30 (.ptr 1 0 9) ty69 ty67 ?_
      refine pl 31 (.sl 2 (List.map enc90 a0.Attrs)) ty67 ?_
      refine pP 32 ((does_len_sl W_ ty67).castp (v' := .int .i64 (List.length a0.Attrs : Int)) (by exact len_map _)) ?_
      refine pb 33 (.bool (decide ((4 : Int) < (List.length a0.Attrs : Int)))) ?_
      refine pk 34 (.bool (decide ((4 : Int) < (List.length a0.Attrs : Int)))) ?_
      refine en hK4 ?_
      refine aw_bool (b := (decide ((4 : Int) < (List.length a0.Attrs : Int)))) 34 rfl (fun c17 => ?_) (fun c17 => ?_)
      ·have h := ifT c17 h
       refine aw_cond_t D_ rfl ?_
       refine sr fun K18 hK18 => ?_
       refine pa 2 (.bool false) ?_
       refine en hK18 ?_
       refine aw_ret ?_
       have h := leafR h hk3
       obtain rfl := Option.some.inj h
       exact ret_ok1 W_ W_ R_ (.inr rfl) rfl
      ·have h := ifF c17 h
       refine aw_cond_f D_ rfl ?_
       refine aw_skip ?_
       have h := leafL h hk3
       exact ⟨_, reb_lit [(1, .ptr 1 0 0)] [(1, 0)] [((1, 0), .box [.int .u64 a0.Trace.Hi, .int .u64 a0.Trace.Lo, .int .u64 a0.Id, .int .u64 a0.Parent, .str a0.Service, .str a0.Op, .int .i64 a0.Start, .int .i64 a0.Dur, .bool a0.Err, .sl 2 (List.map enc90 a0.Attrs)])] [(1, 1)] (ec envOk_nil) (objOk_cons W_ W_ R_ (by simp) objOk_nil) (nodup_b rfl) (nodup_b rfl) rfl rfl, h, rfl⟩
 ·rintro s ⟨h, rfl⟩
  unfold gleaningref1_RightSpan_k0 at h
  refine aw_seq_k (fun K19 hK19 => ?_)
  refine sr fun K20 hK20 => ?_
  refine pa 3 (.int .i64 0) ?_
  refine en hK20 ?_
  refine aw_block ?_
  refine aw_loop' (fun m s => ∃ (v3_1 : Int), loopN (fun (s : Int) => gleaningref1_RightSpan_l1 a0 s) m v3_1 = some r ∧ s = lit [(1, .ptr 1 0 0), (3, .int .i64 v3_1)] [((1, 0), .box [.int .u64 a0.Trace.Hi, .int .u64 a0.Trace.Lo, .int .u64 a0.Id, .int .u64 a0.Parent, .str a0.Service, .str a0.Op, .int .i64 a0.Start, .int .i64 a0.Dur, .bool a0.Err, .sl 2 (List.map enc90 a0.Attrs)])] [(1, 1)] X) Fu
   ⟨_, reb_lit [(1, .ptr 1 0 0), (3, .int .i64 (0))] [(1, 0)] [((1, 0), .box [.int .u64 a0.Trace.Hi, .int .u64 a0.Trace.Lo, .int .u64 a0.Id, .int .u64 a0.Parent, .str a0.Service, .str a0.Op, .int .i64 a0.Start, .int .i64 a0.Dur, .bool a0.Err, .sl 2 (List.map enc90 a0.Attrs)])] [(1, 1)] (ec (ec envOk_nil)) (objOk_cons W_ W_ R_ (by simp) objOk_nil) (nodup_b rfl) (nodup_b rfl) rfl rfl, 0, h, rfl⟩ ?_
  rintro m s ⟨v3_1, h, rfl⟩
  obtain ⟨m1, q21, rfl, h, hq22⟩ := loop_some h
  replace h : gleaningref1_RightSpan_l1 a0 v3_1 = some q21 := h
  unfold gleaningref1_RightSpan_l1 at h
  refine aw_seq_k (fun K23 hK23 => ?_)
  refine sr fun K24 hK24 => ?_
  refine pm 35 (.int .i64 v3_1) ?_
  refine pf 36 (.ptr 1 0 9) ty69 ty67 ?_
  refine pl 37 (.sl 2 (List.map enc90 a0.Attrs)) ty67 ?_
  refine pP 38 ((does_len_sl W_ ty67).castp (v' := .int .i64 (List.length a0.Attrs : Int)) (by exact len_map _)) ?_
  refine pb 39 (.bool (decide (v3_1 < (List.length a0.Attrs : Int)))) ?_
  refine en hK24 ?_
  refine aw_bool (b := (decide (v3_1 < (List.length a0.Attrs : Int)))) 39 rfl (fun c25 => ?_) (fun c25 => ?_)
  ·have h := ifT c25 h
   refine aw_cond_t D_ rfl ?_
   refine aw_skip ?_
   refine hK23 _ ?_
   refine aw_seq_k (fun K26 hK26 => ?_)
   refine aw_block ?_
   obtain ⟨q27, h, hk28⟩ := bnd_some h
   refine aw_cut (fun s => gleaningref1_RightSpan_k2 a0 v3_1 = some q21 ∧ s = lit [(1, .ptr 1 0 0), (3, .int .i64 v3_1)] [((1, 0), .box [.int .u64 a0.Trace.Hi, .int .u64 a0.Trace.Lo, .int .u64 a0.Id, .int .u64 a0.Parent, .str a0.Service, .str a0.Op, .int .i64 a0.Start, .int .i64 a0.Dur, .bool a0.Err, .sl 2 (List.map enc90 a0.Attrs)])] [(1, 1)] X) ?_ ?_
   ·skip
    refine sr fun K29 hK29 => ?_
    refine pf 42 (.ptr 1 0 9) ty69 ty67 ?_
    refine pl 43 (.sl 2 (List.map enc90 a0.Attrs)) ty67 ?_
    refine pm 44 (.int .i64 v3_1) ?_
    obtain ⟨g30, h⟩ := gd_some h
    obtain ⟨x31, hx31, h⟩ := bnd_some h
    refine pP 45 (does_indexAddr_sl (el := .agg [.str x31.Key, .str x31.Value]) W_ W_ ty67 ty91 g30 (by exact map_get hx31)) ?_
    refine pf 46 (.rptr [.str x31.Key, .str x31.Value]) ty91 ty9 ?_
    refine pl 47 (.str x31.Key) ty9 ?_
    refine pP 48 (does_len_str W_ ty9) ?_
    obtain ⟨x32, hx32, h⟩ := bnd_some h
    refine pD 49 (do_call0 49 false (gleaningref1_Within_ok (ByteArray.size x31.Key : Int) 1 16 hx32) rfl ent88 rfl rfl) ?_
    refine pP 50 (does_un (v := .bool (!x32)) W_ rfl) ?_
    refine pm 51 (.bool (!x32)) ?_
    refine al_bool (c := (!x32)) 51 rfl (fun c33 => ?_) (fun c33 => ?_)
    ·have h := ifT c33 h
     refine pS 52 ?_
     refine pS 53 ?_
     refine pS 54 ?_
     refine pS 55 ?_
     refine pS 56 ?_
     refine pS 57 ?_
     refine pS 58 ?_
     refine pS 59 ?_
     refine pk 60 (.bool true) ?_
     refine en hK29 ?_
     refine aw_cond_t D_ rfl ?_
     refine sr fun K34 hK34 => ?_
     refine pa 2 (.bool false) ?_
     refine en hK34 ?_
     refine aw_ret ?_
     have h := leafR h hk28
     have h := leafR h hq22
     obtain rfl := Option.some.inj h
     exact ret_ok1 W_ W_ R_ (.inr rfl) rfl
    ·have h := ifF c33 h
     refine pf 52 (.ptr 1 0 9) ty69 ty67 ?_
     refine pl 53 (.sl 2 (List.map enc90 a0.Attrs)) ty67 ?_
     refine pm 54 (.int .i64 v3_1) ?_
     obtain ⟨g35, h⟩ := gd_some h
     obtain ⟨x36, hx36, h⟩ := bnd_some h
     refine pP 55 (does_indexAddr_sl (el := .agg [.str x36.Key, .str x36.Value]) W_ W_ ty67 ty91 g35 (by exact map_get hx36)) ?_
     refine pf 56 (.rptr [.str x36.Value]) ty91 ty9 ?_
     refine pl 57 (.str x36.Value) ty9 ?_
     refine pP 58 (does_len_str W_ ty9) ?_
     refine pb 59 (.bool (decide ((16 : Int) < (ByteArray.size x36.Value : Int)))) ?_
     refine pk 60 (.bool (decide ((16 : Int) < (ByteArray.size x36.Value : Int)))) ?_
     refine en hK29 ?_
     refine aw_bool (b := (decide ((16 : Int) < (ByteArray.size x36.Value : Int)))) 60 rfl (fun c37 => ?_) (fun c37 => ?_)
     ·have h := ifT c37 h
      refine aw_cond_t D_ rfl ?_
      refine sr fun K38 hK38 => ?_
      refine pa 2 (.bool false) ?_
      refine en hK38 ?_
      refine aw_ret ?_
      have h := leafR h hk28
      have h := leafR h hq22
      obtain rfl := Option.some.inj h
      exact ret_ok1 W_ W_ R_ (.inr rfl) rfl
     ·have h := ifF c37 h
      refine aw_cond_f D_ rfl ?_
      refine aw_skip ?_
      have h := leafL h hk28
      exact ⟨_, reb_lit [(1, .ptr 1 0 0), (3, .int .i64 v3_1)] [(1, 0)] [((1, 0), .box [.int .u64 a0.Trace.Hi, .int .u64 a0.Trace.Lo, .int .u64 a0.Id, .int .u64 a0.Parent, .str a0.Service, .str a0.Op, .int .i64 a0.Start, .int .i64 a0.Dur, .bool a0.Err, .sl 2 (List.map enc90 a0.Attrs)])] [(1, 1)] (ec (ec envOk_nil)) (objOk_cons W_ W_ R_ (by simp) objOk_nil) (nodup_b rfl) (nodup_b rfl) rfl rfl, h, rfl⟩
   ·rintro s ⟨h, rfl⟩
    unfold gleaningref1_RightSpan_k2 at h
    refine sr fun K39 hK39 => ?_
    refine pa 4 (.int .i64 0) ?_
    refine en hK39 ?_
    refine aw_block ?_
    refine aw_loop' (fun m s => ∃ (v4_3 : Int), loopN (fun (s : Int) => gleaningref1_RightSpan_l3 a0 v3_1 s) m v4_3 = some q21 ∧ s = lit [(1, .ptr 1 0 0), (3, .int .i64 v3_1), (4, .int .i64 v4_3)] [((1, 0), .box [.int .u64 a0.Trace.Hi, .int .u64 a0.Trace.Lo, .int .u64 a0.Id, .int .u64 a0.Parent, .str a0.Service, .str a0.Op, .int .i64 a0.Start, .int .i64 a0.Dur, .bool a0.Err, .sl 2 (List.map enc90 a0.Attrs)])] [(1, 1)] X) Fu
     ⟨_, reb_lit [(1, .ptr 1 0 0), (3, .int .i64 v3_1), (4, .int .i64 (0))] [(1, 0)] [((1, 0), .box [.int .u64 a0.Trace.Hi, .int .u64 a0.Trace.Lo, .int .u64 a0.Id, .int .u64 a0.Parent, .str a0.Service, .str a0.Op, .int .i64 a0.Start, .int .i64 a0.Dur, .bool a0.Err, .sl 2 (List.map enc90 a0.Attrs)])] [(1, 1)] (ec (ec (ec envOk_nil))) (objOk_cons W_ W_ R_ (by simp) objOk_nil) (nodup_b rfl) (nodup_b rfl) rfl rfl, 0, h, rfl⟩ ?_
    rintro m s ⟨v4_3, h, rfl⟩
    obtain ⟨m3, q40, rfl, h, hq41⟩ := loop_some h
    replace h : gleaningref1_RightSpan_l3 a0 v3_1 v4_3 = some q40 := h
    unfold gleaningref1_RightSpan_l3 at h
    refine aw_seq_k (fun K42 hK42 => ?_)
    refine sr fun K43 hK43 => ?_
    refine pm 61 (.int .i64 v4_3) ?_
    refine pm 62 (.int .i64 v3_1) ?_
    refine pb 63 (.bool (decide (v4_3 < v3_1))) ?_
    refine en hK43 ?_
    refine aw_bool (b := (decide (v4_3 < v3_1))) 63 rfl (fun c44 => ?_) (fun c44 => ?_)
    ·have h := ifT c44 h
     refine aw_cond_t D_ rfl ?_
     refine aw_skip ?_
     refine hK42 _ ?_
     refine aw_seq_k (fun K45 hK45 => ?_)
     refine aw_block ?_
     refine aw_seq_k (fun K46 hK46 => ?_)
     refine aw_regd (by kernel_rfl) (by decide +kernel) ?_
     refine qP 66 (does_fieldAddr (q := .ptr 1 0 9) W_ ty69 rfl ty67 D_ R_) ?_
     refine qR 67 (does_load (v := .sl 2 (List.map enc90 a0.Attrs)) W_ W_ ty67 R_) ?_
     refine qP 68 (does_move (v := .int .i64 v4_3) R_) ?_
     obtain ⟨g47, h⟩ := gd_some h
     obtain ⟨x48, hx48, h⟩ := bnd_some h
     refine qP 69 (does_indexAddr_sl (el := .agg [.str x48.Key, .str x48.Value]) W_ W_ ty67 ty91 g47 (by exact map_get hx48)) ?_
     refine qP 70 (does_fieldAddr (q := .rptr [.str x48.Key, .str x48.Value]) W_ ty91 rfl ty9 D_ R_) ?_
     refine qR 71 (does_load (v := .str x48.Key) W_ W_ ty9 R_) ?_
     refine qP 72 (does_fieldAddr (q := .ptr 1 0 9) W_ ty69 rfl ty67 D_ R_) ?_
     refine qR 73 (does_load (v := .sl 2 (List.map enc90 a0.Attrs)) W_ W_ ty67 R_) ?_
     refine qP 74 (does_move (v := .int .i64 v3_1) R_) ?_
     obtain ⟨g49, h⟩ := gd_some h
     obtain ⟨x50, hx50, h⟩ := bnd_some h
     refine qP 75 (does_indexAddr_sl (el := .agg [.str x50.Key, .str x50.Value]) W_ W_ ty67 ty91 g49 (by exact map_get hx50)) ?_
     refine qP 76 (does_fieldAddr (q := .rptr [.str x50.Key, .str x50.Value]) W_ ty91 rfl ty9 D_ R_) ?_
     refine qR 77 (does_load (v := .str x50.Key) W_ W_ ty9 R_) ?_
     refine qP 78 (does_bin (v := .bool (ByteArray.toList x48.Key == ByteArray.toList x50.Key)) W_ W_ rfl) ?_
     refine ao_nil_d (by kernel_rfl) ?_
     refine hK46 _ ?_
     refine aw_bool (b := (ByteArray.toList x48.Key == ByteArray.toList x50.Key)) 78 rfl (fun c51 => ?_) (fun c51 => ?_)
     ·have h := ifT c51 h
      refine aw_cond_t D_ rfl ?_
      refine sr fun K52 hK52 => ?_
      refine pa 2 (.bool false) ?_
      refine en hK52 ?_
      refine aw_ret ?_
      have h := leafR h hq41
      have h := leafR h hq22
      obtain rfl := Option.some.inj h
      exact ret_ok1 W_ W_ R_ (.inr rfl) rfl
     ·have h := ifF c51 h
      refine aw_cond_f D_ rfl ?_
      refine aw_skip ?_
      refine hK45 _ ?_
      refine aw_regL ?_
      refine pm 64 (.int .i64 v4_3) ?_
      refine pb 65 (.int .i64 (IntKind.i64.wrap (v4_3 + 1))) ?_
      refine pa 4 (.int .i64 (IntKind.i64.wrap (v4_3 + 1))) ?_
      refine al_nil ?_
      have h := leafL h hq41
      exact ⟨m3, Nat.lt_succ_self _, _, reb_lit [(1, .ptr 1 0 0), (3, .int .i64 v3_1), (4, .int .i64 (IntKind.i64.wrap (v4_3 + 1)))] [(1, 0)] [((1, 0), .box [.int .u64 a0.Trace.Hi, .int .u64 a0.Trace.Lo, .int .u64 a0.Id, .int .u64 a0.Parent, .str a0.Service, .str a0.Op, .int .i64 a0.Start, .int .i64 a0.Dur, .bool a0.Err, .sl 2 (List.map enc90 a0.Attrs)])] [(1, 1)] (ec (ec (ec envOk_nil))) (objOk_cons W_ W_ R_ (by simp) objOk_nil) (nodup_b rfl) (nodup_b rfl) rfl rfl, (IntKind.i64.wrap (v4_3 + 1)), h, rfl⟩
    ·have h := ifF c44 h
     refine aw_cond_f D_ rfl ?_
     refine aw_exit ?_
     have h := leafR h hq41
     refine hK26 _ ?_
     refine aw_regL ?_
     refine pm 40 (.int .i64 v3_1) ?_
     refine pb 41 (.int .i64 (IntKind.i64.wrap (v3_1 + 1))) ?_
     refine pa 3 (.int .i64 (IntKind.i64.wrap (v3_1 + 1))) ?_
     refine al_nil ?_
     have h := leafL h hq22
     exact ⟨m1, Nat.lt_succ_self _, _, reb_lit [(1, .ptr 1 0 0), (3, .int .i64 (IntKind.i64.wrap (v3_1 + 1)))] [(1, 0)] [((1, 0), .box [.int .u64 a0.Trace.Hi, .int .u64 a0.Trace.Lo, .int .u64 a0.Id, .int .u64 a0.Parent, .str a0.Service, .str a0.Op, .int .i64 a0.Start, .int .i64 a0.Dur, .bool a0.Err, .sl 2 (List.map enc90 a0.Attrs)])] [(1, 1)] (ec (ec envOk_nil)) (objOk_cons W_ W_ R_ (by simp) objOk_nil) (nodup_b rfl) (nodup_b rfl) rfl rfl, (IntKind.i64.wrap (v3_1 + 1)), h, rfl⟩
  ·have h := ifF c25 h
   refine aw_cond_f D_ rfl ?_
   refine aw_exit ?_
   have h := leafR h hq22
   refine hK19 _ ?_
   refine sr fun K53 hK53 => ?_
   refine pa 2 (.bool true) ?_
   refine en hK53 ?_
   refine aw_ret ?_
   obtain rfl := Option.some.inj h
   exact ret_ok1 W_ W_ R_ (.inr rfl) rfl
def gleaningref1_Bit (a0 : Bool) : Option Int :=
 if a0 = true then (some 1) else (some 0)
theorem gleaningref1_Bit_ok (a0 : Bool) {r : Int} (h : gleaningref1_Bit a0 = some r) : Ok Try.prog 77 [.bool a0] [] [] (.int .u64 r) [] [] := by
 unfold gleaningref1_Bit at h
 refine ok_of_code Try.func77 rfl (by show (1 : Nat) ≤ _; decide) (Nat.le_refl _) fun X => ?_
 refine sr fun K1 hK1 => ?_
 refine pa 2 (.int .u64 0) ?_
 refine en hK1 ?_
 refine aw_seq_k (fun K2 hK2 => ?_)
 refine sr fun K3 hK3 => ?_
 refine pm 3 (.bool a0) ?_
 refine en hK3 ?_
 refine aw_bool (b := a0) 3 rfl (fun c4 => ?_) (fun c4 => ?_)
 ·have h := ifT c4 h
  refine aw_cond_t D_ rfl ?_
  refine sr fun K5 hK5 => ?_
  refine pa 2 (.int .u64 1) ?_
  refine en hK5 ?_
  refine aw_ret ?_
  obtain rfl := Option.some.inj h
  exact ret_ok1 W_ W_ R_ (.inr rfl) rfl
 ·have h := ifF c4 h
  refine aw_cond_f D_ rfl ?_
  refine aw_skip ?_
  refine hK2 _ ?_
  refine sr fun K6 hK6 => ?_
  refine pa 2 (.int .u64 0) ?_
  refine en hK6 ?_
  refine aw_ret ?_
  obtain rfl := Option.some.inj h
  exact ret_ok1 W_ W_ R_ (.inr rfl) rfl
def gleaningref1_AddSpan_l0 (a1 : Span) (v0_s_0 : List UInt8) (v5_0 : Int) : Option ((List UInt8 × Int) ⊕ (List UInt8)) :=
 if (decide (v5_0 < (List.length a1.Attrs : Int))) = true then (gd (0 ≤ v5_0) (Option.bind (a1.Attrs[(Int.toNat v5_0)]?) (fun (x26 : Attr) => Option.bind (gleaningref1_Text v0_s_0 x26.Key) (fun (x27 : List UInt8) => gd (0 ≤ v5_0) (Option.bind (a1.Attrs[(Int.toNat v5_0)]?) (fun (x29 : Attr) => Option.bind (gleaningref1_Text x27 x29.Value) (fun (x30 : List UInt8) => some (Sum.inl (x30, (IntKind.i64.wrap (v5_0 + 1))))))))))) else (some (Sum.inr v0_s_0))
def gleaningref1_AddSpan (a0 : List UInt8) (a1 : Span) : Option (List UInt8) :=
 Option.bind (gleaningref1_Put a0 a1.Trace.Hi) (fun (x3 : List UInt8) => Option.bind (gleaningref1_Put x3 a1.Trace.Lo) (fun (x4 : List UInt8) => Option.bind (gleaningref1_Put x4 a1.Id) (fun (x5 : List UInt8) => Option.bind (gleaningref1_Put x5 a1.Parent) (fun (x6 : List UInt8) => Option.bind (gleaningref1_Text x6 a1.Service) (fun (x8 : List UInt8) => Option.bind (gleaningref1_Text x8 a1.Op) (fun (x9 : List UInt8) => Option.bind (gleaningref1_Put x9 (IntKind.u64.wrap a1.Start)) (fun (x11 : List UInt8) => Option.bind (gleaningref1_Put x11 (IntKind.u64.wrap a1.Dur)) (fun (x12 : List UInt8) => Option.bind (gleaningref1_Bit a1.Err) (fun (x13 : Int) => Option.bind (gleaningref1_Put x12 x13) (fun (x14 : List UInt8) => Option.bind (gleaningref1_Put x14 (IntKind.u64.wrap (List.length a1.Attrs : Int))) (fun (x16 : List UInt8) => loopN (fun (s : List UInt8 × Int) => gleaningref1_AddSpan_l0 a1 s.1 s.2) Fu (x16, 0))))))))))))
theorem gleaningref1_AddSpan_ok (a0 : List UInt8) (a1 : Span) {r : List UInt8} (h : gleaningref1_AddSpan a0 a1 = some r) : Ok Try.prog 48 [.own 1 0, .agg [.int .u64 a1.Trace.Hi, .int .u64 a1.Trace.Lo, .int .u64 a1.Id, .int .u64 a1.Parent, .str a1.Service, .str a1.Op, .int .i64 a1.Start, .int .i64 a1.Dur, .bool a1.Err, .sl 2 (List.map enc90 a1.Attrs)]] [] [(5, 1, List.map enc5 a0)] (.own 2 0) [] [(5, 1, List.map enc5 r)] := by
 unfold gleaningref1_AddSpan at h
 refine ok_of_code Try.func48 rfl (by show (2 : Nat) ≤ _; decide) (Nat.le_refl _) fun X => ?_
 refine sr fun K1 hK1 => ?_
 refine pD 3 (do_box W_ rfl rfl) ?_
 refine pa 4 (.nil) ?_
 refine en hK1 ?_
 refine aw_seq_k (fun K2 hK2 => ?_)
 refine aw_regd (by kernel_rfl) (by decide +kernel) ?_
 refine qP 6 (does_move (v := .own 1 0) R_) ?_
 refine qP 7 (does_fieldAddr (q := .ptr 3 0 0) W_ ty69 rfl ty66 D_ R_) ?_
 refine qP 8 (does_fieldAddr (q := .ptr 3 0 0) W_ ty66 rfl ty46 D_ R_) ?_
 refine qR 9 (does_load (v := .int .u64 a1.Trace.Hi) W_ W_ ty46 R_) ?_
 obtain ⟨x3, hx3, h⟩ := bnd_some h
 refine qD 10 (do_callG (bcs := []) [] [(1, 0)] [] 10 false (gleaningref1_Put_ok a0 a1.Trace.Hi hx3) rfl ent25 trivial (rowsOk_cons W_ R_ trivial) rfl rfl rfl rfl rfl rfl rfl rfl (.inr ⟨rfl, rfl, ⟨plain_map (fun _ => rfl), trivial⟩⟩)) ?_
 refine qP 11 (does_fieldAddr (q := .ptr 3 0 0) W_ ty69 rfl ty66 D_ R_) ?_
 refine qP 12 (does_fieldAddr (q := .ptr 3 0 1) W_ ty66 rfl ty46 D_ R_) ?_
 refine qR 13 (does_load (v := .int .u64 a1.Trace.Lo) W_ W_ ty46 R_) ?_
 obtain ⟨x4, hx4, h⟩ := bnd_some h
 refine qD 14 (do_callG (bcs := []) [] [(10, 0)] [] 14 false (gleaningref1_Put_ok x3 a1.Trace.Lo hx4) rfl ent25 trivial (rowsOk_cons W_ R_ trivial) rfl rfl rfl rfl rfl rfl rfl rfl (.inr ⟨rfl, rfl, ⟨plain_map (fun _ => rfl), trivial⟩⟩)) ?_
 refine qP 15 (does_fieldAddr (q := .ptr 3 0 2) W_ ty69 rfl ty46 D_ R_) ?_
 refine qR 16 (does_load (v := .int .u64 a1.Id) W_ W_ ty46 R_) ?_
 obtain ⟨x5, hx5, h⟩ := bnd_some h
 refine qD 17 (do_callG (bcs := []) [] [(14, 0)] [] 17 false (gleaningref1_Put_ok x4 a1.Id hx5) rfl ent25 trivial (rowsOk_cons W_ R_ trivial) rfl rfl rfl rfl rfl rfl rfl rfl (.inr ⟨rfl, rfl, ⟨plain_map (fun _ => rfl), trivial⟩⟩)) ?_
 refine qP 18 (does_fieldAddr (q := .ptr 3 0 3) W_ ty69 rfl ty46 D_ R_) ?_
 refine qR 19 (does_load (v := .int .u64 a1.Parent) W_ W_ ty46 R_) ?_
 obtain ⟨x6, hx6, h⟩ := bnd_some h
 refine qD 20 (do_callG (bcs := []) [] [(17, 0)] [] 20 false (gleaningref1_Put_ok x5 a1.Parent hx6) rfl ent25 trivial (rowsOk_cons W_ R_ trivial) rfl rfl rfl rfl rfl rfl rfl rfl (.inr ⟨rfl, rfl, ⟨plain_map (fun _ => rfl), trivial⟩⟩)) ?_
 refine qP 0 (does_assign (v := .own 20 0) R_) ?_
 refine ao_nil_d (by kernel_rfl) ?_
 refine hK2 _ ?_
 refine aw_seq_k (fun K7 hK7 => ?_)
 refine aw_regd (by kernel_rfl) (by decide +kernel) ?_
 refine qP 21 (does_move (v := .own 20 0) R_) ?_
 refine qP 22 (does_fieldAddr (q := .ptr 3 0 4) W_ ty69 rfl ty9 D_ R_) ?_
 refine qR 23 (does_load (v := .str a1.Service) W_ W_ ty9 R_) ?_
 obtain ⟨x8, hx8, h⟩ := bnd_some h
 refine qD 24 (do_callG (bcs := []) [] [(20, 0)] [] 24 false (gleaningref1_Text_ok x6 a1.Service hx8) rfl ent76 trivial (rowsOk_cons W_ R_ trivial) rfl rfl rfl rfl rfl rfl rfl rfl (.inr ⟨rfl, rfl, ⟨plain_map (fun _ => rfl), trivial⟩⟩)) ?_
 refine qP 25 (does_fieldAddr (q := .ptr 3 0 5) W_ ty69 rfl ty9 D_ R_) ?_
 refine qR 26 (does_load (v := .str a1.Op) W_ W_ ty9 R_) ?_
 obtain ⟨x9, hx9, h⟩ := bnd_some h
 refine qD 27 (do_callG (bcs := []) [] [(24, 0)] [] 27 false (gleaningref1_Text_ok x8 a1.Op hx9) rfl ent76 trivial (rowsOk_cons W_ R_ trivial) rfl rfl rfl rfl rfl rfl rfl rfl (.inr ⟨rfl, rfl, ⟨plain_map (fun _ => rfl), trivial⟩⟩)) ?_
 refine qP 0 (does_assign (v := .own 27 0) R_) ?_
 refine ao_nil_d (by kernel_rfl) ?_
 refine hK7 _ ?_
 refine aw_seq_k (fun K10 hK10 => ?_)
 refine aw_regd (by kernel_rfl) (by decide +kernel) ?_
 refine qP 28 (does_move (v := .own 27 0) R_) ?_
 refine qP 29 (does_fieldAddr (q := .ptr 3 0 6) W_ ty69 rfl ty3 D_ R_) ?_
 refine qR 30 (does_load (v := .int .i64 a1.Start) W_ W_ ty3 R_) ?_
 refine qP 31 (does_conv_int (v := .int .u64 (IntKind.u64.wrap a1.Start)) W_ (ty_some ty3) (ty_int ty46) rfl) ?_
 obtain ⟨x11, hx11, h⟩ := bnd_some h
 refine qD 32 (do_callG (bcs := []) [] [(27, 0)] [] 32 false (gleaningref1_Put_ok x9 (IntKind.u64.wrap a1.Start) hx11) rfl ent25 trivial (rowsOk_cons W_ R_ trivial) rfl rfl rfl rfl rfl rfl rfl rfl (.inr ⟨rfl, rfl, ⟨plain_map (fun _ => rfl), trivial⟩⟩)) ?_
 refine qP 33 (does_fieldAddr (q := .ptr 3 0 7) W_ ty69 rfl ty3 D_ R_) ?_
 refine qR 34 (does_load (v := .int .i64 a1.Dur) W_ W_ ty3 R_) ?_
 refine qP 35 (does_conv_int (v := .int .u64 (IntKind.u64.wrap a1.Dur)) W_ (ty_some ty3) (ty_int ty46) rfl) ?_
 obtain ⟨x12, hx12, h⟩ := bnd_some h
 refine qD 36 (do_callG (bcs := []) [] [(32, 0)] [] 36 false (gleaningref1_Put_ok x11 (IntKind.u64.wrap a1.Dur) hx12) rfl ent25 trivial (rowsOk_cons W_ R_ trivial) rfl rfl rfl rfl rfl rfl rfl rfl (.inr ⟨rfl, rfl, ⟨plain_map (fun _ => rfl), trivial⟩⟩)) ?_
 refine qP 37 (does_fieldAddr (q := .ptr 3 0 8) W_ ty69 rfl ty4 D_ R_) ?_
 refine qR 38 (does_load (v := .bool a1.Err) W_ W_ ty4 R_) ?_
 obtain ⟨x13, hx13, h⟩ := bnd_some h
 refine qD 39 (do_call0 39 false (gleaningref1_Bit_ok a1.Err hx13) rfl ent77 rfl rfl) ?_
 obtain ⟨x14, hx14, h⟩ := bnd_some h
 refine qD 40 (do_callG (bcs := []) [] [(36, 0)] [] 40 false (gleaningref1_Put_ok x12 x13 hx14) rfl ent25 trivial (rowsOk_cons W_ R_ trivial) rfl rfl rfl rfl rfl rfl rfl rfl (.inr ⟨rfl, rfl, ⟨plain_map (fun _ => rfl), trivial⟩⟩)) ?_
 refine qP 0 (does_assign (v := .own 40 0) R_) ?_
 refine ao_nil_d (by kernel_rfl) ?_
 refine hK10 _ ?_
 refine sr fun K15 hK15 => ?_
 refine pm 41 (.own 40 0) ?_
 refine pf 42 (.ptr 3 0 9) ty69 ty67 ?_
 refine pl 43 (.sl 2 (List.map enc90 a1.Attrs)) ty67 ?_
 refine pP 44 ((does_len_sl W_ ty67).castp (v' := .int .i64 (List.length a1.Attrs : Int)) (by exact len_map _)) ?_
 refine pP 45 (does_conv_int (v := .int .u64 (IntKind.u64.wrap (List.length a1.Attrs : Int))) W_ (ty_some ty3) (ty_int ty46) rfl) ?_
 obtain ⟨x16, hx16, h⟩ := bnd_some h
 refine pD 46 (do_callG (bcs := []) [] [(40, 0)] [] 46 false (gleaningref1_Put_ok x14 (IntKind.u64.wrap (List.length a1.Attrs : Int)) hx16) rfl ent25 trivial (rowsOk_cons W_ R_ trivial) rfl rfl rfl rfl rfl rfl rfl rfl (.inr ⟨rfl, rfl, ⟨plain_map (fun _ => rfl), trivial⟩⟩)) ?_
 refine pa 0 (.own 46 0) ?_
 refine en hK15 ?_
 refine aw_seq_k (fun K17 hK17 => ?_)
 refine sr fun K18 hK18 => ?_
 refine pa 5 (.int .i64 0) ?_
 refine en hK18 ?_
 refine aw_block ?_
 refine aw_loop' (fun m s => ∃ (v0_s_0 : List UInt8), ∃ (v5_0 : Int), loopN (fun (s : List UInt8 × Int) => gleaningref1_AddSpan_l0 a1 s.1 s.2) m (v0_s_0, v5_0) = some r ∧ s = lit [(0, .own 46 0), (3, .ptr 3 0 0), (5, .int .i64 v5_0)] [((46, 0), .arr 5 1 false (List.map enc5 v0_s_0)), ((3, 0), .box [.int .u64 a1.Trace.Hi, .int .u64 a1.Trace.Lo, .int .u64 a1.Id, .int .u64 a1.Parent, .str a1.Service, .str a1.Op, .int .i64 a1.Start, .int .i64 a1.Dur, .bool a1.Err, .sl 2 (List.map enc90 a1.Attrs)])] [(3, 1), (46, 1)] X) Fu
  ⟨_, reb_lit [(0, .own 46 0), (3, .ptr 3 0 0), (5, .int .i64 (0))] [(46, 0), (3, 0)] [((46, 0), .arr 5 1 false (List.map enc5 x16)), ((3, 0), .box [.int .u64 a1.Trace.Hi, .int .u64 a1.Trace.Lo, .int .u64 a1.Id, .int .u64 a1.Parent, .str a1.Service, .str a1.Op, .int .i64 a1.Start, .int .i64 a1.Dur, .bool a1.Err, .sl 2 (List.map enc90 a1.Attrs)])] [(3, 1), (46, 1)] (ec (ec (ec envOk_nil))) (objOk_cons W_ W_ R_ (by simp) (objOk_cons W_ W_ R_ (by simp) objOk_nil)) (nodup_b rfl) (nodup_b rfl) rfl rfl, x16, 0, h, rfl⟩ ?_
 rintro m s ⟨v0_s_0, v5_0, h, rfl⟩
 obtain ⟨m0, q19, rfl, h, hq20⟩ := loop_some h
 replace h : gleaningref1_AddSpan_l0 a1 v0_s_0 v5_0 = some q19 := h
 unfold gleaningref1_AddSpan_l0 at h
 refine aw_seq_k (fun K21 hK21 => ?_)
 refine sr fun K22 hK22 => ?_
 refine pm 47 (.int .i64 v5_0) ?_
 refine pf 48 (.ptr 3 0 9) ty69 ty67 ?_
 refine pl 49 (.sl 2 (List.map enc90 a1.Attrs)) ty67 ?_
 refine pP 50 ((does_len_sl W_ ty67).castp (v' := .int .i64 (List.length a1.Attrs : Int)) (by exact len_map _)) ?_
 refine pb 51 (.bool (decide (v5_0 < (List.length a1.Attrs : Int)))) ?_
 refine en hK22 ?_
 refine aw_bool (b := (decide (v5_0 < (List.length a1.Attrs : Int)))) 51 rfl (fun c23 => ?_) (fun c23 => ?_)
 ·have h := ifT c23 h
  refine aw_cond_t D_ rfl ?_
  refine aw_skip ?_
  refine hK21 _ ?_
  refine aw_seq_k (fun K24 hK24 => ?_)
  refine aw_block ?_
  refine aw_regd (by kernel_rfl) (by decide +kernel) ?_
  refine qP 54 (does_move (v := .own 46 0) R_) ?_
  refine qP 55 (does_fieldAddr (q := .ptr 3 0 9) W_ ty69 rfl ty67 D_ R_) ?_
  refine qR 56 (does_load (v := .sl 2 (List.map enc90 a1.Attrs)) W_ W_ ty67 R_) ?_
  refine qP 57 (does_move (v := .int .i64 v5_0) R_) ?_
  obtain ⟨g25, h⟩ := gd_some h
  obtain ⟨x26, hx26, h⟩ := bnd_some h
  refine qP 58 (does_indexAddr_sl (el := .agg [.str x26.Key, .str x26.Value]) W_ W_ ty67 ty91 g25 (by exact map_get hx26)) ?_
  refine qP 59 (does_fieldAddr (q := .rptr [.str x26.Key, .str x26.Value]) W_ ty91 rfl ty9 D_ R_) ?_
  refine qR 60 (does_load (v := .str x26.Key) W_ W_ ty9 R_) ?_
  obtain ⟨x27, hx27, h⟩ := bnd_some h
  refine qD 61 (do_callG (bcs := []) [] [(46, 0)] [] 61 false (gleaningref1_Text_ok v0_s_0 x26.Key hx27) rfl ent76 trivial (rowsOk_cons W_ R_ trivial) rfl rfl rfl rfl rfl rfl rfl rfl (.inr ⟨rfl, rfl, ⟨plain_map (fun _ => rfl), trivial⟩⟩)) ?_
  refine qP 62 (does_fieldAddr (q := .ptr 3 0 9) W_ ty69 rfl ty67 D_ R_) ?_
  refine qR 63 (does_load (v := .sl 2 (List.map enc90 a1.Attrs)) W_ W_ ty67 R_) ?_
  refine qP 64 (does_move (v := .int .i64 v5_0) R_) ?_
  obtain ⟨g28, h⟩ := gd_some h
  obtain ⟨x29, hx29, h⟩ := bnd_some h
  refine qP 65 (does_indexAddr_sl (el := .agg [.str x29.Key, .str x29.Value]) W_ W_ ty67 ty91 g28 (by exact map_get hx29)) ?_
  refine qP 66 (does_fieldAddr (q := .rptr [.str x29.Value]) W_ ty91 rfl ty9 D_ R_) ?_
  refine qR 67 (does_load (v := .str x29.Value) W_ W_ ty9 R_) ?_
  obtain ⟨x30, hx30, h⟩ := bnd_some h
  refine qD 68 (do_callG (bcs := []) [] [(61, 0)] [] 68 false (gleaningref1_Text_ok x27 x29.Value hx30) rfl ent76 trivial (rowsOk_cons W_ R_ trivial) rfl rfl rfl rfl rfl rfl rfl rfl (.inr ⟨rfl, rfl, ⟨plain_map (fun _ => rfl), trivial⟩⟩)) ?_
  refine qP 0 (does_assign (v := .own 68 0) R_) ?_
  refine ao_nil_d (by kernel_rfl) ?_
  refine hK24 _ ?_
  refine aw_regL ?_
  refine pm 52 (.int .i64 v5_0) ?_
  refine pb 53 (.int .i64 (IntKind.i64.wrap (v5_0 + 1))) ?_
  refine pa 5 (.int .i64 (IntKind.i64.wrap (v5_0 + 1))) ?_
  refine al_nil ?_
  have h := leafL h hq20
  exact ⟨m0, Nat.lt_succ_self _, _, reb_lit [(0, .own 46 0), (3, .ptr 3 0 0), (5, .int .i64 (IntKind.i64.wrap (v5_0 + 1)))] [(68, 0), (3, 0)] [((46, 0), .arr 5 1 false (List.map enc5 x30)), ((3, 0), .box [.int .u64 a1.Trace.Hi, .int .u64 a1.Trace.Lo, .int .u64 a1.Id, .int .u64 a1.Parent, .str a1.Service, .str a1.Op, .int .i64 a1.Start, .int .i64 a1.Dur, .bool a1.Err, .sl 2 (List.map enc90 a1.Attrs)])] [(3, 1), (46, 1)] (ec (ec (ec envOk_nil))) (objOk_cons W_ W_ R_ (by simp) (objOk_cons W_ W_ R_ (by simp) objOk_nil)) (nodup_b rfl) (nodup_b rfl) rfl rfl, x30, (IntKind.i64.wrap (v5_0 + 1)), h, rfl⟩
 ·have h := ifF c23 h
  refine aw_cond_f D_ rfl ?_
  refine aw_exit ?_
  have h := leafR h hq20
  refine hK17 _ ?_
  refine sr fun K31 hK31 => ?_
  refine pm 69 (.own 46 0) ?_
  refine pa 4 (.own 46 0) ?_
  refine en hK31 ?_
  refine aw_ret ?_
  obtain rfl := Option.some.inj h
  exact ret_okR [(46, 0)] W_ W_ R_ (rowsOk_cons W_ R_ trivial) (nodup_b rfl) (.inr rfl) rfl
def gleaningref1_Reader_Span_k2 (vb0_s_0_1 : List UInt8) (vb0_s_1_1 : Bool) (v3_s_9_s_1 : List Attr) (v5_1 : Int) : Option ((List UInt8 × Bool × List Attr × Int) ⊕ (List UInt8 × Bool × List Attr)) :=
 Option.bind (gleaningref1_Reader_Text (Reader.mk vb0_s_0_1 vb0_s_1_1)) (fun (x26 : ByteArray × Reader) => Option.bind (gleaningref1_Reader_Text x26.2) (fun (x27 : ByteArray × Reader) => gd ((List.length (v3_s_9_s_1 ++ [(Attr.mk x26.1 x27.1)])) * 32 ≤ 140737488355328 ∧ (List.length (v3_s_9_s_1 ++ [(Attr.mk x26.1 x27.1)])) ≤ 140737488355328) (some (Sum.inl (x27.2.B, x27.2.Bad, (v3_s_9_s_1 ++ [(Attr.mk x26.1 x27.1)]), (IntKind.i64.wrap (v5_1 + 1)))))))
def gleaningref1_Reader_Span_l1 (x14 : Int × Reader) (vb0_s_0_1 : List UInt8) (vb0_s_1_1 : Bool) (v3_s_9_s_1 : List Attr) (v5_1 : Int) : Option ((List UInt8 × Bool × List Attr × Int) ⊕ (List UInt8 × Bool × List Attr)) :=
 Option.bind (if (decide (v5_1 < x14.1)) = true then (if (!vb0_s_1_1) = true then (some (Sum.inl ())) else (some (Sum.inr (Sum.inr (vb0_s_0_1, vb0_s_1_1, v3_s_9_s_1))))) else (some (Sum.inr (Sum.inr (vb0_s_0_1, vb0_s_1_1, v3_s_9_s_1))))) (Sum.elim (fun (s : Unit) => gleaningref1_Reader_Span_k2 vb0_s_0_1 vb0_s_1_1 v3_s_9_s_1 v5_1) some)
def gleaningref1_Reader_Span_k0 (x3 : Int × Reader) (x4 : Int × Reader) (x5 : Int × Reader) (x6 : Int × Reader) (x7 : ByteArray × Reader) (x8 : ByteArray × Reader) (x9 : Int × Reader) (x10 : Int × Reader) (x12 : Int × Reader) (vb0_s_0_0 : List UInt8) (vb0_s_1_0 : Bool) (v3_s_9_s_0 : List Attr) : Option (Span × Reader) :=
 if vb0_s_1_0 = true then (some ((Span.mk (Trace.mk x3.1 x4.1) x5.1 x6.1 x7.1 x8.1 x9.1 x10.1 (x12.1 == 1) v3_s_9_s_0), (Reader.mk vb0_s_0_0 true))) else (Option.bind (gleaningref1_RightSpan (Span.mk (Trace.mk x3.1 x4.1) x5.1 x6.1 x7.1 x8.1 x9.1 x10.1 (x12.1 == 1) v3_s_9_s_0)) (fun (x32 : Bool) => some ((Span.mk (Trace.mk x3.1 x4.1) x5.1 x6.1 x7.1 x8.1 x9.1 x10.1 (x12.1 == 1) v3_s_9_s_0), (Reader.mk vb0_s_0_0 (!x32)))))
def gleaningref1_Reader_Span (a0 : Reader) : Option (Span × Reader) :=
 Option.bind (gleaningref1_Reader_Num a0) (fun (x3 : Int × Reader) => Option.bind (gleaningref1_Reader_Num x3.2) (fun (x4 : Int × Reader) => Option.bind (gleaningref1_Reader_Num x4.2) (fun (x5 : Int × Reader) => Option.bind (gleaningref1_Reader_Num x5.2) (fun (x6 : Int × Reader) => Option.bind (gleaningref1_Reader_Text x6.2) (fun (x7 : ByteArray × Reader) => Option.bind (gleaningref1_Reader_Text x7.2) (fun (x8 : ByteArray × Reader) => Option.bind (gleaningref1_Reader_Int x8.2 1099511627776) (fun (x9 : Int × Reader) => Option.bind (gleaningref1_Reader_Int x9.2 1073741824) (fun (x10 : Int × Reader) => Option.bind (gleaningref1_Reader_Int x10.2 1) (fun (x12 : Int × Reader) => Option.bind (gleaningref1_Reader_Int x12.2 4) (fun (x14 : Int × Reader) => Option.bind (loopN (fun (s : List UInt8 × Bool × List Attr × Int) => gleaningref1_Reader_Span_l1 x14 s.1 s.2.1 s.2.2.1 s.2.2.2) Fu (x14.2.B, x14.2.Bad, [], 0)) (fun (s : List UInt8 × Bool × List Attr) => gleaningref1_Reader_Span_k0 x3 x4 x5 x6 x7 x8 x9 x10 x12 s.1 s.2.1 s.2.2)))))))))))
theorem gleaningref1_Reader_Span_ok (a0 : Reader) {r : Span × Reader} (h : gleaningref1_Reader_Span a0 = some r) : Ok Try.prog 43 [.ptr 0 0 0] [[.sl 1 (List.map enc5 a0.B), .bool a0.Bad]] [] (.agg [.int .u64 r.1.Trace.Hi, .int .u64 r.1.Trace.Lo, .int .u64 r.1.Id, .int .u64 r.1.Parent, .str r.1.Service, .str r.1.Op, .int .i64 r.1.Start, .int .i64 r.1.Dur, .bool r.1.Err, .own 2 0]) [[.sl 1 (List.map enc5 r.2.B), .bool r.2.Bad]] [(91, 2, List.map enc90 r.1.Attrs)] := by
 unfold gleaningref1_Reader_Span at h
 refine ok_of_code Try.func43 rfl (by show (1 : Nat) ≤ _; decide) (Nat.le_refl _) fun X => ?_
 refine sr fun K1 hK1 => ?_
 refine pD 2 (do_new ty69 rfl rfl) ?_
 refine en hK1 ?_
 refine sr fun K2 hK2 => ?_
 refine pm 6 (.ptr 0 0 0) ?_
 obtain ⟨x3, hx3, h⟩ := bnd_some h
 refine pD 7 (do_callG (bcs := [[.sl 1 (List.map enc5 a0.B), .bool a0.Bad]]) [(0, 0)] [] [] 7 false (gleaningref1_Reader_Num_ok a0 hx3) rfl ent44 ⟨R_, trivial⟩ trivial rfl rfl rfl rfl rfl rfl rfl rfl (.inl trivial)) ?_
 refine pm 8 (.ptr 0 0 0) ?_
 obtain ⟨x4, hx4, h⟩ := bnd_some h
 refine pD 9 (do_callG (bcs := [[.sl 1 (List.map enc5 x3.2.B), .bool x3.2.Bad]]) [(0, 0)] [] [] 9 false (gleaningref1_Reader_Num_ok x3.2 hx4) rfl ent44 ⟨R_, trivial⟩ trivial rfl rfl rfl rfl rfl rfl rfl rfl (.inl trivial)) ?_
 refine pP 10 (do_build_struct (cs := [.int .u64 x3.1, .int .u64 x4.1]) ty66 rfl [⟨.int .u64, 1, 8, [.int .u64 0]⟩, ⟨.int .u64, 1, 8, [.int .u64 0]⟩] (by simp only [List.map, ty46]) (by rfl) R_) ?_
 refine pm 11 (.ptr 0 0 0) ?_
 obtain ⟨x5, hx5, h⟩ := bnd_some h
 refine pD 12 (do_callG (bcs := [[.sl 1 (List.map enc5 x4.2.B), .bool x4.2.Bad]]) [(0, 0)] [] [] 12 false (gleaningref1_Reader_Num_ok x4.2 hx5) rfl ent44 ⟨R_, trivial⟩ trivial rfl rfl rfl rfl rfl rfl rfl rfl (.inl trivial)) ?_
 refine pm 13 (.ptr 0 0 0) ?_
 obtain ⟨x6, hx6, h⟩ := bnd_some h
 refine pD 14 (do_callG (bcs := [[.sl 1 (List.map enc5 x5.2.B), .bool x5.2.Bad]]) [(0, 0)] [] [] 14 false (gleaningref1_Reader_Num_ok x5.2 hx6) rfl ent44 ⟨R_, trivial⟩ trivial rfl rfl rfl rfl rfl rfl rfl rfl (.inl trivial)) ?_
 refine pm 15 (.ptr 0 0 0) ?_
 obtain ⟨x7, hx7, h⟩ := bnd_some h
 refine pD 16 (do_callG (bcs := [[.sl 1 (List.map enc5 x6.2.B), .bool x6.2.Bad]]) [(0, 0)] [] [] 16 false (gleaningref1_Reader_Text_ok x6.2 hx7) rfl ent71 ⟨R_, trivial⟩ trivial rfl rfl rfl rfl rfl rfl rfl rfl (.inl trivial)) ?_
 refine pm 17 (.ptr 0 0 0) ?_
 obtain ⟨x8, hx8, h⟩ := bnd_some h
 refine pD 18 (do_callG (bcs := [[.sl 1 (List.map enc5 x7.2.B), .bool x7.2.Bad]]) [(0, 0)] [] [] 18 false (gleaningref1_Reader_Text_ok x7.2 hx8) rfl ent71 ⟨R_, trivial⟩ trivial rfl rfl rfl rfl rfl rfl rfl rfl (.inl trivial)) ?_
 refine pm 19 (.ptr 0 0 0) ?_
 obtain ⟨x9, hx9, h⟩ := bnd_some h
 refine pD 20 (do_callG (bcs := [[.sl 1 (List.map enc5 x8.2.B), .bool x8.2.Bad]]) [(0, 0)] [] [] 20 false (gleaningref1_Reader_Int_ok x8.2 1099511627776 hx9) rfl ent22 ⟨R_, trivial⟩ trivial rfl rfl rfl rfl rfl rfl rfl rfl (.inl trivial)) ?_
 refine pm 21 (.ptr 0 0 0) ?_
 obtain ⟨x10, hx10, h⟩ := bnd_some h
 refine pD 22 (do_callG (bcs := [[.sl 1 (List.map enc5 x9.2.B), .bool x9.2.Bad]]) [(0, 0)] [] [] 22 false (gleaningref1_Reader_Int_ok x9.2 1073741824 hx10) rfl ent22 ⟨R_, trivial⟩ trivial rfl rfl rfl rfl rfl rfl rfl rfl (.inl trivial)) ?_
 refine pP 23 (do_build_struct (cs := [.int .u64 x3.1, .int .u64 x4.1, .int .u64 x5.1, .int .u64 x6.1, .str x7.1, .str x8.1, .int .i64 x9.1, .int .i64 x10.1, .bool false, .nil]) ty69 rfl [⟨.struct [(0, 46), (1, 46)], 2, 16, [.int .u64 0, .int .u64 0]⟩, ⟨.int .u64, 1, 8, [.int .u64 0]⟩, ⟨.int .u64, 1, 8, [.int .u64 0]⟩, ⟨.str, 1, 16, [.str ByteArray.empty]⟩, ⟨.str, 1, 16, [.str ByteArray.empty]⟩, ⟨.int .i64, 1, 8, [.int .i64 0]⟩, ⟨.int .i64, 1, 8, [.int .i64 0]⟩, ⟨.bool, 1, 1, [.bool false]⟩, ⟨.slice 91, 1, 24, [.nil]⟩] (by simp only [List.map, ty3, ty4, ty46, ty66, ty67, ty9]) (by rfl) R_) ?_
 refine pD 3 (do_new ty69 rfl rfl) ?_
 refine alD none rfl rfl (do_store (cs' := [.int .u64 x3.1, .int .u64 x4.1, .int .u64 x5.1, .int .u64 x6.1, .str x7.1, .str x8.1, .int .i64 x9.1, .int .i64 x10.1, .bool false, .nil]) W_ W_ W_ ty69 rfl rfl rfl R_) D_ ?_
 refine en hK2 ?_
 refine sr fun K11 hK11 => ?_
 refine pm 24 (.ptr 0 0 0) ?_
 obtain ⟨x12, hx12, h⟩ := bnd_some h
 refine pD 25 (do_callG (bcs := [[.sl 1 (List.map enc5 x10.2.B), .bool x10.2.Bad]]) [(0, 0)] [] [] 25 false (gleaningref1_Reader_Int_ok x10.2 1 hx12) rfl ent22 ⟨R_, trivial⟩ trivial rfl rfl rfl rfl rfl rfl rfl rfl (.inl trivial)) ?_
 refine pb 26 (.bool (x12.1 == 1)) ?_
 refine pf 27 (.ptr 3 0 8) ty69 ty4 ?_
 refine alD none rfl rfl (do_store (cs' := [.int .u64 x3.1, .int .u64 x4.1, .int .u64 x5.1, .int .u64 x6.1, .str x7.1, .str x8.1, .int .i64 x9.1, .int .i64 x10.1, .bool (x12.1 == 1), .nil]) W_ W_ W_ ty4 rfl rfl rfl R_) D_ ?_
 refine en hK11 ?_
 refine sr fun K13 hK13 => ?_
 refine pm 28 (.ptr 0 0 0) ?_
 obtain ⟨x14, hx14, h⟩ := bnd_some h
 refine pD 29 (do_callG (bcs := [[.sl 1 (List.map enc5 x12.2.B), .bool x12.2.Bad]]) [(0, 0)] [] [] 29 false (gleaningref1_Reader_Int_ok x12.2 4 hx14) rfl ent22 ⟨R_, trivial⟩ trivial rfl rfl rfl rfl rfl rfl rfl rfl (.inl trivial)) ?_
 refine pa 4 (.int .i64 x14.1) ?_
 refine en hK13 ?_
 obtain ⟨q15, h, hk16⟩ := bnd_some h
 refine aw_cut (fun s => ∃ (vb0_s_0_0 : List UInt8), ∃ (vb0_s_1_0 : Bool), ∃ (v3_s_9_s_0 : List Attr), gleaningref1_Reader_Span_k0 x3 x4 x5 x6 x7 x8 x9 x10 x12 vb0_s_0_0 vb0_s_1_0 v3_s_9_s_0 = some r ∧ s = lit [(0, .ptr 0 0 0), (2, .ptr 2 0 0), (3, .ptr 3 0 0)] [((0, 0), .box [.sl 1 (List.map enc5 vb0_s_0_0), .bool vb0_s_1_0]), ((2, 0), .box [.int .u64 0, .int .u64 0, .int .u64 0, .int .u64 0, .str (strOf []), .str (strOf []), .int .i64 0, .int .i64 0, .bool false, .nil]), ((3, 0), .box [.int .u64 x3.1, .int .u64 x4.1, .int .u64 x5.1, .int .u64 x6.1, .str x7.1, .str x8.1, .int .i64 x9.1, .int .i64 x10.1, .bool (x12.1 == 1), .own 3 1]), ((3, 1), .arr 91 2 false (List.map enc90 v3_s_9_s_0))] [(0, 1), (2, 1), (3, 2)] X) ?_ ?_
 ·skip
  refine sr fun K17 hK17 => ?_
  refine pa 5 (.int .i64 0) ?_
  refine en hK17 ?_
  refine aw_block ?_
  refine aw_nilOwnC 3 0 9 3 91 2 (cs := [.int .u64 x3.1, .int .u64 x4.1, .int .u64 x5.1, .int .u64 x6.1, .str x7.1, .str x8.1, .int .i64 x9.1, .int .i64 x10.1, .bool (x12.1 == 1), .nil]) W_ rfl D_ ?_
  refine aw_loop' (fun m s => ∃ (vb0_s_0_1 : List UInt8), ∃ (vb0_s_1_1 : Bool), ∃ (v3_s_9_s_1 : List Attr), ∃ (v5_1 : Int), loopN (fun (s : List UInt8 × Bool × List Attr × Int) => gleaningref1_Reader_Span_l1 x14 s.1 s.2.1 s.2.2.1 s.2.2.2) m (vb0_s_0_1, vb0_s_1_1, v3_s_9_s_1, v5_1) = some q15 ∧ s = lit [(0, .ptr 0 0 0), (2, .ptr 2 0 0), (3, .ptr 3 0 0), (4, .int .i64 x14.1), (5, .int .i64 v5_1)] [((0, 0), .box [.sl 1 (List.map enc5 vb0_s_0_1), .bool vb0_s_1_1]), ((2, 0), .box [.int .u64 0, .int .u64 0, .int .u64 0, .int .u64 0, .str (strOf []), .str (strOf []), .int .i64 0, .int .i64 0, .bool false, .nil]), ((3, 0), .box [.int .u64 x3.1, .int .u64 x4.1, .int .u64 x5.1, .int .u64 x6.1, .str x7.1, .str x8.1, .int .i64 x9.1, .int .i64 x10.1, .bool (x12.1 == 1), .own 3 1]), ((3, 1), .arr 91 2 false (List.map enc90 v3_s_9_s_1))] [(0, 1), (2, 1), (3, 2)] X) Fu
   ⟨_, reb_lit [(0, .ptr 0 0 0), (2, .ptr 2 0 0), (3, .ptr 3 0 0), (4, .int .i64 x14.1), (5, .int .i64 (0))] [(0, 0), (2, 0), (3, 0), (3, 1)] [((0, 0), .box [.sl 1 (List.map enc5 x14.2.B), .bool x14.2.Bad]), ((2, 0), .box [.int .u64 0, .int .u64 0, .int .u64 0, .int .u64 0, .str (strOf []), .str (strOf []), .int .i64 0, .int .i64 0, .bool false, .nil]), ((3, 0), .box [.int .u64 x3.1, .int .u64 x4.1, .int .u64 x5.1, .int .u64 x6.1, .str x7.1, .str x8.1, .int .i64 x9.1, .int .i64 x10.1, .bool (x12.1 == 1), .own 3 1]), ((3, 1), .arr 91 2 false (List.map enc90 []))] [(0, 1), (2, 1), (3, 2)] (ec (ec (ec (ec (ec envOk_nil))))) (objOk_cons W_ W_ R_ (by simp) (objOk_cons W_ W_ R_ (by simp) (objOk_cons W_ W_ R_ (by simp) (objOk_cons W_ W_ R_ (by simp) objOk_nil)))) (nodup_b rfl) (nodup_b rfl) rfl rfl, x14.2.B, x14.2.Bad, [], 0, h, rfl⟩ ?_
  rintro m s ⟨vb0_s_0_1, vb0_s_1_1, v3_s_9_s_1, v5_1, h, rfl⟩
  obtain ⟨m1, q18, rfl, h, hq19⟩ := loop_some h
  replace h : gleaningref1_Reader_Span_l1 x14 vb0_s_0_1 vb0_s_1_1 v3_s_9_s_1 v5_1 = some q18 := h
  unfold gleaningref1_Reader_Span_l1 at h
  obtain ⟨q20, h, hk21⟩ := bnd_some h
  refine aw_cut (fun s => gleaningref1_Reader_Span_k2 vb0_s_0_1 vb0_s_1_1 v3_s_9_s_1 v5_1 = some q18 ∧ s = lit [(0, .ptr 0 0 0), (2, .ptr 2 0 0), (3, .ptr 3 0 0), (4, .int .i64 x14.1), (5, .int .i64 v5_1)] [((0, 0), .box [.sl 1 (List.map enc5 vb0_s_0_1), .bool vb0_s_1_1]), ((2, 0), .box [.int .u64 0, .int .u64 0, .int .u64 0, .int .u64 0, .str (strOf []), .str (strOf []), .int .i64 0, .int .i64 0, .bool false, .nil]), ((3, 0), .box [.int .u64 x3.1, .int .u64 x4.1, .int .u64 x5.1, .int .u64 x6.1, .str x7.1, .str x8.1, .int .i64 x9.1, .int .i64 x10.1, .bool (x12.1 == 1), .own 3 1]), ((3, 1), .arr 91 2 false (List.map enc90 v3_s_9_s_1))] [(0, 1), (2, 1), (3, 2)] X) ?_ ?_
  ·skip
   refine sr fun K22 hK22 => ?_
   refine pm 30 (.int .i64 v5_1) ?_
   refine pm 31 (.int .i64 x14.1) ?_
   refine pb 32 (.bool (decide (v5_1 < x14.1))) ?_
   refine pm 33 (.bool (decide (v5_1 < x14.1))) ?_
   refine al_bool (c := (decide (v5_1 < x14.1))) 33 rfl (fun c23 => ?_) (fun c23 => ?_)
   ·have h := ifT c23 h
    refine pm 34 (.ptr 0 0 0) ?_
    refine pP 35 (does_nilCheck (p := .ptr 0 0 0) W_ rfl) ?_
    refine pf 36 (.ptr 0 0 1) ty59 ty4 ?_
    refine pl 37 (.bool vb0_s_1_1) ty4 ?_
    refine pP 38 (does_un (v := .bool (!vb0_s_1_1)) W_ rfl) ?_
    refine pk 39 (.bool (!vb0_s_1_1)) ?_
    refine en hK22 ?_
    refine aw_bool (b := (!vb0_s_1_1)) 39 rfl (fun c24 => ?_) (fun c24 => ?_)
    ·have h := ifT c24 h
     refine aw_cond_t D_ rfl ?_
     refine aw_skip ?_
     have h := leafL h hk21
     exact ⟨_, reb_lit [(0, .ptr 0 0 0), (2, .ptr 2 0 0), (3, .ptr 3 0 0), (4, .int .i64 x14.1), (5, .int .i64 v5_1)] [(0, 0), (2, 0), (3, 0), (3, 1)] [((0, 0), .box [.sl 1 (List.map enc5 vb0_s_0_1), .bool vb0_s_1_1]), ((2, 0), .box [.int .u64 0, .int .u64 0, .int .u64 0, .int .u64 0, .str (strOf []), .str (strOf []), .int .i64 0, .int .i64 0, .bool false, .nil]), ((3, 0), .box [.int .u64 x3.1, .int .u64 x4.1, .int .u64 x5.1, .int .u64 x6.1, .str x7.1, .str x8.1, .int .i64 x9.1, .int .i64 x10.1, .bool (x12.1 == 1), .own 3 1]), ((3, 1), .arr 91 2 false (List.map enc90 v3_s_9_s_1))] [(0, 1), (2, 1), (3, 2)] (ec (ec (ec (ec (ec envOk_nil))))) (objOk_cons W_ W_ R_ (by simp) (objOk_cons W_ W_ R_ (by simp) (objOk_cons W_ W_ R_ (by simp) (objOk_cons W_ W_ R_ (by simp) objOk_nil)))) (nodup_b rfl) (nodup_b rfl) rfl rfl, h, rfl⟩
    ·have h := ifF c24 h
     refine aw_cond_f D_ rfl ?_
     refine aw_exit ?_
     have h := leafR h hk21
     have h := leafR h hq19
     obtain rfl := Option.some.inj h
     have h := hk16
     exact ⟨_, reb_lit [(0, .ptr 0 0 0), (2, .ptr 2 0 0), (3, .ptr 3 0 0)] [(0, 0), (2, 0), (3, 0), (3, 1)] [((0, 0), .box [.sl 1 (List.map enc5 vb0_s_0_1), .bool vb0_s_1_1]), ((2, 0), .box [.int .u64 0, .int .u64 0, .int .u64 0, .int .u64 0, .str (strOf []), .str (strOf []), .int .i64 0, .int .i64 0, .bool false, .nil]), ((3, 0), .box [.int .u64 x3.1, .int .u64 x4.1, .int .u64 x5.1, .int .u64 x6.1, .str x7.1, .str x8.1, .int .i64 x9.1, .int .i64 x10.1, .bool (x12.1 == 1), .own 3 1]), ((3, 1), .arr 91 2 false (List.map enc90 v3_s_9_s_1))] [(0, 1), (2, 1), (3, 2)] (ec (ec (ec envOk_nil))) (objOk_cons W_ W_ R_ (by simp) (objOk_cons W_ W_ R_ (by simp) (objOk_cons W_ W_ R_ (by simp) (objOk_cons W_ W_ R_ (by simp) objOk_nil)))) (nodup_b rfl) (nodup_b rfl) rfl rfl, vb0_s_0_1, vb0_s_1_1, v3_s_9_s_1, h, rfl⟩
   ·have h := ifF c23 h
    refine pS 34 ?_
    refine pS 35 ?_
    refine pS 36 ?_
    refine pS 37 ?_
    refine pS 38 ?_
    refine pk 39 (.bool false) ?_
    refine en hK22 ?_
    refine aw_cond_f D_ rfl ?_
    refine aw_exit ?_
    have h := leafR h hk21
    have h := leafR h hq19
    obtain rfl := Option.some.inj h
    have h := hk16
    exact ⟨_, reb_lit [(0, .ptr 0 0 0), (2, .ptr 2 0 0), (3, .ptr 3 0 0)] [(0, 0), (2, 0), (3, 0), (3, 1)] [((0, 0), .box [.sl 1 (List.map enc5 vb0_s_0_1), .bool vb0_s_1_1]), ((2, 0), .box [.int .u64 0, .int .u64 0, .int .u64 0, .int .u64 0, .str (strOf []), .str (strOf []), .int .i64 0, .int .i64 0, .bool false, .nil]), ((3, 0), .box [.int .u64 x3.1, .int .u64 x4.1, .int .u64 x5.1, .int .u64 x6.1, .str x7.1, .str x8.1, .int .i64 x9.1, .int .i64 x10.1, .bool (x12.1 == 1), .own 3 1]), ((3, 1), .arr 91 2 false (List.map enc90 v3_s_9_s_1))] [(0, 1), (2, 1), (3, 2)] (ec (ec (ec envOk_nil))) (objOk_cons W_ W_ R_ (by simp) (objOk_cons W_ W_ R_ (by simp) (objOk_cons W_ W_ R_ (by simp) (objOk_cons W_ W_ R_ (by simp) objOk_nil)))) (nodup_b rfl) (nodup_b rfl) rfl rfl, vb0_s_0_1, vb0_s_1_1, v3_s_9_s_1, h, rfl⟩
  ·rintro s ⟨h, rfl⟩
   unfold gleaningref1_Reader_Span_k2 at h
   refine aw_seq_k (fun K25 hK25 => ?_)
   refine aw_block ?_
   refine aw_regd (by kernel_rfl) (by decide +kernel) ?_
   refine qP 42 (does_fieldAddr (q := .ptr 3 0 9) W_ ty69 rfl ty67 D_ R_) ?_
   refine qR 43 (does_load (v := .own 3 1) W_ W_ ty67 R_) ?_
   refine qP 44 (does_move (v := .ptr 0 0 0) R_) ?_
   obtain ⟨x26, hx26, h⟩ := bnd_some h
   refine qD 45 (do_callG (bcs := [[.sl 1 (List.map enc5 vb0_s_0_1), .bool vb0_s_1_1]]) [(0, 0)] [] [] 45 false (gleaningref1_Reader_Text_ok (Reader.mk vb0_s_0_1 vb0_s_1_1) hx26) rfl ent71 ⟨R_, trivial⟩ trivial rfl rfl rfl rfl rfl rfl rfl rfl (.inl trivial)) ?_
   refine qP 46 (does_move (v := .ptr 0 0 0) R_) ?_
   obtain ⟨x27, hx27, h⟩ := bnd_some h
   refine qD 47 (do_callG (bcs := [[.sl 1 (List.map enc5 x26.2.B), .bool x26.2.Bad]]) [(0, 0)] [] [] 47 false (gleaningref1_Reader_Text_ok x26.2 hx27) rfl ent71 ⟨R_, trivial⟩ trivial rfl rfl rfl rfl rfl rfl rfl rfl (.inl trivial)) ?_
   refine qP 48 (do_build_struct (cs := [.str x26.1, .str x27.1]) ty91 rfl [⟨.str, 1, 16, [.str ByteArray.empty]⟩, ⟨.str, 1, 16, [.str ByteArray.empty]⟩] (by simp only [List.map, ty9]) (by rfl) R_) ?_
   refine qD 49 (do_buildSlice (xs := List.map enc90 [(Attr.mk x26.1 x27.1)]) ty67 ty91 rfl rfl rfl rfl rfl rfl rfl rfl) ?_
   obtain ⟨g28, h⟩ := gd_some h
   refine qD 50 (do_append (v := List.map enc90 (v3_s_9_s_1 ++ [(Attr.mk x26.1 x27.1)])) W_ W_ ty67 ty91 rfl rfl W_ (by first | exact .inl rfl | exact .inr ⟨rfl, rfl⟩) W_ (by first | exact .inr rfl | exact .inl rfl) (map_app _ _) (fit_map g28)) ?_
   refine qP 51 (does_fieldAddr (q := .ptr 3 0 9) W_ ty69 rfl ty67 D_ R_) ?_
   refine aoD none rfl rfl (do_store (cs' := [.int .u64 x3.1, .int .u64 x4.1, .int .u64 x5.1, .int .u64 x6.1, .str x7.1, .str x8.1, .int .i64 x9.1, .int .i64 x10.1, .bool (x12.1 == 1), .own 50 0]) W_ W_ W_ ty67 rfl rfl rfl R_) D_ ?_
   refine ao_nil_d (by kernel_rfl) ?_
   refine hK25 _ ?_
   refine aw_regL ?_
   refine pm 40 (.int .i64 v5_1) ?_
   refine pb 41 (.int .i64 (IntKind.i64.wrap (v5_1 + 1))) ?_
   refine pa 5 (.int .i64 (IntKind.i64.wrap (v5_1 + 1))) ?_
   refine al_nil ?_
   have h := leafL h hq19
   exact ⟨m1, Nat.lt_succ_self _, _, reb_lit [(0, .ptr 0 0 0), (2, .ptr 2 0 0), (3, .ptr 3 0 0), (4, .int .i64 x14.1), (5, .int .i64 (IntKind.i64.wrap (v5_1 + 1)))] [(0, 0), (2, 0), (3, 0), (50, 0)] [((0, 0), .box [.sl 1 (List.map enc5 x27.2.B), .bool x27.2.Bad]), ((2, 0), .box [.int .u64 0, .int .u64 0, .int .u64 0, .int .u64 0, .str (strOf []), .str (strOf []), .int .i64 0, .int .i64 0, .bool false, .nil]), ((3, 0), .box [.int .u64 x3.1, .int .u64 x4.1, .int .u64 x5.1, .int .u64 x6.1, .str x7.1, .str x8.1, .int .i64 x9.1, .int .i64 x10.1, .bool (x12.1 == 1), .own 3 1]), ((3, 1), .arr 91 2 false (List.map enc90 (v3_s_9_s_1 ++ [(Attr.mk x26.1 x27.1)])))] [(0, 1), (2, 1), (3, 2)] (ec (ec (ec (ec (ec envOk_nil))))) (objOk_cons W_ W_ R_ (by simp) (objOk_cons W_ W_ R_ (by simp) (objOk_cons W_ W_ R_ (by simp) (objOk_cons W_ W_ R_ (by simp) objOk_nil)))) (nodup_b rfl) (nodup_b rfl) rfl rfl, x27.2.B, x27.2.Bad, (v3_s_9_s_1 ++ [(Attr.mk x26.1 x27.1)]), (IntKind.i64.wrap (v5_1 + 1)), h, rfl⟩
 ·rintro s ⟨vb0_s_0_0, vb0_s_1_0, v3_s_9_s_0, h, rfl⟩
  unfold gleaningref1_Reader_Span_k0 at h
  refine sr fun K29 hK29 => ?_
  refine pm 52 (.ptr 0 0 0) ?_
  refine pm 53 (.ptr 0 0 0) ?_
  refine pP 54 (does_nilCheck (p := .ptr 0 0 0) W_ rfl) ?_
  refine pf 55 (.ptr 0 0 1) ty59 ty4 ?_
  refine pl 56 (.bool vb0_s_1_0) ty4 ?_
  refine pm 57 (.bool vb0_s_1_0) ?_
  refine al_bool (c := vb0_s_1_0) 57 rfl (fun c30 => ?_) (fun c30 => ?_)
  ·have h := ifT c30 h
   refine pS 58 ?_
   refine pS 59 ?_
   refine pS 60 ?_
   refine pk 61 (.bool true) ?_
   refine pP 62 (does_nilCheck (p := .ptr 0 0 0) W_ rfl) ?_
   refine pf 63 (.ptr 0 0 1) ty59 ty4 ?_
   refine alD none rfl rfl (do_store (cs' := [.sl 1 (List.map enc5 vb0_s_0_0), .bool true]) W_ W_ W_ ty4 rfl rfl rfl R_) D_ ?_
   refine en hK29 ?_
   refine sr fun K31 hK31 => ?_
   refine pl 64 (.agg [.int .u64 x3.1, .int .u64 x4.1, .int .u64 x5.1, .int .u64 x6.1, .str x7.1, .str x8.1, .int .i64 x9.1, .int .i64 x10.1, .bool (x12.1 == 1), .own 3 1]) ty69 ?_
   refine alD none rfl rfl (do_store (cs' := [.int .u64 x3.1, .int .u64 x4.1, .int .u64 x5.1, .int .u64 x6.1, .str x7.1, .str x8.1, .int .i64 x9.1, .int .i64 x10.1, .bool (x12.1 == 1), .own 3 1]) W_ W_ W_ ty69 rfl rfl rfl R_) D_ ?_
   refine en hK31 ?_
   refine aw_ret ?_
   obtain rfl := Option.some.inj h
   exact ret_okB [(3, 1)] W_ W_ R_ (rowsOk_cons W_ R_ trivial) (boxesOk_cons W_ W_ R_ trivial) (nodup_b rfl) (.inr rfl) rfl
  ·have h := ifF c30 h
   refine pl 58 (.agg [.int .u64 x3.1, .int .u64 x4.1, .int .u64 x5.1, .int .u64 x6.1, .str x7.1, .str x8.1, .int .i64 x9.1, .int .i64 x10.1, .bool (x12.1 == 1), .own 3 1]) ty69 ?_
   obtain ⟨x32, hx32, h⟩ := bnd_some h
   refine pD 59 (do_callG (bcs := []) [] [] [(3, 1)] 59 false (gleaningref1_RightSpan_ok (Span.mk (Trace.mk x3.1 x4.1) x5.1 x6.1 x7.1 x8.1 x9.1 x10.1 (x12.1 == 1) v3_s_9_s_0) hx32) rfl ent72 trivial trivial rfl rfl rfl rfl rfl rfl rfl rfl (.inr ⟨rfl, rfl, trivial⟩)) ?_
   refine pP 60 (does_un (v := .bool (!x32)) W_ rfl) ?_
   refine pk 61 (.bool (!x32)) ?_
   refine pP 62 (does_nilCheck (p := .ptr 0 0 0) W_ rfl) ?_
   refine pf 63 (.ptr 0 0 1) ty59 ty4 ?_
   refine alD none rfl rfl (do_store (cs' := [.sl 1 (List.map enc5 vb0_s_0_0), .bool (!x32)]) W_ W_ W_ ty4 rfl rfl rfl R_) D_ ?_
   refine en hK29 ?_
   refine sr fun K33 hK33 => ?_
   refine pl 64 (.agg [.int .u64 x3.1, .int .u64 x4.1, .int .u64 x5.1, .int .u64 x6.1, .str x7.1, .str x8.1, .int .i64 x9.1, .int .i64 x10.1, .bool (x12.1 == 1), .own 3 1]) ty69 ?_
   refine alD none rfl rfl (do_store (cs' := [.int .u64 x3.1, .int .u64 x4.1, .int .u64 x5.1, .int .u64 x6.1, .str x7.1, .str x8.1, .int .i64 x9.1, .int .i64 x10.1, .bool (x12.1 == 1), .own 3 1]) W_ W_ W_ ty69 rfl rfl rfl R_) D_ ?_
   refine en hK33 ?_
   refine aw_ret ?_
   obtain rfl := Option.some.inj h
   exact ret_okB [(3, 1)] W_ W_ R_ (rowsOk_cons W_ R_ trivial) (boxesOk_cons W_ W_ R_ trivial) (nodup_b rfl) (.inr rfl) rfl
end Go.Proofs.Ytdhpmlgalddgfaa.Ab
