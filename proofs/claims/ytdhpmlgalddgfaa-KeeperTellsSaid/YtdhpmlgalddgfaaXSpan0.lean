/- Spans: few and small; the same. -/
import Derived.Test.YtdhpmlgalddgfaaXRW
import Derived.Test.YtdhpmlgalddgfaaProg
namespace Go.Proofs.Ytdhpmlgalddgfaa.Ab
open Go Go.RowKit
set_option linter.unusedVariables false
set_option linter.unusedSimpArgs false
set_option maxRecDepth 100000
set_option maxHeartbeats 8000000
structure Trace where
  Hi : Int
  Lo : Int
  deriving DecidableEq
structure Attr where
  Key : ByteArray
  Value : ByteArray
  deriving DecidableEq
structure Span where
  Trace : Trace
  Id : Int
  Parent : Int
  Service : ByteArray
  Op : ByteArray
  Start : Int
  Dur : Int
  Err : Bool
  Attrs : List Attr
  deriving DecidableEq
def enc90 (x : Attr) : PV := .agg [.str x.Key, .str x.Value]
def enc68 (x : Span) : PV := .agg [.int .u64 x.Trace.Hi, .int .u64 x.Trace.Lo, .int .u64 x.Id, .int .u64 x.Parent, .str x.Service, .str x.Op, .int .i64 x.Start, .int .i64 x.Dur, .bool x.Err, .sl 2 (List.map enc90 x.Attrs)]
theorem ty22 : tyOf Try.prog 22 = some ⟨.slice 69, 1, 24, [.nil]⟩ := by kernel_rfl
theorem ty66 : tyOf Try.prog 66 = some ⟨.struct [(0, 46), (1, 46)], 2, 16, [.int .u64 0, .int .u64 0]⟩ := by kernel_rfl
theorem ty67 : tyOf Try.prog 67 = some ⟨.slice 91, 1, 24, [.nil]⟩ := by kernel_rfl
theorem ty69 : tyOf Try.prog 69 = some ⟨.struct [(0, 66), (2, 46), (3, 46), (4, 9), (5, 9), (6, 3), (7, 3), (8, 4), (9, 67)], 10, 112, [.int .u64 0, .int .u64 0, .int .u64 0, .int .u64 0, .str ByteArray.empty, .str ByteArray.empty, .int .i64 0, .int .i64 0, .bool false, .nil]⟩ := by kernel_rfl
theorem ty91 : tyOf Try.prog 91 = some ⟨.struct [(0, 9), (1, 9)], 2, 32, [.str ByteArray.empty, .str ByteArray.empty]⟩ := by kernel_rfl
theorem fk66 : flatK Try.prog 8 66 = some [.i .u64, .i .u64] := by kernel_rfl
theorem ag66 : aggT Try.prog 66 = true := by kernel_rfl
theorem eg66 : Try.prog.eqGuardType Try.prog.depth 66 = false := by kernel_rfl
theorem fk91 : flatK Try.prog 8 91 = some [.s, .s] := by kernel_rfl
theorem ag91 : aggT Try.prog 91 = true := by kernel_rfl
theorem eg91 : Try.prog.eqGuardType Try.prog.depth 91 = false := by kernel_rfl
theorem ent29 : Ent Try.prog 29 := ⟨_, Try.func29, by kernel_rfl, rfl⟩
theorem ent51 : Ent Try.prog 51 := ⟨_, Try.func51, by kernel_rfl, rfl⟩
def gleaninglaw3_Few_l1 (a0 : Span) (v3_1 : Int) : Option (Int ⊕ Bool) :=
 if (decide (v3_1 < (List.length a0.Attrs : Int))) = true then (gd (0 ≤ v3_1) (Option.bind (a0.Attrs[(Int.toNat v3_1)]?) (fun (x21 : Attr) => if (decide ((100 : Int) < (ByteArray.size x21.Key : Int))) = true then (some (Sum.inr false)) else (gd (0 ≤ v3_1) (Option.bind (a0.Attrs[(Int.toNat v3_1)]?) (fun (x25 : Attr) => if (decide ((100 : Int) < (ByteArray.size x25.Value : Int))) = true then (some (Sum.inr false)) else (some (Sum.inl (IntKind.i64.wrap (v3_1 + 1)))))))))) else (some (Sum.inr true))
def gleaninglaw3_Few_k0 (a0 : Span) : Option Bool :=
 loopN (fun (s : Int) => gleaninglaw3_Few_l1 a0 s) Fu 0
def gleaninglaw3_Few (a0 : Span) : Option Bool :=
 Option.bind (if (decide ((100 : Int) < (ByteArray.size a0.Service : Int))) = true then (some (Sum.inr false)) else (if (decide ((100 : Int) < (ByteArray.size a0.Op : Int))) = true then (some (Sum.inr false)) else (if (decide ((20 : Int) < (List.length a0.Attrs : Int))) = true then (some (Sum.inr false)) else (some (Sum.inl ()))))) (Sum.elim (fun (s : Unit) => gleaninglaw3_Few_k0 a0) some)
theorem gleaninglaw3_Few_ok (a0 : Span) {r : Bool} (h : gleaninglaw3_Few a0 = some r) : Ok Try.prog 29 [.agg [.int .u64 a0.Trace.Hi, .int .u64 a0.Trace.Lo, .int .u64 a0.Id, .int .u64 a0.Parent, .str a0.Service, .str a0.Op, .int .i64 a0.Start, .int .i64 a0.Dur, .bool a0.Err, .sl 2 (List.map enc90 a0.Attrs)]] [] [] (.bool r) [] [] := by
 unfold gleaninglaw3_Few at h
 refine ok_of_code Try.func29 rfl (by show (1 : Nat) ≤ _; decide) (Nat.le_refl _) fun X => ?_
 refine sr fun K1 hK1 => ?_
 refine pD 1 (do_box W_ rfl rfl) ?_
 refine pa 2 (.bool false) ?_
 refine en hK1 ?_
 obtain ⟨q2, h, hk3⟩ := bnd_some h
 refine aw_cut (fun s => gleaninglaw3_Few_k0 a0 = some r ∧ s = lit [(1, .ptr 1 0 0)] [((1, 0), .box [.int .u64 a0.Trace.Hi, .int .u64 a0.Trace.Lo, .int .u64 a0.Id, .int .u64 a0.Parent, .str a0.Service, .str a0.Op, .int .i64 a0.Start, .int .i64 a0.Dur, .bool a0.Err, .sl 2 (List.map enc90 a0.Attrs)])] [(1, 1)] X) ?_ ?_
 ·skip
  refine sr fun K4 hK4 => ?_
  refine pf 4 (.ptr 1 0 4) ty69 ty9 ?_
  refine pl 5 (.str a0.Service) ty9 ?_
  refine pP 6 (does_len_str W_ ty9) ?_
  refine pb 7 (.bool (decide ((100 : Int) < (ByteArray.size a0.Service : Int)))) ?_
  refine pm 8 (.bool (decide ((100 : Int) < (ByteArray.size a0.Service : Int)))) ?_
  refine al_bool (c := (decide ((100 : Int) < (ByteArray.size a0.Service : Int)))) 8 rfl (fun c5 => ?_) (fun c5 => ?_)
  ·have h := ifT c5 h
   refine pS 9 ?_
   refine pS 10 ?_
   refine pS 11 ?_
   refine pS 12 ?_
   refine pk 13 (.bool true) ?_
   refine pm 14 (.bool true) ?_
   refine pS 15 ?_
   refine pS 16 ?_
   refine pS 17 ?_
   refine pS 18 ?_
   refine pk 19 (.bool true) ?_
   refine en hK4 ?_
   refine aw_cond_t D_ rfl ?_
   refine sr fun K6 hK6 => ?_
   refine pa 2 (.bool false) ?_
   refine en hK6 ?_
   refine aw_ret ?_
   have h := leafR h hk3
   obtain rfl := Option.some.inj h
   exact ret_ok1 W_ W_ R_ (.inr rfl) rfl
  ·have h := ifF c5 h
   refine pf 9 (.ptr 1 0 5) ty69 ty9 ?_
   refine pl 10 (.str a0.Op) ty9 ?_
   refine pP 11 (does_len_str W_ ty9) ?_
   refine pb 12 (.bool (decide ((100 : Int) < (ByteArray.size a0.Op : Int)))) ?_
   refine pk 13 (.bool (decide ((100 : Int) < (ByteArray.size a0.Op : Int)))) ?_
   refine pm 14 (.bool (decide ((100 : Int) < (ByteArray.size a0.Op : Int)))) ?_
   refine al_bool (c := (decide ((100 : Int) < (ByteArray.size a0.Op : Int)))) 14 rfl (fun c7 => ?_) (fun c7 => ?_)
   ·have h := ifT c7 h
    refine pS 15 ?_
    refine pS 16 ?_
    refine pS 17 ?_
    refine pS 18 ?_
    refine pk 19 (.bool true) ?_
    refine en hK4 ?_
    refine aw_cond_t D_ rfl ?_
    refine sr fun K8 hK8 => ?_
    refine pa 2 (.bool false) ?_
    refine en hK8 ?_
    refine aw_ret ?_
    have h := leafR h hk3
    obtain rfl := Option.some.inj h
    exact ret_ok1 W_ W_ R_ (.inr rfl) rfl
   ·have h := ifF c7 h
    refine pf 15 (.ptr 1 0 9) ty69 ty67 ?_
    refine pl 16 (.sl 2 (List.map enc90 a0.Attrs)) ty67 ?_
    refine pP 17 ((does_len_sl W_ ty67).castp (v' := .int .i64 (List.length a0.Attrs : Int)) (by exact len_map _)) ?_
    refine pb 18 (.bool (decide ((20 : Int) < (List.length a0.Attrs : Int)))) ?_
    refine pk 19 (.bool (decide ((20 : Int) < (List.length a0.Attrs : Int)))) ?_
    refine en hK4 ?_
    refine aw_bool (b := (decide ((20 : Int) < (List.length a0.Attrs : Int)))) 19 rfl (fun c9 => ?_) (fun c9 => ?_)
    ·have h := ifT c9 h
     refine aw_cond_t D_ rfl ?_
     refine sr fun K10 hK10 => ?_
     refine pa 2 (.bool false) ?_
     refine en hK10 ?_
     refine aw_ret ?_
     have h := leafR h hk3
     obtain rfl := Option.some.inj h
     exact ret_ok1 W_ W_ R_ (.inr rfl) rfl
    ·have h := ifF c9 h
     refine aw_cond_f D_ rfl ?_
     refine aw_skip ?_
     have h := leafL h hk3
     exact ⟨_, reb_lit [(1, .ptr 1 0 0)] [(1, 0)] [((1, 0), .box [.int .u64 a0.Trace.Hi, .int .u64 a0.Trace.Lo, .int .u64 a0.Id, .int .u64 a0.Parent, .str a0.Service, .str a0.Op, .int .i64 a0.Start, .int .i64 a0.Dur, .bool a0.Err, .sl 2 (List.map enc90 a0.Attrs)])] [(1, 1)] (ec envOk_nil) (objOk_cons W_ W_ R_ (by simp) objOk_nil) (nodup_b rfl) (nodup_b rfl) rfl rfl, h, rfl⟩
 ·rintro s ⟨h, rfl⟩
  unfold gleaninglaw3_Few_k0 at h
  refine aw_seq_k (fun K11 hK11 => ?_)
  refine sr fun K12 hK12 => ?_
  refine pa 3 (.int .i64 0) ?_
  refine en hK12 ?_
  refine aw_block ?_
  refine aw_loop' (fun m s => ∃ (v3_1 : Int), loopN (fun (s : Int) => gleaninglaw3_Few_l1 a0 s) m v3_1 = some r ∧ s = lit [(1, .ptr 1 0 0), (3, .int .i64 v3_1)] [((1, 0), .box [.int .u64 a0.Trace.Hi, .int .u64 a0.Trace.Lo, .int .u64 a0.Id, .int .u64 a0.Parent, .str a0.Service, .str a0.Op, .int .i64 a0.Start, .int .i64 a0.Dur, .bool a0.Err, .sl 2 (List.map enc90 a0.Attrs)])] [(1, 1)] X) Fu
   ⟨_, reb_lit [(1, .ptr 1 0 0), (3, .int .i64 (0))] [(1, 0)] [((1, 0), .box [.int .u64 a0.Trace.Hi, .int .u64 a0.Trace.Lo, .int .u64 a0.Id, .int .u64 a0.Parent, .str a0.Service, .str a0.Op, .int .i64 a0.Start, .int .i64 a0.Dur, .bool a0.Err, .sl 2 (List.map enc90 a0.Attrs)])] [(1, 1)] (ec (ec envOk_nil)) (objOk_cons W_ W_ R_ (by simp) objOk_nil) (nodup_b rfl) (nodup_b rfl) rfl rfl, 0, h, rfl⟩ ?_
  rintro m s ⟨v3_1, h, rfl⟩
  obtain ⟨m1, q13, rfl, h, hq14⟩ := loop_some h
  replace h : gleaninglaw3_Few_l1 a0 v3_1 = some q13 := h
  unfold gleaninglaw3_Few_l1 at h
  refine aw_seq_k (fun K15 hK15 => ?_)
  refine sr fun K16 hK16 => ?_
  refine pm 20 (.int .i64 v3_1) ?_
  refine pf 21 (.ptr 1 0 9) ty69 ty67 ?_
  refine pl 22 (.sl 2 (List.map enc90 a0.Attrs)) ty67 ?_
  refine pP 23 ((does_len_sl W_ ty67).castp (v' := .int .i64 (List.length a0.Attrs : Int)) (by exact len_map _)) ?_
  refine pb 24 (.bool (decide (v3_1 < (List.length a0.Attrs : Int)))) ?_
  refine en hK16 ?_
  refine aw_bool (b := (decide (v3_1 < (List.length a0.Attrs : Int)))) 24 rfl (fun c17 => ?_) (fun c17 => ?_)
  ·have h := ifT c17 h
   refine aw_cond_t D_ rfl ?_
   refine aw_skip ?_
   refine hK15 _ ?_
   refine aw_seq_k (fun K18 hK18 => ?_)
   refine aw_block ?_
   refine sr fun K19 hK19 => ?_
   refine pf 27 (.ptr 1 0 9) ty69 ty67 ?_
   refine pl 28 (.sl 2 (List.map enc90 a0.Attrs)) ty67 ?_
   refine pm 29 (.int .i64 v3_1) ?_
   obtain ⟨g20, h⟩ := gd_some h
   obtain ⟨x21, hx21, h⟩ := bnd_some h
   refine pP 30 (does_indexAddr_sl (el := .agg [.str x21.Key, .str x21.Value]) W_ W_ ty67 ty91 g20 (by exact map_get hx21)) ?_
   refine pf 31 (.rptr [.str x21.Key, .str x21.Value]) ty91 ty9 ?_
   refine pl 32 (.str x21.Key) ty9 ?_
   refine pP 33 (does_len_str W_ ty9) ?_
   refine pb 34 (.bool (decide ((100 : Int) < (ByteArray.size x21.Key : Int)))) ?_
   refine pm 35 (.bool (decide ((100 : Int) < (ByteArray.size x21.Key : Int)))) ?_
   refine al_bool (c := (decide ((100 : Int) < (ByteArray.size x21.Key : Int)))) 35 rfl (fun c22 => ?_) (fun c22 => ?_)
   ·have h := ifT c22 h
    refine pS 36 ?_
    refine pS 37 ?_
    refine pS 38 ?_
    refine pS 39 ?_
    refine pS 40 ?_
    refine pS 41 ?_
    refine pS 42 ?_
    refine pS 43 ?_
    refine pk 44 (.bool true) ?_
    refine en hK19 ?_
    refine aw_cond_t D_ rfl ?_
    refine sr fun K23 hK23 => ?_
    refine pa 2 (.bool false) ?_
    refine en hK23 ?_
    refine aw_ret ?_
    have h := leafR h hq14
    obtain rfl := Option.some.inj h
    exact ret_ok1 W_ W_ R_ (.inr rfl) rfl
   ·have h := ifF c22 h
    refine pf 36 (.ptr 1 0 9) ty69 ty67 ?_
    refine pl 37 (.sl 2 (List.map enc90 a0.Attrs)) ty67 ?_
    refine pm 38 (.int .i64 v3_1) ?_
    obtain ⟨g24, h⟩ := gd_some h
    obtain ⟨x25, hx25, h⟩ := bnd_some h
    refine pP 39 (does_indexAddr_sl (el := .agg [.str x25.Key, .str x25.Value]) W_ W_ ty67 ty91 g24 (by exact map_get hx25)) ?_
    refine pf 40 (.rptr [.str x25.Value]) ty91 ty9 ?_
    refine pl 41 (.str x25.Value) ty9 ?_
    refine pP 42 (does_len_str W_ ty9) ?_
    refine pb 43 (.bool (decide ((100 : Int) < (ByteArray.size x25.Value : Int)))) ?_
    refine pk 44 (.bool (decide ((100 : Int) < (ByteArray.size x25.Value : Int)))) ?_
    refine en hK19 ?_
    refine aw_bool (b := (decide ((100 : Int) < (ByteArray.size x25.Value : Int)))) 44 rfl (fun c26 => ?_) (fun c26 => ?_)
    ·have h := ifT c26 h
     refine aw_cond_t D_ rfl ?_
     refine sr fun K27 hK27 => ?_
     refine pa 2 (.bool false) ?_
     refine en hK27 ?_
     refine aw_ret ?_
     have h := leafR h hq14
     obtain rfl := Option.some.inj h
     exact ret_ok1 W_ W_ R_ (.inr rfl) rfl
    ·have h := ifF c26 h
     refine aw_cond_f D_ rfl ?_
     refine aw_skip ?_
     refine hK18 _ ?_
     refine aw_regL ?_
     refine pm 25 (.int .i64 v3_1) ?_
     refine pb 26 (.int .i64 (IntKind.i64.wrap (v3_1 + 1))) ?_
     refine pa 3 (.int .i64 (IntKind.i64.wrap (v3_1 + 1))) ?_
     refine al_nil ?_
     have h := leafL h hq14
     exact ⟨m1, Nat.lt_succ_self _, _, reb_lit [(1, .ptr 1 0 0), (3, .int .i64 (IntKind.i64.wrap (v3_1 + 1)))] [(1, 0)] [((1, 0), .box [.int .u64 a0.Trace.Hi, .int .u64 a0.Trace.Lo, .int .u64 a0.Id, .int .u64 a0.Parent, .str a0.Service, .str a0.Op, .int .i64 a0.Start, .int .i64 a0.Dur, .bool a0.Err, .sl 2 (List.map enc90 a0.Attrs)])] [(1, 1)] (ec (ec envOk_nil)) (objOk_cons W_ W_ R_ (by simp) objOk_nil) (nodup_b rfl) (nodup_b rfl) rfl rfl, (IntKind.i64.wrap (v3_1 + 1)), h, rfl⟩
  ·have h := ifF c17 h
   refine aw_cond_f D_ rfl ?_
   refine aw_exit ?_
   have h := leafR h hq14
   refine hK11 _ ?_
   refine sr fun K28 hK28 => ?_
   refine pa 2 (.bool true) ?_
   refine en hK28 ?_
   refine aw_ret ?_
   obtain rfl := Option.some.inj h
   exact ret_ok1 W_ W_ R_ (.inr rfl) rfl
theorem sh46 : ∀ (m : Nat) (cs : List PV), Shape Try.prog m 46 cs → ∃ a : Int, cs = [.int .u64 a] ∧ (inI .u64 a) := fun m cs h => shape_i h Try.underlying46
def Trace.wf (a : Trace) : Prop := (inI .u64 a.Hi) ∧ (inI .u64 a.Lo)
theorem sh66 : ∀ (m : Nat) (cs : List PV), Shape Try.prog m 66 cs → ∃ a : Trace, cs = [.int .u64 a.Hi, .int .u64 a.Lo] ∧ (Trace.wf a) := fun m cs h => by
 obtain ⟨hl, m, hf⟩ := shape_struct h Try.underlying66
 have f0 := hf 0 _ rfl
 obtain ⟨a0, e0, w0⟩ := sh46 m _ f0
 rw [show Try.prog.cellsOf _ = 1 by kernel_rfl] at e0
 have f1 := hf 1 _ rfl
 obtain ⟨a1, e1, w1⟩ := sh46 m _ f1
 rw [show Try.prog.cellsOf _ = 1 by kernel_rfl] at e1
 exact ⟨⟨a0, a1⟩, tile_all (l := [(1, [.int .u64 a0]), (1, [.int .u64 a1])]) ⟨e0, e1, trivial⟩ hl (by kernel_rfl), ⟨w0, w1⟩⟩
theorem sh9 : ∀ (m : Nat) (cs : List PV), Shape Try.prog m 9 cs → ∃ a : ByteArray, cs = [.str a] ∧ ((ByteArray.size a) ≤ maxLen) := fun m cs h => shape_str h Try.underlying9
theorem sh3 : ∀ (m : Nat) (cs : List PV), Shape Try.prog m 3 cs → ∃ a : Int, cs = [.int .i64 a] ∧ (inI .i64 a) := fun m cs h => shape_i h Try.underlying3
theorem sh4 : ∀ (m : Nat) (cs : List PV), Shape Try.prog m 4 cs → ∃ a : Bool, cs = [.bool a] ∧ True := fun m cs h => shape_b h Try.underlying4
def Attr.wf (a : Attr) : Prop := ((ByteArray.size a.Key) ≤ maxLen) ∧ ((ByteArray.size a.Value) ≤ maxLen)
theorem sh91 : ∀ (m : Nat) (cs : List PV), Shape Try.prog m 91 cs → ∃ a : Attr, cs = [.str a.Key, .str a.Value] ∧ (Attr.wf a) := fun m cs h => by
 obtain ⟨hl, m, hf⟩ := shape_struct h Try.underlying91
 have f0 := hf 0 _ rfl
 obtain ⟨a0, e0, w0⟩ := sh9 m _ f0
 rw [show Try.prog.cellsOf _ = 1 by kernel_rfl] at e0
 have f1 := hf 1 _ rfl
 obtain ⟨a1, e1, w1⟩ := sh9 m _ f1
 rw [show Try.prog.cellsOf _ = 1 by kernel_rfl] at e1
 exact ⟨⟨a0, a1⟩, tile_all (l := [(1, [.str a0]), (1, [.str a1])]) ⟨e0, e1, trivial⟩ hl (by kernel_rfl), ⟨w0, w1⟩⟩
theorem sh67 : ∀ (m : Nat) (cs : List PV), Shape Try.prog m 67 cs → ∃ a : List Attr, cs = [.sl 2 (List.map enc90 a)] ∧ ((List.length a) ≤ maxLen ∧ ∀ y ∈ a, Attr.wf y) := fun m cs h => by
 obtain ⟨l, h1, h2, h3⟩ := shape_rows (f := enc90) (Q := fun y => Attr.wf y) h Try.underlying67 (fun m ps hs => by
  obtain ⟨a, rfl, hw⟩ := sh91 m ps hs
  exact ⟨a, by rw [show aggT Try.prog 91 = true by kernel_rfl]; rfl, hw⟩)
 exact ⟨l, h1.trans (by rw [show Try.prog.cellsOf 91 = 2 by kernel_rfl]), h2, h3⟩
def Span.wf (a : Span) : Prop := (Trace.wf a.Trace) ∧ (inI .u64 a.Id) ∧ (inI .u64 a.Parent) ∧ ((ByteArray.size a.Service) ≤ maxLen) ∧ ((ByteArray.size a.Op) ≤ maxLen) ∧ (inI .i64 a.Start) ∧ (inI .i64 a.Dur) ∧ True ∧ ((List.length a.Attrs) ≤ maxLen ∧ ∀ y ∈ a.Attrs, Attr.wf y)
theorem sh69 : ∀ (m : Nat) (cs : List PV), Shape Try.prog m 69 cs → ∃ a : Span, cs = [.int .u64 a.Trace.Hi, .int .u64 a.Trace.Lo, .int .u64 a.Id, .int .u64 a.Parent, .str a.Service, .str a.Op, .int .i64 a.Start, .int .i64 a.Dur, .bool a.Err, .sl 2 (List.map enc90 a.Attrs)] ∧ (Span.wf a) := fun m cs h => by
 obtain ⟨hl, m, hf⟩ := shape_struct h Try.underlying69
 have f0 := hf 0 _ rfl
 obtain ⟨a0, e0, w0⟩ := sh66 m _ f0
 rw [show Try.prog.cellsOf _ = 2 by kernel_rfl] at e0
 have f1 := hf 1 _ rfl
 obtain ⟨a1, e1, w1⟩ := sh46 m _ f1
 rw [show Try.prog.cellsOf _ = 1 by kernel_rfl] at e1
 have f2 := hf 2 _ rfl
 obtain ⟨a2, e2, w2⟩ := sh46 m _ f2
 rw [show Try.prog.cellsOf _ = 1 by kernel_rfl] at e2
 have f3 := hf 3 _ rfl
 obtain ⟨a3, e3, w3⟩ := sh9 m _ f3
 rw [show Try.prog.cellsOf _ = 1 by kernel_rfl] at e3
 have f4 := hf 4 _ rfl
 obtain ⟨a4, e4, w4⟩ := sh9 m _ f4
 rw [show Try.prog.cellsOf _ = 1 by kernel_rfl] at e4
 have f5 := hf 5 _ rfl
 obtain ⟨a5, e5, w5⟩ := sh3 m _ f5
 rw [show Try.prog.cellsOf _ = 1 by kernel_rfl] at e5
 have f6 := hf 6 _ rfl
 obtain ⟨a6, e6, w6⟩ := sh3 m _ f6
 rw [show Try.prog.cellsOf _ = 1 by kernel_rfl] at e6
 have f7 := hf 7 _ rfl
 obtain ⟨a7, e7, w7⟩ := sh4 m _ f7
 rw [show Try.prog.cellsOf _ = 1 by kernel_rfl] at e7
 have f8 := hf 8 _ rfl
 obtain ⟨a8, e8, w8⟩ := sh67 m _ f8
 rw [show Try.prog.cellsOf _ = 1 by kernel_rfl] at e8
 exact ⟨⟨a0, a1, a2, a3, a4, a5, a6, a7, a8⟩, tile_all (l := [(2, [.int .u64 a0.Hi, .int .u64 a0.Lo]), (1, [.int .u64 a1]), (1, [.int .u64 a2]), (1, [.str a3]), (1, [.str a4]), (1, [.int .i64 a5]), (1, [.int .i64 a6]), (1, [.bool a7]), (1, [.sl 2 (List.map enc90 a8)])]) ⟨e0, e1, e2, e3, e4, e5, e6, e7, e8, trivial⟩ hl (by kernel_rfl), ⟨w0, w1, w2, w3, w4, w5, w6, w7, w8⟩⟩
def gleaninglaw3_FewAll_l0 (a0 : List Span) (v3_0 : Int) : Option (Int ⊕ Bool) :=
 if (decide (v3_0 < (List.length a0 : Int))) = true then (gd (0 ≤ v3_0) (Option.bind (a0[(Int.toNat v3_0)]?) (fun (x16 : Span) => Option.bind (gleaninglaw3_Few x16) (fun (x17 : Bool) => if (!x17) = true then (some (Sum.inr false)) else (some (Sum.inl (IntKind.i64.wrap (v3_0 + 1)))))))) else (some (Sum.inr true))
def gleaninglaw3_FewAll (a0 : List Span) : Option Bool :=
 if (decide ((60 : Int) < (List.length a0 : Int))) = true then (some false) else (loopN (fun (s : Int) => gleaninglaw3_FewAll_l0 a0 s) Fu 0)
theorem gleaninglaw3_FewAll_ok (a0 : List Span) {r : Bool} (h : gleaninglaw3_FewAll a0 = some r) : Ok Try.prog 12 [.sl 10 (List.map enc68 a0)] [] [] (.bool r) [] [] := by
 unfold gleaninglaw3_FewAll at h
 refine ok_of_code Try.func12 rfl (by show (1 : Nat) ≤ _; decide) (Nat.le_refl _) fun X => ?_
 refine sr fun K1 hK1 => ?_
 refine pa 2 (.bool false) ?_
 refine en hK1 ?_
 refine aw_seq_k (fun K2 hK2 => ?_)
 refine sr fun K3 hK3 => ?_
 refine pm 4 (.sl 10 (List.map enc68 a0)) ?_
 refine pP 5 ((does_len_sl W_ ty22).castp (v' := .int .i64 (List.length a0 : Int)) (by exact len_map _)) ?_
 refine pb 6 (.bool (decide ((60 : Int) < (List.length a0 : Int)))) ?_
 refine en hK3 ?_
 refine aw_bool (b := (decide ((60 : Int) < (List.length a0 : Int)))) 6 rfl (fun c4 => ?_) (fun c4 => ?_)
 ·have h := ifT c4 h
  refine aw_cond_t D_ rfl ?_
  refine sr fun K5 hK5 => ?_
  refine pa 2 (.bool false) ?_
  refine en hK5 ?_
  refine aw_ret ?_
  obtain rfl := Option.some.inj h
  exact ret_ok1 W_ W_ R_ (.inr rfl) rfl
 ·have h := ifF c4 h
  refine aw_cond_f D_ rfl ?_
  refine aw_skip ?_
  refine hK2 _ ?_
  refine aw_seq_k (fun K6 hK6 => ?_)
  refine sr fun K7 hK7 => ?_
  refine pa 3 (.int .i64 0) ?_
  refine en hK7 ?_
  refine aw_block ?_
  refine aw_loop' (fun m s => ∃ (v3_0 : Int), loopN (fun (s : Int) => gleaninglaw3_FewAll_l0 a0 s) m v3_0 = some r ∧ s = lit [(0, .sl 10 (List.map enc68 a0)), (3, .int .i64 v3_0)] [] [] X) Fu
   ⟨_, reb_lit [(0, .sl 10 (List.map enc68 a0)), (3, .int .i64 (0))] [] [] [] (ec (ec envOk_nil)) objOk_nil (nodup_b rfl) (nodup_b rfl) rfl rfl, 0, h, rfl⟩ ?_
  rintro m s ⟨v3_0, h, rfl⟩
  obtain ⟨m0, q8, rfl, h, hq9⟩ := loop_some h
  replace h : gleaninglaw3_FewAll_l0 a0 v3_0 = some q8 := h
  unfold gleaninglaw3_FewAll_l0 at h
  refine aw_seq_k (fun K10 hK10 => ?_)
  refine sr fun K11 hK11 => ?_
  refine pm 7 (.int .i64 v3_0) ?_
  refine pm 8 (.sl 10 (List.map enc68 a0)) ?_
  refine pP 9 ((does_len_sl W_ ty22).castp (v' := .int .i64 (List.length a0 : Int)) (by exact len_map _)) ?_
  refine pb 10 (.bool (decide (v3_0 < (List.length a0 : Int)))) ?_
  refine en hK11 ?_
  refine aw_bool (b := (decide (v3_0 < (List.length a0 : Int)))) 10 rfl (fun c12 => ?_) (fun c12 => ?_)
  ·have h := ifT c12 h
   refine aw_cond_t D_ rfl ?_
   refine aw_skip ?_
   refine hK10 _ ?_
   refine aw_seq_k (fun K13 hK13 => ?_)
   refine aw_block ?_
   refine sr fun K14 hK14 => ?_
   refine pm 13 (.sl 10 (List.map enc68 a0)) ?_
   refine pm 14 (.int .i64 v3_0) ?_
   obtain ⟨g15, h⟩ := gd_some h
   obtain ⟨x16, hx16, h⟩ := bnd_some h
   refine pP 15 (does_indexAddr_sl (el := .agg [.int .u64 x16.Trace.Hi, .int .u64 x16.Trace.Lo, .int .u64 x16.Id, .int .u64 x16.Parent, .str x16.Service, .str x16.Op, .int .i64 x16.Start, .int .i64 x16.Dur, .bool x16.Err, .sl 2 (List.map enc90 x16.Attrs)]) W_ W_ ty22 ty69 g15 (by exact map_get hx16)) ?_
   refine pl 16 (.agg [.int .u64 x16.Trace.Hi, .int .u64 x16.Trace.Lo, .int .u64 x16.Id, .int .u64 x16.Parent, .str x16.Service, .str x16.Op, .int .i64 x16.Start, .int .i64 x16.Dur, .bool x16.Err, .sl 2 (List.map enc90 x16.Attrs)]) ty69 ?_
   obtain ⟨x17, hx17, h⟩ := bnd_some h
   refine pD 17 (do_call0 17 false (gleaninglaw3_Few_ok x16 hx17) rfl ent29 rfl rfl) ?_
   refine pP 18 (does_un (v := .bool (!x17)) W_ rfl) ?_
   refine en hK14 ?_
   refine aw_bool (b := (!x17)) 18 rfl (fun c18 => ?_) (fun c18 => ?_)
   ·have h := ifT c18 h
    refine aw_cond_t D_ rfl ?_
    refine sr fun K19 hK19 => ?_
    refine pa 2 (.bool false) ?_
    refine en hK19 ?_
    refine aw_ret ?_
    have h := leafR h hq9
    obtain rfl := Option.some.inj h
    exact ret_ok1 W_ W_ R_ (.inr rfl) rfl
   ·have h := ifF c18 h
    refine aw_cond_f D_ rfl ?_
    refine aw_skip ?_
    refine hK13 _ ?_
    refine aw_regL ?_
    refine pm 11 (.int .i64 v3_0) ?_
    refine pb 12 (.int .i64 (IntKind.i64.wrap (v3_0 + 1))) ?_
    refine pa 3 (.int .i64 (IntKind.i64.wrap (v3_0 + 1))) ?_
    refine al_nil ?_
    have h := leafL h hq9
    exact ⟨m0, Nat.lt_succ_self _, _, reb_lit [(0, .sl 10 (List.map enc68 a0)), (3, .int .i64 (IntKind.i64.wrap (v3_0 + 1)))] [] [] [] (ec (ec envOk_nil)) objOk_nil (nodup_b rfl) (nodup_b rfl) rfl rfl, (IntKind.i64.wrap (v3_0 + 1)), h, rfl⟩
  ·have h := ifF c12 h
   refine aw_cond_f D_ rfl ?_
   refine aw_exit ?_
   have h := leafR h hq9
   refine hK6 _ ?_
   refine sr fun K20 hK20 => ?_
   refine pa 2 (.bool true) ?_
   refine en hK20 ?_
   refine aw_ret ?_
   obtain rfl := Option.some.inj h
   exact ret_ok1 W_ W_ R_ (.inr rfl) rfl
theorem sh22 : ∀ (m : Nat) (cs : List PV), Shape Try.prog m 22 cs → ∃ a : List Span, cs = [.sl 10 (List.map enc68 a)] ∧ ((List.length a) ≤ maxLen ∧ ∀ y ∈ a, Span.wf y) := fun m cs h => by
 obtain ⟨l, h1, h2, h3⟩ := shape_rows (f := enc68) (Q := fun y => Span.wf y) h Try.underlying22 (fun m ps hs => by
  obtain ⟨a, rfl, hw⟩ := sh69 m ps hs
  exact ⟨a, by rw [show aggT Try.prog 69 = true by kernel_rfl]; rfl, hw⟩)
 exact ⟨l, h1.trans (by rw [show Try.prog.cellsOf 69 = 10 by kernel_rfl]), h2, h3⟩
def gleaningref1_SameSpan_l1 (a0 : Span) (a1 : Span) (v5_1 : Int) : Option (Int ⊕ Bool) :=
 if (decide (v5_1 < (List.length a0.Attrs : Int))) = true then (gd (0 ≤ v5_1) (Option.bind (a0.Attrs[(Int.toNat v5_1)]?) (fun (x33 : Attr) => gd (0 ≤ v5_1) (Option.bind (a1.Attrs[(Int.toNat v5_1)]?) (fun (x35 : Attr) => if (!((ByteArray.toList x33.Key == ByteArray.toList x35.Key) && ((ByteArray.toList x33.Value == ByteArray.toList x35.Value) && true))) = true then (some (Sum.inr false)) else (some (Sum.inl (IntKind.i64.wrap (v5_1 + 1))))))))) else (some (Sum.inr true))
def gleaningref1_SameSpan_k0 (a0 : Span) (a1 : Span) : Option Bool :=
 loopN (fun (s : Int) => gleaningref1_SameSpan_l1 a0 a1 s) Fu 0
def gleaningref1_SameSpan (a0 : Span) (a1 : Span) : Option Bool :=
 Option.bind (if (!((a0.Trace.Hi == a1.Trace.Hi) && ((a0.Trace.Lo == a1.Trace.Lo) && true))) = true then (some (Sum.inr false)) else (if (a0.Id != a1.Id) = true then (some (Sum.inr false)) else (if (a0.Parent != a1.Parent) = true then (some (Sum.inr false)) else (if (!(ByteArray.toList a0.Service == ByteArray.toList a1.Service)) = true then (some (Sum.inr false)) else (if (!(ByteArray.toList a0.Op == ByteArray.toList a1.Op)) = true then (some (Sum.inr false)) else (if (a0.Start != a1.Start) = true then (some (Sum.inr false)) else (if (a0.Dur != a1.Dur) = true then (some (Sum.inr false)) else (if (!(a0.Err == a1.Err)) = true then (some (Sum.inr false)) else (if ((List.length a0.Attrs : Int) != (List.length a1.Attrs : Int)) = true then (some (Sum.inr false)) else (some (Sum.inl ()))))))))))) (Sum.elim (fun (s : Unit) => gleaningref1_SameSpan_k0 a0 a1) some)
theorem gleaningref1_SameSpan_ok (a0 : Span) (a1 : Span) {r : Bool} (h : gleaningref1_SameSpan a0 a1 = some r) : Ok Try.prog 51 [.agg [.int .u64 a0.Trace.Hi, .int .u64 a0.Trace.Lo, .int .u64 a0.Id, .int .u64 a0.Parent, .str a0.Service, .str a0.Op, .int .i64 a0.Start, .int .i64 a0.Dur, .bool a0.Err, .sl 2 (List.map enc90 a0.Attrs)], .agg [.int .u64 a1.Trace.Hi, .int .u64 a1.Trace.Lo, .int .u64 a1.Id, .int .u64 a1.Parent, .str a1.Service, .str a1.Op, .int .i64 a1.Start, .int .i64 a1.Dur, .bool a1.Err, .sl 2 (List.map enc90 a1.Attrs)]] [] [] (.bool r) [] [] := by
 unfold gleaningref1_SameSpan at h
 refine ok_of_code Try.func51 rfl (by show (2 : Nat) ≤ _; decide) (Nat.le_refl _) fun X => ?_
 refine sr fun K1 hK1 => ?_
 refine pD 2 (do_box W_ rfl rfl) ?_
 refine pD 3 (do_box W_ rfl rfl) ?_
 refine pa 4 (.bool false) ?_
 refine en hK1 ?_
 obtain ⟨q2, h, hk3⟩ := bnd_some h
 refine aw_cut (fun s => gleaningref1_SameSpan_k0 a0 a1 = some r ∧ s = lit [(2, .ptr 2 0 0), (3, .ptr 3 0 0)] [((2, 0), .box [.int .u64 a0.Trace.Hi, .int .u64 a0.Trace.Lo, .int .u64 a0.Id, .int .u64 a0.Parent, .str a0.Service, .str a0.Op, .int .i64 a0.Start, .int .i64 a0.Dur, .bool a0.Err, .sl 2 (List.map enc90 a0.Attrs)]), ((3, 0), .box [.int .u64 a1.Trace.Hi, .int .u64 a1.Trace.Lo, .int .u64 a1.Id, .int .u64 a1.Parent, .str a1.Service, .str a1.Op, .int .i64 a1.Start, .int .i64 a1.Dur, .bool a1.Err, .sl 2 (List.map enc90 a1.Attrs)])] [(2, 1), (3, 1)] X) ?_ ?_
 ·skip
  refine sr fun K4 hK4 => ?_
  refine pf 6 (.ptr 2 0 0) ty69 ty66 ?_
  refine pl 7 (.agg [.int .u64 a0.Trace.Hi, .int .u64 a0.Trace.Lo]) ty66 ?_
  refine pf 8 (.ptr 3 0 0) ty69 ty66 ?_
  refine pl 9 (.agg [.int .u64 a1.Trace.Hi, .int .u64 a1.Trace.Lo]) ty66 ?_
  refine pP 10 (does_eq_struct (v := .bool (!((a0.Trace.Hi == a1.Trace.Hi) && ((a0.Trace.Lo == a1.Trace.Lo) && true)))) W_ W_ fk66 rfl ag66 eg66 W_ rfl) ?_
  refine pm 11 (.bool (!((a0.Trace.Hi == a1.Trace.Hi) && ((a0.Trace.Lo == a1.Trace.Lo) && true)))) ?_
  refine al_bool (c := (!((a0.Trace.Hi == a1.Trace.Hi) && ((a0.Trace.Lo == a1.Trace.Lo) && true)))) 11 rfl (fun c5 => ?_) (fun c5 => ?_)
  ·have h := ifT c5 h
   refine pS 12 ?_
   refine pS 13 ?_
   refine pS 14 ?_
   refine pS 15 ?_
   refine pS 16 ?_
   refine pk 17 (.bool true) ?_
   refine pm 18 (.bool true) ?_
   refine pS 19 ?_
   refine pS 20 ?_
   refine pS 21 ?_
   refine pS 22 ?_
   refine pS 23 ?_
   refine pk 24 (.bool true) ?_
   refine pm 25 (.bool true) ?_
   refine pS 26 ?_
   refine pS 27 ?_
   refine pS 28 ?_
   refine pS 29 ?_
   refine pS 30 ?_
   refine pk 31 (.bool true) ?_
   refine pm 32 (.bool true) ?_
   refine pS 33 ?_
   refine pS 34 ?_
   refine pS 35 ?_
   refine pS 36 ?_
   refine pS 37 ?_
   refine pk 38 (.bool true) ?_
   refine pm 39 (.bool true) ?_
   refine pS 40 ?_
   refine pS 41 ?_
   refine pS 42 ?_
   refine pS 43 ?_
   refine pS 44 ?_
   refine pk 45 (.bool true) ?_
   refine pm 46 (.bool true) ?_
   refine pS 47 ?_
   refine pS 48 ?_
   refine pS 49 ?_
   refine pS 50 ?_
   refine pS 51 ?_
   refine pk 52 (.bool true) ?_
   refine pm 53 (.bool true) ?_
   refine pS 54 ?_
   refine pS 55 ?_
   refine pS 56 ?_
   refine pS 57 ?_
   refine pS 58 ?_
   refine pk 59 (.bool true) ?_
   refine pm 60 (.bool true) ?_
   refine pS 61 ?_
   refine pS 62 ?_
   refine pS 63 ?_
   refine pS 64 ?_
   refine pS 65 ?_
   refine pS 66 ?_
   refine pS 67 ?_
   refine pk 68 (.bool true) ?_
   refine en hK4 ?_
   refine aw_cond_t D_ rfl ?_
   refine sr fun K6 hK6 => ?_
   refine pa 4 (.bool false) ?_
   refine en hK6 ?_
   refine aw_ret ?_
   have h := leafR h hk3
   obtain rfl := Option.some.inj h
   exact ret_ok1 W_ W_ R_ (.inr rfl) rfl
  ·have h := ifF c5 h
   refine pf 12 (.ptr 2 0 2) ty69 ty46 ?_
   refine pl 13 (.int .u64 a0.Id) ty46 ?_
   refine pf 14 (.ptr 3 0 2) ty69 ty46 ?_
   refine pl 15 (.int .u64 a1.Id) ty46 ?_
   refine pb 16 (.bool (a0.Id != a1.Id)) ?_
   refine pk 17 (.bool (a0.Id != a1.Id)) ?_
   refine pm 18 (.bool (a0.Id != a1.Id)) ?_
   refine al_bool (c := (a0.Id != a1.Id)) 18 rfl (fun c7 => ?_) (fun c7 => ?_)
   ·have h := ifT c7 h
    refine pS 19 ?_
    refine pS 20 ?_
    refine pS 21 ?_
    refine pS 22 ?_
    refine pS 23 ?_
    refine pk 24 (.bool true) ?_
    refine pm 25 (.bool true) ?_
    refine pS 26 ?_
    refine pS 27 ?_
    refine pS 28 ?_
    refine pS 29 ?_
    refine pS 30 ?_
    refine pk 31 (.bool true) ?_
    refine pm 32 (.bool true) ?_
    refine pS 33 ?_
    refine pS 34 ?_
    refine pS 35 ?_
    refine pS 36 ?_
    refine pS 37 ?_
    refine pk 38 (.bool true) ?_
    refine pm 39 (.bool true) ?_
    refine pS 40 ?_
    refine pS 41 ?_
    refine pS 42 ?_
    refine pS 43 ?_
    refine pS 44 ?_
    refine pk 45 (.bool true) ?_
    refine pm 46 (.bool true) ?_
    refine pS 47 ?_
    refine pS 48 ?_
    refine pS 49 ?_
    refine pS 50 ?_
    refine pS 51 ?_
    refine pk 52 (.bool true) ?_
    refine pm 53 (.bool true) ?_
    refine pS 54 ?_
    refine pS 55 ?_
    refine pS 56 ?_
    refine pS 57 ?_
    refine pS 58 ?_
    refine pk 59 (.bool true) ?_
    refine pm 60 (.bool true) ?_
    refine pS 61 ?_
    refine pS 62 ?_
    refine pS 63 ?_
    refine pS 64 ?_
    refine pS 65 ?_
    refine pS 66 ?_
    refine pS 67 ?_
    refine pk 68 (.bool true) ?_
    refine en hK4 ?_
    refine aw_cond_t D_ rfl ?_
    refine sr fun K8 hK8 => ?_
    refine pa 4 (.bool false) ?_
    refine en hK8 ?_
    refine aw_ret ?_
    have h := leafR h hk3
    obtain rfl := Option.some.inj h
    exact ret_ok1 W_ W_ R_ (.inr rfl) rfl
   ·have h := ifF c7 h
    refine pf 19 (.ptr 2 0 3) ty69 ty46 ?_
    refine pl 20 (.int .u64 a0.Parent) ty46 ?_
    refine pf 21 (.ptr 3 0 3) ty69 ty46 ?_
    refine pl 22 (.int .u64 a1.Parent) ty46 ?_
    refine pb 23 (.bool (a0.Parent != a1.Parent)) ?_
    refine pk 24 (.bool (a0.Parent != a1.Parent)) ?_
    refine pm 25 (.bool (a0.Parent != a1.Parent)) ?_
    refine al_bool (c := (a0.Parent != a1.Parent)) 25 rfl (fun c9 => ?_) (fun c9 => ?_)
    ·have h := ifT c9 h
     refine pS 26 ?_
     refine pS 27 ?_
     refine pS 28 ?_
     refine pS 29 ?_
     refine pS 30 ?_
     refine pk 31 (.bool true) ?_
     refine pm 32 (.bool true) ?_
     refine pS 33 ?_
     refine pS 34 ?_
     refine pS 35 ?_
     refine pS 36 ?_
     refine pS 37 ?_
     refine pk 38 (.bool true) ?_
     refine pm 39 (.bool true) ?_
     refine pS 40 ?_
     refine pS 41 ?_
     refine pS 42 ?_
     refine pS 43 ?_
     refine pS 44 ?_
     refine pk 45 (.bool true) ?_
     refine pm 46 (.bool true) ?_
     refine pS 47 ?_
     refine pS 48 ?_
     refine pS 49 ?_
     refine pS 50 ?_
     refine pS 51 ?_
     refine pk 52 (.bool true) ?_
     refine pm 53 (.bool true) ?_
     refine pS 54 ?_
     refine pS 55 ?_
     refine pS 56 ?_
     refine pS 57 ?_
     refine pS 58 ?_
     refine pk 59 (.bool true) ?_
     refine pm 60 (.bool true) ?_
     refine pS 61 ?_
     refine pS 62 ?_
     refine pS 63 ?_
     refine pS 64 ?_
     refine pS 65 ?_
     refine pS 66 ?_
     refine pS 67 ?_
     refine pk 68 (.bool true) ?_
     refine en hK4 ?_
     refine aw_cond_t D_ rfl ?_
     refine sr fun K10 hK10 => ?_
     refine pa 4 (.bool false) ?_
     refine en hK10 ?_
     refine aw_ret ?_
     have h := leafR h hk3
     obtain rfl := Option.some.inj h
     exact ret_ok1 W_ W_ R_ (.inr rfl) rfl
    ·have h := ifF c9 h
     refine pf 26 (.ptr 2 0 4) ty69 ty9 ?_
     refine pl 27 (.str a0.Service) ty9 ?_
     refine pf 28 (.ptr 3 0 4) ty69 ty9 ?_
     refine pl 29 (.str a1.Service) ty9 ?_
     refine pb 30 (.bool (!(ByteArray.toList a0.Service == ByteArray.toList a1.Service))) ?_
     refine pk 31 (.bool (!(ByteArray.toList a0.Service == ByteArray.toList a1.Service))) ?_
     refine pm 32 (.bool (!(ByteArray.toList a0.Service == ByteArray.toList a1.Service))) ?_
     refine al_bool (c := (!(ByteArray.toList a0.Service == ByteArray.toList a1.Service))) 32 rfl (fun c11 => ?_) (fun c11 => ?_)
     ·have h := ifT c11 h
      refine pS 33 ?_
      refine pS 34 ?_
      refine pS 35 ?_
      refine pS 36 ?_
      refine pS 37 ?_
      refine pk 38 (.bool true) ?_
      refine pm 39 (.bool true) ?_
      refine pS 40 ?_
      refine pS 41 ?_
      refine pS 42 ?_
      refine pS 43 ?_
      refine pS 44 ?_
      refine pk 45 (.bool true) ?_
      refine pm 46 (.bool true) ?_
      refine pS 47 ?_
      refine pS 48 ?_
      refine pS 49 ?_
      refine pS 50 ?_
      refine pS 51 ?_
      refine pk 52 (.bool true) ?_
      refine pm 53 (.bool true) ?_
      refine pS 54 ?_
      refine pS 55 ?_
      refine pS 56 ?_
      refine pS 57 ?_
      refine pS 58 ?_
      refine pk 59 (.bool true) ?_
      refine pm 60 (.bool true) ?_
      refine pS 61 ?_
      refine pS 62 ?_
      refine pS 63 ?_
      refine pS 64 ?_
      refine pS 65 ?_
      refine pS 66 ?_
      refine pS 67 ?_
      refine pk 68 (.bool true) ?_
      refine en hK4 ?_
      refine aw_cond_t D_ rfl ?_
      refine sr fun K12 hK12 => ?_
      refine pa 4 (.bool false) ?_
      refine en hK12 ?_
      refine aw_ret ?_
      have h := leafR h hk3
      obtain rfl := Option.some.inj h
      exact ret_ok1 W_ W_ R_ (.inr rfl) rfl
     ·have h := ifF c11 h
      refine pf 33 (.ptr 2 0 5) ty69 ty9 ?_
      refine pl 34 (.str a0.Op) ty9 ?_
      refine pf 35 (.ptr 3 0 5) ty69 ty9 ?_
      refine pl 36 (.str a1.Op) ty9 ?_
      refine pb 37 (.bool (!(ByteArray.toList a0.Op == ByteArray.toList a1.Op))) ?_
      refine pk 38 (.bool (!(ByteArray.toList a0.Op == ByteArray.toList a1.Op))) ?_
      refine pm 39 (.bool (!(ByteArray.toList a0.Op == ByteArray.toList a1.Op))) ?_
      refine al_bool (c := (!(ByteArray.toList a0.Op == ByteArray.toList a1.Op))) 39 rfl (fun c13 => ?_) (fun c13 => ?_)
      ·have h := ifT c13 h
       refine pS 40 ?_
       refine pS 41 ?_
       refine pS 42 ?_
       refine pS 43 ?_
       refine pS 44 ?_
       refine pk 45 (.bool true) ?_
       refine pm 46 (.bool true) ?_
       refine pS 47 ?_
       refine pS 48 ?_
       refine pS 49 ?_
       refine pS 50 ?_
       refine pS 51 ?_
       refine pk 52 (.bool true) ?_
       refine pm 53 (.bool true) ?_
       refine pS 54 ?_
       refine pS 55 ?_
       refine pS 56 ?_
       refine pS 57 ?_
       refine pS 58 ?_
       refine pk 59 (.bool true) ?_
       refine pm 60 (.bool true) ?_
       refine pS 61 ?_
       refine pS 62 ?_
       refine pS 63 ?_
       refine pS 64 ?_
       refine pS 65 ?_
       refine pS 66 ?_
       refine pS 67 ?_
       refine pk 68 (.bool true) ?_
       refine en hK4 ?_
       refine aw_cond_t D_ rfl ?_
       refine sr fun K14 hK14 => ?_
       refine pa 4 (.bool false) ?_
       refine en hK14 ?_
       refine aw_ret ?_
       have h := leafR h hk3
       obtain rfl := Option.some.inj h
       exact ret_ok1 W_ W_ R_ (.inr rfl) rfl
      ·have h := ifF c13 h
       refine pf 40 (.ptr 2 0 6) ty69 ty3 ?_
       refine pl 41 (.int .i64 a0.Start) ty3 ?_
       refine pf 42 (.ptr 3 0 6) ty69 ty3 ?_
       refine pl 43 (.int .i64 a1.Start) ty3 ?_
       refine pb 44 (.bool (a0.Start != a1.Start)) ?_
       refine pk 45 (.bool (a0.Start != a1.Start)) ?_
       refine pm 46 (.bool (a0.Start != a1.Start)) ?_
       refine al_bool (c := (a0.Start != a1.Start)) 46 rfl (fun c15 => ?_) (fun c15 => ?_)
       ·have h := ifT c15 h
        refine pS 47 ?_
        refine pS 48 ?_
        refine pS 49 ?_
        refine pS 50 ?_
        refine pS 51 ?_
        refine pk 52 (.bool true) ?_
        refine pm 53 (.bool true) ?_
        refine pS 54 ?_
        refine pS 55 ?_
        refine pS 56 ?_
        refine pS 57 ?_
        refine pS 58 ?_
        refine pk 59 (.bool true) ?_
        refine pm 60 (.bool true) ?_
        refine pS 61 ?_
        refine pS 62 ?_
        refine pS 63 ?_
        refine pS 64 ?_
        refine pS 65 ?_
        refine pS 66 ?_
        refine pS 67 ?_
        refine pk 68 (.bool true) ?_
        refine en hK4 ?_
        refine aw_cond_t D_ rfl ?_
        refine sr fun K16 hK16 => ?_
        refine pa 4 (.bool false) ?_
        refine en hK16 ?_
        refine aw_ret ?_
        have h := leafR h hk3
        obtain rfl := Option.some.inj h
        exact ret_ok1 W_ W_ R_ (.inr rfl) rfl
       ·have h := ifF c15 h
        refine pf 47 (.ptr 2 0 7) ty69 ty3 ?_
        refine pl 48 (.int .i64 a0.Dur) ty3 ?_
        refine pf 49 (.ptr 3 0 7) ty69 ty3 ?_
        refine pl 50 (.int .i64 a1.Dur) ty3 ?_
        refine pb 51 (.bool (a0.Dur != a1.Dur)) ?_
        refine pk 52 (.bool (a0.Dur != a1.Dur)) ?_
        refine pm 53 (.bool (a0.Dur != a1.Dur)) ?_
        refine al_bool (c := (a0.Dur != a1.Dur)) 53 rfl (fun c17 => ?_) (fun c17 => ?_)
        ·have h := ifT c17 h
         refine pS 54 ?_
         refine pS 55 ?_
         refine pS 56 ?_
         refine pS 57 ?_
         refine pS 58 ?_
         refine pk 59 (.bool true) ?_
         refine pm 60 (.bool true) ?_
         refine pS 61 ?_
         refine pS 62 ?_
         refine pS 63 ?_
         refine pS 64 ?_
         refine pS 65 ?_
         refine pS 66 ?_
         refine pS 67 ?_
         refine pk 68 (.bool true) ?_
         refine en hK4 ?_
         refine aw_cond_t D_ rfl ?_
         refine sr fun K18 hK18 => ?_
         refine pa 4 (.bool false) ?_
         refine en hK18 ?_
         refine aw_ret ?_
         have h := leafR h hk3
         obtain rfl := Option.some.inj h
         exact ret_ok1 W_ W_ R_ (.inr rfl) rfl
        ·have h := ifF c17 h
         refine pf 54 (.ptr 2 0 8) ty69 ty4 ?_
         refine pl 55 (.bool a0.Err) ty4 ?_
         refine pf 56 (.ptr 3 0 8) ty69 ty4 ?_
         refine pl 57 (.bool a1.Err) ty4 ?_
         refine pP 58 (does_eq_bool (v := .bool (!(a0.Err == a1.Err))) W_ W_ (ty_bool ty4) rfl) ?_
         refine pk 59 (.bool (!(a0.Err == a1.Err))) ?_
         refine pm 60 (.bool (!(a0.Err == a1.Err))) ?_
         refine al_bool (c := (!(a0.Err == a1.Err))) 60 rfl (fun c19 => ?_) (fun c19 => ?_)
         ·have h := ifT c19 h
          refine pS 61 ?_
          refine pS 62 ?_
          refine pS 63 ?_
          refine pS 64 ?_
          refine pS 65 ?_
          refine pS 66 ?_
          refine pS 67 ?_
          refine pk 68 (.bool true) ?_
          refine en hK4 ?_
          refine aw_cond_t D_ rfl ?_
          refine sr fun K20 hK20 => ?_
          refine pa 4 (.bool false) ?_
          refine en hK20 ?_
          refine aw_ret ?_
          have h := leafR h hk3
          obtain rfl := Option.some.inj h
          exact ret_ok1 W_ W_ R_ (.inr rfl) rfl
         ·have h := ifF c19 h
          refine pf 61 (.ptr 2 0 9) ty69 ty67 ?_
          refine pl 62 (.sl 2 (List.map enc90 a0.Attrs)) ty67 ?_
          refine pP 63 ((does_len_sl W_ ty67).castp (v' := .int .i64 (List.length a0.Attrs : Int)) (by exact len_map _)) ?_
          refine pf 64 (.ptr 3 0 9) ty69 ty67 ?_
          refine pl 65 (.sl 2 (List.map enc90 a1.Attrs)) ty67 ?_
          refine pP 66 ((does_len_sl W_ ty67).castp (v' := .int .i64 (List.length a1.Attrs : Int)) (by exact len_map _)) ?_
          refine pb 67 (.bool ((List.length a0.Attrs : Int) != (List.length a1.Attrs : Int))) ?_
          refine pk 68 (.bool ((List.length a0.Attrs : Int) != (List.length a1.Attrs : Int))) ?_
          refine en hK4 ?_
          refine aw_bool (b := ((List.length a0.Attrs : Int) != (List.length a1.Attrs : Int))) 68 rfl (fun c21 => ?_) (fun c21 => ?_)
          ·have h := ifT c21 h
           refine aw_cond_t D_ rfl ?_
           refine sr fun K22 hK22 => ?_
           refine pa 4 (.bool false) ?_
           refine en hK22 ?_
           refine aw_ret ?_
           have h := leafR h hk3
           obtain rfl := Option.some.inj h
           exact ret_ok1 W_ W_ R_ (.inr rfl) rfl
          ·have h := ifF c21 h
           refine aw_cond_f D_ rfl ?_
           refine aw_skip ?_
           have h := leafL h hk3
           exact ⟨_, reb_lit [(2, .ptr 2 0 0), (3, .ptr 3 0 0)] [(2, 0), (3, 0)] [((2, 0), .box [.int .u64 a0.Trace.Hi, .int .u64 a0.Trace.Lo, .int .u64 a0.Id, .int .u64 a0.Parent, .str a0.Service, .str a0.Op, .int .i64 a0.Start, .int .i64 a0.Dur, .bool a0.Err, .sl 2 (List.map enc90 a0.Attrs)]), ((3, 0), .box [.int .u64 a1.Trace.Hi, .int .u64 a1.Trace.Lo, .int .u64 a1.Id, .int .u64 a1.Parent, .str a1.Service, .str a1.Op, .int .i64 a1.Start, .int .i64 a1.Dur, .bool a1.Err, .sl 2 (List.map enc90 a1.Attrs)])] [(2, 1), (3, 1)] (ec (ec envOk_nil)) (objOk_cons W_ W_ R_ (by simp) (objOk_cons W_ W_ R_ (by simp) objOk_nil)) (nodup_b rfl) (nodup_b rfl) rfl rfl, h, rfl⟩
 ·rintro s ⟨h, rfl⟩
  unfold gleaningref1_SameSpan_k0 at h
  refine aw_seq_k (fun K23 hK23 => ?_)
  refine sr fun K24 hK24 => ?_
  refine pa 5 (.int .i64 0) ?_
  refine en hK24 ?_
  refine aw_block ?_
  refine aw_loop' (fun m s => ∃ (v5_1 : Int), loopN (fun (s : Int) => gleaningref1_SameSpan_l1 a0 a1 s) m v5_1 = some r ∧ s = lit [(2, .ptr 2 0 0), (3, .ptr 3 0 0), (5, .int .i64 v5_1)] [((2, 0), .box [.int .u64 a0.Trace.Hi, .int .u64 a0.Trace.Lo, .int .u64 a0.Id, .int .u64 a0.Parent, .str a0.Service, .str a0.Op, .int .i64 a0.Start, .int .i64 a0.Dur, .bool a0.Err, .sl 2 (List.map enc90 a0.Attrs)]), ((3, 0), .box [.int .u64 a1.Trace.Hi, .int .u64 a1.Trace.Lo, .int .u64 a1.Id, .int .u64 a1.Parent, .str a1.Service, .str a1.Op, .int .i64 a1.Start, .int .i64 a1.Dur, .bool a1.Err, .sl 2 (List.map enc90 a1.Attrs)])] [(2, 1), (3, 1)] X) Fu
   ⟨_, reb_lit [(2, .ptr 2 0 0), (3, .ptr 3 0 0), (5, .int .i64 (0))] [(2, 0), (3, 0)] [((2, 0), .box [.int .u64 a0.Trace.Hi, .int .u64 a0.Trace.Lo, .int .u64 a0.Id, .int .u64 a0.Parent, .str a0.Service, .str a0.Op, .int .i64 a0.Start, .int .i64 a0.Dur, .bool a0.Err, .sl 2 (List.map enc90 a0.Attrs)]), ((3, 0), .box [.int .u64 a1.Trace.Hi, .int .u64 a1.Trace.Lo, .int .u64 a1.Id, .int .u64 a1.Parent, .str a1.Service, .str a1.Op, .int .i64 a1.Start, .int .i64 a1.Dur, .bool a1.Err, .sl 2 (List.map enc90 a1.Attrs)])] [(2, 1), (3, 1)] (ec (ec (ec envOk_nil))) (objOk_cons W_ W_ R_ (by simp) (objOk_cons W_ W_ R_ (by simp) objOk_nil)) (nodup_b rfl) (nodup_b rfl) rfl rfl, 0, h, rfl⟩ ?_
  rintro m s ⟨v5_1, h, rfl⟩
  obtain ⟨m1, q25, rfl, h, hq26⟩ := loop_some h
  replace h : gleaningref1_SameSpan_l1 a0 a1 v5_1 = some q25 := h
  unfold gleaningref1_SameSpan_l1 at h
  refine aw_seq_k (fun K27 hK27 => ?_)
  refine sr fun K28 hK28 => ?_
  refine pm 69 (.int .i64 v5_1) ?_
  refine pf 70 (.ptr 2 0 9) ty69 ty67 ?_
  refine pl 71 (.sl 2 (List.map enc90 a0.Attrs)) ty67 ?_
  refine pP 72 ((does_len_sl W_ ty67).castp (v' := .int .i64 (List.length a0.Attrs : Int)) (by exact len_map _)) ?_
  refine pb 73 (.bool (decide (v5_1 < (List.length a0.Attrs : Int)))) ?_
  refine en hK28 ?_
  refine aw_bool (b := (decide (v5_1 < (List.length a0.Attrs : Int)))) 73 rfl (fun c29 => ?_) (fun c29 => ?_)
  ·have h := ifT c29 h
   refine aw_cond_t D_ rfl ?_
   refine aw_skip ?_
   refine hK27 _ ?_
   refine aw_seq_k (fun K30 hK30 => ?_)
   refine aw_block ?_
   refine aw_seq_k (fun K31 hK31 => ?_)
   refine aw_regd (by kernel_rfl) (by decide +kernel) ?_
   refine qP 76 (does_fieldAddr (q := .ptr 2 0 9) W_ ty69 rfl ty67 D_ R_) ?_
   refine qR 77 (does_load (v := .sl 2 (List.map enc90 a0.Attrs)) W_ W_ ty67 R_) ?_
   refine qP 78 (does_move (v := .int .i64 v5_1) R_) ?_
   obtain ⟨g32, h⟩ := gd_some h
   obtain ⟨x33, hx33, h⟩ := bnd_some h
   refine qP 79 (does_indexAddr_sl (el := .agg [.str x33.Key, .str x33.Value]) W_ W_ ty67 ty91 g32 (by exact map_get hx33)) ?_
   refine qR 80 (does_load (v := .agg [.str x33.Key, .str x33.Value]) W_ W_ ty91 R_) ?_
   refine qP 81 (does_fieldAddr (q := .ptr 3 0 9) W_ ty69 rfl ty67 D_ R_) ?_
   refine qR 82 (does_load (v := .sl 2 (List.map enc90 a1.Attrs)) W_ W_ ty67 R_) ?_
   refine qP 83 (does_move (v := .int .i64 v5_1) R_) ?_
   obtain ⟨g34, h⟩ := gd_some h
   obtain ⟨x35, hx35, h⟩ := bnd_some h
   refine qP 84 (does_indexAddr_sl (el := .agg [.str x35.Key, .str x35.Value]) W_ W_ ty67 ty91 g34 (by exact map_get hx35)) ?_
   refine qR 85 (does_load (v := .agg [.str x35.Key, .str x35.Value]) W_ W_ ty91 R_) ?_
   refine qP 86 (does_eq_struct (v := .bool (!((ByteArray.toList x33.Key == ByteArray.toList x35.Key) && ((ByteArray.toList x33.Value == ByteArray.toList x35.Value) && true)))) W_ W_ fk91 rfl ag91 eg91 W_ rfl) ?_
   refine ao_nil_d (by kernel_rfl) ?_
   refine hK31 _ ?_
   refine aw_bool (b := (!((ByteArray.toList x33.Key == ByteArray.toList x35.Key) && ((ByteArray.toList x33.Value == ByteArray.toList x35.Value) && true)))) 86 rfl (fun c36 => ?_) (fun c36 => ?_)
   ·have h := ifT c36 h
    refine aw_cond_t D_ rfl ?_
    refine sr fun K37 hK37 => ?_
    refine pa 4 (.bool false) ?_
    refine en hK37 ?_
    refine aw_ret ?_
    have h := leafR h hq26
    obtain rfl := Option.some.inj h
    exact ret_ok1 W_ W_ R_ (.inr rfl) rfl
   ·have h := ifF c36 h
    refine aw_cond_f D_ rfl ?_
    refine aw_skip ?_
    refine hK30 _ ?_
    refine aw_regL ?_
    refine pm 74 (.int .i64 v5_1) ?_
    refine pb 75 (.int .i64 (IntKind.i64.wrap (v5_1 + 1))) ?_
    refine pa 5 (.int .i64 (IntKind.i64.wrap (v5_1 + 1))) ?_
    refine al_nil ?_
    have h := leafL h hq26
    exact ⟨m1, Nat.lt_succ_self _, _, reb_lit [(2, .ptr 2 0 0), (3, .ptr 3 0 0), (5, .int .i64 (IntKind.i64.wrap (v5_1 + 1)))] [(2, 0), (3, 0)] [((2, 0), .box [.int .u64 a0.Trace.Hi, .int .u64 a0.Trace.Lo, .int .u64 a0.Id, .int .u64 a0.Parent, .str a0.Service, .str a0.Op, .int .i64 a0.Start, .int .i64 a0.Dur, .bool a0.Err, .sl 2 (List.map enc90 a0.Attrs)]), ((3, 0), .box [.int .u64 a1.Trace.Hi, .int .u64 a1.Trace.Lo, .int .u64 a1.Id, .int .u64 a1.Parent, .str a1.Service, .str a1.Op, .int .i64 a1.Start, .int .i64 a1.Dur, .bool a1.Err, .sl 2 (List.map enc90 a1.Attrs)])] [(2, 1), (3, 1)] (ec (ec (ec envOk_nil))) (objOk_cons W_ W_ R_ (by simp) (objOk_cons W_ W_ R_ (by simp) objOk_nil)) (nodup_b rfl) (nodup_b rfl) rfl rfl, (IntKind.i64.wrap (v5_1 + 1)), h, rfl⟩
  ·have h := ifF c29 h
   refine aw_cond_f D_ rfl ?_
   refine aw_exit ?_
   have h := leafR h hq26
   refine hK23 _ ?_
   refine sr fun K38 hK38 => ?_
   refine pa 4 (.bool true) ?_
   refine en hK38 ?_
   refine aw_ret ?_
   obtain rfl := Option.some.inj h
   exact ret_ok1 W_ W_ R_ (.inr rfl) rfl
def gleaningref1_SameSpans_l0 (a0 : List Span) (a1 : List Span) (v5_0 : Int) : Option (Int ⊕ Bool) :=
 if (decide (v5_0 < (List.length a0 : Int))) = true then (gd (0 ≤ v5_0) (Option.bind (a0[(Int.toNat v5_0)]?) (fun (x16 : Span) => gd (0 ≤ v5_0) (Option.bind (a1[(Int.toNat v5_0)]?) (fun (x18 : Span) => Option.bind (gleaningref1_SameSpan x16 x18) (fun (x19 : Bool) => if (!x19) = true then (some (Sum.inr false)) else (some (Sum.inl (IntKind.i64.wrap (v5_0 + 1)))))))))) else (some (Sum.inr true))
def gleaningref1_SameSpans (a0 : List Span) (a1 : List Span) : Option Bool :=
 if ((List.length a0 : Int) != (List.length a1 : Int)) = true then (some false) else (loopN (fun (s : Int) => gleaningref1_SameSpans_l0 a0 a1 s) Fu 0)
theorem gleaningref1_SameSpans_ok (a0 : List Span) (a1 : List Span) {r : Bool} (h : gleaningref1_SameSpans a0 a1 = some r) : Ok Try.prog 27 [.sl 10 (List.map enc68 a0), .sl 10 (List.map enc68 a1)] [] [] (.bool r) [] [] := by
 unfold gleaningref1_SameSpans at h
 refine ok_of_code Try.func27 rfl (by show (2 : Nat) ≤ _; decide) (Nat.le_refl _) fun X => ?_
 refine sr fun K1 hK1 => ?_
 refine pa 4 (.bool false) ?_
 refine en hK1 ?_
 refine aw_seq_k (fun K2 hK2 => ?_)
 refine sr fun K3 hK3 => ?_
 refine pm 6 (.sl 10 (List.map enc68 a0)) ?_
 refine pP 7 ((does_len_sl W_ ty22).castp (v' := .int .i64 (List.length a0 : Int)) (by exact len_map _)) ?_
 refine pm 8 (.sl 10 (List.map enc68 a1)) ?_
 refine pP 9 ((does_len_sl W_ ty22).castp (v' := .int .i64 (List.length a1 : Int)) (by exact len_map _)) ?_
 refine pb 10 (.bool ((List.length a0 : Int) != (List.length a1 : Int))) ?_
 refine en hK3 ?_
 refine aw_bool (b := ((List.length a0 : Int) != (List.length a1 : Int))) 10 rfl (fun c4 => ?_) (fun c4 => ?_)
 ·have h := ifT c4 h
  refine aw_cond_t D_ rfl ?_
  refine sr fun K5 hK5 => ?_
  refine pa 4 (.bool false) ?_
  refine en hK5 ?_
  refine aw_ret ?_
  obtain rfl := Option.some.inj h
  exact ret_ok1 W_ W_ R_ (.inr rfl) rfl
 ·have h := ifF c4 h
  refine aw_cond_f D_ rfl ?_
  refine aw_skip ?_
  refine hK2 _ ?_
  refine aw_seq_k (fun K6 hK6 => ?_)
  refine sr fun K7 hK7 => ?_
  refine pa 5 (.int .i64 0) ?_
  refine en hK7 ?_
  refine aw_block ?_
  refine aw_loop' (fun m s => ∃ (v5_0 : Int), loopN (fun (s : Int) => gleaningref1_SameSpans_l0 a0 a1 s) m v5_0 = some r ∧ s = lit [(0, .sl 10 (List.map enc68 a0)), (1, .sl 10 (List.map enc68 a1)), (5, .int .i64 v5_0)] [] [] X) Fu
   ⟨_, reb_lit [(0, .sl 10 (List.map enc68 a0)), (1, .sl 10 (List.map enc68 a1)), (5, .int .i64 (0))] [] [] [] (ec (ec (ec envOk_nil))) objOk_nil (nodup_b rfl) (nodup_b rfl) rfl rfl, 0, h, rfl⟩ ?_
  rintro m s ⟨v5_0, h, rfl⟩
  obtain ⟨m0, q8, rfl, h, hq9⟩ := loop_some h
  replace h : gleaningref1_SameSpans_l0 a0 a1 v5_0 = some q8 := h
  unfold gleaningref1_SameSpans_l0 at h
  refine aw_seq_k (fun K10 hK10 => ?_)
  refine sr fun K11 hK11 => ?_
  refine pm 11 (.int .i64 v5_0) ?_
  refine pm 12 (.sl 10 (List.map enc68 a0)) ?_
  refine pP 13 ((does_len_sl W_ ty22).castp (v' := .int .i64 (List.length a0 : Int)) (by exact len_map _)) ?_
  refine pb 14 (.bool (decide (v5_0 < (List.length a0 : Int)))) ?_
  refine en hK11 ?_
  refine aw_bool (b := (decide (v5_0 < (List.length a0 : Int)))) 14 rfl (fun c12 => ?_) (fun c12 => ?_)
  ·have h := ifT c12 h
   refine aw_cond_t D_ rfl ?_
   refine aw_skip ?_
   refine hK10 _ ?_
   refine aw_seq_k (fun K13 hK13 => ?_)
   refine aw_block ?_
   refine aw_seq_k (fun K14 hK14 => ?_)
   refine aw_regd (by kernel_rfl) (by decide +kernel) ?_
   refine qP 17 (does_move (v := .sl 10 (List.map enc68 a0)) R_) ?_
   refine qP 18 (does_move (v := .int .i64 v5_0) R_) ?_
   obtain ⟨g15, h⟩ := gd_some h
   obtain ⟨x16, hx16, h⟩ := bnd_some h
   refine qP 19 (does_indexAddr_sl (el := .agg [.int .u64 x16.Trace.Hi, .int .u64 x16.Trace.Lo, .int .u64 x16.Id, .int .u64 x16.Parent, .str x16.Service, .str x16.Op, .int .i64 x16.Start, .int .i64 x16.Dur, .bool x16.Err, .sl 2 (List.map enc90 x16.Attrs)]) W_ W_ ty22 ty69 g15 (by exact map_get hx16)) ?_
   refine qR 20 (does_load (v := .agg [.int .u64 x16.Trace.Hi, .int .u64 x16.Trace.Lo, .int .u64 x16.Id, .int .u64 x16.Parent, .str x16.Service, .str x16.Op, .int .i64 x16.Start, .int .i64 x16.Dur, .bool x16.Err, .sl 2 (List.map enc90 x16.Attrs)]) W_ W_ ty69 R_) ?_
   refine qP 21 (does_move (v := .sl 10 (List.map enc68 a1)) R_) ?_
   refine qP 22 (does_move (v := .int .i64 v5_0) R_) ?_
   obtain ⟨g17, h⟩ := gd_some h
   obtain ⟨x18, hx18, h⟩ := bnd_some h
   refine qP 23 (does_indexAddr_sl (el := .agg [.int .u64 x18.Trace.Hi, .int .u64 x18.Trace.Lo, .int .u64 x18.Id, .int .u64 x18.Parent, .str x18.Service, .str x18.Op, .int .i64 x18.Start, .int .i64 x18.Dur, .bool x18.Err, .sl 2 (List.map enc90 x18.Attrs)]) W_ W_ ty22 ty69 g17 (by exact map_get hx18)) ?_
   refine qR 24 (does_load (v := .agg [.int .u64 x18.Trace.Hi, .int .u64 x18.Trace.Lo, .int .u64 x18.Id, .int .u64 x18.Parent, .str x18.Service, .str x18.Op, .int .i64 x18.Start, .int .i64 x18.Dur, .bool x18.Err, .sl 2 (List.map enc90 x18.Attrs)]) W_ W_ ty69 R_) ?_
   obtain ⟨x19, hx19, h⟩ := bnd_some h
   refine qD 25 (do_call0 25 false (gleaningref1_SameSpan_ok x16 x18 hx19) rfl ent51 rfl rfl) ?_
   refine qP 26 (does_un (v := .bool (!x19)) W_ rfl) ?_
   refine ao_nil_d (by kernel_rfl) ?_
   refine hK14 _ ?_
   refine aw_bool (b := (!x19)) 26 rfl (fun c20 => ?_) (fun c20 => ?_)
   ·have h := ifT c20 h
    refine aw_cond_t D_ rfl ?_
    refine sr fun K21 hK21 => ?_
    refine pa 4 (.bool false) ?_
    refine en hK21 ?_
    refine aw_ret ?_
    have h := leafR h hq9
    obtain rfl := Option.some.inj h
    exact ret_ok1 W_ W_ R_ (.inr rfl) rfl
   ·have h := ifF c20 h
    refine aw_cond_f D_ rfl ?_
    refine aw_skip ?_
    refine hK13 _ ?_
    refine aw_regL ?_
    refine pm 15 (.int .i64 v5_0) ?_
    refine pb 16 (.int .i64 (IntKind.i64.wrap (v5_0 + 1))) ?_
    refine pa 5 (.int .i64 (IntKind.i64.wrap (v5_0 + 1))) ?_
    refine al_nil ?_
    have h := leafL h hq9
    exact ⟨m0, Nat.lt_succ_self _, _, reb_lit [(0, .sl 10 (List.map enc68 a0)), (1, .sl 10 (List.map enc68 a1)), (5, .int .i64 (IntKind.i64.wrap (v5_0 + 1)))] [] [] [] (ec (ec (ec envOk_nil))) objOk_nil (nodup_b rfl) (nodup_b rfl) rfl rfl, (IntKind.i64.wrap (v5_0 + 1)), h, rfl⟩
  ·have h := ifF c12 h
   refine aw_cond_f D_ rfl ?_
   refine aw_exit ?_
   have h := leafR h hq9
   refine hK6 _ ?_
   refine sr fun K22 hK22 => ?_
   refine pa 4 (.bool true) ?_
   refine en hK22 ?_
   refine aw_ret ?_
   obtain rfl := Option.some.inj h
   exact ret_ok1 W_ W_ R_ (.inr rfl) rfl
end Go.Proofs.Ytdhpmlgalddgfaa.Ab
