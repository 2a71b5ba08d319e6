/- Chapter 20: what all its laws ask. -/
import Derived.Test.YtejimiedoibkcaaXRet
import Derived.Test.YtejimiedoibkcaaProg
namespace Go.Proofs.Ytejimiedoibkcaa.Ab
open Go Go.RowKit
set_option linter.unusedVariables false
set_option linter.unusedSimpArgs false
set_option maxRecDepth 100000
set_option maxHeartbeats 8000000
theorem ent9 : Ent Try.prog 9 := ⟨_, Try.func9, by kernel_rfl, rfl⟩
theorem ent14 : Ent Try.prog 14 := ⟨_, Try.func14, by kernel_rfl, rfl⟩
theorem ent23 : Ent Try.prog 23 := ⟨_, Try.func23, by kernel_rfl, rfl⟩
def gleaninglaw15_Few_k1 (a0 : List Episode) (v3_0 : Int) (v4_0 : Int) : Option ((Int × Int) ⊕ Bool) :=
 gd (0 ≤ v4_0) (Option.bind (a0[(Int.toNat v4_0)]?) (fun (x18 : Episode) => Option.bind (gleaninglaw3_FewAll x18.Spans) (fun (x19 : Bool) => if (!x19) = true then (some (Sum.inr false)) else (gd (0 ≤ v4_0) (Option.bind (a0[(Int.toNat v4_0)]?) (fun (x23 : Episode) => some (Sum.inl ((IntKind.i64.wrap ((IntKind.i64.wrap (v3_0 + 1)) + (List.length x23.Spans : Int))), (IntKind.i64.wrap (v4_0 + 1))))))))))
def gleaninglaw15_Few_l0 (a0 : List Episode) (v3_0 : Int) (v4_0 : Int) : Option ((Int × Int) ⊕ Bool) :=
 Option.bind (if (decide (v4_0 < (List.length a0 : Int))) = true then (if (decide (v3_0 < 1000)) = true then (some (Sum.inl ())) else (some (Sum.inr (Sum.inr (decide (v3_0 ≤ 120)))))) else (some (Sum.inr (Sum.inr (decide (v3_0 ≤ 120)))))) (Sum.elim (fun (s : Unit) => gleaninglaw15_Few_k1 a0 v3_0 v4_0) some)
def gleaninglaw15_Few (a0 : List Episode) : Option Bool :=
 loopN (fun (s : Int × Int) => gleaninglaw15_Few_l0 a0 s.1 s.2) Fu (0, 0)
theorem gleaninglaw15_Few_ok (a0 : List Episode) {r : Bool} (h : gleaninglaw15_Few a0 = some r) : Ok Try.prog 14 [.sl 6 (List.map enc46 a0)] [] [] (.bool r) [] [] := by
 unfold gleaninglaw15_Few at h
 refine ok_of_code Try.func14 rfl (by show (1 : Nat) ≤ _; decide) (Nat.le_refl _) fun X => ?_
 refine sr fun K1 hK1 => ?_
 refine pa 2 (.bool false) ?_
 refine en hK1 ?_
 refine sr fun K2 hK2 => ?_
 refine pa 3 (.int .i64 0) ?_
 refine en hK2 ?_
 refine aw_seq_k (fun K3 hK3 => ?_)
 refine sr fun K4 hK4 => ?_
 refine pa 4 (.int .i64 0) ?_
 refine en hK4 ?_
 refine aw_block ?_
 refine aw_loop' (fun m s => ∃ (v3_0 : Int), ∃ (v4_0 : Int), loopN (fun (s : Int × Int) => gleaninglaw15_Few_l0 a0 s.1 s.2) m (v3_0, v4_0) = some r ∧ s = lit [(0, .sl 6 (List.map enc46 a0)), (3, .int .i64 v3_0), (4, .int .i64 v4_0)] [] [] X) Fu
  ⟨_, reb_lit [(0, .sl 6 (List.map enc46 a0)), (3, .int .i64 (0)), (4, .int .i64 (0))] [] [] [] (ec (ec (ec envOk_nil))) objOk_nil (nodup_b rfl) (nodup_b rfl) rfl rfl, 0, 0, h, rfl⟩ ?_
 rintro m s ⟨v3_0, v4_0, h, rfl⟩
 obtain ⟨m0, q5, rfl, h, hq6⟩ := loop_some h
 replace h : gleaninglaw15_Few_l0 a0 v3_0 v4_0 = some q5 := h
 unfold gleaninglaw15_Few_l0 at h
 obtain ⟨q7, h, hk8⟩ := bnd_some h
 refine aw_cut (fun s => gleaninglaw15_Few_k1 a0 v3_0 v4_0 = some q5 ∧ s = lit [(0, .sl 6 (List.map enc46 a0)), (3, .int .i64 v3_0), (4, .int .i64 v4_0)] [] [] X) ?_ ?_
 ·skip
  refine sr fun K9 hK9 => ?_
  refine pm 5 (.int .i64 v4_0) ?_
  refine pm 6 (.sl 6 (List.map enc46 a0)) ?_
  refine pP 7 ((does_len_sl W_ ty29).castp (v' := .int .i64 (List.length a0 : Int)) (by exact len_map _)) ?_
  refine pb 8 (.bool (decide (v4_0 < (List.length a0 : Int)))) ?_
  refine pm 9 (.bool (decide (v4_0 < (List.length a0 : Int)))) ?_
  refine al_bool (c := (decide (v4_0 < (List.length a0 : Int)))) 9 rfl (fun c10 => ?_) (fun c10 => ?_)
  ·have h := ifT c10 h
   refine pm 10 (.int .i64 v3_0) ?_
   refine pb 11 (.bool (decide (v3_0 < 1000))) ?_
   refine pk 12 (.bool (decide (v3_0 < 1000))) ?_
   refine en hK9 ?_
   refine aw_bool (b := (decide (v3_0 < 1000))) 12 rfl (fun c11 => ?_) (fun c11 => ?_)
   ·have h := ifT c11 h
    refine aw_cond_t D_ rfl ?_
    refine aw_skip ?_
    have h := leafL h hk8
    exact ⟨_, reb_lit [(0, .sl 6 (List.map enc46 a0)), (3, .int .i64 v3_0), (4, .int .i64 v4_0)] [] [] [] (ec (ec (ec envOk_nil))) objOk_nil (nodup_b rfl) (nodup_b rfl) rfl rfl, h, rfl⟩
   ·have h := ifF c11 h
    refine aw_cond_f D_ rfl ?_
    refine aw_exit ?_
    have h := leafR h hk8
    have h := leafR h hq6
    refine hK3 _ ?_
    refine sr fun K12 hK12 => ?_
    refine pm 31 (.int .i64 v3_0) ?_
    refine pb 32 (.bool (decide (v3_0 ≤ 120))) ?_
    refine pa 2 (.bool (decide (v3_0 ≤ 120))) ?_
    refine en hK12 ?_
    refine aw_ret ?_
    obtain rfl := Option.some.inj h
    exact ret_ok1 W_ W_ R_ (.inr rfl) rfl
  ·have h := ifF c10 h
   refine pS 10 ?_
   refine pS 11 ?_
   refine pk 12 (.bool false) ?_
   refine en hK9 ?_
   refine aw_cond_f D_ rfl ?_
   refine aw_exit ?_
   have h := leafR h hk8
   have h := leafR h hq6
   refine hK3 _ ?_
   refine sr fun K13 hK13 => ?_
   refine pm 31 (.int .i64 v3_0) ?_
   refine pb 32 (.bool (decide (v3_0 ≤ 120))) ?_
   refine pa 2 (.bool (decide (v3_0 ≤ 120))) ?_
   refine en hK13 ?_
   refine aw_ret ?_
   obtain rfl := Option.some.inj h
   exact ret_ok1 W_ W_ R_ (.inr rfl) rfl
 ·rintro s ⟨h, rfl⟩
  unfold gleaninglaw15_Few_k1 at h
  refine aw_seq_k (fun K14 hK14 => ?_)
  refine aw_block ?_
  refine aw_seq_k (fun K15 hK15 => ?_)
  refine sr fun K16 hK16 => ?_
  refine pm 15 (.sl 6 (List.map enc46 a0)) ?_
  refine pm 16 (.int .i64 v4_0) ?_
  obtain ⟨g17, h⟩ := gd_some h
  obtain ⟨x18, hx18, h⟩ := bnd_some h
  refine pP 17 (does_indexAddr_sl (el := .agg [.int .u64 x18.Trace.Hi, .int .u64 x18.Trace.Lo, .int .i64 x18.First, .int .i64 x18.Last, .bool x18.Sure, .sl 10 (List.map enc58 x18.Spans)]) W_ W_ ty29 ty47 g17 (by exact map_get hx18)) ?_
  refine pf 18 (.rptr [.sl 10 (List.map enc58 x18.Spans)]) ty47 ty45 ?_
  refine pl 19 (.sl 10 (List.map enc58 x18.Spans)) ty45 ?_
  obtain ⟨x19, hx19, h⟩ := bnd_some h
  refine pD 20 (do_call0 20 false (gleaninglaw3_FewAll_ok x18.Spans hx19) rfl ent23 rfl rfl) ?_
  refine pP 21 (does_un (v := .bool (!x19)) W_ rfl) ?_
  refine en hK16 ?_
  refine aw_bool (b := (!x19)) 21 rfl (fun c20 => ?_) (fun c20 => ?_)
  ·have h := ifT c20 h
   refine aw_cond_t D_ rfl ?_
   refine sr fun K21 hK21 => ?_
   refine pa 2 (.bool false) ?_
   refine en hK21 ?_
   refine aw_ret ?_
   have h := leafR h hq6
   obtain rfl := Option.some.inj h
   exact ret_ok1 W_ W_ R_ (.inr rfl) rfl
  ·have h := ifF c20 h
   refine aw_cond_f D_ rfl ?_
   refine aw_skip ?_
   refine hK15 _ ?_
   refine aw_regL ?_
   refine pm 22 (.int .i64 v3_0) ?_
   refine pb 23 (.int .i64 (IntKind.i64.wrap (v3_0 + 1))) ?_
   refine pm 24 (.sl 6 (List.map enc46 a0)) ?_
   refine pm 25 (.int .i64 v4_0) ?_
   obtain ⟨g22, h⟩ := gd_some h
   obtain ⟨x23, hx23, h⟩ := bnd_some h
   refine pP 26 (does_indexAddr_sl (el := .agg [.int .u64 x23.Trace.Hi, .int .u64 x23.Trace.Lo, .int .i64 x23.First, .int .i64 x23.Last, .bool x23.Sure, .sl 10 (List.map enc58 x23.Spans)]) W_ W_ ty29 ty47 g22 (by exact map_get hx23)) ?_
   refine pf 27 (.rptr [.sl 10 (List.map enc58 x23.Spans)]) ty47 ty45 ?_
   refine pl 28 (.sl 10 (List.map enc58 x23.Spans)) ty45 ?_
   refine pP 29 ((does_len_sl W_ ty45).castp (v' := .int .i64 (List.length x23.Spans : Int)) (by exact len_map _)) ?_
   refine pb 30 (.int .i64 (IntKind.i64.wrap ((IntKind.i64.wrap (v3_0 + 1)) + (List.length x23.Spans : Int)))) ?_
   refine pa 3 (.int .i64 (IntKind.i64.wrap ((IntKind.i64.wrap (v3_0 + 1)) + (List.length x23.Spans : Int)))) ?_
   refine en hK14 ?_
   refine aw_regL ?_
   refine pm 13 (.int .i64 v4_0) ?_
   refine pb 14 (.int .i64 (IntKind.i64.wrap (v4_0 + 1))) ?_
   refine pa 4 (.int .i64 (IntKind.i64.wrap (v4_0 + 1))) ?_
   refine al_nil ?_
   have h := leafL h hq6
   exact ⟨m0, Nat.lt_succ_self _, _, reb_lit [(0, .sl 6 (List.map enc46 a0)), (3, .int .i64 (IntKind.i64.wrap ((IntKind.i64.wrap (v3_0 + 1)) + (List.length x23.Spans : Int)))), (4, .int .i64 (IntKind.i64.wrap (v4_0 + 1)))] [] [] [] (ec (ec (ec envOk_nil))) objOk_nil (nodup_b rfl) (nodup_b rfl) rfl rfl, (IntKind.i64.wrap ((IntKind.i64.wrap (v3_0 + 1)) + (List.length x23.Spans : Int))), (IntKind.i64.wrap (v4_0 + 1)), h, rfl⟩
def Episode.wf (a : Episode) : Prop := (Trace.wf a.Trace) ∧ (inI .i64 a.First) ∧ (inI .i64 a.Last) ∧ True ∧ ((List.length a.Spans) ≤ maxLen ∧ ∀ y ∈ a.Spans, Span.wf y)
theorem sh47 : ∀ (m : Nat) (cs : List PV), Shape Try.prog m 47 cs → ∃ a : Episode, cs = [.int .u64 a.Trace.Hi, .int .u64 a.Trace.Lo, .int .i64 a.First, .int .i64 a.Last, .bool a.Sure, .sl 10 (List.map enc58 a.Spans)] ∧ (Episode.wf a) := fun m cs h => by
 obtain ⟨hl, m, hf⟩ := shape_struct h Try.underlying47
 have f0 := hf 0 _ rfl
 obtain ⟨a0, e0, w0⟩ := sh44 m _ f0
 rw [show Try.prog.cellsOf _ = 2 by kernel_rfl] at e0
 have f1 := hf 1 _ rfl
 obtain ⟨a1, e1, w1⟩ := sh3 m _ f1
 rw [show Try.prog.cellsOf _ = 1 by kernel_rfl] at e1
 have f2 := hf 2 _ rfl
 obtain ⟨a2, e2, w2⟩ := sh3 m _ f2
 rw [show Try.prog.cellsOf _ = 1 by kernel_rfl] at e2
 have f3 := hf 3 _ rfl
 obtain ⟨a3, e3, w3⟩ := sh4 m _ f3
 rw [show Try.prog.cellsOf _ = 1 by kernel_rfl] at e3
 have f4 := hf 4 _ rfl
 obtain ⟨a4, e4, w4⟩ := sh45 m _ f4
 rw [show Try.prog.cellsOf _ = 1 by kernel_rfl] at e4
 exact ⟨⟨a0, a1, a2, a3, a4⟩, tile_all (l := [(2, [.int .u64 a0.Hi, .int .u64 a0.Lo]), (1, [.int .i64 a1]), (1, [.int .i64 a2]), (1, [.bool a3]), (1, [.sl 10 (List.map enc58 a4)])]) ⟨e0, e1, e2, e3, e4, trivial⟩ hl (by kernel_rfl), ⟨w0, w1, w2, w3, w4⟩⟩
theorem sh29 : ∀ (m : Nat) (cs : List PV), Shape Try.prog m 29 cs → ∃ a : List Episode, cs = [.sl 6 (List.map enc46 a)] ∧ ((List.length a) ≤ maxLen ∧ ∀ y ∈ a, Episode.wf y) := fun m cs h => by
 obtain ⟨l, h1, h2, h3⟩ := shape_rows (f := enc46) (Q := fun y => Episode.wf y) h Try.underlying29 (fun m ps hs => by
  obtain ⟨a, rfl, hw⟩ := sh47 m ps hs
  exact ⟨a, by rw [show aggT Try.prog 47 = true by kernel_rfl]; rfl, hw⟩)
 exact ⟨l, h1.trans (by rw [show Try.prog.cellsOf 47 = 6 by kernel_rfl]), h2, h3⟩
def gleaninglaw19_Few_k2 (a0 : List Block) (v3_s_1 : List Episode) (v4_1 : Int) : Option ((List Episode × Int) ⊕ (List Episode)) :=
 gd (0 ≤ v4_1) (Option.bind (a0[(Int.toNat v4_1)]?) (fun (x15 : Block) => gd ((List.length (v3_s_1 ++ x15.Episodes)) * 64 ≤ 140737488355328 ∧ (List.length (v3_s_1 ++ x15.Episodes)) ≤ 140737488355328) (some (Sum.inl ((v3_s_1 ++ x15.Episodes), (IntKind.i64.wrap (v4_1 + 1)))))))
def gleaninglaw19_Few_l1 (a0 : List Block) (v3_s_1 : List Episode) (v4_1 : Int) : Option ((List Episode × Int) ⊕ (List Episode)) :=
 Option.bind (if (decide (v4_1 < (List.length a0 : Int))) = true then (if (decide (v4_1 < 20)) = true then (some (Sum.inl ())) else (some (Sum.inr (Sum.inr v3_s_1)))) else (some (Sum.inr (Sum.inr v3_s_1)))) (Sum.elim (fun (s : Unit) => gleaninglaw19_Few_k2 a0 v3_s_1 v4_1) some)
def gleaninglaw19_Few_k0 (a0 : List Block) (v3_s_0 : List Episode) : Option Bool :=
 if (decide ((List.length a0 : Int) ≤ 12)) = true then (Option.bind (gleaninglaw15_Few v3_s_0) (fun (x19 : Bool) => some x19)) else (some false)
def gleaninglaw19_Few (a0 : List Block) : Option Bool :=
 Option.bind (loopN (fun (s : List Episode × Int) => gleaninglaw19_Few_l1 a0 s.1 s.2) Fu ([], 0)) (fun (s : List Episode) => gleaninglaw19_Few_k0 a0 s)
theorem gleaninglaw19_Few_ok (a0 : List Block) {r : Bool} (h : gleaninglaw19_Few a0 = some r) : Ok Try.prog 8 [.sl 4 (List.map enc30 a0)] [] [] (.bool r) [] [] := by
 unfold gleaninglaw19_Few at h
 refine ok_of_code Try.func8 rfl (by show (1 : Nat) ≤ _; decide) (Nat.le_refl _) fun X => ?_
 refine sr fun K1 hK1 => ?_
 refine pa 2 (.bool false) ?_
 refine en hK1 ?_
 refine sr fun K2 hK2 => ?_
 refine pa 3 (.nil) ?_
 refine en hK2 ?_
 obtain ⟨q3, h, hk4⟩ := bnd_some h
 refine aw_cut (fun s => ∃ (v3_s_0 : List Episode), gleaninglaw19_Few_k0 a0 v3_s_0 = some r ∧ s = lit [(0, .sl 4 (List.map enc30 a0)), (3, .own 3 0)] [((3, 0), .arr 47 6 false (List.map enc46 v3_s_0))] [(3, 1)] X) ?_ ?_
 ·skip
  refine sr fun K5 hK5 => ?_
  refine pa 4 (.int .i64 0) ?_
  refine en hK5 ?_
  refine aw_block ?_
  refine aw_nilOwn 3 47 6 W_ D_ D_ ?_
  refine aw_loop' (fun m s => ∃ (v3_s_1 : List Episode), ∃ (v4_1 : Int), loopN (fun (s : List Episode × Int) => gleaninglaw19_Few_l1 a0 s.1 s.2) m (v3_s_1, v4_1) = some q3 ∧ s = lit [(0, .sl 4 (List.map enc30 a0)), (3, .own 3 0), (4, .int .i64 v4_1)] [((3, 0), .arr 47 6 false (List.map enc46 v3_s_1))] [(3, 1)] X) Fu
   ⟨_, reb_lit [(0, .sl 4 (List.map enc30 a0)), (3, .own 3 0), (4, .int .i64 (0))] [(3, 0)] [((3, 0), .arr 47 6 false (List.map enc46 []))] [(3, 1)] (ec (ec (ec envOk_nil))) (objOk_cons W_ W_ R_ (by simp) objOk_nil) (nodup_b rfl) (nodup_b rfl) rfl rfl, [], 0, h, rfl⟩ ?_
  rintro m s ⟨v3_s_1, v4_1, h, rfl⟩
  obtain ⟨m1, q6, rfl, h, hq7⟩ := loop_some h
  replace h : gleaninglaw19_Few_l1 a0 v3_s_1 v4_1 = some q6 := h
  unfold gleaninglaw19_Few_l1 at h
  obtain ⟨q8, h, hk9⟩ := bnd_some h
  refine aw_cut (fun s => gleaninglaw19_Few_k2 a0 v3_s_1 v4_1 = some q6 ∧ s = lit [(0, .sl 4 (List.map enc30 a0)), (3, .own 3 0), (4, .int .i64 v4_1)] [((3, 0), .arr 47 6 false (List.map enc46 v3_s_1))] [(3, 1)] X) ?_ ?_
  ·skip
   refine sr fun K10 hK10 => ?_
   refine pm 5 (.int .i64 v4_1) ?_
   refine pm 6 (.sl 4 (List.map enc30 a0)) ?_
   refine pP 7 ((does_len_sl W_ ty22).castp (v' := .int .i64 (List.length a0 : Int)) (by exact len_map _)) ?_
   refine pb 8 (.bool (decide (v4_1 < (List.length a0 : Int)))) ?_
   refine pm 9 (.bool (decide (v4_1 < (List.length a0 : Int)))) ?_
   refine al_bool (c := (decide (v4_1 < (List.length a0 : Int)))) 9 rfl (fun c11 => ?_) (fun c11 => ?_)
   ·have h := ifT c11 h
    refine pm 10 (.int .i64 v4_1) ?_
    refine pb 11 (.bool (decide (v4_1 < 20))) ?_
    refine pk 12 (.bool (decide (v4_1 < 20))) ?_
    refine en hK10 ?_
    refine aw_bool (b := (decide (v4_1 < 20))) 12 rfl (fun c12 => ?_) (fun c12 => ?_)
    ·have h := ifT c12 h
     refine aw_cond_t D_ rfl ?_
     refine aw_skip ?_
     have h := leafL h hk9
     exact ⟨_, reb_lit [(0, .sl 4 (List.map enc30 a0)), (3, .own 3 0), (4, .int .i64 v4_1)] [(3, 0)] [((3, 0), .arr 47 6 false (List.map enc46 v3_s_1))] [(3, 1)] (ec (ec (ec envOk_nil))) (objOk_cons W_ W_ R_ (by simp) objOk_nil) (nodup_b rfl) (nodup_b rfl) rfl rfl, h, rfl⟩
    ·have h := ifF c12 h
     refine aw_cond_f D_ rfl ?_
     refine aw_exit ?_
     have h := leafR h hk9
     have h := leafR h hq7
     obtain rfl := Option.some.inj h
     have h := hk4
     exact ⟨_, reb_lit [(0, .sl 4 (List.map enc30 a0)), (3, .own 3 0)] [(3, 0)] [((3, 0), .arr 47 6 false (List.map enc46 v3_s_1))] [(3, 1)] (ec (ec envOk_nil)) (objOk_cons W_ W_ R_ (by simp) objOk_nil) (nodup_b rfl) (nodup_b rfl) rfl rfl, v3_s_1, h, rfl⟩
   ·have h := ifF c11 h
    refine pS 10 ?_
    refine pS 11 ?_
    refine pk 12 (.bool false) ?_
    refine en hK10 ?_
    refine aw_cond_f D_ rfl ?_
    refine aw_exit ?_
    have h := leafR h hk9
    have h := leafR h hq7
    obtain rfl := Option.some.inj h
    have h := hk4
    exact ⟨_, reb_lit [(0, .sl 4 (List.map enc30 a0)), (3, .own 3 0)] [(3, 0)] [((3, 0), .arr 47 6 false (List.map enc46 v3_s_1))] [(3, 1)] (ec (ec envOk_nil)) (objOk_cons W_ W_ R_ (by simp) objOk_nil) (nodup_b rfl) (nodup_b rfl) rfl rfl, v3_s_1, h, rfl⟩
  ·rintro s ⟨h, rfl⟩
   unfold gleaninglaw19_Few_k2 at h
   refine aw_seq_k (fun K13 hK13 => ?_)
   refine aw_block ?_
   refine aw_regL ?_
   refine pm 15 (.own 3 0) ?_
   refine pm 16 (.sl 4 (List.map enc30 a0)) ?_
   refine pm 17 (.int .i64 v4_1) ?_
   obtain ⟨g14, h⟩ := gd_some h
   obtain ⟨x15, hx15, h⟩ := bnd_some h
   refine pP 18 (does_indexAddr_sl (el := .agg [.int .i64 x15.Number, .int .i64 x15.Born, .int .i64 x15.Tier, .sl 6 (List.map enc46 x15.Episodes)]) W_ W_ ty22 ty31 g14 (by exact map_get hx15)) ?_
   refine pf 19 (.rptr [.sl 6 (List.map enc46 x15.Episodes)]) ty31 ty29 ?_
   refine pl 20 (.sl 6 (List.map enc46 x15.Episodes)) ty29 ?_
   obtain ⟨g16, h⟩ := gd_some h
   refine pD 21 (do_append (v := List.map enc46 (v3_s_1 ++ x15.Episodes)) W_ W_ ty29 ty47 rfl rfl W_ (by first | exact .inl rfl | exact .inr ⟨rfl, rfl⟩) W_ (by first | exact .inr rfl | exact .inl rfl) (map_app _ _) (fit_map g16)) ?_
   refine pa 3 (.own 21 0) ?_
   refine en hK13 ?_
   refine aw_regL ?_
   refine pm 13 (.int .i64 v4_1) ?_
   refine pb 14 (.int .i64 (IntKind.i64.wrap (v4_1 + 1))) ?_
   refine pa 4 (.int .i64 (IntKind.i64.wrap (v4_1 + 1))) ?_
   refine al_nil ?_
   have h := leafL h hq7
   exact ⟨m1, Nat.lt_succ_self _, _, reb_lit [(0, .sl 4 (List.map enc30 a0)), (3, .own 3 0), (4, .int .i64 (IntKind.i64.wrap (v4_1 + 1)))] [(21, 0)] [((3, 0), .arr 47 6 false (List.map enc46 (v3_s_1 ++ x15.Episodes)))] [(3, 1)] (ec (ec (ec envOk_nil))) (objOk_cons W_ W_ R_ (by simp) objOk_nil) (nodup_b rfl) (nodup_b rfl) rfl rfl, (v3_s_1 ++ x15.Episodes), (IntKind.i64.wrap (v4_1 + 1)), h, rfl⟩
 ·rintro s ⟨v3_s_0, h, rfl⟩
  unfold gleaninglaw19_Few_k0 at h
  refine sr fun K17 hK17 => ?_
  refine pm 22 (.sl 4 (List.map enc30 a0)) ?_
  refine pP 23 ((does_len_sl W_ ty22).castp (v' := .int .i64 (List.length a0 : Int)) (by exact len_map _)) ?_
  refine pb 24 (.bool (decide ((List.length a0 : Int) ≤ 12))) ?_
  refine pm 25 (.bool (decide ((List.length a0 : Int) ≤ 12))) ?_
  refine al_bool (c := (decide ((List.length a0 : Int) ≤ 12))) 25 rfl (fun c18 => ?_) (fun c18 => ?_)
  ·have h := ifT c18 h
   refine pm 26 (.own 3 0) ?_
   obtain ⟨x19, hx19, h⟩ := bnd_some h
   refine pD 27 (do_callG (bcs := []) [] [] [(3, 0)] 27 false (gleaninglaw15_Few_ok v3_s_0 hx19) rfl ent14 trivial trivial rfl rfl rfl rfl rfl rfl rfl rfl (.inr ⟨rfl, rfl, trivial⟩)) ?_
   refine pk 28 (.bool x19) ?_
   refine pa 2 (.bool x19) ?_
   refine en hK17 ?_
   refine aw_ret ?_
   obtain rfl := Option.some.inj h
   exact ret_ok1 W_ W_ R_ (.inr rfl) rfl
  ·have h := ifF c18 h
   refine pS 26 ?_
   refine pS 27 ?_
   refine pk 28 (.bool false) ?_
   refine pa 2 (.bool false) ?_
   refine en hK17 ?_
   refine aw_ret ?_
   obtain rfl := Option.some.inj h
   exact ret_ok1 W_ W_ R_ (.inr rfl) rfl
def Block.wf (a : Block) : Prop := (inI .i64 a.Number) ∧ (inI .i64 a.Born) ∧ (inI .i64 a.Tier) ∧ ((List.length a.Episodes) ≤ maxLen ∧ ∀ y ∈ a.Episodes, Episode.wf y)
theorem sh31 : ∀ (m : Nat) (cs : List PV), Shape Try.prog m 31 cs → ∃ a : Block, cs = [.int .i64 a.Number, .int .i64 a.Born, .int .i64 a.Tier, .sl 6 (List.map enc46 a.Episodes)] ∧ (Block.wf a) := fun m cs h => by
 obtain ⟨hl, m, hf⟩ := shape_struct h Try.underlying31
 have f0 := hf 0 _ rfl
 obtain ⟨a0, e0, w0⟩ := sh3 m _ f0
 rw [show Try.prog.cellsOf _ = 1 by kernel_rfl] at e0
 have f1 := hf 1 _ rfl
 obtain ⟨a1, e1, w1⟩ := sh3 m _ f1
 rw [show Try.prog.cellsOf _ = 1 by kernel_rfl] at e1
 have f2 := hf 2 _ rfl
 obtain ⟨a2, e2, w2⟩ := sh3 m _ f2
 rw [show Try.prog.cellsOf _ = 1 by kernel_rfl] at e2
 have f3 := hf 3 _ rfl
 obtain ⟨a3, e3, w3⟩ := sh29 m _ f3
 rw [show Try.prog.cellsOf _ = 1 by kernel_rfl] at e3
 exact ⟨⟨a0, a1, a2, a3⟩, tile_all (l := [(1, [.int .i64 a0]), (1, [.int .i64 a1]), (1, [.int .i64 a2]), (1, [.sl 6 (List.map enc46 a3)])]) ⟨e0, e1, e2, e3, trivial⟩ hl (by kernel_rfl), ⟨w0, w1, w2, w3⟩⟩
theorem sh22 : ∀ (m : Nat) (cs : List PV), Shape Try.prog m 22 cs → ∃ a : List Block, cs = [.sl 4 (List.map enc30 a)] ∧ ((List.length a) ≤ maxLen ∧ ∀ y ∈ a, Block.wf y) := fun m cs h => by
 obtain ⟨l, h1, h2, h3⟩ := shape_rows (f := enc30) (Q := fun y => Block.wf y) h Try.underlying22 (fun m ps hs => by
  obtain ⟨a, rfl, hw⟩ := sh31 m ps hs
  exact ⟨a, by rw [show aggT Try.prog 31 = true by kernel_rfl]; rfl, hw⟩)
 exact ⟨l, h1.trans (by rw [show Try.prog.cellsOf 31 = 4 by kernel_rfl]), h2, h3⟩
def gleaninglaw20_alive : Option Bool :=
 Option.bind (retire_Choose [(Block.mk 7 0 0 []), (Block.mk 8 9 0 [])] 10 5 1000) (fun (x3 : List Int) => Option.bind (retire_Choose [] 0 0 0) (fun (x5 : List Int) => if ((List.length x5 : Int) == 0) = true then (if ((List.length x3 : Int) == 1) = true then (Option.bind (x3[0]?) (fun (x8 : Int) => some (x8 == 7))) else (some false)) else (some false)))
theorem gleaninglaw20_alive_ok {r : Bool} (h : gleaninglaw20_alive = some r) : Ok Try.prog 7 [] [] [] (.bool r) [] [] := by
 unfold gleaninglaw20_alive at h
 refine ok_of_code Try.func7 rfl (by show (0 : Nat) ≤ _; decide) (Nat.le_refl _) fun X => ?_
 refine sr fun K1 hK1 => ?_
 refine pa 0 (.bool false) ?_
 refine en hK1 ?_
 refine sr fun K2 hK2 => ?_
 refine pP 2 ((do_build_struct (cs := [.int .i64 7, .int .i64 0, .int .i64 0, .nil]) ty31 rfl [⟨.int .i64, 1, 8, [.int .i64 0]⟩, ⟨.int .i64, 1, 8, [.int .i64 0]⟩, ⟨.int .i64, 1, 8, [.int .i64 0]⟩, ⟨.slice 47, 1, 24, [.nil]⟩] (by simp only [List.map, ty29, ty3]) (by rfl) R_).weak (v' := .agg [.int .i64 7, .int .i64 0, .int .i64 0, .sl 6 (List.map enc46 [])]) (le_agg ⟨le_refl _, le_refl _, le_refl _, le_nil _, trivial⟩)) ?_
 refine pP 3 ((do_build_struct (cs := [.int .i64 8, .int .i64 9, .int .i64 0, .nil]) ty31 rfl [⟨.int .i64, 1, 8, [.int .i64 0]⟩, ⟨.int .i64, 1, 8, [.int .i64 0]⟩, ⟨.int .i64, 1, 8, [.int .i64 0]⟩, ⟨.slice 47, 1, 24, [.nil]⟩] (by simp only [List.map, ty29, ty3]) (by rfl) R_).weak (v' := .agg [.int .i64 8, .int .i64 9, .int .i64 0, .sl 6 (List.map enc46 [])]) (le_agg ⟨le_refl _, le_refl _, le_refl _, le_nil _, trivial⟩)) ?_
 refine pD 4 (do_buildSlice (xs := List.map enc30 [(Block.mk 7 0 0 []), (Block.mk 8 9 0 [])]) ty22 ty31 rfl rfl rfl rfl rfl rfl rfl rfl) ?_
 obtain ⟨x3, hx3, h⟩ := bnd_some h
 refine pD 5 (do_callG (bcs := []) [] [] [(4, 0)] 5 false (retire_Choose_ok [(Block.mk 7 0 0 []), (Block.mk 8 9 0 [])] 10 5 1000 hx3) rfl ent9 trivial trivial rfl rfl rfl rfl rfl rfl rfl rfl (.inr ⟨rfl, rfl, ⟨plain_map (fun _ => rfl), trivial⟩⟩)) ?_
 refine pa 1 (.own 5 0) ?_
 refine en hK2 ?_
 refine sr fun K4 hK4 => ?_
 obtain ⟨x5, hx5, h⟩ := bnd_some h
 refine pD 6 (do_call0 6 false ((retire_Choose_ok [] 0 0 0 hx5).weak (args' := [.nil, _, _, _]) ⟨le_nil _, le_refl _, le_refl _, le_refl _, trivial⟩) rfl ent9 rfl rfl) ?_
 refine pX 7 ((does_len_own W_ W_ ty25).cast (v' := .int .i64 (List.length x5 : Int)) (by exact len_map _)) ?_
 refine pb 8 (.bool ((List.length x5 : Int) == 0)) ?_
 refine pm 9 (.bool ((List.length x5 : Int) == 0)) ?_
 refine al_bool (c := ((List.length x5 : Int) == 0)) 9 rfl (fun c6 => ?_) (fun c6 => ?_)
 ·have h := ifT c6 h
  refine pm 10 (.own 5 0) ?_
  refine pX 11 ((does_len_own W_ W_ ty25).cast (v' := .int .i64 (List.length x3 : Int)) (by exact len_map _)) ?_
  refine pb 12 (.bool ((List.length x3 : Int) == 1)) ?_
  refine pk 13 (.bool ((List.length x3 : Int) == 1)) ?_
  refine pm 14 (.bool ((List.length x3 : Int) == 1)) ?_
  refine al_bool (c := ((List.length x3 : Int) == 1)) 14 rfl (fun c7 => ?_) (fun c7 => ?_)
  ·have h := ifT c7 h
   refine pm 15 (.own 5 0) ?_
   obtain ⟨x8, hx8, h⟩ := bnd_some h
   refine pX 16 (does_indexAddr_own W_ W_ W_ ty25 ty3 D_ (by exact own_lt hx8)) ?_
   refine pX 17 (does_load (v := .int .i64 x8) W_ (cellsAt_eptr W_ (by exact map_get hx8)) ty3 R_) ?_
   refine pb 18 (.bool (x8 == 7)) ?_
   refine pk 19 (.bool (x8 == 7)) ?_
   refine pa 0 (.bool (x8 == 7)) ?_
   refine en hK4 ?_
   refine aw_ret ?_
   obtain rfl := Option.some.inj h
   exact ret_ok1 W_ W_ R_ (.inr rfl) rfl
  ·have h := ifF c7 h
   refine pS 15 ?_
   refine pS 16 ?_
   refine pS 17 ?_
   refine pS 18 ?_
   refine pk 19 (.bool false) ?_
   refine pa 0 (.bool false) ?_
   refine en hK4 ?_
   refine aw_ret ?_
   obtain rfl := Option.some.inj h
   exact ret_ok1 W_ W_ R_ (.inr rfl) rfl
 ·have h := ifF c6 h
  refine pS 10 ?_
  refine pS 11 ?_
  refine pS 12 ?_
  refine pk 13 (.bool false) ?_
  refine pm 14 (.bool false) ?_
  refine pS 15 ?_
  refine pS 16 ?_
  refine pS 17 ?_
  refine pS 18 ?_
  refine pk 19 (.bool false) ?_
  refine pa 0 (.bool false) ?_
  refine en hK4 ?_
  refine aw_ret ?_
  obtain rfl := Option.some.inj h
  exact ret_ok1 W_ W_ R_ (.inr rfl) rfl
end Go.Proofs.Ytejimiedoibkcaa.Ab
