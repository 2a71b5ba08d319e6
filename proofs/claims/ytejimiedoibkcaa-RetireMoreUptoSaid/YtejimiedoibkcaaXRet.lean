/- Which blocks go: the program, the document. -/
import Derived.Test.YtejimiedoibkcaaXBlk2
import Derived.Test.YtejimiedoibkcaaProg
namespace Go.Proofs.Ytejimiedoibkcaa.Ab
open Go Go.RowKit
set_option linter.unusedVariables false
set_option linter.unusedSimpArgs false
set_option maxRecDepth 100000
set_option maxHeartbeats 8000000
def enc30 (x : Block) : PV := .agg [.int .i64 x.Number, .int .i64 x.Born, .int .i64 x.Tier, .sl 6 (List.map enc46 x.Episodes)]
theorem ty22 : tyOf Try.prog 22 = some ⟨.slice 31, 1, 24, [.nil]⟩ := by kernel_rfl
theorem ent11 : Ent Try.prog 11 := ⟨_, Try.func11, by kernel_rfl, rfl⟩
theorem ent12 : Ent Try.prog 12 := ⟨_, Try.func12, by kernel_rfl, rfl⟩
theorem ent15 : Ent Try.prog 15 := ⟨_, Try.func15, by kernel_rfl, rfl⟩
theorem ent16 : Ent Try.prog 16 := ⟨_, Try.func16, by kernel_rfl, rfl⟩
theorem ent17 : Ent Try.prog 17 := ⟨_, Try.func17, by kernel_rfl, rfl⟩
theorem ent18 : Ent Try.prog 18 := ⟨_, Try.func18, by kernel_rfl, rfl⟩
theorem ent19 : Ent Try.prog 19 := ⟨_, Try.func19, by kernel_rfl, rfl⟩
def retire_Total_l0 (a0 : List Block) (v3_0 : Int) (v8_0 : Int) : Option ((Int × Int) ⊕ Int) :=
 if (decide (v8_0 < (List.length a0 : Int))) = true then (gd (0 ≤ v8_0) (Option.bind (a0[(Int.toNat v8_0)]?) (fun (x13 : Block) => Option.bind (block_Size x13) (fun (x14 : Int) => some (Sum.inl ((IntKind.i64.wrap (v3_0 + x14)), (IntKind.i64.wrap (v8_0 + 1)))))))) else (some (Sum.inr v3_0))
def retire_Total (a0 : List Block) : Option Int :=
 loopN (fun (s : Int × Int) => retire_Total_l0 a0 s.1 s.2) Fu (0, 0)
theorem retire_Total_ok (a0 : List Block) {r : Int} (h : retire_Total a0 = some r) : Ok Try.prog 11 [.sl 4 (List.map enc30 a0)] [] [] (.int .i64 r) [] [] := by
 unfold retire_Total at h
 refine ok_of_code Try.func11 rfl (by show (1 : Nat) ≤ _; decide) (Nat.le_refl _) fun X => ?_
 refine sr fun K1 hK1 => ?_
 refine pa 2 (.int .i64 0) ?_
 refine en hK1 ?_
 refine sr fun K2 hK2 => ?_
 refine pa 3 (.int .i64 0) ?_
 refine en hK2 ?_
 refine aw_seq_k (fun K3 hK3 => ?_)
 refine sr fun K4 hK4 => ?_
 refine pm 6 (.sl 4 (List.map enc30 a0)) ?_
 refine pP 7 ((does_len_sl W_ ty22).castp (v' := .int .i64 (List.length a0 : Int)) (by exact len_map _)) ?_
 refine pm 8 (.int .i64 0) ?_
 refine en hK4 ?_
 refine aw_block ?_
 refine aw_loop' (fun m s => ∃ (v3_0 : Int), ∃ (v8_0 : Int), loopN (fun (s : Int × Int) => retire_Total_l0 a0 s.1 s.2) m (v3_0, v8_0) = some r ∧ s = lit [(3, .int .i64 v3_0), (6, .sl 4 (List.map enc30 a0)), (7, .int .i64 (List.length a0 : Int)), (8, .int .i64 v8_0)] [] [] X) Fu
  ⟨_, reb_lit [(3, .int .i64 (0)), (6, .sl 4 (List.map enc30 a0)), (7, .int .i64 (List.length a0 : Int)), (8, .int .i64 (0))] [] [] [] (ec (ec (ec (ec envOk_nil)))) objOk_nil (nodup_b rfl) (nodup_b rfl) rfl rfl, 0, 0, h, rfl⟩ ?_
 rintro m s ⟨v3_0, v8_0, h, rfl⟩
 obtain ⟨m0, q5, rfl, h, hq6⟩ := loop_some h
 replace h : retire_Total_l0 a0 v3_0 v8_0 = some q5 := h
 unfold retire_Total_l0 at h
 refine sr fun K7 hK7 => ?_
 refine pb 9 (.bool (decide (v8_0 < (List.length a0 : Int)))) ?_
 refine en hK7 ?_
 refine aw_seq_k (fun K8 hK8 => ?_)
 refine aw_bool (b := (decide (v8_0 < (List.length a0 : Int)))) 9 rfl (fun c9 => ?_) (fun c9 => ?_)
 ·have h := ifT c9 h
  refine aw_cond_t D_ rfl ?_
  refine aw_skip ?_
  refine hK8 _ ?_
  refine aw_seq_k (fun K10 hK10 => ?_)
  refine aw_block ?_
  refine sr fun K11 hK11 => ?_
  obtain ⟨g12, h⟩ := gd_some h
  obtain ⟨x13, hx13, h⟩ := bnd_some h
  refine pP 10 (does_indexAddr_sl (el := .agg [.int .i64 x13.Number, .int .i64 x13.Born, .int .i64 x13.Tier, .sl 6 (List.map enc46 x13.Episodes)]) W_ W_ ty22 ty31 g12 (by exact map_get hx13)) ?_
  refine pl 11 (.agg [.int .i64 x13.Number, .int .i64 x13.Born, .int .i64 x13.Tier, .sl 6 (List.map enc46 x13.Episodes)]) ty31 ?_
  refine pD 5 (do_new ty31 rfl rfl) ?_
  refine alD none rfl rfl (do_store (cs' := [.int .i64 x13.Number, .int .i64 x13.Born, .int .i64 x13.Tier, .sl 6 (List.map enc46 x13.Episodes)]) W_ W_ W_ ty31 rfl rfl rfl R_) D_ ?_
  refine en hK11 ?_
  refine aw_regL ?_
  refine pm 12 (.int .i64 v3_0) ?_
  refine pl 13 (.agg [.int .i64 x13.Number, .int .i64 x13.Born, .int .i64 x13.Tier, .sl 6 (List.map enc46 x13.Episodes)]) ty31 ?_
  obtain ⟨x14, hx14, h⟩ := bnd_some h
  refine pD 14 (do_call0 14 false (block_Size_ok x13 hx14) rfl ent16 rfl rfl) ?_
  refine pb 15 (.int .i64 (IntKind.i64.wrap (v3_0 + x14))) ?_
  refine pa 3 (.int .i64 (IntKind.i64.wrap (v3_0 + x14))) ?_
  refine en hK10 ?_
  refine aw_regL ?_
  refine pb 16 (.int .i64 (IntKind.i64.wrap (v8_0 + 1))) ?_
  refine pm 8 (.int .i64 (IntKind.i64.wrap (v8_0 + 1))) ?_
  refine al_nil ?_
  have h := leafL h hq6
  exact ⟨m0, Nat.lt_succ_self _, _, reb_lit [(3, .int .i64 (IntKind.i64.wrap (v3_0 + x14))), (6, .sl 4 (List.map enc30 a0)), (7, .int .i64 (List.length a0 : Int)), (8, .int .i64 (IntKind.i64.wrap (v8_0 + 1)))] [] [] [] (ec (ec (ec (ec envOk_nil)))) objOk_nil (nodup_b rfl) (nodup_b rfl) rfl rfl, (IntKind.i64.wrap (v3_0 + x14)), (IntKind.i64.wrap (v8_0 + 1)), h, rfl⟩
 ·have h := ifF c9 h
  refine aw_cond_f D_ rfl ?_
  refine aw_exit ?_
  have h := leafR h hq6
  refine hK3 _ ?_
  refine sr fun K15 hK15 => ?_
  refine pm 17 (.int .i64 v3_0) ?_
  refine pa 2 (.int .i64 v3_0) ?_
  refine en hK15 ?_
  refine aw_ret ?_
  obtain rfl := Option.some.inj h
  exact ret_ok1 W_ W_ R_ (.inr rfl) rfl
def rollup_Less_k0 (a0 : Int) (a1 : Int) (v9_0 : Bool) : Option Int :=
 if v9_0 = true then (some (-9223372036854775808)) else (if (decide (a1 < 0)) = true then (if (decide ((IntKind.i64.wrap (a0 - a1)) < a0)) = true then (some 9223372036854775807) else (some (IntKind.i64.wrap (a0 - a1)))) else (some (IntKind.i64.wrap (a0 - a1))))
def rollup_Less (a0 : Int) (a1 : Int) : Option Int :=
 Option.bind (if (decide ((0 : Int) < a1)) = true then (some (decide (a0 < (IntKind.i64.wrap (a0 - a1))))) else (some false)) (fun (s : Bool) => rollup_Less_k0 a0 a1 s)
theorem rollup_Less_ok (a0 : Int) (a1 : Int) {r : Int} (h : rollup_Less a0 a1 = some r) : Ok Try.prog 15 [.int .i64 a0, .int .i64 a1] [] [] (.int .i64 r) [] [] := by
 unfold rollup_Less at h
 refine ok_of_code Try.func15 rfl (by show (2 : Nat) ≤ _; decide) (Nat.le_refl _) fun X => ?_
 refine sr fun K1 hK1 => ?_
 refine pa 4 (.int .i64 0) ?_
 refine en hK1 ?_
 refine sr fun K2 hK2 => ?_
 refine pm 6 (.int .i64 a0) ?_
 refine pm 7 (.int .i64 a1) ?_
 refine pb 8 (.int .i64 (IntKind.i64.wrap (a0 - a1))) ?_
 refine pa 5 (.int .i64 (IntKind.i64.wrap (a0 - a1))) ?_
 refine en hK2 ?_
 refine aw_seq_k (fun K3 hK3 => ?_)
 refine aw_block ?_
 obtain ⟨q4, h, hk5⟩ := bnd_some h
 refine aw_cut (fun s => ∃ (v9_0 : Bool), rollup_Less_k0 a0 a1 v9_0 = some r ∧ s = lit [(0, .int .i64 a0), (1, .int .i64 a1), (5, .int .i64 (IntKind.i64.wrap (a0 - a1))), (9, .bool v9_0)] [] [] X) ?_ ?_
 ·skip
  refine aw_regL ?_
  refine pm 10 (.int .i64 a1) ?_
  refine pb 11 (.bool (decide ((0 : Int) < a1))) ?_
  refine pm 12 (.bool (decide ((0 : Int) < a1))) ?_
  refine al_bool (c := (decide ((0 : Int) < a1))) 12 rfl (fun c6 => ?_) (fun c6 => ?_)
  ·have h := ifT c6 h
   refine pm 13 (.int .i64 (IntKind.i64.wrap (a0 - a1))) ?_
   refine pm 14 (.int .i64 a0) ?_
   refine pb 15 (.bool (decide (a0 < (IntKind.i64.wrap (a0 - a1))))) ?_
   refine pk 16 (.bool (decide (a0 < (IntKind.i64.wrap (a0 - a1))))) ?_
   refine pa 9 (.bool (decide (a0 < (IntKind.i64.wrap (a0 - a1))))) ?_
   refine al_nil ?_
   obtain rfl := Option.some.inj h
   have h := hk5
   exact ⟨_, reb_lit [(0, .int .i64 a0), (1, .int .i64 a1), (5, .int .i64 (IntKind.i64.wrap (a0 - a1))), (9, .bool (decide (a0 < (IntKind.i64.wrap (a0 - a1)))))] [] [] [] (ec (ec (ec (ec envOk_nil)))) objOk_nil (nodup_b rfl) (nodup_b rfl) rfl rfl, (decide (a0 < (IntKind.i64.wrap (a0 - a1)))), h, rfl⟩
  ·have h := ifF c6 h
   refine pS 13 ?_
   refine pS 14 ?_
   refine pS 15 ?_
   refine pk 16 (.bool false) ?_
   refine pa 9 (.bool false) ?_
   refine al_nil ?_
   obtain rfl := Option.some.inj h
   have h := hk5
   exact ⟨_, reb_lit [(0, .int .i64 a0), (1, .int .i64 a1), (5, .int .i64 (IntKind.i64.wrap (a0 - a1))), (9, .bool false)] [] [] [] (ec (ec (ec (ec envOk_nil)))) objOk_nil (nodup_b rfl) (nodup_b rfl) rfl rfl, false, h, rfl⟩
 ·rintro s ⟨v9_0, h, rfl⟩
  unfold rollup_Less_k0 at h
  refine aw_bool (b := v9_0) 9 rfl (fun c7 => ?_) (fun c7 => ?_)
  ·have h := ifT c7 h
   refine aw_cond_t D_ rfl ?_
   refine sr fun K8 hK8 => ?_
   refine pa 4 (.int .i64 (-9223372036854775808)) ?_
   refine en hK8 ?_
   refine aw_ret ?_
   obtain rfl := Option.some.inj h
   exact ret_ok1 W_ W_ R_ (.inr rfl) rfl
  ·have h := ifF c7 h
   refine aw_cond_f D_ rfl ?_
   refine sr fun K9 hK9 => ?_
   refine pm 18 (.int .i64 a1) ?_
   refine pb 19 (.bool (decide (a1 < 0))) ?_
   refine pm 20 (.bool (decide (a1 < 0))) ?_
   refine al_bool (c := (decide (a1 < 0))) 20 rfl (fun c10 => ?_) (fun c10 => ?_)
   ·have h := ifT c10 h
    refine pm 21 (.int .i64 (IntKind.i64.wrap (a0 - a1))) ?_
    refine pm 22 (.int .i64 a0) ?_
    refine pb 23 (.bool (decide ((IntKind.i64.wrap (a0 - a1)) < a0))) ?_
    refine pk 24 (.bool (decide ((IntKind.i64.wrap (a0 - a1)) < a0))) ?_
    refine pa 17 (.bool (decide ((IntKind.i64.wrap (a0 - a1)) < a0))) ?_
    refine en hK9 ?_
    refine aw_bool (b := (decide ((IntKind.i64.wrap (a0 - a1)) < a0))) 17 rfl (fun c11 => ?_) (fun c11 => ?_)
    ·have h := ifT c11 h
     refine aw_cond_t D_ rfl ?_
     refine sr fun K12 hK12 => ?_
     refine pa 4 (.int .i64 9223372036854775807) ?_
     refine en hK12 ?_
     refine aw_ret ?_
     obtain rfl := Option.some.inj h
     exact ret_ok1 W_ W_ R_ (.inr rfl) rfl
    ·have h := ifF c11 h
     refine aw_cond_f D_ rfl ?_
     refine aw_skip ?_
     refine hK3 _ ?_
     refine sr fun K13 hK13 => ?_
     refine pm 25 (.int .i64 (IntKind.i64.wrap (a0 - a1))) ?_
     refine pa 4 (.int .i64 (IntKind.i64.wrap (a0 - a1))) ?_
     refine en hK13 ?_
     refine aw_ret ?_
     obtain rfl := Option.some.inj h
     exact ret_ok1 W_ W_ R_ (.inr rfl) rfl
   ·have h := ifF c10 h
    refine pS 21 ?_
    refine pS 22 ?_
    refine pS 23 ?_
    refine pk 24 (.bool false) ?_
    refine pa 17 (.bool false) ?_
    refine en hK9 ?_
    refine aw_cond_f D_ rfl ?_
    refine aw_skip ?_
    refine hK3 _ ?_
    refine sr fun K14 hK14 => ?_
    refine pm 25 (.int .i64 (IntKind.i64.wrap (a0 - a1))) ?_
    refine pa 4 (.int .i64 (IntKind.i64.wrap (a0 - a1))) ?_
    refine en hK14 ?_
    refine aw_ret ?_
    obtain rfl := Option.some.inj h
    exact ret_ok1 W_ W_ R_ (.inr rfl) rfl
def slices_Delete_Block (a0 : List Block) (a1 : Int) (a2 : Int) : Option (List Block) :=
 gd (0 ≤ a1) (gd (a1 < a2) (gd (a2 ≤ (a0.length : Int)) (some (a0.take a1.toNat ++ a0.drop a2.toNat))))
theorem slices_Delete_Block_ok (a0 : List Block) (a1 : Int) (a2 : Int) {r : List Block} (h : slices_Delete_Block a0 a1 a2 = some r) : Ok Try.prog 17 [.own 1 0, .int .i64 a1, .int .i64 a2] [] [(31, 4, List.map enc30 a0)] (.own 2 0) [] [(31, 4, List.map enc30 r)] :=
 delete_okT (tu := 0) (ti := 3) (tb := 4) (sl := 22) (by kernel_rfl) ⟨"slices.Delete[[]gleaning/api.Block,gleaning/api.Block]", by decide, Try.func17⟩ ⟨by kernel_rfl, by kernel_rfl⟩ ⟨by kernel_rfl, by kernel_rfl⟩ ⟨by kernel_rfl, by kernel_rfl⟩ ⟨by kernel_rfl, by kernel_rfl⟩ (by kernel_rfl) enc30 a0 a1 a2 h
def retire_Choose_l1 (a0 : List Block) (a1 : Int) (a2 : Int) (v9_s_1 : List Int) (v10_s_1 : List Block) (v19_1 : Int) : Option ((List Int × List Block × Int) ⊕ (List Int × List Block)) :=
 if (decide (v19_1 < (List.length a0 : Int))) = true then (gd (0 ≤ v19_1) (Option.bind (a0[(Int.toNat v19_1)]?) (fun (x15 : Block) => Option.bind (rollup_Less a1 x15.Born) (fun (x17 : Int) => if (decide (a2 < x17)) = true then (gd ((List.length (v9_s_1 ++ [x15.Number])) * 8 ≤ 140737488355328 ∧ (List.length (v9_s_1 ++ [x15.Number])) ≤ 140737488355328) (some (Sum.inl ((v9_s_1 ++ [x15.Number]), v10_s_1, (IntKind.i64.wrap (v19_1 + 1)))))) else (gd ((List.length (v10_s_1 ++ [x15])) * 48 ≤ 140737488355328 ∧ (List.length (v10_s_1 ++ [x15])) ≤ 140737488355328) (some (Sum.inl (v9_s_1, (v10_s_1 ++ [x15]), (IntKind.i64.wrap (v19_1 + 1)))))))))) else (some (Sum.inr (v9_s_1, v10_s_1)))
def retire_Choose_l5 (v10_s_2 : List Block) (v14_5 : Int) (v51_5 : Int) : Option ((Int × Int) ⊕ Int) :=
 if (decide (v51_5 < (List.length v10_s_2 : Int))) = true then (gd (0 ≤ v51_5) (Option.bind (v10_s_2[(Int.toNat v51_5)]?) (fun (x45 : Block) => gd (0 ≤ v14_5) (Option.bind (v10_s_2[(Int.toNat v14_5)]?) (fun (x48 : Block) => if (decide (x45.Born < x48.Born)) = true then (some (Sum.inl (v51_5, (IntKind.i64.wrap (v51_5 + 1))))) else (some (Sum.inl (v14_5, (IntKind.i64.wrap (v51_5 + 1)))))))))) else (some (Sum.inr v14_5))
def retire_Choose_k4 (v9_s_2 : List Int) (v10_s_2 : List Block) (v13_2 : Int) (v14_4 : Int) : Option ((List Int × List Block × Int) ⊕ (List Int)) :=
 gd (0 ≤ v14_4) (Option.bind (v10_s_2[(Int.toNat v14_4)]?) (fun (x52 : Block) => Option.bind (block_Size x52) (fun (x53 : Int) => gd (0 ≤ v14_4) (Option.bind (v10_s_2[(Int.toNat v14_4)]?) (fun (x56 : Block) => gd ((List.length (v9_s_2 ++ [x56.Number])) * 8 ≤ 140737488355328 ∧ (List.length (v9_s_2 ++ [x56.Number])) ≤ 140737488355328) (Option.bind (slices_Delete_Block v10_s_2 v14_4 (IntKind.i64.wrap (v14_4 + 1))) (fun (x58 : List Block) => some (Sum.inl ((v9_s_2 ++ [x56.Number]), x58, (IntKind.i64.wrap (v13_2 - x53)))))))))))
def retire_Choose_k3 (v9_s_2 : List Int) (v10_s_2 : List Block) (v13_2 : Int) : Option ((List Int × List Block × Int) ⊕ (List Int)) :=
 Option.bind (loopN (fun (s : Int × Int) => retire_Choose_l5 v10_s_2 s.1 s.2) Fu (0, 0)) (fun (s : Int) => retire_Choose_k4 v9_s_2 v10_s_2 v13_2 s)
def retire_Choose_l2 (a3 : Int) (v9_s_2 : List Int) (v10_s_2 : List Block) (v13_2 : Int) : Option ((List Int × List Block × Int) ⊕ (List Int)) :=
 Option.bind (if (decide (a3 < v13_2)) = true then (if (decide ((1 : Int) < (List.length v10_s_2 : Int))) = true then (some (Sum.inl ())) else (some (Sum.inr (Sum.inr v9_s_2)))) else (some (Sum.inr (Sum.inr v9_s_2)))) (Sum.elim (fun (s : Unit) => retire_Choose_k3 v9_s_2 v10_s_2 v13_2) some)
def retire_Choose_k0 (a3 : Int) (v9_s_0 : List Int) (v10_s_0 : List Block) : Option (List Int) :=
 Option.bind (retire_Total v10_s_0) (fun (x22 : Int) => loopN (fun (s : List Int × List Block × Int) => retire_Choose_l2 a3 s.1 s.2.1 s.2.2) Fu (v9_s_0, v10_s_0, x22))
def retire_Choose (a0 : List Block) (a1 : Int) (a2 : Int) (a3 : Int) : Option (List Int) :=
 Option.bind (loopN (fun (s : List Int × List Block × Int) => retire_Choose_l1 a0 a1 a2 s.1 s.2.1 s.2.2) Fu ([], [], 0)) (fun (s : List Int × List Block) => retire_Choose_k0 a3 s.1 s.2)
theorem retire_Choose_ok (a0 : List Block) (a1 : Int) (a2 : Int) (a3 : Int) {r : List Int} (h : retire_Choose a0 a1 a2 a3 = some r) : Ok Try.prog 9 [.sl 4 (List.map enc30 a0), .int .i64 a1, .int .i64 a2, .int .i64 a3] [] [] (.own 2 0) [] [(3, 1, List.map enc2 r)] := by
 unfold retire_Choose at h
 refine ok_of_code Try.func9 rfl (by show (4 : Nat) ≤ _; decide) (Nat.le_refl _) fun X => ?_
 refine sr fun K1 hK1 => ?_
 refine pa 8 (.nil) ?_
 refine en hK1 ?_
 refine sr fun K2 hK2 => ?_
 refine pa 9 (.nil) ?_
 refine en hK2 ?_
 refine sr fun K3 hK3 => ?_
 refine pa 10 (.nil) ?_
 refine en hK3 ?_
 obtain ⟨q4, h, hk5⟩ := bnd_some h
 refine aw_cut (fun s => ∃ (v9_s_0 : List Int), ∃ (v10_s_0 : List Block), retire_Choose_k0 a3 v9_s_0 v10_s_0 = some r ∧ s = lit [(3, .int .i64 a3), (9, .own 9 0), (10, .own 10 0)] [((9, 0), .arr 3 1 false (List.map enc2 v9_s_0)), ((10, 0), .arr 31 4 false (List.map enc30 v10_s_0))] [(9, 1), (10, 1)] X) ?_ ?_
 ·skip
  refine sr fun K6 hK6 => ?_
  refine pm 17 (.sl 4 (List.map enc30 a0)) ?_
  refine pP 18 ((does_len_sl W_ ty22).castp (v' := .int .i64 (List.length a0 : Int)) (by exact len_map _)) ?_
  refine pm 19 (.int .i64 0) ?_
  refine en hK6 ?_
  refine aw_block ?_
  refine aw_nilOwn 9 3 1 W_ D_ D_ ?_
  refine aw_nilOwn 10 31 4 W_ D_ D_ ?_
  refine aw_loop' (fun m s => ∃ (v9_s_1 : List Int), ∃ (v10_s_1 : List Block), ∃ (v19_1 : Int), loopN (fun (s : List Int × List Block × Int) => retire_Choose_l1 a0 a1 a2 s.1 s.2.1 s.2.2) m (v9_s_1, v10_s_1, v19_1) = some q4 ∧ s = lit [(1, .int .i64 a1), (2, .int .i64 a2), (3, .int .i64 a3), (9, .own 9 0), (10, .own 10 0), (17, .sl 4 (List.map enc30 a0)), (18, .int .i64 (List.length a0 : Int)), (19, .int .i64 v19_1)] [((9, 0), .arr 3 1 false (List.map enc2 v9_s_1)), ((10, 0), .arr 31 4 false (List.map enc30 v10_s_1))] [(9, 1), (10, 1)] X) Fu
   ⟨_, reb_lit [(1, .int .i64 a1), (2, .int .i64 a2), (3, .int .i64 a3), (9, .own 9 0), (10, .own 10 0), (17, .sl 4 (List.map enc30 a0)), (18, .int .i64 (List.length a0 : Int)), (19, .int .i64 (0))] [(9, 0), (10, 0)] [((9, 0), .arr 3 1 false (List.map enc2 [])), ((10, 0), .arr 31 4 false (List.map enc30 []))] [(9, 1), (10, 1)] (ec (ec (ec (ec (ec (ec (ec (ec envOk_nil)))))))) (objOk_cons W_ W_ R_ (by simp) (objOk_cons W_ W_ R_ (by simp) objOk_nil)) (nodup_b rfl) (nodup_b rfl) rfl rfl, [], [], 0, h, rfl⟩ ?_
  rintro m s ⟨v9_s_1, v10_s_1, v19_1, h, rfl⟩
  obtain ⟨m1, q7, rfl, h, hq8⟩ := loop_some h
  replace h : retire_Choose_l1 a0 a1 a2 v9_s_1 v10_s_1 v19_1 = some q7 := h
  unfold retire_Choose_l1 at h
  refine sr fun K9 hK9 => ?_
  refine pb 20 (.bool (decide (v19_1 < (List.length a0 : Int)))) ?_
  refine en hK9 ?_
  refine aw_seq_k (fun K10 hK10 => ?_)
  refine aw_bool (b := (decide (v19_1 < (List.length a0 : Int)))) 20 rfl (fun c11 => ?_) (fun c11 => ?_)
  ·have h := ifT c11 h
   refine aw_cond_t D_ rfl ?_
   refine aw_skip ?_
   refine hK10 _ ?_
   refine aw_seq_k (fun K12 hK12 => ?_)
   refine aw_block ?_
   refine sr fun K13 hK13 => ?_
   obtain ⟨g14, h⟩ := gd_some h
   obtain ⟨x15, hx15, h⟩ := bnd_some h
   refine pP 21 (does_indexAddr_sl (el := .agg [.int .i64 x15.Number, .int .i64 x15.Born, .int .i64 x15.Tier, .sl 6 (List.map enc46 x15.Episodes)]) W_ W_ ty22 ty31 g14 (by exact map_get hx15)) ?_
   refine pl 22 (.agg [.int .i64 x15.Number, .int .i64 x15.Born, .int .i64 x15.Tier, .sl 6 (List.map enc46 x15.Episodes)]) ty31 ?_
   refine pD 12 (do_new ty31 rfl rfl) ?_
   refine alD none rfl rfl (do_store (cs' := [.int .i64 x15.Number, .int .i64 x15.Born, .int .i64 x15.Tier, .sl 6 (List.map enc46 x15.Episodes)]) W_ W_ W_ ty31 rfl rfl rfl R_) D_ ?_
   refine en hK13 ?_
   refine sr fun K16 hK16 => ?_
   refine pm 23 (.int .i64 a1) ?_
   refine pf 24 (.ptr 12 0 1) ty31 ty3 ?_
   refine pl 25 (.int .i64 x15.Born) ty3 ?_
   obtain ⟨x17, hx17, h⟩ := bnd_some h
   refine pD 26 (do_call0 26 false (rollup_Less_ok a1 x15.Born hx17) rfl ent15 rfl rfl) ?_
   refine pm 27 (.int .i64 a2) ?_
   refine pb 28 (.bool (decide (a2 < x17))) ?_
   refine en hK16 ?_
   refine aw_bool (b := (decide (a2 < x17))) 28 rfl (fun c18 => ?_) (fun c18 => ?_)
   ·have h := ifT c18 h
    refine aw_cond_t D_ rfl ?_
    refine aw_regL ?_
    refine pm 29 (.own 9 0) ?_
    refine pf 30 (.ptr 12 0 0) ty31 ty3 ?_
    refine pl 31 (.int .i64 x15.Number) ty3 ?_
    refine pD 32 (do_buildSlice (xs := List.map enc2 [x15.Number]) ty25 ty3 rfl rfl rfl rfl rfl rfl rfl rfl) ?_
    obtain ⟨g19, h⟩ := gd_some h
    refine pD 33 (do_append (v := List.map enc2 (v9_s_1 ++ [x15.Number])) W_ W_ ty25 ty3 rfl rfl W_ (by first | exact .inl rfl | exact .inr ⟨rfl, rfl⟩) W_ (by first | exact .inr rfl | exact .inl rfl) (map_app _ _) (fit_map g19)) ?_
    refine pa 9 (.own 33 0) ?_
    refine en hK12 ?_
    refine aw_regL ?_
    refine pb 38 (.int .i64 (IntKind.i64.wrap (v19_1 + 1))) ?_
    refine pm 19 (.int .i64 (IntKind.i64.wrap (v19_1 + 1))) ?_
    refine al_nil ?_
    have h := leafL h hq8
    exact ⟨m1, Nat.lt_succ_self _, _, reb_lit [(1, .int .i64 a1), (2, .int .i64 a2), (3, .int .i64 a3), (9, .own 9 0), (10, .own 10 0), (17, .sl 4 (List.map enc30 a0)), (18, .int .i64 (List.length a0 : Int)), (19, .int .i64 (IntKind.i64.wrap (v19_1 + 1)))] [(33, 0), (10, 0)] [((9, 0), .arr 3 1 false (List.map enc2 (v9_s_1 ++ [x15.Number]))), ((10, 0), .arr 31 4 false (List.map enc30 v10_s_1))] [(9, 1), (10, 1)] (ec (ec (ec (ec (ec (ec (ec (ec envOk_nil)))))))) (objOk_cons W_ W_ R_ (by simp) (objOk_cons W_ W_ R_ (by simp) objOk_nil)) (nodup_b rfl) (nodup_b rfl) rfl rfl, (v9_s_1 ++ [x15.Number]), v10_s_1, (IntKind.i64.wrap (v19_1 + 1)), h, rfl⟩
   ·have h := ifF c18 h
    refine aw_cond_f D_ rfl ?_
    refine aw_regL ?_
    refine pm 34 (.own 10 0) ?_
    refine pl 35 (.agg [.int .i64 x15.Number, .int .i64 x15.Born, .int .i64 x15.Tier, .sl 6 (List.map enc46 x15.Episodes)]) ty31 ?_
    refine pD 36 (do_buildSlice (xs := List.map enc30 [x15]) ty22 ty31 rfl rfl rfl rfl rfl rfl rfl rfl) ?_
    obtain ⟨g20, h⟩ := gd_some h
    refine pD 37 (do_append (v := List.map enc30 (v10_s_1 ++ [x15])) W_ W_ ty22 ty31 rfl rfl W_ (by first | exact .inl rfl | exact .inr ⟨rfl, rfl⟩) W_ (by first | exact .inr rfl | exact .inl rfl) (map_app _ _) (fit_map g20)) ?_
    refine pa 10 (.own 37 0) ?_
    refine en hK12 ?_
    refine aw_regL ?_
    refine pb 38 (.int .i64 (IntKind.i64.wrap (v19_1 + 1))) ?_
    refine pm 19 (.int .i64 (IntKind.i64.wrap (v19_1 + 1))) ?_
    refine al_nil ?_
    have h := leafL h hq8
    exact ⟨m1, Nat.lt_succ_self _, _, reb_lit [(1, .int .i64 a1), (2, .int .i64 a2), (3, .int .i64 a3), (9, .own 9 0), (10, .own 10 0), (17, .sl 4 (List.map enc30 a0)), (18, .int .i64 (List.length a0 : Int)), (19, .int .i64 (IntKind.i64.wrap (v19_1 + 1)))] [(9, 0), (37, 0)] [((9, 0), .arr 3 1 false (List.map enc2 v9_s_1)), ((10, 0), .arr 31 4 false (List.map enc30 (v10_s_1 ++ [x15])))] [(9, 1), (10, 1)] (ec (ec (ec (ec (ec (ec (ec (ec envOk_nil)))))))) (objOk_cons W_ W_ R_ (by simp) (objOk_cons W_ W_ R_ (by simp) objOk_nil)) (nodup_b rfl) (nodup_b rfl) rfl rfl, v9_s_1, (v10_s_1 ++ [x15]), (IntKind.i64.wrap (v19_1 + 1)), h, rfl⟩
  ·have h := ifF c11 h
   refine aw_cond_f D_ rfl ?_
   refine aw_exit ?_
   have h := leafR h hq8
   obtain rfl := Option.some.inj h
   have h := hk5
   exact ⟨_, reb_lit [(3, .int .i64 a3), (9, .own 9 0), (10, .own 10 0)] [(9, 0), (10, 0)] [((9, 0), .arr 3 1 false (List.map enc2 v9_s_1)), ((10, 0), .arr 31 4 false (List.map enc30 v10_s_1))] [(9, 1), (10, 1)] (ec (ec (ec envOk_nil))) (objOk_cons W_ W_ R_ (by simp) (objOk_cons W_ W_ R_ (by simp) objOk_nil)) (nodup_b rfl) (nodup_b rfl) rfl rfl, v9_s_1, v10_s_1, h, rfl⟩
 ·rintro s ⟨v9_s_0, v10_s_0, h, rfl⟩
  unfold retire_Choose_k0 at h
  refine sr fun K21 hK21 => ?_
  refine pm 39 (.own 10 0) ?_
  obtain ⟨x22, hx22, h⟩ := bnd_some h
  refine pD 40 (do_callG (bcs := []) [] [] [(10, 0)] 40 false (retire_Total_ok v10_s_0 hx22) rfl ent11 trivial trivial rfl rfl rfl rfl rfl rfl rfl rfl (.inr ⟨rfl, rfl, trivial⟩)) ?_
  refine pa 13 (.int .i64 x22) ?_
  refine en hK21 ?_
  refine aw_seq_k (fun K23 hK23 => ?_)
  refine aw_block ?_
  refine aw_loop' (fun m s => ∃ (v9_s_2 : List Int), ∃ (v10_s_2 : List Block), ∃ (v13_2 : Int), loopN (fun (s : List Int × List Block × Int) => retire_Choose_l2 a3 s.1 s.2.1 s.2.2) m (v9_s_2, v10_s_2, v13_2) = some r ∧ s = lit [(3, .int .i64 a3), (9, .own 9 0), (10, .own 10 0), (13, .int .i64 v13_2)] [((9, 0), .arr 3 1 false (List.map enc2 v9_s_2)), ((10, 0), .arr 31 4 false (List.map enc30 v10_s_2))] [(9, 1), (10, 1)] X) Fu
   ⟨_, reb_lit [(3, .int .i64 a3), (9, .own 9 0), (10, .own 10 0), (13, .int .i64 x22)] [(9, 0), (10, 0)] [((9, 0), .arr 3 1 false (List.map enc2 v9_s_0)), ((10, 0), .arr 31 4 false (List.map enc30 v10_s_0))] [(9, 1), (10, 1)] (ec (ec (ec (ec envOk_nil)))) (objOk_cons W_ W_ R_ (by simp) (objOk_cons W_ W_ R_ (by simp) objOk_nil)) (nodup_b rfl) (nodup_b rfl) rfl rfl, v9_s_0, v10_s_0, x22, h, rfl⟩ ?_
  rintro m s ⟨v9_s_2, v10_s_2, v13_2, h, rfl⟩
  obtain ⟨m2, q24, rfl, h, hq25⟩ := loop_some h
  replace h : retire_Choose_l2 a3 v9_s_2 v10_s_2 v13_2 = some q24 := h
  unfold retire_Choose_l2 at h
  obtain ⟨q26, h, hk27⟩ := bnd_some h
  refine aw_cut (fun s => retire_Choose_k3 v9_s_2 v10_s_2 v13_2 = some q24 ∧ s = lit [(3, .int .i64 a3), (9, .own 9 0), (10, .own 10 0), (13, .int .i64 v13_2)] [((9, 0), .arr 3 1 false (List.map enc2 v9_s_2)), ((10, 0), .arr 31 4 false (List.map enc30 v10_s_2))] [(9, 1), (10, 1)] X) ?_ ?_
  ·skip
   refine sr fun K28 hK28 => ?_
   refine pm 41 (.int .i64 v13_2) ?_
   refine pm 42 (.int .i64 a3) ?_
   refine pb 43 (.bool (decide (a3 < v13_2))) ?_
   refine pm 44 (.bool (decide (a3 < v13_2))) ?_
   refine al_bool (c := (decide (a3 < v13_2))) 44 rfl (fun c29 => ?_) (fun c29 => ?_)
   ·have h := ifT c29 h
    refine pm 45 (.own 10 0) ?_
    refine pX 46 ((does_len_own W_ W_ ty22).cast (v' := .int .i64 (List.length v10_s_2 : Int)) (by exact len_map _)) ?_
    refine pb 47 (.bool (decide ((1 : Int) < (List.length v10_s_2 : Int)))) ?_
    refine pk 48 (.bool (decide ((1 : Int) < (List.length v10_s_2 : Int)))) ?_
    refine en hK28 ?_
    refine aw_bool (b := (decide ((1 : Int) < (List.length v10_s_2 : Int)))) 48 rfl (fun c30 => ?_) (fun c30 => ?_)
    ·have h := ifT c30 h
     refine aw_cond_t D_ rfl ?_
     refine aw_skip ?_
     have h := leafL h hk27
     exact ⟨_, reb_lit [(3, .int .i64 a3), (9, .own 9 0), (10, .own 10 0), (13, .int .i64 v13_2)] [(9, 0), (10, 0)] [((9, 0), .arr 3 1 false (List.map enc2 v9_s_2)), ((10, 0), .arr 31 4 false (List.map enc30 v10_s_2))] [(9, 1), (10, 1)] (ec (ec (ec (ec envOk_nil)))) (objOk_cons W_ W_ R_ (by simp) (objOk_cons W_ W_ R_ (by simp) objOk_nil)) (nodup_b rfl) (nodup_b rfl) rfl rfl, h, rfl⟩
    ·have h := ifF c30 h
     refine aw_cond_f D_ rfl ?_
     refine aw_exit ?_
     have h := leafR h hk27
     have h := leafR h hq25
     refine hK23 _ ?_
     refine sr fun K31 hK31 => ?_
     refine pm 86 (.own 9 0) ?_
     refine pa 8 (.own 9 0) ?_
     refine en hK31 ?_
     refine aw_ret ?_
     obtain rfl := Option.some.inj h
     exact ret_okR [(9, 0)] W_ W_ R_ (rowsOk_cons W_ R_ trivial) (nodup_b rfl) (.inr rfl) rfl
   ·have h := ifF c29 h
    refine pS 45 ?_
    refine pS 46 ?_
    refine pS 47 ?_
    refine pk 48 (.bool false) ?_
    refine en hK28 ?_
    refine aw_cond_f D_ rfl ?_
    refine aw_exit ?_
    have h := leafR h hk27
    have h := leafR h hq25
    refine hK23 _ ?_
    refine sr fun K32 hK32 => ?_
    refine pm 86 (.own 9 0) ?_
    refine pa 8 (.own 9 0) ?_
    refine en hK32 ?_
    refine aw_ret ?_
    obtain rfl := Option.some.inj h
    exact ret_okR [(9, 0)] W_ W_ R_ (rowsOk_cons W_ R_ trivial) (nodup_b rfl) (.inr rfl) rfl
  ·rintro s ⟨h, rfl⟩
   unfold retire_Choose_k3 at h
   refine aw_block ?_
   refine sr fun K33 hK33 => ?_
   refine pa 14 (.int .i64 0) ?_
   refine en hK33 ?_
   obtain ⟨q34, h, hk35⟩ := bnd_some h
   refine aw_cut (fun s => ∃ (v14_4 : Int), retire_Choose_k4 v9_s_2 v10_s_2 v13_2 v14_4 = some q24 ∧ s = lit [(3, .int .i64 a3), (9, .own 9 0), (10, .own 10 0), (13, .int .i64 v13_2), (14, .int .i64 v14_4)] [((9, 0), .arr 3 1 false (List.map enc2 v9_s_2)), ((10, 0), .arr 31 4 false (List.map enc30 v10_s_2))] [(9, 1), (10, 1)] X) ?_ ?_
   ·skip
    refine sr fun K36 hK36 => ?_
    refine pm 49 (.own 10 0) ?_
    refine pX 50 ((does_len_own W_ W_ ty22).cast (v' := .int .i64 (List.length v10_s_2 : Int)) (by exact len_map _)) ?_
    refine pm 51 (.int .i64 0) ?_
    refine en hK36 ?_
    refine aw_block ?_
    refine aw_loop' (fun m s => ∃ (v14_5 : Int), ∃ (v51_5 : Int), loopN (fun (s : Int × Int) => retire_Choose_l5 v10_s_2 s.1 s.2) m (v14_5, v51_5) = some q34 ∧ s = lit [(3, .int .i64 a3), (9, .own 9 0), (10, .own 10 0), (13, .int .i64 v13_2), (14, .int .i64 v14_5), (49, .own 10 0), (50, .int .i64 (List.length v10_s_2 : Int)), (51, .int .i64 v51_5)] [((9, 0), .arr 3 1 false (List.map enc2 v9_s_2)), ((10, 0), .arr 31 4 false (List.map enc30 v10_s_2))] [(9, 1), (10, 1)] X) Fu
     ⟨_, reb_lit [(3, .int .i64 a3), (9, .own 9 0), (10, .own 10 0), (13, .int .i64 v13_2), (14, .int .i64 (0)), (49, .own 10 0), (50, .int .i64 (List.length v10_s_2 : Int)), (51, .int .i64 (0))] [(9, 0), (10, 0)] [((9, 0), .arr 3 1 false (List.map enc2 v9_s_2)), ((10, 0), .arr 31 4 false (List.map enc30 v10_s_2))] [(9, 1), (10, 1)] (ec (ec (ec (ec (ec (ec (ec (ec envOk_nil)))))))) (objOk_cons W_ W_ R_ (by simp) (objOk_cons W_ W_ R_ (by simp) objOk_nil)) (nodup_b rfl) (nodup_b rfl) rfl rfl, 0, 0, h, rfl⟩ ?_
    rintro m s ⟨v14_5, v51_5, h, rfl⟩
    obtain ⟨m5, q37, rfl, h, hq38⟩ := loop_some h
    replace h : retire_Choose_l5 v10_s_2 v14_5 v51_5 = some q37 := h
    unfold retire_Choose_l5 at h
    refine sr fun K39 hK39 => ?_
    refine pb 52 (.bool (decide (v51_5 < (List.length v10_s_2 : Int)))) ?_
    refine en hK39 ?_
    refine aw_seq_k (fun K40 hK40 => ?_)
    refine aw_bool (b := (decide (v51_5 < (List.length v10_s_2 : Int)))) 52 rfl (fun c41 => ?_) (fun c41 => ?_)
    ·have h := ifT c41 h
     refine aw_cond_t D_ rfl ?_
     refine aw_skip ?_
     refine hK40 _ ?_
     refine aw_seq_k (fun K42 hK42 => ?_)
     refine aw_block ?_
     refine sr fun K43 hK43 => ?_
     refine pm 53 (.int .i64 v51_5) ?_
     obtain ⟨g44, h⟩ := gd_some h
     obtain ⟨x45, hx45, h⟩ := bnd_some h
     refine pX 54 (does_indexAddr_own W_ W_ W_ ty22 ty31 g44 (by exact own_lt hx45)) ?_
     refine pX 55 (does_load (v := .agg [.int .i64 x45.Number, .int .i64 x45.Born, .int .i64 x45.Tier, .sl 6 (List.map enc46 x45.Episodes)]) W_ (cellsAt_eptr W_ (by exact map_get hx45)) ty31 R_) ?_
     refine pD 16 (do_new ty31 rfl rfl) ?_
     refine pa 15 (.int .i64 v51_5) ?_
     refine alD none rfl rfl (do_store (cs' := [.int .i64 x45.Number, .int .i64 x45.Born, .int .i64 x45.Tier, .sl 6 (List.map enc46 x45.Episodes)]) W_ W_ W_ ty31 rfl rfl rfl R_) D_ ?_
     refine en hK43 ?_
     refine aw_seq_k (fun K46 hK46 => ?_)
     refine aw_regd (by kernel_rfl) (by decide +kernel) ?_
     refine qP 56 (does_fieldAddr (q := .ptr 16 0 1) W_ ty31 rfl ty3 D_ R_) ?_
     refine qR 57 (does_load (v := .int .i64 x45.Born) W_ W_ ty3 R_) ?_
     refine qP 58 (does_move (v := .own 10 0) R_) ?_
     refine qP 59 (does_move (v := .int .i64 v14_5) R_) ?_
     obtain ⟨g47, h⟩ := gd_some h
     obtain ⟨x48, hx48, h⟩ := bnd_some h
     refine qR 60 (does_indexAddr_own W_ W_ W_ ty22 ty31 g47 (by exact own_lt hx48)) ?_
     refine qP 61 (does_fieldAddr (q := .eptr 10 0 4 (Int.toNat v14_5) 1) W_ ty31 rfl ty3 D_ R_) ?_
     refine qR 62 (does_load (v := .int .i64 x48.Born) W_ (cellsAt_eptr W_ (by exact map_get hx48)) ty3 R_) ?_
     refine qP 63 (does_bin (v := .bool (decide (x45.Born < x48.Born))) W_ W_ rfl) ?_
     refine ao_nil_d (by kernel_rfl) ?_
     refine hK46 _ ?_
     refine aw_bool (b := (decide (x45.Born < x48.Born))) 63 rfl (fun c49 => ?_) (fun c49 => ?_)
     ·have h := ifT c49 h
      refine aw_cond_t D_ rfl ?_
      refine aw_regL ?_
      refine pm 64 (.int .i64 v51_5) ?_
      refine pa 14 (.int .i64 v51_5) ?_
      refine en hK42 ?_
      refine aw_regL ?_
      refine pb 65 (.int .i64 (IntKind.i64.wrap (v51_5 + 1))) ?_
      refine pm 51 (.int .i64 (IntKind.i64.wrap (v51_5 + 1))) ?_
      refine al_nil ?_
      have h := leafL h hq38
      exact ⟨m5, Nat.lt_succ_self _, _, reb_lit [(3, .int .i64 a3), (9, .own 9 0), (10, .own 10 0), (13, .int .i64 v13_2), (14, .int .i64 v51_5), (49, .own 10 0), (50, .int .i64 (List.length v10_s_2 : Int)), (51, .int .i64 (IntKind.i64.wrap (v51_5 + 1)))] [(9, 0), (10, 0)] [((9, 0), .arr 3 1 false (List.map enc2 v9_s_2)), ((10, 0), .arr 31 4 false (List.map enc30 v10_s_2))] [(9, 1), (10, 1)] (ec (ec (ec (ec (ec (ec (ec (ec envOk_nil)))))))) (objOk_cons W_ W_ R_ (by simp) (objOk_cons W_ W_ R_ (by simp) objOk_nil)) (nodup_b rfl) (nodup_b rfl) rfl rfl, v51_5, (IntKind.i64.wrap (v51_5 + 1)), h, rfl⟩
     ·have h := ifF c49 h
      refine aw_cond_f D_ rfl ?_
      refine aw_skip ?_
      refine hK42 _ ?_
      refine aw_regL ?_
      refine pb 65 (.int .i64 (IntKind.i64.wrap (v51_5 + 1))) ?_
      refine pm 51 (.int .i64 (IntKind.i64.wrap (v51_5 + 1))) ?_
      refine al_nil ?_
      have h := leafL h hq38
      exact ⟨m5, Nat.lt_succ_self _, _, reb_lit [(3, .int .i64 a3), (9, .own 9 0), (10, .own 10 0), (13, .int .i64 v13_2), (14, .int .i64 v14_5), (49, .own 10 0), (50, .int .i64 (List.length v10_s_2 : Int)), (51, .int .i64 (IntKind.i64.wrap (v51_5 + 1)))] [(9, 0), (10, 0)] [((9, 0), .arr 3 1 false (List.map enc2 v9_s_2)), ((10, 0), .arr 31 4 false (List.map enc30 v10_s_2))] [(9, 1), (10, 1)] (ec (ec (ec (ec (ec (ec (ec (ec envOk_nil)))))))) (objOk_cons W_ W_ R_ (by simp) (objOk_cons W_ W_ R_ (by simp) objOk_nil)) (nodup_b rfl) (nodup_b rfl) rfl rfl, v14_5, (IntKind.i64.wrap (v51_5 + 1)), h, rfl⟩
    ·have h := ifF c41 h
     refine aw_cond_f D_ rfl ?_
     refine aw_exit ?_
     have h := leafR h hq38
     obtain rfl := Option.some.inj h
     have h := hk35
     exact ⟨_, reb_lit [(3, .int .i64 a3), (9, .own 9 0), (10, .own 10 0), (13, .int .i64 v13_2), (14, .int .i64 v14_5)] [(9, 0), (10, 0)] [((9, 0), .arr 3 1 false (List.map enc2 v9_s_2)), ((10, 0), .arr 31 4 false (List.map enc30 v10_s_2))] [(9, 1), (10, 1)] (ec (ec (ec (ec (ec envOk_nil))))) (objOk_cons W_ W_ R_ (by simp) (objOk_cons W_ W_ R_ (by simp) objOk_nil)) (nodup_b rfl) (nodup_b rfl) rfl rfl, v14_5, h, rfl⟩
   ·rintro s ⟨v14_4, h, rfl⟩
    unfold retire_Choose_k4 at h
    refine sr fun K50 hK50 => ?_
    refine pm 66 (.int .i64 v13_2) ?_
    refine pm 67 (.own 10 0) ?_
    refine pm 68 (.int .i64 v14_4) ?_
    obtain ⟨g51, h⟩ := gd_some h
    obtain ⟨x52, hx52, h⟩ := bnd_some h
    refine pX 69 (does_indexAddr_own W_ W_ W_ ty22 ty31 g51 (by exact own_lt hx52)) ?_
    refine pX 70 (does_load (v := .agg [.int .i64 x52.Number, .int .i64 x52.Born, .int .i64 x52.Tier, .sl 6 (List.map enc46 x52.Episodes)]) W_ (cellsAt_eptr W_ (by exact map_get hx52)) ty31 R_) ?_
    obtain ⟨x53, hx53, h⟩ := bnd_some h
    refine pD 71 (do_call0 71 false (block_Size_ok x52 hx53) rfl ent16 rfl rfl) ?_
    refine pb 72 (.int .i64 (IntKind.i64.wrap (v13_2 - x53))) ?_
    refine pa 13 (.int .i64 (IntKind.i64.wrap (v13_2 - x53))) ?_
    refine en hK50 ?_
    refine sr fun K54 hK54 => ?_
    refine pm 73 (.own 9 0) ?_
    refine pm 74 (.own 10 0) ?_
    refine pm 75 (.int .i64 v14_4) ?_
    obtain ⟨g55, h⟩ := gd_some h
    obtain ⟨x56, hx56, h⟩ := bnd_some h
    refine pX 76 (does_indexAddr_own W_ W_ W_ ty22 ty31 g55 (by exact own_lt hx56)) ?_
    refine pf 77 (.eptr 10 0 4 (Int.toNat v14_4) 0) ty31 ty3 ?_
    refine pX 78 (does_load (v := .int .i64 x56.Number) W_ (cellsAt_eptr W_ (by exact map_get hx56)) ty3 R_) ?_
    refine pD 79 (do_buildSlice (xs := List.map enc2 [x56.Number]) ty25 ty3 rfl rfl rfl rfl rfl rfl rfl rfl) ?_
    obtain ⟨g57, h⟩ := gd_some h
    refine pD 80 (do_append (v := List.map enc2 (v9_s_2 ++ [x56.Number])) W_ W_ ty25 ty3 rfl rfl W_ (by first | exact .inl rfl | exact .inr ⟨rfl, rfl⟩) W_ (by first | exact .inr rfl | exact .inl rfl) (map_app _ _) (fit_map g57)) ?_
    refine pa 9 (.own 80 0) ?_
    refine en hK54 ?_
    refine aw_regL ?_
    refine pm 81 (.own 10 0) ?_
    refine pm 82 (.int .i64 v14_4) ?_
    refine pm 83 (.int .i64 v14_4) ?_
    refine pb 84 (.int .i64 (IntKind.i64.wrap (v14_4 + 1))) ?_
    obtain ⟨x58, hx58, h⟩ := bnd_some h
    refine pD 85 (do_callG (bcs := []) [] [(10, 0)] [] 85 false (slices_Delete_Block_ok v10_s_2 v14_4 (IntKind.i64.wrap (v14_4 + 1)) hx58) rfl ent17 trivial (rowsOk_cons W_ R_ trivial) rfl rfl rfl rfl rfl rfl rfl rfl (.inl trivial)) ?_
    refine pa 10 (.own 85 0) ?_
    refine al_nil ?_
    have h := leafL h hq25
    exact ⟨m2, Nat.lt_succ_self _, _, reb_lit [(3, .int .i64 a3), (9, .own 9 0), (10, .own 10 0), (13, .int .i64 (IntKind.i64.wrap (v13_2 - x53)))] [(80, 0), (85, 0)] [((9, 0), .arr 3 1 false (List.map enc2 (v9_s_2 ++ [x56.Number]))), ((10, 0), .arr 31 4 false (List.map enc30 x58))] [(9, 1), (10, 1)] (ec (ec (ec (ec envOk_nil)))) (objOk_cons W_ W_ R_ (by simp) (objOk_cons W_ W_ R_ (by simp) objOk_nil)) (nodup_b rfl) (nodup_b rfl) rfl rfl, (v9_s_2 ++ [x56.Number]), x58, (IntKind.i64.wrap (v13_2 - x53)), h, rfl⟩
def gleaningref15_Total_l0 (a0 : List Block) (v3_0 : Int) (v4_0 : Int) : Option ((Int × Int) ⊕ Int) :=
 if (decide (v4_0 < (List.length a0 : Int))) = true then (gd (0 ≤ v4_0) (Option.bind (a0[(Int.toNat v4_0)]?) (fun (x12 : Block) => Option.bind (gleaningref15_BlockBytes x12) (fun (x13 : List UInt8) => some (Sum.inl ((IntKind.i64.wrap (v3_0 + (List.length x13 : Int))), (IntKind.i64.wrap (v4_0 + 1)))))))) else (some (Sum.inr v3_0))
def gleaningref15_Total (a0 : List Block) : Option Int :=
 loopN (fun (s : Int × Int) => gleaningref15_Total_l0 a0 s.1 s.2) Fu (0, 0)
theorem gleaningref15_Total_ok (a0 : List Block) {r : Int} (h : gleaningref15_Total a0 = some r) : Ok Try.prog 12 [.sl 4 (List.map enc30 a0)] [] [] (.int .i64 r) [] [] := by
 unfold gleaningref15_Total at h
 refine ok_of_code Try.func12 rfl (by show (1 : Nat) ≤ _; decide) (Nat.le_refl _) fun X => ?_
 refine sr fun K1 hK1 => ?_
 refine pa 2 (.int .i64 0) ?_
 refine en hK1 ?_
 refine sr fun K2 hK2 => ?_
 refine pa 3 (.int .i64 0) ?_
 refine en hK2 ?_
 refine aw_seq_k (fun K3 hK3 => ?_)
 refine sr fun K4 hK4 => ?_
 refine pa 4 (.int .i64 0) ?_
 refine en hK4 ?_
 refine aw_block ?_
 refine aw_loop' (fun m s => ∃ (v3_0 : Int), ∃ (v4_0 : Int), loopN (fun (s : Int × Int) => gleaningref15_Total_l0 a0 s.1 s.2) m (v3_0, v4_0) = some r ∧ s = lit [(0, .sl 4 (List.map enc30 a0)), (3, .int .i64 v3_0), (4, .int .i64 v4_0)] [] [] X) Fu
  ⟨_, reb_lit [(0, .sl 4 (List.map enc30 a0)), (3, .int .i64 (0)), (4, .int .i64 (0))] [] [] [] (ec (ec (ec envOk_nil))) objOk_nil (nodup_b rfl) (nodup_b rfl) rfl rfl, 0, 0, h, rfl⟩ ?_
 rintro m s ⟨v3_0, v4_0, h, rfl⟩
 obtain ⟨m0, q5, rfl, h, hq6⟩ := loop_some h
 replace h : gleaningref15_Total_l0 a0 v3_0 v4_0 = some q5 := h
 unfold gleaningref15_Total_l0 at h
 refine aw_seq_k (fun K7 hK7 => ?_)
 refine sr fun K8 hK8 => ?_
 refine pm 5 (.int .i64 v4_0) ?_
 refine pm 6 (.sl 4 (List.map enc30 a0)) ?_
 refine pP 7 ((does_len_sl W_ ty22).castp (v' := .int .i64 (List.length a0 : Int)) (by exact len_map _)) ?_
 refine pb 8 (.bool (decide (v4_0 < (List.length a0 : Int)))) ?_
 refine en hK8 ?_
 refine aw_bool (b := (decide (v4_0 < (List.length a0 : Int)))) 8 rfl (fun c9 => ?_) (fun c9 => ?_)
 ·have h := ifT c9 h
  refine aw_cond_t D_ rfl ?_
  refine aw_skip ?_
  refine hK7 _ ?_
  refine aw_seq_k (fun K10 hK10 => ?_)
  refine aw_block ?_
  refine aw_regL ?_
  refine pm 11 (.int .i64 v3_0) ?_
  refine pm 12 (.sl 4 (List.map enc30 a0)) ?_
  refine pm 13 (.int .i64 v4_0) ?_
  obtain ⟨g11, h⟩ := gd_some h
  obtain ⟨x12, hx12, h⟩ := bnd_some h
  refine pP 14 (does_indexAddr_sl (el := .agg [.int .i64 x12.Number, .int .i64 x12.Born, .int .i64 x12.Tier, .sl 6 (List.map enc46 x12.Episodes)]) W_ W_ ty22 ty31 g11 (by exact map_get hx12)) ?_
  refine pl 15 (.agg [.int .i64 x12.Number, .int .i64 x12.Born, .int .i64 x12.Tier, .sl 6 (List.map enc46 x12.Episodes)]) ty31 ?_
  obtain ⟨x13, hx13, h⟩ := bnd_some h
  refine pD 16 (do_call0 16 false (gleaningref15_BlockBytes_ok x12 hx13) rfl ent19 rfl rfl) ?_
  refine pX 17 ((does_len_own W_ W_ ty39).cast (v' := .int .i64 (List.length x13 : Int)) (by exact len_map _)) ?_
  refine pb 18 (.int .i64 (IntKind.i64.wrap (v3_0 + (List.length x13 : Int)))) ?_
  refine pa 3 (.int .i64 (IntKind.i64.wrap (v3_0 + (List.length x13 : Int)))) ?_
  refine en hK10 ?_
  refine aw_regL ?_
  refine pm 9 (.int .i64 v4_0) ?_
  refine pb 10 (.int .i64 (IntKind.i64.wrap (v4_0 + 1))) ?_
  refine pa 4 (.int .i64 (IntKind.i64.wrap (v4_0 + 1))) ?_
  refine al_nil ?_
  have h := leafL h hq6
  exact ⟨m0, Nat.lt_succ_self _, _, reb_lit [(0, .sl 4 (List.map enc30 a0)), (3, .int .i64 (IntKind.i64.wrap (v3_0 + (List.length x13 : Int)))), (4, .int .i64 (IntKind.i64.wrap (v4_0 + 1)))] [] [] [] (ec (ec (ec envOk_nil))) objOk_nil (nodup_b rfl) (nodup_b rfl) rfl rfl, (IntKind.i64.wrap (v3_0 + (List.length x13 : Int))), (IntKind.i64.wrap (v4_0 + 1)), h, rfl⟩
 ·have h := ifF c9 h
  refine aw_cond_f D_ rfl ?_
  refine aw_exit ?_
  have h := leafR h hq6
  refine hK3 _ ?_
  refine sr fun K14 hK14 => ?_
  refine pm 19 (.int .i64 v3_0) ?_
  refine pa 2 (.int .i64 v3_0) ?_
  refine en hK14 ?_
  refine aw_ret ?_
  obtain rfl := Option.some.inj h
  exact ret_ok1 W_ W_ R_ (.inr rfl) rfl
def gleaningref15_less_k1 (a0 : Int) (a1 : Int) (v5_1 : Bool) : Option (Unit ⊕ Int) :=
 if v5_1 = true then (some (Sum.inr 9223372036854775807)) else (if (decide ((0 : Int) < a1)) = true then (if (decide (a0 < (IntKind.i64.wrap ((-9223372036854775808) + a1)))) = true then (some (Sum.inr (-9223372036854775808))) else (some (Sum.inl ()))) else (some (Sum.inl ())))
def gleaningref15_less_k0 (a0 : Int) (a1 : Int) : Option Int :=
 some (IntKind.i64.wrap (a0 - a1))
def gleaningref15_less (a0 : Int) (a1 : Int) : Option Int :=
 Option.bind (Option.bind (if (decide (a1 < 0)) = true then (some (decide ((IntKind.i64.wrap (9223372036854775807 + a1)) < a0))) else (some false)) (fun (s : Bool) => gleaningref15_less_k1 a0 a1 s)) (Sum.elim (fun (s : Unit) => gleaningref15_less_k0 a0 a1) some)
theorem gleaningref15_less_ok (a0 : Int) (a1 : Int) {r : Int} (h : gleaningref15_less a0 a1 = some r) : Ok Try.prog 18 [.int .i64 a0, .int .i64 a1] [] [] (.int .i64 r) [] [] := by
 unfold gleaningref15_less at h
 refine ok_of_code Try.func18 rfl (by show (2 : Nat) ≤ _; decide) (Nat.le_refl _) fun X => ?_
 refine sr fun K1 hK1 => ?_
 refine pa 4 (.int .i64 0) ?_
 refine en hK1 ?_
 obtain ⟨q2, h, hk3⟩ := bnd_some h
 refine aw_cut (fun s => gleaningref15_less_k0 a0 a1 = some r ∧ s = lit [(0, .int .i64 a0), (1, .int .i64 a1)] [] [] X) ?_ ?_
 ·skip
  refine aw_block ?_
  obtain ⟨q4, h, hk5⟩ := bnd_some h
  refine aw_cut (fun s => ∃ (v5_1 : Bool), gleaningref15_less_k1 a0 a1 v5_1 = some q2 ∧ s = lit [(0, .int .i64 a0), (1, .int .i64 a1), (5, .bool v5_1)] [] [] X) ?_ ?_
  ·skip
   refine aw_regL ?_
   refine pm 6 (.int .i64 a1) ?_
   refine pb 7 (.bool (decide (a1 < 0))) ?_
   refine pm 8 (.bool (decide (a1 < 0))) ?_
   refine al_bool (c := (decide (a1 < 0))) 8 rfl (fun c6 => ?_) (fun c6 => ?_)
   ·have h := ifT c6 h
    refine pm 9 (.int .i64 a0) ?_
    refine pm 10 (.int .i64 a1) ?_
    refine pb 11 (.int .i64 (IntKind.i64.wrap (9223372036854775807 + a1))) ?_
    refine pb 12 (.bool (decide ((IntKind.i64.wrap (9223372036854775807 + a1)) < a0))) ?_
    refine pk 13 (.bool (decide ((IntKind.i64.wrap (9223372036854775807 + a1)) < a0))) ?_
    refine pa 5 (.bool (decide ((IntKind.i64.wrap (9223372036854775807 + a1)) < a0))) ?_
    refine al_nil ?_
    obtain rfl := Option.some.inj h
    have h := hk5
    exact ⟨_, reb_lit [(0, .int .i64 a0), (1, .int .i64 a1), (5, .bool (decide ((IntKind.i64.wrap (9223372036854775807 + a1)) < a0)))] [] [] [] (ec (ec (ec envOk_nil))) objOk_nil (nodup_b rfl) (nodup_b rfl) rfl rfl, (decide ((IntKind.i64.wrap (9223372036854775807 + a1)) < a0)), h, rfl⟩
   ·have h := ifF c6 h
    refine pS 9 ?_
    refine pS 10 ?_
    refine pS 11 ?_
    refine pS 12 ?_
    refine pk 13 (.bool false) ?_
    refine pa 5 (.bool false) ?_
    refine al_nil ?_
    obtain rfl := Option.some.inj h
    have h := hk5
    exact ⟨_, reb_lit [(0, .int .i64 a0), (1, .int .i64 a1), (5, .bool false)] [] [] [] (ec (ec (ec envOk_nil))) objOk_nil (nodup_b rfl) (nodup_b rfl) rfl rfl, false, h, rfl⟩
  ·rintro s ⟨v5_1, h, rfl⟩
   unfold gleaningref15_less_k1 at h
   refine aw_bool (b := v5_1) 5 rfl (fun c7 => ?_) (fun c7 => ?_)
   ·have h := ifT c7 h
    refine aw_cond_t D_ rfl ?_
    refine sr fun K8 hK8 => ?_
    refine pa 4 (.int .i64 9223372036854775807) ?_
    refine en hK8 ?_
    refine aw_ret ?_
    have h := leafR h hk3
    obtain rfl := Option.some.inj h
    exact ret_ok1 W_ W_ R_ (.inr rfl) rfl
   ·have h := ifF c7 h
    refine aw_cond_f D_ rfl ?_
    refine sr fun K9 hK9 => ?_
    refine pm 15 (.int .i64 a1) ?_
    refine pb 16 (.bool (decide ((0 : Int) < a1))) ?_
    refine pm 17 (.bool (decide ((0 : Int) < a1))) ?_
    refine al_bool (c := (decide ((0 : Int) < a1))) 17 rfl (fun c10 => ?_) (fun c10 => ?_)
    ·have h := ifT c10 h
     refine pm 18 (.int .i64 a0) ?_
     refine pm 19 (.int .i64 a1) ?_
     refine pb 20 (.int .i64 (IntKind.i64.wrap ((-9223372036854775808) + a1))) ?_
     refine pb 21 (.bool (decide (a0 < (IntKind.i64.wrap ((-9223372036854775808) + a1))))) ?_
     refine pk 22 (.bool (decide (a0 < (IntKind.i64.wrap ((-9223372036854775808) + a1))))) ?_
     refine pa 14 (.bool (decide (a0 < (IntKind.i64.wrap ((-9223372036854775808) + a1))))) ?_
     refine en hK9 ?_
     refine aw_bool (b := (decide (a0 < (IntKind.i64.wrap ((-9223372036854775808) + a1))))) 14 rfl (fun c11 => ?_) (fun c11 => ?_)
     ·have h := ifT c11 h
      refine aw_cond_t D_ rfl ?_
      refine sr fun K12 hK12 => ?_
      refine pa 4 (.int .i64 (-9223372036854775808)) ?_
      refine en hK12 ?_
      refine aw_ret ?_
      have h := leafR h hk3
      obtain rfl := Option.some.inj h
      exact ret_ok1 W_ W_ R_ (.inr rfl) rfl
     ·have h := ifF c11 h
      refine aw_cond_f D_ rfl ?_
      refine aw_skip ?_
      have h := leafL h hk3
      exact ⟨_, reb_lit [(0, .int .i64 a0), (1, .int .i64 a1)] [] [] [] (ec (ec envOk_nil)) objOk_nil (nodup_b rfl) (nodup_b rfl) rfl rfl, h, rfl⟩
    ·have h := ifF c10 h
     refine pS 18 ?_
     refine pS 19 ?_
     refine pS 20 ?_
     refine pS 21 ?_
     refine pk 22 (.bool false) ?_
     refine pa 14 (.bool false) ?_
     refine en hK9 ?_
     refine aw_cond_f D_ rfl ?_
     refine aw_skip ?_
     have h := leafL h hk3
     exact ⟨_, reb_lit [(0, .int .i64 a0), (1, .int .i64 a1)] [] [] [] (ec (ec envOk_nil)) objOk_nil (nodup_b rfl) (nodup_b rfl) rfl rfl, h, rfl⟩
 ·rintro s ⟨h, rfl⟩
  unfold gleaningref15_less_k0 at h
  refine sr fun K13 hK13 => ?_
  refine pm 23 (.int .i64 a0) ?_
  refine pm 24 (.int .i64 a1) ?_
  refine pb 25 (.int .i64 (IntKind.i64.wrap (a0 - a1))) ?_
  refine pa 4 (.int .i64 (IntKind.i64.wrap (a0 - a1))) ?_
  refine en hK13 ?_
  refine aw_ret ?_
  obtain rfl := Option.some.inj h
  exact ret_ok1 W_ W_ R_ (.inr rfl) rfl
def gleaningref15_Choose_l1 (a0 : List Block) (a1 : Int) (a2 : Int) (v9_s_1 : List Int) (v10_s_1 : List Block) (v11_1 : Int) : Option ((List Int × List Block × Int) ⊕ (List Int × List Block)) :=
 if (decide (v11_1 < (List.length a0 : Int))) = true then (gd (0 ≤ v11_1) (Option.bind (a0[(Int.toNat v11_1)]?) (fun (x15 : Block) => Option.bind (gleaningref15_less a1 x15.Born) (fun (x16 : Int) => if (decide (a2 < x16)) = true then (gd (0 ≤ v11_1) (Option.bind (a0[(Int.toNat v11_1)]?) (fun (x19 : Block) => gd ((List.length (v9_s_1 ++ [x19.Number])) * 8 ≤ 140737488355328 ∧ (List.length (v9_s_1 ++ [x19.Number])) ≤ 140737488355328) (some (Sum.inl ((v9_s_1 ++ [x19.Number]), v10_s_1, (IntKind.i64.wrap (v11_1 + 1)))))))) else (gd (0 ≤ v11_1) (Option.bind (a0[(Int.toNat v11_1)]?) (fun (x22 : Block) => gd ((List.length (v10_s_1 ++ [x22])) * 48 ≤ 140737488355328 ∧ (List.length (v10_s_1 ++ [x22])) ≤ 140737488355328) (some (Sum.inl (v9_s_1, (v10_s_1 ++ [x22]), (IntKind.i64.wrap (v11_1 + 1)))))))))))) else (some (Sum.inr (v9_s_1, v10_s_1)))
def gleaningref15_Choose_l5 (v10_s_2 : List Block) (v12_5 : Int) (v13_5 : Int) : Option ((Int × Int) ⊕ Int) :=
 if (decide (v13_5 < (List.length v10_s_2 : Int))) = true then (gd (0 ≤ v13_5) (Option.bind (v10_s_2[(Int.toNat v13_5)]?) (fun (x47 : Block) => gd (0 ≤ v12_5) (Option.bind (v10_s_2[(Int.toNat v12_5)]?) (fun (x49 : Block) => if (decide (x47.Born < x49.Born)) = true then (some (Sum.inl (v13_5, (IntKind.i64.wrap (v13_5 + 1))))) else (some (Sum.inl (v12_5, (IntKind.i64.wrap (v13_5 + 1)))))))))) else (some (Sum.inr v12_5))
def gleaningref15_Choose_k4 (v9_s_2 : List Int) (v10_s_2 : List Block) (v12_4 : Int) : Option ((List Int × List Block) ⊕ (List Int)) :=
 gd (0 ≤ v12_4) (Option.bind (v10_s_2[(Int.toNat v12_4)]?) (fun (x53 : Block) => gd ((List.length (v9_s_2 ++ [x53.Number])) * 8 ≤ 140737488355328 ∧ (List.length (v9_s_2 ++ [x53.Number])) ≤ 140737488355328) (gd (0 ≤ v12_4) (gd (v12_4 ≤ (List.length v10_s_2 : Int)) (gd ((List.length (List.take (Int.toNat v12_4) v10_s_2)) * 48 ≤ 140737488355328 ∧ (List.length (List.take (Int.toNat v12_4) v10_s_2)) ≤ 140737488355328) (gd (0 ≤ (IntKind.i64.wrap (v12_4 + 1))) (gd ((IntKind.i64.wrap (v12_4 + 1)) ≤ (List.length v10_s_2 : Int)) (gd ((List.length ((List.take (Int.toNat v12_4) v10_s_2) ++ (List.drop (Int.toNat (IntKind.i64.wrap (v12_4 + 1))) v10_s_2))) * 48 ≤ 140737488355328 ∧ (List.length ((List.take (Int.toNat v12_4) v10_s_2) ++ (List.drop (Int.toNat (IntKind.i64.wrap (v12_4 + 1))) v10_s_2))) ≤ 140737488355328) (some (Sum.inl ((v9_s_2 ++ [x53.Number]), ((List.take (Int.toNat v12_4) v10_s_2) ++ (List.drop (Int.toNat (IntKind.i64.wrap (v12_4 + 1))) v10_s_2)))))))))))))
def gleaningref15_Choose_k3 (v9_s_2 : List Int) (v10_s_2 : List Block) : Option ((List Int × List Block) ⊕ (List Int)) :=
 Option.bind (loopN (fun (s : Int × Int) => gleaningref15_Choose_l5 v10_s_2 s.1 s.2) Fu (0, 0)) (fun (s : Int) => gleaningref15_Choose_k4 v9_s_2 v10_s_2 s)
def gleaningref15_Choose_l2 (a3 : Int) (v9_s_2 : List Int) (v10_s_2 : List Block) : Option ((List Int × List Block) ⊕ (List Int)) :=
 Option.bind (if (decide ((1 : Int) < (List.length v10_s_2 : Int))) = true then (Option.bind (gleaningref15_Total v10_s_2) (fun (x31 : Int) => if (decide (a3 < x31)) = true then (some (Sum.inl ())) else (some (Sum.inr (Sum.inr v9_s_2))))) else (some (Sum.inr (Sum.inr v9_s_2)))) (Sum.elim (fun (s : Unit) => gleaningref15_Choose_k3 v9_s_2 v10_s_2) some)
def gleaningref15_Choose_k0 (a3 : Int) (v9_s_0 : List Int) (v10_s_0 : List Block) : Option (List Int) :=
 loopN (fun (s : List Int × List Block) => gleaningref15_Choose_l2 a3 s.1 s.2) Fu (v9_s_0, v10_s_0)
def gleaningref15_Choose (a0 : List Block) (a1 : Int) (a2 : Int) (a3 : Int) : Option (List Int) :=
 Option.bind (loopN (fun (s : List Int × List Block × Int) => gleaningref15_Choose_l1 a0 a1 a2 s.1 s.2.1 s.2.2) Fu ([], [], 0)) (fun (s : List Int × List Block) => gleaningref15_Choose_k0 a3 s.1 s.2)
theorem gleaningref15_Choose_ok (a0 : List Block) (a1 : Int) (a2 : Int) (a3 : Int) {r : List Int} (h : gleaningref15_Choose a0 a1 a2 a3 = some r) : Ok Try.prog 10 [.sl 4 (List.map enc30 a0), .int .i64 a1, .int .i64 a2, .int .i64 a3] [] [] (.own 2 0) [] [(3, 1, List.map enc2 r)] := by
 unfold gleaningref15_Choose at h
 refine ok_of_code Try.func10 rfl (by show (4 : Nat) ≤ _; decide) (Nat.le_refl _) fun X => ?_
 refine sr fun K1 hK1 => ?_
 refine pa 8 (.nil) ?_
 refine en hK1 ?_
 refine sr fun K2 hK2 => ?_
 refine pa 9 (.nil) ?_
 refine en hK2 ?_
 refine sr fun K3 hK3 => ?_
 refine pa 10 (.nil) ?_
 refine en hK3 ?_
 obtain ⟨q4, h, hk5⟩ := bnd_some h
 refine aw_cut (fun s => ∃ (v9_s_0 : List Int), ∃ (v10_s_0 : List Block), gleaningref15_Choose_k0 a3 v9_s_0 v10_s_0 = some r ∧ s = lit [(3, .int .i64 a3), (9, .own 9 0), (10, .own 10 0)] [((9, 0), .arr 3 1 false (List.map enc2 v9_s_0)), ((10, 0), .arr 31 4 false (List.map enc30 v10_s_0))] [(9, 1), (10, 1)] X) ?_ ?_
 ·skip
  refine sr fun K6 hK6 => ?_
  refine pa 11 (.int .i64 0) ?_
  refine en hK6 ?_
  refine aw_block ?_
  refine aw_nilOwn 9 3 1 W_ D_ D_ ?_
  refine aw_nilOwn 10 31 4 W_ D_ D_ ?_
  refine aw_loop' (fun m s => ∃ (v9_s_1 : List Int), ∃ (v10_s_1 : List Block), ∃ (v11_1 : Int), loopN (fun (s : List Int × List Block × Int) => gleaningref15_Choose_l1 a0 a1 a2 s.1 s.2.1 s.2.2) m (v9_s_1, v10_s_1, v11_1) = some q4 ∧ s = lit [(0, .sl 4 (List.map enc30 a0)), (1, .int .i64 a1), (2, .int .i64 a2), (3, .int .i64 a3), (9, .own 9 0), (10, .own 10 0), (11, .int .i64 v11_1)] [((9, 0), .arr 3 1 false (List.map enc2 v9_s_1)), ((10, 0), .arr 31 4 false (List.map enc30 v10_s_1))] [(9, 1), (10, 1)] X) Fu
   ⟨_, reb_lit [(0, .sl 4 (List.map enc30 a0)), (1, .int .i64 a1), (2, .int .i64 a2), (3, .int .i64 a3), (9, .own 9 0), (10, .own 10 0), (11, .int .i64 (0))] [(9, 0), (10, 0)] [((9, 0), .arr 3 1 false (List.map enc2 [])), ((10, 0), .arr 31 4 false (List.map enc30 []))] [(9, 1), (10, 1)] (ec (ec (ec (ec (ec (ec (ec envOk_nil))))))) (objOk_cons W_ W_ R_ (by simp) (objOk_cons W_ W_ R_ (by simp) objOk_nil)) (nodup_b rfl) (nodup_b rfl) rfl rfl, [], [], 0, h, rfl⟩ ?_
  rintro m s ⟨v9_s_1, v10_s_1, v11_1, h, rfl⟩
  obtain ⟨m1, q7, rfl, h, hq8⟩ := loop_some h
  replace h : gleaningref15_Choose_l1 a0 a1 a2 v9_s_1 v10_s_1 v11_1 = some q7 := h
  unfold gleaningref15_Choose_l1 at h
  refine aw_seq_k (fun K9 hK9 => ?_)
  refine sr fun K10 hK10 => ?_
  refine pm 14 (.int .i64 v11_1) ?_
  refine pm 15 (.sl 4 (List.map enc30 a0)) ?_
  refine pP 16 ((does_len_sl W_ ty22).castp (v' := .int .i64 (List.length a0 : Int)) (by exact len_map _)) ?_
  refine pb 17 (.bool (decide (v11_1 < (List.length a0 : Int)))) ?_
  refine en hK10 ?_
  refine aw_bool (b := (decide (v11_1 < (List.length a0 : Int)))) 17 rfl (fun c11 => ?_) (fun c11 => ?_)
  ·have h := ifT c11 h
   refine aw_cond_t D_ rfl ?_
   refine aw_skip ?_
   refine hK9 _ ?_
   refine aw_seq_k (fun K12 hK12 => ?_)
   refine aw_block ?_
   refine sr fun K13 hK13 => ?_
   refine pm 20 (.int .i64 a1) ?_
   refine pm 21 (.sl 4 (List.map enc30 a0)) ?_
   refine pm 22 (.int .i64 v11_1) ?_
   obtain ⟨g14, h⟩ := gd_some h
   obtain ⟨x15, hx15, h⟩ := bnd_some h
   refine pP 23 (does_indexAddr_sl (el := .agg [.int .i64 x15.Number, .int .i64 x15.Born, .int .i64 x15.Tier, .sl 6 (List.map enc46 x15.Episodes)]) W_ W_ ty22 ty31 g14 (by exact map_get hx15)) ?_
   refine pf 24 (.rptr [.int .i64 x15.Born, .int .i64 x15.Tier, .sl 6 (List.map enc46 x15.Episodes)]) ty31 ty3 ?_
   refine pl 25 (.int .i64 x15.Born) ty3 ?_
   obtain ⟨x16, hx16, h⟩ := bnd_some h
   refine pD 26 (do_call0 26 false (gleaningref15_less_ok a1 x15.Born hx16) rfl ent18 rfl rfl) ?_
   refine pm 27 (.int .i64 a2) ?_
   refine pb 28 (.bool (decide (a2 < x16))) ?_
   refine en hK13 ?_
   refine aw_bool (b := (decide (a2 < x16))) 28 rfl (fun c17 => ?_) (fun c17 => ?_)
   ·have h := ifT c17 h
    refine aw_cond_t D_ rfl ?_
    refine aw_regL ?_
    refine pm 29 (.own 9 0) ?_
    refine pm 30 (.sl 4 (List.map enc30 a0)) ?_
    refine pm 31 (.int .i64 v11_1) ?_
    obtain ⟨g18, h⟩ := gd_some h
    obtain ⟨x19, hx19, h⟩ := bnd_some h
    refine pP 32 (does_indexAddr_sl (el := .agg [.int .i64 x19.Number, .int .i64 x19.Born, .int .i64 x19.Tier, .sl 6 (List.map enc46 x19.Episodes)]) W_ W_ ty22 ty31 g18 (by exact map_get hx19)) ?_
    refine pf 33 (.rptr [.int .i64 x19.Number, .int .i64 x19.Born, .int .i64 x19.Tier, .sl 6 (List.map enc46 x19.Episodes)]) ty31 ty3 ?_
    refine pl 34 (.int .i64 x19.Number) ty3 ?_
    refine pD 35 (do_buildSlice (xs := List.map enc2 [x19.Number]) ty25 ty3 rfl rfl rfl rfl rfl rfl rfl rfl) ?_
    obtain ⟨g20, h⟩ := gd_some h
    refine pD 36 (do_append (v := List.map enc2 (v9_s_1 ++ [x19.Number])) W_ W_ ty25 ty3 rfl rfl W_ (by first | exact .inl rfl | exact .inr ⟨rfl, rfl⟩) W_ (by first | exact .inr rfl | exact .inl rfl) (map_app _ _) (fit_map g20)) ?_
    refine pa 9 (.own 36 0) ?_
    refine en hK12 ?_
    refine aw_regL ?_
    refine pm 18 (.int .i64 v11_1) ?_
    refine pb 19 (.int .i64 (IntKind.i64.wrap (v11_1 + 1))) ?_
    refine pa 11 (.int .i64 (IntKind.i64.wrap (v11_1 + 1))) ?_
    refine al_nil ?_
    have h := leafL h hq8
    exact ⟨m1, Nat.lt_succ_self _, _, reb_lit [(0, .sl 4 (List.map enc30 a0)), (1, .int .i64 a1), (2, .int .i64 a2), (3, .int .i64 a3), (9, .own 9 0), (10, .own 10 0), (11, .int .i64 (IntKind.i64.wrap (v11_1 + 1)))] [(36, 0), (10, 0)] [((9, 0), .arr 3 1 false (List.map enc2 (v9_s_1 ++ [x19.Number]))), ((10, 0), .arr 31 4 false (List.map enc30 v10_s_1))] [(9, 1), (10, 1)] (ec (ec (ec (ec (ec (ec (ec envOk_nil))))))) (objOk_cons W_ W_ R_ (by simp) (objOk_cons W_ W_ R_ (by simp) objOk_nil)) (nodup_b rfl) (nodup_b rfl) rfl rfl, (v9_s_1 ++ [x19.Number]), v10_s_1, (IntKind.i64.wrap (v11_1 + 1)), h, rfl⟩
   ·have h := ifF c17 h
    refine aw_cond_f D_ rfl ?_
    refine aw_regL ?_
    refine pm 37 (.own 10 0) ?_
    refine pm 38 (.sl 4 (List.map enc30 a0)) ?_
    refine pm 39 (.int .i64 v11_1) ?_
    obtain ⟨g21, h⟩ := gd_some h
    obtain ⟨x22, hx22, h⟩ := bnd_some h
    refine pP 40 (does_indexAddr_sl (el := .agg [.int .i64 x22.Number, .int .i64 x22.Born, .int .i64 x22.Tier, .sl 6 (List.map enc46 x22.Episodes)]) W_ W_ ty22 ty31 g21 (by exact map_get hx22)) ?_
    refine pl 41 (.agg [.int .i64 x22.Number, .int .i64 x22.Born, .int .i64 x22.Tier, .sl 6 (List.map enc46 x22.Episodes)]) ty31 ?_
    refine pD 42 (do_buildSlice (xs := List.map enc30 [x22]) ty22 ty31 rfl rfl rfl rfl rfl rfl rfl rfl) ?_
    obtain ⟨g23, h⟩ := gd_some h
    refine pD 43 (do_append (v := List.map enc30 (v10_s_1 ++ [x22])) W_ W_ ty22 ty31 rfl rfl W_ (by first | exact .inl rfl | exact .inr ⟨rfl, rfl⟩) W_ (by first | exact .inr rfl | exact .inl rfl) (map_app _ _) (fit_map g23)) ?_
    refine pa 10 (.own 43 0) ?_
    refine en hK12 ?_
    refine aw_regL ?_
    refine pm 18 (.int .i64 v11_1) ?_
    refine pb 19 (.int .i64 (IntKind.i64.wrap (v11_1 + 1))) ?_
    refine pa 11 (.int .i64 (IntKind.i64.wrap (v11_1 + 1))) ?_
    refine al_nil ?_
    have h := leafL h hq8
    exact ⟨m1, Nat.lt_succ_self _, _, reb_lit [(0, .sl 4 (List.map enc30 a0)), (1, .int .i64 a1), (2, .int .i64 a2), (3, .int .i64 a3), (9, .own 9 0), (10, .own 10 0), (11, .int .i64 (IntKind.i64.wrap (v11_1 + 1)))] [(9, 0), (43, 0)] [((9, 0), .arr 3 1 false (List.map enc2 v9_s_1)), ((10, 0), .arr 31 4 false (List.map enc30 (v10_s_1 ++ [x22])))] [(9, 1), (10, 1)] (ec (ec (ec (ec (ec (ec (ec envOk_nil))))))) (objOk_cons W_ W_ R_ (by simp) (objOk_cons W_ W_ R_ (by simp) objOk_nil)) (nodup_b rfl) (nodup_b rfl) rfl rfl, v9_s_1, (v10_s_1 ++ [x22]), (IntKind.i64.wrap (v11_1 + 1)), h, rfl⟩
  ·have h := ifF c11 h
   refine aw_cond_f D_ rfl ?_
   refine aw_exit ?_
   have h := leafR h hq8
   obtain rfl := Option.some.inj h
   have h := hk5
   exact ⟨_, reb_lit [(3, .int .i64 a3), (9, .own 9 0), (10, .own 10 0)] [(9, 0), (10, 0)] [((9, 0), .arr 3 1 false (List.map enc2 v9_s_1)), ((10, 0), .arr 31 4 false (List.map enc30 v10_s_1))] [(9, 1), (10, 1)] (ec (ec (ec envOk_nil))) (objOk_cons W_ W_ R_ (by simp) (objOk_cons W_ W_ R_ (by simp) objOk_nil)) (nodup_b rfl) (nodup_b rfl) rfl rfl, v9_s_1, v10_s_1, h, rfl⟩
 ·rintro s ⟨v9_s_0, v10_s_0, h, rfl⟩
  unfold gleaningref15_Choose_k0 at h
  refine aw_seq_k (fun K24 hK24 => ?_)
  refine aw_block ?_
  refine aw_loop' (fun m s => ∃ (v9_s_2 : List Int), ∃ (v10_s_2 : List Block), loopN (fun (s : List Int × List Block) => gleaningref15_Choose_l2 a3 s.1 s.2) m (v9_s_2, v10_s_2) = some r ∧ s = lit [(3, .int .i64 a3), (9, .own 9 0), (10, .own 10 0)] [((9, 0), .arr 3 1 false (List.map enc2 v9_s_2)), ((10, 0), .arr 31 4 false (List.map enc30 v10_s_2))] [(9, 1), (10, 1)] X) Fu
   ⟨_, reb_lit [(3, .int .i64 a3), (9, .own 9 0), (10, .own 10 0)] [(9, 0), (10, 0)] [((9, 0), .arr 3 1 false (List.map enc2 v9_s_0)), ((10, 0), .arr 31 4 false (List.map enc30 v10_s_0))] [(9, 1), (10, 1)] (ec (ec (ec envOk_nil))) (objOk_cons W_ W_ R_ (by simp) (objOk_cons W_ W_ R_ (by simp) objOk_nil)) (nodup_b rfl) (nodup_b rfl) rfl rfl, v9_s_0, v10_s_0, h, rfl⟩ ?_
  rintro m s ⟨v9_s_2, v10_s_2, h, rfl⟩
  obtain ⟨m2, q25, rfl, h, hq26⟩ := loop_some h
  replace h : gleaningref15_Choose_l2 a3 v9_s_2 v10_s_2 = some q25 := h
  unfold gleaningref15_Choose_l2 at h
  obtain ⟨q27, h, hk28⟩ := bnd_some h
  refine aw_cut (fun s => gleaningref15_Choose_k3 v9_s_2 v10_s_2 = some q25 ∧ s = lit [(3, .int .i64 a3), (9, .own 9 0), (10, .own 10 0)] [((9, 0), .arr 3 1 false (List.map enc2 v9_s_2)), ((10, 0), .arr 31 4 false (List.map enc30 v10_s_2))] [(9, 1), (10, 1)] X) ?_ ?_
  ·skip
   refine sr fun K29 hK29 => ?_
   refine pm 44 (.own 10 0) ?_
   refine pX 45 ((does_len_own W_ W_ ty22).cast (v' := .int .i64 (List.length v10_s_2 : Int)) (by exact len_map _)) ?_
   refine pb 46 (.bool (decide ((1 : Int) < (List.length v10_s_2 : Int)))) ?_
   refine pm 47 (.bool (decide ((1 : Int) < (List.length v10_s_2 : Int)))) ?_
   refine al_bool (c := (decide ((1 : Int) < (List.length v10_s_2 : Int)))) 47 rfl (fun c30 => ?_) (fun c30 => ?_)
   ·have h := ifT c30 h
    refine pm 48 (.own 10 0) ?_
    obtain ⟨x31, hx31, h⟩ := bnd_some h
    refine pD 49 (do_callG (bcs := []) [] [] [(10, 0)] 49 false (gleaningref15_Total_ok v10_s_2 hx31) rfl ent12 trivial trivial rfl rfl rfl rfl rfl rfl rfl rfl (.inr ⟨rfl, rfl, trivial⟩)) ?_
    refine pm 50 (.int .i64 a3) ?_
    refine pb 51 (.bool (decide (a3 < x31))) ?_
    refine pk 52 (.bool (decide (a3 < x31))) ?_
    refine en hK29 ?_
    refine aw_bool (b := (decide (a3 < x31))) 52 rfl (fun c32 => ?_) (fun c32 => ?_)
    ·have h := ifT c32 h
     refine aw_cond_t D_ rfl ?_
     refine aw_skip ?_
     have h := leafL h hk28
     exact ⟨_, reb_lit [(3, .int .i64 a3), (9, .own 9 0), (10, .own 10 0)] [(9, 0), (10, 0)] [((9, 0), .arr 3 1 false (List.map enc2 v9_s_2)), ((10, 0), .arr 31 4 false (List.map enc30 v10_s_2))] [(9, 1), (10, 1)] (ec (ec (ec envOk_nil))) (objOk_cons W_ W_ R_ (by simp) (objOk_cons W_ W_ R_ (by simp) objOk_nil)) (nodup_b rfl) (nodup_b rfl) rfl rfl, h, rfl⟩
    ·have h := ifF c32 h
     refine aw_cond_f D_ rfl ?_
     refine aw_exit ?_
     have h := leafR h hk28
     have h := leafR h hq26
     refine hK24 _ ?_
     refine sr fun K33 hK33 => ?_
     refine pm 88 (.own 9 0) ?_
     refine pa 8 (.own 9 0) ?_
     refine en hK33 ?_
     refine aw_ret ?_
     obtain rfl := Option.some.inj h
     exact ret_okR [(9, 0)] W_ W_ R_ (rowsOk_cons W_ R_ trivial) (nodup_b rfl) (.inr rfl) rfl
   ·have h := ifF c30 h
    refine pS 48 ?_
    refine pS 49 ?_
    refine pS 50 ?_
    refine pS 51 ?_
    refine pk 52 (.bool false) ?_
    refine en hK29 ?_
    refine aw_cond_f D_ rfl ?_
    refine aw_exit ?_
    have h := leafR h hk28
    have h := leafR h hq26
    refine hK24 _ ?_
    refine sr fun K34 hK34 => ?_
    refine pm 88 (.own 9 0) ?_
    refine pa 8 (.own 9 0) ?_
    refine en hK34 ?_
    refine aw_ret ?_
    obtain rfl := Option.some.inj h
    exact ret_okR [(9, 0)] W_ W_ R_ (rowsOk_cons W_ R_ trivial) (nodup_b rfl) (.inr rfl) rfl
  ·rintro s ⟨h, rfl⟩
   unfold gleaningref15_Choose_k3 at h
   refine aw_block ?_
   refine sr fun K35 hK35 => ?_
   refine pa 12 (.int .i64 0) ?_
   refine en hK35 ?_
   obtain ⟨q36, h, hk37⟩ := bnd_some h
   refine aw_cut (fun s => ∃ (v12_4 : Int), gleaningref15_Choose_k4 v9_s_2 v10_s_2 v12_4 = some q25 ∧ s = lit [(3, .int .i64 a3), (9, .own 9 0), (10, .own 10 0), (12, .int .i64 v12_4)] [((9, 0), .arr 3 1 false (List.map enc2 v9_s_2)), ((10, 0), .arr 31 4 false (List.map enc30 v10_s_2))] [(9, 1), (10, 1)] X) ?_ ?_
   ·skip
    refine sr fun K38 hK38 => ?_
    refine pa 13 (.int .i64 0) ?_
    refine en hK38 ?_
    refine aw_block ?_
    refine aw_loop' (fun m s => ∃ (v12_5 : Int), ∃ (v13_5 : Int), loopN (fun (s : Int × Int) => gleaningref15_Choose_l5 v10_s_2 s.1 s.2) m (v12_5, v13_5) = some q36 ∧ s = lit [(3, .int .i64 a3), (9, .own 9 0), (10, .own 10 0), (12, .int .i64 v12_5), (13, .int .i64 v13_5)] [((9, 0), .arr 3 1 false (List.map enc2 v9_s_2)), ((10, 0), .arr 31 4 false (List.map enc30 v10_s_2))] [(9, 1), (10, 1)] X) Fu
     ⟨_, reb_lit [(3, .int .i64 a3), (9, .own 9 0), (10, .own 10 0), (12, .int .i64 (0)), (13, .int .i64 (0))] [(9, 0), (10, 0)] [((9, 0), .arr 3 1 false (List.map enc2 v9_s_2)), ((10, 0), .arr 31 4 false (List.map enc30 v10_s_2))] [(9, 1), (10, 1)] (ec (ec (ec (ec (ec envOk_nil))))) (objOk_cons W_ W_ R_ (by simp) (objOk_cons W_ W_ R_ (by simp) objOk_nil)) (nodup_b rfl) (nodup_b rfl) rfl rfl, 0, 0, h, rfl⟩ ?_
    rintro m s ⟨v12_5, v13_5, h, rfl⟩
    obtain ⟨m5, q39, rfl, h, hq40⟩ := loop_some h
    replace h : gleaningref15_Choose_l5 v10_s_2 v12_5 v13_5 = some q39 := h
    unfold gleaningref15_Choose_l5 at h
    refine aw_seq_k (fun K41 hK41 => ?_)
    refine sr fun K42 hK42 => ?_
    refine pm 53 (.int .i64 v13_5) ?_
    refine pm 54 (.own 10 0) ?_
    refine pX 55 ((does_len_own W_ W_ ty22).cast (v' := .int .i64 (List.length v10_s_2 : Int)) (by exact len_map _)) ?_
    refine pb 56 (.bool (decide (v13_5 < (List.length v10_s_2 : Int)))) ?_
    refine en hK42 ?_
    refine aw_bool (b := (decide (v13_5 < (List.length v10_s_2 : Int)))) 56 rfl (fun c43 => ?_) (fun c43 => ?_)
    ·have h := ifT c43 h
     refine aw_cond_t D_ rfl ?_
     refine aw_skip ?_
     refine hK41 _ ?_
     refine aw_seq_k (fun K44 hK44 => ?_)
     refine aw_block ?_
     refine aw_seq_k (fun K45 hK45 => ?_)
     refine aw_regd (by kernel_rfl) (by decide +kernel) ?_
     refine qP 59 (does_move (v := .own 10 0) R_) ?_
     refine qP 60 (does_move (v := .int .i64 v13_5) R_) ?_
     obtain ⟨g46, h⟩ := gd_some h
     obtain ⟨x47, hx47, h⟩ := bnd_some h
     refine qR 61 (does_indexAddr_own W_ W_ W_ ty22 ty31 g46 (by exact own_lt hx47)) ?_
     refine qP 62 (does_fieldAddr (q := .eptr 10 0 4 (Int.toNat v13_5) 1) W_ ty31 rfl ty3 D_ R_) ?_
     refine qR 63 (does_load (v := .int .i64 x47.Born) W_ (cellsAt_eptr W_ (by exact map_get hx47)) ty3 R_) ?_
     refine qP 64 (does_move (v := .own 10 0) R_) ?_
     refine qP 65 (does_move (v := .int .i64 v12_5) R_) ?_
     obtain ⟨g48, h⟩ := gd_some h
     obtain ⟨x49, hx49, h⟩ := bnd_some h
     refine qR 66 (does_indexAddr_own W_ W_ W_ ty22 ty31 g48 (by exact own_lt hx49)) ?_
     refine qP 67 (does_fieldAddr (q := .eptr 10 0 4 (Int.toNat v12_5) 1) W_ ty31 rfl ty3 D_ R_) ?_
     refine qR 68 (does_load (v := .int .i64 x49.Born) W_ (cellsAt_eptr W_ (by exact map_get hx49)) ty3 R_) ?_
     refine qP 69 (does_bin (v := .bool (decide (x47.Born < x49.Born))) W_ W_ rfl) ?_
     refine ao_nil_d (by kernel_rfl) ?_
     refine hK45 _ ?_
     refine aw_bool (b := (decide (x47.Born < x49.Born))) 69 rfl (fun c50 => ?_) (fun c50 => ?_)
     ·have h := ifT c50 h
      refine aw_cond_t D_ rfl ?_
      refine aw_regL ?_
      refine pm 70 (.int .i64 v13_5) ?_
      refine pa 12 (.int .i64 v13_5) ?_
      refine en hK44 ?_
      refine aw_regL ?_
      refine pm 57 (.int .i64 v13_5) ?_
      refine pb 58 (.int .i64 (IntKind.i64.wrap (v13_5 + 1))) ?_
      refine pa 13 (.int .i64 (IntKind.i64.wrap (v13_5 + 1))) ?_
      refine al_nil ?_
      have h := leafL h hq40
      exact ⟨m5, Nat.lt_succ_self _, _, reb_lit [(3, .int .i64 a3), (9, .own 9 0), (10, .own 10 0), (12, .int .i64 v13_5), (13, .int .i64 (IntKind.i64.wrap (v13_5 + 1)))] [(9, 0), (10, 0)] [((9, 0), .arr 3 1 false (List.map enc2 v9_s_2)), ((10, 0), .arr 31 4 false (List.map enc30 v10_s_2))] [(9, 1), (10, 1)] (ec (ec (ec (ec (ec envOk_nil))))) (objOk_cons W_ W_ R_ (by simp) (objOk_cons W_ W_ R_ (by simp) objOk_nil)) (nodup_b rfl) (nodup_b rfl) rfl rfl, v13_5, (IntKind.i64.wrap (v13_5 + 1)), h, rfl⟩
     ·have h := ifF c50 h
      refine aw_cond_f D_ rfl ?_
      refine aw_skip ?_
      refine hK44 _ ?_
      refine aw_regL ?_
      refine pm 57 (.int .i64 v13_5) ?_
      refine pb 58 (.int .i64 (IntKind.i64.wrap (v13_5 + 1))) ?_
      refine pa 13 (.int .i64 (IntKind.i64.wrap (v13_5 + 1))) ?_
      refine al_nil ?_
      have h := leafL h hq40
      exact ⟨m5, Nat.lt_succ_self _, _, reb_lit [(3, .int .i64 a3), (9, .own 9 0), (10, .own 10 0), (12, .int .i64 v12_5), (13, .int .i64 (IntKind.i64.wrap (v13_5 + 1)))] [(9, 0), (10, 0)] [((9, 0), .arr 3 1 false (List.map enc2 v9_s_2)), ((10, 0), .arr 31 4 false (List.map enc30 v10_s_2))] [(9, 1), (10, 1)] (ec (ec (ec (ec (ec envOk_nil))))) (objOk_cons W_ W_ R_ (by simp) (objOk_cons W_ W_ R_ (by simp) objOk_nil)) (nodup_b rfl) (nodup_b rfl) rfl rfl, v12_5, (IntKind.i64.wrap (v13_5 + 1)), h, rfl⟩
    ·have h := ifF c43 h
     refine aw_cond_f D_ rfl ?_
     refine aw_exit ?_
     have h := leafR h hq40
     obtain rfl := Option.some.inj h
     have h := hk37
     exact ⟨_, reb_lit [(3, .int .i64 a3), (9, .own 9 0), (10, .own 10 0), (12, .int .i64 v12_5)] [(9, 0), (10, 0)] [((9, 0), .arr 3 1 false (List.map enc2 v9_s_2)), ((10, 0), .arr 31 4 false (List.map enc30 v10_s_2))] [(9, 1), (10, 1)] (ec (ec (ec (ec envOk_nil)))) (objOk_cons W_ W_ R_ (by simp) (objOk_cons W_ W_ R_ (by simp) objOk_nil)) (nodup_b rfl) (nodup_b rfl) rfl rfl, v12_5, h, rfl⟩
   ·rintro s ⟨v12_4, h, rfl⟩
    unfold gleaningref15_Choose_k4 at h
    refine sr fun K51 hK51 => ?_
    refine pm 71 (.own 9 0) ?_
    refine pm 72 (.own 10 0) ?_
    refine pm 73 (.int .i64 v12_4) ?_
    obtain ⟨g52, h⟩ := gd_some h
    obtain ⟨x53, hx53, h⟩ := bnd_some h
    refine pX 74 (does_indexAddr_own W_ W_ W_ ty22 ty31 g52 (by exact own_lt hx53)) ?_
    refine pf 75 (.eptr 10 0 4 (Int.toNat v12_4) 0) ty31 ty3 ?_
    refine pX 76 (does_load (v := .int .i64 x53.Number) W_ (cellsAt_eptr W_ (by exact map_get hx53)) ty3 R_) ?_
    refine pD 77 (do_buildSlice (xs := List.map enc2 [x53.Number]) ty25 ty3 rfl rfl rfl rfl rfl rfl rfl rfl) ?_
    obtain ⟨g54, h⟩ := gd_some h
    refine pD 78 (do_append (v := List.map enc2 (v9_s_2 ++ [x53.Number])) W_ W_ ty25 ty3 rfl rfl W_ (by first | exact .inl rfl | exact .inr ⟨rfl, rfl⟩) W_ (by first | exact .inr rfl | exact .inl rfl) (map_app _ _) (fit_map g54)) ?_
    refine pa 9 (.own 78 0) ?_
    refine en hK51 ?_
    refine aw_freeze (d := 10) (n := 0) W_ ?_
    refine aw_regd (by kernel_rfl) (by decide +kernel) ?_
    refine qP 79 (does_move (v := .own 10 0) R_) ?_
    refine qP 80 (does_move (v := .int .i64 v12_4) R_) ?_
    obtain ⟨g55, h⟩ := gd_some h
    obtain ⟨g56, h⟩ := gd_some h
    refine qD 81 (does_slice_own (l := 0) (k := (Int.toNat v12_4)) W_ W_ ty22 ty31 bd_none (bd_some W_ (by exact (nat_of (by omega)))) (by (try simp only [List.length_map]); omega) (by (try simp only [List.length_map]); omega) (by exact part_h _ _)) ?_
    obtain ⟨g57, h⟩ := gd_some h
    refine qD 82 (do_append (v := List.map enc30 (List.take (Int.toNat v12_4) v10_s_2)) W_ W_ ty22 ty31 rfl rfl W_ (by first | exact .inl rfl | exact .inr ⟨rfl, rfl⟩) W_ (by first | exact .inr rfl | exact .inl rfl) (List.nil_append _) (fit_map g57)) ?_
    refine qP 83 (does_move (v := .own 10 0) R_) ?_
    refine qP 84 (does_move (v := .int .i64 v12_4) R_) ?_
    refine qP 85 (does_bin (v := .int .i64 (IntKind.i64.wrap (v12_4 + 1))) W_ W_ rfl) ?_
    obtain ⟨g58, h⟩ := gd_some h
    obtain ⟨g59, h⟩ := gd_some h
    refine qD 86 (does_slice_own (l := (Int.toNat (IntKind.i64.wrap (v12_4 + 1)))) W_ W_ ty22 ty31 (bd_some W_ (by exact (nat_of g58))) bd_none (by (try simp only [List.length_map]); omega) (by (try simp only [List.length_map]); omega) (by exact part_l _ _)) ?_
    obtain ⟨g60, h⟩ := gd_some h
    refine qD 87 (do_append (v := List.map enc30 ((List.take (Int.toNat v12_4) v10_s_2) ++ (List.drop (Int.toNat (IntKind.i64.wrap (v12_4 + 1))) v10_s_2))) W_ W_ ty22 ty31 rfl rfl W_ (by first | exact .inl rfl | exact .inr ⟨rfl, rfl⟩) W_ (by first | exact .inr rfl | exact .inl rfl) (map_app _ _) (fit_map g60)) ?_
    refine qP 10 (does_assign (v := .own 87 0) R_) ?_
    refine ao_nil_d (by kernel_rfl) ?_
    have h := leafL h hq26
    exact ⟨m2, Nat.lt_succ_self _, _, reb_lit [(3, .int .i64 a3), (9, .own 9 0), (10, .own 10 0)] [(78, 0), (87, 0)] [((9, 0), .arr 3 1 false (List.map enc2 (v9_s_2 ++ [x53.Number]))), ((10, 0), .arr 31 4 false (List.map enc30 ((List.take (Int.toNat v12_4) v10_s_2) ++ (List.drop (Int.toNat (IntKind.i64.wrap (v12_4 + 1))) v10_s_2))))] [(9, 1), (10, 1)] (ec (ec (ec envOk_nil))) (objOk_cons W_ W_ R_ (by simp) (objOk_cons W_ W_ R_ (by simp) objOk_nil)) (nodup_b rfl) (nodup_b rfl) rfl rfl, (v9_s_2 ++ [x53.Number]), ((List.take (Int.toNat v12_4) v10_s_2) ++ (List.drop (Int.toNat (IntKind.i64.wrap (v12_4 + 1))) v10_s_2)), h, rfl⟩
end Go.Proofs.Ytejimiedoibkcaa.Ab
