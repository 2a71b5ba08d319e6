/- Chapter 20: which blocks go. -/
import Derived.Test.YtejimiedoibkcaaXRFew
import Derived.Test.YtejimiedoibkcaaProg
namespace Go.Proofs.Ytejimiedoibkcaa.Ab
open Go Go.RowKit
set_option linter.unusedVariables false
set_option linter.unusedSimpArgs false
set_option maxRecDepth 100000
set_option maxHeartbeats 8000000
theorem ent7 : Ent Try.prog 7 := ⟨_, Try.func7, by kernel_rfl, rfl⟩
theorem ent8 : Ent Try.prog 8 := ⟨_, Try.func8, by kernel_rfl, rfl⟩
theorem ent10 : Ent Try.prog 10 := ⟨_, Try.func10, by kernel_rfl, rfl⟩
def gleaninglaw20_RetireTells_l2 (x13 : List Int) (x15 : List Int) (v12_2 : Int) : Option (Int ⊕ Bool) :=
 if (decide (v12_2 < (List.length x13 : Int))) = true then (gd (0 ≤ v12_2) (Option.bind (x13[(Int.toNat v12_2)]?) (fun (x35 : Int) => gd (0 ≤ v12_2) (Option.bind (x15[(Int.toNat v12_2)]?) (fun (x37 : Int) => if (x35 != x37) = true then (some (Sum.inr false)) else (some (Sum.inl (IntKind.i64.wrap (v12_2 + 1))))))))) else (some (Sum.inr true))
def gleaninglaw20_RetireTells_k1 (x13 : List Int) (x15 : List Int) : Option Bool :=
 loopN (fun (s : Int) => gleaninglaw20_RetireTells_l2 x13 x15 s) Fu 0
def gleaninglaw20_RetireTells_k0 (a0 : List Block) (a1 : Int) (a2 : Int) (a3 : Int) : Option Bool :=
 Option.bind (retire_Choose a0 a1 a2 a3) (fun (x13 : List Int) => Option.bind (gleaningref15_Choose a0 a1 a2 a3) (fun (x15 : List Int) => Option.bind (if ((List.length x13 : Int) != (List.length x15 : Int)) = true then (some (Sum.inr false)) else (Option.bind (retire_Total a0) (fun (x21 : Int) => Option.bind (gleaningref15_Total a0) (fun (x22 : Int) => if (x21 != x22) = true then (some (Sum.inr false)) else (some (Sum.inl ())))))) (Sum.elim (fun (s : Unit) => gleaninglaw20_RetireTells_k1 x13 x15) some)))
def gleaninglaw20_RetireTells (a0 : List Block) (a1 : Int) (a2 : Int) (a3 : Int) : Option Bool :=
 Option.bind (gleaninglaw20_alive) (fun (x3 : Bool) => Option.bind (if (!x3) = true then (some (Sum.inr x3)) else (Option.bind (gleaninglaw19_Few a0) (fun (x9 : Bool) => if (!x9) = true then (some (Sum.inr x3)) else (some (Sum.inl ()))))) (Sum.elim (fun (s : Unit) => gleaninglaw20_RetireTells_k0 a0 a1 a2 a3) some))
theorem gleaninglaw20_RetireTells_ok (a0 : List Block) (a1 : Int) (a2 : Int) (a3 : Int) {r : Bool} (h : gleaninglaw20_RetireTells a0 a1 a2 a3 = some r) : Ok Try.prog 3 [.sl 4 (List.map enc30 a0), .int .i64 a1, .int .i64 a2, .int .i64 a3] [] [] (.bool r) [] [] := by
 unfold gleaninglaw20_RetireTells at h
 refine ok_of_code Try.func3 rfl (by show (4 : Nat) ≤ _; decide) (Nat.le_refl _) fun X => ?_
 refine sr fun K1 hK1 => ?_
 refine pa 8 (.bool false) ?_
 refine en hK1 ?_
 refine sr fun K2 hK2 => ?_
 obtain ⟨x3, hx3, h⟩ := bnd_some h
 refine pD 13 (do_call0 13 false (gleaninglaw20_alive_ok hx3) rfl ent7 rfl rfl) ?_
 refine pa 9 (.bool x3) ?_
 refine en hK2 ?_
 obtain ⟨q4, h, hk5⟩ := bnd_some h
 refine aw_cut (fun s => gleaninglaw20_RetireTells_k0 a0 a1 a2 a3 = some r ∧ s = lit [(0, .sl 4 (List.map enc30 a0)), (1, .int .i64 a1), (2, .int .i64 a2), (3, .int .i64 a3)] [] [] X) ?_ ?_
 ·skip
  refine sr fun K6 hK6 => ?_
  refine pm 14 (.bool x3) ?_
  refine pP 15 (does_un (v := .bool (!x3)) W_ rfl) ?_
  refine pm 16 (.bool (!x3)) ?_
  refine al_bool (c := (!x3)) 16 rfl (fun c7 => ?_) (fun c7 => ?_)
  ·have h := ifT c7 h
   refine pS 17 ?_
   refine pS 18 ?_
   refine pS 19 ?_
   refine pk 20 (.bool true) ?_
   refine en hK6 ?_
   refine aw_cond_t D_ rfl ?_
   refine sr fun K8 hK8 => ?_
   refine pm 21 (.bool x3) ?_
   refine pa 8 (.bool x3) ?_
   refine en hK8 ?_
   refine aw_ret ?_
   have h := leafR h hk5
   obtain rfl := Option.some.inj h
   exact ret_ok1 W_ W_ R_ (.inr rfl) rfl
  ·have h := ifF c7 h
   refine pm 17 (.sl 4 (List.map enc30 a0)) ?_
   obtain ⟨x9, hx9, h⟩ := bnd_some h
   refine pD 18 (do_call0 18 false (gleaninglaw19_Few_ok a0 hx9) rfl ent8 rfl rfl) ?_
   refine pP 19 (does_un (v := .bool (!x9)) W_ rfl) ?_
   refine pk 20 (.bool (!x9)) ?_
   refine en hK6 ?_
   refine aw_bool (b := (!x9)) 20 rfl (fun c10 => ?_) (fun c10 => ?_)
   ·have h := ifT c10 h
    refine aw_cond_t D_ rfl ?_
    refine sr fun K11 hK11 => ?_
    refine pm 21 (.bool x3) ?_
    refine pa 8 (.bool x3) ?_
    refine en hK11 ?_
    refine aw_ret ?_
    have h := leafR h hk5
    obtain rfl := Option.some.inj h
    exact ret_ok1 W_ W_ R_ (.inr rfl) rfl
   ·have h := ifF c10 h
    refine aw_cond_f D_ rfl ?_
    refine aw_skip ?_
    have h := leafL h hk5
    exact ⟨_, reb_lit [(0, .sl 4 (List.map enc30 a0)), (1, .int .i64 a1), (2, .int .i64 a2), (3, .int .i64 a3)] [] [] [] (ec (ec (ec (ec envOk_nil)))) objOk_nil (nodup_b rfl) (nodup_b rfl) rfl rfl, h, rfl⟩
 ·rintro s ⟨h, rfl⟩
  unfold gleaninglaw20_RetireTells_k0 at h
  refine sr fun K12 hK12 => ?_
  refine pm 22 (.sl 4 (List.map enc30 a0)) ?_
  refine pm 23 (.int .i64 a1) ?_
  refine pm 24 (.int .i64 a2) ?_
  refine pm 25 (.int .i64 a3) ?_
  obtain ⟨x13, hx13, h⟩ := bnd_some h
  refine pD 26 (do_call0 26 false (retire_Choose_ok a0 a1 a2 a3 hx13) rfl ent9 rfl rfl) ?_
  refine pa 10 (.own 26 0) ?_
  refine en hK12 ?_
  refine sr fun K14 hK14 => ?_
  refine pm 27 (.sl 4 (List.map enc30 a0)) ?_
  refine pm 28 (.int .i64 a1) ?_
  refine pm 29 (.int .i64 a2) ?_
  refine pm 30 (.int .i64 a3) ?_
  obtain ⟨x15, hx15, h⟩ := bnd_some h
  refine pD 31 (do_call0 31 false (gleaningref15_Choose_ok a0 a1 a2 a3 hx15) rfl ent10 rfl rfl) ?_
  refine pa 11 (.own 31 0) ?_
  refine en hK14 ?_
  obtain ⟨q16, h, hk17⟩ := bnd_some h
  refine aw_cut (fun s => gleaninglaw20_RetireTells_k1 x13 x15 = some r ∧ s = lit [(10, .own 26 0), (11, .own 31 0)] [((26, 0), .arr 3 1 false (List.map enc2 x13)), ((31, 0), .arr 3 1 false (List.map enc2 x15))] [(26, 1), (31, 1)] X) ?_ ?_
  ·skip
   refine sr fun K18 hK18 => ?_
   refine pm 32 (.own 26 0) ?_
   refine pX 33 ((does_len_own W_ W_ ty25).cast (v' := .int .i64 (List.length x13 : Int)) (by exact len_map _)) ?_
   refine pm 34 (.own 31 0) ?_
   refine pX 35 ((does_len_own W_ W_ ty25).cast (v' := .int .i64 (List.length x15 : Int)) (by exact len_map _)) ?_
   refine pb 36 (.bool ((List.length x13 : Int) != (List.length x15 : Int))) ?_
   refine pm 37 (.bool ((List.length x13 : Int) != (List.length x15 : Int))) ?_
   refine al_bool (c := ((List.length x13 : Int) != (List.length x15 : Int))) 37 rfl (fun c19 => ?_) (fun c19 => ?_)
   ·have h := ifT c19 h
    refine pS 38 ?_
    refine pS 39 ?_
    refine pS 40 ?_
    refine pS 41 ?_
    refine pS 42 ?_
    refine pk 43 (.bool true) ?_
    refine en hK18 ?_
    refine aw_cond_t D_ rfl ?_
    refine sr fun K20 hK20 => ?_
    refine pa 8 (.bool false) ?_
    refine en hK20 ?_
    refine aw_ret ?_
    have h := leafR h hk17
    obtain rfl := Option.some.inj h
    exact ret_ok1 W_ W_ R_ (.inr rfl) rfl
   ·have h := ifF c19 h
    refine pm 38 (.sl 4 (List.map enc30 a0)) ?_
    obtain ⟨x21, hx21, h⟩ := bnd_some h
    refine pD 39 (do_call0 39 false (retire_Total_ok a0 hx21) rfl ent11 rfl rfl) ?_
    refine pm 40 (.sl 4 (List.map enc30 a0)) ?_
    obtain ⟨x22, hx22, h⟩ := bnd_some h
    refine pD 41 (do_call0 41 false (gleaningref15_Total_ok a0 hx22) rfl ent12 rfl rfl) ?_
    refine pb 42 (.bool (x21 != x22)) ?_
    refine pk 43 (.bool (x21 != x22)) ?_
    refine en hK18 ?_
    refine aw_bool (b := (x21 != x22)) 43 rfl (fun c23 => ?_) (fun c23 => ?_)
    ·have h := ifT c23 h
     refine aw_cond_t D_ rfl ?_
     refine sr fun K24 hK24 => ?_
     refine pa 8 (.bool false) ?_
     refine en hK24 ?_
     refine aw_ret ?_
     have h := leafR h hk17
     obtain rfl := Option.some.inj h
     exact ret_ok1 W_ W_ R_ (.inr rfl) rfl
    ·have h := ifF c23 h
     refine aw_cond_f D_ rfl ?_
     refine aw_skip ?_
     have h := leafL h hk17
     exact ⟨_, reb_lit [(10, .own 26 0), (11, .own 31 0)] [(26, 0), (31, 0)] [((26, 0), .arr 3 1 false (List.map enc2 x13)), ((31, 0), .arr 3 1 false (List.map enc2 x15))] [(26, 1), (31, 1)] (ec (ec envOk_nil)) (objOk_cons W_ W_ R_ (by simp) (objOk_cons W_ W_ R_ (by simp) objOk_nil)) (nodup_b rfl) (nodup_b rfl) rfl rfl, h, rfl⟩
  ·rintro s ⟨h, rfl⟩
   unfold gleaninglaw20_RetireTells_k1 at h
   refine aw_seq_k (fun K25 hK25 => ?_)
   refine sr fun K26 hK26 => ?_
   refine pa 12 (.int .i64 0) ?_
   refine en hK26 ?_
   refine aw_block ?_
   refine aw_loop' (fun m s => ∃ (v12_2 : Int), loopN (fun (s : Int) => gleaninglaw20_RetireTells_l2 x13 x15 s) m v12_2 = some r ∧ s = lit [(10, .own 26 0), (11, .own 31 0), (12, .int .i64 v12_2)] [((26, 0), .arr 3 1 false (List.map enc2 x13)), ((31, 0), .arr 3 1 false (List.map enc2 x15))] [(26, 1), (31, 1)] X) Fu
    ⟨_, reb_lit [(10, .own 26 0), (11, .own 31 0), (12, .int .i64 (0))] [(26, 0), (31, 0)] [((26, 0), .arr 3 1 false (List.map enc2 x13)), ((31, 0), .arr 3 1 false (List.map enc2 x15))] [(26, 1), (31, 1)] (ec (ec (ec envOk_nil))) (objOk_cons W_ W_ R_ (by simp) (objOk_cons W_ W_ R_ (by simp) objOk_nil)) (nodup_b rfl) (nodup_b rfl) rfl rfl, 0, h, rfl⟩ ?_
   rintro m s ⟨v12_2, h, rfl⟩
   obtain ⟨m2, q27, rfl, h, hq28⟩ := loop_some h
   replace h : gleaninglaw20_RetireTells_l2 x13 x15 v12_2 = some q27 := h
   unfold gleaninglaw20_RetireTells_l2 at h
   refine aw_seq_k (fun K29 hK29 => ?_)
   refine sr fun K30 hK30 => ?_
   refine pm 44 (.int .i64 v12_2) ?_
   refine pm 45 (.own 26 0) ?_
   refine pX 46 ((does_len_own W_ W_ ty25).cast (v' := .int .i64 (List.length x13 : Int)) (by exact len_map _)) ?_
   refine pb 47 (.bool (decide (v12_2 < (List.length x13 : Int)))) ?_
   refine en hK30 ?_
   refine aw_bool (b := (decide (v12_2 < (List.length x13 : Int)))) 47 rfl (fun c31 => ?_) (fun c31 => ?_)
   ·have h := ifT c31 h
    refine aw_cond_t D_ rfl ?_
    refine aw_skip ?_
    refine hK29 _ ?_
    refine aw_seq_k (fun K32 hK32 => ?_)
    refine aw_block ?_
    refine aw_seq_k (fun K33 hK33 => ?_)
    refine aw_regd (by kernel_rfl) (by decide +kernel) ?_
    refine qP 50 (does_move (v := .own 26 0) R_) ?_
    refine qP 51 (does_move (v := .int .i64 v12_2) R_) ?_
    obtain ⟨g34, h⟩ := gd_some h
    obtain ⟨x35, hx35, h⟩ := bnd_some h
    refine qR 52 (does_indexAddr_own W_ W_ W_ ty25 ty3 g34 (by exact own_lt hx35)) ?_
    refine qR 53 (does_load (v := .int .i64 x35) W_ (cellsAt_eptr W_ (by exact map_get hx35)) ty3 R_) ?_
    refine qP 54 (does_move (v := .own 31 0) R_) ?_
    refine qP 55 (does_move (v := .int .i64 v12_2) R_) ?_
    obtain ⟨g36, h⟩ := gd_some h
    obtain ⟨x37, hx37, h⟩ := bnd_some h
    refine qR 56 (does_indexAddr_own W_ W_ W_ ty25 ty3 g36 (by exact own_lt hx37)) ?_
    refine qR 57 (does_load (v := .int .i64 x37) W_ (cellsAt_eptr W_ (by exact map_get hx37)) ty3 R_) ?_
    refine qP 58 (does_bin (v := .bool (x35 != x37)) W_ W_ rfl) ?_
    refine ao_nil_d (by kernel_rfl) ?_
    refine hK33 _ ?_
    refine aw_bool (b := (x35 != x37)) 58 rfl (fun c38 => ?_) (fun c38 => ?_)
    ·have h := ifT c38 h
     refine aw_cond_t D_ rfl ?_
     refine sr fun K39 hK39 => ?_
     refine pa 8 (.bool false) ?_
     refine en hK39 ?_
     refine aw_ret ?_
     have h := leafR h hq28
     obtain rfl := Option.some.inj h
     exact ret_ok1 W_ W_ R_ (.inr rfl) rfl
    ·have h := ifF c38 h
     refine aw_cond_f D_ rfl ?_
     refine aw_skip ?_
     refine hK32 _ ?_
     refine aw_regL ?_
     refine pm 48 (.int .i64 v12_2) ?_
     refine pb 49 (.int .i64 (IntKind.i64.wrap (v12_2 + 1))) ?_
     refine pa 12 (.int .i64 (IntKind.i64.wrap (v12_2 + 1))) ?_
     refine al_nil ?_
     have h := leafL h hq28
     exact ⟨m2, Nat.lt_succ_self _, _, reb_lit [(10, .own 26 0), (11, .own 31 0), (12, .int .i64 (IntKind.i64.wrap (v12_2 + 1)))] [(26, 0), (31, 0)] [((26, 0), .arr 3 1 false (List.map enc2 x13)), ((31, 0), .arr 3 1 false (List.map enc2 x15))] [(26, 1), (31, 1)] (ec (ec (ec envOk_nil))) (objOk_cons W_ W_ R_ (by simp) (objOk_cons W_ W_ R_ (by simp) objOk_nil)) (nodup_b rfl) (nodup_b rfl) rfl rfl, (IntKind.i64.wrap (v12_2 + 1)), h, rfl⟩
   ·have h := ifF c31 h
    refine aw_cond_f D_ rfl ?_
    refine aw_exit ?_
    have h := leafR h hq28
    refine hK25 _ ?_
    refine sr fun K40 hK40 => ?_
    refine pa 8 (.bool true) ?_
    refine en hK40 ?_
    refine aw_ret ?_
    obtain rfl := Option.some.inj h
    exact ret_ok1 W_ W_ R_ (.inr rfl) rfl
end Go.Proofs.Ytejimiedoibkcaa.Ab
