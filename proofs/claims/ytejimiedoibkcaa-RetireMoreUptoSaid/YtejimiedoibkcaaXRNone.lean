/- Chapter 20: when nothing goes. -/
import Derived.Test.YtejimiedoibkcaaXRBounds
import Derived.Test.YtejimiedoibkcaaProg
namespace Go.Proofs.Ytejimiedoibkcaa.Ab
open Go Go.RowKit
set_option linter.unusedVariables false
set_option linter.unusedSimpArgs false
set_option maxRecDepth 100000
set_option maxHeartbeats 8000000

def gleaninglaw20_RetireNone_l2 (a0 : List Block) (a1 : Int) (v6_2 : Int) : Option (Int ⊕ (Unit ⊕ Bool)) :=
 if (decide (v6_2 < (List.length a0 : Int))) = true then (gd (0 ≤ v6_2) (Option.bind (a0[(Int.toNat v6_2)]?) (fun (x25 : Block) => Option.bind (gleaningref15_RightBlock x25) (fun (x26 : Bool) => if (!x26) = true then (some (Sum.inr (Sum.inr true))) else (gd (0 ≤ v6_2) (Option.bind (a0[(Int.toNat v6_2)]?) (fun (x30 : Block) => if (decide (a1 < x30.Born)) = true then (some (Sum.inr (Sum.inr true))) else (if (decide ((1099511627776 : Int) < a1)) = true then (some (Sum.inr (Sum.inr true))) else (some (Sum.inl (IntKind.i64.wrap (v6_2 + 1)))))))))))) else (some (Sum.inr (Sum.inl ())))
def gleaninglaw20_RetireNone_k1 (a0 : List Block) (a1 : Int) : Option Bool :=
 Option.bind (gleaningref15_Total a0) (fun (x36 : Int) => Option.bind (retire_Choose a0 a1 1099511627776 x36) (fun (x37 : List Int) => Option.bind (retire_Choose a0 a1 1099511627776 0) (fun (x39 : List Int) => Option.bind (retire_Choose a0 a1 (-1) 1099511627776) (fun (x41 : List Int) => if ((List.length x37 : Int) == 0) = true then (if ((List.length x39 : Int) == (IntKind.i64.wrap ((List.length a0 : Int) - 1))) = true then (some ((List.length x41 : Int) == (List.length a0 : Int))) else (some false)) else (some false)))))
def gleaninglaw20_RetireNone_k0 (a0 : List Block) (a1 : Int) : Option Bool :=
 Option.bind (loopN (fun (s : Int) => gleaninglaw20_RetireNone_l2 a0 a1 s) Fu 0) (Sum.elim (fun (s : Unit) => gleaninglaw20_RetireNone_k1 a0 a1) some)
def gleaninglaw20_RetireNone (a0 : List Block) (a1 : Int) : Option Bool :=
 Option.bind (gleaninglaw20_alive) (fun (x3 : Bool) => Option.bind (if (!x3) = true then (some (Sum.inr x3)) else (Option.bind (gleaninglaw19_Few a0) (fun (x9 : Bool) => if (!x9) = true then (some (Sum.inr x3)) else (if (decide ((List.length a0 : Int) < 1)) = true then (some (Sum.inr x3)) else (some (Sum.inl ())))))) (Sum.elim (fun (s : Unit) => gleaninglaw20_RetireNone_k0 a0 a1) some))
theorem gleaninglaw20_RetireNone_ok (a0 : List Block) (a1 : Int) {r : Bool} (h : gleaninglaw20_RetireNone a0 a1 = some r) : Ok Try.prog 5 [.sl 4 (List.map enc30 a0), .int .i64 a1] [] [] (.bool r) [] [] := by
 unfold gleaninglaw20_RetireNone at h
 refine ok_of_code Try.func5 rfl (by show (2 : Nat) ≤ _; decide) (Nat.le_refl _) fun X => ?_
 refine sr fun K1 hK1 => ?_
 refine pa 4 (.bool false) ?_
 refine en hK1 ?_
 refine sr fun K2 hK2 => ?_
 obtain ⟨x3, hx3, h⟩ := bnd_some h
 refine pD 10 (do_call0 10 false (gleaninglaw20_alive_ok hx3) rfl ent7 rfl rfl) ?_
 refine pa 5 (.bool x3) ?_
 refine en hK2 ?_
 obtain ⟨q4, h, hk5⟩ := bnd_some h
 refine aw_cut (fun s => gleaninglaw20_RetireNone_k0 a0 a1 = some r ∧ s = lit [(0, .sl 4 (List.map enc30 a0)), (1, .int .i64 a1)] [] [] X) ?_ ?_
 ·skip
  refine sr fun K6 hK6 => ?_
  refine pm 11 (.bool x3) ?_
  refine pP 12 (does_un (v := .bool (!x3)) W_ rfl) ?_
  refine pm 13 (.bool (!x3)) ?_
  refine al_bool (c := (!x3)) 13 rfl (fun c7 => ?_) (fun c7 => ?_)
  ·have h := ifT c7 h
   refine pS 14 ?_
   refine pS 15 ?_
   refine pS 16 ?_
   refine pk 17 (.bool true) ?_
   refine pm 18 (.bool true) ?_
   refine pS 19 ?_
   refine pS 20 ?_
   refine pS 21 ?_
   refine pk 22 (.bool true) ?_
   refine en hK6 ?_
   refine aw_cond_t D_ rfl ?_
   refine sr fun K8 hK8 => ?_
   refine pm 23 (.bool x3) ?_
   refine pa 4 (.bool x3) ?_
   refine en hK8 ?_
   refine aw_ret ?_
   have h := leafR h hk5
   obtain rfl := Option.some.inj h
   exact ret_ok1 W_ W_ R_ (.inr rfl) rfl
  ·have h := ifF c7 h
   refine pm 14 (.sl 4 (List.map enc30 a0)) ?_
   obtain ⟨x9, hx9, h⟩ := bnd_some h
   refine pD 15 (do_call0 15 false (gleaninglaw19_Few_ok a0 hx9) rfl ent8 rfl rfl) ?_
   refine pP 16 (does_un (v := .bool (!x9)) W_ rfl) ?_
   refine pk 17 (.bool (!x9)) ?_
   refine pm 18 (.bool (!x9)) ?_
   refine al_bool (c := (!x9)) 18 rfl (fun c10 => ?_) (fun c10 => ?_)
   ·have h := ifT c10 h
    refine pS 19 ?_
    refine pS 20 ?_
    refine pS 21 ?_
    refine pk 22 (.bool true) ?_
    refine en hK6 ?_
    refine aw_cond_t D_ rfl ?_
    refine sr fun K11 hK11 => ?_
    refine pm 23 (.bool x3) ?_
    refine pa 4 (.bool x3) ?_
    refine en hK11 ?_
    refine aw_ret ?_
    have h := leafR h hk5
    obtain rfl := Option.some.inj h
    exact ret_ok1 W_ W_ R_ (.inr rfl) rfl
   ·have h := ifF c10 h
    refine pm 19 (.sl 4 (List.map enc30 a0)) ?_
    refine pP 20 ((does_len_sl W_ ty22).castp (v' := .int .i64 (List.length a0 : Int)) (by exact len_map _)) ?_
    refine pb 21 (.bool (decide ((List.length a0 : Int) < 1))) ?_
    refine pk 22 (.bool (decide ((List.length a0 : Int) < 1))) ?_
    refine en hK6 ?_
    refine aw_bool (b := (decide ((List.length a0 : Int) < 1))) 22 rfl (fun c12 => ?_) (fun c12 => ?_)
    ·have h := ifT c12 h
     refine aw_cond_t D_ rfl ?_
     refine sr fun K13 hK13 => ?_
     refine pm 23 (.bool x3) ?_
     refine pa 4 (.bool x3) ?_
     refine en hK13 ?_
     refine aw_ret ?_
     have h := leafR h hk5
     obtain rfl := Option.some.inj h
     exact ret_ok1 W_ W_ R_ (.inr rfl) rfl
    ·have h := ifF c12 h
     refine aw_cond_f D_ rfl ?_
     refine aw_skip ?_
     have h := leafL h hk5
     exact ⟨_, reb_lit [(0, .sl 4 (List.map enc30 a0)), (1, .int .i64 a1)] [] [] [] (ec (ec envOk_nil)) objOk_nil (nodup_b rfl) (nodup_b rfl) rfl rfl, h, rfl⟩
 ·rintro s ⟨h, rfl⟩
  unfold gleaninglaw20_RetireNone_k0 at h
  obtain ⟨q14, h, hk15⟩ := bnd_some h
  refine aw_cut (fun s => gleaninglaw20_RetireNone_k1 a0 a1 = some r ∧ s = lit [(0, .sl 4 (List.map enc30 a0)), (1, .int .i64 a1)] [] [] X) ?_ ?_
  ·skip
   refine sr fun K16 hK16 => ?_
   refine pa 6 (.int .i64 0) ?_
   refine en hK16 ?_
   refine aw_block ?_
   refine aw_loop' (fun m s => ∃ (v6_2 : Int), loopN (fun (s : Int) => gleaninglaw20_RetireNone_l2 a0 a1 s) m v6_2 = some q14 ∧ s = lit [(0, .sl 4 (List.map enc30 a0)), (1, .int .i64 a1), (6, .int .i64 v6_2)] [] [] X) Fu
    ⟨_, reb_lit [(0, .sl 4 (List.map enc30 a0)), (1, .int .i64 a1), (6, .int .i64 (0))] [] [] [] (ec (ec (ec envOk_nil))) objOk_nil (nodup_b rfl) (nodup_b rfl) rfl rfl, 0, h, rfl⟩ ?_
   rintro m s ⟨v6_2, h, rfl⟩
   obtain ⟨m2, q17, rfl, h, hq18⟩ := loop_some h
   replace h : gleaninglaw20_RetireNone_l2 a0 a1 v6_2 = some q17 := h
   unfold gleaninglaw20_RetireNone_l2 at h
   refine aw_seq_k (fun K19 hK19 => ?_)
   refine sr fun K20 hK20 => ?_
   refine pm 24 (.int .i64 v6_2) ?_
   refine pm 25 (.sl 4 (List.map enc30 a0)) ?_
   refine pP 26 ((does_len_sl W_ ty22).castp (v' := .int .i64 (List.length a0 : Int)) (by exact len_map _)) ?_
   refine pb 27 (.bool (decide (v6_2 < (List.length a0 : Int)))) ?_
   refine en hK20 ?_
   refine aw_bool (b := (decide (v6_2 < (List.length a0 : Int)))) 27 rfl (fun c21 => ?_) (fun c21 => ?_)
   ·have h := ifT c21 h
    refine aw_cond_t D_ rfl ?_
    refine aw_skip ?_
    refine hK19 _ ?_
    refine aw_seq_k (fun K22 hK22 => ?_)
    refine aw_block ?_
    refine sr fun K23 hK23 => ?_
    refine pm 30 (.sl 4 (List.map enc30 a0)) ?_
    refine pm 31 (.int .i64 v6_2) ?_
    obtain ⟨g24, h⟩ := gd_some h
    obtain ⟨x25, hx25, h⟩ := bnd_some h
    refine pP 32 (does_indexAddr_sl (el := .agg [.int .i64 x25.Number, .int .i64 x25.Born, .int .i64 x25.Tier, .sl 6 (List.map enc46 x25.Episodes)]) W_ W_ ty22 ty31 g24 (by exact map_get hx25)) ?_
    refine pl 33 (.agg [.int .i64 x25.Number, .int .i64 x25.Born, .int .i64 x25.Tier, .sl 6 (List.map enc46 x25.Episodes)]) ty31 ?_
    obtain ⟨x26, hx26, h⟩ := bnd_some h
    refine pD 34 (do_call0 34 false (gleaningref15_RightBlock_ok x25 hx26) rfl ent13 rfl rfl) ?_
    refine pP 35 (does_un (v := .bool (!x26)) W_ rfl) ?_
    refine pm 36 (.bool (!x26)) ?_
    refine al_bool (c := (!x26)) 36 rfl (fun c27 => ?_) (fun c27 => ?_)
    ·have h := ifT c27 h
     refine pS 37 ?_
     refine pS 38 ?_
     refine pS 39 ?_
     refine pS 40 ?_
     refine pS 41 ?_
     refine pS 42 ?_
     refine pS 43 ?_
     refine pk 44 (.bool true) ?_
     refine pm 45 (.bool true) ?_
     refine pS 46 ?_
     refine pS 47 ?_
     refine pk 48 (.bool true) ?_
     refine en hK23 ?_
     refine aw_cond_t D_ rfl ?_
     refine sr fun K28 hK28 => ?_
     refine pa 4 (.bool true) ?_
     refine en hK28 ?_
     refine aw_ret ?_
     have h := leafR h hq18
     have h := leafR h hk15
     obtain rfl := Option.some.inj h
     exact ret_ok1 W_ W_ R_ (.inr rfl) rfl
    ·have h := ifF c27 h
     refine pm 37 (.sl 4 (List.map enc30 a0)) ?_
     refine pm 38 (.int .i64 v6_2) ?_
     obtain ⟨g29, h⟩ := gd_some h
     obtain ⟨x30, hx30, h⟩ := bnd_some h
     refine pP 39 (does_indexAddr_sl (el := .agg [.int .i64 x30.Number, .int .i64 x30.Born, .int .i64 x30.Tier, .sl 6 (List.map enc46 x30.Episodes)]) W_ W_ ty22 ty31 g29 (by exact map_get hx30)) ?_
     refine pf 40 (.rptr [.int .i64 x30.Born, .int .i64 x30.Tier, .sl 6 (List.map enc46 x30.Episodes)]) ty31 ty3 ?_
     refine pl 41 (.int .i64 x30.Born) ty3 ?_
     refine pm 42 (.int .i64 a1) ?_
     refine pb 43 (.bool (decide (a1 < x30.Born))) ?_
     refine pk 44 (.bool (decide (a1 < x30.Born))) ?_
     refine pm 45 (.bool (decide (a1 < x30.Born))) ?_
     refine al_bool (c := (decide (a1 < x30.Born))) 45 rfl (fun c31 => ?_) (fun c31 => ?_)
     ·have h := ifT c31 h
      refine pS 46 ?_
      refine pS 47 ?_
      refine pk 48 (.bool true) ?_
      refine en hK23 ?_
      refine aw_cond_t D_ rfl ?_
      refine sr fun K32 hK32 => ?_
      refine pa 4 (.bool true) ?_
      refine en hK32 ?_
      refine aw_ret ?_
      have h := leafR h hq18
      have h := leafR h hk15
      obtain rfl := Option.some.inj h
      exact ret_ok1 W_ W_ R_ (.inr rfl) rfl
     ·have h := ifF c31 h
      refine pm 46 (.int .i64 a1) ?_
      refine pb 47 (.bool (decide ((1099511627776 : Int) < a1))) ?_
      refine pk 48 (.bool (decide ((1099511627776 : Int) < a1))) ?_
      refine en hK23 ?_
      refine aw_bool (b := (decide ((1099511627776 : Int) < a1))) 48 rfl (fun c33 => ?_) (fun c33 => ?_)
      ·have h := ifT c33 h
       refine aw_cond_t D_ rfl ?_
       refine sr fun K34 hK34 => ?_
       refine pa 4 (.bool true) ?_
       refine en hK34 ?_
       refine aw_ret ?_
       have h := leafR h hq18
       have h := leafR h hk15
       obtain rfl := Option.some.inj h
       exact ret_ok1 W_ W_ R_ (.inr rfl) rfl
      ·have h := ifF c33 h
       refine aw_cond_f D_ rfl ?_
       refine aw_skip ?_
       refine hK22 _ ?_
       refine aw_regL ?_
       refine pm 28 (.int .i64 v6_2) ?_
       refine pb 29 (.int .i64 (IntKind.i64.wrap (v6_2 + 1))) ?_
       refine pa 6 (.int .i64 (IntKind.i64.wrap (v6_2 + 1))) ?_
       refine al_nil ?_
       have h := leafL h hq18
       exact ⟨m2, Nat.lt_succ_self _, _, reb_lit [(0, .sl 4 (List.map enc30 a0)), (1, .int .i64 a1), (6, .int .i64 (IntKind.i64.wrap (v6_2 + 1)))] [] [] [] (ec (ec (ec envOk_nil))) objOk_nil (nodup_b rfl) (nodup_b rfl) rfl rfl, (IntKind.i64.wrap (v6_2 + 1)), h, rfl⟩
   ·have h := ifF c21 h
    refine aw_cond_f D_ rfl ?_
    refine aw_exit ?_
    have h := leafR h hq18
    have h := leafL h hk15
    exact ⟨_, reb_lit [(0, .sl 4 (List.map enc30 a0)), (1, .int .i64 a1)] [] [] [] (ec (ec envOk_nil)) objOk_nil (nodup_b rfl) (nodup_b rfl) rfl rfl, h, rfl⟩
  ·rintro s ⟨h, rfl⟩
   unfold gleaninglaw20_RetireNone_k1 at h
   refine sr fun K35 hK35 => ?_
   refine pm 49 (.sl 4 (List.map enc30 a0)) ?_
   refine pm 50 (.int .i64 a1) ?_
   refine pm 51 (.sl 4 (List.map enc30 a0)) ?_
   obtain ⟨x36, hx36, h⟩ := bnd_some h
   refine pD 52 (do_call0 52 false (gleaningref15_Total_ok a0 hx36) rfl ent12 rfl rfl) ?_
   obtain ⟨x37, hx37, h⟩ := bnd_some h
   refine pD 53 (do_call0 53 false (retire_Choose_ok a0 a1 1099511627776 x36 hx37) rfl ent9 rfl rfl) ?_
   refine pa 7 (.own 53 0) ?_
   refine en hK35 ?_
   refine sr fun K38 hK38 => ?_
   refine pm 54 (.sl 4 (List.map enc30 a0)) ?_
   refine pm 55 (.int .i64 a1) ?_
   obtain ⟨x39, hx39, h⟩ := bnd_some h
   refine pD 56 (do_call0 56 false (retire_Choose_ok a0 a1 1099511627776 0 hx39) rfl ent9 rfl rfl) ?_
   refine pa 8 (.own 56 0) ?_
   refine en hK38 ?_
   refine sr fun K40 hK40 => ?_
   refine pm 57 (.sl 4 (List.map enc30 a0)) ?_
   refine pm 58 (.int .i64 a1) ?_
   obtain ⟨x41, hx41, h⟩ := bnd_some h
   refine pD 59 (do_call0 59 false (retire_Choose_ok a0 a1 (-1) 1099511627776 hx41) rfl ent9 rfl rfl) ?_
   refine pa 9 (.own 59 0) ?_
   refine en hK40 ?_
   refine sr fun K42 hK42 => ?_
   refine pm 60 (.own 53 0) ?_
   refine pX 61 ((does_len_own W_ W_ ty25).cast (v' := .int .i64 (List.length x37 : Int)) (by exact len_map _)) ?_
   refine pb 62 (.bool ((List.length x37 : Int) == 0)) ?_
   refine pm 63 (.bool ((List.length x37 : Int) == 0)) ?_
   refine al_bool (c := ((List.length x37 : Int) == 0)) 63 rfl (fun c43 => ?_) (fun c43 => ?_)
   ·have h := ifT c43 h
    refine pm 64 (.own 56 0) ?_
    refine pX 65 ((does_len_own W_ W_ ty25).cast (v' := .int .i64 (List.length x39 : Int)) (by exact len_map _)) ?_
    refine pm 66 (.sl 4 (List.map enc30 a0)) ?_
    refine pP 67 ((does_len_sl W_ ty22).castp (v' := .int .i64 (List.length a0 : Int)) (by exact len_map _)) ?_
    refine pb 68 (.int .i64 (IntKind.i64.wrap ((List.length a0 : Int) - 1))) ?_
    refine pb 69 (.bool ((List.length x39 : Int) == (IntKind.i64.wrap ((List.length a0 : Int) - 1)))) ?_
    refine pk 70 (.bool ((List.length x39 : Int) == (IntKind.i64.wrap ((List.length a0 : Int) - 1)))) ?_
    refine pm 71 (.bool ((List.length x39 : Int) == (IntKind.i64.wrap ((List.length a0 : Int) - 1)))) ?_
    refine al_bool (c := ((List.length x39 : Int) == (IntKind.i64.wrap ((List.length a0 : Int) - 1)))) 71 rfl (fun c44 => ?_) (fun c44 => ?_)
    ·have h := ifT c44 h
     refine pm 72 (.own 59 0) ?_
     refine pX 73 ((does_len_own W_ W_ ty25).cast (v' := .int .i64 (List.length x41 : Int)) (by exact len_map _)) ?_
     refine pm 74 (.sl 4 (List.map enc30 a0)) ?_
     refine pP 75 ((does_len_sl W_ ty22).castp (v' := .int .i64 (List.length a0 : Int)) (by exact len_map _)) ?_
     refine pb 76 (.bool ((List.length x41 : Int) == (List.length a0 : Int))) ?_
     refine pk 77 (.bool ((List.length x41 : Int) == (List.length a0 : Int))) ?_
     refine pa 4 (.bool ((List.length x41 : Int) == (List.length a0 : Int))) ?_
     refine en hK42 ?_
     refine aw_ret ?_
     obtain rfl := Option.some.inj h
     exact ret_ok1 W_ W_ R_ (.inr rfl) rfl
    ·have h := ifF c44 h
     refine pS 72 ?_
     refine pS 73 ?_
     refine pS 74 ?_
     refine pS 75 ?_
     refine pS 76 ?_
     refine pk 77 (.bool false) ?_
     refine pa 4 (.bool false) ?_
     refine en hK42 ?_
     refine aw_ret ?_
     obtain rfl := Option.some.inj h
     exact ret_ok1 W_ W_ R_ (.inr rfl) rfl
   ·have h := ifF c43 h
    refine pS 64 ?_
    refine pS 65 ?_
    refine pS 66 ?_
    refine pS 67 ?_
    refine pS 68 ?_
    refine pS 69 ?_
    refine pk 70 (.bool false) ?_
    refine pm 71 (.bool false) ?_
    refine pS 72 ?_
    refine pS 73 ?_
    refine pS 74 ?_
    refine pS 75 ?_
    refine pS 76 ?_
    refine pk 77 (.bool false) ?_
    refine pa 4 (.bool false) ?_
    refine en hK42 ?_
    refine aw_ret ?_
    obtain rfl := Option.some.inj h
    exact ret_ok1 W_ W_ R_ (.inr rfl) rfl
end Go.Proofs.Ytejimiedoibkcaa.Ab
