/- Chapter 20: more room, more time. -/
import Derived.Test.YtejimiedoibkcaaXRNone
import Derived.Test.YtejimiedoibkcaaProg
namespace Go.Proofs.Ytejimiedoibkcaa.Ab
open Go Go.RowKit
set_option linter.unusedVariables false
set_option linter.unusedSimpArgs false
set_option maxRecDepth 100000
set_option maxHeartbeats 8000000

def gleaninglaw20_RetireMore_l4 (a0 : List Block) (v14_2 : Int) (v15_4 : Int) : Option (Int ⊕ (Int ⊕ (Unit ⊕ Bool))) :=
 if (decide (v15_4 < v14_2)) = true then (gd (0 ≤ v15_4) (Option.bind (a0[(Int.toNat v15_4)]?) (fun (x68 : Block) => gd (0 ≤ v14_2) (Option.bind (a0[(Int.toNat v14_2)]?) (fun (x70 : Block) => if (x68.Number == x70.Number) = true then (some (Sum.inr (Sum.inr (Sum.inr true)))) else (some (Sum.inl (IntKind.i64.wrap (v15_4 + 1))))))))) else (some (Sum.inr (Sum.inl (IntKind.i64.wrap (v14_2 + 1)))))
def gleaninglaw20_RetireMore_k3 (a0 : List Block) (v14_2 : Int) : Option (Int ⊕ (Unit ⊕ Bool)) :=
 loopN (fun (s : Int) => gleaninglaw20_RetireMore_l4 a0 v14_2 s) Fu 0
def gleaninglaw20_RetireMore_l2 (a0 : List Block) (v14_2 : Int) : Option (Int ⊕ (Unit ⊕ Bool)) :=
 if (decide (v14_2 < (List.length a0 : Int))) = true then (Option.bind (gd (0 ≤ v14_2) (Option.bind (a0[(Int.toNat v14_2)]?) (fun (x45 : Block) => if (decide (x45.Born < 0)) = true then (some (Sum.inr (Sum.inr (Sum.inr true)))) else (gd (0 ≤ v14_2) (Option.bind (a0[(Int.toNat v14_2)]?) (fun (x49 : Block) => if (decide ((1099511627776 : Int) < x49.Born)) = true then (some (Sum.inr (Sum.inr (Sum.inr true)))) else (if (decide ((0 : Int) < v14_2)) = true then (gd (0 ≤ v14_2) (Option.bind (a0[(Int.toNat v14_2)]?) (fun (x54 : Block) => gd (0 ≤ (IntKind.i64.wrap (v14_2 - 1))) (Option.bind (a0[(Int.toNat (IntKind.i64.wrap (v14_2 - 1)))]?) (fun (x56 : Block) => if (decide (x54.Born < x56.Born)) = true then (some (Sum.inr (Sum.inr (Sum.inr true)))) else (some (Sum.inl ()))))))) else (some (Sum.inl ()))))))))) (Sum.elim (fun (s : Unit) => gleaninglaw20_RetireMore_k3 a0 v14_2) some)) else (some (Sum.inr (Sum.inl ())))
def gleaninglaw20_RetireMore_l7 (x74 : List Int) (x76 : List Int) (v18_6 : Int) (v19_7 : Bool) (v20_7 : Int) : Option ((Bool × Int) ⊕ (Int ⊕ (Unit ⊕ Bool))) :=
 if (decide (v20_7 < (List.length x74 : Int))) = true then (if v19_7 = true then (some (Sum.inl (true, (IntKind.i64.wrap (v20_7 + 1))))) else (gd (0 ≤ v20_7) (Option.bind (x74[(Int.toNat v20_7)]?) (fun (x97 : Int) => gd (0 ≤ v18_6) (Option.bind (x76[(Int.toNat v18_6)]?) (fun (x99 : Int) => some (Sum.inl ((x97 == x99), (IntKind.i64.wrap (v20_7 + 1)))))))))) else (Option.bind (if (!v19_7) = true then (some (Sum.inr (Sum.inr false))) else (some (Sum.inl (IntKind.i64.wrap (v18_6 + 1))))) (fun p => some (Sum.inr p)))
def gleaninglaw20_RetireMore_l6 (x74 : List Int) (x76 : List Int) (v18_6 : Int) : Option (Int ⊕ (Unit ⊕ Bool)) :=
 if (decide (v18_6 < (List.length x76 : Int))) = true then (loopN (fun (s : Bool × Int) => gleaninglaw20_RetireMore_l7 x74 x76 v18_6 s.1 s.2) Fu (false, 0)) else (some (Sum.inr (Sum.inl ())))
def gleaninglaw20_RetireMore_k5 (x74 : List Int) (x76 : List Int) : Option Bool :=
 some (decide ((List.length x76 : Int) ≤ (List.length x74 : Int)))
def gleaninglaw20_RetireMore_k1 (a0 : List Block) (a1 : Int) (a2 : Int) (a3 : Int) (a4 : Int) (a5 : Int) : Option Bool :=
 Option.bind (retire_Choose a0 a1 a2 a3) (fun (x74 : List Int) => Option.bind (retire_Choose a0 a1 (IntKind.i64.wrap (a2 + a4)) (IntKind.i64.wrap (a3 + a5))) (fun (x76 : List Int) => Option.bind (loopN (fun (s : Int) => gleaninglaw20_RetireMore_l6 x74 x76 s) Fu 0) (Sum.elim (fun (s : Unit) => gleaninglaw20_RetireMore_k5 x74 x76) some)))
def gleaninglaw20_RetireMore_k0 (a0 : List Block) (a1 : Int) (a2 : Int) (a3 : Int) (a4 : Int) (a5 : Int) : Option Bool :=
 Option.bind (loopN (fun (s : Int) => gleaninglaw20_RetireMore_l2 a0 s) Fu 0) (Sum.elim (fun (s : Unit) => gleaninglaw20_RetireMore_k1 a0 a1 a2 a3 a4 a5) some)
def gleaninglaw20_RetireMore (a0 : List Block) (a1 : Int) (a2 : Int) (a3 : Int) (a4 : Int) (a5 : Int) : Option Bool :=
 Option.bind (gleaninglaw20_alive) (fun (x3 : Bool) => Option.bind (if (!x3) = true then (some (Sum.inr x3)) else (Option.bind (gleaninglaw19_Few a0) (fun (x9 : Bool) => if (!x9) = true then (some (Sum.inr x3)) else (if (decide (a1 < 0)) = true then (some (Sum.inr x3)) else (if (decide ((1099511627776 : Int) < a1)) = true then (some (Sum.inr x3)) else (if (decide (a2 < 0)) = true then (some (Sum.inr x3)) else (if (decide ((1073741824 : Int) < a2)) = true then (some (Sum.inr x3)) else (if (decide (a3 < 0)) = true then (some (Sum.inr x3)) else (if (decide ((1073741824 : Int) < a3)) = true then (some (Sum.inr x3)) else (if (decide (a4 < 0)) = true then (some (Sum.inr x3)) else (if (decide ((1073741824 : Int) < a4)) = true then (some (Sum.inr x3)) else (if (decide (a5 < 0)) = true then (some (Sum.inr x3)) else (if (decide ((1073741824 : Int) < a5)) = true then (some (Sum.inr x3)) else (some (Sum.inl ()))))))))))))))) (Sum.elim (fun (s : Unit) => gleaninglaw20_RetireMore_k0 a0 a1 a2 a3 a4 a5) some))
theorem gleaninglaw20_RetireMore_ok (a0 : List Block) (a1 : Int) (a2 : Int) (a3 : Int) (a4 : Int) (a5 : Int) {r : Bool} (h : gleaninglaw20_RetireMore a0 a1 a2 a3 a4 a5 = some r) : Ok Try.prog 6 [.sl 4 (List.map enc30 a0), .int .i64 a1, .int .i64 a2, .int .i64 a3, .int .i64 a4, .int .i64 a5] [] [] (.bool r) [] [] := by
 unfold gleaninglaw20_RetireMore at h
 refine ok_of_code Try.func6 rfl (by show (6 : Nat) ≤ _; decide) (Nat.le_refl _) fun X => ?_
 refine sr fun K1 hK1 => ?_
 refine pa 12 (.bool false) ?_
 refine en hK1 ?_
 refine sr fun K2 hK2 => ?_
 obtain ⟨x3, hx3, h⟩ := bnd_some h
 refine pD 21 (do_call0 21 false (gleaninglaw20_alive_ok hx3) rfl ent7 rfl rfl) ?_
 refine pa 13 (.bool x3) ?_
 refine en hK2 ?_
 obtain ⟨q4, h, hk5⟩ := bnd_some h
 refine aw_cut (fun s => gleaninglaw20_RetireMore_k0 a0 a1 a2 a3 a4 a5 = some r ∧ s = lit [(0, .sl 4 (List.map enc30 a0)), (1, .int .i64 a1), (2, .int .i64 a2), (3, .int .i64 a3), (4, .int .i64 a4), (5, .int .i64 a5)] [] [] X) ?_ ?_
 ·skip
  refine sr fun K6 hK6 => ?_
  refine pm 22 (.bool x3) ?_
  refine pP 23 (does_un (v := .bool (!x3)) W_ rfl) ?_
  refine pm 24 (.bool (!x3)) ?_
  refine al_bool (c := (!x3)) 24 rfl (fun c7 => ?_) (fun c7 => ?_)
  ·have h := ifT c7 h
   refine pS 25 ?_
   refine pS 26 ?_
   refine pS 27 ?_
   refine pk 28 (.bool true) ?_
   refine pm 29 (.bool true) ?_
   refine pS 30 ?_
   refine al_reb (reb_lit [(0, .sl 4 (List.map enc30 a0)), (1, .int .i64 a1), (2, .int .i64 a2), (3, .int .i64 a3), (4, .int .i64 a4), (5, .int .i64 a5), (13, .bool x3), (29, .bool true), (30, .skip)] [] [] [] (ec (ec (ec (ec (ec (ec (ec (ec (ec envOk_nil))))))))) objOk_nil (nodup_b rfl) (nodup_b rfl) rfl rfl) ?_
   refine pS 31 ?_
   refine pk 32 (.bool true) ?_
   refine pm 33 (.bool true) ?_
   refine pS 34 ?_
   refine pS 35 ?_
   refine pk 36 (.bool true) ?_
   refine pm 37 (.bool true) ?_
   refine pS 38 ?_
   refine pS 39 ?_
   refine pk 40 (.bool true) ?_
   refine pm 41 (.bool true) ?_
   refine pS 42 ?_
   refine al_reb (reb_lit [(0, .sl 4 (List.map enc30 a0)), (1, .int .i64 a1), (2, .int .i64 a2), (3, .int .i64 a3), (4, .int .i64 a4), (5, .int .i64 a5), (13, .bool x3), (41, .bool true), (42, .skip)] [] [] [] (ec (ec (ec (ec (ec (ec (ec (ec (ec envOk_nil))))))))) objOk_nil (nodup_b rfl) (nodup_b rfl) rfl rfl) ?_
   refine pS 43 ?_
   refine pk 44 (.bool true) ?_
   refine pm 45 (.bool true) ?_
   refine pS 46 ?_
   refine pS 47 ?_
   refine pk 48 (.bool true) ?_
   refine pm 49 (.bool true) ?_
   refine pS 50 ?_
   refine pS 51 ?_
   refine pk 52 (.bool true) ?_
   refine pm 53 (.bool true) ?_
   refine pS 54 ?_
   refine al_reb (reb_lit [(0, .sl 4 (List.map enc30 a0)), (1, .int .i64 a1), (2, .int .i64 a2), (3, .int .i64 a3), (4, .int .i64 a4), (5, .int .i64 a5), (13, .bool x3), (53, .bool true), (54, .skip)] [] [] [] (ec (ec (ec (ec (ec (ec (ec (ec (ec envOk_nil))))))))) objOk_nil (nodup_b rfl) (nodup_b rfl) rfl rfl) ?_
   refine pS 55 ?_
   refine pk 56 (.bool true) ?_
   refine pm 57 (.bool true) ?_
   refine pS 58 ?_
   refine pS 59 ?_
   refine pk 60 (.bool true) ?_
   refine pm 61 (.bool true) ?_
   refine pS 62 ?_
   refine pS 63 ?_
   refine pk 64 (.bool true) ?_
   refine pm 65 (.bool true) ?_
   refine pS 66 ?_
   refine al_reb (reb_lit [(0, .sl 4 (List.map enc30 a0)), (1, .int .i64 a1), (2, .int .i64 a2), (3, .int .i64 a3), (4, .int .i64 a4), (5, .int .i64 a5), (13, .bool x3), (65, .bool true), (66, .skip)] [] [] [] (ec (ec (ec (ec (ec (ec (ec (ec (ec envOk_nil))))))))) objOk_nil (nodup_b rfl) (nodup_b rfl) rfl rfl) ?_
   refine pS 67 ?_
   refine pk 68 (.bool true) ?_
   refine en hK6 ?_
   refine aw_cond_t D_ rfl ?_
   refine sr fun K8 hK8 => ?_
   refine pm 69 (.bool x3) ?_
   refine pa 12 (.bool x3) ?_
   refine en hK8 ?_
   refine aw_ret ?_
   have h := leafR h hk5
   obtain rfl := Option.some.inj h
   exact ret_ok1 W_ W_ R_ (.inr rfl) rfl
  ·have h := ifF c7 h
   refine pm 25 (.sl 4 (List.map enc30 a0)) ?_
   obtain ⟨x9, hx9, h⟩ := bnd_some h
   refine pD 26 ((do_call0 26 false (gleaninglaw19_Few_ok a0 hx9) rfl ent8 rfl rfl).fx (y := ⟨[], .bool x9, [], [26]⟩) rfl) ?_
   refine pP 27 (does_un (v := .bool (!x9)) W_ rfl) ?_
   refine pk 28 (.bool (!x9)) ?_
   refine pm 29 (.bool (!x9)) ?_
   refine al_bool (c := (!x9)) 29 rfl (fun c10 => ?_) (fun c10 => ?_)
   ·have h := ifT c10 h
    refine pS 30 ?_
    refine al_reb (reb_lit [(0, .sl 4 (List.map enc30 a0)), (1, .int .i64 a1), (2, .int .i64 a2), (3, .int .i64 a3), (4, .int .i64 a4), (5, .int .i64 a5), (13, .bool x3), (29, .bool true), (30, .skip)] [] [] [] (ec (ec (ec (ec (ec (ec (ec (ec (ec envOk_nil))))))))) objOk_nil (nodup_b rfl) (nodup_b rfl) rfl rfl) ?_
    refine pS 31 ?_
    refine pk 32 (.bool true) ?_
    refine pm 33 (.bool true) ?_
    refine pS 34 ?_
    refine pS 35 ?_
    refine pk 36 (.bool true) ?_
    refine pm 37 (.bool true) ?_
    refine pS 38 ?_
    refine pS 39 ?_
    refine pk 40 (.bool true) ?_
    refine pm 41 (.bool true) ?_
    refine pS 42 ?_
    refine al_reb (reb_lit [(0, .sl 4 (List.map enc30 a0)), (1, .int .i64 a1), (2, .int .i64 a2), (3, .int .i64 a3), (4, .int .i64 a4), (5, .int .i64 a5), (13, .bool x3), (41, .bool true), (42, .skip)] [] [] [] (ec (ec (ec (ec (ec (ec (ec (ec (ec envOk_nil))))))))) objOk_nil (nodup_b rfl) (nodup_b rfl) rfl rfl) ?_
    refine pS 43 ?_
    refine pk 44 (.bool true) ?_
    refine pm 45 (.bool true) ?_
    refine pS 46 ?_
    refine pS 47 ?_
    refine pk 48 (.bool true) ?_
    refine pm 49 (.bool true) ?_
    refine pS 50 ?_
    refine pS 51 ?_
    refine pk 52 (.bool true) ?_
    refine pm 53 (.bool true) ?_
    refine pS 54 ?_
    refine al_reb (reb_lit [(0, .sl 4 (List.map enc30 a0)), (1, .int .i64 a1), (2, .int .i64 a2), (3, .int .i64 a3), (4, .int .i64 a4), (5, .int .i64 a5), (13, .bool x3), (53, .bool true), (54, .skip)] [] [] [] (ec (ec (ec (ec (ec (ec (ec (ec (ec envOk_nil))))))))) objOk_nil (nodup_b rfl) (nodup_b rfl) rfl rfl) ?_
    refine pS 55 ?_
    refine pk 56 (.bool true) ?_
    refine pm 57 (.bool true) ?_
    refine pS 58 ?_
    refine pS 59 ?_
    refine pk 60 (.bool true) ?_
    refine pm 61 (.bool true) ?_
    refine pS 62 ?_
    refine pS 63 ?_
    refine pk 64 (.bool true) ?_
    refine pm 65 (.bool true) ?_
    refine pS 66 ?_
    refine al_reb (reb_lit [(0, .sl 4 (List.map enc30 a0)), (1, .int .i64 a1), (2, .int .i64 a2), (3, .int .i64 a3), (4, .int .i64 a4), (5, .int .i64 a5), (13, .bool x3), (65, .bool true), (66, .skip)] [] [] [] (ec (ec (ec (ec (ec (ec (ec (ec (ec envOk_nil))))))))) objOk_nil (nodup_b rfl) (nodup_b rfl) rfl rfl) ?_
    refine pS 67 ?_
    refine pk 68 (.bool true) ?_
    refine en hK6 ?_
    refine aw_cond_t D_ rfl ?_
    refine sr fun K11 hK11 => ?_
    refine pm 69 (.bool x3) ?_
    refine pa 12 (.bool x3) ?_
    refine en hK11 ?_
    refine aw_ret ?_
    have h := leafR h hk5
    obtain rfl := Option.some.inj h
    exact ret_ok1 W_ W_ R_ (.inr rfl) rfl
   ·have h := ifF c10 h
    refine pm 30 (.int .i64 a1) ?_
    refine al_reb (reb_lit [(0, .sl 4 (List.map enc30 a0)), (1, .int .i64 a1), (2, .int .i64 a2), (3, .int .i64 a3), (4, .int .i64 a4), (5, .int .i64 a5), (13, .bool x3), (29, .bool false), (30, .int .i64 a1)] [] [] [] (ec (ec (ec (ec (ec (ec (ec (ec (ec envOk_nil))))))))) objOk_nil (nodup_b rfl) (nodup_b rfl) rfl rfl) ?_
    refine pb 31 (.bool (decide (a1 < 0))) ?_
    refine pk 32 (.bool (decide (a1 < 0))) ?_
    refine pm 33 (.bool (decide (a1 < 0))) ?_
    refine al_bool (c := (decide (a1 < 0))) 33 rfl (fun c12 => ?_) (fun c12 => ?_)
    ·have h := ifT c12 h
     refine pS 34 ?_
     refine pS 35 ?_
     refine pk 36 (.bool true) ?_
     refine pm 37 (.bool true) ?_
     refine pS 38 ?_
     refine pS 39 ?_
     refine pk 40 (.bool true) ?_
     refine pm 41 (.bool true) ?_
     refine pS 42 ?_
     refine al_reb (reb_lit [(0, .sl 4 (List.map enc30 a0)), (1, .int .i64 a1), (2, .int .i64 a2), (3, .int .i64 a3), (4, .int .i64 a4), (5, .int .i64 a5), (13, .bool x3), (41, .bool true), (42, .skip)] [] [] [] (ec (ec (ec (ec (ec (ec (ec (ec (ec envOk_nil))))))))) objOk_nil (nodup_b rfl) (nodup_b rfl) rfl rfl) ?_
     refine pS 43 ?_
     refine pk 44 (.bool true) ?_
     refine pm 45 (.bool true) ?_
     refine pS 46 ?_
     refine pS 47 ?_
     refine pk 48 (.bool true) ?_
     refine pm 49 (.bool true) ?_
     refine pS 50 ?_
     refine pS 51 ?_
     refine pk 52 (.bool true) ?_
     refine pm 53 (.bool true) ?_
     refine pS 54 ?_
     refine al_reb (reb_lit [(0, .sl 4 (List.map enc30 a0)), (1, .int .i64 a1), (2, .int .i64 a2), (3, .int .i64 a3), (4, .int .i64 a4), (5, .int .i64 a5), (13, .bool x3), (53, .bool true), (54, .skip)] [] [] [] (ec (ec (ec (ec (ec (ec (ec (ec (ec envOk_nil))))))))) objOk_nil (nodup_b rfl) (nodup_b rfl) rfl rfl) ?_
     refine pS 55 ?_
     refine pk 56 (.bool true) ?_
     refine pm 57 (.bool true) ?_
     refine pS 58 ?_
     refine pS 59 ?_
     refine pk 60 (.bool true) ?_
     refine pm 61 (.bool true) ?_
     refine pS 62 ?_
     refine pS 63 ?_
     refine pk 64 (.bool true) ?_
     refine pm 65 (.bool true) ?_
     refine pS 66 ?_
     refine al_reb (reb_lit [(0, .sl 4 (List.map enc30 a0)), (1, .int .i64 a1), (2, .int .i64 a2), (3, .int .i64 a3), (4, .int .i64 a4), (5, .int .i64 a5), (13, .bool x3), (65, .bool true), (66, .skip)] [] [] [] (ec (ec (ec (ec (ec (ec (ec (ec (ec envOk_nil))))))))) objOk_nil (nodup_b rfl) (nodup_b rfl) rfl rfl) ?_
     refine pS 67 ?_
     refine pk 68 (.bool true) ?_
     refine en hK6 ?_
     refine aw_cond_t D_ rfl ?_
     refine sr fun K13 hK13 => ?_
     refine pm 69 (.bool x3) ?_
     refine pa 12 (.bool x3) ?_
     refine en hK13 ?_
     refine aw_ret ?_
     have h := leafR h hk5
     obtain rfl := Option.some.inj h
     exact ret_ok1 W_ W_ R_ (.inr rfl) rfl
    ·have h := ifF c12 h
     refine pm 34 (.int .i64 a1) ?_
     refine pb 35 (.bool (decide ((1099511627776 : Int) < a1))) ?_
     refine pk 36 (.bool (decide ((1099511627776 : Int) < a1))) ?_
     refine pm 37 (.bool (decide ((1099511627776 : Int) < a1))) ?_
     refine al_bool (c := (decide ((1099511627776 : Int) < a1))) 37 rfl (fun c14 => ?_) (fun c14 => ?_)
     ·have h := ifT c14 h
      refine pS 38 ?_
      refine pS 39 ?_
      refine pk 40 (.bool true) ?_
      refine pm 41 (.bool true) ?_
      refine pS 42 ?_
      refine al_reb (reb_lit [(0, .sl 4 (List.map enc30 a0)), (1, .int .i64 a1), (2, .int .i64 a2), (3, .int .i64 a3), (4, .int .i64 a4), (5, .int .i64 a5), (13, .bool x3), (41, .bool true), (42, .skip)] [] [] [] (ec (ec (ec (ec (ec (ec (ec (ec (ec envOk_nil))))))))) objOk_nil (nodup_b rfl) (nodup_b rfl) rfl rfl) ?_
      refine pS 43 ?_
      refine pk 44 (.bool true) ?_
      refine pm 45 (.bool true) ?_
      refine pS 46 ?_
      refine pS 47 ?_
      refine pk 48 (.bool true) ?_
      refine pm 49 (.bool true) ?_
      refine pS 50 ?_
      refine pS 51 ?_
      refine pk 52 (.bool true) ?_
      refine pm 53 (.bool true) ?_
      refine pS 54 ?_
      refine al_reb (reb_lit [(0, .sl 4 (List.map enc30 a0)), (1, .int .i64 a1), (2, .int .i64 a2), (3, .int .i64 a3), (4, .int .i64 a4), (5, .int .i64 a5), (13, .bool x3), (53, .bool true), (54, .skip)] [] [] [] (ec (ec (ec (ec (ec (ec (ec (ec (ec envOk_nil))))))))) objOk_nil (nodup_b rfl) (nodup_b rfl) rfl rfl) ?_
      refine pS 55 ?_
      refine pk 56 (.bool true) ?_
      refine pm 57 (.bool true) ?_
      refine pS 58 ?_
      refine pS 59 ?_
      refine pk 60 (.bool true) ?_
      refine pm 61 (.bool true) ?_
      refine pS 62 ?_
      refine pS 63 ?_
      refine pk 64 (.bool true) ?_
      refine pm 65 (.bool true) ?_
      refine pS 66 ?_
      refine al_reb (reb_lit [(0, .sl 4 (List.map enc30 a0)), (1, .int .i64 a1), (2, .int .i64 a2), (3, .int .i64 a3), (4, .int .i64 a4), (5, .int .i64 a5), (13, .bool x3), (65, .bool true), (66, .skip)] [] [] [] (ec (ec (ec (ec (ec (ec (ec (ec (ec envOk_nil))))))))) objOk_nil (nodup_b rfl) (nodup_b rfl) rfl rfl) ?_
      refine pS 67 ?_
      refine pk 68 (.bool true) ?_
      refine en hK6 ?_
      refine aw_cond_t D_ rfl ?_
      refine sr fun K15 hK15 => ?_
      refine pm 69 (.bool x3) ?_
      refine pa 12 (.bool x3) ?_
      refine en hK15 ?_
      refine aw_ret ?_
      have h := leafR h hk5
      obtain rfl := Option.some.inj h
      exact ret_ok1 W_ W_ R_ (.inr rfl) rfl
     ·have h := ifF c14 h
      refine pm 38 (.int .i64 a2) ?_
      refine pb 39 (.bool (decide (a2 < 0))) ?_
      refine pk 40 (.bool (decide (a2 < 0))) ?_
      refine pm 41 (.bool (decide (a2 < 0))) ?_
      refine al_bool (c := (decide (a2 < 0))) 41 rfl (fun c16 => ?_) (fun c16 => ?_)
      ·have h := ifT c16 h
       refine pS 42 ?_
       refine al_reb (reb_lit [(0, .sl 4 (List.map enc30 a0)), (1, .int .i64 a1), (2, .int .i64 a2), (3, .int .i64 a3), (4, .int .i64 a4), (5, .int .i64 a5), (13, .bool x3), (41, .bool true), (42, .skip)] [] [] [] (ec (ec (ec (ec (ec (ec (ec (ec (ec envOk_nil))))))))) objOk_nil (nodup_b rfl) (nodup_b rfl) rfl rfl) ?_
       refine pS 43 ?_
       refine pk 44 (.bool true) ?_
       refine pm 45 (.bool true) ?_
       refine pS 46 ?_
       refine pS 47 ?_
       refine pk 48 (.bool true) ?_
       refine pm 49 (.bool true) ?_
       refine pS 50 ?_
       refine pS 51 ?_
       refine pk 52 (.bool true) ?_
       refine pm 53 (.bool true) ?_
       refine pS 54 ?_
       refine al_reb (reb_lit [(0, .sl 4 (List.map enc30 a0)), (1, .int .i64 a1), (2, .int .i64 a2), (3, .int .i64 a3), (4, .int .i64 a4), (5, .int .i64 a5), (13, .bool x3), (53, .bool true), (54, .skip)] [] [] [] (ec (ec (ec (ec (ec (ec (ec (ec (ec envOk_nil))))))))) objOk_nil (nodup_b rfl) (nodup_b rfl) rfl rfl) ?_
       refine pS 55 ?_
       refine pk 56 (.bool true) ?_
       refine pm 57 (.bool true) ?_
       refine pS 58 ?_
       refine pS 59 ?_
       refine pk 60 (.bool true) ?_
       refine pm 61 (.bool true) ?_
       refine pS 62 ?_
       refine pS 63 ?_
       refine pk 64 (.bool true) ?_
       refine pm 65 (.bool true) ?_
       refine pS 66 ?_
       refine al_reb (reb_lit [(0, .sl 4 (List.map enc30 a0)), (1, .int .i64 a1), (2, .int .i64 a2), (3, .int .i64 a3), (4, .int .i64 a4), (5, .int .i64 a5), (13, .bool x3), (65, .bool true), (66, .skip)] [] [] [] (ec (ec (ec (ec (ec (ec (ec (ec (ec envOk_nil))))))))) objOk_nil (nodup_b rfl) (nodup_b rfl) rfl rfl) ?_
       refine pS 67 ?_
       refine pk 68 (.bool true) ?_
       refine en hK6 ?_
       refine aw_cond_t D_ rfl ?_
       refine sr fun K17 hK17 => ?_
       refine pm 69 (.bool x3) ?_
       refine pa 12 (.bool x3) ?_
       refine en hK17 ?_
       refine aw_ret ?_
       have h := leafR h hk5
       obtain rfl := Option.some.inj h
       exact ret_ok1 W_ W_ R_ (.inr rfl) rfl
      ·have h := ifF c16 h
       refine pm 42 (.int .i64 a2) ?_
       refine al_reb (reb_lit [(0, .sl 4 (List.map enc30 a0)), (1, .int .i64 a1), (2, .int .i64 a2), (3, .int .i64 a3), (4, .int .i64 a4), (5, .int .i64 a5), (13, .bool x3), (41, .bool false), (42, .int .i64 a2)] [] [] [] (ec (ec (ec (ec (ec (ec (ec (ec (ec envOk_nil))))))))) objOk_nil (nodup_b rfl) (nodup_b rfl) rfl rfl) ?_
       refine pb 43 (.bool (decide ((1073741824 : Int) < a2))) ?_
       refine pk 44 (.bool (decide ((1073741824 : Int) < a2))) ?_
       refine pm 45 (.bool (decide ((1073741824 : Int) < a2))) ?_
       refine al_bool (c := (decide ((1073741824 : Int) < a2))) 45 rfl (fun c18 => ?_) (fun c18 => ?_)
       ·have h := ifT c18 h
        refine pS 46 ?_
        refine pS 47 ?_
        refine pk 48 (.bool true) ?_
        refine pm 49 (.bool true) ?_
        refine pS 50 ?_
        refine pS 51 ?_
        refine pk 52 (.bool true) ?_
        refine pm 53 (.bool true) ?_
        refine pS 54 ?_
        refine al_reb (reb_lit [(0, .sl 4 (List.map enc30 a0)), (1, .int .i64 a1), (2, .int .i64 a2), (3, .int .i64 a3), (4, .int .i64 a4), (5, .int .i64 a5), (13, .bool x3), (53, .bool true), (54, .skip)] [] [] [] (ec (ec (ec (ec (ec (ec (ec (ec (ec envOk_nil))))))))) objOk_nil (nodup_b rfl) (nodup_b rfl) rfl rfl) ?_
        refine pS 55 ?_
        refine pk 56 (.bool true) ?_
        refine pm 57 (.bool true) ?_
        refine pS 58 ?_
        refine pS 59 ?_
        refine pk 60 (.bool true) ?_
        refine pm 61 (.bool true) ?_
        refine pS 62 ?_
        refine pS 63 ?_
        refine pk 64 (.bool true) ?_
        refine pm 65 (.bool true) ?_
        refine pS 66 ?_
        refine al_reb (reb_lit [(0, .sl 4 (List.map enc30 a0)), (1, .int .i64 a1), (2, .int .i64 a2), (3, .int .i64 a3), (4, .int .i64 a4), (5, .int .i64 a5), (13, .bool x3), (65, .bool true), (66, .skip)] [] [] [] (ec (ec (ec (ec (ec (ec (ec (ec (ec envOk_nil))))))))) objOk_nil (nodup_b rfl) (nodup_b rfl) rfl rfl) ?_
        refine pS 67 ?_
        refine pk 68 (.bool true) ?_
        refine en hK6 ?_
        refine aw_cond_t D_ rfl ?_
        refine sr fun K19 hK19 => ?_
        refine pm 69 (.bool x3) ?_
        refine pa 12 (.bool x3) ?_
        refine en hK19 ?_
        refine aw_ret ?_
        have h := leafR h hk5
        obtain rfl := Option.some.inj h
        exact ret_ok1 W_ W_ R_ (.inr rfl) rfl
       ·have h := ifF c18 h
        refine pm 46 (.int .i64 a3) ?_
        refine pb 47 (.bool (decide (a3 < 0))) ?_
        refine pk 48 (.bool (decide (a3 < 0))) ?_
        refine pm 49 (.bool (decide (a3 < 0))) ?_
        refine al_bool (c := (decide (a3 < 0))) 49 rfl (fun c20 => ?_) (fun c20 => ?_)
        ·have h := ifT c20 h
         refine pS 50 ?_
         refine pS 51 ?_
         refine pk 52 (.bool true) ?_
         refine pm 53 (.bool true) ?_
         refine pS 54 ?_
         refine al_reb (reb_lit [(0, .sl 4 (List.map enc30 a0)), (1, .int .i64 a1), (2, .int .i64 a2), (3, .int .i64 a3), (4, .int .i64 a4), (5, .int .i64 a5), (13, .bool x3), (53, .bool true), (54, .skip)] [] [] [] (ec (ec (ec (ec (ec (ec (ec (ec (ec envOk_nil))))))))) objOk_nil (nodup_b rfl) (nodup_b rfl) rfl rfl) ?_
         refine pS 55 ?_
         refine pk 56 (.bool true) ?_
         refine pm 57 (.bool true) ?_
         refine pS 58 ?_
         refine pS 59 ?_
         refine pk 60 (.bool true) ?_
         refine pm 61 (.bool true) ?_
         refine pS 62 ?_
         refine pS 63 ?_
         refine pk 64 (.bool true) ?_
         refine pm 65 (.bool true) ?_
         refine pS 66 ?_
         refine al_reb (reb_lit [(0, .sl 4 (List.map enc30 a0)), (1, .int .i64 a1), (2, .int .i64 a2), (3, .int .i64 a3), (4, .int .i64 a4), (5, .int .i64 a5), (13, .bool x3), (65, .bool true), (66, .skip)] [] [] [] (ec (ec (ec (ec (ec (ec (ec (ec (ec envOk_nil))))))))) objOk_nil (nodup_b rfl) (nodup_b rfl) rfl rfl) ?_
         refine pS 67 ?_
         refine pk 68 (.bool true) ?_
         refine en hK6 ?_
         refine aw_cond_t D_ rfl ?_
         refine sr fun K21 hK21 => ?_
         refine pm 69 (.bool x3) ?_
         refine pa 12 (.bool x3) ?_
         refine en hK21 ?_
         refine aw_ret ?_
         have h := leafR h hk5
         obtain rfl := Option.some.inj h
         exact ret_ok1 W_ W_ R_ (.inr rfl) rfl
        ·have h := ifF c20 h
         refine pm 50 (.int .i64 a3) ?_
         refine pb 51 (.bool (decide ((1073741824 : Int) < a3))) ?_
         refine pk 52 (.bool (decide ((1073741824 : Int) < a3))) ?_
         refine pm 53 (.bool (decide ((1073741824 : Int) < a3))) ?_
         refine al_bool (c := (decide ((1073741824 : Int) < a3))) 53 rfl (fun c22 => ?_) (fun c22 => ?_)
         ·have h := ifT c22 h
          refine pS 54 ?_
          refine al_reb (reb_lit [(0, .sl 4 (List.map enc30 a0)), (1, .int .i64 a1), (2, .int .i64 a2), (3, .int .i64 a3), (4, .int .i64 a4), (5, .int .i64 a5), (13, .bool x3), (53, .bool true), (54, .skip)] [] [] [] (ec (ec (ec (ec (ec (ec (ec (ec (ec envOk_nil))))))))) objOk_nil (nodup_b rfl) (nodup_b rfl) rfl rfl) ?_
          refine pS 55 ?_
          refine pk 56 (.bool true) ?_
          refine pm 57 (.bool true) ?_
          refine pS 58 ?_
          refine pS 59 ?_
          refine pk 60 (.bool true) ?_
          refine pm 61 (.bool true) ?_
          refine pS 62 ?_
          refine pS 63 ?_
          refine pk 64 (.bool true) ?_
          refine pm 65 (.bool true) ?_
          refine pS 66 ?_
          refine al_reb (reb_lit [(0, .sl 4 (List.map enc30 a0)), (1, .int .i64 a1), (2, .int .i64 a2), (3, .int .i64 a3), (4, .int .i64 a4), (5, .int .i64 a5), (13, .bool x3), (65, .bool true), (66, .skip)] [] [] [] (ec (ec (ec (ec (ec (ec (ec (ec (ec envOk_nil))))))))) objOk_nil (nodup_b rfl) (nodup_b rfl) rfl rfl) ?_
          refine pS 67 ?_
          refine pk 68 (.bool true) ?_
          refine en hK6 ?_
          refine aw_cond_t D_ rfl ?_
          refine sr fun K23 hK23 => ?_
          refine pm 69 (.bool x3) ?_
          refine pa 12 (.bool x3) ?_
          refine en hK23 ?_
          refine aw_ret ?_
          have h := leafR h hk5
          obtain rfl := Option.some.inj h
          exact ret_ok1 W_ W_ R_ (.inr rfl) rfl
         ·have h := ifF c22 h
          refine pm 54 (.int .i64 a4) ?_
          refine al_reb (reb_lit [(0, .sl 4 (List.map enc30 a0)), (1, .int .i64 a1), (2, .int .i64 a2), (3, .int .i64 a3), (4, .int .i64 a4), (5, .int .i64 a5), (13, .bool x3), (53, .bool false), (54, .int .i64 a4)] [] [] [] (ec (ec (ec (ec (ec (ec (ec (ec (ec envOk_nil))))))))) objOk_nil (nodup_b rfl) (nodup_b rfl) rfl rfl) ?_
          refine pb 55 (.bool (decide (a4 < 0))) ?_
          refine pk 56 (.bool (decide (a4 < 0))) ?_
          refine pm 57 (.bool (decide (a4 < 0))) ?_
          refine al_bool (c := (decide (a4 < 0))) 57 rfl (fun c24 => ?_) (fun c24 => ?_)
          ·have h := ifT c24 h
           refine pS 58 ?_
           refine pS 59 ?_
           refine pk 60 (.bool true) ?_
           refine pm 61 (.bool true) ?_
           refine pS 62 ?_
           refine pS 63 ?_
           refine pk 64 (.bool true) ?_
           refine pm 65 (.bool true) ?_
           refine pS 66 ?_
           refine al_reb (reb_lit [(0, .sl 4 (List.map enc30 a0)), (1, .int .i64 a1), (2, .int .i64 a2), (3, .int .i64 a3), (4, .int .i64 a4), (5, .int .i64 a5), (13, .bool x3), (65, .bool true), (66, .skip)] [] [] [] (ec (ec (ec (ec (ec (ec (ec (ec (ec envOk_nil))))))))) objOk_nil (nodup_b rfl) (nodup_b rfl) rfl rfl) ?_
           refine pS 67 ?_
           refine pk 68 (.bool true) ?_
           refine en hK6 ?_
           refine aw_cond_t D_ rfl ?_
           refine sr fun K25 hK25 => ?_
           refine pm 69 (.bool x3) ?_
           refine pa 12 (.bool x3) ?_
           refine en hK25 ?_
           refine aw_ret ?_
           have h := leafR h hk5
           obtain rfl := Option.some.inj h
           exact ret_ok1 W_ W_ R_ (.inr rfl) rfl
          ·have h := ifF c24 h
           refine pm 58 (.int .i64 a4) ?_
           refine pb 59 (.bool (decide ((1073741824 : Int) < a4))) ?_
           refine pk 60 (.bool (decide ((1073741824 : Int) < a4))) ?_
           refine pm 61 (.bool (decide ((1073741824 : Int) < a4))) ?_
           refine al_bool (c := (decide ((1073741824 : Int) < a4))) 61 rfl (fun c26 => ?_) (fun c26 => ?_)
           ·have h := ifT c26 h
            refine pS 62 ?_
            refine pS 63 ?_
            refine pk 64 (.bool true) ?_
            refine pm 65 (.bool true) ?_
            refine pS 66 ?_
            refine al_reb (reb_lit [(0, .sl 4 (List.map enc30 a0)), (1, .int .i64 a1), (2, .int .i64 a2), (3, .int .i64 a3), (4, .int .i64 a4), (5, .int .i64 a5), (13, .bool x3), (65, .bool true), (66, .skip)] [] [] [] (ec (ec (ec (ec (ec (ec (ec (ec (ec envOk_nil))))))))) objOk_nil (nodup_b rfl) (nodup_b rfl) rfl rfl) ?_
            refine pS 67 ?_
            refine pk 68 (.bool true) ?_
            refine en hK6 ?_
            refine aw_cond_t D_ rfl ?_
            refine sr fun K27 hK27 => ?_
            refine pm 69 (.bool x3) ?_
            refine pa 12 (.bool x3) ?_
            refine en hK27 ?_
            refine aw_ret ?_
            have h := leafR h hk5
            obtain rfl := Option.some.inj h
            exact ret_ok1 W_ W_ R_ (.inr rfl) rfl
           ·have h := ifF c26 h
            refine pm 62 (.int .i64 a5) ?_
            refine pb 63 (.bool (decide (a5 < 0))) ?_
            refine pk 64 (.bool (decide (a5 < 0))) ?_
            refine pm 65 (.bool (decide (a5 < 0))) ?_
            refine al_bool (c := (decide (a5 < 0))) 65 rfl (fun c28 => ?_) (fun c28 => ?_)
            ·have h := ifT c28 h
             refine pS 66 ?_
             refine al_reb (reb_lit [(0, .sl 4 (List.map enc30 a0)), (1, .int .i64 a1), (2, .int .i64 a2), (3, .int .i64 a3), (4, .int .i64 a4), (5, .int .i64 a5), (13, .bool x3), (65, .bool true), (66, .skip)] [] [] [] (ec (ec (ec (ec (ec (ec (ec (ec (ec envOk_nil))))))))) objOk_nil (nodup_b rfl) (nodup_b rfl) rfl rfl) ?_
             refine pS 67 ?_
             refine pk 68 (.bool true) ?_
             refine en hK6 ?_
             refine aw_cond_t D_ rfl ?_
             refine sr fun K29 hK29 => ?_
             refine pm 69 (.bool x3) ?_
             refine pa 12 (.bool x3) ?_
             refine en hK29 ?_
             refine aw_ret ?_
             have h := leafR h hk5
             obtain rfl := Option.some.inj h
             exact ret_ok1 W_ W_ R_ (.inr rfl) rfl
            ·have h := ifF c28 h
             refine pm 66 (.int .i64 a5) ?_
             refine al_reb (reb_lit [(0, .sl 4 (List.map enc30 a0)), (1, .int .i64 a1), (2, .int .i64 a2), (3, .int .i64 a3), (4, .int .i64 a4), (5, .int .i64 a5), (13, .bool x3), (65, .bool false), (66, .int .i64 a5)] [] [] [] (ec (ec (ec (ec (ec (ec (ec (ec (ec envOk_nil))))))))) objOk_nil (nodup_b rfl) (nodup_b rfl) rfl rfl) ?_
             refine pb 67 (.bool (decide ((1073741824 : Int) < a5))) ?_
             refine pk 68 (.bool (decide ((1073741824 : Int) < a5))) ?_
             refine en hK6 ?_
             refine aw_bool (b := (decide ((1073741824 : Int) < a5))) 68 rfl (fun c30 => ?_) (fun c30 => ?_)
             ·have h := ifT c30 h
              refine aw_cond_t D_ rfl ?_
              refine sr fun K31 hK31 => ?_
              refine pm 69 (.bool x3) ?_
              refine pa 12 (.bool x3) ?_
              refine en hK31 ?_
              refine aw_ret ?_
              have h := leafR h hk5
              obtain rfl := Option.some.inj h
              exact ret_ok1 W_ W_ R_ (.inr rfl) rfl
             ·have h := ifF c30 h
              refine aw_cond_f D_ rfl ?_
              refine aw_skip ?_
              have h := leafL h hk5
              exact ⟨_, reb_lit [(0, .sl 4 (List.map enc30 a0)), (1, .int .i64 a1), (2, .int .i64 a2), (3, .int .i64 a3), (4, .int .i64 a4), (5, .int .i64 a5)] [] [] [] (ec (ec (ec (ec (ec (ec envOk_nil)))))) objOk_nil (nodup_b rfl) (nodup_b rfl) rfl rfl, h, rfl⟩
 ·rintro s ⟨h, rfl⟩
  unfold gleaninglaw20_RetireMore_k0 at h
  obtain ⟨q32, h, hk33⟩ := bnd_some h
  refine aw_cut (fun s => gleaninglaw20_RetireMore_k1 a0 a1 a2 a3 a4 a5 = some r ∧ s = lit [(0, .sl 4 (List.map enc30 a0)), (1, .int .i64 a1), (2, .int .i64 a2), (3, .int .i64 a3), (4, .int .i64 a4), (5, .int .i64 a5)] [] [] X) ?_ ?_
  ·skip
   refine sr fun K34 hK34 => ?_
   refine pa 14 (.int .i64 0) ?_
   refine en hK34 ?_
   refine aw_block ?_
   refine aw_loop' (fun m s => ∃ (v14_2 : Int), loopN (fun (s : Int) => gleaninglaw20_RetireMore_l2 a0 s) m v14_2 = some q32 ∧ s = lit [(0, .sl 4 (List.map enc30 a0)), (1, .int .i64 a1), (2, .int .i64 a2), (3, .int .i64 a3), (4, .int .i64 a4), (5, .int .i64 a5), (14, .int .i64 v14_2)] [] [] X) Fu
    ⟨_, reb_lit [(0, .sl 4 (List.map enc30 a0)), (1, .int .i64 a1), (2, .int .i64 a2), (3, .int .i64 a3), (4, .int .i64 a4), (5, .int .i64 a5), (14, .int .i64 (0))] [] [] [] (ec (ec (ec (ec (ec (ec (ec envOk_nil))))))) objOk_nil (nodup_b rfl) (nodup_b rfl) rfl rfl, 0, h, rfl⟩ ?_
   rintro m s ⟨v14_2, h, rfl⟩
   obtain ⟨m2, q35, rfl, h, hq36⟩ := loop_some h
   replace h : gleaninglaw20_RetireMore_l2 a0 v14_2 = some q35 := h
   unfold gleaninglaw20_RetireMore_l2 at h
   refine aw_seq_k (fun K37 hK37 => ?_)
   refine sr fun K38 hK38 => ?_
   refine pm 70 (.int .i64 v14_2) ?_
   refine pm 71 (.sl 4 (List.map enc30 a0)) ?_
   refine pP 72 ((does_len_sl W_ ty22).castp (v' := .int .i64 (List.length a0 : Int)) (by exact len_map _)) ?_
   refine pb 73 (.bool (decide (v14_2 < (List.length a0 : Int)))) ?_
   refine en hK38 ?_
   refine aw_bool (b := (decide (v14_2 < (List.length a0 : Int)))) 73 rfl (fun c39 => ?_) (fun c39 => ?_)
   ·have h := ifT c39 h
    refine aw_cond_t D_ rfl ?_
    refine aw_skip ?_
    refine hK37 _ ?_
    refine aw_seq_k (fun K40 hK40 => ?_)
    refine aw_block ?_
    obtain ⟨q41, h, hk42⟩ := bnd_some h
    refine aw_cut (fun s => gleaninglaw20_RetireMore_k3 a0 v14_2 = some q35 ∧ s = lit [(0, .sl 4 (List.map enc30 a0)), (1, .int .i64 a1), (2, .int .i64 a2), (3, .int .i64 a3), (4, .int .i64 a4), (5, .int .i64 a5), (14, .int .i64 v14_2)] [] [] X) ?_ ?_
    ·skip
     refine aw_seq_k (fun K43 hK43 => ?_)
     refine aw_regd (by kernel_rfl) (by decide +kernel) ?_
     refine qP 76 (does_move (v := .sl 4 (List.map enc30 a0)) R_) ?_
     refine qP 77 (does_move (v := .int .i64 v14_2) R_) ?_
     obtain ⟨g44, h⟩ := gd_some h
     obtain ⟨x45, hx45, h⟩ := bnd_some h
     refine qP 78 (does_indexAddr_sl (el := .agg [.int .i64 x45.Number, .int .i64 x45.Born, .int .i64 x45.Tier, .sl 6 (List.map enc46 x45.Episodes)]) W_ W_ ty22 ty31 g44 (by exact map_get hx45)) ?_
     refine qP 79 (does_fieldAddr (q := .rptr [.int .i64 x45.Born, .int .i64 x45.Tier, .sl 6 (List.map enc46 x45.Episodes)]) W_ ty31 rfl ty3 D_ R_) ?_
     refine qR 80 (does_load (v := .int .i64 x45.Born) W_ W_ ty3 R_) ?_
     refine qP 81 (does_bin (v := .bool (decide (x45.Born < 0))) W_ W_ rfl) ?_
     refine qP 82 (does_move (v := .bool (decide (x45.Born < 0))) R_) ?_
     refine ao_bool (c := (decide (x45.Born < 0))) 82 rfl (fun c46 => ?_) (fun c46 => ?_)
     ·have h := ifT c46 h
      refine qS 83 ?_
      refine qS 84 ?_
      refine qS 85 ?_
      refine qS 86 ?_
      refine qS 87 ?_
      refine qS 88 ?_
      refine qP 89 (does_pick (v := .bool true) W_ R_) ?_
      refine qP 90 (does_move (v := .bool true) R_) ?_
      refine qS 91 ?_
      refine qS 92 ?_
      refine qS 93 ?_
      refine qS 94 ?_
      refine qS 95 ?_
      refine qS 96 ?_
      refine qS 97 ?_
      refine qS 98 ?_
      refine qS 99 ?_
      refine qS 100 ?_
      refine qS 101 ?_
      refine qS 102 ?_
      refine qS 103 ?_
      refine qS 104 ?_
      refine qS 105 ?_
      refine qS 106 ?_
      refine qP 107 (does_pick (v := .bool true) W_ R_) ?_
      refine ao_nil_d (by kernel_rfl) ?_
      refine hK43 _ ?_
      refine aw_cond_t D_ rfl ?_
      refine sr fun K47 hK47 => ?_
      refine pa 12 (.bool true) ?_
      refine en hK47 ?_
      refine aw_ret ?_
      have h := leafR h hk42
      have h := leafR h hq36
      have h := leafR h hk33
      obtain rfl := Option.some.inj h
      exact ret_ok1 W_ W_ R_ (.inr rfl) rfl
     ·have h := ifF c46 h
      refine qP 83 (does_move (v := .sl 4 (List.map enc30 a0)) R_) ?_
      refine qP 84 (does_move (v := .int .i64 v14_2) R_) ?_
      obtain ⟨g48, h⟩ := gd_some h
      obtain ⟨x49, hx49, h⟩ := bnd_some h
      refine qP 85 (does_indexAddr_sl (el := .agg [.int .i64 x49.Number, .int .i64 x49.Born, .int .i64 x49.Tier, .sl 6 (List.map enc46 x49.Episodes)]) W_ W_ ty22 ty31 g48 (by exact map_get hx49)) ?_
      refine qP 86 (does_fieldAddr (q := .rptr [.int .i64 x49.Born, .int .i64 x49.Tier, .sl 6 (List.map enc46 x49.Episodes)]) W_ ty31 rfl ty3 D_ R_) ?_
      refine qR 87 (does_load (v := .int .i64 x49.Born) W_ W_ ty3 R_) ?_
      refine qP 88 (does_bin (v := .bool (decide ((1099511627776 : Int) < x49.Born))) W_ W_ rfl) ?_
      refine qP 89 (does_pick (v := .bool (decide ((1099511627776 : Int) < x49.Born))) W_ R_) ?_
      refine qP 90 (does_move (v := .bool (decide ((1099511627776 : Int) < x49.Born))) R_) ?_
      refine ao_bool (c := (decide ((1099511627776 : Int) < x49.Born))) 90 rfl (fun c50 => ?_) (fun c50 => ?_)
      ·have h := ifT c50 h
       refine qS 91 ?_
       refine qS 92 ?_
       refine qS 93 ?_
       refine qS 94 ?_
       refine qS 95 ?_
       refine qS 96 ?_
       refine qS 97 ?_
       refine qS 98 ?_
       refine qS 99 ?_
       refine qS 100 ?_
       refine qS 101 ?_
       refine qS 102 ?_
       refine qS 103 ?_
       refine qS 104 ?_
       refine qS 105 ?_
       refine qS 106 ?_
       refine qP 107 (does_pick (v := .bool true) W_ R_) ?_
       refine ao_nil_d (by kernel_rfl) ?_
       refine hK43 _ ?_
       refine aw_cond_t D_ rfl ?_
       refine sr fun K51 hK51 => ?_
       refine pa 12 (.bool true) ?_
       refine en hK51 ?_
       refine aw_ret ?_
       have h := leafR h hk42
       have h := leafR h hq36
       have h := leafR h hk33
       obtain rfl := Option.some.inj h
       exact ret_ok1 W_ W_ R_ (.inr rfl) rfl
      ·have h := ifF c50 h
       refine qP 91 (does_move (v := .int .i64 v14_2) R_) ?_
       refine qP 92 (does_bin (v := .bool (decide ((0 : Int) < v14_2))) W_ W_ rfl) ?_
       refine qP 93 (does_move (v := .bool (decide ((0 : Int) < v14_2))) R_) ?_
       refine ao_bool (c := (decide ((0 : Int) < v14_2))) 93 rfl (fun c52 => ?_) (fun c52 => ?_)
       ·have h := ifT c52 h
        refine qP 94 (does_move (v := .sl 4 (List.map enc30 a0)) R_) ?_
        refine qP 95 (does_move (v := .int .i64 v14_2) R_) ?_
        obtain ⟨g53, h⟩ := gd_some h
        obtain ⟨x54, hx54, h⟩ := bnd_some h
        refine qP 96 (does_indexAddr_sl (el := .agg [.int .i64 x54.Number, .int .i64 x54.Born, .int .i64 x54.Tier, .sl 6 (List.map enc46 x54.Episodes)]) W_ W_ ty22 ty31 g53 (by exact map_get hx54)) ?_
        refine qP 97 (does_fieldAddr (q := .rptr [.int .i64 x54.Born, .int .i64 x54.Tier, .sl 6 (List.map enc46 x54.Episodes)]) W_ ty31 rfl ty3 D_ R_) ?_
        refine qR 98 (does_load (v := .int .i64 x54.Born) W_ W_ ty3 R_) ?_
        refine qP 99 (does_move (v := .sl 4 (List.map enc30 a0)) R_) ?_
        refine qP 100 (does_move (v := .int .i64 v14_2) R_) ?_
        refine qP 101 (does_bin (v := .int .i64 (IntKind.i64.wrap (v14_2 - 1))) W_ W_ rfl) ?_
        obtain ⟨g55, h⟩ := gd_some h
        obtain ⟨x56, hx56, h⟩ := bnd_some h
        refine qP 102 (does_indexAddr_sl (el := .agg [.int .i64 x56.Number, .int .i64 x56.Born, .int .i64 x56.Tier, .sl 6 (List.map enc46 x56.Episodes)]) W_ W_ ty22 ty31 g55 (by exact map_get hx56)) ?_
        refine qP 103 (does_fieldAddr (q := .rptr [.int .i64 x56.Born, .int .i64 x56.Tier, .sl 6 (List.map enc46 x56.Episodes)]) W_ ty31 rfl ty3 D_ R_) ?_
        refine qR 104 (does_load (v := .int .i64 x56.Born) W_ W_ ty3 R_) ?_
        refine qP 105 (does_bin (v := .bool (decide (x54.Born < x56.Born))) W_ W_ rfl) ?_
        refine qP 106 (does_pick (v := .bool (decide (x54.Born < x56.Born))) W_ R_) ?_
        refine qP 107 (does_pick (v := .bool (decide (x54.Born < x56.Born))) W_ R_) ?_
        refine ao_nil_d (by kernel_rfl) ?_
        refine hK43 _ ?_
        refine aw_bool (b := (decide (x54.Born < x56.Born))) 107 rfl (fun c57 => ?_) (fun c57 => ?_)
        ·have h := ifT c57 h
         refine aw_cond_t D_ rfl ?_
         refine sr fun K58 hK58 => ?_
         refine pa 12 (.bool true) ?_
         refine en hK58 ?_
         refine aw_ret ?_
         have h := leafR h hk42
         have h := leafR h hq36
         have h := leafR h hk33
         obtain rfl := Option.some.inj h
         exact ret_ok1 W_ W_ R_ (.inr rfl) rfl
        ·have h := ifF c57 h
         refine aw_cond_f D_ rfl ?_
         refine aw_skip ?_
         have h := leafL h hk42
         exact ⟨_, reb_lit [(0, .sl 4 (List.map enc30 a0)), (1, .int .i64 a1), (2, .int .i64 a2), (3, .int .i64 a3), (4, .int .i64 a4), (5, .int .i64 a5), (14, .int .i64 v14_2)] [] [] [] (ec (ec (ec (ec (ec (ec (ec envOk_nil))))))) objOk_nil (nodup_b rfl) (nodup_b rfl) rfl rfl, h, rfl⟩
       ·have h := ifF c52 h
        refine qS 94 ?_
        refine qS 95 ?_
        refine qS 96 ?_
        refine qS 97 ?_
        refine qS 98 ?_
        refine qS 99 ?_
        refine qS 100 ?_
        refine qS 101 ?_
        refine qS 102 ?_
        refine qS 103 ?_
        refine qS 104 ?_
        refine qS 105 ?_
        refine qP 106 (does_pick (v := .bool false) W_ R_) ?_
        refine qP 107 (does_pick (v := .bool false) W_ R_) ?_
        refine ao_nil_d (by kernel_rfl) ?_
        refine hK43 _ ?_
        refine aw_cond_f D_ rfl ?_
        refine aw_skip ?_
        have h := leafL h hk42
        exact ⟨_, reb_lit [(0, .sl 4 (List.map enc30 a0)), (1, .int .i64 a1), (2, .int .i64 a2), (3, .int .i64 a3), (4, .int .i64 a4), (5, .int .i64 a5), (14, .int .i64 v14_2)] [] [] [] (ec (ec (ec (ec (ec (ec (ec envOk_nil))))))) objOk_nil (nodup_b rfl) (nodup_b rfl) rfl rfl, h, rfl⟩
    ·rintro s ⟨h, rfl⟩
     unfold gleaninglaw20_RetireMore_k3 at h
     refine sr fun K59 hK59 => ?_
     refine pa 15 (.int .i64 0) ?_
     refine en hK59 ?_
     refine aw_block ?_
     refine aw_loop' (fun m s => ∃ (v15_4 : Int), loopN (fun (s : Int) => gleaninglaw20_RetireMore_l4 a0 v14_2 s) m v15_4 = some q35 ∧ s = lit [(0, .sl 4 (List.map enc30 a0)), (1, .int .i64 a1), (2, .int .i64 a2), (3, .int .i64 a3), (4, .int .i64 a4), (5, .int .i64 a5), (14, .int .i64 v14_2), (15, .int .i64 v15_4)] [] [] X) Fu
      ⟨_, reb_lit [(0, .sl 4 (List.map enc30 a0)), (1, .int .i64 a1), (2, .int .i64 a2), (3, .int .i64 a3), (4, .int .i64 a4), (5, .int .i64 a5), (14, .int .i64 v14_2), (15, .int .i64 (0))] [] [] [] (ec (ec (ec (ec (ec (ec (ec (ec envOk_nil)))))))) objOk_nil (nodup_b rfl) (nodup_b rfl) rfl rfl, 0, h, rfl⟩ ?_
     rintro m s ⟨v15_4, h, rfl⟩
     obtain ⟨m4, q60, rfl, h, hq61⟩ := loop_some h
     replace h : gleaninglaw20_RetireMore_l4 a0 v14_2 v15_4 = some q60 := h
     unfold gleaninglaw20_RetireMore_l4 at h
     refine aw_seq_k (fun K62 hK62 => ?_)
     refine sr fun K63 hK63 => ?_
     refine pm 108 (.int .i64 v15_4) ?_
     refine pm 109 (.int .i64 v14_2) ?_
     refine pb 110 (.bool (decide (v15_4 < v14_2))) ?_
     refine en hK63 ?_
     refine aw_bool (b := (decide (v15_4 < v14_2))) 110 rfl (fun c64 => ?_) (fun c64 => ?_)
     ·have h := ifT c64 h
      refine aw_cond_t D_ rfl ?_
      refine aw_skip ?_
      refine hK62 _ ?_
      refine aw_seq_k (fun K65 hK65 => ?_)
      refine aw_block ?_
      refine aw_seq_k (fun K66 hK66 => ?_)
      refine aw_regd (by kernel_rfl) (by decide +kernel) ?_
      refine qP 113 (does_move (v := .sl 4 (List.map enc30 a0)) R_) ?_
      refine qP 114 (does_move (v := .int .i64 v15_4) R_) ?_
      obtain ⟨g67, h⟩ := gd_some h
      obtain ⟨x68, hx68, h⟩ := bnd_some h
      refine qP 115 (does_indexAddr_sl (el := .agg [.int .i64 x68.Number, .int .i64 x68.Born, .int .i64 x68.Tier, .sl 6 (List.map enc46 x68.Episodes)]) W_ W_ ty22 ty31 g67 (by exact map_get hx68)) ?_
      refine qP 116 (does_fieldAddr (q := .rptr [.int .i64 x68.Number, .int .i64 x68.Born, .int .i64 x68.Tier, .sl 6 (List.map enc46 x68.Episodes)]) W_ ty31 rfl ty3 D_ R_) ?_
      refine qR 117 (does_load (v := .int .i64 x68.Number) W_ W_ ty3 R_) ?_
      refine qP 118 (does_move (v := .sl 4 (List.map enc30 a0)) R_) ?_
      refine qP 119 (does_move (v := .int .i64 v14_2) R_) ?_
      obtain ⟨g69, h⟩ := gd_some h
      obtain ⟨x70, hx70, h⟩ := bnd_some h
      refine qP 120 (does_indexAddr_sl (el := .agg [.int .i64 x70.Number, .int .i64 x70.Born, .int .i64 x70.Tier, .sl 6 (List.map enc46 x70.Episodes)]) W_ W_ ty22 ty31 g69 (by exact map_get hx70)) ?_
      refine qP 121 (does_fieldAddr (q := .rptr [.int .i64 x70.Number, .int .i64 x70.Born, .int .i64 x70.Tier, .sl 6 (List.map enc46 x70.Episodes)]) W_ ty31 rfl ty3 D_ R_) ?_
      refine qR 122 (does_load (v := .int .i64 x70.Number) W_ W_ ty3 R_) ?_
      refine qP 123 (does_bin (v := .bool (x68.Number == x70.Number)) W_ W_ rfl) ?_
      refine ao_nil_d (by kernel_rfl) ?_
      refine hK66 _ ?_
      refine aw_bool (b := (x68.Number == x70.Number)) 123 rfl (fun c71 => ?_) (fun c71 => ?_)
      ·have h := ifT c71 h
       refine aw_cond_t D_ rfl ?_
       refine sr fun K72 hK72 => ?_
       refine pa 12 (.bool true) ?_
       refine en hK72 ?_
       refine aw_ret ?_
       have h := leafR h hq61
       have h := leafR h hq36
       have h := leafR h hk33
       obtain rfl := Option.some.inj h
       exact ret_ok1 W_ W_ R_ (.inr rfl) rfl
      ·have h := ifF c71 h
       refine aw_cond_f D_ rfl ?_
       refine aw_skip ?_
       refine hK65 _ ?_
       refine aw_regL ?_
       refine pm 111 (.int .i64 v15_4) ?_
       refine pb 112 (.int .i64 (IntKind.i64.wrap (v15_4 + 1))) ?_
       refine pa 15 (.int .i64 (IntKind.i64.wrap (v15_4 + 1))) ?_
       refine al_nil ?_
       have h := leafL h hq61
       exact ⟨m4, Nat.lt_succ_self _, _, reb_lit [(0, .sl 4 (List.map enc30 a0)), (1, .int .i64 a1), (2, .int .i64 a2), (3, .int .i64 a3), (4, .int .i64 a4), (5, .int .i64 a5), (14, .int .i64 v14_2), (15, .int .i64 (IntKind.i64.wrap (v15_4 + 1)))] [] [] [] (ec (ec (ec (ec (ec (ec (ec (ec envOk_nil)))))))) objOk_nil (nodup_b rfl) (nodup_b rfl) rfl rfl, (IntKind.i64.wrap (v15_4 + 1)), h, rfl⟩
     ·have h := ifF c64 h
      refine aw_cond_f D_ rfl ?_
      refine aw_exit ?_
      have h := leafR h hq61
      refine hK40 _ ?_
      refine aw_regL ?_
      refine pm 74 (.int .i64 v14_2) ?_
      refine pb 75 (.int .i64 (IntKind.i64.wrap (v14_2 + 1))) ?_
      refine pa 14 (.int .i64 (IntKind.i64.wrap (v14_2 + 1))) ?_
      refine al_nil ?_
      have h := leafL h hq36
      exact ⟨m2, Nat.lt_succ_self _, _, reb_lit [(0, .sl 4 (List.map enc30 a0)), (1, .int .i64 a1), (2, .int .i64 a2), (3, .int .i64 a3), (4, .int .i64 a4), (5, .int .i64 a5), (14, .int .i64 (IntKind.i64.wrap (v14_2 + 1)))] [] [] [] (ec (ec (ec (ec (ec (ec (ec envOk_nil))))))) objOk_nil (nodup_b rfl) (nodup_b rfl) rfl rfl, (IntKind.i64.wrap (v14_2 + 1)), h, rfl⟩
   ·have h := ifF c39 h
    refine aw_cond_f D_ rfl ?_
    refine aw_exit ?_
    have h := leafR h hq36
    have h := leafL h hk33
    exact ⟨_, reb_lit [(0, .sl 4 (List.map enc30 a0)), (1, .int .i64 a1), (2, .int .i64 a2), (3, .int .i64 a3), (4, .int .i64 a4), (5, .int .i64 a5)] [] [] [] (ec (ec (ec (ec (ec (ec envOk_nil)))))) objOk_nil (nodup_b rfl) (nodup_b rfl) rfl rfl, h, rfl⟩
  ·rintro s ⟨h, rfl⟩
   unfold gleaninglaw20_RetireMore_k1 at h
   refine sr fun K73 hK73 => ?_
   refine pm 124 (.sl 4 (List.map enc30 a0)) ?_
   refine pm 125 (.int .i64 a1) ?_
   refine pm 126 (.int .i64 a2) ?_
   refine pm 127 (.int .i64 a3) ?_
   obtain ⟨x74, hx74, h⟩ := bnd_some h
   refine pD 128 (do_call0 128 false (retire_Choose_ok a0 a1 a2 a3 hx74) rfl ent9 rfl rfl) ?_
   refine pa 16 (.own 128 0) ?_
   refine en hK73 ?_
   refine sr fun K75 hK75 => ?_
   refine pm 129 (.sl 4 (List.map enc30 a0)) ?_
   refine pm 130 (.int .i64 a1) ?_
   refine pm 131 (.int .i64 a2) ?_
   refine pm 132 (.int .i64 a4) ?_
   refine pb 133 (.int .i64 (IntKind.i64.wrap (a2 + a4))) ?_
   refine pm 134 (.int .i64 a3) ?_
   refine pm 135 (.int .i64 a5) ?_
   refine pb 136 (.int .i64 (IntKind.i64.wrap (a3 + a5))) ?_
   obtain ⟨x76, hx76, h⟩ := bnd_some h
   refine pD 137 (do_call0 137 false (retire_Choose_ok a0 a1 (IntKind.i64.wrap (a2 + a4)) (IntKind.i64.wrap (a3 + a5)) hx76) rfl ent9 rfl rfl) ?_
   refine pa 17 (.own 137 0) ?_
   refine en hK75 ?_
   obtain ⟨q77, h, hk78⟩ := bnd_some h
   refine aw_cut (fun s => gleaninglaw20_RetireMore_k5 x74 x76 = some r ∧ s = lit [(16, .own 128 0), (17, .own 137 0)] [((128, 0), .arr 3 1 false (List.map enc2 x74)), ((137, 0), .arr 3 1 false (List.map enc2 x76))] [(128, 1), (137, 1)] X) ?_ ?_
   ·skip
    refine sr fun K79 hK79 => ?_
    refine pa 18 (.int .i64 0) ?_
    refine en hK79 ?_
    refine aw_block ?_
    refine aw_loop' (fun m s => ∃ (v18_6 : Int), loopN (fun (s : Int) => gleaninglaw20_RetireMore_l6 x74 x76 s) m v18_6 = some q77 ∧ s = lit [(16, .own 128 0), (17, .own 137 0), (18, .int .i64 v18_6)] [((128, 0), .arr 3 1 false (List.map enc2 x74)), ((137, 0), .arr 3 1 false (List.map enc2 x76))] [(128, 1), (137, 1)] X) Fu
     ⟨_, reb_lit [(16, .own 128 0), (17, .own 137 0), (18, .int .i64 (0))] [(128, 0), (137, 0)] [((128, 0), .arr 3 1 false (List.map enc2 x74)), ((137, 0), .arr 3 1 false (List.map enc2 x76))] [(128, 1), (137, 1)] (ec (ec (ec envOk_nil))) (objOk_cons W_ W_ R_ (by simp) (objOk_cons W_ W_ R_ (by simp) objOk_nil)) (nodup_b rfl) (nodup_b rfl) rfl rfl, 0, h, rfl⟩ ?_
    rintro m s ⟨v18_6, h, rfl⟩
    obtain ⟨m6, q80, rfl, h, hq81⟩ := loop_some h
    replace h : gleaninglaw20_RetireMore_l6 x74 x76 v18_6 = some q80 := h
    unfold gleaninglaw20_RetireMore_l6 at h
    refine aw_seq_k (fun K82 hK82 => ?_)
    refine sr fun K83 hK83 => ?_
    refine pm 138 (.int .i64 v18_6) ?_
    refine pm 139 (.own 137 0) ?_
    refine pX 140 ((does_len_own W_ W_ ty25).cast (v' := .int .i64 (List.length x76 : Int)) (by exact len_map _)) ?_
    refine pb 141 (.bool (decide (v18_6 < (List.length x76 : Int)))) ?_
    refine en hK83 ?_
    refine aw_bool (b := (decide (v18_6 < (List.length x76 : Int)))) 141 rfl (fun c84 => ?_) (fun c84 => ?_)
    ·have h := ifT c84 h
     refine aw_cond_t D_ rfl ?_
     refine aw_skip ?_
     refine hK82 _ ?_
     refine aw_seq_k (fun K85 hK85 => ?_)
     refine aw_block ?_
     refine sr fun K86 hK86 => ?_
     refine pa 19 (.bool false) ?_
     refine en hK86 ?_
     refine aw_seq_k (fun K87 hK87 => ?_)
     refine sr fun K88 hK88 => ?_
     refine pa 20 (.int .i64 0) ?_
     refine en hK88 ?_
     refine aw_block ?_
     refine aw_loop' (fun m s => ∃ (v19_7 : Bool), ∃ (v20_7 : Int), loopN (fun (s : Bool × Int) => gleaninglaw20_RetireMore_l7 x74 x76 v18_6 s.1 s.2) m (v19_7, v20_7) = some q80 ∧ s = lit [(16, .own 128 0), (17, .own 137 0), (18, .int .i64 v18_6), (19, .bool v19_7), (20, .int .i64 v20_7)] [((128, 0), .arr 3 1 false (List.map enc2 x74)), ((137, 0), .arr 3 1 false (List.map enc2 x76))] [(128, 1), (137, 1)] X) Fu
      ⟨_, reb_lit [(16, .own 128 0), (17, .own 137 0), (18, .int .i64 v18_6), (19, .bool false), (20, .int .i64 (0))] [(128, 0), (137, 0)] [((128, 0), .arr 3 1 false (List.map enc2 x74)), ((137, 0), .arr 3 1 false (List.map enc2 x76))] [(128, 1), (137, 1)] (ec (ec (ec (ec (ec envOk_nil))))) (objOk_cons W_ W_ R_ (by simp) (objOk_cons W_ W_ R_ (by simp) objOk_nil)) (nodup_b rfl) (nodup_b rfl) rfl rfl, false, 0, h, rfl⟩ ?_
     rintro m s ⟨v19_7, v20_7, h, rfl⟩
     obtain ⟨m7, q89, rfl, h, hq90⟩ := loop_some h
     replace h : gleaninglaw20_RetireMore_l7 x74 x76 v18_6 v19_7 v20_7 = some q89 := h
     unfold gleaninglaw20_RetireMore_l7 at h
     refine aw_seq_k (fun K91 hK91 => ?_)
     refine sr fun K92 hK92 => ?_
     refine pm 144 (.int .i64 v20_7) ?_
     refine pm 145 (.own 128 0) ?_
     refine pX 146 ((does_len_own W_ W_ ty25).cast (v' := .int .i64 (List.length x74 : Int)) (by exact len_map _)) ?_
     refine pb 147 (.bool (decide (v20_7 < (List.length x74 : Int)))) ?_
     refine en hK92 ?_
     refine aw_bool (b := (decide (v20_7 < (List.length x74 : Int)))) 147 rfl (fun c93 => ?_) (fun c93 => ?_)
     ·have h := ifT c93 h
      refine aw_cond_t D_ rfl ?_
      refine aw_skip ?_
      refine hK91 _ ?_
      refine aw_seq_k (fun K94 hK94 => ?_)
      refine aw_block ?_
      refine aw_regd (by kernel_rfl) (by decide +kernel) ?_
      refine qP 150 (does_move (v := .bool v19_7) R_) ?_
      refine qP 151 (does_move (v := .bool v19_7) R_) ?_
      refine ao_bool (c := v19_7) 151 rfl (fun c95 => ?_) (fun c95 => ?_)
      ·have h := ifT c95 h
       refine qS 152 ?_
       refine qS 153 ?_
       refine qS 154 ?_
       refine qS 155 ?_
       refine qS 156 ?_
       refine qS 157 ?_
       refine qS 158 ?_
       refine qS 159 ?_
       refine qS 160 ?_
       refine qP 161 (does_pick (v := .bool true) W_ R_) ?_
       refine qP 19 (does_assign (v := .bool true) R_) ?_
       refine ao_nil_d (by kernel_rfl) ?_
       refine hK94 _ ?_
       refine aw_regL ?_
       refine pm 148 (.int .i64 v20_7) ?_
       refine pb 149 (.int .i64 (IntKind.i64.wrap (v20_7 + 1))) ?_
       refine pa 20 (.int .i64 (IntKind.i64.wrap (v20_7 + 1))) ?_
       refine al_nil ?_
       have h := leafL h hq90
       exact ⟨m7, Nat.lt_succ_self _, _, reb_lit [(16, .own 128 0), (17, .own 137 0), (18, .int .i64 v18_6), (19, .bool true), (20, .int .i64 (IntKind.i64.wrap (v20_7 + 1)))] [(128, 0), (137, 0)] [((128, 0), .arr 3 1 false (List.map enc2 x74)), ((137, 0), .arr 3 1 false (List.map enc2 x76))] [(128, 1), (137, 1)] (ec (ec (ec (ec (ec envOk_nil))))) (objOk_cons W_ W_ R_ (by simp) (objOk_cons W_ W_ R_ (by simp) objOk_nil)) (nodup_b rfl) (nodup_b rfl) rfl rfl, true, (IntKind.i64.wrap (v20_7 + 1)), h, rfl⟩
      ·have h := ifF c95 h
       refine qP 152 (does_move (v := .own 128 0) R_) ?_
       refine qP 153 (does_move (v := .int .i64 v20_7) R_) ?_
       obtain ⟨g96, h⟩ := gd_some h
       obtain ⟨x97, hx97, h⟩ := bnd_some h
       refine qR 154 (does_indexAddr_own W_ W_ W_ ty25 ty3 g96 (by exact own_lt hx97)) ?_
       refine qR 155 (does_load (v := .int .i64 x97) W_ (cellsAt_eptr W_ (by exact map_get hx97)) ty3 R_) ?_
       refine qP 156 (does_move (v := .own 137 0) R_) ?_
       refine qP 157 (does_move (v := .int .i64 v18_6) R_) ?_
       obtain ⟨g98, h⟩ := gd_some h
       obtain ⟨x99, hx99, h⟩ := bnd_some h
       refine qR 158 (does_indexAddr_own W_ W_ W_ ty25 ty3 g98 (by exact own_lt hx99)) ?_
       refine qR 159 (does_load (v := .int .i64 x99) W_ (cellsAt_eptr W_ (by exact map_get hx99)) ty3 R_) ?_
       refine qP 160 (does_bin (v := .bool (x97 == x99)) W_ W_ rfl) ?_
       refine qP 161 (does_pick (v := .bool (x97 == x99)) W_ R_) ?_
       refine qP 19 (does_assign (v := .bool (x97 == x99)) R_) ?_
       refine ao_nil_d (by kernel_rfl) ?_
       refine hK94 _ ?_
       refine aw_regL ?_
       refine pm 148 (.int .i64 v20_7) ?_
       refine pb 149 (.int .i64 (IntKind.i64.wrap (v20_7 + 1))) ?_
       refine pa 20 (.int .i64 (IntKind.i64.wrap (v20_7 + 1))) ?_
       refine al_nil ?_
       have h := leafL h hq90
       exact ⟨m7, Nat.lt_succ_self _, _, reb_lit [(16, .own 128 0), (17, .own 137 0), (18, .int .i64 v18_6), (19, .bool (x97 == x99)), (20, .int .i64 (IntKind.i64.wrap (v20_7 + 1)))] [(128, 0), (137, 0)] [((128, 0), .arr 3 1 false (List.map enc2 x74)), ((137, 0), .arr 3 1 false (List.map enc2 x76))] [(128, 1), (137, 1)] (ec (ec (ec (ec (ec envOk_nil))))) (objOk_cons W_ W_ R_ (by simp) (objOk_cons W_ W_ R_ (by simp) objOk_nil)) (nodup_b rfl) (nodup_b rfl) rfl rfl, (x97 == x99), (IntKind.i64.wrap (v20_7 + 1)), h, rfl⟩
     ·have h := ifF c93 h
      refine aw_cond_f D_ rfl ?_
      refine aw_exit ?_
      have h := leafC h hq90
      refine hK87 _ ?_
      refine sr fun K100 hK100 => ?_
      refine pm 162 (.bool v19_7) ?_
      refine pP 163 (does_un (v := .bool (!v19_7)) W_ rfl) ?_
      refine en hK100 ?_
      refine aw_bool (b := (!v19_7)) 163 rfl (fun c101 => ?_) (fun c101 => ?_)
      ·have h := ifT c101 h
       refine aw_cond_t D_ rfl ?_
       refine sr fun K102 hK102 => ?_
       refine pa 12 (.bool false) ?_
       refine en hK102 ?_
       refine aw_ret ?_
       have h := leafR h hq81
       have h := leafR h hk78
       obtain rfl := Option.some.inj h
       exact ret_ok1 W_ W_ R_ (.inr rfl) rfl
      ·have h := ifF c101 h
       refine aw_cond_f D_ rfl ?_
       refine aw_skip ?_
       refine hK85 _ ?_
       refine aw_regL ?_
       refine pm 142 (.int .i64 v18_6) ?_
       refine pb 143 (.int .i64 (IntKind.i64.wrap (v18_6 + 1))) ?_
       refine pa 18 (.int .i64 (IntKind.i64.wrap (v18_6 + 1))) ?_
       refine al_nil ?_
       have h := leafL h hq81
       exact ⟨m6, Nat.lt_succ_self _, _, reb_lit [(16, .own 128 0), (17, .own 137 0), (18, .int .i64 (IntKind.i64.wrap (v18_6 + 1)))] [(128, 0), (137, 0)] [((128, 0), .arr 3 1 false (List.map enc2 x74)), ((137, 0), .arr 3 1 false (List.map enc2 x76))] [(128, 1), (137, 1)] (ec (ec (ec envOk_nil))) (objOk_cons W_ W_ R_ (by simp) (objOk_cons W_ W_ R_ (by simp) objOk_nil)) (nodup_b rfl) (nodup_b rfl) rfl rfl, (IntKind.i64.wrap (v18_6 + 1)), h, rfl⟩
    ·have h := ifF c84 h
     refine aw_cond_f D_ rfl ?_
     refine aw_exit ?_
     have h := leafR h hq81
     have h := leafL h hk78
     exact ⟨_, reb_lit [(16, .own 128 0), (17, .own 137 0)] [(128, 0), (137, 0)] [((128, 0), .arr 3 1 false (List.map enc2 x74)), ((137, 0), .arr 3 1 false (List.map enc2 x76))] [(128, 1), (137, 1)] (ec (ec envOk_nil)) (objOk_cons W_ W_ R_ (by simp) (objOk_cons W_ W_ R_ (by simp) objOk_nil)) (nodup_b rfl) (nodup_b rfl) rfl rfl, h, rfl⟩
   ·rintro s ⟨h, rfl⟩
    unfold gleaninglaw20_RetireMore_k5 at h
    refine sr fun K103 hK103 => ?_
    refine pm 164 (.own 137 0) ?_
    refine pX 165 ((does_len_own W_ W_ ty25).cast (v' := .int .i64 (List.length x76 : Int)) (by exact len_map _)) ?_
    refine pm 166 (.own 128 0) ?_
    refine pX 167 ((does_len_own W_ W_ ty25).cast (v' := .int .i64 (List.length x74 : Int)) (by exact len_map _)) ?_
    refine pb 168 (.bool (decide ((List.length x76 : Int) ≤ (List.length x74 : Int)))) ?_
    refine pa 12 (.bool (decide ((List.length x76 : Int) ≤ (List.length x74 : Int)))) ?_
    refine en hK103 ?_
    refine aw_ret ?_
    obtain rfl := Option.some.inj h
    exact ret_ok1 W_ W_ R_ (.inr rfl) rfl
end Go.Proofs.Ytejimiedoibkcaa.Ab
