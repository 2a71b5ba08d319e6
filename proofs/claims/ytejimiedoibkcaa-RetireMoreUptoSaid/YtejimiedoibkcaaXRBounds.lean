/- Chapter 20: what stays. -/
import Derived.Test.YtejimiedoibkcaaXRTells
import Derived.Test.YtejimiedoibkcaaProg
namespace Go.Proofs.Ytejimiedoibkcaa.Ab
open Go Go.RowKit
set_option linter.unusedVariables false
set_option linter.unusedSimpArgs false
set_option maxRecDepth 100000
set_option maxHeartbeats 8000000

def gleaninglaw20_RetireBounds_l4 (a0 : List Block) (v10_2 : Int) (v11_4 : Int) : Option (Int ⊕ (Int ⊕ (Unit ⊕ Bool))) :=
 if (decide (v11_4 < v10_2)) = true then (gd (0 ≤ v11_4) (Option.bind (a0[(Int.toNat v11_4)]?) (fun (x49 : Block) => gd (0 ≤ v10_2) (Option.bind (a0[(Int.toNat v10_2)]?) (fun (x51 : Block) => if (x49.Number == x51.Number) = true then (some (Sum.inr (Sum.inr (Sum.inr true)))) else (some (Sum.inl (IntKind.i64.wrap (v11_4 + 1))))))))) else (some (Sum.inr (Sum.inl (IntKind.i64.wrap (v10_2 + 1)))))
def gleaninglaw20_RetireBounds_k3 (a0 : List Block) (v10_2 : Int) : Option (Int ⊕ (Unit ⊕ Bool)) :=
 loopN (fun (s : Int) => gleaninglaw20_RetireBounds_l4 a0 v10_2 s) Fu 0
def gleaninglaw20_RetireBounds_l2 (a0 : List Block) (v10_2 : Int) : Option (Int ⊕ (Unit ⊕ Bool)) :=
 if (decide (v10_2 < (List.length a0 : Int))) = true then (Option.bind (gd (0 ≤ v10_2) (Option.bind (a0[(Int.toNat v10_2)]?) (fun (x33 : Block) => if (decide (x33.Born < 0)) = true then (some (Sum.inr (Sum.inr (Sum.inr true)))) else (gd (0 ≤ v10_2) (Option.bind (a0[(Int.toNat v10_2)]?) (fun (x37 : Block) => if (decide ((1099511627776 : Int) < x37.Born)) = true then (some (Sum.inr (Sum.inr (Sum.inr true)))) else (some (Sum.inl ())))))))) (Sum.elim (fun (s : Unit) => gleaninglaw20_RetireBounds_k3 a0 v10_2) some)) else (some (Sum.inr (Sum.inl ())))
def gleaninglaw20_RetireBounds_l8 (x55 : List Int) (v13_6 : List Block) (v14_6 : Int) (v15_s_8 : List Block) (v16_8 : Int) (v18_8 : Int) : Option ((List Block × Int × Int) ⊕ (List Block × Int)) :=
 if (decide (v18_8 < (List.length v13_6 : Int))) = true then (gd (0 ≤ v18_8) (Option.bind (v13_6[(Int.toNat v18_8)]?) (fun (x80 : Block) => gd (0 ≤ v14_6) (Option.bind (x55[(Int.toNat v14_6)]?) (fun (x82 : Int) => if (x80.Number == x82) = true then (some (Sum.inl (v15_s_8, v18_8, (IntKind.i64.wrap (v18_8 + 1))))) else (gd (0 ≤ v18_8) (Option.bind (v13_6[(Int.toNat v18_8)]?) (fun (x85 : Block) => gd ((List.length (v15_s_8 ++ [x85])) * 48 ≤ 140737488355328 ∧ (List.length (v15_s_8 ++ [x85])) ≤ 140737488355328) (some (Sum.inl ((v15_s_8 ++ [x85]), v16_8, (IntKind.i64.wrap (v18_8 + 1))))))))))))) else (some (Sum.inr (v15_s_8, v16_8)))
def gleaninglaw20_RetireBounds_l10 (v13_6 : List Block) (v16_7 : Int) (v17_10 : Bool) (v19_10 : Int) : Option ((Bool × Int) ⊕ Bool) :=
 if (decide (v19_10 < (List.length v13_6 : Int))) = true then (if v17_10 = true then (gd (0 ≤ v19_10) (Option.bind (v13_6[(Int.toNat v19_10)]?) (fun (x102 : Block) => gd (0 ≤ v16_7) (Option.bind (v13_6[(Int.toNat v16_7)]?) (fun (x104 : Block) => some (Sum.inl ((decide (x104.Born ≤ x102.Born)), (IntKind.i64.wrap (v19_10 + 1))))))))) else (some (Sum.inl (false, (IntKind.i64.wrap (v19_10 + 1)))))) else (some (Sum.inr v17_10))
def gleaninglaw20_RetireBounds_k9 (a1 : Int) (a2 : Int) (a3 : Int) (v13_6 : List Block) (v14_6 : Int) (v15_s_7 : List Block) (v16_7 : Int) (v17_9 : Bool) : Option ((List Block × Int) ⊕ ((List Block) ⊕ Bool)) :=
 gd (0 ≤ v16_7) (Option.bind (v13_6[(Int.toNat v16_7)]?) (fun (x107 : Block) => if (!(decide (a2 < (IntKind.i64.wrap (a1 - x107.Born))))) = true then (if (!v17_9) = true then (some (Sum.inr (Sum.inr false))) else (Option.bind (gleaningref15_Total v13_6) (fun (x113 : Int) => if (decide (x113 ≤ a3)) = true then (some (Sum.inr (Sum.inr false))) else (if (decide ((List.length v13_6 : Int) < 2)) = true then (some (Sum.inr (Sum.inr false))) else (some (Sum.inl (v15_s_7, (IntKind.i64.wrap (v14_6 + 1))))))))) else (some (Sum.inl (v15_s_7, (IntKind.i64.wrap (v14_6 + 1)))))))
def gleaninglaw20_RetireBounds_k7 (a1 : Int) (a2 : Int) (a3 : Int) (v13_6 : List Block) (v14_6 : Int) (v15_s_7 : List Block) (v16_7 : Int) : Option ((List Block × Int) ⊕ ((List Block) ⊕ Bool)) :=
 if (decide (v16_7 < 0)) = true then (some (Sum.inr (Sum.inr false))) else (Option.bind (loopN (fun (s : Bool × Int) => gleaninglaw20_RetireBounds_l10 v13_6 v16_7 s.1 s.2) Fu (true, 0)) (fun (s : Bool) => gleaninglaw20_RetireBounds_k9 a1 a2 a3 v13_6 v14_6 v15_s_7 v16_7 s))
def gleaninglaw20_RetireBounds_l6 (a1 : Int) (a2 : Int) (a3 : Int) (x55 : List Int) (v13_6 : List Block) (v14_6 : Int) : Option ((List Block × Int) ⊕ ((List Block) ⊕ Bool)) :=
 if (decide (v14_6 < (List.length x55 : Int))) = true then (Option.bind (loopN (fun (s : List Block × Int × Int) => gleaninglaw20_RetireBounds_l8 x55 v13_6 v14_6 s.1 s.2.1 s.2.2) Fu ([], -1, 0)) (fun (s : List Block × Int) => gleaninglaw20_RetireBounds_k7 a1 a2 a3 v13_6 v14_6 s.1 s.2)) else (some (Sum.inr (Sum.inl v13_6)))
def gleaninglaw20_RetireBounds_l12 (a1 : Int) (a2 : Int) (v13_5 : List Block) (v21_12 : Int) : Option (Int ⊕ (Unit ⊕ Bool)) :=
 if (decide (v21_12 < (List.length v13_5 : Int))) = true then (gd (0 ≤ v21_12) (Option.bind (v13_5[(Int.toNat v21_12)]?) (fun (x129 : Block) => if (decide (a2 < (IntKind.i64.wrap (a1 - x129.Born)))) = true then (some (Sum.inr (Sum.inr false))) else (some (Sum.inl (IntKind.i64.wrap (v21_12 + 1))))))) else (some (Sum.inr (Sum.inl ())))
def gleaninglaw20_RetireBounds_k11 (a3 : Int) (v13_5 : List Block) : Option Bool :=
 if (decide ((List.length v13_5 : Int) < 2)) = true then (some true) else (Option.bind (gleaningref15_Total v13_5) (fun (x134 : Int) => some (decide (x134 ≤ a3))))
def gleaninglaw20_RetireBounds_k5 (a1 : Int) (a2 : Int) (a3 : Int) (v13_5 : List Block) : Option Bool :=
 Option.bind (loopN (fun (s : Int) => gleaninglaw20_RetireBounds_l12 a1 a2 v13_5 s) Fu 0) (Sum.elim (fun (s : Unit) => gleaninglaw20_RetireBounds_k11 a3 v13_5) some)
def gleaninglaw20_RetireBounds_k1 (a0 : List Block) (a1 : Int) (a2 : Int) (a3 : Int) : Option Bool :=
 Option.bind (retire_Choose a0 a1 a2 a3) (fun (x55 : List Int) => Option.bind (loopN (fun (s : List Block × Int) => gleaninglaw20_RetireBounds_l6 a1 a2 a3 x55 s.1 s.2) Fu (a0, 0)) (Sum.elim (fun (s : List Block) => gleaninglaw20_RetireBounds_k5 a1 a2 a3 s) some))
def gleaninglaw20_RetireBounds_k0 (a0 : List Block) (a1 : Int) (a2 : Int) (a3 : Int) : Option Bool :=
 Option.bind (loopN (fun (s : Int) => gleaninglaw20_RetireBounds_l2 a0 s) Fu 0) (Sum.elim (fun (s : Unit) => gleaninglaw20_RetireBounds_k1 a0 a1 a2 a3) some)
def gleaninglaw20_RetireBounds (a0 : List Block) (a1 : Int) (a2 : Int) (a3 : Int) : Option Bool :=
 Option.bind (gleaninglaw20_alive) (fun (x3 : Bool) => Option.bind (if (!x3) = true then (some (Sum.inr x3)) else (Option.bind (gleaninglaw19_Few a0) (fun (x9 : Bool) => if (!x9) = true then (some (Sum.inr x3)) else (if (decide (a1 < 0)) = true then (some (Sum.inr x3)) else (if (decide ((1099511627776 : Int) < a1)) = true then (some (Sum.inr x3)) else (if (decide (a2 < 0)) = true then (some (Sum.inr x3)) else (if (decide ((1073741824 : Int) < a2)) = true then (some (Sum.inr x3)) else (some (Sum.inl ()))))))))) (Sum.elim (fun (s : Unit) => gleaninglaw20_RetireBounds_k0 a0 a1 a2 a3) some))
theorem gleaninglaw20_RetireBounds_ok (a0 : List Block) (a1 : Int) (a2 : Int) (a3 : Int) {r : Bool} (h : gleaninglaw20_RetireBounds a0 a1 a2 a3 = some r) : Ok Try.prog 4 [.sl 4 (List.map enc30 a0), .int .i64 a1, .int .i64 a2, .int .i64 a3] [] [] (.bool r) [] [] := by
 unfold gleaninglaw20_RetireBounds at h
 refine ok_of_code Try.func4 rfl (by show (4 : Nat) ≤ _; decide) (Nat.le_refl _) fun X => ?_
 refine sr fun K1 hK1 => ?_
 refine pa 8 (.bool false) ?_
 refine en hK1 ?_
 refine sr fun K2 hK2 => ?_
 obtain ⟨x3, hx3, h⟩ := bnd_some h
 refine pD 22 (do_call0 22 false (gleaninglaw20_alive_ok hx3) rfl ent7 rfl rfl) ?_
 refine pa 9 (.bool x3) ?_
 refine en hK2 ?_
 obtain ⟨q4, h, hk5⟩ := bnd_some h
 refine aw_cut (fun s => gleaninglaw20_RetireBounds_k0 a0 a1 a2 a3 = some r ∧ s = lit [(0, .sl 4 (List.map enc30 a0)), (1, .int .i64 a1), (2, .int .i64 a2), (3, .int .i64 a3)] [] [] X) ?_ ?_
 ·skip
  refine sr fun K6 hK6 => ?_
  refine pm 23 (.bool x3) ?_
  refine pP 24 (does_un (v := .bool (!x3)) W_ rfl) ?_
  refine pm 25 (.bool (!x3)) ?_
  refine al_bool (c := (!x3)) 25 rfl (fun c7 => ?_) (fun c7 => ?_)
  ·have h := ifT c7 h
   refine pS 26 ?_
   refine pS 27 ?_
   refine pS 28 ?_
   refine pk 29 (.bool true) ?_
   refine pm 30 (.bool true) ?_
   refine pS 31 ?_
   refine pS 32 ?_
   refine pk 33 (.bool true) ?_
   refine pm 34 (.bool true) ?_
   refine pS 35 ?_
   refine pS 36 ?_
   refine pk 37 (.bool true) ?_
   refine pm 38 (.bool true) ?_
   refine pS 39 ?_
   refine pS 40 ?_
   refine pk 41 (.bool true) ?_
   refine pm 42 (.bool true) ?_
   refine pS 43 ?_
   refine pS 44 ?_
   refine pk 45 (.bool true) ?_
   refine en hK6 ?_
   refine aw_cond_t D_ rfl ?_
   refine sr fun K8 hK8 => ?_
   refine pm 46 (.bool x3) ?_
   refine pa 8 (.bool x3) ?_
   refine en hK8 ?_
   refine aw_ret ?_
   have h := leafR h hk5
   obtain rfl := Option.some.inj h
   exact ret_ok1 W_ W_ R_ (.inr rfl) rfl
  ·have h := ifF c7 h
   refine pm 26 (.sl 4 (List.map enc30 a0)) ?_
   obtain ⟨x9, hx9, h⟩ := bnd_some h
   refine pD 27 ((do_call0 27 false (gleaninglaw19_Few_ok a0 hx9) rfl ent8 rfl rfl).fx (y := ⟨[], .bool x9, [], [27]⟩) rfl) ?_
   refine pP 28 (does_un (v := .bool (!x9)) W_ rfl) ?_
   refine pk 29 (.bool (!x9)) ?_
   refine pm 30 (.bool (!x9)) ?_
   refine al_bool (c := (!x9)) 30 rfl (fun c10 => ?_) (fun c10 => ?_)
   ·have h := ifT c10 h
    refine pS 31 ?_
    refine pS 32 ?_
    refine pk 33 (.bool true) ?_
    refine pm 34 (.bool true) ?_
    refine pS 35 ?_
    refine pS 36 ?_
    refine pk 37 (.bool true) ?_
    refine pm 38 (.bool true) ?_
    refine pS 39 ?_
    refine pS 40 ?_
    refine pk 41 (.bool true) ?_
    refine pm 42 (.bool true) ?_
    refine pS 43 ?_
    refine pS 44 ?_
    refine pk 45 (.bool true) ?_
    refine en hK6 ?_
    refine aw_cond_t D_ rfl ?_
    refine sr fun K11 hK11 => ?_
    refine pm 46 (.bool x3) ?_
    refine pa 8 (.bool x3) ?_
    refine en hK11 ?_
    refine aw_ret ?_
    have h := leafR h hk5
    obtain rfl := Option.some.inj h
    exact ret_ok1 W_ W_ R_ (.inr rfl) rfl
   ·have h := ifF c10 h
    refine pm 31 (.int .i64 a1) ?_
    refine pb 32 (.bool (decide (a1 < 0))) ?_
    refine pk 33 (.bool (decide (a1 < 0))) ?_
    refine pm 34 (.bool (decide (a1 < 0))) ?_
    refine al_bool (c := (decide (a1 < 0))) 34 rfl (fun c12 => ?_) (fun c12 => ?_)
    ·have h := ifT c12 h
     refine pS 35 ?_
     refine pS 36 ?_
     refine pk 37 (.bool true) ?_
     refine pm 38 (.bool true) ?_
     refine pS 39 ?_
     refine pS 40 ?_
     refine pk 41 (.bool true) ?_
     refine pm 42 (.bool true) ?_
     refine pS 43 ?_
     refine pS 44 ?_
     refine pk 45 (.bool true) ?_
     refine en hK6 ?_
     refine aw_cond_t D_ rfl ?_
     refine sr fun K13 hK13 => ?_
     refine pm 46 (.bool x3) ?_
     refine pa 8 (.bool x3) ?_
     refine en hK13 ?_
     refine aw_ret ?_
     have h := leafR h hk5
     obtain rfl := Option.some.inj h
     exact ret_ok1 W_ W_ R_ (.inr rfl) rfl
    ·have h := ifF c12 h
     refine pm 35 (.int .i64 a1) ?_
     refine pb 36 (.bool (decide ((1099511627776 : Int) < a1))) ?_
     refine pk 37 (.bool (decide ((1099511627776 : Int) < a1))) ?_
     refine pm 38 (.bool (decide ((1099511627776 : Int) < a1))) ?_
     refine al_bool (c := (decide ((1099511627776 : Int) < a1))) 38 rfl (fun c14 => ?_) (fun c14 => ?_)
     ·have h := ifT c14 h
      refine pS 39 ?_
      refine pS 40 ?_
      refine pk 41 (.bool true) ?_
      refine pm 42 (.bool true) ?_
      refine pS 43 ?_
      refine pS 44 ?_
      refine pk 45 (.bool true) ?_
      refine en hK6 ?_
      refine aw_cond_t D_ rfl ?_
      refine sr fun K15 hK15 => ?_
      refine pm 46 (.bool x3) ?_
      refine pa 8 (.bool x3) ?_
      refine en hK15 ?_
      refine aw_ret ?_
      have h := leafR h hk5
      obtain rfl := Option.some.inj h
      exact ret_ok1 W_ W_ R_ (.inr rfl) rfl
     ·have h := ifF c14 h
      refine pm 39 (.int .i64 a2) ?_
      refine pb 40 (.bool (decide (a2 < 0))) ?_
      refine pk 41 (.bool (decide (a2 < 0))) ?_
      refine pm 42 (.bool (decide (a2 < 0))) ?_
      refine al_bool (c := (decide (a2 < 0))) 42 rfl (fun c16 => ?_) (fun c16 => ?_)
      ·have h := ifT c16 h
       refine pS 43 ?_
       refine pS 44 ?_
       refine pk 45 (.bool true) ?_
       refine en hK6 ?_
       refine aw_cond_t D_ rfl ?_
       refine sr fun K17 hK17 => ?_
       refine pm 46 (.bool x3) ?_
       refine pa 8 (.bool x3) ?_
       refine en hK17 ?_
       refine aw_ret ?_
       have h := leafR h hk5
       obtain rfl := Option.some.inj h
       exact ret_ok1 W_ W_ R_ (.inr rfl) rfl
      ·have h := ifF c16 h
       refine pm 43 (.int .i64 a2) ?_
       refine pb 44 (.bool (decide ((1073741824 : Int) < a2))) ?_
       refine pk 45 (.bool (decide ((1073741824 : Int) < a2))) ?_
       refine en hK6 ?_
       refine aw_bool (b := (decide ((1073741824 : Int) < a2))) 45 rfl (fun c18 => ?_) (fun c18 => ?_)
       ·have h := ifT c18 h
        refine aw_cond_t D_ rfl ?_
        refine sr fun K19 hK19 => ?_
        refine pm 46 (.bool x3) ?_
        refine pa 8 (.bool x3) ?_
        refine en hK19 ?_
        refine aw_ret ?_
        have h := leafR h hk5
        obtain rfl := Option.some.inj h
        exact ret_ok1 W_ W_ R_ (.inr rfl) rfl
       ·have h := ifF c18 h
        refine aw_cond_f D_ rfl ?_
        refine aw_skip ?_
        have h := leafL h hk5
        exact ⟨_, reb_lit [(0, .sl 4 (List.map enc30 a0)), (1, .int .i64 a1), (2, .int .i64 a2), (3, .int .i64 a3)] [] [] [] (ec (ec (ec (ec envOk_nil)))) objOk_nil (nodup_b rfl) (nodup_b rfl) rfl rfl, h, rfl⟩
 ·rintro s ⟨h, rfl⟩
  unfold gleaninglaw20_RetireBounds_k0 at h
  obtain ⟨q20, h, hk21⟩ := bnd_some h
  refine aw_cut (fun s => gleaninglaw20_RetireBounds_k1 a0 a1 a2 a3 = some r ∧ s = lit [(0, .sl 4 (List.map enc30 a0)), (1, .int .i64 a1), (2, .int .i64 a2), (3, .int .i64 a3)] [] [] X) ?_ ?_
  ·skip
   refine sr fun K22 hK22 => ?_
   refine pa 10 (.int .i64 0) ?_
   refine en hK22 ?_
   refine aw_block ?_
   refine aw_loop' (fun m s => ∃ (v10_2 : Int), loopN (fun (s : Int) => gleaninglaw20_RetireBounds_l2 a0 s) m v10_2 = some q20 ∧ s = lit [(0, .sl 4 (List.map enc30 a0)), (1, .int .i64 a1), (2, .int .i64 a2), (3, .int .i64 a3), (10, .int .i64 v10_2)] [] [] X) Fu
    ⟨_, reb_lit [(0, .sl 4 (List.map enc30 a0)), (1, .int .i64 a1), (2, .int .i64 a2), (3, .int .i64 a3), (10, .int .i64 (0))] [] [] [] (ec (ec (ec (ec (ec envOk_nil))))) objOk_nil (nodup_b rfl) (nodup_b rfl) rfl rfl, 0, h, rfl⟩ ?_
   rintro m s ⟨v10_2, h, rfl⟩
   obtain ⟨m2, q23, rfl, h, hq24⟩ := loop_some h
   replace h : gleaninglaw20_RetireBounds_l2 a0 v10_2 = some q23 := h
   unfold gleaninglaw20_RetireBounds_l2 at h
   refine aw_seq_k (fun K25 hK25 => ?_)
   refine sr fun K26 hK26 => ?_
   refine pm 47 (.int .i64 v10_2) ?_
   refine pm 48 (.sl 4 (List.map enc30 a0)) ?_
   refine pP 49 ((does_len_sl W_ ty22).castp (v' := .int .i64 (List.length a0 : Int)) (by exact len_map _)) ?_
   refine pb 50 (.bool (decide (v10_2 < (List.length a0 : Int)))) ?_
   refine en hK26 ?_
   refine aw_bool (b := (decide (v10_2 < (List.length a0 : Int)))) 50 rfl (fun c27 => ?_) (fun c27 => ?_)
   ·have h := ifT c27 h
    refine aw_cond_t D_ rfl ?_
    refine aw_skip ?_
    refine hK25 _ ?_
    refine aw_seq_k (fun K28 hK28 => ?_)
    refine aw_block ?_
    obtain ⟨q29, h, hk30⟩ := bnd_some h
    refine aw_cut (fun s => gleaninglaw20_RetireBounds_k3 a0 v10_2 = some q23 ∧ s = lit [(0, .sl 4 (List.map enc30 a0)), (1, .int .i64 a1), (2, .int .i64 a2), (3, .int .i64 a3), (10, .int .i64 v10_2)] [] [] X) ?_ ?_
    ·skip
     refine sr fun K31 hK31 => ?_
     refine pm 53 (.sl 4 (List.map enc30 a0)) ?_
     refine pm 54 (.int .i64 v10_2) ?_
     obtain ⟨g32, h⟩ := gd_some h
     obtain ⟨x33, hx33, h⟩ := bnd_some h
     refine pP 55 (does_indexAddr_sl (el := .agg [.int .i64 x33.Number, .int .i64 x33.Born, .int .i64 x33.Tier, .sl 6 (List.map enc46 x33.Episodes)]) W_ W_ ty22 ty31 g32 (by exact map_get hx33)) ?_
     refine pf 56 (.rptr [.int .i64 x33.Born, .int .i64 x33.Tier, .sl 6 (List.map enc46 x33.Episodes)]) ty31 ty3 ?_
     refine pl 57 (.int .i64 x33.Born) ty3 ?_
     refine pb 58 (.bool (decide (x33.Born < 0))) ?_
     refine pm 59 (.bool (decide (x33.Born < 0))) ?_
     refine al_bool (c := (decide (x33.Born < 0))) 59 rfl (fun c34 => ?_) (fun c34 => ?_)
     ·have h := ifT c34 h
      refine pS 60 ?_
      refine pS 61 ?_
      refine pS 62 ?_
      refine pS 63 ?_
      refine pS 64 ?_
      refine pS 65 ?_
      refine pk 66 (.bool true) ?_
      refine en hK31 ?_
      refine aw_cond_t D_ rfl ?_
      refine sr fun K35 hK35 => ?_
      refine pa 8 (.bool true) ?_
      refine en hK35 ?_
      refine aw_ret ?_
      have h := leafR h hk30
      have h := leafR h hq24
      have h := leafR h hk21
      obtain rfl := Option.some.inj h
      exact ret_ok1 W_ W_ R_ (.inr rfl) rfl
     ·have h := ifF c34 h
      refine pm 60 (.sl 4 (List.map enc30 a0)) ?_
      refine pm 61 (.int .i64 v10_2) ?_
      obtain ⟨g36, h⟩ := gd_some h
      obtain ⟨x37, hx37, h⟩ := bnd_some h
      refine pP 62 (does_indexAddr_sl (el := .agg [.int .i64 x37.Number, .int .i64 x37.Born, .int .i64 x37.Tier, .sl 6 (List.map enc46 x37.Episodes)]) W_ W_ ty22 ty31 g36 (by exact map_get hx37)) ?_
      refine pf 63 (.rptr [.int .i64 x37.Born, .int .i64 x37.Tier, .sl 6 (List.map enc46 x37.Episodes)]) ty31 ty3 ?_
      refine pl 64 (.int .i64 x37.Born) ty3 ?_
      refine pb 65 (.bool (decide ((1099511627776 : Int) < x37.Born))) ?_
      refine pk 66 (.bool (decide ((1099511627776 : Int) < x37.Born))) ?_
      refine en hK31 ?_
      refine aw_bool (b := (decide ((1099511627776 : Int) < x37.Born))) 66 rfl (fun c38 => ?_) (fun c38 => ?_)
      ·have h := ifT c38 h
       refine aw_cond_t D_ rfl ?_
       refine sr fun K39 hK39 => ?_
       refine pa 8 (.bool true) ?_
       refine en hK39 ?_
       refine aw_ret ?_
       have h := leafR h hk30
       have h := leafR h hq24
       have h := leafR h hk21
       obtain rfl := Option.some.inj h
       exact ret_ok1 W_ W_ R_ (.inr rfl) rfl
      ·have h := ifF c38 h
       refine aw_cond_f D_ rfl ?_
       refine aw_skip ?_
       have h := leafL h hk30
       exact ⟨_, reb_lit [(0, .sl 4 (List.map enc30 a0)), (1, .int .i64 a1), (2, .int .i64 a2), (3, .int .i64 a3), (10, .int .i64 v10_2)] [] [] [] (ec (ec (ec (ec (ec envOk_nil))))) objOk_nil (nodup_b rfl) (nodup_b rfl) rfl rfl, h, rfl⟩
    ·rintro s ⟨h, rfl⟩
     unfold gleaninglaw20_RetireBounds_k3 at h
     refine sr fun K40 hK40 => ?_
     refine pa 11 (.int .i64 0) ?_
     refine en hK40 ?_
     refine aw_block ?_
     refine aw_loop' (fun m s => ∃ (v11_4 : Int), loopN (fun (s : Int) => gleaninglaw20_RetireBounds_l4 a0 v10_2 s) m v11_4 = some q23 ∧ s = lit [(0, .sl 4 (List.map enc30 a0)), (1, .int .i64 a1), (2, .int .i64 a2), (3, .int .i64 a3), (10, .int .i64 v10_2), (11, .int .i64 v11_4)] [] [] X) Fu
      ⟨_, reb_lit [(0, .sl 4 (List.map enc30 a0)), (1, .int .i64 a1), (2, .int .i64 a2), (3, .int .i64 a3), (10, .int .i64 v10_2), (11, .int .i64 (0))] [] [] [] (ec (ec (ec (ec (ec (ec envOk_nil)))))) objOk_nil (nodup_b rfl) (nodup_b rfl) rfl rfl, 0, h, rfl⟩ ?_
     rintro m s ⟨v11_4, h, rfl⟩
     obtain ⟨m4, q41, rfl, h, hq42⟩ := loop_some h
     replace h : gleaninglaw20_RetireBounds_l4 a0 v10_2 v11_4 = some q41 := h
     unfold gleaninglaw20_RetireBounds_l4 at h
     refine aw_seq_k (fun K43 hK43 => ?_)
     refine sr fun K44 hK44 => ?_
     refine pm 67 (.int .i64 v11_4) ?_
     refine pm 68 (.int .i64 v10_2) ?_
     refine pb 69 (.bool (decide (v11_4 < v10_2))) ?_
     refine en hK44 ?_
     refine aw_bool (b := (decide (v11_4 < v10_2))) 69 rfl (fun c45 => ?_) (fun c45 => ?_)
     ·have h := ifT c45 h
      refine aw_cond_t D_ rfl ?_
      refine aw_skip ?_
      refine hK43 _ ?_
      refine aw_seq_k (fun K46 hK46 => ?_)
      refine aw_block ?_
      refine aw_seq_k (fun K47 hK47 => ?_)
      refine aw_regd (by kernel_rfl) (by decide +kernel) ?_
      refine qP 72 (does_move (v := .sl 4 (List.map enc30 a0)) R_) ?_
      refine qP 73 (does_move (v := .int .i64 v11_4) R_) ?_
      obtain ⟨g48, h⟩ := gd_some h
      obtain ⟨x49, hx49, h⟩ := bnd_some h
      refine qP 74 (does_indexAddr_sl (el := .agg [.int .i64 x49.Number, .int .i64 x49.Born, .int .i64 x49.Tier, .sl 6 (List.map enc46 x49.Episodes)]) W_ W_ ty22 ty31 g48 (by exact map_get hx49)) ?_
      refine qP 75 (does_fieldAddr (q := .rptr [.int .i64 x49.Number, .int .i64 x49.Born, .int .i64 x49.Tier, .sl 6 (List.map enc46 x49.Episodes)]) W_ ty31 rfl ty3 D_ R_) ?_
      refine qR 76 (does_load (v := .int .i64 x49.Number) W_ W_ ty3 R_) ?_
      refine qP 77 (does_move (v := .sl 4 (List.map enc30 a0)) R_) ?_
      refine qP 78 (does_move (v := .int .i64 v10_2) R_) ?_
      obtain ⟨g50, h⟩ := gd_some h
      obtain ⟨x51, hx51, h⟩ := bnd_some h
      refine qP 79 (does_indexAddr_sl (el := .agg [.int .i64 x51.Number, .int .i64 x51.Born, .int .i64 x51.Tier, .sl 6 (List.map enc46 x51.Episodes)]) W_ W_ ty22 ty31 g50 (by exact map_get hx51)) ?_
      refine qP 80 (does_fieldAddr (q := .rptr [.int .i64 x51.Number, .int .i64 x51.Born, .int .i64 x51.Tier, .sl 6 (List.map enc46 x51.Episodes)]) W_ ty31 rfl ty3 D_ R_) ?_
      refine qR 81 (does_load (v := .int .i64 x51.Number) W_ W_ ty3 R_) ?_
      refine qP 82 (does_bin (v := .bool (x49.Number == x51.Number)) W_ W_ rfl) ?_
      refine ao_nil_d (by kernel_rfl) ?_
      refine hK47 _ ?_
      refine aw_bool (b := (x49.Number == x51.Number)) 82 rfl (fun c52 => ?_) (fun c52 => ?_)
      ·have h := ifT c52 h
       refine aw_cond_t D_ rfl ?_
       refine sr fun K53 hK53 => ?_
       refine pa 8 (.bool true) ?_
       refine en hK53 ?_
       refine aw_ret ?_
       have h := leafR h hq42
       have h := leafR h hq24
       have h := leafR h hk21
       obtain rfl := Option.some.inj h
       exact ret_ok1 W_ W_ R_ (.inr rfl) rfl
      ·have h := ifF c52 h
       refine aw_cond_f D_ rfl ?_
       refine aw_skip ?_
       refine hK46 _ ?_
       refine aw_regL ?_
       refine pm 70 (.int .i64 v11_4) ?_
       refine pb 71 (.int .i64 (IntKind.i64.wrap (v11_4 + 1))) ?_
       refine pa 11 (.int .i64 (IntKind.i64.wrap (v11_4 + 1))) ?_
       refine al_nil ?_
       have h := leafL h hq42
       exact ⟨m4, Nat.lt_succ_self _, _, reb_lit [(0, .sl 4 (List.map enc30 a0)), (1, .int .i64 a1), (2, .int .i64 a2), (3, .int .i64 a3), (10, .int .i64 v10_2), (11, .int .i64 (IntKind.i64.wrap (v11_4 + 1)))] [] [] [] (ec (ec (ec (ec (ec (ec envOk_nil)))))) objOk_nil (nodup_b rfl) (nodup_b rfl) rfl rfl, (IntKind.i64.wrap (v11_4 + 1)), h, rfl⟩
     ·have h := ifF c45 h
      refine aw_cond_f D_ rfl ?_
      refine aw_exit ?_
      have h := leafR h hq42
      refine hK28 _ ?_
      refine aw_regL ?_
      refine pm 51 (.int .i64 v10_2) ?_
      refine pb 52 (.int .i64 (IntKind.i64.wrap (v10_2 + 1))) ?_
      refine pa 10 (.int .i64 (IntKind.i64.wrap (v10_2 + 1))) ?_
      refine al_nil ?_
      have h := leafL h hq24
      exact ⟨m2, Nat.lt_succ_self _, _, reb_lit [(0, .sl 4 (List.map enc30 a0)), (1, .int .i64 a1), (2, .int .i64 a2), (3, .int .i64 a3), (10, .int .i64 (IntKind.i64.wrap (v10_2 + 1)))] [] [] [] (ec (ec (ec (ec (ec envOk_nil))))) objOk_nil (nodup_b rfl) (nodup_b rfl) rfl rfl, (IntKind.i64.wrap (v10_2 + 1)), h, rfl⟩
   ·have h := ifF c27 h
    refine aw_cond_f D_ rfl ?_
    refine aw_exit ?_
    have h := leafR h hq24
    have h := leafL h hk21
    exact ⟨_, reb_lit [(0, .sl 4 (List.map enc30 a0)), (1, .int .i64 a1), (2, .int .i64 a2), (3, .int .i64 a3)] [] [] [] (ec (ec (ec (ec envOk_nil)))) objOk_nil (nodup_b rfl) (nodup_b rfl) rfl rfl, h, rfl⟩
  ·rintro s ⟨h, rfl⟩
   unfold gleaninglaw20_RetireBounds_k1 at h
   refine sr fun K54 hK54 => ?_
   refine pm 83 (.sl 4 (List.map enc30 a0)) ?_
   refine pm 84 (.int .i64 a1) ?_
   refine pm 85 (.int .i64 a2) ?_
   refine pm 86 (.int .i64 a3) ?_
   obtain ⟨x55, hx55, h⟩ := bnd_some h
   refine pD 87 (do_call0 87 false (retire_Choose_ok a0 a1 a2 a3 hx55) rfl ent9 rfl rfl) ?_
   refine pa 12 (.own 87 0) ?_
   refine en hK54 ?_
   refine sr fun K56 hK56 => ?_
   refine pm 88 (.sl 4 (List.map enc30 a0)) ?_
   refine pa 13 (.sl 4 (List.map enc30 a0)) ?_
   refine en hK56 ?_
   obtain ⟨q57, h, hk58⟩ := bnd_some h
   refine aw_cut (fun s => ∃ (v13_5 : List Block), gleaninglaw20_RetireBounds_k5 a1 a2 a3 v13_5 = some r ∧ s = lit [(1, .int .i64 a1), (2, .int .i64 a2), (3, .int .i64 a3), (13, .sl 4 (List.map enc30 v13_5))] [] [] X) ?_ ?_
   ·skip
    refine sr fun K59 hK59 => ?_
    refine pa 14 (.int .i64 0) ?_
    refine en hK59 ?_
    refine aw_block ?_
    refine aw_loop' (fun m s => ∃ (v13_6 : List Block), ∃ (v14_6 : Int), loopN (fun (s : List Block × Int) => gleaninglaw20_RetireBounds_l6 a1 a2 a3 x55 s.1 s.2) m (v13_6, v14_6) = some q57 ∧ s = lit [(1, .int .i64 a1), (2, .int .i64 a2), (3, .int .i64 a3), (12, .own 87 0), (13, .sl 4 (List.map enc30 v13_6)), (14, .int .i64 v14_6)] [((87, 0), .arr 3 1 false (List.map enc2 x55))] [(87, 1)] X) Fu
     ⟨_, reb_lit [(1, .int .i64 a1), (2, .int .i64 a2), (3, .int .i64 a3), (12, .own 87 0), (13, .sl 4 (List.map enc30 a0)), (14, .int .i64 (0))] [(87, 0)] [((87, 0), .arr 3 1 false (List.map enc2 x55))] [(87, 1)] (ec (ec (ec (ec (ec (ec envOk_nil)))))) (objOk_cons W_ W_ R_ (by simp) objOk_nil) (nodup_b rfl) (nodup_b rfl) rfl rfl, a0, 0, h, rfl⟩ ?_
    rintro m s ⟨v13_6, v14_6, h, rfl⟩
    obtain ⟨m6, q60, rfl, h, hq61⟩ := loop_some h
    replace h : gleaninglaw20_RetireBounds_l6 a1 a2 a3 x55 v13_6 v14_6 = some q60 := h
    unfold gleaninglaw20_RetireBounds_l6 at h
    refine aw_seq_k (fun K62 hK62 => ?_)
    refine sr fun K63 hK63 => ?_
    refine pm 89 (.int .i64 v14_6) ?_
    refine pm 90 (.own 87 0) ?_
    refine pX 91 ((does_len_own W_ W_ ty25).cast (v' := .int .i64 (List.length x55 : Int)) (by exact len_map _)) ?_
    refine pb 92 (.bool (decide (v14_6 < (List.length x55 : Int)))) ?_
    refine en hK63 ?_
    refine aw_bool (b := (decide (v14_6 < (List.length x55 : Int)))) 92 rfl (fun c64 => ?_) (fun c64 => ?_)
    ·have h := ifT c64 h
     refine aw_cond_t D_ rfl ?_
     refine aw_skip ?_
     refine hK62 _ ?_
     refine aw_seq_k (fun K65 hK65 => ?_)
     refine aw_block ?_
     refine sr fun K66 hK66 => ?_
     refine pa 15 (.nil) ?_
     refine en hK66 ?_
     refine sr fun K67 hK67 => ?_
     refine pa 16 (.int .i64 (-1)) ?_
     refine en hK67 ?_
     refine sr fun K68 hK68 => ?_
     refine pa 17 (.bool true) ?_
     refine en hK68 ?_
     obtain ⟨q69, h, hk70⟩ := bnd_some h
     refine aw_cut (fun s => ∃ (v15_s_7 : List Block), ∃ (v16_7 : Int), gleaninglaw20_RetireBounds_k7 a1 a2 a3 v13_6 v14_6 v15_s_7 v16_7 = some q60 ∧ s = lit [(1, .int .i64 a1), (2, .int .i64 a2), (3, .int .i64 a3), (12, .own 87 0), (13, .sl 4 (List.map enc30 v13_6)), (14, .int .i64 v14_6), (15, .own 15 0), (16, .int .i64 v16_7), (17, .bool true)] [((87, 0), .arr 3 1 false (List.map enc2 x55)), ((15, 0), .arr 31 4 false (List.map enc30 v15_s_7))] [(15, 1), (87, 1)] X) ?_ ?_
     ·skip
      refine sr fun K71 hK71 => ?_
      refine pa 18 (.int .i64 0) ?_
      refine en hK71 ?_
      refine aw_block ?_
      refine aw_nilOwn 15 31 4 W_ D_ D_ ?_
      refine aw_loop' (fun m s => ∃ (v15_s_8 : List Block), ∃ (v16_8 : Int), ∃ (v18_8 : Int), loopN (fun (s : List Block × Int × Int) => gleaninglaw20_RetireBounds_l8 x55 v13_6 v14_6 s.1 s.2.1 s.2.2) m (v15_s_8, v16_8, v18_8) = some q69 ∧ s = lit [(1, .int .i64 a1), (2, .int .i64 a2), (3, .int .i64 a3), (12, .own 87 0), (13, .sl 4 (List.map enc30 v13_6)), (14, .int .i64 v14_6), (15, .own 15 0), (16, .int .i64 v16_8), (17, .bool true), (18, .int .i64 v18_8)] [((87, 0), .arr 3 1 false (List.map enc2 x55)), ((15, 0), .arr 31 4 false (List.map enc30 v15_s_8))] [(15, 1), (87, 1)] X) Fu
       ⟨_, reb_lit [(1, .int .i64 a1), (2, .int .i64 a2), (3, .int .i64 a3), (12, .own 87 0), (13, .sl 4 (List.map enc30 v13_6)), (14, .int .i64 v14_6), (15, .own 15 0), (16, .int .i64 (-1)), (17, .bool true), (18, .int .i64 (0))] [(87, 0), (15, 0)] [((87, 0), .arr 3 1 false (List.map enc2 x55)), ((15, 0), .arr 31 4 false (List.map enc30 []))] [(15, 1), (87, 1)] (ec (ec (ec (ec (ec (ec (ec (ec (ec (ec envOk_nil)))))))))) (objOk_cons W_ W_ R_ (by simp) (objOk_cons W_ W_ R_ (by simp) objOk_nil)) (nodup_b rfl) (nodup_b rfl) rfl rfl, [], -1, 0, h, rfl⟩ ?_
      rintro m s ⟨v15_s_8, v16_8, v18_8, h, rfl⟩
      obtain ⟨m8, q72, rfl, h, hq73⟩ := loop_some h
      replace h : gleaninglaw20_RetireBounds_l8 x55 v13_6 v14_6 v15_s_8 v16_8 v18_8 = some q72 := h
      unfold gleaninglaw20_RetireBounds_l8 at h
      refine aw_seq_k (fun K74 hK74 => ?_)
      refine sr fun K75 hK75 => ?_
      refine pm 95 (.int .i64 v18_8) ?_
      refine pm 96 (.sl 4 (List.map enc30 v13_6)) ?_
      refine pP 97 ((does_len_sl W_ ty22).castp (v' := .int .i64 (List.length v13_6 : Int)) (by exact len_map _)) ?_
      refine pb 98 (.bool (decide (v18_8 < (List.length v13_6 : Int)))) ?_
      refine en hK75 ?_
      refine aw_bool (b := (decide (v18_8 < (List.length v13_6 : Int)))) 98 rfl (fun c76 => ?_) (fun c76 => ?_)
      ·have h := ifT c76 h
       refine aw_cond_t D_ rfl ?_
       refine aw_skip ?_
       refine hK74 _ ?_
       refine aw_seq_k (fun K77 hK77 => ?_)
       refine aw_block ?_
       refine aw_seq_k (fun K78 hK78 => ?_)
       refine aw_regd (by kernel_rfl) (by decide +kernel) ?_
       refine qP 101 (does_move (v := .sl 4 (List.map enc30 v13_6)) R_) ?_
       refine qP 102 (does_move (v := .int .i64 v18_8) R_) ?_
       obtain ⟨g79, h⟩ := gd_some h
       obtain ⟨x80, hx80, h⟩ := bnd_some h
       refine qP 103 (does_indexAddr_sl (el := .agg [.int .i64 x80.Number, .int .i64 x80.Born, .int .i64 x80.Tier, .sl 6 (List.map enc46 x80.Episodes)]) W_ W_ ty22 ty31 g79 (by exact map_get hx80)) ?_
       refine qP 104 (does_fieldAddr (q := .rptr [.int .i64 x80.Number, .int .i64 x80.Born, .int .i64 x80.Tier, .sl 6 (List.map enc46 x80.Episodes)]) W_ ty31 rfl ty3 D_ R_) ?_
       refine qR 105 (does_load (v := .int .i64 x80.Number) W_ W_ ty3 R_) ?_
       refine qP 106 (does_move (v := .own 87 0) R_) ?_
       refine qP 107 (does_move (v := .int .i64 v14_6) R_) ?_
       obtain ⟨g81, h⟩ := gd_some h
       obtain ⟨x82, hx82, h⟩ := bnd_some h
       refine qR 108 (does_indexAddr_own W_ W_ W_ ty25 ty3 g81 (by exact own_lt hx82)) ?_
       refine qR 109 (does_load (v := .int .i64 x82) W_ (cellsAt_eptr W_ (by exact map_get hx82)) ty3 R_) ?_
       refine qP 110 (does_bin (v := .bool (x80.Number == x82)) W_ W_ rfl) ?_
       refine ao_nil_d (by kernel_rfl) ?_
       refine hK78 _ ?_
       refine aw_bool (b := (x80.Number == x82)) 110 rfl (fun c83 => ?_) (fun c83 => ?_)
       ·have h := ifT c83 h
        refine aw_cond_t D_ rfl ?_
        refine aw_regL ?_
        refine pm 111 (.int .i64 v18_8) ?_
        refine pa 16 (.int .i64 v18_8) ?_
        refine en hK77 ?_
        refine aw_regL ?_
        refine pm 99 (.int .i64 v18_8) ?_
        refine pb 100 (.int .i64 (IntKind.i64.wrap (v18_8 + 1))) ?_
        refine pa 18 (.int .i64 (IntKind.i64.wrap (v18_8 + 1))) ?_
        refine al_nil ?_
        have h := leafL h hq73
        exact ⟨m8, Nat.lt_succ_self _, _, reb_lit [(1, .int .i64 a1), (2, .int .i64 a2), (3, .int .i64 a3), (12, .own 87 0), (13, .sl 4 (List.map enc30 v13_6)), (14, .int .i64 v14_6), (15, .own 15 0), (16, .int .i64 v18_8), (17, .bool true), (18, .int .i64 (IntKind.i64.wrap (v18_8 + 1)))] [(87, 0), (15, 0)] [((87, 0), .arr 3 1 false (List.map enc2 x55)), ((15, 0), .arr 31 4 false (List.map enc30 v15_s_8))] [(15, 1), (87, 1)] (ec (ec (ec (ec (ec (ec (ec (ec (ec (ec envOk_nil)))))))))) (objOk_cons W_ W_ R_ (by simp) (objOk_cons W_ W_ R_ (by simp) objOk_nil)) (nodup_b rfl) (nodup_b rfl) rfl rfl, v15_s_8, v18_8, (IntKind.i64.wrap (v18_8 + 1)), h, rfl⟩
       ·have h := ifF c83 h
        refine aw_cond_f D_ rfl ?_
        refine aw_regL ?_
        refine pm 112 (.own 15 0) ?_
        refine pm 113 (.sl 4 (List.map enc30 v13_6)) ?_
        refine pm 114 (.int .i64 v18_8) ?_
        obtain ⟨g84, h⟩ := gd_some h
        obtain ⟨x85, hx85, h⟩ := bnd_some h
        refine pP 115 (does_indexAddr_sl (el := .agg [.int .i64 x85.Number, .int .i64 x85.Born, .int .i64 x85.Tier, .sl 6 (List.map enc46 x85.Episodes)]) W_ W_ ty22 ty31 g84 (by exact map_get hx85)) ?_
        refine pl 116 (.agg [.int .i64 x85.Number, .int .i64 x85.Born, .int .i64 x85.Tier, .sl 6 (List.map enc46 x85.Episodes)]) ty31 ?_
        refine pD 117 (do_buildSlice (xs := List.map enc30 [x85]) ty22 ty31 rfl rfl rfl rfl rfl rfl rfl rfl) ?_
        obtain ⟨g86, h⟩ := gd_some h
        refine pD 118 (do_append (v := List.map enc30 (v15_s_8 ++ [x85])) W_ W_ ty22 ty31 rfl rfl W_ (by first | exact .inl rfl | exact .inr ⟨rfl, rfl⟩) W_ (by first | exact .inr rfl | exact .inl rfl) (map_app _ _) (fit_map g86)) ?_
        refine pa 15 (.own 118 0) ?_
        refine en hK77 ?_
        refine aw_regL ?_
        refine pm 99 (.int .i64 v18_8) ?_
        refine pb 100 (.int .i64 (IntKind.i64.wrap (v18_8 + 1))) ?_
        refine pa 18 (.int .i64 (IntKind.i64.wrap (v18_8 + 1))) ?_
        refine al_nil ?_
        have h := leafL h hq73
        exact ⟨m8, Nat.lt_succ_self _, _, reb_lit [(1, .int .i64 a1), (2, .int .i64 a2), (3, .int .i64 a3), (12, .own 87 0), (13, .sl 4 (List.map enc30 v13_6)), (14, .int .i64 v14_6), (15, .own 15 0), (16, .int .i64 v16_8), (17, .bool true), (18, .int .i64 (IntKind.i64.wrap (v18_8 + 1)))] [(87, 0), (118, 0)] [((87, 0), .arr 3 1 false (List.map enc2 x55)), ((15, 0), .arr 31 4 false (List.map enc30 (v15_s_8 ++ [x85])))] [(15, 1), (87, 1)] (ec (ec (ec (ec (ec (ec (ec (ec (ec (ec envOk_nil)))))))))) (objOk_cons W_ W_ R_ (by simp) (objOk_cons W_ W_ R_ (by simp) objOk_nil)) (nodup_b rfl) (nodup_b rfl) rfl rfl, (v15_s_8 ++ [x85]), v16_8, (IntKind.i64.wrap (v18_8 + 1)), h, rfl⟩
      ·have h := ifF c76 h
       refine aw_cond_f D_ rfl ?_
       refine aw_exit ?_
       have h := leafR h hq73
       obtain rfl := Option.some.inj h
       have h := hk70
       exact ⟨_, reb_lit [(1, .int .i64 a1), (2, .int .i64 a2), (3, .int .i64 a3), (12, .own 87 0), (13, .sl 4 (List.map enc30 v13_6)), (14, .int .i64 v14_6), (15, .own 15 0), (16, .int .i64 v16_8), (17, .bool true)] [(87, 0), (15, 0)] [((87, 0), .arr 3 1 false (List.map enc2 x55)), ((15, 0), .arr 31 4 false (List.map enc30 v15_s_8))] [(15, 1), (87, 1)] (ec (ec (ec (ec (ec (ec (ec (ec (ec envOk_nil))))))))) (objOk_cons W_ W_ R_ (by simp) (objOk_cons W_ W_ R_ (by simp) objOk_nil)) (nodup_b rfl) (nodup_b rfl) rfl rfl, v15_s_8, v16_8, h, rfl⟩
     ·rintro s ⟨v15_s_7, v16_7, h, rfl⟩
      unfold gleaninglaw20_RetireBounds_k7 at h
      refine aw_seq_k (fun K87 hK87 => ?_)
      refine sr fun K88 hK88 => ?_
      refine pm 119 (.int .i64 v16_7) ?_
      refine pb 120 (.bool (decide (v16_7 < 0))) ?_
      refine en hK88 ?_
      refine aw_bool (b := (decide (v16_7 < 0))) 120 rfl (fun c89 => ?_) (fun c89 => ?_)
      ·have h := ifT c89 h
       refine aw_cond_t D_ rfl ?_
       refine sr fun K90 hK90 => ?_
       refine pa 8 (.bool false) ?_
       refine en hK90 ?_
       refine aw_ret ?_
       have h := leafR h hq61
       have h := leafR h hk58
       obtain rfl := Option.some.inj h
       exact ret_ok1 W_ W_ R_ (.inr rfl) rfl
      ·have h := ifF c89 h
       refine aw_cond_f D_ rfl ?_
       refine aw_skip ?_
       refine hK87 _ ?_
       obtain ⟨q91, h, hk92⟩ := bnd_some h
       refine aw_cut (fun s => ∃ (v17_9 : Bool), gleaninglaw20_RetireBounds_k9 a1 a2 a3 v13_6 v14_6 v15_s_7 v16_7 v17_9 = some q60 ∧ s = lit [(1, .int .i64 a1), (2, .int .i64 a2), (3, .int .i64 a3), (12, .own 87 0), (13, .sl 4 (List.map enc30 v13_6)), (14, .int .i64 v14_6), (15, .own 15 0), (16, .int .i64 v16_7), (17, .bool v17_9)] [((87, 0), .arr 3 1 false (List.map enc2 x55)), ((15, 0), .arr 31 4 false (List.map enc30 v15_s_7))] [(15, 1), (87, 1)] X) ?_ ?_
       ·skip
        refine sr fun K93 hK93 => ?_
        refine pa 19 (.int .i64 0) ?_
        refine en hK93 ?_
        refine aw_block ?_
        refine aw_loop' (fun m s => ∃ (v17_10 : Bool), ∃ (v19_10 : Int), loopN (fun (s : Bool × Int) => gleaninglaw20_RetireBounds_l10 v13_6 v16_7 s.1 s.2) m (v17_10, v19_10) = some q91 ∧ s = lit [(1, .int .i64 a1), (2, .int .i64 a2), (3, .int .i64 a3), (12, .own 87 0), (13, .sl 4 (List.map enc30 v13_6)), (14, .int .i64 v14_6), (15, .own 15 0), (16, .int .i64 v16_7), (17, .bool v17_10), (19, .int .i64 v19_10)] [((87, 0), .arr 3 1 false (List.map enc2 x55)), ((15, 0), .arr 31 4 false (List.map enc30 v15_s_7))] [(15, 1), (87, 1)] X) Fu
         ⟨_, reb_lit [(1, .int .i64 a1), (2, .int .i64 a2), (3, .int .i64 a3), (12, .own 87 0), (13, .sl 4 (List.map enc30 v13_6)), (14, .int .i64 v14_6), (15, .own 15 0), (16, .int .i64 v16_7), (17, .bool true), (19, .int .i64 (0))] [(87, 0), (15, 0)] [((87, 0), .arr 3 1 false (List.map enc2 x55)), ((15, 0), .arr 31 4 false (List.map enc30 v15_s_7))] [(15, 1), (87, 1)] (ec (ec (ec (ec (ec (ec (ec (ec (ec (ec envOk_nil)))))))))) (objOk_cons W_ W_ R_ (by simp) (objOk_cons W_ W_ R_ (by simp) objOk_nil)) (nodup_b rfl) (nodup_b rfl) rfl rfl, true, 0, h, rfl⟩ ?_
        rintro m s ⟨v17_10, v19_10, h, rfl⟩
        obtain ⟨m10, q94, rfl, h, hq95⟩ := loop_some h
        replace h : gleaninglaw20_RetireBounds_l10 v13_6 v16_7 v17_10 v19_10 = some q94 := h
        unfold gleaninglaw20_RetireBounds_l10 at h
        refine aw_seq_k (fun K96 hK96 => ?_)
        refine sr fun K97 hK97 => ?_
        refine pm 121 (.int .i64 v19_10) ?_
        refine pm 122 (.sl 4 (List.map enc30 v13_6)) ?_
        refine pP 123 ((does_len_sl W_ ty22).castp (v' := .int .i64 (List.length v13_6 : Int)) (by exact len_map _)) ?_
        refine pb 124 (.bool (decide (v19_10 < (List.length v13_6 : Int)))) ?_
        refine en hK97 ?_
        refine aw_bool (b := (decide (v19_10 < (List.length v13_6 : Int)))) 124 rfl (fun c98 => ?_) (fun c98 => ?_)
        ·have h := ifT c98 h
         refine aw_cond_t D_ rfl ?_
         refine aw_skip ?_
         refine hK96 _ ?_
         refine aw_seq_k (fun K99 hK99 => ?_)
         refine aw_block ?_
         refine aw_regd (by kernel_rfl) (by decide +kernel) ?_
         refine qP 127 (does_move (v := .bool v17_10) R_) ?_
         refine qP 128 (does_move (v := .bool v17_10) R_) ?_
         refine ao_bool (c := v17_10) 128 rfl (fun c100 => ?_) (fun c100 => ?_)
         ·have h := ifT c100 h
          refine qP 129 (does_move (v := .sl 4 (List.map enc30 v13_6)) R_) ?_
          refine qP 130 (does_move (v := .int .i64 v19_10) R_) ?_
          obtain ⟨g101, h⟩ := gd_some h
          obtain ⟨x102, hx102, h⟩ := bnd_some h
          refine qP 131 (does_indexAddr_sl (el := .agg [.int .i64 x102.Number, .int .i64 x102.Born, .int .i64 x102.Tier, .sl 6 (List.map enc46 x102.Episodes)]) W_ W_ ty22 ty31 g101 (by exact map_get hx102)) ?_
          refine qP 132 (does_fieldAddr (q := .rptr [.int .i64 x102.Born, .int .i64 x102.Tier, .sl 6 (List.map enc46 x102.Episodes)]) W_ ty31 rfl ty3 D_ R_) ?_
          refine qR 133 (does_load (v := .int .i64 x102.Born) W_ W_ ty3 R_) ?_
          refine qP 134 (does_move (v := .sl 4 (List.map enc30 v13_6)) R_) ?_
          refine qP 135 (does_move (v := .int .i64 v16_7) R_) ?_
          obtain ⟨g103, h⟩ := gd_some h
          obtain ⟨x104, hx104, h⟩ := bnd_some h
          refine qP 136 (does_indexAddr_sl (el := .agg [.int .i64 x104.Number, .int .i64 x104.Born, .int .i64 x104.Tier, .sl 6 (List.map enc46 x104.Episodes)]) W_ W_ ty22 ty31 g103 (by exact map_get hx104)) ?_
          refine qP 137 (does_fieldAddr (q := .rptr [.int .i64 x104.Born, .int .i64 x104.Tier, .sl 6 (List.map enc46 x104.Episodes)]) W_ ty31 rfl ty3 D_ R_) ?_
          refine qR 138 (does_load (v := .int .i64 x104.Born) W_ W_ ty3 R_) ?_
          refine qP 139 (does_bin (v := .bool (decide (x104.Born ≤ x102.Born))) W_ W_ rfl) ?_
          refine qP 140 (does_pick (v := .bool (decide (x104.Born ≤ x102.Born))) W_ R_) ?_
          refine qP 17 (does_assign (v := .bool (decide (x104.Born ≤ x102.Born))) R_) ?_
          refine ao_nil_d (by kernel_rfl) ?_
          refine hK99 _ ?_
          refine aw_regL ?_
          refine pm 125 (.int .i64 v19_10) ?_
          refine pb 126 (.int .i64 (IntKind.i64.wrap (v19_10 + 1))) ?_
          refine pa 19 (.int .i64 (IntKind.i64.wrap (v19_10 + 1))) ?_
          refine al_nil ?_
          have h := leafL h hq95
          exact ⟨m10, Nat.lt_succ_self _, _, reb_lit [(1, .int .i64 a1), (2, .int .i64 a2), (3, .int .i64 a3), (12, .own 87 0), (13, .sl 4 (List.map enc30 v13_6)), (14, .int .i64 v14_6), (15, .own 15 0), (16, .int .i64 v16_7), (17, .bool (decide (x104.Born ≤ x102.Born))), (19, .int .i64 (IntKind.i64.wrap (v19_10 + 1)))] [(87, 0), (15, 0)] [((87, 0), .arr 3 1 false (List.map enc2 x55)), ((15, 0), .arr 31 4 false (List.map enc30 v15_s_7))] [(15, 1), (87, 1)] (ec (ec (ec (ec (ec (ec (ec (ec (ec (ec envOk_nil)))))))))) (objOk_cons W_ W_ R_ (by simp) (objOk_cons W_ W_ R_ (by simp) objOk_nil)) (nodup_b rfl) (nodup_b rfl) rfl rfl, (decide (x104.Born ≤ x102.Born)), (IntKind.i64.wrap (v19_10 + 1)), h, rfl⟩
         ·have h := ifF c100 h
          refine qS 129 ?_
          refine qS 130 ?_
          refine qS 131 ?_
          refine qS 132 ?_
          refine qS 133 ?_
          refine qS 134 ?_
          refine qS 135 ?_
          refine qS 136 ?_
          refine qS 137 ?_
          refine qS 138 ?_
          refine qS 139 ?_
          refine qP 140 (does_pick (v := .bool false) W_ R_) ?_
          refine qP 17 (does_assign (v := .bool false) R_) ?_
          refine ao_nil_d (by kernel_rfl) ?_
          refine hK99 _ ?_
          refine aw_regL ?_
          refine pm 125 (.int .i64 v19_10) ?_
          refine pb 126 (.int .i64 (IntKind.i64.wrap (v19_10 + 1))) ?_
          refine pa 19 (.int .i64 (IntKind.i64.wrap (v19_10 + 1))) ?_
          refine al_nil ?_
          have h := leafL h hq95
          exact ⟨m10, Nat.lt_succ_self _, _, reb_lit [(1, .int .i64 a1), (2, .int .i64 a2), (3, .int .i64 a3), (12, .own 87 0), (13, .sl 4 (List.map enc30 v13_6)), (14, .int .i64 v14_6), (15, .own 15 0), (16, .int .i64 v16_7), (17, .bool false), (19, .int .i64 (IntKind.i64.wrap (v19_10 + 1)))] [(87, 0), (15, 0)] [((87, 0), .arr 3 1 false (List.map enc2 x55)), ((15, 0), .arr 31 4 false (List.map enc30 v15_s_7))] [(15, 1), (87, 1)] (ec (ec (ec (ec (ec (ec (ec (ec (ec (ec envOk_nil)))))))))) (objOk_cons W_ W_ R_ (by simp) (objOk_cons W_ W_ R_ (by simp) objOk_nil)) (nodup_b rfl) (nodup_b rfl) rfl rfl, false, (IntKind.i64.wrap (v19_10 + 1)), h, rfl⟩
        ·have h := ifF c98 h
         refine aw_cond_f D_ rfl ?_
         refine aw_exit ?_
         have h := leafR h hq95
         obtain rfl := Option.some.inj h
         have h := hk92
         exact ⟨_, reb_lit [(1, .int .i64 a1), (2, .int .i64 a2), (3, .int .i64 a3), (12, .own 87 0), (13, .sl 4 (List.map enc30 v13_6)), (14, .int .i64 v14_6), (15, .own 15 0), (16, .int .i64 v16_7), (17, .bool v17_10)] [(87, 0), (15, 0)] [((87, 0), .arr 3 1 false (List.map enc2 x55)), ((15, 0), .arr 31 4 false (List.map enc30 v15_s_7))] [(15, 1), (87, 1)] (ec (ec (ec (ec (ec (ec (ec (ec (ec envOk_nil))))))))) (objOk_cons W_ W_ R_ (by simp) (objOk_cons W_ W_ R_ (by simp) objOk_nil)) (nodup_b rfl) (nodup_b rfl) rfl rfl, v17_10, h, rfl⟩
       ·rintro s ⟨v17_9, h, rfl⟩
        unfold gleaninglaw20_RetireBounds_k9 at h
        refine sr fun K105 hK105 => ?_
        refine pm 141 (.int .i64 a1) ?_
        refine pm 142 (.sl 4 (List.map enc30 v13_6)) ?_
        refine pm 143 (.int .i64 v16_7) ?_
        obtain ⟨g106, h⟩ := gd_some h
        obtain ⟨x107, hx107, h⟩ := bnd_some h
        refine pP 144 (does_indexAddr_sl (el := .agg [.int .i64 x107.Number, .int .i64 x107.Born, .int .i64 x107.Tier, .sl 6 (List.map enc46 x107.Episodes)]) W_ W_ ty22 ty31 g106 (by exact map_get hx107)) ?_
        refine pf 145 (.rptr [.int .i64 x107.Born, .int .i64 x107.Tier, .sl 6 (List.map enc46 x107.Episodes)]) ty31 ty3 ?_
        refine pl 146 (.int .i64 x107.Born) ty3 ?_
        refine pb 147 (.int .i64 (IntKind.i64.wrap (a1 - x107.Born))) ?_
        refine pm 148 (.int .i64 a2) ?_
        refine pb 149 (.bool (decide (a2 < (IntKind.i64.wrap (a1 - x107.Born))))) ?_
        refine pa 20 (.bool (decide (a2 < (IntKind.i64.wrap (a1 - x107.Born))))) ?_
        refine en hK105 ?_
        refine aw_seq_k (fun K108 hK108 => ?_)
        refine sr fun K109 hK109 => ?_
        refine pm 150 (.bool (decide (a2 < (IntKind.i64.wrap (a1 - x107.Born))))) ?_
        refine pP 151 (does_un (v := .bool (!(decide (a2 < (IntKind.i64.wrap (a1 - x107.Born)))))) W_ rfl) ?_
        refine pm 152 (.bool (!(decide (a2 < (IntKind.i64.wrap (a1 - x107.Born)))))) ?_
        refine al_bool (c := (!(decide (a2 < (IntKind.i64.wrap (a1 - x107.Born)))))) 152 rfl (fun c110 => ?_) (fun c110 => ?_)
        ·have h := ifT c110 h
         refine pm 153 (.bool v17_9) ?_
         refine pP 154 (does_un (v := .bool (!v17_9)) W_ rfl) ?_
         refine pm 155 (.bool (!v17_9)) ?_
         refine al_bool (c := (!v17_9)) 155 rfl (fun c111 => ?_) (fun c111 => ?_)
         ·have h := ifT c111 h
          refine pS 156 ?_
          refine pS 157 ?_
          refine pS 158 ?_
          refine pS 159 ?_
          refine pk 160 (.bool true) ?_
          refine pm 161 (.bool true) ?_
          refine pS 162 ?_
          refine pS 163 ?_
          refine pS 164 ?_
          refine pk 165 (.bool true) ?_
          refine pk 166 (.bool true) ?_
          refine en hK109 ?_
          refine aw_cond_t D_ rfl ?_
          refine sr fun K112 hK112 => ?_
          refine pa 8 (.bool false) ?_
          refine en hK112 ?_
          refine aw_ret ?_
          have h := leafR h hq61
          have h := leafR h hk58
          obtain rfl := Option.some.inj h
          exact ret_ok1 W_ W_ R_ (.inr rfl) rfl
         ·have h := ifF c111 h
          refine pm 156 (.sl 4 (List.map enc30 v13_6)) ?_
          obtain ⟨x113, hx113, h⟩ := bnd_some h
          refine pD 157 (do_call0 157 false (gleaningref15_Total_ok v13_6 hx113) rfl ent12 rfl rfl) ?_
          refine pm 158 (.int .i64 a3) ?_
          refine pb 159 (.bool (decide (x113 ≤ a3))) ?_
          refine pk 160 (.bool (decide (x113 ≤ a3))) ?_
          refine pm 161 (.bool (decide (x113 ≤ a3))) ?_
          refine al_bool (c := (decide (x113 ≤ a3))) 161 rfl (fun c114 => ?_) (fun c114 => ?_)
          ·have h := ifT c114 h
           refine pS 162 ?_
           refine pS 163 ?_
           refine pS 164 ?_
           refine pk 165 (.bool true) ?_
           refine pk 166 (.bool true) ?_
           refine en hK109 ?_
           refine aw_cond_t D_ rfl ?_
           refine sr fun K115 hK115 => ?_
           refine pa 8 (.bool false) ?_
           refine en hK115 ?_
           refine aw_ret ?_
           have h := leafR h hq61
           have h := leafR h hk58
           obtain rfl := Option.some.inj h
           exact ret_ok1 W_ W_ R_ (.inr rfl) rfl
          ·have h := ifF c114 h
           refine pm 162 (.sl 4 (List.map enc30 v13_6)) ?_
           refine pP 163 ((does_len_sl W_ ty22).castp (v' := .int .i64 (List.length v13_6 : Int)) (by exact len_map _)) ?_
           refine pb 164 (.bool (decide ((List.length v13_6 : Int) < 2))) ?_
           refine pk 165 (.bool (decide ((List.length v13_6 : Int) < 2))) ?_
           refine pk 166 (.bool (decide ((List.length v13_6 : Int) < 2))) ?_
           refine en hK109 ?_
           refine aw_bool (b := (decide ((List.length v13_6 : Int) < 2))) 166 rfl (fun c116 => ?_) (fun c116 => ?_)
           ·have h := ifT c116 h
            refine aw_cond_t D_ rfl ?_
            refine sr fun K117 hK117 => ?_
            refine pa 8 (.bool false) ?_
            refine en hK117 ?_
            refine aw_ret ?_
            have h := leafR h hq61
            have h := leafR h hk58
            obtain rfl := Option.some.inj h
            exact ret_ok1 W_ W_ R_ (.inr rfl) rfl
           ·have h := ifF c116 h
            refine aw_cond_f D_ rfl ?_
            refine aw_skip ?_
            refine hK108 _ ?_
            refine aw_regL ?_
            refine pm 167 (.own 15 0) ?_
            refine pa 13 (.own 15 0) ?_
            refine en hK65 ?_
            refine aw_regL ?_
            refine pm 93 (.int .i64 v14_6) ?_
            refine pb 94 (.int .i64 (IntKind.i64.wrap (v14_6 + 1))) ?_
            refine pa 14 (.int .i64 (IntKind.i64.wrap (v14_6 + 1))) ?_
            refine al_nil ?_
            have h := leafL h hq61
            exact ⟨m6, Nat.lt_succ_self _, _, reb_lit [(1, .int .i64 a1), (2, .int .i64 a2), (3, .int .i64 a3), (12, .own 87 0), (13, .sl 4 (List.map enc30 v15_s_7)), (14, .int .i64 (IntKind.i64.wrap (v14_6 + 1)))] [(87, 0)] [((87, 0), .arr 3 1 false (List.map enc2 x55))] [(87, 1)] (ec (ec (ec (ec (ec (ec envOk_nil)))))) (objOk_cons W_ W_ R_ (by simp) objOk_nil) (nodup_b rfl) (nodup_b rfl) rfl rfl, v15_s_7, (IntKind.i64.wrap (v14_6 + 1)), h, rfl⟩
        ·have h := ifF c110 h
         refine pS 153 ?_
         refine pS 154 ?_
         refine pS 155 ?_
         refine pS 156 ?_
         refine pS 157 ?_
         refine pS 158 ?_
         refine pS 159 ?_
         refine pS 160 ?_
         refine pS 161 ?_
         refine pS 162 ?_
         refine pS 163 ?_
         refine pS 164 ?_
         refine pS 165 ?_
         refine pk 166 (.bool false) ?_
         refine en hK109 ?_
         refine aw_cond_f D_ rfl ?_
         refine aw_skip ?_
         refine hK108 _ ?_
         refine aw_regL ?_
         refine pm 167 (.own 15 0) ?_
         refine pa 13 (.own 15 0) ?_
         refine en hK65 ?_
         refine aw_regL ?_
         refine pm 93 (.int .i64 v14_6) ?_
         refine pb 94 (.int .i64 (IntKind.i64.wrap (v14_6 + 1))) ?_
         refine pa 14 (.int .i64 (IntKind.i64.wrap (v14_6 + 1))) ?_
         refine al_nil ?_
         have h := leafL h hq61
         exact ⟨m6, Nat.lt_succ_self _, _, reb_lit [(1, .int .i64 a1), (2, .int .i64 a2), (3, .int .i64 a3), (12, .own 87 0), (13, .sl 4 (List.map enc30 v15_s_7)), (14, .int .i64 (IntKind.i64.wrap (v14_6 + 1)))] [(87, 0)] [((87, 0), .arr 3 1 false (List.map enc2 x55))] [(87, 1)] (ec (ec (ec (ec (ec (ec envOk_nil)))))) (objOk_cons W_ W_ R_ (by simp) objOk_nil) (nodup_b rfl) (nodup_b rfl) rfl rfl, v15_s_7, (IntKind.i64.wrap (v14_6 + 1)), h, rfl⟩
    ·have h := ifF c64 h
     refine aw_cond_f D_ rfl ?_
     refine aw_exit ?_
     have h := leafR h hq61
     have h := leafL h hk58
     exact ⟨_, reb_lit [(1, .int .i64 a1), (2, .int .i64 a2), (3, .int .i64 a3), (13, .sl 4 (List.map enc30 v13_6))] [] [] [] (ec (ec (ec (ec envOk_nil)))) objOk_nil (nodup_b rfl) (nodup_b rfl) rfl rfl, v13_6, h, rfl⟩
   ·rintro s ⟨v13_5, h, rfl⟩
    unfold gleaninglaw20_RetireBounds_k5 at h
    obtain ⟨q118, h, hk119⟩ := bnd_some h
    refine aw_cut (fun s => gleaninglaw20_RetireBounds_k11 a3 v13_5 = some r ∧ s = lit [(3, .int .i64 a3), (13, .sl 4 (List.map enc30 v13_5))] [] [] X) ?_ ?_
    ·skip
     refine sr fun K120 hK120 => ?_
     refine pa 21 (.int .i64 0) ?_
     refine en hK120 ?_
     refine aw_block ?_
     refine aw_loop' (fun m s => ∃ (v21_12 : Int), loopN (fun (s : Int) => gleaninglaw20_RetireBounds_l12 a1 a2 v13_5 s) m v21_12 = some q118 ∧ s = lit [(1, .int .i64 a1), (2, .int .i64 a2), (3, .int .i64 a3), (13, .sl 4 (List.map enc30 v13_5)), (21, .int .i64 v21_12)] [] [] X) Fu
      ⟨_, reb_lit [(1, .int .i64 a1), (2, .int .i64 a2), (3, .int .i64 a3), (13, .sl 4 (List.map enc30 v13_5)), (21, .int .i64 (0))] [] [] [] (ec (ec (ec (ec (ec envOk_nil))))) objOk_nil (nodup_b rfl) (nodup_b rfl) rfl rfl, 0, h, rfl⟩ ?_
     rintro m s ⟨v21_12, h, rfl⟩
     obtain ⟨m12, q121, rfl, h, hq122⟩ := loop_some h
     replace h : gleaninglaw20_RetireBounds_l12 a1 a2 v13_5 v21_12 = some q121 := h
     unfold gleaninglaw20_RetireBounds_l12 at h
     refine aw_seq_k (fun K123 hK123 => ?_)
     refine sr fun K124 hK124 => ?_
     refine pm 168 (.int .i64 v21_12) ?_
     refine pm 169 (.sl 4 (List.map enc30 v13_5)) ?_
     refine pP 170 ((does_len_sl W_ ty22).castp (v' := .int .i64 (List.length v13_5 : Int)) (by exact len_map _)) ?_
     refine pb 171 (.bool (decide (v21_12 < (List.length v13_5 : Int)))) ?_
     refine en hK124 ?_
     refine aw_bool (b := (decide (v21_12 < (List.length v13_5 : Int)))) 171 rfl (fun c125 => ?_) (fun c125 => ?_)
     ·have h := ifT c125 h
      refine aw_cond_t D_ rfl ?_
      refine aw_skip ?_
      refine hK123 _ ?_
      refine aw_seq_k (fun K126 hK126 => ?_)
      refine aw_block ?_
      refine sr fun K127 hK127 => ?_
      refine pm 174 (.int .i64 a1) ?_
      refine pm 175 (.sl 4 (List.map enc30 v13_5)) ?_
      refine pm 176 (.int .i64 v21_12) ?_
      obtain ⟨g128, h⟩ := gd_some h
      obtain ⟨x129, hx129, h⟩ := bnd_some h
      refine pP 177 (does_indexAddr_sl (el := .agg [.int .i64 x129.Number, .int .i64 x129.Born, .int .i64 x129.Tier, .sl 6 (List.map enc46 x129.Episodes)]) W_ W_ ty22 ty31 g128 (by exact map_get hx129)) ?_
      refine pf 178 (.rptr [.int .i64 x129.Born, .int .i64 x129.Tier, .sl 6 (List.map enc46 x129.Episodes)]) ty31 ty3 ?_
      refine pl 179 (.int .i64 x129.Born) ty3 ?_
      refine pb 180 (.int .i64 (IntKind.i64.wrap (a1 - x129.Born))) ?_
      refine pm 181 (.int .i64 a2) ?_
      refine pb 182 (.bool (decide (a2 < (IntKind.i64.wrap (a1 - x129.Born))))) ?_
      refine en hK127 ?_
      refine aw_bool (b := (decide (a2 < (IntKind.i64.wrap (a1 - x129.Born))))) 182 rfl (fun c130 => ?_) (fun c130 => ?_)
      ·have h := ifT c130 h
       refine aw_cond_t D_ rfl ?_
       refine sr fun K131 hK131 => ?_
       refine pa 8 (.bool false) ?_
       refine en hK131 ?_
       refine aw_ret ?_
       have h := leafR h hq122
       have h := leafR h hk119
       obtain rfl := Option.some.inj h
       exact ret_ok1 W_ W_ R_ (.inr rfl) rfl
      ·have h := ifF c130 h
       refine aw_cond_f D_ rfl ?_
       refine aw_skip ?_
       refine hK126 _ ?_
       refine aw_regL ?_
       refine pm 172 (.int .i64 v21_12) ?_
       refine pb 173 (.int .i64 (IntKind.i64.wrap (v21_12 + 1))) ?_
       refine pa 21 (.int .i64 (IntKind.i64.wrap (v21_12 + 1))) ?_
       refine al_nil ?_
       have h := leafL h hq122
       exact ⟨m12, Nat.lt_succ_self _, _, reb_lit [(1, .int .i64 a1), (2, .int .i64 a2), (3, .int .i64 a3), (13, .sl 4 (List.map enc30 v13_5)), (21, .int .i64 (IntKind.i64.wrap (v21_12 + 1)))] [] [] [] (ec (ec (ec (ec (ec envOk_nil))))) objOk_nil (nodup_b rfl) (nodup_b rfl) rfl rfl, (IntKind.i64.wrap (v21_12 + 1)), h, rfl⟩
     ·have h := ifF c125 h
      refine aw_cond_f D_ rfl ?_
      refine aw_exit ?_
      have h := leafR h hq122
      have h := leafL h hk119
      exact ⟨_, reb_lit [(3, .int .i64 a3), (13, .sl 4 (List.map enc30 v13_5))] [] [] [] (ec (ec envOk_nil)) objOk_nil (nodup_b rfl) (nodup_b rfl) rfl rfl, h, rfl⟩
    ·rintro s ⟨h, rfl⟩
     unfold gleaninglaw20_RetireBounds_k11 at h
     refine sr fun K132 hK132 => ?_
     refine pm 183 (.sl 4 (List.map enc30 v13_5)) ?_
     refine pP 184 ((does_len_sl W_ ty22).castp (v' := .int .i64 (List.length v13_5 : Int)) (by exact len_map _)) ?_
     refine pb 185 (.bool (decide ((List.length v13_5 : Int) < 2))) ?_
     refine pm 186 (.bool (decide ((List.length v13_5 : Int) < 2))) ?_
     refine al_bool (c := (decide ((List.length v13_5 : Int) < 2))) 186 rfl (fun c133 => ?_) (fun c133 => ?_)
     ·have h := ifT c133 h
      refine pS 187 ?_
      refine pS 188 ?_
      refine pS 189 ?_
      refine pS 190 ?_
      refine pk 191 (.bool true) ?_
      refine pa 8 (.bool true) ?_
      refine en hK132 ?_
      refine aw_ret ?_
      obtain rfl := Option.some.inj h
      exact ret_ok1 W_ W_ R_ (.inr rfl) rfl
     ·have h := ifF c133 h
      refine pm 187 (.sl 4 (List.map enc30 v13_5)) ?_
      obtain ⟨x134, hx134, h⟩ := bnd_some h
      refine pD 188 (do_call0 188 false (gleaningref15_Total_ok v13_5 hx134) rfl ent12 rfl rfl) ?_
      refine pm 189 (.int .i64 a3) ?_
      refine pb 190 (.bool (decide (x134 ≤ a3))) ?_
      refine pk 191 (.bool (decide (x134 ≤ a3))) ?_
      refine pa 8 (.bool (decide (x134 ≤ a3))) ?_
      refine en hK132 ?_
      refine aw_ret ?_
      obtain rfl := Option.some.inj h
      exact ret_ok1 W_ W_ R_ (.inr rfl) rfl
end Go.Proofs.Ytejimiedoibkcaa.Ab
