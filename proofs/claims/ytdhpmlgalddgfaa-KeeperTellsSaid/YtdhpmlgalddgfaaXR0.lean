/- Policies: few and right; told as pure functions, and that the code comes to them. -/
import Derived.Test.YtdhpmlgalddgfaaXB1
import Derived.Test.YtdhpmlgalddgfaaProg
namespace Go.Proofs.Ytdhpmlgalddgfaa.Ab
open Go Go.RowKit
set_option linter.unusedVariables false
set_option linter.unusedSimpArgs false
set_option maxRecDepth 100000
set_option maxHeartbeats 8000000
structure Rule where
  Kind : Int
  N : Int
  Key : ByteArray
  Value : ByteArray
  Kids : List Rule
  deriving Inhabited
mutual
def enc24 : Rule → PV
  | .mk y0 y1 y2 y3 y4 => .agg [.int .i64 y0, .int .i64 y1, .str y2, .str y3, .sl 5 (enc24L y4)]
def enc24L : List Rule → List PV
  | [] => []
  | x :: r => enc24 x :: enc24L r
end
theorem enc24L_eq : ∀ l : List Rule, enc24L l = List.map enc24 l
  | [] => by rw [enc24L]; rfl
  | x :: r => by rw [enc24L, enc24L_eq r]; rfl
theorem enc24_eq : ∀ x : Rule, enc24 x = .agg [.int .i64 x.Kind, .int .i64 x.N, .str x.Key, .str x.Value, .sl 5 (List.map enc24 x.Kids)]
  | .mk y0 y1 y2 y3 y4 => by rw [enc24, enc24L_eq]
theorem ty23 : tyOf Try.prog 23 = some ⟨.slice 25, 1, 24, [.nil]⟩ := by kernel_rfl
theorem ty25 : tyOf Try.prog 25 = some ⟨.struct [(0, 3), (1, 3), (2, 9), (3, 9), (4, 23)], 5, 72, [.int .i64 0, .int .i64 0, .str ByteArray.empty, .str ByteArray.empty, .nil]⟩ := by kernel_rfl
theorem ent30 : Ent Try.prog 30 := ⟨_, Try.func30, by kernel_rfl, rfl⟩
theorem ent55 : Ent Try.prog 55 := ⟨_, Try.func55, by kernel_rfl, rfl⟩
theorem ent67 : Ent Try.prog 67 := ⟨_, Try.func67, by kernel_rfl, rfl⟩
theorem ent74 : Ent Try.prog 74 := ⟨_, Try.func74, by kernel_rfl, rfl⟩
theorem ent75 : Ent Try.prog 75 := ⟨_, Try.func75, by kernel_rfl, rfl⟩
theorem ent81 : Ent Try.prog 81 := ⟨_, Try.func81, by kernel_rfl, rfl⟩
theorem ent89 : Ent Try.prog 89 := ⟨_, Try.func89, by kernel_rfl, rfl⟩
def gleaninglaw13_size_b_k2 (K : Rule → Int → Option Int) (a0 : Rule) (a1 : Int) (v5_1 : Int) (v6_1 : Int) : Option ((Int × Int) ⊕ Int) :=
 gd (0 ≤ v6_1) (Option.bind (a0.Kids[(Int.toNat v6_1)]?) (fun (x25 : Rule) => Option.bind (K x25 (IntKind.i64.wrap (a1 + 1))) (fun (x26 : Int) => some (Sum.inl ((IntKind.i64.wrap (v5_1 + x26)), (IntKind.i64.wrap (v6_1 + 1)))))))
def gleaninglaw13_size_b_l1 (K : Rule → Int → Option Int) (a0 : Rule) (a1 : Int) (v5_1 : Int) (v6_1 : Int) : Option ((Int × Int) ⊕ Int) :=
 Option.bind (if (decide (v6_1 < (List.length a0.Kids : Int))) = true then (if (decide (v5_1 < 1000)) = true then (some (Sum.inl ())) else (some (Sum.inr (Sum.inr v5_1)))) else (some (Sum.inr (Sum.inr v5_1)))) (Sum.elim (fun (s : Unit) => gleaninglaw13_size_b_k2 K a0 a1 v5_1 v6_1) some)
def gleaninglaw13_size_b_k0 (K : Rule → Int → Option Int) (a0 : Rule) (a1 : Int) : Option Int :=
 loopN (fun (s : Int × Int) => gleaninglaw13_size_b_l1 K a0 a1 s.1 s.2) Fu (1, 0)
def gleaninglaw13_size_b (K : Rule → Int → Option Int) (a0 : Rule) (a1 : Int) : Option Int :=
 Option.bind (if (decide ((30 : Int) < a1)) = true then (some (Sum.inr 1000)) else (if (decide ((100 : Int) < (ByteArray.size a0.Key : Int))) = true then (some (Sum.inr 1000)) else (if (decide ((100 : Int) < (ByteArray.size a0.Value : Int))) = true then (some (Sum.inr 1000)) else (some (Sum.inl ()))))) (Sum.elim (fun (s : Unit) => gleaninglaw13_size_b_k0 K a0 a1) some)
theorem gleaninglaw13_size_b_ok (K : Rule → Int → Option Int) (hK : ∀ (a0 : Rule) (a1 : Int) {r : Int}, K a0 a1 = some r → Ok Try.prog 30 [.agg [.int .i64 a0.Kind, .int .i64 a0.N, .str a0.Key, .str a0.Value, .sl 5 (List.map enc24 a0.Kids)], .int .i64 a1] [] [] (.int .i64 r) [] []) (a0 : Rule) (a1 : Int) {r : Int} (h : gleaninglaw13_size_b K a0 a1 = some r) : Ok Try.prog 30 [.agg [.int .i64 a0.Kind, .int .i64 a0.N, .str a0.Key, .str a0.Value, .sl 5 (List.map enc24 a0.Kids)], .int .i64 a1] [] [] (.int .i64 r) [] [] := by
 unfold gleaninglaw13_size_b at h
 refine ok_of_code Try.func30 rfl (by show (2 : Nat) ≤ _; decide) (Nat.le_refl _) fun X => ?_
 refine sr fun K1 hK1 => ?_
 refine pD 2 (do_box W_ rfl rfl) ?_
 refine pa 4 (.int .i64 0) ?_
 refine en hK1 ?_
 obtain ⟨q2, h, hk3⟩ := bnd_some h
 refine aw_cut (fun s => gleaninglaw13_size_b_k0 K a0 a1 = some r ∧ s = lit [(1, .int .i64 a1), (2, .ptr 2 0 0)] [((2, 0), .box [.int .i64 a0.Kind, .int .i64 a0.N, .str a0.Key, .str a0.Value, .sl 5 (List.map enc24 a0.Kids)])] [(2, 1)] X) ?_ ?_
 ·skip
  refine sr fun K4 hK4 => ?_
  refine pm 7 (.int .i64 a1) ?_
  refine pb 8 (.bool (decide ((30 : Int) < a1))) ?_
  refine pm 9 (.bool (decide ((30 : Int) < a1))) ?_
  refine al_bool (c := (decide ((30 : Int) < a1))) 9 rfl (fun c5 => ?_) (fun c5 => ?_)
  ·have h := ifT c5 h
   refine pS 10 ?_
   refine pS 11 ?_
   refine pS 12 ?_
   refine pS 13 ?_
   refine pk 14 (.bool true) ?_
   refine pm 15 (.bool true) ?_
   refine pS 16 ?_
   refine pS 17 ?_
   refine pS 18 ?_
   refine pS 19 ?_
   refine pk 20 (.bool true) ?_
   refine en hK4 ?_
   refine aw_cond_t D_ rfl ?_
   refine sr fun K6 hK6 => ?_
   refine pa 4 (.int .i64 1000) ?_
   refine en hK6 ?_
   refine aw_ret ?_
   have h := leafR h hk3
   obtain rfl := Option.some.inj h
   exact ret_ok1 W_ W_ R_ (.inr rfl) rfl
  ·have h := ifF c5 h
   refine pf 10 (.ptr 2 0 2) ty25 ty9 ?_
   refine pl 11 (.str a0.Key) ty9 ?_
   refine pP 12 (does_len_str W_ ty9) ?_
   refine pb 13 (.bool (decide ((100 : Int) < (ByteArray.size a0.Key : Int)))) ?_
   refine pk 14 (.bool (decide ((100 : Int) < (ByteArray.size a0.Key : Int)))) ?_
   refine pm 15 (.bool (decide ((100 : Int) < (ByteArray.size a0.Key : Int)))) ?_
   refine al_bool (c := (decide ((100 : Int) < (ByteArray.size a0.Key : Int)))) 15 rfl (fun c7 => ?_) (fun c7 => ?_)
   ·have h := ifT c7 h
    refine pS 16 ?_
    refine pS 17 ?_
    refine pS 18 ?_
    refine pS 19 ?_
    refine pk 20 (.bool true) ?_
    refine en hK4 ?_
    refine aw_cond_t D_ rfl ?_
    refine sr fun K8 hK8 => ?_
    refine pa 4 (.int .i64 1000) ?_
    refine en hK8 ?_
    refine aw_ret ?_
    have h := leafR h hk3
    obtain rfl := Option.some.inj h
    exact ret_ok1 W_ W_ R_ (.inr rfl) rfl
   ·have h := ifF c7 h
    refine pf 16 (.ptr 2 0 3) ty25 ty9 ?_
    refine pl 17 (.str a0.Value) ty9 ?_
    refine pP 18 (does_len_str W_ ty9) ?_
    refine pb 19 (.bool (decide ((100 : Int) < (ByteArray.size a0.Value : Int)))) ?_
    refine pk 20 (.bool (decide ((100 : Int) < (ByteArray.size a0.Value : Int)))) ?_
    refine en hK4 ?_
    refine aw_bool (b := (decide ((100 : Int) < (ByteArray.size a0.Value : Int)))) 20 rfl (fun c9 => ?_) (fun c9 => ?_)
    ·have h := ifT c9 h
     refine aw_cond_t D_ rfl ?_
     refine sr fun K10 hK10 => ?_
     refine pa 4 (.int .i64 1000) ?_
     refine en hK10 ?_
     refine aw_ret ?_
     have h := leafR h hk3
     obtain rfl := Option.some.inj h
     exact ret_ok1 W_ W_ R_ (.inr rfl) rfl
    ·have h := ifF c9 h
     refine aw_cond_f D_ rfl ?_
     refine aw_skip ?_
     have h := leafL h hk3
     exact ⟨_, reb_lit [(1, .int .i64 a1), (2, .ptr 2 0 0)] [(2, 0)] [((2, 0), .box [.int .i64 a0.Kind, .int .i64 a0.N, .str a0.Key, .str a0.Value, .sl 5 (List.map enc24 a0.Kids)])] [(2, 1)] (ec (ec envOk_nil)) (objOk_cons W_ W_ R_ (by simp) objOk_nil) (nodup_b rfl) (nodup_b rfl) rfl rfl, h, rfl⟩
 ·rintro s ⟨h, rfl⟩
  unfold gleaninglaw13_size_b_k0 at h
  refine sr fun K11 hK11 => ?_
  refine pa 5 (.int .i64 1) ?_
  refine en hK11 ?_
  refine aw_seq_k (fun K12 hK12 => ?_)
  refine sr fun K13 hK13 => ?_
  refine pa 6 (.int .i64 0) ?_
  refine en hK13 ?_
  refine aw_block ?_
  refine aw_loop' (fun m s => ∃ (v5_1 : Int), ∃ (v6_1 : Int), loopN (fun (s : Int × Int) => gleaninglaw13_size_b_l1 K a0 a1 s.1 s.2) m (v5_1, v6_1) = some r ∧ s = lit [(1, .int .i64 a1), (2, .ptr 2 0 0), (5, .int .i64 v5_1), (6, .int .i64 v6_1)] [((2, 0), .box [.int .i64 a0.Kind, .int .i64 a0.N, .str a0.Key, .str a0.Value, .sl 5 (List.map enc24 a0.Kids)])] [(2, 1)] X) Fu
   ⟨_, reb_lit [(1, .int .i64 a1), (2, .ptr 2 0 0), (5, .int .i64 (1)), (6, .int .i64 (0))] [(2, 0)] [((2, 0), .box [.int .i64 a0.Kind, .int .i64 a0.N, .str a0.Key, .str a0.Value, .sl 5 (List.map enc24 a0.Kids)])] [(2, 1)] (ec (ec (ec (ec envOk_nil)))) (objOk_cons W_ W_ R_ (by simp) objOk_nil) (nodup_b rfl) (nodup_b rfl) rfl rfl, 1, 0, h, rfl⟩ ?_
  rintro m s ⟨v5_1, v6_1, h, rfl⟩
  obtain ⟨m1, q14, rfl, h, hq15⟩ := loop_some h
  replace h : gleaninglaw13_size_b_l1 K a0 a1 v5_1 v6_1 = some q14 := h
  unfold gleaninglaw13_size_b_l1 at h
  obtain ⟨q16, h, hk17⟩ := bnd_some h
  refine aw_cut (fun s => gleaninglaw13_size_b_k2 K a0 a1 v5_1 v6_1 = some q14 ∧ s = lit [(1, .int .i64 a1), (2, .ptr 2 0 0), (5, .int .i64 v5_1), (6, .int .i64 v6_1)] [((2, 0), .box [.int .i64 a0.Kind, .int .i64 a0.N, .str a0.Key, .str a0.Value, .sl 5 (List.map enc24 a0.Kids)])] [(2, 1)] X) ?_ ?_
  ·skip
   refine sr fun K18 hK18 => ?_
   refine pm 21 (.int .i64 v6_1) ?_
   refine pf 22 (.ptr 2 0 4) ty25 ty23 ?_
   refine pl 23 (.sl 5 (List.map enc24 a0.Kids)) ty23 ?_
   refine pP 24 ((does_len_sl W_ ty23).castp (v' := .int .i64 (List.length a0.Kids : Int)) (by exact len_map _)) ?_
   refine pb 25 (.bool (decide (v6_1 < (List.length a0.Kids : Int)))) ?_
   refine pm 26 (.bool (decide (v6_1 < (List.length a0.Kids : Int)))) ?_
   refine al_bool (c := (decide (v6_1 < (List.length a0.Kids : Int)))) 26 rfl (fun c19 => ?_) (fun c19 => ?_)
   ·have h := ifT c19 h
    refine pm 27 (.int .i64 v5_1) ?_
    refine pb 28 (.bool (decide (v5_1 < 1000))) ?_
    refine pk 29 (.bool (decide (v5_1 < 1000))) ?_
    refine en hK18 ?_
    refine aw_bool (b := (decide (v5_1 < 1000))) 29 rfl (fun c20 => ?_) (fun c20 => ?_)
    ·have h := ifT c20 h
     refine aw_cond_t D_ rfl ?_
     refine aw_skip ?_
     have h := leafL h hk17
     exact ⟨_, reb_lit [(1, .int .i64 a1), (2, .ptr 2 0 0), (5, .int .i64 v5_1), (6, .int .i64 v6_1)] [(2, 0)] [((2, 0), .box [.int .i64 a0.Kind, .int .i64 a0.N, .str a0.Key, .str a0.Value, .sl 5 (List.map enc24 a0.Kids)])] [(2, 1)] (ec (ec (ec (ec envOk_nil)))) (objOk_cons W_ W_ R_ (by simp) objOk_nil) (nodup_b rfl) (nodup_b rfl) rfl rfl, h, rfl⟩
    ·have h := ifF c20 h
     refine aw_cond_f D_ rfl ?_
     refine aw_exit ?_
     have h := leafR h hk17
     have h := leafR h hq15
     refine hK12 _ ?_
     refine sr fun K21 hK21 => ?_
     refine pm 42 (.int .i64 v5_1) ?_
     refine pa 4 (.int .i64 v5_1) ?_
     refine en hK21 ?_
     refine aw_ret ?_
     obtain rfl := Option.some.inj h
     exact ret_ok1 W_ W_ R_ (.inr rfl) rfl
   ·have h := ifF c19 h
    refine pS 27 ?_
    refine pS 28 ?_
    refine pk 29 (.bool false) ?_
    refine en hK18 ?_
    refine aw_cond_f D_ rfl ?_
    refine aw_exit ?_
    have h := leafR h hk17
    have h := leafR h hq15
    refine hK12 _ ?_
    refine sr fun K22 hK22 => ?_
    refine pm 42 (.int .i64 v5_1) ?_
    refine pa 4 (.int .i64 v5_1) ?_
    refine en hK22 ?_
    refine aw_ret ?_
    obtain rfl := Option.some.inj h
    exact ret_ok1 W_ W_ R_ (.inr rfl) rfl
  ·rintro s ⟨h, rfl⟩
   unfold gleaninglaw13_size_b_k2 at h
   refine aw_seq_k (fun K23 hK23 => ?_)
   refine aw_block ?_
   refine aw_regL ?_
   refine pm 32 (.int .i64 v5_1) ?_
   refine pf 33 (.ptr 2 0 4) ty25 ty23 ?_
   refine pl 34 (.sl 5 (List.map enc24 a0.Kids)) ty23 ?_
   refine pm 35 (.int .i64 v6_1) ?_
   obtain ⟨g24, h⟩ := gd_some h
   obtain ⟨x25, hx25, h⟩ := bnd_some h
   refine pP 36 (does_indexAddr_sl (el := .agg [.int .i64 x25.Kind, .int .i64 x25.N, .str x25.Key, .str x25.Value, .sl 5 (List.map enc24 x25.Kids)]) W_ W_ ty23 ty25 g24 (by exact map_getE (enc24_eq _) hx25)) ?_
   refine pl 37 (.agg [.int .i64 x25.Kind, .int .i64 x25.N, .str x25.Key, .str x25.Value, .sl 5 (List.map enc24 x25.Kids)]) ty25 ?_
   refine pm 38 (.int .i64 a1) ?_
   refine pb 39 (.int .i64 (IntKind.i64.wrap (a1 + 1))) ?_
   obtain ⟨x26, hx26, h⟩ := bnd_some h
   refine pD 40 (do_call0 40 false (hK x25 (IntKind.i64.wrap (a1 + 1)) hx26) rfl ent30 rfl rfl) ?_
   refine pb 41 (.int .i64 (IntKind.i64.wrap (v5_1 + x26))) ?_
   refine pa 5 (.int .i64 (IntKind.i64.wrap (v5_1 + x26))) ?_
   refine en hK23 ?_
   refine aw_regL ?_
   refine pm 30 (.int .i64 v6_1) ?_
   refine pb 31 (.int .i64 (IntKind.i64.wrap (v6_1 + 1))) ?_
   refine pa 6 (.int .i64 (IntKind.i64.wrap (v6_1 + 1))) ?_
   refine al_nil ?_
   have h := leafL h hq15
   exact ⟨m1, Nat.lt_succ_self _, _, reb_lit [(1, .int .i64 a1), (2, .ptr 2 0 0), (5, .int .i64 (IntKind.i64.wrap (v5_1 + x26))), (6, .int .i64 (IntKind.i64.wrap (v6_1 + 1)))] [(2, 0)] [((2, 0), .box [.int .i64 a0.Kind, .int .i64 a0.N, .str a0.Key, .str a0.Value, .sl 5 (List.map enc24 a0.Kids)])] [(2, 1)] (ec (ec (ec (ec envOk_nil)))) (objOk_cons W_ W_ R_ (by simp) objOk_nil) (nodup_b rfl) (nodup_b rfl) rfl rfl, (IntKind.i64.wrap (v5_1 + x26)), (IntKind.i64.wrap (v6_1 + 1)), h, rfl⟩
def gleaninglaw13_sizeN : Nat → Rule → Int → Option Int
 | 0, _, _ => none
 | n + 1, a0, a1 => gleaninglaw13_size_b (gleaninglaw13_sizeN n) a0 a1
theorem gleaninglaw13_sizeN_ok : ∀ (n : Nat) (a0 : Rule) (a1 : Int) {r : Int}, gleaninglaw13_sizeN n a0 a1 = some r → Ok Try.prog 30 [.agg [.int .i64 a0.Kind, .int .i64 a0.N, .str a0.Key, .str a0.Value, .sl 5 (List.map enc24 a0.Kids)], .int .i64 a1] [] [] (.int .i64 r) [] []
 | 0, _, _, _, h => by simp [gleaninglaw13_sizeN] at h
 | n + 1, a0, a1, _, h => gleaninglaw13_size_b_ok (gleaninglaw13_sizeN n) (gleaninglaw13_sizeN_ok n) a0 a1 h
def gleaninglaw13_size (a0 : Rule) (a1 : Int) : Option Int := gleaninglaw13_sizeN Fu a0 a1
theorem gleaninglaw13_size_ok (a0 : Rule) (a1 : Int) {r : Int} (h : gleaninglaw13_size a0 a1 = some r) : Ok Try.prog 30 [.agg [.int .i64 a0.Kind, .int .i64 a0.N, .str a0.Key, .str a0.Value, .sl 5 (List.map enc24 a0.Kids)], .int .i64 a1] [] [] (.int .i64 r) [] [] := gleaninglaw13_sizeN_ok Fu a0 a1 h
def gleaninglaw13_Few (a0 : Rule) : Option Bool :=
 Option.bind (gleaninglaw13_size a0 0) (fun (x3 : Int) => some (decide (x3 ≤ 100)))
theorem gleaninglaw13_Few_ok (a0 : Rule) {r : Bool} (h : gleaninglaw13_Few a0 = some r) : Ok Try.prog 13 [.agg [.int .i64 a0.Kind, .int .i64 a0.N, .str a0.Key, .str a0.Value, .sl 5 (List.map enc24 a0.Kids)]] [] [] (.bool r) [] [] := by
 unfold gleaninglaw13_Few at h
 refine ok_of_code Try.func13 rfl (by show (1 : Nat) ≤ _; decide) (Nat.le_refl _) fun X => ?_
 refine sr fun K1 hK1 => ?_
 refine pD 1 (do_box W_ rfl rfl) ?_
 refine pa 2 (.bool false) ?_
 refine en hK1 ?_
 refine sr fun K2 hK2 => ?_
 refine pl 3 (.agg [.int .i64 a0.Kind, .int .i64 a0.N, .str a0.Key, .str a0.Value, .sl 5 (List.map enc24 a0.Kids)]) ty25 ?_
 obtain ⟨x3, hx3, h⟩ := bnd_some h
 refine pD 4 (do_call0 4 false (gleaninglaw13_size_ok a0 0 hx3) rfl ent30 rfl rfl) ?_
 refine pb 5 (.bool (decide (x3 ≤ 100))) ?_
 refine pa 2 (.bool (decide (x3 ≤ 100))) ?_
 refine en hK2 ?_
 refine aw_ret ?_
 obtain rfl := Option.some.inj h
 exact ret_ok1 W_ W_ R_ (.inr rfl) rfl
inductive Rule.wf : Rule → Prop
 | mk {y0 : Int} {y1 : Int} {y2 : ByteArray} {y3 : ByteArray} {y4 : List Rule} : (inI .i64 y0) → (inI .i64 y1) → ((ByteArray.size y2) ≤ maxLen) → ((ByteArray.size y3) ≤ maxLen) → List.length y4 ≤ maxLen → (∀ y ∈ y4, Rule.wf y) → Rule.wf (.mk y0 y1 y2 y3 y4)
theorem sh25 : ∀ (m : Nat) (cs : List PV), Shape Try.prog m 25 cs → ∃ a : Rule, cs = [.int .i64 a.Kind, .int .i64 a.N, .str a.Key, .str a.Value, .sl 5 (List.map enc24 a.Kids)] ∧ (Rule.wf a) := fun m => Nat.strongRecOn m fun m ih cs => by
 intro h
 obtain ⟨hl, m', hm, hf⟩ := shape_structR h Try.underlying25
 have f0 := hf 0 _ rfl
 obtain ⟨a0, e0, w0⟩ := sh3 _ _ f0
 rw [show Try.prog.cellsOf _ = 1 by kernel_rfl] at e0
 have f1 := hf 1 _ rfl
 obtain ⟨a1, e1, w1⟩ := sh3 _ _ f1
 rw [show Try.prog.cellsOf _ = 1 by kernel_rfl] at e1
 have f2 := hf 2 _ rfl
 obtain ⟨a2, e2, w2⟩ := sh9 _ _ f2
 rw [show Try.prog.cellsOf _ = 1 by kernel_rfl] at e2
 have f3 := hf 3 _ rfl
 obtain ⟨a3, e3, w3⟩ := sh9 _ _ f3
 rw [show Try.prog.cellsOf _ = 1 by kernel_rfl] at e3
 have f4 := hf 4 _ rfl
 obtain ⟨a4, e4, w4, v4⟩ := shape_rowsR (f := enc24) (Q := Rule.wf) f4 Try.underlying23 (fun k hk ps hs => by
  obtain ⟨a, rfl, hw⟩ := ih k (by omega) ps hs
  exact ⟨a, by rw [show aggT Try.prog 25 = true by kernel_rfl]; exact (enc24_eq a).symm, hw⟩)
 rw [show Try.prog.cellsOf 25 = 5 by kernel_rfl] at e4
 rw [show Try.prog.cellsOf _ = 1 by kernel_rfl] at e4
 exact ⟨⟨a0, a1, a2, a3, a4⟩, tile_all (l := [(1, [.int .i64 a0]), (1, [.int .i64 a1]), (1, [.str a2]), (1, [.str a3]), (1, [.sl 5 (List.map enc24 a4)])]) ⟨e0, e1, e2, e3, e4, trivial⟩ hl (by kernel_rfl), .mk w0 w1 w2 w3 w4 v4⟩
def rule_top_k0 (a0 : Int) (v6_0 : Bool) : Option Int :=
 if v6_0 = true then (some 1000) else (if (a0 == 9) = true then (some 1000000) else (some (-1)))
def rule_top (a0 : Int) : Option Int :=
 if (a0 == 4) = true then (some 1073741824) else (Option.bind (if (a0 == 7) = true then (some true) else (some (a0 == 8))) (fun (s : Bool) => rule_top_k0 a0 s))
theorem rule_top_ok (a0 : Int) {r : Int} (h : rule_top a0 = some r) : Ok Try.prog 67 [.int .i64 a0] [] [] (.int .i64 r) [] [] := by
 unfold rule_top at h
 refine ok_of_code Try.func67 rfl (by show (1 : Nat) ≤ _; decide) (Nat.le_refl _) fun X => ?_
 refine sr fun K1 hK1 => ?_
 refine pa 2 (.int .i64 0) ?_
 refine en hK1 ?_
 refine aw_seq_k (fun K2 hK2 => ?_)
 refine sr fun K3 hK3 => ?_
 refine pm 3 (.int .i64 a0) ?_
 refine en hK3 ?_
 refine aw_block ?_
 refine sr fun K4 hK4 => ?_
 refine pb 5 (.bool (a0 == 4)) ?_
 refine pa 4 (.bool (a0 == 4)) ?_
 refine en hK4 ?_
 refine aw_bool (b := (a0 == 4)) 4 rfl (fun c5 => ?_) (fun c5 => ?_)
 ·have h := ifT c5 h
  refine aw_cond_t D_ rfl ?_
  refine sr fun K6 hK6 => ?_
  refine pa 2 (.int .i64 1073741824) ?_
  refine en hK6 ?_
  refine aw_ret ?_
  obtain rfl := Option.some.inj h
  exact ret_ok1 W_ W_ R_ (.inr rfl) rfl
 ·have h := ifF c5 h
  refine aw_cond_f D_ rfl ?_
  obtain ⟨q7, h, hk8⟩ := bnd_some h
  refine aw_cut (fun s => ∃ (v6_0 : Bool), rule_top_k0 a0 v6_0 = some r ∧ s = lit [(3, .int .i64 a0), (6, .bool v6_0)] [] [] X) ?_ ?_
  ·skip
   refine sr fun K9 hK9 => ?_
   refine pb 7 (.bool (a0 == 7)) ?_
   refine pa 6 (.bool (a0 == 7)) ?_
   refine en hK9 ?_
   refine aw_bool (b := (a0 == 7)) 6 rfl (fun c10 => ?_) (fun c10 => ?_)
   ·have h := ifT c10 h
    refine aw_cond_t D_ rfl ?_
    refine aw_skip ?_
    obtain rfl := Option.some.inj h
    have h := hk8
    exact ⟨_, reb_lit [(3, .int .i64 a0), (6, .bool true)] [] [] [] (ec (ec envOk_nil)) objOk_nil (nodup_b rfl) (nodup_b rfl) rfl rfl, true, h, rfl⟩
   ·have h := ifF c10 h
    refine aw_cond_f D_ rfl ?_
    refine aw_regL ?_
    refine pb 8 (.bool (a0 == 8)) ?_
    refine pa 6 (.bool (a0 == 8)) ?_
    refine al_nil ?_
    obtain rfl := Option.some.inj h
    have h := hk8
    exact ⟨_, reb_lit [(3, .int .i64 a0), (6, .bool (a0 == 8))] [] [] [] (ec (ec envOk_nil)) objOk_nil (nodup_b rfl) (nodup_b rfl) rfl rfl, (a0 == 8), h, rfl⟩
  ·rintro s ⟨v6_0, h, rfl⟩
   unfold rule_top_k0 at h
   refine aw_bool (b := v6_0) 6 rfl (fun c11 => ?_) (fun c11 => ?_)
   ·have h := ifT c11 h
    refine aw_cond_t D_ rfl ?_
    refine sr fun K12 hK12 => ?_
    refine pa 2 (.int .i64 1000) ?_
    refine en hK12 ?_
    refine aw_ret ?_
    obtain rfl := Option.some.inj h
    exact ret_ok1 W_ W_ R_ (.inr rfl) rfl
   ·have h := ifF c11 h
    refine aw_cond_f D_ rfl ?_
    refine sr fun K13 hK13 => ?_
    refine pb 10 (.bool (a0 == 9)) ?_
    refine pa 9 (.bool (a0 == 9)) ?_
    refine en hK13 ?_
    refine aw_bool (b := (a0 == 9)) 9 rfl (fun c14 => ?_) (fun c14 => ?_)
    ·have h := ifT c14 h
     refine aw_cond_t D_ rfl ?_
     refine sr fun K15 hK15 => ?_
     refine pa 2 (.int .i64 1000000) ?_
     refine en hK15 ?_
     refine aw_ret ?_
     obtain rfl := Option.some.inj h
     exact ret_ok1 W_ W_ R_ (.inr rfl) rfl
    ·have h := ifF c14 h
     refine aw_cond_f D_ rfl ?_
     refine aw_skip ?_
     refine hK2 _ ?_
     refine sr fun K16 hK16 => ?_
     refine pa 2 (.int .i64 (-1)) ?_
     refine en hK16 ?_
     refine aw_ret ?_
     obtain rfl := Option.some.inj h
     exact ret_ok1 W_ W_ R_ (.inr rfl) rfl
def rule_own_k2 (a0 : Rule) (v3_0 : Bool) (v14_2 : Bool) : Option (Unit ⊕ Bool) :=
 if v14_2 = true then (if (a0.N == 0) = true then (some (Sum.inr v3_0)) else (some (Sum.inr false))) else (if (a0.Kind == 3) = true then (if (a0.N == 0) = true then (if v3_0 = true then (some (Sum.inr ((List.length a0.Kids : Int) == 1))) else (some (Sum.inr false))) else (some (Sum.inr false))) else (if (a0.Kind == 5) = true then (if (a0.N == 0) = true then (if v3_0 = true then (some (Sum.inr ((List.length a0.Kids : Int) == 0))) else (some (Sum.inr false))) else (some (Sum.inr false))) else (if (a0.Kind == 6) = true then (if (a0.N == 0) = true then (Option.bind (span_Name a0.Key) (fun (x29 : Bool) => if x29 = true then (if (decide ((ByteArray.size a0.Value : Int) ≤ 16)) = true then (some (Sum.inr ((List.length a0.Kids : Int) == 0))) else (some (Sum.inr false))) else (some (Sum.inr false)))) else (some (Sum.inr false))) else (some (Sum.inl ())))))
def rule_own_k1 (a0 : Rule) (v3_0 : Bool) : Option Bool :=
 if v3_0 = true then (if (decide ((0 : Int) ≤ a0.N)) = true then (Option.bind (rule_top a0.Kind) (fun (x35 : Int) => if (decide (a0.N ≤ x35)) = true then (some ((List.length a0.Kids : Int) == 0)) else (some false))) else (some false)) else (some false)
def rule_own_k0 (a0 : Rule) (v3_0 : Bool) : Option Bool :=
 Option.bind (Option.bind (if (a0.Kind == 1) = true then (some true) else (some (a0.Kind == 2))) (fun (s : Bool) => rule_own_k2 a0 v3_0 s)) (Sum.elim (fun (s : Unit) => rule_own_k1 a0 v3_0) some)
def rule_own (a0 : Rule) : Option Bool :=
 Option.bind (if (ByteArray.toList a0.Key == ByteArray.toList (strOf [])) = true then (some (ByteArray.toList a0.Value == ByteArray.toList (strOf []))) else (some false)) (fun (s : Bool) => rule_own_k0 a0 s)
theorem rule_own_ok (a0 : Rule) {r : Bool} (h : rule_own a0 = some r) : Ok Try.prog 81 [.agg [.int .i64 a0.Kind, .int .i64 a0.N, .str a0.Key, .str a0.Value, .sl 5 (List.map enc24 a0.Kids)]] [] [] (.bool r) [] [] := by
 unfold rule_own at h
 refine ok_of_code Try.func81 rfl (by show (1 : Nat) ≤ _; decide) (Nat.le_refl _) fun X => ?_
 refine sr fun K1 hK1 => ?_
 refine pD 1 (do_box W_ rfl rfl) ?_
 refine pa 2 (.bool false) ?_
 refine en hK1 ?_
 obtain ⟨q2, h, hk3⟩ := bnd_some h
 refine aw_cut (fun s => ∃ (v3_0 : Bool), rule_own_k0 a0 v3_0 = some r ∧ s = lit [(1, .ptr 1 0 0), (3, .bool v3_0)] [((1, 0), .box [.int .i64 a0.Kind, .int .i64 a0.N, .str a0.Key, .str a0.Value, .sl 5 (List.map enc24 a0.Kids)])] [(1, 1)] X) ?_ ?_
 ·skip
  refine aw_regL ?_
  refine pf 4 (.ptr 1 0 2) ty25 ty9 ?_
  refine pl 5 (.str a0.Key) ty9 ?_
  refine pb 6 (.bool (ByteArray.toList a0.Key == ByteArray.toList (strOf []))) ?_
  refine pm 7 (.bool (ByteArray.toList a0.Key == ByteArray.toList (strOf []))) ?_
  refine al_bool (c := (ByteArray.toList a0.Key == ByteArray.toList (strOf []))) 7 rfl (fun c4 => ?_) (fun c4 => ?_)
  ·have h := ifT c4 h
   refine pf 8 (.ptr 1 0 3) ty25 ty9 ?_
   refine pl 9 (.str a0.Value) ty9 ?_
   refine pb 10 (.bool (ByteArray.toList a0.Value == ByteArray.toList (strOf []))) ?_
   refine pk 11 (.bool (ByteArray.toList a0.Value == ByteArray.toList (strOf []))) ?_
   refine pa 3 (.bool (ByteArray.toList a0.Value == ByteArray.toList (strOf []))) ?_
   refine al_nil ?_
   obtain rfl := Option.some.inj h
   have h := hk3
   exact ⟨_, reb_lit [(1, .ptr 1 0 0), (3, .bool (ByteArray.toList a0.Value == ByteArray.toList (strOf [])))] [(1, 0)] [((1, 0), .box [.int .i64 a0.Kind, .int .i64 a0.N, .str a0.Key, .str a0.Value, .sl 5 (List.map enc24 a0.Kids)])] [(1, 1)] (ec (ec envOk_nil)) (objOk_cons W_ W_ R_ (by simp) objOk_nil) (nodup_b rfl) (nodup_b rfl) rfl rfl, (ByteArray.toList a0.Value == ByteArray.toList (strOf [])), h, rfl⟩
  ·have h := ifF c4 h
   refine pS 8 ?_
   refine pS 9 ?_
   refine pS 10 ?_
   refine pk 11 (.bool false) ?_
   refine pa 3 (.bool false) ?_
   refine al_nil ?_
   obtain rfl := Option.some.inj h
   have h := hk3
   exact ⟨_, reb_lit [(1, .ptr 1 0 0), (3, .bool false)] [(1, 0)] [((1, 0), .box [.int .i64 a0.Kind, .int .i64 a0.N, .str a0.Key, .str a0.Value, .sl 5 (List.map enc24 a0.Kids)])] [(1, 1)] (ec (ec envOk_nil)) (objOk_cons W_ W_ R_ (by simp) objOk_nil) (nodup_b rfl) (nodup_b rfl) rfl rfl, false, h, rfl⟩
 ·rintro s ⟨v3_0, h, rfl⟩
  unfold rule_own_k0 at h
  obtain ⟨q5, h, hk6⟩ := bnd_some h
  refine aw_cut (fun s => rule_own_k1 a0 v3_0 = some r ∧ s = lit [(1, .ptr 1 0 0), (3, .bool v3_0)] [((1, 0), .box [.int .i64 a0.Kind, .int .i64 a0.N, .str a0.Key, .str a0.Value, .sl 5 (List.map enc24 a0.Kids)])] [(1, 1)] X) ?_ ?_
  ·skip
   refine sr fun K7 hK7 => ?_
   refine pf 12 (.ptr 1 0 0) ty25 ty3 ?_
   refine pl 13 (.int .i64 a0.Kind) ty3 ?_
   refine en hK7 ?_
   refine aw_block ?_
   obtain ⟨q8, h, hk9⟩ := bnd_some h
   refine aw_cut (fun s => ∃ (v14_2 : Bool), rule_own_k2 a0 v3_0 v14_2 = some q5 ∧ s = lit [(1, .ptr 1 0 0), (3, .bool v3_0), (13, .int .i64 a0.Kind), (14, .bool v14_2)] [((1, 0), .box [.int .i64 a0.Kind, .int .i64 a0.N, .str a0.Key, .str a0.Value, .sl 5 (List.map enc24 a0.Kids)])] [(1, 1)] X) ?_ ?_
   ·skip
    refine sr fun K10 hK10 => ?_
    refine pb 15 (.bool (a0.Kind == 1)) ?_
    refine pa 14 (.bool (a0.Kind == 1)) ?_
    refine en hK10 ?_
    refine aw_bool (b := (a0.Kind == 1)) 14 rfl (fun c11 => ?_) (fun c11 => ?_)
    ·have h := ifT c11 h
     refine aw_cond_t D_ rfl ?_
     refine aw_skip ?_
     obtain rfl := Option.some.inj h
     have h := hk9
     exact ⟨_, reb_lit [(1, .ptr 1 0 0), (3, .bool v3_0), (13, .int .i64 a0.Kind), (14, .bool true)] [(1, 0)] [((1, 0), .box [.int .i64 a0.Kind, .int .i64 a0.N, .str a0.Key, .str a0.Value, .sl 5 (List.map enc24 a0.Kids)])] [(1, 1)] (ec (ec (ec (ec envOk_nil)))) (objOk_cons W_ W_ R_ (by simp) objOk_nil) (nodup_b rfl) (nodup_b rfl) rfl rfl, true, h, rfl⟩
    ·have h := ifF c11 h
     refine aw_cond_f D_ rfl ?_
     refine aw_regL ?_
     refine pb 16 (.bool (a0.Kind == 2)) ?_
     refine pa 14 (.bool (a0.Kind == 2)) ?_
     refine al_nil ?_
     obtain rfl := Option.some.inj h
     have h := hk9
     exact ⟨_, reb_lit [(1, .ptr 1 0 0), (3, .bool v3_0), (13, .int .i64 a0.Kind), (14, .bool (a0.Kind == 2))] [(1, 0)] [((1, 0), .box [.int .i64 a0.Kind, .int .i64 a0.N, .str a0.Key, .str a0.Value, .sl 5 (List.map enc24 a0.Kids)])] [(1, 1)] (ec (ec (ec (ec envOk_nil)))) (objOk_cons W_ W_ R_ (by simp) objOk_nil) (nodup_b rfl) (nodup_b rfl) rfl rfl, (a0.Kind == 2), h, rfl⟩
   ·rintro s ⟨v14_2, h, rfl⟩
    unfold rule_own_k2 at h
    refine aw_bool (b := v14_2) 14 rfl (fun c12 => ?_) (fun c12 => ?_)
    ·have h := ifT c12 h
     refine aw_cond_t D_ rfl ?_
     refine sr fun K13 hK13 => ?_
     refine pf 17 (.ptr 1 0 1) ty25 ty3 ?_
     refine pl 18 (.int .i64 a0.N) ty3 ?_
     refine pb 19 (.bool (a0.N == 0)) ?_
     refine pm 20 (.bool (a0.N == 0)) ?_
     refine al_bool (c := (a0.N == 0)) 20 rfl (fun c14 => ?_) (fun c14 => ?_)
     ·have h := ifT c14 h
      refine pm 21 (.bool v3_0) ?_
      refine pk 22 (.bool v3_0) ?_
      refine pa 2 (.bool v3_0) ?_
      refine en hK13 ?_
      refine aw_ret ?_
      have h := leafR h hk6
      obtain rfl := Option.some.inj h
      exact ret_ok1 W_ W_ R_ (.inr rfl) rfl
     ·have h := ifF c14 h
      refine pS 21 ?_
      refine pk 22 (.bool false) ?_
      refine pa 2 (.bool false) ?_
      refine en hK13 ?_
      refine aw_ret ?_
      have h := leafR h hk6
      obtain rfl := Option.some.inj h
      exact ret_ok1 W_ W_ R_ (.inr rfl) rfl
    ·have h := ifF c12 h
     refine aw_cond_f D_ rfl ?_
     refine sr fun K15 hK15 => ?_
     refine pb 24 (.bool (a0.Kind == 3)) ?_
     refine pa 23 (.bool (a0.Kind == 3)) ?_
     refine en hK15 ?_
     refine aw_bool (b := (a0.Kind == 3)) 23 rfl (fun c16 => ?_) (fun c16 => ?_)
     ·have h := ifT c16 h
      refine aw_cond_t D_ rfl ?_
      refine sr fun K17 hK17 => ?_
      refine pf 25 (.ptr 1 0 1) ty25 ty3 ?_
      refine pl 26 (.int .i64 a0.N) ty3 ?_
      refine pb 27 (.bool (a0.N == 0)) ?_
      refine pm 28 (.bool (a0.N == 0)) ?_
      refine al_bool (c := (a0.N == 0)) 28 rfl (fun c18 => ?_) (fun c18 => ?_)
      ·have h := ifT c18 h
       refine pm 29 (.bool v3_0) ?_
       refine pk 30 (.bool v3_0) ?_
       refine pm 31 (.bool v3_0) ?_
       refine al_bool (c := v3_0) 31 rfl (fun c19 => ?_) (fun c19 => ?_)
       ·have h := ifT c19 h
        refine pf 32 (.ptr 1 0 4) ty25 ty23 ?_
        refine pl 33 (.sl 5 (List.map enc24 a0.Kids)) ty23 ?_
        refine pP 34 ((does_len_sl W_ ty23).castp (v' := .int .i64 (List.length a0.Kids : Int)) (by exact len_map _)) ?_
        refine pb 35 (.bool ((List.length a0.Kids : Int) == 1)) ?_
        refine pk 36 (.bool ((List.length a0.Kids : Int) == 1)) ?_
        refine pa 2 (.bool ((List.length a0.Kids : Int) == 1)) ?_
        refine en hK17 ?_
        refine aw_ret ?_
        have h := leafR h hk6
        obtain rfl := Option.some.inj h
        exact ret_ok1 W_ W_ R_ (.inr rfl) rfl
       ·have h := ifF c19 h
        refine pS 32 ?_
        refine pS 33 ?_
        refine pS 34 ?_
        refine pS 35 ?_
        refine pk 36 (.bool false) ?_
        refine pa 2 (.bool false) ?_
        refine en hK17 ?_
        refine aw_ret ?_
        have h := leafR h hk6
        obtain rfl := Option.some.inj h
        exact ret_ok1 W_ W_ R_ (.inr rfl) rfl
      ·have h := ifF c18 h
       refine pS 29 ?_
       refine pk 30 (.bool false) ?_
       refine pm 31 (.bool false) ?_
       refine pS 32 ?_
       refine pS 33 ?_
       refine pS 34 ?_
       refine pS 35 ?_
       refine pk 36 (.bool false) ?_
       refine pa 2 (.bool false) ?_
       refine en hK17 ?_
       refine aw_ret ?_
       have h := leafR h hk6
       obtain rfl := Option.some.inj h
       exact ret_ok1 W_ W_ R_ (.inr rfl) rfl
     ·have h := ifF c16 h
      refine aw_cond_f D_ rfl ?_
      refine sr fun K20 hK20 => ?_
      refine pb 38 (.bool (a0.Kind == 5)) ?_
      refine pa 37 (.bool (a0.Kind == 5)) ?_
      refine en hK20 ?_
      refine aw_bool (b := (a0.Kind == 5)) 37 rfl (fun c21 => ?_) (fun c21 => ?_)
      ·have h := ifT c21 h
       refine aw_cond_t D_ rfl ?_
       refine sr fun K22 hK22 => ?_
       refine pf 39 (.ptr 1 0 1) ty25 ty3 ?_
       refine pl 40 (.int .i64 a0.N) ty3 ?_
       refine pb 41 (.bool (a0.N == 0)) ?_
       refine pm 42 (.bool (a0.N == 0)) ?_
       refine al_bool (c := (a0.N == 0)) 42 rfl (fun c23 => ?_) (fun c23 => ?_)
       ·have h := ifT c23 h
        refine pm 43 (.bool v3_0) ?_
        refine pk 44 (.bool v3_0) ?_
        refine pm 45 (.bool v3_0) ?_
        refine al_bool (c := v3_0) 45 rfl (fun c24 => ?_) (fun c24 => ?_)
        ·have h := ifT c24 h
         refine pf 46 (.ptr 1 0 4) ty25 ty23 ?_
         refine pl 47 (.sl 5 (List.map enc24 a0.Kids)) ty23 ?_
         refine pP 48 ((does_len_sl W_ ty23).castp (v' := .int .i64 (List.length a0.Kids : Int)) (by exact len_map _)) ?_
         refine pb 49 (.bool ((List.length a0.Kids : Int) == 0)) ?_
         refine pk 50 (.bool ((List.length a0.Kids : Int) == 0)) ?_
         refine pa 2 (.bool ((List.length a0.Kids : Int) == 0)) ?_
         refine en hK22 ?_
         refine aw_ret ?_
         have h := leafR h hk6
         obtain rfl := Option.some.inj h
         exact ret_ok1 W_ W_ R_ (.inr rfl) rfl
        ·have h := ifF c24 h
         refine pS 46 ?_
         refine pS 47 ?_
         refine pS 48 ?_
         refine pS 49 ?_
         refine pk 50 (.bool false) ?_
         refine pa 2 (.bool false) ?_
         refine en hK22 ?_
         refine aw_ret ?_
         have h := leafR h hk6
         obtain rfl := Option.some.inj h
         exact ret_ok1 W_ W_ R_ (.inr rfl) rfl
       ·have h := ifF c23 h
        refine pS 43 ?_
        refine pk 44 (.bool false) ?_
        refine pm 45 (.bool false) ?_
        refine pS 46 ?_
        refine pS 47 ?_
        refine pS 48 ?_
        refine pS 49 ?_
        refine pk 50 (.bool false) ?_
        refine pa 2 (.bool false) ?_
        refine en hK22 ?_
        refine aw_ret ?_
        have h := leafR h hk6
        obtain rfl := Option.some.inj h
        exact ret_ok1 W_ W_ R_ (.inr rfl) rfl
      ·have h := ifF c21 h
       refine aw_cond_f D_ rfl ?_
       refine sr fun K25 hK25 => ?_
       refine pb 52 (.bool (a0.Kind == 6)) ?_
       refine pa 51 (.bool (a0.Kind == 6)) ?_
       refine en hK25 ?_
       refine aw_bool (b := (a0.Kind == 6)) 51 rfl (fun c26 => ?_) (fun c26 => ?_)
       ·have h := ifT c26 h
        refine aw_cond_t D_ rfl ?_
        refine sr fun K27 hK27 => ?_
        refine pf 53 (.ptr 1 0 1) ty25 ty3 ?_
        refine pl 54 (.int .i64 a0.N) ty3 ?_
        refine pb 55 (.bool (a0.N == 0)) ?_
        refine pm 56 (.bool (a0.N == 0)) ?_
        refine al_bool (c := (a0.N == 0)) 56 rfl (fun c28 => ?_) (fun c28 => ?_)
        ·have h := ifT c28 h
         refine pf 57 (.ptr 1 0 2) ty25 ty9 ?_
         refine pl 58 (.str a0.Key) ty9 ?_
         obtain ⟨x29, hx29, h⟩ := bnd_some h
         refine pD 59 ((do_call0 59 false (span_Name_ok a0.Key hx29) rfl ent84 rfl rfl).fx (y := ⟨[], .bool x29, [], [59]⟩) rfl) ?_
         refine pk 60 (.bool x29) ?_
         refine pm 61 (.bool x29) ?_
         refine al_bool (c := x29) 61 rfl (fun c30 => ?_) (fun c30 => ?_)
         ·have h := ifT c30 h
          refine pf 62 (.ptr 1 0 3) ty25 ty9 ?_
          refine pl 63 (.str a0.Value) ty9 ?_
          refine pP 64 (does_len_str W_ ty9) ?_
          refine pb 65 (.bool (decide ((ByteArray.size a0.Value : Int) ≤ 16))) ?_
          refine pk 66 (.bool (decide ((ByteArray.size a0.Value : Int) ≤ 16))) ?_
          refine pm 67 (.bool (decide ((ByteArray.size a0.Value : Int) ≤ 16))) ?_
          refine al_bool (c := (decide ((ByteArray.size a0.Value : Int) ≤ 16))) 67 rfl (fun c31 => ?_) (fun c31 => ?_)
          ·have h := ifT c31 h
           refine pf 68 (.ptr 1 0 4) ty25 ty23 ?_
           refine pl 69 (.sl 5 (List.map enc24 a0.Kids)) ty23 ?_
           refine pP 70 ((does_len_sl W_ ty23).castp (v' := .int .i64 (List.length a0.Kids : Int)) (by exact len_map _)) ?_
           refine pb 71 (.bool ((List.length a0.Kids : Int) == 0)) ?_
           refine pk 72 (.bool ((List.length a0.Kids : Int) == 0)) ?_
           refine pa 2 (.bool ((List.length a0.Kids : Int) == 0)) ?_
           refine en hK27 ?_
           refine aw_ret ?_
           have h := leafR h hk6
           obtain rfl := Option.some.inj h
           exact ret_ok1 W_ W_ R_ (.inr rfl) rfl
          ·have h := ifF c31 h
           refine pS 68 ?_
           refine pS 69 ?_
           refine pS 70 ?_
           refine pS 71 ?_
           refine pk 72 (.bool false) ?_
           refine pa 2 (.bool false) ?_
           refine en hK27 ?_
           refine aw_ret ?_
           have h := leafR h hk6
           obtain rfl := Option.some.inj h
           exact ret_ok1 W_ W_ R_ (.inr rfl) rfl
         ·have h := ifF c30 h
          refine pS 62 ?_
          refine pS 63 ?_
          refine pS 64 ?_
          refine pS 65 ?_
          refine pk 66 (.bool false) ?_
          refine pm 67 (.bool false) ?_
          refine pS 68 ?_
          refine pS 69 ?_
          refine pS 70 ?_
          refine pS 71 ?_
          refine pk 72 (.bool false) ?_
          refine pa 2 (.bool false) ?_
          refine en hK27 ?_
          refine aw_ret ?_
          have h := leafR h hk6
          obtain rfl := Option.some.inj h
          exact ret_ok1 W_ W_ R_ (.inr rfl) rfl
        ·have h := ifF c28 h
         refine pS 57 ?_
         refine pS 58 ?_
         refine pS 59 ?_
         refine pk 60 (.bool false) ?_
         refine pm 61 (.bool false) ?_
         refine pS 62 ?_
         refine pS 63 ?_
         refine pS 64 ?_
         refine pS 65 ?_
         refine pk 66 (.bool false) ?_
         refine pm 67 (.bool false) ?_
         refine pS 68 ?_
         refine pS 69 ?_
         refine pS 70 ?_
         refine pS 71 ?_
         refine pk 72 (.bool false) ?_
         refine pa 2 (.bool false) ?_
         refine en hK27 ?_
         refine aw_ret ?_
         have h := leafR h hk6
         obtain rfl := Option.some.inj h
         exact ret_ok1 W_ W_ R_ (.inr rfl) rfl
       ·have h := ifF c26 h
        refine aw_cond_f D_ rfl ?_
        refine aw_skip ?_
        have h := leafL h hk6
        exact ⟨_, reb_lit [(1, .ptr 1 0 0), (3, .bool v3_0)] [(1, 0)] [((1, 0), .box [.int .i64 a0.Kind, .int .i64 a0.N, .str a0.Key, .str a0.Value, .sl 5 (List.map enc24 a0.Kids)])] [(1, 1)] (ec (ec envOk_nil)) (objOk_cons W_ W_ R_ (by simp) objOk_nil) (nodup_b rfl) (nodup_b rfl) rfl rfl, h, rfl⟩
  ·rintro s ⟨h, rfl⟩
   unfold rule_own_k1 at h
   refine aw_seq_k (fun K32 hK32 => ?_)
   refine aw_regd (by kernel_rfl) (by decide +kernel) ?_
   refine qP 73 (does_move (v := .bool v3_0) R_) ?_
   refine qP 74 (does_move (v := .bool v3_0) R_) ?_
   refine ao_bool (c := v3_0) 74 rfl (fun c33 => ?_) (fun c33 => ?_)
   ·have h := ifT c33 h
    refine qP 75 (does_fieldAddr (q := .ptr 1 0 1) W_ ty25 rfl ty3 D_ R_) ?_
    refine qR 76 (does_load (v := .int .i64 a0.N) W_ W_ ty3 R_) ?_
    refine qP 77 (does_bin (v := .bool (decide ((0 : Int) ≤ a0.N))) W_ W_ rfl) ?_
    refine qP 78 (does_pick (v := .bool (decide ((0 : Int) ≤ a0.N))) W_ R_) ?_
    refine qP 79 (does_move (v := .bool (decide ((0 : Int) ≤ a0.N))) R_) ?_
    refine ao_bool (c := (decide ((0 : Int) ≤ a0.N))) 79 rfl (fun c34 => ?_) (fun c34 => ?_)
    ·have h := ifT c34 h
     refine qP 80 (does_fieldAddr (q := .ptr 1 0 1) W_ ty25 rfl ty3 D_ R_) ?_
     refine qR 81 (does_load (v := .int .i64 a0.N) W_ W_ ty3 R_) ?_
     refine qP 82 (does_fieldAddr (q := .ptr 1 0 0) W_ ty25 rfl ty3 D_ R_) ?_
     refine qR 83 (does_load (v := .int .i64 a0.Kind) W_ W_ ty3 R_) ?_
     obtain ⟨x35, hx35, h⟩ := bnd_some h
     refine qD 84 ((do_call0 84 false (rule_top_ok a0.Kind hx35) rfl ent67 rfl rfl).fx (y := ⟨[], .int .i64 x35, [], [84]⟩) rfl) ?_
     refine qP 85 (does_bin (v := .bool (decide (a0.N ≤ x35))) W_ W_ rfl) ?_
     refine qP 86 (does_pick (v := .bool (decide (a0.N ≤ x35))) W_ R_) ?_
     refine qP 87 (does_move (v := .bool (decide (a0.N ≤ x35))) R_) ?_
     refine ao_bool (c := (decide (a0.N ≤ x35))) 87 rfl (fun c36 => ?_) (fun c36 => ?_)
     ·have h := ifT c36 h
      refine qP 88 (does_fieldAddr (q := .ptr 1 0 4) W_ ty25 rfl ty23 D_ R_) ?_
      refine qR 89 (does_load (v := .sl 5 (List.map enc24 a0.Kids)) W_ W_ ty23 R_) ?_
      refine qP 90 ((does_len_sl W_ ty23).castp (v' := .int .i64 (List.length a0.Kids : Int)) (by exact len_map _)) ?_
      refine qP 91 (does_bin (v := .bool ((List.length a0.Kids : Int) == 0)) W_ W_ rfl) ?_
      refine qP 92 (does_pick (v := .bool ((List.length a0.Kids : Int) == 0)) W_ R_) ?_
      refine qP 2 (does_assign (v := .bool ((List.length a0.Kids : Int) == 0)) R_) ?_
      refine ao_nil_d (by kernel_rfl) ?_
      refine hK32 _ ?_
      refine aw_ret ?_
      obtain rfl := Option.some.inj h
      exact ret_ok1 W_ W_ R_ (.inr rfl) rfl
     ·have h := ifF c36 h
      refine qS 88 ?_
      refine qS 89 ?_
      refine qS 90 ?_
      refine qS 91 ?_
      refine qP 92 (does_pick (v := .bool false) W_ R_) ?_
      refine qP 2 (does_assign (v := .bool false) R_) ?_
      refine ao_nil_d (by kernel_rfl) ?_
      refine hK32 _ ?_
      refine aw_ret ?_
      obtain rfl := Option.some.inj h
      exact ret_ok1 W_ W_ R_ (.inr rfl) rfl
    ·have h := ifF c34 h
     refine qS 80 ?_
     refine qS 81 ?_
     refine qS 82 ?_
     refine qS 83 ?_
     refine qS 84 ?_
     refine qS 85 ?_
     refine qP 86 (does_pick (v := .bool false) W_ R_) ?_
     refine qP 87 (does_move (v := .bool false) R_) ?_
     refine qS 88 ?_
     refine qS 89 ?_
     refine qS 90 ?_
     refine qS 91 ?_
     refine qP 92 (does_pick (v := .bool false) W_ R_) ?_
     refine qP 2 (does_assign (v := .bool false) R_) ?_
     refine ao_nil_d (by kernel_rfl) ?_
     refine hK32 _ ?_
     refine aw_ret ?_
     obtain rfl := Option.some.inj h
     exact ret_ok1 W_ W_ R_ (.inr rfl) rfl
   ·have h := ifF c33 h
    refine qS 75 ?_
    refine qS 76 ?_
    refine qS 77 ?_
    refine qP 78 (does_pick (v := .bool false) W_ R_) ?_
    refine qP 79 (does_move (v := .bool false) R_) ?_
    refine qS 80 ?_
    refine qS 81 ?_
    refine qS 82 ?_
    refine qS 83 ?_
    refine qS 84 ?_
    refine qS 85 ?_
    refine qP 86 (does_pick (v := .bool false) W_ R_) ?_
    refine qP 87 (does_move (v := .bool false) R_) ?_
    refine qS 88 ?_
    refine qS 89 ?_
    refine qS 90 ?_
    refine qS 91 ?_
    refine qP 92 (does_pick (v := .bool false) W_ R_) ?_
    refine qP 2 (does_assign (v := .bool false) R_) ?_
    refine ao_nil_d (by kernel_rfl) ?_
    refine hK32 _ ?_
    refine aw_ret ?_
    obtain rfl := Option.some.inj h
    exact ret_ok1 W_ W_ R_ (.inr rfl) rfl
def rule_count_b_l1 (K : Rule → Int → Int → Option (Int × Bool)) (a0 : Rule) (a1 : Int) (a2 : Int) (v8_1 : Int) (v27_1 : Int) : Option ((Int × Int) ⊕ (Int × Bool)) :=
 if (decide (v27_1 < (List.length a0.Kids : Int))) = true then (gd (0 ≤ v27_1) (Option.bind (a0.Kids[(Int.toNat v27_1)]?) (fun (x23 : Rule) => Option.bind (K x23 (IntKind.i64.wrap (a1 - 1)) (IntKind.i64.wrap (a2 - v8_1))) (fun (x25 : Int × Bool) => if (!x25.2) = true then (some (Sum.inr (0, false))) else (some (Sum.inl ((IntKind.i64.wrap (v8_1 + x25.1)), (IntKind.i64.wrap (v27_1 + 1))))))))) else (some (Sum.inr (v8_1, true)))
def rule_count_b_k0 (K : Rule → Int → Int → Option (Int × Bool)) (a0 : Rule) (a1 : Int) (a2 : Int) : Option (Int × Bool) :=
 loopN (fun (s : Int × Int) => rule_count_b_l1 K a0 a1 a2 s.1 s.2) Fu (1, 0)
def rule_count_b (K : Rule → Int → Int → Option (Int × Bool)) (a0 : Rule) (a1 : Int) (a2 : Int) : Option (Int × Bool) :=
 Option.bind (if (decide (a1 < 1)) = true then (some (Sum.inr (0, false))) else (if (decide (a2 < 1)) = true then (some (Sum.inr (0, false))) else (Option.bind (rule_own a0) (fun (x9 : Bool) => if (!x9) = true then (some (Sum.inr (0, false))) else (some (Sum.inl ())))))) (Sum.elim (fun (s : Unit) => rule_count_b_k0 K a0 a1 a2) some)
theorem rule_count_b_ok (K : Rule → Int → Int → Option (Int × Bool)) (hK : ∀ (a0 : Rule) (a1 : Int) (a2 : Int) {r : Int × Bool}, K a0 a1 a2 = some r → Ok Try.prog 55 [.agg [.int .i64 a0.Kind, .int .i64 a0.N, .str a0.Key, .str a0.Value, .sl 5 (List.map enc24 a0.Kids)], .int .i64 a1, .int .i64 a2] [] [] (.tup [.int .i64 r.1, .bool r.2]) [] []) (a0 : Rule) (a1 : Int) (a2 : Int) {r : Int × Bool} (h : rule_count_b K a0 a1 a2 = some r) : Ok Try.prog 55 [.agg [.int .i64 a0.Kind, .int .i64 a0.N, .str a0.Key, .str a0.Value, .sl 5 (List.map enc24 a0.Kids)], .int .i64 a1, .int .i64 a2] [] [] (.tup [.int .i64 r.1, .bool r.2]) [] [] := by
 unfold rule_count_b at h
 refine ok_of_code Try.func55 rfl (by show (3 : Nat) ≤ _; decide) (Nat.le_refl _) fun X => ?_
 refine sr fun K1 hK1 => ?_
 refine pD 3 (do_box W_ rfl rfl) ?_
 refine pa 6 (.int .i64 0) ?_
 refine pa 7 (.bool false) ?_
 refine en hK1 ?_
 obtain ⟨q2, h, hk3⟩ := bnd_some h
 refine aw_cut (fun s => rule_count_b_k0 K a0 a1 a2 = some r ∧ s = lit [(1, .int .i64 a1), (2, .int .i64 a2), (3, .ptr 3 0 0)] [((3, 0), .box [.int .i64 a0.Kind, .int .i64 a0.N, .str a0.Key, .str a0.Value, .sl 5 (List.map enc24 a0.Kids)])] [(3, 1)] X) ?_ ?_
 ·skip
  refine sr fun K4 hK4 => ?_
  refine pm 13 (.int .i64 a1) ?_
  refine pb 14 (.bool (decide (a1 < 1))) ?_
  refine pm 15 (.bool (decide (a1 < 1))) ?_
  refine al_bool (c := (decide (a1 < 1))) 15 rfl (fun c5 => ?_) (fun c5 => ?_)
  ·have h := ifT c5 h
   refine pS 16 ?_
   refine pS 17 ?_
   refine pk 18 (.bool true) ?_
   refine pm 19 (.bool true) ?_
   refine pS 20 ?_
   refine pS 21 ?_
   refine pS 22 ?_
   refine pk 23 (.bool true) ?_
   refine en hK4 ?_
   refine aw_cond_t D_ rfl ?_
   refine sr fun K6 hK6 => ?_
   refine pa 6 (.int .i64 0) ?_
   refine pa 7 (.bool false) ?_
   refine en hK6 ?_
   refine aw_ret ?_
   have h := leafR h hk3
   obtain rfl := Option.some.inj h
   exact ret_ok1 W_ W_ R_ (.inr rfl) rfl
  ·have h := ifF c5 h
   refine pm 16 (.int .i64 a2) ?_
   refine pb 17 (.bool (decide (a2 < 1))) ?_
   refine pk 18 (.bool (decide (a2 < 1))) ?_
   refine pm 19 (.bool (decide (a2 < 1))) ?_
   refine al_bool (c := (decide (a2 < 1))) 19 rfl (fun c7 => ?_) (fun c7 => ?_)
   ·have h := ifT c7 h
    refine pS 20 ?_
    refine pS 21 ?_
    refine pS 22 ?_
    refine pk 23 (.bool true) ?_
    refine en hK4 ?_
    refine aw_cond_t D_ rfl ?_
    refine sr fun K8 hK8 => ?_
    refine pa 6 (.int .i64 0) ?_
    refine pa 7 (.bool false) ?_
    refine en hK8 ?_
    refine aw_ret ?_
    have h := leafR h hk3
    obtain rfl := Option.some.inj h
    exact ret_ok1 W_ W_ R_ (.inr rfl) rfl
   ·have h := ifF c7 h
    refine pl 20 (.agg [.int .i64 a0.Kind, .int .i64 a0.N, .str a0.Key, .str a0.Value, .sl 5 (List.map enc24 a0.Kids)]) ty25 ?_
    obtain ⟨x9, hx9, h⟩ := bnd_some h
    refine pD 21 (do_call0 21 false (rule_own_ok a0 hx9) rfl ent81 rfl rfl) ?_
    refine pP 22 (does_un (v := .bool (!x9)) W_ rfl) ?_
    refine pk 23 (.bool (!x9)) ?_
    refine en hK4 ?_
    refine aw_bool (b := (!x9)) 23 rfl (fun c10 => ?_) (fun c10 => ?_)
    ·have h := ifT c10 h
     refine aw_cond_t D_ rfl ?_
     refine sr fun K11 hK11 => ?_
     refine pa 6 (.int .i64 0) ?_
     refine pa 7 (.bool false) ?_
     refine en hK11 ?_
     refine aw_ret ?_
     have h := leafR h hk3
     obtain rfl := Option.some.inj h
     exact ret_ok1 W_ W_ R_ (.inr rfl) rfl
    ·have h := ifF c10 h
     refine aw_cond_f D_ rfl ?_
     refine aw_skip ?_
     have h := leafL h hk3
     exact ⟨_, reb_lit [(1, .int .i64 a1), (2, .int .i64 a2), (3, .ptr 3 0 0)] [(3, 0)] [((3, 0), .box [.int .i64 a0.Kind, .int .i64 a0.N, .str a0.Key, .str a0.Value, .sl 5 (List.map enc24 a0.Kids)])] [(3, 1)] (ec (ec (ec envOk_nil))) (objOk_cons W_ W_ R_ (by simp) objOk_nil) (nodup_b rfl) (nodup_b rfl) rfl rfl, h, rfl⟩
 ·rintro s ⟨h, rfl⟩
  unfold rule_count_b_k0 at h
  refine sr fun K12 hK12 => ?_
  refine pa 8 (.int .i64 1) ?_
  refine en hK12 ?_
  refine aw_seq_k (fun K13 hK13 => ?_)
  refine sr fun K14 hK14 => ?_
  refine pf 24 (.ptr 3 0 4) ty25 ty23 ?_
  refine pl 25 (.sl 5 (List.map enc24 a0.Kids)) ty23 ?_
  refine pP 26 ((does_len_sl W_ ty23).castp (v' := .int .i64 (List.length a0.Kids : Int)) (by exact len_map _)) ?_
  refine pm 27 (.int .i64 0) ?_
  refine en hK14 ?_
  refine aw_block ?_
  refine aw_loop' (fun m s => ∃ (v8_1 : Int), ∃ (v27_1 : Int), loopN (fun (s : Int × Int) => rule_count_b_l1 K a0 a1 a2 s.1 s.2) m (v8_1, v27_1) = some r ∧ s = lit [(1, .int .i64 a1), (2, .int .i64 a2), (8, .int .i64 v8_1), (25, .sl 5 (List.map enc24 a0.Kids)), (26, .int .i64 (List.length a0.Kids : Int)), (27, .int .i64 v27_1)] [] [] X) Fu
   ⟨_, reb_lit [(1, .int .i64 a1), (2, .int .i64 a2), (8, .int .i64 (1)), (25, .sl 5 (List.map enc24 a0.Kids)), (26, .int .i64 (List.length a0.Kids : Int)), (27, .int .i64 (0))] [] [] [] (ec (ec (ec (ec (ec (ec envOk_nil)))))) objOk_nil (nodup_b rfl) (nodup_b rfl) rfl rfl, 1, 0, h, rfl⟩ ?_
  rintro m s ⟨v8_1, v27_1, h, rfl⟩
  obtain ⟨m1, q15, rfl, h, hq16⟩ := loop_some h
  replace h : rule_count_b_l1 K a0 a1 a2 v8_1 v27_1 = some q15 := h
  unfold rule_count_b_l1 at h
  refine sr fun K17 hK17 => ?_
  refine pb 28 (.bool (decide (v27_1 < (List.length a0.Kids : Int)))) ?_
  refine en hK17 ?_
  refine aw_seq_k (fun K18 hK18 => ?_)
  refine aw_bool (b := (decide (v27_1 < (List.length a0.Kids : Int)))) 28 rfl (fun c19 => ?_) (fun c19 => ?_)
  ·have h := ifT c19 h
   refine aw_cond_t D_ rfl ?_
   refine aw_skip ?_
   refine hK18 _ ?_
   refine aw_seq_k (fun K20 hK20 => ?_)
   refine aw_block ?_
   refine sr fun K21 hK21 => ?_
   obtain ⟨g22, h⟩ := gd_some h
   obtain ⟨x23, hx23, h⟩ := bnd_some h
   refine pP 29 (does_indexAddr_sl (el := .agg [.int .i64 x23.Kind, .int .i64 x23.N, .str x23.Key, .str x23.Value, .sl 5 (List.map enc24 x23.Kids)]) W_ W_ ty23 ty25 g22 (by exact map_getE (enc24_eq _) hx23)) ?_
   refine pl 30 (.agg [.int .i64 x23.Kind, .int .i64 x23.N, .str x23.Key, .str x23.Value, .sl 5 (List.map enc24 x23.Kids)]) ty25 ?_
   refine pD 10 (do_new ty25 rfl rfl) ?_
   refine alD none rfl rfl (do_store (cs' := [.int .i64 x23.Kind, .int .i64 x23.N, .str x23.Key, .str x23.Value, .sl 5 (List.map enc24 x23.Kids)]) W_ W_ W_ ty25 rfl rfl rfl R_) D_ ?_
   refine en hK21 ?_
   refine sr fun K24 hK24 => ?_
   refine pl 32 (.agg [.int .i64 x23.Kind, .int .i64 x23.N, .str x23.Key, .str x23.Value, .sl 5 (List.map enc24 x23.Kids)]) ty25 ?_
   refine pm 33 (.int .i64 a1) ?_
   refine pb 34 (.int .i64 (IntKind.i64.wrap (a1 - 1))) ?_
   refine pm 35 (.int .i64 a2) ?_
   refine pm 36 (.int .i64 v8_1) ?_
   refine pb 37 (.int .i64 (IntKind.i64.wrap (a2 - v8_1))) ?_
   obtain ⟨x25, hx25, h⟩ := bnd_some h
   refine pD 38 (do_call0 38 false (hK x23 (IntKind.i64.wrap (a1 - 1)) (IntKind.i64.wrap (a2 - v8_1)) hx25) rfl ent55 rfl rfl) ?_
   refine pm 31 (.tup [.int .i64 x25.1, .bool x25.2]) ?_
   refine pP 39 (does_extract (v := .int .i64 x25.1) W_ R_) ?_
   refine pP 40 (does_extract (v := .bool x25.2) W_ R_) ?_
   refine pa 11 (.int .i64 x25.1) ?_
   refine pa 12 (.bool x25.2) ?_
   refine en hK24 ?_
   refine aw_seq_k (fun K26 hK26 => ?_)
   refine sr fun K27 hK27 => ?_
   refine pm 41 (.bool x25.2) ?_
   refine pP 42 (does_un (v := .bool (!x25.2)) W_ rfl) ?_
   refine en hK27 ?_
   refine aw_bool (b := (!x25.2)) 42 rfl (fun c28 => ?_) (fun c28 => ?_)
   ·have h := ifT c28 h
    refine aw_cond_t D_ rfl ?_
    refine sr fun K29 hK29 => ?_
    refine pa 6 (.int .i64 0) ?_
    refine pa 7 (.bool false) ?_
    refine en hK29 ?_
    refine aw_ret ?_
    have h := leafR h hq16
    obtain rfl := Option.some.inj h
    exact ret_ok1 W_ W_ R_ (.inr rfl) rfl
   ·have h := ifF c28 h
    refine aw_cond_f D_ rfl ?_
    refine aw_skip ?_
    refine hK26 _ ?_
    refine aw_regL ?_
    refine pm 43 (.int .i64 v8_1) ?_
    refine pm 44 (.int .i64 x25.1) ?_
    refine pb 45 (.int .i64 (IntKind.i64.wrap (v8_1 + x25.1))) ?_
    refine pa 8 (.int .i64 (IntKind.i64.wrap (v8_1 + x25.1))) ?_
    refine en hK20 ?_
    refine aw_regL ?_
    refine pb 46 (.int .i64 (IntKind.i64.wrap (v27_1 + 1))) ?_
    refine pm 27 (.int .i64 (IntKind.i64.wrap (v27_1 + 1))) ?_
    refine al_nil ?_
    have h := leafL h hq16
    exact ⟨m1, Nat.lt_succ_self _, _, reb_lit [(1, .int .i64 a1), (2, .int .i64 a2), (8, .int .i64 (IntKind.i64.wrap (v8_1 + x25.1))), (25, .sl 5 (List.map enc24 a0.Kids)), (26, .int .i64 (List.length a0.Kids : Int)), (27, .int .i64 (IntKind.i64.wrap (v27_1 + 1)))] [] [] [] (ec (ec (ec (ec (ec (ec envOk_nil)))))) objOk_nil (nodup_b rfl) (nodup_b rfl) rfl rfl, (IntKind.i64.wrap (v8_1 + x25.1)), (IntKind.i64.wrap (v27_1 + 1)), h, rfl⟩
  ·have h := ifF c19 h
   refine aw_cond_f D_ rfl ?_
   refine aw_exit ?_
   have h := leafR h hq16
   refine hK13 _ ?_
   refine sr fun K30 hK30 => ?_
   refine pm 47 (.int .i64 v8_1) ?_
   refine pa 6 (.int .i64 v8_1) ?_
   refine pa 7 (.bool true) ?_
   refine en hK30 ?_
   refine aw_ret ?_
   obtain rfl := Option.some.inj h
   exact ret_ok1 W_ W_ R_ (.inr rfl) rfl
def rule_countN : Nat → Rule → Int → Int → Option (Int × Bool)
 | 0, _, _, _ => none
 | n + 1, a0, a1, a2 => rule_count_b (rule_countN n) a0 a1 a2
theorem rule_countN_ok : ∀ (n : Nat) (a0 : Rule) (a1 : Int) (a2 : Int) {r : Int × Bool}, rule_countN n a0 a1 a2 = some r → Ok Try.prog 55 [.agg [.int .i64 a0.Kind, .int .i64 a0.N, .str a0.Key, .str a0.Value, .sl 5 (List.map enc24 a0.Kids)], .int .i64 a1, .int .i64 a2] [] [] (.tup [.int .i64 r.1, .bool r.2]) [] []
 | 0, _, _, _, _, h => by simp [rule_countN] at h
 | n + 1, a0, a1, a2, _, h => rule_count_b_ok (rule_countN n) (rule_countN_ok n) a0 a1 a2 h
def rule_count (a0 : Rule) (a1 : Int) (a2 : Int) : Option (Int × Bool) := rule_countN Fu a0 a1 a2
theorem rule_count_ok (a0 : Rule) (a1 : Int) (a2 : Int) {r : Int × Bool} (h : rule_count a0 a1 a2 = some r) : Ok Try.prog 55 [.agg [.int .i64 a0.Kind, .int .i64 a0.N, .str a0.Key, .str a0.Value, .sl 5 (List.map enc24 a0.Kids)], .int .i64 a1, .int .i64 a2] [] [] (.tup [.int .i64 r.1, .bool r.2]) [] [] := rule_countN_ok Fu a0 a1 a2 h
def rule_Right (a0 : Rule) : Option Bool :=
 Option.bind (rule_count a0 5 20) (fun (x3 : Int × Bool) => some x3.2)
theorem rule_Right_ok (a0 : Rule) {r : Bool} (h : rule_Right a0 = some r) : Ok Try.prog 33 [.agg [.int .i64 a0.Kind, .int .i64 a0.N, .str a0.Key, .str a0.Value, .sl 5 (List.map enc24 a0.Kids)]] [] [] (.bool r) [] [] := by
 unfold rule_Right at h
 refine ok_of_code Try.func33 rfl (by show (1 : Nat) ≤ _; decide) (Nat.le_refl _) fun X => ?_
 refine sr fun K1 hK1 => ?_
 refine pD 1 (do_box W_ rfl rfl) ?_
 refine pa 2 (.bool false) ?_
 refine en hK1 ?_
 refine sr fun K2 hK2 => ?_
 refine pl 6 (.agg [.int .i64 a0.Kind, .int .i64 a0.N, .str a0.Key, .str a0.Value, .sl 5 (List.map enc24 a0.Kids)]) ty25 ?_
 obtain ⟨x3, hx3, h⟩ := bnd_some h
 refine pD 7 (do_call0 7 false (rule_count_ok a0 5 20 hx3) rfl ent55 rfl rfl) ?_
 refine pm 5 (.tup [.int .i64 x3.1, .bool x3.2]) ?_
 refine pP 8 (does_extract (v := .int .i64 x3.1) W_ R_) ?_
 refine pP 9 (does_extract (v := .bool x3.2) W_ R_) ?_
 refine pa 3 (.int .i64 x3.1) ?_
 refine pa 4 (.bool x3.2) ?_
 refine en hK2 ?_
 refine sr fun K4 hK4 => ?_
 refine pm 10 (.bool x3.2) ?_
 refine pa 2 (.bool x3.2) ?_
 refine en hK4 ?_
 refine aw_ret ?_
 obtain rfl := Option.some.inj h
 exact ret_ok1 W_ W_ R_ (.inr rfl) rfl
def gleaningref1_nodes_b_k1 (K : Rule → Int → Option Int) (a0 : Rule) (a1 : Int) (v5_0 : Int) (v6_0 : Int) : Option ((Int × Int) ⊕ Int) :=
 gd (0 ≤ v6_0) (Option.bind (a0.Kids[(Int.toNat v6_0)]?) (fun (x20 : Rule) => Option.bind (K x20 (IntKind.i64.wrap (a1 - 1))) (fun (x21 : Int) => some (Sum.inl ((IntKind.i64.wrap (v5_0 + x21)), (IntKind.i64.wrap (v6_0 + 1)))))))
def gleaningref1_nodes_b_l0 (K : Rule → Int → Option Int) (a0 : Rule) (a1 : Int) (v5_0 : Int) (v6_0 : Int) : Option ((Int × Int) ⊕ Int) :=
 Option.bind (if (decide (v6_0 < (List.length a0.Kids : Int))) = true then (if (decide (v5_0 ≤ 20)) = true then (some (Sum.inl ())) else (some (Sum.inr (Sum.inr v5_0)))) else (some (Sum.inr (Sum.inr v5_0)))) (Sum.elim (fun (s : Unit) => gleaningref1_nodes_b_k1 K a0 a1 v5_0 v6_0) some)
def gleaningref1_nodes_b (K : Rule → Int → Option Int) (a0 : Rule) (a1 : Int) : Option Int :=
 if (a1 == 0) = true then (some 21) else (loopN (fun (s : Int × Int) => gleaningref1_nodes_b_l0 K a0 a1 s.1 s.2) Fu (1, 0))
theorem gleaningref1_nodes_b_ok (K : Rule → Int → Option Int) (hK : ∀ (a0 : Rule) (a1 : Int) {r : Int}, K a0 a1 = some r → Ok Try.prog 74 [.agg [.int .i64 a0.Kind, .int .i64 a0.N, .str a0.Key, .str a0.Value, .sl 5 (List.map enc24 a0.Kids)], .int .i64 a1] [] [] (.int .i64 r) [] []) (a0 : Rule) (a1 : Int) {r : Int} (h : gleaningref1_nodes_b K a0 a1 = some r) : Ok Try.prog 74 [.agg [.int .i64 a0.Kind, .int .i64 a0.N, .str a0.Key, .str a0.Value, .sl 5 (List.map enc24 a0.Kids)], .int .i64 a1] [] [] (.int .i64 r) [] [] := by
 unfold gleaningref1_nodes_b at h
 refine ok_of_code Try.func74 rfl (by show (2 : Nat) ≤ _; decide) (Nat.le_refl _) fun X => ?_
 refine sr fun K1 hK1 => ?_
 refine pD 2 (do_box W_ rfl rfl) ?_
 refine pa 4 (.int .i64 0) ?_
 refine en hK1 ?_
 refine aw_seq_k (fun K2 hK2 => ?_)
 refine sr fun K3 hK3 => ?_
 refine pm 7 (.int .i64 a1) ?_
 refine pb 8 (.bool (a1 == 0)) ?_
 refine en hK3 ?_
 refine aw_bool (b := (a1 == 0)) 8 rfl (fun c4 => ?_) (fun c4 => ?_)
 ·have h := ifT c4 h
  refine aw_cond_t D_ rfl ?_
  refine sr fun K5 hK5 => ?_
  refine pa 4 (.int .i64 21) ?_
  refine en hK5 ?_
  refine aw_ret ?_
  obtain rfl := Option.some.inj h
  exact ret_ok1 W_ W_ R_ (.inr rfl) rfl
 ·have h := ifF c4 h
  refine aw_cond_f D_ rfl ?_
  refine aw_skip ?_
  refine hK2 _ ?_
  refine sr fun K6 hK6 => ?_
  refine pa 5 (.int .i64 1) ?_
  refine en hK6 ?_
  refine aw_seq_k (fun K7 hK7 => ?_)
  refine sr fun K8 hK8 => ?_
  refine pa 6 (.int .i64 0) ?_
  refine en hK8 ?_
  refine aw_block ?_
  refine aw_loop' (fun m s => ∃ (v5_0 : Int), ∃ (v6_0 : Int), loopN (fun (s : Int × Int) => gleaningref1_nodes_b_l0 K a0 a1 s.1 s.2) m (v5_0, v6_0) = some r ∧ s = lit [(1, .int .i64 a1), (2, .ptr 2 0 0), (5, .int .i64 v5_0), (6, .int .i64 v6_0)] [((2, 0), .box [.int .i64 a0.Kind, .int .i64 a0.N, .str a0.Key, .str a0.Value, .sl 5 (List.map enc24 a0.Kids)])] [(2, 1)] X) Fu
   ⟨_, reb_lit [(1, .int .i64 a1), (2, .ptr 2 0 0), (5, .int .i64 (1)), (6, .int .i64 (0))] [(2, 0)] [((2, 0), .box [.int .i64 a0.Kind, .int .i64 a0.N, .str a0.Key, .str a0.Value, .sl 5 (List.map enc24 a0.Kids)])] [(2, 1)] (ec (ec (ec (ec envOk_nil)))) (objOk_cons W_ W_ R_ (by simp) objOk_nil) (nodup_b rfl) (nodup_b rfl) rfl rfl, 1, 0, h, rfl⟩ ?_
  rintro m s ⟨v5_0, v6_0, h, rfl⟩
  obtain ⟨m0, q9, rfl, h, hq10⟩ := loop_some h
  replace h : gleaningref1_nodes_b_l0 K a0 a1 v5_0 v6_0 = some q9 := h
  unfold gleaningref1_nodes_b_l0 at h
  obtain ⟨q11, h, hk12⟩ := bnd_some h
  refine aw_cut (fun s => gleaningref1_nodes_b_k1 K a0 a1 v5_0 v6_0 = some q9 ∧ s = lit [(1, .int .i64 a1), (2, .ptr 2 0 0), (5, .int .i64 v5_0), (6, .int .i64 v6_0)] [((2, 0), .box [.int .i64 a0.Kind, .int .i64 a0.N, .str a0.Key, .str a0.Value, .sl 5 (List.map enc24 a0.Kids)])] [(2, 1)] X) ?_ ?_
  ·skip
   refine sr fun K13 hK13 => ?_
   refine pm 9 (.int .i64 v6_0) ?_
   refine pf 10 (.ptr 2 0 4) ty25 ty23 ?_
   refine pl 11 (.sl 5 (List.map enc24 a0.Kids)) ty23 ?_
   refine pP 12 ((does_len_sl W_ ty23).castp (v' := .int .i64 (List.length a0.Kids : Int)) (by exact len_map _)) ?_
   refine pb 13 (.bool (decide (v6_0 < (List.length a0.Kids : Int)))) ?_
   refine pm 14 (.bool (decide (v6_0 < (List.length a0.Kids : Int)))) ?_
   refine al_bool (c := (decide (v6_0 < (List.length a0.Kids : Int)))) 14 rfl (fun c14 => ?_) (fun c14 => ?_)
   ·have h := ifT c14 h
    refine pm 15 (.int .i64 v5_0) ?_
    refine pb 16 (.bool (decide (v5_0 ≤ 20))) ?_
    refine pk 17 (.bool (decide (v5_0 ≤ 20))) ?_
    refine en hK13 ?_
    refine aw_bool (b := (decide (v5_0 ≤ 20))) 17 rfl (fun c15 => ?_) (fun c15 => ?_)
    ·have h := ifT c15 h
     refine aw_cond_t D_ rfl ?_
     refine aw_skip ?_
     have h := leafL h hk12
     exact ⟨_, reb_lit [(1, .int .i64 a1), (2, .ptr 2 0 0), (5, .int .i64 v5_0), (6, .int .i64 v6_0)] [(2, 0)] [((2, 0), .box [.int .i64 a0.Kind, .int .i64 a0.N, .str a0.Key, .str a0.Value, .sl 5 (List.map enc24 a0.Kids)])] [(2, 1)] (ec (ec (ec (ec envOk_nil)))) (objOk_cons W_ W_ R_ (by simp) objOk_nil) (nodup_b rfl) (nodup_b rfl) rfl rfl, h, rfl⟩
    ·have h := ifF c15 h
     refine aw_cond_f D_ rfl ?_
     refine aw_exit ?_
     have h := leafR h hk12
     have h := leafR h hq10
     refine hK7 _ ?_
     refine sr fun K16 hK16 => ?_
     refine pm 30 (.int .i64 v5_0) ?_
     refine pa 4 (.int .i64 v5_0) ?_
     refine en hK16 ?_
     refine aw_ret ?_
     obtain rfl := Option.some.inj h
     exact ret_ok1 W_ W_ R_ (.inr rfl) rfl
   ·have h := ifF c14 h
    refine pS 15 ?_
    refine pS 16 ?_
    refine pk 17 (.bool false) ?_
    refine en hK13 ?_
    refine aw_cond_f D_ rfl ?_
    refine aw_exit ?_
    have h := leafR h hk12
    have h := leafR h hq10
    refine hK7 _ ?_
    refine sr fun K17 hK17 => ?_
    refine pm 30 (.int .i64 v5_0) ?_
    refine pa 4 (.int .i64 v5_0) ?_
    refine en hK17 ?_
    refine aw_ret ?_
    obtain rfl := Option.some.inj h
    exact ret_ok1 W_ W_ R_ (.inr rfl) rfl
  ·rintro s ⟨h, rfl⟩
   unfold gleaningref1_nodes_b_k1 at h
   refine aw_seq_k (fun K18 hK18 => ?_)
   refine aw_block ?_
   refine aw_regL ?_
   refine pm 20 (.int .i64 v5_0) ?_
   refine pf 21 (.ptr 2 0 4) ty25 ty23 ?_
   refine pl 22 (.sl 5 (List.map enc24 a0.Kids)) ty23 ?_
   refine pm 23 (.int .i64 v6_0) ?_
   obtain ⟨g19, h⟩ := gd_some h
   obtain ⟨x20, hx20, h⟩ := bnd_some h
   refine pP 24 (does_indexAddr_sl (el := .agg [.int .i64 x20.Kind, .int .i64 x20.N, .str x20.Key, .str x20.Value, .sl 5 (List.map enc24 x20.Kids)]) W_ W_ ty23 ty25 g19 (by exact map_getE (enc24_eq _) hx20)) ?_
   refine pl 25 (.agg [.int .i64 x20.Kind, .int .i64 x20.N, .str x20.Key, .str x20.Value, .sl 5 (List.map enc24 x20.Kids)]) ty25 ?_
   refine pm 26 (.int .i64 a1) ?_
   refine pb 27 (.int .i64 (IntKind.i64.wrap (a1 - 1))) ?_
   obtain ⟨x21, hx21, h⟩ := bnd_some h
   refine pD 28 (do_call0 28 false (hK x20 (IntKind.i64.wrap (a1 - 1)) hx21) rfl ent74 rfl rfl) ?_
   refine pb 29 (.int .i64 (IntKind.i64.wrap (v5_0 + x21))) ?_
   refine pa 5 (.int .i64 (IntKind.i64.wrap (v5_0 + x21))) ?_
   refine en hK18 ?_
   refine aw_regL ?_
   refine pm 18 (.int .i64 v6_0) ?_
   refine pb 19 (.int .i64 (IntKind.i64.wrap (v6_0 + 1))) ?_
   refine pa 6 (.int .i64 (IntKind.i64.wrap (v6_0 + 1))) ?_
   refine al_nil ?_
   have h := leafL h hq10
   exact ⟨m0, Nat.lt_succ_self _, _, reb_lit [(1, .int .i64 a1), (2, .ptr 2 0 0), (5, .int .i64 (IntKind.i64.wrap (v5_0 + x21))), (6, .int .i64 (IntKind.i64.wrap (v6_0 + 1)))] [(2, 0)] [((2, 0), .box [.int .i64 a0.Kind, .int .i64 a0.N, .str a0.Key, .str a0.Value, .sl 5 (List.map enc24 a0.Kids)])] [(2, 1)] (ec (ec (ec (ec envOk_nil)))) (objOk_cons W_ W_ R_ (by simp) objOk_nil) (nodup_b rfl) (nodup_b rfl) rfl rfl, (IntKind.i64.wrap (v5_0 + x21)), (IntKind.i64.wrap (v6_0 + 1)), h, rfl⟩
def gleaningref1_nodesN : Nat → Rule → Int → Option Int
 | 0, _, _ => none
 | n + 1, a0, a1 => gleaningref1_nodes_b (gleaningref1_nodesN n) a0 a1
theorem gleaningref1_nodesN_ok : ∀ (n : Nat) (a0 : Rule) (a1 : Int) {r : Int}, gleaningref1_nodesN n a0 a1 = some r → Ok Try.prog 74 [.agg [.int .i64 a0.Kind, .int .i64 a0.N, .str a0.Key, .str a0.Value, .sl 5 (List.map enc24 a0.Kids)], .int .i64 a1] [] [] (.int .i64 r) [] []
 | 0, _, _, _, h => by simp [gleaningref1_nodesN] at h
 | n + 1, a0, a1, _, h => gleaningref1_nodes_b_ok (gleaningref1_nodesN n) (gleaningref1_nodesN_ok n) a0 a1 h
def gleaningref1_nodes (a0 : Rule) (a1 : Int) : Option Int := gleaningref1_nodesN Fu a0 a1
theorem gleaningref1_nodes_ok (a0 : Rule) (a1 : Int) {r : Int} (h : gleaningref1_nodes a0 a1 = some r) : Ok Try.prog 74 [.agg [.int .i64 a0.Kind, .int .i64 a0.N, .str a0.Key, .str a0.Value, .sl 5 (List.map enc24 a0.Kids)], .int .i64 a1] [] [] (.int .i64 r) [] [] := gleaningref1_nodesN_ok Fu a0 a1 h
def gleaningref1_one_k3 (a0 : Rule) (v4_1 : Bool) (v87_3 : Bool) : Option Bool :=
 if v87_3 = true then (if v4_1 = true then (Option.bind (gleaningref1_Within a0.N 0 1000) (fun (x45 : Bool) => some x45)) else (some false)) else (if (a0.Kind == 9) = true then (if v4_1 = true then (Option.bind (gleaningref1_Within a0.N 0 1000000) (fun (x50 : Bool) => some x50)) else (some false)) else (some false))
def gleaningref1_one_k2 (a0 : Rule) (v3_0 : Bool) (v4_1 : Bool) (v34_2 : Bool) : Option Bool :=
 if v34_2 = true then (some v3_0) else (if (a0.Kind == 3) = true then (if v3_0 = true then (some ((List.length a0.Kids : Int) == 1)) else (some false)) else (if (a0.Kind == 5) = true then (if v3_0 = true then (some ((List.length a0.Kids : Int) == 0)) else (some false)) else (if (a0.Kind == 6) = true then (if (a0.N == 0) = true then (Option.bind (gleaningref1_Within (ByteArray.size a0.Key : Int) 1 16) (fun (x30 : Bool) => if x30 = true then (if (decide ((ByteArray.size a0.Value : Int) ≤ 16)) = true then (some ((List.length a0.Kids : Int) == 0)) else (some false)) else (some false))) else (some false)) else (if (a0.Kind == 4) = true then (if v4_1 = true then (Option.bind (gleaningref1_Within a0.N 0 1073741824) (fun (x37 : Bool) => some x37)) else (some false)) else (Option.bind (if (a0.Kind == 7) = true then (some true) else (some (a0.Kind == 8))) (fun (s : Bool) => gleaningref1_one_k3 a0 v4_1 s))))))
def gleaningref1_one_k1 (a0 : Rule) (v3_0 : Bool) (v4_1 : Bool) : Option Bool :=
 Option.bind (if (a0.Kind == 1) = true then (some true) else (some (a0.Kind == 2))) (fun (s : Bool) => gleaningref1_one_k2 a0 v3_0 v4_1 s)
def gleaningref1_one_k0 (a0 : Rule) (v3_0 : Bool) : Option Bool :=
 Option.bind (if (ByteArray.toList a0.Key == ByteArray.toList (strOf [])) = true then (if (ByteArray.toList a0.Value == ByteArray.toList (strOf [])) = true then (some ((List.length a0.Kids : Int) == 0)) else (some false)) else (some false)) (fun (s : Bool) => gleaningref1_one_k1 a0 v3_0 s)
def gleaningref1_one (a0 : Rule) : Option Bool :=
 Option.bind (if (a0.N == 0) = true then (if (ByteArray.toList a0.Key == ByteArray.toList (strOf [])) = true then (some (ByteArray.toList a0.Value == ByteArray.toList (strOf []))) else (some false)) else (some false)) (fun (s : Bool) => gleaningref1_one_k0 a0 s)
theorem gleaningref1_one_ok (a0 : Rule) {r : Bool} (h : gleaningref1_one a0 = some r) : Ok Try.prog 89 [.agg [.int .i64 a0.Kind, .int .i64 a0.N, .str a0.Key, .str a0.Value, .sl 5 (List.map enc24 a0.Kids)]] [] [] (.bool r) [] [] := by
 unfold gleaningref1_one at h
 refine ok_of_code Try.func89 rfl (by show (1 : Nat) ≤ _; decide) (Nat.le_refl _) fun X => ?_
 refine sr fun K1 hK1 => ?_
 refine pD 1 (do_box W_ rfl rfl) ?_
 refine pa 2 (.bool false) ?_
 refine en hK1 ?_
 obtain ⟨q2, h, hk3⟩ := bnd_some h
 refine aw_cut (fun s => ∃ (v3_0 : Bool), gleaningref1_one_k0 a0 v3_0 = some r ∧ s = lit [(1, .ptr 1 0 0), (3, .bool v3_0)] [((1, 0), .box [.int .i64 a0.Kind, .int .i64 a0.N, .str a0.Key, .str a0.Value, .sl 5 (List.map enc24 a0.Kids)])] [(1, 1)] X) ?_ ?_
 ·skip
  refine aw_regL ?_
  refine pf 5 (.ptr 1 0 1) ty25 ty3 ?_
  refine pl 6 (.int .i64 a0.N) ty3 ?_
  refine pb 7 (.bool (a0.N == 0)) ?_
  refine pm 8 (.bool (a0.N == 0)) ?_
  refine al_bool (c := (a0.N == 0)) 8 rfl (fun c4 => ?_) (fun c4 => ?_)
  ·have h := ifT c4 h
   refine pf 9 (.ptr 1 0 2) ty25 ty9 ?_
   refine pl 10 (.str a0.Key) ty9 ?_
   refine pb 11 (.bool (ByteArray.toList a0.Key == ByteArray.toList (strOf []))) ?_
   refine pk 12 (.bool (ByteArray.toList a0.Key == ByteArray.toList (strOf []))) ?_
   refine pm 13 (.bool (ByteArray.toList a0.Key == ByteArray.toList (strOf []))) ?_
   refine al_bool (c := (ByteArray.toList a0.Key == ByteArray.toList (strOf []))) 13 rfl (fun c5 => ?_) (fun c5 => ?_)
   ·have h := ifT c5 h
    refine pf 14 (.ptr 1 0 3) ty25 ty9 ?_
    refine pl 15 (.str a0.Value) ty9 ?_
    refine pb 16 (.bool (ByteArray.toList a0.Value == ByteArray.toList (strOf []))) ?_
    refine pk 17 (.bool (ByteArray.toList a0.Value == ByteArray.toList (strOf []))) ?_
    refine pa 3 (.bool (ByteArray.toList a0.Value == ByteArray.toList (strOf []))) ?_
    refine al_nil ?_
    obtain rfl := Option.some.inj h
    have h := hk3
    exact ⟨_, reb_lit [(1, .ptr 1 0 0), (3, .bool (ByteArray.toList a0.Value == ByteArray.toList (strOf [])))] [(1, 0)] [((1, 0), .box [.int .i64 a0.Kind, .int .i64 a0.N, .str a0.Key, .str a0.Value, .sl 5 (List.map enc24 a0.Kids)])] [(1, 1)] (ec (ec envOk_nil)) (objOk_cons W_ W_ R_ (by simp) objOk_nil) (nodup_b rfl) (nodup_b rfl) rfl rfl, (ByteArray.toList a0.Value == ByteArray.toList (strOf [])), h, rfl⟩
   ·have h := ifF c5 h
    refine pS 14 ?_
    refine pS 15 ?_
    refine pS 16 ?_
    refine pk 17 (.bool false) ?_
    refine pa 3 (.bool false) ?_
    refine al_nil ?_
    obtain rfl := Option.some.inj h
    have h := hk3
    exact ⟨_, reb_lit [(1, .ptr 1 0 0), (3, .bool false)] [(1, 0)] [((1, 0), .box [.int .i64 a0.Kind, .int .i64 a0.N, .str a0.Key, .str a0.Value, .sl 5 (List.map enc24 a0.Kids)])] [(1, 1)] (ec (ec envOk_nil)) (objOk_cons W_ W_ R_ (by simp) objOk_nil) (nodup_b rfl) (nodup_b rfl) rfl rfl, false, h, rfl⟩
  ·have h := ifF c4 h
   refine pS 9 ?_
   refine pS 10 ?_
   refine pS 11 ?_
   refine pk 12 (.bool false) ?_
   refine pm 13 (.bool false) ?_
   refine pS 14 ?_
   refine pS 15 ?_
   refine pS 16 ?_
   refine pk 17 (.bool false) ?_
   refine pa 3 (.bool false) ?_
   refine al_nil ?_
   obtain rfl := Option.some.inj h
   have h := hk3
   exact ⟨_, reb_lit [(1, .ptr 1 0 0), (3, .bool false)] [(1, 0)] [((1, 0), .box [.int .i64 a0.Kind, .int .i64 a0.N, .str a0.Key, .str a0.Value, .sl 5 (List.map enc24 a0.Kids)])] [(1, 1)] (ec (ec envOk_nil)) (objOk_cons W_ W_ R_ (by simp) objOk_nil) (nodup_b rfl) (nodup_b rfl) rfl rfl, false, h, rfl⟩
 ·rintro s ⟨v3_0, h, rfl⟩
  unfold gleaningref1_one_k0 at h
  obtain ⟨q6, h, hk7⟩ := bnd_some h
  refine aw_cut (fun s => ∃ (v4_1 : Bool), gleaningref1_one_k1 a0 v3_0 v4_1 = some r ∧ s = lit [(1, .ptr 1 0 0), (3, .bool v3_0), (4, .bool v4_1)] [((1, 0), .box [.int .i64 a0.Kind, .int .i64 a0.N, .str a0.Key, .str a0.Value, .sl 5 (List.map enc24 a0.Kids)])] [(1, 1)] X) ?_ ?_
  ·skip
   refine aw_regL ?_
   refine pf 18 (.ptr 1 0 2) ty25 ty9 ?_
   refine pl 19 (.str a0.Key) ty9 ?_
   refine pb 20 (.bool (ByteArray.toList a0.Key == ByteArray.toList (strOf []))) ?_
   refine pm 21 (.bool (ByteArray.toList a0.Key == ByteArray.toList (strOf []))) ?_
   refine al_bool (c := (ByteArray.toList a0.Key == ByteArray.toList (strOf []))) 21 rfl (fun c8 => ?_) (fun c8 => ?_)
   ·have h := ifT c8 h
    refine pf 22 (.ptr 1 0 3) ty25 ty9 ?_
    refine pl 23 (.str a0.Value) ty9 ?_
    refine pb 24 (.bool (ByteArray.toList a0.Value == ByteArray.toList (strOf []))) ?_
    refine pk 25 (.bool (ByteArray.toList a0.Value == ByteArray.toList (strOf []))) ?_
    refine pm 26 (.bool (ByteArray.toList a0.Value == ByteArray.toList (strOf []))) ?_
    refine al_bool (c := (ByteArray.toList a0.Value == ByteArray.toList (strOf []))) 26 rfl (fun c9 => ?_) (fun c9 => ?_)
    ·have h := ifT c9 h
     refine pf 27 (.ptr 1 0 4) ty25 ty23 ?_
     refine pl 28 (.sl 5 (List.map enc24 a0.Kids)) ty23 ?_
     refine pP 29 ((does_len_sl W_ ty23).castp (v' := .int .i64 (List.length a0.Kids : Int)) (by exact len_map _)) ?_
     refine pb 30 (.bool ((List.length a0.Kids : Int) == 0)) ?_
     refine pk 31 (.bool ((List.length a0.Kids : Int) == 0)) ?_
     refine pa 4 (.bool ((List.length a0.Kids : Int) == 0)) ?_
     refine al_nil ?_
     obtain rfl := Option.some.inj h
     have h := hk7
     exact ⟨_, reb_lit [(1, .ptr 1 0 0), (3, .bool v3_0), (4, .bool ((List.length a0.Kids : Int) == 0))] [(1, 0)] [((1, 0), .box [.int .i64 a0.Kind, .int .i64 a0.N, .str a0.Key, .str a0.Value, .sl 5 (List.map enc24 a0.Kids)])] [(1, 1)] (ec (ec (ec envOk_nil))) (objOk_cons W_ W_ R_ (by simp) objOk_nil) (nodup_b rfl) (nodup_b rfl) rfl rfl, ((List.length a0.Kids : Int) == 0), h, rfl⟩
    ·have h := ifF c9 h
     refine pS 27 ?_
     refine pS 28 ?_
     refine pS 29 ?_
     refine pS 30 ?_
     refine pk 31 (.bool false) ?_
     refine pa 4 (.bool false) ?_
     refine al_nil ?_
     obtain rfl := Option.some.inj h
     have h := hk7
     exact ⟨_, reb_lit [(1, .ptr 1 0 0), (3, .bool v3_0), (4, .bool false)] [(1, 0)] [((1, 0), .box [.int .i64 a0.Kind, .int .i64 a0.N, .str a0.Key, .str a0.Value, .sl 5 (List.map enc24 a0.Kids)])] [(1, 1)] (ec (ec (ec envOk_nil))) (objOk_cons W_ W_ R_ (by simp) objOk_nil) (nodup_b rfl) (nodup_b rfl) rfl rfl, false, h, rfl⟩
   ·have h := ifF c8 h
    refine pS 22 ?_
    refine pS 23 ?_
    refine pS 24 ?_
    refine pk 25 (.bool false) ?_
    refine pm 26 (.bool false) ?_
    refine pS 27 ?_
    refine pS 28 ?_
    refine pS 29 ?_
    refine pS 30 ?_
    refine pk 31 (.bool false) ?_
    refine pa 4 (.bool false) ?_
    refine al_nil ?_
    obtain rfl := Option.some.inj h
    have h := hk7
    exact ⟨_, reb_lit [(1, .ptr 1 0 0), (3, .bool v3_0), (4, .bool false)] [(1, 0)] [((1, 0), .box [.int .i64 a0.Kind, .int .i64 a0.N, .str a0.Key, .str a0.Value, .sl 5 (List.map enc24 a0.Kids)])] [(1, 1)] (ec (ec (ec envOk_nil))) (objOk_cons W_ W_ R_ (by simp) objOk_nil) (nodup_b rfl) (nodup_b rfl) rfl rfl, false, h, rfl⟩
  ·rintro s ⟨v4_1, h, rfl⟩
   unfold gleaningref1_one_k1 at h
   refine aw_seq_k (fun K10 hK10 => ?_)
   refine sr fun K11 hK11 => ?_
   refine pf 32 (.ptr 1 0 0) ty25 ty3 ?_
   refine pl 33 (.int .i64 a0.Kind) ty3 ?_
   refine en hK11 ?_
   refine aw_block ?_
   obtain ⟨q12, h, hk13⟩ := bnd_some h
   refine aw_cut (fun s => ∃ (v34_2 : Bool), gleaningref1_one_k2 a0 v3_0 v4_1 v34_2 = some r ∧ s = lit [(1, .ptr 1 0 0), (3, .bool v3_0), (4, .bool v4_1), (33, .int .i64 a0.Kind), (34, .bool v34_2)] [((1, 0), .box [.int .i64 a0.Kind, .int .i64 a0.N, .str a0.Key, .str a0.Value, .sl 5 (List.map enc24 a0.Kids)])] [(1, 1)] X) ?_ ?_
   ·skip
    refine sr fun K14 hK14 => ?_
    refine pb 35 (.bool (a0.Kind == 1)) ?_
    refine pa 34 (.bool (a0.Kind == 1)) ?_
    refine en hK14 ?_
    refine aw_bool (b := (a0.Kind == 1)) 34 rfl (fun c15 => ?_) (fun c15 => ?_)
    ·have h := ifT c15 h
     refine aw_cond_t D_ rfl ?_
     refine aw_skip ?_
     obtain rfl := Option.some.inj h
     have h := hk13
     exact ⟨_, reb_lit [(1, .ptr 1 0 0), (3, .bool v3_0), (4, .bool v4_1), (33, .int .i64 a0.Kind), (34, .bool true)] [(1, 0)] [((1, 0), .box [.int .i64 a0.Kind, .int .i64 a0.N, .str a0.Key, .str a0.Value, .sl 5 (List.map enc24 a0.Kids)])] [(1, 1)] (ec (ec (ec (ec (ec envOk_nil))))) (objOk_cons W_ W_ R_ (by simp) objOk_nil) (nodup_b rfl) (nodup_b rfl) rfl rfl, true, h, rfl⟩
    ·have h := ifF c15 h
     refine aw_cond_f D_ rfl ?_
     refine aw_regL ?_
     refine pb 36 (.bool (a0.Kind == 2)) ?_
     refine pa 34 (.bool (a0.Kind == 2)) ?_
     refine al_nil ?_
     obtain rfl := Option.some.inj h
     have h := hk13
     exact ⟨_, reb_lit [(1, .ptr 1 0 0), (3, .bool v3_0), (4, .bool v4_1), (33, .int .i64 a0.Kind), (34, .bool (a0.Kind == 2))] [(1, 0)] [((1, 0), .box [.int .i64 a0.Kind, .int .i64 a0.N, .str a0.Key, .str a0.Value, .sl 5 (List.map enc24 a0.Kids)])] [(1, 1)] (ec (ec (ec (ec (ec envOk_nil))))) (objOk_cons W_ W_ R_ (by simp) objOk_nil) (nodup_b rfl) (nodup_b rfl) rfl rfl, (a0.Kind == 2), h, rfl⟩
   ·rintro s ⟨v34_2, h, rfl⟩
    unfold gleaningref1_one_k2 at h
    refine aw_bool (b := v34_2) 34 rfl (fun c16 => ?_) (fun c16 => ?_)
    ·have h := ifT c16 h
     refine aw_cond_t D_ rfl ?_
     refine sr fun K17 hK17 => ?_
     refine pm 37 (.bool v3_0) ?_
     refine pa 2 (.bool v3_0) ?_
     refine en hK17 ?_
     refine aw_ret ?_
     obtain rfl := Option.some.inj h
     exact ret_ok1 W_ W_ R_ (.inr rfl) rfl
    ·have h := ifF c16 h
     refine aw_cond_f D_ rfl ?_
     refine sr fun K18 hK18 => ?_
     refine pb 39 (.bool (a0.Kind == 3)) ?_
     refine pa 38 (.bool (a0.Kind == 3)) ?_
     refine en hK18 ?_
     refine aw_bool (b := (a0.Kind == 3)) 38 rfl (fun c19 => ?_) (fun c19 => ?_)
     ·have h := ifT c19 h
      refine aw_cond_t D_ rfl ?_
      refine sr fun K20 hK20 => ?_
      refine pm 40 (.bool v3_0) ?_
      refine pm 41 (.bool v3_0) ?_
      refine al_bool (c := v3_0) 41 rfl (fun c21 => ?_) (fun c21 => ?_)
      ·have h := ifT c21 h
       refine pf 42 (.ptr 1 0 4) ty25 ty23 ?_
       refine pl 43 (.sl 5 (List.map enc24 a0.Kids)) ty23 ?_
       refine pP 44 ((does_len_sl W_ ty23).castp (v' := .int .i64 (List.length a0.Kids : Int)) (by exact len_map _)) ?_
       refine pb 45 (.bool ((List.length a0.Kids : Int) == 1)) ?_
       refine pk 46 (.bool ((List.length a0.Kids : Int) == 1)) ?_
       refine pa 2 (.bool ((List.length a0.Kids : Int) == 1)) ?_
       refine en hK20 ?_
       refine aw_ret ?_
       obtain rfl := Option.some.inj h
       exact ret_ok1 W_ W_ R_ (.inr rfl) rfl
      ·have h := ifF c21 h
       refine pS 42 ?_
       refine pS 43 ?_
       refine pS 44 ?_
       refine pS 45 ?_
       refine pk 46 (.bool false) ?_
       refine pa 2 (.bool false) ?_
       refine en hK20 ?_
       refine aw_ret ?_
       obtain rfl := Option.some.inj h
       exact ret_ok1 W_ W_ R_ (.inr rfl) rfl
     ·have h := ifF c19 h
      refine aw_cond_f D_ rfl ?_
      refine sr fun K22 hK22 => ?_
      refine pb 48 (.bool (a0.Kind == 5)) ?_
      refine pa 47 (.bool (a0.Kind == 5)) ?_
      refine en hK22 ?_
      refine aw_bool (b := (a0.Kind == 5)) 47 rfl (fun c23 => ?_) (fun c23 => ?_)
      ·have h := ifT c23 h
       refine aw_cond_t D_ rfl ?_
       refine sr fun K24 hK24 => ?_
       refine pm 49 (.bool v3_0) ?_
       refine pm 50 (.bool v3_0) ?_
       refine al_bool (c := v3_0) 50 rfl (fun c25 => ?_) (fun c25 => ?_)
       ·have h := ifT c25 h
        refine pf 51 (.ptr 1 0 4) ty25 ty23 ?_
        refine pl 52 (.sl 5 (List.map enc24 a0.Kids)) ty23 ?_
        refine pP 53 ((does_len_sl W_ ty23).castp (v' := .int .i64 (List.length a0.Kids : Int)) (by exact len_map _)) ?_
        refine pb 54 (.bool ((List.length a0.Kids : Int) == 0)) ?_
        refine pk 55 (.bool ((List.length a0.Kids : Int) == 0)) ?_
        refine pa 2 (.bool ((List.length a0.Kids : Int) == 0)) ?_
        refine en hK24 ?_
        refine aw_ret ?_
        obtain rfl := Option.some.inj h
        exact ret_ok1 W_ W_ R_ (.inr rfl) rfl
       ·have h := ifF c25 h
        refine pS 51 ?_
        refine pS 52 ?_
        refine pS 53 ?_
        refine pS 54 ?_
        refine pk 55 (.bool false) ?_
        refine pa 2 (.bool false) ?_
        refine en hK24 ?_
        refine aw_ret ?_
        obtain rfl := Option.some.inj h
        exact ret_ok1 W_ W_ R_ (.inr rfl) rfl
      ·have h := ifF c23 h
       refine aw_cond_f D_ rfl ?_
       refine sr fun K26 hK26 => ?_
       refine pb 57 (.bool (a0.Kind == 6)) ?_
       refine pa 56 (.bool (a0.Kind == 6)) ?_
       refine en hK26 ?_
       refine aw_bool (b := (a0.Kind == 6)) 56 rfl (fun c27 => ?_) (fun c27 => ?_)
       ·have h := ifT c27 h
        refine aw_cond_t D_ rfl ?_
        refine sr fun K28 hK28 => ?_
        refine pf 58 (.ptr 1 0 1) ty25 ty3 ?_
        refine pl 59 (.int .i64 a0.N) ty3 ?_
        refine pb 60 (.bool (a0.N == 0)) ?_
        refine pm 61 (.bool (a0.N == 0)) ?_
        refine al_bool (c := (a0.N == 0)) 61 rfl (fun c29 => ?_) (fun c29 => ?_)
        ·have h := ifT c29 h
         refine pf 62 (.ptr 1 0 2) ty25 ty9 ?_
         refine pl 63 (.str a0.Key) ty9 ?_
         refine pP 64 (does_len_str W_ ty9) ?_
         obtain ⟨x30, hx30, h⟩ := bnd_some h
         refine pD 65 ((do_call0 65 false (gleaningref1_Within_ok (ByteArray.size a0.Key : Int) 1 16 hx30) rfl ent88 rfl rfl).fx (y := ⟨[], .bool x30, [], [65]⟩) rfl) ?_
         refine pk 66 (.bool x30) ?_
         refine pm 67 (.bool x30) ?_
         refine al_bool (c := x30) 67 rfl (fun c31 => ?_) (fun c31 => ?_)
         ·have h := ifT c31 h
          refine pf 68 (.ptr 1 0 3) ty25 ty9 ?_
          refine pl 69 (.str a0.Value) ty9 ?_
          refine pP 70 (does_len_str W_ ty9) ?_
          refine pb 71 (.bool (decide ((ByteArray.size a0.Value : Int) ≤ 16))) ?_
          refine pk 72 (.bool (decide ((ByteArray.size a0.Value : Int) ≤ 16))) ?_
          refine pm 73 (.bool (decide ((ByteArray.size a0.Value : Int) ≤ 16))) ?_
          refine al_bool (c := (decide ((ByteArray.size a0.Value : Int) ≤ 16))) 73 rfl (fun c32 => ?_) (fun c32 => ?_)
          ·have h := ifT c32 h
           refine pf 74 (.ptr 1 0 4) ty25 ty23 ?_
           refine pl 75 (.sl 5 (List.map enc24 a0.Kids)) ty23 ?_
           refine pP 76 ((does_len_sl W_ ty23).castp (v' := .int .i64 (List.length a0.Kids : Int)) (by exact len_map _)) ?_
           refine pb 77 (.bool ((List.length a0.Kids : Int) == 0)) ?_
           refine pk 78 (.bool ((List.length a0.Kids : Int) == 0)) ?_
           refine pa 2 (.bool ((List.length a0.Kids : Int) == 0)) ?_
           refine en hK28 ?_
           refine aw_ret ?_
           obtain rfl := Option.some.inj h
           exact ret_ok1 W_ W_ R_ (.inr rfl) rfl
          ·have h := ifF c32 h
           refine pS 74 ?_
           refine pS 75 ?_
           refine pS 76 ?_
           refine pS 77 ?_
           refine pk 78 (.bool false) ?_
           refine pa 2 (.bool false) ?_
           refine en hK28 ?_
           refine aw_ret ?_
           obtain rfl := Option.some.inj h
           exact ret_ok1 W_ W_ R_ (.inr rfl) rfl
         ·have h := ifF c31 h
          refine pS 68 ?_
          refine pS 69 ?_
          refine pS 70 ?_
          refine pS 71 ?_
          refine pk 72 (.bool false) ?_
          refine pm 73 (.bool false) ?_
          refine pS 74 ?_
          refine pS 75 ?_
          refine pS 76 ?_
          refine pS 77 ?_
          refine pk 78 (.bool false) ?_
          refine pa 2 (.bool false) ?_
          refine en hK28 ?_
          refine aw_ret ?_
          obtain rfl := Option.some.inj h
          exact ret_ok1 W_ W_ R_ (.inr rfl) rfl
        ·have h := ifF c29 h
         refine pS 62 ?_
         refine pS 63 ?_
         refine pS 64 ?_
         refine pS 65 ?_
         refine pk 66 (.bool false) ?_
         refine pm 67 (.bool false) ?_
         refine pS 68 ?_
         refine pS 69 ?_
         refine pS 70 ?_
         refine pS 71 ?_
         refine pk 72 (.bool false) ?_
         refine pm 73 (.bool false) ?_
         refine pS 74 ?_
         refine pS 75 ?_
         refine pS 76 ?_
         refine pS 77 ?_
         refine pk 78 (.bool false) ?_
         refine pa 2 (.bool false) ?_
         refine en hK28 ?_
         refine aw_ret ?_
         obtain rfl := Option.some.inj h
         exact ret_ok1 W_ W_ R_ (.inr rfl) rfl
       ·have h := ifF c27 h
        refine aw_cond_f D_ rfl ?_
        refine sr fun K33 hK33 => ?_
        refine pb 80 (.bool (a0.Kind == 4)) ?_
        refine pa 79 (.bool (a0.Kind == 4)) ?_
        refine en hK33 ?_
        refine aw_bool (b := (a0.Kind == 4)) 79 rfl (fun c34 => ?_) (fun c34 => ?_)
        ·have h := ifT c34 h
         refine aw_cond_t D_ rfl ?_
         refine sr fun K35 hK35 => ?_
         refine pm 81 (.bool v4_1) ?_
         refine pm 82 (.bool v4_1) ?_
         refine al_bool (c := v4_1) 82 rfl (fun c36 => ?_) (fun c36 => ?_)
         ·have h := ifT c36 h
          refine pf 83 (.ptr 1 0 1) ty25 ty3 ?_
          refine pl 84 (.int .i64 a0.N) ty3 ?_
          obtain ⟨x37, hx37, h⟩ := bnd_some h
          refine pD 85 (do_call0 85 false (gleaningref1_Within_ok a0.N 0 1073741824 hx37) rfl ent88 rfl rfl) ?_
          refine pk 86 (.bool x37) ?_
          refine pa 2 (.bool x37) ?_
          refine en hK35 ?_
          refine aw_ret ?_
          obtain rfl := Option.some.inj h
          exact ret_ok1 W_ W_ R_ (.inr rfl) rfl
         ·have h := ifF c36 h
          refine pS 83 ?_
          refine pS 84 ?_
          refine pS 85 ?_
          refine pk 86 (.bool false) ?_
          refine pa 2 (.bool false) ?_
          refine en hK35 ?_
          refine aw_ret ?_
          obtain rfl := Option.some.inj h
          exact ret_ok1 W_ W_ R_ (.inr rfl) rfl
        ·have h := ifF c34 h
         refine aw_cond_f D_ rfl ?_
         obtain ⟨q38, h, hk39⟩ := bnd_some h
         refine aw_cut (fun s => ∃ (v87_3 : Bool), gleaningref1_one_k3 a0 v4_1 v87_3 = some r ∧ s = lit [(1, .ptr 1 0 0), (4, .bool v4_1), (33, .int .i64 a0.Kind), (87, .bool v87_3)] [((1, 0), .box [.int .i64 a0.Kind, .int .i64 a0.N, .str a0.Key, .str a0.Value, .sl 5 (List.map enc24 a0.Kids)])] [(1, 1)] X) ?_ ?_
         ·skip
          refine sr fun K40 hK40 => ?_
          refine pb 88 (.bool (a0.Kind == 7)) ?_
          refine pa 87 (.bool (a0.Kind == 7)) ?_
          refine en hK40 ?_
          refine aw_bool (b := (a0.Kind == 7)) 87 rfl (fun c41 => ?_) (fun c41 => ?_)
          ·have h := ifT c41 h
           refine aw_cond_t D_ rfl ?_
           refine aw_skip ?_
           obtain rfl := Option.some.inj h
           have h := hk39
           exact ⟨_, reb_lit [(1, .ptr 1 0 0), (4, .bool v4_1), (33, .int .i64 a0.Kind), (87, .bool true)] [(1, 0)] [((1, 0), .box [.int .i64 a0.Kind, .int .i64 a0.N, .str a0.Key, .str a0.Value, .sl 5 (List.map enc24 a0.Kids)])] [(1, 1)] (ec (ec (ec (ec envOk_nil)))) (objOk_cons W_ W_ R_ (by simp) objOk_nil) (nodup_b rfl) (nodup_b rfl) rfl rfl, true, h, rfl⟩
          ·have h := ifF c41 h
           refine aw_cond_f D_ rfl ?_
           refine aw_regL ?_
           refine pb 89 (.bool (a0.Kind == 8)) ?_
           refine pa 87 (.bool (a0.Kind == 8)) ?_
           refine al_nil ?_
           obtain rfl := Option.some.inj h
           have h := hk39
           exact ⟨_, reb_lit [(1, .ptr 1 0 0), (4, .bool v4_1), (33, .int .i64 a0.Kind), (87, .bool (a0.Kind == 8))] [(1, 0)] [((1, 0), .box [.int .i64 a0.Kind, .int .i64 a0.N, .str a0.Key, .str a0.Value, .sl 5 (List.map enc24 a0.Kids)])] [(1, 1)] (ec (ec (ec (ec envOk_nil)))) (objOk_cons W_ W_ R_ (by simp) objOk_nil) (nodup_b rfl) (nodup_b rfl) rfl rfl, (a0.Kind == 8), h, rfl⟩
         ·rintro s ⟨v87_3, h, rfl⟩
          unfold gleaningref1_one_k3 at h
          refine aw_bool (b := v87_3) 87 rfl (fun c42 => ?_) (fun c42 => ?_)
          ·have h := ifT c42 h
           refine aw_cond_t D_ rfl ?_
           refine sr fun K43 hK43 => ?_
           refine pm 90 (.bool v4_1) ?_
           refine pm 91 (.bool v4_1) ?_
           refine al_bool (c := v4_1) 91 rfl (fun c44 => ?_) (fun c44 => ?_)
           ·have h := ifT c44 h
            refine pf 92 (.ptr 1 0 1) ty25 ty3 ?_
            refine pl 93 (.int .i64 a0.N) ty3 ?_
            obtain ⟨x45, hx45, h⟩ := bnd_some h
            refine pD 94 (do_call0 94 false (gleaningref1_Within_ok a0.N 0 1000 hx45) rfl ent88 rfl rfl) ?_
            refine pk 95 (.bool x45) ?_
            refine pa 2 (.bool x45) ?_
            refine en hK43 ?_
            refine aw_ret ?_
            obtain rfl := Option.some.inj h
            exact ret_ok1 W_ W_ R_ (.inr rfl) rfl
           ·have h := ifF c44 h
            refine pS 92 ?_
            refine pS 93 ?_
            refine pS 94 ?_
            refine pk 95 (.bool false) ?_
            refine pa 2 (.bool false) ?_
            refine en hK43 ?_
            refine aw_ret ?_
            obtain rfl := Option.some.inj h
            exact ret_ok1 W_ W_ R_ (.inr rfl) rfl
          ·have h := ifF c42 h
           refine aw_cond_f D_ rfl ?_
           refine sr fun K46 hK46 => ?_
           refine pb 97 (.bool (a0.Kind == 9)) ?_
           refine pa 96 (.bool (a0.Kind == 9)) ?_
           refine en hK46 ?_
           refine aw_bool (b := (a0.Kind == 9)) 96 rfl (fun c47 => ?_) (fun c47 => ?_)
           ·have h := ifT c47 h
            refine aw_cond_t D_ rfl ?_
            refine sr fun K48 hK48 => ?_
            refine pm 98 (.bool v4_1) ?_
            refine pm 99 (.bool v4_1) ?_
            refine al_bool (c := v4_1) 99 rfl (fun c49 => ?_) (fun c49 => ?_)
            ·have h := ifT c49 h
             refine pf 100 (.ptr 1 0 1) ty25 ty3 ?_
             refine pl 101 (.int .i64 a0.N) ty3 ?_
             obtain ⟨x50, hx50, h⟩ := bnd_some h
             refine pD 102 (do_call0 102 false (gleaningref1_Within_ok a0.N 0 1000000 hx50) rfl ent88 rfl rfl) ?_
             refine pk 103 (.bool x50) ?_
             refine pa 2 (.bool x50) ?_
             refine en hK48 ?_
             refine aw_ret ?_
             obtain rfl := Option.some.inj h
             exact ret_ok1 W_ W_ R_ (.inr rfl) rfl
            ·have h := ifF c49 h
             refine pS 100 ?_
             refine pS 101 ?_
             refine pS 102 ?_
             refine pk 103 (.bool false) ?_
             refine pa 2 (.bool false) ?_
             refine en hK48 ?_
             refine aw_ret ?_
             obtain rfl := Option.some.inj h
             exact ret_ok1 W_ W_ R_ (.inr rfl) rfl
           ·have h := ifF c47 h
            refine aw_cond_f D_ rfl ?_
            refine aw_skip ?_
            refine hK10 _ ?_
            refine sr fun K51 hK51 => ?_
            refine pa 2 (.bool false) ?_
            refine en hK51 ?_
            refine aw_ret ?_
            obtain rfl := Option.some.inj h
            exact ret_ok1 W_ W_ R_ (.inr rfl) rfl
def gleaningref1_all_b_l0 (K : Rule → Option Bool) (a0 : Rule) (v3_0 : Int) : Option (Int ⊕ Bool) :=
 if (decide (v3_0 < (List.length a0.Kids : Int))) = true then (gd (0 ≤ v3_0) (Option.bind (a0.Kids[(Int.toNat v3_0)]?) (fun (x17 : Rule) => Option.bind (K x17) (fun (x18 : Bool) => if (!x18) = true then (some (Sum.inr false)) else (some (Sum.inl (IntKind.i64.wrap (v3_0 + 1)))))))) else (some (Sum.inr true))
def gleaningref1_all_b (K : Rule → Option Bool) (a0 : Rule) : Option Bool :=
 Option.bind (gleaningref1_one a0) (fun (x4 : Bool) => if (!x4) = true then (some false) else (loopN (fun (s : Int) => gleaningref1_all_b_l0 K a0 s) Fu 0))
theorem gleaningref1_all_b_ok (K : Rule → Option Bool) (hK : ∀ (a0 : Rule) {r : Bool}, K a0 = some r → Ok Try.prog 75 [.agg [.int .i64 a0.Kind, .int .i64 a0.N, .str a0.Key, .str a0.Value, .sl 5 (List.map enc24 a0.Kids)]] [] [] (.bool r) [] []) (a0 : Rule) {r : Bool} (h : gleaningref1_all_b K a0 = some r) : Ok Try.prog 75 [.agg [.int .i64 a0.Kind, .int .i64 a0.N, .str a0.Key, .str a0.Value, .sl 5 (List.map enc24 a0.Kids)]] [] [] (.bool r) [] [] := by
 unfold gleaningref1_all_b at h
 refine ok_of_code Try.func75 rfl (by show (1 : Nat) ≤ _; decide) (Nat.le_refl _) fun X => ?_
 refine sr fun K1 hK1 => ?_
 refine pD 1 (do_box W_ rfl rfl) ?_
 refine pa 2 (.bool false) ?_
 refine en hK1 ?_
 refine aw_seq_k (fun K2 hK2 => ?_)
 refine sr fun K3 hK3 => ?_
 refine pl 4 (.agg [.int .i64 a0.Kind, .int .i64 a0.N, .str a0.Key, .str a0.Value, .sl 5 (List.map enc24 a0.Kids)]) ty25 ?_
 obtain ⟨x4, hx4, h⟩ := bnd_some h
 refine pD 5 (do_call0 5 false (gleaningref1_one_ok a0 hx4) rfl ent89 rfl rfl) ?_
 refine pP 6 (does_un (v := .bool (!x4)) W_ rfl) ?_
 refine en hK3 ?_
 refine aw_bool (b := (!x4)) 6 rfl (fun c5 => ?_) (fun c5 => ?_)
 ·have h := ifT c5 h
  refine aw_cond_t D_ rfl ?_
  refine sr fun K6 hK6 => ?_
  refine pa 2 (.bool false) ?_
  refine en hK6 ?_
  refine aw_ret ?_
  obtain rfl := Option.some.inj h
  exact ret_ok1 W_ W_ R_ (.inr rfl) rfl
 ·have h := ifF c5 h
  refine aw_cond_f D_ rfl ?_
  refine aw_skip ?_
  refine hK2 _ ?_
  refine aw_seq_k (fun K7 hK7 => ?_)
  refine sr fun K8 hK8 => ?_
  refine pa 3 (.int .i64 0) ?_
  refine en hK8 ?_
  refine aw_block ?_
  refine aw_loop' (fun m s => ∃ (v3_0 : Int), loopN (fun (s : Int) => gleaningref1_all_b_l0 K a0 s) m v3_0 = some r ∧ s = lit [(1, .ptr 1 0 0), (3, .int .i64 v3_0)] [((1, 0), .box [.int .i64 a0.Kind, .int .i64 a0.N, .str a0.Key, .str a0.Value, .sl 5 (List.map enc24 a0.Kids)])] [(1, 1)] X) Fu
   ⟨_, reb_lit [(1, .ptr 1 0 0), (3, .int .i64 (0))] [(1, 0)] [((1, 0), .box [.int .i64 a0.Kind, .int .i64 a0.N, .str a0.Key, .str a0.Value, .sl 5 (List.map enc24 a0.Kids)])] [(1, 1)] (ec (ec envOk_nil)) (objOk_cons W_ W_ R_ (by simp) objOk_nil) (nodup_b rfl) (nodup_b rfl) rfl rfl, 0, h, rfl⟩ ?_
  rintro m s ⟨v3_0, h, rfl⟩
  obtain ⟨m0, q9, rfl, h, hq10⟩ := loop_some h
  replace h : gleaningref1_all_b_l0 K a0 v3_0 = some q9 := h
  unfold gleaningref1_all_b_l0 at h
  refine aw_seq_k (fun K11 hK11 => ?_)
  refine sr fun K12 hK12 => ?_
  refine pm 7 (.int .i64 v3_0) ?_
  refine pf 8 (.ptr 1 0 4) ty25 ty23 ?_
  refine pl 9 (.sl 5 (List.map enc24 a0.Kids)) ty23 ?_
  refine pP 10 ((does_len_sl W_ ty23).castp (v' := .int .i64 (List.length a0.Kids : Int)) (by exact len_map _)) ?_
  refine pb 11 (.bool (decide (v3_0 < (List.length a0.Kids : Int)))) ?_
  refine en hK12 ?_
  refine aw_bool (b := (decide (v3_0 < (List.length a0.Kids : Int)))) 11 rfl (fun c13 => ?_) (fun c13 => ?_)
  ·have h := ifT c13 h
   refine aw_cond_t D_ rfl ?_
   refine aw_skip ?_
   refine hK11 _ ?_
   refine aw_seq_k (fun K14 hK14 => ?_)
   refine aw_block ?_
   refine sr fun K15 hK15 => ?_
   refine pf 14 (.ptr 1 0 4) ty25 ty23 ?_
   refine pl 15 (.sl 5 (List.map enc24 a0.Kids)) ty23 ?_
   refine pm 16 (.int .i64 v3_0) ?_
   obtain ⟨g16, h⟩ := gd_some h
   obtain ⟨x17, hx17, h⟩ := bnd_some h
   refine pP 17 (does_indexAddr_sl (el := .agg [.int .i64 x17.Kind, .int .i64 x17.N, .str x17.Key, .str x17.Value, .sl 5 (List.map enc24 x17.Kids)]) W_ W_ ty23 ty25 g16 (by exact map_getE (enc24_eq _) hx17)) ?_
   refine pl 18 (.agg [.int .i64 x17.Kind, .int .i64 x17.N, .str x17.Key, .str x17.Value, .sl 5 (List.map enc24 x17.Kids)]) ty25 ?_
   obtain ⟨x18, hx18, h⟩ := bnd_some h
   refine pD 19 (do_call0 19 false (hK x17 hx18) rfl ent75 rfl rfl) ?_
   refine pP 20 (does_un (v := .bool (!x18)) W_ rfl) ?_
   refine en hK15 ?_
   refine aw_bool (b := (!x18)) 20 rfl (fun c19 => ?_) (fun c19 => ?_)
   ·have h := ifT c19 h
    refine aw_cond_t D_ rfl ?_
    refine sr fun K20 hK20 => ?_
    refine pa 2 (.bool false) ?_
    refine en hK20 ?_
    refine aw_ret ?_
    have h := leafR h hq10
    obtain rfl := Option.some.inj h
    exact ret_ok1 W_ W_ R_ (.inr rfl) rfl
   ·have h := ifF c19 h
    refine aw_cond_f D_ rfl ?_
    refine aw_skip ?_
    refine hK14 _ ?_
    refine aw_regL ?_
    refine pm 12 (.int .i64 v3_0) ?_
    refine pb 13 (.int .i64 (IntKind.i64.wrap (v3_0 + 1))) ?_
    refine pa 3 (.int .i64 (IntKind.i64.wrap (v3_0 + 1))) ?_
    refine al_nil ?_
    have h := leafL h hq10
    exact ⟨m0, Nat.lt_succ_self _, _, reb_lit [(1, .ptr 1 0 0), (3, .int .i64 (IntKind.i64.wrap (v3_0 + 1)))] [(1, 0)] [((1, 0), .box [.int .i64 a0.Kind, .int .i64 a0.N, .str a0.Key, .str a0.Value, .sl 5 (List.map enc24 a0.Kids)])] [(1, 1)] (ec (ec envOk_nil)) (objOk_cons W_ W_ R_ (by simp) objOk_nil) (nodup_b rfl) (nodup_b rfl) rfl rfl, (IntKind.i64.wrap (v3_0 + 1)), h, rfl⟩
  ·have h := ifF c13 h
   refine aw_cond_f D_ rfl ?_
   refine aw_exit ?_
   have h := leafR h hq10
   refine hK7 _ ?_
   refine sr fun K21 hK21 => ?_
   refine pa 2 (.bool true) ?_
   refine en hK21 ?_
   refine aw_ret ?_
   obtain rfl := Option.some.inj h
   exact ret_ok1 W_ W_ R_ (.inr rfl) rfl
def gleaningref1_allN : Nat → Rule → Option Bool
 | 0, _ => none
 | n + 1, a0 => gleaningref1_all_b (gleaningref1_allN n) a0
theorem gleaningref1_allN_ok : ∀ (n : Nat) (a0 : Rule) {r : Bool}, gleaningref1_allN n a0 = some r → Ok Try.prog 75 [.agg [.int .i64 a0.Kind, .int .i64 a0.N, .str a0.Key, .str a0.Value, .sl 5 (List.map enc24 a0.Kids)]] [] [] (.bool r) [] []
 | 0, _, _, h => by simp [gleaningref1_allN] at h
 | n + 1, a0, _, h => gleaningref1_all_b_ok (gleaningref1_allN n) (gleaningref1_allN_ok n) a0 h
def gleaningref1_all (a0 : Rule) : Option Bool := gleaningref1_allN Fu a0
theorem gleaningref1_all_ok (a0 : Rule) {r : Bool} (h : gleaningref1_all a0 = some r) : Ok Try.prog 75 [.agg [.int .i64 a0.Kind, .int .i64 a0.N, .str a0.Key, .str a0.Value, .sl 5 (List.map enc24 a0.Kids)]] [] [] (.bool r) [] [] := gleaningref1_allN_ok Fu a0 h
def gleaningref1_RightRule (a0 : Rule) : Option Bool :=
 Option.bind (gleaningref1_nodes a0 5) (fun (x3 : Int) => if (decide (x3 ≤ 20)) = true then (Option.bind (gleaningref1_all a0) (fun (x5 : Bool) => some x5)) else (some false))
theorem gleaningref1_RightRule_ok (a0 : Rule) {r : Bool} (h : gleaningref1_RightRule a0 = some r) : Ok Try.prog 46 [.agg [.int .i64 a0.Kind, .int .i64 a0.N, .str a0.Key, .str a0.Value, .sl 5 (List.map enc24 a0.Kids)]] [] [] (.bool r) [] [] := by
 unfold gleaningref1_RightRule at h
 refine ok_of_code Try.func46 rfl (by show (1 : Nat) ≤ _; decide) (Nat.le_refl _) fun X => ?_
 refine sr fun K1 hK1 => ?_
 refine pD 1 (do_box W_ rfl rfl) ?_
 refine pa 2 (.bool false) ?_
 refine en hK1 ?_
 refine sr fun K2 hK2 => ?_
 refine pl 3 (.agg [.int .i64 a0.Kind, .int .i64 a0.N, .str a0.Key, .str a0.Value, .sl 5 (List.map enc24 a0.Kids)]) ty25 ?_
 obtain ⟨x3, hx3, h⟩ := bnd_some h
 refine pD 4 (do_call0 4 false (gleaningref1_nodes_ok a0 5 hx3) rfl ent74 rfl rfl) ?_
 refine pb 5 (.bool (decide (x3 ≤ 20))) ?_
 refine pm 6 (.bool (decide (x3 ≤ 20))) ?_
 refine al_bool (c := (decide (x3 ≤ 20))) 6 rfl (fun c4 => ?_) (fun c4 => ?_)
 ·have h := ifT c4 h
  refine pl 7 (.agg [.int .i64 a0.Kind, .int .i64 a0.N, .str a0.Key, .str a0.Value, .sl 5 (List.map enc24 a0.Kids)]) ty25 ?_
  obtain ⟨x5, hx5, h⟩ := bnd_some h
  refine pD 8 (do_call0 8 false (gleaningref1_all_ok a0 hx5) rfl ent75 rfl rfl) ?_
  refine pk 9 (.bool x5) ?_
  refine pa 2 (.bool x5) ?_
  refine en hK2 ?_
  refine aw_ret ?_
  obtain rfl := Option.some.inj h
  exact ret_ok1 W_ W_ R_ (.inr rfl) rfl
 ·have h := ifF c4 h
  refine pS 7 ?_
  refine pS 8 ?_
  refine pk 9 (.bool false) ?_
  refine pa 2 (.bool false) ?_
  refine en hK2 ?_
  refine aw_ret ?_
  obtain rfl := Option.some.inj h
  exact ret_ok1 W_ W_ R_ (.inr rfl) rfl
end Go.Proofs.Ytdhpmlgalddgfaa.Ab
