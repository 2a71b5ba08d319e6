/- The walks of chapter 17: verdicts put and found. -/
import Derived.Test.YtomjoccpkknamaaAbArg2
import Derived.Test.YtomjoccpkknamaaProg
namespace Go.Proofs.Ytomjoccpkknamaa.Ab
open Go Go.RowKit
set_option linter.unusedVariables false
set_option linter.unusedSimpArgs false
theorem ty4 : tyOf Try.prog 4 = some ⟨.bool, 1, 1, [.bool false]⟩ := by kernel_rfl
theorem ty32 : tyOf Try.prog 32 = some ⟨.slice 38, 1, 24, [.nil]⟩ := by kernel_rfl
theorem ty33 : tyOf Try.prog 33 = some ⟨.int .u64, 1, 8, [.int .u64 0]⟩ := by kernel_rfl
theorem ty35 : tyOf Try.prog 35 = some ⟨.struct [(0, 33), (1, 33)], 2, 16, [.int .u64 0, .int .u64 0]⟩ := by kernel_rfl
theorem ty38 : tyOf Try.prog 38 = some ⟨.struct [(0, 35), (2, 4)], 3, 24, [.int .u64 0, .int .u64 0, .bool false]⟩ := by kernel_rfl
theorem fk35 : flatK Try.prog 8 35 = some [.i .u64, .i .u64] := by kernel_rfl
theorem ag35 : aggT Try.prog 35 = true := by kernel_rfl
theorem eg35 : Try.prog.eqGuardType Try.prog.depth 35 = false := by kernel_rfl
theorem fk38 : flatK Try.prog 8 38 = some [.i .u64, .i .u64, .b] := by kernel_rfl
theorem ag38 : aggT Try.prog 38 = true := by kernel_rfl
theorem eg38 : Try.prog.eqGuardType Try.prog.depth 38 = false := by kernel_rfl
theorem ent20 : Ent Try.prog 20 := ⟨_, Try.func20, by kernel_rfl, rfl⟩
theorem ent21 : Ent Try.prog 21 := ⟨_, Try.func21, by kernel_rfl, rfl⟩
theorem ent22 : Ent Try.prog 22 := ⟨_, Try.func22, by kernel_rfl, rfl⟩
theorem ent23 : Ent Try.prog 23 := ⟨_, Try.func23, by kernel_rfl, rfl⟩
theorem ent24 : Ent Try.prog 24 := ⟨_, Try.func24, by kernel_rfl, rfl⟩
theorem ent25 : Ent Try.prog 25 := ⟨_, Try.func25, by kernel_rfl, rfl⟩
theorem ent43 : Ent Try.prog 43 := ⟨_, Try.func43, by kernel_rfl, rfl⟩
theorem ent44 : Ent Try.prog 44 := ⟨_, Try.func44, by kernel_rfl, rfl⟩
theorem ent45 : Ent Try.prog 45 := ⟨_, Try.func45, by kernel_rfl, rfl⟩

structure Vd where
  hi : Int
  lo : Int
  kept : Bool
def Vd.pv (v : Vd) : PV := .agg [.int .u64 v.hi, .int .u64 v.lo, .bool v.kept]
def vsPV (l : List Vd) : List PV := l.map Vd.pv
theorem vsPV_length (l : List Vd) : (vsPV l).length = l.length := by simp [vsPV]
theorem vsPV_get {l : List Vd} {i : Nat} {x : Vd} (h : l[i]? = some x) : (vsPV l)[i]? = some (.agg [.int .u64 x.hi, .int .u64 x.lo, .bool x.kept]) := by simp [vsPV, h, Vd.pv]
theorem vsPV_append (a b : List Vd) : vsPV a ++ vsPV b = vsPV (a ++ b) := by simp [vsPV]
theorem vsPV_take (l : List Vd) (k : Nat) : (vsPV l).take k = vsPV (l.take k) := by simp [vsPV]
/-- are they on one trace -/
def Vd.on (x : Vd) (t : Int × Int) : Bool := (x.hi == t.1) && ((x.lo == t.2) && true)
def Vd.tr (x : Vd) : Int × Int := (x.hi, x.lo)
def others (v : Vd) (l : List Vd) : List Vd := l.filter fun x => !x.on v.tr
theorem others_yes {v x : Vd} {l : List Vd} {i : Nat} (hx : l[i]? = some x) (h : (!x.on v.tr) = true) : others v (l.take (i + 1)) = others v (l.take i) ++ [x] := by
  obtain ⟨hi, rfl⟩ := List.getElem?_eq_some_iff.1 hx
  simp only [others, List.take_succ_eq_append_getElem hi, List.filter_append, List.filter_cons, List.filter_nil, h, if_true]
theorem others_no {v x : Vd} {l : List Vd} {i : Nat} (hx : l[i]? = some x) (h : (!x.on v.tr) = false) : others v (l.take (i + 1)) = others v (l.take i) := by
  obtain ⟨hi, rfl⟩ := List.getElem?_eq_some_iff.1 hx
  simp only [others, List.take_succ_eq_append_getElem hi, List.filter_append, List.filter_cons, List.filter_nil, h, Bool.false_eq_true, if_false, List.append_nil]
theorem others_le (v : Vd) (l : List Vd) : (others v l).length ≤ l.length := List.length_filter_le _ _
def capN (most : Int) (n : Nat) : Nat := if most < 0 then 0 else if most < n then most.toNat else n
theorem capN_le (most : Int) (n : Nat) : capN most n ≤ n := by unfold capN; split <;> (try split) <;> omega
theorem cap_eq (most : Int) (n : Nat) : (if (if most < (n : Int) then most else (n : Int)) > 0 then (if most < (n : Int) then most else (n : Int)) else 0) = ((capN most n : Nat) : Int) := by
  unfold capN; split <;> split <;> (try split) <;> (try split) <;> omega
theorem vd_ext {x y : Vd} (h : ((x.hi == y.hi) && ((x.lo == y.lo) && ((x.kept == y.kept) && true))) = true) : x = y := by
  simp only [Bool.and_eq_true, beq_iff_eq, and_true] at h
  cases x; cases y; simp_all
def findI (l : List Vd) (t : Int × Int) : Option Nat := l.findIdx? fun x => x.on t
def idxV (l : List Vd) (t : Int × Int) : Int := match findI l t with | some i => (i : Int) | none => -1
def foundV (l : List Vd) (t : Int × Int) : Bool := (findI l t).isSome
def keptV (l : List Vd) (t : Int × Int) : Bool := match findI l t with | some i => (match l[i]? with | some x => x.kept | none => false) | none => false
theorem findI_some {l : List Vd} {t : Int × Int} {i : Nat} {x : Vd} (hx : l[i]? = some x) (h : x.on t = true) (hno : ∀ j, j < i → ∀ y, l[j]? = some y → y.on t = false) : findI l t = some i := by
  obtain ⟨hi, rfl⟩ := List.getElem?_eq_some_iff.1 hx
  refine List.findIdx?_eq_some_iff_getElem.2 ⟨hi, h, fun j hj => ?_⟩
  have := hno j hj l[j] (List.getElem?_eq_getElem (by omega))
  simp [this]
theorem findI_none {l : List Vd} {t : Int × Int} (hno : ∀ j, j < l.length → ∀ y, l[j]? = some y → y.on t = false) : findI l t = none := by
  refine List.findIdx?_eq_none_iff.2 fun x hx => ?_
  obtain ⟨j, hj⟩ := List.getElem?_of_mem hx
  exact hno j (List.getElem?_eq_some_iff.1 hj).1 x hj
theorem no_more {l : List Vd} {t : Int × Int} {i : Nat} {x : Vd} (hx : l[i]? = some x) (h : x.on t = false) (hno : ∀ j, j < i → ∀ y, l[j]? = some y → y.on t = false) : ∀ j, j < i + 1 → ∀ y, l[j]? = some y → y.on t = false := by
  intro j hj y hy
  by_cases e : j = i
  · subst e; rw [hx] at hy; injection hy with hy; subst hy; exact h
  · exact hno j (by omega) y hy
def putV (l : List Vd) (v : Vd) (most : Int) : List Vd := (v :: others v l).take (capN most (v :: others v l).length)

set_option maxRecDepth 100000 in
set_option maxHeartbeats 8000000 in
theorem put_ok (l : List Vd) (v : Vd) (most : Int) (hl : l.length < 1000000) : Ok Try.prog 21 [.sl 3 (vsPV l), .agg [.int .u64 v.hi, .int .u64 v.lo, .bool v.kept], .int .i64 most] [] [] (.sl 3 (vsPV (putV l v most))) [] [] := by
  refine ok_of_code Try.func21 rfl (by show (3 : Nat) ≤ _; decide) (Nat.le_refl _) fun X => ?_
  refine aw_seq_k (fun K1 hK1 => ?_)
  refine aw_reg ?_
  refine ao_cons (acts_of rfl (do_box (by conv => lhs; whnf) rfl rfl)) (by decide) ?_
  refine ao_cons (acts_of rfl (does_assign (by conv => lhs; whnf))) (by decide) ?_
  refine ao_nil_n ?_
  refine hK1 _ ?_
  refine aw_seq_k (fun K2 hK2 => ?_)
  refine aw_reg ?_
  refine ao_cons (acts_of rfl (does_load (by conv => lhs; whnf) (by conv => lhs; whnf) ty38 (by conv => lhs; whnf))) (by decide) ?_
  refine ao_cons (acts_of rfl (do_buildSlice (xs := [.agg [.int .u64 v.hi, .int .u64 v.lo, .bool v.kept]]) ty32 ty38 rfl rfl rfl rfl rfl rfl rfl rfl)) (by decide) ?_
  refine ao_cons (acts_of rfl (does_assign (by conv => lhs; whnf))) (by decide) ?_
  refine ao_nil_n ?_
  refine hK2 _ ?_
  refine aw_seq_k (fun K3 hK3 => ?_)
  refine aw_seq_k (fun K4 hK4 => ?_)
  refine aw_reg ?_
  refine ao_cons (acts_of rfl (does_move (by conv => lhs; whnf))) (by decide) ?_
  refine ao_cons (acts_of rfl (does_len_sl (by conv => lhs; whnf) ty32)) (by decide) ?_
  refine ao_cons (acts_of rfl (does_move (by conv => lhs; whnf))) (by decide) ?_
  refine ao_nil_n ?_
  refine hK4 _ ?_
  refine aw_block ?_
  refine aw_loop' (fun m s => ∃ (i : Nat), (i ≤ l.length) ∧ m = l.length - i ∧ s = lit [(2, .int .i64 most), (4, .ptr 4 0 0), (7, .own 11 0), (12, .sl 3 (vsPV l)), (13, .int .i64 ((vsPV l).length : Int)), (14, .int .i64 ((i : Nat) : Int))] [((4, 0), .box [.int .u64 v.hi, .int .u64 v.lo, .bool v.kept]), ((11, 0), .arr 38 3 false (vsPV (v :: others v (l.take i))))] [(4, 1), (11, 1)] X) (l.length - 0)
    ⟨_, reb_lit [(2, .int .i64 most), (4, .ptr 4 0 0), (7, .own 11 0), (12, .sl 3 (vsPV l)), (13, .int .i64 ((vsPV l).length : Int)), (14, .int .i64 ((0 : Nat) : Int))] [(4, 0), (11, 0)] [((4, 0), .box [.int .u64 v.hi, .int .u64 v.lo, .bool v.kept]), ((11, 0), .arr 38 3 false (vsPV (v :: others v (l.take 0))))] [(4, 1), (11, 1)] (envOk_cons (by conv => lhs; whnf) (by exact rfl) (envOk_cons (by conv => lhs; whnf) (by exact rfl) (envOk_cons (by conv => lhs; whnf) (by exact rfl) (envOk_cons (by conv => lhs; whnf) (by exact rfl) (envOk_cons (by conv => lhs; whnf) (by exact rfl) (envOk_cons (by conv => lhs; whnf) (by exact rfl) envOk_nil)))))) (objOk_cons (by conv => lhs; whnf) (by conv => lhs; whnf) (by exact rfl) (by simp) (objOk_cons (by conv => lhs; whnf) (by conv => lhs; whnf) (by exact rfl) (by simp) objOk_nil)) (nodup_b rfl) (nodup_b rfl) rfl rfl, (0), (by omega), rfl, rfl⟩ ?_
  rintro m s ⟨i, hle, rfl, rfl⟩
  refine aw_seq_k (fun K5 hK5 => ?_)
  refine aw_reg ?_
  refine ao_cons (acts_of rfl (does_bin (by conv => lhs; whnf) (by conv => lhs; whnf) (by conv => lhs; whnf))) (by decide) ?_
  refine ao_nil_n ?_
  refine hK5 _ ?_
  refine aw_seq_k (fun K6 hK6 => ?_)
  refine aw_bool 15 rfl (fun c15 => ?_) (fun c15 => ?_)
  · try simp only [vsPV_length, decide_eq_true_eq, decide_eq_false_iff_not, beq_iff_eq, Bool.not_eq_true', beq_eq_false_iff_ne, bne_iff_ne, Bool.not_eq_false', bne_eq_false_iff_eq, ne_eq, Decidable.not_not] at c15
    have hi : i < l.length := by omega
    obtain ⟨x, hx⟩ : ∃ x, l[i]? = some x := ⟨_, List.getElem?_eq_getElem hi⟩
    refine aw_cond_t (by decide) rfl ?_
    refine aw_skip ?_
    refine hK6 _ ?_
    refine aw_seq_k (fun K7 hK7 => ?_)
    refine aw_block ?_
    refine aw_seq_k (fun K8 hK8 => ?_)
    refine aw_reg ?_
    refine ao_cons (acts_of rfl (does_indexAddr_sl (el := .agg [.int .u64 x.hi, .int .u64 x.lo, .bool x.kept]) (by conv => lhs; whnf) (by conv => lhs; whnf) ty32 ty38 (by omega) (by exact vsPV_get hx))) (by decide) ?_
    refine ao_cons (acts_of rfl (does_load (by conv => lhs; whnf) (by conv => lhs; whnf) ty38 (by conv => lhs; whnf))) (by decide) ?_
    refine ao_cons (acts_of rfl (do_new ty38 rfl rfl)) (by decide) ?_
    refine ao_cons (acts_of rfl (do_store (by conv => lhs; whnf) (by conv => lhs; whnf) (by conv => lhs; whnf) ty38 rfl rfl rfl (by conv => lhs; whnf))) (by decide) ?_
    refine ao_nil_n ?_
    refine hK8 _ ?_
    refine aw_seq_k (fun K9 hK9 => ?_)
    refine aw_reg ?_
    refine ao_cons (acts_of rfl (does_fieldAddr (by conv => lhs; whnf) ty38 rfl ty35 (by decide) (by conv => lhs; whnf))) (by decide) ?_
    refine ao_cons (acts_of rfl (does_load (by conv => lhs; whnf) (by conv => lhs; whnf) ty35 (by conv => lhs; whnf))) (by decide) ?_
    refine ao_cons (acts_of rfl (does_fieldAddr (by conv => lhs; whnf) ty38 rfl ty35 (by decide) (by conv => lhs; whnf))) (by decide) ?_
    refine ao_cons (acts_of rfl (does_load (by conv => lhs; whnf) (by conv => lhs; whnf) ty35 (by conv => lhs; whnf))) (by decide) ?_
    refine ao_cons (acts_of rfl ((does_eq_struct (by conv => lhs; whnf) (by conv => lhs; whnf) fk35 rfl ag35 eg35 (by conv => lhs; whnf) (by conv => lhs; whnf)).castp (v' := .bool (!x.on v.tr)) (by exact rfl))) (by decide) ?_
    refine ao_nil_n ?_
    refine hK9 _ ?_
    refine aw_bool 22 rfl (fun c22 => ?_) (fun c22 => ?_)
    · try simp only [vsPV_length, decide_eq_true_eq, decide_eq_false_iff_not, beq_iff_eq, Bool.not_eq_true', beq_eq_false_iff_ne, bne_iff_ne, Bool.not_eq_false', bne_eq_false_iff_eq, ne_eq, Decidable.not_not] at c22
      refine aw_cond_t (by decide) rfl ?_
      refine aw_reg ?_
      refine ao_cons (acts_of rfl (does_move (by conv => lhs; whnf))) (by decide) ?_
      refine ao_cons (acts_of rfl (does_load (by conv => lhs; whnf) (by conv => lhs; whnf) ty38 (by conv => lhs; whnf))) (by decide) ?_
      refine ao_cons (acts_of rfl (do_buildSlice (xs := [.agg [.int .u64 x.hi, .int .u64 x.lo, .bool x.kept]]) ty32 ty38 rfl rfl rfl rfl rfl rfl rfl rfl)) (by decide) ?_
      refine ao_cons (acts_of rfl (do_append (v := vsPV (v :: others v (l.take (i + 1)))) (by conv => lhs; whnf) (by conv => lhs; whnf) ty32 ty38 rfl rfl (by conv => lhs; whnf) (by first | exact .inl rfl | exact .inr ⟨rfl, rfl⟩) (by conv => lhs; whnf) (by first | exact .inr rfl | exact .inl rfl) (by rw [others_yes hx (by simpa using c22), ← List.cons_append, ← vsPV_append]; rfl) (by simp only [vsPV_length, List.length_cons]; have := others_le v (l.take (i + 1)); simp only [List.length_take] at this; omega))) (by decide) ?_
      refine ao_cons (acts_of rfl (does_assign (by conv => lhs; whnf))) (by decide) ?_
      refine ao_nil_n ?_
      refine hK7 _ ?_
      refine aw_reg ?_
      refine ao_cons (acts_of rfl ((does_bin (by conv => lhs; whnf) (by conv => lhs; whnf) (by conv => lhs; whnf)).castp (v' := .int .i64 ((i + 1 : Nat) : Int)) (by exact congrArg _ (by rw [wrap_i64 _ (by omega) (by omega)]; rfl)))) (by decide) ?_
      refine ao_cons (acts_of rfl (does_move (by conv => lhs; whnf))) (by decide) ?_
      refine ao_nil_n ?_
      exact ⟨l.length - (i + 1), (by omega), _, reb_lit [(2, .int .i64 most), (4, .ptr 4 0 0), (7, .own 11 0), (12, .sl 3 (vsPV l)), (13, .int .i64 ((vsPV l).length : Int)), (14, .int .i64 (((i + 1) : Nat) : Int))] [(4, 0), (26, 0)] [((4, 0), .box [.int .u64 v.hi, .int .u64 v.lo, .bool v.kept]), ((11, 0), .arr 38 3 false (vsPV (v :: others v (l.take (i + 1)))))] [(4, 1), (11, 1)] (envOk_cons (by conv => lhs; whnf) (by exact rfl) (envOk_cons (by conv => lhs; whnf) (by exact rfl) (envOk_cons (by conv => lhs; whnf) (by exact rfl) (envOk_cons (by conv => lhs; whnf) (by exact rfl) (envOk_cons (by conv => lhs; whnf) (by exact rfl) (envOk_cons (by conv => lhs; whnf) (by exact rfl) envOk_nil)))))) (objOk_cons (by conv => lhs; whnf) (by conv => lhs; whnf) (by exact rfl) (by simp) (objOk_cons (by conv => lhs; whnf) (by conv => lhs; whnf) (by exact rfl) (by simp) objOk_nil)) (nodup_b rfl) (nodup_b rfl) rfl rfl, (i + 1), (by omega), rfl, rfl⟩
    · try simp only [vsPV_length, decide_eq_true_eq, decide_eq_false_iff_not, beq_iff_eq, Bool.not_eq_true', beq_eq_false_iff_ne, bne_iff_ne, Bool.not_eq_false', bne_eq_false_iff_eq, ne_eq, Decidable.not_not] at c22
      refine aw_cond_f (by decide) rfl ?_
      refine aw_skip ?_
      refine hK7 _ ?_
      refine aw_reg ?_
      refine ao_cons (acts_of rfl ((does_bin (by conv => lhs; whnf) (by conv => lhs; whnf) (by conv => lhs; whnf)).castp (v' := .int .i64 ((i + 1 : Nat) : Int)) (by exact congrArg _ (by rw [wrap_i64 _ (by omega) (by omega)]; rfl)))) (by decide) ?_
      refine ao_cons (acts_of rfl (does_move (by conv => lhs; whnf))) (by decide) ?_
      refine ao_nil_n ?_
      exact ⟨l.length - (i + 1), (by omega), _, reb_lit [(2, .int .i64 most), (4, .ptr 4 0 0), (7, .own 11 0), (12, .sl 3 (vsPV l)), (13, .int .i64 ((vsPV l).length : Int)), (14, .int .i64 (((i + 1) : Nat) : Int))] [(4, 0), (11, 0)] [((4, 0), .box [.int .u64 v.hi, .int .u64 v.lo, .bool v.kept]), ((11, 0), .arr 38 3 false (vsPV (v :: others v (l.take (i + 1)))))] [(4, 1), (11, 1)] (envOk_cons (by conv => lhs; whnf) (by exact rfl) (envOk_cons (by conv => lhs; whnf) (by exact rfl) (envOk_cons (by conv => lhs; whnf) (by exact rfl) (envOk_cons (by conv => lhs; whnf) (by exact rfl) (envOk_cons (by conv => lhs; whnf) (by exact rfl) (envOk_cons (by conv => lhs; whnf) (by exact rfl) envOk_nil)))))) (objOk_cons (by conv => lhs; whnf) (by conv => lhs; whnf) (by exact rfl) (by simp) (objOk_cons (by conv => lhs; whnf) (by conv => lhs; whnf) (by exact by rw [others_no hx (by simpa using c22)]) (by simp) objOk_nil)) (nodup_b rfl) (nodup_b rfl) rfl rfl, (i + 1), (by omega), rfl, rfl⟩
  · try simp only [vsPV_length, decide_eq_true_eq, decide_eq_false_iff_not, beq_iff_eq, Bool.not_eq_true', beq_eq_false_iff_ne, bne_iff_ne, Bool.not_eq_false', bne_eq_false_iff_eq, ne_eq, Decidable.not_not] at c15
    refine aw_cond_f (by decide) rfl ?_
    refine aw_exit ?_
    refine hK3 _ ?_
    refine aw_seq_k (fun K10 hK10 => ?_)
    obtain rfl : i = l.length := by omega
    rw [List.take_length]
    refine aw_freeze (d := 11) (n := 0) (by conv => lhs; whnf) ?_
    refine aw_reg ?_
    refine ao_cons (acts_of rfl (does_move (by conv => lhs; whnf))) (by decide) ?_
    refine ao_cons (acts_of rfl (does_move (by conv => lhs; whnf))) (by decide) ?_
    refine ao_cons (acts_of rfl (does_len_own (by conv => lhs; whnf) (by conv => lhs; whnf) ty32)) (by decide) ?_
    refine ao_cons (acts_of rfl (does_move (by conv => lhs; whnf))) (by decide) ?_
    refine ao_cons (acts_of rfl (does_min (by conv => lhs; whnf) (by conv => lhs; whnf))) (by decide) ?_
    refine ao_cons (acts_of rfl ((does_max (by conv => lhs; whnf) (by conv => lhs; whnf)).castp (v' := .int .i64 ((capN most (v :: others v l).length : Nat) : Int)) (by exact congrArg _ (by simp only [vsPV_length]; exact cap_eq most _)))) (by decide) ?_
    refine ao_cons (acts_of rfl (does_slice_own (by conv => lhs; whnf) (by conv => lhs; whnf) ty32 ty38 bd_none (bd_some (by conv => lhs; whnf) (by exact rfl)) (Nat.zero_le _) (by rw [vsPV_length]; exact capN_le _ _) (by exact (by rw [List.drop_zero, vsPV_take])))) (by decide) ?_
    refine ao_cons (acts_of rfl (does_assign (by conv => lhs; whnf))) (by decide) ?_
    refine ao_nil_n ?_
    refine hK10 _ ?_
    refine aw_ret ?_
    exact ret_ok1 (by conv => lhs; whnf) (by conv => lhs; whnf) (by exact rfl) (.inr rfl) rfl
set_option maxRecDepth 100000 in
set_option maxHeartbeats 8000000 in
theorem cap_ok (most : Int) (n : Nat) : Ok Try.prog 43 [.int .i64 most, .int .i64 0, .int .i64 ((n : Nat) : Int)] [] [] (.int .i64 ((capN most n : Nat) : Int)) [] [] := by
  refine ok_of_code Try.func43 rfl (by show (3 : Nat) ≤ _; decide) (Nat.le_refl _) fun X => ?_
  refine aw_seq_k (fun K1 hK1 => ?_)
  refine aw_reg ?_
  refine ao_cons (acts_of rfl (does_assign (by conv => lhs; whnf))) (by decide) ?_
  refine ao_nil_n ?_
  refine hK1 _ ?_
  refine aw_seq_k (fun K2 hK2 => ?_)
  refine aw_block ?_
  refine aw_seq_k (fun K3 hK3 => ?_)
  refine aw_reg ?_
  refine ao_cons (acts_of rfl (does_move (by conv => lhs; whnf))) (by decide) ?_
  refine ao_cons (acts_of rfl (does_move (by conv => lhs; whnf))) (by decide) ?_
  refine ao_cons (acts_of rfl (does_bin (by conv => lhs; whnf) (by conv => lhs; whnf) (by conv => lhs; whnf))) (by decide) ?_
  refine ao_cons (acts_of rfl (does_assign (by conv => lhs; whnf))) (by decide) ?_
  refine ao_nil_n ?_
  refine hK3 _ ?_
  refine aw_bool 7 rfl (fun c7 => ?_) (fun c7 => ?_)
  · try simp only [decide_eq_true_eq, decide_eq_false_iff_not, beq_iff_eq, Bool.not_eq_true', beq_eq_false_iff_ne, bne_iff_ne, Bool.not_eq_false', bne_eq_false_iff_eq, ne_eq, Decidable.not_not] at c7
    refine aw_cond_t (by decide) rfl ?_
    refine aw_seq_k (fun K4 hK4 => ?_)
    refine aw_reg ?_
    refine ao_cons (acts_of rfl (does_move (by conv => lhs; whnf))) (by decide) ?_
    refine ao_cons (acts_of rfl (does_assign (by conv => lhs; whnf))) (by decide) ?_
    refine ao_nil_n ?_
    refine hK4 _ ?_
    refine aw_ret ?_
    exact ret_ok1 (by conv => lhs; whnf) (by conv => lhs; whnf) (by exact congrArg _ (by unfold capN; split <;> (try split) <;> omega)) (.inr rfl) rfl
  · try simp only [decide_eq_true_eq, decide_eq_false_iff_not, beq_iff_eq, Bool.not_eq_true', beq_eq_false_iff_ne, bne_iff_ne, Bool.not_eq_false', bne_eq_false_iff_eq, ne_eq, Decidable.not_not] at c7
    refine aw_cond_f (by decide) rfl ?_
    refine aw_seq_k (fun K5 hK5 => ?_)
    refine aw_reg ?_
    refine ao_cons (acts_of rfl (does_move (by conv => lhs; whnf))) (by decide) ?_
    refine ao_cons (acts_of rfl (does_move (by conv => lhs; whnf))) (by decide) ?_
    refine ao_cons (acts_of rfl (does_bin (by conv => lhs; whnf) (by conv => lhs; whnf) (by conv => lhs; whnf))) (by decide) ?_
    refine ao_cons (acts_of rfl (does_assign (by conv => lhs; whnf))) (by decide) ?_
    refine ao_nil_n ?_
    refine hK5 _ ?_
    refine aw_bool 12 rfl (fun c12 => ?_) (fun c12 => ?_)
    · try simp only [decide_eq_true_eq, decide_eq_false_iff_not, beq_iff_eq, Bool.not_eq_true', beq_eq_false_iff_ne, bne_iff_ne, Bool.not_eq_false', bne_eq_false_iff_eq, ne_eq, Decidable.not_not] at c12
      refine aw_cond_t (by decide) rfl ?_
      refine aw_seq_k (fun K6 hK6 => ?_)
      refine aw_reg ?_
      refine ao_cons (acts_of rfl (does_move (by conv => lhs; whnf))) (by decide) ?_
      refine ao_cons (acts_of rfl (does_assign (by conv => lhs; whnf))) (by decide) ?_
      refine ao_nil_n ?_
      refine hK6 _ ?_
      refine aw_ret ?_
      exact ret_ok1 (by conv => lhs; whnf) (by conv => lhs; whnf) (by exact congrArg _ (by unfold capN; split <;> (try split) <;> omega)) (.inr rfl) rfl
    · try simp only [decide_eq_true_eq, decide_eq_false_iff_not, beq_iff_eq, Bool.not_eq_true', beq_eq_false_iff_ne, bne_iff_ne, Bool.not_eq_false', bne_eq_false_iff_eq, ne_eq, Decidable.not_not] at c12
      refine aw_cond_f (by decide) rfl ?_
      refine aw_skip ?_
      refine hK2 _ ?_
      refine aw_seq_k (fun K7 hK7 => ?_)
      refine aw_reg ?_
      refine ao_cons (acts_of rfl (does_move (by conv => lhs; whnf))) (by decide) ?_
      refine ao_cons (acts_of rfl (does_assign (by conv => lhs; whnf))) (by decide) ?_
      refine ao_nil_n ?_
      refine hK7 _ ?_
      refine aw_ret ?_
      exact ret_ok1 (by conv => lhs; whnf) (by conv => lhs; whnf) (by exact congrArg _ (by unfold capN; split <;> (try split) <;> omega)) (.inr rfl) rfl
set_option maxRecDepth 100000 in
set_option maxHeartbeats 8000000 in
theorem rem_ok (l : List Vd) (v : Vd) (most : Int) (hl : l.length < 1000000) : Ok Try.prog 22 [.sl 3 (vsPV l), .agg [.int .u64 v.hi, .int .u64 v.lo, .bool v.kept], .int .i64 most] [] [] (.sl 3 (vsPV (putV l v most))) [] [] := by
  refine ok_of_code Try.func22 rfl (by show (3 : Nat) ≤ _; decide) (Nat.le_refl _) fun X => ?_
  refine aw_seq_k (fun K1 hK1 => ?_)
  refine aw_reg ?_
  refine ao_cons (acts_of rfl (do_box (by conv => lhs; whnf) rfl rfl)) (by decide) ?_
  refine ao_cons (acts_of rfl (does_assign (by conv => lhs; whnf))) (by decide) ?_
  refine ao_nil_n ?_
  refine hK1 _ ?_
  refine aw_seq_k (fun K2 hK2 => ?_)
  refine aw_reg ?_
  refine ao_cons (acts_of rfl (does_load (by conv => lhs; whnf) (by conv => lhs; whnf) ty38 (by conv => lhs; whnf))) (by decide) ?_
  refine ao_cons (acts_of rfl (do_buildSlice (xs := [.agg [.int .u64 v.hi, .int .u64 v.lo, .bool v.kept]]) ty32 ty38 rfl rfl rfl rfl rfl rfl rfl rfl)) (by decide) ?_
  refine ao_cons (acts_of rfl (does_assign (by conv => lhs; whnf))) (by decide) ?_
  refine ao_nil_n ?_
  refine hK2 _ ?_
  refine aw_seq_k (fun K3 hK3 => ?_)
  refine aw_seq_k (fun K4 hK4 => ?_)
  refine aw_reg ?_
  refine ao_cons (acts_of rfl (does_assign (by conv => lhs; whnf))) (by decide) ?_
  refine ao_nil_n ?_
  refine hK4 _ ?_
  refine aw_block ?_
  refine aw_loop' (fun m s => ∃ (i : Nat), (i ≤ l.length) ∧ m = l.length - i ∧ s = lit [(0, .sl 3 (vsPV l)), (2, .int .i64 most), (4, .ptr 4 0 0), (7, .own 10 0), (8, .int .i64 ((i : Nat) : Int))] [((4, 0), .box [.int .u64 v.hi, .int .u64 v.lo, .bool v.kept]), ((10, 0), .arr 38 3 false (vsPV (v :: others v (l.take i))))] [(4, 1), (10, 1)] X) (l.length - 0)
    ⟨_, reb_lit [(0, .sl 3 (vsPV l)), (2, .int .i64 most), (4, .ptr 4 0 0), (7, .own 10 0), (8, .int .i64 ((0 : Nat) : Int))] [(4, 0), (10, 0)] [((4, 0), .box [.int .u64 v.hi, .int .u64 v.lo, .bool v.kept]), ((10, 0), .arr 38 3 false (vsPV (v :: others v (l.take 0))))] [(4, 1), (10, 1)] (envOk_cons (by conv => lhs; whnf) (by exact rfl) (envOk_cons (by conv => lhs; whnf) (by exact rfl) (envOk_cons (by conv => lhs; whnf) (by exact rfl) (envOk_cons (by conv => lhs; whnf) (by exact rfl) (envOk_cons (by conv => lhs; whnf) (by exact rfl) envOk_nil))))) (objOk_cons (by conv => lhs; whnf) (by conv => lhs; whnf) (by exact rfl) (by simp) (objOk_cons (by conv => lhs; whnf) (by conv => lhs; whnf) (by exact rfl) (by simp) objOk_nil)) (nodup_b rfl) (nodup_b rfl) rfl rfl, (0), (by omega), rfl, rfl⟩ ?_
  rintro m s ⟨i, hle, rfl, rfl⟩
  refine aw_seq_k (fun K5 hK5 => ?_)
  refine aw_seq_k (fun K6 hK6 => ?_)
  refine aw_reg ?_
  refine ao_cons (acts_of rfl (does_move (by conv => lhs; whnf))) (by decide) ?_
  refine ao_cons (acts_of rfl (does_move (by conv => lhs; whnf))) (by decide) ?_
  refine ao_cons (acts_of rfl (does_len_sl (by conv => lhs; whnf) ty32)) (by decide) ?_
  refine ao_cons (acts_of rfl (does_bin (by conv => lhs; whnf) (by conv => lhs; whnf) (by conv => lhs; whnf))) (by decide) ?_
  refine ao_nil_n ?_
  refine hK6 _ ?_
  refine aw_bool 14 rfl (fun c14 => ?_) (fun c14 => ?_)
  · try simp only [vsPV_length, decide_eq_true_eq, decide_eq_false_iff_not, beq_iff_eq, Bool.not_eq_true', beq_eq_false_iff_ne, bne_iff_ne, Bool.not_eq_false', bne_eq_false_iff_eq, ne_eq, Decidable.not_not] at c14
    have hi : i < l.length := by omega
    obtain ⟨x, hx⟩ : ∃ x, l[i]? = some x := ⟨_, List.getElem?_eq_getElem hi⟩
    refine aw_cond_t (by decide) rfl ?_
    refine aw_skip ?_
    refine hK5 _ ?_
    refine aw_seq_k (fun K7 hK7 => ?_)
    refine aw_block ?_
    refine aw_seq_k (fun K8 hK8 => ?_)
    refine aw_regd (by kernel_rfl) (by decide +kernel) ?_
    refine ao_cons (acts_of rfl (does_move (by conv => lhs; whnf))) (by decide) ?_
    refine ao_cons (acts_of rfl (does_move (by conv => lhs; whnf))) (by decide) ?_
    refine ao_cons (acts_of rfl (does_indexAddr_sl (el := .agg [.int .u64 x.hi, .int .u64 x.lo, .bool x.kept]) (by conv => lhs; whnf) (by conv => lhs; whnf) ty32 ty38 (by omega) (by exact vsPV_get hx))) (by decide) ?_
    refine ao_cons (acts_of rfl (does_fieldAddr (by conv => lhs; whnf) ty38 rfl ty35 (by decide) (by conv => lhs; whnf))) (by decide) ?_
    refine ao_cons (acts_of rfl (does_load (by conv => lhs; whnf) (by conv => lhs; whnf) ty35 (by conv => lhs; whnf))) (by decide) ?_
    refine ao_cons (acts_of rfl (does_fieldAddr (by conv => lhs; whnf) ty38 rfl ty35 (by decide) (by conv => lhs; whnf))) (by decide) ?_
    refine ao_cons (acts_of rfl (does_load (by conv => lhs; whnf) (by conv => lhs; whnf) ty35 (by conv => lhs; whnf))) (by decide) ?_
    refine ao_cons (acts_of rfl ((does_eq_struct (by conv => lhs; whnf) (by conv => lhs; whnf) fk35 rfl ag35 eg35 (by conv => lhs; whnf) (by conv => lhs; whnf)).castp (v' := .bool (!x.on v.tr)) (by exact rfl))) (by decide) ?_
    refine ao_nil_d (by kernel_rfl) ?_
    refine hK8 _ ?_
    refine aw_bool 24 rfl (fun c24 => ?_) (fun c24 => ?_)
    · try simp only [vsPV_length, decide_eq_true_eq, decide_eq_false_iff_not, beq_iff_eq, Bool.not_eq_true', beq_eq_false_iff_ne, bne_iff_ne, Bool.not_eq_false', bne_eq_false_iff_eq, ne_eq, Decidable.not_not] at c24
      refine aw_cond_t (by decide) rfl ?_
      refine aw_reg ?_
      refine ao_cons (acts_of rfl (does_move (by conv => lhs; whnf))) (by decide) ?_
      refine ao_cons (acts_of rfl (does_move (by conv => lhs; whnf))) (by decide) ?_
      refine ao_cons (acts_of rfl (does_move (by conv => lhs; whnf))) (by decide) ?_
      refine ao_cons (acts_of rfl (does_indexAddr_sl (el := .agg [.int .u64 x.hi, .int .u64 x.lo, .bool x.kept]) (by conv => lhs; whnf) (by conv => lhs; whnf) ty32 ty38 (by omega) (by exact vsPV_get hx))) (by decide) ?_
      refine ao_cons (acts_of rfl (does_load (by conv => lhs; whnf) (by conv => lhs; whnf) ty38 (by conv => lhs; whnf))) (by decide) ?_
      refine ao_cons (acts_of rfl (do_buildSlice (xs := [.agg [.int .u64 x.hi, .int .u64 x.lo, .bool x.kept]]) ty32 ty38 rfl rfl rfl rfl rfl rfl rfl rfl)) (by decide) ?_
      refine ao_cons (acts_of rfl (do_append (v := vsPV (v :: others v (l.take (i + 1)))) (by conv => lhs; whnf) (by conv => lhs; whnf) ty32 ty38 rfl rfl (by conv => lhs; whnf) (by first | exact .inl rfl | exact .inr ⟨rfl, rfl⟩) (by conv => lhs; whnf) (by first | exact .inr rfl | exact .inl rfl) (by rw [others_yes hx (by simpa using c24), ← List.cons_append, ← vsPV_append]; rfl) (by simp only [vsPV_length, List.length_cons]; have := others_le v (l.take (i + 1)); simp only [List.length_take] at this; omega))) (by decide) ?_
      refine ao_cons (acts_of rfl (does_assign (by conv => lhs; whnf))) (by decide) ?_
      refine ao_nil_n ?_
      refine hK7 _ ?_
      refine aw_reg ?_
      refine ao_cons (acts_of rfl (does_move (by conv => lhs; whnf))) (by decide) ?_
      refine ao_cons (acts_of rfl ((does_bin (by conv => lhs; whnf) (by conv => lhs; whnf) (by conv => lhs; whnf)).castp (v' := .int .i64 ((i + 1 : Nat) : Int)) (by exact congrArg _ (by rw [wrap_i64 _ (by omega) (by omega)]; rfl)))) (by decide) ?_
      refine ao_cons (acts_of rfl (does_assign (by conv => lhs; whnf))) (by decide) ?_
      refine ao_nil_n ?_
      exact ⟨l.length - (i + 1), (by omega), _, reb_lit [(0, .sl 3 (vsPV l)), (2, .int .i64 most), (4, .ptr 4 0 0), (7, .own 10 0), (8, .int .i64 (((i + 1) : Nat) : Int))] [(4, 0), (31, 0)] [((4, 0), .box [.int .u64 v.hi, .int .u64 v.lo, .bool v.kept]), ((10, 0), .arr 38 3 false (vsPV (v :: others v (l.take (i + 1)))))] [(4, 1), (10, 1)] (envOk_cons (by conv => lhs; whnf) (by exact rfl) (envOk_cons (by conv => lhs; whnf) (by exact rfl) (envOk_cons (by conv => lhs; whnf) (by exact rfl) (envOk_cons (by conv => lhs; whnf) (by exact rfl) (envOk_cons (by conv => lhs; whnf) (by exact rfl) envOk_nil))))) (objOk_cons (by conv => lhs; whnf) (by conv => lhs; whnf) (by exact rfl) (by simp) (objOk_cons (by conv => lhs; whnf) (by conv => lhs; whnf) (by exact rfl) (by simp) objOk_nil)) (nodup_b rfl) (nodup_b rfl) rfl rfl, (i + 1), (by omega), rfl, rfl⟩
    · try simp only [vsPV_length, decide_eq_true_eq, decide_eq_false_iff_not, beq_iff_eq, Bool.not_eq_true', beq_eq_false_iff_ne, bne_iff_ne, Bool.not_eq_false', bne_eq_false_iff_eq, ne_eq, Decidable.not_not] at c24
      refine aw_cond_f (by decide) rfl ?_
      refine aw_skip ?_
      refine hK7 _ ?_
      refine aw_reg ?_
      refine ao_cons (acts_of rfl (does_move (by conv => lhs; whnf))) (by decide) ?_
      refine ao_cons (acts_of rfl ((does_bin (by conv => lhs; whnf) (by conv => lhs; whnf) (by conv => lhs; whnf)).castp (v' := .int .i64 ((i + 1 : Nat) : Int)) (by exact congrArg _ (by rw [wrap_i64 _ (by omega) (by omega)]; rfl)))) (by decide) ?_
      refine ao_cons (acts_of rfl (does_assign (by conv => lhs; whnf))) (by decide) ?_
      refine ao_nil_n ?_
      exact ⟨l.length - (i + 1), (by omega), _, reb_lit [(0, .sl 3 (vsPV l)), (2, .int .i64 most), (4, .ptr 4 0 0), (7, .own 10 0), (8, .int .i64 (((i + 1) : Nat) : Int))] [(4, 0), (10, 0)] [((4, 0), .box [.int .u64 v.hi, .int .u64 v.lo, .bool v.kept]), ((10, 0), .arr 38 3 false (vsPV (v :: others v (l.take (i + 1)))))] [(4, 1), (10, 1)] (envOk_cons (by conv => lhs; whnf) (by exact rfl) (envOk_cons (by conv => lhs; whnf) (by exact rfl) (envOk_cons (by conv => lhs; whnf) (by exact rfl) (envOk_cons (by conv => lhs; whnf) (by exact rfl) (envOk_cons (by conv => lhs; whnf) (by exact rfl) envOk_nil))))) (objOk_cons (by conv => lhs; whnf) (by conv => lhs; whnf) (by exact rfl) (by simp) (objOk_cons (by conv => lhs; whnf) (by conv => lhs; whnf) (by exact by rw [others_no hx (by simpa using c24)]) (by simp) objOk_nil)) (nodup_b rfl) (nodup_b rfl) rfl rfl, (i + 1), (by omega), rfl, rfl⟩
  · try simp only [vsPV_length, decide_eq_true_eq, decide_eq_false_iff_not, beq_iff_eq, Bool.not_eq_true', beq_eq_false_iff_ne, bne_iff_ne, Bool.not_eq_false', bne_eq_false_iff_eq, ne_eq, Decidable.not_not] at c14
    refine aw_cond_f (by decide) rfl ?_
    refine aw_exit ?_
    refine hK3 _ ?_
    refine aw_seq_k (fun K9 hK9 => ?_)
    obtain rfl : i = l.length := by omega
    rw [List.take_length]
    refine aw_freeze (d := 10) (n := 0) (by conv => lhs; whnf) ?_
    refine aw_reg ?_
    refine ao_cons (acts_of rfl (does_move (by conv => lhs; whnf))) (by decide) ?_
    refine ao_cons (acts_of rfl (does_move (by conv => lhs; whnf))) (by decide) ?_
    refine ao_cons (acts_of rfl (does_move (by conv => lhs; whnf))) (by decide) ?_
    refine ao_cons (acts_of rfl ((does_len_own (by conv => lhs; whnf) (by conv => lhs; whnf) ty32).cast (v' := .int .i64 (((v :: others v l).length : Nat) : Int)) (by exact congrArg _ (by rw [vsPV_length])))) (by decide) ?_
    refine ao_cons (acts_of rfl (do_call0 36 false (cap_ok most (v :: others v l).length) rfl ent43 rfl rfl)) (by decide) ?_
    refine ao_cons (acts_of rfl (does_slice_own (by conv => lhs; whnf) (by conv => lhs; whnf) ty32 ty38 bd_none (bd_some (by conv => lhs; whnf) (by exact rfl)) (Nat.zero_le _) (by rw [vsPV_length]; exact capN_le _ _) (by exact (by rw [List.drop_zero, vsPV_take])))) (by decide) ?_
    refine ao_cons (acts_of rfl (does_assign (by conv => lhs; whnf))) (by decide) ?_
    refine ao_nil_n ?_
    refine hK9 _ ?_
    refine aw_ret ?_
    exact ret_ok1 (by conv => lhs; whnf) (by conv => lhs; whnf) (by exact rfl) (.inr rfl) rfl
set_option maxRecDepth 100000 in
set_option maxHeartbeats 8000000 in
theorem on_ok (x : Vd) (t : Int × Int) : Ok Try.prog 45 [.agg [.int .u64 x.hi, .int .u64 x.lo, .bool x.kept], .rptr [.int .u64 t.1, .int .u64 t.2]] [] [] (.bool (x.on t)) [] [] := by
  refine ok_of_code Try.func45 rfl (by show (2 : Nat) ≤ _; decide) (Nat.le_refl _) fun X => ?_
  refine aw_seq_k (fun K1 hK1 => ?_)
  refine aw_reg ?_
  refine ao_cons (acts_of rfl (do_box (by conv => lhs; whnf) rfl rfl)) (by decide) ?_
  refine ao_cons (acts_of rfl (does_assign (by conv => lhs; whnf))) (by decide) ?_
  refine ao_nil_n ?_
  refine hK1 _ ?_
  refine aw_seq_k (fun K2 hK2 => ?_)
  refine aw_reg ?_
  refine ao_cons (acts_of rfl (does_fieldAddr (by conv => lhs; whnf) ty38 rfl ty35 (by decide) (by conv => lhs; whnf))) (by decide) ?_
  refine ao_cons (acts_of rfl (does_load (by conv => lhs; whnf) (by conv => lhs; whnf) ty35 (by conv => lhs; whnf))) (by decide) ?_
  refine ao_cons (acts_of rfl (does_load (by conv => lhs; whnf) (by conv => lhs; whnf) ty35 (by conv => lhs; whnf))) (by decide) ?_
  refine ao_cons (acts_of rfl ((does_eq_struct (by conv => lhs; whnf) (by conv => lhs; whnf) fk35 rfl ag35 eg35 (by conv => lhs; whnf) (by conv => lhs; whnf)).castp (v' := .bool (x.on t)) (by exact rfl))) (by decide) ?_
  refine ao_cons (acts_of rfl (does_assign (by conv => lhs; whnf))) (by decide) ?_
  refine ao_nil_n ?_
  refine hK2 _ ?_
  refine aw_ret ?_
  exact ret_ok1 (by conv => lhs; whnf) (by conv => lhs; whnf) (by exact rfl) (.inr rfl) rfl
set_option maxRecDepth 100000 in
set_option maxHeartbeats 8000000 in
theorem idx_ok (l : List Vd) (t : Int × Int) (hl : l.length < 1000000) : Ok Try.prog 44 [.sl 3 (vsPV l), .fn 45 [.rptr [.int .u64 t.1, .int .u64 t.2]]] [] [] (.int .i64 (idxV l t)) [] [] := by
  refine ok_of_code Try.func44 rfl (by show (2 : Nat) ≤ _; decide) (Nat.le_refl _) fun X => ?_
  refine aw_seq_k (fun K1 hK1 => ?_)
  refine aw_reg ?_
  refine ao_cons (acts_of rfl (does_assign (by conv => lhs; whnf))) (by decide) ?_
  refine ao_nil_n ?_
  refine hK1 _ ?_
  refine aw_seq_k (fun K2 hK2 => ?_)
  refine aw_seq_k (fun K3 hK3 => ?_)
  refine aw_reg ?_
  refine ao_cons (acts_of rfl (does_move (by conv => lhs; whnf))) (by decide) ?_
  refine ao_cons (acts_of rfl (does_len_sl (by conv => lhs; whnf) ty32)) (by decide) ?_
  refine ao_cons (acts_of rfl (does_move (by conv => lhs; whnf))) (by decide) ?_
  refine ao_nil_n ?_
  refine hK3 _ ?_
  refine aw_block ?_
  refine aw_loop' (fun m s => ∃ (i : Nat), (i ≤ l.length) ∧ (∀ j, j < i → ∀ y, l[j]? = some y → y.on t = false) ∧ m = l.length - i ∧ s = lit [(0, .sl 3 (vsPV l)), (1, .fn 45 [.rptr [.int .u64 t.1, .int .u64 t.2]]), (7, .int .i64 ((vsPV l).length : Int)), (8, .int .i64 ((i : Nat) : Int))] [] [] X) (l.length - 0)
    ⟨_, reb_lit [(0, .sl 3 (vsPV l)), (1, .fn 45 [.rptr [.int .u64 t.1, .int .u64 t.2]]), (7, .int .i64 ((vsPV l).length : Int)), (8, .int .i64 ((0 : Nat) : Int))] [] [] [] (envOk_cons (by conv => lhs; whnf) (by exact rfl) (envOk_cons (by conv => lhs; whnf) (by exact rfl) (envOk_cons (by conv => lhs; whnf) (by exact rfl) (envOk_cons (by conv => lhs; whnf) (by exact rfl) envOk_nil)))) objOk_nil (nodup_b rfl) (nodup_b rfl) rfl rfl, (0), (by omega), (by intro j hj; omega), rfl, rfl⟩ ?_
  rintro m s ⟨i, hle, hno, rfl, rfl⟩
  refine aw_seq_k (fun K4 hK4 => ?_)
  refine aw_reg ?_
  refine ao_cons (acts_of rfl (does_bin (by conv => lhs; whnf) (by conv => lhs; whnf) (by conv => lhs; whnf))) (by decide) ?_
  refine ao_nil_n ?_
  refine hK4 _ ?_
  refine aw_seq_k (fun K5 hK5 => ?_)
  refine aw_bool 9 rfl (fun c9 => ?_) (fun c9 => ?_)
  · try simp only [vsPV_length, decide_eq_true_eq, decide_eq_false_iff_not, beq_iff_eq, Bool.not_eq_true', beq_eq_false_iff_ne, bne_iff_ne, Bool.not_eq_false', bne_eq_false_iff_eq, ne_eq, Decidable.not_not] at c9
    have hi : i < l.length := by omega
    obtain ⟨x, hx⟩ : ∃ x, l[i]? = some x := ⟨_, List.getElem?_eq_getElem hi⟩
    refine aw_cond_t (by decide) rfl ?_
    refine aw_skip ?_
    refine hK5 _ ?_
    refine aw_seq_k (fun K6 hK6 => ?_)
    refine aw_block ?_
    refine aw_seq_k (fun K7 hK7 => ?_)
    refine aw_reg ?_
    refine ao_cons (acts_of rfl (does_move (by conv => lhs; whnf))) (by decide) ?_
    refine ao_cons (acts_of rfl (does_assign (by conv => lhs; whnf))) (by decide) ?_
    refine ao_nil_n ?_
    refine hK7 _ ?_
    refine aw_seq_k (fun K8 hK8 => ?_)
    refine aw_reg ?_
    refine ao_cons (acts_of rfl (does_move (by conv => lhs; whnf))) (by decide) ?_
    refine ao_cons (acts_of rfl (does_move (by conv => lhs; whnf))) (by decide) ?_
    refine ao_cons (acts_of rfl (does_move (by conv => lhs; whnf))) (by decide) ?_
    refine ao_cons (acts_of rfl (does_indexAddr_sl (el := .agg [.int .u64 x.hi, .int .u64 x.lo, .bool x.kept]) (by conv => lhs; whnf) (by conv => lhs; whnf) ty32 ty38 (by omega) (by exact vsPV_get hx))) (by decide) ?_
    refine ao_cons (acts_of rfl (does_load (by conv => lhs; whnf) (by conv => lhs; whnf) ty38 (by conv => lhs; whnf))) (by decide) ?_
    refine ao_cons (acts_of rfl (do_call0 16 false (on_ok x t) rfl ent45 rfl rfl)) (by decide) ?_
    refine ao_nil_n ?_
    refine hK8 _ ?_
    refine aw_bool 16 rfl (fun c16 => ?_) (fun c16 => ?_)
    · try simp only [vsPV_length, decide_eq_true_eq, decide_eq_false_iff_not, beq_iff_eq, Bool.not_eq_true', beq_eq_false_iff_ne, bne_iff_ne, Bool.not_eq_false', bne_eq_false_iff_eq, ne_eq, Decidable.not_not] at c16
      refine aw_cond_t (by decide) rfl ?_
      refine aw_seq_k (fun K9 hK9 => ?_)
      refine aw_reg ?_
      refine ao_cons (acts_of rfl (does_move (by conv => lhs; whnf))) (by decide) ?_
      refine ao_cons (acts_of rfl (does_assign (by conv => lhs; whnf))) (by decide) ?_
      refine ao_nil_n ?_
      refine hK9 _ ?_
      refine aw_ret ?_
      exact ret_ok1 (by conv => lhs; whnf) (by conv => lhs; whnf) (by exact congrArg _ (by rw [idxV, findI_some hx c16 hno])) (.inr rfl) rfl
    · try simp only [vsPV_length, decide_eq_true_eq, decide_eq_false_iff_not, beq_iff_eq, Bool.not_eq_true', beq_eq_false_iff_ne, bne_iff_ne, Bool.not_eq_false', bne_eq_false_iff_eq, ne_eq, Decidable.not_not] at c16
      refine aw_cond_f (by decide) rfl ?_
      refine aw_skip ?_
      refine hK6 _ ?_
      refine aw_reg ?_
      refine ao_cons (acts_of rfl ((does_bin (by conv => lhs; whnf) (by conv => lhs; whnf) (by conv => lhs; whnf)).castp (v' := .int .i64 ((i + 1 : Nat) : Int)) (by exact congrArg _ (by rw [wrap_i64 _ (by omega) (by omega)]; rfl)))) (by decide) ?_
      refine ao_cons (acts_of rfl (does_move (by conv => lhs; whnf))) (by decide) ?_
      refine ao_nil_n ?_
      exact ⟨l.length - (i + 1), (by omega), _, reb_lit [(0, .sl 3 (vsPV l)), (1, .fn 45 [.rptr [.int .u64 t.1, .int .u64 t.2]]), (7, .int .i64 ((vsPV l).length : Int)), (8, .int .i64 (((i + 1) : Nat) : Int))] [] [] [] (envOk_cons (by conv => lhs; whnf) (by exact rfl) (envOk_cons (by conv => lhs; whnf) (by exact rfl) (envOk_cons (by conv => lhs; whnf) (by exact rfl) (envOk_cons (by conv => lhs; whnf) (by exact rfl) envOk_nil)))) objOk_nil (nodup_b rfl) (nodup_b rfl) rfl rfl, (i + 1), (by omega), (no_more hx c16 hno), rfl, rfl⟩
  · try simp only [vsPV_length, decide_eq_true_eq, decide_eq_false_iff_not, beq_iff_eq, Bool.not_eq_true', beq_eq_false_iff_ne, bne_iff_ne, Bool.not_eq_false', bne_eq_false_iff_eq, ne_eq, Decidable.not_not] at c9
    refine aw_cond_f (by decide) rfl ?_
    refine aw_exit ?_
    refine hK2 _ ?_
    refine aw_seq_k (fun K10 hK10 => ?_)
    refine aw_reg ?_
    refine ao_cons (acts_of rfl (does_assign (by conv => lhs; whnf))) (by decide) ?_
    refine ao_nil_n ?_
    refine hK10 _ ?_
    refine aw_ret ?_
    exact ret_ok1 (by conv => lhs; whnf) (by conv => lhs; whnf) (by exact congrArg _ (by rw [idxV, findI_none (fun j hj => hno j (by omega))])) (.inr rfl) rfl
set_option maxRecDepth 100000 in
set_option maxHeartbeats 8000000 in
theorem find_ok (l : List Vd) (t : Int × Int) (hl : l.length < 1000000) : Ok Try.prog 24 [.sl 3 (vsPV l), .agg [.int .u64 t.1, .int .u64 t.2]] [] [] (.tup [.bool (keptV l t), .bool (foundV l t)]) [] [] := by
  refine ok_of_code Try.func24 rfl (by show (2 : Nat) ≤ _; decide) (Nat.le_refl _) fun X => ?_
  refine aw_seq_k (fun K1 hK1 => ?_)
  refine aw_reg ?_
  refine ao_cons (acts_of rfl (do_box (by conv => lhs; whnf) rfl rfl)) (by decide) ?_
  refine ao_cons (acts_of rfl (does_assign (by conv => lhs; whnf))) (by decide) ?_
  refine ao_cons (acts_of rfl (does_assign (by conv => lhs; whnf))) (by decide) ?_
  refine ao_nil_n ?_
  refine hK1 _ ?_
  refine aw_seq_k (fun K2 hK2 => ?_)
  refine aw_reg ?_
  refine ao_cons (acts_of rfl (does_move (by conv => lhs; whnf))) (by decide) ?_
  refine ao_cons (acts_of rfl (does_makeFunc rfl)) (by decide) ?_
  refine ao_cons (acts_of rfl (do_callL [(3, 0)] 9 false (idx_ok l t hl) rfl ent44 rfl rfl rfl rfl)) (by decide) ?_
  refine ao_cons (acts_of rfl (does_assign (by conv => lhs; whnf))) (by decide) ?_
  refine ao_nil_n ?_
  refine hK2 _ ?_
  refine aw_seq_k (fun K3 hK3 => ?_)
  refine aw_seq_k (fun K4 hK4 => ?_)
  refine aw_reg ?_
  refine ao_cons (acts_of rfl (does_move (by conv => lhs; whnf))) (by decide) ?_
  refine ao_cons (acts_of rfl (does_bin (by conv => lhs; whnf) (by conv => lhs; whnf) (by conv => lhs; whnf))) (by decide) ?_
  refine ao_nil_n ?_
  refine hK4 _ ?_
  refine aw_bool 11 rfl (fun c11 => ?_) (fun c11 => ?_)
  · try simp only [vsPV_length, decide_eq_true_eq, decide_eq_false_iff_not, beq_iff_eq, Bool.not_eq_true', beq_eq_false_iff_ne, bne_iff_ne, Bool.not_eq_false', bne_eq_false_iff_eq, ne_eq, Decidable.not_not] at c11
    have hn : findI l t = none := by
      cases hf : findI l t with
      | none => rfl
      | some i => simp only [idxV, hf] at c11; omega
    refine aw_cond_t (by decide) rfl ?_
    refine aw_seq_k (fun K5 hK5 => ?_)
    refine aw_reg ?_
    refine ao_cons (acts_of rfl (does_assign (by conv => lhs; whnf))) (by decide) ?_
    refine ao_cons (acts_of rfl (does_assign (by conv => lhs; whnf))) (by decide) ?_
    refine ao_nil_n ?_
    refine hK5 _ ?_
    refine aw_ret ?_
    exact ret_ok1 (by conv => lhs; whnf) (by conv => lhs; whnf) (by exact by rw [keptV, foundV, hn]; rfl) (.inr rfl) rfl
  · try simp only [vsPV_length, decide_eq_true_eq, decide_eq_false_iff_not, beq_iff_eq, Bool.not_eq_true', beq_eq_false_iff_ne, bne_iff_ne, Bool.not_eq_false', bne_eq_false_iff_eq, ne_eq, Decidable.not_not] at c11
    obtain ⟨i, hf⟩ : ∃ i, findI l t = some i := by
      cases hf : findI l t with
      | none => simp only [idxV, hf] at c11; omega
      | some i => exact ⟨i, rfl⟩
    have hi : i < l.length := (List.findIdx?_eq_some_iff_getElem.1 hf).1
    obtain ⟨x, hx⟩ : ∃ x, l[i]? = some x := ⟨_, List.getElem?_eq_getElem hi⟩
    refine aw_cond_f (by decide) rfl ?_
    refine aw_skip ?_
    refine hK3 _ ?_
    refine aw_seq_k (fun K6 hK6 => ?_)
    refine aw_reg ?_
    refine ao_cons (acts_of rfl (does_move (by conv => lhs; whnf))) (by decide) ?_
    refine ao_cons (acts_of rfl ((does_move (by conv => lhs; whnf)).castp (v' := .int .i64 ((i : Nat) : Int)) (by exact congrArg _ (by rw [idxV, hf])))) (by decide) ?_
    refine ao_cons (acts_of rfl (does_indexAddr_sl (el := .agg [.int .u64 x.hi, .int .u64 x.lo, .bool x.kept]) (by conv => lhs; whnf) (by conv => lhs; whnf) ty32 ty38 (by omega) (by exact vsPV_get hx))) (by decide) ?_
    refine ao_cons (acts_of rfl (does_fieldAddr (by conv => lhs; whnf) ty38 rfl ty4 (by decide) (by conv => lhs; whnf))) (by decide) ?_
    refine ao_cons (acts_of rfl (does_load (by conv => lhs; whnf) (by conv => lhs; whnf) ty4 (by conv => lhs; whnf))) (by decide) ?_
    refine ao_cons (acts_of rfl (does_assign (by conv => lhs; whnf))) (by decide) ?_
    refine ao_cons (acts_of rfl (does_assign (by conv => lhs; whnf))) (by decide) ?_
    refine ao_nil_n ?_
    refine hK6 _ ?_
    refine aw_ret ?_
    exact ret_ok1 (by conv => lhs; whnf) (by conv => lhs; whnf) (by exact by rw [keptV, foundV, hf]; simp only [hx]; rfl) (.inr rfl) rfl
set_option maxRecDepth 100000 in
set_option maxHeartbeats 8000000 in
theorem verdict_ok (l : List Vd) (t : Int × Int) (hl : l.length < 1000000) : Ok Try.prog 25 [.sl 3 (vsPV l), .agg [.int .u64 t.1, .int .u64 t.2]] [] [] (.tup [.bool (keptV l t), .bool (foundV l t)]) [] [] := by
  refine ok_of_code Try.func25 rfl (by show (2 : Nat) ≤ _; decide) (Nat.le_refl _) fun X => ?_
  refine aw_seq_k (fun K1 hK1 => ?_)
  refine aw_reg ?_
  refine ao_cons (acts_of rfl (do_box (by conv => lhs; whnf) rfl rfl)) (by decide) ?_
  refine ao_cons (acts_of rfl (does_assign (by conv => lhs; whnf))) (by decide) ?_
  refine ao_cons (acts_of rfl (does_assign (by conv => lhs; whnf))) (by decide) ?_
  refine ao_nil_n ?_
  refine hK1 _ ?_
  refine aw_seq_k (fun K2 hK2 => ?_)
  refine aw_seq_k (fun K3 hK3 => ?_)
  refine aw_reg ?_
  refine ao_cons (acts_of rfl (does_assign (by conv => lhs; whnf))) (by decide) ?_
  refine ao_nil_n ?_
  refine hK3 _ ?_
  refine aw_block ?_
  refine aw_loop' (fun m s => ∃ (i : Nat), (i ≤ l.length) ∧ (∀ j, j < i → ∀ y, l[j]? = some y → y.on t = false) ∧ m = l.length - i ∧ s = lit [(0, .sl 3 (vsPV l)), (3, .ptr 3 0 0), (6, .int .i64 ((i : Nat) : Int))] [((3, 0), .box [.int .u64 t.1, .int .u64 t.2])] [(3, 1)] X) (l.length - 0)
    ⟨_, reb_lit [(0, .sl 3 (vsPV l)), (3, .ptr 3 0 0), (6, .int .i64 ((0 : Nat) : Int))] [(3, 0)] [((3, 0), .box [.int .u64 t.1, .int .u64 t.2])] [(3, 1)] (envOk_cons (by conv => lhs; whnf) (by exact rfl) (envOk_cons (by conv => lhs; whnf) (by exact rfl) (envOk_cons (by conv => lhs; whnf) (by exact rfl) envOk_nil))) (objOk_cons (by conv => lhs; whnf) (by conv => lhs; whnf) (by exact rfl) (by simp) objOk_nil) (nodup_b rfl) (nodup_b rfl) rfl rfl, (0), (by omega), (by intro j hj; omega), rfl, rfl⟩ ?_
  rintro m s ⟨i, hle, hno, rfl, rfl⟩
  refine aw_seq_k (fun K4 hK4 => ?_)
  refine aw_seq_k (fun K5 hK5 => ?_)
  refine aw_reg ?_
  refine ao_cons (acts_of rfl (does_move (by conv => lhs; whnf))) (by decide) ?_
  refine ao_cons (acts_of rfl (does_move (by conv => lhs; whnf))) (by decide) ?_
  refine ao_cons (acts_of rfl (does_len_sl (by conv => lhs; whnf) ty32)) (by decide) ?_
  refine ao_cons (acts_of rfl (does_bin (by conv => lhs; whnf) (by conv => lhs; whnf) (by conv => lhs; whnf))) (by decide) ?_
  refine ao_nil_n ?_
  refine hK5 _ ?_
  refine aw_bool 10 rfl (fun c10 => ?_) (fun c10 => ?_)
  · try simp only [vsPV_length, decide_eq_true_eq, decide_eq_false_iff_not, beq_iff_eq, Bool.not_eq_true', beq_eq_false_iff_ne, bne_iff_ne, Bool.not_eq_false', bne_eq_false_iff_eq, ne_eq, Decidable.not_not] at c10
    have hi : i < l.length := by omega
    obtain ⟨x, hx⟩ : ∃ x, l[i]? = some x := ⟨_, List.getElem?_eq_getElem hi⟩
    refine aw_cond_t (by decide) rfl ?_
    refine aw_skip ?_
    refine hK4 _ ?_
    refine aw_seq_k (fun K6 hK6 => ?_)
    refine aw_block ?_
    refine aw_seq_k (fun K7 hK7 => ?_)
    refine aw_regd (by kernel_rfl) (by decide +kernel) ?_
    refine ao_cons (acts_of rfl (does_move (by conv => lhs; whnf))) (by decide) ?_
    refine ao_cons (acts_of rfl (does_move (by conv => lhs; whnf))) (by decide) ?_
    refine ao_cons (acts_of rfl (does_indexAddr_sl (el := .agg [.int .u64 x.hi, .int .u64 x.lo, .bool x.kept]) (by conv => lhs; whnf) (by conv => lhs; whnf) ty32 ty38 (by omega) (by exact vsPV_get hx))) (by decide) ?_
    refine ao_cons (acts_of rfl (does_fieldAddr (by conv => lhs; whnf) ty38 rfl ty35 (by decide) (by conv => lhs; whnf))) (by decide) ?_
    refine ao_cons (acts_of rfl (does_load (by conv => lhs; whnf) (by conv => lhs; whnf) ty35 (by conv => lhs; whnf))) (by decide) ?_
    refine ao_cons (acts_of rfl (does_load (by conv => lhs; whnf) (by conv => lhs; whnf) ty35 (by conv => lhs; whnf))) (by decide) ?_
    refine ao_cons (acts_of rfl ((does_eq_struct (by conv => lhs; whnf) (by conv => lhs; whnf) fk35 rfl ag35 eg35 (by conv => lhs; whnf) (by conv => lhs; whnf)).castp (v' := .bool (x.on t)) (by exact rfl))) (by decide) ?_
    refine ao_nil_d (by kernel_rfl) ?_
    refine hK7 _ ?_
    refine aw_bool 19 rfl (fun c19 => ?_) (fun c19 => ?_)
    · try simp only [vsPV_length, decide_eq_true_eq, decide_eq_false_iff_not, beq_iff_eq, Bool.not_eq_true', beq_eq_false_iff_ne, bne_iff_ne, Bool.not_eq_false', bne_eq_false_iff_eq, ne_eq, Decidable.not_not] at c19
      refine aw_cond_t (by decide) rfl ?_
      refine aw_seq_k (fun K8 hK8 => ?_)
      refine aw_reg ?_
      refine ao_cons (acts_of rfl (does_move (by conv => lhs; whnf))) (by decide) ?_
      refine ao_cons (acts_of rfl (does_move (by conv => lhs; whnf))) (by decide) ?_
      refine ao_cons (acts_of rfl (does_indexAddr_sl (el := .agg [.int .u64 x.hi, .int .u64 x.lo, .bool x.kept]) (by conv => lhs; whnf) (by conv => lhs; whnf) ty32 ty38 (by omega) (by exact vsPV_get hx))) (by decide) ?_
      refine ao_cons (acts_of rfl (does_fieldAddr (by conv => lhs; whnf) ty38 rfl ty4 (by decide) (by conv => lhs; whnf))) (by decide) ?_
      refine ao_cons (acts_of rfl (does_load (by conv => lhs; whnf) (by conv => lhs; whnf) ty4 (by conv => lhs; whnf))) (by decide) ?_
      refine ao_cons (acts_of rfl (does_assign (by conv => lhs; whnf))) (by decide) ?_
      refine ao_cons (acts_of rfl (does_assign (by conv => lhs; whnf))) (by decide) ?_
      refine ao_nil_n ?_
      refine hK8 _ ?_
      refine aw_ret ?_
      exact ret_ok1 (by conv => lhs; whnf) (by conv => lhs; whnf) (by exact by rw [keptV, foundV, findI_some hx c19 hno]; simp only [hx]; rfl) (.inr rfl) rfl
    · try simp only [vsPV_length, decide_eq_true_eq, decide_eq_false_iff_not, beq_iff_eq, Bool.not_eq_true', beq_eq_false_iff_ne, bne_iff_ne, Bool.not_eq_false', bne_eq_false_iff_eq, ne_eq, Decidable.not_not] at c19
      refine aw_cond_f (by decide) rfl ?_
      refine aw_skip ?_
      refine hK6 _ ?_
      refine aw_reg ?_
      refine ao_cons (acts_of rfl (does_move (by conv => lhs; whnf))) (by decide) ?_
      refine ao_cons (acts_of rfl ((does_bin (by conv => lhs; whnf) (by conv => lhs; whnf) (by conv => lhs; whnf)).castp (v' := .int .i64 ((i + 1 : Nat) : Int)) (by exact congrArg _ (by rw [wrap_i64 _ (by omega) (by omega)]; rfl)))) (by decide) ?_
      refine ao_cons (acts_of rfl (does_assign (by conv => lhs; whnf))) (by decide) ?_
      refine ao_nil_n ?_
      exact ⟨l.length - (i + 1), (by omega), _, reb_lit [(0, .sl 3 (vsPV l)), (3, .ptr 3 0 0), (6, .int .i64 (((i + 1) : Nat) : Int))] [(3, 0)] [((3, 0), .box [.int .u64 t.1, .int .u64 t.2])] [(3, 1)] (envOk_cons (by conv => lhs; whnf) (by exact rfl) (envOk_cons (by conv => lhs; whnf) (by exact rfl) (envOk_cons (by conv => lhs; whnf) (by exact rfl) envOk_nil))) (objOk_cons (by conv => lhs; whnf) (by conv => lhs; whnf) (by exact rfl) (by simp) objOk_nil) (nodup_b rfl) (nodup_b rfl) rfl rfl, (i + 1), (by omega), (no_more hx c19 hno), rfl, rfl⟩
  · try simp only [vsPV_length, decide_eq_true_eq, decide_eq_false_iff_not, beq_iff_eq, Bool.not_eq_true', beq_eq_false_iff_ne, bne_iff_ne, Bool.not_eq_false', bne_eq_false_iff_eq, ne_eq, Decidable.not_not] at c10
    refine aw_cond_f (by decide) rfl ?_
    refine aw_exit ?_
    refine hK2 _ ?_
    refine aw_seq_k (fun K9 hK9 => ?_)
    refine aw_reg ?_
    refine ao_cons (acts_of rfl (does_assign (by conv => lhs; whnf))) (by decide) ?_
    refine ao_cons (acts_of rfl (does_assign (by conv => lhs; whnf))) (by decide) ?_
    refine ao_nil_n ?_
    refine hK9 _ ?_
    refine aw_ret ?_
    exact ret_ok1 (by conv => lhs; whnf) (by conv => lhs; whnf) (by exact by rw [keptV, foundV, findI_none (fun j hj => hno j (by omega))]; rfl) (.inr rfl) rfl
set_option maxRecDepth 100000 in
set_option maxHeartbeats 8000000 in
theorem same_ok (l : List Vd) (hl : l.length < 1000000) : Ok Try.prog 23 [.sl 3 (vsPV l), .sl 3 (vsPV l)] [] [] (.bool true) [] [] := by
  refine ok_of_code Try.func23 rfl (by show (2 : Nat) ≤ _; decide) (Nat.le_refl _) fun X => ?_
  refine aw_seq_k (fun K1 hK1 => ?_)
  refine aw_reg ?_
  refine ao_cons (acts_of rfl (does_assign (by conv => lhs; whnf))) (by decide) ?_
  refine ao_nil_n ?_
  refine hK1 _ ?_
  refine aw_seq_k (fun K2 hK2 => ?_)
  refine aw_seq_k (fun K3 hK3 => ?_)
  refine aw_reg ?_
  refine ao_cons (acts_of rfl (does_move (by conv => lhs; whnf))) (by decide) ?_
  refine ao_cons (acts_of rfl (does_len_sl (by conv => lhs; whnf) ty32)) (by decide) ?_
  refine ao_cons (acts_of rfl (does_move (by conv => lhs; whnf))) (by decide) ?_
  refine ao_cons (acts_of rfl (does_len_sl (by conv => lhs; whnf) ty32)) (by decide) ?_
  refine ao_cons (acts_of rfl ((does_bin (by conv => lhs; whnf) (by conv => lhs; whnf) (by conv => lhs; whnf)).castp (v' := .bool false) (by exact congrArg PV.bool (by simp)))) (by decide) ?_
  refine ao_nil_n ?_
  refine hK3 _ ?_
  refine aw_cond_f (by decide) rfl ?_
  refine aw_skip ?_
  refine hK2 _ ?_
  refine aw_seq_k (fun K4 hK4 => ?_)
  refine aw_seq_k (fun K5 hK5 => ?_)
  refine aw_reg ?_
  refine ao_cons (acts_of rfl (does_assign (by conv => lhs; whnf))) (by decide) ?_
  refine ao_nil_n ?_
  refine hK5 _ ?_
  refine aw_block ?_
  refine aw_loop' (fun m s => ∃ (i : Nat), (i ≤ l.length) ∧ m = l.length - i ∧ s = lit [(0, .sl 3 (vsPV l)), (1, .sl 3 (vsPV l)), (5, .int .i64 ((i : Nat) : Int))] [] [] X) (l.length - 0)
    ⟨_, reb_lit [(0, .sl 3 (vsPV l)), (1, .sl 3 (vsPV l)), (5, .int .i64 ((0 : Nat) : Int))] [] [] [] (envOk_cons (by conv => lhs; whnf) (by exact rfl) (envOk_cons (by conv => lhs; whnf) (by exact rfl) (envOk_cons (by conv => lhs; whnf) (by exact rfl) envOk_nil))) objOk_nil (nodup_b rfl) (nodup_b rfl) rfl rfl, (0), (by omega), rfl, rfl⟩ ?_
  rintro m s ⟨i, hle, rfl, rfl⟩
  refine aw_seq_k (fun K6 hK6 => ?_)
  refine aw_seq_k (fun K7 hK7 => ?_)
  refine aw_reg ?_
  refine ao_cons (acts_of rfl (does_move (by conv => lhs; whnf))) (by decide) ?_
  refine ao_cons (acts_of rfl (does_move (by conv => lhs; whnf))) (by decide) ?_
  refine ao_cons (acts_of rfl (does_len_sl (by conv => lhs; whnf) ty32)) (by decide) ?_
  refine ao_cons (acts_of rfl (does_bin (by conv => lhs; whnf) (by conv => lhs; whnf) (by conv => lhs; whnf))) (by decide) ?_
  refine ao_nil_n ?_
  refine hK7 _ ?_
  refine aw_bool 14 rfl (fun c14 => ?_) (fun c14 => ?_)
  · try simp only [vsPV_length, decide_eq_true_eq, decide_eq_false_iff_not, beq_iff_eq, Bool.not_eq_true', beq_eq_false_iff_ne, bne_iff_ne, Bool.not_eq_false', bne_eq_false_iff_eq, ne_eq, Decidable.not_not] at c14
    have hi : i < l.length := by omega
    obtain ⟨x, hx⟩ : ∃ x, l[i]? = some x := ⟨_, List.getElem?_eq_getElem hi⟩
    refine aw_cond_t (by decide) rfl ?_
    refine aw_skip ?_
    refine hK6 _ ?_
    refine aw_seq_k (fun K8 hK8 => ?_)
    refine aw_block ?_
    refine aw_seq_k (fun K9 hK9 => ?_)
    refine aw_regd (by kernel_rfl) (by decide +kernel) ?_
    refine ao_cons (acts_of rfl (does_move (by conv => lhs; whnf))) (by decide) ?_
    refine ao_cons (acts_of rfl (does_move (by conv => lhs; whnf))) (by decide) ?_
    refine ao_cons (acts_of rfl (does_indexAddr_sl (el := .agg [.int .u64 x.hi, .int .u64 x.lo, .bool x.kept]) (by conv => lhs; whnf) (by conv => lhs; whnf) ty32 ty38 (by omega) (by exact vsPV_get hx))) (by decide) ?_
    refine ao_cons (acts_of rfl (does_load (by conv => lhs; whnf) (by conv => lhs; whnf) ty38 (by conv => lhs; whnf))) (by decide) ?_
    refine ao_cons (acts_of rfl (does_move (by conv => lhs; whnf))) (by decide) ?_
    refine ao_cons (acts_of rfl (does_move (by conv => lhs; whnf))) (by decide) ?_
    refine ao_cons (acts_of rfl (does_indexAddr_sl (el := .agg [.int .u64 x.hi, .int .u64 x.lo, .bool x.kept]) (by conv => lhs; whnf) (by conv => lhs; whnf) ty32 ty38 (by omega) (by exact vsPV_get hx))) (by decide) ?_
    refine ao_cons (acts_of rfl (does_load (by conv => lhs; whnf) (by conv => lhs; whnf) ty38 (by conv => lhs; whnf))) (by decide) ?_
    refine ao_cons (acts_of rfl ((does_eq_struct (by conv => lhs; whnf) (by conv => lhs; whnf) fk38 rfl ag38 eg38 (by conv => lhs; whnf) (by conv => lhs; whnf)).castp (v' := .bool false) (by exact congrArg PV.bool (by simp)))) (by decide) ?_
    refine ao_nil_d (by kernel_rfl) ?_
    refine hK9 _ ?_
    refine aw_cond_f (by decide) rfl ?_
    refine aw_skip ?_
    refine hK8 _ ?_
    refine aw_reg ?_
    refine ao_cons (acts_of rfl (does_move (by conv => lhs; whnf))) (by decide) ?_
    refine ao_cons (acts_of rfl ((does_bin (by conv => lhs; whnf) (by conv => lhs; whnf) (by conv => lhs; whnf)).castp (v' := .int .i64 ((i + 1 : Nat) : Int)) (by exact congrArg _ (by rw [wrap_i64 _ (by omega) (by omega)]; rfl)))) (by decide) ?_
    refine ao_cons (acts_of rfl (does_assign (by conv => lhs; whnf))) (by decide) ?_
    refine ao_nil_n ?_
    exact ⟨l.length - (i + 1), (by omega), _, reb_lit [(0, .sl 3 (vsPV l)), (1, .sl 3 (vsPV l)), (5, .int .i64 (((i + 1) : Nat) : Int))] [] [] [] (envOk_cons (by conv => lhs; whnf) (by exact rfl) (envOk_cons (by conv => lhs; whnf) (by exact rfl) (envOk_cons (by conv => lhs; whnf) (by exact rfl) envOk_nil))) objOk_nil (nodup_b rfl) (nodup_b rfl) rfl rfl, (i + 1), (by omega), rfl, rfl⟩
  · try simp only [vsPV_length, decide_eq_true_eq, decide_eq_false_iff_not, beq_iff_eq, Bool.not_eq_true', beq_eq_false_iff_ne, bne_iff_ne, Bool.not_eq_false', bne_eq_false_iff_eq, ne_eq, Decidable.not_not] at c14
    refine aw_cond_f (by decide) rfl ?_
    refine aw_exit ?_
    refine hK4 _ ?_
    refine aw_seq_k (fun K10 hK10 => ?_)
    refine aw_reg ?_
    refine ao_cons (acts_of rfl (does_assign (by conv => lhs; whnf))) (by decide) ?_
    refine ao_nil_n ?_
    refine hK10 _ ?_
    refine aw_ret ?_
    exact ret_ok1 (by conv => lhs; whnf) (by conv => lhs; whnf) (by exact rfl) (.inr rfl) rfl

def playV (l : List Vd) (most : Int) (i : Nat) : List Vd := (l.take i).foldl (fun a v => putV a v most) []
theorem playV_succ {l : List Vd} {most : Int} {i : Nat} {x : Vd} (hx : l[i]? = some x) : playV l most (i + 1) = putV (playV l most i) x most := by
  obtain ⟨hi, rfl⟩ := List.getElem?_eq_some_iff.1 hx
  rw [playV, List.take_succ_eq_append_getElem hi, List.foldl_append]; rfl
theorem putV_le (l : List Vd) (v : Vd) (most : Int) : (putV l v most).length ≤ l.length + 1 := by
  have := others_le v l
  simp only [putV, List.length_take, List.length_cons]
  omega
theorem playV_le (l : List Vd) (most : Int) : ∀ i, (playV l most i).length ≤ i
  | 0 => by simp [playV]
  | i + 1 => by
    have ih := playV_le l most i
    by_cases h : i < l.length
    · rw [playV_succ (List.getElem?_eq_getElem h)]
      have := putV_le (playV l most i) l[i] most
      omega
    · have : playV l most (i + 1) = playV l most i := by rw [playV, playV, List.take_of_length_le (by omega : l.length ≤ i), List.take_of_length_le (by omega : l.length ≤ i + 1)]
      rw [this]; omega

set_option maxRecDepth 100000 in
set_option maxHeartbeats 8000000 in
theorem alive17_ok  : Ok Try.prog 20 [] [] [] (.bool true) [] [] := by
  refine ok_of_code Try.func20 rfl (by show (0 : Nat) ≤ _; decide) (Nat.le_refl _) fun X => ?_
  refine aw_seq_k (fun K1 hK1 => ?_)
  refine aw_reg ?_
  refine ao_cons (acts_of rfl (does_assign (by conv => lhs; whnf))) (by decide) ?_
  refine ao_nil_n ?_
  refine hK1 _ ?_
  refine aw_seq_k (fun K2 hK2 => ?_)
  refine aw_reg ?_
  refine ao_cons (acts_of rfl (do_build_struct ty35 rfl [⟨.int .u64, 1, 8, [.int .u64 0]⟩, ⟨.int .u64, 1, 8, [.int .u64 0]⟩] (by simp only [List.map, ty33]) (by rfl) (by conv => lhs; whnf))) (by decide) ?_
  refine ao_cons (acts_of rfl (do_call0 8 false ((find_ok [] (0, 0) (by decide)).nil0) rfl ent24 rfl rfl)) (by decide) ?_
  refine ao_cons (acts_of rfl (does_move (by conv => lhs; whnf))) (by decide) ?_
  refine ao_cons (acts_of rfl (does_extract (by conv => lhs; whnf) (by conv => lhs; whnf))) (by decide) ?_
  refine ao_cons (acts_of rfl (does_extract (by conv => lhs; whnf) (by conv => lhs; whnf))) (by decide) ?_
  refine ao_cons (acts_of rfl (does_assign (by conv => lhs; whnf))) (by decide) ?_
  refine ao_cons (acts_of rfl (does_assign (by conv => lhs; whnf))) (by decide) ?_
  refine ao_nil_n ?_
  refine hK2 _ ?_
  refine aw_seq_k (fun K3 hK3 => ?_)
  refine aw_reg ?_
  refine ao_cons (acts_of rfl (do_build_struct ty38 rfl [⟨.struct [(0, 33), (1, 33)], 2, 16, [.int .u64 0, .int .u64 0]⟩, ⟨.bool, 1, 1, [.bool false]⟩] (by simp only [List.map, ty35, ty4]) (by rfl) (by conv => lhs; whnf))) (by decide) ?_
  refine ao_cons (acts_of rfl (do_call0 12 false ((put_ok [] (⟨0, 0, true⟩ : Vd) 3 (by decide)).nil0) rfl ent21 rfl rfl)) (by decide) ?_
  refine ao_cons (acts_of rfl (does_assign (by conv => lhs; whnf))) (by decide) ?_
  refine ao_nil_n ?_
  refine hK3 _ ?_
  refine aw_seq_k (fun K4 hK4 => ?_)
  refine aw_reg ?_
  refine ao_cons (acts_of rfl (does_move (by conv => lhs; whnf))) (by decide) ?_
  refine ao_cons (acts_of rfl (do_build_struct ty35 rfl [⟨.int .u64, 1, 8, [.int .u64 0]⟩, ⟨.int .u64, 1, 8, [.int .u64 0]⟩] (by simp only [List.map, ty33]) (by rfl) (by conv => lhs; whnf))) (by decide) ?_
  refine ao_cons (acts_of rfl (do_call0 16 false (find_ok (putV [] (⟨0, 0, true⟩ : Vd) 3) (0, 0) (by decide +kernel)) rfl ent24 rfl rfl)) (by decide) ?_
  refine ao_cons (acts_of rfl (does_move (by conv => lhs; whnf))) (by decide) ?_
  refine ao_cons (acts_of rfl ((does_extract (by conv => lhs; whnf) (by conv => lhs; whnf)).castp (v' := .bool true) (by exact congrArg PV.bool (by decide +kernel)))) (by decide) ?_
  refine ao_cons (acts_of rfl ((does_extract (by conv => lhs; whnf) (by conv => lhs; whnf)).castp (v' := .bool true) (by exact congrArg PV.bool (by decide +kernel)))) (by decide) ?_
  refine ao_cons (acts_of rfl (does_assign (by conv => lhs; whnf))) (by decide) ?_
  refine ao_cons (acts_of rfl (does_assign (by conv => lhs; whnf))) (by decide) ?_
  refine ao_nil_n ?_
  refine hK4 _ ?_
  refine aw_seq_k (fun K5 hK5 => ?_)
  refine aw_reg ?_
  refine ao_cons (acts_of rfl (does_move (by conv => lhs; whnf))) (by decide) ?_
  refine ao_cons (acts_of rfl ((does_un (by conv => lhs; whnf) (by conv => lhs; whnf)).castp (v' := .bool true) (by exact congrArg PV.bool (by decide +kernel)))) (by decide) ?_
  refine ao_cons (acts_of rfl (does_move (by conv => lhs; whnf))) (by decide) ?_
  refine ao_cons (acts_of rfl (does_move (by conv => lhs; whnf))) (by decide) ?_
  refine ao_cons (acts_of rfl (does_len_sl (by conv => lhs; whnf) ty32)) (by decide) ?_
  refine ao_cons (acts_of rfl ((does_bin (by conv => lhs; whnf) (by conv => lhs; whnf) (by conv => lhs; whnf)).castp (v' := .bool true) (by exact congrArg PV.bool (by decide +kernel)))) (by decide) ?_
  refine ao_cons (acts_of rfl (does_pick (by conv => lhs; whnf) (by conv => lhs; whnf))) (by decide) ?_
  refine ao_cons (acts_of rfl (does_move (by conv => lhs; whnf))) (by decide) ?_
  refine ao_cons (acts_of rfl (does_move (by conv => lhs; whnf))) (by decide) ?_
  refine ao_cons (acts_of rfl (does_pick (by conv => lhs; whnf) (by conv => lhs; whnf))) (by decide) ?_
  refine ao_cons (acts_of rfl (does_move (by conv => lhs; whnf))) (by decide) ?_
  refine ao_cons (acts_of rfl (does_move (by conv => lhs; whnf))) (by decide) ?_
  refine ao_cons (acts_of rfl (does_pick (by conv => lhs; whnf) (by conv => lhs; whnf))) (by decide) ?_
  refine ao_cons (acts_of rfl (does_assign (by conv => lhs; whnf))) (by decide) ?_
  refine ao_nil_n ?_
  refine hK5 _ ?_
  refine aw_ret ?_
  exact ret_ok1 (by conv => lhs; whnf) (by conv => lhs; whnf) (by exact rfl) (.inr rfl) rfl
set_option maxRecDepth 100000 in
set_option maxHeartbeats 8000000 in
theorem memoPlays_ok (l : List Vd) (most : Int) (t : Int × Int) : Ok Try.prog 7 [.sl 3 (vsPV l), .int .i64 most, .agg [.int .u64 t.1, .int .u64 t.2]] [] [] (.bool true) [] [] := by
  refine ok_of_code Try.func7 rfl (by show (3 : Nat) ≤ _; decide) (Nat.le_refl _) fun X => ?_
  refine aw_seq_k (fun K1 hK1 => ?_)
  refine aw_reg ?_
  refine ao_cons (acts_of rfl (do_box (by conv => lhs; whnf) rfl rfl)) (by decide) ?_
  refine ao_cons (acts_of rfl (does_assign (by conv => lhs; whnf))) (by decide) ?_
  refine ao_nil_n ?_
  refine hK1 _ ?_
  refine aw_seq_k (fun K2 hK2 => ?_)
  refine aw_reg ?_
  refine ao_cons (acts_of rfl (do_call0 19 false (alive17_ok) rfl ent20 rfl rfl)) (by decide) ?_
  refine ao_cons (acts_of rfl (does_assign (by conv => lhs; whnf))) (by decide) ?_
  refine ao_nil_n ?_
  refine hK2 _ ?_
  refine aw_seq_k (fun K3 hK3 => ?_)
  refine aw_seq_k (fun K4 hK4 => ?_)
  refine aw_reg ?_
  refine ao_cons (acts_of rfl (does_move (by conv => lhs; whnf))) (by decide) ?_
  refine ao_cons (acts_of rfl (does_un (by conv => lhs; whnf) (by conv => lhs; whnf))) (by decide) ?_
  refine ao_cons (acts_of rfl (does_move (by conv => lhs; whnf))) (by decide) ?_
  refine ao_cons (acts_of rfl (does_move (by conv => lhs; whnf))) (by decide) ?_
  refine ao_cons (acts_of rfl (does_len_sl (by conv => lhs; whnf) ty32)) (by decide) ?_
  refine ao_cons (acts_of rfl (does_bin (by conv => lhs; whnf) (by conv => lhs; whnf) (by conv => lhs; whnf))) (by decide) ?_
  refine ao_cons (acts_of rfl (does_pick (by conv => lhs; whnf) (by conv => lhs; whnf))) (by decide) ?_
  refine ao_nil_n ?_
  refine hK4 _ ?_
  refine aw_bool 26 rfl (fun c26 => ?_) (fun c26 => ?_)
  · try simp only [vsPV_length, decide_eq_true_eq, decide_eq_false_iff_not, beq_iff_eq, Bool.not_eq_true', beq_eq_false_iff_ne, bne_iff_ne, Bool.not_eq_false', bne_eq_false_iff_eq, ne_eq, Decidable.not_not] at c26
    refine aw_cond_t (by decide) rfl ?_
    refine aw_seq_k (fun K5 hK5 => ?_)
    refine aw_reg ?_
    refine ao_cons (acts_of rfl (does_move (by conv => lhs; whnf))) (by decide) ?_
    refine ao_cons (acts_of rfl (does_assign (by conv => lhs; whnf))) (by decide) ?_
    refine ao_nil_n ?_
    refine hK5 _ ?_
    refine aw_ret ?_
    exact ret_ok1 (by conv => lhs; whnf) (by conv => lhs; whnf) (by exact rfl) (.inr rfl) rfl
  · try simp only [vsPV_length, decide_eq_true_eq, decide_eq_false_iff_not, beq_iff_eq, Bool.not_eq_true', beq_eq_false_iff_ne, bne_iff_ne, Bool.not_eq_false', bne_eq_false_iff_eq, ne_eq, Decidable.not_not] at c26
    refine aw_cond_f (by decide) rfl ?_
    refine aw_skip ?_
    refine hK3 _ ?_
    refine aw_seq_k (fun K6 hK6 => ?_)
    refine aw_reg ?_
    refine ao_cons (acts_of rfl (does_assign (by conv => lhs; whnf))) (by decide) ?_
    refine ao_cons (acts_of rfl (does_assign (by conv => lhs; whnf))) (by decide) ?_
    refine ao_nil_n ?_
    refine hK6 _ ?_
    refine aw_seq_k (fun K7 hK7 => ?_)
    refine aw_seq_k (fun K8 hK8 => ?_)
    refine aw_reg ?_
    refine ao_cons (acts_of rfl (does_assign (by conv => lhs; whnf))) (by decide) ?_
    refine ao_nil_n ?_
    refine hK8 _ ?_
    refine aw_block ?_
    refine aw_nilSl 8 3 (by conv => lhs; whnf) (by decide) ?_
    refine aw_nilSl 9 3 (by conv => lhs; whnf) (by decide) ?_
    refine aw_loop' (fun m s => ∃ (i : Nat), (i ≤ l.length) ∧ m = l.length - i ∧ s = lit [(0, .sl 3 (vsPV l)), (1, .int .i64 most), (5, .ptr 5 0 0), (8, .sl 3 (vsPV (playV l most i))), (9, .sl 3 (vsPV (playV l most i))), (10, .int .i64 ((i : Nat) : Int))] [((5, 0), .box [.int .u64 t.1, .int .u64 t.2])] [(5, 1)] X) (l.length - 0)
      ⟨_, reb_lit [(0, .sl 3 (vsPV l)), (1, .int .i64 most), (5, .ptr 5 0 0), (8, .sl 3 (vsPV (playV l most 0))), (9, .sl 3 (vsPV (playV l most 0))), (10, .int .i64 ((0 : Nat) : Int))] [(5, 0)] [((5, 0), .box [.int .u64 t.1, .int .u64 t.2])] [(5, 1)] (envOk_cons (by conv => lhs; whnf) (by exact rfl) (envOk_cons (by conv => lhs; whnf) (by exact rfl) (envOk_cons (by conv => lhs; whnf) (by exact rfl) (envOk_cons (by conv => lhs; whnf) (by exact rfl) (envOk_cons (by conv => lhs; whnf) (by exact rfl) (envOk_cons (by conv => lhs; whnf) (by exact rfl) envOk_nil)))))) (objOk_cons (by conv => lhs; whnf) (by conv => lhs; whnf) (by exact rfl) (by simp) objOk_nil) (nodup_b rfl) (nodup_b rfl) rfl rfl, (0), (by omega), rfl, rfl⟩ ?_
    rintro m s ⟨i, hle, rfl, rfl⟩
    refine aw_seq_k (fun K9 hK9 => ?_)
    refine aw_seq_k (fun K10 hK10 => ?_)
    refine aw_reg ?_
    refine ao_cons (acts_of rfl (does_move (by conv => lhs; whnf))) (by decide) ?_
    refine ao_cons (acts_of rfl (does_move (by conv => lhs; whnf))) (by decide) ?_
    refine ao_cons (acts_of rfl (does_len_sl (by conv => lhs; whnf) ty32)) (by decide) ?_
    refine ao_cons (acts_of rfl (does_bin (by conv => lhs; whnf) (by conv => lhs; whnf) (by conv => lhs; whnf))) (by decide) ?_
    refine ao_nil_n ?_
    refine hK10 _ ?_
    refine aw_bool 31 rfl (fun c31 => ?_) (fun c31 => ?_)
    · try simp only [vsPV_length, decide_eq_true_eq, decide_eq_false_iff_not, beq_iff_eq, Bool.not_eq_true', beq_eq_false_iff_ne, bne_iff_ne, Bool.not_eq_false', bne_eq_false_iff_eq, ne_eq, Decidable.not_not] at c31
      have hi : i < l.length := by omega
      obtain ⟨x, hx⟩ : ∃ x, l[i]? = some x := ⟨_, List.getElem?_eq_getElem hi⟩
      refine aw_cond_t (by decide) rfl ?_
      refine aw_skip ?_
      refine hK9 _ ?_
      refine aw_seq_k (fun K11 hK11 => ?_)
      refine aw_block ?_
      refine aw_seq_k (fun K12 hK12 => ?_)
      refine aw_reg ?_
      refine ao_cons (acts_of rfl (does_move (by conv => lhs; whnf))) (by decide) ?_
      refine ao_cons (acts_of rfl (does_move (by conv => lhs; whnf))) (by decide) ?_
      refine ao_cons (acts_of rfl (does_move (by conv => lhs; whnf))) (by decide) ?_
      refine ao_cons (acts_of rfl (does_indexAddr_sl (el := .agg [.int .u64 x.hi, .int .u64 x.lo, .bool x.kept]) (by conv => lhs; whnf) (by conv => lhs; whnf) ty32 ty38 (by omega) (by exact vsPV_get hx))) (by decide) ?_
      refine ao_cons (acts_of rfl (does_load (by conv => lhs; whnf) (by conv => lhs; whnf) ty38 (by conv => lhs; whnf))) (by decide) ?_
      refine ao_cons (acts_of rfl (does_move (by conv => lhs; whnf))) (by decide) ?_
      refine ao_cons (acts_of rfl (do_call0 40 false ((put_ok (playV l most i) x most (by have := playV_le l most i; omega)).ret_eq (r' := .sl 3 (vsPV (playV l most (i + 1)))) (by rw [playV_succ hx])) rfl ent21 rfl rfl)) (by decide) ?_
      refine ao_cons (acts_of rfl (does_assign (by conv => lhs; whnf))) (by decide) ?_
      refine ao_nil_n ?_
      refine hK12 _ ?_
      refine aw_seq_k (fun K13 hK13 => ?_)
      refine aw_reg ?_
      refine ao_cons (acts_of rfl (does_move (by conv => lhs; whnf))) (by decide) ?_
      refine ao_cons (acts_of rfl (does_move (by conv => lhs; whnf))) (by decide) ?_
      refine ao_cons (acts_of rfl (does_move (by conv => lhs; whnf))) (by decide) ?_
      refine ao_cons (acts_of rfl (does_indexAddr_sl (el := .agg [.int .u64 x.hi, .int .u64 x.lo, .bool x.kept]) (by conv => lhs; whnf) (by conv => lhs; whnf) ty32 ty38 (by omega) (by exact vsPV_get hx))) (by decide) ?_
      refine ao_cons (acts_of rfl (does_load (by conv => lhs; whnf) (by conv => lhs; whnf) ty38 (by conv => lhs; whnf))) (by decide) ?_
      refine ao_cons (acts_of rfl (does_move (by conv => lhs; whnf))) (by decide) ?_
      refine ao_cons (acts_of rfl (do_call0 47 false ((rem_ok (playV l most i) x most (by have := playV_le l most i; omega)).ret_eq (r' := .sl 3 (vsPV (playV l most (i + 1)))) (by rw [playV_succ hx])) rfl ent22 rfl rfl)) (by decide) ?_
      refine ao_cons (acts_of rfl (does_assign (by conv => lhs; whnf))) (by decide) ?_
      refine ao_nil_n ?_
      refine hK13 _ ?_
      refine aw_seq_k (fun K14 hK14 => ?_)
      refine aw_reg ?_
      refine ao_cons (acts_of rfl (does_move (by conv => lhs; whnf))) (by decide) ?_
      refine ao_cons (acts_of rfl (does_move (by conv => lhs; whnf))) (by decide) ?_
      refine ao_cons (acts_of rfl (do_call0 50 false (same_ok (playV l most (i + 1)) (by have := playV_le l most (i + 1); omega)) rfl ent23 rfl rfl)) (by decide) ?_
      refine ao_cons (acts_of rfl (does_un (by conv => lhs; whnf) (by conv => lhs; whnf))) (by decide) ?_
      refine ao_nil_n ?_
      refine hK14 _ ?_
      refine aw_cond_f (by decide) rfl ?_
      refine aw_skip ?_
      refine hK11 _ ?_
      refine aw_reg ?_
      refine ao_cons (acts_of rfl (does_move (by conv => lhs; whnf))) (by decide) ?_
      refine ao_cons (acts_of rfl ((does_bin (by conv => lhs; whnf) (by conv => lhs; whnf) (by conv => lhs; whnf)).castp (v' := .int .i64 ((i + 1 : Nat) : Int)) (by exact congrArg _ (by rw [wrap_i64 _ (by omega) (by omega)]; rfl)))) (by decide) ?_
      refine ao_cons (acts_of rfl (does_assign (by conv => lhs; whnf))) (by decide) ?_
      refine ao_nil_n ?_
      exact ⟨l.length - (i + 1), (by omega), _, reb_lit [(0, .sl 3 (vsPV l)), (1, .int .i64 most), (5, .ptr 5 0 0), (8, .sl 3 (vsPV (playV l most (i + 1)))), (9, .sl 3 (vsPV (playV l most (i + 1)))), (10, .int .i64 (((i + 1) : Nat) : Int))] [(5, 0)] [((5, 0), .box [.int .u64 t.1, .int .u64 t.2])] [(5, 1)] (envOk_cons (by conv => lhs; whnf) (by exact rfl) (envOk_cons (by conv => lhs; whnf) (by exact rfl) (envOk_cons (by conv => lhs; whnf) (by exact rfl) (envOk_cons (by conv => lhs; whnf) (by exact rfl) (envOk_cons (by conv => lhs; whnf) (by exact rfl) (envOk_cons (by conv => lhs; whnf) (by exact rfl) envOk_nil)))))) (objOk_cons (by conv => lhs; whnf) (by conv => lhs; whnf) (by exact rfl) (by simp) objOk_nil) (nodup_b rfl) (nodup_b rfl) rfl rfl, (i + 1), (by omega), rfl, rfl⟩
    · try simp only [vsPV_length, decide_eq_true_eq, decide_eq_false_iff_not, beq_iff_eq, Bool.not_eq_true', beq_eq_false_iff_ne, bne_iff_ne, Bool.not_eq_false', bne_eq_false_iff_eq, ne_eq, Decidable.not_not] at c31
      refine aw_cond_f (by decide) rfl ?_
      refine aw_exit ?_
      refine hK7 _ ?_
      refine aw_seq_k (fun K15 hK15 => ?_)
      refine aw_reg ?_
      refine ao_cons (acts_of rfl (does_move (by conv => lhs; whnf))) (by decide) ?_
      refine ao_cons (acts_of rfl (does_load (by conv => lhs; whnf) (by conv => lhs; whnf) ty35 (by conv => lhs; whnf))) (by decide) ?_
      refine ao_cons (acts_of rfl (do_call0 55 false (find_ok (playV l most i) t (by have := playV_le l most i; omega)) rfl ent24 rfl rfl)) (by decide) ?_
      refine ao_cons (acts_of rfl (does_move (by conv => lhs; whnf))) (by decide) ?_
      refine ao_cons (acts_of rfl (does_extract (by conv => lhs; whnf) (by conv => lhs; whnf))) (by decide) ?_
      refine ao_cons (acts_of rfl (does_extract (by conv => lhs; whnf) (by conv => lhs; whnf))) (by decide) ?_
      refine ao_cons (acts_of rfl (does_assign (by conv => lhs; whnf))) (by decide) ?_
      refine ao_cons (acts_of rfl (does_assign (by conv => lhs; whnf))) (by decide) ?_
      refine ao_nil_n ?_
      refine hK15 _ ?_
      refine aw_seq_k (fun K16 hK16 => ?_)
      refine aw_reg ?_
      refine ao_cons (acts_of rfl (does_move (by conv => lhs; whnf))) (by decide) ?_
      refine ao_cons (acts_of rfl (does_load (by conv => lhs; whnf) (by conv => lhs; whnf) ty35 (by conv => lhs; whnf))) (by decide) ?_
      refine ao_cons (acts_of rfl (do_call0 61 false (verdict_ok (playV l most i) t (by have := playV_le l most i; omega)) rfl ent25 rfl rfl)) (by decide) ?_
      refine ao_cons (acts_of rfl (does_move (by conv => lhs; whnf))) (by decide) ?_
      refine ao_cons (acts_of rfl (does_extract (by conv => lhs; whnf) (by conv => lhs; whnf))) (by decide) ?_
      refine ao_cons (acts_of rfl (does_extract (by conv => lhs; whnf) (by conv => lhs; whnf))) (by decide) ?_
      refine ao_cons (acts_of rfl (does_assign (by conv => lhs; whnf))) (by decide) ?_
      refine ao_cons (acts_of rfl (does_assign (by conv => lhs; whnf))) (by decide) ?_
      refine ao_nil_n ?_
      refine hK16 _ ?_
      refine aw_seq_k (fun K17 hK17 => ?_)
      refine aw_reg ?_
      refine ao_cons (acts_of rfl (does_move (by conv => lhs; whnf))) (by decide) ?_
      refine ao_cons (acts_of rfl (does_load (by conv => lhs; whnf) (by conv => lhs; whnf) ty35 (by conv => lhs; whnf))) (by decide) ?_
      refine ao_cons (acts_of rfl (do_call0 67 false (find_ok l t (by omega)) rfl ent24 rfl rfl)) (by decide) ?_
      refine ao_cons (acts_of rfl (does_move (by conv => lhs; whnf))) (by decide) ?_
      refine ao_cons (acts_of rfl (does_extract (by conv => lhs; whnf) (by conv => lhs; whnf))) (by decide) ?_
      refine ao_cons (acts_of rfl (does_extract (by conv => lhs; whnf) (by conv => lhs; whnf))) (by decide) ?_
      refine ao_cons (acts_of rfl (does_assign (by conv => lhs; whnf))) (by decide) ?_
      refine ao_cons (acts_of rfl (does_assign (by conv => lhs; whnf))) (by decide) ?_
      refine ao_nil_n ?_
      refine hK17 _ ?_
      refine aw_seq_k (fun K18 hK18 => ?_)
      refine aw_reg ?_
      refine ao_cons (acts_of rfl (does_move (by conv => lhs; whnf))) (by decide) ?_
      refine ao_cons (acts_of rfl (does_load (by conv => lhs; whnf) (by conv => lhs; whnf) ty35 (by conv => lhs; whnf))) (by decide) ?_
      refine ao_cons (acts_of rfl (do_call0 73 false (verdict_ok l t (by omega)) rfl ent25 rfl rfl)) (by decide) ?_
      refine ao_cons (acts_of rfl (does_move (by conv => lhs; whnf))) (by decide) ?_
      refine ao_cons (acts_of rfl (does_extract (by conv => lhs; whnf) (by conv => lhs; whnf))) (by decide) ?_
      refine ao_cons (acts_of rfl (does_extract (by conv => lhs; whnf) (by conv => lhs; whnf))) (by decide) ?_
      refine ao_cons (acts_of rfl (does_assign (by conv => lhs; whnf))) (by decide) ?_
      refine ao_cons (acts_of rfl (does_assign (by conv => lhs; whnf))) (by decide) ?_
      refine ao_nil_n ?_
      refine hK18 _ ?_
      refine aw_seq_k (fun K19 hK19 => ?_)
      refine aw_reg ?_
      refine ao_cons (acts_of rfl (does_move (by conv => lhs; whnf))) (by decide) ?_
      refine ao_cons (acts_of rfl (does_move (by conv => lhs; whnf))) (by decide) ?_
      refine ao_cons (acts_of rfl ((does_eq_bool (by conv => lhs; whnf) (by conv => lhs; whnf) (ty_bool ty4) (by conv => lhs; whnf)).castp (v' := .bool true) (by exact congrArg PV.bool (by simp)))) (by decide) ?_
      refine ao_cons (acts_of rfl (does_move (by conv => lhs; whnf))) (by decide) ?_
      refine ao_cons (acts_of rfl (does_move (by conv => lhs; whnf))) (by decide) ?_
      refine ao_cons (acts_of rfl (does_move (by conv => lhs; whnf))) (by decide) ?_
      refine ao_cons (acts_of rfl ((does_eq_bool (by conv => lhs; whnf) (by conv => lhs; whnf) (ty_bool ty4) (by conv => lhs; whnf)).castp (v' := .bool true) (by exact congrArg PV.bool (by simp)))) (by decide) ?_
      refine ao_cons (acts_of rfl (does_pick (by conv => lhs; whnf) (by conv => lhs; whnf))) (by decide) ?_
      refine ao_cons (acts_of rfl (does_move (by conv => lhs; whnf))) (by decide) ?_
      refine ao_cons (acts_of rfl (does_move (by conv => lhs; whnf))) (by decide) ?_
      refine ao_cons (acts_of rfl (does_move (by conv => lhs; whnf))) (by decide) ?_
      refine ao_cons (acts_of rfl ((does_eq_bool (by conv => lhs; whnf) (by conv => lhs; whnf) (ty_bool ty4) (by conv => lhs; whnf)).castp (v' := .bool true) (by exact congrArg PV.bool (by simp)))) (by decide) ?_
      refine ao_cons (acts_of rfl (does_pick (by conv => lhs; whnf) (by conv => lhs; whnf))) (by decide) ?_
      refine ao_cons (acts_of rfl (does_move (by conv => lhs; whnf))) (by decide) ?_
      refine ao_cons (acts_of rfl (does_move (by conv => lhs; whnf))) (by decide) ?_
      refine ao_cons (acts_of rfl (does_move (by conv => lhs; whnf))) (by decide) ?_
      refine ao_cons (acts_of rfl ((does_eq_bool (by conv => lhs; whnf) (by conv => lhs; whnf) (ty_bool ty4) (by conv => lhs; whnf)).castp (v' := .bool true) (by exact congrArg PV.bool (by simp)))) (by decide) ?_
      refine ao_cons (acts_of rfl (does_pick (by conv => lhs; whnf) (by conv => lhs; whnf))) (by decide) ?_
      refine ao_cons (acts_of rfl (does_assign (by conv => lhs; whnf))) (by decide) ?_
      refine ao_nil_n ?_
      refine hK19 _ ?_
      refine aw_ret ?_
      exact ret_ok1 (by conv => lhs; whnf) (by conv => lhs; whnf) (by exact rfl) (.inr rfl) rfl
end Go.Proofs.Ytomjoccpkknamaa.Ab
