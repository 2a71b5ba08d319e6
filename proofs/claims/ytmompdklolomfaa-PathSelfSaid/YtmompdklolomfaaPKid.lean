/- Each one's kids, in order: the program's and the document's. -/
import Derived.Test.YtmompdklolomfaaXKids
import Derived.Test.YtmompdklolomfaaPParR
namespace Go.Proofs.Ytmompdklolomfaa.Ab
open Go Go.RowKit
set_option linter.unusedVariables false
set_option linter.unusedSimpArgs false
def chU (P : List Int) (p : Int) (k : Nat) : List Int := ((List.range k).filter fun i => decide (P[i]? = some p)).map fun i : Nat => (i : Int)
theorem chU_succ (P : List Int) (p : Int) (k : Nat) : chU P p (k + 1) = chU P p k ++ (if P[k]? = some p then [(k : Int)] else []) := by
 unfold chU
 rw [List.range_succ, List.filter_append, List.map_append]
 congr 1
 by_cases h : P[k]? = some p
 ·rw [if_pos h, List.filter_cons_of_pos (by simp [h])]; rfl
 ·rw [if_neg h, List.filter_cons_of_neg (by simp [h])]; rfl
theorem chU_mem {P : List Int} {p : Int} {k : Nat} {x : Int} : x ∈ chU P p k ↔ ∃ i : Nat, i < k ∧ P[i]? = some p ∧ x = (i : Int) := by
 unfold chU
 simp only [List.mem_map, List.mem_filter, List.mem_range, decide_eq_true_eq]
 constructor
 ·rintro ⟨i, ⟨h1, h2⟩, h3⟩; exact ⟨i, h1, h2, h3.symm⟩
 ·rintro ⟨i, h1, h2, h3⟩; exact ⟨i, ⟨h1, h2⟩, h3.symm⟩
theorem chU_lt (P : List Int) (p : Int) (k : Nat) : (chU P p k).Pairwise (· < ·) := by
 unfold chU
 rw [List.pairwise_map]
 refine List.Pairwise.filter _ ?_
 refine List.Pairwise.imp ?_ List.pairwise_lt_range
 intro a b h; omega
theorem chU_len (P : List Int) (p : Int) (k : Nat) : (chU P p k).length ≤ k := by
 unfold chU
 rw [List.length_map]
 exact Nat.le_trans (List.length_filter_le _ _) (by simp)
def insS (l : List Span) (i : Int) : List Int → List Int
 | [] => [i]
 | y :: r => if stOf l i < stOf l y then i :: y :: r else y :: insS l i r
theorem insS_perm (l : List Span) (i : Int) : ∀ o : List Int, (insS l i o).Perm (i :: o)
 | [] => List.Perm.refl _
 | y :: r => by
  unfold insS
  split
  ·exact List.Perm.refl _
  ·exact (List.Perm.cons y (insS_perm l i r)).trans (List.Perm.swap i y r)
theorem insS_sorted (l : List Span) (i : Int) : ∀ o : List Int, o.Pairwise (ltP l) → (∀ y ∈ o, y < i) → (insS l i o).Pairwise (ltP l)
 | [], _, _ => by simp [insS]
 | y :: r, h, hlt => by
  obtain ⟨h1, h2⟩ := List.pairwise_cons.1 h
  unfold insS
  split
  ·rename_i hc
   refine List.pairwise_cons.2 ⟨fun z hz => ?_, h⟩
   rcases List.mem_cons.1 hz with rfl | hz
   ·exact .inl hc
   ·exact ltP_trans (.inl hc) (h1 z hz)
  ·rename_i hc
   refine List.pairwise_cons.2 ⟨fun z hz => ?_, insS_sorted l i r h2 fun z hz => hlt z (List.mem_cons_of_mem _ hz)⟩
   rcases List.mem_cons.1 ((insS_perm l i r).mem_iff.1 hz) with rfl | hz
   ·have := hlt y List.mem_cons_self
    unfold ltP; omega
   ·exact h1 z hz
def kidsF (l : List Span) (p : Int) : List Int := (chU (parF l) p l.length).foldl (fun o i => insS l i o) []
theorem fold_ins (l : List Span) : ∀ (m o : List Int), o.Pairwise (ltP l) → m.Pairwise (· < ·) → (∀ x ∈ o, ∀ y ∈ m, x < y) → (m.foldl (fun o i => insS l i o) o).Perm (o ++ m) ∧ (m.foldl (fun o i => insS l i o) o).Pairwise (ltP l)
 | [], o, h, _, _ => by simp [h]
 | i :: m, o, h, hm, ho => by
  obtain ⟨h1, h2⟩ := List.pairwise_cons.1 hm
  have hp := insS_perm l i o
  obtain ⟨k1, k2⟩ := fold_ins l m (insS l i o) (insS_sorted l i o h fun y hy => ho y hy i List.mem_cons_self) h2 (fun x hx y hy => by
   rcases List.mem_cons.1 (hp.mem_iff.1 hx) with rfl | hx
   ·exact h1 y hy
   ·exact ho x hx y (List.mem_cons_of_mem _ hy))
  refine ⟨k1.trans ?_, k2⟩
  exact (List.Perm.append_right m hp).trans List.perm_middle.symm
theorem kidsF_spec (l : List Span) (p : Int) : (kidsF l p).Perm (chU (parF l) p l.length) ∧ (kidsF l p).Pairwise (ltP l) := by
 have := fold_ins l (chU (parF l) p l.length) [] List.Pairwise.nil (chU_lt _ _ _) (by simp)
 simpa [kidsF] using this
theorem lt_uniq {l : List Span} {A B : List Int} (h : A.Perm B) (ha : A.Pairwise (ltP l)) (hb : B.Pairwise (ltP l)) : A = B :=
 List.Perm.eq_of_pairwise (fun a b _ _ h1 h2 => (ltP_irr (ltP_trans h1 h2)).elim) ha hb h
theorem parF_len (l : List Span) : (parF l).length = l.length := by simp [parF]
theorem parF_rng {l : List Span} {i : Nat} (hi : i < l.length) : ∃ p, (parF l)[i]? = some p ∧ (p = -1 ∨ ∃ k : Nat, k < l.length ∧ p = (k : Int)) := by
 refine ⟨if cutB (upF l) i = true then -1 else namedF l i, by simp [parF, hi], ?_⟩
 split
 ·exact .inl rfl
 ·exact named_rng l i
theorem ch_ok {l : List Span} {p : Int} : ∀ y ∈ chU (parF l) p l.length, okP l y := by
 intro y hy
 obtain ⟨i, h1, _, rfl⟩ := chU_mem.1 hy
 exact ⟨by omega, by simpa using h1⟩
theorem kids_mem {l : List Span} {p x : Int} : x ∈ kidsF l p ↔ ∃ i : Nat, i < l.length ∧ (parF l)[i]? = some p ∧ x = (i : Int) := by rw [(kidsF_spec l p).1.mem_iff, chU_mem]
theorem kids_ok {l : List Span} {p : Int} : ∀ y ∈ kidsF l p, okP l y := fun y hy => ch_ok y ((kidsF_spec l p).1.mem_iff.1 hy)
theorem kids_len_le (l : List Span) (p : Int) : (kidsF l p).length ≤ l.length := by rw [(kidsF_spec l p).1.length_eq]; exact chU_len _ _ _
def keyR (n j : Nat) : Int := if j = n then -1 else (j : Int)
def tabU (P : List Int) (n i : Nat) : List (List Int) := (List.range (n + 1)).map fun j => chU P (keyR n j) i
theorem tab_at {P : List Int} {n i j : Nat} (h : j ≤ n) : (tabU P n i)[j]? = some (chU P (keyR n j) i) := by simp [tabU, show j < n + 1 by omega]
theorem tab_set {P : List Int} {n i j : Nat} {p : Int} (hp : P[i]? = some p) (hj : j ≤ n) (hk : keyR n j = p) : (tabU P n i).set j (chU P p i ++ [(i : Int)]) = tabU P n (i + 1) := by
 apply List.ext_getElem?
 intro k
 have hl : (tabU P n i).length = n + 1 := by simp [tabU]
 by_cases hkn : k ≤ n
 ·rw [tab_at hkn, chU_succ, hp, List.getElem?_set]
  by_cases e : j = k
  ·subst e
   rw [if_pos rfl, if_pos (by omega), hk, if_pos rfl]
  ·rw [if_neg e, tab_at hkn]
   have : ¬ (some p = some (keyR n k)) := by
    intro h
    injection h with h
    rw [← hk] at h
    unfold keyR at h
    split at h <;> split at h <;> omega
   rw [if_neg this, List.append_nil]
 ·rw [List.getElem?_eq_none (by rw [List.length_set]; omega), List.getElem?_eq_none (by simp [tabU]; omega)]
theorem add_spec {P : List Int} {n : Nat} (hn : n ≤ 10000) (hP : P.length = n) (hr : ∀ i, i < n → ∃ p, P[i]? = some p ∧ (p = -1 ∨ ∃ k : Nat, k < n ∧ p = (k : Int))) : ∀ (m i : Nat), i + m = n → kidsAdd (n : Int) (P.drop i) (i : Int) (tabU P n i) = some (tabU P n n)
 | 0, i, h => by
  have : i = n := by omega
  subst this
  rw [List.drop_eq_nil_of_le (by omega)]; rfl
 | m + 1, i, h => by
  have hi : i < P.length := by omega
  obtain ⟨p, hp, hpr⟩ := hr i (by omega)
  rw [List.drop_eq_getElem_cons hi]
  have e : P[i] = p := by rw [List.getElem?_eq_getElem hi] at hp; injection hp
  rw [e]
  obtain ⟨j, hj, hk, hq⟩ : ∃ j : Nat, j ≤ n ∧ keyR n j = p ∧ (if (p == -1) = true then (n : Int) else p) = (j : Int) := by
   rcases hpr with rfl | ⟨k, hk, rfl⟩
   ·exact ⟨n, Nat.le_refl _, by simp [keyR], by simp⟩
   ·exact ⟨k, by omega, by simp [keyR]; omega, by rw [if_neg (by simp)]⟩
  unfold kidsAdd
  rw [hq, gd_pos (by omega), Int.toNat_natCast, tab_at hj, Option.bind_some, hk, gd_pos (fitI (by have := chU_len P p i; simp; omega)), wp1 (by omega), tab_set hp hj hk]
  exact add_spec hn hP hr m (i + 1) (by omega)
theorem sort_all (l : List Span) (hl : l.length ≤ 60) (f : Nat → List Int) (hf : ∀ j, ∃ p, f j = chU (parF l) p l.length) (g : Nat → List Int) (hg : ∀ j p, f j = chU (parF l) p l.length → g j = kidsF l p ∨ True) : ∀ js : List Nat, (∀ j ∈ js, ∃ p, f j = chU (parF l) p l.length ∧ g j = kidsF l p) → kidsSort l (js.map f) = some (js.map g)
 | [], _ => rfl
 | j :: js, h => by
  obtain ⟨p, h1, h2⟩ := h j List.mem_cons_self
  obtain ⟨M, m1, m2, m3⟩ := stb_spec (l := l) (r := chU (parF l) p l.length) ch_ok (chU_lt _ _ _) (Nat.le_trans (chU_len _ _ _) hl)
  have hM : M = kidsF l p := lt_uniq (m2.trans (kidsF_spec l p).1.symm) m3 (kidsF_spec l p).2
  show kidsSort l (f j :: js.map f) = some (g j :: js.map g)
  unfold kidsSort
  rw [h1, m1, Option.bind_some, sort_all l hl f hf g hg js fun k hk => h k (List.mem_cons_of_mem _ hk), Option.bind_some, h2, hM]
def allKids (l : List Span) : List (List Int) := (List.range (l.length + 1)).map fun j => kidsF l (keyR l.length j)
theorem tkids_spec (l : List Span) (hl : l.length ≤ 60) : tree_Kids l = some (allKids l) := by
 unfold tree_Kids
 rw [gd_pos (by omega), tparents_spec l (by omega), Option.bind_some, gd_pos (by rw [parF_len]; omega)]
 have h0 : tabU (parF l) l.length 0 = List.replicate (l.length + 1) [] := by
  unfold tabU
  rw [show (fun j => chU (parF l) (keyR l.length j) 0) = fun _ => [] from funext fun j => by simp [chU], List.map_const', List.length_range]
 have := add_spec (P := parF l) (n := l.length) (by omega) (parF_len l) (fun i hi => parF_rng hi) l.length 0 (by omega)
 rw [List.drop_zero, h0] at this
 have e0 : (((0 : Nat) : Int)) = 0 := rfl
 rw [e0] at this
 rw [this, Option.bind_some]
 exact sort_all l hl (fun j => chU (parF l) (keyR l.length j) l.length) (fun j => ⟨_, rfl⟩) (fun j => kidsF l (keyR l.length j)) (fun _ _ _ => .inr trivial) (List.range (l.length + 1)) (fun j _ => ⟨_, rfl, rfl⟩)
theorem allKids_at {l : List Span} {j : Nat} (h : j < l.length) : (allKids l)[j]? = some (kidsF l (j : Int)) := by
 simp only [allKids, List.getElem?_map, List.getElem?_range (show j < l.length + 1 by omega), Option.map_some, keyR]
 rw [if_neg (by omega)]
theorem allKids_end (l : List Span) : (allKids l)[l.length]? = some (kidsF l (-1)) := by
 simp [allKids, keyR]
theorem rk_inner (l : List Span) {i : Nat} (hi : i < l.length) : ∀ (n : Nat) (A B : List Int) (N : Nat), A.length = n → (∀ y ∈ A, okP l y) → n ≤ 10000 → n < N → (∀ y ∈ B, stOf l (i : Int) < stOf l y) →
  ∃ L1 L2, A ++ B = L1 ++ L2 ∧ loopN (fun (s : Int) => gleaningref28_kids_l2 l (A ++ B) (i : Int) s) N (n : Int) = some (L1.length : Int) ∧ (∀ y ∈ L2, stOf l (i : Int) < stOf l y) ∧ ∀ C y, L1 = C ++ [y] → ¬ stOf l (i : Int) < stOf l y := by
 intro n
 induction n with
 | zero =>
  intro A B N hA hok hn hN hB
  obtain ⟨N, rfl⟩ : ∃ M, N = M + 1 := ⟨N - 1, by omega⟩
  have : A = [] := List.eq_nil_of_length_eq_zero hA
  subst this
  refine ⟨[], B, rfl, loop_r ?_, hB, fun C y h => by simp at h⟩
  show gleaningref28_kids_l2 _ _ _ _ = _
  unfold gleaningref28_kids_l2
  rfl
 | succ n ih =>
  intro A B N hA hok hn hN hB
  obtain ⟨N, rfl⟩ : ∃ M, N = M + 1 := ⟨N - 1, by omega⟩
  obtain ⟨A, y, rfl⟩ : ∃ C y, A = C ++ [y] := ⟨A.dropLast, A.getLast (by intro e; rw [e] at hA; cases hA), (List.dropLast_concat_getLast _).symm⟩
  have hA' : A.length = n := by simpa using hA
  have hy : okP l y := hok y (by simp)
  obtain ⟨s, s1, s2, _⟩ := ok_get (l := l) (x := (i : Int)) ⟨by omega, by simpa using hi⟩
  obtain ⟨t, t1, t2, _⟩ := ok_get hy
  have hb : gleaningref28_kids_l2 l (A ++ [y] ++ B) (i : Int) ((n + 1 : Nat) : Int) = if stOf l (i : Int) < stOf l y then some (.inl (n : Int)) else some (.inr ((n + 1 : Nat) : Int)) := by
   unfold gleaningref28_kids_l2
   rw [ite_t (dec_t (by omega)), wm (by omega), gd_pos (by omega), s1, Option.bind_some, gd_pos (by omega), Int.toNat_natCast, show A ++ [y] ++ B = A ++ y :: B by simp, get_mid _ _ _ hA'.symm, Option.bind_some, gd_pos hy.1, t1, Option.bind_some, s2, t2]
   by_cases h : s.Start < t.Start
   ·rw [ite_t (dec_t h), if_pos h]
   ·rw [ite_f (dec_f h), if_neg h]
  by_cases h : stOf l (i : Int) < stOf l y
  ·rw [if_pos h] at hb
   rw [loop_l hb]
   have := ih A (y :: B) N hA' (fun z hz => hok z (by simp [hz])) (by omega) (by omega) (fun z hz => by
    rcases List.mem_cons.1 hz with rfl | hz
    ·exact h
    ·exact hB z hz)
   rw [show A ++ y :: B = A ++ [y] ++ B by simp] at this
   exact this
  ·rw [if_neg h] at hb
   refine ⟨A ++ [y], B, rfl, by rw [loop_r hb]; simp [hA'], hB, fun C z e => ?_⟩
   have := List.append_inj_right' e (by simp)
   injection this with this
   subst this
   exact h
theorem rkids_spec (l : List Span) (hl : l.length ≤ 10000) (p : Int) : gleaningref28_kids l (parF l) p = some (kidsF l p) := by
 unfold gleaningref28_kids
 refine loop_fu (fun n s r => ∃ (k : Nat) (o : List Int), s = (o, (k : Int)) ∧ k + n = l.length ∧ o.Perm (chU (parF l) p k) ∧ o.Pairwise (ltP l) ∧ r = kidsF l p) ?_ (n := l.length) ⟨0, [], rfl, by omega, by simp [chU], List.Pairwise.nil, rfl⟩ (by omega)
 rintro n s r ⟨k, o, rfl, hk, hp, hs, rfl⟩
 show (∃ s' m, gleaningref28_kids_l0 l (parF l) p o (k : Int) = _ ∧ _) ∨ gleaningref28_kids_l0 l (parF l) p o (k : Int) = _
 unfold gleaningref28_kids_l0
 by_cases hlt : k < l.length
 ·obtain ⟨q, hq, _⟩ := parF_rng hlt
  rw [ite_t (lt_d hlt), gd_pos (by omega), Int.toNat_natCast, hq, Option.bind_some, wp1 (by omega)]
  by_cases e : q = p
  ·subst e
   rw [ite_f (by simp)]
   have hlo : ∀ y ∈ o, okP l y ∧ y < (k : Int) := fun y hy => by
    obtain ⟨j, h1, _, rfl⟩ := chU_mem.1 (hp.mem_iff.1 hy)
    exact ⟨⟨by omega, by simp; omega⟩, by omega⟩
   have hol : o.length ≤ k := by rw [hp.length_eq]; exact chU_len _ _ _
   obtain ⟨L1, L2, e1, e2, e3, e4⟩ := rk_inner l hlt o.length o [] Fu rfl (fun y hy => (hlo y hy).1) (by omega) (by rw [fu_eq]; omega) (by simp)
   rw [List.append_nil] at e1 e2
   rw [e2, Option.bind_some]
   have hL : o.length = L1.length + L2.length := by rw [e1, List.length_append]
   have ht : o.take L1.length = L1 := by rw [e1, List.take_left']; rfl
   have hd : o.drop L1.length = L2 := by rw [e1, List.drop_left']; rfl
   unfold gleaningref28_kids_k1
   rw [Int.toNat_natCast, ht, hd, gd_pos (by omega), gd_pos (by omega), gd_pos (fitI (by omega)), gd_pos (fitI (by simp; omega)), gd_pos (by omega), gd_pos (by omega), gd_pos (fitI (by simp; omega)), wp1 (by omega)]
   refine .inl ⟨_, n - 1, rfl, by omega, k + 1, _, rfl, by omega, ?_, ?_, rfl⟩
   ·rw [chU_succ, if_pos hq]
    rw [List.append_assoc, List.singleton_append]
    refine List.perm_middle.trans ?_
    rw [← e1]
    have h3 : (chU (parF l) q k ++ [(k : Int)]).Perm ((k : Int) :: chU (parF l) q k) := by simpa only [List.append_nil] using (List.perm_middle (a := (k : Int)) (l₁ := chU (parF l) q k) (l₂ := []))
    exact (List.Perm.cons _ hp).trans h3.symm
   ·rw [List.append_assoc, List.singleton_append]
    exact ins_put (by rw [← e1]; exact hs) (fun y hy => (hlo y (by rw [e1]; exact hy)).2) e3 e4
  ·rw [ite_t (by simpa using e)]
   refine .inl ⟨_, n - 1, rfl, by omega, k + 1, o, rfl, by omega, ?_, hs, rfl⟩
   rw [chU_succ, if_neg (by rw [hq]; intro h; injection h with h; exact e h), List.append_nil]
   exact hp
 ·rw [ite_f (lt_n hlt)]
  right
  have : k = l.length := by omega
  subst this
  rw [lt_uniq (hp.trans (kidsF_spec l p).1.symm) hs (kidsF_spec l p).2]
end Go.Proofs.Ytmompdklolomfaa.Ab
