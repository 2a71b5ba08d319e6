/- tree.Kids: the places of each one's kids. -/
import Derived.Test.YtmompdklolomfaaXTree
import Derived.Test.YtmompdklolomfaaXStb
import Derived.Test.YtmompdklolomfaaAbRows
namespace Go.Proofs.Ytmompdklolomfaa.Ab
open Go Go.RowKit
set_option linter.unusedVariables false
set_option linter.unusedSimpArgs false
def kidsAdd (n : Int) : List Int → Int → List (List Int) → Option (List (List Int))
 | [], _, o => some o
 | p :: ps, i, o => gd (0 ≤ (if (p == -1) = true then n else p)) (Option.bind o[(if (p == -1) = true then n else p).toNat]? fun x => gd ((x ++ [i]).length * 8 ≤ 140737488355328 ∧ (x ++ [i]).length ≤ 140737488355328)
   (kidsAdd n ps (IntKind.i64.wrap (i + 1)) (o.set (if (p == -1) = true then n else p).toNat (x ++ [i]))))
def kidsSort (l : List Span) : List (List Int) → Option (List (List Int))
 | [] => some []
 | r :: rs => Option.bind (slices_SortStableFunc_int_tree_Kids_c1 r l) fun r' => Option.bind (kidsSort l rs) fun rs' => some (r' :: rs')
def tree_Kids (l : List Span) : Option (List (List Int)) :=
 gd (l.length < 1000000) (Option.bind (tree_Parents l) fun ps => gd (ps.length < 1000000) (Option.bind (kidsAdd (l.length : Int) ps 0 (List.replicate (l.length + 1) [])) fun o => kidsSort l o))
abbrev vals (o : List (List Int)) : List (List PV) := o.map (List.map enc2)
def bxL (l : List Span) : (Nat × Nat) × AObj := ((1, 0), .box [.sl 10 (List.map enc27 l)])
def stA (l : List Span) (ps : List Int) (o : List (List Int)) (i : Int) (X : Ctx) : St :=
 lit [(1, .ptr 1 0 0), (3, .bsl 11 0 o.length), (13, .own 13 0), (14, .int .i64 (ps.length : Int)), (15, .int .i64 i)] ([bxL l, ((13, 0), .arr 3 1 false (List.map enc2 ps))] ++ ((11, 0), .box (owns 90 o.length)) :: robj 90 3 0 (vals o)) [(1, 1), (11, 1), (13, 1), (90, o.length)] X
def stB (l : List Span) (o : List (List Int)) (i : Int) (X : Ctx) : St :=
 lit [(1, .ptr 1 0 0), (3, .bsl 11 0 o.length), (35, .bsl 11 0 o.length), (36, .int .i64 (o.length : Int)), (37, .int .i64 i)] ([bxL l] ++ ((11, 0), .box (owns 90 o.length)) :: robj 90 3 0 (vals o)) [(1, 1), (11, 1), (90, o.length)] X
theorem stA_row {l : List Span} {ps : List Int} {o : List (List Int)} {i : Int} {X : Ctx} {k : Nat} {x : List Int} (h : o[k]? = some x) : (stA l ps o i X).heap 90 k = some (.arr 3 1 false (List.map enc2 x)) := by
 have := assocO_robj 90 3 (j := 0) (l := vals o) (k := k) (Nat.zero_le _)
 show assocO (robj 90 3 0 (vals o)) 90 k = _
 rw [this, Nat.sub_zero, List.getElem?_map, h]
 rfl
theorem stB_row {l : List Span} {o : List (List Int)} {i : Int} {X : Ctx} {k : Nat} {x : List Int} (h : o[k]? = some x) : (stB l o i X).heap 90 k = some (.arr 3 1 false (List.map enc2 x)) := by
 have := assocO_robj 90 3 (j := 0) (l := vals o) (k := k) (Nat.zero_le _)
 show assocO (robj 90 3 0 (vals o)) 90 k = _
 rw [this, Nat.sub_zero, List.getElem?_map, h]
 rfl
theorem vals_get {o : List (List Int)} {k : Nat} {r : List PV} (h : (vals o)[k]? = some r) : ∃ x, o[k]? = some x ∧ r = List.map enc2 x := by
 rw [List.getElem?_map, Option.map_eq_some_iff] at h
 obtain ⟨x, h1, h2⟩ := h
 exact ⟨x, h1, h2.symm⟩
section
variable {N : Nat} {s : St} {l : List Span} {ps : List Int} {o : List (List Int)} {i : Int} (nmf : Nat → Nat × Nat)
theorem to_stA (h1 : s.heap 1 0 = some (.box [.sl 10 (List.map enc27 l)])) (h13 : s.heap 13 0 = some (.arr 3 1 false (List.map enc2 ps))) (h11 : s.heap 11 0 = some (.box ((List.range o.length).map fun k => .own (nmf k).1 (nmf k).2)))
  (hr : ∀ (k : Nat) (x : List Int), o[k]? = some x → s.heap (nmf k).1 (nmf k).2 = some (.arr 3 1 false (List.map enc2 x))) (hinj : ∀ a b, a < o.length → b < o.length → nmf a = nmf b → a = b) (hs : ∀ k, (nmf k).1 ≠ 1 ∧ (nmf k).1 ≠ 11 ∧ (nmf k).1 ≠ 13)
  (e1 : s.env 1 = .ptr 1 0 0) (e3 : s.env 3 = .bsl 11 0 o.length) (e13 : s.env 13 = .own 13 0) (e14 : s.env 14 = .int .i64 (ps.length : Int)) (e15 : s.env 15 = .int .i64 i) (h0 : s.next 0 = 0) : Reb N s (stA l ps o i s.X) := by
 have := reb_rows (N := N) (s := s) (D := 11) (R := 90) (e := 3) (rows := vals o) (nmf := nmf) (nx := [(1, 1), (11, 1), (13, 1), (90, o.length)]) (tl := [(1, .ptr 1 0 0), (3, .bsl 11 0 o.length), (13, .own 13 0), (14, .int .i64 (ps.length : Int)), (15, .int .i64 i)]) [bxL l, ((13, 0), .arr 3 1 false (List.map enc2 ps))]
  (fun q hq => by
   simp only [List.mem_cons, List.not_mem_nil, or_false] at hq
   rcases hq with rfl | rfl
   ·exact ⟨h1, fun _ _ => rfl, by simp [bxL], by simp [bxL], fun k e => (hs k).1 (congrArg Prod.fst e)⟩
   ·exact ⟨h13, fun _ _ => rfl, by simp, by simp, fun k e => (hs k).2.2 (congrArg Prod.fst e)⟩) (by simp [bxL]) (by decide) (by decide) (by decide)
  (by rw [List.length_map]; exact h11) (fun k r hk => by obtain ⟨x, h2, rfl⟩ := vals_get hk; exact hr k x h2) (fun a b ha hb => hinj a b (by simpa using ha) (by simpa using hb)) (fun k e => (hs k).2.1 (congrArg Prod.fst e))
  (fun p hp => by
   simp only [List.mem_cons, List.not_mem_nil, or_false] at hp
   rcases hp with rfl | rfl | rfl | rfl | rfl
   ·simp only [e1]; simp [ren1, renC, idxOf, bxL]
   ·simp only [e3]; simp [ren1, renC, idxOf, bxL]
   ·simp only [e13]; simp [ren1, renC, idxOf, bxL]
   ·simp only [e14]; rfl
   ·simp only [e15]; rfl)
  (fun q hq => by
   simp only [List.mem_cons, List.not_mem_nil, or_false] at hq
   rcases hq with rfl | rfl <;> simp [bxL, assocN]) (by simp [assocN]) (by simp [assocN]) (by rw [h0]; exact Nat.zero_le _)
 rw [List.length_map] at this
 exact this
theorem to_stB (h1 : s.heap 1 0 = some (.box [.sl 10 (List.map enc27 l)])) (h11 : s.heap 11 0 = some (.box (owns 90 o.length)))
  (hr : ∀ (k : Nat) (x : List Int), o[k]? = some x → s.heap 90 k = some (.arr 3 1 false (List.map enc2 x)))
  (e1 : s.env 1 = .ptr 1 0 0) (e3 : s.env 3 = .bsl 11 0 o.length) (e35 : s.env 35 = .bsl 11 0 o.length) (e36 : s.env 36 = .int .i64 (o.length : Int)) (e37 : s.env 37 = .int .i64 i) (h0 : s.next 0 = 0) : Reb N s (stB l o i s.X) := by
 have := reb_rows (N := N) (s := s) (D := 11) (R := 90) (e := 3) (rows := vals o) (nmf := fun k => (90, k)) (nx := [(1, 1), (11, 1), (90, o.length)]) (tl := [(1, .ptr 1 0 0), (3, .bsl 11 0 o.length), (35, .bsl 11 0 o.length), (36, .int .i64 (o.length : Int)), (37, .int .i64 i)]) [bxL l]
  (fun q hq => by
   simp only [List.mem_cons, List.not_mem_nil, or_false] at hq
   rcases hq with rfl
   exact ⟨h1, fun _ _ => rfl, by simp [bxL], by simp [bxL], fun k e => by simp [bxL] at e⟩) (by simp [bxL]) (by decide) (by decide) (by decide)
  (by rw [List.length_map]; exact h11) (fun k r hk => by obtain ⟨x, h2, rfl⟩ := vals_get hk; exact hr k x h2) (fun a b ha hb e => by injection e) (fun k e => by simp at e)
  (fun p hp => by
   simp only [List.mem_cons, List.not_mem_nil, or_false] at hp
   rcases hp with rfl | rfl | rfl | rfl | rfl
   ·simp only [e1]; simp [ren1, renC, idxOf, bxL]
   ·simp only [e3]; simp [ren1, renC, idxOf, bxL]
   ·simp only [e35]; simp [ren1, renC, idxOf, bxL]
   ·simp only [e36]; rfl
   ·simp only [e37]; rfl)
  (fun q hq => by
   simp only [List.mem_cons, List.not_mem_nil, or_false] at hq
   rcases hq with rfl; simp [bxL, assocN]) (by simp [assocN]) (by simp [assocN]) (by rw [h0]; exact Nat.zero_le _)
 rw [List.length_map] at this
 exact this
end
theorem owns_at {R m k : Nat} (h : k < m) : (owns R m)[k]? = some (.own R k) := by simp [owns, h]
theorem loadPV_own {ti : TyI} {m k : Nat} (ha : ti.d.agg = false) (h : k < m) : loadPV ti ((owns 90 m).drop k) = some (.own 90 k) := by
 simp only [loadPV, ha, Bool.false_eq_true, if_false]
 rw [List.getElem?_drop, Nat.add_zero, owns_at h]
theorem splice_own {m k : Nat} (h : k < m) (q : Nat × Nat) : splice (owns 90 m) k [.own q.1 q.2] = (List.range m).map fun j => .own (if j = k then q else (90, j)).1 (if j = k then q else (90, j)).2 := by
 apply List.ext_getElem?
 intro j
 unfold splice
 rw [splice_get (by rw [owns_len]; simp; omega)]
 by_cases hj : j < m
 ·rw [List.getElem?_map, List.getElem?_range hj]
  by_cases e : j = k
  ·subst e; simp
  ·rw [if_neg (by simp; omega), owns_at hj]; simp [e]
 ·rw [List.getElem?_map, List.getElem?_eq_none (l := List.range m) (by simpa using hj), if_neg (by simp; omega), List.getElem?_eq_none (by rw [owns_len]; omega)]
  rfl
theorem args2 {s : St} {d n : Nat} {L : Nm} {c c' : PV} (h : s.arg1 [] [(d, n)] L c = some c') : mapO (s.arg1 [] [(d, n)] L) [.own d n, c] = some [.own 1 0, c'] := by
 have h1 : s.arg1 [] [(d, n)] L (.own d n) = some (.own 1 0) := by simp [St.arg1, St.argC, idxOf]
 simp only [mapO, h1, h]
theorem base_own {s : St} {d n e sz : Nat} {xs : List PV} (h : s.heap d n = some (.arr e sz false xs)) : s.base (.own d n) = some (xs, e, sz, [((d, n), none)]) := by simp [St.base, h]
theorem kids_len {l : List Span} : ∀ {o r : List (List Int)}, kidsSort l o = some r → r.length = o.length
 | [], r, h => by injection h with h; rw [← h]
 | x :: o, r, h => by
  obtain ⟨y, _, h⟩ := bnd_some h
  obtain ⟨rs, h1, h⟩ := bnd_some h
  injection h with h
  subst h
  simp [kids_len h1]
set_option maxRecDepth 100000 in
set_option maxHeartbeats 4000000 in
theorem tree_Kids_ok (a0 : List Span) {r : List (List Int)} (h : tree_Kids a0 = some r) : Ok Try.prog 20 [.sl 10 (List.map enc27 a0)] [] [] (.sl 1 (List.map enc34 r)) [] [] := by
 unfold tree_Kids at h
 obtain ⟨hn, h⟩ := gd_some h
 obtain ⟨ps, hps, h⟩ := bnd_some h
 obtain ⟨hpn, h⟩ := gd_some h
 obtain ⟨o9, ho9, h⟩ := bnd_some h
 have hw : IntKind.i64.wrap ((a0.length : Int) + 1) = ((a0.length + 1 : Nat) : Int) := by rw [wrap_i64 _ (by omega) (by omega)]; simp
 refine ok_of_code Try.func20 rfl (by show (1 : Nat) ≤ _; decide) (Nat.le_refl _) fun X => ?_
 refine aw_seq_k (fun K1 hK1 => ?_)
 refine aw_regL ?_
 refine alD (some 1) rfl rfl (do_box (by conv => lhs; whnf) rfl rfl) (by decide) ?_
 refine alP (some 2) rfl rfl (does_assign (v := .nil) (by exact rfl)) (by decide) ?_
 refine al_nil ?_
 refine hK1 _ ?_
 refine aw_seq_k (fun K2 hK2 => ?_)
 refine aw_regL ?_
 refine alR (some 8) rfl rfl (does_load (v := .sl 10 (List.map enc27 a0)) (by conv => lhs; whnf) (by conv => lhs; whnf) ty22 (by exact rfl)) (by decide) ?_
 refine alP (some 9) rfl rfl ((does_len_sl (by conv => lhs; whnf) ty22).castp (v' := .int .i64 (List.length a0 : Int)) (by exact len_map _)) (by decide) ?_
 refine alP (some 10) rfl rfl ((does_bin (v := .int .i64 (IntKind.i64.wrap ((List.length a0 : Int) + 1))) (by conv => lhs; whnf) (by conv => lhs; whnf) rfl).castp (v' := .int .i64 ((a0.length + 1 : Nat) : Int)) (by rw [hw])) (by decide) ?_
 refine alD (some 11) rfl rfl (does_makeRows (n := a0.length + 1) (by exact rfl) (by exact rfl) ty41 ty34 rfl rfl (by omega) rfl) (by decide) ?_
 refine alP (some 3) rfl rfl (does_assign (v := .bsl 11 0 (a0.length + 1)) (by exact rfl)) (by decide) ?_
 refine al_nil ?_
 refine hK2 _ ?_
 refine aw_reb (reb_opn (d := 11) (n := 0) (R := 90) (e := 3) (sz := 1) (m := a0.length + 1) (by exact rfl) (by exact rfl) (by decide)) ?_
 refine aw_seq_k (fun K3 hK3 => ?_)
 refine aw_seq_k (fun K4 hK4 => ?_)
 refine aw_regL ?_
 refine alR (some 12) rfl rfl (does_load (v := .sl 10 (List.map enc27 a0)) (by conv => lhs; whnf) (by conv => lhs; whnf) ty22 (by exact rfl)) (by decide) ?_
 refine alD (some 13) rfl rfl (do_call0 13 false (tree_Parents_ok a0 hps) rfl ent32 rfl rfl) (by decide) ?_
 refine alR (some 14) rfl rfl ((does_len_own (by conv => lhs; whnf) (by conv => lhs; whnf) ty34).cast (v' := .int .i64 (List.length ps : Int)) (by exact len_map _)) (by decide) ?_
 refine alP (some 15) rfl rfl (does_move (v := .int .i64 0) (by exact rfl)) (by decide) ?_
 refine al_nil ?_
 refine hK4 _ ?_
 refine aw_block ?_
 refine aw_loop' (fun m s => ∃ (i : Nat) (o : List (List Int)), m = ps.length - i ∧ i ≤ ps.length ∧ o.length = a0.length + 1 ∧ kidsAdd (a0.length : Int) (ps.drop i) (i : Int) o = some o9 ∧ s = stA a0 ps o (i : Int) X) ps.length ?_ ?_
 ·have hl : (List.replicate (a0.length + 1) ([] : List Int)).length = a0.length + 1 := List.length_replicate
  refine ⟨_, to_stA (l := a0) (ps := ps) (o := List.replicate (a0.length + 1) []) (i := 0) (fun k => (90, k)) (by exact rfl) (by exact rfl) (by rw [hl]; exact rfl) (fun k x hk => ?_) (fun a b _ _ e => by injection e) (fun k => by simp) (by exact rfl) (by rw [hl]; exact rfl) (by exact rfl) (by exact rfl) (by exact rfl) (by exact rfl), 0, List.replicate (a0.length + 1) [], rfl, Nat.zero_le _, hl, ho9, rfl⟩
  have hk1 := List.mem_of_getElem? hk
  have hx := (List.mem_replicate.1 hk1).2
  have hkl : k < a0.length + 1 := by rw [← hl]; exact (List.getElem?_eq_some_iff.1 hk).1
  subst hx
  show (if 90 = 90 ∧ k < a0.length + 1 then some (AObj.arr 3 1 false []) else _) = _
  rw [if_pos ⟨rfl, hkl⟩]
  rfl
 ·rintro m s ⟨i, o, hm, hi, hol, hadd, rfl⟩
  refine aw_seq_k (fun K5 hK5 => ?_)
  refine aw_regL ?_
  refine alP (some 16) rfl rfl (does_bin (v := .bool (decide ((i : Int) < (ps.length : Int)))) (by conv => lhs; whnf) (by conv => lhs; whnf) rfl) (by decide) ?_
  refine al_nil ?_
  refine hK5 _ ?_
  refine aw_seq_k (fun K6 hK6 => ?_)
  refine aw_bool (b := (decide ((i : Int) < (ps.length : Int)))) 16 rfl (fun c => ?_) (fun c => ?_)
  ·have hlt : i < ps.length := by have := of_decide_eq_true c; omega
   obtain ⟨p, hp⟩ : ∃ p, ps[i]? = some p := ⟨_, List.getElem?_eq_getElem hlt⟩
   rw [List.drop_eq_getElem_cons hlt, show ps[i] = p by rw [List.getElem?_eq_getElem hlt] at hp; injection hp] at hadd
   simp only [kidsAdd] at hadd
   generalize hq : (if (p == -1) = true then (a0.length : Int) else p) = q at hadd
   obtain ⟨hq0, hadd⟩ := gd_some hadd
   obtain ⟨x, hx, hadd⟩ := bnd_some hadd
   obtain ⟨hfit, hadd⟩ := gd_some hadd
   have hql : q.toNat < o.length := (List.getElem?_eq_some_iff.1 hx).1
   have hqlt : q < (o.length : Int) := by omega
   have hwi : IntKind.i64.wrap ((i : Int) + 1) = ((i + 1 : Nat) : Int) := by rw [wrap_i64 _ (by omega) (by omega)]; simp
   rw [hwi] at hadd
   refine aw_cond_t (by decide) rfl ?_
   refine aw_skip ?_
   refine hK6 _ ?_
   refine aw_seq_k (fun K7 hK7 => ?_)
   refine aw_block ?_
   refine aw_seq_k (fun K8 hK8 => ?_)
   refine aw_regL ?_
   refine alP (some 17) rfl rfl (does_move (v := .int .i64 (i : Int)) (by exact rfl)) (by decide) ?_
   refine alR (some 18) rfl rfl (does_indexAddr_own (by conv => lhs; whnf) (by conv => lhs; whnf) (by conv => lhs; whnf) ty34 ty3 (by omega) (by exact own_lt (l := ps) (by exact hp))) (by decide) ?_
   refine alR (some 19) rfl rfl (does_load (v := .int .i64 p) (by conv => lhs; whnf) (cellsAt_eptr (by conv => lhs; whnf) (by exact map_get hp)) ty3 (by exact rfl)) (by decide) ?_
   refine alP (some 4) rfl rfl (does_assign (v := .int .i64 (i : Int)) (by exact rfl)) (by decide) ?_
   refine alP (some 5) rfl rfl (does_assign (v := .int .i64 p) (by exact rfl)) (by decide) ?_
   refine al_nil ?_
   refine hK8 _ ?_
   refine aw_seq_k (fun K9 hK9 => ?_)
   have rest : ∀ (E : Nat → PV), E 1 = .ptr 1 0 0 → E 3 = .bsl 11 0 o.length → E 4 = .int .i64 (i : Int) → E 5 = .int .i64 q → E 13 = .own 13 0 → E 14 = .int .i64 (ps.length : Int) → E 15 = .int .i64 (i : Int) → K9 ⟨E, (stA a0 ps o (i : Int) X).heap, (stA a0 ps o (i : Int) X).next, X⟩ := by
    intro E e1 e3 e4 e5 e13 e14 e15
    refine hK9 _ ?_
    refine aw_regL ?_
    refine alP (some 24) rfl rfl (does_move (v := .bsl 11 0 o.length) (by exact e3)) (by decide) ?_
    refine alP (some 25) rfl rfl (does_move (v := .int .i64 q) (by exact e5)) (by decide) ?_
    refine alP (some 26) rfl rfl (does_move (v := .bsl 11 0 o.length) (by exact e3)) (by decide) ?_
    refine alP (some 27) rfl rfl (does_move (v := .int .i64 q) (by exact e5)) (by decide) ?_
    refine alP (some 28) rfl rfl (does_indexAddr_bsl (d := 11) (n := 0) (by exact rfl) (by exact rfl) ty41 ty34 rfl hq0 hqlt) (by decide) ?_
    refine alR (some 29) rfl rfl (does_load (v := .own 90 q.toNat) (by conv => lhs; whnf) (cellsAt_box (cs := owns 90 o.length) (by exact rfl)) ty34 (by exact loadPV_own rfl hql)) (by decide) ?_
    refine alP (some 30) rfl rfl (does_move (v := .int .i64 (i : Int)) (by exact e4)) (by decide) ?_
    refine alD (some 31) rfl rfl (do_buildSlice (xs := List.map enc2 [(i : Int)]) ty34 ty3 rfl rfl rfl rfl rfl rfl rfl rfl) (by decide) ?_
    refine alD (some 32) rfl rfl (do_append (v := List.map enc2 (x ++ [(i : Int)])) (xs := List.map enc2 x) (ys := List.map enc2 [(i : Int)]) (be := 3) (bs := 1) (ysz := 1) (U := [((90, q.toNat), none)]) (L := [(31, 0)]) (p := .own 90 q.toNat) (q := .own 31 0) (by exact rfl) (by exact rfl) ty34 ty3 rfl rfl ?_ (.inr ⟨rfl, rfl⟩) (by exact rfl) (.inr rfl) (map_app _ _) (fit_map hfit)) (by decide) ?_
    ·exact base_own (stA_row (l := a0) (ps := ps) (i := (i : Int)) (X := X) hx)
    refine alP (some 33) rfl rfl (does_indexAddr_bsl (d := 11) (n := 0) (by exact rfl) (by exact rfl) ty41 ty34 rfl hq0 hqlt) (by decide) ?_
    refine alD none rfl rfl (does_store (d := 11) (n := 0) (off := q.toNat) (cs := owns 90 o.length) (pv := .own 32 0) (by exact rfl) (by exact rfl) (by exact rfl) ty34 (fun c hc => by rw [List.mem_singleton.1 hc]; rfl) rfl (by rw [owns_len]; exact hql)) (by decide) ?_
    refine al_nil ?_
    refine hK7 _ ?_
    refine aw_regL ?_
    refine alP (some 34) rfl rfl ((does_bin (v := .int .i64 (IntKind.i64.wrap ((i : Int) + 1))) (by exact e15) (by exact rfl) rfl).castp (v' := .int .i64 ((i + 1 : Nat) : Int)) (by rw [hwi])) (by decide) ?_
    refine alP (some 15) rfl rfl (does_move (v := .int .i64 ((i + 1 : Nat) : Int)) (by exact rfl)) (by decide) ?_
    refine al_nil ?_
    have hsl : (o.set q.toNat (x ++ [(i : Int)])).length = o.length := List.length_set
    refine ⟨ps.length - (i + 1), by omega, _, to_stA (l := a0) (ps := ps) (o := o.set q.toNat (x ++ [(i : Int)])) (i := ((i + 1 : Nat) : Int)) (fun j => if j = q.toNat then (32, 0) else (90, j)) (by exact rfl) (by exact rfl) ?_ (fun k y hk => ?_) (fun a b ha hb e => ?_) (fun k => by by_cases e : k = q.toNat <;> simp [e]) (by exact e1) (by rw [hsl]; exact e3) (by exact e13) (by exact e14) (by exact rfl) (by exact rfl), i + 1, _, rfl, hlt, by rw [hsl]; exact hol, hadd, rfl⟩
    ·rw [hsl, ← splice_own hql (32, 0)]
     exact rfl
    ·rw [List.getElem?_set] at hk
     by_cases e : q.toNat = k
     ·rw [if_pos e, if_pos (by omega)] at hk
      injection hk with hk
      subst hk
      rw [if_pos e.symm]
      exact rfl
     ·rw [if_neg e] at hk
      rw [if_neg (Ne.symm e)]
      have h1 := stA_row (l := a0) (ps := ps) (i := (i : Int)) (X := X) hk
      show (if 90 = 90 ∧ k = q.toNat then none else (stA a0 ps o (i : Int) X).heap 90 k) = _
      rw [if_neg (fun h => e h.2.symm)]
      exact h1
    ·split at e <;> split at e
     ·omega
     ·injection e with e; omega
     ·injection e with e; omega
     ·injection e
   refine aw_seq_k (fun K10 hK10 => ?_)
   refine aw_regL ?_
   refine alP (some 20) rfl rfl (does_move (v := .int .i64 p) (by exact rfl)) (by decide) ?_
   refine alP (some 21) rfl rfl (does_bin (v := .bool (p == -1)) (by conv => lhs; whnf) (by conv => lhs; whnf) rfl) (by decide) ?_
   refine al_nil ?_
   refine hK10 _ ?_
   refine aw_bool (b := (p == -1)) 21 rfl (fun c2 => ?_) (fun c2 => ?_)
   ·rw [if_pos c2] at hq
    refine aw_cond_t (by decide) rfl ?_
    refine aw_regL ?_
    refine alR (some 22) rfl rfl (does_load (v := .sl 10 (List.map enc27 a0)) (by conv => lhs; whnf) (by conv => lhs; whnf) ty22 (by exact rfl)) (by decide) ?_
    refine alP (some 23) rfl rfl ((does_len_sl (by conv => lhs; whnf) ty22).castp (v' := .int .i64 (List.length a0 : Int)) (by exact len_map _)) (by decide) ?_
    refine alP (some 5) rfl rfl (does_assign (v := .int .i64 q) (by rw [← hq]; exact rfl)) (by decide) ?_
    refine al_nil ?_
    exact rest _ rfl rfl rfl rfl rfl rfl rfl
   ·rw [if_neg (by rw [c2]; decide)] at hq
    subst hq
    refine aw_cond_f (by decide) rfl ?_
    refine aw_skip ?_
    exact rest _ rfl rfl rfl rfl rfl rfl rfl
  ·have hge : i = ps.length := by have := of_decide_eq_false c; omega
   have ho : o = o9 := by
    subst hge
    rw [List.drop_length] at hadd
    injection hadd
   subst ho
   refine aw_cond_f (by decide) rfl ?_
   refine aw_exit ?_
   refine hK3 _ ?_
   refine aw_seq_k (fun K11 hK11 => ?_)
   refine aw_seq_k (fun K12 hK12 => ?_)
   refine aw_regL ?_
   refine alP (some 35) rfl rfl (does_move (v := .bsl 11 0 o.length) (by exact rfl)) (by decide) ?_
   refine alP (some 36) rfl rfl (does_len_bsl (d := 11) (n := 0) (m := o.length) (by exact rfl) ty41) (by decide) ?_
   refine alP (some 37) rfl rfl (does_move (v := .int .i64 0) (by exact rfl)) (by decide) ?_
   refine al_nil ?_
   refine hK12 _ ?_
   refine aw_block ?_
   refine aw_loop' (fun m s => ∃ (j : Nat) (o2 rs : List (List Int)), m = o.length - j ∧ j ≤ o.length ∧ o2.length = o.length ∧ kidsSort a0 (o2.drop j) = some rs ∧ r = o2.take j ++ rs ∧ s = stB a0 o2 (j : Int) X) o.length ?_ ?_
   ·refine ⟨_, to_stB (l := a0) (o := o) (i := 0) (by exact rfl) (by exact rfl) (fun k x hk => stA_row (l := a0) (ps := ps) (i := (i : Int)) (X := X) hk) (by exact rfl) (by exact rfl) (by exact rfl) (by exact rfl) (by exact rfl) (by exact rfl), 0, o, r, rfl, Nat.zero_le _, rfl, h, rfl, rfl⟩
   ·rintro m s ⟨j, o2, rs, hm, hj, ho2, hks, hrs, rfl⟩
    refine aw_seq_k (fun K13 hK13 => ?_)
    refine aw_regL ?_
    refine alP (some 38) rfl rfl (does_bin (v := .bool (decide ((j : Int) < (o2.length : Int)))) (by conv => lhs; whnf) (by conv => lhs; whnf) rfl) (by decide) ?_
    refine al_nil ?_
    refine hK13 _ ?_
    refine aw_seq_k (fun K14 hK14 => ?_)
    refine aw_bool (b := (decide ((j : Int) < (o2.length : Int)))) 38 rfl (fun c => ?_) (fun c => ?_)
    ·have hlt : j < o2.length := by have := of_decide_eq_true c; omega
     rw [List.drop_eq_getElem_cons hlt] at hks
     obtain ⟨y, hy, hks⟩ := bnd_some hks
     obtain ⟨rs2, hrs2, hks⟩ := bnd_some hks
     injection hks with hks
     have hx : o2[j]? = some o2[j] := List.getElem?_eq_getElem hlt
     generalize o2[j] = x at hx hy
     have hwj : IntKind.i64.wrap ((j : Int) + 1) = ((j + 1 : Nat) : Int) := by rw [wrap_i64 _ (by omega) (by omega)]; simp
     refine aw_cond_t (by decide) rfl ?_
     refine aw_skip ?_
     refine hK14 _ ?_
     refine aw_seq_k (fun K15 hK15 => ?_)
     refine aw_block ?_
     refine aw_seq_k (fun K16 hK16 => ?_)
     refine aw_regL ?_
     refine alP (some 39) rfl rfl (does_indexAddr_bsl (d := 11) (n := 0) (m := o2.length) (by exact rfl) (by exact rfl) ty41 ty34 rfl (by omega) (by omega)) (by decide) ?_
     refine alR (some 40) rfl rfl (does_load (v := .own 90 j) (by conv => lhs; whnf) (cellsAt_box (cs := owns 90 o2.length) (by exact rfl)) ty34 (by exact loadPV_own rfl hlt)) (by decide) ?_
     refine alP (some 7) rfl rfl (does_assign (v := .own 90 j) (by exact rfl)) (by decide) ?_
     refine al_nil ?_
     refine hK16 _ ?_
     refine aw_regL ?_
     refine alP (some 41) rfl rfl (does_move (v := .own 90 j) (by exact rfl)) (by decide) ?_
     refine alP (some 42) rfl rfl (does_makeFunc (vs := [.ptr 1 0 0]) rfl) (by decide) ?_
     refine alD (some 43) rfl rfl (do_callS 90 j [(1, 0)] (slices_SortStableFunc_int_tree_Kids_c1_ok x a0 hy) (by exact rfl) ent33 (stB_row (l := a0) (i := (j : Int)) (X := X) hx) rfl ?_ (plain_map (fun _ => rfl))) (by decide) ?_
     ·exact args2 (d := 90) (n := j) (c := .fn 34 [.ptr 1 0 0]) (by exact rfl)
     refine al_nil ?_
     refine hK15 _ ?_
     refine aw_regL ?_
     refine alP (some 44) rfl rfl ((does_bin (v := .int .i64 (IntKind.i64.wrap ((j : Int) + 1))) (by exact rfl) (by exact rfl) rfl).castp (v' := .int .i64 ((j + 1 : Nat) : Int)) (by rw [hwj])) (by decide) ?_
     refine alP (some 37) rfl rfl (does_move (v := .int .i64 ((j + 1 : Nat) : Int)) (by exact rfl)) (by decide) ?_
     refine al_nil ?_
     have hsl : (o2.set j y).length = o2.length := List.length_set
     refine ⟨o.length - (j + 1), by omega, _, to_stB (l := a0) (o := o2.set j y) (i := ((j + 1 : Nat) : Int)) (by exact rfl) (by rw [hsl]; exact rfl) (fun k z hk => ?_) (by exact rfl) (by rw [hsl]; exact rfl) (by rw [hsl]; exact rfl) (by rw [hsl]; exact rfl) (by exact rfl) (by exact rfl), j + 1, _, rs2, rfl, by omega, by rw [hsl]; exact ho2, by rw [List.drop_set_of_lt (by omega)]; exact hrs2, ?_, rfl⟩
     ·rw [List.getElem?_set] at hk
      by_cases e : j = k
      ·rw [if_pos e, if_pos (by omega)] at hk
       injection hk with hk
       subst hk
       show (if 90 = 90 ∧ k = j then some (AObj.arr 3 1 false (List.map enc2 y)) else _) = _
       rw [if_pos ⟨rfl, e.symm⟩]
      ·rw [if_neg e] at hk
       show (if 90 = 90 ∧ k = j then some (AObj.arr 3 1 false (List.map enc2 y)) else (stB a0 o2 (j : Int) X).heap 90 k) = _
       rw [if_neg (fun h => e h.2.symm)]
       exact stB_row (l := a0) (i := (j : Int)) (X := X) hk
     ·rw [hrs, ← hks, List.take_add_one, List.getElem?_set_self (by omega)]
      simp [List.take_set_of_le]
    ·have hge : j = o2.length := by have := of_decide_eq_false c; omega
     have hrs2 : r = o2 := by
      subst hge
      rw [List.drop_length] at hks
      injection hks with hks
      rw [hrs, ← hks, List.take_length, List.append_nil]
     subst hrs2
     refine aw_cond_f (by decide) rfl ?_
     refine aw_exit ?_
     refine hK11 _ ?_
     refine aw_seq_k (fun K17 hK17 => ?_)
     refine aw_regL ?_
     refine alP (some 45) rfl rfl (does_move (v := .bsl 11 0 r.length) (by exact rfl)) (by decide) ?_
     refine alP (some 2) rfl rfl (does_assign (v := .bsl 11 0 r.length) (by exact rfl)) (by decide) ?_
     refine al_nil ?_
     refine hK17 _ ?_
     refine aw_reb (reb_lowB (t := 2) (d := 11) (n := 0) (R := 90) (m := r.length) (e := 3) (rows := vals r) (by exact rfl) (by decide) (by simp) (by exact rfl) (fun k x hk => ?_)) ?_
     ·obtain ⟨z, hz, rfl⟩ := vals_get hk
      exact stB_row (l := a0) (i := (j : Int)) (X := X) hz
     refine aw_ret ?_
     exact ret_ok1 (by conv => lhs; whnf) (by conv => lhs; whnf) (by rw [List.map_map]; exact rfl) (.inr rfl) rfl
end Go.Proofs.Ytmompdklolomfaa.Ab
