import Derived.Test.YtmompdklolomfaaAbOps14
namespace Go.Proofs.Ytmompdklolomfaa.Ab
open Go Go.RowKit
set_option linter.unusedVariables false
set_option linter.unusedSimpArgs false
variable {P : Program} {N : Nat} {ops : Array Oper} {s : St} {Q : Exit → St → Prop}
universe u
theorem sr {id : Nat} {l : List Oper} {y : Code} (h : ∀ K : St → Prop, (∀ s', AW P N y s' Q → K s') → AL P N l.toArray l s (thenA K Q)) : AW P N (.seq (.region id l.toArray false) y) s Q := aw_seq_k fun K hK => aw_regL (h K hK)
section
variable {type : TypeId} {pos : String} {after : Array Edge} {guard : Option (Nat × Bool)} {l : List Oper} {x : Operand}
end
section
variable {b : Option (Nat → Nat → Bool)} {i : Nat} {fx : List (Nat × Fx)} {o : Oper} {l : List Oper}
end
end Go.Proofs.Ytmompdklolomfaa.Ab
namespace Go.Proofs.Ytmompdklolomfaa.Ab
open Go Go.RowKit
set_option linter.unusedVariables false
set_option linter.unusedSimpArgs false
variable {P : Program} {N : Nat}
def OkS (P : Program) (f : FuncId) (args : List PV) (q q' : Row) : Prop :=
 ∀ (w : World) (X : Ctx) (J : Site) (vals : List Value), Bord w (bst [] [q] 1 X) J → vals.length = args.length →
  (∀ (i : Nat) (pv : PV) (v : Value), args[i]? = some pv → vals[i]? = some v → Rep w (Mut (bst [] [q] 1 X) J) J pv v) →
  Calls P f vals.toArray w fun e w' => ∃ J', e = .returned (.tuple #[]) ∧ Bord w' (bst [] [q'] 1 X) J' ∧ J' 1 0 = J 1 0 ∧
   Fr w w' (OMut (bst [] [q] 1 X) J) (OMut (bst [] [q'] 1 X) J')
theorem bst1_heap {q : Row} {X : Ctx} {d n : Nat} {o : AObj} (h : (bst [] [q] 1 X).heap d n = some o) : d = 1 ∧ n = 0 ∧ o = .arr q.1 q.2.1 false q.2.2 := by
 rcases bst_heap (by decide) h with ⟨_, cs, h5, _⟩ | ⟨rfl, r, h5, rfl⟩
 ·simp at h5
 ·have : n = 0 := by
   have := (List.getElem?_eq_some_iff.1 h5).1
   simpa using this
  subst this
  simp at h5
  subst h5
  exact ⟨rfl, rfl, rfl⟩
theorem bst1_get (q : Row) (X : Ctx) : (bst [] [q] 1 X).heap 1 0 = some (.arr q.1 q.2.1 false q.2.2) := rfl
def entryS (args : List PV) (q : Row) (X : Ctx) : St where
 env := fun t => (args[t]?).getD .skip
 heap := fun d n => if d = 0 ∧ n = 0 then some (.arr q.1 q.2.1 false q.2.2) else none
 next := fun d => if d = 0 then 1 else 0
 X := X
def PV.dn : PV → PV
 | .own _ _ => .own 0 0
 | c => c
def PV.dnOk : PV → Bool
 | .own d n => d == 1 && n == 0
 | .fn _ cs => cs.all PV.cl
 | c => c.cl
def dnJ (J : Site) : Site := fun d n => if d = 0 ∧ n = 0 then J 1 0 else none
theorem dnJ_omut {J : Site} {q : Row} {X X' : Ctx} {args : List PV} {g : Nat} : OMut (entryS args q X') (dnJ J) g ↔ OMut (bst [] [q] 1 X) J g := by
 constructor
 ·rintro ⟨d, n, o, v, h1, h2, h3, h4⟩
  simp only [entryS] at h1
  split at h1
  ·rename_i hc
   obtain ⟨rfl, rfl⟩ := hc
   injection h1 with h1
   subst h1
   simp only [dnJ, and_self, if_true] at h3
   exact ⟨1, 0, _, v, bst1_get q X, h2, h3, h4⟩
  ·cases h1
 ·rintro ⟨d, n, o, v, h1, h2, h3, h4⟩
  obtain ⟨rfl, rfl, rfl⟩ := bst1_heap h1
  exact ⟨0, 0, _, v, rfl, h2, by simpa [dnJ] using h3, h4⟩
theorem dn_rep {w : World} {M M' : Nat → Prop} {J : Site} {c : PV} {v : Value} (hc : c.dnOk = true) (h : Rep w M J c v) (hM : ∀ g, M' g → M g) : Rep w M' (dnJ J) c.dn v := by
 have cl : ∀ {c : PV} {v : Value}, c.cl = true → Rep w M J c v → Rep w M' (dnJ J) c v := fun hc h => ((h.cl hc (J' := noSite)).mono (fun _ _ _ => rfl) (fun g _ hg => hM g hg) (fun _ _ _ h => h)).cl hc
 cases c with
 | own d n =>
  simp only [PV.dnOk, Bool.and_eq_true, beq_iff_eq] at hc
  obtain ⟨rfl, rfl⟩ := hc
  cases h with
  | own _ _ _ A len cap h => exact .own _ _ _ _ _ _ (by simpa [dnJ] using h)
  | own0 _ _ _ a h => exact .own0 _ _ _ _ (by simpa [dnJ] using h)
 | fn f cs =>
  simp only [PV.dnOk, List.all_eq_true] at hc
  cases h with
  | fn _ _ _ vs hl hr => exact .fn _ _ _ _ hl fun i c v hi hv => cl (hc c (List.mem_of_getElem? hi)) (hr i c v hi hv)
 | _ => first | (cases hc; done) | exact cl hc h
def EndS (q' : Row) (e : Exit) (s : St) : Prop := (e = .normal ∨ e = .ret) ∧ s.heap 0 0 = some (.arr q'.1 q'.2.1 false q'.2.2)
theorem okS_of_code {f : FuncId} {fn : Func} {c : Code} {args args0 : List PV} {q q' : Row} (hf : P.funcs[f]? = some fn) (hb : fn.body = some c) (hN : args.length ≤ fn.ntmps) (hrs : fn.results = #[])
  (hd : args.all PV.dnOk = true) (h0 : args.map PV.dn = args0) (h : ∀ X, AW P fn.ntmps c (entryS args0 q X) (EndS q')) : OkS P f args q q' := by
 intro w X J vals hB hlen hrep
 subst h0
 refine calls_of_wp hf hb ?_
 have hsz : (vals.toArray ++ Array.replicate (fn.ntmps - vals.toArray.size) Go.undef).size = fn.ntmps := by simp; omega
 obtain ⟨v0, ys, hJ, hown, hp, hw, ho, hr⟩ := hB.obj 1 0 _ (bst1_get q X)
 let X' : Ctx := ⟨X.blk, fun n => if n = 0 then J 1 0 else none⟩
 have hMM : ∀ g, Mut (entryS (args.map PV.dn) q X') (dnJ J) g ↔ Mut (bst [] [q] 1 X) J g := fun g => or_congr Iff.rfl dnJ_omut
 have hs : Sim w (OMut (bst [] [q] 1 X) J) fn.ntmps (dnJ J) (entryS (args.map PV.dn) q X') { tmps := vals.toArray ++ Array.replicate (fn.ntmps - vals.toArray.size) Go.undef, defers := [] } w := by
  refine ⟨hsz, rfl, fun t ht => ?_, fun d n o h => ?_, fun d n d' n' o o' v v' g h1 h2 _ _ _ _ => ?_, fun d n hle => ?_, fun _ _ _ => rfl, fun g hg _ => dnJ_omut.1 hg, hB.xlt, fun d n o v g h1 h2 h3 => ?_, fun n v hv => ?_, Nat.le_refl _, rfl, rfl, rfl, Nat.le_refl _⟩
  ·show Rep w _ (dnJ J) (((args.map PV.dn)[t]?).getD .skip) _
   by_cases hlt : t < args.length
   ·have hlv : t < vals.length := by omega
    have := hrep t args[t] vals[t] (List.getElem?_eq_getElem hlt) (List.getElem?_eq_getElem hlv)
    have h1 : (vals.toArray ++ Array.replicate (fn.ntmps - vals.toArray.size) Go.undef).getD t Go.undef = vals[t] := by
     rw [Array.getD_eq_getD_getElem?, Array.getElem?_append_left (by simpa using hlv)]
     simp [hlv]
    rw [h1, List.getElem?_map, List.getElem?_eq_getElem hlt]
    exact dn_rep (List.all_eq_true.1 hd _ (List.getElem_mem hlt)) this fun g hg => (hMM g).1 hg
   ·have h1 : (vals.toArray ++ Array.replicate (fn.ntmps - vals.toArray.size) Go.undef).getD t Go.undef = Go.undef := by
     rw [Array.getD_eq_getD_getElem?, Array.getElem?_append_right (by simp; omega)]
     simp only [Array.getElem?_replicate]
     split <;> rfl
    rw [h1, List.getElem?_eq_none (by simp; omega)]
    exact .skip _
  ·simp only [entryS] at h
   split at h
   ·rename_i hc
    obtain ⟨rfl, rfl⟩ := hc
    injection h with h
    subst h
    exact ⟨v0, ys, by simpa [dnJ] using hJ, hown, hp, hw, ho, fun k c y hc hy => (hr k c y hc hy).mono (fun _ _ _ => rfl) (fun g _ hg => (hMM g).1 hg) (fun _ _ _ h => h)⟩
   ·cases h
  ·simp only [entryS] at h1 h2
   split at h1
   ·rename_i hc
    split at h2
    ·rename_i hc2
     exact ⟨hc.1.trans hc2.1.symm, hc.2.trans hc2.2.symm⟩
    ·cases h2
   ·cases h1
  ·simp only [entryS] at hle ⊢
   have hc : ¬ (d = 0 ∧ n = 0) := by
    rintro ⟨rfl, rfl⟩
    simp at hle
   exact ⟨if_neg hc, if_neg hc⟩
  ·simp only [entryS] at h1
   split at h1
   ·rename_i hc
    obtain ⟨rfl, rfl⟩ := hc
    exact hB.sepX 1 0 _ v g (bst1_get q X) (by simpa [dnJ] using h2) h3
   ·cases h1
  ·simp only [entryS, X'] at hv
   split at hv
   ·rename_i e; subst e; simpa [dnJ] using hv
   ·cases hv
 refine wp_mono (h X' w _ (dnJ J) _ w hs) ?_
 rintro e a' w' ⟨s', J', hs', hctx, hex, hhp⟩
 have hX : s'.X.blk = X.blk := by rw [hctx]; rfl
 have hJ0 : J' 0 0 = J 1 0 := by
  rw [hJ]
  refine hs'.ext 0 v0 ?_
  rw [hctx]
  exact hJ
 let J2 : Site := fun d n => if d = 1 ∧ n = 0 then J 1 0 else none
 have hOM : ∀ g, OMut (bst [] [q'] 1 X) J2 g → OMut s' J' g := by
  rintro g ⟨d, n, o, v, h1, h2, h3, h4⟩
  obtain ⟨rfl, rfl, rfl⟩ := bst1_heap h1
  exact ⟨0, 0, _, v, hhp, h2, by rw [hJ0]; simpa [J2] using h3, h4⟩
 have hMut : ∀ g, Mut (bst [] [q'] 1 X) J2 g → Mut s' J' g := fun g hg => by
  rcases hg with hg | hg
  ·left; rw [hX]; exact hg
  ·exact .inr (hOM g hg)
 obtain ⟨v1, ys', k1, k2, k3, k4, k5, k6⟩ := hs'.obj 0 0 _ hhp
 have hres : (results fn a'.tmps).run P w' = .ok (.tuple #[]) w' := by
  obtain ⟨v, h1, h2⟩ := res_rep hs' (fn := fn) (by rw [hrs]; simp) (pv := .tup []) (by rw [hrs]; rfl)
  rw [h1]
  cases h2 with
  | tup _ _ vs hl _ =>
   have : vs = #[] := Array.eq_empty_of_size_eq_zero (by simpa using hl.symm)
   rw [this]
 have hfin : ∃ J2, (.returned (.tuple #[]) : Ending) = .returned (.tuple #[]) ∧ Bord w' (bst [] [q'] 1 X) J2 ∧ J2 1 0 = J 1 0 ∧ Fr w w' (OMut (bst [] [q] 1 X) J) (OMut (bst [] [q'] 1 X) J2) := by
  refine ⟨J2, rfl, ⟨fun d n o ho => ?_, fun d n d' n' o o' v v' g h1 h2 _ _ _ _ => ?_, fun d n hle => ?_, fun d n o v g h1 h2 h3 => ?_, fun g hg => hs'.xlt g (by rw [hX]; exact hg)⟩, by simp [J2], hs'.frame, fun g hg hlt => hs'.mutb g (hOM g hg) hlt, hs'.grow, hs'.os, hs'.tape, hs'.output, hs'.drawn⟩
  ·obtain ⟨rfl, rfl, rfl⟩ := bst1_heap ho
   exact ⟨v1, ys', by simpa [J2, ← hJ0] using k1, k2, k3, k4, k5, fun k c y hc hy => (k6 k c y hc hy).mono (fun _ _ _ => rfl) (fun g _ hg => hMut g hg) (fun _ _ _ h => h)⟩
  ·obtain ⟨rfl, rfl, _⟩ := bst1_heap h1
   obtain ⟨rfl, rfl, _⟩ := bst1_heap h2
   exact ⟨rfl, rfl⟩
  ·simp only [bst] at hle
   have hc : ¬ (d = 1 ∧ n = 0) := by
    rintro ⟨rfl, rfl⟩
    simp at hle
   simp [J2, hc]
  ·obtain ⟨rfl, rfl, rfl⟩ := bst1_heap h1
   have := hs'.sepX 0 0 _ v g hhp (by rw [hJ0]; simpa [J2] using h2) h3
   rw [hX] at this
   exact this
 obtain ⟨J2', _, hrest⟩ := hfin
 rcases hex with rfl | rfl
 ·exact ⟨hs'.defers, _, hres, J2', rfl, hrest⟩
 ·exact ⟨hs'.defers, _, hres, J2', rfl, hrest⟩
variable {ops : Array Oper} {s : St} {dst : Option Tmp} {type : TypeId} {pos : String} {after : Array Edge} {guard : Option (Nat × Bool)}
theorem does_callS {fo : Operand} {xs : Array Operand} {tys : Array TypeId} {f : FuncId} {caps args : List PV} {q q' : Row} (d n : Nat) (L : Nm) (hf : s.ev fo = .fn f caps) (hent : Ent P f) (hrow : s.heap d n = some (.arr q.1 q.2.1 false q.2.2)) (hlent : (d, n) ∉ L)
  (hargs : mapO (s.arg1 [] [(d, n)] L) (xs.toList.map s.ev ++ caps) = some args) (hok : OkS P f args q q') (hpl : ∀ c ∈ flat q'.2.2, c.plain = true) :
  Does P N ops ⟨dst, .call ⟨.value fo, xs, tys⟩, type, pos, after, guard⟩ s ⟨L, .tup [], [((d, n), some (.arr q'.1 q'.2.1 false q'.2.2))], []⟩ := by
 intro s1 ha hlt w0 Mv J a w hs Q
 have hLa : ∀ q ∈ L, s1.heap q.1 q.2 = s.heap q.1 q.2 := ha.rd
 have hrow1 : s1.heap d n = some (.arr q.1 q.2.1 false q.2.2) := (ha.up _ List.mem_cons_self).trans hrow
 have hlent' : ∀ p ∈ L, p ∉ ([] : Nm) ∧ p ∉ [(d, n)] := fun p hp => ⟨by simp, fun h => by rw [List.mem_singleton] at h; exact hlent (h ▸ hp)⟩
 have hh1 : Hand s1 [] [(d, n)] [] [q] := by
  refine ⟨List.nodup_nil, by simp, rfl, rfl, fun i p cs h => by simp at h, fun k p q2 hp hq => ?_⟩
  have : k = 0 := by
   have := (List.getElem?_eq_some_iff.1 hp).1
   simpa using this
  subst this
  simp at hp hq
  subst hp hq
  exact hrow1
 obtain ⟨hbl1, hbord⟩ := down_bord hs hh1 hlent' (boxes := []) (bcs := []) rfl
 have hrf : Rep w (Mut s1 J) J (.fn f caps) (a.eval fo) := by
  rw [← hf, ← ev_agree ha (by simp [Op.operands, Call.operands])]
  exact rep_ev hs fun t ht => hlt t (looks_op (by subst ht; simp [Op.operands, Call.operands]))
 have hrx : ∀ x ∈ xs, Rep w (Mut s1 J) J (s.ev x) (a.eval x) := fun x hx => by
  rw [← ev_agree ha (by simp [Op.operands, Call.operands, hx])]
  exact rep_ev hs fun t ht => hlt t (looks_op (by subst ht; simp [Op.operands, Call.operands, hx]))
 generalize hfv : a.eval fo = fv at hrf
 cases hrf with
 | fn _ _ _ cv hcl hcr =>
  have hvl : ((xs.map a.eval).toList ++ cv.toList).length = (xs.toList.map s.ev ++ caps).length := by simp [hcl]
  have hvr : ∀ (i : Nat) (c : PV) (v : Value), (xs.toList.map s.ev ++ caps)[i]? = some c → ((xs.map a.eval).toList ++ cv.toList)[i]? = some v → Rep w (Mut s1 J) J c v := by
   intro i c v hc hv
   by_cases hi : i < xs.size
   ·rw [List.getElem?_append_left (by simpa using hi)] at hc hv
    rw [List.getElem?_map, Option.map_eq_some_iff] at hc
    obtain ⟨x, hx, rfl⟩ := hc
    rw [Array.toList_map, List.getElem?_map, Option.map_eq_some_iff] at hv
    obtain ⟨y, hy, rfl⟩ := hv
    rw [hx] at hy
    injection hy with hy
    subst hy
    exact hrx x (Array.mem_toList_iff.1 (List.mem_of_getElem? hx))
   ·rw [List.getElem?_append_right (by simpa using Nat.le_of_not_lt hi)] at hc hv
    simp only [List.length_map, Array.length_toList, Array.toList_map] at hc hv
    exact hcr _ _ _ hc (by rw [← Array.getElem?_toList]; exact hv)
  rw [← mapO_congr (arg1_agree hLa)] at hargs
  obtain ⟨ha1, ha2⟩ := mapO_get hargs
  have hcall := hok w (s1.kept J [] [(d, n)] L |> fun b => ⟨b, fun _ => none⟩) (dJ J [] [(d, n)]) ((xs.map a.eval).toList ++ cv.toList) hbord (by rw [hvl, ha1]) (fun i pv v hp hv => by
   obtain ⟨x, hx, hxy⟩ := ha2 i pv hp
   exact arg1_rep hs hh1 hbl1 hlent' hxy (hvr i x v hx hv))
  obtain ⟨fn, e1, e2, e3⟩ := hent
  have hrun : (execOp a.eval ⟨dst, .call ⟨.value fo, xs, tys⟩, type, pos, after, guard⟩).run P w = .ok (.enter f (xs.map a.eval ++ cv)) w := by
   simp only [execOp, resolve, hfv, Deferred.ofValue, Sem.run_bind, Sem.run_pure, Result.andThen_ok, invoke, callFunc, program, Sem.run, e1, e2, e3, Bool.false_eq_true, if_false]
   simp [e1, e2, e3, Sem.run]
  unfold Oper.wp
  rw [hrun, Oper.upon_enter]
  have harr : ((xs.map a.eval).toList ++ cv.toList).toArray = xs.map a.eval ++ cv := by simp
  rw [harr] at hcall
  refine hcall.mono ?_
  rintro e w' ⟨J', rfl, hB, hsame, hfr⟩
  have hJd : J' 1 0 = J d n := hsame.trans (by simp [dJ])
  obtain ⟨v0, ys, hJ, hown, hp, hw, ho, hr⟩ := hs.obj d n _ hrow1
  obtain ⟨v1, ys', k1, k2, k3, k4, k5, k6⟩ := hB.obj 1 0 _ (bst1_get q' _)
  rw [hJd] at k1
  rw [hJ] at k1
  injection k1 with k1
  subst k1
  let s2 : St := { s1.app dst ⟨L, .tup [], [((d, n), some (.arr q'.1 q'.2.1 false q'.2.2))], []⟩ with env := s1.env }
  have hh2 : ∀ a m, s2.heap a m = if a = d ∧ m = n then some (.arr q'.1 q'.2.1 false q'.2.2) else s1.heap a m := fun a m => rfl
  have hback : ∀ {d1 n1 o}, s2.heap d1 n1 = some o → ∃ o1, s1.heap d1 n1 = some o1 ∧ (o.mut = true → o1.mut = true) := by
   intro d1 n1 o h
   rw [hh2] at h
   split at h
   ·rename_i hc
    obtain ⟨rfl, rfl⟩ := hc
    exact ⟨_, hrow1, fun _ => rfl⟩
   ·exact ⟨o, h, id⟩
  have hOM : ∀ g, OMut s2 J g → OMut s1 J g := by
   rintro g ⟨d1, n1, o, v, h1, h2, h3, h4⟩
   obtain ⟨o1, h5, h6⟩ := hback h1
   exact ⟨d1, n1, o1, v, h5, h6 h2, h3, h4⟩
  have hsim : Sim w0 Mv N J s2 a w' := by
   refine hs.updateH (s' := s2) hfr (fun g hg => ?_) (fun _ _ _ h => h) rfl rfl (fun b _ h => hOM b h) (fun d1 n1 o h => ?_) (fun d1 n1 d2 n2 o1 o2 v1 v2 g h1 h2 h3 h4 h5 h6 => ?_) (fun d1 n1 hle => ?_) (fun d1 n1 o v g h1 h2 h3 => ?_)
   ·obtain ⟨d1, n1, o, v, h1, h2, h3, h4⟩ := hg
    obtain ⟨rfl, rfl, rfl⟩ := bst1_heap h1
    exact ⟨d, n, _, v, hrow1, rfl, by simpa [dJ] using h3, h4⟩
   ·rw [hh2] at h
    split at h
    ·rename_i hc
     obtain ⟨rfl, rfl⟩ := hc
     injection h with h
     subst h
     right
     exact ⟨v0, ys', hJ, k2, k3, k4, k5, fun k c y hc hy => (k6 k c y hc hy).to (.inr (hpl c (List.mem_of_getElem? hc)))⟩
    ·rename_i hc
     left
     refine ⟨h, fun v g hv hg hH => ?_⟩
     obtain ⟨d2, n2, o2, v2, h1, h2, h3, h4⟩ := hH
     obtain ⟨rfl, rfl, rfl⟩ := bst1_heap h1
     have h3' : J d n = some v2 := by simpa [dJ] using h3
     obtain ⟨rfl, rfl⟩ := hs.sep _ _ _ _ _ _ _ _ g h hrow1 hv h3' hg h4
     exact hc ⟨rfl, rfl⟩
   ·obtain ⟨o1', h1', _⟩ := hback h1
    obtain ⟨o2', h2', _⟩ := hback h2
    exact hs.sep _ _ _ _ _ _ _ _ g h1' h2' h3 h4 h5 h6
   ·have hle' : s1.next d1 ≤ n1 := by
     have : s2.next d1 = s1.next d1 := rfl
     omega
    have := hs.nxt d1 n1 hle'
    refine ⟨?_, this.2⟩
    rw [hh2, if_neg]
    ·exact this.1
    ·rintro ⟨rfl, rfl⟩
     rw [hrow1] at this
     cases this.1
   ·obtain ⟨o1, h1', _⟩ := hback h1
    exact hs.sepX _ _ _ _ g h1' h2 h3
  have htup : Rep w' (Mut s2 J) J (.tup []) (.tuple #[]) := .tup _ _ _ rfl fun i c v hc => by simp at hc
  exact ⟨_, hsim.put_of (s := s1) dst htup rfl rfl rfl rfl rfl⟩
theorem do_callS {fo : Operand} {xs : Array Operand} {tys : Array TypeId} {f : FuncId} {caps args : List PV} {e sz e' sz' : Nat} {l l' : List PV} (d n : Nat) (L : Nm) (hok : OkS P f args (e, sz, l) (e', sz', l')) (hf : s.ev fo = .fn f caps) (hent : Ent P f) (hrow : s.heap d n = some (.arr e sz false l)) (hap : apartNm L [] [(d, n)] = true)
  (hargs : mapO (s.arg1 [] [(d, n)] L) (xs.toList.map s.ev ++ caps) = some args) (hpl : ∀ c ∈ flat l', c.plain = true) :
  Does P N ops ⟨dst, .call ⟨.value fo, xs, tys⟩, type, pos, after, guard⟩ s ⟨L, .tup [], [((d, n), some (.arr e' sz' false l'))], []⟩ :=
 does_callS (q := (e, sz, l)) (q' := (e', sz', l')) d n L hf hent hrow (fun h => (apartNm_spec hap _ h).2 List.mem_cons_self) hargs hok hpl
theorem end_s {e : Exit} {s : St} {t sz : Nat} {l l' : List PV} (h : s.heap 0 0 = some (.arr t sz false l)) (he : l = l') (hex : e = .normal ∨ e = .ret) : EndS (t, sz, l') e s := ⟨hex, he ▸ h⟩
end Go.Proofs.Ytmompdklolomfaa.Ab
