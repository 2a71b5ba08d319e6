import Derived.Test.YtmompdklolomfaaAbFun
namespace Go.Proofs.Ytmompdklolomfaa.Ab
open Go Go.RowKit
set_option linter.unusedVariables false
set_option linter.unusedSimpArgs false
variable {P : Program} {N : Nat}
section
variable {w0 : World} {Mv : Nat → Prop} {J : Site} {s : St} {a : Act} {w : World}
def resVarM (tmps : Array Value) : ResultVar → Sem Value
 | .tmp t => pure (tmps.getD t Go.undef)
 | .cell a t => do loadVar t (← asAddr (tmps.getD a Go.undef))
theorem resVar_rep (h : Sim w0 Mv N J s a w) {x : ResultVar} (hlt : match x with | .tmp t => t < N | .cell a _ => a < N) {pv : PV} (hv : s.resVar P x = some pv) :
  ∃ v, (resVarM a.tmps x).run P w = .ok v w ∧ Rep w (Mut s J) J pv v := by
 cases x with
 | tmp t =>
  simp only [St.resVar, Option.some.injEq] at hv
  subst hv
  exact ⟨_, rfl, h.env t hlt⟩
 | cell p t =>
  simp only [St.resVar] at hv
  split at hv
  ·rename_i cs L ti hc ht
   have hra := readAt_of h hc (h.env p hlt)
   obtain ⟨v, h1, h2⟩ := run_loadVar_at hra ht hv
   refine ⟨v, ?_, h2⟩
   obtain ⟨ad, g, he, _⟩ := hra
   simp only [resVarM]
   rw [he] at h1 ⊢
   simpa [Instr.loadAt, Instr.sureAddr, asAddr] using h1
  ·cases hv
theorem resList_rep (h : Sim w0 Mv N J s a w) : ∀ {rs : List ResultVar} {vs : List PV}, (∀ x ∈ rs, match x with | .tmp t => t < N | .cell a _ => a < N) → mapO (s.resVar P) rs = some vs →
  ∃ us : List Value, (rs.mapM (resVarM a.tmps)).run P w = .ok us w ∧ us.length = vs.length ∧ ∀ (i : Nat) (c : PV) (v : Value), vs[i]? = some c → us[i]? = some v → Rep w (Mut s J) J c v
 | [], vs, _, hm => by
  simp only [mapO, Option.some.injEq] at hm
  subst hm
  exact ⟨[], rfl, rfl, fun i c v hc => by simp at hc⟩
 | x :: rs, vs, hlt, hm => by
  simp only [mapO] at hm
  split at hm
  ·rename_i y ys h1 h2
   injection hm with hm
   subst hm
   obtain ⟨v, h3, h4⟩ := resVar_rep h (hlt x List.mem_cons_self) h1
   obtain ⟨us, h5, h6, h7⟩ := resList_rep h (fun x hx => hlt x (List.mem_cons_of_mem _ hx)) h2
   refine ⟨v :: us, ?_, by simp [h6], fun i c u hc hu => ?_⟩
   ·rw [List.mapM_cons]
    simp [h3, h5]
   ·cases i with
    | zero => simp at hc hu; subst hc hu; exact h4
    | succ i => exact h7 i c u (by simpa using hc) (by simpa using hu)
  ·cases hm
theorem res_rep (h : Sim w0 Mv N J s a w) {fn : Func} (hlt : ∀ x ∈ fn.results.toList, match x with | .tmp t => t < N | .cell a _ => a < N) {pv : PV} (hv : s.resPV P fn.results.toList = some pv) :
  ∃ v, (results fn a.tmps).run P w = .ok v w ∧ Rep w (Mut s J) J pv v := by
 have hres : ∀ us : List Value, (fn.results.toList.mapM (resVarM a.tmps)).run P w = .ok us w → (results fn a.tmps).run P w = .ok (if h : us.toArray.size = 1 then us.toArray[0] else .tuple us.toArray) w := by
  intro us hus
  have hm : (fn.results.mapM (resVarM a.tmps)).run P w = .ok us.toArray w := by
   rw [Array.mapM_eq_mapM_toList]
   simp [hus]
  unfold results
  have hm' : (fn.results.mapM (fun x => match x with | .tmp t => pure (a.tmps.getD t Go.undef) | .cell p t => do loadVar t (← asAddr (a.tmps.getD p Go.undef)) : ResultVar → Sem Value)).run P w = .ok us.toArray w := by
   rw [← hm]; congr 2
  rw [Sem.run_bind]
  refine Eq.trans (congrArg (fun r => Result.andThen r _) hm') ?_
  rfl
 unfold St.resPV at hv
 split at hv
 ·rename_i v0 hm
  injection hv with hv
  subst hv
  obtain ⟨us, h1, h2, h3⟩ := resList_rep h hlt hm
  match us, h2 with
  | [u], _ =>
   exact ⟨u, by rw [hres _ h1]; rfl, h3 0 _ _ rfl rfl⟩
 ·rename_i vs hne hm
  injection hv with hv
  subst hv
  obtain ⟨us, h1, h2, h3⟩ := resList_rep h hlt hm
  refine ⟨.tuple us.toArray, ?_, .tup _ _ _ (by simp [h2]) fun i c v hc hu => h3 i c v hc (by simpa using hu)⟩
  rw [hres _ h1, dif_neg]
  intro hs
  have hs : us.length = 1 := by simpa using hs
  rw [h2] at hs
  match vs, hs with
  | [v], _ => exact hne v rfl
 ·cases hv
variable {boxes' : List (List PV)} {rows' : List Row} {names : List (Nat × Nat)}
theorem ret1_rep (h : Sim w0 Mv N J s a w) (hn : ∀ (k : Nat) (p : Nat × Nat) (q : Row), names[k]? = some p → rows'[k]? = some q → s.heap p.1 p.2 = some (.arr q.1 q.2.1 false q.2.2)) (hnl : names.length = rows'.length)
  (hb : ∀ (i : Nat) (cs' : List PV), boxes'[i]? = some cs' → ∃ cs, s.heap 0 i = some (.box cs) ∧ mapO (s.retC boxes'.length names) cs = some cs') {c c' : PV} (hc : s.ret1 boxes'.length names c = some c') {v : Value} (hv : Rep w (Mut s J) J c v) :
  Rep w (Mut (bst boxes' rows' 2 s.X) (bJ J boxes'.length names)) (bJ J boxes'.length names) c' v := by
 unfold St.ret1 at hc
 split at hc
 ·rename_i cs
  rw [Option.map_eq_some_iff] at hc
  obtain ⟨cs', h1, rfl⟩ := hc
  obtain ⟨h2, h3⟩ := mapO_get h1
  cases hv with
  | agg _ _ vs hl hr =>
   refine .agg _ _ _ (by rw [h2, hl]) fun i y u hy hu => ?_
   obtain ⟨x, hx, hxy⟩ := h3 i y hy
   exact (retC_rep h hn hnl hb hxy (hr i x u hx hu)).1
 ·exact (retC_rep h hn hnl hb hc hv).1
theorem retV_rep (h : Sim w0 Mv N J s a w) (hn : ∀ (k : Nat) (p : Nat × Nat) (q : Row), names[k]? = some p → rows'[k]? = some q → s.heap p.1 p.2 = some (.arr q.1 q.2.1 false q.2.2)) (hnl : names.length = rows'.length)
  (hb : ∀ (i : Nat) (cs' : List PV), boxes'[i]? = some cs' → ∃ cs, s.heap 0 i = some (.box cs) ∧ mapO (s.retC boxes'.length names) cs = some cs') {c c' : PV} (hc : s.retV boxes'.length names c = some c') {v : Value} (hv : Rep w (Mut s J) J c v) :
  Rep w (Mut (bst boxes' rows' 2 s.X) (bJ J boxes'.length names)) (bJ J boxes'.length names) c' v := by
 unfold St.retV at hc
 split at hc
 ·rename_i cs
  rw [Option.map_eq_some_iff] at hc
  obtain ⟨cs', h1, rfl⟩ := hc
  obtain ⟨h2, h3⟩ := mapO_get h1
  cases hv with
  | tup _ _ vs hl hr =>
   refine .tup _ _ _ (by rw [h2, hl]) fun i y u hy hu => ?_
   obtain ⟨x, hx, hxy⟩ := h3 i y hy
   exact ret1_rep h hn hnl hb hxy (hr i x u hx hu)
 ·exact ret1_rep h hn hnl hb hc hv
end
theorem ok_of_code {f : FuncId} {fn : Func} {c : Code} {args : List PV} {boxes boxes' : List (List PV)} {rows rows' : List Row} {r : PV} (hf : P.funcs[f]? = some fn) (hb : fn.body = some c) (hN : args.length ≤ fn.ntmps) (hl : boxes'.length ≤ boxes.length)
  (h : ∀ X, AW P fn.ntmps c (entry args boxes rows X) (RetOk P fn.ntmps fn.results r boxes' rows')) : Ok P f args boxes rows r boxes' rows' := by
 intro w X J vals hB hlen hrep
 refine calls_of_wp hf hb ?_
 have hsz : (vals.toArray ++ Array.replicate (fn.ntmps - vals.toArray.size) Go.undef).size = fn.ntmps := by simp; omega
 have hs : Sim w (OMut (bst boxes rows 1 X) J) fn.ntmps J (entry args boxes rows ⟨X.blk, fun n => if n < boxes.length then J 0 n else none⟩) { tmps := vals.toArray ++ Array.replicate (fn.ntmps - vals.toArray.size) Go.undef, defers := [] } w := by
  refine ⟨hsz, rfl, fun t ht => ?_, hB.obj, hB.sep, fun d n hle => ⟨?_, hB.nxt d n hle⟩, fun _ _ _ => rfl, fun g hg _ => hg, hB.xlt, hB.sepX, fun n v hv => ?_, Nat.le_refl _, rfl, rfl, rfl, Nat.le_refl _⟩
  ·show Rep w _ J ((args[t]?).getD .skip) _
   by_cases hlt : t < args.length
   ·have hlv : t < vals.length := by omega
    have := hrep t args[t] vals[t] (List.getElem?_eq_getElem hlt) (List.getElem?_eq_getElem hlv)
    have h1 : (vals.toArray ++ Array.replicate (fn.ntmps - vals.toArray.size) Go.undef).getD t Go.undef = vals[t] := by
     rw [Array.getD_eq_getD_getElem?, Array.getElem?_append_left (by simpa using hlv)]
     simp [hlv]
    rw [h1, List.getElem?_eq_getElem hlt]
    exact this
   ·have h1 : (vals.toArray ++ Array.replicate (fn.ntmps - vals.toArray.size) Go.undef).getD t Go.undef = Go.undef := by
     rw [Array.getD_eq_getD_getElem?, Array.getElem?_append_right (by simp; omega)]
     simp only [Array.getElem?_replicate]
     split <;> rfl
    rw [h1, List.getElem?_eq_none (by omega)]
    exact .skip _
  ·simp only [entry, bst] at hle ⊢
   split at hle
   ·rename_i hd; subst hd; simp only [if_true]; rw [List.getElem?_eq_none hle]; rfl
   ·split at hle
    ·rename_i hd1 hd; subst hd; simp only [if_true]; rw [List.getElem?_eq_none hle]; rfl
    ·rename_i hd1 hd2; simp [hd1, hd2]
  ·simp only [entry, bst] at hv
   split at hv
   ·exact hv
   ·cases hv
 refine wp_mono (h _ w _ J _ w hs) ?_
 rintro e a' w' ⟨s', J', hs', hctx, hret⟩
 obtain ⟨names, hnd, hnl, hn, hbx, pv, hpv, hrv⟩ := hret.ret
 obtain ⟨v, hrun, hvr⟩ := res_rep hs' hret.lt hpv
 have hX : s'.X.blk = X.blk := by rw [hctx]; rfl
 have hMX : ∀ J g, Mut (bst boxes' rows' 2 s'.X) J g = Mut (bst boxes' rows' 2 X) J g := fun J g => by
  show (s'.X.blk g ∨ OMut (bst boxes' rows' 2 X) J g) = (X.blk g ∨ _)
  rw [hX]
 have hMX' : ∀ J, Mut (bst boxes' rows' 2 s'.X) J = Mut (bst boxes' rows' 2 X) J := fun J => funext (hMX J)
 have hres : ∃ v J', (.returned v : Ending) = .returned v ∧ (results fn a'.tmps).run P w' = .ok v w' ∧ Bord w' (bst boxes' rows' 2 X) J' ∧ (∀ n, n < boxes'.length → J' 0 n = J 0 n) ∧ Rep w' (Mut (bst boxes' rows' 2 X) J') J' r v ∧
   Fr w w' (OMut (bst boxes rows 1 X) J) (OMut (bst boxes' rows' 2 X) J') := by
  refine ⟨v, bJ J' boxes'.length names, rfl, hrun, ⟨fun d n o ho => ?_, ?_, fun d n hle => ?_, ?_, ?_⟩, fun n hlt => ?_, ?_, ?_⟩
  ·rw [← hMX']
   rcases bst_heap (by decide) ho with ⟨rfl, cs, h5, rfl⟩ | ⟨rfl, q, h5, rfl⟩
   ·obtain ⟨cs0, h6, h7⟩ := hbx n cs h5
    have hlt : n < boxes'.length := (List.getElem?_eq_some_iff.1 h5).1
    obtain ⟨g, cur, t, k1, k2, k3, k4, k5⟩ := hs'.obj 0 n _ h6
    obtain ⟨k6, k7⟩ := mapO_get h7
    refine ⟨g, cur, t, by simp only [bJ, if_true, if_pos hlt]; exact k1, k2, by rw [k3, k6], fun c hc => ?_, fun k c u hc hu => ?_⟩
    ·obtain ⟨i, hi⟩ := List.getElem?_of_mem hc
     obtain ⟨x, hx, hxy⟩ := k7 i c hi
     have hil : i < cur.size := by rw [k3]; exact (List.getElem?_eq_some_iff.1 hx).1
     exact (retC_rep hs' hn hnl hbx hxy (k5 i x _ hx (Array.getElem?_eq_getElem hil))).2
    ·obtain ⟨x, hx, hxy⟩ := k7 k c hc
     exact (retC_rep hs' hn hnl hbx hxy (k5 k x u hx hu)).1
   ·have hkl : n < names.length := by rw [hnl]; exact (List.getElem?_eq_some_iff.1 h5).1
    have h6 := hn n names[n] q (List.getElem?_eq_getElem hkl) h5
    obtain ⟨u, ys, k1, k2, k3, k4, k5, k6⟩ := hs'.obj _ _ _ h6
    refine ⟨u, ys, by simp [bJ, List.getElem?_eq_getElem hkl, k1], k2, k3, k4, k5, fun k c y hc hy => (k6 k c y hc hy).mono (fun _ _ _ => rfl) (fun g _ hg => bJ_mut hs' hn hbx hg) (fun _ _ _ h => h)⟩
  ·intro d n d' n' o o' v1 v2 g h1 h2 h3 h4 h5 h6
   have key : ∀ d n o u, (bst boxes' rows' 2 X).heap d n = some o → bJ J' boxes'.length names d n = some u → ∃ d1 n1 o1, s'.heap d1 n1 = some o1 ∧ J' d1 n1 = some u ∧ ((d = 0 ∧ (d1, n1) = (0, n) ∧ ∃ cs, o1 = .box cs) ∨ (d = 2 ∧ names[n]? = some (d1, n1) ∧ ∃ e sz xs, o1 = .arr e sz false xs)) := by
    intro d n o u ho hu
    rcases bst_heap (by decide) ho with ⟨rfl, cs, h5, rfl⟩ | ⟨rfl, q, h5, rfl⟩
    ·obtain ⟨cs0, h6, _⟩ := hbx n cs h5
     have hlt : n < boxes'.length := (List.getElem?_eq_some_iff.1 h5).1
     simp only [bJ, if_true, if_pos hlt] at hu
     exact ⟨0, n, _, h6, hu, .inl ⟨rfl, rfl, _, rfl⟩⟩
    ·simp only [bJ, if_true] at hu
     rw [if_neg (by decide)] at hu
     obtain ⟨p, hp, h6⟩ := Option.bind_eq_some_iff.1 hu
     exact ⟨p.1, p.2, _, hn n p q hp h5, h6, .inr ⟨rfl, hp, _, _, _, rfl⟩⟩
   obtain ⟨d1, n1, o1, a1, a2, a3⟩ := key d n o v1 h1 h3
   obtain ⟨d2, n2, o2, b1, b2, b3⟩ := key d' n' o' v2 h2 h4
   obtain ⟨rfl, rfl⟩ := hs'.sep _ _ _ _ _ _ _ _ g a1 b1 a2 b2 h5 h6
   rw [a1] at b1
   injection b1 with b1
   subst b1
   rcases a3 with ⟨rfl, e1, cs, rfl⟩ | ⟨rfl, e1, e, sz, xs, rfl⟩ <;> rcases b3 with ⟨rfl, e2, cs', e3⟩ | ⟨rfl, e2, e', sz', xs', e3⟩
   ·injection e1 with _ e1; injection e2 with _ e2; exact ⟨rfl, e1.symm.trans e2⟩
   ·cases e3
   ·cases e3
   ·refine ⟨rfl, ?_⟩
    have hl1 := (List.getElem?_eq_some_iff.1 e1).1
    exact (List.getElem?_inj hl1 hnd).1 (e1.trans e2.symm)
  ·simp only [bst] at hle
   simp only [bJ]
   split
   ·rename_i hd; subst hd; simp only [if_true] at hle; rw [if_neg (by omega)]
   ·split
    ·rename_i hd1 hd; subst hd; rw [if_neg (by decide), if_pos rfl] at hle; rw [List.getElem?_eq_none (by omega)]; rfl
    ·rfl
  ·intro d n o u g ho hu hg
   show ¬ X.blk g
   rw [← hX]
   rcases bst_heap (by decide) ho with ⟨rfl, cs, h5, rfl⟩ | ⟨rfl, q, h5, rfl⟩
   ·obtain ⟨cs0, h6, _⟩ := hbx n cs h5
    have hlt : n < boxes'.length := (List.getElem?_eq_some_iff.1 h5).1
    simp only [bJ, if_true, if_pos hlt] at hu
    exact hs'.sepX _ _ _ _ g h6 hu hg
   ·simp only [bJ, if_true] at hu
    rw [if_neg (by decide)] at hu
    obtain ⟨p, hp, h6⟩ := Option.bind_eq_some_iff.1 hu
    exact hs'.sepX _ _ _ _ g (hn n p q hp h5) h6 hg
  ·intro g hg
   exact hs'.xlt g (by rw [hX]; exact hg)
  ·simp only [bJ, if_true, if_pos hlt]
   have hlt2 : n < boxes.length := by omega
   have hJn : ∃ u, J 0 n = some u := by
    have ho : (bst boxes rows 1 X).heap 0 n = some (.box boxes[n]) := by simp [bst, hlt2]
    obtain ⟨u, hu, _⟩ := (hB.obj 0 n _ ho).blk
    exact ⟨u, hu⟩
   obtain ⟨u, hu⟩ := hJn
   rw [hu]
   refine hs'.ext n u ?_
   rw [hctx]
   show (if n < boxes.length then J 0 n else none) = some u
   rw [if_pos hlt2, hu]
  ·rw [← hMX']
   exact retV_rep hs' hn hnl hbx hrv hvr
  ·refine ⟨hs'.frame, fun g hg hlt => ?_, hs'.grow, hs'.os, hs'.tape, hs'.output, hs'.drawn⟩
   obtain ⟨d, n, o, u, h1, h2, h3, h4, _⟩ := bJ_omut hs' hn hbx hg
   exact hs'.mutb g ⟨d, n, o, u, h1, h2, h3, h4⟩ hlt
 obtain ⟨v, J2, _, hrun, hrest⟩ := hres
 rcases hret.ex with rfl | rfl
 ·exact ⟨hs'.defers, v, hrun, v, J2, rfl, hrest⟩
 ·exact ⟨hs'.defers, v, hrun, v, J2, rfl, hrest⟩
end Go.Proofs.Ytmompdklolomfaa.Ab
