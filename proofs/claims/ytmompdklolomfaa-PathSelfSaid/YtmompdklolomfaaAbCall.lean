import Derived.Test.YtmompdklolomfaaAbFun2
namespace Go.Proofs.Ytmompdklolomfaa.Ab
open Go Go.RowKit
set_option linter.unusedVariables false
set_option linter.unusedSimpArgs false
variable {P : Program} {N : Nat}
theorem Sim.updateH {w0 : World} {Mv : Nat → Prop} {J : Site} {s : St} {a : Act} {w : World} (h : Sim w0 Mv N J s a w) {w' : World} {H M2 : Nat → Prop} (hg : Fr w w' H M2)
  (hrow : ∀ g, H g → OMut s J g) {J' : Site} (hJ : ∀ d n v, J d n = some v → J' d n = some v) {s' : St} (henv : s'.env = s.env) (hX : s'.X = s.X)
  (hM : ∀ b, b < w.heap.size → OMut s' J' b → OMut s J b)
  (hobj : ∀ d n o, s'.heap d n = some o → (s.heap d n = some o ∧ ∀ v g, J d n = some v → blockOf v = some g → ¬ H g) ∨ ObjOk w' (Mut s' J') J' d n o)
  (hsep : ∀ d n d' n' o o' v v' g, s'.heap d n = some o → s'.heap d' n' = some o' → J' d n = some v → J' d' n' = some v' → blockOf v = some g → blockOf v' = some g → d = d' ∧ n = n')
  (hnxt : ∀ d n, s'.next d ≤ n → s'.heap d n = none ∧ J' d n = none) (hsepX : ∀ d n o v g, s'.heap d n = some o → J' d n = some v → blockOf v = some g → ¬ s.X.blk g) : Sim w0 Mv N J' s' a w' := by
 have hwo : ∀ b, b < w.heap.size → ¬ OMut s J b → w'.heap[b]? = w.heap[b]? := fun b hb hm => hg.block b hb (fun e => hm (hrow b e))
 have hw : ∀ b, b < w.heap.size → ¬ Mut s J b → w'.heap[b]? = w.heap[b]? := fun b hb hm => hwo b hb (fun h => hm (.inr h))
 have hMo := hM
 replace hM : ∀ b, b < w.heap.size → Mut s' J' b → Mut s J b := fun b hb hm => by
  rcases hm with hm | hm
  ·exact .inl (hX ▸ hm)
  ·exact .inr (hMo b hb hm)
 refine ⟨h.size, h.defers, fun t ht => ?_, fun d n o ho => ?_, hsep, hnxt, fun b hb hm => ?_, fun g hg' hlt => ?_, fun g hx => Nat.lt_of_lt_of_le (h.xlt g (hX ▸ hx)) hg.size, fun d n o v g h1 h2 h3 h4 => hsepX d n o v g h1 h2 h3 (hX ▸ h4), fun n v hv => hJ 0 n v (h.ext n v (hX ▸ hv)), Nat.le_trans h.grow hg.size, hg.os.trans h.os, hg.tape.trans h.tape, hg.output.trans h.output, Nat.le_trans h.drawn hg.drawn⟩
 ·rw [henv]; exact (h.env t ht).mono hw hM hJ
 ·rcases hobj d n o ho with ⟨h1, h2⟩ | h1
  ·refine (h.obj d n o h1).kept hw hM hJ (fun v g hv hb => ?_)
   have hlt : g < w.heap.size := by
    obtain ⟨v', hJ', hlt⟩ := (h.obj d n o h1).blk
    rw [hv] at hJ'
    injection hJ' with he
    subst he
    exact hlt g hb
   exact hg.block g hlt (fun e => h2 v g hv hb e)
  ·exact h1
 ·have hb' : b < w.heap.size := Nat.lt_of_lt_of_le hb h.grow
  rw [hwo b hb' (fun hm' => hm (h.mutb b hm' hb))]
  exact h.frame b hb hm
 ·exact h.mutb g (hMo g (Nat.lt_of_lt_of_le hlt h.grow) hg') hlt
abbrev Nm := List (Nat × Nat)
def St.borC (s : St) (L : Nm) : PV → Option PV
 | .own d n => if (d, n) ∈ L then (match s.heap d n with | some (.arr _ sz _ xs) => some (.sl sz xs) | _ => none) else none
 | .bool b => some (.bool b)
 | .int k n => some (.int k n)
 | .str b => some (.str b)
 | .nil => some .nil
 | .sl sz xs => some (.sl sz xs)
 | .rptr cs => some (.rptr cs)
 | _ => none
def St.bor1 (s : St) (L : Nm) : PV → Option PV
 | .ptr d n off => if (d, n) ∈ L then (match s.heap d n with | some (.box cs) => (mapO (s.borC L) cs).map (fun cs' => .rptr (cs'.drop off)) | _ => none) else none
 | c => s.borC L c
def St.borF (s : St) (L : Nm) : PV → Option PV
 | .fn f cs => (mapO (s.bor1 L) cs).map (.fn f)
 | c => s.borC L c
def St.argC (s : St) (bn rn L : Nm) : PV → Option PV
 | .own d n => match idxOf (d, n) rn 0 with
  | some k => some (.own 1 k)
  | none => s.borC L (.own d n)
 | .ptr d n off => match idxOf (d, n) bn 0 with
  | some i => some (.ptr 0 i off)
  | none => if (d, n) ∈ L then (match s.heap d n with | some (.box cs) => (mapO (s.borF L) cs).map (fun cs' => .rptr (cs'.drop off)) | _ => none) else none
 | c => s.borC L c
def St.arg1 (s : St) (bn rn L : Nm) : PV → Option PV
 | .agg cs => (mapO (s.argC bn rn L) cs).map .agg
 | .fn f cs => (mapO (s.argC bn rn L) cs).map (.fn f)
 | c => s.argC bn rn L c
def St.kept (s : St) (J : Site) (bn rn L : Nm) (g : Nat) : Prop := s.X.blk g ∨ ∃ d n o v, s.heap d n = some o ∧ o.mut = true ∧ J d n = some v ∧ blockOf v = some g ∧ (d, n) ∉ bn ∧ (d, n) ∉ rn ∧ (d, n) ∉ L
def dJ (J : Site) (bn rn : Nm) : Site := fun d n => if d = 0 then (bn[n]?).bind (fun p => J p.1 p.2) else if d = 1 then (rn[n]?).bind (fun p => J p.1 p.2) else none
structure Hand (s : St) (bn rn : Nm) (bcs : List (List PV)) (rws : List Row) : Prop where
 bnd : bn.Nodup
 rnd : rn.Nodup
 bl : bn.length = bcs.length
 rl : rn.length = rws.length
 box : ∀ (i : Nat) (p : Nat × Nat) (cs : List PV), bn[i]? = some p → bcs[i]? = some cs → s.heap p.1 p.2 = some (.box cs)
 row : ∀ (k : Nat) (p : Nat × Nat) (q : Row), rn[k]? = some p → rws[k]? = some q → s.heap p.1 p.2 = some (.arr q.1 q.2.1 false q.2.2)
section
variable {w0 : World} {Mv : Nat → Prop} {J : Site} {s : St} {a : Act} {w : World} {bn rn L : Nm} {bcs boxes : List (List PV)} {rws : List Row}
theorem Hand.of_box (hh : Hand s bn rn bcs rws) {p : Nat × Nat} (hp : p ∈ bn) : ∃ cs, s.heap p.1 p.2 = some (.box cs) := by
 obtain ⟨i, hi⟩ := List.getElem?_of_mem hp
 have hl : i < bcs.length := by rw [← hh.bl]; exact (List.getElem?_eq_some_iff.1 hi).1
 exact ⟨_, hh.box i p _ hi (List.getElem?_eq_getElem hl)⟩
theorem Hand.of_row (hh : Hand s bn rn bcs rws) {p : Nat × Nat} (hp : p ∈ rn) : ∃ e sz xs, s.heap p.1 p.2 = some (.arr e sz false xs) := by
 obtain ⟨i, hi⟩ := List.getElem?_of_mem hp
 have hl : i < rws.length := by rw [← hh.rl]; exact (List.getElem?_eq_some_iff.1 hi).1
 exact ⟨_, _, _, hh.row i p _ hi (List.getElem?_eq_getElem hl)⟩
theorem dJ_obj (hh : Hand s bn rn bcs rws) (hbl : boxes.length = bcs.length) {X : Ctx} {d n : Nat} {o : AObj} {v : Value} (ho : (bst boxes rws 1 X).heap d n = some o) (hv : dJ J bn rn d n = some v) :
  ∃ p o', s.heap p.1 p.2 = some o' ∧ J p.1 p.2 = some v ∧ o'.mut = true ∧ ((d = 0 ∧ bn[n]? = some p ∧ ∃ cs, o' = .box cs) ∨ (d = 1 ∧ rn[n]? = some p ∧ ∃ e sz xs, o' = .arr e sz false xs)) := by
 rcases bst_heap (by decide) ho with ⟨rfl, cs, h5, rfl⟩ | ⟨rfl, q, h5, rfl⟩
 ·simp only [dJ, if_true] at hv
  obtain ⟨p, hp, h6⟩ := Option.bind_eq_some_iff.1 hv
  obtain ⟨cs', h7⟩ := hh.of_box (List.mem_of_getElem? hp)
  exact ⟨p, _, h7, h6, rfl, .inl ⟨rfl, hp, _, rfl⟩⟩
 ·simp only [dJ, if_true] at hv
  rw [if_neg (by decide)] at hv
  obtain ⟨p, hp, h6⟩ := Option.bind_eq_some_iff.1 hv
  obtain ⟨e, sz, xs, h7⟩ := hh.of_row (List.mem_of_getElem? hp)
  exact ⟨p, _, h7, h6, rfl, .inr ⟨rfl, hp, _, _, _, rfl⟩⟩
theorem dJ_omut (hh : Hand s bn rn bcs rws) (hbl : boxes.length = bcs.length) {X : Ctx} {g : Nat} (hg : OMut (bst boxes rws 1 X) (dJ J bn rn) g) :
  ∃ p o v, s.heap p.1 p.2 = some o ∧ o.mut = true ∧ J p.1 p.2 = some v ∧ blockOf v = some g ∧ (p ∈ bn ∨ p ∈ rn) := by
 obtain ⟨d, n, o, v, h1, h2, h3, h4⟩ := hg
 obtain ⟨p, o', h5, h6, h7, h8⟩ := dJ_obj hh hbl h1 h3
 refine ⟨p, o', v, h5, h7, h6, h4, ?_⟩
 rcases h8 with ⟨_, h9, _⟩ | ⟨_, h9, _⟩
 ·exact .inl (List.mem_of_getElem? h9)
 ·exact .inr (List.mem_of_getElem? h9)
theorem dJ_mut (hh : Hand s bn rn bcs rws) (hbl : boxes.length = bcs.length) {g : Nat} (hg : Mut (bst boxes rws 1 ⟨s.kept J bn rn L, fun _ => none⟩) (dJ J bn rn) g) : Mut s J g := by
 rcases hg with hg | hg
 ·rcases hg with hg | ⟨d, n, o, v, h1, h2, h3, h4, _⟩
  ·exact .inl hg
  ·exact .inr ⟨d, n, o, v, h1, h2, h3, h4⟩
 ·obtain ⟨p, o, v, h1, h2, h3, h4, _⟩ := dJ_omut hh hbl hg
  exact .inr ⟨p.1, p.2, o, v, h1, h2, h3, h4⟩
theorem lent_free (h : Sim w0 Mv N J s a w) (hh : Hand s bn rn bcs rws) (hbl : boxes.length = bcs.length) {d n : Nat} {o : AObj} {v : Value} {g : Nat} (hL : (d, n) ∈ L) (hb : (d, n) ∉ bn) (hr : (d, n) ∉ rn) (ho : s.heap d n = some o) (hJ : J d n = some v) (hg : blockOf v = some g) :
  ¬ Mut (bst boxes rws 1 ⟨s.kept J bn rn L, fun _ => none⟩) (dJ J bn rn) g := by
 rintro (hm | hm)
 ·rcases hm with hm | ⟨d', n', o', v', h1, h2, h3, h4, h5, h6, h7⟩
  ·exact h.sepX _ _ _ _ g ho hJ hg hm
  ·obtain ⟨rfl, rfl⟩ := h.sep _ _ _ _ _ _ _ _ g ho h1 hJ h3 hg h4
   exact h7 hL
 ·obtain ⟨p, o', v', h1, h2, h3, h4, h5⟩ := dJ_omut hh hbl hm
  obtain ⟨h6, h7⟩ := h.sep _ _ _ _ _ _ _ _ g ho h1 hJ h3 hg h4
  have hp : p = (d, n) := by rw [h6, h7]
  subst hp
  rcases h5 with h5 | h5
  ·exact hb h5
  ·exact hr h5
theorem borC_rep (h : Sim w0 Mv N J s a w) (hh : Hand s bn rn bcs rws) (hbl : boxes.length = bcs.length) {c c' : PV} (hnr : ∀ d n, c = .own d n → (d, n) ∉ rn) (hc : s.borC L c = some c') {v : Value} (hv : Rep w (Mut s J) J c v) (J' : Site) :
  Rep w (Mut (bst boxes rws 1 ⟨s.kept J bn rn L, fun _ => none⟩) (dJ J bn rn)) J' c' v ∧ c'.one = true := by
 have keep : ∀ {pv u}, Rep w (Mut s J) noSite pv u → Rep w (Mut (bst boxes rws 1 ⟨s.kept J bn rn L, fun _ => none⟩) (dJ J bn rn)) noSite pv u := fun hr => hr.mono (fun _ _ _ => rfl) (fun g _ hg => dJ_mut hh hbl hg) (fun _ _ _ h => h)
 unfold St.borC at hc
 split at hc
 ·rename_i d n
  split at hc
  ·rename_i hL
   split at hc
   ·rename_i e sz fz xs hx
    injection hc with hc
    subst hc
    refine ⟨?_, rfl⟩
    obtain ⟨u, ys, hJ, hown, hp, hw, ho, hr⟩ := h.obj d n _ hx
    rcases own_val hv hJ with hvu | ⟨ab, rfl, rfl⟩
    case inr => exact rep_empty hown hp
    subst hvu
    obtain ⟨A, c, hvf⟩ := own_form hown
    refine rep_of_row hown hp hw ho (fun k c y hc hy => keep (hr k c y hc hy)) (fun g hg => ?_)
    refine lent_free h hh hbl hL (fun hb => ?_) (hnr d n rfl) hx hJ (by rw [blockOf_own hvf]; exact hg)
    obtain ⟨cs, h1⟩ := hh.of_box hb
    rw [hx] at h1; cases h1
   ·cases hc
  ·cases hc
 all_goals first
  | (cases hc; done)
  | (injection hc with hc; subst hc; exact ⟨(keep (hv.cl rfl)).cl rfl, rfl⟩)
theorem lend_rep (h : Sim w0 Mv N J s a w) (hh : Hand s bn rn bcs rws) (hbl : boxes.length = bcs.length) (hLr : ∀ p ∈ L, p ∉ bn ∧ p ∉ rn) {F : PV → Option PV} {d n off : Nat} {cs cs' : List PV} (hL : (d, n) ∈ L) (hx : s.heap d n = some (.box cs)) (hm : mapO F cs = some cs')
  (hF : ∀ x y u, F x = some y → Rep w (Mut s J) J x u → Rep w (Mut (bst boxes rws 1 ⟨s.kept J bn rn L, fun _ => none⟩) (dJ J bn rn)) noSite y u ∧ y.one = true) {v : Value} (hv : Rep w (Mut s J) J (.ptr d n off) v) (J' : Site) :
  Rep w (Mut (bst boxes rws 1 ⟨s.kept J bn rn L, fun _ => none⟩) (dJ J bn rn)) J' (.rptr (cs'.drop off)) v := by
 obtain ⟨h2, h3⟩ := mapO_get hm
 obtain ⟨g, cur, t, hJ, hcell, hlen, hone, hrep⟩ := h.obj d n _ hx
 cases hv with
 | ptr _ _ _ _ g' hJ' =>
  rw [hJ] at hJ'
  have hg : g = g' := by injection hJ' with e; injection e with e; injection e with e; injection e
  subst hg
  have hcl : ∀ (k : Nat) (y : PV), cs'[k]? = some y → ∃ x u, cs[k]? = some x ∧ cur[k]? = some u ∧ Rep w (Mut (bst boxes rws 1 ⟨s.kept J bn rn L, fun _ => none⟩) (dJ J bn rn)) noSite y u ∧ y.one = true := by
   intro k y hy
   obtain ⟨x, hx1, hx2⟩ := h3 k y hy
   have hlt : k < cur.size := by rw [hlen]; exact (List.getElem?_eq_some_iff.1 hx1).1
   have hr := hrep k x _ hx1 (Array.getElem?_eq_getElem hlt)
   obtain ⟨h4, h5⟩ := hF x y _ hx2 hr
   exact ⟨x, _, hx1, Array.getElem?_eq_getElem hlt, h4, h5⟩
  refine .rptr _ _ _ (fun k => cur.getD (off + k) Go.undef) (fun c hc => ?_) (fun _ => ?_) (fun k c hk => ?_) (fun k c hk => ?_)
  ·obtain ⟨i, hi⟩ := List.getElem?_of_mem (List.mem_of_mem_drop hc)
   obtain ⟨x, u, _, _, _, h5⟩ := hcl i c hi
   exact h5
  ·exact lent_free h hh hbl hL (hLr _ hL).1 (hLr _ hL).2 hx hJ rfl
  ·rw [List.getElem?_drop] at hk
   obtain ⟨x, u, hx1, hu, _, _⟩ := hcl _ c hk
   have hadd : (⟨g, off, none⟩ : Addr).add k = ⟨g, off + k, none⟩ := by unfold Addr.add; split <;> simp_all
   rw [hadd, cell_of_row w g _ cur t (0, 0) hcell, hu]
   simp [Array.getD_eq_getD_getElem?, hu]
  ·rw [List.getElem?_drop] at hk
   obtain ⟨x, u, hx1, hu, hr, _⟩ := hcl _ c hk
   simpa [Array.getD_eq_getD_getElem?, hu] using hr
theorem borC_rep' (h : Sim w0 Mv N J s a w) (hh : Hand s bn rn bcs rws) (hbl : boxes.length = bcs.length) (hLr : ∀ p ∈ L, p ∉ bn ∧ p ∉ rn) (J' : Site) {x y : PV} (hx2 : s.borC L x = some y) {u : Value} (hr : Rep w (Mut s J) J x u) :
  Rep w (Mut (bst boxes rws 1 ⟨s.kept J bn rn L, fun _ => none⟩) (dJ J bn rn)) J' y u ∧ y.one = true :=
 borC_rep h hh hbl (L := L) (c := x) (fun d' n' e => by
  subst e
  unfold St.borC at hx2
  dsimp only at hx2
  split at hx2
  ·rename_i hl; exact (hLr _ hl).2
  ·cases hx2) hx2 hr J'
theorem bor1_rep (h : Sim w0 Mv N J s a w) (hh : Hand s bn rn bcs rws) (hbl : boxes.length = bcs.length) (hLr : ∀ p ∈ L, p ∉ bn ∧ p ∉ rn) (J' : Site) {x y : PV} (hc : s.bor1 L x = some y) {u : Value} (hv : Rep w (Mut s J) J x u) :
  Rep w (Mut (bst boxes rws 1 ⟨s.kept J bn rn L, fun _ => none⟩) (dJ J bn rn)) J' y u ∧ y.one = true := by
 unfold St.bor1 at hc
 split at hc
 ·rename_i d n off
  split at hc
  ·rename_i hL
   split at hc
   ·rename_i cs hx
    rw [Option.map_eq_some_iff] at hc
    obtain ⟨cs', hm, rfl⟩ := hc
    exact ⟨lend_rep h hh hbl hLr hL hx hm (fun x y u k1 k2 => borC_rep' h hh hbl hLr noSite k1 k2) hv J', rfl⟩
   ·cases hc
  ·cases hc
 ·exact borC_rep' h hh hbl hLr J' hc hv
theorem borF_rep (h : Sim w0 Mv N J s a w) (hh : Hand s bn rn bcs rws) (hbl : boxes.length = bcs.length) (hLr : ∀ p ∈ L, p ∉ bn ∧ p ∉ rn) (J' : Site) {x y : PV} (hc : s.borF L x = some y) {u : Value} (hv : Rep w (Mut s J) J x u) :
  Rep w (Mut (bst boxes rws 1 ⟨s.kept J bn rn L, fun _ => none⟩) (dJ J bn rn)) J' y u ∧ y.one = true := by
 unfold St.borF at hc
 split at hc
 ·rename_i f cs
  rw [Option.map_eq_some_iff] at hc
  obtain ⟨cs', h1, rfl⟩ := hc
  obtain ⟨h2, h3⟩ := mapO_get h1
  cases hv with
  | fn _ _ _ vs hl hr =>
   refine ⟨.fn _ _ _ _ (by rw [h2, hl]) fun i y u hy hu => ?_, rfl⟩
   obtain ⟨x, hx, hxy⟩ := h3 i y hy
   exact (bor1_rep h hh hbl hLr J' hxy (hr i x u hx hu)).1
 ·exact borC_rep' h hh hbl hLr J' hc hv
theorem argC_rep (h : Sim w0 Mv N J s a w) (hh : Hand s bn rn bcs rws) (hbl : boxes.length = bcs.length) (hLr : ∀ p ∈ L, p ∉ bn ∧ p ∉ rn) {c c' : PV} (hc : s.argC bn rn L c = some c') {v : Value} (hv : Rep w (Mut s J) J c v) :
  Rep w (Mut (bst boxes rws 1 ⟨s.kept J bn rn L, fun _ => none⟩) (dJ J bn rn)) (dJ J bn rn) c' v ∧ c'.one = true := by
 unfold St.argC at hc
 split at hc
 ·rename_i d n
  split at hc
  ·rename_i k hk
   injection hc with hc
   subst hc
   obtain ⟨_, hk'⟩ := idxOf_some hk
   rw [Nat.sub_zero] at hk'
   cases hv with
   | own _ _ _ A len cap hJ => exact ⟨.own _ _ _ _ _ _ (by simp [dJ, hk', hJ]), rfl⟩
   | own0 _ _ _ ab hJ => exact ⟨.own0 _ _ _ _ (by simp [dJ, hk', hJ]), rfl⟩
  ·rename_i hk
   exact borC_rep h hh hbl (fun d' n' e => by injection e with e1 e2; subst e1 e2; exact idxOf_none hk) hc hv _
 ·rename_i d n off
  split at hc
  ·rename_i i hi
   injection hc with hc
   subst hc
   obtain ⟨_, hi'⟩ := idxOf_some hi
   rw [Nat.sub_zero] at hi'
   cases hv with
   | ptr _ _ _ _ g hJ => exact ⟨.ptr _ _ _ _ _ (by simp [dJ, hi', hJ]), rfl⟩
  ·rename_i hk
   split at hc
   ·rename_i hL
    split at hc
    ·rename_i cs hx
     rw [Option.map_eq_some_iff] at hc
     obtain ⟨cs', hm, rfl⟩ := hc
     exact ⟨lend_rep h hh hbl hLr hL hx hm (fun x y u k1 k2 => borF_rep h hh hbl hLr noSite k1 k2) hv _, rfl⟩
    ·cases hc
   ·cases hc
 ·rename_i h1 h2
  exact borC_rep h hh hbl (fun d n e => absurd e (h1 d n)) hc hv _
theorem arg1_rep (h : Sim w0 Mv N J s a w) (hh : Hand s bn rn bcs rws) (hbl : boxes.length = bcs.length) (hLr : ∀ p ∈ L, p ∉ bn ∧ p ∉ rn) {c c' : PV} (hc : s.arg1 bn rn L c = some c') {v : Value} (hv : Rep w (Mut s J) J c v) :
  Rep w (Mut (bst boxes rws 1 ⟨s.kept J bn rn L, fun _ => none⟩) (dJ J bn rn)) (dJ J bn rn) c' v := by
 unfold St.arg1 at hc
 split at hc
 ·rename_i cs
  rw [Option.map_eq_some_iff] at hc
  obtain ⟨cs', h1, rfl⟩ := hc
  obtain ⟨h2, h3⟩ := mapO_get h1
  cases hv with
  | agg _ _ vs hl hr =>
   refine .agg _ _ _ (by rw [h2, hl]) fun i y u hy hu => ?_
   obtain ⟨x, hx, hxy⟩ := h3 i y hy
   exact (argC_rep h hh hbl hLr hxy (hr i x u hx hu)).1
 ·rename_i f cs
  rw [Option.map_eq_some_iff] at hc
  obtain ⟨cs', h1, rfl⟩ := hc
  obtain ⟨h2, h3⟩ := mapO_get h1
  cases hv with
  | fn _ _ _ vs hl hr =>
   refine .fn _ _ _ _ (by rw [h2, hl]) fun i y u hy hu => ?_
   obtain ⟨x, hx, hxy⟩ := h3 i y hy
   exact (argC_rep h hh hbl hLr hxy (hr i x u hx hu)).1
 ·exact (argC_rep h hh hbl hLr hc hv).1
theorem down_bord (h : Sim w0 Mv N J s a w) (hh : Hand s bn rn bcs rws) (hLr : ∀ p ∈ L, p ∉ bn ∧ p ∉ rn) (hbx : mapO (fun cs => mapO (s.argC bn rn L) cs) bcs = some boxes) :
  boxes.length = bcs.length ∧ Bord w (bst boxes rws 1 ⟨s.kept J bn rn L, fun _ => none⟩) (dJ J bn rn) := by
 obtain ⟨hbl, hb2⟩ := mapO_get hbx
 refine ⟨hbl, fun d n o ho => ?_, fun d n d' n' o o' v v' g h1 h2 h3 h4 h5 h6 => ?_, fun d n hle => ?_, fun d n o v g ho hv hg => ?_, fun g hg => ?_⟩
 ·rcases bst_heap (by decide) ho with ⟨rfl, cs, h5, rfl⟩ | ⟨rfl, q, h5, rfl⟩
  ·obtain ⟨cs0, h6, h7⟩ := hb2 n cs h5
   have hlt : n < bn.length := by rw [hh.bl]; exact (List.getElem?_eq_some_iff.1 h6).1
   obtain ⟨g, cur, t, k1, k2, k3, k4, k5⟩ := h.obj _ _ _ (hh.box n bn[n] cs0 (List.getElem?_eq_getElem hlt) h6)
   obtain ⟨k6, k7⟩ := mapO_get h7
   refine ⟨g, cur, t, by simp [dJ, List.getElem?_eq_getElem hlt, k1], k2, by rw [k3, k6], fun c hc => ?_, fun k c u hc hu => ?_⟩
   ·obtain ⟨i, hi⟩ := List.getElem?_of_mem hc
    obtain ⟨x, hx, hxy⟩ := k7 i c hi
    have hil : i < cur.size := by rw [k3]; exact (List.getElem?_eq_some_iff.1 hx).1
    exact (argC_rep h hh hbl hLr hxy (k5 i x _ hx (Array.getElem?_eq_getElem hil))).2
   ·obtain ⟨x, hx, hxy⟩ := k7 k c hc
    exact (argC_rep h hh hbl hLr hxy (k5 k x u hx hu)).1
  ·have hlt : n < rn.length := by rw [hh.rl]; exact (List.getElem?_eq_some_iff.1 h5).1
   obtain ⟨u, ys, k1, k2, k3, k4, k5, k6⟩ := h.obj _ _ _ (hh.row n rn[n] q (List.getElem?_eq_getElem hlt) h5)
   exact ⟨u, ys, by simp [dJ, List.getElem?_eq_getElem hlt, k1], k2, k3, k4, k5, fun k c y hc hy => (k6 k c y hc hy).mono (fun _ _ _ => rfl) (fun g _ hg => dJ_mut hh hbl hg) (fun _ _ _ h => h)⟩
 ·obtain ⟨p, o1, a1, a2, _, a3⟩ := dJ_obj hh hbl h1 h3
  obtain ⟨p', o2, b1, b2, _, b3⟩ := dJ_obj hh hbl h2 h4
  obtain ⟨e1, e2⟩ := h.sep _ _ _ _ _ _ _ _ g a1 b1 a2 b2 h5 h6
  have hpp : p = p' := Prod.ext e1 e2
  subst hpp
  rw [a1] at b1
  injection b1 with b1
  subst b1
  rcases a3 with ⟨rfl, e1, cs, rfl⟩ | ⟨rfl, e1, e, sz, xs, rfl⟩ <;> rcases b3 with ⟨rfl, e2, cs', e3⟩ | ⟨rfl, e2, e', sz', xs', e3⟩
  ·exact ⟨rfl, (List.getElem?_inj (List.getElem?_eq_some_iff.1 e1).1 hh.bnd).1 (e1.trans e2.symm)⟩
  ·cases e3
  ·cases e3
  ·exact ⟨rfl, (List.getElem?_inj (List.getElem?_eq_some_iff.1 e1).1 hh.rnd).1 (e1.trans e2.symm)⟩
 ·simp only [bst] at hle
  simp only [dJ]
  split
  ·rename_i hd; subst hd; simp only [if_true] at hle; rw [List.getElem?_eq_none (by rw [hh.bl, ← hbl]; exact hle)]; rfl
  ·split
   ·rename_i hd1 hd; subst hd; rw [if_neg (by decide), if_pos rfl] at hle; rw [List.getElem?_eq_none (by rw [hh.rl]; exact hle)]; rfl
   ·rfl
 ·obtain ⟨p, o1, a1, a2, a4, a3⟩ := dJ_obj hh hbl ho hv
  rintro (hx | ⟨d', n', o', v', b1, b2, b3, b4, b5, b6, b7⟩)
  ·exact h.sepX _ _ _ _ g a1 a2 hg hx
  ·obtain ⟨e1, e2⟩ := h.sep _ _ _ _ _ _ _ _ g a1 b1 a2 b3 hg b4
   have hpp : p = (d', n') := Prod.ext e1 e2
   subst hpp
   rcases a3 with ⟨_, e, _⟩ | ⟨_, e, _⟩
   ·exact b5 (List.mem_of_getElem? e)
   ·exact b6 (List.mem_of_getElem? e)
 ·rcases hg with hg | ⟨d, n, o, v, b1, b2, b3, b4, _⟩
  ·exact h.xlt g hg
  ·exact h.omut_lt ⟨d, n, o, v, b1, b2, b3, b4⟩
end
end Go.Proofs.Ytmompdklolomfaa.Ab
