import Derived.Test.YtmompdklolomfaaAbCall
namespace Go.Proofs.Ytmompdklolomfaa.Ab
open Go Go.RowKit
set_option linter.unusedVariables false
set_option linter.unusedSimpArgs false
variable {P : Program} {N : Nat}
abbrev Upd := (Nat × Nat) × Option AObj
def rowU (d0 n0 : Nat) (fz : Bool) : Nat → List Row → List Upd
 | _, [] => []
 | k, q :: qs => ((d0, n0 + k), some (.arr q.1 q.2.1 fz q.2.2)) :: rowU d0 n0 fz (k + 1) qs
def boxU : Nm → List (List PV) → List Upd
 | p :: ps, cs :: css => (p, some (.box cs)) :: boxU ps css
 | _, _ => []
def deadU : Nm → List Upd
 | [] => []
 | p :: ps => (p, none) :: deadU ps
theorem look_append (U V : List Upd) (a n : Nat) (o : Option AObj) : look (U ++ V) a n o = look U a n (look V a n o) := by
 induction U with
 | nil => rfl
 | cons p r ih =>
  obtain ⟨⟨d', n'⟩, x⟩ := p
  simp only [List.cons_append, look, ih]
theorem look_rowU {d0 n0 : Nat} {fz : Bool} : ∀ {qs : List Row} {k a n : Nat} {o : Option AObj}, look (rowU d0 n0 fz k qs) a n o = if a = d0 ∧ n0 + k ≤ n then (match qs[n - (n0 + k)]? with | some q => some (.arr q.1 q.2.1 fz q.2.2) | none => o) else o
 | [], k, a, n, o => by simp [rowU, look]
 | q :: qs, k, a, n, o => by
  simp only [rowU, look, look_rowU (qs := qs) (k := k + 1)]
  by_cases h1 : a = d0
  ·by_cases h2 : n = n0 + k
   ·subst h1 h2; simp
   ·by_cases h3 : n0 + k ≤ n
    ·rw [if_neg (fun h => h2 h.2), if_pos ⟨h1, by omega⟩, if_pos ⟨h1, h3⟩, show n - (n0 + k) = (n - (n0 + (k + 1))) + 1 by omega]
     simp
    ·rw [if_neg (fun h => h2 h.2), if_neg (fun h => by omega), if_neg (fun h => h3 h.2)]
  ·rw [if_neg (fun h => h1 h.1), if_neg (fun h => h1 h.1), if_neg (fun h => h1 h.1)]
theorem look_boxU : ∀ {ps : Nm} {css : List (List PV)} {a n : Nat} {o : Option AObj}, ps.Nodup → ps.length = css.length → ((a, n) ∉ ps → look (boxU ps css) a n o = o) ∧ ∀ (i : Nat), ps[i]? = some (a, n) → look (boxU ps css) a n o = (css[i]?).map .box
 | [], css, a, n, o, _, _ => ⟨fun _ => rfl, fun i hi => by simp at hi⟩
 | p :: ps, [], a, n, o, _, hl => by simp at hl
 | p :: ps, cs :: css, a, n, o, hnd, hl => by
  obtain ⟨h1, h2⟩ := List.nodup_cons.1 hnd
  obtain ⟨h3, h4⟩ := look_boxU (ps := ps) (css := css) (a := a) (n := n) (o := o) h2 (by simpa using hl)
  obtain ⟨pd, pn⟩ := p
  refine ⟨fun hm => ?_, fun i hi => ?_⟩
  ·rw [List.mem_cons, not_or] at hm
   simp only [boxU, look]
   rw [if_neg (fun h => hm.1 (by rw [h.1, h.2])), h3 hm.2]
  ·cases i with
   | zero =>
    simp at hi
    obtain ⟨rfl, rfl⟩ := hi
    simp [boxU, look]
   | succ i =>
    have hi' : ps[i]? = some (a, n) := by simpa using hi
    simp only [boxU, look]
    rw [if_neg (fun h => h1 (by rw [← h.1, ← h.2]; exact List.mem_of_getElem? hi')), h4 i hi']
    simp
theorem look_deadU : ∀ {ps : Nm} {a n : Nat} {o : Option AObj}, look (deadU ps) a n o = if (a, n) ∈ ps then none else o
 | [], a, n, o => by simp [deadU, look]
 | p :: ps, a, n, o => by
  obtain ⟨pd, pn⟩ := p
  simp only [deadU, look, look_deadU (ps := ps), List.mem_cons, Prod.mk.injEq]
  by_cases h : a = pd ∧ n = pn
  ·simp [h]
  ·simp [h]
theorem cnt_replicate (m d0 d : Nat) : cnt (List.replicate m d0) d = if d = d0 then m else 0 := by
 induction m with
 | zero => simp [cnt]
 | succ m ih => simp only [List.replicate_succ, cnt, ih]; split <;> omega
def PV.plain : PV → Bool
 | .bool _ | .int _ _ | .str _ | .nil | .own _ _ | .ptr _ _ _ => true
 | _ => false
def PV.plain1 : PV → Bool
 | .agg cs => cs.all PV.plain
 | c => c.plain
def PV.plainV : PV → Bool
 | .tup vs => vs.all PV.plain1
 | c => c.plain1
def raiC (bn : Nm) (d0 n0 : Nat) : PV → Option PV
 | .own d k => if d = 2 then some (.own d0 (n0 + k)) else none
 | .ptr d i off => if d = 0 then (bn[i]?).map (fun p => .ptr p.1 p.2 off) else none
 | .bool b => some (.bool b)
 | .int k n => some (.int k n)
 | .str b => some (.str b)
 | .nil => some .nil
 | .sl sz xs => some (.sl sz xs)
 | .rptr cs => some (.rptr cs)
 | _ => none
def rai1 (bn : Nm) (d0 n0 : Nat) : PV → Option PV
 | .agg cs => (mapO (raiC bn d0 n0) cs).map .agg
 | c => raiC bn d0 n0 c
def raiV (bn : Nm) (d0 n0 : Nat) : PV → Option PV
 | .tup vs => (mapO (rai1 bn d0 n0) vs).map .tup
 | c => rai1 bn d0 n0 c
def uJ (J J' : Site) (d0 n0 m : Nat) : Site := fun d n => if d = d0 ∧ n0 ≤ n ∧ n - n0 < m then J' 2 (n - n0) else J d n
def Ent (P : Program) (f : FuncId) : Prop := ∃ fn, P.funcs[f]? = some fn ∧ (fn.name == "runtime.NumGoroutine") = false ∧ fn.body.isNone = false
section
variable {w0 : World} {Mv : Nat → Prop} {J J' : Site} {s s' : St} {a : Act} {w w' : World} {bn rn L : Nm} {bcs boxes boxes' boxes2 : List (List PV)} {rws rows' : List Row} {d0 : Nat} {fz : Bool}
structure Back (w0 : World) (Mv : Nat → Prop) (N : Nat) (J J' : Site) (s s' : St) (a : Act) (w w' : World) (bn rn L : Nm) (bcs boxes boxes' boxes2 : List (List PV)) (rws rows' : List Row) (d0 : Nat) (fz : Bool) : Prop where
 sim : Sim w0 Mv N J s a w
 hand : Hand s bn rn bcs rws
 lent : ∀ p ∈ L, p ∉ bn ∧ p ∉ rn
 bl : boxes.length = bcs.length
 bl' : boxes'.length = boxes.length
 bord : Bord w' (bst boxes' rows' 2 ⟨s.kept J bn rn L, fun _ => none⟩) J'
 same : ∀ n, n < boxes'.length → J' 0 n = dJ J bn rn 0 n
 fr : Fr w w' (OMut (bst boxes rws 1 ⟨s.kept J bn rn L, fun _ => none⟩) (dJ J bn rn)) (OMut (bst boxes' rows' 2 ⟨s.kept J bn rn L, fun _ => none⟩) J')
 rai : mapO (fun cs => mapO (raiC bn d0 (s.next d0)) cs) boxes' = some boxes2
 env : s'.env = s.env
 X : s'.X = s.X
 heap : ∀ a n, s'.heap a n = look (rowU d0 (s.next d0) fz 0 rows' ++ (boxU bn boxes2 ++ deadU rn)) a n (s.heap a n)
 next : ∀ a, s'.next a = s.next a + cnt (List.replicate (rows'.length + 1) d0) a
theorem Back.cases (b : Back w0 Mv N J J' s s' a w w' bn rn L bcs boxes boxes' boxes2 rws rows' d0 fz) {d n : Nat} {o : AObj} (h : s'.heap d n = some o) :
  (d = d0 ∧ s.next d0 ≤ n ∧ ∃ q, rows'[n - s.next d0]? = some q ∧ o = .arr q.1 q.2.1 fz q.2.2) ∨ (∃ (i : Nat) (cs : List PV), bn[i]? = some (d, n) ∧ boxes2[i]? = some cs ∧ o = .box cs) ∨ ((d, n) ∉ bn ∧ (d, n) ∉ rn ∧ s.heap d n = some o) := by
 have hl2 : bn.length = boxes2.length := by rw [(mapO_get b.rai).1, b.bl', b.bl, b.hand.bl]
 rw [b.heap, look_append, look_append, look_rowU, look_deadU] at h
 have hrest : ∀ o1, look (boxU bn boxes2) d n (if (d, n) ∈ rn then none else s.heap d n) = some o1 → (∃ (i : Nat) (cs : List PV), bn[i]? = some (d, n) ∧ boxes2[i]? = some cs ∧ o1 = .box cs) ∨ ((d, n) ∉ bn ∧ (d, n) ∉ rn ∧ s.heap d n = some o1) := by
  intro o1 h1
  obtain ⟨h2, h3⟩ := look_boxU (a := d) (n := n) (o := if (d, n) ∈ rn then none else s.heap d n) b.hand.bnd hl2
  by_cases hm : (d, n) ∈ bn
  ·obtain ⟨i, hi⟩ := List.getElem?_of_mem hm
   rw [h3 i hi, Option.map_eq_some_iff] at h1
   obtain ⟨cs, h4, h5⟩ := h1
   exact .inl ⟨i, cs, hi, h4, h5.symm⟩
  ·rw [h2 hm] at h1
   split at h1
   ·cases h1
   ·rename_i hr
    exact .inr ⟨hm, hr, h1⟩
 split at h
 ·rename_i hc
  rw [Nat.add_zero] at h
  split at h
  ·rename_i q hq
   injection h with h
   exact .inl ⟨hc.1, by omega, q, hq, h.symm⟩
  ·exact .inr (hrest o h)
 ·exact .inr (hrest o h)
theorem Back.uJ_old (b : Back w0 Mv N J J' s s' a w w' bn rn L bcs boxes boxes' boxes2 rws rows' d0 fz) {d n : Nat} {o : AObj} (h : s.heap d n = some o) : uJ J J' d0 (s.next d0) rows'.length d n = J d n := by
 unfold uJ
 rw [if_neg]
 rintro ⟨rfl, h1, _⟩
 rw [(b.sim.nxt d n h1).1] at h
 cases h
theorem Back.uJ_ext (b : Back w0 Mv N J J' s s' a w w' bn rn L bcs boxes boxes' boxes2 rws rows' d0 fz) {d n : Nat} {v : Value} (h : J d n = some v) : uJ J J' d0 (s.next d0) rows'.length d n = some v := by
 unfold uJ
 rw [if_neg]
 ·exact h
 ·rintro ⟨rfl, h1, _⟩
  rw [(b.sim.nxt d n h1).2] at h
  cases h
theorem Back.bobj (b : Back w0 Mv N J J' s s' a w w' bn rn L bcs boxes boxes' boxes2 rws rows' d0 fz) {d n : Nat} {o : AObj} {v : Value} (h : s'.heap d n = some o) (hv : uJ J J' d0 (s.next d0) rows'.length d n = some v) :
  (∃ d1 n1 o1, (bst boxes' rows' 2 ⟨s.kept J bn rn L, fun _ => none⟩).heap d1 n1 = some o1 ∧ o1.mut = true ∧ J' d1 n1 = some v ∧ ((d1 = 2 ∧ d = d0 ∧ n = s.next d0 + n1 ∧ o.mut = !fz) ∨ (d1 = 0 ∧ bn[n1]? = some (d, n) ∧ J d n = some v))) ∨
   ((d, n) ∉ bn ∧ (d, n) ∉ rn ∧ s.heap d n = some o ∧ J d n = some v) := by
 rcases b.cases h with ⟨rfl, h1, q, h2, rfl⟩ | ⟨i, cs, h1, h2, rfl⟩ | ⟨h1, h2, h3⟩
 ·left
  have hlt := (List.getElem?_eq_some_iff.1 h2).1
  unfold uJ at hv
  rw [if_pos ⟨rfl, h1, hlt⟩] at hv
  exact ⟨2, n - s.next d, .arr q.1 q.2.1 false q.2.2, by simp [bst, h2], rfl, hv, .inl ⟨rfl, rfl, by omega, rfl⟩⟩
 ·left
  obtain ⟨cs0, hcs0⟩ := b.hand.of_box (List.mem_of_getElem? h1)
  rw [b.uJ_old hcs0] at hv
  have hlt : i < boxes'.length := by rw [← (mapO_get b.rai).1]; exact (List.getElem?_eq_some_iff.1 h2).1
  refine ⟨0, i, .box boxes'[i], by simp [bst, hlt], rfl, ?_, .inr ⟨rfl, h1, hv⟩⟩
  rw [b.same i hlt]
  simp [dJ, h1, hv]
 ·right
  rw [b.uJ_old h3] at hv
  exact ⟨h1, h2, h3, hv⟩
theorem Back.omut (b : Back w0 Mv N J J' s s' a w w' bn rn L bcs boxes boxes' boxes2 rws rows' d0 fz) {g : Nat} (hg : OMut s' (uJ J J' d0 (s.next d0) rows'.length) g) :
  OMut (bst boxes' rows' 2 ⟨s.kept J bn rn L, fun _ => none⟩) J' g ∨ ∃ d n o v, s.heap d n = some o ∧ o.mut = true ∧ J d n = some v ∧ blockOf v = some g ∧ (d, n) ∉ bn ∧ (d, n) ∉ rn := by
 obtain ⟨d, n, o, v, h1, h2, h3, h4⟩ := hg
 rcases b.bobj h1 h3 with ⟨d1, n1, o1, h5, h6, h7, h8⟩ | ⟨h5, h6, h7, h8⟩
 ·exact .inl ⟨d1, n1, o1, v, h5, h6, h7, h4⟩
 ·exact .inr ⟨d, n, o, v, h7, h2, h8, h4, h5, h6⟩
theorem Back.old_new (b : Back w0 Mv N J J' s s' a w w' bn rn L bcs boxes boxes' boxes2 rws rows' d0 fz) {d n : Nat} {o : AObj} {v : Value} {g : Nat} (h1 : (d, n) ∉ bn) (h2 : (d, n) ∉ rn) (h3 : s.heap d n = some o) (h4 : J d n = some v) (h5 : blockOf v = some g)
  (h6 : OMut (bst boxes' rows' 2 ⟨s.kept J bn rn L, fun _ => none⟩) J' g) : False := by
 obtain ⟨v', hv', hlt⟩ := (b.sim.obj _ _ _ h3).blk
 rw [h4] at hv'
 injection hv' with hv'
 subst hv'
 obtain ⟨p, o', v', k1, k2, k3, k4, k5⟩ := dJ_omut b.hand b.bl (b.fr.own g h6 (hlt g h5))
 obtain ⟨e1, e2⟩ := b.sim.sep _ _ _ _ _ _ _ _ g h3 k1 h4 k3 h5 k4
 have hp : p = (d, n) := by rw [e1, e2]
 subst hp
 rcases k5 with k5 | k5
 ·exact h1 k5
 ·exact h2 k5
theorem Back.mut_of (b : Back w0 Mv N J J' s s' a w w' bn rn L bcs boxes boxes' boxes2 rws rows' d0 fz) (hfr : ∀ p ∈ L, ∃ e sz xs, s.heap p.1 p.2 = some (.arr e sz true xs)) {g : Nat} (hg : Mut s' (uJ J J' d0 (s.next d0) rows'.length) g) :
  Mut (bst boxes' rows' 2 ⟨s.kept J bn rn L, fun _ => none⟩) J' g := by
 rcases hg with hg | hg
 ·exact .inl (.inl (b.X ▸ hg))
 ·rcases b.omut hg with h | ⟨d, n, o, v, h1, h2, h3, h4, h5, h6⟩
  ·exact .inr h
  ·refine .inl (.inr ⟨d, n, o, v, h1, h2, h3, h4, h5, h6, fun hL => ?_⟩)
   obtain ⟨e, sz, xs, h7⟩ := hfr _ hL
   rw [h1] at h7
   injection h7 with h7
   subst h7
   cases h2
theorem Rep.to {w : World} {M M' : Nat → Prop} {J : Site} {c : PV} {v : Value} (h : Rep w M J c v) (hc : (∀ g, M' g → M g) ∨ c.plain = true) : Rep w M' J c v := by
 rcases hc with hc | hc
 ·exact h.mono (fun _ _ _ => rfl) (fun g _ hg => hc g hg) (fun _ _ _ h => h)
 ·cases h with
  | bool _ b => exact .bool _ _
  | int _ k n => exact .int _ _ _
  | str _ b => exact .str _ _
  | nil => exact .nil _
  | own _ _ _ _ _ _ h => exact .own _ _ _ _ _ _ h
  | own0 _ _ _ _ h => exact .own0 _ _ _ _ h
  | ptr _ _ _ _ _ h => exact .ptr _ _ _ _ _ h
  | _ => cases hc
theorem Back.raiC_rep (b : Back w0 Mv N J J' s s' a w w' bn rn L bcs boxes boxes' boxes2 rws rows' d0 fz) {M : Nat → Prop} {c c' : PV} (hc : raiC bn d0 (s.next d0) c = some c') {v : Value} (hv : Rep w' (Mut (bst boxes' rows' 2 ⟨s.kept J bn rn L, fun _ => none⟩) J') J' c v)
  (hs : (∀ g, M g → Mut (bst boxes' rows' 2 ⟨s.kept J bn rn L, fun _ => none⟩) J' g) ∨ c.plain = true) : Rep w' M (uJ J J' d0 (s.next d0) rows'.length) c' v ∧ c'.one = true := by
 have h2 := hv.to (M' := M) hs
 unfold raiC at hc
 split at hc
 ·rename_i d k
  split at hc
  ·rename_i hd
   subst hd
   injection hc with hc
   subst hc
   cases h2 with
   | own _ _ _ A len cap hJ =>
    refine ⟨.own _ _ _ _ _ _ ?_, rfl⟩
    have hk : k < rows'.length := by
     rcases Nat.lt_or_ge k rows'.length with h | h
     ·exact h
     ·rw [b.bord.nxt 2 k (by simpa [bst] using h)] at hJ; cases hJ
    simp [uJ, hk, hJ]
   | own0 _ _ _ ab hJ =>
    refine ⟨.own0 _ _ _ _ ?_, rfl⟩
    have hk : k < rows'.length := by
     rcases Nat.lt_or_ge k rows'.length with h | h
     ·exact h
     ·rw [b.bord.nxt 2 k (by simpa [bst] using h)] at hJ; cases hJ
    simp [uJ, hk, hJ]
  ·cases hc
 ·rename_i d i off
  split at hc
  ·rename_i hd
   subst hd
   rw [Option.map_eq_some_iff] at hc
   obtain ⟨p, hp, rfl⟩ := hc
   cases h2 with
   | ptr _ _ _ _ g hJ =>
    refine ⟨.ptr _ _ _ _ _ (b.uJ_ext ?_), rfl⟩
    have hi : i < boxes'.length := by rw [b.bl', b.bl, ← b.hand.bl]; exact (List.getElem?_eq_some_iff.1 hp).1
    rw [b.same i hi] at hJ
    simpa [dJ, hp] using hJ
  ·cases hc
 all_goals first
  | (cases hc; done)
  | (injection hc with hc; subst hc; exact ⟨h2.cl rfl, rfl⟩)
theorem Back.sim' (b : Back w0 Mv N J J' s s' a w w' bn rn L bcs boxes boxes' boxes2 rws rows' d0 fz)
  (hsafe : (∀ p ∈ L, ∃ e sz xs, s.heap p.1 p.2 = some (.arr e sz true xs)) ∨ ((∀ cs ∈ boxes', ∀ c ∈ cs, c.plain = true) ∧ ∀ q ∈ rows', ∀ c ∈ flat q.2.2, c.plain = true)) :
  Sim w0 Mv N (uJ J J' d0 (s.next d0) rows'.length) s' a w' := by
 have hMb : ∀ c : PV, ((∀ p ∈ L, ∃ e sz xs, s.heap p.1 p.2 = some (.arr e sz true xs)) ∨ c.plain = true) → (∀ g, Mut s' (uJ J J' d0 (s.next d0) rows'.length) g → Mut (bst boxes' rows' 2 ⟨s.kept J bn rn L, fun _ => none⟩) J' g) ∨ c.plain = true := by
  rintro c (h | h)
  ·exact .inl fun g hg => b.mut_of h hg
  ·exact .inr h
 refine b.sim.updateH b.fr (fun g hg => ?_) (fun d n v h => b.uJ_ext h) b.env b.X (fun g hlt hg => ?_) (fun d n o ho => ?_) (fun d n d' n' o o' v v' g h1 h2 h3 h4 h5 h6 => ?_) (fun d n hle => ?_) (fun d n o v g h1 h2 h3 => ?_)
 ·obtain ⟨p, o, v, h1, h2, h3, h4, _⟩ := dJ_omut b.hand b.bl hg
  exact ⟨p.1, p.2, o, v, h1, h2, h3, h4⟩
 ·rcases b.omut hg with h | ⟨d, n, o, v, h1, h2, h3, h4, _⟩
  ·obtain ⟨p, o, v, h1, h2, h3, h4, _⟩ := dJ_omut b.hand b.bl (b.fr.own g h hlt)
   exact ⟨p.1, p.2, o, v, h1, h2, h3, h4⟩
  ·exact ⟨d, n, o, v, h1, h2, h3, h4⟩
 ·rcases b.cases ho with ⟨rfl, h1, q, h2, rfl⟩ | ⟨i, cs, h1, h2, rfl⟩ | ⟨h1, h2, h3⟩
  ·right
   have hlt := (List.getElem?_eq_some_iff.1 h2).1
   obtain ⟨u, ys, k1, k2, k3, k4, k5, k6⟩ := b.bord.obj 2 (n - s.next d) (.arr q.1 q.2.1 false q.2.2) (by simp [bst, h2])
   refine ⟨u, ys, by simp [uJ, h1, hlt, k1], k2, k3, k4, k5, fun k c y hc hy => ?_⟩
   refine (k6 k c y hc hy).to (hMb c ?_)
   rcases hsafe with h | h
   ·exact .inl h
   ·exact .inr (h.2 q (List.mem_of_getElem? h2) c (List.mem_of_getElem? hc))
  ·right
   obtain ⟨m1, m2⟩ := mapO_get b.rai
   obtain ⟨cs1, hcs1, hcs2⟩ := m2 i cs h2
   obtain ⟨m3, m4⟩ := mapO_get hcs2
   have hlt : i < boxes'.length := (List.getElem?_eq_some_iff.1 hcs1).1
   obtain ⟨g, cur, t, k1, k2, k3, k4, k5⟩ := b.bord.obj 0 i (.box cs1) (by simp [bst, hcs1])
   have hpl : ∀ c ∈ cs1, (∀ p ∈ L, ∃ e sz xs, s.heap p.1 p.2 = some (.arr e sz true xs)) ∨ c.plain = true := by
    intro c hc
    rcases hsafe with h | h
    ·exact .inl h
    ·exact .inr (h.1 cs1 (List.mem_of_getElem? hcs1) c hc)
   refine ⟨g, cur, t, ?_, k2, by rw [k3, m3], fun c hc => ?_, fun k c u hc hu => ?_⟩
   ·rw [b.same i hlt] at k1
    refine b.uJ_ext ?_
    simpa [dJ, h1] using k1
   ·obtain ⟨j, hj⟩ := List.getElem?_of_mem hc
    obtain ⟨x, hx, hxy⟩ := m4 j c hj
    have hjl : j < cur.size := by rw [k3]; exact (List.getElem?_eq_some_iff.1 hx).1
    exact (b.raiC_rep hxy (k5 j x _ hx (Array.getElem?_eq_getElem hjl)) (hMb x (hpl x (List.mem_of_getElem? hx)))).2
   ·obtain ⟨x, hx, hxy⟩ := m4 k c hc
    exact (b.raiC_rep hxy (k5 k x u hx hu) (hMb x (hpl x (List.mem_of_getElem? hx)))).1
  ·left
   refine ⟨h3, fun v g hv hg hH => ?_⟩
   obtain ⟨p, o', v', k1, k2, k3, k4, k5⟩ := dJ_omut b.hand b.bl hH
   obtain ⟨e1, e2⟩ := b.sim.sep _ _ _ _ _ _ _ _ g h3 k1 hv k3 hg k4
   have hp : p = (d, n) := by rw [e1, e2]
   subst hp
   rcases k5 with k5 | k5
   ·exact h1 k5
   ·exact h2 k5
 ·rcases b.bobj h1 h3 with ⟨d1, n1, o1, a1, a2, a3, a4⟩ | ⟨a1, a2, a3, a4⟩ <;> rcases b.bobj h2 h4 with ⟨d2, n2, o2, b1, b2, b3, b4⟩ | ⟨b1, b2, b3, b4⟩
  ·obtain ⟨rfl, rfl⟩ := b.bord.sep _ _ _ _ _ _ _ _ g a1 b1 a3 b3 h5 h6
   rcases a4 with ⟨e1, rfl, rfl, _⟩ | ⟨e1, e2, _⟩ <;> rcases b4 with ⟨e3, rfl, rfl, _⟩ | ⟨e3, e4, _⟩
   ·exact ⟨rfl, rfl⟩
   ·rw [e1] at e3; cases e3
   ·rw [e1] at e3; cases e3
   ·rw [e2] at e4; injection e4 with e4; injection e4 with e5 e6; exact ⟨e5, e6⟩
  ·exact (b.old_new b1 b2 b3 b4 h6 ⟨d1, n1, o1, v, a1, a2, a3, h5⟩).elim
  ·exact (b.old_new a1 a2 a3 a4 h5 ⟨d2, n2, o2, v', b1, b2, b3, h6⟩).elim
  ·exact b.sim.sep _ _ _ _ _ _ _ _ g a3 b3 a4 b4 h5 h6
 ·rw [b.next, cnt_replicate] at hle
  have hle' : s.next d ≤ n := by omega
  obtain ⟨h1, h2⟩ := b.sim.nxt d n hle'
  refine ⟨?_, ?_⟩
  ·cases ho : s'.heap d n with
   | none => rfl
   | some o =>
    rcases b.cases ho with ⟨rfl, _, q, h4, rfl⟩ | ⟨i, cs, h4, _⟩ | ⟨_, _, h4⟩
    ·have := (List.getElem?_eq_some_iff.1 h4).1
     rw [if_pos rfl] at hle
     omega
    ·obtain ⟨cs0, h5⟩ := b.hand.of_box (List.mem_of_getElem? h4)
     rw [h1] at h5; cases h5
    ·rw [h1] at h4; cases h4
  ·unfold uJ
   rw [if_neg]
   ·exact h2
   ·rintro ⟨rfl, _, h4⟩
    rw [if_pos rfl] at hle
    omega
 ·rcases b.bobj h1 h2 with ⟨d1, n1, o1, a1, a2, a3, a4⟩ | ⟨a1, a2, a3, a4⟩
  ·exact fun hx => b.bord.sepX _ _ _ _ g a1 a3 h3 (.inl hx)
  ·exact b.sim.sepX _ _ _ _ g a3 a4 h3
theorem Back.raiV_rep (b : Back w0 Mv N J J' s s' a w w' bn rn L bcs boxes boxes' boxes2 rws rows' d0 fz) {r r' : PV} (hc : raiV bn d0 (s.next d0) r = some r') {v : Value} (hv : Rep w' (Mut (bst boxes' rows' 2 ⟨s.kept J bn rn L, fun _ => none⟩) J') J' r v)
  (hsafe : (∀ p ∈ L, ∃ e sz xs, s.heap p.1 p.2 = some (.arr e sz true xs)) ∨ r.plainV = true) : Rep w' (Mut s' (uJ J J' d0 (s.next d0) rows'.length)) (uJ J J' d0 (s.next d0) rows'.length) r' v := by
 have hMb : ∀ c : PV, ((∀ p ∈ L, ∃ e sz xs, s.heap p.1 p.2 = some (.arr e sz true xs)) ∨ c.plain = true) → (∀ g, Mut s' (uJ J J' d0 (s.next d0) rows'.length) g → Mut (bst boxes' rows' 2 ⟨s.kept J bn rn L, fun _ => none⟩) J' g) ∨ c.plain = true := by
  rintro c (h | h)
  ·exact .inl fun g hg => b.mut_of h hg
  ·exact .inr h
 have h1 : ∀ {c c' : PV} {v : Value}, rai1 bn d0 (s.next d0) c = some c' → Rep w' (Mut (bst boxes' rows' 2 ⟨s.kept J bn rn L, fun _ => none⟩) J') J' c v → ((∀ p ∈ L, ∃ e sz xs, s.heap p.1 p.2 = some (.arr e sz true xs)) ∨ c.plain1 = true) →
   Rep w' (Mut s' (uJ J J' d0 (s.next d0) rows'.length)) (uJ J J' d0 (s.next d0) rows'.length) c' v := by
  intro c c' v hc hv hs
  unfold rai1 at hc
  split at hc
  ·rename_i cs
   rw [Option.map_eq_some_iff] at hc
   obtain ⟨cs', m1, rfl⟩ := hc
   obtain ⟨m2, m3⟩ := mapO_get m1
   cases hv with
   | agg _ _ vs hl hr =>
    refine .agg _ _ _ (by rw [m2, hl]) fun i y u hy hu => ?_
    obtain ⟨x, hx, hxy⟩ := m3 i y hy
    refine (b.raiC_rep hxy (hr i x u hx hu) (hMb x ?_)).1
    rcases hs with h | h
    ·exact .inl h
    ·exact .inr (by simp only [PV.plain1, List.all_eq_true] at h; exact h x (List.mem_of_getElem? hx))
  ·rename_i hna
   refine (b.raiC_rep hc hv (hMb c ?_)).1
   rcases hs with h | h
   ·exact .inl h
   ·right
    cases c with
    | agg cs => exact absurd rfl (hna cs)
    | _ => exact h
 unfold raiV at hc
 split at hc
 ·rename_i cs
  rw [Option.map_eq_some_iff] at hc
  obtain ⟨cs', m1, rfl⟩ := hc
  obtain ⟨m2, m3⟩ := mapO_get m1
  cases hv with
  | tup _ _ vs hl hr =>
   refine .tup _ _ _ (by rw [m2, hl]) fun i y u hy hu => ?_
   obtain ⟨x, hx, hxy⟩ := m3 i y hy
   refine h1 hxy (hr i x u hx hu) ?_
   rcases hsafe with h | h
   ·exact .inl h
   ·exact .inr (by simp only [PV.plainV, List.all_eq_true] at h; exact h x (List.mem_of_getElem? hx))
 ·rename_i hna
  refine h1 hc hv ?_
  rcases hsafe with h | h
  ·exact .inl h
  ·right
   cases r with
   | tup cs => exact absurd rfl (hna cs)
   | _ => exact h
end
variable {ops : Array Oper} {s : St} {dst : Option Tmp} {type : TypeId} {pos : String} {after : Array Edge} {guard : Option (Nat × Bool)}
theorem borC_agree {s s' : St} {L : Nm} (h : ∀ q ∈ L, s'.heap q.1 q.2 = s.heap q.1 q.2) (c : PV) : s'.borC L c = s.borC L c := by
 unfold St.borC
 cases c with
 | own d n =>
  dsimp only
  split
  ·rename_i hL; rw [h (d, n) hL]
  ·rfl
 | _ => rfl
theorem mapO_congr {α β : Type} {f g : α → Option β} (h : ∀ x, f x = g x) (l : List α) : mapO f l = mapO g l := by rw [funext h]
theorem bor1_agree {s s' : St} {L : Nm} (h : ∀ q ∈ L, s'.heap q.1 q.2 = s.heap q.1 q.2) (c : PV) : s'.bor1 L c = s.bor1 L c := by
 unfold St.bor1
 cases c with
 | ptr d n off =>
  dsimp only
  split
  ·rename_i hL
   rw [show s'.heap d n = s.heap d n from h (d, n) hL]
   cases s.heap d n with
   | none => rfl
   | some o =>
    cases o with
    | box cs => dsimp only; rw [mapO_congr (borC_agree h)]
    | arr e sz fz xs => rfl
    | mp k ks => rfl
  ·rfl
 | _ => exact borC_agree h _
theorem borF_agree {s s' : St} {L : Nm} (h : ∀ q ∈ L, s'.heap q.1 q.2 = s.heap q.1 q.2) (c : PV) : s'.borF L c = s.borF L c := by
 unfold St.borF
 cases c with
 | fn f cs => dsimp only; rw [mapO_congr (bor1_agree h)]
 | _ => exact borC_agree h _
theorem argC_agree {s s' : St} {bn rn L : Nm} (h : ∀ q ∈ L, s'.heap q.1 q.2 = s.heap q.1 q.2) (c : PV) : s'.argC bn rn L c = s.argC bn rn L c := by
 unfold St.argC
 cases c with
 | own d n => dsimp only; split <;> first | rfl | exact borC_agree h _
 | ptr d n off =>
  dsimp only
  split
  ·rfl
  ·split
   ·rename_i hL
    rw [show s'.heap d n = s.heap d n from h (d, n) hL]
    cases s.heap d n with
    | none => rfl
    | some o =>
     cases o with
     | box cs => dsimp only; rw [mapO_congr (borF_agree h)]
     | arr e sz fz xs => rfl
     | mp k ks => rfl
   ·rfl
 | _ => exact borC_agree h _
theorem arg1_agree {s s' : St} {bn rn L : Nm} (h : ∀ q ∈ L, s'.heap q.1 q.2 = s.heap q.1 q.2) (c : PV) : s'.arg1 bn rn L c = s.arg1 bn rn L c := by
 unfold St.arg1
 cases c with
 | agg cs => dsimp only; rw [mapO_congr (argC_agree h)]
 | fn f cs => dsimp only; rw [mapO_congr (argC_agree h)]
 | _ => exact argC_agree h _
theorem does_call {fo : Operand} {xs : Array Operand} {tys : Array TypeId} {f : FuncId} {caps args : List PV} {boxes boxes' boxes2 : List (List PV)} {rows' : List Row} {r r' : PV} (bn rn L : Nm) (bcs : List (List PV)) (rws : List Row) (d0 : Nat) (fz : Bool)
  (hf : s.ev fo = .fn f caps) (hent : Ent P f) (hh : Hand s bn rn bcs rws) (hlent : ∀ p ∈ L, p ∉ bn ∧ p ∉ rn) (hargs : mapO (s.arg1 bn rn L) (xs.toList.map s.ev ++ caps) = some args) (hbx : mapO (fun cs => mapO (s.argC bn rn L) cs) bcs = some boxes)
  (hok : Ok P f args boxes rws r boxes' rows') (hbl : boxes'.length = boxes.length) (hrb : mapO (fun cs => mapO (raiC bn d0 (s.next d0)) cs) boxes' = some boxes2) (hr : raiV bn d0 (s.next d0) r = some r')
  (hsafe : (∀ p ∈ L, ∃ e sz xs, s.heap p.1 p.2 = some (.arr e sz true xs)) ∨ (r.plainV = true ∧ (∀ cs ∈ boxes', ∀ c ∈ cs, c.plain = true) ∧ ∀ q ∈ rows', ∀ c ∈ flat q.2.2, c.plain = true)) :
  Does P N ops ⟨dst, .call ⟨.value fo, xs, tys⟩, type, pos, after, guard⟩ s ⟨L, r', rowU d0 (s.next d0) fz 0 rows' ++ (boxU bn boxes2 ++ deadU rn), List.replicate (rows'.length + 1) d0⟩ := by
 intro s1 ha hlt w0 Mv J a w hs Q
 have hnx : s1.next d0 = s.next d0 := ha.nx d0 (by simp [List.replicate_succ])
 have hLa : ∀ q ∈ L, s1.heap q.1 q.2 = s.heap q.1 q.2 := ha.rd
 have hl2 : bn.length = boxes2.length := by rw [(mapO_get hrb).1, hbl, (mapO_get hbx).1, hh.bl]
 have hboxin : ∀ (ps : Nm) (css : List (List PV)) (i : Nat) (p : Nat × Nat), ps.length = css.length → ps[i]? = some p → ∃ o, (p, o) ∈ boxU ps css := by
  intro ps
  induction ps with
  | nil => intro css i p _ h; simp at h
  | cons q ps ih =>
   intro css i p hl h
   cases css with
   | nil => simp at hl
   | cons cs css =>
    cases i with
    | zero => simp at h; subst h; exact ⟨_, List.mem_cons_self⟩
    | succ i =>
     obtain ⟨o, ho⟩ := ih css i p (by simpa using hl) (by simpa using h)
     exact ⟨o, List.mem_cons_of_mem _ ho⟩
 have hdeadin : ∀ (ps : Nm) (p : Nat × Nat), p ∈ ps → (p, none) ∈ deadU ps := by
  intro ps p hp
  induction ps with
  | nil => cases hp
  | cons q ps ih =>
   rcases List.mem_cons.1 hp with rfl | hp
   ·exact List.mem_cons_self
   ·exact List.mem_cons_of_mem _ (ih hp)
 have hh1 : Hand s1 bn rn bcs rws := by
  refine ⟨hh.bnd, hh.rnd, hh.bl, hh.rl, fun i p cs hp hc => ?_, fun k p q hp hq => ?_⟩
  ·obtain ⟨o, ho⟩ := hboxin bn boxes2 i p hl2 hp
   exact (ha.up (p, o) (List.mem_append_right _ (List.mem_append_left _ ho))).trans (hh.box i p cs hp hc)
  ·exact (ha.up (p, none) (List.mem_append_right _ (List.mem_append_right _ (hdeadin rn p (List.mem_of_getElem? hp))))).trans (hh.row k p q hp hq)
 have hbx1 : mapO (fun cs => mapO (s1.argC bn rn L) cs) bcs = some boxes := by
  rw [mapO_congr (fun cs => mapO_congr (argC_agree hLa) cs)]; exact hbx
 obtain ⟨hbl1, hbord⟩ := down_bord hs hh1 hlent hbx1
 have hrf : Rep w (Mut s1 J) J (.fn f caps) (a.eval fo) := by
  rw [← hf, ← ev_agree ha (by simp [Op.operands, Call.operands])]
  exact rep_ev hs fun t ht => hlt t (looks_op (by subst ht; simp [Op.operands, Call.operands]))
 have hrx : ∀ x ∈ xs, Rep w (Mut s1 J) J (s.ev x) (a.eval x) := fun x hx => by
  rw [← ev_agree ha (by simp [Op.operands, Call.operands, hx])]
  exact rep_ev hs fun t ht => hlt t (looks_op (by subst ht; simp [Op.operands, Call.operands, hx]))
 generalize hfv : a.eval fo = fv at hrf
 cases hrf with
 | fn _ _ _ cv hcl hcr =>
  have hvl : ((xs.map a.eval).toList ++ cv.toList).length = (xs.toList.map s.ev ++ caps).length := by simp [hcl]
  have hvr : ∀ (i : Nat) (c : PV) (v : Value), (xs.toList.map s.ev ++ caps)[i]? = some c → ((xs.map a.eval).toList ++ cv.toList)[i]? = some v → Rep w (Mut s1 J) J c v := by
   intro i c v hc hv
   by_cases hi : i < xs.size
   ·rw [List.getElem?_append_left (by simpa using hi)] at hc hv
    rw [List.getElem?_map, Option.map_eq_some_iff] at hc
    obtain ⟨x, hx, rfl⟩ := hc
    rw [Array.toList_map, List.getElem?_map, Option.map_eq_some_iff] at hv
    obtain ⟨y, hy, rfl⟩ := hv
    rw [hx] at hy
    injection hy with hy
    subst hy
    exact hrx x (Array.mem_toList_iff.1 (List.mem_of_getElem? hx))
   ·rw [List.getElem?_append_right (by simpa using Nat.le_of_not_lt hi)] at hc hv
    simp only [List.length_map, Array.length_toList, Array.toList_map] at hc hv
    exact hcr _ _ _ hc (by rw [← Array.getElem?_toList]; exact hv)
  rw [← mapO_congr (arg1_agree hLa)] at hargs
  obtain ⟨ha1, ha2⟩ := mapO_get hargs
  have hcall := hok w (s1.kept J bn rn L |> fun b => ⟨b, fun _ => none⟩) (dJ J bn rn) ((xs.map a.eval).toList ++ cv.toList) hbord (by rw [hvl, ha1]) (fun i pv v hp hv => by
   obtain ⟨x, hx, hxy⟩ := ha2 i pv hp
   exact arg1_rep hs hh1 hbl1 hlent hxy (hvr i x v hx hv))
  obtain ⟨fn, e1, e2, e3⟩ := hent
  have hrun : (execOp a.eval ⟨dst, .call ⟨.value fo, xs, tys⟩, type, pos, after, guard⟩).run P w = .ok (.enter f (xs.map a.eval ++ cv)) w := by
   simp only [execOp, resolve, hfv, Deferred.ofValue, Sem.run_bind, Sem.run_pure, Result.andThen_ok, invoke, callFunc, program, Sem.run, e1, e2, e3, Bool.false_eq_true, if_false]
   simp [e1, e2, e3, Sem.run]
  unfold Oper.wp
  rw [hrun, Oper.upon_enter]
  have harr : ((xs.map a.eval).toList ++ cv.toList).toArray = xs.map a.eval ++ cv := by simp
  rw [harr] at hcall
  refine hcall.mono ?_
  rintro e w' ⟨v, J', rfl, hB, hsame, hrep, hfr⟩
  have b : Back w0 Mv N J J' s1 { s1.app dst ⟨L, r', rowU d0 (s.next d0) fz 0 rows' ++ (boxU bn boxes2 ++ deadU rn), List.replicate (rows'.length + 1) d0⟩ with env := s1.env } a w w' bn rn L bcs boxes boxes' boxes2 rws rows' d0 fz :=
   ⟨hs, hh1, hlent, hbl1, hbl, hB, hsame, hfr, by rw [hnx]; exact hrb, rfl, rfl, fun a n => by rw [hnx]; rfl, fun a => rfl⟩
  have hsim := b.sim' (hsafe.imp (fun h p hp => by rw [hLa p hp]; exact h p hp) (fun h => h.2))
  have hrr := b.raiV_rep (r := r) (r' := r') (by rw [hnx]; exact hr) hrep (hsafe.imp (fun h p hp => by rw [hLa p hp]; exact h p hp) (fun h => h.1))
  exact ⟨_, hsim.put_of (s := s1) dst hrr rfl rfl rfl rfl rfl⟩
end Go.Proofs.Ytmompdklolomfaa.Ab
