import Derived.Test.YtmompdklolomfaaAbCall2
namespace Go.Proofs.Ytmompdklolomfaa.Ab
open Go Go.RowKit
set_option linter.unusedVariables false
set_option linter.unusedSimpArgs false
variable {P : Program} {N : Nat}
def assoc (l : List (Nat × PV)) (t : Nat) : PV :=
 match l with
 | [] => .undef
 | (t', v) :: r => bif t == t' then v else assoc r t
def assocO (l : List ((Nat × Nat) × AObj)) (d n : Nat) : Option AObj :=
 match l with
 | [] => none
 | ((d', n'), o) :: r => bif d == d' && n == n' then some o else assocO r d n
def assocN (l : List (Nat × Nat)) (d : Nat) : Nat :=
 match l with
 | [] => 0
 | (d', n) :: r => bif d == d' then n else assocN r d
def lit (tl : List (Nat × PV)) (ol : List ((Nat × Nat) × AObj)) (nx : List (Nat × Nat)) (X : Ctx) : St where
 env := assoc tl
 heap := assocO ol
 next := assocN nx
 X := X
def Reb (N : Nat) (s s' : St) : Prop := s'.X = s.X ∧ ∀ w0 Mv J a w, Sim w0 Mv N J s a w → ∃ J', Sim w0 Mv N J' s' a w
theorem Reb.refl (s : St) : Reb N s s := ⟨rfl, fun _ _ J _ _ h => ⟨J, h⟩⟩
theorem aw_reb {c : Code} {s s' : St} {Q : Exit → St → Prop} (h : Reb N s s') (k : AW P N c s' Q) : AW P N c s Q := fun w0 Mv J a w hs => by
 obtain ⟨J', hs'⟩ := h.2 w0 Mv J a w hs
 exact wp_mono (k w0 Mv J' a w hs') fun e a w ⟨s2, J2, k1, k2, k3⟩ => ⟨s2, J2, k1, k2.trans h.1, k3⟩
theorem aw_loop' {c : Code} {s : St} {Q : Exit → St → Prop} (I : Nat → St → Prop) (n0 : Nat) (h0 : ∃ s', Reb N s s' ∧ I n0 s') (round : ∀ n s, I n s → AW P N c s (thenA (fun s' => ∃ m, m < n ∧ ∃ s'', Reb N s' s'' ∧ I m s'') Q)) : AW P N (.loop c) s Q := by
 obtain ⟨s0, hr, hI⟩ := h0
 refine aw_reb hr (aw_loop (fun n s => ∃ s'', Reb N s s'' ∧ I n s'') n0 ⟨s0, Reb.refl _, hI⟩ ?_)
 rintro n s ⟨s1, hr, hI⟩
 exact aw_reb hr ((round n s1 hI).mono fun e s h => by
  cases e <;> first | exact h | (obtain ⟨m, hm, s'', h1, h2⟩ := h; exact ⟨m, hm, s'', h1, h2⟩))
theorem aw_cut {c : Code} {s : St} {Q : Exit → St → Prop} (R : St → Prop) (h : AW P N c s (thenA (fun s1 => ∃ s2, Reb N s1 s2 ∧ R s2) Q)) {c2 : Code} (k : ∀ s2, R s2 → AW P N c2 s2 Q) : AW P N (.seq c c2) s Q :=
 aw_seq (h.mono fun e s h => by
  cases e <;> first | exact h | (obtain ⟨s2, h1, h2⟩ := h; exact aw_reb h1 (k s2 h2)))
def renC (s : St) (nm nn : Nm) : PV → Option PV
 | .own d n => match idxOf (d, n) nm 0 with
  | some k => (nn[k]?).map (fun p => .own p.1 p.2)
  | none => match s.heap d n with | some (.arr _ sz _ xs) => some (.sl sz xs) | _ => none
 | .ptr d n off => match idxOf (d, n) nm 0 with
  | some k => (nn[k]?).map (fun p => .ptr p.1 p.2 off)
  | none => none
 | .mp d n => match idxOf (d, n) nm 0 with
  | some k => (nn[k]?).map (fun p => .mp p.1 p.2)
  | none => none
 | .bsl d n m => match idxOf (d, n) nm 0 with
  | some k => (nn[k]?).map (fun p => .bsl p.1 p.2 m)
  | none => none
 | .bool b => some (.bool b)
 | .int k n => some (.int k n)
 | .str b => some (.str b)
 | .nil => some .nil
 | .sl sz xs => some (.sl sz xs)
 | .rptr cs => some (.rptr cs)
 | _ => none
def ren1 (s : St) (nm nn : Nm) : PV → Option PV
 | .agg cs => (mapO (renC s nm nn) cs).map .agg
 | .fn f cs => (mapO (renC s nm nn) cs).map (.fn f)
 | .undef => some .undef
 | .skip => some .skip
 | c => renC s nm nn c
def renO (s : St) (nm nn : Nm) : AObj → Option AObj
 | .box cs => (mapO (renC s nm nn) cs).map .box
 | .arr e sz fz xs => some (.arr e sz fz xs)
 | .mp k ks => some (.mp k ks)
theorem assocO_some : ∀ {l : List ((Nat × Nat) × AObj)} {d n : Nat} {o : AObj}, assocO l d n = some o → ∃ (k : Nat), l[k]? = some ((d, n), o)
 | [], _, _, _, h => by cases h
 | ((d', n'), o') :: r, d, n, o, h => by
  simp only [assocO] at h
  cases hb : (d == d' && n == n') with
  | true =>
   rw [hb] at h
   simp only [Bool.and_eq_true, beq_iff_eq] at hb
   obtain ⟨rfl, rfl⟩ := hb
   injection h with h
   subst h
   exact ⟨0, rfl⟩
  | false =>
   rw [hb] at h
   obtain ⟨k, hk⟩ := assocO_some (l := r) h
   exact ⟨k + 1, by simpa using hk⟩
theorem assoc_cases : ∀ (l : List (Nat × PV)) (t : Nat), assoc l t = .undef ∨ (t, assoc l t) ∈ l
 | [], _ => .inl rfl
 | (t', v) :: r, t => by
  simp only [assoc]
  cases hb : (t == t') with
  | true => rw [beq_iff_eq] at hb; subst hb; exact .inr List.mem_cons_self
  | false =>
   rcases assoc_cases r t with h | h
   ·exact .inl h
   ·exact .inr (List.mem_cons_of_mem _ h)
theorem reb_of {s : St} (tl : List (Nat × PV)) (nm : Nm) (ol : List ((Nat × Nat) × AObj)) (nx : List (Nat × Nat)) (hnm : nm.Nodup) (hnn : (ol.map (·.1)).Nodup) (hl : nm.length = ol.length)
  (henv : ∀ p ∈ tl, ren1 s nm (ol.map (·.1)) (s.env p.1) = some p.2) (hobj : ∀ (k : Nat) (p : Nat × Nat) (q : (Nat × Nat) × AObj), nm[k]? = some p → ol[k]? = some q → ∃ o, s.heap p.1 p.2 = some o ∧ renO s nm (ol.map (·.1)) o = some q.2)
  (h0 : ∀ (k : Nat) (p : Nat × Nat) (q : (Nat × Nat) × AObj), nm[k]? = some p → ol[k]? = some q → q.1.1 = 0 → p = q.1) (hnx : ∀ q ∈ ol, q.1.2 < assocN nx q.1.1) (hnx0 : s.next 0 ≤ assocN nx 0) : Reb N s (lit tl ol nx s.X) := by
 refine ⟨rfl, fun w0 Mv J a w h => ?_⟩
 let nn : Nm := ol.map (·.1)
 have hnnl : nn.length = nm.length := by simp [nn, hl]
 let J' : Site := fun d n => match idxOf (d, n) nn 0 with | some k => (nm[k]?).bind (fun p => J p.1 p.2) | none => if d = 0 then J 0 n else none
 have hJ : ∀ (k : Nat) (p q : Nat × Nat), nm[k]? = some p → nn[k]? = some q → J' q.1 q.2 = J p.1 p.2 := by
  intro k p q hp hq
  show (match idxOf (q.1, q.2) nn 0 with | some k => (nm[k]?).bind (fun p => J p.1 p.2) | none => if q.1 = 0 then J 0 q.2 else none) = _
  cases hi : idxOf (q.1, q.2) nn 0 with
  | none => exact absurd (List.mem_of_getElem? hq) (idxOf_none hi)
  | some j =>
   obtain ⟨_, hj⟩ := idxOf_some hi
   rw [Nat.sub_zero] at hj
   have : j = k := (List.getElem?_inj (List.getElem?_eq_some_iff.1 hj).1 hnn).1 (hj.trans hq.symm)
   subst this
   simp [hp]
 have hob : ∀ d n o, assocO ol d n = some o → ∃ (k : Nat) (p : Nat × Nat) (o0 : AObj), nm[k]? = some p ∧ nn[k]? = some (d, n) ∧ ol[k]? = some ((d, n), o) ∧ s.heap p.1 p.2 = some o0 ∧ renO s nm nn o0 = some o ∧ J' d n = J p.1 p.2 := by
  intro d n o ho
  obtain ⟨k, hk⟩ := assocO_some ho
  have hlt : k < nm.length := by rw [hl]; exact (List.getElem?_eq_some_iff.1 hk).1
  have hp : nm[k]? = some nm[k] := List.getElem?_eq_getElem hlt
  have hq : nn[k]? = some (d, n) := by simp [nn, hk]
  obtain ⟨o0, h1, h2⟩ := hobj k _ _ hp hk
  exact ⟨k, _, o0, hp, hq, hk, h1, h2, hJ k _ _ hp hq⟩
 have hmut : ∀ o0 o, renO s nm nn o0 = some o → o.mut = o0.mut := by
  intro o0 o h
  cases o0 with
  | box cs => simp only [renO, Option.map_eq_some_iff] at h; obtain ⟨_, _, rfl⟩ := h; rfl
  | arr e sz fz xs => simp only [renO, Option.some.injEq] at h; subst h; rfl
  | mp k ks => simp only [renO, Option.some.injEq] at h; subst h; rfl
 have hom : ∀ g, OMut (lit tl ol nx s.X) J' g → ∃ (p : Nat × Nat) (o0 : AObj) (v : Value), p ∈ nm ∧ s.heap p.1 p.2 = some o0 ∧ o0.mut = true ∧ J p.1 p.2 = some v ∧ blockOf v = some g := by
  rintro g ⟨d, n, o, v, h1, h2, h3, h4⟩
  obtain ⟨k, p, o0, k1, k2, _, k3, k4, k5⟩ := hob d n o h1
  exact ⟨p, o0, v, List.mem_of_getElem? k1, k3, by rw [← hmut _ _ k4]; exact h2, k5 ▸ h3, h4⟩
 have hM : ∀ g, Mut (lit tl ol nx s.X) J' g → Mut s J g := by
  rintro g (hg | hg)
  ·exact .inl hg
  ·obtain ⟨p, o0, v, _, h1, h2, h3, h4⟩ := hom g hg
   exact .inr ⟨p.1, p.2, o0, v, h1, h2, h3, h4⟩
 have keep : ∀ {pv u}, Rep w (Mut s J) noSite pv u → Rep w (Mut (lit tl ol nx s.X) J') noSite pv u := fun hr => hr.mono (fun _ _ _ => rfl) (fun g _ hg => hM g hg) (fun _ _ _ h => h)
 have hC : ∀ {c c' : PV} {v : Value}, renC s nm nn c = some c' → Rep w (Mut s J) J c v → Rep w (Mut (lit tl ol nx s.X) J') J' c' v ∧ c'.one = true := by
  intro c c' v hc hv
  unfold renC at hc
  split at hc
  ·rename_i d n
   split at hc
   ·rename_i k hk
    rw [Option.map_eq_some_iff] at hc
    obtain ⟨q, hq, rfl⟩ := hc
    obtain ⟨_, hk'⟩ := idxOf_some hk
    rw [Nat.sub_zero] at hk'
    cases hv with
    | own _ _ _ A len cap hJ' => exact ⟨.own _ _ _ _ _ _ (by rw [hJ k _ q hk' hq]; exact hJ'), rfl⟩
    | own0 _ _ _ ab hJ' => exact ⟨.own0 _ _ _ _ (by rw [hJ k _ q hk' hq]; exact hJ'), rfl⟩
   ·rename_i hk
    split at hc
    ·rename_i e sz fz xs hx
     injection hc with hc
     subst hc
     refine ⟨?_, rfl⟩
     obtain ⟨u, ys, hJ1, hown, hp, hw, ho, hr⟩ := h.obj d n _ hx
     rcases own_val hv hJ1 with hvu | ⟨ab, rfl, rfl⟩
     case inr => exact rep_empty hown hp
     subst hvu
     obtain ⟨A, c, hvf⟩ := own_form hown
     refine rep_of_row hown hp hw ho (fun k c y hc hy => keep (hr k c y hc hy)) (fun g hg hm => ?_)
     have hg' : blockOf v = some g := by rw [blockOf_own hvf]; exact hg
     rcases hm with hm | hm
     ·exact h.sepX d n _ _ g hx hJ1 hg' hm
     ·obtain ⟨p, o0, v', h1, h2, h3, h4, h5⟩ := hom g hm
      obtain ⟨e1, e2⟩ := h.sep _ _ _ _ _ _ _ _ g hx h2 hJ1 h4 hg' h5
      have hp : p = (d, n) := by rw [e1, e2]
      subst hp
      exact idxOf_none hk h1
    ·cases hc
  ·rename_i d n off
   split at hc
   ·rename_i k hk
    rw [Option.map_eq_some_iff] at hc
    obtain ⟨q, hq, rfl⟩ := hc
    obtain ⟨_, hk'⟩ := idxOf_some hk
    rw [Nat.sub_zero] at hk'
    cases hv with
    | ptr _ _ _ _ g hJ' => exact ⟨.ptr _ _ _ _ _ (by rw [hJ k _ q hk' hq]; exact hJ'), rfl⟩
   ·cases hc
  ·rename_i d n
   split at hc
   ·rename_i k hk
    rw [Option.map_eq_some_iff] at hc
    obtain ⟨q, hq, rfl⟩ := hc
    obtain ⟨_, hk'⟩ := idxOf_some hk
    rw [Nat.sub_zero] at hk'
    cases hv with
    | mp _ _ _ g hJ' => exact ⟨.mp _ _ _ _ (by rw [hJ k _ q hk' hq]; exact hJ'), rfl⟩
   ·cases hc
  ·rename_i d n m
   split at hc
   ·rename_i k hk
    rw [Option.map_eq_some_iff] at hc
    obtain ⟨q, hq, rfl⟩ := hc
    obtain ⟨_, hk'⟩ := idxOf_some hk
    rw [Nat.sub_zero] at hk'
    cases hv with
    | bsl _ _ _ _ g cap hJ' hc => exact ⟨.bsl _ _ _ _ _ _ (by rw [hJ k _ q hk' hq]; exact hJ') hc, rfl⟩
   ·cases hc
  all_goals first
   | (cases hc; done)
   | (injection hc with hc; subst hc; exact ⟨(keep (hv.cl rfl)).cl rfl, rfl⟩)
 refine ⟨J', h.size, h.defers, fun t ht => ?_, fun d n o ho => ?_, fun d n d' n' o o' v v' g h1 h2 h3 h4 h5 h6 => ?_, fun d n hle => ?_, h.frame, fun g hg hlt => ?_, h.xlt, fun d n o v g h1 h2 h3 => ?_, fun n v hv => ?_, h.grow, h.os, h.tape, h.output, h.drawn⟩
 ·show Rep w _ J' (assoc tl t) _
  rcases assoc_cases tl t with he | he
  ·rw [he]; exact .undef _ _
  ·have hr := henv _ he
   have hv := h.env t ht
   dsimp only at hr
   generalize s.env t = c at hr hv
   generalize a.tmps.getD t Go.undef = u0 at hv ⊢
   generalize assoc tl t = c' at hr
   unfold ren1 at hr
   split at hr
   ·rw [Option.map_eq_some_iff] at hr
    obtain ⟨cs', m1, rfl⟩ := hr
    obtain ⟨m2, m3⟩ := mapO_get m1
    cases hv with
    | agg _ _ vs hl hr =>
     refine .agg _ _ _ (by rw [m2, hl]) fun i y u hy hu => ?_
     obtain ⟨x, hx, hxy⟩ := m3 i y hy
     exact (hC hxy (hr i x u hx hu)).1
   ·rw [Option.map_eq_some_iff] at hr
    obtain ⟨cs', m1, rfl⟩ := hr
    obtain ⟨m2, m3⟩ := mapO_get m1
    cases hv with
    | fn _ _ _ vs hl hr =>
     refine .fn _ _ _ _ (by rw [m2, hl]) fun i y u hy hu => ?_
     obtain ⟨x, hx, hxy⟩ := m3 i y hy
     exact (hC hxy (hr i x u hx hu)).1
   ·injection hr with hr; subst hr; exact .undef _ _
   ·injection hr with hr; subst hr; cases hv; exact .skip _
   ·exact (hC hr hv).1
 ·obtain ⟨k, p, o0, k1, k2, _, k3, k4, k5⟩ := hob d n o ho
  have hobj0 := h.obj _ _ _ k3
  cases o0 with
  | box cs =>
   simp only [renO, Option.map_eq_some_iff] at k4
   obtain ⟨cs', m1, rfl⟩ := k4
   obtain ⟨m2, m3⟩ := mapO_get m1
   obtain ⟨g, cur, t, a1, a2, a3, a4, a5⟩ := hobj0
   refine ⟨g, cur, t, k5.trans a1, a2, by rw [a3, m2], fun c hc => ?_, fun j c u hc hu => ?_⟩
   ·obtain ⟨j, hj⟩ := List.getElem?_of_mem hc
    obtain ⟨x, hx, hxy⟩ := m3 j c hj
    have hjl : j < cur.size := by rw [a3]; exact (List.getElem?_eq_some_iff.1 hx).1
    exact (hC hxy (a5 j x _ hx (Array.getElem?_eq_getElem hjl))).2
   ·obtain ⟨x, hx, hxy⟩ := m3 j c hc
    exact (hC hxy (a5 j x u hx hu)).1
  | arr e sz fz xs =>
   simp only [renO, Option.some.injEq] at k4
   subst k4
   obtain ⟨u, ys, a1, a2, a3, a4, a5, a6⟩ := hobj0
   exact ⟨u, ys, k5.trans a1, a2, a3, a4, a5, fun j c y hc hy => keep (a6 j c y hc hy)⟩
  | mp k ks =>
   simp only [renO, Option.some.injEq] at k4
   subst k4
   obtain ⟨g, es, clock, a1, a2, a3⟩ := hobj0
   exact ⟨g, es, clock, k5.trans a1, a2, a3⟩
 ·obtain ⟨k, p, o0, k1, k2, _, k3, k4, k5⟩ := hob d n o h1
  obtain ⟨j, q, o1, j1, j2, _, j3, j4, j5⟩ := hob d' n' o' h2
  obtain ⟨e1, e2⟩ := h.sep _ _ _ _ _ _ _ _ g k3 j3 (k5 ▸ h3) (j5 ▸ h4) h5 h6
  have hpq : p = q := Prod.ext e1 e2
  subst hpq
  have : k = j := (List.getElem?_inj (List.getElem?_eq_some_iff.1 k1).1 hnm).1 (k1.trans j1.symm)
  subst this
  rw [k2] at j2
  injection j2 with j2
  injection j2 with e3 e4
  exact ⟨e3, e4⟩
 ·have hheap : assocO ol d n = none := by
   cases ho : assocO ol d n with
   | none => rfl
   | some o =>
    obtain ⟨k, hk⟩ := assocO_some ho
    have := hnx _ (List.mem_of_getElem? hk)
    dsimp only at this
    have hle' : assocN nx d ≤ n := hle
    omega
  refine ⟨hheap, ?_⟩
  show (match idxOf (d, n) nn 0 with | some k => (nm[k]?).bind (fun p => J p.1 p.2) | none => if d = 0 then J 0 n else none) = none
  cases hi : idxOf (d, n) nn 0 with
  | some k =>
   obtain ⟨_, hk⟩ := idxOf_some hi
   rw [Nat.sub_zero] at hk
   simp only [nn, List.getElem?_map, Option.map_eq_some_iff] at hk
   obtain ⟨q, hq, he⟩ := hk
   have := hnx _ (List.mem_of_getElem? hq)
   rw [he] at this
   have hle' : assocN nx d ≤ n := hle
   dsimp only at this
   omega
  | none =>
   dsimp only
   split
   ·rename_i hd
    subst hd
    have hle' : assocN nx 0 ≤ n := hle
    exact (h.nxt 0 n (by omega)).2
   ·rfl
 ·obtain ⟨p, o0, v, _, h1, h2, h3, h4⟩ := hom g hg
  exact h.mutb g ⟨p.1, p.2, o0, v, h1, h2, h3, h4⟩ hlt
 ·obtain ⟨k, p, o0, k1, k2, _, k3, k4, k5⟩ := hob d n o h1
  exact h.sepX _ _ _ _ g k3 (k5 ▸ h2) h3
 ·have hv' := h.ext n v hv
  show (match idxOf (0, n) nn 0 with | some k => (nm[k]?).bind (fun p => J p.1 p.2) | none => if 0 = 0 then J 0 n else none) = some v
  cases hi : idxOf (0, n) nn 0 with
  | some k =>
   obtain ⟨_, hk⟩ := idxOf_some hi
   rw [Nat.sub_zero] at hk
   simp only [nn, List.getElem?_map, Option.map_eq_some_iff] at hk
   obtain ⟨q, hq, he⟩ := hk
   have hlt : k < nm.length := by rw [hl]; exact (List.getElem?_eq_some_iff.1 hq).1
   have hp := h0 k nm[k] q (List.getElem?_eq_getElem hlt) hq (by rw [he])
   simp only [List.getElem?_eq_getElem hlt, Option.bind_some, hp, he]
   exact hv'
  | none => simpa using hv'
end Go.Proofs.Ytmompdklolomfaa.Ab
