import Derived.Test.YtmompdklolomfaaAbOps5
namespace Go.Proofs.Ytmompdklolomfaa.Ab
open Go Go.RowKit
set_option linter.unusedVariables false
set_option linter.unusedSimpArgs false
variable {P : Program} {N : Nat}
abbrev Row := Nat × Nat × List PV   -- element type, cells of an element, elements
def bst (boxes : List (List PV)) (rows : List Row) (tag : Nat) (X : Ctx) : St where
 env := fun _ => .undef
 heap := fun d n => if d = 0 then (boxes[n]?).map .box else if d = tag then (rows[n]?).map (fun r => .arr r.1 r.2.1 false r.2.2) else none
 next := fun d => if d = 0 then boxes.length else if d = tag then rows.length else 0
 X := X
structure Bord (w : World) (s : St) (J : Site) : Prop where
 obj : ∀ d n o, s.heap d n = some o → ObjOk w (Mut s J) J d n o
 sep : ∀ d n d' n' o o' v v' g, s.heap d n = some o → s.heap d' n' = some o' → J d n = some v → J d' n' = some v' → blockOf v = some g → blockOf v' = some g → d = d' ∧ n = n'
 nxt : ∀ d n, s.next d ≤ n → J d n = none
 sepX : ∀ d n o v g, s.heap d n = some o → J d n = some v → blockOf v = some g → ¬ s.X.blk g
 xlt : ∀ g, s.X.blk g → g < w.heap.size
structure Fr (w w' : World) (M M' : Nat → Prop) : Prop where
 block : ∀ b, b < w.heap.size → ¬ M b → w'.heap[b]? = w.heap[b]?
 own : ∀ g, M' g → g < w.heap.size → M g
 size : w.heap.size ≤ w'.heap.size
 os : w'.os = w.os
 tape : w'.tape = w.tape
 output : w'.output = w.output
 drawn : w.drawn ≤ w'.drawn
def Ok (P : Program) (f : FuncId) (args : List PV) (boxes : List (List PV)) (rows : List Row) (r : PV) (boxes' : List (List PV)) (rows' : List Row) : Prop :=
 ∀ (w : World) (X : Ctx) (J : Site) (vals : List Value), Bord w (bst boxes rows 1 X) J → vals.length = args.length →
  (∀ (i : Nat) (pv : PV) (v : Value), args[i]? = some pv → vals[i]? = some v → Rep w (Mut (bst boxes rows 1 X) J) J pv v) →
  Calls P f vals.toArray w fun e w' => ∃ v J', e = .returned v ∧ Bord w' (bst boxes' rows' 2 X) J' ∧ (∀ n, n < boxes'.length → J' 0 n = J 0 n) ∧ Rep w' (Mut (bst boxes' rows' 2 X) J') J' r v ∧
   Fr w w' (OMut (bst boxes rows 1 X) J) (OMut (bst boxes' rows' 2 X) J')
theorem bst_heap {boxes : List (List PV)} {rows : List Row} {tag : Nat} {X : Ctx} {d n : Nat} {o : AObj} (ht : tag ≠ 0) (h : (bst boxes rows tag X).heap d n = some o) :
  (d = 0 ∧ ∃ cs, boxes[n]? = some cs ∧ o = .box cs) ∨ (d = tag ∧ ∃ r, rows[n]? = some r ∧ o = .arr r.1 r.2.1 false r.2.2) := by
 simp only [bst] at h
 split at h
 ·rename_i hd
  rw [Option.map_eq_some_iff] at h
  obtain ⟨cs, h1, h2⟩ := h
  exact .inl ⟨hd, cs, h1, h2.symm⟩
 ·split at h
  ·rename_i hd
   rw [Option.map_eq_some_iff] at h
   obtain ⟨r, h1, h2⟩ := h
   exact .inr ⟨hd, r, h1, h2.symm⟩
  ·cases h
def entry (args : List PV) (boxes : List (List PV)) (rows : List Row) (X : Ctx) : St := { bst boxes rows 1 X with env := fun t => (args[t]?).getD .skip }
def idxOf (p : Nat × Nat) : List (Nat × Nat) → Nat → Option Nat
 | [], _ => none
 | q :: r, k => if p = q then some k else idxOf p r (k + 1)
theorem idxOf_some {p : Nat × Nat} : ∀ {l : List (Nat × Nat)} {k j : Nat}, idxOf p l k = some j → k ≤ j ∧ l[j - k]? = some p
 | [], _, _, h => by cases h
 | q :: r, k, j, h => by
  simp only [idxOf] at h
  split at h
  ·rename_i hq
   injection h with h
   subst h hq
   simp
  ·obtain ⟨h1, h2⟩ := idxOf_some h
   refine ⟨by omega, ?_⟩
   rw [show j - k = (j - (k + 1)) + 1 by omega]
   simpa using h2
theorem idxOf_none {p : Nat × Nat} : ∀ {l : List (Nat × Nat)} {k : Nat}, idxOf p l k = none → p ∉ l
 | [], _, _ => by simp
 | q :: r, k, h => by
  simp only [idxOf] at h
  split at h
  ·cases h
  ·rename_i hq
   have := idxOf_none h
   simp [hq, this]
def St.retC (s : St) (nb : Nat) (names : List (Nat × Nat)) : PV → Option PV
 | .own d n => match idxOf (d, n) names 0 with
  | some k => some (.own 2 k)
  | none => match s.heap d n with | some (.arr _ sz _ xs) => some (.sl sz xs) | _ => none
 | .ptr d n off => if d = 0 ∧ n < nb then some (.ptr 0 n off) else none
 | .bool b => some (.bool b)
 | .int k n => some (.int k n)
 | .str b => some (.str b)
 | .nil => some .nil
 | .sl sz xs => some (.sl sz xs)
 | .rptr cs => some (.rptr cs)
 | _ => none
def mapO {α β : Type} (f : α → Option β) : List α → Option (List β)
 | [] => some []
 | x :: r => match f x, mapO f r with
  | some y, some ys => some (y :: ys)
  | _, _ => none
theorem mapO_get {α β : Type} {f : α → Option β} : ∀ {l : List α} {r : List β}, mapO f l = some r → r.length = l.length ∧ ∀ (i : Nat) (y : β), r[i]? = some y → ∃ x, l[i]? = some x ∧ f x = some y
 | [], r, h => by simp only [mapO, Option.some.injEq] at h; subst h; simp
 | x :: l, r, h => by
  simp only [mapO] at h
  split at h
  ·rename_i y ys h1 h2
   injection h with h
   subst h
   obtain ⟨h3, h4⟩ := mapO_get h2
   refine ⟨by simp [h3], fun i z hz => ?_⟩
   cases i with
   | zero => simp at hz; subst hz; exact ⟨x, rfl, h1⟩
   | succ i => obtain ⟨x', h5, h6⟩ := h4 i z (by simpa using hz); exact ⟨x', by simpa using h5, h6⟩
  ·cases h
def St.ret1 (s : St) (nb : Nat) (names : List (Nat × Nat)) : PV → Option PV
 | .agg cs => (mapO (s.retC nb names) cs).map .agg
 | c => s.retC nb names c
def St.retV (s : St) (nb : Nat) (names : List (Nat × Nat)) : PV → Option PV
 | .tup vs => (mapO (s.ret1 nb names) vs).map .tup
 | c => s.ret1 nb names c
def St.resVar (P : Program) (s : St) : ResultVar → Option PV
 | .tmp t => some (s.env t)
 | .cell a t => match s.cellsAt (s.env a), tyOf P t with
  | some (cs, _), some ti => loadPV ti cs
  | _, _ => none
def St.resPV (P : Program) (s : St) (rs : List ResultVar) : Option PV :=
 match mapO (s.resVar P) rs with
 | some [v] => some v
 | some vs => some (.tup vs)
 | none => none
structure RetOk (P : Program) (N : Nat) (rs : Array ResultVar) (r : PV) (boxes' : List (List PV)) (rows' : List Row) (e : Exit) (s : St) : Prop where
 ex : e = .normal ∨ e = .ret
 lt : ∀ x ∈ rs.toList, match x with | .tmp t => t < N | .cell a _ => a < N
 ret : ∃ names : List (Nat × Nat), names.Nodup ∧ names.length = rows'.length ∧ (∀ (k : Nat) (p : Nat × Nat) (q : Row), names[k]? = some p → rows'[k]? = some q → s.heap p.1 p.2 = some (.arr q.1 q.2.1 false q.2.2)) ∧
  (∀ (i : Nat) (cs' : List PV), boxes'[i]? = some cs' → ∃ cs, s.heap 0 i = some (.box cs) ∧ mapO (s.retC boxes'.length names) cs = some cs') ∧ ∃ pv, s.resPV P rs.toList = some pv ∧ s.retV boxes'.length names pv = some r
def PV.cl : PV → Bool
 | .bool _ | .int _ _ | .str _ | .nil | .sl _ _ | .rptr _ => true
 | _ => false
theorem Rep.cl {w : World} {M : Nat → Prop} {J J' : Site} {c : PV} {v : Value} (h : Rep w M J c v) (hc : c.cl = true) : Rep w M J' c v := by
 cases h with
 | bool _ b => exact .bool _ _
 | int _ k n => exact .int _ _ _
 | str _ b => exact .str _ _
 | nil => exact .nil _
 | sl _ _ _ _ _ g h1 h2 h3 h4 h5 h6 h7 => exact .sl _ _ _ _ _ g h1 h2 h3 h4 h5 h6 h7
 | sl0 => exact .sl0 _ _ _
 | rptr _ _ _ g h1 h2 h3 h4 => exact .rptr _ _ _ g h1 h2 h3 h4
 | _ => cases hc
def bJ (J : Site) (nb : Nat) (names : List (Nat × Nat)) : Site := fun d n => if d = 0 then (if n < nb then J 0 n else none) else if d = 2 then (names[n]?).bind (fun p => J p.1 p.2) else none
section
variable {w0 : World} {Mv : Nat → Prop} {J : Site} {s : St} {a : Act} {w : World} {boxes' : List (List PV)} {rows' : List Row} {names : List (Nat × Nat)}
theorem bJ_omut (h : Sim w0 Mv N J s a w) (hn : ∀ (k : Nat) (p : Nat × Nat) (q : Row), names[k]? = some p → rows'[k]? = some q → s.heap p.1 p.2 = some (.arr q.1 q.2.1 false q.2.2))
  (hb : ∀ (i : Nat) (cs' : List PV), boxes'[i]? = some cs' → ∃ cs, s.heap 0 i = some (.box cs) ∧ mapO (s.retC boxes'.length names) cs = some cs') {X : Ctx} {g : Nat} (hg : OMut (bst boxes' rows' 2 X) (bJ J boxes'.length names) g) :
  ∃ d n o v, s.heap d n = some o ∧ o.mut = true ∧ J d n = some v ∧ blockOf v = some g ∧ ((d = 0 ∧ ∃ cs, o = .box cs) ∨ (d, n) ∈ names) := by
 obtain ⟨d, n, o, v, h1, h2, h3, h4⟩ := hg
 rcases bst_heap (by decide) h1 with ⟨rfl, cs, h5, rfl⟩ | ⟨rfl, r, h5, rfl⟩
 ·obtain ⟨cs0, h6, _⟩ := hb n cs h5
  have hlt : n < boxes'.length := (List.getElem?_eq_some_iff.1 h5).1
  simp only [bJ, if_true, if_pos hlt] at h3
  exact ⟨0, n, _, v, h6, rfl, h3, h4, .inl ⟨rfl, _, rfl⟩⟩
 ·simp only [bJ, if_true] at h3
  rw [if_neg (by decide)] at h3
  obtain ⟨p, hp, h6⟩ := Option.bind_eq_some_iff.1 h3
  have h7 := hn n p r hp h5
  exact ⟨p.1, p.2, _, v, h7, rfl, h6, h4, .inr (List.mem_of_getElem? hp)⟩
theorem bJ_mut (h : Sim w0 Mv N J s a w) (hn : ∀ (k : Nat) (p : Nat × Nat) (q : Row), names[k]? = some p → rows'[k]? = some q → s.heap p.1 p.2 = some (.arr q.1 q.2.1 false q.2.2))
  (hb : ∀ (i : Nat) (cs' : List PV), boxes'[i]? = some cs' → ∃ cs, s.heap 0 i = some (.box cs) ∧ mapO (s.retC boxes'.length names) cs = some cs') {g : Nat} (hg : Mut (bst boxes' rows' 2 s.X) (bJ J boxes'.length names) g) : Mut s J g := by
 rcases hg with hg | hg
 ·exact .inl hg
 ·obtain ⟨d, n, o, v, h1, h2, h3, h4, _⟩ := bJ_omut h hn hb hg
  exact .inr ⟨d, n, o, v, h1, h2, h3, h4⟩
theorem retC_rep (h : Sim w0 Mv N J s a w) (hn : ∀ (k : Nat) (p : Nat × Nat) (q : Row), names[k]? = some p → rows'[k]? = some q → s.heap p.1 p.2 = some (.arr q.1 q.2.1 false q.2.2)) (hnl : names.length = rows'.length)
  (hb : ∀ (i : Nat) (cs' : List PV), boxes'[i]? = some cs' → ∃ cs, s.heap 0 i = some (.box cs) ∧ mapO (s.retC boxes'.length names) cs = some cs') {c c' : PV} (hc : s.retC boxes'.length names c = some c') {v : Value} (hv : Rep w (Mut s J) J c v) :
  Rep w (Mut (bst boxes' rows' 2 s.X) (bJ J boxes'.length names)) (bJ J boxes'.length names) c' v ∧ c'.one = true := by
 have hM : ∀ g, Mut (bst boxes' rows' 2 s.X) (bJ J boxes'.length names) g → Mut s J g := fun g => bJ_mut h hn hb
 have keep : ∀ {pv u}, Rep w (Mut s J) noSite pv u → Rep w (Mut (bst boxes' rows' 2 s.X) (bJ J boxes'.length names)) noSite pv u := fun hr => hr.mono (fun _ _ _ => rfl) (fun g _ hg => hM g hg) (fun _ _ _ h => h)
 unfold St.retC at hc
 split at hc
 ·rename_i d n
  split at hc
  ·rename_i k hk
   injection hc with hc
   subst hc
   obtain ⟨_, hk'⟩ := idxOf_some hk
   rw [Nat.sub_zero] at hk'
   cases hv with
   | own _ _ _ A len cap hJ => exact ⟨.own _ _ _ _ _ _ (by simp [bJ, hk', hJ]), rfl⟩
   | own0 _ _ _ ab hJ => exact ⟨.own0 _ _ _ _ (by simp [bJ, hk', hJ]), rfl⟩
  ·rename_i hk
   split at hc
   ·rename_i e sz fz xs hx
    injection hc with hc
    subst hc
    refine ⟨?_, rfl⟩
    obtain ⟨u, ys, hJ, hown, hp, hw, ho, hr⟩ := h.obj d n _ hx
    rcases own_val hv hJ with hvu | ⟨ab, rfl, rfl⟩
    case inr => exact rep_empty hown hp
    subst hvu
    obtain ⟨A, c, hvf⟩ := own_form hown
    refine rep_of_row hown hp hw ho (fun k c y hc hy => keep (hr k c y hc hy)) (fun g hg hm => ?_)
    have hg' : blockOf v = some g := by rw [blockOf_own hvf]; exact hg
    rcases hm with hm | hm
    ·exact h.sepX d n _ _ g hx hJ hg' hm
    ·obtain ⟨d', n', o, v', h1, h2, h3, h4, h5⟩ := bJ_omut h hn hb hm
     obtain ⟨rfl, rfl⟩ := h.sep _ _ _ _ _ _ _ _ g hx h1 hJ h3 hg' h4
     rcases h5 with ⟨_, cs, rfl⟩ | h5
     ·rw [hx] at h1; cases h1
     ·exact idxOf_none hk h5
   ·cases hc
 ·rename_i d n off
  split at hc
  ·rename_i hd
   injection hc with hc
   subst hc
   cases hv with
   | ptr _ _ _ _ g hJ => exact ⟨.ptr _ _ _ _ _ (by obtain ⟨rfl, hlt⟩ := hd; simp only [bJ, if_true, if_pos hlt]; exact hJ), rfl⟩
  ·cases hc
 all_goals first
  | (cases hc; done)
  | (injection hc with hc; subst hc; exact ⟨(keep (hv.cl rfl)).cl rfl, rfl⟩)
end
end Go.Proofs.Ytmompdklolomfaa.Ab
