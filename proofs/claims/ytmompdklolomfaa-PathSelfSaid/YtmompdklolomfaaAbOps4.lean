import Derived.Test.YtmompdklolomfaaAbOps3
namespace Go.Proofs.Ytmompdklolomfaa.Ab
open Go Go.RowKit
set_option linter.unusedVariables false
set_option linter.unusedSimpArgs false
variable {P : Program} {N : Nat} {ops : Array Oper} {s : St} {dst : Option Tmp} {type : TypeId} {pos : String} {after : Array Edge} {guard : Option (Nat × Bool)}
theorem Sim.freeze {w0 : World} {Mv : Nat → Prop} {J : Site} {a : Act} {w : World} (h : Sim w0 Mv N J s a w) {d n e sz : Nat} {fz : Bool} {xs : List PV} (hb : s.heap d n = some (.arr e sz fz xs)) :
  Sim w0 Mv N J (s.setH d n (some (.arr e sz true xs))) a w := by
 have hM : ∀ b, OMut (s.setH d n (some (.arr e sz true xs))) J b → OMut s J b := by
  rintro b ⟨d', n', o', v', h1, h2, h3, h4⟩
  simp only [St.setH] at h1
  split at h1
  ·injection h1 with h1; subst h1; cases h2
  ·exact ⟨d', n', o', v', h1, h2, h3, h4⟩
 have hM' : ∀ b, Mut (s.setH d n (some (.arr e sz true xs))) J b → Mut s J b := fun b hm => by
  rcases hm with hm | hm
  ·exact .inl hm
  ·exact .inr (hM b hm)
 have hex : ∀ d' n' o', (s.setH d n (some (.arr e sz true xs))).heap d' n' = some o' → ∃ o'', s.heap d' n' = some o'' := by
  intro d' n' o' h1
  simp only [St.setH] at h1
  split at h1
  ·rename_i hc; obtain ⟨rfl, rfl⟩ := hc; exact ⟨_, hb⟩
  ·exact ⟨_, h1⟩
 refine h.update (row := none) (World.grownBy.refl w none) (Nat.le_refl _) (by simp) (fun _ _ _ h => h) rfl rfl (fun b _ hm => hM b hm) (fun d' n' o' h1 => ?_) ?_ (fun d' n' hle => ?_) (fun d' n' o' v' g h1 h2 h3 => by
  obtain ⟨o'', h1'⟩ := hex _ _ _ h1
  exact h.sepX _ _ _ _ g h1' h2 h3)
 ·simp only [St.setH] at h1
  split at h1
  ·rename_i hc
   obtain ⟨rfl, rfl⟩ := hc
   injection h1 with h1
   subst h1
   refine .inr ?_
   have := (h.obj d' n' _ hb).kept (M' := Mut (s.setH d' n' (some (.arr e sz true xs))) J) (J' := J) (fun _ _ _ => rfl) (fun b _ hm => hM' b hm) (fun _ _ _ h => h) (fun _ _ _ _ => rfl)
   exact this
  ·exact .inl ⟨h1, by simp⟩
 ·intro d1 n1 d2 n2 o1 o2 v1 v2 g h1 h2 h3 h4 h5 h6
  have hex : ∀ d' n' o', (s.setH d n (some (.arr e sz true xs))).heap d' n' = some o' → ∃ o'', s.heap d' n' = some o'' := by
   intro d' n' o' h1
   simp only [St.setH] at h1
   split at h1
   ·rename_i hc; obtain ⟨rfl, rfl⟩ := hc; exact ⟨_, hb⟩
   ·exact ⟨_, h1⟩
  obtain ⟨o1', h1'⟩ := hex _ _ _ h1
  obtain ⟨o2', h2'⟩ := hex _ _ _ h2
  exact h.sep _ _ _ _ _ _ _ _ g h1' h2' h3 h4 h5 h6
 ·have := h.nxt d' n' hle
  refine ⟨?_, this.2⟩
  simp only [St.setH]
  split
  ·rename_i hc; obtain ⟨rfl, rfl⟩ := hc; rw [this.1] at hb; cases hb
  ·exact this.1
theorem aw_freeze {c : Code} {Q : Exit → St → Prop} {d n e sz : Nat} {fz : Bool} {xs : List PV} (hb : s.heap d n = some (.arr e sz fz xs)) (h : AW P N c (s.setH d n (some (.arr e sz true xs))) Q) : AW P N c s Q :=
 fun w0 Mv J a w hs => h w0 Mv J a w (hs.freeze hb)
def splice (cs : List PV) (off : Nat) (vs : List PV) : List PV := cs.take off ++ vs ++ cs.drop (off + vs.length)
theorem splice_get {α : Type} {cs vs : List α} {off k : Nat} (hfit : off + vs.length ≤ cs.length) : (cs.take off ++ vs ++ cs.drop (off + vs.length))[k]? = if off ≤ k ∧ k < off + vs.length then vs[k - off]? else cs[k]? := by
 have h1 : (cs.take off).length = off := by rw [List.length_take]; omega
 by_cases ha : k < off
 ·rw [List.append_assoc, List.getElem?_append_left (by omega), List.getElem?_take, if_pos ha, if_neg (by omega)]
 ·by_cases hb : k < off + vs.length
  ·rw [List.getElem?_append_left (by rw [List.length_append, h1]; omega), List.getElem?_append_right (by omega), h1, if_pos ⟨by omega, hb⟩]
  ·rw [List.getElem?_append_right (by rw [List.length_append, h1]; omega), List.length_append, h1, List.getElem?_drop, if_neg (by omega)]
   congr 1; omega
theorem Sim.turn {w0 : World} {Mv : Nat → Prop} {J : Site} {a : Act} {w w' : World} (h : Sim w0 Mv N J s a w) {d n : Nat} {o o' : AObj} {v : Value} {g : Nat} (hb : s.heap d n = some o) (hm : o.mut = true) (hm' : o'.mut = true) (hJ : J d n = some v) (hg : blockOf v = some g)
  (hw : w.grownBy w' (some g)) (hd : w.drawn ≤ w'.drawn) {s' : St} (he : s'.env = s.env) (hX : s'.X = s.X) (hh : ∀ a m, s'.heap a m = if a = d ∧ m = n then some o' else s.heap a m) (hn : s'.next = s.next)
  (hok : ∀ M, (∀ J1 pv u, Rep w (Mut s J) J1 pv u → Rep w' M J1 pv u) → ObjOk w' M J d n o') : Sim w0 Mv N J s' a w' := by
 have hmg : OMut s J g := ⟨d, n, o, v, hb, hm, hJ, hg⟩
 have hM : ∀ b, OMut s' J b → OMut s J b := by
  rintro b ⟨d', n', o1, v', h1, h2, h3, h4⟩
  rw [hh] at h1
  split at h1
  ·rename_i hc
   obtain ⟨rfl, rfl⟩ := hc
   exact ⟨d', n', o, v', hb, hm, h3, h4⟩
  ·exact ⟨d', n', o1, v', h1, h2, h3, h4⟩
 have hM' : ∀ b, Mut s' J b → Mut s J b := fun b hm => by
  rcases hm with hm | hm
  ·exact .inl (hX ▸ hm)
  ·exact .inr (hM b hm)
 have hwb : ∀ b, b < w.heap.size → ¬ Mut s J b → w'.heap[b]? = w.heap[b]? := fun b hlt hnm => hw.block b hlt (fun e => hnm (by injection e with e; rw [e]; exact .inr hmg))
 have hex : ∀ d' n' o1, s'.heap d' n' = some o1 → ∃ o'', s.heap d' n' = some o'' := by
  intro d' n' o1 h1
  rw [hh] at h1
  split at h1
  ·rename_i hc; obtain ⟨rfl, rfl⟩ := hc; exact ⟨_, hb⟩
  ·exact ⟨_, h1⟩
 refine h.update hw hd (fun g' e => by injection e with e; rw [← e]; exact hmg) (fun _ _ _ h => h) he hX (fun b _ hm => hM b hm) (fun d' n' o1 h1 => ?_) ?_ (fun d' n' hle => ?_) (fun d' n' o' v' g h1 h2 h3 => by
  obtain ⟨o'', h1'⟩ := hex _ _ _ h1
  exact h.sepX _ _ _ _ g h1' h2 h3)
 ·rw [hh] at h1
  split at h1
  ·rename_i hc
   obtain ⟨rfl, rfl⟩ := hc
   injection h1 with h1
   subst h1
   exact .inr (hok _ fun J1 pv u hr => hr.mono hwb (fun b _ hm => hM' b hm) (fun _ _ _ h => h))
  ·rename_i hc
   refine .inl ⟨h1, fun v1 g1 hv1 hg1 heq => ?_⟩
   injection heq with heq
   subst heq
   obtain ⟨rfl, rfl⟩ := h.sep _ _ _ _ _ _ _ _ _ h1 hb hv1 hJ hg1 hg
   exact hc ⟨rfl, rfl⟩
 ·intro d1 n1 d2 n2 o1 o2 v1 v2 g1 h1 h2 h3 h4 h5 h6
  have hex : ∀ d' n' o1, s'.heap d' n' = some o1 → ∃ o'', s.heap d' n' = some o'' := by
   intro d' n' o1 h1
   rw [hh] at h1
   split at h1
   ·rename_i hc; obtain ⟨rfl, rfl⟩ := hc; exact ⟨_, hb⟩
   ·exact ⟨_, h1⟩
  obtain ⟨o1', h1'⟩ := hex _ _ _ h1
  obtain ⟨o2', h2'⟩ := hex _ _ _ h2
  exact h.sep _ _ _ _ _ _ _ _ g1 h1' h2' h3 h4 h5 h6
 ·rw [hn] at hle
  have := h.nxt d' n' hle
  refine ⟨?_, this.2⟩
  rw [hh]
  split
  ·rename_i hc; obtain ⟨rfl, rfl⟩ := hc; rw [this.1] at hb; cases hb
  ·exact this.1
theorem grownBy_setRow {w : World} {g : Nat} (cs : Array Value) : w.grownBy (w.setRow g cs) (some g) :=
 ⟨rfl, rfl, rfl, by simp [World.setRow], fun k _ hk => setRow_other w g k _ (fun e => hk (by rw [e]))⟩
theorem does_turn {op : Op} {d n : Nat} {o o' : AObj} {L : List (Nat × Nat)} (hb : s.heap d n = some o) (hm : o.mut = true) (hm' : o'.mut = true)
  (h : ∀ w0 Mv J s' a w, Sim w0 Mv N J s' a w → (∀ p ∈ L, s'.heap p.1 p.2 = s.heap p.1 p.2) → s'.heap d n = some o → (∀ x ∈ op.operands, Rep w (Mut s' J) J (s.ev x) (a.eval x)) →
   ∃ v g w', (execOp a.eval ⟨none, op, type, pos, after, guard⟩).run P w = .ok .skip w' ∧ J d n = some v ∧ blockOf v = some g ∧ w.grownBy w' (some g) ∧
    (∀ M, (∀ J1 pv u, Rep w (Mut s' J) J1 pv u → Rep w' M J1 pv u) → ObjOk w' M J d n o')) :
  Does P N ops ⟨none, op, type, pos, after, guard⟩ s ⟨L, .skip, [((d, n), some o')], []⟩ := by
 intro s' ha hlt w0 Mv J a w hs Q
 have hb' := (ha.up _ List.mem_cons_self).trans hb
 obtain ⟨v, g, w', hrun, hJ, hg, hw, hok⟩ := h w0 Mv J s' a w hs ha.rd hb' fun x hx => by
  rw [← ev_agree ha hx]
  exact rep_ev hs fun t ht => hlt t (looks_op (ht ▸ hx))
 unfold Oper.wp
 rw [hrun, Oper.upon_skip]
 exact ⟨J, hs.turn hb' hm hm' hJ hg hw (run_drawn _ hrun) rfl rfl (fun a m => rfl) (by funext a; rfl) hok⟩
theorem does_store {t : TypeId} {p x : Operand} {d n off : Nat} {cs : List PV} {pv : PV} {ti : TyI} (hp : s.ev p = .ptr d n off) (hx : s.ev x = pv) (hb : s.heap d n = some (.box cs)) (ht : tyOf P t = some ti)
  (ho : ∀ c ∈ pv.cells, c.one = true) (hsz : pv.cells.length = ti.size) (hfit : off + ti.size ≤ cs.length) :
  Does P N ops ⟨none, .store t p x, type, pos, after, guard⟩ s ⟨[], .skip, [((d, n), some (.box (splice cs off pv.cells)))], []⟩ :=
 does_turn hb rfl rfl fun w0 Mv J s' a w hs _ hb' hr => by
  have h1 := hr p (by simp [Op.operands])
  have h2 := hr x (by simp [Op.operands])
  rw [hp] at h1
  rw [hx] at h2
  generalize hcp : a.eval p = cp at h1
  generalize hcx : a.eval x = cx at h2
  obtain ⟨g, cur, tt, hJ, hh, hlen, hone, hrep⟩ := hs.obj d n _ hb'
  obtain ⟨h3, h4⟩ := rep_cells h2 ho
  cases h1 with
  | ptr _ _ _ _ g' hJ' =>
   rw [hJ] at hJ'
   have hg : g = g' := by injection hJ' with e; injection e with e; injection e with e; injection e
   subst hg
   have hone2 : ∀ v ∈ cx.cells.toList, v.oneCell' = true := by
    intro v hv
    obtain ⟨k, hk⟩ := List.getElem?_of_mem hv
    have hlt : k < pv.cells.length := by rw [← h3, ← Array.length_toList]; exact (List.getElem?_eq_some_iff.1 hk).1
    exact (h4 k _ v (List.getElem?_eq_getElem hlt) (by rw [← Array.getElem?_toList]; exact hk)).oneCell (ho _ (List.getElem_mem hlt))
   have hst := run_storeCells_at P g off tt cx.cells.toList 0 cur w hh (by simp [h3, hsz, hlen]; omega) hone2
   simp only [Nat.add_zero] at hst
   refine ⟨_, g, _, ?_, hJ, rfl, grownBy_setRow (List.take off cur.toList ++ cx.cells.toList ++ List.drop (off + cx.cells.toList.length) cur.toList).toArray, fun M hmono => ⟨g, _, tt, hJ, setRow_heap w g cur _ tt _ hh, ?_, ?_, fun k c v hc hv => ?_⟩⟩
   ·simp [execOp, hcp, hcx, Instr.storeAt, Instr.sureAddr, storeVar, run_size ht, h3, hsz, hst] <;> rfl
   ·simp [splice, hlen, h3]
   ·intro c hc
    simp only [splice, List.mem_append] at hc
    rcases hc with (hc | hc) | hc
    ·exact hone c (List.mem_of_mem_take hc)
    ·exact ho c hc
    ·exact hone c (List.mem_of_mem_drop hc)
   ·rw [splice, splice_get (by omega)] at hc
    rw [List.getElem?_toArray] at hv
    have hvl : cx.cells.toList.length = pv.cells.length := by rw [Array.length_toList, h3]
    rw [splice_get (by simp only [Array.length_toList]; omega), hvl] at hv
    split at hc
    ·rename_i hk
     rw [if_pos hk, Array.getElem?_toList] at hv
     exact hmono J c v (h4 _ _ _ hc hv)
    ·rename_i hk
     rw [if_neg hk, Array.getElem?_toList] at hv
     exact hmono J c v (hrep _ _ _ hc hv)
def spliceP (cs : List PV) (off : Nat) (vs : List PV) : Option (List PV) := if off + vs.length ≤ cs.length then some (splice cs off vs) else none
def fillPV (place : Nat → Option (Nat × Nat)) (cells : List PV) : List (Nat × PV) → Option (List PV)
 | [] => some cells
 | (i, v) :: rest =>
  match place i with
  | none => none
  | some (off, size) => if v.cells.length = size then (match spliceP cells off v.cells with | some cs => fillPV place cs rest | none => none) else none
theorem foldl_set (off : Nat) : ∀ (vs : List Value) (j : Nat) (cs : Array Value), ((vs.zipIdx j).foldl (fun cs (c, j) => cs.setIfInBounds (off + j) c) cs).size = cs.size ∧
  ∀ k : Nat, ((vs.zipIdx j).foldl (fun cs (c, j) => cs.setIfInBounds (off + j) c) cs)[k]? = if off + j ≤ k ∧ k < off + j + vs.length ∧ k < cs.size then vs[k - (off + j)]? else cs[k]?
 | [], j, cs => ⟨rfl, fun k => by rw [if_neg (by simp; omega)]; rfl⟩
 | v :: vs, j, cs => by
  obtain ⟨h1, h2⟩ := foldl_set off vs (j + 1) (cs.setIfInBounds (off + j) v)
  refine ⟨by simpa using h1, fun k => ?_⟩
  rw [List.zipIdx_cons, List.foldl_cons, h2 k]
  simp only [Array.size_setIfInBounds, Array.getElem?_setIfInBounds, List.length_cons]
  by_cases hk : k < cs.size
  ·by_cases h3 : off + j = k
   ·subst h3
    rw [if_neg (by omega), if_pos rfl, if_pos hk, if_pos ⟨by omega, by omega, hk⟩]
    simp
   ·by_cases h4 : off + (j + 1) ≤ k ∧ k < off + (j + 1) + vs.length
    ·rw [if_pos ⟨h4.1, h4.2, hk⟩, if_pos ⟨by omega, by omega, hk⟩, show k - (off + j) = (k - (off + (j + 1))) + 1 by omega]
     simp
    ·rw [if_neg (by omega), if_neg h3, if_neg (by omega)]
  ·have hr : ¬ (off + j ≤ k ∧ k < off + j + (vs.length + 1) ∧ k < cs.size) := by omega
   rw [if_neg hr, if_neg (by omega)]
   by_cases h3 : off + j = k
   ·subst h3; simp [hk]
   ·rw [if_neg h3]
theorem fill_rep {w : World} {M : Nat → Prop} {J : Site} {place : Nat → Option (Nat × Nat)} : ∀ {ps : List (Nat × PV)} {qs : List (Nat × Value)} {cs cs' : List PV} {us : Array Value}, fillPV place cs ps = some cs' → ps.length = qs.length →
  (∀ (k : Nat) (p : Nat × PV) (q : Nat × Value), ps[k]? = some p → qs[k]? = some q → p.1 = q.1 ∧ (∀ c ∈ p.2.cells, c.one = true) ∧ Rep w M J p.2 q.2) → us.size = cs.length →
  (∀ (k : Nat) (c : PV) (u : Value), cs[k]? = some c → us[k]? = some u → Rep w M J c u) →
  ∃ us', Instr.fill place us qs = some us' ∧ us'.size = cs'.length ∧ ∀ (k : Nat) (c : PV) (u : Value), cs'[k]? = some c → us'[k]? = some u → Rep w M J c u
 | [], [], cs, cs', us, hf, _, _, hs, hr => by
  simp only [fillPV, Option.some.injEq] at hf
  subst hf
  exact ⟨us, rfl, hs, hr⟩
 | [], q :: qs, _, _, _, _, hl, _, _, _ => by simp at hl
 | p :: ps, [], _, _, _, _, hl, _, _, _ => by simp at hl
 | (i, v) :: ps, (i', u) :: qs, cs, cs', us, hf, hl, hpq, hs, hr => by
  obtain ⟨hi, ho, hv⟩ := hpq 0 _ _ rfl rfl
  dsimp only at hi
  subst hi
  simp only [fillPV] at hf
  split at hf
  ·cases hf
  ·rename_i off size hpl
   split at hf
   ·rename_i hsz
    split at hf
    ·rename_i cs1 h1
     unfold spliceP at h1
     split at h1
     ·rename_i hfit
      injection h1 with h1
      subst h1
      obtain ⟨h3, h4⟩ := rep_cells hv ho
      have hset := foldl_set off u.cells.toList 0 us
      obtain ⟨us', h5, h6, h7⟩ := fill_rep (us := (u.cells.toList.zipIdx 0).foldl (fun cs (c, j) => cs.setIfInBounds (off + j) c) us) hf (by simpa using hl) (fun k p q hp hq => hpq (k + 1) p q (by simpa using hp) (by simpa using hq))
       (by rw [hset.1, hs, splice]; simp; omega) (fun k c x hc hx => by
        rw [splice, splice_get hfit] at hc
        rw [hset.2 k] at hx
        have hvl : u.cells.toList.length = v.cells.length := by rw [Array.length_toList, h3]
        rw [hvl] at hx
        by_cases hk : off ≤ k ∧ k < off + v.cells.length
        ·rw [if_pos hk] at hc
         rw [if_pos ⟨by omega, by omega, by omega⟩, Array.getElem?_toList] at hx
         exact h4 _ _ _ hc (by simpa using hx)
        ·rw [if_neg hk] at hc
         rw [if_neg (by omega)] at hx
         exact hr _ _ _ hc hx)
      refine ⟨us', ?_, h6, h7⟩
      simp only [Instr.fill, hpl]
      rw [if_neg (by simp [h3, hsz, hs]; omega)]
      rw [← Array.foldl_toList, Array.toList_zipIdx]
      exact h5
     ·cases h1
    ·cases hf
   ·cases hf
def evParts (s : St) (ps : List (Nat × Operand)) : List (Nat × PV) := ps.map fun p => (p.1, s.ev p.2)
theorem parts_rep {w : World} {M : Nat → Prop} {J : Site} {ps : Array (Nat × Operand)} {ρ : Operand → Value} (hr : ∀ x ∈ (ps.toList.map (·.2)).toArray, Rep w M J (s.ev x) (ρ x)) (ho : ∀ p ∈ evParts s ps.toList, ∀ c ∈ p.2.cells, c.one = true) :
  (evParts s ps.toList).length = ((ps.map fun (i, x) => (i, ρ x)).toList).length ∧ ∀ (k : Nat) (p : Nat × PV) (q : Nat × Value), (evParts s ps.toList)[k]? = some p → ((ps.map fun (i, x) => (i, ρ x)).toList)[k]? = some q → p.1 = q.1 ∧ (∀ c ∈ p.2.cells, c.one = true) ∧ Rep w M J p.2 q.2 := by
 refine ⟨by simp [evParts], fun k p q hp hq => ?_⟩
 have hm := List.mem_of_getElem? hp
 simp only [evParts, List.getElem?_map, Option.map_eq_some_iff] at hp
 obtain ⟨x, hx, rfl⟩ := hp
 rw [Array.toList_map, List.getElem?_map, Option.map_eq_some_iff] at hq
 obtain ⟨y, hy, rfl⟩ := hq
 rw [hx] at hy
 injection hy with hy
 subst hy
 exact ⟨rfl, ho _ hm, hr x.2 (by simp; exact ⟨x.1, by simpa using Array.mem_toList_iff.1 (List.mem_of_getElem? hx)⟩)⟩
theorem does_build_struct {t : TypeId} {ps : Array (Nat × Operand)} {fs : List (Nat × TypeId)} {sz by_ : Nat} {z cs : List PV} (ht : tyOf P t = some ⟨.struct fs, sz, by_, z⟩) (hz : z ≠ []) (tis : List TyI) (htis : fs.map (fun f => tyOf P f.2) = tis.map some)
  (ho : ∀ p ∈ evParts s ps.toList, ∀ c ∈ p.2.cells, c.one = true) (hf : fillPV (fun i => (((fs.zip tis).map fun q => (q.1.1, q.2.size))[i]?)) z (evParts s ps.toList) = some cs) :
  Does P N ops ⟨dst, .build t ps, type, pos, after, guard⟩ s (pureFx (.agg cs)) :=
 does_pure _ fun w M J ρ hr => by
  obtain ⟨i, d, h1, h2, h3, _, _, h4⟩ := tyOf_spec ht
  obtain ⟨fields, rfl, hfs⟩ := td_struct h3
  cases hzv : i.zero with
  | none => rw [hzv] at h4; exact absurd h4 hz
  | some zv =>
   rw [hzv] at h4
   dsimp only at h4
   obtain ⟨hl, hpq⟩ := parts_rep (M := M) (J := J) (w := w) (ρ := ρ) (by simpa [Op.operands] using hr) ho
   have hmap : ∀ (fl : List Field) (fs : List (Nat × TypeId)) (tis : List TyI), fl.map (fun f => (f.offset, f.type)) = fs → fs.map (fun f => tyOf P f.2) = tis.map some →
     (fl.mapM (fun f => Prod.mk f.offset <$> sizeOf f.type : Field → Sem (Nat × Nat))).run P w = .ok ((fs.zip tis).map fun q => (q.1.1, q.2.size)) w := by
    intro fl
    induction fl with
    | nil => intro fs tis h1 h2; subst h1; simp at h2; subst h2; rfl
    | cons f fl ih =>
     intro fs tis h1 h2
     cases fs with
     | nil => simp at h1
     | cons g fs =>
      cases tis with
      | nil => simp at h2
      | cons ti tis =>
       simp only [List.map_cons, List.cons.injEq] at h1 h2
       obtain ⟨rfl, h1⟩ := h1
       have := ih fs tis h1 h2.2
       rw [List.mapM_cons]
       simp [run_size h2.1, this]
   have hm := hmap fields.toList fs tis hfs htis
   obtain ⟨us', h5, h6, h7⟩ := fill_rep (us := zv.cells) hf hl hpq (by rw [h4]; simp) (fun k c u hc hu => by
    rw [h4, List.getElem?_map, Option.map_eq_some_iff] at hc
    obtain ⟨y, hy, rfl⟩ := hc
    rw [Array.getElem?_toList, hu] at hy
    injection hy with hy
    subst hy
    exact rep_ofVal1 _)
   refine ⟨.agg us', ?_, .agg _ _ _ h6.symm h7⟩
   have hm' : (fields.mapM (fun f => Prod.mk f.offset <$> sizeOf f.type : Field → Sem (Nat × Nat))).run P w = .ok ((fs.zip tis).map fun q => (q.1.1, q.2.size)).toArray w := by
    rw [Array.mapM_eq_mapM_toList]
    simp [hm]
   have h5' := h5
   simp only [Array.toList_map, List.getElem?_map] at h5'
   simp [execOp, Instr.build, zeroValue, typeInfo, h1, hzv, run_underlying h2, hm']
   rw [h5']
   rfl
theorem owns_new {w : World} {e sz len : Nat} {cs : Array Value} (hs : cs.size = len * sz) (hl : len ≤ maxLen) : (w.alloc (.cells cs e)).ownsRow 0 e sz (.slice (some ⟨w.heap.size, 0, none⟩) len len) len cs.toList :=
 ⟨by simpa using hs, .inr ⟨w.heap.size, len, cs, rfl, Nat.zero_le _, heap_alloc_new w _, Nat.le_refl _, hl, hs, by rw [List.take_of_length_le (by simp [hs])]⟩⟩
theorem replicate_flat (z : List PV) (hz : z ≠ []) : ∀ n : Nat, (List.range (n * z.length)).map (fun i => z.getD (i % z.length) .undef) = (List.replicate n z).flatten
 | 0 => by simp
 | n + 1 => by
  have hp : 0 < z.length := List.length_pos_iff.2 hz
  rw [Nat.succ_mul, List.range_add, List.map_append, replicate_flat z hz n, List.replicate_succ', List.flatten_concat]
  congr 1
  apply List.ext_getElem?
  intro k
  by_cases hk : k < z.length
  ·simp [hk, Nat.mul_add_mod_self_right, Nat.mod_eq_of_lt hk, List.getD_eq_getElem?_getD]
  ·simp [hk, List.getElem?_eq_none (Nat.le_of_not_lt hk)]
theorem low_rep {w0 : World} {Mv : Nat → Prop} {J : Site} {a : Act} {w : World} (h : Sim w0 Mv N J s a w) {c c' : PV} {L : List (Nat × Nat)} (hc : s.low c = some (c', L)) {v : Value} (hv : Rep w (Mut s J) J c v) (J' : Site) :
  Rep w (Mut s J) J' c' v ∧ ∀ x ∈ c'.cells, x.one = true := by
 unfold St.low at hc
 split at hc
 ·rename_i cs
  split at hc
  ·rename_i cs' L' hl
   injection hc with hc
   injection hc with hc hL
   subst hc
   cases hv with
   | agg _ _ vs hlen hr =>
    obtain ⟨h1, _, h2⟩ := lowL_rep h hl
    obtain ⟨h3, h4⟩ := h2 (vs := vs.toList) (by simp [hlen]) (fun i c v hc hv => hr i c v hc (by rw [← Array.getElem?_toList]; exact hv))
    exact ⟨.agg _ _ _ (by rw [h1, hlen]) fun i c v hc hv => h4 J' i c v hc (by rw [Array.getElem?_toList]; exact hv), h3⟩
  ·cases hc
 ·obtain ⟨h1, h2⟩ := lowC_rep h hc hv J'
  refine ⟨h1, fun x hx => ?_⟩
  cases c' <;> simp [PV.cells] at hx <;> first | (subst hx; exact h2) | (simp [PV.one] at h2)
theorem low_agree {s s' : St} {c c' : PV} {L : List (Nat × Nat)} (hc : s.low c = some (c', L)) (h : ∀ q ∈ L, s'.heap q.1 q.2 = s.heap q.1 q.2) : s'.low c = some (c', L) := by
 unfold St.low at hc ⊢
 split at hc
 ·split at hc
  ·rename_i cs' L' hl
   injection hc with hc
   injection hc with hc hL
   subst hL
   rw [lowL_agree hl h, ← hc]
  ·cases hc
 ·exact lowC_agree hc h
def St.lowP (s : St) : List (Nat × PV) → Option (List (Nat × PV) × List (Nat × Nat))
 | [] => some ([], [])
 | (i, c) :: r => match s.low c, s.lowP r with
  | some (c', L), some (r', L') => some ((i, c') :: r', L ++ L')
  | _, _ => none
theorem lowP_rep {w0 : World} {Mv : Nat → Prop} {J : Site} {a : Act} {w : World} (h : Sim w0 Mv N J s a w) : ∀ {ps ps' : List (Nat × PV)} {qs : List (Nat × Value)} {L : List (Nat × Nat)}, s.lowP ps = some (ps', L) →
  ps.length = qs.length → (∀ (k : Nat) (p : Nat × PV) (q : Nat × Value), ps[k]? = some p → qs[k]? = some q → p.1 = q.1 ∧ Rep w (Mut s J) J p.2 q.2) →
  ps'.length = qs.length ∧ ∀ (k : Nat) (p : Nat × PV) (q : Nat × Value), ps'[k]? = some p → qs[k]? = some q → p.1 = q.1 ∧ (∀ c ∈ p.2.cells, c.one = true) ∧ Rep w (Mut s J) noSite p.2 q.2
 | [], ps', qs, L, hl, hlen, _ => by
  simp only [St.lowP, Option.some.injEq, Prod.mk.injEq] at hl
  obtain ⟨rfl, rfl⟩ := hl
  exact ⟨hlen, fun k p q hp => by simp at hp⟩
 | (i, c) :: ps, ps', [], L, hl, hlen, _ => by simp at hlen
 | (i, c) :: ps, ps', q :: qs, L, hl, hlen, hpq => by
  simp only [St.lowP] at hl
  split at hl
  ·rename_i c' L1 r' L2 h1 h2
   injection hl with hl
   injection hl with hl hL
   subst hl
   obtain ⟨h3, h4⟩ := lowP_rep h h2 (by simpa using hlen) (fun k p q hp hq => hpq (k + 1) p q (by simpa using hp) (by simpa using hq))
   obtain ⟨h5, h6⟩ := hpq 0 _ _ rfl rfl
   obtain ⟨h7, h8⟩ := low_rep h h1 h6 noSite
   refine ⟨by simp [h3], fun k p q' hp hq => ?_⟩
   cases k with
   | zero => simp at hp hq; subst hp hq; exact ⟨h5, h8, h7⟩
   | succ k => exact h4 k p q' (by simpa using hp) (by simpa using hq)
  ·cases hl
theorem lowP_agree {s s' : St} : ∀ {cs cs' : List (Nat × PV)} {L : List (Nat × Nat)}, s.lowP cs = some (cs', L) → (∀ q ∈ L, s'.heap q.1 q.2 = s.heap q.1 q.2) → s'.lowP cs = some (cs', L)
 | [], cs', L, hc, _ => hc
 | (i, c) :: r, cs', L, hc, h => by
  simp only [St.lowP] at hc ⊢
  split at hc
  ·rename_i c1 L1 r1 L2 h1 h2
   injection hc with hc
   injection hc with hc hL
   subst hL
   rw [low_agree h1 fun q hq => h q (List.mem_append_left _ hq), lowP_agree h2 fun q hq => h q (List.mem_append_right _ hq), ← hc]
  ·cases hc
theorem does_buildSlice {d : Nat} {t e : TypeId} {len : Nat} {ps : Array (Nat × Operand)} {sz by_ : Nat} {z : List PV} {ei : TyI} {xs : List PV} {ps' : List (Nat × PV)} {L : List (Nat × Nat)} (ht : tyOf P t = some ⟨.slice e, sz, by_, z⟩) (he : tyOf P e = some ei)
  (hz : ei.zero ≠ []) (hzl : ei.zero.length = ei.size) (hlen : xs.length = len) (hw : ∀ x ∈ xs, x.cells.length = ei.size) (h24 : len * ei.size ≤ 2 ^ 24) (hlow : s.lowP (evParts s ps.toList) = some (ps', L)) (ho : ∀ c ∈ flat xs, c.one = true)
  (hf : fillPV (fun i => some (i * ei.size, ei.size)) ((List.replicate len ei.zero).flatten) ps' = some (flat xs)) :
  Does P N ops ⟨some d, .buildSlice t len ps, type, pos, after, guard⟩ s ⟨L, .own d (s.next d), [((d, s.next d), some (.arr e ei.size false xs))], [d]⟩ :=
 does_alloc d fun w0 Mv J s' a w hs hL hnx hr => by
  obtain ⟨i, dd, h1, h2, h3, h4, _, h5⟩ := tyOf_spec he
  have hp : 0 < ei.size := by rw [← hzl]; exact List.length_pos_iff.2 hz
  cases hzv : i.zero with
  | none => rw [hzv] at h5; exact absurd h5 hz
  | some zv =>
   rw [hzv] at h5
   dsimp only at h5
   have hzs : zv.cells.size = ei.size := by rw [← hzl, h5]; simp
   have hq := lowP_rep hs (qs := (ps.map fun (i, x) => (i, a.eval x)).toList) (lowP_agree hlow hL) (by simp [evParts]) (fun k p q hp hq => by
    simp only [evParts, List.getElem?_map, Option.map_eq_some_iff] at hp
    obtain ⟨x, hx, rfl⟩ := hp
    rw [Array.toList_map, List.getElem?_map, Option.map_eq_some_iff] at hq
    obtain ⟨y, hy, rfl⟩ := hq
    rw [hx] at hy
    injection hy with hy
    subst hy
    exact ⟨rfl, hr x.2 (by simp [Op.operands]; exact ⟨x.1, by simpa using Array.mem_toList_iff.1 (List.mem_of_getElem? hx)⟩)⟩)
   have hzc : ∀ (k : Nat) (c : PV) (u : Value), ((List.replicate len ei.zero).flatten)[k]? = some c → ((Array.range (len * ei.size)).map (zv.cells[· % zv.cells.size]!))[k]? = some u → Rep w (Mut s' J) noSite c u := by
    intro k c u hc hu
    rw [← replicate_flat _ hz, hzl, List.getElem?_map, Option.map_eq_some_iff] at hc
    obtain ⟨j, hj, rfl⟩ := hc
    rw [List.getElem?_eq_some_iff] at hj
    obtain ⟨hjl, hj⟩ := hj
    simp at hjl hj
    subst hj
    simp [hjl] at hu
    subst hu
    have hlt : k % ei.size < zv.cells.size := by rw [hzs]; exact Nat.mod_lt _ hp
    have he1 : ei.zero.getD (k % ei.size) .undef = PV.ofVal1 zv.cells[k % ei.size]! := by
     rw [h5, List.getD_eq_getElem?_getD, List.getElem?_map, Array.getElem?_toList, Array.getElem?_eq_getElem hlt]
     simp [hlt]
    rw [he1, hzs]
    exact rep_ofVal1 _
   obtain ⟨us', hfi, hus, hrep⟩ := fill_rep (M := Mut s' J) (J := noSite) (w := w) (us := (Array.range (len * ei.size)).map (zv.cells[· % zv.cells.size]!)) hf hq.1 hq.2 (by simp [hzl]) hzc
   have hfl : (flat xs).length = len * ei.size := by rw [flat_length hw, hlen]
   have hlm : len ≤ maxLen := by
    have : len ≤ len * ei.size := Nat.le_mul_of_pos_right _ hp
    simp only [maxLen]; omega
   refine ⟨.slice (some ⟨w.heap.size, 0, none⟩) len len, .cells us' e, ?_, rfl, fun M J' hJ' => .own _ _ _ _ _ _ hJ', fun M J' hJ' hmono hsub => ⟨_, us'.toList, hJ', by rw [hlen]; exact owns_new (by rw [hus, hfl]) hlm, hp, hw, ho, fun k c y hc hy => hmono noSite noSite c y (fun _ _ _ h => h) (hrep k c y hc (by rw [← Array.getElem?_toList]; exact hy))⟩⟩
   have h24' : ¬ len * ei.size > 2 ^ 24 := by omega
   have hzero : (if len * ei.size = 0 then (pure #[] : Sem (Array Value)) else do pure (← zeroValue e).cells).run P w = .ok (if len * ei.size = 0 then #[] else zv.cells) w := by
    split
    ·rfl
    ·simp [zeroValue, typeInfo, h1, hzv]
   have hcells : ((Array.range (len * ei.size)).map ((if len * ei.size = 0 then #[] else zv.cells)[· % (if len * ei.size = 0 then (#[] : Array Value) else zv.cells).size]!)) = (Array.range (len * ei.size)).map (zv.cells[· % zv.cells.size]!) := by
    split
    ·rename_i h0; rw [h0]; simp
    ·rfl
   simp only [execOp, Instr.buildSlice, Sem.run_bind, run_underlying (ty_slice ht), Result.andThen_ok, run_size he, if_neg h24']
   have hfi' : Instr.fill (fun i => some (i * ei.size, ei.size)) ((Array.range (len * ei.size)).map (zv.cells[· % zv.cells.size]!)) (Array.map (fun x => (x.1, a.eval x.2)) ps).toList = some us' := hfi
   have hfin : ((Sem.run P (match (some us' : Option (Array Value)) with
       | some cells => do
        let __do_lift ← newRow e cells
        pure (Value.slice (some __do_lift) len len)
       | x => stuck "buildSlice: a part of the wrong size") w).andThen fun a w' => Sem.run P (pure (Next.value a)) w') = .ok (.value (.slice (some ⟨w.heap.size, 0, none⟩) len len)) (w.alloc (.cells us' e)) := by
    simp [newRow, newObj, Sem.run] <;> rfl
   by_cases h0 : len * ei.size = 0
   ·rw [if_pos h0]
    have he0 : (Array.range (len * ei.size)).map (zv.cells[· % zv.cells.size]!) = (Array.range (len * ei.size)).map ((#[] : Array Value)[· % (#[] : Array Value).size]!) := by rw [h0]; simp
    rw [he0] at hfi'
    simp only [Sem.run_bind, Sem.run_pure, Result.andThen_ok, hfi']
    exact hfin
   ·rw [if_neg h0]
    have hzr : (zeroValue e).run P w = .ok zv w := by simp [zeroValue, typeInfo, h1, hzv]
    simp only [Sem.run_bind, Sem.run_pure, Result.andThen_ok, hzr, hfi']
    exact hfin
end Go.Proofs.Ytmompdklolomfaa.Ab
