import Derived.Test.YtbaibpjffcahiaaGreatAbDraw
namespace Go.Proofs.YtbaibpjffcahiaaGreat.Ab
open Go Go.RowKit
set_option linter.unusedVariables false
set_option linter.unusedSimpArgs false
inductive AObj where
 | box (cs : List PV)
 | arr (e sz : Nat) (fz : Bool) (xs : List PV)
 | mp (k : IntKind) (ks : List Int)
def AObj.mut : AObj → Bool
 | .box _ => true
 | .arr _ _ fz _ => !fz
 | .mp _ _ => true
structure Ctx where
 blk : Nat → Prop
 box : Nat → Option Value
structure St where
 env : Nat → PV
 heap : Nat → Nat → Option AObj
 next : Nat → Nat
 X : Ctx   -- blocks that aren't ours to read or to turn (a caller's)
def blockOf : Value → Option Nat
 | .slice (some a) _ _ => some a.block
 | .pointer (some a) => some a.block
 | .map (some g) => some g
 | _ => none
def OMut (s : St) (J : Site) (g : Nat) : Prop := ∃ d n o v, s.heap d n = some o ∧ o.mut = true ∧ J d n = some v ∧ blockOf v = some g
def Mut (s : St) (J : Site) (g : Nat) : Prop := s.X.blk g ∨ OMut s J g
def setOf (k : IntKind) (es : Array MapEntry) (ks : List Int) : Prop := es.toList.map (fun e => (e.key, e.val)) = ks.map (fun n => (.int k n, .bool true))
def ObjOk (w : World) (M : Nat → Prop) (J : Site) (d n : Nat) : AObj → Prop
 | .box cs => ∃ (g : Nat) (cur : Array Value) (t : TypeId), J d n = some (.pointer (some ⟨g, 0, none⟩)) ∧ w.heap[g]? = some (.cells cur t (0, 0)) ∧ cur.size = cs.length ∧ (∀ c ∈ cs, c.one = true) ∧
   ∀ (k : Nat) (c : PV) (v : Value), cs[k]? = some c → cur[k]? = some v → Rep w M J c v
 | .arr e sz _ xs => ∃ (v : Value) (ys : List Value), J d n = some v ∧ w.ownsRow 0 e sz v xs.length ys ∧ 0 < sz ∧ (∀ x ∈ xs, x.cells.length = sz) ∧ (∀ c ∈ flat xs, c.one = true) ∧
   ∀ (k : Nat) (c : PV) (y : Value), (flat xs)[k]? = some c → ys[k]? = some y → Rep w M noSite c y
 | .mp k ks => ∃ (g : Nat) (es : Array MapEntry) (clock : Nat), J d n = some (.map (some g)) ∧ w.heap[g]? = some (.map es clock) ∧ setOf k es ks
structure Sim (w0 : World) (Mv : Nat → Prop) (N : Nat) (J : Site) (s : St) (a : Act) (w : World) : Prop where
 size : a.tmps.size = N
 defers : a.defers = []
 env : ∀ t, t < N → Rep w (Mut s J) J (s.env t) (a.tmps.getD t Go.undef)
 obj : ∀ d n o, s.heap d n = some o → ObjOk w (Mut s J) J d n o
 sep : ∀ d n d' n' o o' v v' g, s.heap d n = some o → s.heap d' n' = some o' → J d n = some v → J d' n' = some v' → blockOf v = some g → blockOf v' = some g → d = d' ∧ n = n'
 nxt : ∀ d n, s.next d ≤ n → s.heap d n = none ∧ J d n = none
 frame : ∀ b, b < w0.heap.size → ¬ Mv b → w.heap[b]? = w0.heap[b]?
 mutb : ∀ g, OMut s J g → g < w0.heap.size → Mv g
 xlt : ∀ g, s.X.blk g → g < w.heap.size
 sepX : ∀ d n o v g, s.heap d n = some o → J d n = some v → blockOf v = some g → ¬ s.X.blk g
 ext : ∀ n v, s.X.box n = some v → J 0 n = some v
 grow : w0.heap.size ≤ w.heap.size
 os : w.os = w0.os
 tape : w.tape = w0.tape
 output : w.output = w0.output
 drawn : w0.drawn ≤ w.drawn
theorem Rep.oneCell {w : World} {M : Nat → Prop} {J : Site} {c : PV} {v : Value} (h : Rep w M J c v) (ho : c.one = true) : v.oneCell' = true := by
 cases h <;> first | rfl | (simp [PV.one] at ho)
theorem ObjOk.blk {w : World} {M : Nat → Prop} {J : Site} {d n : Nat} {o : AObj} (h : ObjOk w M J d n o) : ∃ v, J d n = some v ∧ ∀ g, blockOf v = some g → g < w.heap.size := by
 cases o with
 | box cs =>
  obtain ⟨g, cur, t, hJ, hh, _⟩ := h
  refine ⟨_, hJ, fun g' hg' => ?_⟩
  simp [blockOf] at hg'
  subst hg'
  exact (Array.getElem?_eq_some_iff.1 hh).1
 | arr e sz fz xs =>
  obtain ⟨v, ys, hJ, hown, _⟩ := h
  refine ⟨_, hJ, fun g' hg' => ?_⟩
  rcases hown.2 with ⟨rfl, _⟩ | ⟨g, cap, cur, rfl, _, hh, _⟩
  ·simp [blockOf] at hg'
  ·simp [blockOf] at hg'
   subst hg'
   exact (Array.getElem?_eq_some_iff.1 hh).1
 | mp k ks =>
  obtain ⟨g, es, clock, hJ, hh, _⟩ := h
  refine ⟨_, hJ, fun g' hg' => ?_⟩
  simp [blockOf] at hg'
  subst hg'
  exact (Array.getElem?_eq_some_iff.1 hh).1
theorem ObjOk.kept {w w' : World} {M M' : Nat → Prop} {J J' : Site} {d n : Nat} {o : AObj} (h : ObjOk w M J d n o) (hw : ∀ b, b < w.heap.size → ¬ M b → w'.heap[b]? = w.heap[b]?)
  (hM : ∀ b, b < w.heap.size → M' b → M b) (hJ : ∀ d n v, J d n = some v → J' d n = some v) (hb : ∀ v g, J d n = some v → blockOf v = some g → w'.heap[g]? = w.heap[g]?) : ObjOk w' M' J' d n o := by
 cases o with
 | box cs =>
  obtain ⟨g, cur, t, h1, h2, h3, h4, h5⟩ := h
  exact ⟨g, cur, t, hJ _ _ _ h1, (hb _ _ h1 rfl).trans h2, h3, h4, fun k c v hc hv => (h5 k c v hc hv).mono hw hM hJ⟩
 | arr e sz fz xs =>
  obtain ⟨v, ys, h1, h2, h3, h4, h5, h6⟩ := h
  refine ⟨v, ys, hJ _ _ _ h1, ⟨h2.1, ?_⟩, h3, h4, h5, fun k c y hc hy => (h6 k c y hc hy).mono hw hM (fun _ _ _ h => h)⟩
  rcases h2.2 with hn | ⟨g, cap, cur, rfl, hb0, hh, rest⟩
  ·exact .inl hn
  ·exact .inr ⟨g, cap, cur, rfl, hb0, (hb _ _ h1 rfl).trans hh, rest⟩
 | mp k ks =>
  obtain ⟨g, es, clock, h1, h2, h3⟩ := h
  exact ⟨g, es, clock, hJ _ _ _ h1, (hb _ _ h1 rfl).trans h2, h3⟩
theorem Sim.omut_lt {w0 : World} {Mv : Nat → Prop} {N : Nat} {J : Site} {s : St} {a : Act} {w : World} (h : Sim w0 Mv N J s a w) {g : Nat} (hg : OMut s J g) : g < w.heap.size := by
 obtain ⟨d, n, o, v, ho, _, hJ, hb⟩ := hg
 obtain ⟨v', hJ', hlt⟩ := (h.obj d n o ho).blk
 rw [hJ] at hJ'
 injection hJ' with hv
 subst hv
 exact hlt g hb
theorem Sim.update {w0 : World} {Mv : Nat → Prop} {N : Nat} {J : Site} {s : St} {a : Act} {w : World} (h : Sim w0 Mv N J s a w) {w' : World} {row : Option Nat} (hg : w.grownBy w' row) (hd : w.drawn ≤ w'.drawn)
  (hrow : ∀ g, row = some g → OMut s J g) {J' : Site} (hJ : ∀ d n v, J d n = some v → J' d n = some v) {s' : St} (henv : s'.env = s.env) (hX : s'.X = s.X)
  (hM : ∀ b, b < w.heap.size → OMut s' J' b → OMut s J b)
  (hobj : ∀ d n o, s'.heap d n = some o → (s.heap d n = some o ∧ ∀ v g, J d n = some v → blockOf v = some g → row ≠ some g) ∨ ObjOk w' (Mut s' J') J' d n o)
  (hsep : ∀ d n d' n' o o' v v' g, s'.heap d n = some o → s'.heap d' n' = some o' → J' d n = some v → J' d' n' = some v' → blockOf v = some g → blockOf v' = some g → d = d' ∧ n = n')
  (hnxt : ∀ d n, s'.next d ≤ n → s'.heap d n = none ∧ J' d n = none) (hsepX : ∀ d n o v g, s'.heap d n = some o → J' d n = some v → blockOf v = some g → ¬ s.X.blk g) : Sim w0 Mv N J' s' a w' := by
 have hwo : ∀ b, b < w.heap.size → ¬ OMut s J b → w'.heap[b]? = w.heap[b]? := fun b hb hm => hg.block b hb (fun e => hm (hrow b e.symm))
 have hw : ∀ b, b < w.heap.size → ¬ Mut s J b → w'.heap[b]? = w.heap[b]? := fun b hb hm => hwo b hb (fun h => hm (.inr h))
 have hMo := hM
 replace hM : ∀ b, b < w.heap.size → Mut s' J' b → Mut s J b := fun b hb hm => by
  rcases hm with hm | hm
  ·exact .inl (hX ▸ hm)
  ·exact .inr (hMo b hb hm)
 refine ⟨h.size, h.defers, fun t ht => ?_, fun d n o ho => ?_, hsep, hnxt, fun b hb hm => ?_, fun g hg' hlt => ?_, fun g hx => Nat.lt_of_lt_of_le (h.xlt g (hX ▸ hx)) hg.size, fun d n o v g h1 h2 h3 h4 => hsepX d n o v g h1 h2 h3 (hX ▸ h4), fun n v hv => hJ 0 n v (h.ext n v (hX ▸ hv)), Nat.le_trans h.grow hg.size, hg.os.trans h.os, hg.tape.trans h.tape, hg.output.trans h.output, Nat.le_trans h.drawn hd⟩
 ·rw [henv]; exact (h.env t ht).mono hw hM hJ
 ·rcases hobj d n o ho with ⟨h1, h2⟩ | h1
  ·refine (h.obj d n o h1).kept hw hM hJ (fun v g hv hb => ?_)
   have hlt : g < w.heap.size := by
    obtain ⟨v', hJ', hlt⟩ := (h.obj d n o h1).blk
    rw [hv] at hJ'
    injection hJ' with he
    subst he
    exact hlt g hb
   exact hg.block g hlt (fun e => h2 v g hv hb e.symm)
  ·exact h1
 ·have hb' : b < w.heap.size := Nat.lt_of_lt_of_le hb h.grow
  rw [hwo b hb' (fun hm' => hm (h.mutb b hm' hb))]
  exact h.frame b hb hm
 ·exact h.mutb g (hMo g (Nat.lt_of_lt_of_le hlt h.grow) hg') hlt
def upd {α : Type} (f : Nat → α) (i : Nat) (v : α) : Nat → α := fun j => if j = i then v else f j
def St.put (s : St) (d : Option Nat) (v : PV) : St :=
 match d with
 | some d => { s with env := upd s.env d v }
 | none => s
def St.setH (s : St) (d n : Nat) (o : Option AObj) : St := { s with heap := fun d' n' => if d' = d ∧ n' = n then o else s.heap d' n' }
def St.bump (s : St) (d : Nat) : St := { s with next := fun d' => if d' = d then s.next d + 1 else s.next d' }
theorem St.put_heap (s : St) (d : Option Nat) (v : PV) : (s.put d v).heap = s.heap := by cases d <;> rfl
theorem St.put_next (s : St) (d : Option Nat) (v : PV) : (s.put d v).next = s.next := by cases d <;> rfl
theorem St.put_X (s : St) (d : Option Nat) (v : PV) : (s.put d v).X = s.X := by cases d <;> rfl
theorem omut_put (s : St) (d : Option Nat) (v : PV) (J : Site) : OMut (s.put d v) J = OMut s J := by funext g; simp only [OMut, St.put_heap]
theorem mut_put (s : St) (d : Option Nat) (v : PV) (J : Site) : Mut (s.put d v) J = Mut s J := by funext g; simp only [Mut, omut_put, St.put_X]
theorem Sim.put {w0 : World} {Mv : Nat → Prop} {N : Nat} {J : Site} {s : St} {a : Act} {w : World} (h : Sim w0 Mv N J s a w) (d : Option Nat) {pv : PV} {v : Value} (hr : Rep w (Mut s J) J pv v) :
  Sim w0 Mv N J (s.put d pv) (a.put d v) w := by
 refine ⟨?_, ?_, fun t ht => ?_, fun d' n o ho => ?_, fun d' n d'' n' o o' v v' g h1 h2 => ?_, fun d' n hn => ?_, h.frame, fun g hg => ?_, fun g hx => h.xlt g (St.put_X s d pv ▸ hx), fun d' n o v' g h1 h2 h3 h4 => h.sepX d' n o v' g (St.put_heap s d pv ▸ h1) h2 h3 (St.put_X s d pv ▸ h4), fun n v' hv => h.ext n v' (St.put_X s d pv ▸ hv), h.grow, h.os, h.tape, h.output, h.drawn⟩
 ·cases d with
  | none => exact h.size
  | some d => simpa [Act.put] using h.size
 ·cases d <;> exact h.defers
 ·rw [mut_put]
  cases d with
  | none => exact h.env t ht
  | some d =>
   by_cases e : t = d
   ·subst e
    have hs : t < a.tmps.size := by rw [h.size]; exact ht
    simpa [St.put, upd, Act.put, hs] using hr
   ·have := h.env t ht
    simpa [St.put, upd, Act.put, e, Ne.symm e, Array.getElem?_setIfInBounds_ne] using this
 ·rw [St.put_heap] at ho; rw [mut_put]; exact h.obj d' n o ho
 ·rw [St.put_heap] at h1 h2; exact h.sep _ _ _ _ _ _ _ _ _ h1 h2
 ·rw [St.put_next] at hn; rw [St.put_heap]; exact h.nxt d' n hn
 ·rw [omut_put] at hg; exact h.mutb g hg
theorem Sim.drew {w0 : World} {Mv : Nat → Prop} {N : Nat} {J : Site} {s : St} {a : Act} {w : World} (h : Sim w0 Mv N J s a w) : Sim w0 Mv N J s a w.drew := by
 have hrep : ∀ {J' pv v}, Rep w (Mut s J) J' pv v → Rep w.drew (Mut s J) J' pv v := fun hr => hr.mono (fun _ _ _ => rfl) (fun _ _ h => h) (fun _ _ _ h => h)
 exact ⟨h.size, h.defers, fun t ht => hrep (h.env t ht), fun d n o ho => (h.obj d n o ho).kept (fun _ _ _ => rfl) (fun _ _ h => h) (fun _ _ _ h => h) (fun _ _ _ _ => rfl), h.sep, h.nxt, h.frame, h.mutb, h.xlt, h.sepX, h.ext, h.grow, h.os, h.tape, h.output, Nat.le_trans h.drawn (Nat.le_succ _)⟩
end Go.Proofs.YtbaibpjffcahiaaGreat.Ab
