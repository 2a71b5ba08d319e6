import Derived.Test.YtmompdklolomfaaAbWords
import Derived.ChangeArms
import Derived.Carry
import Derived.OpenShut
namespace Go.Proofs.Ytmompdklolomfaa.Ab
open Go Go.RowKit
set_option linter.unusedVariables false
set_option linter.unusedSimpArgs false
def aggT (P : Program) (e : TypeId) : Bool := match P.underlying e with
 | some (.struct _) => true
 | some (.array _ _) => true
 | _ => false
def PV.mk (a : Bool) (cs : List PV) : PV := if a then .agg cs else cs.headD .undef
def fldA (off : Nat) (e : TypeId) : Field := { (default : Field) with type := e, offset := off }
def arrF (P : Program) (e : TypeId) : Nat → Nat → List Field
 | 0, _ => []
 | n + 1, off => fldA off e :: arrF P e n (off + P.cellsOf e)
theorem arrF_mem {P : Program} {e : TypeId} {f : Field} : ∀ {n off : Nat}, f ∈ arrF P e n off → f.type = e ∧ ∃ i, i < n ∧ f.offset = off + i * P.cellsOf e
 | 0, _, h => by simp [arrF] at h
 | n + 1, off, h => by
  rcases List.mem_cons.1 h with rfl | h
  ·exact ⟨rfl, 0, by omega, by simp [fldA]⟩
  ·obtain ⟨h1, i, h2, h3⟩ := arrF_mem h
   exact ⟨h1, i + 1, by omega, by rw [h3, Nat.add_mul]; omega⟩
def Shape (P : Program) : Nat → TypeId → List PV → Prop
 | 0, _, _ => False
 | n + 1, t, cs => match P.underlying t with
  | some .bool => ∃ b, cs = [.bool b]
  | some (.int k) => ∃ n, cs = [.int k n] ∧ (Lit.int k n).wf = true
  | some .string => ∃ s, cs = [.str s] ∧ s.size ≤ maxLen
  | some (.slice e) => ∃ xs, cs = [.sl (P.cellsOf e) xs] ∧ xs.length ≤ maxLen ∧ ∀ x ∈ xs, ∃ ps, x = PV.mk (aggT P e) ps ∧ Shape P n e ps
  | some (.struct fs) => cs.length = P.cellsOf t ∧ ∀ f ∈ fs.toList, Shape P n f.type ((cs.drop f.offset).take (P.cellsOf f.type))
  | some (.array len e) => cs.length = P.cellsOf t ∧ ∀ f ∈ arrF P e len 0, Shape P n f.type ((cs.drop f.offset).take (P.cellsOf f.type))
  | _ => False
def tileB (P : Program) : Nat → List Field → Nat → Bool
 | off, [], total => Nat.beq off total
 | off, f :: fs, total => Nat.beq f.offset off && tileB P (off + P.cellsOf f.type) fs total
theorem tileB_arr {P : Program} {e : TypeId} {total : Nat} : ∀ (n off : Nat), off + n * P.cellsOf e = total → tileB P off (arrF P e n off) total = true
 | 0, off, h => by simp only [arrF, tileB]; rw [show off = total by omega]; exact Nat.beq_refl _
 | n + 1, off, h => by
  simp only [arrF, tileB, fldA, Bool.and_eq_true]
  exact ⟨Nat.beq_refl _, tileB_arr n _ (by rw [Nat.add_mul] at h; omega)⟩
def closedT (P : Program) (S : List TypeId) : Bool := S.all fun t => match P.underlying t with
 | some .bool | some (.int _) | some .string => Nat.beq (P.cellsOf t) 1
 | some (.slice e) => S.contains e && Nat.blt 0 (P.cellsOf e) && Nat.beq (P.cellsOf t) 1
 | some (.struct fs) => fs.toList.all (fun f => S.contains f.type) && tileB P 0 fs.toList (P.cellsOf t)
 | some (.array len e) => S.contains e && Nat.beq (len * P.cellsOf e) (P.cellsOf t)
 | _ => false
def Reps (w : World) (ps : List PV) (cs : List Value) : Prop := ps.length = cs.length ∧ (∀ c ∈ ps, c.one = true) ∧ ∀ (i : Nat) (c : PV) (v : Value), ps[i]? = some c → cs[i]? = some v → Rep w (fun _ => False) noSite c v
theorem list_of {α : Type} {Q : Nat → α → Prop} : ∀ (n : Nat), (∀ i, i < n → ∃ x, Q i x) → ∃ l : List α, l.length = n ∧ ∀ (i : Nat) (x : α), l[i]? = some x → Q i x
 | 0, _ => ⟨[], rfl, fun i x h => by simp at h⟩
 | n + 1, h => by
  obtain ⟨l, h1, h2⟩ := list_of n fun i hi => h i (by omega)
  obtain ⟨x, hx⟩ := h n (by omega)
  refine ⟨l ++ [x], by simp [h1], fun i y hy => ?_⟩
  by_cases hi : i < l.length
  ·rw [List.getElem?_append_left hi] at hy; exact h2 i y hy
  ·rw [List.getElem?_append_right (by omega)] at hy
   have : i = n := by
    have := (List.getElem?_eq_some_iff.1 hy).1
    simp at this
    omega
   subst this
   rw [h1] at hy
   simp at hy
   exact hy ▸ hx
theorem flat_inv {sz : Nat} (hp : 0 < sz) : ∀ {xs : List PV}, (∀ x ∈ xs, x.cells.length = sz) → ∀ {k : Nat} {c : PV}, (flat xs)[k]? = some c → ∃ x, xs[k / sz]? = some x ∧ x.cells[k % sz]? = some c
 | [], _, k, c, h => by simp [flat] at h
 | y :: ys, hw, k, c, h => by
  have h1 := hw y List.mem_cons_self
  simp only [flat, List.flatMap_cons] at h
  by_cases hk : k < sz
  ·rw [List.getElem?_append_left (by omega)] at h
   exact ⟨y, by rw [Nat.div_eq_of_lt hk]; rfl, by rw [Nat.mod_eq_of_lt hk]; exact h⟩
  ·rw [List.getElem?_append_right (by omega), h1] at h
   obtain ⟨x, h2, h3⟩ := flat_inv hp (xs := ys) (fun z hz => hw z (List.mem_cons_of_mem _ hz)) h
   refine ⟨x, ?_, ?_⟩
   ·rw [show k / sz = (k - sz) / sz + 1 by rw [← Nat.add_div_right _ hp]; congr 1; omega]; simpa using h2
   ·rw [show k % sz = (k - sz) % sz by rw [← Nat.add_mod_right (k - sz)]; congr 1; omega]; exact h3
theorem mk_cells {a : Bool} {ps : List PV} (ho : ∀ c ∈ ps, c.one = true) (hl : a = false → ps.length = 1) : (PV.mk a ps).cells = ps := by
 unfold PV.mk
 cases a with
 | true => rfl
 | false =>
  match ps, hl rfl with
  | [c], _ =>
   have := ho c List.mem_cons_self
   cases c <;> first | rfl | simp [PV.one] at this
section
variable {H : Type} {enc : TypeId × Value → H} {P : Program} {w : World} {sp : Nat → Bool} {held : Bool} {S : List TypeId}
theorem closed_mem (hS : closedT P S = true) {t : TypeId} (ht : t ∈ S) : (match P.underlying t with
 | some .bool | some (.int _) | some .string => Nat.beq (P.cellsOf t) 1
 | some (.slice e) => S.contains e && Nat.blt 0 (P.cellsOf e) && Nat.beq (P.cellsOf t) 1
 | some (.struct fs) => fs.toList.all (fun f => S.contains f.type) && tileB P 0 fs.toList (P.cellsOf t)
 | some (.array len e) => S.contains e && Nat.beq (len * P.cellsOf e) (P.cellsOf t)
 | _ => false) = true := by
 unfold closedT at hS
 rw [List.all_eq_true] at hS
 exact hS t ht
theorem closed_one (hS : closedT P S = true) {t : TypeId} (ht : t ∈ S) (ha : aggT P t = false) : P.cellsOf t = 1 := by
 have h := closed_mem hS ht
 unfold aggT at ha
 split at h <;> simp_all
theorem tile_reps {n : Nat} {cs : List Value} {total : Nat} (hcs : cs.length = total) : ∀ (fs : List Field) (off : Nat), tileB P off fs total = true → off ≤ total →
  (∀ f ∈ fs, ∃ p, Shape P n f.type p ∧ p.length = P.cellsOf f.type ∧ Reps w p ((cs.drop f.offset).take (P.cellsOf f.type))) →
  ∃ ps, Reps w ps (cs.drop off) ∧ ∀ f ∈ fs, off ≤ f.offset ∧ Shape P n f.type ((ps.drop (f.offset - off)).take (P.cellsOf f.type))
 | [], off, ht, _, _ => by
  have : off = total := Nat.eq_of_beq_eq_true ht
  refine ⟨[], ⟨by simp; omega, by simp, fun i c v h => by simp at h⟩, by simp⟩
 | f :: fs, off, ht, hle, h => by
  simp only [tileB, Bool.and_eq_true] at ht
  have hoff : f.offset = off := Nat.eq_of_beq_eq_true ht.1
  obtain ⟨p, h1, h2, h3⟩ := h f List.mem_cons_self
  have hfit : off + P.cellsOf f.type ≤ total := by
   have := h3.1
   rw [h2, hoff, List.length_take, List.length_drop] at this
   omega
  obtain ⟨ps, h4, h5⟩ := tile_reps hcs fs (off + P.cellsOf f.type) ht.2 hfit fun g hg => h g (List.mem_cons_of_mem _ hg)
  refine ⟨p ++ ps, ⟨?_, ?_, ?_⟩, ?_⟩
  ·have := h4.1; simp only [List.length_append, List.length_drop] at this ⊢; omega
  ·intro c hc
   rcases List.mem_append.1 hc with hc | hc
   ·exact h3.2.1 c hc
   ·exact h4.2.1 c hc
  ·intro i c v hc hv
   by_cases hi : i < p.length
   ·rw [List.getElem?_append_left hi] at hc
    refine h3.2.2 i c v hc ?_
    rw [List.getElem?_take, if_pos (by omega), hoff]; exact hv
   ·rw [List.getElem?_append_right (by omega)] at hc
    refine h4.2.2 _ c v hc ?_
    rw [List.getElem?_drop] at hv ⊢
    rw [← hv]; congr 1; omega
  ·intro g hg
   rcases List.mem_cons.1 hg with rfl | hg
   ·refine ⟨by omega, ?_⟩
    rw [hoff, Nat.sub_self, List.drop_zero, List.take_append_of_le_length (by omega), List.take_of_length_le (by omega)]; exact h1
   ·obtain ⟨h6, h7⟩ := h5 g hg
    refine ⟨by omega, ?_⟩
    rw [List.drop_append, List.drop_of_length_le (by omega), List.nil_append, show g.offset - off - p.length = g.offset - (off + P.cellsOf f.type) by omega]; exact h7
theorem trod_shape (hS : closedT P S = true) : ∀ (n : Nat) (t : TypeId) (cs : List Value) (x : DataW H × List MemPlace), t ∈ S → DataW.trod enc P w 0 sp held n t cs = some x → ∃ ps, Shape P n t ps ∧ ps.length = P.cellsOf t ∧ Reps w ps cs
 | 0, t, cs, x, _, h => by simp [DataW.trod] at h
 | n + 1, t, cs, x, ht, h => by
  have hc := closed_mem hS ht
  cases hu : P.underlying t with
  | none => rw [hu] at hc; simp at hc
  | some d =>
   rw [hu] at hc
   cases d with
   | bool =>
    obtain ⟨b, rfl, _⟩ := DataW.trod_bool hu h
    exact ⟨[.bool b], by simp [Shape, hu], by rw [Nat.eq_of_beq_eq_true hc]; rfl, rfl, by simp [PV.one], fun i c v h1 h2 => by cases i <;> simp at h1 h2; subst h1 h2; exact .bool _ _⟩
   | int k =>
    obtain ⟨z, rfl, _, hw⟩ := DataW.trod_int hu h
    exact ⟨[.int k z], by simp [Shape, hu, hw], by rw [Nat.eq_of_beq_eq_true hc]; rfl, rfl, by simp [PV.one], fun i c v h1 h2 => by cases i <;> simp at h1 h2; subst h1 h2; exact .int _ _ _⟩
   | string =>
    obtain ⟨z, rfl, _, hw⟩ := DataW.trod_string hu h
    exact ⟨[.str z], by simp [Shape, hu, hw], by rw [Nat.eq_of_beq_eq_true hc]; rfl, rfl, by simp [PV.one], fun i c v h1 h2 => by cases i <;> simp at h1 h2; subst h1 h2; exact .str _ _⟩
   | struct fs =>
    simp only [Bool.and_eq_true, List.all_eq_true] at hc
    obtain ⟨xs, m, hm, _, hl, hxl, hf⟩ := DataW.trod_struct hu h
    obtain rfl : m = n := by omega
    obtain ⟨ps, h1, h2⟩ := tile_reps (n := m) (w := w) hl fs.toList 0 hc.2 (Nat.zero_le _) (fun f hfm => by
     obtain ⟨i, hi⟩ := List.getElem?_of_mem hfm
     rw [Array.getElem?_toList] at hi
     have hi' : i < xs.length := by rw [hxl]; exact (Array.getElem?_eq_some_iff.1 hi).1
     have := hf i f hi
     rw [List.getElem?_eq_getElem hi'] at this
     obtain ⟨p, k1, k2, k3⟩ := trod_shape hS m f.type _ _ (by have := hc.1 f hfm; simpa using this) this
     exact ⟨p, k1, k2, k3⟩)
    rw [List.drop_zero] at h1
    have hl' : ps.length = P.cellsOf t := h1.1.trans hl
    refine ⟨ps, ?_, hl', h1⟩
    simp only [Shape, hu]
    exact ⟨hl', fun f hfm => by have := (h2 f hfm).2; rwa [Nat.sub_zero] at this⟩
   | array len e =>
    simp only [Bool.and_eq_true] at hc
    obtain ⟨xs, m, hm, _, hl, hxl, hf⟩ := DataW.trod_array hu h
    obtain rfl : m = n := by omega
    have hlen : len * P.cellsOf e = P.cellsOf t := Nat.eq_of_beq_eq_true hc.2
    obtain ⟨ps, h1, h2⟩ := tile_reps (n := m) (w := w) hl (arrF P e len 0) 0 (tileB_arr len 0 (by omega)) (Nat.zero_le _) (fun f hfm => by
     obtain ⟨q1, i, q2, q3⟩ := arrF_mem hfm
     have hi' : i < xs.length := by omega
     have := hf i q2
     rw [List.getElem?_eq_getElem hi'] at this
     obtain ⟨p, k1, k2, k3⟩ := trod_shape hS m e _ _ (by simpa using hc.1) this
     rw [Nat.zero_add] at q3
     rw [q1, q3]
     exact ⟨p, k1, k2, k3⟩)
    rw [List.drop_zero] at h1
    have hl' : ps.length = P.cellsOf t := h1.1.trans hl
    refine ⟨ps, ?_, hl', h1⟩
    simp only [Shape, hu]
    exact ⟨hl', fun f hfm => by have := (h2 f hfm).2; rwa [Nat.sub_zero] at this⟩
   | slice e =>
    simp only [Bool.and_eq_true, Nat.blt_eq] at hc
    have he : e ∈ S := by have := hc.1.1; simpa using this
    rcases DataW.trod_slice hu h with ⟨rfl, _⟩ | ⟨a, len, cap, elems, rest, m, hm, rfl, _, _, hle, hcap, hlen, hel, _⟩
    ·refine ⟨[.sl (P.cellsOf e) []], ?_, by rw [Nat.eq_of_beq_eq_true hc.2]; rfl, rfl, by simp [PV.one], fun i c v h1 h2 => by cases i <;> simp at h1 h2; subst h1 h2; exact .sl0 _ _ _⟩
     simp only [Shape, hu]
     exact ⟨[], rfl, Nat.zero_le _, by simp⟩
    ·obtain rfl : m = n := by omega
     obtain ⟨l, hll, hlq⟩ := list_of (Q := fun i (ps : List PV) => Shape P m e ps ∧ ps.length = P.cellsOf e ∧ (∀ c ∈ ps, c.one = true) ∧ ∀ (j : Nat) (c : PV), ps[j]? = some c → ∃ v, w.cell? (a.add (i * P.cellsOf e + j)) = some v ∧ Rep w (fun _ => False) noSite c v) len fun i hi => by
      have h1 := hel i hi
      rw [List.getElem?_eq_getElem (by omega), Option.bind_eq_some_iff] at h1
      obtain ⟨cs', h2, h3⟩ := h1
      obtain ⟨ps, k1, k2, k3, k4, k5⟩ := trod_shape hS m e cs' _ he h3
      obtain ⟨_, q1, q2⟩ := World.cells?_some h2
      refine ⟨ps, k1, k2, k4, fun j c hj => ?_⟩
      have hjl : j < cs'.length := by rw [← k3]; exact (List.getElem?_eq_some_iff.1 hj).1
      refine ⟨cs'[j], ?_, k5 j c _ hj (List.getElem?_eq_getElem hjl)⟩
      rw [← add_add, q2 j (by omega)]; exact List.getElem?_eq_getElem hjl
     let xs := l.map (PV.mk (aggT P e))
     have hxl : xs.length = len := by simp [xs, hll]
     have hcell : ∀ ps ∈ l, (PV.mk (aggT P e) ps).cells = ps := by
      intro ps hps
      obtain ⟨i, hi⟩ := List.getElem?_of_mem hps
      obtain ⟨q1, q2, q3, _⟩ := hlq i ps hi
      exact mk_cells q3 fun ha => by rw [q2, closed_one hS he ha]
     have hw : ∀ x ∈ xs, x.cells.length = P.cellsOf e := by
      intro x hx
      obtain ⟨ps, hps, rfl⟩ := List.mem_map.1 hx
      rw [hcell ps hps]
      obtain ⟨i, hi⟩ := List.getElem?_of_mem hps
      exact (hlq i ps hi).2.1
     have hfl : ∀ (k : Nat) (c : PV), (flat xs)[k]? = some c → ∃ v, w.cell? (a.add k) = some v ∧ Rep w (fun _ => False) noSite c v ∧ c.one = true := by
      intro k c hk
      obtain ⟨x, h1, h2⟩ := flat_inv hc.1.2 hw hk
      simp only [xs, List.getElem?_map, Option.map_eq_some_iff] at h1
      obtain ⟨ps, h3, rfl⟩ := h1
      rw [hcell ps (List.mem_of_getElem? h3)] at h2
      obtain ⟨_, _, q3, q4⟩ := hlq _ ps h3
      obtain ⟨v, q5, q6⟩ := q4 _ c h2
      rw [Nat.mul_comm, Nat.div_add_mod] at q5
      exact ⟨v, q5, q6, q3 c (List.mem_of_getElem? h2)⟩
     refine ⟨[.sl (P.cellsOf e) xs], ?_, by rw [Nat.eq_of_beq_eq_true hc.2]; rfl, rfl, by simp [PV.one], fun i c v h1 h2 => ?_⟩
     ·simp only [Shape, hu]
      refine ⟨xs, rfl, by omega, fun x hx => ?_⟩
      obtain ⟨ps, hps, rfl⟩ := List.mem_map.1 hx
      obtain ⟨i, hi⟩ := List.getElem?_of_mem hps
      exact ⟨ps, rfl, (hlq i ps hi).1⟩
     ·cases i <;> simp at h1 h2
      subst h1 h2
      rw [← hxl]
      refine .sl _ _ _ _ _ (fun k => (w.cell? (a.add k)).getD Go.undef) hc.1.2 hw (fun c hc' => ?_) (by omega) (fun _ h => h) (fun k c hk => ?_) (fun k c hk => ?_)
      ·obtain ⟨k, hk⟩ := List.getElem?_of_mem hc'
       obtain ⟨_, _, _, h⟩ := hfl k c hk
       exact h
      ·obtain ⟨v, h1, _⟩ := hfl k c hk
       rw [h1]; rfl
      ·obtain ⟨v, h1, h2, _⟩ := hfl k c hk
       rw [h1]; exact h2
   | _ => simp at hc
theorem arg_shape (hS : closedT P S = true) {t : TypeId} {v : Value} {d : DataW H} {ps : List MemPlace} (ht : t ∈ S) (h : DataW.Trod enc P w 0 sp held t v d ps) (hv : aggT P t = false → v.cells = #[v]) (hv' : aggT P t = true → ∃ cs, v = .agg cs) :
  ∃ n cs, Shape P n t cs ∧ Rep w (fun _ => False) noSite (PV.mk (aggT P t) cs) v := by
 obtain ⟨n, h⟩ := h
 obtain ⟨cs, h1, h2, h3, h4, h5⟩ := trod_shape hS n t _ _ ht h
 refine ⟨n, cs, h1, ?_⟩
 cases ha : aggT P t with
 | true =>
  obtain ⟨us, rfl⟩ := hv' ha
  exact .agg _ _ _ (by simpa [Value.cells] using h3) fun i c v hc hv => h5 i c v hc (by simpa [Value.cells] using hv)
 | false =>
  have hl := closed_one hS ht ha
  match cs, h2.trans hl with
  | [c], _ => exact h5 0 c v rfl (by rw [hv ha]; rfl)
end
theorem okWide_cells {P : Program} {w : World} {r : Reach} {base : Nat} {t : TypeId} {v : Value} (h : Value.okWide P w r base t v) : (aggT P t = false → v.cells = #[v]) ∧ (aggT P t = true → ∃ cs, v = .agg cs) := by
 unfold Value.okWide at h
 unfold aggT
 cases hu : P.underlying t with
 | none =>
  rw [hu] at h
  refine ⟨fun _ => ?_, fun h => by cases h⟩
  cases v <;> first | rfl | (simp [Cell.okWide, Cell.ok, hu] at h)
 | some d =>
  rw [hu] at h
  cases d <;> first
   | (obtain ⟨cs, rfl, _⟩ := h; exact ⟨fun h => (by cases h), fun _ => ⟨_, rfl⟩⟩)
   | (refine ⟨fun _ => ?_, fun h => by cases h⟩; cases v <;> first | rfl | (simp [Cell.okWide, Cell.ok, hu] at h))
theorem arg_open {H : Type} {enc : TypeId × Value → H} {P : Program} {w : World} {sp : Nat → Bool} {held : Bool} {S : List TypeId} (hS : closedT P S = true) {t : TypeId} {v : Value} {d : DataW H} {ps : List MemPlace} {r : Reach} {base : Nat} (ht : S.contains t = true)
  (hval : Value.okWide P w r base t v) (h : DataW.Trod enc P w 0 sp held t v d ps) : ∃ n cs, Shape P n t cs ∧ Rep w (fun _ => False) noSite (PV.mk (aggT P t) cs) v :=
 arg_shape hS (by simpa using ht) h (okWide_cells hval).1 (okWide_cells hval).2
theorem calls_of_ok {P : Program} {f : FuncId} {args : List PV} (h : Ok P f args [] [] (.bool true) [] []) {w : World} {vals : List Value} (hl : vals.length = args.length) (hr : ∀ (i : Nat) (pv : PV) (v : Value), args[i]? = some pv → vals[i]? = some v → Rep w (fun _ => False) noSite pv v) :
  Calls P f vals.toArray w fun e w' => e = .returned (.bool true) ∧ Below w.heap.size w w' := by
 have hm : ∀ g, ¬ Mut (bst [] [] 1 ⟨fun _ => False, fun _ => none⟩) noSite g := by
  rintro g (h | ⟨d, n, o, v, h1, _, h3, _⟩)
  ·exact h
  ·cases h3
 refine (h w ⟨fun _ => False, fun _ => none⟩ noSite vals ⟨fun d n o ho => ?_, fun d n d' n' o o' v v' g h1 h2 h3 => (by cases h3), fun d n _ => rfl, fun d n o v g h1 h2 => (by cases h2), fun g hg => hg.elim⟩ hl (fun i pv v hp hv => ?_)).mono ?_
 ·simp [bst] at ho
 ·exact (hr i pv v hp hv).mono (fun _ _ _ => rfl) (fun b _ hb => absurd hb (hm b)) (fun _ _ _ h => h)
 ·rintro e w' ⟨v, J', rfl, _, _, hrep, hfr⟩
  cases hrep
  refine ⟨rfl, hfr.os, hfr.tape, hfr.output, hfr.size, fun k hk => hfr.block k hk fun hb => ?_⟩
  exact hm k (.inr hb)
def RA (w : World) : List PV → List Value → Prop
 | [], [] => True
 | p :: ps, v :: vs => Rep w (fun _ => False) noSite p v ∧ RA w ps vs
 | _, _ => False
theorem ra_get {w : World} : ∀ {ps : List PV} {vs : List Value}, RA w ps vs → vs.length = ps.length ∧ ∀ (i : Nat) (pv : PV) (v : Value), ps[i]? = some pv → vs[i]? = some v → Rep w (fun _ => False) noSite pv v
 | [], [], _ => ⟨rfl, fun i p v h => by simp at h⟩
 | p :: ps, [], h => h.elim
 | [], v :: vs, h => h.elim
 | p :: ps, v :: vs, h => by
  obtain ⟨h1, h2⟩ := ra_get h.2
  refine ⟨by simp [h1], fun i q u hq hu => ?_⟩
  cases i with
  | zero => simp at hq hu; subst hq hu; exact h.1
  | succ i => exact h2 i q u (by simpa using hq) (by simpa using hu)
theorem law_calls {P : Program} {f : FuncId} {args : List PV} (h : Ok P f args [] [] (.bool true) [] []) {w : World} {vals : List Value} (hr : RA w args vals) :
  Calls P f vals.toArray w fun e w' => e = .returned (.bool true) ∧ Below w.heap.size w w' := calls_of_ok h (ra_get hr).1 (ra_get hr).2
theorem shape_int {P : Program} {n : Nat} {t : TypeId} {k : IntKind} {cs : List PV} (h : Shape P n t cs) (ht : P.underlying t = some (.int k)) : ∃ z, cs = [.int k z] ∧ (Lit.int k z).wf = true := by
 cases n with
 | zero => exact h.elim
 | succ n => simpa only [Shape, ht] using h
theorem shape_bool {P : Program} {n : Nat} {t : TypeId} {cs : List PV} (h : Shape P n t cs) (ht : P.underlying t = some .bool) : ∃ b, cs = [.bool b] := by
 cases n with
 | zero => exact h.elim
 | succ n => simpa only [Shape, ht] using h
theorem shape_str {P : Program} {n : Nat} {t : TypeId} {cs : List PV} (h : Shape P n t cs) (ht : P.underlying t = some .string) : ∃ s, cs = [.str s] ∧ s.size ≤ maxLen := by
 cases n with
 | zero => exact h.elim
 | succ n => simpa only [Shape, ht] using h
end Go.Proofs.Ytmompdklolomfaa.Ab
