/- Sets of numbers, as maps hold them: made, asked, grown. -/
import Derived.Test.YtejimiedoibkcaaAbDel
import Derived.MapKept
namespace Go.Proofs.Ytejimiedoibkcaa.Ab
open Go Go.RowKit Go.MapKept
set_option linter.unusedVariables false
set_option linter.unusedSimpArgs false
variable {P : Program} {N : Nat} {ops : Array Oper} {s : St} {dst : Option Tmp} {type : TypeId} {pos : String} {after : Array Edge} {guard : Option (Nat × Bool)}
theorem do_makeMap {d : Nat} {t : TypeId} (k : IntKind) : Does P N ops ⟨some d, .makeMap t none, type, pos, after, guard⟩ s ⟨[], .mp d (s.next d), [((d, s.next d), some (.mp k []))], [d]⟩ :=
  does_alloc d fun w0 Mv J s' a w hs _ hnx hr => by
    refine ⟨.map (some w.heap.size), .map #[] 0, ?_, rfl, fun M J' hJ' => .mp _ _ _ _ hJ', fun M J' hJ' hmono hsub => ⟨w.heap.size, #[], 0, hJ', heap_alloc_new w _, rfl⟩⟩
    simp [execOp, Instr.makeMap, newObj, Sem.run] <;> rfl
theorem setOf_key {k : IntKind} {es : Array MapEntry} {ks : List Int} (h : setOf k es ks) : ∀ x ∈ es.toList, IsKey (.int k) x.key := fun x hx => by
  have h1 : (x.key, x.val) ∈ es.toList.map (fun e => (e.key, e.val)) := List.mem_map.2 ⟨x, hx, rfl⟩
  rw [h] at h1
  obtain ⟨n, _, h2⟩ := List.mem_map.1 h1
  injection h2 with h3 h4
  rw [← h3]; simp [IsKey]
theorem setOf_find {k : IntKind} {es : Array MapEntry} {ks : List Int} (h : setOf k es ks) (n : Int) :
    (n ∉ ks ∧ Instr.findNow (.int k) (.int k n) es.toList 0 = some none) ∨ ∃ j e, n ∈ ks ∧ Instr.findNow (.int k) (.int k n) es.toList 0 = some (some (j, .bool true)) ∧ es[j]? = some e ∧ e.key = .int k n ∧ e.val = .bool true := by
  have hmem : ∀ x ∈ es.toList, x.val = .bool true ∧ ∃ m ∈ ks, x.key = .int k m := fun x hx => by
    have h1 : (x.key, x.val) ∈ es.toList.map (fun e => (e.key, e.val)) := List.mem_map.2 ⟨x, hx, rfl⟩
    rw [h] at h1
    obtain ⟨m, hm, h2⟩ := List.mem_map.1 h1
    injection h2 with h3 h4
    exact ⟨h4.symm, m, hm, h3.symm⟩
  rcases findNow_spec (d := .int k) (k := .int k n) (by simp [IsKey]) es.toList 0 (setOf_key h) with ⟨h1, h2⟩ | ⟨j, e, h1, h2, h3⟩
  · left
    refine ⟨fun hn => ?_, h1⟩
    have h4 : ((.int k n : Value), (.bool true : Value)) ∈ ks.map (fun n => ((.int k n : Value), (.bool true : Value))) := List.mem_map.2 ⟨n, hn, rfl⟩
    rw [← h] at h4
    obtain ⟨x, hx, h5⟩ := List.mem_map.1 h4
    injection h5 with h6 _
    exact h2 x hx h6
  · right
    obtain ⟨v1, m, v2, v3⟩ := hmem e (List.mem_of_getElem? h2)
    have hmn : m = n := by rw [h3] at v3; injection v3 with _ q; exact q.symm
    refine ⟨j, e, hmn ▸ v2, by rw [h1, v1, Nat.zero_add], by rw [← Array.getElem?_toList]; exact h2, h3, v1⟩
theorem do_lookup {t : TypeId} {x y : Operand} {d n : Nat} {k : IntKind} {ks : List Int} {v : Int} {kt et : TypeId} (hx : s.ev x = .mp d n) (hb : s.heap d n = some (.mp k ks)) (hy : s.ev y = .int k v) (ht : P.underlying t = some (.map kt et)) (hkt : P.underlying kt = some (.int k)) (hz : ∀ w, (zeroValue et).run P w = .ok (.bool false) w) :
    Does P N ops ⟨dst, .lookup t x y false, type, pos, after, guard⟩ s ⟨[(d, n)], .bool (decide (v ∈ ks)), [], []⟩ := by
  intro s' ha hlt w0 Mv J a w hs Q
  have hb' : s'.heap d n = some (.mp k ks) := (ha.rd (d, n) List.mem_cons_self).trans hb
  obtain ⟨g, es, clock, hJ, hh, hset⟩ := hs.obj d n _ hb'
  have hrx : Rep w (Mut s' J) J (.mp d n) (a.eval x) := by
    rw [← hx, ← ev_agree ha (by simp [Op.operands])]
    exact rep_ev hs fun t ht => hlt t (looks_op (by subst ht; simp [Op.operands]))
  have hry : Rep w (Mut s' J) J (.int k v) (a.eval y) := by
    rw [← hy, ← ev_agree ha (by simp [Op.operands])]
    exact rep_ev hs fun t ht => hlt t (looks_op (by subst ht; simp [Op.operands]))
  have hvx : a.eval x = .map (some g) := by
    generalize a.eval x = u at hrx
    cases hrx with
    | mp _ _ _ g' h => rw [hJ] at h; injection h with h; exact h.symm
  have hvy : a.eval y = .int k v := by
    generalize a.eval y = u at hry
    cases hry; rfl
  have hck := fun e => run_checkKey (w := w) hkt (k := .int k v) (by simp [IsKey]) e 9999
  have hrun : (execOp a.eval ⟨dst, .lookup t x y false, type, pos, after, guard⟩).run P w = .ok (.value (.bool (decide (v ∈ ks)))) w := by
    rcases setOf_find hset v with ⟨hn, hf⟩ | ⟨j, e, hn, hf, _, _, _⟩
    · have hfk := run_findKey (w := w) hkt hf
      simp [execOp, Instr.lookup, hvx, hvy, run_underlying ht, Go.MapKept.run_getObj_map hh, hck, hfk, hz, Result.andThen, hn]
    · have hfk := run_findKey (w := w) hkt hf
      simp [execOp, Instr.lookup, hvx, hvy, run_underlying ht, Go.MapKept.run_getObj_map hh, hck, hfk, Result.andThen, hn]
  unfold Oper.wp
  rw [hrun, Oper.upon_value]
  refine ⟨J, ?_⟩
  rw [app_read]
  exact hs.put dst (.bool _ _)
def addN (ks : List Int) (v : Int) : List Int := if v ∈ ks then ks else ks ++ [v]
theorem do_mapUpdate {t : TypeId} {x y z : Operand} {d n : Nat} {k : IntKind} {ks : List Int} {v : Int} {kt et : TypeId} (hx : s.ev x = .mp d n) (hb : s.heap d n = some (.mp k ks)) (hy : s.ev y = .int k v) (hz : s.ev z = .bool true) (ht : P.underlying t = some (.map kt et)) (hkt : P.underlying kt = some (.int k)) :
    Does P N ops ⟨none, .mapUpdate t x y z, type, pos, after, guard⟩ s ⟨[], .skip, [((d, n), some (.mp k (addN ks v)))], []⟩ :=
  does_turn hb rfl rfl fun w0 Mv J s' a w hs _ hb' hrep => by
    obtain ⟨g, es, clock, hJ, hh, hset⟩ := hs.obj d n _ hb'
    have hrx := hrep x (by simp [Op.operands])
    have hry := hrep y (by simp [Op.operands])
    have hrz := hrep z (by simp [Op.operands])
    rw [hx] at hrx
    rw [hy] at hry
    rw [hz] at hrz
    have hvx : a.eval x = .map (some g) := by
      generalize a.eval x = u at hrx
      cases hrx with
      | mp _ _ _ g' h => rw [hJ] at h; injection h with h; exact h.symm
    have hvy : a.eval y = .int k v := by
      generalize a.eval y = u at hry
      cases hry; rfl
    have hvz : a.eval z = .bool true := by
      generalize a.eval z = u at hrz
      cases hrz; rfl
    have hck := run_checkKey (w := w) hkt (k := .int k v) (by simp [IsKey]) false 9999
    have hlt : g < w.heap.size := (Array.getElem?_eq_some_iff.1 hh).1
    have hgb : ∀ o : Obj, w.grownBy { w with heap := w.heap.setIfInBounds g o } (some g) := fun o => ⟨rfl, rfl, rfl, by simp, fun q hq hne => by simp [Array.getElem?_setIfInBounds, Ne.symm (fun e : q = g => hne (by rw [e]))]⟩
    rcases setOf_find hset v with ⟨hn, hf⟩ | ⟨j, e, hn, hf, hje, hkey, hval⟩
    · have hfk := run_findKey (w := w) hkt hf
      refine ⟨.map (some g), g, { w with heap := w.heap.setIfInBounds g (.map (es.push { key := .int k v, val := .bool true, born := clock }) (clock + 1)) }, ?_, hJ, rfl, hgb _, fun M hmono => ⟨g, es.push { key := .int k v, val := .bool true, born := clock }, clock + 1, hJ, by simp [hlt], ?_⟩⟩
      · simp [execOp, Instr.mapUpdate, hvx, hvy, hvz, run_underlying ht, Go.MapKept.run_getObj_map hh, hck, hfk, Go.MapKept.run_setObj_map _ hh, Result.andThen]
      · unfold setOf at *
        simp [addN, hn, hset]
    · have hfk := run_findKey (w := w) hkt hf
      refine ⟨.map (some g), g, { w with heap := w.heap.setIfInBounds g (.map (es.modify j fun e => { e with key := .int k v, val := .bool true }) clock) }, ?_, hJ, rfl, hgb _, fun M hmono => ⟨g, es.modify j fun e => { e with key := .int k v, val := .bool true }, clock, hJ, by simp [hlt], ?_⟩⟩
      · simp [execOp, Instr.mapUpdate, hvx, hvy, hvz, run_underlying ht, Go.MapKept.run_getObj_map hh, hck, hfk, hje, hkey, Instr.keyThatStays, Instr.sameBits, Go.MapKept.run_setObj_map _ hh, Result.andThen]
      · unfold setOf at *
        rw [addN, if_pos hn, ← hset]
        apply List.ext_getElem?
        intro i
        rw [List.getElem?_map, List.getElem?_map, Array.getElem?_toList, Array.getElem?_toList, Array.getElem?_modify]
        by_cases hij : j = i
        · subst hij
          rw [if_pos rfl, hje]
          simp [hkey, hval]
        · rw [if_neg hij]
end Go.Proofs.Ytejimiedoibkcaa.Ab
