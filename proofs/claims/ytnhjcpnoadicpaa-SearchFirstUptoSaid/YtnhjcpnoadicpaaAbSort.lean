/- slices.SortFunc at structures: what it does with a row of ours. -/
import Derived.Test.YtnhjcpnoadicpaaAbOps15
import Derived.Shelf.SlSortCmp.NoneTotal
namespace Go.Proofs.Ytnhjcpnoadicpaa.Ab
open Go Go.RowKit Go.Shelf Go.Lib Go.Proofs
set_option linter.unusedVariables false
set_option linter.unusedSimpArgs false
variable {P : Program} {ρ : Ren}
/-- a cell that stands for one value, whatever the memory -/
def valOf : PV → Value
  | .bool b => .bool b
  | .int k n => .int k n
  | .str s => .string s
  | _ => Go.undef
def PV.exact : PV → Bool
  | .bool _ => true
  | .int _ _ => true
  | .str _ => true
  | _ => false
theorem exact_one {c : PV} (h : c.exact = true) : c.one = true := by cases c <;> first | rfl | cases h
theorem exact_val {c : PV} (h : c.exact = true) : (valOf c).oneCell' = true := by cases c <;> first | rfl | cases h
theorem exact_rep {c : PV} (h : c.exact = true) (w : World) (M : Nat → Prop) (J : Site) : Rep w M J c (valOf c) := by
  cases c <;> first | exact .bool _ _ | exact .int _ _ _ | exact .str _ _ | cases h
theorem exact_eq {c : PV} (h : c.exact = true) {w : World} {M : Nat → Prop} {J : Site} {v : Value} (hr : Rep w M J c v) : v = valOf c := by
  cases hr <;> first | rfl | cases h
/-- what is there has not turned, and the draws have gone on: more draws, and more blocks -/
theorem grown_of {w w' : World} {M M' : Nat → Prop} (h : Fr w w' M M') (hM : ∀ b, ¬ M b) : ∃ q os', w' = Sort.grow (w.drewN q) os' := by
  refine ⟨w'.drawn - w.drawn, w'.heap.extract w.heap.size w'.heap.size, ?_⟩
  obtain ⟨heap', tape', drawn', os', output'⟩ := w'
  have e1 : os' = w.os := h.os
  have e2 : tape' = w.tape := h.tape
  have e3 : output' = w.output := h.output
  have hs : w.heap.size ≤ heap'.size := h.size
  have hb : ∀ k, k < w.heap.size → heap'[k]? = w.heap[k]? := fun k hk => h.block k hk (hM k)
  have hd : w.drawn ≤ drawn' := h.drawn
  subst e1 e2 e3
  have eh : heap' = w.heap ++ heap'.extract w.heap.size heap'.size := by
    apply Array.ext_getElem?
    intro k
    by_cases hk : k < w.heap.size
    · rw [Array.getElem?_append_left hk]; exact hb k hk
    · rw [Array.getElem?_append_right (by omega), Array.getElem?_extract]
      by_cases hk2 : k < heap'.size
      · rw [if_pos (by omega)]; congr 1; omega
      · rw [if_neg (by omega), Array.getElem?_eq_none (by omega)]
  have ed : drawn' = w.drawn + (drawn' - w.drawn) := by omega
  simp only [Sort.grow, World.drewN]
  rw [← eh, ← ed]
theorem bst_nil (tag : Nat) (X : Ctx) (J : Site) (g : Nat) : ¬ OMut (bst [] [] tag X) J g := by
  rintro ⟨d, n, o, v, h, _⟩
  simp only [bst] at h
  split at h
  · simp at h
  · split at h
    · simp at h
    · cases h
theorem bord_nil (w : World) (tag : Nat) : Bord w (bst [] [] tag ⟨fun _ => False, fun _ => none⟩) noSite := by
  have hn : ∀ d n o, (bst [] [] tag ⟨fun _ => False, fun _ => none⟩).heap d n ≠ some o := by
    intro d n o h
    simp only [bst] at h
    split at h
    · simp at h
    · split at h
      · simp at h
      · cases h
  exact ⟨fun d n o h => absurd h (hn d n o), fun d n d' n' o o' v v' g h => absurd h (hn d n o), fun d n _ => rfl, fun d n o v g h => absurd h (hn d n o), fun g h => h.elim⟩
variable {α : Type} [Inhabited α]
theorem cmpLays_of {g : FuncId} {k : Nat} {cells : α → List PV} {cf : α → α → Int} (hex : ∀ x, ∀ c ∈ cells x, c.exact = true)
    (hok : ∀ x y, Ok P g [.agg (cells x), .agg (cells y)] [] [] (.int .i64 (cf x y)) [] []) (blk off size : Nat) (w : World) : CmpLays P g #[] (fun x => (cells x).map valOf) k cf blk off size w := by
  intro m os dk hs x y
  have hrep : ∀ (z : α) (W : World) (M : Nat → Prop), Rep W M noSite (.agg (cells z)) (.agg ((cells z).map valOf).toArray) := fun z W M => by
    refine .agg _ _ _ (by simp) fun i c v hc hv => ?_
    simp only [List.getElem?_toArray, List.getElem?_map, hc, Option.map_some, Option.some.injEq] at hv
    subst hv
    exact exact_rep (hex z c (List.mem_of_getElem? hc)) _ _ _
  refine (hok x y (sortWorldK (fun x => (cells x).map valOf) k w blk off m dk os) ⟨fun _ => False, fun _ => none⟩ noSite [.agg ((cells x).map valOf).toArray, .agg ((cells y).map valOf).toArray] (bord_nil _ 1) rfl (fun i pv v h1 h2 => ?_)).mono ?_
  · match i with
    | 0 => simp at h1 h2; subst h1 h2; exact hrep x _ _
    | 1 => simp at h1 h2; subst h1 h2; exact hrep y _ _
    | i + 2 => simp at h1
  · rintro e w' ⟨v, J', he, _, _, hr, hfr⟩
    cases hr
    exact ⟨he, grown_of hfr (bst_nil _ _ _)⟩
def sortF (cf : α → α → Int) (l : List α) : List α := (Sort.pdq (ltOf cf) l.toArray 0 l.length (Lib.bitLen l.length) true true).toList
theorem flatK_get {k : Nat} {cells : α → List PV} (hk : ∀ x, (cells x).length = k) (hkp : 0 < k) (l : List α) (t : Nat) (ht : t < l.length * k) :
    ∃ c, (flat (l.map fun x => PV.agg (cells x)))[t]? = some c ∧ (Sort.flatK (fun x => (cells x).map valOf) k l.toArray)[t]! = valOf c ∧ ∃ x ∈ l, c ∈ cells x := by
  have hi : t / k < l.length := Nat.div_lt_of_lt_mul (by rw [Nat.mul_comm]; exact ht)
  have hj : t % k < (cells l[t / k]).length := by rw [hk]; exact Nat.mod_lt _ hkp
  have h1 := flat_get (sz := k) (xs := l.map fun x => PV.agg (cells x)) (fun x hx => by
    obtain ⟨y, _, rfl⟩ := List.mem_map.1 hx
    exact hk y) (i := t / k) (x := PV.agg (cells l[t / k])) (by simp [hi]) (j := t % k) (c := (cells l[t / k])[t % k]) (List.getElem?_eq_getElem hj)
  rw [Nat.div_add_mod'] at h1
  refine ⟨_, h1, ?_, l[t / k], List.getElem_mem hi, List.getElem_mem hj⟩
  rw [Sort.get_flatK _ _ _ _ (by simpa using ht)]
  rw [show (l.toArray)[t / k]! = l[t / k] from by rw [getElem!_pos _ _ (by simpa using hi)]; simp]
  rw [getElem!_pos _ _ (by simpa using hj)]
  simp
theorem getElem_of_bang {β : Type} [Inhabited β] {A : Array β} {k : Nat} {y : β} (h : A.toList[k]? = some y) : A[k]! = y := by
  rw [Array.getElem?_toList] at h
  obtain ⟨h1, h2⟩ := Array.getElem?_eq_some_iff.1 h
  rw [getElem!_pos A k h1, h2]
theorem heap_sortWorldK {ev : α → List Value} {sz : Nat} {w : World} {g m : Nat} {d' : Array α} {os : Array Obj} {cur : Array Value} {e : TypeId} (h : w.heap[g]? = some (.cells cur e (0, 0))) :
    (sortWorldK ev sz w g 0 m d' os).heap[g]? = some (.cells (Sort.putCells id 0 (Sort.flatK ev sz d') cur) e (0, 0)) := by
  have hlt : g < w.heap.size := (Array.getElem?_eq_some_iff.1 h).1
  unfold sortWorldK Sort.grow Sort.putRowK Sort.putRow Sort.mapBlock
  show ((Sort.ahead w m).heap.modify g _ ++ os)[g]? = _
  rw [Array.getElem?_append_left (by simpa using hlt), Array.getElem?_modify, if_pos rfl]
  show (w.heap[g]?).map _ = _
  rw [h]; rfl
theorem heap_sortWorldK_other {ev : α → List Value} {sz : Nat} {w : World} {g m : Nat} {d' : Array α} {os : Array Obj} {b : Nat} (hb : b < w.heap.size) (h : g ≠ b) :
    (sortWorldK ev sz w g 0 m d' os).heap[b]? = w.heap[b]? := by
  unfold sortWorldK Sort.grow Sort.putRowK Sort.putRow Sort.mapBlock
  show ((Sort.ahead w m).heap.modify g _ ++ os)[b]? = _
  rw [Array.getElem?_append_left (by simpa using hb), Array.getElem?_modify, if_neg h]
  rfl
theorem putCells_take {F cur : Array Value} (h : F.size ≤ cur.size) : (Sort.putCells id 0 F cur).toList.take F.size = F.toList := by
  apply List.ext_getElem?
  intro k
  rw [List.getElem?_take]
  by_cases hk : k < F.size
  · rw [if_pos hk, Array.getElem?_toList, Array.getElem?_toList]
    unfold Sort.putCells
    rw [Array.getElem?_mapIdx, Array.getElem?_eq_getElem (by omega : k < cur.size), Option.map_some, if_pos (by omega), Array.getElem?_eq_getElem hk, Nat.sub_zero, getElem!_pos F k hk]
    rfl
  · rw [if_neg hk, Array.getElem?_toList, Array.getElem?_eq_none (by omega)]
variable {N : Nat} {ops : Array Oper} {s : St} {dst : Option Tmp} {type : TypeId} {pos : String} {after : Array Edge} {guard : Option (Nat × Bool)}
/-- **slices.SortFunc of a row of ours.** -/
theorem does_sort {f g : FuncId} {xo : Operand} {tys : Array TypeId} {d n e sz : Nat} {cells : α → List PV} {cf : α → α → Int} {l : List α} (L : SlLaysF0.n6 P ρ) (hf : ρ.f 6 = f) (aE : ∀ w, (isAgg (ρ.t 24)).run P w = .ok true w) (zE : ∀ w, (Go.sizeOf (ρ.t 24)).run P w = .ok sz w)
    (hk : ∀ x, (cells x).length = sz) (hkp : 0 < sz) (hex : ∀ x, ∀ c ∈ cells x, c.exact = true) (hO : Sort.SWO (ltOf cf)) (hok : ∀ x y, Ok P g [.agg (cells x), .agg (cells y)] [] [] (.int .i64 (cf x y)) [] [])
    (hef : Ent P f) (heg : Ent P g) (hl : l.length < 4611686018427387904) (hx : s.ev xo = .own d n) (hb : s.heap d n = some (.arr e sz false (l.map fun x => PV.agg (cells x)))) :
    Does P N ops ⟨dst, .call ⟨.value (.func f), #[xo, .func g], tys⟩, type, pos, after, guard⟩ s ⟨[], .tup [], [((d, n), some (.arr e sz false ((sortF cf l).map fun x => PV.agg (cells x))))], []⟩ := by
  intro s1 ha hlt w0 Mv J a w hs Q
  have hb1 := (ha.up _ List.mem_cons_self).trans hb
  obtain ⟨v, ys, hJ, hown, hp, hw, ho, hr⟩ := hs.obj d n _ hb1
  have hrx : Rep w (Mut s1 J) J (.own d n) (a.eval xo) := by
    rw [← hx, ← ev_agree ha (by simp [Op.operands, Call.operands])]
    exact rep_ev hs fun t ht => hlt t (looks_op (by subst ht; simp [Op.operands, Call.operands]))
  obtain ⟨fn, e1, e2, e3⟩ := hef
  obtain ⟨fg, g1, g2, g3⟩ := heg
  have hrun : (execOp a.eval ⟨dst, .call ⟨.value (.func f), #[xo, .func g], tys⟩, type, pos, after, guard⟩).run P w = .ok (.enter f #[a.eval xo, .func (.func g) #[] #[]]) w := by
    simp only [execOp, resolve, Act.eval, Deferred.ofValue, Sem.run_bind, Sem.run_pure, Result.andThen_ok, invoke, callFunc, program, Sem.run, e1, e2, e3, Bool.false_eq_true, if_false]
    simp [e1, e2, e3, Sem.run, Act.eval]
  have eg : ∀ args w, (callFunc g args).run P w = .ok (.enter g args) w := fun args w => by
    simp only [callFunc, program, Sem.run, Sem.run_bind, Result.andThen_ok, g1, g2, g3, Bool.false_eq_true, if_false]
    simp [g1, g2, g3, Sem.run]
  have htup : ∀ w' M, Rep w' M J (.tup []) (.tuple #[]) := fun w' M => .tup _ _ _ rfl fun i c v hc => by simp at hc
  unfold Oper.wp
  rw [hrun, Oper.upon_enter, ← hf]
  generalize a.eval xo = av at hrx ⊢
  by_cases h0 : l = []
  · subst h0
    have hv : ∃ p cap, av = .slice p 0 cap := by
      cases hrx with
      | own _ _ _ A len cap h =>
        rw [hJ] at h; injection h with h
        rcases hown.2 with ⟨q, _⟩ | ⟨_, _, _, q, _⟩
        · rw [q] at h; injection h with h1 h2 h3; exact ⟨A, cap, by rw [← h2]⟩
        · rw [q] at h; injection h with h1 h2 h3; exact ⟨A, cap, by rw [← h2]; rfl⟩
      | own0 _ _ _ ab h => exact ⟨_, _, rfl⟩
    obtain ⟨p, cap, hv⟩ := hv
    rw [hv]
    refine (AnyF.slices_SortFunc_none L p cap _ w).mono ?_
    rintro e' w' ⟨rfl, rfl⟩
    have hs0 : sortF cf ([] : List α) = [] := by
      have := (Sort.pdq_sorts (ltOf cf) hO (#[] : Array α) 0 0 (Lib.bitLen 0) true true (Nat.zero_le _) (Nat.le_refl _) (Or.inl rfl)).1.1
      exact List.length_eq_zero_iff.1 (by simpa [sortF] using this)
    have hst : s1.app dst ⟨[], .tup [], [((d, n), some (.arr e sz false ((sortF cf ([] : List α)).map fun x => PV.agg (cells x))))], []⟩ = s1.put dst (.tup []) := by
      have hh : (fun a m => look [((d, n), some (AObj.arr e sz false ((sortF cf ([] : List α)).map fun x => PV.agg (cells x))))] a m (s1.heap a m)) = s1.heap := by
        funext a m
        simp only [look]
        split
        · rename_i hc
          obtain ⟨rfl, rfl⟩ := hc
          rw [hb1, hs0]
        · rfl
      unfold St.app
      rw [hh]
      cases dst <;> rfl
    rw [hst]
    exact ⟨J, hs.put dst (htup _ _)⟩
  · have hlp : 0 < l.length := List.length_pos_iff.2 h0
    obtain ⟨hylen, hcase⟩ := hown
    rw [List.length_map] at hylen hcase
    rcases hcase with ⟨_, hn0⟩ | ⟨g0, cap, cur, hv, _, hg, hcap, hmax, hcs, htake⟩
    · omega
    have hv0 : av = .slice (some ⟨g0, 0, none⟩) l.toArray.size cap := by
      cases hrx with
      | own _ _ _ A len c h => rw [hJ] at h; injection h with h; rw [← h, hv]; rfl
      | own0 _ _ _ ab h => rw [hJ] at h; injection h with h; rw [hv] at h; cases h
    rw [hv0]
    have hglt : g0 < w.heap.size := (Array.getElem?_eq_some_iff.1 hg).1
    have hcell : ∀ k, w.cell? ⟨g0, k, none⟩ = cur[k]? := fun k => by rw [cell_of_row w g0 _ cur e (0, 0) hg]
    have hfrz : ∀ k, w.frozen? ⟨g0, k, none⟩ = false := fun k => by
      have h1 : w.ownsRow 0 e sz (.slice (some ⟨g0, 0, none⟩) l.length cap) l.length ys := ⟨hylen, .inr ⟨g0, cap, cur, rfl, Nat.zero_le _, hg, hcap, hmax, hcs, htake⟩⟩
      exact h1.frozenAt k
    have hycur : ∀ k u, ys[k]? = some u → cur[k]? = some u := fun k u h => by
      rw [← htake, List.getElem?_take] at h
      split at h
      · rwa [Array.getElem?_toList] at h
      · cases h
    have hH : Sort.HoldsK (fun x => (cells x).map valOf) sz w g0 0 l.toArray := by
      intro j hj
      rw [Sort.size_flatK] at hj
      have hj' : j < l.length * sz := by simpa using hj
      obtain ⟨c, c1, c2, x, hxl, hcx⟩ := flatK_get (cells := cells) hk hkp l j hj'
      have hy : j < ys.length := by omega
      have := hr j c ys[j] c1 (List.getElem?_eq_getElem hy)
      rw [Nat.zero_add]
      refine ⟨?_, hfrz j⟩
      rw [hcell, hycur j _ (List.getElem?_eq_getElem hy), exact_eq (hex x c hcx) this, c2]
      rfl
    refine (AnyQ.slices_SortFunc_eq L sz aE zE (fun x => (cells x).map valOf) (fun x => by rw [List.length_map, hk]) (fun x u hu => by
      obtain ⟨c, hc, rfl⟩ := List.mem_map.1 hu
      exact exact_val (hex x c hc)) cf hO g #[] g0 0 cap l.toArray w eg (cmpLays_of hex hok _ _ _ _) hH hglt (by simpa using hl)).mono ?_
    rintro e' w' ⟨rfl, m, os, rfl⟩
    have hsz : (sortF cf l).length = l.length := by
      have := (Sort.pdq_sorts (ltOf cf) hO l.toArray 0 l.toArray.size (Lib.bitLen l.toArray.size) true true (Nat.zero_le _) (Nat.le_refl _) (Or.inl rfl)).1.1
      simpa [sortF] using this
    have hd' : Sort.pdq (ltOf cf) l.toArray 0 l.toArray.size (Lib.bitLen l.toArray.size) true true = (sortF cf l).toArray := by simp [sortF]
    rw [hd']
    generalize hl' : sortF cf l = l' at hsz ⊢
    have hcs2 : l.length * sz ≤ cur.size := by rw [hcs]; exact Nat.mul_le_mul_right _ hcap
    have hFs : (Sort.flatK (fun x => (cells x).map valOf) sz l'.toArray).size = l.length * sz := by rw [Sort.size_flatK]; simp [hsz]
    have hw' := heap_sortWorldK (ev := fun x : α => (cells x).map valOf) (sz := sz) (m := m) (d' := l'.toArray) (os := os) hg
    have hsim : Sim w0 Mv N J { s1.app dst ⟨[], .tup [], [((d, n), some (.arr e sz false (l'.map fun x => PV.agg (cells x))))], []⟩ with env := s1.env } a (sortWorldK (fun x => (cells x).map valOf) sz w g0 0 m l'.toArray os) := by
      refine hs.turn (w' := sortWorldK (fun x => (cells x).map valOf) sz w g0 0 m l'.toArray os) (s' := { s1.app dst ⟨[], .tup [], [((d, n), some (.arr e sz false (l'.map fun x => PV.agg (cells x))))], []⟩ with env := s1.env }) (o' := .arr e sz false (l'.map fun x => PV.agg (cells x))) hb1 rfl rfl (v := v) (g := g0) hJ (by rw [hv]; rfl) ⟨rfl, rfl, rfl, ?_, fun k hk hne => ?_⟩ ?_ rfl rfl (fun a m => ?_) (by funext a; rfl) (fun M hmono => ?_)
      · unfold sortWorldK Sort.grow Sort.putRowK Sort.putRow Sort.mapBlock
        simp
      · exact heap_sortWorldK_other hk (fun e => hne (by rw [e]))
      · show w.drawn ≤ w.drawn + m
        omega
      · simp only [St.app, look]
      · refine ⟨v, (Sort.flatK (fun x => (cells x).map valOf) sz l'.toArray).toList, hJ, ⟨?_, .inr ⟨g0, cap, _, ?_, Nat.zero_le _, hw', ?_, hmax, ?_, ?_⟩⟩, hp, fun x hx => ?_, fun c hc => ?_, fun k c y hc hy => ?_⟩
        · rw [Array.length_toList, hFs, List.length_map, hsz]
        · rw [hv, List.length_map, hsz]
        · rw [List.length_map, hsz]; exact hcap
        · rw [← hcs]; simp [Sort.putCells]
        · have := putCells_take (F := Sort.flatK (fun x => (cells x).map valOf) sz l'.toArray) (cur := cur) (by rw [hFs]; exact hcs2)
          rw [hFs] at this
          rw [List.length_map, hsz]; exact this
        · obtain ⟨z, _, rfl⟩ := List.mem_map.1 hx
          exact hk z
        · obtain ⟨z, hz, hcz⟩ := List.mem_flatMap.1 hc
          obtain ⟨u, _, rfl⟩ := List.mem_map.1 hz
          exact exact_one (hex u c hcz)
        · have hkl : k < l'.length * sz := by
            have h1 := (List.getElem?_eq_some_iff.1 hy).1
            rw [Array.length_toList, hFs] at h1
            rw [hsz]; exact h1
          obtain ⟨c2, c3, c4, x, hxl, hcx⟩ := flatK_get (cells := cells) hk hkp l' k hkl
          rw [c3] at hc
          injection hc with hc
          subst hc
          rw [← getElem_of_bang hy, c4]
          exact exact_rep (hex x c2 hcx) _ _ _
    exact ⟨_, hsim.put_of (s := s1) dst (htup _ _) rfl rfl rfl rfl rfl⟩
/-- 'cmp' comes to a number, and is below in a strict weak order -/
structure SortOk (cmp : α → α → Option Int) : Prop where
  all : ∀ x y, ∃ r, cmp x y = some r
  swo : Sort.SWO (ltOf fun x y => (cmp x y).getD 0)
def sortO (cmp : α → α → Option Int) (l : List α) : Option (List α) := gd (l.length < 4611686018427387904) (some (sortF (fun x y => (cmp x y).getD 0) l))
theorem do_sort {f g : FuncId} {xo : Operand} {tys : Array TypeId} {d n e sz : Nat} {cmp : α → α → Option Int} (cells : α → List PV) {enc : α → PV} {l r : List α} (L : SlLaysF0.n6 P ρ) (h : sortO cmp l = some r) (hs : SortOk cmp) (hc : ∀ x y {q : Int}, cmp x y = some q → Ok P g [enc x, enc y] [] [] (.int .i64 q) [] [])
    (hx : s.ev xo = .own d n) (hb : s.heap d n = some (.arr e sz false (List.map enc l))) (hf : ρ.f 6 = f) (aE : ∀ w, (isAgg (ρ.t 24)).run P w = .ok true w) (zE : ∀ w, (Go.sizeOf (ρ.t 24)).run P w = .ok sz w)
    (hen : ∀ x, enc x = .agg (cells x)) (hk : ∀ x, (cells x).length = sz) (hkp : 0 < sz) (hex : ∀ x, (cells x).all PV.exact = true) (hef : Ent P f) (heg : Ent P g) :
    Does P N ops ⟨dst, .call ⟨.value (.func f), #[xo, .func g], tys⟩, type, pos, after, guard⟩ s ⟨[], .tup [], [((d, n), some (.arr e sz false (List.map enc r)))], []⟩ := by
  obtain ⟨h1, h2⟩ := gd_some h
  injection h2 with h2
  subst h2
  obtain rfl : enc = fun x => PV.agg (cells x) := funext hen
  exact does_sort L hf aE zE hk hkp (fun x => List.all_eq_true.1 (hex x)) hs.swo (fun x y => by
    obtain ⟨q, hq⟩ := hs.all x y
    have := hc x y hq
    rw [hq]; exact this) hef heg h1 hx hb
end Go.Proofs.Ytnhjcpnoadicpaa.Ab
