import Derived.Test.YtmompdklolomfaaAbSort
import Derived.Test.YtmompdklolomfaaAbStay
namespace Go.Proofs.Ytmompdklolomfaa.Ab
open Go Go.RowKit Go.Shelf Go.Lib Go.Proofs
set_option linter.unusedVariables false
set_option linter.unusedSimpArgs false
variable {P : Program} {ρ : Ren}
abbrev Mem (l : List Int) := {x : Int // x ∈ l}
def cfM (cmp : Int → Int → Option Int) (l : List Int) (x y : Mem l) : Int := (cmp x.1 y.1).getD 0
def ltO (cmp : Int → Int → Option Int) (x y : Int) : Bool := decide ((cmp x y).getD 0 < 0)
def sortB (cmp : Int → Int → Option Int) (l : List Int) : Bool := l.all fun x => !ltO cmp x x && l.all fun y => (cmp x y).isSome && l.all fun z => (!(ltO cmp x y && ltO cmp y z) || ltO cmp x z) && (ltO cmp x y || ltO cmp y z || !ltO cmp x z)
theorem sortB_some {cmp : Int → Int → Option Int} {l : List Int} (h : sortB cmp l = true) {x y : Int} (hx : x ∈ l) (hy : y ∈ l) : ∃ r, cmp x y = some r := by
 simp only [sortB, List.all_eq_true, Bool.and_eq_true] at h
 exact Option.isSome_iff_exists.1 ((h x hx).2 y hy).1
theorem sortB_swo {cmp : Int → Int → Option Int} {l : List Int} (h : sortB cmp l = true) : Sort.SWO (ltOf (cfM cmp l)) := by
 simp only [sortB, List.all_eq_true, Bool.and_eq_true, Bool.or_eq_true, Bool.not_eq_true', Bool.and_eq_false_iff] at h
 have e : ∀ x y : Mem l, ltOf (cfM cmp l) x y = ltO cmp x.1 y.1 := fun _ _ => rfl
 refine ⟨fun x => ?_, fun x y z h1 h2 => ?_, fun x y z h1 h2 => ?_⟩
 ·rw [e]; exact (h x.1 x.2).1
 ·rw [e] at h1 h2 ⊢
  rcases (((h x.1 x.2).2 y.1 y.2).2 z.1 z.2).1 with h3 | h3
  ·rcases h3 with h3 | h3
   ·rw [h1] at h3; cases h3
   ·rw [h2] at h3; cases h3
  ·exact h3
 ·rw [e] at h1 h2 ⊢
  rcases (((h x.1 x.2).2 y.1 y.2).2 z.1 z.2).2 with h3 | h3
  ·rcases h3 with h3 | h3
   ·rw [h1] at h3; cases h3
   ·rw [h2] at h3; cases h3
  ·exact h3
def sortA (cmp : Int → Int → Option Int) : List Int → List Int
 | [] => []
 | x :: r => letI : Inhabited (Mem (x :: r)) := ⟨⟨x, List.mem_cons_self⟩⟩; (sortF (cfM cmp (x :: r)) (x :: r).attach).map Subtype.val
theorem sortA_ex {cmp : Int → Int → Option Int} {l : List Int} (h : l ≠ []) : ∃ I : Inhabited (Mem l), (@sortF _ I (cfM cmp l) l.attach).map Subtype.val = sortA cmp l := by
 cases l with
 | nil => exact absurd rfl h
 | cons x r => exact ⟨⟨⟨x, List.mem_cons_self⟩⟩, rfl⟩
def sort1 (cmp : Int → Int → Option Int) (l : List Int) : Option (List Int) := gd (l.length < 4611686018427387904 ∧ sortB cmp l = true) (some (sortA cmp l))
theorem heap_sortWorld1 {α : Type} [Inhabited α] {ev : α → Value} {w : World} {g m : Nat} {d' : Array α} {os : Array Obj} {cur : Array Value} {e : TypeId} (h : w.heap[g]? = some (.cells cur e (0, 0))) :
  (sortWorld ev w g 0 m d' os).heap[g]? = some (.cells (Sort.putCells ev 0 d' cur) e (0, 0)) := by
 have hlt : g < w.heap.size := (Array.getElem?_eq_some_iff.1 h).1
 unfold sortWorld Sort.grow Sort.putRow Sort.mapBlock
 show ((Sort.ahead w m).heap.modify g _ ++ os)[g]? = _
 rw [Array.getElem?_append_left (by simpa using hlt), Array.getElem?_modify, if_pos rfl]
 show (w.heap[g]?).map _ = _
 rw [h]; rfl
theorem heap_sortWorld1_other {α : Type} [Inhabited α] {ev : α → Value} {w : World} {g m : Nat} {d' : Array α} {os : Array Obj} {b : Nat} (hb : b < w.heap.size) (h : g ≠ b) : (sortWorld ev w g 0 m d' os).heap[b]? = w.heap[b]? := by
 unfold sortWorld Sort.grow Sort.putRow Sort.mapBlock
 show ((Sort.ahead w m).heap.modify g _ ++ os)[b]? = _
 rw [Array.getElem?_append_left (by simpa using hb), Array.getElem?_modify, if_neg h]
 rfl
theorem putCells_take1 {α : Type} [Inhabited α] {ev : α → Value} {F : Array α} {cur : Array Value} (h : F.size ≤ cur.size) : (Sort.putCells ev 0 F cur).toList.take F.size = F.toList.map ev := by
 apply List.ext_getElem?
 intro k
 rw [List.getElem?_take]
 by_cases hk : k < F.size
 ·rw [if_pos hk, Array.getElem?_toList, List.getElem?_map, Array.getElem?_toList]
  unfold Sort.putCells
  rw [Array.getElem?_mapIdx, Array.getElem?_eq_getElem (by omega : k < cur.size), Option.map_some, if_pos (by omega), Array.getElem?_eq_getElem hk, Nat.sub_zero, getElem!_pos F k hk]
  rfl
 ·rw [if_neg hk, List.getElem?_map, Array.getElem?_toList, Array.getElem?_eq_none (by omega)]
  rfl
variable {N : Nat} {ops : Array Oper} {s : St} {dst : Option Tmp} {type : TypeId} {pos : String} {after : Array Edge} {guard : Option (Nat × Bool)}
theorem flat_ints (l : List Int) : flat (l.map fun x => PV.int .i64 x) = l.map fun x => PV.int .i64 x := by
 induction l with
 | nil => rfl
 | cons x r ih =>
  have : flat (List.map (fun x => PV.int .i64 x) r) = List.map (fun x => PV.int .i64 x) r := ih
  simp only [flat, List.map_cons, List.flatMap_cons, PV.cells] at this ⊢
  rw [this]; rfl
theorem do_sort1 {f g : FuncId} {xo fo : Operand} {tys : Array TypeId} {d n e : Nat} {cmp : Int → Int → Option Int} {l r : List Int} {caps cargs : List PV} (L2 : Nm) (L : SlLaysF.n6 P ρ) (h : sort1 cmp l = some r)
  (hc : ∀ x y {q : Int}, cmp x y = some q → Ok P g ([.int .i64 x, .int .i64 y] ++ cargs) [] [] (.int .i64 q) [] [])
  (hx : s.ev xo = .own d n) (hfo : s.ev fo = .fn g caps) (hb : s.heap d n = some (.arr e 1 false (List.map (fun x => PV.int .i64 x) l))) (hargs : mapO (s.arg1 [] [] L2) caps = some cargs) (hap : apartNm L2 [] [(d, n)] = true) (hf : ρ.f 6 = f) (hef : Ent P f) (heg : Ent P g) :
  Does P N ops ⟨dst, .call ⟨.value (.func f), #[xo, fo], tys⟩, type, pos, after, guard⟩ s ⟨L2, .tup [], [((d, n), some (.arr e 1 false (List.map (fun x => PV.int .i64 x) r)))], []⟩ := by
 obtain ⟨⟨hl, hB⟩, hr0⟩ := gd_some h
 injection hr0 with hr0
 have hnL : (d, n) ∉ L2 := fun hm => (apartNm_spec hap _ hm).2 List.mem_cons_self
 intro s1 ha hlt w0 Mv J a w hs Q
 have hLa : ∀ q ∈ L2, s1.heap q.1 q.2 = s.heap q.1 q.2 := ha.rd
 have hb1 := (ha.up _ List.mem_cons_self).trans hb
 obtain ⟨v, ys, hJ, hown, hp, hw, ho, hr⟩ := hs.obj d n _ hb1
 have hrx : Rep w (Mut s1 J) J (.own d n) (a.eval xo) := by
  rw [← hx, ← ev_agree ha (by simp [Op.operands, Call.operands])]
  exact rep_ev hs fun t ht => hlt t (looks_op (by subst ht; simp [Op.operands, Call.operands]))
 have hrf : Rep w (Mut s1 J) J (.fn g caps) (a.eval fo) := by
  rw [← hfo, ← ev_agree ha (by simp [Op.operands, Call.operands])]
  exact rep_ev hs fun t ht => hlt t (looks_op (by subst ht; simp [Op.operands, Call.operands]))
 generalize hfv : a.eval fo = fv at hrf
 cases hrf with
 | fn _ _ _ cv hcl hcr =>
 obtain ⟨fn, e1, e2, e3⟩ := hef
 obtain ⟨fg, g1, g2, g3⟩ := heg
 have hrun : (execOp a.eval ⟨dst, .call ⟨.value (.func f), #[xo, fo], tys⟩, type, pos, after, guard⟩).run P w = .ok (.enter f #[a.eval xo, .func (.func g) #[] cv]) w := by
  simp only [execOp, resolve, Act.eval, Deferred.ofValue, Sem.run_bind, Sem.run_pure, Result.andThen_ok, invoke, callFunc, program, Sem.run, e1, e2, e3, Bool.false_eq_true, if_false]
  rw [← hfv]
  simp [e1, e2, e3, Sem.run, Act.eval]
 have eg : ∀ args w, (callFunc g args).run P w = .ok (.enter g args) w := fun args w => by
  simp only [callFunc, program, Sem.run, Sem.run_bind, Result.andThen_ok, g1, g2, g3, Bool.false_eq_true, if_false]
  simp [g1, g2, g3, Sem.run]
 have htup : ∀ w' M, Rep w' M J (.tup []) (.tuple #[]) := fun w' M => .tup _ _ _ rfl fun i c v hc => by simp at hc
 unfold Oper.wp
 rw [hrun, Oper.upon_enter, ← hf]
 generalize a.eval xo = av at hrx ⊢
 by_cases h0 : l = []
 ·subst h0
  have hr1 : r = [] := hr0.symm
  subst hr1
  have hv : ∃ p cap, av = .slice p 0 cap := by
   cases hrx with
   | own _ _ _ A len cap h =>
    rw [hJ] at h; injection h with h
    rcases hown.2 with ⟨q, _⟩ | ⟨_, _, _, q, _⟩
    ·rw [q] at h; injection h with h1 h2 h3; exact ⟨A, cap, by rw [← h2]⟩
    ·rw [q] at h; injection h with h1 h2 h3; exact ⟨A, cap, by rw [← h2]; rfl⟩
   | own0 _ _ _ ab h => exact ⟨_, _, rfl⟩
  obtain ⟨p, cap, hv⟩ := hv
  rw [hv]
  refine (AnyF.slices_SortFunc_none { L with } p cap _ w).mono ?_
  rintro e' w' ⟨rfl, rfl⟩
  have hst : s1.app dst ⟨L2, .tup [], [((d, n), some (.arr e 1 false (List.map (fun x => PV.int .i64 x) [])))], []⟩ = s1.put dst (.tup []) := by
   have hh : (fun a m => look [((d, n), some (AObj.arr e 1 false (List.map (fun x => PV.int .i64 x) [])))] a m (s1.heap a m)) = s1.heap := by
    funext a m
    simp only [look]
    split
    ·rename_i hc
     obtain ⟨rfl, rfl⟩ := hc
     rw [hb1]
    ·rfl
   unfold St.app
   rw [hh]
   cases dst <;> rfl
  rw [hst]
  exact ⟨J, hs.put dst (htup _ _)⟩
 ·have hlp : 0 < l.length := List.length_pos_iff.2 h0
  obtain ⟨I, hI⟩ := sortA_ex (cmp := cmp) h0
  letI : Inhabited (Mem l) := I
  rw [← hI] at hr0
  have hO := sortB_swo hB
  have hrA : r.length = l.length := by
   rw [← hr0]
   have := (Sort.pdq_sorts (ltOf (cfM cmp l)) hO l.attach.toArray 0 l.attach.toArray.size (Lib.bitLen l.attach.toArray.size) true true (Nat.zero_le _) (Nat.le_refl _) (Or.inl rfl)).1.1
   simpa [sortF] using this
  obtain ⟨hylen, hcase⟩ := hown
  rw [List.length_map] at hylen hcase
  rcases hcase with ⟨_, hn0⟩ | ⟨g0, cap, cur, hv, _, hg, hcap, hmax, hcs, htake⟩
  ·omega
  rw [Nat.mul_one] at hylen hcs htake
  have hv0 : av = .slice (some ⟨g0, 0, none⟩) l.attach.toArray.size cap := by
   have hsz : l.attach.toArray.size = l.length := by simp
   rw [hsz]
   cases hrx with
   | own _ _ _ A len c h => rw [hJ] at h; injection h with h; rw [← h, hv]
   | own0 _ _ _ ab h => rw [hJ] at h; injection h with h; rw [hv] at h; cases h
  rw [hv0]
  have hglt : g0 < w.heap.size := (Array.getElem?_eq_some_iff.1 hg).1
  have hcell : ∀ k, w.cell? ⟨g0, k, none⟩ = cur[k]? := fun k => by rw [cell_of_row w g0 _ cur e (0, 0) hg]
  have hfrz : ∀ k, w.frozen? ⟨g0, k, none⟩ = false := fun k => by
   have h1 : w.ownsRow 0 e 1 (.slice (some ⟨g0, 0, none⟩) l.length cap) l.length ys := ⟨by rw [Nat.mul_one]; exact hylen, .inr ⟨g0, cap, cur, rfl, Nat.zero_le _, hg, hcap, hmax, by rw [Nat.mul_one]; exact hcs, by rw [Nat.mul_one]; exact htake⟩⟩
   exact h1.frozenAt k
  have hycur : ∀ k u, ys[k]? = some u → cur[k]? = some u := fun k u h => by
   rw [← htake, List.getElem?_take] at h
   split at h
   ·rwa [Array.getElem?_toList] at h
   ·cases h
  let ev : Mem l → Value := fun x => .int .i64 x.1
  have hH : Sort.Holds ev w g0 0 l.attach.toArray := by
   intro j hj
   have hj' : j < l.length := by simpa using hj
   have hy : j < ys.length := by omega
   have h1 := hr j (.int .i64 l[j]) ys[j] (by rw [flat_ints]; simp [hj']) (List.getElem?_eq_getElem hy)
   rw [Nat.zero_add]
   refine ⟨?_, hfrz j⟩
   rw [hcell, hycur j _ (List.getElem?_eq_getElem hy)]
   have h2 : ys[j] = .int .i64 l[j] := by
    generalize ys[j] = u at h1
    cases h1; rfl
   rw [h2, getElem!_pos _ j hj]
   simp [ev]
  have hand : Hand s1 [] [] [] [] := hand_nil
  have hlent' : ∀ p ∈ L2, p ∉ ([] : Nm) ∧ p ∉ ([] : Nm) := fun p _ => ⟨by simp, by simp⟩
  obtain ⟨hbl1, hbord⟩ := down_bord hs hand hlent' (boxes := []) (bcs := []) rfl
  rw [← mapO_congr (arg1_agree hLa)] at hargs
  obtain ⟨ha1, ha2⟩ := mapO_get hargs
  have hMg : Mut (bst [] [] 1 ⟨s1.kept J [] [] L2, fun _ => none⟩) (dJ J [] []) g0 := .inl (.inr ⟨d, n, _, v, hb1, rfl, hJ, by rw [hv]; rfl, by simp, by simp, hnL⟩)
  have hcmp : CmpLays1 P g cv ev (cfM cmp l) g0 0 l.attach.toArray.size w := by
   intro m os dk hdk x y
   obtain ⟨q, hq⟩ := sortB_some hB x.2 y.2
   have hgrow : w.heap.size ≤ (sortWorld ev w g0 0 m dk os).heap.size := by
    unfold sortWorld Sort.grow Sort.putRow Sort.mapBlock Sort.ahead
    simp
   have hB2 : Bord (sortWorld ev w g0 0 m dk os) (bst [] [] 1 ⟨s1.kept J [] [] L2, fun _ => none⟩) (dJ J [] []) := by
    have hn : ∀ d n o, (bst [] [] 1 ⟨s1.kept J [] [] L2, fun _ => none⟩).heap d n ≠ some o := by
     intro d n o h
     simp only [bst] at h
     split at h
     ·simp at h
     ·split at h
      ·simp at h
      ·cases h
    exact ⟨fun d n o h => absurd h (hn d n o), fun d n d' n' o o' v v' g h => absurd h (hn d n o), hbord.nxt, fun d n o v g h => absurd h (hn d n o), fun g h => Nat.lt_of_lt_of_le (hbord.xlt g h) hgrow⟩
   have hcall := hc x.1 y.1 hq (sortWorld ev w g0 0 m dk os) ⟨s1.kept J [] [] L2, fun _ => none⟩ (dJ J [] []) ([ev x, ev y] ++ cv.toList) hB2 (by simp [ha1, hcl]) (fun i pv u h1 h2 => by
    match i with
    | 0 => simp at h1 h2; subst h1 h2; exact .int _ _ _
    | 1 => simp at h1 h2; subst h1 h2; exact .int _ _ _
    | i + 2 =>
     simp at h1 h2
     obtain ⟨c, hcx, hxy⟩ := ha2 i pv h1
     have := arg1_rep hs hand hbl1 hlent' hxy (hcr i c u hcx h2)
     exact this.mono (fun b hb hm => heap_sortWorld1_other hb (fun e => hm (e ▸ hMg))) (fun _ _ h => h) (fun _ _ _ h => h))
   have harr : ([ev x, ev y] ++ cv.toList).toArray = #[ev x, ev y] ++ cv := by simp
   rw [harr] at hcall
   refine hcall.mono ?_
   rintro e' w' ⟨u, J', he, _, _, hru, hfr⟩
   cases hru
   have hcf : cfM cmp l x y = q := by simp [cfM, hq]
   rw [hcf]
   exact ⟨he, grown_of hfr (bst_nil _ _ _)⟩
  refine (Any.slices_SortFunc_eq L ev (fun _ => rfl) (cfM cmp l) hO g cv g0 0 cap l.attach.toArray w eg hcmp hH hglt (by simpa using hl)).mono ?_
  rintro e' w' ⟨rfl, m, os, rfl⟩
  have hd' : Sort.pdq (ltOf (cfM cmp l)) l.attach.toArray 0 l.attach.toArray.size (Lib.bitLen l.attach.toArray.size) true true = (sortF (cfM cmp l) l.attach).toArray := by simp [sortF]
  rw [hd']
  generalize hl' : sortF (cfM cmp l) l.attach = l' at hr0 ⊢
  have hsz : l'.length = l.length := by rw [← hrA, ← hr0]; simp
  have hw' := heap_sortWorld1 (ev := ev) (m := m) (d' := l'.toArray) (os := os) hg
  have hcs2 : l'.toArray.size ≤ cur.size := by rw [hcs]; simpa [hsz] using hcap
  have hrl : ∀ k : Nat, r[k]? = (l'[k]?).map Subtype.val := fun k => by rw [← hr0, List.getElem?_map]
  have hsim : Sim w0 Mv N J { s1.app dst ⟨L2, .tup [], [((d, n), some (.arr e 1 false (List.map (fun x => PV.int .i64 x) r)))], []⟩ with env := s1.env } a (sortWorld ev w g0 0 m l'.toArray os) := by
   refine hs.turn (w' := sortWorld ev w g0 0 m l'.toArray os) (s' := { s1.app dst ⟨L2, .tup [], [((d, n), some (.arr e 1 false (List.map (fun x => PV.int .i64 x) r)))], []⟩ with env := s1.env }) (o' := .arr e 1 false (List.map (fun x => PV.int .i64 x) r)) hb1 rfl rfl (v := v) (g := g0) hJ (by rw [hv]; rfl) ⟨rfl, rfl, rfl, ?_, fun k hk hne => ?_⟩ ?_ rfl rfl (fun a m => ?_) (by funext a; rfl) (fun M hmono => ?_)
   ·unfold sortWorld Sort.grow Sort.putRow Sort.mapBlock Sort.ahead
    simp
   ·exact heap_sortWorld1_other hk (fun e => hne (by rw [e]))
   ·show w.drawn ≤ w.drawn + m
    omega
   ·simp only [St.app, look]
   ·have htk := putCells_take1 (ev := ev) (F := l'.toArray) (cur := cur) hcs2
    have hl2 : l'.toArray.size = l.length := by simpa using hsz
    rw [hl2] at htk
    refine ⟨v, l'.map ev, hJ, ⟨by simp [hrA, hsz], .inr ⟨g0, cap, _, ?_, Nat.zero_le _, hw', ?_, hmax, ?_, ?_⟩⟩, hp, fun x hx => ?_, fun c hc => ?_, fun k c y hc hy => ?_⟩
    ·rw [hv, List.length_map, hrA]
    ·rw [List.length_map, hrA]; exact hcap
    ·rw [Nat.mul_one, ← hcs]; simp [Sort.putCells]
    ·rw [List.length_map, hrA, Nat.mul_one]; exact htk
    ·obtain ⟨z, _, rfl⟩ := List.mem_map.1 hx
     rfl
    ·rw [flat_ints] at hc
     obtain ⟨z, _, rfl⟩ := List.mem_map.1 hc
     rfl
    ·rw [flat_ints, List.getElem?_map, hrl] at hc
     rw [List.getElem?_map] at hy
     cases hz : l'[k]? with
     | none => rw [hz] at hy; cases hy
     | some z =>
      rw [hz] at hc hy
      simp at hc hy
      subst hc hy
      exact .int _ _ _
  exact ⟨_, hsim.put_of (s := s1) dst (htup _ _) rfl rfl rfl rfl rfl⟩
theorem do_sort1E {enc : Int → PV} {f g : FuncId} {xo fo : Operand} {tys : Array TypeId} {d n e : Nat} {cmp : Int → Int → Option Int} {l r : List Int} {caps cargs : List PV} (he : ∀ x, enc x = .int .i64 x) (L2 : Nm) (L : SlLaysF.n6 P ρ) (h : sort1 cmp l = some r)
  (hc : ∀ x y {q : Int}, cmp x y = some q → Ok P g ([.int .i64 x, .int .i64 y] ++ cargs) [] [] (.int .i64 q) [] [])
  (hx : s.ev xo = .own d n) (hfo : s.ev fo = .fn g caps) (hb : s.heap d n = some (.arr e 1 false (List.map enc l))) (hargs : mapO (s.arg1 [] [] L2) caps = some cargs) (hap : apartNm L2 [] [(d, n)] = true) (hf : ρ.f 6 = f) (hef : Ent P f) (heg : Ent P g) :
  Does P N ops ⟨dst, .call ⟨.value (.func f), #[xo, fo], tys⟩, type, pos, after, guard⟩ s ⟨L2, .tup [], [((d, n), some (.arr e 1 false (List.map enc r)))], []⟩ := by
 obtain rfl : enc = fun x => PV.int .i64 x := funext he
 exact do_sort1 L2 L h hc hx hfo hb hargs hap hf hef heg
end Go.Proofs.Ytmompdklolomfaa.Ab
