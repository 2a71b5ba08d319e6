/- Arrays in a box of ours, told as a list. -/
import Derived.Test.YtejimiedoibkcaaAbOps9
import Derived.Laws.Cover3
namespace Go.Proofs.Ytejimiedoibkcaa.Ab
open Go Go.RowKit
set_option linter.unusedVariables false
set_option linter.unusedSimpArgs false
variable {P : Program} {N : Nat} {ops : Array Oper} {dst : Option Tmp} {type : TypeId} {pos : String} {after : Array Edge} {guard : Option (Nat × Bool)} {s : St}

theorem cellsAt_box {d n off : Nat} {cs : List PV} (h : s.heap d n = some (.box cs)) : s.cellsAt (.ptr d n off) = some (cs.drop off, [(d, n)]) := by simp [St.cellsAt, h]
theorem loadPV_list {α : Type} {f : α → PV} {ti : TyI} {l : List α} {i : Nat} {x : α} (ha : ti.d.agg = false) (h : l[i]? = some x) : loadPV ti ((List.map f l).drop (0 + i * 1)) = some (f x) := by
  simp [loadPV, ha, h]
theorem do_storeA {α : Type} {f : α → PV} {t : TypeId} {p x : Operand} {d n i : Nat} {l : List α} {y a : α} {ti : TyI} (hp : s.ev p = .ptr d n (0 + i * 1)) (hx : s.ev x = f a) (hb : s.heap d n = some (.box (List.map f l))) (ht : tyOf P t = some ti)
    (h1 : (f a).cells = [f a]) (ho : (f a).one = true) (hs : ti.size = 1) (hi : l[i]? = some y) :
    Does P N ops ⟨none, .store t p x, type, pos, after, guard⟩ s ⟨[], .skip, [((d, n), some (.box (List.map f (List.set l i a))))], []⟩ := by
  have hlt := (List.getElem?_eq_some_iff.1 hi).1
  have h := does_store (P := P) (N := N) (ops := ops) (type := type) (pos := pos) (after := after) (guard := guard) hp hx hb ht (by rw [h1]; simpa using ho) (by rw [h1, hs]; rfl) (by rw [hs, List.length_map]; omega)
  have e : splice (List.map f l) (0 + i * 1) (f a).cells = List.map f (List.set l i a) := by
    rw [h1, splice, List.map_set]
    apply List.ext_getElem?
    intro k
    rw [splice_get (by simp; omega), List.getElem?_set]
    by_cases e : k = i
    · subst e; simp [hlt]
    · rw [if_neg (by simp; omega), if_neg (Ne.symm e)]
  rw [e] at h
  exact h
theorem renO_list {α : Type} {f : α → PV} {nm nn : Nm} {l : List α} (h : ∀ x, renC s nm nn (f x) = some (f x)) : renO s nm nn (.box (List.map f l)) = some (.box (List.map f l)) := by
  have : mapO (renC s nm nn) (List.map f l) = some (List.map f l) := by
    induction l with
    | nil => rfl
    | cons x l ih => simp only [List.map_cons, mapO, h, ih]
  simp only [renO, this, Option.map_some]

/-! ### Is a row nil? That is not told: both ways -/
theorem run_eql_slice_nil (w : World) (t e : TypeId) (a : Option Addr) (l c : Nat) (h : P.underlying t = some (.slice e)) : (binOp .eql t (.slice a l c) (.slice none 0 0)).run P w = .ok (.bool a.isNone) w := by
  simp only [binOp]
  simp [run_equal_slice_nil w t e a l c h]
theorem run_eqGuard_slice (op : BinOp) (t : TypeId) (x y : Operand) (a b : Option Addr) (l c l' c' : Nat) (w : World) : (eqGuard op t x y (.slice a l c) (.slice b l' c')).run P w = .ok () w := by
  cases op <;> simp [eqGuard, Sem.run_pure]
theorem aw_region_nil {id : Nat} {l1 : List Oper} {s1 : St} {xs : List Fx} {Q : Exit → St → Prop} {d : Nat} {t ty e : TypeId} {x : Operand} {ys : List PV} {sz : Nat} {L : List (Nat × Nat)} {p : PV}
    (h : Lex P N (l1 ++ [({ dst := some d, op := .binOp .eql t x (.const (.slice none 0 0)) ty, type := type, pos := pos, after := after, guard := none } : Oper)]).toArray l1 s xs s1) (ht : P.underlying t = some (.slice e)) (hx : s1.ev x = p) (hs : s1.src p = some (ys, sz, L)) (hlt : ∀ t, x = .tmp t → t < N)
    (hg : P.eqGuardType P.depth t = false)
    (k : ∀ b : Bool, (b = true → ys = []) → Q .normal (s1.put (some d) (.bool b))) : AW P N (.region id (l1 ++ [({ dst := some d, op := .binOp .eql t x (.const (.slice none 0 0)) ty, type := type, pos := pos, after := after, guard := none } : Oper)]).toArray false) s Q := by
  intro w0 Mv J a w hsim
  refine wp_region_lit ?_
  have key : ∀ {l : List Oper} {s s1 : St} {xs : List Fx} {ops : Array Oper} (hl : Lex P N ops l s xs s1) {J : Site} {a : Act} {w : World}, Sim w0 Mv N J s a w → ∀ {r : List Oper} {Q' : Exit → Act → World → Prop},
      (∀ J' a' w', Sim w0 Mv N J' s1 a' w' → wpList P ops Q' r a' w') → wpList P ops Q' (l ++ r) a w := by
    intro l s s1 xs ops hl
    induction hl with
    | nil s => intro J a w hs r Q' hr; exact hr _ _ _ hs
    | cons h hN hr ih =>
      intro J a w hs r Q' hr
      rw [List.cons_append]
      unfold wpList
      exact h.op (Agree.refl _ _ _ _) hN hs (fun J' a' w' h' => ih h' hr)
  refine key h hsim fun J' a' w' hs' => ?_
  have hctx := h.ctx
  have hrx := rep_ev hs' (x := x) hlt
  rw [hx] at hrx
  obtain ⟨A, c, hv, hsrc⟩ := src_rep hs' hs hrx
  have hfin : ∀ b : Bool, (b = true → ys = []) → wpList P (l1 ++ [({ dst := some d, op := .binOp .eql t x (.const (.slice none 0 0)) ty, type := type, pos := pos, after := after, guard := none } : Oper)]).toArray (fun e a w => ∃ s' J', Sim w0 Mv N J' s' a w ∧ s'.X = s.X ∧ Q e s') [] (a'.put (some d) (.bool b)) w' := fun b hb => by
    refine wpList_nil ⟨_, J', hs'.put (some d) (.bool _ b), ?_, k b hb⟩
    rw [St.put_X]; exact hctx
  unfold wpList
  rw [Region.wanted, if_pos rfl]
  refine .inl ?_
  have hrun : (execOp a'.eval ({ dst := some d, op := .binOp .eql t x (.const (.slice none 0 0)) ty, type := type, pos := pos, after := after, guard := none } : Oper)).run P w' = .ok (.value (.bool A.isNone)) w' := by
    have hc : a'.eval (.const (.slice none 0 0)) = .slice none 0 0 := rfl
    simp only [execOp, hv, hc, Sem.run_bind, run_eqGuard_slice, Result.andThen_ok, run_eql_slice_nil w' t e A ys.length c ht]
    rfl
  unfold Oper.wp
  rw [hrun, Oper.upon_value]
  refine hfin _ fun hb => ?_
  rcases hsrc with ⟨_, h⟩ | ⟨ad, us, rfl, _⟩
  · exact h
  · cases hb
theorem nilF {α β : Type} {l : List α} {A B : Option β} {r : β} [DecidableEq (Option β)] (h : (if l.isEmpty = true then gd (A = B) A else B) = some r) : B = some r := by
  by_cases hl : l.isEmpty = true
  · rw [if_pos hl] at h
    obtain ⟨h1, h2⟩ := gd_some h
    exact h1 ▸ h2
  · rwa [if_neg hl] at h
theorem nilT {α β : Type} {f : α → PV} {l : List α} {A B : Option β} {r : β} [DecidableEq (Option β)] (e : true = true → List.map f l = []) (h : (if l.isEmpty = true then gd (A = B) A else B) = some r) : A = some r := by
  have hl : l = [] := by simpa using e rfl
  subst hl
  rw [if_pos (by rfl)] at h
  exact (gd_some h).2

theorem do_build_arr {t e : TypeId} {ps : Array (Nat × Operand)} {n sz by_ : Nat} {z cs : List PV} {ei : TyI} (ht : tyOf P t = some ⟨.arr n e, sz, by_, z⟩) (hz : z.isEmpty = false) (he : tyOf P e = some ei)
    (ho : (evParts s ps.toList).all (fun p => p.2.cells.all PV.one) = true) (hf : fillPV (fun i => some (i * ei.size, ei.size)) z (evParts s ps.toList) = some cs) :
    Does P N ops ⟨dst, .build t ps, type, pos, after, guard⟩ s (pureFx (.agg cs)) :=
  does_pure _ fun w M J ρ hr => by
    have ho' : ∀ p ∈ evParts s ps.toList, ∀ c ∈ p.2.cells, c.one = true := fun p hp => by rw [List.all_eq_true] at ho; exact all_one (ho p hp)
    obtain ⟨i, d, h1, h2, h3, _, _, h4⟩ := tyOf_spec ht
    have hd : d = .array n e := td_arr h3
    subst hd
    cases hzv : i.zero with
    | none => rw [hzv] at h4; dsimp only at h4; rw [h4] at hz; cases hz
    | some zv =>
      rw [hzv] at h4
      dsimp only at h4
      obtain ⟨hl, hpq⟩ := parts_rep (M := M) (J := J) (w := w) (ρ := ρ) (by simpa [Op.operands] using hr) ho'
      obtain ⟨us', h5, h6, h7⟩ := fill_rep (us := zv.cells) hf hl hpq (by rw [h4]; simp) (fun k c u hc hu => by
        rw [h4, List.getElem?_map, Option.map_eq_some_iff] at hc
        obtain ⟨y, hy, rfl⟩ := hc
        rw [Array.getElem?_toList, hu] at hy
        injection hy with hy
        subst hy
        exact rep_ofVal1 _)
      refine ⟨.agg us', ?_, .agg _ _ _ h6.symm h7⟩
      have h5' := h5
      simp only [Array.toList_map] at h5'
      simp [execOp, Instr.build, zeroValue, typeInfo, h1, hzv, run_underlying h2, run_size he]
      rw [h5']
      rfl
/-! ### an element of ours, turned; rows that are marked may be in it -/
theorem does_storeZ {t : TypeId} {p x : Operand} {d n e sz i off : Nat} {xs xs' : List PV} {old el pv : PV} {ti : TyI} {L : List (Nat × Nat)} (hp : s.ev p = .eptr d n sz i off) (hx : s.low (s.ev x) = some (pv, L)) (hb : s.heap d n = some (.arr e sz false xs)) (ht : tyOf P t = some ti)
    (ho : pv.cells.all PV.one = true) (hsz : pv.cells.length = ti.size) (hi : xs[i]? = some old) (hfit : Nat.ble (off + ti.size) sz = true) (hel : el.cells = splice old.cells off pv.cells) (hxs : xs.set i el = xs') :
    Does P N ops ⟨none, .store t p x, type, pos, after, guard⟩ s ⟨L, .skip, [((d, n), some (.arr e sz false xs'))], []⟩ :=
  does_turn hb rfl rfl fun w0 Mv J s' a w hs hL hb' hr => by
    subst hxs
    have h1 := hr p (by simp [Op.operands])
    have h2 := hr x (by simp [Op.operands])
    rw [hp] at h1
    have h2n := (low_rep hs (low_agree hx hL) h2 noSite).1
    replace h2 := (low_rep hs (low_agree hx hL) h2 J).1
    have ho := all_one ho
    have hfit := Nat.le_of_ble_eq_true hfit
    generalize hcp : a.eval p = cp at h1
    generalize hcx : a.eval x = cx at h2 h2n
    obtain ⟨u, ys, hJ, hown, hpz, hw, hone, hrep⟩ := hs.obj d n _ hb'
    obtain ⟨h3, h4⟩ := rep_cells h2 ho
    obtain ⟨_, h4n⟩ := rep_cells h2n ho
    have hil : i < xs.length := (List.getElem?_eq_some_iff.1 hi).1
    have hol : old.cells.length = sz := hw old (List.mem_of_getElem? hi)
    have hell : el.cells.length = sz := by rw [hel]; simp [splice]; omega
    have hfl : flat (xs.set i el) = splice (flat xs) (i * sz + off) pv.cells := by
      rw [flat_set hw hi hell]
      have hfx : ((flat xs).drop (i * sz)).take sz = old.cells := by
        apply List.ext_getElem?
        intro k
        rw [List.getElem?_take]
        split
        · rename_i hk
          rw [List.getElem?_drop]
          have := flat_get hw hi (List.getElem?_eq_getElem (by omega : k < old.cells.length))
          rw [this, List.getElem?_eq_getElem (by omega : k < old.cells.length)]
        · rw [List.getElem?_eq_none (by omega)]
      refine splice_splice _ _ _ _ off sz (by rw [hfx, hel]) (by omega) ?_
      rw [flat_length hw]
      have := Nat.mul_le_mul_right sz (Nat.succ_le_of_lt hil)
      rw [Nat.succ_mul] at this
      omega
    cases h1 with
    | eptr _ _ _ _ _ _ g len cap hJ' =>
      rw [hJ] at hJ'
      injection hJ' with hu
      subst hu
      have hfitx : i * sz + off + pv.cells.length ≤ xs.length * sz := by
        have := Nat.mul_le_mul_right sz (Nat.succ_le_of_lt hil)
        rw [Nat.succ_mul] at this
        omega
      rcases hown.2 with ⟨he0, _⟩ | ⟨g', cap', cur, he0, hb0, hh, hle, hcm, hcs, htk⟩
      · cases he0
      injection he0 with e1 e2 e3
      injection e1 with e1
      injection e1 with e1
      subst e1 e2 e3
      have hcap : xs.length * sz ≤ cap * sz := Nat.mul_le_mul_right _ hle
      have hone2 : ∀ v ∈ cx.cells.toList, v.oneCell' = true := by
        intro v hv
        obtain ⟨k, hk⟩ := List.getElem?_of_mem hv
        have hlt : k < pv.cells.length := by rw [← h3, ← Array.length_toList]; exact (List.getElem?_eq_some_iff.1 hk).1
        exact (h4 k _ v (List.getElem?_eq_getElem hlt) (by rw [← Array.getElem?_toList]; exact hk)).oneCell (ho _ (List.getElem_mem hlt))
      have hvl : cx.cells.toList.length = pv.cells.length := by rw [Array.length_toList, h3]
      have hst := run_storeCells_at P g (i * sz + off) e cx.cells.toList 0 cur w hh (by omega) hone2
      simp only [Nat.add_zero] at hst
      refine ⟨_, g, _, ?_, hJ, rfl, grownBy_setRow (List.take (i * sz + off) cur.toList ++ cx.cells.toList ++ List.drop (i * sz + off + cx.cells.toList.length) cur.toList).toArray, fun M hmono => ?_⟩
      · simp [execOp, hcp, hcx, Instr.storeAt, Instr.sureAddr, storeVar, run_size ht, h3, hsz, hst] <;> rfl
      · have hcl' : cur.toList.length = cap * sz := by rw [Array.length_toList, hcs]
        refine ⟨_, ys.take (i * sz + off) ++ cx.cells.toList ++ ys.drop (i * sz + off + cx.cells.toList.length), hJ, ⟨?_, .inr ⟨g, cap, _, by rw [List.length_set], hb0, setRow_heap w g cur _ e _ hh, by rw [List.length_set]; exact hle, hcm, ?_, ?_⟩⟩, hpz, fun x hx' => ?_, fun c hc => ?_, fun k c v hc hv => ?_⟩
        · rw [List.length_set]
          have := hown.1
          simp [hvl]; omega
        · simp [hvl]; omega
        · rw [List.length_set]
          apply List.ext_getElem?
          intro k
          have hyl := hown.1
          rw [splice_get (by omega), List.getElem?_take]
          simp only []
          rw [splice_get (by rw [hvl]; omega), ← htk, hvl]
          by_cases hk : k < xs.length * sz
          · rw [if_pos hk, List.getElem?_take, if_pos hk]
          · rw [if_neg hk, if_neg (by omega), List.getElem?_take, if_neg hk]
        · rcases List.mem_or_eq_of_mem_set hx' with h | h
          · exact hw x h
          · rw [h]; exact hell
        · rw [hfl] at hc
          simp only [splice, List.mem_append] at hc
          rcases hc with (hc | hc) | hc
          · exact hone c (List.mem_of_mem_take hc)
          · exact ho c hc
          · exact hone c (List.mem_of_mem_drop hc)
        · have hyl := hown.1
          have hfl0 := flat_length hw
          rw [hfl, splice, splice_get (by omega)] at hc
          rw [splice_get (by omega), hvl] at hv
          split at hc
          · rename_i hk
            rw [if_pos hk, Array.getElem?_toList] at hv
            exact hmono noSite c v (h4n _ _ _ hc hv)
          · rename_i hk
            rw [if_neg hk] at hv
            exact hmono noSite c v (hrep _ _ _ hc hv)

theorem reb_freeze {d n e sz : Nat} {fz : Bool} {xs : List PV} (hb : s.heap d n = some (.arr e sz fz xs)) : Reb N s (s.setH d n (some (.arr e sz true xs))) := ⟨rfl, fun w0 Mv J a w h => ⟨J, h.freeze hb⟩⟩
theorem boolc {b : Bool} {G : Prop} (h1 : b = true → G) (h2 : b = false → G) : G := by cases b; exact h2 rfl; exact h1 rfl
end Go.Proofs.Ytejimiedoibkcaa.Ab
