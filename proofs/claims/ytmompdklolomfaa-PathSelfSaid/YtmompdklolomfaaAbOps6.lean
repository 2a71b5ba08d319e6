import Derived.Test.YtmompdklolomfaaAbWrap
import Derived.Laws.Slices
namespace Go.Proofs.Ytmompdklolomfaa.Ab
open Go Go.RowKit
set_option linter.unusedVariables false
set_option linter.unusedSimpArgs false
variable {P : Program} {N : Nat} {ops : Array Oper} {s : St} {dst : Option Tmp} {type : TypeId} {pos : String} {after : Array Edge} {guard : Option (Nat × Bool)}
def Bd (s : St) (x : Option Operand) (d l : Nat) : Prop :=
 match x with
 | none => l = d
 | some y => ∃ k i, s.ev y = .int k i ∧ i = (l : Int)
theorem bd_none {d : Nat} : Bd s none d d := rfl
theorem bd_some {y : Operand} {d l : Nat} {k : IntKind} {i : Int} (h : s.ev y = .int k i) (e : i = (l : Int)) : Bd s (some y) d l := ⟨k, i, h, e⟩
theorem run_bounds {isS : Bool} {len cap l h : Nat} {lo hi : Option Value} (hlo : lo = none ∧ l = 0 ∨ ∃ k, lo = some (.int k (l : Int))) (hhi : hi = none ∧ h = len ∨ ∃ k, hi = some (.int k (h : Int))) (h1 : l ≤ h) (h2 : h ≤ cap) (w : World) :
  (Instr.sliceBounds isS len cap lo hi none).run P w = .ok (l, h, cap) w := by
 have a1 : (0 : Int) ≤ (l : Int) := Int.natCast_nonneg _
 have a2 : (0 : Int) ≤ (h : Int) := Int.natCast_nonneg _
 have a3 : (l : Int) ≤ (h : Int) := by omega
 have a4 : (h : Int) ≤ (cap : Int) := by omega
 rcases hlo with ⟨rfl, rfl⟩ | ⟨k, rfl⟩ <;> rcases hhi with ⟨rfl, rfl⟩ | ⟨k', rfl⟩ <;> simp [Instr.sliceBounds, run_sliceBound, a1, a2, a3, a4, Int.toNat_natCast]
theorem bd_val {M : Nat → Prop} {J : Site} {w : World} {ρ : Operand → Value} {x : Option Operand} {d l : Nat} (h : Bd s x d l) (hr : ∀ y, x = some y → Rep w M J (s.ev y) (ρ y)) : (x.map ρ = none ∧ l = d) ∨ ∃ k, x.map ρ = some (.int k (l : Int)) := by
 cases x with
 | none => exact .inl ⟨rfl, h⟩
 | some y =>
  obtain ⟨k, i, h1, rfl⟩ := h
  have h2 := hr y rfl
  rw [h1] at h2
  generalize hv : ρ y = v at h2
  cases h2
  exact .inr ⟨k, by simp [hv]⟩
theorem rep_slpart {w : World} {M : Nat → Prop} {J : Site} {sz : Nat} {xs : List PV} {A : Option Addr} {n cap : Nat} (h : Rep w M J (.sl sz xs) (.slice A n cap)) {l k : Nat} (h1 : l ≤ k) (h2 : k ≤ xs.length) :
  n = xs.length ∧ xs.length ≤ cap ∧ Rep w M J (.sl sz ((xs.take k).drop l)) (.slice (if cap = l then A else A.map (·.add (l * sz))) (k - l) (cap - l)) := by
 have hlen : ((xs.take k).drop l).length = k - l := by rw [List.length_drop, List.length_take]; omega
 cases h with
 | sl0 =>
  simp only [List.length_nil] at h2
  have : k = 0 := by omega
  subst this
  have : l = 0 := by omega
  subst this
  refine ⟨rfl, by simp, ?_⟩
  simp only [List.take_nil, List.drop_nil]
  split <;> exact .sl0 _ _ _
 | sl _ _ _ a _ g hp hw ho hle hM hc hr =>
  refine ⟨rfl, hle, ?_⟩
  by_cases he : l = k
  ·have hx : (xs.take k).drop l = [] := List.eq_nil_of_length_eq_zero (by omega)
   rw [hx, show k - l = ([] : List PV).length by simp [he]]
   split
   ·exact .sl _ _ _ _ _ g hp (by simp) (by simp [flat]) (Nat.zero_le _) (fun h => absurd rfl h) (fun k c hk => by simp [flat] at hk) (fun k c hk => by simp [flat] at hk)
   ·exact .sl _ _ _ _ _ g hp (by simp) (by simp [flat]) (Nat.zero_le _) (fun h => absurd rfl h) (fun k c hk => by simp [flat] at hk) (fun k c hk => by simp [flat] at hk)
  ·have hne : xs ≠ [] := by rintro rfl; simp at h2; omega
   rw [if_neg (by omega), ← hlen]
   have hfl : flat ((xs.take k).drop l) = ((flat xs).take (k * sz)).drop (l * sz) := by
    rw [flat_drop (fun x hx => hw x (List.mem_of_mem_take hx)), flat_take hw]
   have hget : ∀ (j : Nat) (c : PV), (flat ((xs.take k).drop l))[j]? = some c → (flat xs)[l * sz + j]? = some c := by
    intro j c hj
    rw [hfl, List.getElem?_drop, List.getElem?_take] at hj
    split at hj
    ·exact hj
    ·cases hj
   refine .sl _ _ _ _ _ (fun j => g (l * sz + j)) hp (fun x hx => hw x (List.mem_of_mem_take (List.mem_of_mem_drop hx))) (fun c hc' => ?_) (by omega) (fun _ => by rw [block_add]; exact hM hne) (fun j c hj => ?_) (fun j c hj => ?_)
   ·obtain ⟨j, hj⟩ := List.getElem?_of_mem hc'
    exact ho c (List.mem_of_getElem? (hget j c hj))
   ·rw [add_add]; exact hc _ _ (hget j c hj)
   ·exact hr _ _ (hget j c hj)
theorem does_slice_sl {t e : TypeId} {x : Operand} {lo hi : Option Operand} {sz by_ : Nat} {z : List PV} {ei : TyI} {xs v : List PV} {l k : Nat} (hx : s.ev x = .sl ei.size xs) (ht : tyOf P t = some ⟨.slice e, sz, by_, z⟩) (he : tyOf P e = some ei)
  (hlo : Bd s lo 0 l) (hhi : Bd s hi xs.length k) (h1 : l ≤ k) (h2 : k ≤ xs.length) (hv : (xs.take k).drop l = v) : Does P N ops ⟨dst, .slice t x lo hi none, type, pos, after, guard⟩ s (pureFx (.sl ei.size v)) :=
 does_pure _ fun w M J ρ hr => by
  subst hv
  have h3 := hr x (by simp [Op.operands])
  rw [hx] at h3
  generalize hcx : ρ x = cx at h3
  have hb1 := bd_val (w := w) (M := M) (J := J) (ρ := ρ) hlo fun y hy => hr y (by subst hy; simp [Op.operands])
  have hb2 := bd_val (w := w) (M := M) (J := J) (ρ := ρ) hhi fun y hy => hr y (by subst hy; cases lo <;> simp [Op.operands])
  obtain ⟨A, n, cap, rfl⟩ : ∃ A n cap, cx = .slice A n cap := by cases h3 <;> exact ⟨_, _, _, rfl⟩
  obtain ⟨rfl, hle, h4⟩ := rep_slpart h3 h1 h2
  refine ⟨_, ?_, h4⟩
  have hb := run_bounds (P := P) (isS := true) (len := xs.length) (cap := cap) hb1 hb2 h1 (by omega) w
  simp [execOp, hcx, Instr.sliceAt, run_underlying (ty_slice ht), Instr.slice, hb, run_size he]
theorem does_slice_own {t e : TypeId} {x : Operand} {lo hi : Option Operand} {sz by_ d n e' : Nat} {z : List PV} {ei : TyI} {xs v : List PV} {l k : Nat} (hx : s.ev x = .own d n) (hb : s.heap d n = some (.arr e' ei.size true xs)) (ht : tyOf P t = some ⟨.slice e, sz, by_, z⟩) (he : tyOf P e = some ei)
  (hlo : Bd s lo 0 l) (hhi : Bd s hi xs.length k) (h1 : l ≤ k) (h2 : k ≤ xs.length) (hv : (xs.take k).drop l = v) : Does P N ops ⟨dst, .slice t x lo hi none, type, pos, after, guard⟩ s ⟨[(d, n)], .sl ei.size v, [], []⟩ :=
 does_read _ _ fun w0 Mv J s' a w hs hL hr => by
  subst hv
  have h3 := hr x (by simp [Op.operands])
  rw [hx] at h3
  have hb' := (hL (d, n) List.mem_cons_self).trans hb
  have h3' := (lowC_rep hs (c := .own d n) (c' := .sl ei.size xs) (L := [(d, n)]) (by simp [St.lowC, hb']) h3 J).1
  generalize hcx : a.eval x = cx at h3'
  have hb1 := bd_val (w := w) (M := Mut s' J) (J := J) (ρ := a.eval) hlo fun y hy => hr y (by subst hy; simp [Op.operands])
  have hb2 := bd_val (w := w) (M := Mut s' J) (J := J) (ρ := a.eval) hhi fun y hy => hr y (by subst hy; cases lo <;> simp [Op.operands])
  obtain ⟨A, n, cap, rfl⟩ : ∃ A n cap, cx = .slice A n cap := by cases h3' <;> exact ⟨_, _, _, rfl⟩
  obtain ⟨rfl, hle, h4⟩ := rep_slpart h3' h1 h2
  refine ⟨_, 0, ?_, h4⟩
  have hb := run_bounds (P := P) (isS := true) (len := xs.length) (cap := cap) hb1 hb2 h1 (by omega) w
  simp [execOp, hcx, Instr.sliceAt, run_underlying (ty_slice ht), Instr.slice, hb, run_size he]; rfl
theorem flat_set {sz : Nat} : ∀ {xs : List PV} {i : Nat} {x el : PV}, (∀ x ∈ xs, x.cells.length = sz) → xs[i]? = some x → el.cells.length = sz → flat (xs.set i el) = splice (flat xs) (i * sz) el.cells
 | [], i, x, el, _, h, _ => by simp at h
 | y :: ys, 0, x, el, hw, h, he => by
  have h1 := hw y List.mem_cons_self
  simp [flat, splice, he]
  rw [List.drop_append, h1, Nat.sub_self, List.drop_of_length_le (by omega)]; simp
 | y :: ys, i + 1, x, el, hw, h, he => by
  have h1 := hw y List.mem_cons_self
  have ih := flat_set (xs := ys) (i := i) (fun z hz => hw z (List.mem_cons_of_mem _ hz)) (by simpa using h) he
  simp only [flat, splice, List.set_cons_succ, List.flatMap_cons] at ih ⊢
  rw [ih, Nat.succ_mul, List.take_append, h1, List.take_of_length_le (l := y.cells) (by omega), show i * sz + sz - sz = i * sz by omega, List.drop_append, h1, List.drop_of_length_le (l := y.cells) (by omega), show i * sz + sz + el.cells.length - sz = i * sz + el.cells.length by omega]
  simp
theorem splice_splice (cs vs el : List PV) (o off sz : Nat) (hel : el = splice ((cs.drop o).take sz) off vs) (hfit : off + vs.length ≤ sz) (hlen : o + sz ≤ cs.length) : splice cs o el = splice cs (o + off) vs := by
 have hl : ((cs.drop o).take sz).length = sz := by rw [List.length_take, List.length_drop]; omega
 have hel' : el.length = sz := by subst hel; simp [splice, hl]; omega
 apply List.ext_getElem?
 intro k
 unfold splice
 rw [splice_get (by omega), splice_get (by omega), hel']
 subst hel
 by_cases h1 : o ≤ k ∧ k < o + sz
 ·rw [if_pos h1, splice, splice_get (by omega)]
  by_cases h2 : o + off ≤ k ∧ k < o + off + vs.length
  ·rw [if_pos (by omega), if_pos h2]; congr 1; omega
  ·rw [if_neg (by omega), if_neg h2, List.getElem?_take, if_pos (by omega), List.getElem?_drop]; congr 1; omega
 ·rw [if_neg h1, if_neg (by omega)]
theorem does_storeE {t : TypeId} {p x : Operand} {d n e sz i off : Nat} {xs xs' : List PV} {old el pv : PV} {ti : TyI} (hp : s.ev p = .eptr d n sz i off) (hx : s.ev x = pv) (hb : s.heap d n = some (.arr e sz false xs)) (ht : tyOf P t = some ti)
  (ho : pv.cells.all PV.one = true) (hsz : pv.cells.length = ti.size) (hi : xs[i]? = some old) (hfit : Nat.ble (off + ti.size) sz = true) (hel : el.cells = splice old.cells off pv.cells) (hxs : xs.set i el = xs') (hcl : pv.cells.all PV.cl = true) :
  Does P N ops ⟨none, .store t p x, type, pos, after, guard⟩ s ⟨[], .skip, [((d, n), some (.arr e sz false xs'))], []⟩ :=
 does_turn hb rfl rfl fun w0 Mv J s' a w hs _ hb' hr => by
  subst hxs
  have h1 := hr p (by simp [Op.operands])
  have h2 := hr x (by simp [Op.operands])
  rw [hp] at h1
  rw [hx] at h2
  have ho := all_one ho
  have hfit := Nat.le_of_ble_eq_true hfit
  generalize hcp : a.eval p = cp at h1
  generalize hcx : a.eval x = cx at h2
  obtain ⟨u, ys, hJ, hown, hpz, hw, hone, hrep⟩ := hs.obj d n _ hb'
  obtain ⟨h3, h4⟩ := rep_cells h2 ho
  have hil : i < xs.length := (List.getElem?_eq_some_iff.1 hi).1
  have hol : old.cells.length = sz := hw old (List.mem_of_getElem? hi)
  have hell : el.cells.length = sz := by rw [hel]; simp [splice]; omega
  have hfl : flat (xs.set i el) = splice (flat xs) (i * sz + off) pv.cells := by
   rw [flat_set hw hi hell]
   have hfx : ((flat xs).drop (i * sz)).take sz = old.cells := by
    apply List.ext_getElem?
    intro k
    rw [List.getElem?_take]
    split
    ·rename_i hk
     rw [List.getElem?_drop]
     have := flat_get hw hi (List.getElem?_eq_getElem (by omega : k < old.cells.length))
     rw [this, List.getElem?_eq_getElem (by omega : k < old.cells.length)]
    ·rw [List.getElem?_eq_none (by omega)]
   refine splice_splice _ _ _ _ off sz (by rw [hfx, hel]) (by omega) ?_
   rw [flat_length hw]
   have := Nat.mul_le_mul_right sz (Nat.succ_le_of_lt hil)
   rw [Nat.succ_mul] at this
   omega
  cases h1 with
  | eptr _ _ _ _ _ _ g len cap hJ' =>
   rw [hJ] at hJ'
   injection hJ' with hu
   subst hu
   have hfitx : i * sz + off + pv.cells.length ≤ xs.length * sz := by
    have := Nat.mul_le_mul_right sz (Nat.succ_le_of_lt hil)
    rw [Nat.succ_mul] at this
    omega
   rcases hown.2 with ⟨he0, _⟩ | ⟨g', cap', cur, he0, hb0, hh, hle, hcm, hcs, htk⟩
   ·cases he0
   injection he0 with e1 e2 e3
   injection e1 with e1
   injection e1 with e1
   subst e1 e2 e3
   have hcap : xs.length * sz ≤ cap * sz := Nat.mul_le_mul_right _ hle
   have hone2 : ∀ v ∈ cx.cells.toList, v.oneCell' = true := by
    intro v hv
    obtain ⟨k, hk⟩ := List.getElem?_of_mem hv
    have hlt : k < pv.cells.length := by rw [← h3, ← Array.length_toList]; exact (List.getElem?_eq_some_iff.1 hk).1
    exact (h4 k _ v (List.getElem?_eq_getElem hlt) (by rw [← Array.getElem?_toList]; exact hk)).oneCell (ho _ (List.getElem_mem hlt))
   have hvl : cx.cells.toList.length = pv.cells.length := by rw [Array.length_toList, h3]
   have hst := run_storeCells_at P g (i * sz + off) e cx.cells.toList 0 cur w hh (by omega) hone2
   simp only [Nat.add_zero] at hst
   refine ⟨_, g, _, ?_, hJ, rfl, grownBy_setRow (List.take (i * sz + off) cur.toList ++ cx.cells.toList ++ List.drop (i * sz + off + cx.cells.toList.length) cur.toList).toArray, fun M hmono => ?_⟩
   ·simp [execOp, hcp, hcx, Instr.storeAt, Instr.sureAddr, storeVar, run_size ht, h3, hsz, hst] <;> rfl
   ·have hcl' : cur.toList.length = cap * sz := by rw [Array.length_toList, hcs]
    refine ⟨_, ys.take (i * sz + off) ++ cx.cells.toList ++ ys.drop (i * sz + off + cx.cells.toList.length), hJ, ⟨?_, .inr ⟨g, cap, _, by rw [List.length_set], hb0, setRow_heap w g cur _ e _ hh, by rw [List.length_set]; exact hle, hcm, ?_, ?_⟩⟩, hpz, fun x hx' => ?_, fun c hc => ?_, fun k c v hc hv => ?_⟩
    ·rw [List.length_set]
     have := hown.1
     simp [hvl]; omega
    ·simp [hvl]; omega
    ·rw [List.length_set]
     apply List.ext_getElem?
     intro k
     have hyl := hown.1
     rw [splice_get (by omega), List.getElem?_take]
     simp only []
     rw [splice_get (by rw [hvl]; omega), ← htk, hvl]
     by_cases hk : k < xs.length * sz
     ·rw [if_pos hk, List.getElem?_take, if_pos hk]
     ·rw [if_neg hk, if_neg (by omega), List.getElem?_take, if_neg hk]
    ·rcases List.mem_or_eq_of_mem_set hx' with h | h
     ·exact hw x h
     ·rw [h]; exact hell
    ·rw [hfl] at hc
     simp only [splice, List.mem_append] at hc
     rcases hc with (hc | hc) | hc
     ·exact hone c (List.mem_of_mem_take hc)
     ·exact ho c hc
     ·exact hone c (List.mem_of_mem_drop hc)
    ·have hyl := hown.1
     have hfl0 := flat_length hw
     rw [hfl, splice, splice_get (by omega)] at hc
     rw [splice_get (by omega), hvl] at hv
     split at hc
     ·rename_i hk
      rw [if_pos hk, Array.getElem?_toList] at hv
      refine hmono noSite c v ((h4 _ _ _ hc hv).cl ?_)
      rw [List.all_eq_true] at hcl
      exact hcl c (List.mem_of_getElem? hc)
     ·rename_i hk
      rw [if_neg hk] at hv
      exact hmono noSite c v (hrep _ _ _ hc hv)
end Go.Proofs.Ytmompdklolomfaa.Ab
