import Derived.Test.YtmompdklolomfaaAbOps2
namespace Go.Proofs.Ytmompdklolomfaa.Ab
open Go Go.RowKit
set_option linter.unusedVariables false
set_option linter.unusedSimpArgs false
variable {P : Program} {N : Nat} {ops : Array Oper} {s : St} {dst : Option Tmp} {type : TypeId} {pos : String} {after : Array Edge} {guard : Option (Nat × Bool)}
theorem own_form {w : World} {b : Nat} {e : TypeId} {size n : Nat} {v : Value} {xs : List Value} (h : w.ownsRow b e size v n xs) : ∃ A c, v = .slice A n c := by
 rcases h.2 with ⟨rfl, rfl⟩ | ⟨g, cap, cur, rfl, _⟩
 ·exact ⟨none, 0, rfl⟩
 ·exact ⟨_, cap, rfl⟩
theorem blockOf_own {v : Value} {A : Option Addr} {n c : Nat} (h : v = .slice A n c) : blockOf v = v.ownBlock := by subst h; cases A <;> rfl
theorem own_val {w : World} {M : Nat → Prop} {J : Site} {d n : Nat} {v u : Value} (hv : Rep w M J (.own d n) v) (hJ : J d n = some u) : v = u ∨ ∃ a, v = .slice (some a) 0 0 ∧ u = .slice none 0 0 := by
 cases hv with
 | own _ _ _ A len cap hJ' => rw [hJ] at hJ'; injection hJ' with e; exact .inl e.symm
 | own0 _ _ _ a hJ' => rw [hJ] at hJ'; injection hJ' with e; exact .inr ⟨a, rfl, e⟩
theorem rep_empty {w : World} {M : Nat → Prop} {J : Site} {e sz : Nat} {a : Addr} {xs : List PV} {ys : List Value} (hown : w.ownsRow 0 e sz (.slice none 0 0) xs.length ys) (hp : 0 < sz) : Rep w M J (.sl sz xs) (.slice (some a) 0 0) := by
 have hx : xs = [] := List.eq_nil_of_length_eq_zero (nil_own hown)
 subst hx
 exact .sl _ _ _ _ _ (fun _ => Go.undef) hp (by simp) (by simp [flat]) (Nat.zero_le _) (fun h => absurd rfl h) (fun k c hk => by simp [flat] at hk) (fun k c hk => by simp [flat] at hk)
theorem rep_of_row {w : World} {M : Nat → Prop} {J : Site} {e sz : Nat} {v : Value} {xs : List PV} {ys : List Value} (hown : w.ownsRow 0 e sz v xs.length ys) (hp : 0 < sz) (hw : ∀ x ∈ xs, x.cells.length = sz) (ho : ∀ c ∈ flat xs, c.one = true)
  (hr : ∀ (k : Nat) (c : PV) (y : Value), (flat xs)[k]? = some c → ys[k]? = some y → Rep w M noSite c y) (hM : ∀ g, v.ownBlock = some g → ¬ M g) : Rep w M J (.sl sz xs) v := by
 rcases hown.2 with ⟨rfl, h0⟩ | ⟨g, cap, cur, rfl, _, hh, hle, hcm, hcs, ht⟩
 ·have : xs = [] := List.eq_nil_of_length_eq_zero h0
  subst this
  exact .sl0 _ _ _
 ·have hl : ys.length = (flat xs).length := by rw [hown.1, flat_length hw]
  refine .sl _ _ _ _ _ (fun k => ys.getD k Go.undef) hp hw ho hle (fun _ => hM g rfl) (fun k c hk => ?_) (fun k c hk => ?_)
  all_goals have hlt : k < ys.length := by rw [hl]; exact (List.getElem?_eq_some_iff.1 hk).1
  ·exact hown.cells (g := g) rfl k _ (by simp [List.getD_eq_getElem?_getD, List.getElem?_eq_getElem hlt])
  ·exact hr k c _ hk (by simp [List.getD_eq_getElem?_getD, List.getElem?_eq_getElem hlt])
def St.lowC (s : St) : PV → Option (PV × List (Nat × Nat))
 | .own d n => match s.heap d n with | some (.arr _ sz true xs) => some (.sl sz xs, [(d, n)]) | _ => none
 | .bool b => some (.bool b, [])
 | .int k n => some (.int k n, [])
 | .str b => some (.str b, [])
 | .nil => some (.nil, [])
 | .sl sz xs => some (.sl sz xs, [])
 | .rptr cs => some (.rptr cs, [])
 | _ => none
def St.lowL (s : St) : List PV → Option (List PV × List (Nat × Nat))
 | [] => some ([], [])
 | c :: r => match s.lowC c, s.lowL r with
  | some (c', L), some (r', L') => some (c' :: r', L ++ L')
  | _, _ => none
def St.low (s : St) : PV → Option (PV × List (Nat × Nat))
 | .agg cs => match s.lowL cs with | some (cs', L) => some (.agg cs', L) | none => none
 | c => s.lowC c
theorem lowC_rep {w0 : World} {Mv : Nat → Prop} {J : Site} {a : Act} {w : World} (h : Sim w0 Mv N J s a w) {c c' : PV} {L : List (Nat × Nat)} (hc : s.lowC c = some (c', L)) {v : Value} (hv : Rep w (Mut s J) J c v) (J' : Site) :
  Rep w (Mut s J) J' c' v ∧ c'.one = true := by
 unfold St.lowC at hc
 split at hc
 ·rename_i d n
  split at hc
  ·rename_i e sz xs hb
   injection hc with hc
   injection hc with hc hL
   subst hc
   refine ⟨?_, rfl⟩
   obtain ⟨u, ys, hJ, hown, hp, hw, ho, hr⟩ := h.obj d n _ hb
   rcases own_val hv hJ with hvu | ⟨ab, rfl, rfl⟩
   case inr => exact rep_empty hown hp
   subst hvu
   refine rep_of_row hown hp hw ho hr (fun g hg hm => ?_)
   obtain ⟨A, c, hvf⟩ := own_form hown
   rcases hm with hm | hm
   ·exact h.sepX d n _ _ g hb hJ (by rw [blockOf_own hvf]; exact hg) hm
   obtain ⟨d', n', o, v', ho', hmut, hJ', hb'⟩ := hm
   have := h.sep d n d' n' _ _ _ _ g hb ho' hJ hJ' (by rw [blockOf_own hvf]; exact hg) hb'
   obtain ⟨rfl, rfl⟩ := this
   rw [hb] at ho'
   injection ho' with ho'
   subst ho'
   cases hmut
  ·cases hc
 all_goals first
  | (cases hc; done)
  | (injection hc with hc; injection hc with hc hL; subst hc; refine ⟨?_, rfl⟩; cases hv <;> first | exact .bool _ _ | exact .int _ _ _ | exact .str _ _ | exact .nil _ | exact .sl0 _ _ _ | (exact .sl _ _ _ _ _ _ (by assumption) (by assumption) (by assumption) (by assumption) (by assumption) (by assumption) (by assumption)) | (exact .rptr _ _ _ _ (by assumption) (by assumption) (by assumption) (by assumption)))
theorem lowC_agree {s s' : St} {c c' : PV} {L : List (Nat × Nat)} (hc : s.lowC c = some (c', L)) (h : ∀ q ∈ L, s'.heap q.1 q.2 = s.heap q.1 q.2) : s'.lowC c = some (c', L) := by
 unfold St.lowC at hc ⊢
 split at hc
 ·rename_i d n
  split at hc
  ·rename_i e sz xs hb
   injection hc with hc
   injection hc with hc hL
   subst hL
   rw [h (d, n) List.mem_cons_self, hb, ← hc]
  ·cases hc
 all_goals first | exact hc | cases hc
theorem lowL_rep {w0 : World} {Mv : Nat → Prop} {J : Site} {a : Act} {w : World} (h : Sim w0 Mv N J s a w) : ∀ {cs cs' : List PV} {L : List (Nat × Nat)}, s.lowL cs = some (cs', L) → cs'.length = cs.length ∧ (∀ c ∈ cs', c.one = true ∨ cs = []) ∧
  ∀ {vs : List Value}, vs.length = cs.length → (∀ (i : Nat) (c : PV) (v : Value), cs[i]? = some c → vs[i]? = some v → Rep w (Mut s J) J c v) →
   (∀ c ∈ cs', c.one = true) ∧ ∀ (J' : Site) (i : Nat) (c : PV) (v : Value), cs'[i]? = some c → vs[i]? = some v → Rep w (Mut s J) J' c v
 | [], cs', L, hc => by
  simp only [St.lowL, Option.some.injEq, Prod.mk.injEq] at hc
  obtain ⟨rfl, rfl⟩ := hc
  refine ⟨rfl, ?_, ?_⟩
  ·intro c hc; cases hc
  ·intro vs hl hv
   refine ⟨?_, ?_⟩
   ·intro c hc; cases hc
   ·intro J' i c v hc; simp at hc
 | c :: r, cs', L, hc => by
  simp only [St.lowL] at hc
  split at hc
  ·rename_i c1 L1 r1 L2 h1 h2
   injection hc with hc
   injection hc with hc hL
   subst hc
   obtain ⟨h3, h3', h4⟩ := lowL_rep h h2
   refine ⟨by simp [h3], fun x hx => ?_, fun {vs} hl hv => ?_⟩
   ·left
    rcases List.mem_cons.1 hx with rfl | hx
    ·clear h4 h3'
     unfold St.lowC at h1
     split at h1
     ·split at h1
      ·injection h1 with h1; injection h1 with h1; subst h1; rfl
      ·cases h1
     all_goals first | (cases h1; done) | (injection h1 with h1; injection h1 with h1; subst h1; rfl)
    ·rcases h3' x hx with h5 | h5
     ·exact h5
     ·subst h5; simp at h3; subst h3; cases hx
   ·cases vs with
    | nil => simp at hl
    | cons v vs =>
     have h5 := lowC_rep h h1 (hv 0 c v rfl rfl)
     obtain ⟨h6, h7⟩ := h4 (vs := vs) (by simpa using hl) (fun i c v hc hv' => hv (i + 1) c v (by simpa using hc) (by simpa using hv'))
     refine ⟨fun x hx => ?_, fun J' i x u hx hu => ?_⟩
     ·rcases List.mem_cons.1 hx with rfl | hx
      ·exact (h5 noSite).2
      ·exact h6 x hx
     ·cases i with
      | zero => simp at hx hu; subst hx hu; exact (h5 J').1
      | succ i => exact h7 J' i x u (by simpa using hx) (by simpa using hu)
  ·cases hc
theorem lowL_agree {s s' : St} : ∀ {cs cs' : List PV} {L : List (Nat × Nat)}, s.lowL cs = some (cs', L) → (∀ q ∈ L, s'.heap q.1 q.2 = s.heap q.1 q.2) → s'.lowL cs = some (cs', L)
 | [], cs', L, hc, _ => hc
 | c :: r, cs', L, hc, h => by
  simp only [St.lowL] at hc ⊢
  split at hc
  ·rename_i c1 L1 r1 L2 h1 h2
   injection hc with hc
   injection hc with hc hL
   subst hL
   rw [lowC_agree h1 fun q hq => h q (List.mem_append_left _ hq), lowL_agree h2 fun q hq => h q (List.mem_append_right _ hq), ← hc]
  ·cases hc
theorem rep_cells {w : World} {M : Nat → Prop} {J : Site} {pv : PV} {v : Value} (h : Rep w M J pv v) (ho : ∀ c ∈ pv.cells, c.one = true) :
  v.cells.size = pv.cells.length ∧ ∀ (k : Nat) (c : PV) (u : Value), pv.cells[k]? = some c → v.cells[k]? = some u → Rep w M J c u := by
 cases h with
 | agg _ cs vs hl h => exact ⟨hl.symm, h⟩
 | undef | skip | tup => exact absurd (ho _ List.mem_cons_self) (by simp [PV.one])
 | bool b => exact ⟨rfl, fun k c u hc hu => by cases k <;> simp [PV.cells, Value.cells] at hc hu; subst hc hu; exact .bool _ _⟩
 | int k n => exact ⟨rfl, fun k c u hc hu => by cases k <;> simp [PV.cells, Value.cells] at hc hu; subst hc hu; exact .int _ _ _⟩
 | str b => exact ⟨rfl, fun k c u hc hu => by cases k <;> simp [PV.cells, Value.cells] at hc hu; subst hc hu; exact .str _ _⟩
 | nil => exact ⟨rfl, fun k c u hc hu => by cases k <;> simp [PV.cells, Value.cells] at hc hu; subst hc hu; exact .nil _⟩
 | sl _ _ _ _ _ g h1 h2 h3 h4 h5 h6 h7 => exact ⟨rfl, fun k c u hc hu => by cases k <;> simp [PV.cells, Value.cells] at hc hu; subst hc hu; exact .sl _ _ _ _ _ g h1 h2 h3 h4 h5 h6 h7⟩
 | sl0 => exact ⟨rfl, fun k c u hc hu => by cases k <;> simp [PV.cells, Value.cells] at hc hu; subst hc hu; exact .sl0 _ _ _⟩
 | nilf => exact ⟨rfl, fun k c u hc hu => by cases k <;> simp [PV.cells, Value.cells] at hc hu; subst hc hu; exact .nilf _⟩
 | bsl _ _ _ _ g cap h hc' => exact ⟨rfl, fun k c u hc hu => by cases k <;> simp [PV.cells, Value.cells] at hc hu; subst hc hu; exact .bsl _ _ _ _ _ _ h hc'⟩
 | rptr _ _ _ g h1 h2 h3 h4 => exact ⟨rfl, fun k c u hc hu => by cases k <;> simp [PV.cells, Value.cells] at hc hu; subst hc hu; exact .rptr _ _ _ g h1 h2 h3 h4⟩
 | fn _ f cs vs hl h => exact ⟨rfl, fun k c u hc hu => by cases k <;> simp [PV.cells, Value.cells] at hc hu; subst hc hu; exact .fn _ _ _ _ hl h⟩
 | own _ _ _ _ _ _ h1 => exact ⟨rfl, fun k c u hc hu => by cases k <;> simp [PV.cells, Value.cells] at hc hu; subst hc hu; exact .own _ _ _ _ _ _ h1⟩
 | own0 _ _ _ _ h1 => exact ⟨rfl, fun k c u hc hu => by cases k <;> simp [PV.cells, Value.cells] at hc hu; subst hc hu; exact .own0 _ _ _ _ h1⟩
 | ptr _ _ _ _ _ h1 => exact ⟨rfl, fun k c u hc hu => by cases k <;> simp [PV.cells, Value.cells] at hc hu; subst hc hu; exact .ptr _ _ _ _ _ h1⟩
 | eptr _ _ _ _ _ _ _ _ _ h1 => exact ⟨rfl, fun k c u hc hu => by cases k <;> simp [PV.cells, Value.cells] at hc hu; subst hc hu; exact .eptr _ _ _ _ _ _ _ _ _ h1⟩
 | mp _ _ _ _ h1 => exact ⟨rfl, fun k c u hc hu => by cases k <;> simp [PV.cells, Value.cells] at hc hu; subst hc hu; exact .mp _ _ _ _ h1⟩
def setJ (J : Site) (d n : Nat) (v : Value) : Site := fun d' n' => if d' = d ∧ n' = n then some v else J d' n'
theorem Sim.alloc {w0 : World} {Mv : Nat → Prop} {J : Site} {a : Act} {w : World} (h : Sim w0 Mv N J s a w) (d : Nat) {o : AObj} {v : Value} (ob : Obj) (hv : blockOf v = some w.heap.size)
  {s' : St} (he : s'.env = s.env) (hX : s'.X = s.X) (hh : ∀ a n, s'.heap a n = if a = d ∧ n = s.next d then some o else s.heap a n) (hn : ∀ a, s'.next a = if a = d then s.next d + 1 else s.next a)
  (hok : ∀ M J', J' d (s.next d) = some v → (∀ J1 J2 pv u, (∀ d n v, J1 d n = some v → J2 d n = some v) → Rep w (Mut s J) J1 pv u → Rep (w.alloc ob) M J2 pv u) → (∀ d n v, J d n = some v → J' d n = some v) → ObjOk (w.alloc ob) M J' d (s.next d) o) :
  Sim w0 Mv N (setJ J d (s.next d) v) s' a (w.alloc ob) := by
 have hnew := h.nxt d (s.next d) (Nat.le_refl _)
 have hJ : ∀ d' n' u, J d' n' = some u → setJ J d (s.next d) v d' n' = some u := by
  intro d' n' u hu
  unfold setJ
  split
  ·rename_i hc
   obtain ⟨rfl, rfl⟩ := hc
   rw [hnew.2] at hu; cases hu
  ·exact hu
 have hJo : ∀ d' n' u, ¬ (d' = d ∧ n' = s.next d) → setJ J d (s.next d) v d' n' = some u → J d' n' = some u := by
  intro d' n' u hc hu
  simpa [setJ, hc] using hu
 have hself : setJ J d (s.next d) v d (s.next d) = some v := by simp [setJ]
 have hM : ∀ b, b < w.heap.size → OMut s' (setJ J d (s.next d) v) b → OMut s J b := by
  rintro b hb ⟨d', n', o', v', h1, h2, h3, h4⟩
  rw [hh] at h1
  by_cases hc : d' = d ∧ n' = s.next d
  ·obtain ⟨rfl, rfl⟩ := hc
   rw [hself] at h3
   injection h3 with h3
   subst h3
   rw [hv] at h4
   injection h4 with h4
   omega
  ·rw [if_neg hc] at h1
   exact ⟨d', n', o', v', h1, h2, hJo _ _ _ hc h3, h4⟩
 have hM' : ∀ b, b < w.heap.size → Mut s' (setJ J d (s.next d) v) b → Mut s J b := fun b hb hm => by
  rcases hm with hm | hm
  ·exact .inl (hX ▸ hm)
  ·exact .inr (hM b hb hm)
 refine h.update (row := none) (World.grownBy_alloc w ob none) (Nat.le_refl _) (by simp) hJ he hX hM (fun d' n' o' h1 => ?_) ?_ (fun d' n' hle => ?_) (fun d' n' o' v' g h1 h2 h3 hx => ?_)
 ·rw [hh] at h1
  by_cases hc : d' = d ∧ n' = s.next d
  ·obtain ⟨rfl, rfl⟩ := hc
   simp only [and_self, if_true, Option.some.injEq] at h1
   subst h1
   refine .inr (hok _ _ hself (fun J1 J2 pv u hJ12 hr => hr.mono (fun b hb _ => heap_alloc_old w ob b hb) hM' hJ12) hJ)
  ·rw [if_neg hc] at h1
   exact .inl ⟨h1, by simp⟩
 ·intro d1 n1 d2 n2 o1 o2 v1 v2 g h1 h2 h3 h4 h5 h6
  rw [hh] at h1 h2
  have hold : ∀ {d' n' o' u}, ¬ (d' = d ∧ n' = s.next d) → s.heap d' n' = some o' → setJ J d (s.next d) v d' n' = some u → ∀ g, blockOf u = some g → g < w.heap.size := by
   intro d' n' o' u hc ho hu g hg
   obtain ⟨u', hu', hlt⟩ := (h.obj _ _ _ ho).blk
   rw [hJo _ _ _ hc hu] at hu'
   injection hu' with e
   subst e
   exact hlt g hg
  by_cases hc1 : d1 = d ∧ n1 = s.next d <;> by_cases hc2 : d2 = d ∧ n2 = s.next d
  ·exact ⟨hc1.1.trans hc2.1.symm, hc1.2.trans hc2.2.symm⟩
  ·rw [if_neg hc2] at h2
   have := hold hc2 h2 h4 g h6
   obtain ⟨rfl, rfl⟩ := hc1
   rw [hself] at h3
   injection h3 with h3
   subst h3
   rw [hv] at h5
   injection h5 with h5
   omega
  ·rw [if_neg hc1] at h1
   have := hold hc1 h1 h3 g h5
   obtain ⟨rfl, rfl⟩ := hc2
   rw [hself] at h4
   injection h4 with h4
   subst h4
   rw [hv] at h6
   injection h6 with h6
   omega
  ·rw [if_neg hc1] at h1
   rw [if_neg hc2] at h2
   exact h.sep _ _ _ _ _ _ _ _ g h1 h2 (hJo _ _ _ hc1 h3) (hJo _ _ _ hc2 h4) h5 h6
 ·rw [hn] at hle
  have hc : ¬ (d' = d ∧ n' = s.next d) := by
   rintro ⟨rfl, rfl⟩
   simp at hle
   omega
  have hle' : s.next d' ≤ n' := by
   split at hle
   ·rename_i e; subst e; omega
   ·exact hle
  have := h.nxt d' n' hle'
  exact ⟨by rw [hh, if_neg hc]; exact this.1, by simp [setJ, hc, this.2]⟩
 ·rw [hh] at h1
  by_cases hc : d' = d ∧ n' = s.next d
  ·obtain ⟨rfl, rfl⟩ := hc
   rw [hself] at h2
   injection h2 with h2
   subst h2
   rw [hv] at h3
   injection h3 with h3
   have := h.xlt g hx
   omega
  ·rw [if_neg hc] at h1
   exact h.sepX _ _ _ _ g h1 (hJo _ _ _ hc h2) h3 hx
theorem app_alloc_heap (s : St) (d : Nat) (L : List (Nat × Nat)) (v : PV) (o : AObj) (a n : Nat) : (s.app (some d) ⟨L, v, [((d, s.next d), some o)], [d]⟩).heap a n = if a = d ∧ n = s.next d then some o else s.heap a n := rfl
theorem app_alloc_next (s : St) (d : Nat) (L : List (Nat × Nat)) (v : PV) (o : Option AObj) (a : Nat) : (s.app (some d) ⟨L, v, [((d, s.next d), o)], [d]⟩).next a = if a = d then s.next d + 1 else s.next a := by
 show s.next a + cnt [d] a = _
 simp only [cnt, Nat.add_zero]
 split <;> simp_all
theorem Sim.put_of {w0 : World} {Mv : Nat → Prop} {J : Site} {a : Act} {w : World} {s s' s'' : St} (h : Sim w0 Mv N J s' a w) (d : Option Nat) {pv : PV} {v : Value} (hr : Rep w (Mut s' J) J pv v)
  (he : s''.env = (s.put d pv).env) (hee : s'.env = s.env) (hh : s''.heap = s'.heap) (hn : s''.next = s'.next) (hX : s''.X = s'.X) : Sim w0 Mv N J s'' (a.put d v) w := by
 have : s'' = s'.put d pv := by
  cases s''; cases s'; cases d <;> simp only [St.put] at * <;> simp_all
 rw [this]
 exact h.put d hr
theorem does_alloc (d : Nat) {o : AObj} {L : List (Nat × Nat)} {pv : PV} {op : Op}
  (h : ∀ w0 Mv J s' a w, Sim w0 Mv N J s' a w → (∀ p ∈ L, s'.heap p.1 p.2 = s.heap p.1 p.2) → s'.next d = s.next d → (∀ x ∈ op.operands, Rep w (Mut s' J) J (s.ev x) (a.eval x)) →
   ∃ cv ob, (execOp a.eval ⟨some d, op, type, pos, after, guard⟩).run P w = .ok (.value cv) (w.alloc ob) ∧ blockOf cv = some w.heap.size ∧ (∀ (M : Nat → Prop) (J' : Site), J' d (s.next d) = some cv → Rep (w.alloc ob) M J' pv cv) ∧
    (∀ M J', J' d (s.next d) = some cv → (∀ J1 J2 pv u, (∀ d n v, J1 d n = some v → J2 d n = some v) → Rep w (Mut s' J) J1 pv u → Rep (w.alloc ob) M J2 pv u) → (∀ d n v, J d n = some v → J' d n = some v) → ObjOk (w.alloc ob) M J' d (s.next d) o)) :
  Does P N ops ⟨some d, op, type, pos, after, guard⟩ s ⟨L, pv, [((d, s.next d), some o)], [d]⟩ := by
 intro s' ha hlt w0 Mv J a w hs Q
 have hnx := ha.nx d List.mem_cons_self
 obtain ⟨cv, ob, hrun, hb, hrep, hok⟩ := h w0 Mv J s' a w hs ha.rd hnx fun x hx => by
  rw [← ev_agree ha hx]
  exact rep_ev hs fun t ht => hlt t (looks_op (ht ▸ hx))
 unfold Oper.wp
 rw [hrun, Oper.upon_value]
 have h1 := hs.alloc d (o := o) ob hb (s' := { s'.app (some d) ⟨L, pv, [((d, s'.next d), some o)], [d]⟩ with env := s'.env }) rfl rfl (fun a n => app_alloc_heap s' d L pv o a n) (fun a => app_alloc_next s' d L pv (some o) a)
  (fun M J' h1 h2 h3 => by rw [hnx] at h1 ⊢; exact hok M J' h1 h2 h3)
 refine ⟨_, h1.put_of (s := s') (some d) (hrep _ _ (by rw [← hnx]; simp [setJ])) ?_ rfl ?_ ?_ rfl⟩
 ·rfl
 ·rw [hnx]
 ·rw [hnx]
theorem does_box {d : Nat} {t : TypeId} {x : Operand} {pv : PV} (hx : s.ev x = pv) (ho : ∀ c ∈ pv.cells, c.one = true) :
  Does P N ops ⟨some d, .box t x, type, pos, after, guard⟩ s ⟨[], .ptr d (s.next d) 0, [((d, s.next d), some (.box pv.cells))], [d]⟩ :=
 does_alloc d fun w0 Mv J s' a w hs _ hnx hr => by
  have h1 := hr x (by simp [Op.operands])
  rw [hx] at h1
  obtain ⟨h2, h3⟩ := rep_cells h1 ho
  refine ⟨.pointer (some ⟨w.heap.size, 0, none⟩), .cells (a.eval x).cells t, ?_, rfl, fun M J' hJ' => .ptr _ _ _ _ _ hJ', fun M J' hJ' hmono hsub => ⟨w.heap.size, (a.eval x).cells, t, hJ', heap_alloc_new w _, h2, ho, fun k c v hc hv => hmono J J' c v hsub (h3 k c v hc hv)⟩⟩
  simp [execOp, Instr.box, newVar, newRow, newObj, Sem.run] <;> rfl
theorem does_new {d : Nat} {t : TypeId} {ti : TyI} (ht : tyOf P t = some ti) (hz : ti.zero ≠ []) (ho : ∀ c ∈ ti.zero, c.one = true) :
  Does P N ops ⟨some d, .alloc t, type, pos, after, guard⟩ s ⟨[], .ptr d (s.next d) 0, [((d, s.next d), some (.box ti.zero))], [d]⟩ :=
 does_alloc d fun w0 Mv J s' a w hs _ hnx hr => by
  obtain ⟨i, dd, h1, _, _, _, _, h4⟩ := tyOf_spec ht
  cases hzv : i.zero with
  | none => rw [hzv] at h4; exact absurd h4 hz
  | some z =>
   rw [hzv] at h4
   dsimp only at h4
   refine ⟨.pointer (some ⟨w.heap.size, 0, none⟩), .cells z.cells t, ?_, rfl, fun M J' hJ' => .ptr _ _ _ _ _ hJ', fun M J' hJ' hmono hsub => ⟨w.heap.size, z.cells, t, hJ', heap_alloc_new w _, by rw [h4]; simp, ho, fun k c v hc hv => ?_⟩⟩
   ·simp [execOp, Instr.alloc, zeroValue, typeInfo, h1, hzv, newVar, newRow, newObj, Sem.run] <;> rfl
   ·rw [h4, List.getElem?_map, Option.map_eq_some_iff] at hc
    obtain ⟨u, hu, rfl⟩ := hc
    rw [Array.getElem?_toList, hv] at hu
    injection hu with hu
    subst hu
    exact rep_ofVal1 _
end Go.Proofs.Ytmompdklolomfaa.Ab
