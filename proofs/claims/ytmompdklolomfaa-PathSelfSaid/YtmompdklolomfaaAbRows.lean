import Derived.Test.YtmompdklolomfaaAbStay
namespace Go.Proofs.Ytmompdklolomfaa.Ab
open Go Go.RowKit
set_option linter.unusedVariables false
set_option linter.unusedSimpArgs false
variable {P : Program} {N : Nat} {ops : Array Oper} {dst : Option Tmp} {type : TypeId} {pos : String} {after : Array Edge} {guard : Option (Nat × Bool)} {s : St}
theorem does_alloc2 (d : Nat) {o : AObj} {L : List (Nat × Nat)} {pv : PV} {op : Op}
  (h : ∀ w0 Mv J s' a w, Sim w0 Mv N J s' a w → (∀ p ∈ L, s'.heap p.1 p.2 = s.heap p.1 p.2) → s'.next d = s.next d → (∀ x ∈ op.operands, Rep w (Mut s' J) J (s.ev x) (a.eval x)) →
   ∃ cv jv ob, (execOp a.eval ⟨some d, op, type, pos, after, guard⟩).run P w = .ok (.value cv) (w.alloc ob) ∧ blockOf jv = some w.heap.size ∧ (∀ (M : Nat → Prop) (J' : Site), J' d (s.next d) = some jv → Rep (w.alloc ob) M J' pv cv) ∧
    (∀ M J', J' d (s.next d) = some jv → (∀ J1 J2 pv u, (∀ d n v, J1 d n = some v → J2 d n = some v) → Rep w (Mut s' J) J1 pv u → Rep (w.alloc ob) M J2 pv u) → (∀ d n v, J d n = some v → J' d n = some v) → ObjOk (w.alloc ob) M J' d (s.next d) o)) :
  Does P N ops ⟨some d, op, type, pos, after, guard⟩ s ⟨L, pv, [((d, s.next d), some o)], [d]⟩ := by
 intro s' ha hlt w0 Mv J a w hs Q
 have hnx := ha.nx d List.mem_cons_self
 obtain ⟨cv, jv, ob, hrun, hb, hrep, hok⟩ := h w0 Mv J s' a w hs ha.rd hnx fun x hx => by
  rw [← ev_agree ha hx]
  exact rep_ev hs fun t ht => hlt t (looks_op (ht ▸ hx))
 unfold Oper.wp
 rw [hrun, Oper.upon_value]
 have h1 := hs.alloc d (o := o) ob hb (s' := { s'.app (some d) ⟨L, pv, [((d, s'.next d), some o)], [d]⟩ with env := s'.env }) rfl rfl (fun a n => app_alloc_heap s' d L pv o a n) (fun a => app_alloc_next s' d L pv (some o) a)
  (fun M J' h1 h2 h3 => by rw [hnx] at h1 ⊢; exact hok M J' h1 h2 h3)
 refine ⟨_, h1.put_of (s := s') (some d) (hrep _ _ (by rw [← hnx]; simp [setJ])) ?_ rfl ?_ ?_ rfl⟩
 ·rfl
 ·rw [hnx]
 ·rw [hnx]
theorem does_makeRows {d : Nat} {t e : TypeId} {x y : Operand} {sz by_ : Nat} {z : List PV} {ei : TyI} {kx ky : IntKind} {n : Nat} (hx : s.ev x = .int kx (n : Int)) (hy : s.ev y = .int ky (n : Int)) (ht : tyOf P t = some ⟨.slice e, sz, by_, z⟩) (he : tyOf P e = some ei)
  (hz : ei.zero = [.nil]) (hsz : ei.size = 1) (hn : n ≤ 1000000) (hb : Nat.ble (ei.bytes * 1000000) 281474976710656 = true) :
  Does P N ops ⟨some d, .makeSlice t x y, type, pos, after, guard⟩ s ⟨[], .bsl d (s.next d) n, [((d, s.next d), some (.box (List.replicate n .nil)))], [d]⟩ :=
 does_alloc2 d fun w0 Mv J s' a w hs hL hnx hr => by
  obtain ⟨i, dd, h1, h2, h3, h4, h4b, h5⟩ := tyOf_spec he
  cases hzv : i.zero with
  | none => rw [hzv] at h5; rw [hz] at h5; cases h5
  | some zv =>
   rw [hzv, hz] at h5
   dsimp only at h5
   have hzs : zv.cells.size = 1 := by
    have := congrArg List.length h5
    simpa using this.symm
   have hex : a.eval x = .int kx (n : Int) := by
    have := hr x (by simp [Op.operands]); rw [hx] at this
    generalize a.eval x = v at this ⊢; cases this; rfl
   have hey : a.eval y = .int ky (n : Int) := by
    have := hr y (by simp [Op.operands]); rw [hy] at this
    generalize a.eval y = v at this ⊢; cases this; rfl
   have hbn : i.bytes * n ≤ 281474976710656 := by
    have h6 := Nat.le_of_ble_eq_true hb
    rw [← h4b] at h6
    exact Nat.le_trans (Nat.mul_le_mul_left _ hn) h6
   have hbi : (i.bytes : Int) * (n : Int) ≤ 281474976710656 := by rw [← Int.natCast_mul]; omega
   have hwr : IntKind.i64.wrap (n : Int) = (n : Int) := wrap_i64 _ (by omega) (by omega)
   refine ⟨.slice (some ⟨w.heap.size, 0, none⟩) n n, .pointer (some ⟨w.heap.size, 0, none⟩), .cells ((Array.range (n * ei.size)).map (zv.cells[· % zv.cells.size]!)) e, ?_, rfl, fun M J' hJ' => .bsl _ _ _ _ _ _ hJ' (Nat.le_refl _), fun M J' hJ' hmono hsub =>
    ⟨w.heap.size, (Array.range (n * ei.size)).map (zv.cells[· % zv.cells.size]!), e, hJ', ?_, by simp [hsz], fun c hc => by rw [(List.mem_replicate.1 hc).2]; rfl, fun k c v hc hv => ?_⟩⟩
   ·have hrun := run_make (P := P) w t e i zv (ty_slice ht) h1 hzv kx ky n n (by omega) (Int.le_refl _) hbi (by omega)
    simp only [Int.toNat_natCast, h4] at hrun
    simp only [execOp, hex, hey, Sem.run_bind, hrun, Result.andThen_ok]
    rfl
   ·show (w.heap.push _)[w.heap.size]? = _
    simp
   ·have hc' := List.mem_of_getElem? hc
    rw [(List.mem_replicate.1 hc').2]
    rw [Array.getElem?_map, Option.map_eq_some_iff] at hv
    obtain ⟨j, hj, rfl⟩ := hv
    have hj0 : j % zv.cells.size = 0 := by rw [hzs]; exact Nat.mod_one j
    rw [hj0, getElem!_pos zv.cells 0 (by omega)]
    have h6 : some (PV.ofVal1 zv.cells[0]) = some PV.nil := by
     have := congrArg (fun l : List PV => l[0]?) h5
     simpa [hzs] using this.symm
    injection h6 with h6
    exact h6 ▸ rep_ofVal1 _
theorem does_indexAddr_bsl {t e : TypeId} {x y : Operand} {sz by_ : Nat} {z : List PV} {ei : TyI} {d n m : Nat} {k : IntKind} {i : Int} (hx : s.ev x = .bsl d n m) (hy : s.ev y = .int k i) (ht : tyOf P t = some ⟨.slice e, sz, by_, z⟩) (he : tyOf P e = some ei) (hsz : ei.size = 1) (h0 : 0 ≤ i) (hi : i < (m : Int)) :
  Does P N ops ⟨dst, .indexAddr t x y, type, pos, after, guard⟩ s (pureFx (.ptr d n i.toNat)) :=
 does_pure _ fun w M J ρ hr => by
  have h1 := hr x (by simp [Op.operands])
  have h2 := hr y (by simp [Op.operands])
  rw [hx] at h1
  rw [hy] at h2
  generalize hcx : ρ x = cx at h1
  generalize hcy : ρ y = cy at h2
  cases h2
  cases h1 with
  | bsl _ _ _ _ g cap hJ hc =>
   refine ⟨.pointer (some ⟨g, i.toNat, none⟩), ?_, .ptr _ _ _ _ _ hJ⟩
   have hi' : 0 ≤ i ∧ i < (m : Int) := ⟨h0, hi⟩
   simp [execOp, hcx, hcy, Instr.indexAt, run_underlying (ty_slice ht), asIntOf, hi', run_size he, add_flat, hsz]
theorem does_len_bsl {t ty e : TypeId} {x : Operand} {sz by_ d n m : Nat} {z : List PV} (hx : s.ev x = .bsl d n m) (ht : tyOf P t = some ⟨.slice e, sz, by_, z⟩) :
  Does P N ops ⟨dst, .call ⟨.builtin .len, #[x], #[t]⟩, ty, pos, after, guard⟩ s (pureFx (.int .i64 (m : Int))) :=
 does_pure _ fun w M J ρ hr => by
  have h1 := hr x (by simp [Op.operands, Call.operands])
  rw [hx] at h1
  generalize hcx : ρ x = cx at h1
  cases h1 with
  | bsl _ _ _ _ g cap hJ hc => exact ⟨_, by simp [execOp, resolve, invoke, builtin, hcx, Builtin.len_, run_underlying (ty_slice ht), goInt], .int _ _ _⟩
def owns (R m : Nat) : List PV := (List.range m).map (.own R)
def St.opn (s : St) (d n R e sz m : Nat) : St :=
 { env := s.env, heap := fun a k => if a = R ∧ k < m then some (.arr e sz false []) else if a = d ∧ k = n then some (.box (owns R m)) else s.heap a k, next := fun a => if a = R then m else s.next a, X := s.X }
theorem owns_get {R m k : Nat} {c : PV} (h : (owns R m)[k]? = some c) : k < m ∧ c = .own R k := by
 simp only [owns, List.getElem?_map, Option.map_eq_some_iff] at h
 obtain ⟨j, hj, rfl⟩ := h
 obtain ⟨h1, h2⟩ := List.getElem?_eq_some_iff.1 hj
 simp at h1 h2
 subst h2
 exact ⟨h1, rfl⟩
theorem owns_len (R m : Nat) : (owns R m).length = m := by simp [owns]
theorem reb_opn {d n R e sz m : Nat} (hb : s.heap d n = some (.box (List.replicate m .nil))) (hR : s.next R = 0) (hp : 0 < sz) : Reb N s (s.opn d n R e sz m) := by
 refine ⟨rfl, fun w0 Mv J a w hs => ?_⟩
 have hnone : ∀ k, s.heap R k = none ∧ J R k = none := fun k => hs.nxt R k (by omega)
 have hdR : d ≠ R := by rintro rfl; rw [(hnone n).1] at hb; cases hb
 let J' : Site := fun a k => if a = R ∧ k < m then some (.slice none 0 0) else J a k
 have hJ : ∀ d n v, J d n = some v → J' d n = some v := by
  intro d n v hv
  have hc : ¬ (d = R ∧ n < m) := by rintro ⟨rfl, _⟩; rw [(hnone n).2] at hv; cases hv
  simp [J', hc, hv]
 have hJn : ∀ k, k < m → J' R k = some (.slice none 0 0) := fun k hk => by simp [J', hk]
 have hJo : ∀ d n v, ¬ (d = R ∧ n < m) → J' d n = some v → J d n = some v := fun d n v hc hv => by simpa [J', hc] using hv
 let s1 : St := s.opn d n R e sz m
 have hh1 : ∀ a k, s1.heap a k = if a = R ∧ k < m then some (.arr e sz false []) else if a = d ∧ k = n then some (.box (owns R m)) else s.heap a k := fun a k => rfl
 have hold : ∀ a k o, ¬ (a = R ∧ k < m) → s1.heap a k = some o → ∃ o', s.heap a k = some o' ∧ (o.mut = true → o'.mut = true) := by
  intro a k o hc ho
  rw [hh1, if_neg hc] at ho
  split at ho
  ·rename_i hc2; obtain ⟨rfl, rfl⟩ := hc2; exact ⟨_, hb, fun _ => rfl⟩
  ·exact ⟨o, ho, id⟩
 have hM : ∀ b, OMut s1 J' b → OMut s J b := by
  rintro b ⟨a, k, o, v, h1, h2, h3, h4⟩
  by_cases hc : a = R ∧ k < m
  ·obtain ⟨rfl, hk⟩ := hc
   rw [hJn k hk] at h3
   injection h3 with h3
   subst h3
   cases h4
  ·obtain ⟨o', h5, h6⟩ := hold a k o hc h1
   exact ⟨a, k, o', v, h5, h6 h2, hJo _ _ _ hc h3, h4⟩
 refine ⟨J', ?_⟩
 refine hs.update (row := none) (s' := s1) (World.grownBy.refl w none) (Nat.le_refl _) (by simp) hJ rfl rfl (fun b _ hm => hM b hm) (fun a k o h1 => ?_) (fun d1 n1 d2 n2 o1 o2 v1 v2 g k1 k2 k3 k4 k5 k6 => ?_) (fun a k hle => ?_) (fun a k o v g k1 k2 k3 => ?_)
 ·rw [hh1] at h1
  split at h1
  ·rename_i hc
   obtain ⟨rfl, hk⟩ := hc
   injection h1 with h1
   subst h1
   exact .inr ⟨_, [], hJn k hk, ⟨by simp, .inl ⟨rfl, rfl⟩⟩, hp, by simp, by simp [flat], by simp [flat]⟩
  ·split at h1
   ·rename_i hc2
    obtain ⟨rfl, rfl⟩ := hc2
    injection h1 with h1
    subst h1
    obtain ⟨g, cur, t, q1, q2, q3, q4, q5⟩ := hs.obj a k _ hb
    refine .inr ⟨g, cur, t, hJ _ _ _ q1, q2, by rw [q3, owns_len, List.length_replicate], fun c hc => ?_, fun i c v hc hv => ?_⟩
    ·obtain ⟨i, hi⟩ := List.getElem?_of_mem hc
     rw [(owns_get hi).2]; rfl
    ·obtain ⟨hi, rfl⟩ := owns_get hc
     have hr := q5 i .nil v (by simp [hi]) hv
     cases hr
     exact .own _ _ _ _ _ _ (hJn i hi)
   ·exact .inl ⟨h1, by simp⟩
 ·by_cases c1 : d1 = R ∧ n1 < m
  ·obtain ⟨rfl, hk⟩ := c1
   rw [hJn n1 hk] at k3
   injection k3 with k3
   subst k3
   cases k5
  ·by_cases c2 : d2 = R ∧ n2 < m
   ·obtain ⟨rfl, hk⟩ := c2
    rw [hJn n2 hk] at k4
    injection k4 with k4
    subst k4
    cases k6
   ·obtain ⟨o1', h1, _⟩ := hold _ _ _ c1 k1
    obtain ⟨o2', h2, _⟩ := hold _ _ _ c2 k2
    exact hs.sep _ _ _ _ _ _ _ _ g h1 h2 (hJo _ _ _ c1 k3) (hJo _ _ _ c2 k4) k5 k6
 ·have hle0 : (if a = R then m else s.next a) ≤ k := hle
  have hc : ¬ (a = R ∧ k < m) := by
   rintro ⟨rfl, hk⟩
   rw [if_pos rfl] at hle0
   omega
  have hle' : s.next a ≤ k := by
   split at hle0
   ·rename_i e; subst e; omega
   ·exact hle0
  have := hs.nxt a k hle'
  have hc2 : ¬ (a = d ∧ k = n) := by rintro ⟨rfl, rfl⟩; rw [this.1] at hb; cases hb
  exact ⟨by rw [hh1, if_neg hc, if_neg hc2]; exact this.1, by simp [J', hc, this.2]⟩
 ·by_cases c1 : a = R ∧ k < m
  ·obtain ⟨rfl, hk⟩ := c1
   rw [hJn k hk] at k2
   injection k2 with k2
   subst k2
   cases k3
  ·obtain ⟨o', h1, _⟩ := hold _ _ _ c1 k1
   exact hs.sepX _ _ _ _ g h1 (hJo _ _ _ c1 k2) k3
def St.lowB (s : St) (t d n R : Nat) (rows : List (List PV)) : St :=
 { env := upd s.env t (.sl 1 (rows.map (.sl 1))), heap := fun a k => if a = d ∧ k = n then none else if a = R then none else s.heap a k, next := s.next, X := s.X }
theorem flat_sls (rows : List (List PV)) : flat (rows.map (PV.sl 1)) = rows.map (PV.sl 1) := by
 induction rows with
 | nil => rfl
 | cons x r ih =>
  have : flat (List.map (PV.sl 1) r) = List.map (PV.sl 1) r := ih
  simp only [flat, List.map_cons, List.flatMap_cons, PV.cells] at this ⊢
  rw [this]; rfl
theorem reb_lowB {t d n R m e : Nat} {rows : List (List PV)} (ht : s.env t = .bsl d n m) (htN : t < N) (hm : m = rows.length) (hb : s.heap d n = some (.box (owns R m))) (hr : ∀ (k : Nat) (r : List PV), rows[k]? = some r → s.heap R k = some (.arr e 1 false r)) : Reb N s (s.lowB t d n R rows) := by
 refine ⟨rfl, fun w0 Mv J a w hs => ?_⟩
 subst hm
 let s1 : St := s.lowB t d n R rows
 have hh1 : ∀ a k, s1.heap a k = if a = d ∧ k = n then none else if a = R then none else s.heap a k := fun a k => rfl
 have hold : ∀ a k o, s1.heap a k = some o → s.heap a k = some o ∧ ¬ (a = d ∧ k = n) ∧ a ≠ R := by
  intro a k o h
  rw [hh1] at h
  split at h
  ·cases h
  ·rename_i h1
   split at h
   ·cases h
   ·rename_i h2
    exact ⟨h, h1, h2⟩
 have hOM : ∀ g, OMut s1 J g → OMut s J g := by
  rintro g ⟨a, k, o, v, h1, h2, h3, h4⟩
  exact ⟨a, k, o, v, (hold _ _ _ h1).1, h2, h3, h4⟩
 have hM : ∀ g, Mut s1 J g → Mut s J g := fun g hg => hg.imp id (hOM g)
 have hfree : ∀ a k o v g, s.heap a k = some o → (a = d ∧ k = n ∨ a = R) → J a k = some v → blockOf v = some g → ¬ Mut s1 J g := by
  rintro a k o v g ho hc hv hg (hm | ⟨a', k', o', v', h1, h2, h3, h4⟩)
  ·exact hs.sepX _ _ _ _ g ho hv hg hm
  ·obtain ⟨h5, h6, h7⟩ := hold _ _ _ h1
   obtain ⟨rfl, rfl⟩ := hs.sep _ _ _ _ _ _ _ _ g ho h5 hv h3 hg h4
   rcases hc with hc | hc
   ·exact h6 hc
   ·exact h7 hc
 have hv := hs.env t htN
 rw [ht] at hv
 obtain ⟨g, cur, ty, q1, q2, q3, q4, q5⟩ := hs.obj d n _ hb
 rw [owns_len] at q3
 have hval : ∃ cap, a.tmps.getD t Go.undef = .slice (some ⟨g, 0, none⟩) rows.length cap ∧ rows.length ≤ cap := by
  generalize a.tmps.getD t Go.undef = u at hv
  cases hv with
  | bsl _ _ _ _ g' cap hJ hc =>
   rw [q1] at hJ
   have hg : g = g' := by injection hJ with e; injection e with e; injection e with e; injection e
   subst hg
   exact ⟨cap, rfl, hc⟩
 obtain ⟨cap, hval, hcap⟩ := hval
 have hnew : Rep w (Mut s1 J) J (.sl 1 (rows.map (.sl 1))) (a.tmps.getD t Go.undef) := by
  rw [hval]
  have hl : rows.length = (rows.map (PV.sl 1)).length := by simp
  rw [hl]
  refine .sl _ _ _ _ _ (fun k => cur.getD k Go.undef) (by decide) (fun x hx => ?_) (fun c hc => ?_) (by simpa using hcap) (fun _ => hfree d n _ _ g hb (.inl ⟨rfl, rfl⟩) q1 rfl) (fun k c hk => ?_) (fun k c hk => ?_)
  ·obtain ⟨y, _, rfl⟩ := List.mem_map.1 hx; rfl
  ·rw [flat_sls] at hc
   obtain ⟨y, _, rfl⟩ := List.mem_map.1 hc; rfl
  all_goals
   rw [flat_sls, List.getElem?_map, Option.map_eq_some_iff] at hk
   obtain ⟨r, hkr, rfl⟩ := hk
   have hlt : k < rows.length := (List.getElem?_eq_some_iff.1 hkr).1
   have hlc : k < cur.size := by rw [q3]; exact hlt
  ·rw [add_flat, cell_of_row w g _ cur ty (0, 0) q2]
   simp [hlc]
  ·have hrep := q5 k (.own R k) cur[k] (by simp [owns, hlt]) (Array.getElem?_eq_getElem hlc)
   rw [show cur.getD k Go.undef = cur[k] by simp [hlc]]
   generalize cur[k] = u at hrep ⊢
   have hob := hr k r hkr
   obtain ⟨v, ys, hJ, hown, hp, hw, ho, hrr⟩ := hs.obj R k _ hob
   rcases own_val hrep hJ with hvu | ⟨ab, rfl, rfl⟩
   case inr => exact rep_empty hown hp
   subst hvu
   obtain ⟨A, c, hvf⟩ := own_form hown
   refine rep_of_row hown hp hw ho (fun k c y hc hy => (hrr k c y hc hy).mono (fun _ _ _ => rfl) (fun g _ hg => hM g hg) (fun _ _ _ h => h)) (fun g hg => ?_)
   exact hfree R k _ _ g hob (.inr rfl) hJ (by rw [blockOf_own hvf]; exact hg)
 refine ⟨J, hs.size, hs.defers, fun t' ht' => ?_, fun d1 n1 o ho => ?_, fun d1 n1 d2 n2 o1 o2 v1 v2 g h1 h2 => hs.sep _ _ _ _ _ _ _ _ g (hold _ _ _ h1).1 (hold _ _ _ h2).1, fun d1 n1 hle => ?_, hs.frame, fun g hg => hs.mutb g (hOM g hg), hs.xlt, fun d1 n1 o v g h1 => hs.sepX _ _ _ _ g (hold _ _ _ h1).1, hs.ext, hs.grow, hs.os, hs.tape, hs.output, hs.drawn⟩
 ·show Rep w (Mut s1 J) J (upd s.env t _ t') _
  unfold upd
  split
  ·rename_i e; subst e; exact hnew
  ·exact (hs.env t' ht').mono (fun _ _ _ => rfl) (fun g _ hg => hM g hg) (fun _ _ _ h => h)
 ·obtain ⟨h1, h2, h3⟩ := hold _ _ _ ho
  exact (hs.obj _ _ _ h1).kept (fun _ _ _ => rfl) (fun g _ hg => hM g hg) (fun _ _ _ h => h) (fun _ _ _ _ => rfl)
 ·have := hs.nxt d1 n1 hle
  refine ⟨?_, this.2⟩
  show s1.heap d1 n1 = none
  rw [hh1]
  split
  ·rfl
  ·split
   ·rfl
   ·exact this.1
theorem idxOf_get {p : Nat × Nat} : ∀ {l : Nm} {j k : Nat}, l.Nodup → l[j]? = some p → idxOf p l k = some (k + j)
 | [], j, k, _, h => by simp at h
 | q :: r, 0, k, _, h => by simp at h; subst h; simp [idxOf]
 | q :: r, j + 1, k, hn, h => by
  have h1 : r[j]? = some p := by simpa using h
  have hne : p ≠ q := by
   rintro rfl
   exact (List.nodup_cons.1 hn).1 (List.mem_of_getElem? h1)
  simp only [idxOf, if_neg hne]
  rw [idxOf_get (List.nodup_cons.1 hn).2 h1]
  congr 1; omega
theorem mapO_map {α β γ : Type} {f : β → Option γ} {g : α → β} {h : α → γ} : ∀ {l : List α}, (∀ k ∈ l, f (g k) = some (h k)) → mapO f (l.map g) = some (l.map h)
 | [], _ => rfl
 | x :: r, hk => by
  simp only [List.map_cons, mapO, hk x List.mem_cons_self, mapO_map (l := r) fun k hk' => hk k (List.mem_cons_of_mem _ hk')]
def robj (R e : Nat) : Nat → List (List PV) → List ((Nat × Nat) × AObj)
 | _, [] => []
 | k, r :: rs => ((R, k), .arr e 1 false r) :: robj R e (k + 1) rs
theorem robj_names (R e : Nat) : ∀ (k : Nat) (l : List (List PV)), (robj R e k l).map (·.1) = (List.range' k l.length).map (Prod.mk R)
 | _, [] => rfl
 | k, r :: rs => by simp only [robj, List.map_cons, robj_names R e (k + 1) rs, List.length_cons, List.range'_succ]
theorem robj_get (R e : Nat) : ∀ {k : Nat} {l : List (List PV)} {j : Nat} {q : (Nat × Nat) × AObj}, (robj R e k l)[j]? = some q → ∃ r, l[j]? = some r ∧ q = ((R, k + j), .arr e 1 false r)
 | k, [], j, q, h => by simp [robj] at h
 | k, r :: rs, 0, q, h => by simp [robj] at h; exact ⟨r, rfl, h.symm⟩
 | k, r :: rs, j + 1, q, h => by
  obtain ⟨x, h1, h2⟩ := robj_get R e (k := k + 1) (l := rs) (j := j) (q := q) (by simpa [robj] using h)
  exact ⟨x, by simpa using h1, by rw [h2, show k + 1 + j = k + (j + 1) by omega]⟩
theorem robj_len (R e : Nat) : ∀ (k : Nat) (l : List (List PV)), (robj R e k l).length = l.length
 | _, [] => rfl
 | k, r :: rs => by simp [robj, robj_len R e (k + 1) rs]
theorem assocO_robj (R e : Nat) : ∀ {j : Nat} {l : List (List PV)} {k : Nat}, j ≤ k → assocO (robj R e j l) R k = (l[k - j]?).map (fun r => .arr e 1 false r)
 | j, [], k, _ => by simp [robj, assocO]
 | j, r :: rs, k, h => by
  simp only [robj, assocO]
  by_cases hk : k = j
  ·subst hk; simp
  ·have : (R == R && k == j) = false := by simp [hk]
   rw [this, cond_false, assocO_robj R e (j := j + 1) (by omega), show k - j = (k - (j + 1)) + 1 by omega]
   simp
section
variable {tl : List (Nat × PV)} {ex : List ((Nat × Nat) × AObj)} {bx : (Nat × Nat) × AObj} {nx : List (Nat × Nat)} {D R e : Nat} {rows : List (List PV)} {nmf : Nat → Nat × Nat}
theorem reb_rows (ex : List ((Nat × Nat) × AObj)) (hex : ∀ q ∈ ex, s.heap q.1.1 q.1.2 = some q.2 ∧ (∀ nm nn, renO s nm nn q.2 = some q.2) ∧ q.1.1 ≠ R ∧ q.1 ≠ (D, 0) ∧ ∀ k, nmf k ≠ q.1) (hexn : (ex.map (·.1)).Nodup) (hDR : D ≠ R) (hD0 : D ≠ 0) (hR0 : R ≠ 0)
  (hbox : s.heap D 0 = some (.box ((List.range rows.length).map fun k => .own (nmf k).1 (nmf k).2))) (hrow : ∀ (k : Nat) (r : List PV), rows[k]? = some r → s.heap (nmf k).1 (nmf k).2 = some (.arr e 1 false r)) (hinj : ∀ a b, a < rows.length → b < rows.length → nmf a = nmf b → a = b) (hsite : ∀ k, nmf k ≠ (D, 0))
  (henv : ∀ p ∈ tl, ren1 s (ex.map (·.1) ++ (D, 0) :: (List.range rows.length).map nmf) (ex.map (·.1) ++ (D, 0) :: (List.range' 0 rows.length).map (Prod.mk R)) (s.env p.1) = some p.2)
  (hnx : ∀ q ∈ ex, q.1.2 < assocN nx q.1.1) (hnxD : 0 < assocN nx D) (hnxR : rows.length ≤ assocN nx R) (hnx0 : s.next 0 ≤ assocN nx 0) :
  Reb N s (lit tl (ex ++ ((D, 0), .box (owns R rows.length)) :: robj R e 0 rows) nx s.X) := by
 have hnn : (ex ++ ((D, 0), AObj.box (owns R rows.length)) :: robj R e 0 rows).map (·.1) = ex.map (·.1) ++ (D, 0) :: (List.range' 0 rows.length).map (Prod.mk R) := by
  simp [robj_names]
 have hnmd : (ex.map (·.1) ++ (D, 0) :: (List.range rows.length).map nmf).Nodup := by
  rw [List.nodup_append]
  refine ⟨hexn, List.nodup_cons.2 ⟨fun hm => ?_, ?_⟩, fun a ha b hb => ?_⟩
  ·obtain ⟨k, _, hk⟩ := List.mem_map.1 hm
   exact hsite k hk
  ·rw [List.nodup_iff_pairwise_ne, List.pairwise_map]
   refine List.Pairwise.imp_of_mem ?_ (List.nodup_iff_pairwise_ne.1 List.nodup_range)
   intro x y hx hy hne e'
   exact hne (hinj x y (by simpa using hx) (by simpa using hy) e')
  ·obtain ⟨q, hq, rfl⟩ := List.mem_map.1 ha
   obtain ⟨_, _, _, h4, h5⟩ := hex q hq
   rcases List.mem_cons.1 hb with rfl | hb
   ·exact h4
   ·obtain ⟨k, _, rfl⟩ := List.mem_map.1 hb
    exact fun e' => h5 k e'.symm
 have hnnd : (ex.map (·.1) ++ (D, 0) :: (List.range' 0 rows.length).map (Prod.mk R)).Nodup := by
  rw [List.nodup_append]
  refine ⟨hexn, List.nodup_cons.2 ⟨fun hm => ?_, ?_⟩, fun a ha b hb => ?_⟩
  ·obtain ⟨k, _, hk⟩ := List.mem_map.1 hm
   injection hk with h1 h2
   exact hDR h1.symm
  ·rw [List.nodup_iff_pairwise_ne, List.pairwise_map]
   refine List.Pairwise.imp_of_mem ?_ (List.nodup_iff_pairwise_ne.1 List.nodup_range')
   intro x y hx hy hne e'
   injection e' with e1 e2
   exact hne e2
  ·obtain ⟨q, hq, rfl⟩ := List.mem_map.1 ha
   obtain ⟨_, _, h3, h4, h5⟩ := hex q hq
   rcases List.mem_cons.1 hb with rfl | hb
   ·exact h4
   ·obtain ⟨k, _, rfl⟩ := List.mem_map.1 hb
    exact fun e' => h3 (by rw [e'])
 refine reb_of tl (ex.map (·.1) ++ (D, 0) :: (List.range rows.length).map nmf) _ nx hnmd (by rw [hnn]; exact hnnd) (by simp [robj_len]) (by rw [hnn]; exact henv) (fun k p q hp hq => ?_) (fun k p q hp hq h0 => ?_) (fun q hq => ?_) hnx0
 ·rw [hnn]
  by_cases h1 : k < ex.length
  ·rw [List.getElem?_append_left (by simpa using h1)] at hp
   rw [List.getElem?_append_left h1] at hq
   rw [List.getElem?_map, hq] at hp
   injection hp with hp
   subst hp
   obtain ⟨h2, h3, _⟩ := hex q (List.mem_of_getElem? hq)
   exact ⟨_, h2, h3 _ _⟩
  ·rw [List.getElem?_append_right (by simpa using h1), List.length_map] at hp
   rw [List.getElem?_append_right (by omega)] at hq
   cases hk : k - ex.length with
   | zero =>
    rw [hk] at hp hq
    simp at hp hq
    subst hp hq
    refine ⟨_, hbox, ?_⟩
    simp only [renO]
    rw [mapO_map (h := fun k => PV.own R k) (fun k hk => ?_)]
    ·rfl
    ·have hkl : k < rows.length := by simpa using hk
     simp only [renC]
     rw [idxOf_get (j := ex.length + 1 + k) hnmd (by rw [List.getElem?_append_right (by simp; omega)]; simp [show ex.length + 1 + k - ex.length = k + 1 by omega, hkl])]
     simp only [Nat.zero_add]
     rw [List.getElem?_append_right (by simp; omega)]
     simp [show ex.length + 1 + k - ex.length = k + 1 by omega, hkl]
   | succ j =>
    rw [hk] at hp hq
    rw [List.getElem?_cons_succ] at hp hq
    obtain ⟨r, hr, rfl⟩ := robj_get R e hq
    have hj : j < rows.length := (List.getElem?_eq_some_iff.1 hr).1
    rw [List.getElem?_map, List.getElem?_range hj] at hp
    injection hp with hp
    subst hp
    exact ⟨_, hrow j r hr, rfl⟩
 ·by_cases h1 : k < ex.length
  ·rw [List.getElem?_append_left (by simpa using h1)] at hp
   rw [List.getElem?_append_left h1] at hq
   rw [List.getElem?_map, hq] at hp
   injection hp with hp
   exact hp.symm
  ·rw [List.getElem?_append_right (by omega)] at hq
   cases hk : k - ex.length with
   | zero => rw [hk] at hq; simp at hq; subst hq; exact absurd h0 hD0
   | succ j =>
    rw [hk, List.getElem?_cons_succ] at hq
    obtain ⟨r, hr, rfl⟩ := robj_get R e hq
    exact absurd h0 hR0
 ·rcases List.mem_append.1 hq with hq | hq
  ·exact hnx q hq
  ·rcases List.mem_cons.1 hq with rfl | hq
   ·exact hnxD
   ·obtain ⟨j, hj⟩ := List.getElem?_of_mem hq
    obtain ⟨r, hr, rfl⟩ := robj_get R e hj
    have := (List.getElem?_eq_some_iff.1 hr).1
    show 0 + j < assocN nx R
    omega
end
end Go.Proofs.Ytmompdklolomfaa.Ab
