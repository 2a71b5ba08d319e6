/- Chapter 20: what stays is young enough, and has no more bytes than may be, or is one block; whoever goes is too old, or the oldest. -/
import Derived.Test.YtejimiedoibkcaaXRBounds
import Derived.Test.YtejimiedoibkcaaPRet
import Derived.Test.YtejimiedoibkcaaPUptoR
namespace Go.Proofs.Ytejimiedoibkcaa.Ab
open Go Go.RowKit
set_option linter.unusedVariables false
set_option linter.unusedSimpArgs false
/-! ### no two of one number -/
def partB (l : List Block) : Prop := l.Pairwise fun a b => a.Number ≠ b.Number
def noB (n : Int) (b : Block) : Bool := !decide (b.Number = n)
theorem partB.ix {l : List Block} (h : partB l) {i j : Nat} (hi : i < l.length) (hj : j < l.length) (e : l[i].Number = l[j].Number) : i = j := by
  rcases Nat.lt_trichotomy i j with c | c | c
  · exact absurd e (List.pairwise_iff_getElem.1 h i j hi hj c)
  · exact c
  · exact absurd e.symm (List.pairwise_iff_getElem.1 h j i hj hi c)
theorem partB.eq {l : List Block} (h : partB l) {a b : Block} (ha : a ∈ l) (hb : b ∈ l) (e : a.Number = b.Number) : a = b := by
  obtain ⟨i, hi, rfl⟩ := List.getElem_of_mem ha
  obtain ⟨j, hj, rfl⟩ := List.getElem_of_mem hb
  have := h.ix hi hj e
  subst this; rfl
theorem partB.filt {l : List Block} (h : partB l) (p : Block → Bool) : partB (l.filter p) := List.Pairwise.filter p h
theorem partB.cut {l : List Block} (h : partB l) {k : Nat} (hk : k < l.length) : l.filter (noB l[k].Number) = cutAt l k := by
  have e : l = l.take k ++ l[k] :: l.drop (k + 1) := by rw [← List.drop_eq_getElem_cons hk, List.take_append_drop]
  have h1 : (l.take k).filter (noB l[k].Number) = l.take k := List.filter_eq_self.2 fun b hb => by
    obtain ⟨i, hi, rfl⟩ := List.getElem_of_mem hb
    have hi2 : i < k := by rw [List.length_take] at hi; omega
    rw [List.getElem_take, noB, dec_f fun q => ?_]; rfl
    have := h.ix (by omega) hk q; omega
  have h2 : (l.drop (k + 1)).filter (noB l[k].Number) = l.drop (k + 1) := List.filter_eq_self.2 fun b hb => by
    obtain ⟨i, hi, rfl⟩ := List.getElem_of_mem hb
    rw [List.length_drop] at hi
    rw [List.getElem_drop, noB, dec_f fun q => ?_]; rfl
    have := h.ix (by omega) hk q; omega
  have h3 : noB l[k].Number l[k] = false := by simp [noB]
  calc l.filter (noB l[k].Number) = (l.take k ++ l[k] :: l.drop (k + 1)).filter (noB l[k].Number) := by rw [← e]
    _ = cutAt l k := by rw [List.filter_append, List.filter_cons, h3, h1, h2]; rfl
theorem filt_comm (p q : Block → Bool) (l : List Block) : (l.filter q).filter p = (l.filter p).filter q := by
  rw [List.filter_filter, List.filter_filter]
  congr 1
  funext a
  exact Bool.and_comm _ _
/-- what is still to go -/
def restB (now keep m : Int) (l : List Block) : List Block := l.filter (oldB now keep) ++ goL m (l.filter (newB now keep)).length (l.filter (newB now keep))
/-- the next one that goes: where it stands, why, and what is to go behind it -/
theorem rest_next {now keep m : Int} {l rest : List Block} {b : Block} (h : partB l) (hr : restB now keep m l = b :: rest) :
    ∃ (k : Nat) (hk : k < l.length), l[k] = b ∧ (oldB now keep b = true ∨ ((∀ x ∈ l, b.Born ≤ x.Born) ∧ m < totB l ∧ 1 < l.length)) ∧ restB now keep m (l.filter (noB b.Number)) = rest := by
  cases ho : l.filter (oldB now keep) with
  | cons o O =>
    rw [restB, ho, List.cons_append] at hr
    injection hr with e1 e2
    subst e1
    have hm : o ∈ l.filter (oldB now keep) := by rw [ho]; exact List.mem_cons_self
    obtain ⟨hol, hold⟩ := List.mem_filter.1 hm
    obtain ⟨k, hk, hkb⟩ := List.getElem_of_mem hol
    refine ⟨k, hk, hkb, .inl hold, ?_⟩
    have hO : ∀ x ∈ O, x.Number ≠ o.Number := fun x hx => by
      have := h.filt (oldB now keep)
      rw [ho] at this
      exact ((List.pairwise_cons.1 this).1 x hx).symm
    have f1 : (l.filter (noB o.Number)).filter (oldB now keep) = O := by
      rw [filt_comm, ho, List.filter_cons, show noB o.Number o = false by simp [noB], if_neg (by decide)]
      exact List.filter_eq_self.2 fun x hx => by rw [noB, dec_f (hO x hx)]; rfl
    have f2 : (l.filter (noB o.Number)).filter (newB now keep) = l.filter (newB now keep) := by
      rw [filt_comm]
      refine List.filter_eq_self.2 fun x hx => ?_
      obtain ⟨hx1, hx2⟩ := List.mem_filter.1 hx
      rw [noB, dec_f fun q => ?_]; rfl
      have := h.eq hx1 hol q
      rw [this, newB, hold] at hx2
      cases hx2
    rw [restB, f1, f2, e2]
  | nil =>
    have hn : l.filter (newB now keep) = l := List.filter_eq_self.2 fun x hx => by
      have := List.filter_eq_nil_iff.1 ho x hx
      rw [newB, Bool.not_eq_true', ← Bool.not_eq_true]; exact this
    rw [restB, ho, hn, List.nil_append] at hr
    by_cases c : 1 < l.length ∧ m < totB l
    · have hm := minF_lt (l := l) (by omega) l.length (Nat.le_refl _)
      rw [goL_go c] at hr
      injection hr with e1 e2
      refine ⟨_, hm, e1, .inr ⟨fun x hx => ?_, c.2, c.1⟩, ?_⟩
      · obtain ⟨j, hj, rfl⟩ := List.getElem_of_mem hx
        rw [← e1]
        exact minF_le (by omega) l.length (Nat.le_refl _) j hj hj
      · have hc : l.filter (noB b.Number) = cutAt l (minF l l.length) := by rw [← e1]; exact h.cut hm
        have o1 : (l.filter (noB b.Number)).filter (oldB now keep) = [] := by rw [filt_comm, ho]; rfl
        have o2 : (l.filter (noB b.Number)).filter (newB now keep) = l.filter (noB b.Number) := by rw [filt_comm, hn]
        rw [restB, o1, o2, hc, List.nil_append, e2]
    · rw [goL_no c] at hr; cases hr
theorem rest_end {now keep m : Int} {l : List Block} (hr : restB now keep m l = []) : (∀ x ∈ l, oldB now keep x = false) ∧ (l.length < 2 ∨ totB l ≤ m) := by
  have ho : l.filter (oldB now keep) = [] := (List.append_eq_nil_iff.1 hr).1
  have h1 : ∀ x ∈ l, oldB now keep x = false := fun x hx => by
    have := List.filter_eq_nil_iff.1 ho x hx
    simpa using this
  refine ⟨h1, ?_⟩
  have hn : l.filter (newB now keep) = l := List.filter_eq_self.2 fun x hx => by rw [newB, h1 x hx]; rfl
  have hg := (List.append_eq_nil_iff.1 hr).2
  rw [hn] at hg
  by_cases c : 1 < l.length ∧ m < totB l
  · rw [goL_go c] at hg; cases hg
  · by_cases c2 : l.length < 2
    · exact .inl c2
    · exact .inr (by
        by_cases c3 : totB l ≤ m
        · exact c3
        · exact absurd ⟨by omega, by omega⟩ c)
/-! ### the law -/
def spoilU (l : List Block) (i : Nat) : Bool := match l[i]? with
  | none => false
  | some b => decide (b.Born < 0) || (decide ((1099511627776 : Int) < b.Born) || (l.take i).any (fun c => decide (c.Number = b.Number)))
theorem inner_bounds (l : List Block) (hl : l.length ≤ 1000) (k : Nat) (hk : k < l.length) : gleaninglaw20_RetireBounds_k3 l (k : Int) = some (if (l.take k).any (fun c => decide (c.Number = l[k].Number)) = true then .inr (.inr true) else .inl ((k + 1 : Nat) : Int)) := by
  rw [gleaninglaw20_RetireBounds_k3]
  have := loop_write (body := fun (q : Int) => gleaninglaw20_RetireBounds_l4 l (k : Int) q) (l := l.take k) (fun c => decide (c.Number = l[k].Number)) (fun j => (j : Int)) (.inl ((k + 1 : Nat) : Int)) (.inr (.inr true)) (by simp; omega) (fun j hj hb hj2 => by
      have hjk : j < k := by simp at hj; omega
      have hjl : j < l.length := by omega
      rw [List.getElem_take] at hj2
      simp only [gleaninglaw20_RetireBounds_l4, dec_t (by omega : (j : Int) < (k : Int)), if_true, gd_pos (by omega : (0 : Int) ≤ (j : Int)), gd_pos (by omega : (0 : Int) ≤ (k : Int)), Int.toNat_natCast, List.getElem?_eq_getElem hjl, List.getElem?_eq_getElem hk, Option.bind_some, show (l[j].Number == l[k].Number) = false from by simpa using hj2, Bool.false_eq_true, if_false, ksuc (by omega : j < 1099511627776)]) (fun j hj hb hj2 => by
      have hjk : j < k := by simp at hj; omega
      have hjl : j < l.length := by omega
      rw [List.getElem_take] at hj2
      simp only [gleaninglaw20_RetireBounds_l4, dec_t (by omega : (j : Int) < (k : Int)), if_true, gd_pos (by omega : (0 : Int) ≤ (j : Int)), gd_pos (by omega : (0 : Int) ≤ (k : Int)), Int.toNat_natCast, List.getElem?_eq_getElem hjl, List.getElem?_eq_getElem hk, Option.bind_some, show (l[j].Number == l[k].Number) = true from by simpa using hj2]) (fun hb => by
      have : (l.take k).length = k := by simp; omega
      simp only [this, gleaninglaw20_RetireBounds_l4, dec_f (by omega : ¬ (k : Int) < (k : Int)), Bool.false_eq_true, if_false, ksuc (by omega : k < 1099511627776)])
  exact this
theorem bounds_step (l : List Block) (hl : l.length ≤ 1000) (k : Nat) (hk : k < l.length) : gleaninglaw20_RetireBounds_l2 l (k : Int) = if spoilU l k = true then some (.inr (.inr true)) else some (.inl ((k + 1 : Nat) : Int)) := by
  have hin := inner_bounds l hl k hk
  simp only [gleaninglaw20_RetireBounds_l2, dec_t (by omega : (k : Int) < (l.length : Int)), if_true, gd_pos (by omega : (0 : Int) ≤ (k : Int)), Int.toNat_natCast, List.getElem?_eq_getElem hk, Option.bind_some, spoilU]
  by_cases c1 : l[k].Born < 0
  · simp [c1]
  by_cases c2 : 1099511627776 < l[k].Born
  · simp [c1, c2]
  simp only [dec_f c1, dec_f c2, Bool.false_eq_true, if_false, Bool.false_or, Option.bind_some, Sum.elim_inl, hin]
  split <;> rfl
/-- one round of the law: the one that goes is found, and taken out -/
theorem out_loop (X : List Int) (left : List Block) (hl : left.length ≤ 1000) (h : partB left) (i : Nat) (hi : i < X.length) (p : Nat) (hp : p < left.length) (hx : left[p].Number = X[i]) :
    loopN (fun (s : List Block × Int × Int) => gleaninglaw20_RetireBounds_l8 X left (i : Int) s.1 s.2.1 s.2.2) Fu ([], -1, 0) = some (left.filter (noB X[i]), (p : Int)) := by
  refine loop_list (l := left) (fun k r s => s = ((left.take k).filter (noB X[i]), (if p < k then (p : Int) else -1), (k : Int)) ∧ r = (left.filter (noB X[i]), (p : Int))) (by omega) ?_ ?_ ⟨by simp, rfl⟩
  · rintro k hk r s ⟨rfl, rfl⟩
    refine .inl ⟨((left.take (k + 1)).filter (noB X[i]), (if p < k + 1 then (p : Int) else -1), ((k + 1 : Nat) : Int)), ?_, rfl, rfl⟩
    have f1 := filt_le (noB X[i]) left k
    simp only [gleaninglaw20_RetireBounds_l8, dec_t (by omega : (k : Int) < (left.length : Int)), if_true, gd_pos (by omega : (0 : Int) ≤ (k : Int)), gd_pos (by omega : (0 : Int) ≤ (i : Int)), Int.toNat_natCast, List.getElem?_eq_getElem hk, List.getElem?_eq_getElem hi, Option.bind_some, ksuc (by omega : k < 1099511627776), filt_suc _ hk]
    by_cases e : left[k].Number = X[i]
    · have : k = p := h.ix hk hp (by rw [e, hx])
      subst this
      rw [show (left[k].Number == X[i]) = true from by simpa using e, ite_tt, show noB X[i] left[k] = false by simp [noB, e]]
      simp
    · have hne : k ≠ p := fun q => e (by subst q; exact hx)
      rw [show (left[k].Number == X[i]) = false from by simpa using e, ite_ff, gd_pos (by rw [List.length_append]; simp only [List.length_cons, List.length_nil]; omega), show noB X[i] left[k] = true by simp [noB, e]]
      by_cases c : p < k
      · have e1 : (if p < k + 1 then (p : Int) else -1) = (p : Int) := if_pos (by omega)
        rw [if_pos c, e1]; rfl
      · have e1 : (if p < k + 1 then (p : Int) else -1) = -1 := if_neg (by omega)
        rw [if_neg c, e1]; rfl
  · rintro r s ⟨rfl, rfl⟩
    simp only [gleaninglaw20_RetireBounds_l8, dec_f (by omega : ¬ (left.length : Int) < (left.length : Int)), Bool.false_eq_true, if_false, List.take_length, if_pos hp]
theorem old_loop (left : List Block) (hl : left.length ≤ 1000) (p : Nat) (hp : p < left.length) :
    loopN (fun (s : Bool × Int) => gleaninglaw20_RetireBounds_l10 left (p : Int) s.1 s.2) Fu (true, 0) = some (left.all fun b => decide (left[p].Born ≤ b.Born)) := by
  refine loop_list (l := left) (fun k r s => s = ((left.take k).all (fun b => decide (left[p].Born ≤ b.Born)), (k : Int)) ∧ r = left.all fun b => decide (left[p].Born ≤ b.Born)) (by omega) ?_ ?_ ⟨by simp, rfl⟩
  · rintro k hk r s ⟨rfl, rfl⟩
    refine .inl ⟨((left.take (k + 1)).all (fun b => decide (left[p].Born ≤ b.Born)), ((k + 1 : Nat) : Int)), ?_, rfl, rfl⟩
    simp only [gleaninglaw20_RetireBounds_l10, dec_t (by omega : (k : Int) < (left.length : Int)), if_true, gd_pos (by omega : (0 : Int) ≤ (k : Int)), gd_pos (by omega : (0 : Int) ≤ (p : Int)), Int.toNat_natCast, List.getElem?_eq_getElem hk, List.getElem?_eq_getElem hp, Option.bind_some, ksuc (by omega : k < 1099511627776)]
    rw [List.take_succ_eq_append_getElem hk, List.all_append]
    cases (left.take k).all fun b => decide (left[p].Born ≤ b.Born) <;> simp
  · rintro r s ⟨rfl, rfl⟩
    simp only [gleaninglaw20_RetireBounds_l10, dec_f (by omega : ¬ (left.length : Int) < (left.length : Int)), Bool.false_eq_true, if_false, List.take_length]
theorem retireBounds_true (l : List Block) (now keep budget : Int) (hw : l.length ≤ maxLen ∧ ∀ y ∈ l, Block.wf y) (hn : inI .i64 now) (_ : inI .i64 keep) (_ : inI .i64 budget) (hb : (l.flatMap (·.Episodes)).length ≤ 1048576) : gleaninglaw20_RetireBounds l now keep budget = some true := by
  obtain ⟨f1, hf1, g1⟩ := few19_spec l hb
  simp only [gleaninglaw20_RetireBounds, alive20, Option.bind_some, Bool.not_true, Bool.false_eq_true, if_false, hf1]
  cases f1 with
  | false => rfl
  | true =>
  have hf := g1 rfl
  have h1 := hf.len
  have ok := okB_of hw.2 hf
  by_cases a1 : now < 0
  · simp [a1]
  by_cases a2 : 1099511627776 < now
  · simp [a1, a2]
  by_cases a3 : keep < 0
  · simp [a1, a2, a3]
  by_cases a4 : 1073741824 < keep
  · simp [a1, a2, a3, a4]
  simp only [Bool.not_true, Bool.false_eq_true, if_false, dec_f a1, dec_f a2, dec_f a3, dec_f a4, Option.bind_some, Sum.elim_inl]
  rw [gleaninglaw20_RetireBounds_k0]
  have hloop := loop_write (body := fun (s : Int) => gleaninglaw20_RetireBounds_l2 l s) (l := List.range l.length) (spoilU l) (fun k => (k : Int)) (.inl ()) (.inr true) (by simp; omega) (fun k hk hb hk2 => by
      rw [List.getElem_range] at hk2
      rw [bounds_step l (by omega) k (by simpa using hk), hk2]; rfl) (fun k hk hb hk2 => by
      rw [List.getElem_range] at hk2
      rw [bounds_step l (by omega) k (by simpa using hk), hk2]; rfl) (fun hb => by
      simp only [List.length_range, gleaninglaw20_RetireBounds_l2, dec_f (by omega : ¬ (l.length : Int) < (l.length : Int)), Bool.false_eq_true, if_false])
  refine (congrArg (fun o => Option.bind o _) hloop).trans ?_
  cases c : (List.range l.length).any (spoilU l) with
  | true => rfl
  | false =>
  have hgood : ∀ (i : Nat) (hi : i < l.length), 0 ≤ l[i].Born ∧ l[i].Born ≤ 1099511627776 ∧ ∀ (j : Nat) (hj : j < i), l[j].Number ≠ l[i].Number := fun i hi => by
    have := List.any_eq_false.1 c i (List.mem_range.2 hi)
    simp only [spoilU, List.getElem?_eq_getElem hi, Bool.or_eq_true, decide_eq_true_eq, not_or] at this
    refine ⟨by omega, by omega, fun j hj q => this.2.2 ?_⟩
    refine List.any_eq_true.2 ⟨l[j], ?_, dec_t q⟩
    have hjt : j < (l.take i).length := by rw [List.length_take]; omega
    have := List.getElem_mem hjt
    rwa [List.getElem_take] at this
  have hpart : partB l := List.pairwise_iff_getElem.2 fun i j hi hj hij => (hgood j hj).2.2 i hij
  have hold : ∀ b ∈ l, oldB now keep b = decide (keep < now - b.Born) ∧ IntKind.i64.wrap (now - b.Born) = now - b.Born := fun b hb => by
    obtain ⟨i, hi, rfl⟩ := List.getElem_of_mem hb
    have := hgood i hi
    exact ⟨by rw [oldB, lessR_in (by omega) (by omega) this.1 this.2.1], w64 (by omega) (by omega)⟩
  have hX : chooseB l now keep budget = (restB now keep budget l).map (·.Number) := rfl
  have hlen : (chooseB l now keep budget).length ≤ 1000000 := by
    have h2 : ∀ (n : Nat) (z : List Block), (goL budget n z).length ≤ n := by
      intro n
      induction n with
      | zero => intro z; simp [goL]
      | succ n ih =>
        intro z
        rw [goL]
        split
        · split
          · have := ih (cutAt z (minF z z.length)); rw [List.length_cons]; omega
          · simp
        · simp
    have h3 := h2 (l.filter (newB now keep)).length (l.filter (newB now keep))
    have h4 := List.length_filter_le (newB now keep) l
    have h5 := List.length_filter_le (oldB now keep) l
    rw [chooseB, List.length_map, List.length_append]; omega
  simp only [Bool.false_eq_true, if_false, Option.bind_some, Sum.elim_inl, gleaninglaw20_RetireBounds_k1, choose_spec l now _ _ (by omega) ok]
  generalize chooseB l now keep budget = X at hX hlen ⊢
  have h6 : ∃ r, loopN (fun (s : List Block × Int) => gleaninglaw20_RetireBounds_l6 now keep budget X s.1 s.2) Fu (l, 0) = some r ∧ ∃ left, r = .inl left ∧ left.length ≤ l.length ∧ (∀ b ∈ left, b ∈ l) ∧ restB now keep budget left = [] := by
    refine loop_inv (fun n s => ∃ (left : List Block) (i : Nat), i ≤ X.length ∧ n = X.length - i ∧ s = (left, (i : Int)) ∧ left.length ≤ l.length ∧ (∀ b ∈ left, b ∈ l) ∧ partB left ∧ X.drop i = (restB now keep budget left).map (·.Number)) _ ?_ Fu X.length (l, 0) ⟨l, 0, by omega, by omega, rfl, Nat.le_refl _, fun _ h => h, hpart, hX⟩ (by rw [fu_eq]; omega)
    rintro n s ⟨left, i, hi, rfl, rfl, hll, hsub, hu, hd⟩
    by_cases e : i = X.length
    · refine .inr ⟨.inl left, ?_, left, rfl, hll, hsub, ?_⟩
      · subst e
        simp only [gleaninglaw20_RetireBounds_l6, dec_f (by omega : ¬ (X.length : Int) < (X.length : Int)), Bool.false_eq_true, if_false]
      · rw [e, List.drop_length] at hd
        exact List.map_eq_nil_iff.1 hd.symm
    · have hi2 : i < X.length := by omega
      rw [List.drop_eq_getElem_cons hi2] at hd
      cases hr : restB now keep budget left with
      | nil => rw [hr] at hd; cases hd
      | cons b rest =>
        rw [hr, List.map_cons] at hd
        injection hd with d1 d2
        obtain ⟨p, hp, hpb, hwhy, hnext⟩ := rest_next hu hr
        have hx : left[p].Number = X[i] := by rw [hpb, d1]
        have hbl : left[p] ∈ l := hsub _ (List.getElem_mem hp)
        have hfl := List.length_filter_le (noB X[i]) left
        refine .inl ⟨(left.filter (noB X[i]), ((i + 1 : Nat) : Int)), X.length - (i + 1), ?_, by omega, left.filter (noB X[i]), i + 1, by omega, rfl, rfl, by omega, fun x hx => hsub x (List.mem_filter.1 hx).1, hu.filt _, by rw [d1, hnext]; exact d2⟩
        have o1 := out_loop X left (by omega) hu i hi2 p hp hx
        have o2 := old_loop left (by omega) p hp
        have hneg : ¬ ((p : Nat) : Int) < 0 := by omega
        simp only [gleaninglaw20_RetireBounds_l6, dec_t (by omega : (i : Int) < (X.length : Int)), if_true, o1, Option.bind_some, gleaninglaw20_RetireBounds_k7, dec_f hneg, Bool.false_eq_true, if_false, o2, gleaninglaw20_RetireBounds_k9, gd_pos (by omega : (0 : Int) ≤ (p : Int)), Int.toNat_natCast, List.getElem?_eq_getElem hp, (hold _ hbl).2, ksuc (by omega : i < 1099511627776)]
        by_cases c1 : keep < now - left[p].Born
        · simp only [dec_t c1, Bool.not_true, Bool.false_eq_true, if_false]
        · rcases hwhy with hw1 | ⟨w1, w2, w3⟩
          · rw [← hpb, (hold _ hbl).1] at hw1
            exact absurd (of_decide_eq_true hw1) c1
          · have hall : left.all (fun b => decide (left[p].Born ≤ b.Born)) = true := List.all_eq_true.2 fun x hx => dec_t (by rw [hpb]; exact w1 x hx)
            simp only [dec_f c1, Bool.not_false, if_true, hall, Bool.not_true, Bool.false_eq_true, if_false, xtotal_spec left (by omega) (fun x hx => ok x (hsub x hx)), Option.bind_some]
            rw [dec_f (by omega), ite_ff, dec_f (by omega), ite_ff]
  obtain ⟨r, h7, left, rfl, g2, g3, g4⟩ := h6
  rw [h7, Option.bind_some]
  simp only [Sum.elim_inl, gleaninglaw20_RetireBounds_k5]
  obtain ⟨e1, e2⟩ := rest_end g4
  have h8 : loopN (fun (s : Int) => gleaninglaw20_RetireBounds_l12 now keep left s) Fu 0 = some (.inl ()) := by
    refine loop_list (l := left) (fun k r s => s = (k : Int) ∧ r = .inl ()) (by omega) ?_ ?_ ⟨rfl, rfl⟩
    · rintro k hk r s ⟨rfl, rfl⟩
      refine .inl ⟨((k + 1 : Nat) : Int), ?_, rfl, rfl⟩
      have hm := g3 _ (List.getElem_mem hk)
      have ho := e1 _ (List.getElem_mem hk)
      rw [(hold _ hm).1] at ho
      simp only [gleaninglaw20_RetireBounds_l12, dec_t (by omega : (k : Int) < (left.length : Int)), if_true, gd_pos (by omega : (0 : Int) ≤ (k : Int)), Int.toNat_natCast, List.getElem?_eq_getElem hk, Option.bind_some, (hold _ hm).2, ho, Bool.false_eq_true, if_false, ksuc (by omega : k < 1099511627776)]
    · rintro r s ⟨rfl, rfl⟩
      simp only [gleaninglaw20_RetireBounds_l12, dec_f (by omega : ¬ (left.length : Int) < (left.length : Int)), Bool.false_eq_true, if_false]
  rw [h8, Option.bind_some]
  simp only [Sum.elim_inl, gleaninglaw20_RetireBounds_k11]
  rcases e2 with e2 | e2
  · rw [dec_t (by omega), ite_tt]
  · by_cases c2 : left.length < 2
    · rw [dec_t (by omega), ite_tt]
    · rw [dec_f (by omega), ite_ff, xtotal_spec left (by omega) (fun x hx => ok x (g3 x hx)), Option.bind_some, dec_t e2]
end Go.Proofs.Ytejimiedoibkcaa.Ab
