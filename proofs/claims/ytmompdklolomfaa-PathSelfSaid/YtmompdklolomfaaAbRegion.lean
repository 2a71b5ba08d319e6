import Derived.Test.YtmompdklolomfaaAbFx
namespace Go.Proofs.Ytmompdklolomfaa.Ab
open Go Go.RowKit
set_option linter.unusedVariables false
set_option linter.unusedSimpArgs false
theorem look_not {U : List ((Nat × Nat) × Option AObj)} {a n : Nat} {o : Option AObj} (h : ∀ p ∈ U, p.1 ≠ (a, n)) : look U a n o = o := by
 induction U with
 | nil => rfl
 | cons p r ih =>
  obtain ⟨⟨d', n'⟩, x⟩ := p
  have h1 : ¬ (a = d' ∧ n = n') := by
   rintro ⟨rfl, rfl⟩
   exact h _ List.mem_cons_self rfl
  simp only [look, if_neg h1]
  exact ih fun q hq => h q (List.mem_cons_of_mem _ hq)
theorem look_comm {U V : List ((Nat × Nat) × Option AObj)} (h : ∀ p ∈ U, ∀ q ∈ V, p.1 ≠ q.1) (a n : Nat) (o : Option AObj) : look V a n (look U a n o) = look U a n (look V a n o) := by
 by_cases h1 : ∃ p ∈ U, p.1 = (a, n)
 ·obtain ⟨p, hp, he⟩ := h1
  have hV : ∀ q ∈ V, q.1 ≠ (a, n) := fun q hq e => h p hp q hq (he.trans e.symm)
  rw [look_not hV, look_not hV]
 ·have hU : ∀ p ∈ U, p.1 ≠ (a, n) := fun p hp e => h1 ⟨p, hp, e⟩
  rw [look_not hU, look_not hU]
theorem cnt_zero {l : List Nat} {d : Nat} (h : d ∉ l) : cnt l d = 0 := by
 induction l with
 | nil => rfl
 | cons x r ih =>
  rw [List.mem_cons, not_or] at h
  simp only [cnt, if_neg h.1, ih h.2]
def fxApart (x y : Fx) : Prop :=
 (∀ p ∈ x.U, ∀ q ∈ y.L, p.1 ≠ q) ∧ (∀ p ∈ x.U, ∀ q ∈ y.U, p.1 ≠ q.1) ∧ (∀ p ∈ y.U, ∀ q ∈ x.L, p.1 ≠ q) ∧ ∀ d ∈ x.N, d ∉ y.N
def Fx.quiet (x : Fx) : Prop := x.U = [] ∧ x.N = [] ∧ x.L = []
theorem fxApart_quiet {x y : Fx} (h : x.quiet ∨ y.quiet) : fxApart x y := by
 rcases h with ⟨h1, h2, h3⟩ | ⟨h1, h2, h3⟩ <;> simp [fxApart, h1, h2, h3]
structure Aprt (ops : Array Oper) (p q : Oper × Fx) : Prop where
 tm : p.1.apart ops q.1 = true
 fx : fxApart p.2 q.2
theorem app_comm {ops : Array Oper} {p q : Oper × Fx} (h : Aprt ops p q) (s : St) : (s.app p.1.dst p.2).app q.1.dst q.2 = (s.app q.1.dst q.2).app p.1.dst p.2 := by
 obtain ⟨_, h2, _⟩ := Oper.apart_spec h.tm
 obtain ⟨_, h3, _, _⟩ := h.fx
 unfold St.app
 refine St.mk.injEq .. ▸ ⟨?_, ?_, ?_, rfl⟩
 ·cases hp : p.1.dst with
  | none => cases q.1.dst <;> rfl
  | some d =>
   cases hq : q.1.dst with
   | none => rfl
   | some e =>
    have hne : d ≠ e := fun he => h2 d hp (by rw [hq, he])
    funext t
    simp only [St.put, upd]
    by_cases h1 : t = e
    ·subst h1; simp [Ne.symm hne]
    ·by_cases h1' : t = d
     ·subst h1'; simp [h1]
     ·simp [h1, h1']
 ·funext a n; exact look_comm h3 a n _
 ·funext t; show s.next t + cnt p.2.N t + cnt q.2.N t = s.next t + cnt q.2.N t + cnt p.2.N t; omega
theorem agree_app {ops : Array Oper} {p q : Oper × Fx} (h : Aprt ops p q) (s : St) : Agree ops p.1 p.2 s (s.app q.1.dst q.2) := by
 obtain ⟨_, _, h3⟩ := Oper.apart_spec h.tm
 obtain ⟨_, h4, h5, h6⟩ := h.fx
 refine ⟨fun t ht => ?_, fun u hu => ?_, fun u hu => ?_, fun d hd => ?_⟩
 ·cases hq : q.1.dst with
  | none => rfl
  | some e =>
   have : t ≠ e := fun he => h3 e hq (he ▸ ht)
   simp [St.app, St.put, upd, this]
 ·exact look_not fun v hv e => h5 v hv u hu e
 ·exact look_not fun v hv e => h4 u hu v hv e.symm
 ·show s.next d + cnt q.2.N d = s.next d
  rw [cnt_zero (h6 d hd)]; rfl
theorem agree_app' {ops : Array Oper} {p q : Oper × Fx} (h : Aprt ops p q) (s : St) : Agree ops q.1 q.2 (s.app p.1.dst p.2) s := by
 obtain ⟨h1, _, _⟩ := Oper.apart_spec h.tm
 obtain ⟨h3, h4, _, h6⟩ := h.fx
 refine ⟨fun t ht => ?_, fun u hu => ?_, fun u hu => ?_, fun d hd => ?_⟩
 ·cases hp : p.1.dst with
  | none => rfl
  | some e =>
   have : t ≠ e := fun he => h1 e hp (he ▸ ht)
   simp [St.app, St.put, upd, this]
 ·exact (look_not fun v hv e => h3 v hv u hu e).symm
 ·exact (look_not fun v hv e => h4 v hv u hu e).symm
 ·show s.next d = s.next d + cnt p.2.N d
  rw [cnt_zero fun hm => h6 d hm hd]; rfl
theorem Agree.trans {ops : Array Oper} {o : Oper} {x : Fx} {s s' s'' : St} (h : Agree ops o x s s') (k : Agree ops o x s' s'') : Agree ops o x s s'' :=
 ⟨fun t ht => (k.env t ht).trans (h.env t ht), fun p hp => (k.rd p hp).trans (h.rd p hp), fun p hp => (k.up p hp).trans (h.up p hp), fun d hd => (k.nx d hd).trans (h.nx d hd)⟩
theorem Acts.congr {P : Program} {N : Nat} {ops : Array Oper} {o : Oper} {s s' : St} {x : Fx} (h : Acts P N ops o s x) (ha : Agree ops o x s s') : Acts P N ops o s' x := by
 rcases h with ⟨h1, h2⟩ | ⟨h1, h2⟩
 ·exact .inl ⟨(guardOk_agree ha).trans h1, fun s'' ha' => h2 s'' (ha.trans ha')⟩
 ·exact .inr ⟨(guardOk_agree ha).trans h1, h2⟩
def Chain (P : Program) (N : Nat) (ops : Array Oper) : List (Nat × Oper × Fx) → St → St → Prop
 | [], s, s' => s = s'
 | p :: r, s, s' => (Acts P N ops p.2.1 s p.2.2 ∧ ∀ t ∈ p.2.1.looksAt ops, t < N) ∧ Chain P N ops r (s.app p.2.1.dst p.2.2) s'
theorem Chain.front {P : Program} {N : Nat} {ops : Array Oper} {q : Nat × Oper × Fx} {post : List (Nat × Oper × Fx)} {s' : St} : ∀ {pre : List (Nat × Oper × Fx)} {s : St}, Chain P N ops (pre ++ q :: post) s s' →
  (∀ p ∈ pre, Aprt ops p.2 q.2) → (Acts P N ops q.2.1 s q.2.2 ∧ ∀ t ∈ q.2.1.looksAt ops, t < N) ∧ Chain P N ops (pre ++ post) (s.app q.2.1.dst q.2.2) s'
 | [], s, h, _ => h
 | p :: pre, s, h, hp => by
  have h1 := hp p List.mem_cons_self
  obtain ⟨⟨ha, hlt⟩, hc⟩ := h
  obtain ⟨⟨hb, hlt'⟩, hd⟩ := Chain.front (pre := pre) hc fun x hx => hp x (List.mem_cons_of_mem _ hx)
  refine ⟨⟨hb.congr (agree_app' h1 s), hlt'⟩, ⟨ha.congr (agree_app h1 s), hlt⟩, ?_⟩
  rw [← app_comm h1]
  exact hd
inductive Waits (ops : Array Oper) : Nat → Nat → Prop
 | one {i j o e} (h : ops[j]? = some o) (he : e ∈ o.after) (hb : Region.binds .any e = true) (hi : e.on = i) : Waits ops i j
 | more {i j o e} (h : ops[j]? = some o) (he : e ∈ o.after) (hb : Region.binds .any e = true) (hi : Waits ops i e.on) : Waits ops i j
theorem Waits.listed {ops : Array Oper} {listed : Array Bool} (hcl : ∀ (k : Nat) (o : Oper), listed[k]? = some true → ops[k]? = some o → ∀ e ∈ o.after, Region.binds .any e = true → listed[e.on]? = some true) {i j : Nat} (h : Waits ops i j)
  (hj : ∀ (o : Oper), ops[j]? = some o → ∀ e ∈ o.after, Region.binds .any e = true → listed[e.on]? = some true) : listed[i]? = some true := by
 induction h with
 | one h he hb hi => rw [← hi]; exact hj _ h _ he hb
 | more h he hb hi ih => exact ih fun o ho e' he' hb' => hcl _ o (hj _ h _ he hb) ho e' he' hb'
theorem pairwise_erase {α : Type} {R : α → α → Prop} {pre post : List α} {q : α} (h : (pre ++ q :: post).Pairwise R) : (pre ++ post).Pairwise R :=
 h.sublist (List.Sublist.append (List.Sublist.refl _) (List.sublist_cons_self _ _))
theorem any_of_chain {P : Program} {N : Nat} {ops : Array Oper} {Q : Exit → Act → World → Prop} {w0 : World} {Mv : Nat → Prop} {s' : St}
  (hback : ∀ (i : Nat) (o : Oper), ops[i]? = some o → ∀ e ∈ o.after, Region.binds .any e = true → e.on < i)
  (hQ : ∀ J a w, Sim w0 Mv N J s' a w → Q .normal a w) : ∀ (R : List (Nat × Oper × Fx)) (listed : Array Bool) (s : St) (J : Site) (a : Act) (w : World),
  Sim w0 Mv N J s a w → Chain P N ops R s s' → listed.size = ops.size → (∀ p ∈ R, ops[p.1]? = some p.2.1) → (∀ i, i < ops.size → (listed[i]? = some true ↔ ∀ p ∈ R, p.1 ≠ i)) →
  R.Pairwise (fun p q => p.1 < q.1 ∧ (Waits ops p.1 q.1 ∨ Aprt ops p.2 q.2)) →
  (∀ (k : Nat) (o : Oper), listed[k]? = some true → ops[k]? = some o → ∀ e ∈ o.after, Region.binds .any e = true → listed[e.on]? = some true) →
  wpAny P .any ops Q R.length listed a w := by
 intro R
 induction hn : R.length generalizing R with
 | zero =>
  intro listed s J a w hs hc hsz hops hlist hpw hcl
  have hR : R = [] := List.eq_nil_of_length_eq_zero hn
  subst hR
  have : s = s' := hc
  subst this
  refine ⟨List.eq_nil_iff_forall_not_mem.2 fun i hi => ?_, hQ _ _ _ hs⟩
  unfold Region.ready at hi
  rw [List.mem_filter, List.mem_range] at hi
  have := (hlist i hi.1).2 (fun p hp => by cases hp)
  have hi2 := hi.2
  simp [Array.getD_eq_getD_getElem?, this] at hi2
 | succ n ih =>
  intro listed s J a w hs hc hsz hops hlist hpw hcl
  refine ⟨fun hr => ?_, fun j hj => ?_⟩
  ·exfalso
   cases R with
   | nil => cases hn
   | cons p r =>
    have ho := hops p List.mem_cons_self
    have hlt : p.1 < ops.size := (Array.getElem?_eq_some_iff.1 ho).1
    have hun : listed[p.1]? ≠ some true := fun h => (hlist p.1 hlt).1 h p List.mem_cons_self rfl
    have hf : listed[p.1]? = some false := by
     have : p.1 < listed.size := by rw [hsz]; exact hlt
     rw [Array.getElem?_eq_getElem this] at hun ⊢
     cases hb : listed[p.1] with
     | true => rw [hb] at hun; exact absurd rfl hun
     | false => rfl
    have hm : p.1 ∈ Region.ready .any ops listed := by
     unfold Region.ready
     rw [List.mem_filter, List.mem_range]
     refine ⟨hlt, ?_⟩
     rw [ho]
     simp only [Array.getD_eq_getD_getElem?, hf, Option.getD_some, Bool.not_false, Option.map_some, Bool.true_and]
     rw [Array.all_eq_true']
     intro e he
     cases hb : Region.binds .any e with
     | false => rfl
     | true =>
      have hlt' := hback _ _ ho e he hb
      have hel : listed[e.on]? = some true := by
       refine (hlist e.on (by omega)).2 fun q hq heq => ?_
       rcases List.mem_cons.1 hq with rfl | hq
       ·omega
       ·have := ((List.pairwise_cons.1 hpw).1 q hq).1
        omega
      simp [hel]
    rw [hr] at hm
    cases hm
  ·unfold Region.ready at hj
   rw [List.mem_filter, List.mem_range, Bool.and_eq_true] at hj
   obtain ⟨hlt, hj1, hj2⟩ := hj
   have hnl : listed[j]? ≠ some true := fun h => by simp [Array.getD_eq_getD_getElem?, h] at hj1
   have hex : ∃ q ∈ R, q.1 = j := by
    by_cases h : ∀ p ∈ R, p.1 ≠ j
    ·exact absurd ((hlist j hlt).2 h) hnl
    ·simp only [Classical.not_forall, Decidable.not_not] at h
     obtain ⟨q, hq, he⟩ := h
     exact ⟨q, hq, he⟩
   obtain ⟨q, hq, rfl⟩ := hex
   obtain ⟨pre, post, rfl⟩ := List.append_of_mem hq
   have ho := hops q hq
   have hdirect : ∀ (o : Oper), ops[q.1]? = some o → ∀ e ∈ o.after, Region.binds .any e = true → listed[e.on]? = some true := by
    intro o ho' e he hb
    rw [ho'] at hj2
    simp only [Option.map_some, Option.getD_some] at hj2
    rw [Array.all_eq_true'] at hj2
    have := hj2 e he
    rw [hb] at this
    simp only [Bool.not_true, Bool.false_or, Array.getD_eq_getD_getElem?] at this
    cases hl : listed[e.on]? with
    | none => rw [hl] at this; cases this
    | some b => rw [hl] at this; simp only [Option.getD_some] at this; rw [this]
   have hap : ∀ p ∈ pre, Aprt ops p.2 q.2 := by
    intro p hp
    have h1 := (List.pairwise_append.1 hpw).2.2 p hp q List.mem_cons_self
    rcases h1.2 with hwt | h
    ·have := hwt.listed hcl hdirect
     have hpl : p.1 < ops.size := (Array.getElem?_eq_some_iff.1 (hops p (List.mem_append_left _ hp))).1
     exact absurd rfl ((hlist p.1 hpl).1 this p (List.mem_append_left _ hp))
    ·exact h
   obtain ⟨⟨hA, hN⟩, hC⟩ := hc.front hap
   unfold wpOp
   rw [ho]
   refine hA.op (Agree.refl _ _ _ _) hN hs (fun J' a' w' h' => ?_)
   have hlen : (pre ++ post).length = n := by simp at hn ⊢; omega
   have hne : ∀ p ∈ pre ++ post, p.1 ≠ q.1 := by
    intro p hp
    rcases List.mem_append.1 hp with hp | hp
    ·have := ((List.pairwise_append.1 hpw).2.2 p hp q List.mem_cons_self).1; omega
    ·have := ((List.pairwise_cons.1 (List.pairwise_append.1 hpw).2.1).1 p hp).1; omega
   have hset : ∀ i, (listed.setIfInBounds q.1 true)[i]? = if i = q.1 then some true else listed[i]? := by
    intro i
    rw [Array.getElem?_setIfInBounds]
    by_cases e : q.1 = i
    ·subst e; simp [hsz, hlt]
    ·simp [e, Ne.symm e]
   refine ih (pre ++ post) hlen _ _ J' a' w' h' hC (by simpa using hsz) (fun p hp => hops p ?_) (fun i hi => ?_) (pairwise_erase hpw) (fun k o hk hko e he hb => ?_)
   ·rcases List.mem_append.1 hp with hp | hp
    ·exact List.mem_append_left _ hp
    ·exact List.mem_append_right _ (List.mem_cons_of_mem _ hp)
   ·rw [hset]
    by_cases e : i = q.1
    ·subst e; simp only [if_true, true_iff]; exact hne
    ·rw [if_neg e, hlist i hi]
     constructor
     ·intro h p hp
      rcases List.mem_append.1 hp with hp | hp
      ·exact h p (List.mem_append_left _ hp)
      ·exact h p (List.mem_append_right _ (List.mem_cons_of_mem _ hp))
     ·intro h p hp
      rcases List.mem_append.1 hp with hp | hp
      ·exact h p (List.mem_append_left _ hp)
      ·rcases List.mem_cons.1 hp with rfl | hp
       ·exact Ne.symm e
       ·exact h p (List.mem_append_right _ hp)
   ·rw [hset] at hk ⊢
    have hle : listed[e.on]? = some true := by
     by_cases e' : k = q.1
     ·subst e'; exact hdirect o hko e he hb
     ·rw [if_neg e'] at hk; exact hcl k o hk hko e he hb
    by_cases e' : e.on = q.1
    ·rw [if_pos e']
    ·rw [if_neg e']; exact hle
end Go.Proofs.Ytmompdklolomfaa.Ab
