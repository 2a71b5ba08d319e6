import Derived.Test.YtmompdklolomfaaAbRegion
namespace Go.Proofs.Ytmompdklolomfaa.Ab
open Go Go.RowKit
set_option linter.unusedVariables false
set_option linter.unusedSimpArgs false
def AW (P : Program) (N : Nat) (c : Code) (s : St) (Q : Exit → St → Prop) : Prop :=
 ∀ w0 Mv J a w, Sim w0 Mv N J s a w → c.wp P (fun e a' w' => ∃ s' J', Sim w0 Mv N J' s' a' w' ∧ s'.X = s.X ∧ Q e s') a w
variable {P : Program} {N : Nat} {s : St} {Q : Exit → St → Prop}
theorem AW.mono {c : Code} {Q' : Exit → St → Prop} (h : AW P N c s Q) (hq : ∀ e s, Q e s → Q' e s) : AW P N c s Q' :=
 fun w0 Mv J a w hs => wp_mono (h w0 Mv J a w hs) fun e a' w' ⟨s', J', h1, hx, h2⟩ => ⟨s', J', h1, hx, hq _ _ h2⟩
theorem aw_skip (h : Q .normal s) : AW P N .skip s Q := fun w0 Mv J a w hs => wp_skip ⟨s, J, hs, rfl, h⟩
theorem aw_exit {id : Nat} (h : Q (.exit id) s) : AW P N (.exit id) s Q := fun w0 Mv J a w hs => wp_exit ⟨s, J, hs, rfl, h⟩
theorem aw_ret (h : Q .ret s) : AW P N .ret s Q := fun w0 Mv J a w hs => wp_ret ⟨s, J, hs, rfl, h⟩
def thenA (next : St → Prop) (Q : Exit → St → Prop) : Exit → St → Prop
 | .normal, s => next s
 | e, s => Q e s
theorem aw_seq {x y : Code} (h : AW P N x s (thenA (fun s' => AW P N y s' Q) Q)) : AW P N (.seq x y) s Q := by
 intro w0 Mv J a w hs
 refine wp_seq (wp_mono (h w0 Mv J a w hs) fun e a' w' ⟨s', J', h1, hx, h2⟩ => ?_)
 cases e <;> first | exact wp_mono (h2 w0 Mv J' a' w' h1) (fun e a w ⟨s2, J2, k1, k2, k3⟩ => ⟨s2, J2, k1, k2.trans hx, k3⟩) | exact ⟨s', J', h1, hx, h2⟩
theorem aw_seq_k {x y : Code} (h : ∀ K : St → Prop, (∀ s', AW P N y s' Q → K s') → AW P N x s (thenA K Q)) : AW P N (.seq x y) s Q := aw_seq (h _ fun _ h => h)
theorem Sim.ev_tmp {w0 : World} {Mv : Nat → Prop} {J : Site} {a : Act} {w : World} (h : Sim w0 Mv N J s a w) {t : Nat} (ht : t < N) : Rep w (Mut s J) J (s.env t) (a.eval (.tmp t)) := h.env t ht
theorem aw_cond {t : Nat} {x y : Code} (ht : t < N) {b : Bool} (hb : s.env t = .bool b) (h : AW P N (if b then x else y) s Q) : AW P N (.cond (.tmp t) x y) s Q := by
 intro w0 Mv J a w hs
 refine wp_cond (t := b) ?_ (h w0 Mv J a w hs)
 have := hs.ev_tmp ht
 rw [hb] at this
 generalize a.eval (.tmp t) = v at this ⊢
 cases this
 rfl
theorem aw_cond_t {t : Nat} {x y : Code} (ht : t < N) (hb : s.env t = .bool true) (h : AW P N x s Q) : AW P N (.cond (.tmp t) x y) s Q := aw_cond ht hb h
theorem aw_cond_f {t : Nat} {x y : Code} (ht : t < N) (hb : s.env t = .bool false) (h : AW P N y s Q) : AW P N (.cond (.tmp t) x y) s Q := aw_cond ht hb h
def blockA (id : Nat) (Q : Exit → St → Prop) : Exit → St → Prop
 | .exit i, s => if i = id then Q .normal s else Q (.exit i) s
 | e, s => Q e s
theorem aw_block {id : Nat} {c : Code} (h : AW P N c s (blockA id Q)) : AW P N (.block id c) s Q := by
 intro w0 Mv J a w hs
 refine wp_block (wp_mono (h w0 Mv J a w hs) fun e a' w' ⟨s', J', h1, hx, h2⟩ => ?_)
 cases e <;> try exact ⟨s', J', h1, hx, h2⟩
 rename_i i
 simp only [Exit.inBlock, blockA] at h2 ⊢
 split <;> (rename_i hi; simp only [hi, if_true, if_false] at h2; exact ⟨s', J', h1, hx, h2⟩)
theorem aw_loop {c : Code} (I : Nat → St → Prop) (n0 : Nat) (h0 : I n0 s) (round : ∀ n s, I n s → AW P N c s (thenA (fun s' => ∃ m, m < n ∧ I m s') Q)) : AW P N (.loop c) s Q := by
 intro w0 Mv J a w hs
 refine wp_loop_ghost (fun n a w => ∃ s' J, Sim w0 Mv N J s' a w ∧ s'.X = s.X ∧ I n s') n0 ⟨s, J, hs, rfl, h0⟩ ?_
 rintro n a w ⟨s1, J, hs, hx1, hI⟩
 refine wp_mono (round n s1 hI w0 Mv J a w hs) fun e a' w' ⟨s', J', h1, hx, h2⟩ => ?_
 cases e <;> first | exact ⟨s', J', h1, hx.trans hx1, h2⟩ | (obtain ⟨m, hm, hI'⟩ := h2; exact ⟨m, hm, s', J', h1, hx.trans hx1, hI'⟩)
theorem Lex.ctx {ops : Array Oper} {l : List Oper} {s s' : St} {xs : List Fx} (h : Lex P N ops l s xs s') : s'.X = s.X := by
 induction h with
 | nil => rfl
 | cons _ _ _ ih => exact ih
def backB (ops : Array Oper) : Bool := ops.toList.zipIdx.all fun (o, i) => o.after.all fun e => !Region.binds .any e || e.on < i
theorem backB_spec {ops : Array Oper} (h : backB ops = true) : ∀ (i : Nat) (o : Oper), ops[i]? = some o → ∀ e ∈ o.after, Region.binds .any e = true → e.on < i := by
 intro i o ho e he hb
 unfold backB at h
 rw [List.all_eq_true] at h
 have h1 := h (o, i) (by rw [List.mem_zipIdx_iff_getElem?]; simpa using ho)
 simp only [Array.all_eq_true'] at h1
 have h2 := h1 e he
 simpa [hb] using h2
def waitB (ops : Array Oper) : Array Nat := Region.before ops
theorem before_spec (l : List Oper) : ∀ (ops : Array Oper), ops.toList = l → (Region.before ops).size = l.length ∧ ∀ j i, ((Region.before ops).getD j 0).testBit i = true → backB ops = true → Waits ops i j := by
 intro ops hl
 subst hl
 have key : ∀ (pre post : List Oper) (acc : Array Nat), ops.toList = pre ++ post → acc.size = pre.length → (∀ j i, (acc.getD j 0).testBit i = true → Waits ops i j) →
   ∀ r, post.foldl (init := acc) (fun acc o => acc.push (o.after.foldl (fun s e => if Region.binds .any e then s ||| 2 ^ e.on ||| acc.getD e.on 0 else s) 0)) = r → r.size = pre.length + post.length ∧ ∀ j i, (r.getD j 0).testBit i = true → Waits ops i j := by
  intro pre post
  induction post generalizing pre with
  | nil => intro acc _ hs hw r hr; simp only [List.foldl_nil] at hr; subst hr; exact ⟨by simpa using hs, hw⟩
  | cons o post ih =>
   intro acc hl hs hw r hr
   rw [List.foldl_cons] at hr
   have ho : ops[pre.length]? = some o := by
    rw [← Array.getElem?_toList, hl, List.getElem?_append_right (Nat.le_refl _)]; simp
   have := ih (pre ++ [o]) (acc.push (o.after.foldl (fun s e => if Region.binds .any e then s ||| 2 ^ e.on ||| acc.getD e.on 0 else s) 0)) (by rw [hl]; simp) (by simp [hs]) (fun j i hb => ?_) r hr
   ·exact ⟨by rw [this.1]; simp; omega, this.2⟩
   ·by_cases hj : j < acc.size
    ·refine hw j i ?_
     rwa [Array.getD_eq_getD_getElem?, Array.getElem?_push_lt hj, ← Array.getElem?_eq_getElem hj, ← Array.getD_eq_getD_getElem?] at hb
    ·by_cases hj' : j = acc.size
     ·subst hj'
      rw [Array.getD_eq_getD_getElem?, Array.getElem?_push_size, Option.getD_some] at hb
      have hf : ∀ (es : List Edge) (s0 : Nat), (es.foldl (fun s e => if Region.binds .any e then s ||| 2 ^ e.on ||| acc.getD e.on 0 else s) s0).testBit i = true →
        s0.testBit i = true ∨ ∃ e ∈ es, Region.binds .any e = true ∧ (e.on = i ∨ (acc.getD e.on 0).testBit i = true) := by
       intro es
       induction es with
       | nil => intro s0 h; exact .inl h
       | cons e es ihe =>
        intro s0 h
        rw [List.foldl_cons] at h
        rcases ihe _ h with h1 | ⟨e', he', h2⟩
        ·split at h1
         ·rename_i hb'
          rw [Nat.testBit_or, Nat.testBit_or, Bool.or_eq_true, Bool.or_eq_true] at h1
          rcases h1 with (h1 | h1) | h1
          ·exact .inl h1
          ·refine .inr ⟨e, List.mem_cons_self, hb', .inl ?_⟩
           rw [Nat.testBit_two_pow] at h1
           simpa using h1
          ·exact .inr ⟨e, List.mem_cons_self, hb', .inr h1⟩
         ·exact .inl h1
        ·exact .inr ⟨e', List.mem_cons_of_mem _ he', h2⟩
      rw [← Array.foldl_toList] at hb
      rcases hf _ _ hb with h0 | ⟨e, he, hb', h1⟩
      ·simp at h0
      ·rw [hs]
       rcases h1 with rfl | h1
       ·exact .one ho (Array.mem_toList_iff.1 he) hb' rfl
       ·exact .more ho (Array.mem_toList_iff.1 he) hb' (hw _ _ h1)
     ·rw [Array.getD_eq_getD_getElem?, Array.getElem?_eq_none (by simp; omega)] at hb
      simp at hb
 have h := key [] ops.toList #[] (by simp) rfl (fun j i hb => by simp at hb) (Region.before ops) (by unfold Region.before; rw [← Array.foldl_toList])
 exact ⟨by simpa using h.1, fun j i hb _ => h.2 j i hb⟩
def apartB (ops : Array Oper) (b : Array Nat) : List (Nat × Oper) → Bool
 | [] => true
 | (i, o) :: r => (r.all fun (j, o') => (b.getD j 0).testBit i || o.apart ops o') && apartB ops b r
def pairsFx (b : Nat → Nat → Bool) : List (Nat × Fx) → Prop
 | [] => True
 | (i, x) :: r => (∀ q ∈ r, b i q.1 = true ∨ fxApart x q.2) ∧ pairsFx b r
def chainOf : Nat → List Oper → List Fx → List (Nat × Oper × Fx)
 | i, o :: l, x :: xs => (i, o, x) :: chainOf (i + 1) l xs
 | _, _, _ => []
def numFx : Nat → List Fx → List (Nat × Fx)
 | _, [] => []
 | i, x :: xs => (i, x) :: numFx (i + 1) xs
def numOps : Nat → List Oper → List (Nat × Oper)
 | _, [] => []
 | i, x :: xs => (i, x) :: numOps (i + 1) xs
theorem Lex.chain {ops : Array Oper} {l : List Oper} {s s' : St} {xs : List Fx} (h : Lex P N ops l s xs s') : ∀ i, Chain P N ops (chainOf i l xs) s s' ∧ (chainOf i l xs).length = l.length ∧ xs.length = l.length := by
 induction h with
 | nil s => intro i; exact ⟨rfl, rfl, rfl⟩
 | cons h hN hr ih => intro i; have := ih (i + 1); exact ⟨⟨⟨h, hN⟩, this.1⟩, by simp [chainOf, this.2.1], by simp [this.2.2]⟩
theorem chainOf_mem {i : Nat} : ∀ {l : List Oper} {xs : List Fx} {k : Nat}, ∀ p ∈ chainOf k l xs, k ≤ p.1 ∧ l[p.1 - k]? = some p.2.1 ∧ (p.1, p.2.1) ∈ numOps k l ∧ (p.1, p.2.2) ∈ numFx k xs
 | [], _, _, p, hp => by simp [chainOf] at hp
 | o :: l, [], _, p, hp => by simp [chainOf] at hp
 | o :: l, x :: xs, k, p, hp => by
  simp only [chainOf, List.mem_cons] at hp
  rcases hp with rfl | hp
  ·exact ⟨Nat.le_refl _, by simp, List.mem_cons_self, List.mem_cons_self⟩
  ·obtain ⟨h1, h2, h3, h4⟩ := chainOf_mem (i := i) (l := l) (xs := xs) (k := k + 1) p hp
   refine ⟨by omega, ?_, List.mem_cons_of_mem _ h3, List.mem_cons_of_mem _ h4⟩
   rw [show p.1 - k = (p.1 - (k + 1)) + 1 by omega]; simpa using h2
theorem chainOf_pairs {ops : Array Oper} {b : Array Nat} (hb : ∀ j i, (b.getD j 0).testBit i = true → Waits ops i j) : ∀ {l : List Oper} {xs : List Fx} {k : Nat},
  apartB ops b (numOps k l) = true → pairsFx (fun i j => (b.getD j 0).testBit i) (numFx k xs) →
  (chainOf k l xs).Pairwise fun p q => p.1 < q.1 ∧ (Waits ops p.1 q.1 ∨ Aprt ops p.2 q.2)
 | [], _, _, _, _ => by simp [chainOf]
 | o :: l, [], _, _, _ => by simp [chainOf]
 | o :: l, x :: xs, k, h1, h2 => by
  simp only [numOps, apartB, Bool.and_eq_true, List.all_eq_true] at h1
  simp only [numFx, pairsFx] at h2
  simp only [chainOf, List.pairwise_cons]
  refine ⟨fun q hq => ?_, chainOf_pairs hb h1.2 h2.2⟩
  obtain ⟨hk, _, h3, h4⟩ := chainOf_mem (i := 0) q hq
  refine ⟨by show k < q.1; omega, ?_⟩
  have ha := h1.1 _ h3
  have hf := h2.1 _ h4
  simp only [Bool.or_eq_true] at ha
  rcases hf with hf | hf
  ·exact .inl (hb _ _ hf)
  ·rcases ha with ha | ha
   ·exact .inl (hb _ _ ha)
   ·exact .inr ⟨ha, hf⟩
theorem chainOf_all {l : List Oper} {xs : List Fx} : ∀ {k : Nat}, xs.length = l.length → ∀ i, i < l.length → ∃ p ∈ chainOf k l xs, p.1 = k + i := by
 induction l generalizing xs with
 | nil => intro k _ i hi; cases hi
 | cons o l ih =>
  intro k hx i hi
  cases xs with
  | nil => cases hx
  | cons x xs =>
   cases i with
   | zero => exact ⟨_, List.mem_cons_self, rfl⟩
   | succ i =>
    obtain ⟨p, hp, he⟩ := ih (xs := xs) (k := k + 1) (by simpa using hx) i (by simpa using hi)
    exact ⟨p, List.mem_cons_of_mem _ hp, by omega⟩
theorem aw_draw {id : Nat} {l : List Oper} {s' : St} {xs : List Fx} (hm : P.follows .mixedOrders = true) (hst : (backB l.toArray && apartB l.toArray (Region.before l.toArray) (numOps 0 l)) = true)
  (h : Lex P N l.toArray l s xs s') (hfx : pairsFx (fun i j => ((Region.before l.toArray).getD j 0).testBit i) (numFx 0 xs)) (k : Q .normal s') : AW P N (.region id l.toArray true) s Q := by
 rw [Bool.and_eq_true] at hst
 intro w0 Mv J a w hs
 refine wp_region_any hm ?_
 obtain ⟨hc, hlen, hx⟩ := h.chain 0
 have hb : ∀ j i, ((Region.before l.toArray).getD j 0).testBit i = true → Waits l.toArray i j := fun j i h => (before_spec l l.toArray (by simp)).2 j i h hst.1
 have := any_of_chain (P := P) (Q := fun e a' w' => ∃ s' J', Sim w0 Mv N J' s' a' w' ∧ s'.X = s.X ∧ Q e s') (s' := s') (backB_spec hst.1) (fun J' a' w' h' => ⟨s', J', h', h.ctx, k⟩) (chainOf 0 l xs) (Array.replicate l.toArray.size false) s J a { w with drawn := w.drawn + 1 } hs.drew hc (by simp)
  (fun p hp => by have := (chainOf_mem (i := 0) p hp).2.1; simpa using this)
  (fun i hi => ⟨fun h => by simp [Array.getElem?_replicate, hi] at h, fun h => by
   obtain ⟨p, hp, he⟩ := chainOf_all (k := 0) hx i (by simpa using hi)
   exact absurd (by omega) (h p hp)⟩)
  (chainOf_pairs hb hst.2 hfx)
  (fun kk o hk => by simp [Array.getElem?_replicate] at hk)
 rw [hlen] at this
 simpa using this
end Go.Proofs.Ytmompdklolomfaa.Ab
