import Derived.Test.YtbaibpjffcahiaaGreatAbArg2
import Derived.Test.YtbaibpjffcahiaaGreatAbWords
namespace Go.Proofs.YtbaibpjffcahiaaGreat.Ab
open Go Go.RowKit
set_option linter.unusedVariables false
set_option linter.unusedSimpArgs false
variable {α β σ ρ τ : Type}
def gd (p : Prop) [Decidable p] (x : Option α) : Option α := if p then x else none
theorem gd_some {p : Prop} [Decidable p] {x : Option α} {r : α} (h : gd p x = some r) : p ∧ x = some r := by
 unfold gd at h
 split at h
 ·exact ⟨‹_›, h⟩
 ·cases h
theorem gd_pos {p : Prop} [Decidable p] {x : Option α} (h : p) : gd p x = x := if_pos h
theorem bnd_some {x : Option α} {f : α → Option β} {r : β} (h : Option.bind x f = some r) : ∃ a, x = some a ∧ f a = some r := by
 cases x with
 | none => cases h
 | some a => exact ⟨a, rfl, h⟩
theorem ifT {c : Bool} {A B : Option α} {r : α} (g : c = true) (h : (if c = true then A else B) = some r) : A = some r := by rw [if_pos g] at h; exact h
theorem ifF {c : Bool} {A B : Option α} {r : α} (g : c = false) (h : (if c = true then A else B) = some r) : B = some r := by rw [if_neg (by rw [g]; decide)] at h; exact h
def loopN (body : σ → Option (σ ⊕ ρ)) : Nat → σ → Option ρ
 | 0, _ => none
 | n + 1, s => match body s with
  | none => none
  | some (.inl s') => loopN body n s'
  | some (.inr r) => some r
theorem loop_some {body : σ → Option (σ ⊕ ρ)} {m : Nat} {s : σ} {r : ρ} (h : loopN body m s = some r) : ∃ m' q, m = m' + 1 ∧ body s = some q ∧ Sum.elim (loopN body m') some q = some r := by
 cases m with
 | zero => cases h
 | succ m =>
  simp only [loopN] at h
  split at h
  ·cases h
  ·rename_i s' e; exact ⟨m, _, rfl, e, h⟩
  ·rename_i r' e; exact ⟨m, _, rfl, e, h⟩
theorem leafL {a : σ} {q : σ ⊕ τ} {f : σ → Option ρ} {g : τ → Option ρ} {r : ρ} (h : some (Sum.inl a) = some q) (k : Sum.elim f g q = some r) : f a = some r := by
 injection h with h; subst h; exact k
theorem leafR {x : ρ} {q : σ ⊕ ρ} {f : σ → Option ρ} {r : ρ} (h : some (Sum.inr x) = some q) (k : Sum.elim f some q = some r) : some x = some r := by
 injection h with h; subst h; exact k
def Fu : Nat := 1208925819614629174706176
theorem fu_eq : Fu = 1208925819614629174706176 := rfl
theorem loop_inv {body : σ → Option (σ ⊕ ρ)} (I : Nat → σ → Prop) (Q : ρ → Prop) (step : ∀ n s, I n s → (∃ s' m, body s = some (.inl s') ∧ m < n ∧ I m s') ∨ ∃ r, body s = some (.inr r) ∧ Q r) :
  ∀ N n s, I n s → n < N → ∃ r, loopN body N s = some r ∧ Q r
 | 0, n, s, _, h => absurd h (Nat.not_lt_zero _)
 | N + 1, n, s, hi, h => by
  rcases step n s hi with ⟨s', m, h1, h2, h3⟩ | ⟨r, h1, h2⟩
  ·obtain ⟨r, h4, h5⟩ := loop_inv I Q step N m s' h3 (by omega)
   exact ⟨r, by simp only [loopN, h1]; exact h4, h5⟩
  ·exact ⟨r, by simp only [loopN, h1], h2⟩
def PVle (p q : PV) : Prop := (p.one = true → q.one = true) ∧ ∀ w M J v, Rep w M J p v → Rep w M J q v
theorem le_refl (p : PV) : PVle p p := ⟨id, fun _ _ _ _ h => h⟩
theorem le_nil (sz : Nat) : PVle .nil (.sl sz []) := ⟨fun _ => rfl, fun _ _ _ _ h => by cases h; exact .sl0 _ _ _⟩
def leL : List PV → List PV → Prop
 | [], [] => True
 | p :: ps, q :: qs => PVle p q ∧ leL ps qs
 | _, _ => False
theorem leL_get : ∀ {ps qs : List PV}, leL ps qs → ps.length = qs.length ∧ ∀ (i : Nat) (p q : PV), ps[i]? = some p → qs[i]? = some q → PVle p q
 | [], [], _ => ⟨rfl, fun i p q h => by simp at h⟩
 | p :: ps, [], h => h.elim
 | [], q :: qs, h => h.elim
 | p :: ps, q :: qs, ⟨h1, h2⟩ => by
  obtain ⟨h3, h4⟩ := leL_get h2
  refine ⟨by simp [h3], fun i a b ha hb => ?_⟩
  cases i with
  | zero => simp at ha hb; subst ha hb; exact h1
  | succ i => simp at ha hb; exact h4 i a b ha hb
theorem le_agg {ps qs : List PV} (h : leL ps qs) : PVle (.agg ps) (.agg qs) := ⟨fun h => by simp [PV.one] at h, fun w M J v hv => by
 obtain ⟨h3, h4⟩ := leL_get h
 cases hv with
 | agg _ _ vs hl hr =>
  refine .agg _ _ _ (h3 ▸ hl) fun i c v hc hv => ?_
  have hi : i < ps.length := by rw [h3]; exact (List.getElem?_eq_some_iff.1 hc).1
  exact (h4 i _ c (List.getElem?_eq_getElem hi) hc).2 _ _ _ _ (hr i _ v (List.getElem?_eq_getElem hi) hv)⟩
def leE : List (Nat × PV) → List (Nat × PV) → Prop
 | [], [] => True
 | p :: ps, q :: qs => p.1 = q.1 ∧ PVle p.2 q.2 ∧ leE ps qs
 | _, _ => False
theorem leE_assoc {w : World} {M : Nat → Prop} {J : Site} {v : Value} (t : Nat) : ∀ {ps qs : List (Nat × PV)}, leE ps qs → Rep w M J (assoc ps t) v → Rep w M J (assoc qs t) v
 | [], [], _, h => h
 | p :: ps, [], h, _ => h.elim
 | [], q :: qs, h, _ => h.elim
 | (t1, p) :: ps, (t2, q) :: qs, ⟨h1, h2, h3⟩, h => by
  simp only at h1 h2
  subst h1
  simp only [assoc] at h ⊢
  cases hb : (t == t1) with
  | true => rw [hb] at h; exact h2.2 _ _ _ _ h
  | false => rw [hb] at h; exact leE_assoc t h3 h
inductive leO1 : AObj → AObj → Prop
 | rfl (o) : leO1 o o
 | box {a b : List PV} (h : leL a b) : leO1 (.box a) (.box b)
def leO : List ((Nat × Nat) × AObj) → List ((Nat × Nat) × AObj) → Prop
 | [], [] => True
 | p :: ps, q :: qs => p.1 = q.1 ∧ leO1 p.2 q.2 ∧ leO ps qs
 | _, _ => False
theorem leO_assoc (d n : Nat) : ∀ {ps qs : List ((Nat × Nat) × AObj)}, leO ps qs → (assocO ps d n = none ∧ assocO qs d n = none) ∨ ∃ a b, assocO ps d n = some a ∧ assocO qs d n = some b ∧ leO1 a b
 | [], [], _ => .inl ⟨rfl, rfl⟩
 | p :: ps, [], h => h.elim
 | [], q :: qs, h => h.elim
 | ((d1, n1), p) :: ps, ((d2, n2), q) :: qs, ⟨h1, h2, h3⟩ => by
  simp only [Prod.mk.injEq] at h1 h2
  obtain ⟨rfl, rfl⟩ := h1
  simp only [assocO]
  cases hb : (d == d1 && n == n1) with
  | true => exact .inr ⟨p, q, rfl, rfl, h2⟩
  | false => exact leO_assoc d n h3
theorem leO1_mut {a b : AObj} (h : leO1 a b) : b.mut = a.mut := by cases h <;> rfl
variable {P : Program} {N : Nat}
theorem reb_weak {tl tl' : List (Nat × PV)} {ol ol' : List ((Nat × Nat) × AObj)} {nx : List (Nat × Nat)} {X : Ctx} (h1 : leE tl tl') (h2 : leO ol ol') : Reb N (lit tl ol nx X) (lit tl' ol' nx X) := by
 have back : ∀ {d n o'}, assocO ol' d n = some o' → ∃ o, assocO ol d n = some o ∧ leO1 o o' := fun {d n o'} h => by
  rcases leO_assoc d n h2 with ⟨_, k⟩ | ⟨a, b, k1, k2, k3⟩
  ·rw [k] at h; cases h
  ·rw [k2] at h; injection h with h; subst h; exact ⟨a, k1, k3⟩
 refine ⟨rfl, fun w0 Mv J a w h => ⟨J, ?_⟩⟩
 have hom : ∀ g, OMut (lit tl' ol' nx X) J g → OMut (lit tl ol nx X) J g := by
  rintro g ⟨d, n, o, v, k1, k2, k3, k4⟩
  obtain ⟨o0, j1, j2⟩ := back k1
  exact ⟨d, n, o0, v, j1, (leO1_mut j2) ▸ k2, k3, k4⟩
 have hM : ∀ g, Mut (lit tl' ol' nx X) J g → Mut (lit tl ol nx X) J g := by
  rintro g (k | k)
  ·exact .inl k
  ·exact .inr (hom g k)
 have keep : ∀ {J0 pv u}, Rep w (Mut (lit tl ol nx X) J) J0 pv u → Rep w (Mut (lit tl' ol' nx X) J) J0 pv u := fun hr => hr.mono (fun _ _ _ => rfl) (fun g _ hg => hM g hg) (fun _ _ _ h => h)
 refine ⟨h.size, h.defers, fun t ht => ?_, fun d n o ho => ?_, fun d n d' n' o o' v v' g k1 k2 => ?_, fun d n hle => ?_, h.frame, fun g hg hlt => h.mutb g (hom g hg) hlt, h.xlt, fun d n o v g k1 => ?_, h.ext, h.grow, h.os, h.tape, h.output, h.drawn⟩
 ·exact leE_assoc t h1 (keep (h.env t ht))
 ·obtain ⟨o0, j1, j2⟩ := back ho
  have := (h.obj d n o0 j1)
  cases j2 with
  | rfl => exact this.kept (fun _ _ _ => rfl) (fun g _ hg => hM g hg) (fun _ _ _ h => h) (fun _ _ _ _ => rfl)
  | box hl =>
   obtain ⟨g, cur, t, a1, a2, a3, a4, a5⟩ := this
   obtain ⟨e1, e2⟩ := leL_get hl
   refine ⟨g, cur, t, a1, a2, a3.trans e1, fun c hc => ?_, fun k c v hc hv => ?_⟩
   ·obtain ⟨i, hi⟩ := List.getElem?_of_mem hc
    have hlt := (List.getElem?_eq_some_iff.1 hi).1
    have hlt' := e1 ▸ hlt
    exact (e2 i _ c (List.getElem?_eq_getElem hlt') hi).1 (a4 _ (List.getElem_mem hlt'))
   ·have hlt := (List.getElem?_eq_some_iff.1 hc).1
    have hlt' := e1 ▸ hlt
    exact (e2 k _ c (List.getElem?_eq_getElem hlt') hc).2 _ _ _ _ (keep (a5 k _ v (List.getElem?_eq_getElem hlt') hv))
 ·obtain ⟨o1, j1, _⟩ := back k1
  obtain ⟨o2, j2, _⟩ := back k2
  exact h.sep d n d' n' o1 o2 v v' g j1 j2
 ·obtain ⟨j1, j2⟩ := h.nxt d n hle
  refine ⟨?_, j2⟩
  rcases leO_assoc d n h2 with ⟨_, k⟩ | ⟨a, b, k1, k2, k3⟩
  ·exact k
  ·have : assocO ol d n = none := j1
   rw [k1] at this; cases this
 ·obtain ⟨o1, j1, _⟩ := back k1
  exact h.sepX d n o1 v g j1
theorem Reb.trans {s s' s'' : St} (h : Reb N s s') (k : Reb N s' s'') : Reb N s s'' := ⟨k.1.trans h.1, fun w0 Mv J a w hs => by
 obtain ⟨J', h'⟩ := h.2 w0 Mv J a w hs
 exact k.2 w0 Mv J' a w h'⟩
theorem reb_w {s : St} {tl tl' : List (Nat × PV)} {ol ol' : List ((Nat × Nat) × AObj)} {nx : List (Nat × Nat)} {X : Ctx} (h : Reb N s (lit tl ol nx X)) (h1 : leE tl tl') (h2 : leO ol ol') : Reb N s (lit tl' ol' nx X) := h.trans (reb_weak h1 h2)
theorem map_get {α : Type} {f : α → PV} {l : List α} {i : Nat} {x : α} (h : l[i]? = some x) : (List.map f l)[i]? = some (f x) := by simp [h]
theorem map_app {α : Type} {f : α → PV} (a b : List α) : List.map f a ++ List.map f b = List.map f (a ++ b) := List.map_append.symm
theorem map_set' {α : Type} {f : α → PV} (l : List α) (i : Nat) (x : α) : (List.map f l).set i (f x) = List.map f (l.set i x) := List.map_set.symm
theorem len_map {α : Type} {f : α → PV} (l : List α) : PV.int .i64 ((List.map f l).length : Int) = .int .i64 (l.length : Int) := by rw [List.length_map]
theorem fit_map {α : Type} {f : α → PV} {l : List α} {b : Nat} (h : l.length * b ≤ 140737488355328 ∧ l.length ≤ 140737488355328) : (List.map f l).length * b ≤ 140737488355328 ∧ (List.map f l).length ≤ 140737488355328 := by rw [List.length_map]; exact h
theorem quo_hv {k : IntKind} {a b : Int} (h : ¬ b = 0) : binPV .quo (.int k a) (.int k b) = some (.int k (k.wrap (a.tdiv b))) := by simp [binPV, h]
theorem shl_hv {k k' : IntKind} {a b : Int} (h : ¬ b < 0) : binPV .shl (.int k a) (.int k' b) = some (.int k (k.wrap (a * 2 ^ min b.toNat k.bits))) := by simp [binPV, h]
theorem shr_hv {k k' : IntKind} {a b : Int} (h : ¬ b < 0) : binPV .shr (.int k a) (.int k' b) = some (.int k (a.fdiv (2 ^ min b.toNat k.bits))) := by simp [binPV, h]
def u8 (e : Int) : UInt8 := UInt8.ofNat e.toNat
theorem u8_eq {e : Int} (h : 0 ≤ e ∧ e < 256) : e = ((u8 e).toNat : Int) := by
 unfold u8
 rw [UInt8.toNat_ofNat']
 omega
theorem nat_of {i : Int} (h : 0 ≤ i) : i = (i.toNat : Int) := (Int.toNat_of_nonneg h).symm
end Go.Proofs.YtbaibpjffcahiaaGreat.Ab
