/- Each of those that are waited for is the latest of its kin, and there is a first one. -/
import Derived.Test.YtmompdklolomfaaXPLat
import Derived.Test.YtmompdklolomfaaPPal
namespace Go.Proofs.Ytmompdklolomfaa.Ab
open Go Go.RowKit
set_option linter.unusedVariables false
set_option linter.unusedSimpArgs false
theorem min_on (f : Nat → Int) : ∀ (d a : Nat), ∃ j, a ≤ j ∧ j ≤ a + d ∧ ∀ k, a ≤ k → k ≤ a + d → f j ≤ f k
 | 0, a => ⟨a, Nat.le_refl _, by omega, fun k h1 h2 => by rw [show k = a by omega]; exact Int.le_refl _⟩
 | d + 1, a => by
  obtain ⟨j, h1, h2, h3⟩ := min_on f d a
  by_cases h : f (a + (d + 1)) < f j
  ·refine ⟨a + (d + 1), by omega, by omega, fun k k1 k2 => ?_⟩
   by_cases e : k = a + (d + 1)
   ·rw [e]; exact Int.le_refl _
   ·have := h3 k k1 (by omega); omega
  ·refine ⟨j, h1, by omega, fun k k1 k2 => ?_⟩
   by_cases e : k = a + (d + 1)
   ·rw [e]; omega
   ·exact h3 k k1 (by omega)
theorem least_k (p : Nat → Prop) [DecidablePred p] : ∀ k, 1 ≤ k → p k → ∃ m, 1 ≤ m ∧ m ≤ k ∧ p m ∧ ∀ j, 1 ≤ j → j < m → ¬ p j := by
 intro k
 induction k using Nat.strongRecOn with
 | _ k ih =>
  intro hk hp
  by_cases h : ∃ j, j < k ∧ 1 ≤ j ∧ p j
  ·obtain ⟨j, h1, h2, h3⟩ := h
   obtain ⟨m, m1, m2, m3, m4⟩ := ih j h1 h2 h3
   exact ⟨m, m1, by omega, m3, m4⟩
  ·exact ⟨k, hk, Nat.le_refl _, hp, fun j h1 h2 h3 => h ⟨j, h2, h1, h3⟩⟩
theorem root_ex (l : List Span) (h : 0 < l.length) : kidsF l (-1) ≠ [] := by
 intro he
 have hno : ∀ i, i < l.length → (parF l)[i]? ≠ some (-1) := fun i hi hc => by
  have : (i : Int) ∈ kidsF l (-1) := kids_mem.2 ⟨i, hi, hc, rfl⟩
  rw [he] at this; cases this
 have hpar : ∀ i, i < l.length → (parF l)[i]? = some (if cutB (upF l) i = true then -1 else namedF l i) := fun i hi => by simp [parF, hi]
 have hcut : ∀ i, i < l.length → cutB (upF l) i = false ∧ ∃ k : Nat, k < l.length ∧ gU (upF l) (i : Int) = (k : Int) := fun i hi => by
  have h1 := hno i hi
  rw [hpar i hi] at h1
  cases hc : cutB (upF l) i with
  | true => rw [hc] at h1; exact absurd rfl h1
  | false =>
   rw [hc] at h1
   refine ⟨rfl, ?_⟩
   rw [gU_at (upF_at hi)]
   rcases named_rng l i with h2 | h2
   ·rw [h2] at h1; exact absurd rfl h1
   ·exact h2
 have hf : ∀ j, ∃ k : Nat, k < l.length ∧ itU (upF l) j 0 = (k : Int) := by
  intro j
  induction j with
  | zero => exact ⟨0, h, rfl⟩
  | succ j ih =>
   obtain ⟨k, h1, h2⟩ := ih
   rw [itU_succ, h2]
   exact (hcut k h1).2
 obtain ⟨a, b, h1, h2, h3⟩ := pigeon l.length (l.length + 1) (fun j => (itU (upF l) j 0).toNat) (fun j _ => by
  obtain ⟨k, k1, k2⟩ := hf j
  omega) (by omega)
 have hab : itU (upF l) a 0 = itU (upF l) b 0 := by
  obtain ⟨k, k1, k2⟩ := hf a
  obtain ⟨m, m1, m2⟩ := hf b
  omega
 obtain ⟨j0, j1, j2, j3⟩ := min_on (fun j => itU (upF l) j 0) (b - 1 - a) a
 obtain ⟨c, c1, c2⟩ := hf j0
 have hper : ∀ m, itU (upF l) (b + m) 0 = itU (upF l) (a + m) 0 := fun m => by rw [itU_add, itU_add, hab]
 have hge : ∀ j, a ≤ j → (c : Int) ≤ itU (upF l) j 0 := by
  intro j
  induction j using Nat.strongRecOn with
  | _ j ih =>
   intro hj
   by_cases hb : j < b
   ·rw [← c2]; exact j3 j hj (by omega)
   ·have := hper (j - b)
    rw [show b + (j - b) = j by omega] at this
    rw [this]
    exact ih (a + (j - b)) (by omega) (by omega)
 have hit : ∀ m, itU (upF l) m (c : Int) = itU (upF l) (j0 + m) 0 := fun m => by rw [itU_add, c2]
 have hback : itU (upF l) (b - a) (c : Int) = (c : Int) := by
  rw [hit, ← c2, show j0 + (b - a) = b + (j0 - a) by omega, hper, show a + (j0 - a) = j0 by omega]
 obtain ⟨m, m1, m2, m3, m4⟩ := least_k (fun m => itU (upF l) m (c : Int) = (c : Int)) (b - a) (by omega) hback
 have hc : cutB (upF l) c = true := by
  unfold cutB
  rw [rc_iff]
  refine ⟨m - 1, by rw [upF_len]; omega, ?_, fun j hj => ?_⟩
  ·have : itU (upF l) (m - 1 + 1) (c : Int) = (c : Int) := by rw [show m - 1 + 1 = m by omega]; exact m3
   exact this
  ·have h5 : itU (upF l) j (gU (upF l) (c : Int)) = itU (upF l) (j + 1) (c : Int) := rfl
   have h6 := m4 (j + 1) (by omega) (by omega)
   have h7 := hge (j0 + (j + 1)) (by omega)
   rw [← hit] at h7
   rw [h5]
   omega
 rw [(hcut c c1).1] at hc
 cases hc
theorem best_loop (l : List Span) (hl : l.length ≤ 60) (p : Int) : ∃ v, loopN (fun (s : Int × Int) => gleaninglaw30_PathLatest_l3 l (parF l) p s.1 s.2) Fu (-1, 0) = some v ∧ (∀ y ∈ kidsF l p, eOf l y ≤ v) ∧ (v = -1 ∨ ∃ y ∈ kidsF l p, eOf l y = v) := by
 have h := loop_exF (body := fun (s : Int × Int) => gleaninglaw30_PathLatest_l3 l (parF l) p s.1 s.2) (fun n s => ∃ k : Nat, s.2 = (k : Int) ∧ k + n = l.length ∧ (∀ j : Nat, j < k → (parF l)[j]? = some p → eOf l (j : Int) ≤ s.1) ∧ (s.1 = -1 ∨ ∃ j : Nat, j < k ∧ (parF l)[j]? = some p ∧ eOf l (j : Int) = s.1))
  (fun v => (∀ y ∈ kidsF l p, eOf l y ≤ v) ∧ (v = -1 ∨ ∃ y ∈ kidsF l p, eOf l y = v)) ?_ (n := l.length) (s := (-1, 0)) ⟨0, rfl, by omega, fun j hj => by omega, .inl rfl⟩ (by omega)
 ·exact h
 ·rintro n ⟨v, z⟩ ⟨k, hz, hk, h1, h2⟩
  dsimp only at hz h1 h2
  subst hz
  show (∃ s' m, gleaninglaw30_PathLatest_l3 l (parF l) p v (k : Int) = _ ∧ _) ∨ ∃ r, gleaninglaw30_PathLatest_l3 l (parF l) p v (k : Int) = _ ∧ _
  unfold gleaninglaw30_PathLatest_l3
  by_cases hlt : k < l.length
  ·obtain ⟨q, hq, _⟩ := parF_rng hlt
   obtain ⟨s, s1, s2⟩ := e_get (l := l) (x := (k : Int)) ⟨by omega, by simpa using hlt⟩
   rw [ite_t (lt_d hlt), gd_pos (by omega), s1, Option.bind_some, rends_spec, Option.bind_some, gd_pos (by omega), Int.toNat_natCast, hq, Option.bind_some, wp1 (by omega), ← s2]
   by_cases e : q = p
   ·subst e
    rw [ite_t (by simp)]
    by_cases hv : v < eOf l (k : Int)
    ·rw [ite_t (dec_t hv)]
     refine .inl ⟨_, n - 1, rfl, by omega, k + 1, rfl, by omega, fun j hj hjp => ?_, .inr ⟨k, by omega, hq, rfl⟩⟩
     by_cases ej : j = k
     ·rw [ej]; exact Int.le_refl _
     ·have := h1 j (by omega) hjp
      dsimp only; omega
    ·rw [ite_f (dec_f hv)]
     refine .inl ⟨_, n - 1, rfl, by omega, k + 1, rfl, by omega, fun j hj hjp => ?_, ?_⟩
     ·by_cases ej : j = k
      ·rw [ej]; dsimp only; omega
      ·exact h1 j (by omega) hjp
     ·rcases h2 with h2 | ⟨j, a1, a2, a3⟩
      ·exact .inl h2
      ·exact .inr ⟨j, by omega, a2, a3⟩
   ·rw [ite_f (by simpa using e)]
    refine .inl ⟨_, n - 1, rfl, by omega, k + 1, rfl, by omega, fun j hj hjp => ?_, ?_⟩
    ·by_cases ej : j = k
     ·rw [ej, hq] at hjp; injection hjp with hjp; exact absurd hjp e
     ·exact h1 j (by omega) hjp
    ·rcases h2 with h2 | ⟨j, a1, a2, a3⟩
     ·exact .inl h2
     ·exact .inr ⟨j, by omega, a2, a3⟩
  ·right
   rw [ite_f (lt_n hlt)]
   refine ⟨_, rfl, fun y hy => ?_, ?_⟩
   ·obtain ⟨j, a1, a2, rfl⟩ := kids_mem.1 hy
    exact h1 j (by omega) a2
   ·rcases h2 with h2 | ⟨j, a1, a2, a3⟩
    ·exact .inl h2
    ·exact .inr ⟨(j : Int), kids_mem.2 ⟨j, by omega, a2, rfl⟩, a3⟩
theorem pathLatest_true (l : List Span) (hl : (List.length l) ≤ maxLen ∧ ∀ y ∈ l, Span.wf y) : gleaninglaw30_PathLatest l = some true := by
 unfold gleaninglaw30_PathLatest
 rw [alive30, Option.bind_some, Bool.not_true, ite_ff]
 obtain ⟨b, hb, hb2⟩ := fewAll_spec l
 rw [hb, Option.bind_some]
 cases b with
 | false => rfl
 | true =>
  have h60 := (hb2 rfl).1
  rw [Bool.not_true, ite_ff, rightSpans_spec l (by omega), Option.bind_some]
  cases hr : l.all rightS with
  | false => rfl
  | true =>
   rw [Bool.not_true, ite_ff]
   by_cases h0 : l.length = 0
   ·rw [ite_t (by simp [h0])]; rfl
   ·rw [ite_f (by rw [beq_eq_false_iff_ne]; omega), Option.bind_some]
    show gleaninglaw30_PathLatest_k0 l = some true
    unfold gleaninglaw30_PathLatest_k0
    obtain ⟨X, x1, _, x3⟩ := crit_spec l h60
    obtain ⟨x3, x4⟩ := x3 hr
    have hXl := chn_len x3
    have hne : X.length ≠ 0 := by
     intro e
     have : X = [] := List.eq_nil_of_length_eq_zero e
     subst this
     exact root_ex l (by omega) x4
    rw [rparents_spec l (by omega), Option.bind_some, x1, Option.bind_some, ite_f (by rw [beq_eq_false_iff_ne]; omega)]
    refine loop_fu (fun n s r => ∃ i : Nat, s = (prevO X i, (i : Int)) ∧ i + n = X.length ∧ r = true) ?_ (n := X.length) ⟨0, rfl, by omega, rfl⟩ (by omega)
    rintro n s r ⟨i, rfl, hi, rfl⟩
    show (∃ s' m, gleaninglaw30_PathLatest_l1 l (parF l) X (prevO X i) (i : Int) = _ ∧ _) ∨ gleaninglaw30_PathLatest_l1 l (parF l) X (prevO X i) (i : Int) = _
    unfold gleaninglaw30_PathLatest_l1
    obtain ⟨v, v1, v2, v3⟩ := best_loop l h60 (prevO X i)
    rw [ite_t (dec_t (by omega)), v1, Option.bind_some]
    unfold gleaninglaw30_PathLatest_k2
    by_cases e : i = X.length
    ·right
     subst e
     rw [ite_t (by simp)]
     rcases v3 with v3 | ⟨y, y1, _⟩
     ·rw [v3]; rfl
     ·rw [x4] at y1; cases y1
    ·rw [ite_f (by simp; omega)]
     have hlt : i < X.length := by omega
     have hg : X[i]? = some X[i] := List.getElem?_eq_getElem hlt
     generalize X[i] = x at hg
     obtain ⟨c1, c2⟩ := x3 i x hg
     have hox := kids_ok x c1
     obtain ⟨j, j1, j2, j3⟩ := kids_mem.1 c1
     obtain ⟨s, s1, s2⟩ := e_get hox
     have hv : eOf l x = v := by
      rcases v3 with v3 | ⟨y, y1, y2⟩
      ·have := v2 x c1; have := e_pos l x; omega
      ·have := c2 y y1; have := v2 x c1; omega
     have hjx : x.toNat = j := by omega
     rw [gd_pos (by omega), Int.toNat_natCast, hg, Option.bind_some, ite_f (dec_f (by have := hox.1; omega)), gd_pos (by omega), Option.bind_some, ite_f (dec_f (by have := hox.2; omega)), gd_pos (by omega), Option.bind_some, gd_pos hox.1, hjx, j2, Option.bind_some, ite_f (by simp), Option.bind_some]
     left
     show ∃ s' m, gleaninglaw30_PathLatest_k4 l X (i : Int) v = _ ∧ _
     unfold gleaninglaw30_PathLatest_k4
     rw [gd_pos (by omega), Int.toNat_natCast, hg, Option.bind_some, gd_pos hox.1, s1, Option.bind_some, pends_spec, Option.bind_some, ← s2, ite_f (by simp [hv]), gd_pos (by omega), Option.bind_some, wp1 (by omega)]
     refine ⟨_, n - 1, rfl, by omega, i + 1, ?_, by omega, rfl⟩
     rw [prevO, if_neg (by omega), Nat.add_sub_cancel, hg]; rfl
end Go.Proofs.Ytmompdklolomfaa.Ab
