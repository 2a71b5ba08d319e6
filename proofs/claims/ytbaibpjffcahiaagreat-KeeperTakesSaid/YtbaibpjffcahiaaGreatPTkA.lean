/- Loops that come to an end: rows, edges, open traces. -/
import Derived.Test.YtbaibpjffcahiaaGreatXK4
import Derived.Test.YtbaibpjffcahiaaGreatPSpanB
import Derived.Test.YtbaibpjffcahiaaGreatPRuleP
namespace Go.Proofs.YtbaibpjffcahiaaGreat.Ab
open Go Go.RowKit
set_option linter.unusedVariables false
set_option linter.unusedSimpArgs false
theorem loop_ex {σ ρ : Type} {body : σ → Option (σ ⊕ ρ)} (I : Nat → σ → Prop) (R : ρ → Prop) (step : ∀ n s, I n s → (∃ s' m, body s = some (.inl s') ∧ m < n ∧ I m s') ∨ ∃ r, body s = some (.inr r) ∧ R r) :
  ∀ (n N : Nat) (s : σ), I n s → n < N → ∃ r, loopN body N s = some r ∧ R r := by
 intro n
 induction n using Nat.strongRecOn with
 | _ n ih =>
  intro N s hI hN
  obtain ⟨N, rfl⟩ : ∃ M, N = M + 1 := ⟨N - 1, by omega⟩
  rcases step n s hI with ⟨s', m, h1, h2, h3⟩ | ⟨r, h1, h2⟩
  ·rw [loop_l h1]; exact ih m h2 N s' h3 (by omega)
  ·exact ⟨r, loop_r h1, h2⟩
theorem loop_exF {σ ρ : Type} {body : σ → Option (σ ⊕ ρ)} (I : Nat → σ → Prop) (R : ρ → Prop) (step : ∀ n s, I n s → (∃ s' m, body s = some (.inl s') ∧ m < n ∧ I m s') ∨ ∃ r, body s = some (.inr r) ∧ R r)
  {n : Nat} {s : σ} (h : I n s) (hn : n ≤ 1000000000) : ∃ r, loopN body Fu s = some r ∧ R r := loop_ex I R step n Fu s h (by unfold Fu; omega)
theorem idx_ex {ρ : Type} {body : Int → Option (Int ⊕ ρ)} (L : Nat) (hL : L ≤ 1000000000) (R : ρ → Prop) (step : ∀ i : Nat, i < L → body (i : Int) = some (.inl ((i : Int) + 1)) ∨ ∃ r, body (i : Int) = some (.inr r) ∧ R r)
  (fin : ∃ r, body (L : Int) = some (.inr r) ∧ R r) : ∃ r, loopN body Fu 0 = some r ∧ R r := by
 refine loop_exF (fun n v => ∃ i : Nat, v = (i : Int) ∧ i + n = L) R ?_ (n := L) ⟨0, rfl, by omega⟩ hL
 rintro n v ⟨i, rfl, hn⟩
 by_cases hi : i < L
 ·rcases step i hi with h | h
  ·exact .inl ⟨_, n - 1, h, by omega, i + 1, by omega, by omega⟩
  ·exact .inr h
 ·obtain rfl : i = L := by omega
  exact .inr fin
theorem idxS_ex {σ ρ : Type} {body : σ × Int → Option ((σ × Int) ⊕ ρ)} (L : Nat) (hL : L ≤ 1000000000) (J : Nat → σ → Prop) (R : ρ → Prop)
  (step : ∀ (i : Nat) (s : σ), i < L → J i s → (∃ s', body (s, (i : Int)) = some (.inl (s', (i : Int) + 1)) ∧ J (i + 1) s') ∨ ∃ r, body (s, (i : Int)) = some (.inr r) ∧ R r)
  (fin : ∀ s, J L s → ∃ r, body (s, (L : Int)) = some (.inr r) ∧ R r) {s0 : σ} (h0 : J 0 s0) : ∃ r, loopN body Fu (s0, 0) = some r ∧ R r := by
 refine loop_exF (fun n v => ∃ i : Nat, v.2 = (i : Int) ∧ i + n = L ∧ J i v.1) R ?_ (n := L) ⟨0, rfl, by omega, h0⟩ hL
 rintro n ⟨s, v⟩ ⟨i, hv, hn, hJ⟩
 obtain rfl : v = (i : Int) := hv
 by_cases hi : i < L
 ·rcases step i s hi hJ with ⟨s', h, hJ'⟩ | h
  ·exact .inl ⟨_, n - 1, h, by omega, i + 1, by simp, by omega, hJ'⟩
  ·exact .inr h
 ·obtain rfl : i = L := by omega
  exact .inr (fin s hJ)
theorem w1 {i : Nat} (h : i ≤ 1000000000) : IntKind.i64.wrap ((i : Int) + 1) = (i : Int) + 1 := w64 (by omega) (by omega)
theorem get_ex {α : Type} {l : List α} {i : Nat} (h : i < l.length) : ∃ x, l[Int.toNat (i : Int)]? = some x ∧ x ∈ l := ⟨l[i], by simp [h], List.getElem_mem h⟩
theorem fit {n k : Nat} (h : n ≤ 1000000) (hk : k ≤ 1000) : n * k ≤ 140737488355328 ∧ n ≤ 140737488355328 := ⟨Nat.le_trans (Nat.mul_le_mul h hk) (by omega), by omega⟩
theorem within_ex (a b c : Int) : ∃ x, gleaningref1_Within a b c = some x := by
 unfold gleaningref1_Within
 split <;> exact ⟨_, rfl⟩
theorem long_ex {i : Nat} (hi : i < 3) : ∃ x, gleaningref1_Long (i : Int) = some x ∧ x ≠ 0 := by
 obtain rfl | rfl | rfl : i = 0 ∨ i = 1 ∨ i = 2 := by omega
 ·exact ⟨60, rfl, by decide⟩
 ·exact ⟨3600, rfl, by decide⟩
 ·exact ⟨86400, rfl, by decide⟩
theorem window_ex {i : Nat} (hi : i < 3) (s : Int) : ∃ w, gleaningref1_Window (i : Int) s = some w := by
 obtain ⟨x, hx, h0⟩ := long_ex hi
 obtain ⟨b, hb⟩ := within_ex s 0 1099511627776
 unfold gleaningref1_Window
 rw [hx, Option.bind_some, if_neg (by simpa using h0), hb, Option.bind_some]
 cases b with
 | false => exact ⟨_, rfl⟩
 | true => exact ⟨_, by rw [if_neg (by simp), bind_inl]; unfold gleaningref1_Window_k0; exact gd_pos h0⟩
theorem lessRow_ex (a b : RowG) : ∃ x, gleaningref1_LessRow a b = some x := by
 unfold gleaningref1_LessRow
 split
 ·exact ⟨_, rfl⟩
 ·split
  ·exact ⟨_, rfl⟩
  ·split <;> exact ⟨_, rfl⟩
theorem of_ex (d : Int) : ∃ n : Nat, gleaningref1_Of d = some (n : Int) ∧ n ≤ 7 := by
 have h := idxS_ex (body := fun (s : Int × Int) => gleaningref1_Of_l0 d s.1 s.2) 7 (by omega) (fun i s => ∃ k : Nat, s = (k : Int) ∧ k ≤ i) (fun r => ∃ k : Nat, r = (k : Int) ∧ k ≤ 7) ?_ ?_ (s0 := 0) ⟨0, rfl, by omega⟩
 ·obtain ⟨r, h1, k, rfl, h2⟩ := h
  exact ⟨k, h1, h2⟩
 ·rintro i s hi ⟨k, rfl, hk⟩
  obtain ⟨x, hx, _⟩ := get_ex (l := ([1, 5, 10, 50, 100, 500, 1000] : List Int)) (i := i) (by simpa using hi)
  refine .inl ?_
  simp only [gleaningref1_Of_l0]
  rw [ite_t (dec_t (by simp; omega)), gd_pos (by omega), hx, Option.bind_some, w1 (by omega), w1 (by omega)]
  cases decide (x ≤ d) with
  | true => exact ⟨_, rfl, k + 1, by omega, by omega⟩
  | false => exact ⟨_, rfl, k, rfl, by omega⟩
 ·rintro s ⟨k, rfl, hk⟩
  refine ⟨(k : Int), ?_, k, rfl, hk⟩
  simp only [gleaningref1_Of_l0]
  rw [ite_f (dec_f (by simp))]
theorem cap_ex (a b c : Int) : ∃ x, gleaningref1_Cap a b c = some x := by
 unfold gleaningref1_Cap
 split
 ·exact ⟨_, rfl⟩
 ·split <;> exact ⟨_, rfl⟩
theorem cap_in (a c : Int) (hc : 0 ≤ c) : ∃ x, gleaningref1_Cap a 0 c = some x ∧ 0 ≤ x ∧ x ≤ c := by
 unfold gleaningref1_Cap
 by_cases h1 : a < 0
 ·exact ⟨0, by rw [ite_t (dec_t h1)], by omega, hc⟩
 ·rw [ite_f (dec_f h1)]
  by_cases h2 : c < a
  ·exact ⟨c, by rw [ite_t (dec_t h2)], hc, by omega⟩
  ·exact ⟨a, by rw [ite_f (dec_f h2)], by omega, by omega⟩
theorem sum_ex (a b c : Int) : ∃ x, gleaningref1_sum a b c = some x := by
 obtain ⟨m, hm⟩ := cap_ex c 0 9223372036854775807
 obtain ⟨x, hx⟩ := cap_ex a 0 m
 obtain ⟨y, hy⟩ := cap_ex b 0 m
 unfold gleaningref1_sum
 rw [hm, Option.bind_some, hx, Option.bind_some, hy, Option.bind_some]
 split <;> exact ⟨_, rfl⟩
theorem join_ex (a b : Counter) (m : Int) : ∃ c, gleaningref1_JoinCounter a b m = some c := by
 obtain ⟨x3, h3⟩ := sum_ex a.Count b.Count m
 obtain ⟨x4, h4⟩ := sum_ex a.Errs b.Errs m
 unfold gleaningref1_JoinCounter
 rw [h3, Option.bind_some, h4, Option.bind_some]
 have h := loop_exF (body := fun (s : Int × Int × Int × Int × Int × Int × Int × Int × Int) => gleaningref1_JoinCounter_l0 a b m x3 x4 s.1 s.2.1 s.2.2.1 s.2.2.2.1 s.2.2.2.2.1 s.2.2.2.2.2.1 s.2.2.2.2.2.2.1 s.2.2.2.2.2.2.2.1 s.2.2.2.2.2.2.2.2)
  (fun n s => ∃ i : Nat, s.2.2.2.2.2.2.2.2 = (i : Int) ∧ i + n = 8) (fun _ => True) ?_ (n := 8) (s := (0, 0, 0, 0, 0, 0, 0, 0, 0)) ⟨0, rfl, rfl⟩ (by omega)
 ·obtain ⟨r, h, _⟩ := h
  exact ⟨r, h⟩
 ·rintro n ⟨b0, b1, b2, b3, b4, b5, b6, b7, v⟩ ⟨i, hv, hn⟩
  obtain rfl : v = (i : Int) := hv
  simp only [gleaningref1_JoinCounter_l0]
  by_cases hi : i < 8
  ·obtain ⟨p, hp, _⟩ := get_ex (l := ([a.By.c0, a.By.c1, a.By.c2, a.By.c3, a.By.c4, a.By.c5, a.By.c6, a.By.c7] : List Int)) (i := i) (by simpa using hi)
   obtain ⟨q, hq, _⟩ := get_ex (l := ([b.By.c0, b.By.c1, b.By.c2, b.By.c3, b.By.c4, b.By.c5, b.By.c6, b.By.c7] : List Int)) (i := i) (by simpa using hi)
   obtain ⟨t, ht, _⟩ := get_ex (l := ([b0, b1, b2, b3, b4, b5, b6, b7] : List Int)) (i := i) (by simpa using hi)
   obtain ⟨u, hu⟩ := sum_ex p q m
   refine .inl ?_
   rw [ite_t (dec_t (by omega)), gd_pos (by omega), gd_pos (by omega), hp, Option.bind_some, gd_pos (by omega), gd_pos (by omega), hq, Option.bind_some, hu, Option.bind_some, gd_pos (by omega), gd_pos (by omega), ht, Option.bind_some, Option.bind_some]
   exact ⟨_, n - 1, rfl, by omega, i + 1, (w1 (by omega)).trans rfl, by omega⟩
  ·exact .inr ⟨_, by rw [ite_f (dec_f (by omega))], trivial⟩
theorem addC_ex (c : Counter) (s : Span) (m : Int) : ∃ x, gleaningref1_AddCounter c s m = some x := by
 obtain ⟨n, hn, h7⟩ := of_ex s.Dur
 obtain ⟨x, hx, _⟩ := get_ex (l := ([0, 0, 0, 0, 0, 0, 0, 0] : List Int)) (i := n) (by simp; omega)
 unfold gleaningref1_AddCounter
 rw [hn, Option.bind_some, gd_pos (by omega), gd_pos (by omega), hx, Option.bind_some, Option.bind_some]
 have key : ∀ (l : List Int) (v : Int), ∃ x, gleaningref1_AddCounter_k0 c m l v = some x := by
  intro l v
  unfold gleaningref1_AddCounter_k0
  obtain ⟨y, hy⟩ := join_ex c (Counter.mk 1 v (Arr8_Int.mk (l.getD 0 0) (l.getD 1 0) (l.getD 2 0) (l.getD 3 0) (l.getD 4 0) (l.getD 5 0) (l.getD 6 0) (l.getD 7 0))) m
  exact ⟨y, by rw [hy]; rfl⟩
 cases s.Err with
 | true => exact key _ _
 | false => exact key _ _
theorem rows_l2 (s : Span) (l : List RowG) (hl : l.length ≤ 100000) (v w : Int) : ∃ r, loopN (fun (x : Int) => gleaningref1_AddRows_l2 s l v w x) Fu 0 = some r ∧ ∃ j : Nat, r = (j : Int) ∧ j ≤ l.length := by
 refine idx_ex l.length (by omega) _ (fun i hi => ?_) ⟨(l.length : Int), ?_, l.length, rfl, by omega⟩
 ·obtain ⟨x, hx, _⟩ := get_ex hi
  obtain ⟨b, hb⟩ := lessRow_ex x (RowG.mk v w s.Service s.Op (Counter.mk 0 0 (Arr8_Int.mk 0 0 0 0 0 0 0 0)))
  simp only [gleaningref1_AddRows_l2]
  rw [ite_t (dec_t (by omega)), gd_pos (by omega), hx, Option.bind_some, hb, Option.bind_some, w1 (by omega)]
  cases b with
  | true => exact .inl rfl
  | false => exact .inr ⟨_, rfl, i, rfl, by omega⟩
 ·simp only [gleaningref1_AddRows_l2]
  rw [ite_f (dec_f (by omega))]
theorem rows_k4 (l : List RowG) (hl : l.length ≤ 100000) (j : Nat) (b : Bool) (hb : b = true → j < l.length) (hj : j ≤ l.length) : ∃ t, gleaningref1_AddRows_k4 l (j : Int) b = some t ∧ t.1.length ≤ l.length ∧ j ≤ t.1.length := by
 unfold gleaningref1_AddRows_k4
 cases b with
 | false => exact ⟨_, rfl, Nat.le_refl _, hj⟩
 | true =>
  have h := hb rfl
  obtain ⟨x, hx, _⟩ := get_ex h
  have e : IntKind.i64.wrap ((j : Int) + 1) = ((j + 1 : Nat) : Int) := by rw [w1 (by omega)]; rfl
  rw [if_pos rfl, gd_pos (by omega), hx, Option.bind_some, gd_pos (by omega), gd_pos (by omega), e, Int.toNat_natCast, Int.toNat_natCast, gd_pos (fit (by simp; omega) (by omega)), gd_pos (by omega), gd_pos (by omega), gd_pos (fit (by simp; omega) (by omega))]
  exact ⟨_, rfl, by simp; omega, by simp; omega⟩
theorem rows_k1 (s : Span) (m : Int) (l : List RowG) (hl : l.length ≤ 100000) (i : Nat) (hi : i < 3) (w : Int) (j : Nat) (hj : j ≤ l.length) : ∃ l', gleaningref1_AddRows_k1 s m l (i : Int) w (j : Int) = some (.inl (l', (i : Int) + 1)) ∧ l'.length ≤ l.length + 1 := by
 unfold gleaningref1_AddRows_k1
 have h0 : ∃ b, (if (decide ((j : Int) < (List.length l : Int))) = true then (gd (0 ≤ (j : Int)) (Option.bind (l[(Int.toNat (j : Int))]?) (fun (x36 : RowG) => Option.bind (gleaningref1_LessRow (RowG.mk (i : Int) w s.Service s.Op (Counter.mk 0 0 (Arr8_Int.mk 0 0 0 0 0 0 0 0))) x36) (fun (x37 : Bool) => some (!x37))))) else (some false)) = some b ∧ (b = true → j < l.length) := by
  by_cases h : j < l.length
  ·obtain ⟨x, hx, _⟩ := get_ex h
   obtain ⟨b, hb⟩ := lessRow_ex (RowG.mk (i : Int) w s.Service s.Op (Counter.mk 0 0 (Arr8_Int.mk 0 0 0 0 0 0 0 0))) x
   exact ⟨!b, by rw [ite_t (dec_t (by omega)), gd_pos (by omega), hx, Option.bind_some, hb]; rfl, fun _ => h⟩
  ·exact ⟨false, by rw [ite_f (dec_f (by omega))], fun h => by cases h⟩
 obtain ⟨b, hb, hb2⟩ := h0
 obtain ⟨t, ht, t1, t2⟩ := rows_k4 l hl j b hb2 hj
 rw [hb, Option.bind_some, ht, Option.bind_some]
 unfold gleaningref1_AddRows_k3
 obtain ⟨c, hc⟩ := addC_ex (Counter.mk t.2.1 t.2.2.1 (Arr8_Int.mk t.2.2.2.1 t.2.2.2.2.1 t.2.2.2.2.2.1 t.2.2.2.2.2.2.1 t.2.2.2.2.2.2.2.1 t.2.2.2.2.2.2.2.2.1 t.2.2.2.2.2.2.2.2.2.1 t.2.2.2.2.2.2.2.2.2.2)) s m
 rw [hc, Option.bind_some, gd_pos (by omega), gd_pos (by omega), Int.toNat_natCast, gd_pos (fit (by simp; omega) (by omega)), gd_pos (fit (by simp; omega) (by omega)), gd_pos (by omega), gd_pos (by omega), gd_pos (fit (by simp; omega) (by omega)), w1 (by omega)]
 exact ⟨_, rfl, by simp; omega⟩
theorem addRows_ex (l : List RowG) (hl : l.length ≤ 90000) (s : Span) (m : Int) : ∃ l', gleaningref1_AddRows l s m = some l' ∧ l'.length ≤ l.length + 3 := by
 unfold gleaningref1_AddRows
 rw [xright_spec, Option.bind_some]
 cases rightS s with
 | false => exact ⟨l, by rw [ite_t (by rfl), gd_pos (fit (by omega) (by omega))], by omega⟩
 | true =>
  rw [if_neg (by simp)]
  refine idxS_ex (body := fun (x : List RowG × Int) => gleaningref1_AddRows_l0 s m x.1 x.2) 3 (by omega) (fun i x => x.length ≤ l.length + i) (fun r => r.length ≤ l.length + 3) ?_ ?_ (s0 := l) (by omega)
  ·intro i x hi hx
   obtain ⟨w, hw⟩ := window_ex hi s.Start
   obtain ⟨r, hr, j, rfl, hj⟩ := rows_l2 s x (by omega) (i : Int) w
   obtain ⟨l', h1, h2⟩ := rows_k1 s m x (by omega) i hi w j hj
   refine .inl ⟨l', ?_, by omega⟩
   simp only [gleaningref1_AddRows_l0]
   rw [ite_t (dec_t (by omega)), hw, Option.bind_some, hr, Option.bind_some, h1]
  ·intro x hx
   exact ⟨x, by simp only [gleaningref1_AddRows_l0]; rw [ite_f (dec_f (by omega))], hx⟩
end Go.Proofs.YtbaibpjffcahiaaGreat.Ab
