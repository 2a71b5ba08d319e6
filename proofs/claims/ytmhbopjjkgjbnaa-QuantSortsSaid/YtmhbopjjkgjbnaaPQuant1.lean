/- More of quantiles: buckets, and where it is that there is enough. -/
import Derived.Test.YtmhbopjjkgjbnaaXQSorts
import Derived.Test.YtmhbopjjkgjbnaaPQuant0
namespace Go.Proofs.Ytmhbopjjkgjbnaa.Ab
open Go Go.RowKit
set_option linter.unusedVariables false
set_option linter.unusedSimpArgs false

def thr : List Int := [1, 5, 10, 50, 100, 500, 1000]
def ofN (d : Int) : Nat := (thr.filter (fun x => decide (x ≤ d))).length
theorem of_spec (d : Int) : gleaningref1_Of d = some (ofN d : Int) := by
  have hlen : thr.length = 7 := rfl
  refine loop_list (l := thr) (fun k r s => s = (((((thr.take k).filter (fun x => decide (x ≤ d))).length : Nat) : Int), (k : Int)) ∧ r = (ofN d : Int)) (by decide) ?_ ?_ ⟨rfl, rfl⟩
  · rintro k hk r s ⟨rfl, rfl⟩
    have hx : ([1, 5, 10, 50, 100, 500, 1000] : List Int)[k]? = some (thr[k]'hk) := List.getElem?_eq_getElem hk
    have hs := List.take_succ_eq_append_getElem hk
    revert hx hs
    generalize thr[k]'hk = t
    intro hx hs
    have hle := List.length_filter_le (fun x => decide (x ≤ d)) (thr.take k)
    rw [List.length_take] at hle
    have hk7 : k < 7 := hk
    have hk9 : (k : Int) < (List.length [1, 5, 10, 50, 100, 500, 1000] : Int) := by show (k : Int) < 7; omega
    refine .inl ⟨_, ?_, rfl, rfl⟩
    rw [hs, List.filter_append, List.length_append]
    simp only [gleaningref1_Of_l0]
    rw [ite_t (dec_t hk9), gd_pos (by omega), Int.toNat_natCast, hx, Option.bind_some, ksuccQ (k := k) (by omega)]
    by_cases h : t ≤ d
    · have e : [t].filter (fun x => decide (x ≤ d)) = [t] := by simp [h]
      rw [ite_t (dec_t h), ksuccQ (by omega), e]; rfl
    · have e : [t].filter (fun x => decide (x ≤ d)) = [] := by simp [h]
      rw [ite_f (dec_f h), e]; rfl
  · rintro r s ⟨rfl, rfl⟩
    rfl
theorem ofN_le (d : Int) : ofN d ≤ 7 := List.length_filter_le _ thr
theorem filter_mono {α : Type} {p q : α → Bool} (h : ∀ x, p x = true → q x = true) : ∀ l : List α, (l.filter p).length ≤ (l.filter q).length
  | [] => Nat.le_refl _
  | x :: r => by
    have ih := filter_mono h r
    cases hp : p x with
    | true => rw [List.filter_cons_of_pos hp, List.filter_cons_of_pos (h x hp)]; simp only [List.length_cons]; omega
    | false =>
      rw [List.filter_cons_of_neg (by rw [hp]; decide)]
      cases hq : q x with
      | true => rw [List.filter_cons_of_pos hq]; simp only [List.length_cons]; omega
      | false => rw [List.filter_cons_of_neg (by rw [hq]; decide)]; exact ih
theorem ofN_mono {a b : Int} (h : a ≤ b) : ofN a ≤ ofN b := filter_mono (fun x hx => by have := of_decide_eq_true hx; exact decide_eq_true (by omega)) thr
theorem ofN_low : ∀ k : Nat, k < 8 → ofN (low8.getD k 0) = k := by decide
theorem low_mono : ∀ j k : Nat, k < 8 → j ≤ k → low8.getD j 0 ≤ low8.getD k 0 := by
  intro j k hk hj
  have : ∀ k : Nat, k < 8 → ∀ j : Nat, j < k + 1 → low8.getD j 0 ≤ low8.getD k 0 := by decide
  exact this k hk j (by omega)
theorem qIdx_lt {c : Int → Bool} : ∀ {l : List Int} {n : Int} {k : Nat}, qIdx c l n = some k → k < l.length
  | [], n, k, h => by cases h
  | x :: r, n, k, h => by
    rw [qIdx] at h
    split at h
    · injection h with h; subst h; simp
    · rw [Option.map_eq_some_iff] at h
      obtain ⟨j, h1, rfl⟩ := h
      have := qIdx_lt h1
      simp only [List.length_cons]; omega
theorem qIdx_mono {c d : Int → Bool} (h : ∀ n, d n = true → c n = true) : ∀ {l : List Int} {n : Int} {k : Nat}, qIdx d l n = some k → ∃ j, j ≤ k ∧ qIdx c l n = some j
  | [], n, k, hk => by cases hk
  | x :: r, n, k, hk => by
    rw [qIdx] at hk ⊢
    by_cases hc : c (satp n x) = true
    · exact ⟨0, Nat.zero_le _, by rw [if_pos hc]⟩
    · rw [if_neg hc]
      rw [if_neg (fun hd => hc (h _ hd)), Option.map_eq_some_iff] at hk
      obtain ⟨i, h1, rfl⟩ := hk
      obtain ⟨j, h2, h3⟩ := qIdx_mono h h1
      exact ⟨j + 1, by omega, by rw [h3]; rfl⟩
theorem qIdx_ex {c : Int → Bool} : ∀ {l : List Int} {n : Int}, c n = false → c (l.foldl satp n) = true → ∃ k, qIdx c l n = some k
  | [], n, h0, h1 => by rw [List.foldl_nil, h0] at h1; cases h1
  | x :: r, n, h0, h1 => by
    rw [qIdx]
    by_cases hc : c (satp n x) = true
    · exact ⟨0, by rw [if_pos hc]⟩
    · rw [if_neg hc]
      obtain ⟨k, hk⟩ := qIdx_ex (l := r) (n := satp n x) (by simpa using hc) h1
      exact ⟨k + 1, by rw [hk]; rfl⟩
theorem qIdx_pos {c : Int → Bool} : ∀ {l : List Int} {n : Int} {k : Nat}, N63 n → (∀ x ∈ l, I63 x) → c n = false → qIdx c l n = some k → 0 < l.getD k 0
  | [], n, k, _, _, _, h => by cases h
  | x :: r, n, k, hn, hl, h0, h => by
    rw [qIdx] at h
    by_cases hc : c (satp n x) = true
    · rw [if_pos hc] at h
      injection h with h; subst h
      show 0 < x
      by_cases hx : 0 < x
      · exact hx
      · rw [satp_id hn (by omega), h0] at hc; cases hc
    · rw [if_neg hc, Option.map_eq_some_iff] at h
      obtain ⟨j, h1, rfl⟩ := h
      have := qIdx_pos (satp_n hn.i (hl x (List.mem_cons_self ..))) (fun y hy => hl y (List.mem_cons_of_mem _ hy)) (by simpa using hc) h1
      simpa using this
theorem qIdx_first {c : Int → Bool} : ∀ {l : List Int} {n : Int} {k : Nat}, k < l.length → c ((l.take (k + 1)).foldl satp n) = true → (∀ j, j < k → c ((l.take (j + 1)).foldl satp n) = false) → qIdx c l n = some k
  | [], n, k, h, _, _ => by cases h
  | x :: r, n, 0, _, h1, _ => by
    rw [qIdx, if_pos (by simpa using h1)]
  | x :: r, n, k + 1, h, h1, h2 => by
    have h0 := h2 0 (by omega)
    rw [qIdx, if_neg (by rw [show satp n x = ((x :: r).take (0 + 1)).foldl satp n by simp, h0]; decide)]
    rw [qIdx_first (l := r) (n := satp n x) (k := k) (by simpa using h) (by simpa using h1) (fun j hj => by have := h2 (j + 1) (by omega); simpa using this)]
    rfl
theorem enough_0 (p T : Int) : enough p T 0 = false := by simp [enough]
end Go.Proofs.Ytmhbopjjkgjbnaa.Ab
