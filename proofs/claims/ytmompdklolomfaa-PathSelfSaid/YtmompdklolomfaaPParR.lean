/- Each one's parent: the document's answer is the program's. -/
import Derived.Test.YtmompdklolomfaaXRefP
import Derived.Test.YtmompdklolomfaaPStb
namespace Go.Proofs.Ytmompdklolomfaa.Ab
open Go Go.RowKit
set_option linter.unusedVariables false
set_option linter.unusedSimpArgs false
theorem pigeon : ∀ (k m : Nat) (f : Nat → Nat), (∀ j, j < m → f j < k) → k < m → ∃ a b, a < b ∧ b < m ∧ f a = f b
 | 0, m, f, h, hm => absurd (h 0 hm) (Nat.not_lt_zero _)
 | k + 1, m, f, h, hm => by
  by_cases hx : ∃ j, j < m - 1 ∧ f j = f (m - 1)
  ·obtain ⟨j, h1, h2⟩ := hx
   exact ⟨j, m - 1, h1, by omega, h2⟩
  ·have hne : ∀ j, j < m - 1 → f j ≠ f (m - 1) := fun j h1 h2 => hx ⟨j, h1, h2⟩
   obtain ⟨a, b, h1, h2, h3⟩ := pigeon k (m - 1) (fun j => if f j = k then f (m - 1) else f j) (fun j hj => by
    have h4 := h j (by omega)
    have h5 := h (m - 1) (by omega)
    have h6 := hne j hj
    split <;> omega) (by omega)
   have ha := hne a (by omega)
   have hb := hne b h2
   refine ⟨a, b, h1, by omega, ?_⟩
   split at h3 <;> split at h3 <;> omega
def hitP (l : List Span) (i k : Nat) : Bool := k != i && (match l[k]?, l[i]? with | some x, some y => decide (x.Id = y.Parent) | _, _ => false)
def namedF (l : List Span) (i : Nat) : Int := match (List.range l.length).find? (hitP l i) with | some k => (k : Int) | none => -1
def upF (l : List Span) : List Int := (List.range l.length).map (namedF l)
theorem named_hit {l : List Span} {i k : Nat} (hk : k < l.length) (h : hitP l i k = true) (h0 : ∀ j, j < k → hitP l i j = false) : namedF l i = (k : Int) := by
 have : (List.range l.length).find? (hitP l i) = some k := by
  rw [List.find?_range_eq_some]
  exact ⟨h, by simpa using hk, fun j hj => by simp [h0 j hj]⟩
 simp only [namedF, this]
theorem named_none {l : List Span} {i : Nat} (h0 : ∀ j, j < l.length → hitP l i j = false) : namedF l i = -1 := by
 have : (List.range l.length).find? (hitP l i) = none := by
  rw [List.find?_range_eq_none]
  intro j hj
  simp [h0 j hj]
 simp only [namedF, this]
theorem named_rng (l : List Span) (i : Nat) : namedF l i = -1 ∨ ∃ k : Nat, k < l.length ∧ namedF l i = (k : Int) := by
 unfold namedF
 cases h : (List.range l.length).find? (hitP l i) with
 | none => exact .inl rfl
 | some k =>
  rw [List.find?_range_eq_some] at h
  exact .inr ⟨k, by simpa using h.2.1, rfl⟩
theorem hit_get {l : List Span} {i k : Nat} {x y : Span} (hx : l[k]? = some x) (hy : l[i]? = some y) : hitP l i k = (k != i && decide (x.Id = y.Parent)) := by simp only [hitP, hx, hy]
theorem ne_cast {k i : Nat} : (((k : Int)) != (i : Int)) = (k != i) := by
 rw [Bool.eq_iff_iff]; simp; omega
theorem tnamed_spec (l : List Span) (hl : l.length ≤ 10000) (i : Nat) (hi : i < l.length) : tree_named l (i : Int) = some (namedF l i) := by
 obtain ⟨y, hy, _⟩ := get_ex hi
 rw [Int.toNat_natCast] at hy
 unfold tree_named
 refine loop_fu (fun n s r => ∃ k : Nat, s = (k : Int) ∧ k + n = l.length ∧ (∀ j, j < k → hitP l i j = false) ∧ r = namedF l i) ?_ (n := l.length) ⟨0, rfl, by omega, fun j h => by omega, rfl⟩ (by omega)
 rintro n s r ⟨k, rfl, hk, h0, rfl⟩
 show (∃ s' m, tree_named_l0 l (i : Int) (k : Int) = _ ∧ _) ∨ tree_named_l0 l (i : Int) (k : Int) = _
 unfold tree_named_l0
 by_cases hlt : k < l.length
 ·obtain ⟨x, hx, _⟩ := get_ex hlt
  rw [Int.toNat_natCast] at hx
  have hh := hit_get hx hy
  rw [ite_t (lt_d hlt), gd_pos (by omega), Int.toNat_natCast, hx, Option.bind_some, ne_cast, wp1 (by omega)]
  have next : hitP l i k = false → ∀ j, j < k + 1 → hitP l i j = false := fun h j hj => by
   by_cases e : j = k
   ·rw [e]; exact h
   ·exact h0 j (by omega)
  cases hne : k != i with
  | false =>
   rw [hne, Bool.false_and] at hh
   rw [ite_ff]
   exact .inl ⟨_, n - 1, rfl, by omega, k + 1, rfl, by omega, next hh, rfl⟩
  | true =>
   rw [hne, Bool.true_and] at hh
   rw [ite_tt, gd_pos (by omega), Int.toNat_natCast, hy, Option.bind_some]
   by_cases he : x.Id = y.Parent
   ·rw [ite_t (by simpa using he)]
    rw [dec_t he] at hh
    right; rw [named_hit hlt hh h0]
   ·rw [ite_f (by simpa using he)]
    rw [dec_f he] at hh
    exact .inl ⟨_, n - 1, rfl, by omega, k + 1, rfl, by omega, next hh, rfl⟩
 ·rw [ite_f (lt_n hlt), named_none fun j hj => h0 j (by omega)]
  exact .inr rfl
def gU (up : List Int) (x : Int) : Int := if 0 ≤ x then (up[x.toNat]?).getD (-1) else -1
def rcF (up : List Int) (i : Int) : Nat → Int → Bool
 | 0, _ => false
 | k + 1, a => if a = i then true else if a < i then false else rcF up i k (gU up a)
def itU (up : List Int) : Nat → Int → Int
 | 0, a => a
 | k + 1, a => itU up k (gU up a)
theorem itU_add (up : List Int) : ∀ (j k : Nat) (a : Int), itU up (j + k) a = itU up k (itU up j a)
 | 0, k, a => by rw [Nat.zero_add]; rfl
 | j + 1, k, a => by rw [show j + 1 + k = (j + k) + 1 by omega]; exact itU_add up j k (gU up a)
theorem itU_succ (up : List Int) (k : Nat) (a : Int) : itU up (k + 1) a = gU up (itU up k a) := itU_add up k 1 a
theorem rc_iff (up : List Int) (i : Int) : ∀ (K : Nat) (a : Int), rcF up i K a = true ↔ ∃ k, k < K ∧ itU up k a = i ∧ ∀ j, j < k → i < itU up j a
 | 0, a => by simp [rcF]
 | K + 1, a => by
  simp only [rcF]
  by_cases h1 : a = i
  ·rw [if_pos h1]
   exact ⟨fun _ => ⟨0, by omega, h1, fun j h => by omega⟩, fun _ => rfl⟩
  ·rw [if_neg h1]
   by_cases h2 : a < i
   ·rw [if_pos h2]
    refine ⟨fun h => (by cases h), ?_⟩
    rintro ⟨k, hk, h3, h4⟩
    cases k with
    | zero => exact absurd h3 h1
    | succ k => have := h4 0 (by omega); exact absurd (show i < a from this) (by omega)
   ·rw [if_neg h2, rc_iff up i K]
    constructor
    ·rintro ⟨k, hk, h3, h4⟩
     refine ⟨k + 1, by omega, h3, fun j hj => ?_⟩
     cases j with
     | zero => show i < a; omega
     | succ j => exact h4 j (by omega)
    ·rintro ⟨k, hk, h3, h4⟩
     cases k with
     | zero => exact absurd h3 h1
     | succ k => exact ⟨k, by omega, h3, fun j hj => h4 (j + 1) (by omega)⟩
def UpOk (up : List Int) : Prop := ∀ x ∈ up, x = -1 ∨ (0 ≤ x ∧ x < (up.length : Int))
theorem gU_rng {up : List Int} (h : UpOk up) (x : Int) : gU up x = -1 ∨ (0 ≤ gU up x ∧ gU up x < (up.length : Int)) := by
 unfold gU
 split
 ·cases hx : up[x.toNat]? with
  | none => exact .inl rfl
  | some y => exact h y (List.mem_of_getElem? hx)
 ·exact .inl rfl
theorem itU_rng {up : List Int} (h : UpOk up) (k : Nat) (x : Int) : itU up k (gU up x) = -1 ∨ (0 ≤ itU up k (gU up x) ∧ itU up k (gU up x) < (up.length : Int)) := by
 have : itU up k (gU up x) = gU up (itU up k x) := itU_succ up k x
 rw [this]; exact gU_rng h _
theorem rc_stab {up : List Int} (h : UpOk up) {i : Int} (hi : 0 ≤ i) : rcF up i (up.length + 1) (gU up i) = rcF up i up.length (gU up i) := by
 rw [Bool.eq_iff_iff, rc_iff, rc_iff]
 constructor
 ·rintro ⟨k, hk, h1, h2⟩
  by_cases e : k = up.length
  ·exfalso
   have hr : ∀ j, j < k → 0 < itU up j (gU up i) ∧ itU up j (gU up i) < (up.length : Int) := fun j hj => by
    have h3 := h2 j hj
    rcases itU_rng h j i with h4 | h4 <;> omega
   have hpos : 0 < up.length := by
    rcases Nat.eq_zero_or_pos up.length with h0 | h0
    ·exfalso
     rw [h0] at e
     subst e
     rcases gU_rng h i with h4 | h4
     ·have : itU up 0 (gU up i) = gU up i := rfl
      omega
     ·omega
    ·exact h0
   obtain ⟨a, b, p1, p2, p3⟩ := pigeon (up.length - 1) up.length (fun j => (itU up j (gU up i)).toNat - 1) (fun j hj => by have := hr j (by omega); omega) (by omega)
   have ha := hr a (by omega)
   have hb := hr b (by omega)
   have hab : itU up a (gU up i) = itU up b (gU up i) := by omega
   have h5 : itU up (a + (k - b)) (gU up i) = i := by
    rw [itU_add, hab, ← itU_add, show b + (k - b) = k by omega]; exact h1
   have := h2 (a + (k - b)) (by omega)
   omega
  ·exact ⟨k, by omega, h1, h2⟩
 ·rintro ⟨k, hk, h1, h2⟩
  exact ⟨k, by omega, h1, h2⟩
def cutB (up : List Int) (i : Nat) : Bool := rcF up (i : Int) up.length (gU up (i : Int))
theorem gU_at {up : List Int} {k : Nat} {x : Int} (h : up[k]? = some x) : gU up (k : Int) = x := by
 unfold gU
 rw [if_pos (by omega), Int.toNat_natCast, h]; rfl
theorem ring_spec {up : List Int} (h : UpOk up) (hl : up.length ≤ 10000) {i : Nat} (hi : i < up.length) : ∃ r, tree_ring up (i : Int) = some r ∧ (r == (i : Int)) = cutB up i := by
 obtain ⟨x, hx, hxm⟩ := get_ex hi
 unfold tree_ring
 rw [gd_pos (by omega), hx, Option.bind_some]
 rw [Int.toNat_natCast] at hx
 unfold cutB
 rw [gU_at hx]
 have key : ∀ (m : Nat) (least k : Int) (c N : Nat), c + m = up.length → least ≤ (i : Int) → (k = -1 ∨ (0 ≤ k ∧ k < (up.length : Int))) → m < N →
   ∃ r, loopN (fun (s : Int × Int × Int) => tree_ring_l0 up (i : Int) s.1 s.2.1 s.2.2) N (least, k, (c : Int)) = some r ∧ (r = -1 ∨ r ≤ least) ∧ (r == (i : Int)) = (decide (least = (i : Int)) && rcF up (i : Int) m k) := by
  intro m
  induction m with
  | zero =>
   intro least k c N hc hle hk hN
   obtain ⟨N, rfl⟩ : ∃ M, N = M + 1 := ⟨N - 1, by omega⟩
   refine ⟨-1, loop_r ?_, .inl rfl, ?_⟩
   ·show tree_ring_l0 up (i : Int) least k (c : Int) = _
    unfold tree_ring_l0
    rcases Classical.em (k = -1) with e | e
    ·rw [e]; rfl
    ·rw [ite_t (by simpa using e), ite_f (lt_n (by omega))]; rfl
   ·simp only [rcF, Bool.and_false, beq_eq_false_iff_ne]; omega
  | succ m ih =>
   intro least k c N hc hle hk hN
   obtain ⟨N, rfl⟩ : ∃ M, N = M + 1 := ⟨N - 1, by omega⟩
   rcases hk with e | ⟨hk0, hk1⟩
   ·subst e
    refine ⟨-1, loop_r ?_, .inl rfl, ?_⟩
    ·show tree_ring_l0 up (i : Int) least (-1) (c : Int) = _
     unfold tree_ring_l0
     rfl
    ·have : rcF up (i : Int) (m + 1) (-1) = false := by
      simp only [rcF]
      rw [if_neg (by omega), if_pos (by omega)]
     rw [this, Bool.and_false, beq_eq_false_iff_ne]; omega
   ·have hne : (k != -1) = true := by simp; omega
    by_cases e : k = (i : Int)
    ·refine ⟨least, loop_r ?_, .inr (Int.le_refl _), ?_⟩
     ·show tree_ring_l0 up (i : Int) least k (c : Int) = _
      unfold tree_ring_l0
      rw [ite_t hne, ite_t (lt_d (by omega)), Option.bind_some]
      show tree_ring_k1 _ _ _ _ _ = _
      unfold tree_ring_k1
      rw [ite_t (by simpa using e)]
     ·simp only [rcF, if_pos e, Bool.and_true]
      rw [Bool.eq_iff_iff]; simp
    ·obtain ⟨y, hy, hym⟩ : ∃ y, up[k.toNat]? = some y ∧ y ∈ up := ⟨_, List.getElem?_eq_getElem (by omega), List.getElem_mem _⟩
     have hgk : gU up k = y := by unfold gU; rw [if_pos hk0, hy]; rfl
     have hb : tree_ring_l0 up (i : Int) least k (c : Int) = some (.inl ((if k < least then k else least), y, ((c + 1 : Nat) : Int))) := by
      unfold tree_ring_l0
      rw [ite_t hne, ite_t (lt_d (by omega)), Option.bind_some]
      show tree_ring_k1 _ _ _ _ _ = _
      unfold tree_ring_k1
      rw [ite_f (by simpa using e), gd_pos hk0, hy, Option.bind_some, wp1 (by omega)]
     obtain ⟨r, r1, r2, r3⟩ := ih (if k < least then k else least) y (c + 1) N (by omega) (by split <;> omega) (h y hym) (by omega)
     refine ⟨r, by rw [loop_l hb]; exact r1, ?_, ?_⟩
     ·rcases r2 with r2 | r2
      ·exact .inl r2
      ·right; split at r2 <;> omega
     ·rw [r3]
      simp only [rcF, if_neg e, hgk]
      by_cases hlt : k < (i : Int)
      ·rw [if_pos hlt, Bool.and_false, Bool.and_eq_false_iff]
       left; rw [decide_eq_false_iff_not]; split <;> omega
      ·rw [if_neg hlt]
       congr 2
       rw [if_neg (by omega)]
 obtain ⟨r, r1, _, r3⟩ := key up.length (i : Int) x 0 Fu (by omega) (Int.le_refl _) (h x hxm) (by rw [fu_eq]; omega)
 refine ⟨r, r1, ?_⟩
 rw [r3]; simp
def parF (l : List Span) : List Int := (List.range l.length).map fun i => if cutB (upF l) i = true then -1 else namedF l i
theorem upF_len (l : List Span) : (upF l).length = l.length := by simp [upF]
theorem upF_ok (l : List Span) : UpOk (upF l) := by
 intro x hx
 obtain ⟨i, _, rfl⟩ := List.mem_map.1 hx
 rw [upF_len]
 rcases named_rng l i with h | ⟨k, h1, h2⟩
 ·exact .inl h
 ·right; rw [h2]; omega
theorem upF_at {l : List Span} {i : Nat} (h : i < l.length) : (upF l)[i]? = some (namedF l i) := by simp [upF, h]
theorem clone_id {l : List Int} (hl : l.length ≤ 10000) : slices_Clone_int l = some l := by
 unfold slices_Clone_int
 have hp : ([] ++ l).length * 8 ≤ 140737488355328 ∧ ([] ++ l).length ≤ 140737488355328 := by simp only [List.nil_append]; omega
 rw [gd_pos hp]
 cases l with
 | nil => rfl
 | cons x r => rfl
theorem fitI {n : Nat} (h : n ≤ 100000) : n * 8 ≤ 140737488355328 ∧ n ≤ 140737488355328 := by omega
theorem map_set_range {α : Type} {f : Nat → α} {n i : Nat} (g : Nat → α) (hi : i < n) : (((List.range i).map g ++ (List.range' i (n - i)).map f).set i (g i)) = (List.range (i + 1)).map g ++ (List.range' (i + 1) (n - (i + 1))).map f := by
 have : n - i = (n - (i + 1)) + 1 := by omega
 rw [this, List.range'_succ, List.map_cons, set_mid _ _ _ _ (by simp), List.range_succ, List.map_append]
 simp
theorem tparents_spec (l : List Span) (hl : l.length ≤ 10000) : tree_Parents l = some (parF l) := by
 unfold tree_Parents
 have h1 : loopN (fun (s : List Int × Int) => tree_Parents_l1 l s.1 s.2) Fu ([], 0) = some (upF l) := by
  refine loop_fu (fun n s r => ∃ k : Nat, s = ((List.range k).map (namedF l), (k : Int)) ∧ k + n = l.length ∧ r = upF l) ?_ (n := l.length) ⟨0, rfl, by omega, rfl⟩ (by omega)
  rintro n s r ⟨k, rfl, hk, rfl⟩
  show (∃ s' m, tree_Parents_l1 l _ (k : Int) = _ ∧ _) ∨ tree_Parents_l1 l _ (k : Int) = _
  unfold tree_Parents_l1
  by_cases hlt : k < l.length
  ·rw [ite_t (lt_d hlt), tnamed_spec l hl k hlt, Option.bind_some, gd_pos (fitI (by simp; omega)), wp1 (by omega)]
   exact .inl ⟨_, n - 1, rfl, by omega, k + 1, by rw [List.range_succ, List.map_append]; rfl, by omega, rfl⟩
  ·rw [ite_f (lt_n hlt)]
   right
   rw [show k = l.length by omega]; rfl
 rw [h1, Option.bind_some]
 unfold tree_Parents_k0
 rw [clone_id (by rw [upF_len]; exact hl), Option.bind_some]
 refine loop_fu (fun n s r => ∃ k : Nat, s = ((List.range k).map (fun i => if cutB (upF l) i = true then -1 else namedF l i) ++ (List.range' k (l.length - k)).map (namedF l), (k : Int)) ∧ k + n = l.length ∧ r = parF l) ?_ (n := l.length) ⟨0, by simp [upF, List.range_eq_range'], by omega, rfl⟩ (by omega)
 rintro n s r ⟨k, rfl, hk, rfl⟩
 show (∃ s' m, tree_Parents_l2 l (upF l) _ (k : Int) = _ ∧ _) ∨ tree_Parents_l2 l (upF l) _ (k : Int) = _
 unfold tree_Parents_l2
 by_cases hlt : k < l.length
 ·obtain ⟨r, r1, r2⟩ := ring_spec (upF_ok l) (by rw [upF_len]; exact hl) (i := k) (by rw [upF_len]; exact hlt)
  rw [ite_t (lt_d hlt), r1, Option.bind_some, r2, wp1 (by omega)]
  have hs := map_set_range (f := namedF l) (n := l.length) (i := k) (fun i => if cutB (upF l) i = true then -1 else namedF l i) hlt
  have hg : ((List.range k).map (fun i => if cutB (upF l) i = true then -1 else namedF l i) ++ (List.range' k (l.length - k)).map (namedF l))[k]? = some (namedF l k) := by
   rw [show l.length - k = (l.length - (k + 1)) + 1 by omega, List.range'_succ, List.map_cons]
   exact get_mid _ _ _ (by simp)
  cases hc : cutB (upF l) k with
  | true =>
   rw [ite_tt, gd_pos (by omega), Int.toNat_natCast, hg, Option.bind_some]
   refine .inl ⟨_, n - 1, rfl, by omega, k + 1, ?_, by omega, rfl⟩
   rw [← hs]; dsimp only; rw [hc, ite_tt]
  | false =>
   rw [ite_ff]
   refine .inl ⟨_, n - 1, rfl, by omega, k + 1, ?_, by omega, rfl⟩
   rw [← hs]
   dsimp only
   rw [hc, ite_ff]
   congr 1
   symm
   obtain ⟨h5, h6⟩ := List.getElem?_eq_some_iff.1 hg
   rw [← h6]; exact List.set_getElem_self h5
 ·rw [ite_f (lt_n hlt)]
  right
  rw [show k = l.length by omega, Nat.sub_self]
  simp [parF]
end Go.Proofs.Ytmompdklolomfaa.Ab
namespace Go.Proofs.Ytmompdklolomfaa.Ab
open Go Go.RowKit
set_option linter.unusedVariables false
set_option linter.unusedSimpArgs false
def From (l : List Span) (i j : Nat) (v : Int) : Prop := (v = -1 ∧ ∀ k, j ≤ k → k < l.length → hitP l i k = false) ∨ ∃ k, j ≤ k ∧ k < l.length ∧ hitP l i k = true ∧ (∀ q, j ≤ q → q < k → hitP l i q = false) ∧ v = (k : Int)
theorem from_0 {l : List Span} {i : Nat} {v : Int} (h : From l i 0 v) : v = namedF l i := by
 rcases h with ⟨rfl, h⟩ | ⟨k, _, h1, h2, h3, rfl⟩
 ·exact (named_none fun j hj => h j (Nat.zero_le _) hj).symm
 ·exact (named_hit h1 h2 fun j hj => h3 j (Nat.zero_le _) hj).symm
theorem from_t {l : List Span} {i j : Nat} {v : Int} (hj : j < l.length) (hh : hitP l i j = true) : From l i j (j : Int) := .inr ⟨j, Nat.le_refl _, hj, hh, fun q h1 h2 => by omega, rfl⟩
theorem from_f {l : List Span} {i j : Nat} {v : Int} (h : From l i (j + 1) v) (hh : hitP l i j = false) : From l i j v := by
 rcases h with ⟨rfl, h⟩ | ⟨k, h0, h1, h2, h3, rfl⟩
 ·left
  refine ⟨rfl, fun k h1 h2 => ?_⟩
  by_cases e : k = j
  ·rw [e]; exact hh
  ·exact h k (by omega) h2
 ·right
  refine ⟨k, by omega, h1, h2, fun q h4 h5 => ?_, rfl⟩
  by_cases e : q = j
  ·rw [e]; exact hh
  ·exact h3 q (by omega) h5
theorem set_set {l : List Int} {i : Nat} {x y : Int} : (l.set i x).set i y = l.set i y := List.set_set ..
theorem rinner (l : List Span) (hl : l.length ≤ 10000) {i : Nat} (hi : i < l.length) (base : List Int) (hb : i < base.length) : loopN (fun (s : List Int × Int) => gleaningref28_Parents_l2 l (i : Int) s.1 s.2) Fu (base.set i (-1), IntKind.i64.wrap ((l.length : Int) - 1)) = some (.inl (base.set i (namedF l i), ((i + 1 : Nat) : Int))) := by
 obtain ⟨y, hy, _⟩ := get_ex hi
 rw [Int.toNat_natCast] at hy
 rw [wn (i := l.length - 1) (by omega) (by omega)]
 refine loop_fu (fun n s r => ∃ v : Int, s = (base.set i v, (n : Int) - 1) ∧ n ≤ l.length ∧ From l i n v ∧ r = .inl (base.set i (namedF l i), ((i + 1 : Nat) : Int))) ?_ (n := l.length) ⟨-1, by rw [show (l.length : Int) - 1 = ((l.length - 1 : Nat) : Int) by omega], Nat.le_refl _, .inl ⟨rfl, fun k h1 h2 => by omega⟩, rfl⟩ (by omega)
 rintro n s r ⟨v, rfl, hn, hv, rfl⟩
 show (∃ s' m, gleaningref28_Parents_l2 l (i : Int) (base.set i v) ((n : Int) - 1) = _ ∧ _) ∨ gleaningref28_Parents_l2 l (i : Int) (base.set i v) ((n : Int) - 1) = _
 unfold gleaningref28_Parents_l2
 cases n with
 | zero =>
  rw [ite_f (dec_f (by omega)), wp1 (by omega), from_0 hv]
  exact .inr rfl
 | succ n =>
  obtain ⟨x, hx, _⟩ := get_ex (l := l) (i := n) (by omega)
  rw [Int.toNat_natCast] at hx
  have hh := hit_get hx hy
  rw [show ((n + 1 : Nat) : Int) - 1 = (n : Int) by omega, ite_t (dec_t (by omega)), ne_cast]
  have hk : gleaningref28_Parents_k3 (i : Int) (base.set i v) (n : Int) (hitP l i n) = some (.inl (base.set i (if hitP l i n = true then (n : Int) else v), (n : Int) - 1)) := by
   unfold gleaningref28_Parents_k3
   have hw : IntKind.i64.wrap ((n : Int) - 1) = (n : Int) - 1 := w64 (by omega) (by omega)
   cases hitP l i n with
   | true => rw [ite_tt, gd_pos (by omega), Int.toNat_natCast, List.getElem?_set_self hb, Option.bind_some, set_set, hw, ite_tt]
   | false => rw [ite_ff, hw, ite_ff]
  have hq : (if (n != i) = true then (gd (0 ≤ (n : Int)) (Option.bind (l[(Int.toNat (n : Int))]?) (fun (x27 : Span) => gd (0 ≤ (i : Int)) (Option.bind (l[(Int.toNat (i : Int))]?) (fun (x29 : Span) => some (x27.Id == x29.Parent)))))) else (some false)) = some (hitP l i n) := by
   rw [hh]
   cases n != i with
   | true =>
    rw [ite_tt, gd_pos (by omega), Int.toNat_natCast, hx, Option.bind_some, gd_pos (by omega), Int.toNat_natCast, hy, Option.bind_some, Bool.true_and]
    congr 1
   | false => rw [ite_ff, Bool.false_and]
  rw [hq, Option.bind_some, hk]
  refine .inl ⟨_, n, rfl, by omega, (if hitP l i n = true then (n : Int) else v), rfl, by omega, ?_, rfl⟩
  cases hc : hitP l i n with
  | true => exact from_t (v := v) (by omega) hc
  | false => exact from_f hv hc
theorem rring_spec {l : List Span} {up : List Int} (hu : up.length = l.length) (h : UpOk up) (hl : up.length ≤ 10000) {i : Nat} (hi : i < up.length) {x : Int} (hx : up[i]? = some x) :
  ∃ b a, loopN (fun (s : Bool × Int × Int) => gleaningref28_Parents_l6 l up (i : Int) s.1 s.2.1 s.2.2) Fu (true, x, 0) = some (b, a) ∧ (decide (a = (i : Int)) && b) = cutB up i := by
 have key : ∀ (m : Nat) (b : Bool) (a : Int) (c N : Nat), c + m = up.length → (a = -1 ∨ (0 ≤ a ∧ a < (up.length : Int))) → m < N →
   ∃ b' a', loopN (fun (s : Bool × Int × Int) => gleaningref28_Parents_l6 l up (i : Int) s.1 s.2.1 s.2.2) N (b, a, (c : Int)) = some (b', a') ∧ (decide (a' = (i : Int)) && b') = (b && rcF up (i : Int) (m + 1) a) := by
  intro m
  induction m with
  | zero =>
   intro b a c N hc ha hN
   obtain ⟨N, rfl⟩ : ∃ M, N = M + 1 := ⟨N - 1, by omega⟩
   refine ⟨b, a, loop_r ?_, ?_⟩
   ·show gleaningref28_Parents_l6 l up (i : Int) b a (c : Int) = _
    unfold gleaningref28_Parents_l6
    rw [ite_f (lt_n (by omega))]; rfl
   ·simp only [rcF]
    by_cases e : a = (i : Int)
    ·simp [e]
    ·simp [e]
  | succ m ih =>
   intro b a c N hc ha hN
   obtain ⟨N, rfl⟩ : ∃ M, N = M + 1 := ⟨N - 1, by omega⟩
   rcases ha with e | ⟨ha0, ha1⟩
   ·subst e
    refine ⟨b, -1, loop_r ?_, ?_⟩
    ·show gleaningref28_Parents_l6 l up (i : Int) b (-1) (c : Int) = _
     unfold gleaningref28_Parents_l6
     rw [ite_t (lt_d (by omega))]; rfl
    ·rw [dec_f (by omega : ¬ (-1 : Int) = (i : Int)), Bool.false_and]
     symm; rw [Bool.and_eq_false_iff]; right
     rw [rcF, if_neg (by omega), if_pos (by omega)]
   ·by_cases e : a = (i : Int)
    ·refine ⟨b, a, loop_r ?_, ?_⟩
     ·show gleaningref28_Parents_l6 l up (i : Int) b a (c : Int) = _
      unfold gleaningref28_Parents_l6
      rw [ite_t (lt_d (by omega)), ite_t (dec_t (by omega)), ite_f (by simp [e])]; rfl
     ·rw [rcF, if_pos e, dec_t e]; simp
    ·obtain ⟨y, hy, hym⟩ : ∃ y, up[a.toNat]? = some y ∧ y ∈ up := ⟨_, List.getElem?_eq_getElem (by omega), List.getElem_mem _⟩
     have hga : gU up a = y := by unfold gU; rw [if_pos ha0, hy]; rfl
     have hb : gleaningref28_Parents_l6 l up (i : Int) b a (c : Int) = some (.inl ((b && decide ((i : Int) < a)), y, ((c + 1 : Nat) : Int))) := by
      unfold gleaningref28_Parents_l6
      rw [ite_t (lt_d (by omega)), ite_t (dec_t (by omega)), ite_t (by simpa using e), Option.bind_some]
      show gleaningref28_Parents_k7 _ _ _ _ _ = _
      unfold gleaningref28_Parents_k7
      have : (if b = true then some (decide ((i : Int) < a)) else some false) = some (b && decide ((i : Int) < a)) := by cases b <;> rfl
      rw [this, Option.bind_some]
      unfold gleaningref28_Parents_k8
      rw [gd_pos ha0, hy, Option.bind_some, wp1 (by omega)]
     obtain ⟨b', a', r1, r2⟩ := ih (b && decide ((i : Int) < a)) y (c + 1) N (by omega) (h y hym) (by omega)
     refine ⟨b', a', by rw [loop_l hb]; exact r1, ?_⟩
     rw [r2]
     conv => rhs; rw [rcF]
     rw [if_neg e, hga]
     by_cases hlt : a < (i : Int)
     ·rw [if_pos hlt, dec_f (by omega : ¬ (i : Int) < a)]; simp
     ·rw [if_neg hlt, dec_t (by omega : (i : Int) < a), Bool.and_true]
 obtain ⟨b, a, h1, h2⟩ := key up.length true x 0 Fu (by omega) (h x (List.mem_of_getElem? hx)) (by rw [fu_eq]; omega)
 refine ⟨b, a, h1, ?_⟩
 rw [h2, Bool.true_and]
 unfold cutB
 have := rc_stab h (i := (i : Int)) (by omega)
 rw [gU_at hx] at this ⊢
 exact this
theorem rparents_spec (l : List Span) (hl : l.length ≤ 10000) : gleaningref28_Parents l = some (parF l) := by
 unfold gleaningref28_Parents
 rw [gd_pos (by omega), Int.toNat_natCast]
 have h1 : loopN (fun (s : List Int × Int) => gleaningref28_Parents_l1 l s.1 s.2) Fu (List.replicate l.length 0, 0) = some (upF l) := by
  refine loop_fu (fun n s r => ∃ k : Nat, s = ((List.range k).map (namedF l) ++ (List.range' k (l.length - k)).map (fun _ => 0), (k : Int)) ∧ k + n = l.length ∧ r = upF l) ?_ (n := l.length) ⟨0, by simp [List.map_const'], by omega, rfl⟩ (by omega)
  rintro n s r ⟨k, rfl, hk, rfl⟩
  show (∃ s' m, gleaningref28_Parents_l1 l _ (k : Int) = _ ∧ _) ∨ gleaningref28_Parents_l1 l _ (k : Int) = _
  unfold gleaningref28_Parents_l1
  by_cases hlt : k < l.length
  ·have hbl : k < ((List.range k).map (namedF l) ++ (List.range' k (l.length - k)).map (fun _ => (0 : Int))).length := by simp; omega
   obtain ⟨z, hz, _⟩ := get_ex hbl
   rw [ite_t (lt_d hlt), gd_pos (by omega), hz, Option.bind_some, Int.toNat_natCast, rinner l hl hlt _ hbl]
   exact .inl ⟨_, n - 1, rfl, by omega, k + 1, by rw [map_set_range (namedF l) hlt], by omega, rfl⟩
  ·rw [ite_f (lt_n hlt)]
   right
   rw [show k = l.length by omega, Nat.sub_self]
   simp [upF]
 rw [h1, Option.bind_some]
 unfold gleaningref28_Parents_k0
 rw [gd_pos (fitI (by rw [upF_len]; omega))]
 refine loop_fu (fun n s r => ∃ k : Nat, s = ((List.range k).map (fun i => if cutB (upF l) i = true then -1 else namedF l i) ++ (List.range' k (l.length - k)).map (namedF l), (k : Int)) ∧ k + n = l.length ∧ r = parF l) ?_ (n := l.length) ⟨0, by simp [upF, List.range_eq_range'], by omega, rfl⟩ (by omega)
 rintro n s r ⟨k, rfl, hk, rfl⟩
 show (∃ s' m, gleaningref28_Parents_l4 l (upF l) _ (k : Int) = _ ∧ _) ∨ gleaningref28_Parents_l4 l (upF l) _ (k : Int) = _
 unfold gleaningref28_Parents_l4
 by_cases hlt : k < l.length
 ·obtain ⟨b, a, r1, r2⟩ := rring_spec (l := l) (upF_len l) (upF_ok l) (by rw [upF_len]; exact hl) (i := k) (by rw [upF_len]; exact hlt) (upF_at hlt)
  rw [ite_t (lt_d hlt), gd_pos (by omega), Int.toNat_natCast, upF_at hlt, Option.bind_some, r1, Option.bind_some]
  unfold gleaningref28_Parents_k5
  have hq : (if (a == (k : Int)) = true then some b else some false) = some (cutB (upF l) k) := by
   rw [← r2]
   by_cases e : a = (k : Int)
   ·rw [ite_t (by simpa using e), dec_t e, Bool.true_and]
   ·rw [ite_f (by simpa using e), dec_f e, Bool.false_and]
  rw [hq, Option.bind_some]
  unfold gleaningref28_Parents_k9
  rw [wp1 (by omega)]
  have hs := map_set_range (f := namedF l) (n := l.length) (i := k) (fun i => if cutB (upF l) i = true then -1 else namedF l i) hlt
  have hg : ((List.range k).map (fun i => if cutB (upF l) i = true then -1 else namedF l i) ++ (List.range' k (l.length - k)).map (namedF l))[k]? = some (namedF l k) := by
   rw [show l.length - k = (l.length - (k + 1)) + 1 by omega, List.range'_succ, List.map_cons]
   exact get_mid _ _ _ (by simp)
  cases hc : cutB (upF l) k with
  | true =>
   rw [ite_tt, gd_pos (by omega), Int.toNat_natCast, hg, Option.bind_some]
   refine .inl ⟨_, n - 1, rfl, by omega, k + 1, ?_, by omega, rfl⟩
   rw [← hs]; dsimp only; rw [hc, ite_tt]
  | false =>
   rw [ite_ff]
   refine .inl ⟨_, n - 1, rfl, by omega, k + 1, ?_, by omega, rfl⟩
   rw [← hs]
   dsimp only
   rw [hc, ite_ff]
   congr 1
   symm
   obtain ⟨h5, h6⟩ := List.getElem?_eq_some_iff.1 hg
   rw [← h6]; exact List.set_getElem_self h5
 ·rw [ite_f (lt_n hlt)]
  right
  rw [show k = l.length by omega, Nat.sub_self]
  simp [parF]
end Go.Proofs.Ytmompdklolomfaa.Ab
