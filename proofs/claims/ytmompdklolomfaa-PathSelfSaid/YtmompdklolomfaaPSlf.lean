/- How long a span was busy itself: the program's answer is the document's. -/
import Derived.Test.YtmompdklolomfaaPCrit
import Derived.Test.YtmompdklolomfaaPSort
namespace Go.Proofs.Ytmompdklolomfaa.Ab
open Go Go.RowKit
set_option linter.unusedVariables false
set_option linter.unusedSimpArgs false
def frT (ks : List (Int × Int)) (t : Int) : Bool := ks.all fun k => !(decide (k.1 ≤ t) && decide (t < k.2))
def cntF (ks : List (Int × Int)) (u v : Int) : Nat := (List.range (v - u).toNat).countP fun d : Nat => frT ks (u + (d : Int))
theorem cnt_congr {ks ks' : List (Int × Int)} {u v : Int} (h : ∀ t, u ≤ t → t < v → frT ks t = frT ks' t) : cntF ks u v = cntF ks' u v := by
 unfold cntF
 refine List.countP_congr fun d hd => ?_
 have hd' : d < (v - u).toNat := List.mem_range.1 hd
 rw [h (u + (d : Int)) (by omega) (by omega)]
theorem cnt_split (ks : List (Int × Int)) {u w v : Int} (h1 : u ≤ w) (h2 : w ≤ v) : cntF ks u v = cntF ks u w + cntF ks w v := by
 unfold cntF
 have e : (v - u).toNat = (w - u).toNat + (v - w).toNat := by omega
 rw [e, List.range_add, List.countP_append, List.countP_map]
 congr 1
 refine List.countP_congr fun d hd => ?_
 show frT ks (u + (((w - u).toNat + d : Nat) : Int)) = true ↔ _
 rw [show u + (((w - u).toNat + d : Nat) : Int) = w + (d : Int) by omega]
theorem cnt_nil {ks : List (Int × Int)} {u v : Int} (h : v ≤ u) : cntF ks u v = 0 := by
 unfold cntF
 rw [show (v - u).toNat = 0 by omega]; rfl
theorem cnt_all {ks : List (Int × Int)} {u v : Int} (h : ∀ t, u ≤ t → t < v → frT ks t = true) : cntF ks u v = (v - u).toNat := by
 unfold cntF
 have : (List.range (v - u).toNat).countP (fun d : Nat => frT ks (u + (d : Int))) = (List.range (v - u).toNat).length := by
  rw [List.countP_eq_length]
  intro d hd
  have hd' : d < (v - u).toNat := List.mem_range.1 hd
  exact h _ (by omega) (by omega)
 rw [this, List.length_range]
theorem cnt_none {ks : List (Int × Int)} {u v : Int} (h : ∀ t, u ≤ t → t < v → frT ks t = false) : cntF ks u v = 0 := by
 unfold cntF
 rw [List.countP_eq_zero]
 intro d hd
 have hd' : d < (v - u).toNat := List.mem_range.1 hd
 rw [h _ (by omega) (by omega)]; simp
theorem fr_cons (k : Int × Int) (ks : List (Int × Int)) (t : Int) : frT (k :: ks) t = (!(decide (k.1 ≤ t) && decide (t < k.2)) && frT ks t) := by simp [frT]
theorem fr_out {k : Int × Int} {ks : List (Int × Int)} {t : Int} (h : t < k.1 ∨ k.2 ≤ t) : frT (k :: ks) t = frT ks t := by
 rw [fr_cons]
 rcases h with h | h
 ·rw [dec_f (by omega : ¬ k.1 ≤ t)]; simp
 ·rw [dec_f (by omega : ¬ t < k.2)]; simp
theorem fr_in {k : Int × Int} {ks : List (Int × Int)} {t : Int} (h1 : k.1 ≤ t) (h2 : t < k.2) : frT (k :: ks) t = false := by
 rw [fr_cons, dec_t h1, dec_t h2]; rfl
theorem fr_perm {ks ks' : List (Int × Int)} (h : ks.Perm ks') (t : Int) : frT ks t = frT ks' t := by
 unfold frT
 rw [Bool.eq_iff_iff, List.all_eq_true, List.all_eq_true]
 exact ⟨fun g x hx => g x (h.mem_iff.2 hx), fun g x hx => g x (h.mem_iff.1 hx)⟩
theorem cnt_le (ks : List (Int × Int)) (u v : Int) : cntF ks u v ≤ (v - u).toNat := by
 unfold cntF
 exact Nat.le_trans List.countP_le_length (by simp)
def swpF (e : Int) : Int → Int → List (Int × Int) → Int × Int
 | v, n, [] => (v, n)
 | v, n, k :: r => swpF e (if k.2 > v then k.2 else v) (n + (if (if e < k.1 then e else k.1) - v > 0 then (if e < k.1 then e else k.1) - v else 0)) r
def pos0 (z : Int) : Int := if z > 0 then z else 0
theorem swp_spec (e : Int) : ∀ (ks : List (Int × Int)) (v n : Int), ks.Pairwise (fun a b => a.1 ≤ b.1) → (∀ k ∈ ks, k.1 ≤ k.2) → (swpF e v n ks).2 + pos0 (e - (swpF e v n ks).1) = n + (cntF ks v e : Int)
 | [], v, n, _, _ => by
  show n + pos0 (e - v) = _
  have : cntF [] v e = (e - v).toNat := cnt_all fun t _ _ => rfl
  rw [this]
  unfold pos0
  split <;> omega
 | (a, b) :: r, v, n, hs, hk => by
  obtain ⟨h1, h2⟩ := List.pairwise_cons.1 hs
  have hab : a ≤ b := hk (a, b) List.mem_cons_self
  have ih := swp_spec e r (if b > v then b else v) (n + (if (if e < a then e else a) - v > 0 then (if e < a then e else a) - v else 0)) h2 fun k hk' => hk k (List.mem_cons_of_mem _ hk')
  show (swpF e (if b > v then b else v) (n + (if (if e < a then e else a) - v > 0 then (if e < a then e else a) - v else 0)) r).2 + pos0 (e - (swpF e (if b > v then b else v) _ r).1) = _
  rw [ih]
  have key : (cntF ((a, b) :: r) v e : Int) = (if (if e < a then e else a) - v > 0 then (if e < a then e else a) - v else 0) + (cntF r (if b > v then b else v) e : Int) := by
   by_cases hve : e ≤ v
   ·rw [cnt_nil hve, cnt_nil (by split <;> omega)]
    have hn : ¬ ((if e < a then e else a) - v > 0) := by split <;> omega
    rw [if_neg hn]; rfl
   ·-- ahead of a nothing begins
    obtain ⟨c1, hc1⟩ : ∃ c1, c1 = (if v < (if e < a then e else a) then (if e < a then e else a) else v) := ⟨_, rfl⟩
    obtain ⟨c2, hc2⟩ : ∃ c2, c2 = (if c1 < (if e < (if b > v then b else v) then e else (if b > v then b else v)) then (if e < (if b > v then b else v) then e else (if b > v then b else v)) else c1) := ⟨_, rfl⟩
    have hb1 : v ≤ c1 ∧ c1 ≤ e := by split at hc1 <;> split at * <;> omega
    have hb2 : c1 ≤ c2 ∧ c2 ≤ e := by
     split at hc2
     ·split at * <;> split at * <;> omega
     ·omega
    rw [cnt_split _ hb1.1 hb1.2, cnt_split _ hb2.1 hb2.2]
    have p1 : cntF ((a, b) :: r) v c1 = (c1 - v).toNat := by
     refine cnt_all fun t ht1 ht2 => ?_
     have hta : t < a := by split at hc1 <;> split at * <;> omega
     unfold frT
     rw [List.all_eq_true]
     intro k hkm
     have : a ≤ k.1 := by
      rcases List.mem_cons.1 hkm with rfl | hkm
      ·exact Int.le_refl _
      ·exact h1 k hkm
     rw [dec_f (by omega : ¬ k.1 ≤ t)]; rfl
    have p2 : cntF ((a, b) :: r) c1 c2 = 0 := by
     refine cnt_none fun t ht1 ht2 => fr_in ?_ ?_
     ·show a ≤ t
      split at hc1
      ·split at * <;> split at * <;> omega
      ·split at * <;> split at * <;> omega
     ·show t < b
      split at hc2
      ·split at * <;> split at * <;> omega
      ·omega
    have p3 : cntF ((a, b) :: r) c2 e = cntF r c2 e := by
     refine cnt_congr fun t ht1 ht2 => fr_out (.inr ?_)
     show b ≤ t
     split at hc2
     ·split at * <;> split at * <;> omega
     ·split at * <;> split at * <;> omega
    have p4 : cntF r c2 e = cntF r (if b > v then b else v) e := by
     by_cases hbe : (if b > v then b else v) ≤ e
     ·have : c2 = (if b > v then b else v) := by
       split at hc2
       ·split at hc2 <;> omega
       ·split at hc1 <;> split at * <;> split at * <;> omega
      rw [this]
     ·have : c2 = e := by
       split at hc2
       ·split at hc2 <;> omega
       ·split at * <;> omega
      rw [this, cnt_nil (Int.le_refl _), cnt_nil (by omega)]
    rw [p1, p2, p3, p4, Nat.zero_add]
    have : (((c1 - v).toNat : Nat) : Int) = (if (if e < a then e else a) - v > 0 then (if e < a then e else a) - v else 0) := by
     split at hc1 <;> split <;> omega
    omega
  rw [key]; omega
def cutP (k : Int × Int) (p : Arr2_Int) : List Arr2_Int :=
 if k.2 ≤ p.c0 ∨ p.c1 ≤ k.1 then [p] else (if p.c0 < k.1 then [⟨p.c0, k.1⟩] else []) ++ (if k.2 < p.c1 then [⟨k.2, p.c1⟩] else [])
def sumG (ks : List (Int × Int)) : List Arr2_Int → Nat
 | [] => 0
 | p :: r => cntF ks p.c0 p.c1 + sumG ks r
theorem sumG_app (ks : List (Int × Int)) : ∀ A B : List Arr2_Int, sumG ks (A ++ B) = sumG ks A + sumG ks B
 | [], B => by simp [sumG]
 | p :: A, B => by simp [sumG, sumG_app ks A B, Nat.add_assoc]
theorem cut_one (k : Int × Int) (ks : List (Int × Int)) (hk : k.1 ≤ k.2) (p : Arr2_Int) (hp : p.c0 ≤ p.c1) : sumG ks (cutP k p) = cntF (k :: ks) p.c0 p.c1 := by
 unfold cutP
 split
 ·rename_i h
  simp only [sumG, Nat.add_zero]
  exact cnt_congr fun t h1 h2 => (fr_out (by omega)).symm
 ·rename_i h
  have h1 : k.1 < p.c1 := by omega
  have h2 : p.c0 < k.2 := by omega
  rw [sumG_app]
  have e1 : sumG ks (if p.c0 < k.1 then [⟨p.c0, k.1⟩] else []) = cntF (k :: ks) p.c0 (if p.c0 < k.1 then k.1 else p.c0) := by
   by_cases hc : p.c0 < k.1
   ·rw [if_pos hc, if_pos hc]
    simp only [sumG, Nat.add_zero]
    exact cnt_congr fun t _ h => (fr_out (.inl h)).symm
   ·rw [if_neg hc, if_neg hc, cnt_nil (Int.le_refl _)]; rfl
  have e2 : sumG ks (if k.2 < p.c1 then [⟨k.2, p.c1⟩] else []) = cntF (k :: ks) (if k.2 < p.c1 then k.2 else p.c1) p.c1 := by
   by_cases hc : k.2 < p.c1
   ·rw [if_pos hc, if_pos hc]
    simp only [sumG, Nat.add_zero]
    exact cnt_congr fun t h _ => (fr_out (.inr h)).symm
   ·rw [if_neg hc, if_neg hc, cnt_nil (Int.le_refl _)]; rfl
  have e3 : cntF (k :: ks) (if p.c0 < k.1 then k.1 else p.c0) (if k.2 < p.c1 then k.2 else p.c1) = 0 := by
   refine cnt_none fun t h3 h4 => fr_in ?_ ?_
   ·split at h3 <;> omega
   ·split at h4 <;> omega
  rw [e1, e2, cnt_split (k :: ks) (u := p.c0) (w := if p.c0 < k.1 then k.1 else p.c0) (v := p.c1) (by split <;> omega) (by split <;> omega), cnt_split (k :: ks) (u := if p.c0 < k.1 then k.1 else p.c0) (w := if k.2 < p.c1 then k.2 else p.c1) (v := p.c1) (by split <;> split <;> omega) (by split <;> omega), e3, Nat.zero_add]
theorem cut_all (k : Int × Int) (ks : List (Int × Int)) (hk : k.1 ≤ k.2) : ∀ L : List Arr2_Int, (∀ p ∈ L, p.c0 ≤ p.c1) → sumG ks (L.flatMap (cutP k)) = sumG (k :: ks) L
 | [], _ => rfl
 | p :: L, h => by
  rw [List.flatMap_cons, sumG_app, cut_one k ks hk p (h p List.mem_cons_self), cut_all k ks hk L fun q hq => h q (List.mem_cons_of_mem _ hq)]
  rfl
structure Lft (A B : Int) (L : List Arr2_Int) : Prop where
 rng : ∀ p ∈ L, A ≤ p.c0 ∧ p.c0 ≤ p.c1 ∧ p.c1 ≤ B
 few : (∀ p ∈ L, p.c0 < p.c1) ∨ L.length ≤ 1
theorem cutP_mem {k : Int × Int} {p q : Arr2_Int} (h : q ∈ cutP k p) : q = p ∨ (p.c0 ≤ q.c0 ∧ q.c0 < q.c1 ∧ q.c1 ≤ p.c1) := by
 unfold cutP at h
 split at h
 ·exact .inl (List.mem_singleton.1 h)
 ·right
  rcases List.mem_append.1 h with h | h
  ·split at h
   ·rw [List.mem_singleton.1 h]; dsimp only; omega
   ·cases h
  ·split at h
   ·rw [List.mem_singleton.1 h]; dsimp only; omega
   ·cases h
theorem Lft.cut {A B : Int} {L : List Arr2_Int} (h : Lft A B L) (k : Int × Int) : Lft A B (L.flatMap (cutP k)) := by
 refine ⟨fun q hq => ?_, ?_⟩
 ·obtain ⟨p, hp, hq⟩ := List.mem_flatMap.1 hq
  have := h.rng p hp
  rcases cutP_mem hq with rfl | h2
  ·exact this
  ·omega
 ·rcases h.few with h1 | h1
  ·left
   intro q hq
   obtain ⟨p, hp, hq⟩ := List.mem_flatMap.1 hq
   have := h1 p hp
   rcases cutP_mem hq with rfl | h2
   ·exact this
   ·omega
  ·match L, h1 with
   | [], _ => exact .inr (by simp)
   | [p], _ =>
    by_cases hc : k.2 ≤ p.c0 ∨ p.c1 ≤ k.1
    ·right
     simp [cutP, hc]
    ·left
     intro q hq
     have hq' : q ∈ cutP k p := by simpa using hq
     unfold cutP at hq'
     rw [if_neg hc] at hq'
     rcases List.mem_append.1 hq' with h | h
     ·split at h
      ·rw [List.mem_singleton.1 h]; dsimp only; omega
      ·cases h
     ·split at h
      ·rw [List.mem_singleton.1 h]; dsimp only; omega
      ·cases h
def totL : List Arr2_Int → Int
 | [] => 0
 | p :: r => (p.c1 - p.c0) + totL r
theorem totL_app : ∀ A B : List Arr2_Int, totL (A ++ B) = totL A + totL B
 | [], B => by simp [totL]
 | p :: A, B => by simp [totL, totL_app A B, Int.add_assoc]
theorem tot_cut {k : Int × Int} (hk : k.1 ≤ k.2) : ∀ L : List Arr2_Int, (∀ p ∈ L, p.c0 ≤ p.c1) → totL (L.flatMap (cutP k)) ≤ totL L
 | [], _ => Int.le_refl _
 | p :: L, h => by
  have h1 := tot_cut hk L fun q hq => h q (List.mem_cons_of_mem _ hq)
  have h2 := h p List.mem_cons_self
  rw [List.flatMap_cons, totL_app]
  have : totL (cutP k p) ≤ p.c1 - p.c0 := by
   unfold cutP
   split
   ·simp [totL]
   ·rw [totL_app]
    split <;> split <;> simp [totL] <;> omega
  show _ ≤ (p.c1 - p.c0) + totL L
  omega
theorem len_tot : ∀ L : List Arr2_Int, (∀ p ∈ L, p.c0 < p.c1) → (L.length : Int) ≤ totL L
 | [], _ => Int.le_refl _
 | p :: L, h => by
  have h1 := len_tot L fun q hq => h q (List.mem_cons_of_mem _ hq)
  have h2 := h p List.mem_cons_self
  show ((L.length + 1 : Nat) : Int) ≤ (p.c1 - p.c0) + totL L
  omega
theorem Lft.len {A B : Int} {L : List Arr2_Int} (h : Lft A B L) {T : Int} (hT : totL L ≤ T) (h0 : 1 ≤ T) : (L.length : Int) ≤ T := by
 rcases h.few with h1 | h1
 ·have := len_tot L h1; omega
 ·omega
theorem tot_G : ∀ L : List Arr2_Int, (∀ p ∈ L, p.c0 ≤ p.c1) → totL L = (sumG [] L : Int)
 | [], _ => rfl
 | p :: L, h => by
  have h1 := tot_G L fun q hq => h q (List.mem_cons_of_mem _ hq)
  have h2 := h p List.mem_cons_self
  have : cntF [] p.c0 p.c1 = (p.c1 - p.c0).toNat := cnt_all fun t _ _ => rfl
  show (p.c1 - p.c0) + totL L = ((cntF [] p.c0 p.c1 + sumG [] L : Nat) : Int)
  rw [this, h1]; omega
end Go.Proofs.Ytmompdklolomfaa.Ab
namespace Go.Proofs.Ytmompdklolomfaa.Ab
open Go Go.RowKit Go.Shelf Go.Lib Go.Proofs
set_option linter.unusedVariables false
set_option linter.unusedSimpArgs false
theorem sort1_spec {cmp : Int → Int → Option Int} {l : List Int} (h : sortB cmp l = true) (hl : l.length < 4611686018427387904) : ∃ r, sort1 cmp l = some r ∧ r.Perm l ∧ r.Pairwise (fun a b => ltO cmp b a = false) := by
 refine ⟨sortA cmp l, gd_pos ⟨hl, h⟩, ?_⟩
 by_cases h0 : l = []
 ·subst h0; exact ⟨List.Perm.refl _, List.Pairwise.nil⟩
 obtain ⟨I, hI⟩ := sortA_ex (cmp := cmp) h0
 letI := I
 have hO := sortB_swo h
 rw [← hI]
 refine ⟨?_, ?_⟩
 ·have := (sortF_perm hO l.attach).map Subtype.val
  rwa [List.attach_map_subtype_val] at this
 ·rw [List.pairwise_map]
  exact (sortF_sorted hO l.attach).imp fun h => h
instance {l : List Span} {x : Int} : Decidable (okP l x) := by unfold okP; exact inferInstance
def aOf (l : List Span) (x : Int) : Int := match l[x.toNat]? with | some s => (endsF s).1 | none => 0
theorem ae_get {l : List Span} {x : Int} (h : okP l x) : ∃ s, l[x.toNat]? = some s ∧ s ∈ l ∧ aOf l x = (endsF s).1 ∧ eOf l x = (endsF s).2 := ⟨l[x.toNat]'h.2, List.getElem?_eq_getElem h.2, List.getElem_mem h.2, by simp [aOf, List.getElem?_eq_getElem h.2], by simp [eOf, List.getElem?_eq_getElem h.2]⟩
theorem ends_rng (s : Span) : 0 ≤ (endsF s).1 ∧ (endsF s).1 ≤ (endsF s).2 ∧ (endsF s).2 ≤ (endsF s).1 + 1073741824 ∧ (endsF s).2 ≤ 1200000000000000 := by
 unfold endsF
 split
 ·rename_i h
  obtain ⟨_, _, _, h1, h2, h3, h4, _⟩ := rightS_of h
  dsimp only; omega
 ·dsimp only; omega
theorem ae_rng (l : List Span) (x : Int) : 0 ≤ aOf l x ∧ aOf l x ≤ eOf l x ∧ eOf l x ≤ aOf l x + 1073741824 ∧ eOf l x ≤ 1200000000000000 := by
 unfold aOf eOf
 cases l[x.toNat]? with
 | none => dsimp only; omega
 | some s => exact ends_rng s
theorem selfc_spec {l : List Span} {x y : Int} (hx : okP l x) (hy : okP l y) : ∃ c, path_Self_c1 x y l = some c ∧ decide (c < 0) = decide (aOf l x < aOf l y) := by
 obtain ⟨s, h1, _, h2, _⟩ := ae_get hx
 obtain ⟨t, h3, _, h4, _⟩ := ae_get hy
 obtain ⟨c, h5, h6⟩ := cmpI_spec (endsF s).1 (endsF t).1
 refine ⟨c, ?_, by rw [h6, h2, h4]⟩
 unfold path_Self_c1
 rw [gd_pos hx.1, h1, Option.bind_some, pends_spec, Option.bind_some, gd_pos hy.1, h3, Option.bind_some, pends_spec, Option.bind_some, h5]; rfl
theorem selfc_lt {l : List Span} {x y : Int} (hx : okP l x) (hy : okP l y) : ltO (fun p q => path_Self_c1 p q l) x y = decide (aOf l x < aOf l y) := by
 obtain ⟨c, h1, h2⟩ := selfc_spec hx hy
 show decide ((path_Self_c1 x y l).getD 0 < 0) = _
 rw [h1, Option.getD_some, h2]
theorem self_sortB {l : List Span} {k : List Int} (hok : ∀ y ∈ k, okP l y) : sortB (fun p q => path_Self_c1 p q l) k = true := by
 unfold sortB
 simp only [List.all_eq_true, Bool.and_eq_true, Bool.or_eq_true, Bool.not_eq_true']
 intro x hx
 refine ⟨by rw [selfc_lt (hok x hx) (hok x hx)]; exact dec_f (by omega), fun y hy => ⟨?_, fun z hz => ?_⟩⟩
 ·obtain ⟨c, h1, _⟩ := selfc_spec (hok x hx) (hok y hy)
  rw [h1]; rfl
 ·rw [selfc_lt (hok x hx) (hok y hy), selfc_lt (hok y hy) (hok z hz), selfc_lt (hok x hx) (hok z hz), ← Bool.not_eq_true, ← Bool.not_eq_true, Bool.and_eq_true, decide_eq_true_iff, decide_eq_true_iff, decide_eq_true_iff]
  omega
abbrev ivl (l : List Span) (x : Int) : Int × Int := (aOf l x, eOf l x)
theorem swp_rng (e : Int) (he : 0 ≤ e ∧ e ≤ 1200000000000000) : ∀ (ks : List (Int × Int)) (v n : Int), (∀ k ∈ ks, 0 ≤ k.1 ∧ k.2 ≤ 1200000000000000) → 0 ≤ v ∧ v ≤ 1200000000000000 → 0 ≤ n → 0 ≤ (swpF e v n ks).1 ∧ (swpF e v n ks).1 ≤ 1200000000000000 ∧ 0 ≤ (swpF e v n ks).2 ∧ (swpF e v n ks).2 ≤ n + ks.length * 1200000000000000
 | [], v, n, _, hv, hn => ⟨hv.1, hv.2, hn, by simp [swpF]⟩
 | k :: r, v, n, hk, hv, hn => by
  have h0 := hk k List.mem_cons_self
  have := swp_rng e he r (if k.2 > v then k.2 else v) (n + (if (if e < k.1 then e else k.1) - v > 0 then (if e < k.1 then e else k.1) - v else 0)) (fun q hq => hk q (List.mem_cons_of_mem _ hq)) (by split <;> omega) (by split <;> omega)
  refine ⟨this.1, this.2.1, this.2.2.1, Int.le_trans this.2.2.2 ?_⟩
  rw [List.length_cons]
  have h1 : (if (if e < k.1 then e else k.1) - v > 0 then (if e < k.1 then e else k.1) - v else 0) ≤ 1200000000000000 := by split <;> split at * <;> omega
  push_cast
  omega
theorem swp_loop (l : List Span) (K : List Int) (e : Int × Int) (he : 0 ≤ e.2 ∧ e.2 ≤ 1200000000000000) (hK : K.length ≤ 60) (hok : ∀ y ∈ K, okP l y) : ∀ (m i : Nat) (v n : Int) (N : Nat), i + m = K.length → 0 ≤ v ∧ v ≤ 1200000000000000 → 0 ≤ n ∧ n ≤ i * 1200000000000000 → m < N →
  loopN (fun (s : Int × Int × Int) => path_Self_l2 l K e s.1 s.2.1 s.2.2) N (v, n, (i : Int)) = some (swpF e.2 v n ((K.drop i).map (ivl l))) := by
 intro m
 induction m with
 | zero =>
  intro i v n N hi hv hn hN
  obtain ⟨N, rfl⟩ : ∃ M, N = M + 1 := ⟨N - 1, by omega⟩
  rw [List.drop_eq_nil_of_le (by omega)]
  refine loop_r ?_
  show path_Self_l2 l K e v n (i : Int) = _
  unfold path_Self_l2
  rw [ite_f (lt_n (by omega))]; rfl
 | succ m ih =>
  intro i v n N hi hv hn hN
  obtain ⟨N, rfl⟩ : ∃ M, N = M + 1 := ⟨N - 1, by omega⟩
  have hlt : i < K.length := by omega
  have hoi := hok K[i] (List.getElem_mem hlt)
  obtain ⟨s, h1, _, h2, h3⟩ := ae_get hoi
  obtain ⟨r1, r2, r3, r4⟩ := ae_rng l K[i]
  have hw1 : IntKind.i64.wrap ((if e.2 < aOf l K[i] then e.2 else aOf l K[i]) - v) = (if e.2 < aOf l K[i] then e.2 else aOf l K[i]) - v := w64 (by split <;> omega) (by split <;> omega)
  have hz : (if (if e.2 < aOf l K[i] then e.2 else aOf l K[i]) - v > 0 then (if e.2 < aOf l K[i] then e.2 else aOf l K[i]) - v else 0) ≤ 1200000000000000 ∧ 0 ≤ (if (if e.2 < aOf l K[i] then e.2 else aOf l K[i]) - v > 0 then (if e.2 < aOf l K[i] then e.2 else aOf l K[i]) - v else 0) := by
   split
   ·split at * <;> omega
   ·omega
  have hi60 : (i : Int) * 1200000000000000 ≤ 60 * 1200000000000000 := by omega
  have hw2 : IntKind.i64.wrap (n + (if (if e.2 < aOf l K[i] then e.2 else aOf l K[i]) - v > 0 then (if e.2 < aOf l K[i] then e.2 else aOf l K[i]) - v else 0)) = n + (if (if e.2 < aOf l K[i] then e.2 else aOf l K[i]) - v > 0 then (if e.2 < aOf l K[i] then e.2 else aOf l K[i]) - v else 0) := w64 (by omega) (by omega)
  have hb : path_Self_l2 l K e v n (i : Int) = some (.inl ((if eOf l K[i] > v then eOf l K[i] else v), n + (if (if e.2 < aOf l K[i] then e.2 else aOf l K[i]) - v > 0 then (if e.2 < aOf l K[i] then e.2 else aOf l K[i]) - v else 0), ((i + 1 : Nat) : Int))) := by
   unfold path_Self_l2
   rw [ite_t (lt_d hlt), gd_pos (by omega), Int.toNat_natCast, List.getElem?_eq_getElem hlt, Option.bind_some, gd_pos hoi.1, h1, Option.bind_some, pends_spec, Option.bind_some, wp1 (by omega), ← h2, ← h3, hw1, hw2]
  rw [loop_l hb, ih (i + 1) _ _ N (by omega) (by split <;> omega) (by push_cast; omega) (by omega), List.drop_eq_getElem_cons hlt]
  rfl
def selfF (l : List Span) (i : Int) : Int := (cntF ((chU (parF l) i l.length).map (ivl l)) (aOf l i) (eOf l i) : Int)
theorem pself_k {l : List Span} (hl : l.length ≤ 60) {i : Int} (hi : okP l i) : path_Self_k0 l i = some (selfF l i) := by
 obtain ⟨s, h1, _, h2, h3⟩ := ae_get hi
 obtain ⟨r1, r2, r3, r4⟩ := ae_rng l i
 have hk60 : (kidsF l i).length ≤ 60 := Nat.le_trans (kids_len_le _ _) hl
 obtain ⟨K, k1, k2, k3⟩ := sort1_spec (self_sortB (l := l) (k := kidsF l i) kids_ok) (by omega)
 have hKok : ∀ y ∈ K, okP l y := fun y hy => kids_ok y (k2.mem_iff.1 hy)
 have hK60 : K.length ≤ 60 := by rw [k2.length_eq]; exact hk60
 unfold path_Self_k0
 rw [tkids_spec l hl, Option.bind_some, gd_pos hi.1, allKids_of hi, Option.bind_some, clone_id (by omega), Option.bind_some, k1, Option.bind_some, gd_pos hi.1, h1, Option.bind_some, pends_spec, Option.bind_some]
 have e0 : (((0 : Nat) : Int)) = 0 := rfl
 have hloop := swp_loop l K (endsF s) (by rw [← h3]; omega) hK60 hKok K.length 0 (endsF s).1 0 Fu (by omega) (by rw [← h2]; omega) (by omega) (by rw [fu_eq]; omega)
 rw [e0, List.drop_zero] at hloop
 rw [hloop, Option.bind_some, ← h3, ← h2]
 have hrng := swp_rng (eOf l i) (by omega) (K.map (ivl l)) (aOf l i) 0 (fun k hk => by
  obtain ⟨x, _, rfl⟩ := List.mem_map.1 hk
  have := ae_rng l x
  exact ⟨this.1, this.2.2.2⟩) (by omega) (by omega)
 have hsp := swp_spec (eOf l i) (K.map (ivl l)) (aOf l i) 0 (by
  rw [List.pairwise_map]
  refine List.Pairwise.imp_of_mem ?_ k3
  intro a b ha hb hab
  rw [selfc_lt (hKok b hb) (hKok a ha), decide_eq_false_iff_not] at hab
  show aOf l a ≤ aOf l b
  omega) (fun k hk => by
  obtain ⟨x, _, rfl⟩ := List.mem_map.1 hk
  exact (ae_rng l x).2.1)
 rw [List.length_map] at hrng
 unfold path_Self_k1
 have hw : IntKind.i64.wrap (eOf l i - (swpF (eOf l i) (aOf l i) 0 (K.map (ivl l))).1) = eOf l i - (swpF (eOf l i) (aOf l i) 0 (K.map (ivl l))).1 := w64 (by omega) (by omega)
 rw [← h3, hw]
 have hpz : (if eOf l i - (swpF (eOf l i) (aOf l i) 0 (K.map (ivl l))).1 > 0 then eOf l i - (swpF (eOf l i) (aOf l i) 0 (K.map (ivl l))).1 else 0) = pos0 (eOf l i - (swpF (eOf l i) (aOf l i) 0 (K.map (ivl l))).1) := rfl
 have hcnt := cnt_le (K.map (ivl l)) (aOf l i) (eOf l i)
 rw [hpz, hsp, Int.zero_add, w64 (by omega) (by omega)]
 unfold selfF
 congr 2
 exact cnt_congr fun t _ _ => fr_perm ((k2.trans (kidsF_spec l i).1).map _) t
theorem valid_at {l : List Span} {i : Int} (h : okP l i) : decide (i < 0) = false ∧ decide ((l.length : Int) ≤ i) = false := ⟨dec_f (by have := h.1; omega), dec_f (by have := h.1; have := h.2; omega)⟩
theorem pself_spec (l : List Span) (hl : l.length ≤ 60) (i : Int) : path_Self l i = some (if okP l i ∧ l.all rightS = true then selfF l i else 0) := by
 unfold path_Self
 by_cases h : okP l i
 ·rw [ite_f (valid_at h).1, ite_f (valid_at h).2, sall_spec l (by omega), Option.bind_some]
  cases hr : l.all rightS with
  | false =>
   have hR : (if okP l i ∧ false = true then selfF l i else 0) = 0 := if_neg (by simp)
   rw [hR]; rfl
  | true =>
   have hR : (if okP l i ∧ true = true then selfF l i else 0) = selfF l i := if_pos ⟨h, rfl⟩
   rw [hR, Bool.not_true, ite_ff, Option.bind_some]
   exact pself_k hl h
 ·have hR : (if okP l i ∧ l.all rightS = true then selfF l i else 0) = 0 := if_neg (fun k => h k.1)
  rw [hR]
  by_cases h1 : i < 0
  ·rw [ite_t (dec_t h1)]; rfl
  ·rw [ite_f (dec_f h1), ite_t (dec_t (by unfold okP at h; omega))]; rfl
abbrev toA (k : Int × Int) : Arr2_Int := ⟨k.1, k.2⟩
theorem fit16 {n : Nat} (h : n ≤ 4000000000) : n * 16 ≤ 140737488355328 ∧ n ≤ 140737488355328 := by omega
theorem wbig {i : Nat} (h : i ≤ 5000000000) : IntKind.i64.wrap ((i : Int) + 1) = ((i + 1 : Nat) : Int) := by rw [w64 (by omega) (by omega)]; push_cast; rfl
theorem cut_loop (L : List Arr2_Int) (hL : L.length ≤ 1200000000) {j : Nat} (hj : j ≤ 100000) (k : Int × Int) : loopN (fun (s : List Arr2_Int × Int) => gleaningref28_Self_l3 L (j : Int) k s.1 s.2) Fu ([], 0) = some (.inl (L.flatMap (cutP k), ((j + 1 : Nat) : Int))) := by
 refine loop_fu (fun n s r => ∃ i : Nat, s = ((L.take i).flatMap (cutP k), (i : Int)) ∧ i + n = L.length ∧ r = .inl (L.flatMap (cutP k), ((j + 1 : Nat) : Int))) ?_ (n := L.length) ⟨0, rfl, by omega, rfl⟩ (by omega)
 rintro n s r ⟨i, rfl, hi, rfl⟩
 show (∃ s' m, gleaningref28_Self_l3 L (j : Int) k ((L.take i).flatMap (cutP k)) (i : Int) = _ ∧ _) ∨ gleaningref28_Self_l3 L (j : Int) k ((L.take i).flatMap (cutP k)) (i : Int) = _
 have hlen : ((L.take i).flatMap (cutP k)).length ≤ 2 * i := by
  have : ∀ M : List Arr2_Int, (M.flatMap (cutP k)).length ≤ 2 * M.length := by
   intro M
   induction M with
   | nil => simp
   | cons p M ih =>
    rw [List.flatMap_cons, List.length_append, List.length_cons]
    have : (cutP k p).length ≤ 2 := by
     unfold cutP
     split
     ·simp
     ·split <;> split <;> simp
    omega
  have := this (L.take i)
  rw [List.length_take] at this
  omega
 unfold gleaningref28_Self_l3
 by_cases hlt : i < L.length
 ·have hg : L[i]? = some L[i] := List.getElem?_eq_getElem hlt
  generalize hp : L[i] = p at hg
  have htk : (L.take (i + 1)).flatMap (cutP k) = (L.take i).flatMap (cutP k) ++ cutP k p := by
   rw [List.take_add_one, hg]; simp
  rw [ite_t (lt_d hlt), gd_pos (by omega), Int.toNat_natCast, hg, Option.bind_some, gd_pos (by omega), Option.bind_some]
  have hq : (if decide (k.2 ≤ p.c0) = true then some true else some (decide (p.c1 ≤ k.1))) = some (decide (k.2 ≤ p.c0 ∨ p.c1 ≤ k.1)) := by
   by_cases h : k.2 ≤ p.c0
   ·rw [ite_t (dec_t h), dec_t (.inl h)]
   ·rw [ite_f (dec_f h)]; congr 1; rw [decide_eq_decide]; exact ⟨.inr, fun q => q.resolve_left h⟩
  rw [hq, Option.bind_some]
  unfold gleaningref28_Self_k5
  by_cases h : k.2 ≤ p.c0 ∨ p.c1 ≤ k.1
  ·rw [ite_t (dec_t h), gd_pos (by omega), Int.toNat_natCast, hg, Option.bind_some, gd_pos (fit16 (by simp only [List.length_append, List.length_singleton]; omega)), wbig (by omega), Option.bind_some]
   refine .inl ⟨_, n - 1, rfl, by omega, i + 1, ?_, by omega, rfl⟩
   rw [htk, show cutP k p = [p] from if_pos h]
  ·rw [ite_f (dec_f h), Option.bind_some]
   show (∃ s' m, gleaningref28_Self_k4 _ _ _ _ _ = _ ∧ _) ∨ gleaningref28_Self_k4 _ _ _ _ _ = _
   unfold gleaningref28_Self_k4
   have h4 : (if (decide (p.c0 < k.1)) = true then (gd ((List.length ((L.take i).flatMap (cutP k) ++ [(Arr2_Int.mk p.c0 k.1)])) * 16 ≤ 140737488355328 ∧ (List.length ((L.take i).flatMap (cutP k) ++ [(Arr2_Int.mk p.c0 k.1)])) ≤ 140737488355328) (some ((L.take i).flatMap (cutP k) ++ [(Arr2_Int.mk p.c0 k.1)]))) else (some ((L.take i).flatMap (cutP k)))) = some ((L.take i).flatMap (cutP k) ++ (if p.c0 < k.1 then [⟨p.c0, k.1⟩] else [])) := by
    by_cases hc : p.c0 < k.1
    ·rw [ite_t (dec_t hc), if_pos hc, gd_pos (fit16 (by simp only [List.length_append, List.length_singleton]; omega))]
    ·rw [ite_f (dec_f hc), if_neg hc, List.append_nil]
   rw [h4, Option.bind_some]
   unfold gleaningref28_Self_k6
   have hl5 : (if p.c0 < k.1 then [(Arr2_Int.mk p.c0 k.1)] else []).length ≤ 1 := by split <;> simp
   refine .inl ⟨((L.take (i + 1)).flatMap (cutP k), ((i + 1 : Nat) : Int)), n - 1, ?_, by omega, i + 1, rfl, by omega, rfl⟩
   rw [htk, show cutP k p = (if p.c0 < k.1 then [⟨p.c0, k.1⟩] else []) ++ (if k.2 < p.c1 then [⟨k.2, p.c1⟩] else []) from if_neg h, wbig (by omega)]
   by_cases hc : k.2 < p.c1
   ·rw [ite_t (dec_t hc), if_pos hc, gd_pos (fit16 (by simp only [List.length_append, List.length_singleton]; omega))]
    simp
   ·rw [ite_f (dec_f hc), if_neg hc]
    simp
 ·right
  rw [ite_f (lt_n hlt), wbig (by omega), List.take_of_length_le (by omega)]
theorem sum_loop (L : List Arr2_Int) (hL : L.length ≤ 1200000000) (hr : ∀ p ∈ L, 0 ≤ p.c0 ∧ p.c0 ≤ p.c1 ∧ p.c1 ≤ 1200000000000000) (hT : totL L ≤ 1200000000000000) : gleaningref28_Self_k1 L = some (totL L) := by
 unfold gleaningref28_Self_k1
 refine loop_fu (fun n s r => ∃ i : Nat, s = (totL (L.take i), (i : Int)) ∧ i + n = L.length ∧ r = totL L) ?_ (n := L.length) ⟨0, rfl, by omega, rfl⟩ (by omega)
 rintro n s r ⟨i, rfl, hi, rfl⟩
 show (∃ s' m, gleaningref28_Self_l7 L (totL (L.take i)) (i : Int) = _ ∧ _) ∨ gleaningref28_Self_l7 L (totL (L.take i)) (i : Int) = _
 unfold gleaningref28_Self_l7
 by_cases hlt : i < L.length
 ·have hg : L[i]? = some L[i] := List.getElem?_eq_getElem hlt
  generalize hp : L[i] = p at hg
  have hpm : p ∈ L := List.mem_of_getElem? hg
  have htk : totL (L.take (i + 1)) = totL (L.take i) + (p.c1 - p.c0) := by
   rw [List.take_add_one, hg, totL_app]; simp [totL]
  have hpos : ∀ M : List Arr2_Int, (∀ q ∈ M, q.c0 ≤ q.c1) → 0 ≤ totL M := fun M hM => by rw [tot_G M hM]; omega
  have hsplit : totL L = totL (L.take i) + totL (L.drop i) := by rw [← totL_app, List.take_append_drop]
  have h1 := hpos (L.take i) fun q hq => (hr q (List.mem_of_mem_take hq)).2.1
  have h2 := hpos (L.drop i) fun q hq => (hr q (List.mem_of_mem_drop hq)).2.1
  have h3 := hr p hpm
  rw [ite_t (lt_d hlt), gd_pos (by omega), Int.toNat_natCast, hg, Option.bind_some, gd_pos (by omega), Option.bind_some, wbig (by omega), w64 (n := totL (L.take i) + p.c1) (by omega) (by omega), w64 (by omega) (by omega)]
  refine .inl ⟨_, n - 1, rfl, by omega, i + 1, ?_, by omega, rfl⟩
  rw [htk]
  congr 1
  omega
 ·right
  rw [ite_f (lt_n hlt), List.take_of_length_le (by omega)]
theorem rself_k {l : List Span} (hl : l.length ≤ 60) {i : Int} (hi : okP l i) : gleaningref28_Self_k0 l i = some (selfF l i) := by
 obtain ⟨s, h1, _, h2, h3⟩ := ae_get hi
 obtain ⟨r1, r2, r3, r4⟩ := ae_rng l i
 unfold gleaningref28_Self_k0
 rw [rparents_spec l (by omega), Option.bind_some, gd_pos hi.1, h1, Option.bind_some, rends_spec, Option.bind_some, ← h2, ← h3]
 have hloop : ∃ L, loopN (fun (s : List Arr2_Int × Int) => gleaningref28_Self_l2 l i (parF l) s.1 s.2) Fu ([(Arr2_Int.mk (aOf l i) (eOf l i))], 0) = some L ∧ Lft (aOf l i) (eOf l i) L ∧ totL L ≤ eOf l i - aOf l i ∧ sumG [] L = cntF ((chU (parF l) i l.length).map (ivl l)) (aOf l i) (eOf l i) := by
  have key : ∀ (m j N : Nat) (L : List Arr2_Int), j + m = l.length → Lft (aOf l i) (eOf l i) L → totL L ≤ eOf l i - aOf l i → m < N →
    ∃ L', loopN (fun (s : List Arr2_Int × Int) => gleaningref28_Self_l2 l i (parF l) s.1 s.2) N (L, (j : Int)) = some L' ∧ Lft (aOf l i) (eOf l i) L' ∧ totL L' ≤ eOf l i - aOf l i ∧ ∃ ks : List Int, chU (parF l) i l.length = chU (parF l) i j ++ ks ∧ sumG [] L' = sumG (ks.map (ivl l)) L := by
   intro m
   induction m with
   | zero =>
    intro j N L hj hL hT hN
    obtain ⟨N, rfl⟩ : ∃ M, N = M + 1 := ⟨N - 1, by omega⟩
    refine ⟨L, loop_r ?_, hL, hT, [], by rw [show j = l.length by omega, List.append_nil], rfl⟩
    show gleaningref28_Self_l2 l i (parF l) L (j : Int) = _
    unfold gleaningref28_Self_l2
    rw [ite_f (lt_n (by omega))]
   | succ m ih =>
    intro j N L hj hL hT hN
    obtain ⟨N, rfl⟩ : ∃ M, N = M + 1 := ⟨N - 1, by omega⟩
    have hlt : j < l.length := by omega
    obtain ⟨q, hq, _⟩ := parF_rng hlt
    by_cases e : q = i
    ·have hoj : okP l (j : Int) := ⟨by omega, by simpa using hlt⟩
     obtain ⟨t, t1, _, t2, t3⟩ := ae_get hoj
     rw [Int.toNat_natCast] at t1
     have hke : endsF t = ivl l (j : Int) := by rw [Prod.ext_iff]; exact ⟨t2.symm, t3.symm⟩
     have hLl := hL.len hT
     have hlen : L.length ≤ 1200000000 := by
      rcases hL.few with h | h
      ·have := len_tot L h; omega
      ·omega
     have hb : gleaningref28_Self_l2 l i (parF l) L (j : Int) = some (.inl (L.flatMap (cutP (ivl l (j : Int))), ((j + 1 : Nat) : Int))) := by
      unfold gleaningref28_Self_l2
      rw [ite_t (lt_d hlt), gd_pos (by omega), Int.toNat_natCast, hq, Option.bind_some, ite_f (by simpa using e), gd_pos (by omega), t1, Option.bind_some, rends_spec, Option.bind_some, hke]
      exact cut_loop L hlen (by omega) _
     have hk := (ae_rng l (j : Int)).2.1
     have hc0 : ∀ p ∈ L, p.c0 ≤ p.c1 := fun p hp => (hL.rng p hp).2.1
     obtain ⟨L', g1, g2, g3, ks, g4, g5⟩ := ih (j + 1) N (L.flatMap (cutP (ivl l (j : Int)))) (by omega) (hL.cut _) (Int.le_trans (tot_cut hk L hc0) hT) (by omega)
     refine ⟨L', by rw [loop_l hb]; exact g1, g2, g3, (j : Int) :: ks, ?_, ?_⟩
     ·rw [g4, chU_succ, if_pos (by rw [hq, e])]; simp
     ·rw [g5, cut_all _ _ hk L hc0]; rfl
    ·have hb : gleaningref28_Self_l2 l i (parF l) L (j : Int) = some (.inl (L, ((j + 1 : Nat) : Int))) := by
      unfold gleaningref28_Self_l2
      rw [ite_t (lt_d hlt), gd_pos (by omega), Int.toNat_natCast, hq, Option.bind_some, ite_t (by simpa using e), wp1 (by omega)]
     obtain ⟨L', g1, g2, g3, ks, g4, g5⟩ := ih (j + 1) N L (by omega) hL hT (by omega)
     refine ⟨L', by rw [loop_l hb]; exact g1, g2, g3, ks, ?_, g5⟩
     rw [g4, chU_succ, if_neg (by rw [hq]; intro h; injection h with h; exact e h), List.append_nil]
  obtain ⟨L, g1, g2, g3, ks, g4, g5⟩ := key l.length 0 Fu [⟨aOf l i, eOf l i⟩] (by omega) ⟨fun p hp => by rw [List.mem_singleton.1 hp]; exact ⟨Int.le_refl _, r2, Int.le_refl _⟩, .inr (by simp)⟩ (by simp [totL]) (by rw [fu_eq]; omega)
  refine ⟨L, g1, g2, g3, ?_⟩
  rw [g5, g4]
  simp [sumG, chU]
 obtain ⟨L, g1, g2, g3, g4⟩ := hloop
 have hc0 : ∀ p ∈ L, p.c0 ≤ p.c1 := fun p hp => (g2.rng p hp).2.1
 have hlen : L.length ≤ 1200000000 := by
  rcases g2.few with h | h
  ·have := len_tot L h; omega
  ·omega
 rw [g1, Option.bind_some, sum_loop L hlen (fun p hp => by have := g2.rng p hp; omega) (by omega), tot_G L hc0, g4]
 rfl
theorem rself_spec (l : List Span) (hl : l.length ≤ 60) (i : Int) : gleaningref28_Self l i = some (if okP l i ∧ l.all rightS = true then selfF l i else 0) := by
 unfold gleaningref28_Self
 by_cases h : okP l i
 ·rw [ite_f (valid_at h).1, ite_f (valid_at h).2, rightSpans_spec l (by omega), Option.bind_some]
  cases hr : l.all rightS with
  | false =>
   have hR : (if okP l i ∧ false = true then selfF l i else 0) = 0 := if_neg (by simp)
   rw [hR]; rfl
  | true =>
   have hR : (if okP l i ∧ true = true then selfF l i else 0) = selfF l i := if_pos ⟨h, rfl⟩
   rw [hR, Bool.not_true, ite_ff, Option.bind_some]
   exact rself_k hl h
 ·have hR : (if okP l i ∧ l.all rightS = true then selfF l i else 0) = 0 := if_neg (fun k => h k.1)
  rw [hR]
  by_cases h1 : i < 0
  ·rw [ite_t (dec_t h1)]; rfl
  ·rw [ite_f (dec_f h1), ite_t (dec_t (by unfold okP at h; omega))]; rfl
end Go.Proofs.Ytmompdklolomfaa.Ab
