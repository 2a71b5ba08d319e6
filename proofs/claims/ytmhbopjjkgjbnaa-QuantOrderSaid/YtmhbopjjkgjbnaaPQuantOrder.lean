/- Chapter 31: the order of quantiles. -/
import Derived.Test.YtmhbopjjkgjbnaaXQOrder
import Derived.Test.YtmhbopjjkgjbnaaPQuant1
namespace Go.Proofs.Ytmhbopjjkgjbnaa.Ab
open Go Go.RowKit
set_option linter.unusedVariables false
set_option linter.unusedSimpArgs false

theorem get8 (f : Nat → Int) (k : Nat) (hk : k < 8) : ([f 0, f 1, f 2, f 3, f 4, f 5, f 6, f 7] : List Int)[k]? = some (f k) := by
  match k, hk with
  | 0, _ => rfl
  | 1, _ => rfl
  | 2, _ => rfl
  | 3, _ => rfl
  | 4, _ => rfl
  | 5, _ => rfl
  | 6, _ => rfl
  | 7, _ => rfl
theorem set8 (f : Nat → Int) (k : Nat) (v : Int) (hk : k < 8) (j : Nat) (hj : j < 8) : (List.set [f 0, f 1, f 2, f 3, f 4, f 5, f 6, f 7] k v).getD j 0 = if j = k then v else f j := by
  have h := get8 f j hj
  rw [List.getD_eq_getElem?_getD, List.getElem?_set]
  by_cases e : k = j
  · subst e; rw [if_pos rfl, if_pos (by simpa using hk), if_pos rfl]; rfl
  · rw [if_neg e, h, if_neg (fun x => e x.symm)]; rfl
def m16 (by_ : List Int) (k : Nat) : Int := bits .and .i64 (by_.getD k 0) 65535
theorem m16_in (l : List Int) (k : Nat) : 0 ≤ m16 l k ∧ m16 l k ≤ 65535 := by
  unfold m16
  generalize l.getD k 0 = z
  have h : bits .and .i64 z 65535 = (((BitVec.ofInt 64 z).toNat &&& 65535 : Nat) : Int) := by
    show IntKind.i64.wrap (((BitVec.ofInt 64 z) &&& (BitVec.ofInt 64 65535)).toNat : Int) = _
    rw [BitVec.toNat_and, show (BitVec.ofInt 64 65535).toNat = 65535 by decide]
    have := Nat.and_le_right (n := (BitVec.ofInt 64 z).toNat) (m := 65535)
    exact w64 (by omega) (by omega)
  have := Nat.and_le_right (n := (BitVec.ofInt 64 z).toNat) (m := 65535)
  omega
def fC (f : Nat → Int) (k j : Nat) : Int := if j < k then f j else 0
def anyC (f : Nat → Int) (k : Nat) : Bool := (List.range k).any (fun j => decide (0 < f j))
theorem order_loop (l : List Int) (hl : 8 ≤ l.length) : loopN (fun (s : Int × Int × Int × Int × Int × Int × Int × Int × Int × Int × Int × Int × Int × Int × Int × Int × Bool × Int) => gleaninglaw31_QuantOrder_l2 l s.1 s.2.1 s.2.2.1 s.2.2.2.1 s.2.2.2.2.1 s.2.2.2.2.2.1 s.2.2.2.2.2.2.1 s.2.2.2.2.2.2.2.1 s.2.2.2.2.2.2.2.2.1 s.2.2.2.2.2.2.2.2.2.1 s.2.2.2.2.2.2.2.2.2.2.1 s.2.2.2.2.2.2.2.2.2.2.2.1 s.2.2.2.2.2.2.2.2.2.2.2.2.1 s.2.2.2.2.2.2.2.2.2.2.2.2.2.1 s.2.2.2.2.2.2.2.2.2.2.2.2.2.2.1 s.2.2.2.2.2.2.2.2.2.2.2.2.2.2.2.1 s.2.2.2.2.2.2.2.2.2.2.2.2.2.2.2.2.1 s.2.2.2.2.2.2.2.2.2.2.2.2.2.2.2.2.2) Fu (0, 0, 0, 0, 0, 0, 0, 0, 0, 0, 0, 0, 0, 0, 0, 0, false, 0) =
    some (m16 l 0, m16 l 1, m16 l 2, m16 l 3, m16 l 4, m16 l 5, m16 l 6, m16 l 7, 2 * m16 l 0, 2 * m16 l 1, 2 * m16 l 2, 2 * m16 l 3, 2 * m16 l 4, 2 * m16 l 5, 2 * m16 l 6, 2 * m16 l 7, anyC (m16 l) 8) := by
  refine loop_fu (fun n s r => ∃ k, k ≤ 8 ∧ n = 8 - k ∧ s = (fC (m16 l) k 0, fC (m16 l) k 1, fC (m16 l) k 2, fC (m16 l) k 3, fC (m16 l) k 4, fC (m16 l) k 5, fC (m16 l) k 6, fC (m16 l) k 7, 2 * fC (m16 l) k 0, 2 * fC (m16 l) k 1, 2 * fC (m16 l) k 2, 2 * fC (m16 l) k 3, 2 * fC (m16 l) k 4, 2 * fC (m16 l) k 5, 2 * fC (m16 l) k 6, 2 * fC (m16 l) k 7, anyC (m16 l) k, (k : Int)) ∧ r = (m16 l 0, m16 l 1, m16 l 2, m16 l 3, m16 l 4, m16 l 5, m16 l 6, m16 l 7, 2 * m16 l 0, 2 * m16 l 1, 2 * m16 l 2, 2 * m16 l 3, 2 * m16 l 4, 2 * m16 l 5, 2 * m16 l 6, 2 * m16 l 7, anyC (m16 l) 8)) ?_ (n := 8) ⟨0, by omega, rfl, rfl, rfl⟩ (by decide)
  rintro n s r ⟨k, hk, rfl, rfl, rfl⟩
  by_cases e : k = 8
  · subst e
    exact .inr rfl
  refine .inl ?_
  have hk8 : k < 8 := by omega
  have hkl : k < l.length := by omega
  have hm := m16_in l k
  have hx : l[k]? = some l[k] := List.getElem?_eq_getElem hkl
  have hmk : bits .and .i64 l[k] 65535 = m16 l k := by rw [m16, List.getD_eq_getElem?_getD, hx]; rfl
  have g1 := get8 (fC (m16 l) k) k hk8
  have g2 := get8 (fun j => 2 * fC (m16 l) k j) k hk8
  have s1 := set8 (fC (m16 l) k) k (m16 l k) hk8
  have s2 := set8 (fun j => 2 * fC (m16 l) k j) k (2 * m16 l k) hk8
  have n1 : ∀ j, (if j = k then m16 l k else fC (m16 l) k j) = fC (m16 l) (k + 1) j := fun j => by
    unfold fC
    by_cases h1 : j = k
    · subst h1; rw [if_pos rfl, if_pos (by omega)]
    · rw [if_neg h1]
      by_cases h2 : j < k
      · rw [if_pos h2, if_pos (by omega)]
      · rw [if_neg h2, if_neg (by omega)]
  have n2 : ∀ j, (if j = k then 2 * m16 l k else 2 * fC (m16 l) k j) = 2 * fC (m16 l) (k + 1) j := fun j => by
    rw [← n1]; split <;> rfl
  have g3 := get8 (fC (m16 l) (k + 1)) k hk8
  have fk : fC (m16 l) (k + 1) k = m16 l k := by unfold fC; rw [if_pos (by omega)]
  have ha : anyC (m16 l) (k + 1) = (anyC (m16 l) k || decide (0 < m16 l k)) := by
    unfold anyC; rw [List.range_succ, List.any_append]; simp
  refine ⟨(fC (m16 l) (k + 1) 0, fC (m16 l) (k + 1) 1, fC (m16 l) (k + 1) 2, fC (m16 l) (k + 1) 3, fC (m16 l) (k + 1) 4, fC (m16 l) (k + 1) 5, fC (m16 l) (k + 1) 6, fC (m16 l) (k + 1) 7, 2 * fC (m16 l) (k + 1) 0, 2 * fC (m16 l) (k + 1) 1, 2 * fC (m16 l) (k + 1) 2, 2 * fC (m16 l) (k + 1) 3, 2 * fC (m16 l) (k + 1) 4, 2 * fC (m16 l) (k + 1) 5, 2 * fC (m16 l) (k + 1) 6, 2 * fC (m16 l) (k + 1) 7, anyC (m16 l) (k + 1), ((k + 1 : Nat) : Int)), 8 - (k + 1), ?_, by omega, k + 1, by omega, rfl, rfl, rfl⟩
  dsimp only [gleaninglaw31_QuantOrder_l2]
  rw [ite_t (dec_t (by omega : (k : Int) < 8)), Int.toNat_natCast]
  simp only [gd_pos (by omega : (0 : Int) ≤ (k : Int)), gd_pos (by omega : (k : Int) < 8), hx, Option.bind_some, hmk, g1, ksuccQ (by omega : k < 1099511627776)]
  rw [s1 0 (by omega), s1 1 (by omega), s1 2 (by omega), s1 3 (by omega), s1 4 (by omega), s1 5 (by omega), s1 6 (by omega), s1 7 (by omega), n1 0, n1 1, n1 2, n1 3, n1 4, n1 5, n1 6, n1 7]
  simp only [g3, fk, Option.bind_some]
  rw [g2, Option.bind_some, w64 (n := 2 * m16 l k) (by omega) (by omega)]
  rw [s2 0 (by omega), s2 1 (by omega), s2 2 (by omega), s2 3 (by omega), s2 4 (by omega), s2 5 (by omega), s2 6 (by omega), s2 7 (by omega), n2 0, n2 1, n2 2, n2 3, n2 4, n2 5, n2 6, n2 7, ha]
  cases anyC (m16 l) k <;> rfl
theorem tot_small : ∀ (l : List Int) (n : Int), 0 ≤ n → (∀ x ∈ l, 0 ≤ x ∧ x ≤ 1099511627776) → n + 1099511627776 * l.length ≤ 9223372036854775807 → l.foldl satp n = n + l.sum
  | [], n, _, _, _ => by simp
  | x :: r, n, hn, hl, hb => by
    have hx := hl x (List.mem_cons_self ..)
    simp only [List.length_cons] at hb
    push_cast at hb
    rw [List.foldl_cons, satp_add hn hx.1 (by omega), tot_small r _ (by omega) (fun y hy => hl y (List.mem_cons_of_mem _ hy)) (by omega), List.sum_cons]
    omega
theorem qIdx_twice {c d : Int → Bool} (h : ∀ n, d (2 * n) = c n) : ∀ (l : List Int) (n : Int), 0 ≤ n → (∀ x ∈ l, 0 ≤ x ∧ x ≤ 1099511627776) → n + 1099511627776 * l.length ≤ 4611686018427387903 → qIdx d (l.map (fun x => 2 * x)) (2 * n) = qIdx c l n
  | [], n, _, _, _ => rfl
  | x :: r, n, hn, hl, hb => by
    have hx := hl x (List.mem_cons_self ..)
    simp only [List.length_cons] at hb
    push_cast at hb
    have e : satp (2 * n) (2 * x) = 2 * satp n x := by rw [satp_add hn hx.1 (by omega), satp_add (by omega) (by omega) (by omega)]; omega
    rw [List.map_cons, qIdx, qIdx, e, h, satp_add hn hx.1 (by omega), qIdx_twice h r _ (by omega) (fun y hy => hl y (List.mem_cons_of_mem _ hy)) (by omega)]
theorem sum_twice : ∀ l : List Int, (l.map (fun x => 2 * x)).sum = 2 * l.sum
  | [] => rfl
  | x :: r => by rw [List.map_cons, List.sum_cons, List.sum_cons, sum_twice r]; omega
theorem sum_nn : ∀ l : List Int, (∀ x ∈ l, 0 ≤ x ∧ x ≤ 1099511627776) → 0 ≤ l.sum ∧ (l.sum = 0 → ∀ x ∈ l, x = 0)
  | [], _ => ⟨by simp, by simp⟩
  | x :: r, h => by
    have ih := sum_nn r (fun y hy => h y (List.mem_cons_of_mem _ hy))
    have hx := h x (List.mem_cons_self ..)
    rw [List.sum_cons]
    refine ⟨by omega, fun e y hy => ?_⟩
    rcases List.mem_cons.1 hy with rfl | hy
    · omega
    · exact ih.2 (by omega) y hy
theorem order_k1 (f : Nat → Int) (hf : ∀ k, 0 ≤ f k ∧ f k ≤ 65535) (p q : Int) (h0 : 0 ≤ p) (h1 : p ≤ q) (h2 : q ≤ 1000) :
    gleaninglaw31_QuantOrder_k1 p q (f 0) (f 1) (f 2) (f 3) (f 4) (f 5) (f 6) (f 7) (2 * f 0) (2 * f 1) (2 * f 2) (2 * f 3) (2 * f 4) (2 * f 5) (2 * f 6) (2 * f 7) (anyC f 8) = some true := by
  have hv : vL (Counter.mk 0 0 (Arr8_Int.mk (f 0) (f 1) (f 2) (f 3) (f 4) (f 5) (f 6) (f 7))) = (List.range 8).map f := rfl
  have hw : vL (Counter.mk 0 0 (Arr8_Int.mk (2 * f 0) (2 * f 1) (2 * f 2) (2 * f 3) (2 * f 4) (2 * f 5) (2 * f 6) (2 * f 7))) = ((List.range 8).map f).map (fun x => 2 * x) := rfl
  have hV : ∀ x ∈ (List.range 8).map f, 0 ≤ x ∧ x ≤ 1099511627776 := fun x hx => by
    obtain ⟨k, _, rfl⟩ := List.mem_map.1 hx
    have := hf k; omega
  have hi : ∀ x ∈ (List.range 8).map f, I63 x := fun x hx => by have := hV x hx; unfold I63; omega
  have hi2 : ∀ x ∈ ((List.range 8).map f).map (fun x => 2 * x), I63 x := fun x hx => by
    obtain ⟨y, hy, rfl⟩ := List.mem_map.1 hx
    have := hV y hy; unfold I63; omega
  have hlen : ((List.range 8).map f).length = 8 := by simp
  have hget : ∀ k, k < 8 → ((List.range 8).map f).getD k 0 = f k := fun k hk => by
    rw [List.getD_eq_getElem?_getD, List.getElem?_map, List.getElem?_range hk]; rfl
  have hany : anyC f 8 = true ↔ ∃ x ∈ (List.range 8).map f, 0 < x := by
    unfold anyC
    rw [List.any_eq_true]
    constructor
    · rintro ⟨k, hk, h⟩; exact ⟨f k, List.mem_map.2 ⟨k, hk, rfl⟩, of_decide_eq_true h⟩
    · rintro ⟨x, hx, h⟩
      obtain ⟨k, hk, rfl⟩ := List.mem_map.1 hx
      exact ⟨k, hk, decide_eq_true h⟩
  have hT : tot ((List.range 8).map f) = ((List.range 8).map f).sum := by rw [tot, tot_small _ 0 (Int.le_refl _) hV (by rw [hlen]; decide)]; omega
  have hT2 : tot (((List.range 8).map f).map (fun x => 2 * x)) = 2 * ((List.range 8).map f).sum := by
    rw [tot, tot_small _ 0 (Int.le_refl _) (fun x hx => by
      obtain ⟨y, hy, rfl⟩ := List.mem_map.1 hx
      obtain ⟨k, _, rfl⟩ := List.mem_map.1 hy
      have := hf k; omega) (by rw [List.length_map, hlen]; decide), sum_twice]; omega
  have hnn := sum_nn _ hV
  unfold gleaninglaw31_QuantOrder_k1
  rw [quantile_spec _ p (by rw [hv]; exact hi), quantile_spec _ q (by rw [hv]; exact hi), quantile_spec _ q (by rw [hw]; exact hi2)]
  simp only [Option.bind_some, hv, hw]
  by_cases hz : ((List.range 8).map f).sum = 0
  · have ha : anyC f 8 = false := by
      cases h : anyC f 8 with
      | false => rfl
      | true =>
        obtain ⟨x, hx, hx2⟩ := hany.1 h
        have := hnn.2 hz x hx; omega
    have e1 : ∀ p, qSpec ((List.range 8).map f) p = (0, false) := fun p => by rw [qSpec, if_pos (.inl (by rw [hT, hz]))]
    have e2 : qSpec (((List.range 8).map f).map (fun x => 2 * x)) q = (0, false) := by rw [qSpec, if_pos (.inl (by rw [hT2, hz]; rfl))]
    rw [e1, e1, e2, ha]; rfl
  · have ha : anyC f 8 = true := by
      rw [hany]
      by_cases hx : ∃ x ∈ (List.range 8).map f, 0 < x
      · exact hx
      · exfalso
        apply hz
        have : ∀ l : List Int, (∀ x ∈ l, x = 0) → l.sum = 0 := by
          intro l
          induction l with
          | nil => intro _; rfl
          | cons x r ih => intro h; rw [List.sum_cons, h x (List.mem_cons_self ..), ih (fun y hy => h y (List.mem_cons_of_mem _ hy))]; rfl
        refine this _ fun x hx2 => ?_
        have := hV x hx2
        by_cases h0 : 0 < x
        · exact absurd ⟨x, hx2, h0⟩ hx
        · omega
    have hpos : 0 < ((List.range 8).map f).sum := by omega
    have hlast : ∀ p, 0 ≤ p → p ≤ 1000 → enough p (tot ((List.range 8).map f)) (((List.range 8).map f).foldl satp 0) = true := fun p h0 h1 => by
      have : ((List.range 8).map f).foldl satp 0 = ((List.range 8).map f).sum := hT
      rw [this, hT, enough, dec_t hpos, Bool.true_and]
      exact decide_eq_true (by rw [Int.mul_comm]; exact Int.mul_le_mul_of_nonneg_left h1 (by omega))
    obtain ⟨kq, hkq⟩ := qIdx_ex (enough_0 q (tot ((List.range 8).map f))) (hlast q (by omega) h2)
    obtain ⟨kp, hle, hkp⟩ := qIdx_mono (c := enough p (tot ((List.range 8).map f))) (fun n hn => by
      have hTn : 0 ≤ tot ((List.range 8).map f) := by omega
      unfold enough at hn ⊢
      rw [Bool.and_eq_true] at hn ⊢
      refine ⟨hn.1, decide_eq_true ?_⟩
      have h3 := of_decide_eq_true hn.2
      have h4 := Int.mul_le_mul_of_nonneg_right h1 hTn
      omega) hkq
    have hkq2 : qIdx (enough q (tot (((List.range 8).map f).map (fun x => 2 * x)))) (((List.range 8).map f).map (fun x => 2 * x)) 0 = some kq := by
      rw [← hkq]
      refine qIdx_twice (c := enough q (tot ((List.range 8).map f))) (fun n => ?_) _ 0 (Int.le_refl _) hV (by rw [hlen]; decide)
      rw [hT, hT2]
      unfold enough
      have e : q * (2 * ((List.range 8).map f).sum) = 2 * (q * ((List.range 8).map f).sum) := by rw [Int.mul_left_comm]
      rw [e]
      congr 1
      · exact decide_eq_decide.2 (by omega)
      · exact decide_eq_decide.2 (by omega)
    have kq8 : kq < 8 := by have := qIdx_lt hkq; rwa [hlen] at this
    have kp8 : kp < 8 := by omega
    have pq := qIdx_pos n0 hi (enough_0 _ _) hkq
    have pp := qIdx_pos n0 hi (enough_0 _ _) hkp
    rw [hget _ kq8] at pq
    rw [hget _ kp8] at pp
    have e1 : qSpec ((List.range 8).map f) p = (low8.getD kp 0, true) := by rw [qSpec, if_neg (by rw [hT]; omega), hkp, resQ, Nat.zero_add]
    have e2 : qSpec ((List.range 8).map f) q = (low8.getD kq 0, true) := by rw [qSpec, if_neg (by rw [hT]; omega), hkq, resQ, Nat.zero_add]
    have e3 : qSpec (((List.range 8).map f).map (fun x => 2 * x)) q = (low8.getD kq 0, true) := by rw [qSpec, if_neg (by rw [hT2]; omega), hkq2, resQ, Nat.zero_add]
    have lm := low_mono kp kq kq8 hle
    have o1 := ofN_low kq kq8
    have o2 := ofN_low kp kp8
    have g1 := get8 f kq kq8
    have g2 := get8 f kp kp8
    rw [e1, e2, e3, ha]
    simp only [Bool.not_true, Bool.false_eq_true, if_false, if_true, dec_t lm, dec_t (Int.le_refl (low8.getD kq 0)), beq_self_eq_true, of_spec, o1, o2, Option.bind_some, Int.toNat_natCast, gd_pos (by omega : (0 : Int) ≤ (kq : Int)), gd_pos (by omega : (0 : Int) ≤ (kp : Int)), gd_pos (by omega : (kq : Int) < 8), gd_pos (by omega : (kp : Int) < 8), g1, g2, dec_t pq, dec_t pp, ite_self]
set_option maxRecDepth 100000 in
theorem quantOrder_true (l : List Int) (p q : Int) (_ : List.length l ≤ maxLen ∧ ∀ y ∈ l, inI .i64 y) (_ : inI .i64 p) (_ : inI .i64 q) : gleaninglaw31_QuantOrder l p q = some true := by
  unfold gleaninglaw31_QuantOrder
  rw [alive31, Option.bind_some]
  by_cases h1 : (l.length : Int) < 8
  · simp [h1]
  by_cases h2 : p < 0
  · simp [h1, h2]
  by_cases h3 : q < p
  · simp [h1, h2, h3]
  by_cases h4 : 1000 < q
  · simp [h1, h2, h3, h4]
  simp only [h1, h2, h3, h4, Bool.not_true, Bool.false_eq_true, if_false, decide_false, Option.bind_some, Sum.elim_inl, gleaninglaw31_QuantOrder_k0]
  rw [order_loop l (by omega)]
  exact order_k1 (m16 l) (m16_in l) p q (by omega) (by omega) (by omega)
end Go.Proofs.Ytmhbopjjkgjbnaa.Ab
