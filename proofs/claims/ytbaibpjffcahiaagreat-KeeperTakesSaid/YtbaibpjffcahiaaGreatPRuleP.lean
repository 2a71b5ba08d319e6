/- Policies as bytes, told plainly: the program. -/
import Derived.Test.YtbaibpjffcahiaaGreatXR1
import Derived.Test.YtbaibpjffcahiaaGreatPKit
import Derived.Test.YtbaibpjffcahiaaGreatPRW
namespace Go.Proofs.YtbaibpjffcahiaaGreat.Ab
open Go Go.RowKit
set_option linter.unusedVariables false
set_option linter.unusedSimpArgs false
theorem fuP : Fu = 1208925819614629174706175 + 1 := rfl
theorem ksu {k : Nat} (h : k < 1099511627776) : IntKind.i64.wrap ((k : Int) + 1) = ((k + 1 : Nat) : Int) := by rw [w64 (by omega) (by omega)]; push_cast; rfl
theorem fuel_pos {N d : Nat} (h : d < N) : ∃ N', N = N' + 1 ∧ d ≤ N' := ⟨N - 1, by omega, by omega⟩
def nameR (s : ByteArray) : Bool := decide (1 ≤ s.size) && decide (s.size ≤ 16)
theorem nameR_spec (s : ByteArray) : span_Name s = some (nameR s) := by
 unfold span_Name nameR
 by_cases h : 1 ≤ s.size
 ·simp only [dec_t (by omega : (1 : Int) ≤ (s.size : Int)), if_true, dec_t h, Bool.true_and]
  congr 2
  exact propext ⟨fun h => by omega, fun h => by omega⟩
 ·simp only [dec_f (by omega : ¬ (1 : Int) ≤ (s.size : Int)), Bool.false_eq_true, if_false, dec_f h, Bool.false_and]
theorem within_r (n a b : Int) : gleaningref1_Within n a b = some (decide (a ≤ n) && decide (n ≤ b)) := by
 unfold gleaningref1_Within
 by_cases h : a ≤ n
 ·simp [h]
 ·simp [h]
theorem within_nameR (s : ByteArray) : gleaningref1_Within (s.size : Int) 1 16 = some (nameR s) := by
 rw [within_r, nameR]
 congr 2
 ·congr 1; exact propext ⟨fun h => by omega, fun h => by omega⟩
 ·congr 1; exact propext ⟨fun h => by omega, fun h => by omega⟩
def topK (k : Int) : Int := if k = 4 then 1073741824 else if k = 7 ∨ k = 8 then 1000 else if k = 9 then 1000000 else -1
def ownB (r : Rule) : Bool :=
 if r.Kind = 1 ∨ r.Kind = 2 then decide (r.N = 0 ∧ r.Key = strOf [] ∧ r.Value = strOf [])
 else if r.Kind = 3 then decide (r.N = 0 ∧ r.Key = strOf [] ∧ r.Value = strOf [] ∧ r.Kids.length = 1)
 else if r.Kind = 5 then decide (r.N = 0 ∧ r.Key = strOf [] ∧ r.Value = strOf [] ∧ r.Kids.length = 0)
 else if r.Kind = 6 then decide (r.N = 0) && nameR r.Key && decide (r.Value.size ≤ 16) && decide (r.Kids.length = 0)
 else decide (r.Key = strOf [] ∧ r.Value = strOf [] ∧ 0 ≤ r.N ∧ r.N ≤ topK r.Kind ∧ r.Kids.length = 0)
theorem top_spec (k : Int) : rule_top k = some (topK k) := by
 unfold rule_top topK
 by_cases h4 : k = 4
 ·simp [h4]
 by_cases h7 : k = 7
 ·simp [h7, rule_top_k0]
 by_cases h8 : k = 8
 ·simp [h8, rule_top_k0]
 by_cases h9 : k = 9
 ·simp [h9, rule_top_k0]
 simp [h4, h7, h8, h9, rule_top_k0]
theorem len_beq (l : List Rule) (n : Nat) : ((l.length : Int) == (n : Int)) = decide (l.length = n) := by
 rw [Bool.eq_iff_iff]; simp only [beq_iff_eq, decide_eq_true_eq]; omega
theorem own_spec (r : Rule) : rule_own r = some (ownB r) := by
 have l1 : ((r.Kids.length : Int) == 1) = decide (r.Kids.length = 1) := len_beq r.Kids 1
 have l0 : ((r.Kids.length : Int) == 0) = decide (r.Kids.length = 0) := len_beq r.Kids 0
 have hb : (if (ByteArray.toList r.Key == ByteArray.toList (strOf [])) = true then (some (ByteArray.toList r.Value == ByteArray.toList (strOf []))) else (some false)) = some (decide (r.Key = strOf [] ∧ r.Value = strOf [])) := by
  simp only [str_beq]
  by_cases h1 : r.Key = strOf [] <;> by_cases h2 : r.Value = strOf [] <;> simp [h1, h2]
 rw [rule_own, hb, Option.bind_some, rule_own_k0]
 generalize ht : decide (r.Key = strOf [] ∧ r.Value = strOf []) = t
 by_cases k1 : r.Kind = 1
 ·simp only [k1, beq_self_eq_true, if_true, Option.bind_some, rule_own_k2, ownB, true_or]
  by_cases hn : r.N = 0
  ·simp [hn, ← ht]
  ·simp [hn]
 by_cases k2 : r.Kind = 2
 ·simp only [k2, (by decide : ((2 : Int) == 1) = false), Bool.false_eq_true, if_false, beq_self_eq_true, if_true, Option.bind_some, rule_own_k2, ownB, or_true]
  by_cases hn : r.N = 0
  ·simp [hn, ← ht]
  ·simp [hn]
 have e1 : (r.Kind == 1) = false := by simpa using k1
 have e2 : (r.Kind == 2) = false := by simpa using k2
 simp only [e1, e2, Bool.false_eq_true, if_false, Option.bind_some, rule_own_k2, ownB, k1, k2, or_self]
 by_cases k3 : r.Kind = 3
 ·simp only [k3, beq_self_eq_true, if_true, l1]
  by_cases hn : r.N = 0 <;> cases t <;> simp_all
 have e3 : (r.Kind == 3) = false := by simpa using k3
 simp only [e3, Bool.false_eq_true, if_false, k3]
 by_cases k5 : r.Kind = 5
 ·simp only [k5, beq_self_eq_true, if_true, l0]
  by_cases hn : r.N = 0 <;> cases t <;> simp_all
 have e5 : (r.Kind == 5) = false := by simpa using k5
 simp only [e5, Bool.false_eq_true, if_false, k5]
 by_cases k6 : r.Kind = 6
 ·simp only [k6, beq_self_eq_true, if_true, l0, nameR_spec, Option.bind_some]
  by_cases hn : r.N = 0
  case neg => simp [hn]
  cases hk : nameR r.Key
  ·simp [hn]
  by_cases hv : r.Value.size ≤ 16
  ·simp only [hn, beq_self_eq_true, if_true, dec_t (by omega : (r.Value.size : Int) ≤ 16), Option.bind_some, Sum.elim_inr, dec_t hv, decide_true, Bool.true_and]
  ·simp only [hn, beq_self_eq_true, if_true, dec_f (by omega : ¬ (r.Value.size : Int) ≤ 16), Bool.false_eq_true, if_false, Option.bind_some, Sum.elim_inr, dec_f hv, Bool.and_false, Bool.false_and]
 have e6 : (r.Kind == 6) = false := by simpa using k6
 simp only [e6, Bool.false_eq_true, if_false, k6, Option.bind_some, Sum.elim_inl, rule_own_k1, top_spec, l0]
 cases t
 ·simp only [Bool.false_eq_true, if_false]
  have : ¬ (r.Key = strOf [] ∧ r.Value = strOf []) := by simpa using ht
  rw [dec_f (fun h => this ⟨h.1, h.2.1⟩)]
 ·have h2 : r.Key = strOf [] ∧ r.Value = strOf [] := by simpa using ht
  by_cases h0 : 0 ≤ r.N <;> by_cases h3 : r.N ≤ topK r.Kind <;> simp [h0, h3, h2]
theorem one_spec (r : Rule) : gleaningref1_one r = some (ownB r) := by
 have l1 : ((r.Kids.length : Int) == 1) = decide (r.Kids.length = 1) := len_beq r.Kids 1
 have l0 : ((r.Kids.length : Int) == 0) = decide (r.Kids.length = 0) := len_beq r.Kids 0
 have hb : (if (r.N == 0) = true then (if (ByteArray.toList r.Key == ByteArray.toList (strOf [])) = true then (some (ByteArray.toList r.Value == ByteArray.toList (strOf []))) else (some false)) else (some false)) = some (decide (r.N = 0 ∧ r.Key = strOf [] ∧ r.Value = strOf [])) := by
  simp only [str_beq]
  by_cases hn : r.N = 0 <;> by_cases h1 : r.Key = strOf [] <;> by_cases h2 : r.Value = strOf [] <;> simp [h1, h2, hn]
 have hc : (if (ByteArray.toList r.Key == ByteArray.toList (strOf [])) = true then (if (ByteArray.toList r.Value == ByteArray.toList (strOf [])) = true then (some ((List.length r.Kids : Int) == 0)) else (some false)) else (some false)) = some (decide (r.Key = strOf [] ∧ r.Value = strOf [] ∧ r.Kids.length = 0)) := by
  simp only [str_beq, l0]
  by_cases h1 : r.Key = strOf [] <;> by_cases h2 : r.Value = strOf [] <;> simp [h1, h2]
 rw [gleaningref1_one, hb, Option.bind_some, gleaningref1_one_k0, hc, Option.bind_some, gleaningref1_one_k1]
 by_cases k1 : r.Kind = 1
 ·simp only [k1, beq_self_eq_true, if_true, Option.bind_some, gleaningref1_one_k2, ownB, true_or]
 by_cases k2 : r.Kind = 2
 ·simp only [k2, (by decide : ((2 : Int) == 1) = false), Bool.false_eq_true, if_false, beq_self_eq_true, if_true, Option.bind_some, gleaningref1_one_k2, ownB, or_true]
 have e1 : (r.Kind == 1) = false := by simpa using k1
 have e2 : (r.Kind == 2) = false := by simpa using k2
 simp only [e1, e2, Bool.false_eq_true, if_false, Option.bind_some, gleaningref1_one_k2, ownB, k1, k2, or_self]
 by_cases k3 : r.Kind = 3
 ·simp only [k3, beq_self_eq_true, if_true, l1]
  by_cases hn : r.N = 0 <;> by_cases h1 : r.Key = strOf [] <;> by_cases h2 : r.Value = strOf [] <;> simp [hn, h1, h2]
 have e3 : (r.Kind == 3) = false := by simpa using k3
 simp only [e3, Bool.false_eq_true, if_false, k3]
 by_cases k5 : r.Kind = 5
 ·simp only [k5, beq_self_eq_true, if_true, l0]
  by_cases hn : r.N = 0 <;> by_cases h1 : r.Key = strOf [] <;> by_cases h2 : r.Value = strOf [] <;> simp [hn, h1, h2]
 have e5 : (r.Kind == 5) = false := by simpa using k5
 simp only [e5, Bool.false_eq_true, if_false, k5]
 by_cases k6 : r.Kind = 6
 ·simp only [k6, beq_self_eq_true, if_true, l0, within_nameR, Option.bind_some]
  by_cases hn : r.N = 0
  case neg => simp [hn]
  cases hk : nameR r.Key
  ·simp [hn]
  by_cases hv : r.Value.size ≤ 16
  ·simp only [hn, beq_self_eq_true, if_true, dec_t (by omega : (r.Value.size : Int) ≤ 16), dec_t hv, decide_true, Bool.true_and]
  ·simp only [hn, beq_self_eq_true, if_true, dec_f (by omega : ¬ (r.Value.size : Int) ≤ 16), Bool.false_eq_true, if_false, dec_f hv, Bool.and_false, Bool.false_and]
 have e6 : (r.Kind == 6) = false := by simpa using k6
 simp only [e6, Bool.false_eq_true, if_false, k6, within_r, Option.bind_some, topK]
 have fin : ∀ (m : Int), (if (decide (r.Key = strOf [] ∧ r.Value = strOf [] ∧ r.Kids.length = 0)) = true then some (decide (0 ≤ r.N) && decide (r.N ≤ m)) else some false) = some (decide (r.Key = strOf [] ∧ r.Value = strOf [] ∧ 0 ≤ r.N ∧ r.N ≤ m ∧ r.Kids.length = 0)) := by
  intro m
  by_cases h1 : r.Key = strOf [] <;> by_cases h2 : r.Value = strOf [] <;> by_cases h3 : r.Kids.length = 0 <;> by_cases h4 : 0 ≤ r.N <;> by_cases h5 : r.N ≤ m <;> simp [h1, h2, h3, h4, h5]
 by_cases k4 : r.Kind = 4
 ·simp only [k4, beq_self_eq_true, if_true]; exact fin _
 have e4 : (r.Kind == 4) = false := by simpa using k4
 simp only [e4, Bool.false_eq_true, if_false, k4]
 by_cases k7 : r.Kind = 7
 ·simp only [k7, beq_self_eq_true, if_true, Option.bind_some, gleaningref1_one_k3, within_r, true_or]; exact fin _
 have e7 : (r.Kind == 7) = false := by simpa using k7
 by_cases k8 : r.Kind = 8
 ·simp only [k8, (by decide : ((8 : Int) == 7) = false), Bool.false_eq_true, if_false, beq_self_eq_true, if_true, Option.bind_some, gleaningref1_one_k3, within_r, or_true]; exact fin _
 have e8 : (r.Kind == 8) = false := by simpa using k8
 simp only [e7, e8, Bool.false_eq_true, if_false, Option.bind_some, gleaningref1_one_k3, within_r, k7, k8, or_self]
 by_cases k9 : r.Kind = 9
 ·simp only [k9, beq_self_eq_true, if_true]; exact fin _
 have e9 : (r.Kind == 9) = false := by simpa using k9
 simp only [e9, Bool.false_eq_true, if_false, k9]
 rw [dec_f (fun h => by have := h.2.2.1; have := h.2.2.2.1; omega)]
def sumL (f : Rule → Nat) : List Rule → Nat
 | [] => 0
 | r :: l => f r + sumL f l
theorem sumL_app (f : Rule → Nat) : ∀ a b : List Rule, sumL f (a ++ b) = sumL f a + sumL f b
 | [], b => by simp [sumL]
 | r :: a, b => by simp only [List.cons_append, sumL, sumL_app f a b]; omega
theorem sumL_take (f : Rule → Nat) (l : List Rule) (k : Nat) : sumL f (l.take k) ≤ sumL f l := by
 conv => rhs; rw [← List.take_append_drop k l, sumL_app]
 omega
theorem sumL_succ (f : Rule → Nat) (l : List Rule) (k : Nat) (h : k < l.length) : sumL f (l.take (k + 1)) = sumL f (l.take k) + f l[k] := by
 rw [List.take_succ_eq_append_getElem h, sumL_app]; simp [sumL]
theorem sumL_len (f : Rule → Nat) : ∀ (l : List Rule), (∀ x ∈ l, 1 ≤ f x) → l.length ≤ sumL f l
 | [], _ => by simp
 | r :: l, h => by
  have h1 := h r List.mem_cons_self
  have h2 := sumL_len f l fun x hx => h x (List.mem_cons_of_mem _ hx)
  simp only [sumL, List.length_cons]; omega
def numF : Nat → Rule → Nat
 | 0, _ => 0
 | d + 1, r => 1 + sumL (numF d) r.Kids
def okF : Nat → Rule → Bool
 | 0, _ => false
 | d + 1, r => ownB r && r.Kids.all (okF d)
def depF : Nat → Rule → Bool
 | 0, _ => false
 | d + 1, r => r.Kids.all (depF d)
theorem ok_dep : ∀ (d : Nat) (r : Rule), okF d r = true → depF d r = true
 | 0, r, h => by cases h
 | d + 1, r, h => by
  simp only [okF, Bool.and_eq_true, List.all_eq_true] at h
  simp only [depF, List.all_eq_true]
  exact fun x hx => ok_dep d x (h.2 x hx)
theorem num_pos (d : Nat) (r : Rule) : 1 ≤ numF (d + 1) r := by rw [numF]; omega
def rightR (r : Rule) : Bool := okF 5 r && decide (numF 5 r ≤ 20)
theorem count_spec : ∀ (d : Nat) (r : Rule) (left : Int) (N : Nat), d < N → d ≤ 100 → -1000 ≤ left → left ≤ 1000 →
  rule_countN N r (d : Int) left = some (if okF d r = true ∧ (numF d r : Int) ≤ left then ((numF d r : Int), true) else (0, false)) := by
 intro d
 induction d with
 | zero =>
  intro r left N hN _ _ _
  obtain ⟨N', rfl, _⟩ := fuel_pos hN
  have ht : (if okF 0 r = true ∧ (numF 0 r : Int) ≤ left then ((numF 0 r : Int), true) else (0, false)) = (0, false) := if_neg (by simp [okF])
  rw [ht, rule_countN, rule_count_b]
  rfl
 | succ d ih =>
  intro r left N hN hd hl1 hl2
  obtain ⟨N', rfl, hN'⟩ := fuel_pos hN
  have hnum : numF (d + 1) r = 1 + sumL (numF d) r.Kids := rfl
  rw [rule_countN, rule_count_b, dec_f (by omega : ¬ ((d + 1 : Nat) : Int) < 1), ite_ff]
  by_cases h1 : left < 1
  ·rw [dec_t h1, ite_tt, if_neg (by rintro ⟨_, h⟩; omega)]; rfl
  rw [dec_f h1, ite_ff, own_spec, Option.bind_some]
  cases ho : ownB r with
  | false =>
   have ht : (if okF (d + 1) r = true ∧ (numF (d + 1) r : Int) ≤ left then ((numF (d + 1) r : Int), true) else (0, false)) = (0, false) := if_neg (by simp [okF, ho])
   rw [ht]; rfl
  | true =>
   simp only [Bool.not_true, Bool.false_eq_true, if_false, Option.bind_some, Sum.elim_inl, rule_count_b_k0]
   by_cases hlen : r.Kids.length ≤ 1000
   case pos =>
    refine loop_list (l := r.Kids) (fun k q s => s = ((1 : Int) + (sumL (numF d) (r.Kids.take k) : Int), (k : Int)) ∧ (∀ x ∈ r.Kids.take k, okF d x = true) ∧ (1 : Int) + (sumL (numF d) (r.Kids.take k) : Int) ≤ left ∧ q = (if okF (d + 1) r = true ∧ (numF (d + 1) r : Int) ≤ left then ((numF (d + 1) r : Int), true) else (0, false))) (by omega) ?_ ?_ ⟨by simp [sumL], by simp, by simp [sumL]; omega, by first | rfl | trivial⟩
    ·rintro k hk q s ⟨rfl, hok, hle, rfl⟩
     have hs := sumL_succ (numF d) r.Kids k hk
     simp only [rule_count_b_l1, dec_t (by omega : (k : Int) < (r.Kids.length : Int)), if_true, gd_pos (by omega : (0 : Int) ≤ (k : Int)), Int.toNat_natCast, List.getElem?_eq_getElem hk, Option.bind_some]
     rw [show IntKind.i64.wrap (((d + 1 : Nat) : Int) - 1) = (d : Int) by rw [w64 (by omega) (by omega)]; push_cast; omega, w64 (by omega) (by omega), ih _ _ _ (by omega) (by omega) (by omega) (by omega), Option.bind_some]
     by_cases hc : okF d r.Kids[k] = true ∧ (numF d r.Kids[k] : Int) ≤ left - (1 + (sumL (numF d) (r.Kids.take k) : Int))
     ·rw [if_pos hc]
      refine .inl ⟨((1 : Int) + (sumL (numF d) (r.Kids.take (k + 1)) : Int), ((k + 1 : Nat) : Int)), ?_, rfl, fun x hx => ?_, by omega, by first | trivial | rfl⟩
      ·simp only [Bool.not_true, Bool.false_eq_true, if_false]
       rw [w64 (by omega) (by omega), ksu (by omega), hs]
       congr 3
       push_cast; omega
      ·rw [List.take_succ_eq_append_getElem hk] at hx
       rcases List.mem_append.1 hx with hx | hx
       ·exact hok x hx
       ·rw [List.mem_singleton.1 hx]; exact hc.1
     ·rw [if_neg hc]
      refine .inr ?_
      simp only [Bool.not_false, if_true]
      rw [if_neg]
      rintro ⟨h2, h3⟩
      simp only [okF, Bool.and_eq_true, List.all_eq_true] at h2
      have h4 := sumL_take (numF d) r.Kids (k + 1)
      exact hc ⟨h2.2 _ (List.getElem_mem hk), by omega⟩
    ·rintro q s ⟨rfl, hok, hle, rfl⟩
     rw [List.take_length] at hok hle ⊢
     simp only [rule_count_b_l1, dec_f (by omega : ¬ (r.Kids.length : Int) < (r.Kids.length : Int)), Bool.false_eq_true, if_false]
     rw [if_pos ⟨by simp only [okF, ho, Bool.true_and, List.all_eq_true]; exact hok, by omega⟩, hnum]
     push_cast; rfl
   case neg =>
    refine loop_list (l := r.Kids.take 1000) (fun k q s => s = ((1 : Int) + (sumL (numF d) (r.Kids.take k) : Int), (k : Int)) ∧ (∀ x ∈ r.Kids.take k, okF d x = true) ∧ (1 : Int) + (sumL (numF d) (r.Kids.take k) : Int) ≤ left ∧ q = (if okF (d + 1) r = true ∧ (numF (d + 1) r : Int) ≤ left then ((numF (d + 1) r : Int), true) else (0, false))) (by simp; omega) ?_ ?_ ⟨by simp [sumL], by simp, by simp [sumL]; omega, by first | rfl | trivial⟩
    ·rintro k hk0 q s ⟨rfl, hok, hle, rfl⟩
     have hk : k < r.Kids.length := by simp at hk0; omega
     have hk1 : k < 1000 := by simp at hk0; omega
     have hs := sumL_succ (numF d) r.Kids k hk
     simp only [rule_count_b_l1, dec_t (by omega : (k : Int) < (r.Kids.length : Int)), if_true, gd_pos (by omega : (0 : Int) ≤ (k : Int)), Int.toNat_natCast, List.getElem?_eq_getElem hk, Option.bind_some]
     rw [show IntKind.i64.wrap (((d + 1 : Nat) : Int) - 1) = (d : Int) by rw [w64 (by omega) (by omega)]; push_cast; omega, w64 (by omega) (by omega), ih _ _ _ (by omega) (by omega) (by omega) (by omega), Option.bind_some]
     by_cases hc : okF d r.Kids[k] = true ∧ (numF d r.Kids[k] : Int) ≤ left - (1 + (sumL (numF d) (r.Kids.take k) : Int))
     ·rw [if_pos hc]
      refine .inl ⟨((1 : Int) + (sumL (numF d) (r.Kids.take (k + 1)) : Int), ((k + 1 : Nat) : Int)), ?_, rfl, fun x hx => ?_, by omega, by first | trivial | rfl⟩
      ·simp only [Bool.not_true, Bool.false_eq_true, if_false]
       rw [w64 (by omega) (by omega), ksu (by omega), hs]
       congr 3
       push_cast; omega
      ·rw [List.take_succ_eq_append_getElem hk] at hx
       rcases List.mem_append.1 hx with hx | hx
       ·exact hok x hx
       ·rw [List.mem_singleton.1 hx]; exact hc.1
     ·rw [if_neg hc]
      refine .inr ?_
      simp only [Bool.not_false, if_true]
      rw [if_neg]
      rintro ⟨h2, h3⟩
      simp only [okF, Bool.and_eq_true, List.all_eq_true] at h2
      have h4 := sumL_take (numF d) r.Kids (k + 1)
      exact hc ⟨h2.2 _ (List.getElem_mem hk), by omega⟩
    ·rintro q s ⟨rfl, hok, hle, rfl⟩
     exfalso
     have hl : (r.Kids.take 1000).length = 1000 := by simp; omega
     rw [hl] at hok hle
     have hpos : ∀ x ∈ r.Kids.take 1000, 1 ≤ numF d x := fun x hx => by
      have := hok x hx
      cases d with
      | zero => cases this
      | succ d => exact num_pos d x
     have := sumL_len (numF d) _ hpos
     omega
theorem right_spec' (r : Rule) : rule_Right r = some (rightR r) := by
 have := count_spec 5 r 20 Fu (by rw [fuP]; omega) (by omega) (by omega) (by omega)
 rw [rule_Right, rule_count, show ((5 : Int)) = ((5 : Nat) : Int) from rfl, this, Option.bind_some, rightR]
 cases ho : okF 5 r
 ·simp
 ·by_cases hn : numF 5 r ≤ 20
  ·rw [if_pos ⟨rfl, by omega⟩, dec_t hn]; rfl
  ·rw [if_neg (by rintro ⟨_, h⟩; omega), dec_f hn]; rfl
theorem nodes_spec : ∀ (d : Nat) (r : Rule) (N : Nat), d < N → d ≤ 100 →
  ∃ v : Int, gleaningref1_nodesN N r (d : Int) = some v ∧ 1 ≤ v ∧ v ≤ 21 + 20 * (d : Int) ∧ (v ≤ 20 → depF d r = true ∧ v = (numF d r : Int)) ∧ (depF d r = true → (numF d r : Int) ≤ 20 → v ≤ 20) := by
 intro d
 induction d with
 | zero =>
  intro r N hN _
  obtain ⟨N', rfl, _⟩ := fuel_pos hN
  exact ⟨21, by rw [gleaningref1_nodesN, gleaningref1_nodes_b]; rfl, by omega, by omega, fun h => by omega, fun h => by cases h⟩
 | succ d ih =>
  intro r N hN hd
  obtain ⟨N', rfl, hN'⟩ := fuel_pos hN
  have hnum : numF (d + 1) r = 1 + sumL (numF d) r.Kids := rfl
  rw [gleaningref1_nodesN, gleaningref1_nodes_b, ite_f (by simp only [beq_eq_false_iff_ne, ne_eq]; omega)]
  have key : ∃ v : Int, loopN (fun (s : Int × Int) => gleaningref1_nodes_b_l0 (gleaningref1_nodesN N') r ((d + 1 : Nat) : Int) s.1 s.2) Fu (1, 0) = some v ∧ (1 ≤ v ∧ v ≤ 21 + 20 * ((d + 1 : Nat) : Int) ∧ (v ≤ 20 → depF (d + 1) r = true ∧ v = (numF (d + 1) r : Int)) ∧ (depF (d + 1) r = true → (numF (d + 1) r : Int) ≤ 20 → v ≤ 20)) := by
   refine loop_inv (fun m (s : Int × Int) => ∃ k : Nat, k ≤ r.Kids.length ∧ m = 40 - s.1.toNat + 1 ∧ s.2 = (k : Int) ∧ 1 + (k : Int) ≤ s.1 ∧ s.1 ≤ 41 + 20 * (d : Int) ∧ (s.1 ≤ 20 → (∀ x ∈ r.Kids.take k, depF d x = true) ∧ s.1 = 1 + (sumL (numF d) (r.Kids.take k) : Int)) ∧ (20 < s.1 → depF (d + 1) r = true → ¬ (numF (d + 1) r : Int) ≤ 20)) _ ?_ Fu 40 (1, 0) ⟨0, by omega, by simp, rfl, by simp, by simp; omega, fun _ => ⟨by simp, by simp [sumL]⟩, fun h => by simp at h⟩ (by rw [fuP]; omega)
   rintro m ⟨n, i⟩ ⟨k, hk, hm, hi, h1, h2, h3, h4⟩
   dsimp only at hi h1 h2 h3 h4 hm
   subst hi
   by_cases hn : n ≤ 20
   case neg =>
    refine .inr ⟨n, ?_, by omega, by omega, fun h => by omega, fun h5 h6 => absurd h6 (h4 (by omega) h5)⟩
    simp only [gleaningref1_nodes_b_l0, dec_f hn]
    by_cases hkl : (k : Int) < (r.Kids.length : Int)
    ·simp only [dec_t hkl, if_true, Bool.false_eq_true, if_false, Option.bind_some, Sum.elim_inr]
    ·simp only [dec_f hkl, Bool.false_eq_true, if_false, Option.bind_some, Sum.elim_inr]
   obtain ⟨g1, g2⟩ := h3 hn
   by_cases e : k = r.Kids.length
   ·subst e
    rw [List.take_length] at g1 g2
    refine .inr ⟨n, ?_, by omega, by omega, fun _ => ⟨by simp only [depF, List.all_eq_true]; exact g1, by rw [hnum]; push_cast; omega⟩, fun _ _ => hn⟩
    simp only [gleaningref1_nodes_b_l0, dec_f (by omega : ¬ (r.Kids.length : Int) < (r.Kids.length : Int)), Bool.false_eq_true, if_false, Option.bind_some, Sum.elim_inr]
   ·have hk2 : k < r.Kids.length := by omega
    obtain ⟨v, hv, v1, v2, v3, v4⟩ := ih r.Kids[k] N' (by omega) (by omega)
    have hs := sumL_succ (numF d) r.Kids k hk2
    have hst := sumL_take (numF d) r.Kids (k + 1)
    refine .inl ⟨(n + v, ((k + 1 : Nat) : Int)), 40 - (n + v).toNat + 1, ?_, by omega, k + 1, by omega, rfl, rfl, by dsimp only; omega, by dsimp only; omega, fun h => ?_, fun h h5 h6 => ?_⟩
    ·simp only [gleaningref1_nodes_b_l0, dec_t (by omega : (k : Int) < (r.Kids.length : Int)), dec_t hn, if_true, Option.bind_some, Sum.elim_inl, gleaningref1_nodes_b_k1, gd_pos (by omega : (0 : Int) ≤ (k : Int)), Int.toNat_natCast, List.getElem?_eq_getElem hk2]
     rw [show IntKind.i64.wrap (((d + 1 : Nat) : Int) - 1) = (d : Int) by rw [w64 (by omega) (by omega)]; push_cast; omega, hv, Option.bind_some, w64 (by omega) (by omega), ksu (by omega)]
    ·dsimp only at h
     have h8 := v3 (by omega)
     refine ⟨fun x hx => ?_, ?_⟩
     ·rw [List.take_succ_eq_append_getElem hk2] at hx
      rcases List.mem_append.1 hx with hx | hx
      ·exact g1 x hx
      ·rw [List.mem_singleton.1 hx]; exact h8.1
     ·dsimp only; rw [hs]; push_cast; omega
    ·dsimp only at h
     have h5' := h5
     simp only [depF, List.all_eq_true] at h5'
     have h7 := h5' _ (List.getElem_mem hk2)
     by_cases h8 : v ≤ 20
     ·have := (v3 h8).2; rw [hnum] at h6; omega
     ·have : ¬ (numF d r.Kids[k] : Int) ≤ 20 := fun h9 => h8 (v4 h7 h9)
      rw [hnum] at h6; omega
  obtain ⟨v, h1, h2, h3, h4, h5⟩ := key
  exact ⟨v, h1, h2, h3, h4, h5⟩
theorem all_spec : ∀ (d : Nat) (r : Rule) (N : Nat), d ≤ N → depF d r = true → numF d r ≤ 1000 → gleaningref1_allN N r = some (okF d r) := by
 intro d
 induction d with
 | zero => intro r N _ h; cases h
 | succ d ih =>
  intro r N hN h hn
  obtain ⟨N', rfl, hN'⟩ := fuel_pos (by omega : d < N)
  simp only [depF, List.all_eq_true] at h
  rw [gleaningref1_allN, gleaningref1_all_b, one_spec, Option.bind_some, okF]
  cases ho : ownB r with
  | false => rfl
  | true =>
   simp only [Bool.not_true, Bool.false_eq_true, if_false, Bool.true_and]
   have hl : r.Kids.length ≤ 1000 := by
    have hpos : ∀ x ∈ r.Kids, 1 ≤ numF d x := fun x hx => by
     cases d with
     | zero => exact absurd (h x hx) (by simp [depF])
     | succ d => exact num_pos d x
    have := sumL_len (numF d) _ hpos
    simp only [numF] at hn; omega
   have hkid : ∀ (k : Nat) (hk : k < r.Kids.length), gleaningref1_allN N' r.Kids[k] = some (okF d r.Kids[k]) := fun k hk => by
    refine ih _ _ hN' (h _ (List.getElem_mem hk)) ?_
    have h1 := sumL_take (numF d) r.Kids (k + 1)
    have h2 := sumL_succ (numF d) r.Kids k hk
    simp only [numF] at hn; omega
   have hloop := loop_write (body := fun (s : Int) => gleaningref1_all_b_l0 (gleaningref1_allN N') r s) (l := r.Kids) (fun x => !okF d x) (fun k => (k : Int)) true false (by omega) (fun k hk hb hk2 => by
     simp only [Bool.not_eq_false'] at hk2
     simp only [gleaningref1_all_b_l0, dec_t (by omega : (k : Int) < (r.Kids.length : Int)), if_true, gd_pos (by omega : (0 : Int) ≤ (k : Int)), Int.toNat_natCast, List.getElem?_eq_getElem hk, Option.bind_some, hkid k hk, hk2, Bool.not_true, Bool.false_eq_true, if_false, ksu (by omega : k < 1099511627776)]) (fun k hk hb hk2 => by
     simp only [Bool.not_eq_true'] at hk2
     simp only [gleaningref1_all_b_l0, dec_t (by omega : (k : Int) < (r.Kids.length : Int)), if_true, gd_pos (by omega : (0 : Int) ≤ (k : Int)), Int.toNat_natCast, List.getElem?_eq_getElem hk, Option.bind_some, hkid k hk, hk2, Bool.not_false]) (fun hb => by
     simp only [gleaningref1_all_b_l0, dec_f (by omega : ¬ (r.Kids.length : Int) < (r.Kids.length : Int)), Bool.false_eq_true, if_false])
   have e0 : (((0 : Nat) : Int)) = 0 := rfl
   rw [← e0, hloop]
   have : r.Kids.all (okF d) = !(r.Kids.any fun x => !okF d x) := by rw [Bool.eq_iff_iff]; simp
   rw [this]
   cases r.Kids.any (fun x => !okF d x) <;> rfl
theorem xright_spec' (r : Rule) : gleaningref1_RightRule r = some (rightR r) := by
 obtain ⟨v, h1, h2, h3, h4, h5⟩ := nodes_spec 5 r Fu (by rw [fuP]; omega) (by omega)
 rw [gleaningref1_RightRule, gleaningref1_nodes, show ((5 : Int)) = ((5 : Nat) : Int) from rfl, h1, Option.bind_some, rightR]
 by_cases hv : v ≤ 20
 ·obtain ⟨g1, g2⟩ := h4 hv
  rw [dec_t hv, ite_tt, gleaningref1_all, all_spec 5 r Fu (by rw [fuP]; omega) g1 (by omega), Option.bind_some, dec_t (by omega : numF 5 r ≤ 20), Bool.and_true]
 ·rw [dec_f hv, ite_ff]
  cases ho : okF 5 r
  ·rfl
  ·rw [dec_f (fun h => hv (h5 (ok_dep _ _ ho) (by omega)))]; rfl
def smallN : Nat → Rule → Prop
 | 0, _ => False
 | d + 1, r => r.Key.size ≤ 100 ∧ r.Value.size ≤ 100 ∧ r.Kids.length ≤ 100 ∧ ∀ x ∈ r.Kids, smallN d x
theorem size_spec : ∀ (m : Nat) (r : Rule) (d N : Nat), d + m = 31 → m < N → ∃ v : Int, gleaninglaw13_sizeN N r (d : Int) = some v ∧ 1 ≤ v ∧ v ≤ 1000 * ((m : Int) + 1) ∧ (v ≤ 100 → smallN m r) := by
 intro m
 induction m with
 | zero =>
  intro r d N hd hN
  obtain ⟨N', rfl, _⟩ := fuel_pos hN
  refine ⟨1000, ?_, by omega, by omega, fun h => by omega⟩
  rw [gleaninglaw13_sizeN, gleaninglaw13_size_b, dec_t (by omega : (30 : Int) < (d : Int)), ite_tt]; rfl
 | succ m ih =>
  intro r d N hd hN
  obtain ⟨N', rfl, hN'⟩ := fuel_pos hN
  rw [gleaninglaw13_sizeN, gleaninglaw13_size_b, dec_f (by omega : ¬ (30 : Int) < (d : Int)), ite_ff]
  by_cases h1 : (100 : Int) < (r.Key.size : Int)
  ·exact ⟨1000, by rw [dec_t h1]; rfl, by omega, by omega, fun h => by omega⟩
  by_cases h2 : (100 : Int) < (r.Value.size : Int)
  ·exact ⟨1000, by rw [dec_f h1, dec_t h2]; rfl, by omega, by omega, fun h => by omega⟩
  rw [dec_f h1, dec_f h2, ite_ff, ite_ff, Option.bind_some, Sum.elim_inl, gleaninglaw13_size_b_k0]
  have key : ∃ v : Int, loopN (fun (s : Int × Int) => gleaninglaw13_size_b_l1 (gleaninglaw13_sizeN N') r (d : Int) s.1 s.2) Fu (1, 0) = some v ∧ (1 ≤ v ∧ v ≤ 1000 * (((m + 1 : Nat) : Int) + 1) ∧ (v ≤ 100 → smallN (m + 1) r)) := by
   refine loop_inv (fun q (s : Int × Int) => ∃ k : Nat, k ≤ r.Kids.length ∧ q = 2000 - s.1.toNat + 1 ∧ s.2 = (k : Int) ∧ 1 + (k : Int) ≤ s.1 ∧ s.1 ≤ 1000 * (((m + 1 : Nat) : Int) + 1) ∧ (s.1 ≤ 100 → ∀ x ∈ r.Kids.take k, smallN m x)) _ ?_ Fu 2000 (1, 0) ⟨0, by omega, by simp, rfl, by simp, by simp; omega, fun _ => by simp⟩ (by rw [fuP]; omega)
   rintro q ⟨n, i⟩ ⟨k, hk, hq, hi, h3, h4, h5⟩
   dsimp only at hi h3 h4 h5 hq
   subst hi
   by_cases hn : n < 1000
   case neg =>
    refine .inr ⟨n, ?_, by omega, by omega, fun h => by omega⟩
    simp only [gleaninglaw13_size_b_l1, dec_f hn]
    by_cases hkl : (k : Int) < (r.Kids.length : Int)
    ·simp only [dec_t hkl, if_true, Bool.false_eq_true, if_false, Option.bind_some, Sum.elim_inr]
    ·simp only [dec_f hkl, Bool.false_eq_true, if_false, Option.bind_some, Sum.elim_inr]
   by_cases e : k = r.Kids.length
   ·subst e
    refine .inr ⟨n, ?_, by omega, by omega, fun h => ⟨by omega, by omega, by omega, by have := h5 h; rwa [List.take_length] at this⟩⟩
    simp only [gleaninglaw13_size_b_l1, dec_f (by omega : ¬ (r.Kids.length : Int) < (r.Kids.length : Int)), Bool.false_eq_true, if_false, Option.bind_some, Sum.elim_inr]
   ·have hk2 : k < r.Kids.length := by omega
    obtain ⟨v, hv, v1, v2, v3⟩ := ih r.Kids[k] (d + 1) N' (by omega) (by omega)
    refine .inl ⟨(n + v, ((k + 1 : Nat) : Int)), 2000 - (n + v).toNat + 1, ?_, by omega, k + 1, by omega, rfl, rfl, by dsimp only; omega, by dsimp only; omega, fun h x hx => ?_⟩
    ·simp only [gleaninglaw13_size_b_l1, dec_t (by omega : (k : Int) < (r.Kids.length : Int)), dec_t hn, if_true, Option.bind_some, Sum.elim_inl, gleaninglaw13_size_b_k2, gd_pos (by omega : (0 : Int) ≤ (k : Int)), Int.toNat_natCast, List.getElem?_eq_getElem hk2]
     rw [ksu (by omega : d < 1099511627776), hv, Option.bind_some, w64 (by omega) (by omega), ksu (by omega)]
    ·dsimp only at h
     rw [List.take_succ_eq_append_getElem hk2] at hx
     rcases List.mem_append.1 hx with hx | hx
     ·exact h5 (by omega) x hx
     ·rw [List.mem_singleton.1 hx]; exact v3 (by omega)
  obtain ⟨v, h3, h4, h5, h6⟩ := key
  exact ⟨v, h3, h4, h5, h6⟩
theorem few13_spec (r : Rule) : ∃ b, gleaninglaw13_Few r = some b ∧ (b = true → smallN 31 r) := by
 obtain ⟨v, h1, h2, h3, h4⟩ := size_spec 31 r 0 Fu (by omega) (by rw [fuP]; omega)
 refine ⟨decide (v ≤ 100), ?_, fun h => h4 (by simpa using h)⟩
 rw [gleaninglaw13_Few, gleaninglaw13_size, show (0 : Int) = ((0 : Nat) : Int) from rfl, h1, Option.bind_some]
end Go.Proofs.YtbaibpjffcahiaaGreat.Ab
namespace Go.Proofs.YtbaibpjffcahiaaGreat.Ab
open Go Go.RowKit
set_option linter.unusedVariables false
set_option linter.unusedSimpArgs false
def kidK (k : Int) : Bool := decide (k = 1) || (decide (k = 2) || decide (k = 3))
def ruleB : Nat → Rule → List UInt8
 | 0, _ => []
 | d + 1, r => UInt8.ofNat r.Kind.toNat :: (if kidK r.Kind = true then putN r.Kids.length ++ r.Kids.flatMap (ruleB d) else if r.Kind = 6 then textB r.Key ++ textB r.Value else if r.Kind = 5 then [] else putN r.N.toNat)
theorem kid_code (k : Int) : (if (k == 1) = true then (some true) else (if (k == 2) = true then (some true) else (some (k == 3)))) = some (kidK k) := by
 unfold kidK
 by_cases h1 : k = 1
 ·simp [h1]
 by_cases h2 : k = 2
 ·simp [h2]
 by_cases h3 : k = 3
 ·simp [h3]
 simp [h1, h2, h3]
theorem own_data {r : Rule} (h : ownB r = true) : 1 ≤ r.Kind ∧ r.Kind ≤ 9 ∧ r.Key.size ≤ 16 ∧ r.Value.size ≤ 16 ∧ (r.Kind ≠ 1 → r.Kind ≠ 2 → r.Kind ≠ 3 → r.Kids.length = 0) ∧ 0 ≤ r.N ∧ r.N ≤ 1073741824 ∧ (r.Kind ≠ 6 → r.Key = strOf [] ∧ r.Value = strOf []) ∧ (kidK r.Kind = true ∨ r.Kind = 5 ∨ r.Kind = 6 → r.N = 0) ∧ (r.Kind = 4 ∨ r.Kind = 7 ∨ r.Kind = 8 ∨ r.Kind = 9 → r.N ≤ topK r.Kind) := by
 have e0 : (strOf []).size = 0 := rfl
 unfold ownB at h
 by_cases k1 : r.Kind = 1
 ·simp only [k1, true_or, if_true, decide_eq_true_eq] at h
  obtain ⟨h1, h2, h3⟩ := h
  refine ⟨by omega, by omega, by rw [h2, e0]; omega, by rw [h3, e0]; omega, fun a => absurd k1 a, by omega, by omega, fun _ => ⟨h2, h3⟩, fun _ => h1, fun a => by omega⟩
 by_cases k2 : r.Kind = 2
 ·simp only [k2, or_true, if_true, decide_eq_true_eq] at h
  obtain ⟨h1, h2, h3⟩ := h
  refine ⟨by omega, by omega, by rw [h2, e0]; omega, by rw [h3, e0]; omega, fun _ a => absurd k2 a, by omega, by omega, fun _ => ⟨h2, h3⟩, fun _ => h1, fun a => by omega⟩
 simp only [k1, k2, or_self, if_false] at h
 by_cases k3 : r.Kind = 3
 ·simp only [k3, if_true, decide_eq_true_eq] at h
  obtain ⟨h1, h2, h3, h4⟩ := h
  refine ⟨by omega, by omega, by rw [h2, e0]; omega, by rw [h3, e0]; omega, fun _ _ a => absurd k3 a, by omega, by omega, fun _ => ⟨h2, h3⟩, fun _ => h1, fun a => by omega⟩
 simp only [k3, if_false] at h
 by_cases k5 : r.Kind = 5
 ·simp only [k5, if_true, decide_eq_true_eq] at h
  obtain ⟨h1, h2, h3, h4⟩ := h
  refine ⟨by omega, by omega, by rw [h2, e0]; omega, by rw [h3, e0]; omega, fun _ _ _ => h4, by omega, by omega, fun _ => ⟨h2, h3⟩, fun _ => h1, fun a => by omega⟩
 simp only [k5, if_false] at h
 by_cases k6 : r.Kind = 6
 ·simp only [k6, if_true, Bool.and_eq_true, decide_eq_true_eq, nameR] at h
  obtain ⟨⟨⟨h1, h2⟩, h3⟩, h4⟩ := h
  refine ⟨by omega, by omega, by omega, by omega, fun _ _ _ => h4, by omega, by omega, fun a => absurd k6 a, fun _ => h1, fun a => by omega⟩
 simp only [k6, if_false, decide_eq_true_eq] at h
 obtain ⟨h1, h2, h3, h4, h5⟩ := h
 have ht : topK r.Kind ≤ 1073741824 := by unfold topK; split <;> (try split) <;> (try split) <;> omega
 have hk : r.Kind = 4 ∨ r.Kind = 7 ∨ r.Kind = 8 ∨ r.Kind = 9 := by
  unfold topK at h4
  by_cases a4 : r.Kind = 4
  ·exact .inl a4
  by_cases a7 : r.Kind = 7 ∨ r.Kind = 8
  ·omega
  by_cases a9 : r.Kind = 9
  ·omega
  rw [if_neg a4, if_neg a7, if_neg a9] at h4; omega
 refine ⟨by omega, by omega, by rw [h1, e0]; omega, by rw [h2, e0]; omega, fun _ _ _ => h5, h3, by omega, fun _ => ⟨h1, h2⟩, fun a => ?_, fun _ => h4⟩
 exfalso
 rcases a with a | a | a
 ·simp only [kidK, k1, k2, k3, decide_false, Bool.or_self, Bool.false_eq_true] at a
 ·exact k5 a
 ·exact k6 a
theorem flat_le {f : Rule → List UInt8} {g : Rule → Nat} : ∀ (l : List Rule), (∀ x ∈ l, (f x).length ≤ 60 * g x) → (l.flatMap f).length ≤ 60 * sumL g l
 | [], _ => by simp [sumL]
 | r :: l, h => by
  have h1 := h r List.mem_cons_self
  have h2 := flat_le l fun x hx => h x (List.mem_cons_of_mem _ hx)
  simp only [List.flatMap_cons, List.length_append, sumL]; omega
theorem sumL_mem (f : Rule → Nat) : ∀ (l : List Rule) (x : Rule), x ∈ l → f x ≤ sumL f l
 | [], x, h => by cases h
 | r :: l, x, h => by
  rcases List.mem_cons.1 h with rfl | h
  ·simp only [sumL]; omega
  ·have := sumL_mem f l x h
   simp only [sumL]; omega
theorem ruleB_le : ∀ (d : Nat) (r : Rule), okF d r = true → numF d r ≤ 1000 → (ruleB d r).length ≤ 60 * numF d r
 | 0, r, h, _ => by cases h
 | d + 1, r, h, hn => by
  simp only [okF, Bool.and_eq_true, List.all_eq_true] at h
  simp only [numF] at hn
  obtain ⟨a1, a2, a3, a4, a5, a6, a7, a8, a9⟩ := own_data h.1
  have hk := flat_le (g := numF d) r.Kids fun x hx => ruleB_le d x (h.2 x hx) (by have := sumL_mem (numF d) r.Kids x hx; omega)
  have hpos : ∀ x ∈ r.Kids, 1 ≤ numF d x := fun x hx => by
   cases d with
   | zero => exact absurd (h.2 x hx) (by simp [okF])
   | succ d => exact num_pos d x
  have hlen := sumL_len (numF d) _ hpos
  simp only [ruleB, List.length_cons, numF]
  split
  ·have hp := putN_len10 (n := r.Kids.length) (by omega)
   simp only [List.length_append]; omega
  ·split
   ·have h1 := textB_le r.Key (by omega)
    have h2 := textB_le r.Value (by omega)
    simp only [List.length_append]; omega
   ·split
    ·simp only [List.length_nil]; omega
    ·have := putN_len10 (n := r.N.toNat) (by omega)
     omega
theorem fitb {l : List UInt8} (h : l.length ≤ 1000000000) : l.length * 1 ≤ 140737488355328 ∧ l.length ≤ 140737488355328 := by omega
theorem kind_byte {k : Int} (h0 : 0 ≤ k) (h : k ≤ 9) : u8 (IntKind.u8.wrap k) = UInt8.ofNat k.toNat := by
 obtain ⟨m, rfl⟩ := Int.eq_ofNat_of_zero_le h0
 rw [u8_wrap_nat]; rfl
theorem putR_spec : ∀ (d : Nat) (r : Rule) (N : Nat) (w : Writer), okF d r = true → numF d r ≤ 1000 → d ≤ N → w.B.length + 60 * numF d r ≤ 100000000 → rule_putN N w r = some ⟨w.B ++ ruleB d r⟩ := by
 intro d
 induction d with
 | zero => intro r N w h; cases h
 | succ d ih =>
  intro r N w h hn hN hl
  obtain ⟨N', rfl, hN'⟩ := fuel_pos (by omega : d < N)
  simp only [okF, Bool.and_eq_true, List.all_eq_true] at h
  obtain ⟨ho, hk⟩ := h
  obtain ⟨a1, a2, a3, a4, a5, a6, a7, a8, a9⟩ := own_data ho
  have hpos : ∀ x ∈ r.Kids, 1 ≤ numF d x := fun x hx => by
   cases d with
   | zero => exact absurd (hk x hx) (by simp [okF])
   | succ d => exact num_pos d x
  have hlen := sumL_len (numF d) _ hpos
  have hnum : numF (d + 1) r = 1 + sumL (numF d) r.Kids := rfl
  rw [rule_putN, rule_put_b, gd_pos (fitb (by simp; omega)), kid_code, Option.bind_some, rule_put_b_k0, kind_byte (by omega) a2, ruleB]
  cases hkk : kidK r.Kind with
  | true =>
   simp only [if_true]
   have hp := putN_len10 (n := r.Kids.length) (by omega)
   rw [num_spec _ _ (fun n hn => by rw [List.mem_singleton.1 hn]; omega) (by simp; omega), Option.bind_some]
   have e1 : numsB [(r.Kids.length : Int)] = putN r.Kids.length := by simp [numsB]
   dsimp only
   rw [e1]
   generalize hC : w.B ++ [UInt8.ofNat r.Kind.toNat] ++ putN r.Kids.length = C
   have hB : w.B ++ UInt8.ofNat r.Kind.toNat :: (putN r.Kids.length ++ r.Kids.flatMap (ruleB d)) = C ++ r.Kids.flatMap (ruleB d) := by rw [← hC]; simp
   rw [hB]
   have hst : ∀ (k : Nat) (hk2 : k < r.Kids.length), numF d r.Kids[k] ≤ 1000 ∧ (C ++ (r.Kids.take k).flatMap (ruleB d)).length + 60 * numF d r.Kids[k] ≤ 100000000 := fun k hk2 => by
    have h1 := sumL_take (numF d) r.Kids (k + 1)
    have h2 := sumL_succ (numF d) r.Kids k hk2
    have h3 := flat_le (g := numF d) (r.Kids.take k) fun x hx => ruleB_le d x (hk x (List.mem_of_mem_take hx)) (by have := sumL_mem (numF d) r.Kids x (List.mem_of_mem_take hx); omega)
    have h4 : C.length ≤ w.B.length + 11 := by rw [← hC]; simp; omega
    rw [List.length_append]; omega
   refine loop_list (l := r.Kids) (fun k q s => s = (C ++ (r.Kids.take k).flatMap (ruleB d), (k : Int)) ∧ q = ⟨C ++ r.Kids.flatMap (ruleB d)⟩) (by omega) ?_ ?_ ⟨by simp, rfl⟩
   ·rintro k hk2 q s ⟨rfl, rfl⟩
    refine .inl ⟨(C ++ (r.Kids.take (k + 1)).flatMap (ruleB d), ((k + 1 : Nat) : Int)), ?_, rfl, rfl⟩
    simp only [rule_put_b_l1, dec_t (by omega : (k : Int) < (r.Kids.length : Int)), if_true, gd_pos (by omega : (0 : Int) ≤ (k : Int)), Int.toNat_natCast, List.getElem?_eq_getElem hk2, Option.bind_some]
    rw [(ih r.Kids[k] N' ⟨C ++ (r.Kids.take k).flatMap (ruleB d)⟩ (hk _ (List.getElem_mem hk2)) (hst k hk2).1 hN' (hst k hk2).2), Option.bind_some, ksu (by omega), List.take_succ_eq_append_getElem hk2, List.flatMap_append, List.append_assoc]
    simp
   ·rintro q s ⟨rfl, rfl⟩
    simp only [rule_put_b_l1, dec_f (by omega : ¬ (r.Kids.length : Int) < (r.Kids.length : Int)), Bool.false_eq_true, if_false, List.take_length]
  | false =>
   simp only [Bool.false_eq_true, if_false]
   by_cases k6 : r.Kind = 6
   ·have e6 : (r.Kind == 6) = true := by simpa using k6
    have h1 := textB_le r.Key (by omega)
    rw [e6, ite_tt, if_pos k6, wtext_spec _ _ 16 (by omega) (fun x hx => by
     simp only [List.mem_cons, List.not_mem_nil, or_false] at hx
     rcases hx with rfl | rfl <;> omega) (by simp; omega), Option.bind_some]
    simp [textsB]
   have e6 : (r.Kind == 6) = false := by simpa using k6
   rw [e6, ite_ff, if_neg k6]
   by_cases k5 : r.Kind = 5
   ·have e5 : (r.Kind == 5) = true := by simpa using k5
    rw [e5, ite_tt, if_pos k5]
   have e5 : (r.Kind == 5) = false := by simpa using k5
   rw [e5, ite_ff, if_neg k5, num_spec _ _ (fun n hn => by rw [List.mem_singleton.1 hn]; omega) (by simp; omega), Option.bind_some]
   simp [numsB]
def zeroR : Rule := ⟨0, 0, strOf [], strOf [], []⟩
def bytesR (r : Rule) : List UInt8 := if rightR r = true then ruleB 5 r else []
theorem rightR_of {r : Rule} (h : rightR r = true) : okF 5 r = true ∧ numF 5 r ≤ 20 := by simpa [rightR] using h
theorem rbytes_spec (r : Rule) : rule_Bytes r = some (bytesR r) := by
 rw [rule_Bytes, right_spec', Option.bind_some, bytesR]
 cases h : rightR r with
 | false => rfl
 | true =>
  obtain ⟨h1, h2⟩ := rightR_of h
  have p1 := putR_spec 5 r Fu ⟨[]⟩ h1 (by omega) (by rw [fuP]; omega) (by simp; omega)
  simp only [Bool.not_true, Bool.false_eq_true, if_false, rule_put, p1, Option.bind_some, List.nil_append, if_true]
theorem ruleB_head (r : Rule) (h : rightR r = true) : ∃ c l, ruleB 5 r = c :: l := ⟨_, _, rfl⟩
theorem ruleB_len {r : Rule} (h : rightR r = true) : 1 ≤ (ruleB 5 r).length ∧ (ruleB 5 r).length ≤ 1200 := by
 obtain ⟨h1, h2⟩ := rightR_of h
 have := ruleB_le 5 r h1 (by omega)
 obtain ⟨c, l, e⟩ := ruleB_head r h
 refine ⟨by rw [e]; simp, by omega⟩
end Go.Proofs.YtbaibpjffcahiaaGreat.Ab
