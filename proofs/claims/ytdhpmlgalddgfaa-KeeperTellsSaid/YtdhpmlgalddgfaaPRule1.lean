import Derived.Test.YtdhpmlgalddgfaaXR2
import Derived.Test.YtdhpmlgalddgfaaPRW
import Derived.Test.YtdhpmlgalddgfaaPRule0
namespace Go.Proofs.Ytdhpmlgalddgfaa.Ab
open Go Go.RowKit
set_option linter.unusedVariables false
set_option linter.unusedSimpArgs false
def kidK (k : Int) : Bool := decide (k = 1) || (decide (k = 2) || decide (k = 3))
def ruleB : Nat → Rule → List UInt8
 | 0, _ => []
 | d + 1, r => UInt8.ofNat r.Kind.toNat :: (if kidK r.Kind = true then putN r.Kids.length ++ r.Kids.flatMap (ruleB d) else if r.Kind = 6 then textB r.Key ++ textB r.Value else if r.Kind = 5 then [] else putN r.N.toNat)
theorem kid_code (k : Int) : (if (k == 1) = true then (some true) else (if (k == 2) = true then (some true) else (some (k == 3)))) = some (kidK k) := by
 unfold kidK
 by_cases h1 : k = 1
 ·simp [h1]
 by_cases h2 : k = 2
 ·simp [h2]
 by_cases h3 : k = 3
 ·simp [h3]
 simp [h1, h2, h3]
theorem own_data {r : Rule} (h : ownB r = true) : 1 ≤ r.Kind ∧ r.Kind ≤ 9 ∧ r.Key.size ≤ 16 ∧ r.Value.size ≤ 16 ∧ (r.Kind ≠ 1 → r.Kind ≠ 2 → r.Kind ≠ 3 → r.Kids.length = 0) ∧ 0 ≤ r.N ∧ r.N ≤ 1073741824 ∧ (r.Kind ≠ 6 → r.Key = strOf [] ∧ r.Value = strOf []) ∧ (kidK r.Kind = true ∨ r.Kind = 5 ∨ r.Kind = 6 → r.N = 0) ∧ (r.Kind = 4 ∨ r.Kind = 7 ∨ r.Kind = 8 ∨ r.Kind = 9 → r.N ≤ topK r.Kind) := by
 have e0 : (strOf []).size = 0 := rfl
 unfold ownB at h
 by_cases k1 : r.Kind = 1
 ·simp only [k1, true_or, if_true, decide_eq_true_eq] at h
  obtain ⟨h1, h2, h3⟩ := h
  refine ⟨by omega, by omega, by rw [h2, e0]; omega, by rw [h3, e0]; omega, fun a => absurd k1 a, by omega, by omega, fun _ => ⟨h2, h3⟩, fun _ => h1, fun a => by omega⟩
 by_cases k2 : r.Kind = 2
 ·simp only [k2, or_true, if_true, decide_eq_true_eq] at h
  obtain ⟨h1, h2, h3⟩ := h
  refine ⟨by omega, by omega, by rw [h2, e0]; omega, by rw [h3, e0]; omega, fun _ a => absurd k2 a, by omega, by omega, fun _ => ⟨h2, h3⟩, fun _ => h1, fun a => by omega⟩
 simp only [k1, k2, or_self, if_false] at h
 by_cases k3 : r.Kind = 3
 ·simp only [k3, if_true, decide_eq_true_eq] at h
  obtain ⟨h1, h2, h3, h4⟩ := h
  refine ⟨by omega, by omega, by rw [h2, e0]; omega, by rw [h3, e0]; omega, fun _ _ a => absurd k3 a, by omega, by omega, fun _ => ⟨h2, h3⟩, fun _ => h1, fun a => by omega⟩
 simp only [k3, if_false] at h
 by_cases k5 : r.Kind = 5
 ·simp only [k5, if_true, decide_eq_true_eq] at h
  obtain ⟨h1, h2, h3, h4⟩ := h
  refine ⟨by omega, by omega, by rw [h2, e0]; omega, by rw [h3, e0]; omega, fun _ _ _ => h4, by omega, by omega, fun _ => ⟨h2, h3⟩, fun _ => h1, fun a => by omega⟩
 simp only [k5, if_false] at h
 by_cases k6 : r.Kind = 6
 ·simp only [k6, if_true, Bool.and_eq_true, decide_eq_true_eq, nameR] at h
  obtain ⟨⟨⟨h1, h2⟩, h3⟩, h4⟩ := h
  refine ⟨by omega, by omega, by omega, by omega, fun _ _ _ => h4, by omega, by omega, fun a => absurd k6 a, fun _ => h1, fun a => by omega⟩
 simp only [k6, if_false, decide_eq_true_eq] at h
 obtain ⟨h1, h2, h3, h4, h5⟩ := h
 have ht : topK r.Kind ≤ 1073741824 := by unfold topK; split <;> (try split) <;> (try split) <;> omega
 have hk : r.Kind = 4 ∨ r.Kind = 7 ∨ r.Kind = 8 ∨ r.Kind = 9 := by
  unfold topK at h4
  by_cases a4 : r.Kind = 4
  ·exact .inl a4
  by_cases a7 : r.Kind = 7 ∨ r.Kind = 8
  ·omega
  by_cases a9 : r.Kind = 9
  ·omega
  rw [if_neg a4, if_neg a7, if_neg a9] at h4; omega
 refine ⟨by omega, by omega, by rw [h1, e0]; omega, by rw [h2, e0]; omega, fun _ _ _ => h5, h3, by omega, fun _ => ⟨h1, h2⟩, fun a => ?_, fun _ => h4⟩
 exfalso
 rcases a with a | a | a
 ·simp only [kidK, k1, k2, k3, decide_false, Bool.or_self, Bool.false_eq_true] at a
 ·exact k5 a
 ·exact k6 a
theorem kid_kind {k : Int} (h : kidK k = true) : k = 1 ∨ k = 2 ∨ k = 3 := by simpa [kidK] using h
theorem kid_not {k : Int} (h : kidK k = false) : k ≠ 1 ∧ k ≠ 2 ∧ k ≠ 3 := by simpa [kidK] using h
theorem flat_le {f : Rule → List UInt8} {g : Rule → Nat} : ∀ (l : List Rule), (∀ x ∈ l, (f x).length ≤ 60 * g x) → (l.flatMap f).length ≤ 60 * sumL g l
 | [], _ => by simp [sumL]
 | r :: l, h => by
  have h1 := h r List.mem_cons_self
  have h2 := flat_le l fun x hx => h x (List.mem_cons_of_mem _ hx)
  simp only [List.flatMap_cons, List.length_append, sumL]; omega
theorem sumL_mem (f : Rule → Nat) : ∀ (l : List Rule) (x : Rule), x ∈ l → f x ≤ sumL f l
 | [], x, h => by cases h
 | r :: l, x, h => by
  rcases List.mem_cons.1 h with rfl | h
  ·simp only [sumL]; omega
  ·have := sumL_mem f l x h
   simp only [sumL]; omega
theorem ruleB_le : ∀ (d : Nat) (r : Rule), okF d r = true → numF d r ≤ 1000 → (ruleB d r).length ≤ 60 * numF d r
 | 0, r, h, _ => by cases h
 | d + 1, r, h, hn => by
  simp only [okF, Bool.and_eq_true, List.all_eq_true] at h
  simp only [numF] at hn
  obtain ⟨a1, a2, a3, a4, a5, a6, a7, a8, a9⟩ := own_data h.1
  have hk := flat_le (g := numF d) r.Kids fun x hx => ruleB_le d x (h.2 x hx) (by have := sumL_mem (numF d) r.Kids x hx; omega)
  have hpos : ∀ x ∈ r.Kids, 1 ≤ numF d x := fun x hx => by
   cases d with
   | zero => exact absurd (h.2 x hx) (by simp [okF])
   | succ d => exact num_pos d x
  have hlen := sumL_len (numF d) _ hpos
  simp only [ruleB, List.length_cons, numF]
  split
  ·have hp := putN_len10 (n := r.Kids.length) (by omega)
   simp only [List.length_append]; omega
  ·split
   ·have h1 := textB_le r.Key (by omega)
    have h2 := textB_le r.Value (by omega)
    simp only [List.length_append]; omega
   ·split
    ·simp only [List.length_nil]; omega
    ·have := putN_len10 (n := r.N.toNat) (by omega)
     omega
theorem fitb {l : List UInt8} (h : l.length ≤ 1000000000) : l.length * 1 ≤ 140737488355328 ∧ l.length ≤ 140737488355328 := by omega
theorem kind_byte {k : Int} (h0 : 0 ≤ k) (h : k ≤ 9) : u8 (IntKind.u8.wrap k) = UInt8.ofNat k.toNat := by
 obtain ⟨m, rfl⟩ := Int.eq_ofNat_of_zero_le h0
 rw [u8_wrap_nat]; rfl
theorem rputI (c : List UInt8) {n : Int} (h0 : 0 ≤ n) (h1 : n < 18446744073709551616) (hc : c.length ≤ 1099511627700) : gleaningref1_Put c n = some (c ++ putN n.toNat) := by
 obtain ⟨m, rfl⟩ := Int.eq_ofNat_of_zero_le h0
 exact rput_spec c m (by omega) hc
theorem putR_spec : ∀ (d : Nat) (r : Rule) (N : Nat) (w : Writer), okF d r = true → numF d r ≤ 1000 → d ≤ N → w.B.length + 60 * numF d r ≤ 100000000 → rule_putN N w r = some ⟨w.B ++ ruleB d r⟩ ∧ gleaningref1_addRuleN N w.B r = some (w.B ++ ruleB d r) := by
 intro d
 induction d with
 | zero => intro r N w h; cases h
 | succ d ih =>
  intro r N w h hn hN hl
  obtain ⟨N', rfl, hN'⟩ := fuel_pos (by omega : d < N)
  simp only [okF, Bool.and_eq_true, List.all_eq_true] at h
  obtain ⟨ho, hk⟩ := h
  obtain ⟨a1, a2, a3, a4, a5, a6, a7, a8, a9⟩ := own_data ho
  have hpos : ∀ x ∈ r.Kids, 1 ≤ numF d x := fun x hx => by
   cases d with
   | zero => exact absurd (hk x hx) (by simp [okF])
   | succ d => exact num_pos d x
  have hlen := sumL_len (numF d) _ hpos
  have hnum : numF (d + 1) r = 1 + sumL (numF d) r.Kids := rfl
  rw [rule_putN, rule_put_b, gleaningref1_addRuleN, gleaningref1_addRule_b, gd_pos (fitb (by simp; omega)), gd_pos (fitb (by simp; omega)), kid_code, Option.bind_some, Option.bind_some, rule_put_b_k0, gleaningref1_addRule_b_k0, kind_byte (by omega) a2, ruleB]
  cases hkk : kidK r.Kind with
  | true =>
   simp only [if_true]
   have hp := putN_len10 (n := r.Kids.length) (by omega)
   rw [num_spec _ _ (fun n hn => by rw [List.mem_singleton.1 hn]; omega) (by simp; omega), Option.bind_some, wrap_u64 _ (by omega), rput_spec _ _ (by omega) (by simp; omega), Option.bind_some]
   have e1 : numsB [(r.Kids.length : Int)] = putN r.Kids.length := by simp [numsB]
   dsimp only
   rw [e1]
   generalize hC : w.B ++ [UInt8.ofNat r.Kind.toNat] ++ putN r.Kids.length = C
   have hB : w.B ++ UInt8.ofNat r.Kind.toNat :: (putN r.Kids.length ++ r.Kids.flatMap (ruleB d)) = C ++ r.Kids.flatMap (ruleB d) := by rw [← hC]; simp
   rw [hB]
   have hst : ∀ (k : Nat) (hk2 : k < r.Kids.length), numF d r.Kids[k] ≤ 1000 ∧ (C ++ (r.Kids.take k).flatMap (ruleB d)).length + 60 * numF d r.Kids[k] ≤ 100000000 := fun k hk2 => by
    have h1 := sumL_take (numF d) r.Kids (k + 1)
    have h2 := sumL_succ (numF d) r.Kids k hk2
    have h3 := flat_le (g := numF d) (r.Kids.take k) fun x hx => ruleB_le d x (hk x (List.mem_of_mem_take hx)) (by have := sumL_mem (numF d) r.Kids x (List.mem_of_mem_take hx); omega)
    have h4 : C.length ≤ w.B.length + 11 := by rw [← hC]; simp; omega
    rw [List.length_append]; omega
   constructor
   ·refine loop_list (l := r.Kids) (fun k q s => s = (C ++ (r.Kids.take k).flatMap (ruleB d), (k : Int)) ∧ q = ⟨C ++ r.Kids.flatMap (ruleB d)⟩) (by omega) ?_ ?_ ⟨by simp, rfl⟩
    ·rintro k hk2 q s ⟨rfl, rfl⟩
     refine .inl ⟨(C ++ (r.Kids.take (k + 1)).flatMap (ruleB d), ((k + 1 : Nat) : Int)), ?_, rfl, rfl⟩
     simp only [rule_put_b_l1, dec_t (by omega : (k : Int) < (r.Kids.length : Int)), if_true, gd_pos (by omega : (0 : Int) ≤ (k : Int)), Int.toNat_natCast, List.getElem?_eq_getElem hk2, Option.bind_some]
     rw [(ih r.Kids[k] N' ⟨C ++ (r.Kids.take k).flatMap (ruleB d)⟩ (hk _ (List.getElem_mem hk2)) (hst k hk2).1 hN' (hst k hk2).2).1, Option.bind_some, ksu (by omega), List.take_succ_eq_append_getElem hk2, List.flatMap_append, List.append_assoc]
     simp
    ·rintro q s ⟨rfl, rfl⟩
     simp only [rule_put_b_l1, dec_f (by omega : ¬ (r.Kids.length : Int) < (r.Kids.length : Int)), Bool.false_eq_true, if_false, List.take_length]
   ·refine loop_list (l := r.Kids) (fun k q s => s = (C ++ (r.Kids.take k).flatMap (ruleB d), (k : Int)) ∧ q = C ++ r.Kids.flatMap (ruleB d)) (by omega) ?_ ?_ ⟨by simp, rfl⟩
    ·rintro k hk2 q s ⟨rfl, rfl⟩
     refine .inl ⟨(C ++ (r.Kids.take (k + 1)).flatMap (ruleB d), ((k + 1 : Nat) : Int)), ?_, rfl, rfl⟩
     simp only [gleaningref1_addRule_b_l1, dec_t (by omega : (k : Int) < (r.Kids.length : Int)), if_true, gd_pos (by omega : (0 : Int) ≤ (k : Int)), Int.toNat_natCast, List.getElem?_eq_getElem hk2, Option.bind_some]
     rw [(ih r.Kids[k] N' ⟨C ++ (r.Kids.take k).flatMap (ruleB d)⟩ (hk _ (List.getElem_mem hk2)) (hst k hk2).1 hN' (hst k hk2).2).2, Option.bind_some, ksu (by omega), List.take_succ_eq_append_getElem hk2, List.flatMap_append, List.append_assoc]
     simp
    ·rintro q s ⟨rfl, rfl⟩
     simp only [gleaningref1_addRule_b_l1, dec_f (by omega : ¬ (r.Kids.length : Int) < (r.Kids.length : Int)), Bool.false_eq_true, if_false, List.take_length]
  | false =>
   simp only [Bool.false_eq_true, if_false]
   by_cases k6 : r.Kind = 6
   ·have e6 : (r.Kind == 6) = true := by simpa using k6
    have h1 := textB_le r.Key (by omega)
    rw [e6, ite_tt, ite_tt, if_pos k6, wtext_spec _ _ 16 (by omega) (fun x hx => by
     simp only [List.mem_cons, List.not_mem_nil, or_false] at hx
     rcases hx with rfl | rfl <;> omega) (by simp; omega), Option.bind_some, rtext_spec _ _ (by simp; omega) (by omega), Option.bind_some, rtext_spec _ _ (by simp; omega) (by omega), Option.bind_some]
    constructor
    ·simp [textsB]
    ·simp
   have e6 : (r.Kind == 6) = false := by simpa using k6
   rw [e6, ite_ff, ite_ff, if_neg k6]
   by_cases k5 : r.Kind = 5
   ·have e5 : (r.Kind == 5) = true := by simpa using k5
    rw [e5, ite_tt, ite_tt, if_pos k5]
    exact ⟨rfl, rfl⟩
   have e5 : (r.Kind == 5) = false := by simpa using k5
   rw [e5, ite_ff, ite_ff, if_neg k5, num_spec _ _ (fun n hn => by rw [List.mem_singleton.1 hn]; omega) (by simp; omega), Option.bind_some, wu64 a6 (by omega), rputI _ a6 (by omega) (by simp; omega), Option.bind_some]
   constructor
   ·simp [numsB]
   ·simp
end Go.Proofs.Ytdhpmlgalddgfaa.Ab
