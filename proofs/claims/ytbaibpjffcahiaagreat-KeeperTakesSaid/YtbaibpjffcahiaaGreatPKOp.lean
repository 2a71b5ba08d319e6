/- Operations as bytes: the program. -/
import Derived.Test.YtbaibpjffcahiaaGreatXKT
import Derived.Test.YtbaibpjffcahiaaGreatPBatP
import Derived.Test.YtbaibpjffcahiaaGreatPRuleP
namespace Go.Proofs.YtbaibpjffcahiaaGreat.Ab
open Go Go.RowKit
set_option linter.unusedVariables false
set_option linter.unusedSimpArgs false
theorem iput_spec (l : List UInt8) (n : Nat) (hn : n < 18446744073709551616) (hl : l.length ≤ 1099511627700) : ints_Put l (n : Int) = some (l ++ putN n) := by
 have hlen := putN_len10 hn
 have hloop : loopN (fun (s : Int × List UInt8) => ints_Put_l1 s.1 s.2) Fu ((n : Int), l) = some ((((putN n).getLast (List.ne_nil_of_length_pos (putN_pos n))).toNat : Int), l ++ (putN n).dropLast) := by
  refine loop_fu (fun m s r => ∃ (a : Nat) (o : List UInt8), s = ((a : Int), o) ∧ m = (putN a).length ∧ r = ((((putN a).getLast (List.ne_nil_of_length_pos (putN_pos a))).toNat : Int), o ++ (putN a).dropLast) ∧ o.length + (putN a).length ≤ 1099511627710) ?_ ⟨n, l, rfl, rfl, rfl, by omega⟩ (by omega)
  rintro m s r ⟨a, o, rfl, rfl, rfl, hb⟩
  by_cases h : a < 128
  ·refine .inr ?_
   have hd : ¬ ((128 : Int) ≤ (a : Int)) := by omega
   simp only [ints_Put_l1, dec_f hd, ite_ff, putN_lt h, List.getLast_singleton, List.dropLast_singleton, List.append_nil]
   congr 3
   simp; omega
  ·refine .inl ⟨(((a / 128 : Nat) : Int), o ++ [UInt8.ofNat (a % 128 + 128)]), (putN (a / 128)).length, ?_, by rw [putN_ge h]; simp, a / 128, _, rfl, rfl, ?_, ?_⟩
   ·have hd : ((128 : Int) ≤ (a : Int)) := by omega
    have hp := putN_pos (a / 128)
    rw [putN_ge h] at hb
    simp only [List.length_cons] at hb
    simp only [ints_Put_l1, dec_t hd, ite_tt, u8_or128, shr7]
    exact gd_some' (fitg (by simp; omega)) rfl
   ·have hne : putN (a / 128) ≠ [] := List.ne_nil_of_length_pos (putN_pos _)
    simp only [putN_ge h, List.getLast_cons hne, List.dropLast_cons_of_ne_nil hne, List.append_assoc, List.singleton_append]
   ·rw [putN_ge h] at hb; simp only [List.length_cons, List.length_append, List.length_nil] at hb ⊢; omega
 rw [ints_Put, gd_pos (fitg (by omega)), hloop, Option.bind_some, ints_Put_k0]
 have e : u8 (IntKind.u8.wrap ((((putN n).getLast (List.ne_nil_of_length_pos (putN_pos n))).toNat : Nat) : Int)) = (putN n).getLast (List.ne_nil_of_length_pos (putN_pos n)) := by rw [u8_wrap_nat]; simp
 dsimp only
 rw [e, List.append_assoc, List.dropLast_concat_getLast]
 exact gd_some' (fitg (by simp; omega)) rfl
theorem within1 (n : Int) : model_within 0 1099511627776 [n] = some (decide (0 ≤ n) && decide (n ≤ 1099511627776)) := by
 obtain ⟨r, h1, h2⟩ := loop_has (body := fun (s : Int) => slices_IndexFunc_int_model_within_c1_l0 [n] 0 1099511627776 s) (fun x : Int => decide (x < 0) || decide (1099511627776 < x)) [n] (by simp) (fun k hk => by
  have e : k = 0 := by simp at hk; omega
  subst e
  simp only [slices_IndexFunc_int_model_within_c1_l0, List.length_singleton, List.getElem_singleton]
  by_cases a : n < 0
  ·simp [model_within_c1, a, gd]
  ·by_cases b : (1099511627776 : Int) < n
   ·simp [model_within_c1, a, b, gd]
   ·simp [model_within_c1, a, b, gd]; rfl) (by simp [slices_IndexFunc_int_model_within_c1_l0])
 rw [model_within, slices_ContainsFunc_int_model_within_c1, slices_IndexFunc_int_model_within_c1, h1, Option.bind_some, Option.bind_some, h2]
 by_cases a : n < 0
 ·simp [a]; omega
 ·by_cases b : (1099511627776 : Int) < n
  ·simp [a, b]
  ·simp [a, b]; omega
def mayB (o : OpG) : Bool := if o.Kind = 1 then rightL o.Spans else if o.Kind = 2 then decide (0 ≤ o.N) && decide (o.N ≤ 1099511627776) else if o.Kind = 3 then rightR o.Policy else decide (o.Kind = 4)
theorem may_spec (o : OpG) : model_May o = some (mayB o) := by
 obtain ⟨k, n, sp, p⟩ := o
 unfold model_May mayB
 dsimp only
 by_cases k1 : k = 1
 ·subst k1; simp [bright_spec]
 by_cases k2 : k = 2
 ·subst k2; simp [within1]
 by_cases k3 : k = 3
 ·subst k3; simp [right_spec']
 simp [k1, k2, k3]
 rfl
theorem wrap_byte1 : u8 (IntKind.u8.wrap 1) = 1 := rfl
theorem wrap_byte2 : u8 (IntKind.u8.wrap 2) = 2 := rfl
theorem wrap_byte3 : u8 (IntKind.u8.wrap 3) = 3 := rfl
theorem wrap_byte4 : u8 (IntKind.u8.wrap 4) = 4 := rfl
theorem few22 (o : OpG) : ∃ f, gleaninglaw22_Few [o] = some f := by
 obtain ⟨f1, hf1, g1⟩ := fewAll_spec o.Spans
 obtain ⟨f2, hf2, _⟩ := few13_spec o.Policy
 have e0 : ([o] : List OpG)[(Int.toNat 0)]? = some o := rfl
 rw [gleaninglaw22_Few, fuP]
 cases f1 with
 | false =>
  refine ⟨false, loop_r ?_⟩
  simp only [gleaninglaw22_Few_l0, List.length_singleton, dec_t (show (0 : Int) < ((1 : Nat) : Int) by decide), dec_t (show (0 : Int) < 1000 by decide), if_true, Option.bind_some, Sum.elim_inl, gleaninglaw22_Few_k1, gd_pos (show (0 : Int) ≤ 0 by decide), e0, hf1, Bool.not_false, Sum.elim_inr]
 | true =>
 cases f2 with
 | false =>
  refine ⟨false, loop_r ?_⟩
  simp only [gleaninglaw22_Few_l0, List.length_singleton, dec_t (show (0 : Int) < ((1 : Nat) : Int) by decide), dec_t (show (0 : Int) < 1000 by decide), if_true, Option.bind_some, Sum.elim_inl, gleaninglaw22_Few_k1, gd_pos (show (0 : Int) ≤ 0 by decide), e0, hf1, hf2, Bool.not_true, Bool.not_false, Bool.false_eq_true, if_false, Sum.elim_inr]
 | true =>
  have hl := (g1 rfl).1
  have hw : IntKind.i64.wrap (IntKind.i64.wrap (0 + 1) + (o.Spans.length : Int)) = ((o.Spans.length + 1 : Nat) : Int) := by rw [w64 (n := 0 + 1) (by omega) (by omega), w64 (by omega) (by omega)]; push_cast; omega
  have hs : gleaninglaw22_Few_l0 [o] 0 0 = some (Sum.inl (((o.Spans.length + 1 : Nat) : Int), 1)) := by
   simp only [gleaninglaw22_Few_l0, List.length_singleton, dec_t (show (0 : Int) < ((1 : Nat) : Int) by decide), dec_t (show (0 : Int) < 1000 by decide), if_true, Option.bind_some, Sum.elim_inl, gleaninglaw22_Few_k1, gd_pos (show (0 : Int) ≤ 0 by decide), e0, hf1, hf2, Bool.not_true, Bool.false_eq_true, if_false, gleaninglaw22_Few_k2, hw]
   rfl
  rw [loop_l (body := fun (s : Int × Int) => gleaninglaw22_Few_l0 [o] s.1 s.2) hs]
  exact ⟨_, loop_r (n := 1208925819614629174706174) (by simp only [gleaninglaw22_Few_l0, List.length_singleton, dec_f (show ¬ (1 : Int) < ((1 : Nat) : Int) by decide), Bool.false_eq_true, if_false, Option.bind_some, Sum.elim_inr]; rfl)⟩
end Go.Proofs.YtbaibpjffcahiaaGreat.Ab
