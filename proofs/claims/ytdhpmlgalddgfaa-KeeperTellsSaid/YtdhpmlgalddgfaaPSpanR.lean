import Derived.Test.YtdhpmlgalddgfaaXSpan0
import Derived.Test.YtdhpmlgalddgfaaPKit
namespace Go.Proofs.Ytdhpmlgalddgfaa.Ab
open Go Go.RowKit
set_option linter.unusedVariables false
set_option linter.unusedSimpArgs false
theorem ksucc {k : Nat} (h : k < 1099511627776) : IntKind.i64.wrap ((k : Int) + 1) = ((k + 1 : Nat) : Int) := by rw [w64 (by omega) (by omega)]; push_cast; rfl
theorem trace_eq (a b : Trace) : ((a.Hi == b.Hi) && ((a.Lo == b.Lo) && true)) = decide (a = b) := by
 cases a; cases b
 simp only [Trace.mk.injEq, Bool.and_true]
 rw [Bool.eq_iff_iff]; simp
def smallS (s : Span) : Prop := s.Service.size ≤ 100 ∧ s.Op.size ≤ 100 ∧ s.Attrs.length ≤ 20 ∧ ∀ a ∈ s.Attrs, a.Key.size ≤ 100 ∧ a.Value.size ≤ 100
theorem few_spec (s : Span) : ∃ b, gleaninglaw3_Few s = some b ∧ (b = true → smallS s) := by
 by_cases h1 : (100 : Int) < (s.Service.size : Int)
 ·exact ⟨false, by simp [gleaninglaw3_Few, h1], by simp⟩
 by_cases h2 : (100 : Int) < (s.Op.size : Int)
 ·exact ⟨false, by simp [gleaninglaw3_Few, h1, h2], by simp⟩
 by_cases h3 : (20 : Int) < (s.Attrs.length : Int)
 ·exact ⟨false, by simp [gleaninglaw3_Few, h1, h2, h3], by simp⟩
 have hloop : ∃ b, loopN (fun (q : Int) => gleaninglaw3_Few_l1 s q) Fu 0 = some b ∧ (b = true → ∀ a ∈ s.Attrs, a.Key.size ≤ 100 ∧ a.Value.size ≤ 100) := by
  refine loop_inv (fun n (q : Int) => ∃ k : Nat, k ≤ s.Attrs.length ∧ n = s.Attrs.length - k ∧ q = (k : Int) ∧ ∀ a ∈ s.Attrs.take k, a.Key.size ≤ 100 ∧ a.Value.size ≤ 100) _ ?_ Fu s.Attrs.length 0 ⟨0, by omega, by omega, rfl, by simp⟩ (by rw [fu_eq]; omega)
  rintro n q ⟨k, hk, rfl, rfl, ha⟩
  by_cases e : k = s.Attrs.length
  ·refine .inr ⟨true, ?_, fun _ => by rwa [e, List.take_length] at ha⟩
   simp only [gleaninglaw3_Few_l1, dec_f (by omega : ¬ (k : Int) < (s.Attrs.length : Int)), Bool.false_eq_true, if_false]
  ·have hk2 : k < s.Attrs.length := by omega
   by_cases e1 : (100 : Int) < (s.Attrs[k].Key.size : Int)
   ·refine .inr ⟨false, ?_, by simp⟩
    simp only [gleaninglaw3_Few_l1, dec_t (by omega : (k : Int) < (s.Attrs.length : Int)), if_true, gd_pos (by omega : (0 : Int) ≤ (k : Int)), Int.toNat_natCast, List.getElem?_eq_getElem hk2, Option.bind_some, dec_t e1]
   by_cases e2 : (100 : Int) < (s.Attrs[k].Value.size : Int)
   ·refine .inr ⟨false, ?_, by simp⟩
    simp only [gleaninglaw3_Few_l1, dec_t (by omega : (k : Int) < (s.Attrs.length : Int)), if_true, gd_pos (by omega : (0 : Int) ≤ (k : Int)), Int.toNat_natCast, List.getElem?_eq_getElem hk2, Option.bind_some, dec_f e1, Bool.false_eq_true, if_false, dec_t e2]
   refine .inl ⟨((k + 1 : Nat) : Int), s.Attrs.length - (k + 1), ?_, by omega, k + 1, by omega, rfl, rfl, fun a h => ?_⟩
   ·simp only [gleaninglaw3_Few_l1, dec_t (by omega : (k : Int) < (s.Attrs.length : Int)), if_true, gd_pos (by omega : (0 : Int) ≤ (k : Int)), Int.toNat_natCast, List.getElem?_eq_getElem hk2, Option.bind_some, dec_f e1, Bool.false_eq_true, if_false, dec_f e2, ksucc (by omega : k < 1099511627776)]
   ·rw [List.take_succ_eq_append_getElem hk2] at h
    rcases List.mem_append.1 h with h | h
    ·exact ha a h
    ·rw [List.mem_singleton.1 h]; omega
 obtain ⟨b, hb, hb2⟩ := hloop
 refine ⟨b, ?_, fun h => ⟨by omega, by omega, by omega, hb2 h⟩⟩
 simp only [gleaninglaw3_Few, h1, h2, h3, decide_false, Bool.false_eq_true, if_false, Option.bind_some, Sum.elim_inl, gleaninglaw3_Few_k0, hb]
theorem fewAll_spec (l : List Span) : ∃ b, gleaninglaw3_FewAll l = some b ∧ (b = true → l.length ≤ 60 ∧ ∀ s ∈ l, smallS s) := by
 by_cases h1 : (60 : Int) < (l.length : Int)
 ·exact ⟨false, by simp [gleaninglaw3_FewAll, h1], by simp⟩
 have hloop : ∃ b, loopN (fun (q : Int) => gleaninglaw3_FewAll_l0 l q) Fu 0 = some b ∧ (b = true → ∀ s ∈ l, smallS s) := by
  refine loop_inv (fun n (q : Int) => ∃ k : Nat, k ≤ l.length ∧ n = l.length - k ∧ q = (k : Int) ∧ ∀ a ∈ l.take k, smallS a) _ ?_ Fu l.length 0 ⟨0, by omega, by omega, rfl, by simp⟩ (by rw [fu_eq]; omega)
  rintro n q ⟨k, hk, rfl, rfl, ha⟩
  by_cases e : k = l.length
  ·refine .inr ⟨true, ?_, fun _ => by rwa [e, List.take_length] at ha⟩
   simp only [gleaninglaw3_FewAll_l0, dec_f (by omega : ¬ (k : Int) < (l.length : Int)), Bool.false_eq_true, if_false]
  ·have hk2 : k < l.length := by omega
   obtain ⟨b, hb, hb2⟩ := few_spec l[k]
   cases b with
   | false =>
    refine .inr ⟨false, ?_, by simp⟩
    simp only [gleaninglaw3_FewAll_l0, dec_t (by omega : (k : Int) < (l.length : Int)), if_true, gd_pos (by omega : (0 : Int) ≤ (k : Int)), Int.toNat_natCast, List.getElem?_eq_getElem hk2, Option.bind_some, hb, Bool.not_false]
   | true =>
    refine .inl ⟨((k + 1 : Nat) : Int), l.length - (k + 1), ?_, by omega, k + 1, by omega, rfl, rfl, fun a h => ?_⟩
    ·simp only [gleaninglaw3_FewAll_l0, dec_t (by omega : (k : Int) < (l.length : Int)), if_true, gd_pos (by omega : (0 : Int) ≤ (k : Int)), Int.toNat_natCast, List.getElem?_eq_getElem hk2, Option.bind_some, hb, Bool.not_true, Bool.false_eq_true, if_false, ksucc (by omega : k < 1099511627776)]
    ·rw [List.take_succ_eq_append_getElem hk2] at h
     rcases List.mem_append.1 h with h | h
     ·exact ha a h
     ·rw [List.mem_singleton.1 h]; exact hb2 rfl
 obtain ⟨b, hb, hb2⟩ := hloop
 refine ⟨b, ?_, fun h => ⟨by omega, hb2 h⟩⟩
 simp only [gleaninglaw3_FewAll, h1, decide_false, Bool.false_eq_true, if_false, hb]
theorem loop_same {α : Type} [DecidableEq α] {body : Int → Option (Int ⊕ Bool)} (a b : List α) (hl : a.length = b.length) (ha : a.length ≤ 1000000000)
  (h : ∀ (k : Nat) (h1 : k < a.length) (h2 : k < b.length), body (k : Int) = if a[k] = b[k] then some (.inl ((k + 1 : Nat) : Int)) else some (.inr false)) (hend : body (a.length : Int) = some (.inr true)) : loopN body Fu 0 = some (decide (a = b)) := by
 refine loop_list (l := a) (fun k r s => s = (k : Int) ∧ a.take k = b.take k ∧ r = decide (a = b)) (by omega) ?_ ?_ ⟨rfl, rfl, rfl⟩
 ·rintro k hk r s ⟨rfl, he, rfl⟩
  have hkb : k < b.length := by omega
  rw [h k hk hkb]
  by_cases hx : a[k] = b[k]
  ·rw [if_pos hx]
   exact .inl ⟨_, rfl, rfl, by rw [List.take_succ_eq_append_getElem hk, List.take_succ_eq_append_getElem hkb, he, hx], rfl⟩
  ·rw [if_neg hx, dec_f (fun e => hx (by subst e; rfl))]
   exact .inr rfl
 ·rintro r s ⟨rfl, he, rfl⟩
  have : a = b := by rw [List.take_length, hl, List.take_length] at he; exact he
  rw [hend, dec_t this]
theorem attr_eq (a b : Attr) : ((ByteArray.toList a.Key == ByteArray.toList b.Key) && ((ByteArray.toList a.Value == ByteArray.toList b.Value) && true)) = decide (a = b) := by
 cases a; cases b
 simp only [Attr.mk.injEq, Bool.and_true, str_beq]
 rw [Bool.eq_iff_iff]; simp
theorem span_ext {a b : Span} (h1 : a.Trace = b.Trace) (h2 : a.Id = b.Id) (h3 : a.Parent = b.Parent) (h4 : a.Service = b.Service) (h5 : a.Op = b.Op) (h6 : a.Start = b.Start) (h7 : a.Dur = b.Dur) (h8 : a.Err = b.Err) (h9 : a.Attrs = b.Attrs) : a = b := by
 cases a; cases b; simp_all
theorem sameSpan_spec (a b : Span) (ha : a.Attrs.length ≤ 1000000) : gleaningref1_SameSpan a b = some (decide (a = b)) := by
 have no : ∀ (p : Prop), p → (a = b → ¬ p) → some false = some (decide (a = b)) := fun p hp h => by rw [dec_f (fun e => h e hp)]
 by_cases h1 : a.Trace = b.Trace
 case neg => rw [← no _ h1 (fun e h => h (by rw [e]))]; simp only [gleaningref1_SameSpan, trace_eq, dec_f h1, Bool.not_false, if_true, Option.bind_some, Sum.elim_inr]
 by_cases h2 : a.Id = b.Id
 case neg => rw [← no _ h2 (fun e h => h (by rw [e]))]; simp [gleaningref1_SameSpan, trace_eq, h1, h2]
 by_cases h3 : a.Parent = b.Parent
 case neg => rw [← no _ h3 (fun e h => h (by rw [e]))]; simp [gleaningref1_SameSpan, trace_eq, h1, h2, h3]
 by_cases h4 : a.Service = b.Service
 case neg => rw [← no _ h4 (fun e h => h (by rw [e]))]; simp [gleaningref1_SameSpan, trace_eq, str_beq, h1, h2, h3, h4]
 by_cases h5 : a.Op = b.Op
 case neg => rw [← no _ h5 (fun e h => h (by rw [e]))]; simp [gleaningref1_SameSpan, trace_eq, str_beq, h1, h2, h3, h4, h5]
 by_cases h6 : a.Start = b.Start
 case neg => rw [← no _ h6 (fun e h => h (by rw [e]))]; simp [gleaningref1_SameSpan, trace_eq, str_beq, h1, h2, h3, h4, h5, h6]
 by_cases h7 : a.Dur = b.Dur
 case neg => rw [← no _ h7 (fun e h => h (by rw [e]))]; simp [gleaningref1_SameSpan, trace_eq, str_beq, h1, h2, h3, h4, h5, h6, h7]
 by_cases h8 : a.Err = b.Err
 case neg => rw [← no _ h8 (fun e h => h (by rw [e]))]; simp [gleaningref1_SameSpan, trace_eq, str_beq, h1, h2, h3, h4, h5, h6, h7, h8]
 by_cases h9 : a.Attrs.length = b.Attrs.length
 case neg =>
  have : ((a.Attrs.length : Int) != (b.Attrs.length : Int)) = true := by simp only [bne_iff_ne, ne_eq]; omega
  rw [← no _ h9 (fun e h => h (by rw [e]))]; simp [gleaningref1_SameSpan, trace_eq, str_beq, h1, h2, h3, h4, h5, h6, h7, h8, this]
 have hloop : gleaningref1_SameSpan_k0 a b = some (decide (a.Attrs = b.Attrs)) := by
  refine loop_same a.Attrs b.Attrs h9 (by omega) (fun k hk hk2 => ?_) ?_
  ·simp only [gleaningref1_SameSpan_l1, dec_t (by omega : (k : Int) < (a.Attrs.length : Int)), if_true, gd_pos (by omega : (0 : Int) ≤ (k : Int)), Int.toNat_natCast, List.getElem?_eq_getElem hk, List.getElem?_eq_getElem hk2, Option.bind_some, attr_eq, ksucc (by omega : k < 1099511627776)]
   by_cases e : a.Attrs[k] = b.Attrs[k]
   ·simp [e]
   ·simp [e]
  ·simp only [gleaningref1_SameSpan_l1, dec_f (by omega : ¬ (a.Attrs.length : Int) < (a.Attrs.length : Int)), Bool.false_eq_true, if_false]
 have hd : decide (a = b) = decide (a.Attrs = b.Attrs) := by
  by_cases e : a.Attrs = b.Attrs
  ·rw [dec_t e, dec_t (span_ext h1 h2 h3 h4 h5 h6 h7 h8 e)]
  ·rw [dec_f e, dec_f (fun e2 => e (by rw [e2]))]
 have e0 : ((a.Attrs.length : Int) != (b.Attrs.length : Int)) = false := by simp [h9]
 rw [hd, ← hloop]
 simp only [gleaningref1_SameSpan, trace_eq, str_beq, h1, h2, h3, h4, h5, h6, h7, h8, e0, decide_true, Bool.and_self, Bool.and_true, Bool.not_true, bne_self_eq_false, beq_self_eq_true, Bool.false_eq_true, if_false, Option.bind_some, Sum.elim_inl]
theorem sameSpans_spec (a b : List Span) (ha : a.length ≤ 1000000) (hs : ∀ s ∈ a, s.Attrs.length ≤ 1000000) : gleaningref1_SameSpans a b = some (decide (a = b)) := by
 by_cases hl : a.length = b.length
 ·have h0 : ((a.length : Int) != (b.length : Int)) = false := by simp [hl]
  rw [gleaningref1_SameSpans, ite_f h0]
  refine loop_same a b hl (by omega) (fun k hk hk2 => ?_) ?_
  ·simp only [gleaningref1_SameSpans_l0, dec_t (by omega : (k : Int) < (a.length : Int)), if_true, gd_pos (by omega : (0 : Int) ≤ (k : Int)), Int.toNat_natCast, List.getElem?_eq_getElem hk, List.getElem?_eq_getElem hk2, Option.bind_some, sameSpan_spec _ _ (hs _ (List.getElem_mem hk)), ksucc (by omega : k < 1099511627776)]
   by_cases e : a[k] = b[k]
   ·simp [e]
   ·simp [e]
  ·simp only [gleaningref1_SameSpans_l0, dec_f (by omega : ¬ (a.length : Int) < (a.length : Int)), Bool.false_eq_true, if_false]
 ·have h0 : ((a.length : Int) != (b.length : Int)) = true := by simp only [bne_iff_ne, ne_eq]; omega
  rw [gleaningref1_SameSpans, ite_t h0, dec_f (by rintro rfl; exact hl rfl)]
end Go.Proofs.Ytdhpmlgalddgfaa.Ab
