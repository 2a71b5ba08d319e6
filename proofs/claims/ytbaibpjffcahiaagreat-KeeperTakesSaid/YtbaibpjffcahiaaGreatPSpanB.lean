/- Spans as bytes, told plainly: which may be, how one is written, which one bytes begin with. -/
import Derived.Test.YtbaibpjffcahiaaGreatXSpan2
import Derived.Test.YtbaibpjffcahiaaGreatPKit
import Derived.Test.YtbaibpjffcahiaaGreatPRW
namespace Go.Proofs.YtbaibpjffcahiaaGreat.Ab
open Go Go.RowKit
set_option linter.unusedVariables false
set_option linter.unusedSimpArgs false
theorem ksucc {k : Nat} (h : k < 1099511627776) : IntKind.i64.wrap ((k : Int) + 1) = ((k + 1 : Nat) : Int) := by rw [w64 (by omega) (by omega)]; push_cast; rfl
def smallS (s : Span) : Prop := s.Service.size ≤ 100 ∧ s.Op.size ≤ 100 ∧ s.Attrs.length ≤ 20 ∧ ∀ a ∈ s.Attrs, a.Key.size ≤ 100 ∧ a.Value.size ≤ 100
theorem few_spec (s : Span) : ∃ b, gleaninglaw3_Few s = some b ∧ (b = true → smallS s) := by
 by_cases h1 : (100 : Int) < (s.Service.size : Int)
 ·exact ⟨false, by simp [gleaninglaw3_Few, h1], by simp⟩
 by_cases h2 : (100 : Int) < (s.Op.size : Int)
 ·exact ⟨false, by simp [gleaninglaw3_Few, h1, h2], by simp⟩
 by_cases h3 : (20 : Int) < (s.Attrs.length : Int)
 ·exact ⟨false, by simp [gleaninglaw3_Few, h1, h2, h3], by simp⟩
 have hloop : ∃ b, loopN (fun (q : Int) => gleaninglaw3_Few_l1 s q) Fu 0 = some b ∧ (b = true → ∀ a ∈ s.Attrs, a.Key.size ≤ 100 ∧ a.Value.size ≤ 100) := by
  refine loop_inv (fun n (q : Int) => ∃ k : Nat, k ≤ s.Attrs.length ∧ n = s.Attrs.length - k ∧ q = (k : Int) ∧ ∀ a ∈ s.Attrs.take k, a.Key.size ≤ 100 ∧ a.Value.size ≤ 100) _ ?_ Fu s.Attrs.length 0 ⟨0, by omega, by omega, rfl, by simp⟩ (by rw [fu_eq]; omega)
  rintro n q ⟨k, hk, rfl, rfl, ha⟩
  by_cases e : k = s.Attrs.length
  ·refine .inr ⟨true, ?_, fun _ => by rwa [e, List.take_length] at ha⟩
   simp only [gleaninglaw3_Few_l1, dec_f (by omega : ¬ (k : Int) < (s.Attrs.length : Int)), Bool.false_eq_true, if_false]
  ·have hk2 : k < s.Attrs.length := by omega
   by_cases e1 : (100 : Int) < (s.Attrs[k].Key.size : Int)
   ·refine .inr ⟨false, ?_, by simp⟩
    simp only [gleaninglaw3_Few_l1, dec_t (by omega : (k : Int) < (s.Attrs.length : Int)), if_true, gd_pos (by omega : (0 : Int) ≤ (k : Int)), Int.toNat_natCast, List.getElem?_eq_getElem hk2, Option.bind_some, dec_t e1]
   by_cases e2 : (100 : Int) < (s.Attrs[k].Value.size : Int)
   ·refine .inr ⟨false, ?_, by simp⟩
    simp only [gleaninglaw3_Few_l1, dec_t (by omega : (k : Int) < (s.Attrs.length : Int)), if_true, gd_pos (by omega : (0 : Int) ≤ (k : Int)), Int.toNat_natCast, List.getElem?_eq_getElem hk2, Option.bind_some, dec_f e1, Bool.false_eq_true, if_false, dec_t e2]
   refine .inl ⟨((k + 1 : Nat) : Int), s.Attrs.length - (k + 1), ?_, by omega, k + 1, by omega, rfl, rfl, fun a h => ?_⟩
   ·simp only [gleaninglaw3_Few_l1, dec_t (by omega : (k : Int) < (s.Attrs.length : Int)), if_true, gd_pos (by omega : (0 : Int) ≤ (k : Int)), Int.toNat_natCast, List.getElem?_eq_getElem hk2, Option.bind_some, dec_f e1, Bool.false_eq_true, if_false, dec_f e2, ksucc (by omega : k < 1099511627776)]
   ·rw [List.take_succ_eq_append_getElem hk2] at h
    rcases List.mem_append.1 h with h | h
    ·exact ha a h
    ·rw [List.mem_singleton.1 h]; omega
 obtain ⟨b, hb, hb2⟩ := hloop
 refine ⟨b, ?_, fun h => ⟨by omega, by omega, by omega, hb2 h⟩⟩
 simp only [gleaninglaw3_Few, h1, h2, h3, decide_false, Bool.false_eq_true, if_false, Option.bind_some, Sum.elim_inl, gleaninglaw3_Few_k0, hb]
theorem fewAll_spec (l : List Span) : ∃ b, gleaninglaw3_FewAll l = some b ∧ (b = true → l.length ≤ 60 ∧ ∀ s ∈ l, smallS s) := by
 by_cases h1 : (60 : Int) < (l.length : Int)
 ·exact ⟨false, by simp [gleaninglaw3_FewAll, h1], by simp⟩
 have hloop : ∃ b, loopN (fun (q : Int) => gleaninglaw3_FewAll_l0 l q) Fu 0 = some b ∧ (b = true → ∀ s ∈ l, smallS s) := by
  refine loop_inv (fun n (q : Int) => ∃ k : Nat, k ≤ l.length ∧ n = l.length - k ∧ q = (k : Int) ∧ ∀ a ∈ l.take k, smallS a) _ ?_ Fu l.length 0 ⟨0, by omega, by omega, rfl, by simp⟩ (by rw [fu_eq]; omega)
  rintro n q ⟨k, hk, rfl, rfl, ha⟩
  by_cases e : k = l.length
  ·refine .inr ⟨true, ?_, fun _ => by rwa [e, List.take_length] at ha⟩
   simp only [gleaninglaw3_FewAll_l0, dec_f (by omega : ¬ (k : Int) < (l.length : Int)), Bool.false_eq_true, if_false]
  ·have hk2 : k < l.length := by omega
   obtain ⟨b, hb, hb2⟩ := few_spec l[k]
   cases b with
   | false =>
    refine .inr ⟨false, ?_, by simp⟩
    simp only [gleaninglaw3_FewAll_l0, dec_t (by omega : (k : Int) < (l.length : Int)), if_true, gd_pos (by omega : (0 : Int) ≤ (k : Int)), Int.toNat_natCast, List.getElem?_eq_getElem hk2, Option.bind_some, hb, Bool.not_false]
   | true =>
    refine .inl ⟨((k + 1 : Nat) : Int), l.length - (k + 1), ?_, by omega, k + 1, by omega, rfl, rfl, fun a h => ?_⟩
    ·simp only [gleaninglaw3_FewAll_l0, dec_t (by omega : (k : Int) < (l.length : Int)), if_true, gd_pos (by omega : (0 : Int) ≤ (k : Int)), Int.toNat_natCast, List.getElem?_eq_getElem hk2, Option.bind_some, hb, Bool.not_true, Bool.false_eq_true, if_false, ksucc (by omega : k < 1099511627776)]
    ·rw [List.take_succ_eq_append_getElem hk2] at h
     rcases List.mem_append.1 h with h | h
     ·exact ha a h
     ·rw [List.mem_singleton.1 h]; exact hb2 rfl
 obtain ⟨b, hb, hb2⟩ := hloop
 refine ⟨b, ?_, fun h => ⟨by omega, hb2 h⟩⟩
 simp only [gleaninglaw3_FewAll, h1, decide_false, Bool.false_eq_true, if_false, hb]
end Go.Proofs.YtbaibpjffcahiaaGreat.Ab
namespace Go.Proofs.YtbaibpjffcahiaaGreat.Ab
open Go Go.RowKit
set_option linter.unusedVariables false
set_option linter.unusedSimpArgs false
def nameB (s : ByteArray) : Bool := decide (1 ≤ s.size) && decide (s.size ≤ 16)
def badAt (l : List Attr) (i : Nat) : Bool := match l[i]? with | none => false | some a => !nameB a.Key || decide (16 < a.Value.size) || (l.take i).any (fun x => decide (x.Key = a.Key))
def attrsOk (l : List Attr) : Bool := !(List.range l.length).any (badAt l)
def rightS (s : Span) : Bool := nameB s.Service && nameB s.Op && decide (0 ≤ s.Start) && decide (s.Start ≤ 1099511627776) && decide (0 ≤ s.Dur) && decide (s.Dur ≤ 1073741824) && decide (s.Attrs.length ≤ 4) && attrsOk s.Attrs
theorem name_spec (s : ByteArray) : span_Name s = some (nameB s) := by
 unfold span_Name nameB
 by_cases h : 1 ≤ s.size
 ·simp only [dec_t (by omega : (1 : Int) ≤ (s.size : Int)), if_true, dec_t h, Bool.true_and]
  congr 2
  exact propext ⟨fun h => by omega, fun h => by omega⟩
 ·simp only [dec_f (by omega : ¬ (1 : Int) ≤ (s.size : Int)), Bool.false_eq_true, if_false, dec_f h, Bool.false_and]
theorem within_spec (n a b : Int) : gleaningref1_Within n a b = some (decide (a ≤ n) && decide (n ≤ b)) := by
 unfold gleaningref1_Within
 by_cases h : a ≤ n
 ·simp [h]
 ·simp [h]
theorem within_name (s : ByteArray) : gleaningref1_Within (s.size : Int) 1 16 = some (nameB s) := by
 rw [within_spec, nameB]
 congr 2
 ·congr 1; exact propext ⟨fun h => by omega, fun h => by omega⟩
 ·congr 1; exact propext ⟨fun h => by omega, fun h => by omega⟩
theorem attrs_spec (l : List Attr) (hl : l.length ≤ 1000000) : span_attrs l = some (attrsOk l && decide (l.length ≤ 4)) := by
 have hc : ∀ (k : Nat) (hk : k < l.length), slices_ContainsFunc_Attr_span_attrs_c1 (l.take k) l[k] = some ((l.take k).any (fun x => decide (x.Key = l[k].Key))) := by
  intro k hk
  obtain ⟨r, h1, h2⟩ := loop_has (body := fun (s : Int) => slices_IndexFunc_Attr_span_attrs_c1_l0 (l.take k) l[k] s) (fun x : Attr => decide (x.Key = l[k].Key)) (l.take k) (by simp; omega) (fun j hj => by
   simp only [slices_IndexFunc_Attr_span_attrs_c1_l0, dec_t (by omega : (j : Int) < ((l.take k).length : Int)), if_true, gd_pos (by omega : (0 : Int) ≤ (j : Int)), Int.toNat_natCast, List.getElem?_eq_getElem hj, Option.bind_some, span_attrs_c1, str_beq, ksuc (by simp at hj; omega : j < 1099511627776)]) (by simp only [slices_IndexFunc_Attr_span_attrs_c1_l0, dec_f (by omega : ¬ ((l.take k).length : Int) < ((l.take k).length : Int)), Bool.false_eq_true, if_false])
  rw [slices_ContainsFunc_Attr_span_attrs_c1, slices_IndexFunc_Attr_span_attrs_c1, h1, Option.bind_some, h2]
 have hloop := loop_write (body := fun (s : Int) => span_attrs_l1 l s) (l := List.range l.length) (badAt l) (fun k => (k : Int)) (.inl ()) (.inr false) (by simp; omega) (fun k hk hb hk2 => by
   have hk' : k < l.length := by simpa using hk
   rw [List.getElem_range] at hk2
   simp only [badAt, List.getElem?_eq_getElem hk', Bool.or_eq_false_iff, Bool.not_eq_false'] at hk2
   simp only [span_attrs_l1, dec_t (by omega : (k : Int) < (l.length : Int)), if_true, gd_pos (by omega : (0 : Int) ≤ (k : Int)), gd_pos (by omega : (k : Int) ≤ (l.length : Int)), Int.toNat_natCast, List.getElem?_eq_getElem hk', Option.bind_some, name_spec, hk2.1.1, Bool.not_true, Bool.false_eq_true, if_false, hc k hk', hk2.2, ksuc (by omega : k < 1099511627776)]
   rw [dec_f (by have := of_decide_eq_false hk2.1.2; omega)]
   rfl) (fun k hk hb hk2 => by
   have hk' : k < l.length := by simpa using hk
   rw [List.getElem_range] at hk2
   simp only [badAt, List.getElem?_eq_getElem hk'] at hk2
   simp only [span_attrs_l1, dec_t (by omega : (k : Int) < (l.length : Int)), if_true, gd_pos (by omega : (0 : Int) ≤ (k : Int)), gd_pos (by omega : (k : Int) ≤ (l.length : Int)), Int.toNat_natCast, List.getElem?_eq_getElem hk', Option.bind_some, name_spec, hc k hk']
   cases h1 : nameB l[k].Key with
   | false => simp
   | true =>
    by_cases h2 : 16 < l[k].Value.size
    ·simp only [dec_t (by omega : (16 : Int) < (l[k].Value.size : Int)), if_true, Bool.not_true, Bool.false_eq_true, if_false]
    ·rw [h1, dec_f h2] at hk2
     simp only [Bool.not_true, Bool.false_or] at hk2
     simp only [dec_f (by omega : ¬ (16 : Int) < (l[k].Value.size : Int)), hk2, Bool.not_true, Bool.false_eq_true, if_false, if_true]) (fun hb => by
   simp only [List.length_range, span_attrs_l1, dec_f (by omega : ¬ (l.length : Int) < (l.length : Int)), Bool.false_eq_true, if_false])
 have e0 : (((0 : Nat) : Int)) = 0 := rfl
 rw [span_attrs, ← e0, hloop, attrsOk]
 cases hb : (List.range l.length).any (badAt l) with
 | true => rfl
 | false =>
  simp only [Bool.false_eq_true, if_false, Option.bind_some, Sum.elim_inl, span_attrs_k0, Bool.not_false, Bool.true_and]
  congr 2
  exact propext ⟨fun h => by omega, fun h => by omega⟩
theorem right_spec (s : Span) : span_Right s = some (rightS s) := by
 unfold span_Right rightS
 rw [name_spec, name_spec]
 simp only [Option.bind_some]
 cases h1 : nameB s.Service
 ·simp
 cases h2 : nameB s.Op
 ·simp
 by_cases h3 : 0 ≤ s.Start
 case neg => simp [h3]
 by_cases h4 : s.Start ≤ 1099511627776
 case neg => simp [h3, h4]
 by_cases h5 : 0 ≤ s.Dur
 case neg => simp [h3, h4, h5]
 by_cases h6 : s.Dur ≤ 1073741824
 case neg => simp [h3, h4, h5, h6]
 by_cases h7 : s.Attrs.length ≤ 4
 case neg =>
  simp [h3, h4, h5, h6, h7]
  intro h; omega
 rw [attrs_spec _ (by omega)]
 simp [h3, h4, h5, h6, h7, (by omega : (s.Attrs.length : Int) ≤ 4)]
theorem xright_spec (s : Span) : gleaningref1_RightSpan s = some (rightS s) := by
 unfold gleaningref1_RightSpan rightS
 rw [within_name, within_name, within_spec, within_spec]
 simp only [Option.bind_some]
 cases h1 : nameB s.Service
 ·simp
 cases h2 : nameB s.Op
 ·simp
 cases h3 : (decide (0 ≤ s.Start) && decide (s.Start ≤ 1099511627776))
 ·simp [h3]
 cases h4 : (decide (0 ≤ s.Dur) && decide (s.Dur ≤ 1073741824))
 ·simp only [Bool.not_true, Bool.false_eq_true, if_false, Bool.not_false, if_true, Option.bind_some, Sum.elim_inr, Bool.true_and, h3]
  rw [h4]; rfl
 by_cases h7 : s.Attrs.length ≤ 4
 case neg =>
  simp only [Bool.not_true, Bool.false_eq_true, if_false, dec_t (by omega : (4 : Int) < (s.Attrs.length : Int)), if_true, Option.bind_some, Sum.elim_inr, dec_f h7, Bool.and_false, Bool.false_and]
 simp only [Bool.not_true, Bool.false_eq_true, if_false, dec_f (by omega : ¬ (4 : Int) < (s.Attrs.length : Int)), Option.bind_some, Sum.elim_inl, dec_t h7, Bool.and_true, Bool.true_and, h3]
 rw [show (decide (0 ≤ s.Dur) && decide (s.Dur ≤ 1073741824)) = true from h4, Bool.true_and]
 have hin : ∀ (k : Nat) (hk : k < s.Attrs.length), gleaningref1_RightSpan_k2 s (k : Int) = some (if (s.Attrs.take k).any (fun x => decide (x.Key = s.Attrs[k].Key)) then .inr false else .inl ((k + 1 : Nat) : Int)) := by
  intro k hk
  rw [gleaningref1_RightSpan_k2]
  have := loop_write (body := fun (q : Int) => gleaningref1_RightSpan_l3 s (k : Int) q) (l := s.Attrs.take k) (fun x => decide (x.Key = s.Attrs[k].Key)) (fun j => (j : Int)) (.inl ((k + 1 : Nat) : Int)) (.inr false) (by simp; omega) (fun j hj hb hj2 => by
    have hjk : j < k := by simp at hj; omega
    have hjl : j < s.Attrs.length := by omega
    rw [List.getElem_take] at hj2
    simp only [gleaningref1_RightSpan_l3, dec_t (by omega : (j : Int) < (k : Int)), if_true, gd_pos (by omega : (0 : Int) ≤ (j : Int)), gd_pos (by omega : (0 : Int) ≤ (k : Int)), Int.toNat_natCast, List.getElem?_eq_getElem hjl, List.getElem?_eq_getElem hk, Option.bind_some, str_beq, hj2, Bool.false_eq_true, if_false, ksuc (by omega : j < 1099511627776)]) (fun j hj hb hj2 => by
    have hjk : j < k := by simp at hj; omega
    have hjl : j < s.Attrs.length := by omega
    rw [List.getElem_take] at hj2
    simp only [gleaningref1_RightSpan_l3, dec_t (by omega : (j : Int) < (k : Int)), if_true, gd_pos (by omega : (0 : Int) ≤ (j : Int)), gd_pos (by omega : (0 : Int) ≤ (k : Int)), Int.toNat_natCast, List.getElem?_eq_getElem hjl, List.getElem?_eq_getElem hk, Option.bind_some, str_beq, hj2]) (fun hb => by
    have : (s.Attrs.take k).length = k := by simp; omega
    simp only [this, gleaningref1_RightSpan_l3, dec_f (by omega : ¬ (k : Int) < (k : Int)), Bool.false_eq_true, if_false, ksuc (by omega : k < 1099511627776)])
  exact this
 rw [gleaningref1_RightSpan_k0]
 have hloop := loop_write (body := fun (q : Int) => gleaningref1_RightSpan_l1 s q) (l := List.range s.Attrs.length) (badAt s.Attrs) (fun k => (k : Int)) true false (by simp; omega) (fun k hk hb hk2 => by
   have hk' : k < s.Attrs.length := by simpa using hk
   rw [List.getElem_range] at hk2
   simp only [badAt, List.getElem?_eq_getElem hk', Bool.or_eq_false_iff, Bool.not_eq_false'] at hk2
   simp only [gleaningref1_RightSpan_l1, dec_t (by omega : (k : Int) < (s.Attrs.length : Int)), if_true, gd_pos (by omega : (0 : Int) ≤ (k : Int)), Int.toNat_natCast, List.getElem?_eq_getElem hk', Option.bind_some, within_name, hk2.1.1, Bool.not_true, Bool.false_eq_true, if_false]
   rw [dec_f (by have := of_decide_eq_false hk2.1.2; omega)]
   simp only [Bool.false_eq_true, if_false, Option.bind_some, Sum.elim_inl, hin k hk', hk2.2]) (fun k hk hb hk2 => by
   have hk' : k < s.Attrs.length := by simpa using hk
   rw [List.getElem_range] at hk2
   simp only [badAt, List.getElem?_eq_getElem hk'] at hk2
   simp only [gleaningref1_RightSpan_l1, dec_t (by omega : (k : Int) < (s.Attrs.length : Int)), if_true, gd_pos (by omega : (0 : Int) ≤ (k : Int)), Int.toNat_natCast, List.getElem?_eq_getElem hk', Option.bind_some, within_name]
   cases h1 : nameB s.Attrs[k].Key with
   | false => simp
   | true =>
    by_cases h2 : 16 < s.Attrs[k].Value.size
    ·simp only [dec_t (by omega : (16 : Int) < (s.Attrs[k].Value.size : Int)), if_true, Bool.not_true, Bool.false_eq_true, if_false, Option.bind_some, Sum.elim_inr]
    ·rw [h1, dec_f h2] at hk2
     simp only [Bool.not_true, Bool.false_or] at hk2
     simp only [dec_f (by omega : ¬ (16 : Int) < (s.Attrs[k].Value.size : Int)), Bool.not_true, Bool.false_eq_true, if_false, Option.bind_some, Sum.elim_inl, hin k hk', hk2, if_true]) (fun hb => by
   simp only [List.length_range, gleaningref1_RightSpan_l1, dec_f (by omega : ¬ (s.Attrs.length : Int) < (s.Attrs.length : Int)), Bool.false_eq_true, if_false])
 have e0 : (((0 : Nat) : Int)) = 0 := rfl
 rw [← e0, hloop, attrsOk]
 cases (List.range s.Attrs.length).any (badAt s.Attrs) <;> rfl
theorem rightS_of {s : Span} (h : rightS s = true) : 1 ≤ s.Service.size ∧ s.Service.size ≤ 16 ∧ s.Op.size ≤ 16 ∧ 0 ≤ s.Start ∧ s.Start ≤ 1099511627776 ∧ 0 ≤ s.Dur ∧ s.Dur ≤ 1073741824 ∧ s.Attrs.length ≤ 4 ∧ ∀ a ∈ s.Attrs, a.Key.size ≤ 16 ∧ a.Value.size ≤ 16 := by
 simp only [rightS, nameB, Bool.and_eq_true, decide_eq_true_eq] at h
 obtain ⟨⟨⟨⟨⟨⟨⟨h1, h2⟩, h3⟩, h4⟩, h5⟩, h6⟩, h7⟩, h8⟩ := h
 refine ⟨h1.1, h1.2, h2.2, h3, h4, h5, h6, h7, fun a ha => ?_⟩
 obtain ⟨i, hi, rfl⟩ := List.getElem_of_mem ha
 have h9 : badAt s.Attrs i = false := by
  cases e : badAt s.Attrs i with
  | false => rfl
  | true =>
   have : (List.range s.Attrs.length).any (badAt s.Attrs) = true := List.any_eq_true.2 ⟨i, by simpa using hi, e⟩
   rw [attrsOk, this] at h8; cases h8
 simp only [badAt, List.getElem?_eq_getElem hi, Bool.or_eq_false_iff, Bool.not_eq_false', nameB, Bool.and_eq_true, decide_eq_true_eq, decide_eq_false_iff_not] at h9
 exact ⟨h9.1.1.2, by have := h9.1.2; omega⟩
def attrsB (l : List Attr) : List UInt8 := l.flatMap fun a => textB a.Key ++ textB a.Value
def spanB (s : Span) : List UInt8 :=
 putN s.Trace.Hi.toNat ++ (putN s.Trace.Lo.toNat ++ (putN s.Id.toNat ++ (putN s.Parent.toNat ++ (textB s.Service ++ (textB s.Op ++ (putN s.Start.toNat ++ (putN s.Dur.toNat ++ (putN (bitI s.Err).toNat ++ (putN s.Attrs.length ++ attrsB s.Attrs)))))))))
def wfS (s : Span) : Prop := isU s.Trace.Hi ∧ isU s.Trace.Lo ∧ isU s.Id ∧ isU s.Parent
theorem attrsB_app (a b : List Attr) : attrsB (a ++ b) = attrsB a ++ attrsB b := by simp [attrsB]
theorem attrsB_le : ∀ (l : List Attr), (∀ a ∈ l, a.Key.size ≤ 16 ∧ a.Value.size ≤ 16) → (attrsB l).length ≤ 52 * l.length
 | [], _ => by simp [attrsB]
 | a :: l, h => by
  have h1 := h a List.mem_cons_self
  have h2 := attrsB_le l fun m hm => h m (List.mem_cons_of_mem _ hm)
  have h3 := textB_le a.Key (by omega)
  have h4 := textB_le a.Value (by omega)
  simp only [attrsB, List.flatMap_cons, List.length_append, List.length_cons] at h2 ⊢; omega
theorem bitU (b : Bool) : 0 ≤ bitI b ∧ bitI b ≤ 1 := by unfold bitI; split <;> omega
theorem putI_le {n : Int} (h : n < 18446744073709551616) : (putN n.toNat).length ≤ 10 := putN_len10 (by omega)
theorem spanB_le {s : Span} (hw : wfS s) (h : rightS s = true) : (spanB s).length ≤ 400 := by
 obtain ⟨h1, h2, h3, h4, h5, h6, h7, h8, h9⟩ := rightS_of h
 obtain ⟨w1, w2, w3, w4⟩ := hw
 have a1 := putI_le w1.2
 have a2 := putI_le w2.2
 have a3 := putI_le w3.2
 have a4 := putI_le w4.2
 have a5 := textB_le s.Service (by omega)
 have a6 := textB_le s.Op (by omega)
 have a7 := putI_le (n := s.Start) (by omega)
 have a8 := putI_le (n := s.Dur) (by omega)
 have a9 := putI_le (n := bitI s.Err) (by have := (bitU s.Err).2; omega)
 have b1 := putN_len10 (n := s.Attrs.length) (by omega)
 have b2 := attrsB_le s.Attrs h9
 simp only [spanB, List.length_append]; omega
theorem put_spec (w : Writer) (s : Span) (hw : wfS s) (h : rightS s = true) (hl : w.B.length ≤ 1000000000) : span_Put w s = some ⟨w.B ++ spanB s⟩ := by
 obtain ⟨h1, h2, h3, h4, h5, h6, h7, h8, h9⟩ := rightS_of h
 obtain ⟨w1, w2, w3, w4⟩ := hw
 have u4 : ∀ n ∈ [s.Trace.Hi, s.Trace.Lo, s.Id, s.Parent], isU n := fun n hn => by
  simp only [List.mem_cons, List.not_mem_nil, or_false] at hn
  rcases hn with rfl | rfl | rfl | rfl <;> assumption
 have t2 : ∀ x ∈ [s.Service, s.Op], x.size ≤ 16 := fun x hx => by
  simp only [List.mem_cons, List.not_mem_nil, or_false] at hx
  rcases hx with rfl | rfl <;> omega
 have n2 : ∀ n ∈ [s.Start, s.Dur], 0 ≤ n ∧ n < 9223372036854775808 := fun n hn => by
  simp only [List.mem_cons, List.not_mem_nil, or_false] at hn
  rcases hn with rfl | rfl <;> omega
 have l1 := numsB_le _ u4
 have l2 := textsB_le _ 16 (by omega) t2
 have l3 := numsB_le [s.Start, s.Dur] fun n hn => ⟨(n2 n hn).1, by have := (n2 n hn).2; omega⟩
 have l4 := numsB_le [bitI s.Err] fun n hn => by rw [List.mem_singleton.1 hn]; exact ⟨(bitU _).1, by have := (bitU s.Err).2; omega⟩
 have l5 := numsB_le [(s.Attrs.length : Int)] fun n hn => by rw [List.mem_singleton.1 hn]; exact ⟨by omega, by omega⟩
 simp only [List.length_cons, List.length_nil] at l1 l2 l3 l4 l5
 rw [span_Put, wide_spec _ _ u4 (by simp only [List.length_cons, List.length_nil]; omega), Option.bind_some,
  wtext_spec _ _ 16 (by omega) t2 (by simp only [List.length_cons, List.length_nil, List.length_append]; omega), Option.bind_some,
  num_spec _ _ n2 (by simp only [List.length_cons, List.length_nil, List.length_append]; omega), Option.bind_some,
  flag_spec _ _ (by simp only [List.length_append]; omega), Option.bind_some,
  num_spec _ _ (fun n hn => by rw [List.mem_singleton.1 hn]; omega) (by simp only [List.length_cons, List.length_nil, List.length_append]; omega), Option.bind_some]
 dsimp only
 have hB : w.B ++ spanB s = (w.B ++ numsB [s.Trace.Hi, s.Trace.Lo, s.Id, s.Parent] ++ textsB [s.Service, s.Op] ++ numsB [s.Start, s.Dur] ++ numsB [bitI s.Err] ++ numsB [(s.Attrs.length : Int)]) ++ attrsB s.Attrs := by
  simp [spanB, numsB, textsB]
 rw [hB]
 generalize hC : w.B ++ numsB [s.Trace.Hi, s.Trace.Lo, s.Id, s.Parent] ++ textsB [s.Service, s.Op] ++ numsB [s.Start, s.Dur] ++ numsB [bitI s.Err] ++ numsB [(s.Attrs.length : Int)] = C
 have hCl : C.length ≤ 1000001000 := by rw [← hC]; simp only [List.length_append]; omega
 refine loop_list (l := s.Attrs) (fun k r q => q = (C ++ attrsB (s.Attrs.take k), (k : Int)) ∧ r = ⟨C ++ attrsB s.Attrs⟩) (by omega) ?_ ?_ ⟨by simp [attrsB], rfl⟩
 ·rintro k hk r q ⟨rfl, rfl⟩
  have hm := h9 s.Attrs[k] (List.getElem_mem hk)
  have hle := attrsB_le (s.Attrs.take k) fun y hy => h9 y (List.mem_of_mem_take hy)
  have hle2 : (s.Attrs.take k).length ≤ 4 := by simp; omega
  refine .inl ⟨(C ++ attrsB (s.Attrs.take (k + 1)), ((k + 1 : Nat) : Int)), ?_, rfl, rfl⟩
  simp only [span_Put_l0, dec_t (by omega : (k : Int) < (s.Attrs.length : Int)), if_true, gd_pos (by omega : (0 : Int) ≤ (k : Int)), Int.toNat_natCast, List.getElem?_eq_getElem hk, Option.bind_some]
  rw [wtext_spec _ _ 16 (by omega) (fun x hx => by
   simp only [List.mem_cons, List.not_mem_nil, or_false] at hx
   rcases hx with rfl | rfl <;> omega) (by simp only [List.length_cons, List.length_nil, List.length_append]; omega), Option.bind_some, ksuc (by omega), List.take_succ_eq_append_getElem hk, attrsB_app, List.append_assoc]
  simp [attrsB, textsB]
 ·rintro r q ⟨rfl, rfl⟩
  simp only [span_Put_l0, dec_f (by omega : ¬ (s.Attrs.length : Int) < (s.Attrs.length : Int)), Bool.false_eq_true, if_false, List.take_length]
def bytesS (s : Span) : List UInt8 := if rightS s = true then spanB s else []
end Go.Proofs.YtbaibpjffcahiaaGreat.Ab
