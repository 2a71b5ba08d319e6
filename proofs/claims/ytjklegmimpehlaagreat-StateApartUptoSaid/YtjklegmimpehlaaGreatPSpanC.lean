/- Spans as bytes, told plainly: how one is read. -/
import Derived.Test.YtjklegmimpehlaaGreatXSpan2
import Derived.Test.YtjklegmimpehlaaGreatPKit
import Derived.Test.YtjklegmimpehlaaGreatPRW
namespace Go.Proofs.YtjklegmimpehlaaGreat.Ab
open Go Go.RowKit
set_option linter.unusedVariables false
set_option linter.unusedSimpArgs false
theorem ksucc {k : Nat} (h : k < 1099511627776) : IntKind.i64.wrap ((k : Int) + 1) = ((k + 1 : Nat) : Int) := by rw [w64 (by omega) (by omega)]; push_cast; rfl
theorem trace_eq (a b : Trace) : ((a.Hi == b.Hi) && ((a.Lo == b.Lo) && true)) = decide (a = b) := by
 cases a; cases b
 simp only [Trace.mk.injEq, Bool.and_true]
 rw [Bool.eq_iff_iff]; simp
def smallS (s : Span) : Prop := s.Service.size ≤ 100 ∧ s.Op.size ≤ 100 ∧ s.Attrs.length ≤ 20 ∧ ∀ a ∈ s.Attrs, a.Key.size ≤ 100 ∧ a.Value.size ≤ 100
theorem few_spec (s : Span) : ∃ b, gleaninglaw3_Few s = some b ∧ (b = true → smallS s) := by
 by_cases h1 : (100 : Int) < (s.Service.size : Int)
 ·exact ⟨false, by simp [gleaninglaw3_Few, h1], by simp⟩
 by_cases h2 : (100 : Int) < (s.Op.size : Int)
 ·exact ⟨false, by simp [gleaninglaw3_Few, h1, h2], by simp⟩
 by_cases h3 : (20 : Int) < (s.Attrs.length : Int)
 ·exact ⟨false, by simp [gleaninglaw3_Few, h1, h2, h3], by simp⟩
 have hloop : ∃ b, loopN (fun (q : Int) => gleaninglaw3_Few_l1 s q) Fu 0 = some b ∧ (b = true → ∀ a ∈ s.Attrs, a.Key.size ≤ 100 ∧ a.Value.size ≤ 100) := by
  refine loop_inv (fun n (q : Int) => ∃ k : Nat, k ≤ s.Attrs.length ∧ n = s.Attrs.length - k ∧ q = (k : Int) ∧ ∀ a ∈ s.Attrs.take k, a.Key.size ≤ 100 ∧ a.Value.size ≤ 100) _ ?_ Fu s.Attrs.length 0 ⟨0, by omega, by omega, rfl, by simp⟩ (by rw [fu_eq]; omega)
  rintro n q ⟨k, hk, rfl, rfl, ha⟩
  by_cases e : k = s.Attrs.length
  ·refine .inr ⟨true, ?_, fun _ => by rwa [e, List.take_length] at ha⟩
   simp only [gleaninglaw3_Few_l1, dec_f (by omega : ¬ (k : Int) < (s.Attrs.length : Int)), Bool.false_eq_true, if_false]
  ·have hk2 : k < s.Attrs.length := by omega
   by_cases e1 : (100 : Int) < (s.Attrs[k].Key.size : Int)
   ·refine .inr ⟨false, ?_, by simp⟩
    simp only [gleaninglaw3_Few_l1, dec_t (by omega : (k : Int) < (s.Attrs.length : Int)), if_true, gd_pos (by omega : (0 : Int) ≤ (k : Int)), Int.toNat_natCast, List.getElem?_eq_getElem hk2, Option.bind_some, dec_t e1]
   by_cases e2 : (100 : Int) < (s.Attrs[k].Value.size : Int)
   ·refine .inr ⟨false, ?_, by simp⟩
    simp only [gleaninglaw3_Few_l1, dec_t (by omega : (k : Int) < (s.Attrs.length : Int)), if_true, gd_pos (by omega : (0 : Int) ≤ (k : Int)), Int.toNat_natCast, List.getElem?_eq_getElem hk2, Option.bind_some, dec_f e1, Bool.false_eq_true, if_false, dec_t e2]
   refine .inl ⟨((k + 1 : Nat) : Int), s.Attrs.length - (k + 1), ?_, by omega, k + 1, by omega, rfl, rfl, fun a h => ?_⟩
   ·simp only [gleaninglaw3_Few_l1, dec_t (by omega : (k : Int) < (s.Attrs.length : Int)), if_true, gd_pos (by omega : (0 : Int) ≤ (k : Int)), Int.toNat_natCast, List.getElem?_eq_getElem hk2, Option.bind_some, dec_f e1, Bool.false_eq_true, if_false, dec_f e2, ksucc (by omega : k < 1099511627776)]
   ·rw [List.take_succ_eq_append_getElem hk2] at h
    rcases List.mem_append.1 h with h | h
    ·exact ha a h
    ·rw [List.mem_singleton.1 h]; omega
 obtain ⟨b, hb, hb2⟩ := hloop
 refine ⟨b, ?_, fun h => ⟨by omega, by omega, by omega, hb2 h⟩⟩
 simp only [gleaninglaw3_Few, h1, h2, h3, decide_false, Bool.false_eq_true, if_false, Option.bind_some, Sum.elim_inl, gleaninglaw3_Few_k0, hb]
theorem fewAll_spec (l : List Span) : ∃ b, gleaninglaw3_FewAll l = some b ∧ (b = true → l.length ≤ 60 ∧ ∀ s ∈ l, smallS s) := by
 by_cases h1 : (60 : Int) < (l.length : Int)
 ·exact ⟨false, by simp [gleaninglaw3_FewAll, h1], by simp⟩
 have hloop : ∃ b, loopN (fun (q : Int) => gleaninglaw3_FewAll_l0 l q) Fu 0 = some b ∧ (b = true → ∀ s ∈ l, smallS s) := by
  refine loop_inv (fun n (q : Int) => ∃ k : Nat, k ≤ l.length ∧ n = l.length - k ∧ q = (k : Int) ∧ ∀ a ∈ l.take k, smallS a) _ ?_ Fu l.length 0 ⟨0, by omega, by omega, rfl, by simp⟩ (by rw [fu_eq]; omega)
  rintro n q ⟨k, hk, rfl, rfl, ha⟩
  by_cases e : k = l.length
  ·refine .inr ⟨true, ?_, fun _ => by rwa [e, List.take_length] at ha⟩
   simp only [gleaninglaw3_FewAll_l0, dec_f (by omega : ¬ (k : Int) < (l.length : Int)), Bool.false_eq_true, if_false]
  ·have hk2 : k < l.length := by omega
   obtain ⟨b, hb, hb2⟩ := few_spec l[k]
   cases b with
   | false =>
    refine .inr ⟨false, ?_, by simp⟩
    simp only [gleaninglaw3_FewAll_l0, dec_t (by omega : (k : Int) < (l.length : Int)), if_true, gd_pos (by omega : (0 : Int) ≤ (k : Int)), Int.toNat_natCast, List.getElem?_eq_getElem hk2, Option.bind_some, hb, Bool.not_false]
   | true =>
    refine .inl ⟨((k + 1 : Nat) : Int), l.length - (k + 1), ?_, by omega, k + 1, by omega, rfl, rfl, fun a h => ?_⟩
    ·simp only [gleaninglaw3_FewAll_l0, dec_t (by omega : (k : Int) < (l.length : Int)), if_true, gd_pos (by omega : (0 : Int) ≤ (k : Int)), Int.toNat_natCast, List.getElem?_eq_getElem hk2, Option.bind_some, hb, Bool.not_true, Bool.false_eq_true, if_false, ksucc (by omega : k < 1099511627776)]
    ·rw [List.take_succ_eq_append_getElem hk2] at h
     rcases List.mem_append.1 h with h | h
     ·exact ha a h
     ·rw [List.mem_singleton.1 h]; exact hb2 rfl
 obtain ⟨b, hb, hb2⟩ := hloop
 refine ⟨b, ?_, fun h => ⟨by omega, hb2 h⟩⟩
 simp only [gleaninglaw3_FewAll, h1, decide_false, Bool.false_eq_true, if_false, hb]
theorem loop_same {α : Type} [DecidableEq α] {body : Int → Option (Int ⊕ Bool)} (a b : List α) (hl : a.length = b.length) (ha : a.length ≤ 1000000000)
  (h : ∀ (k : Nat) (h1 : k < a.length) (h2 : k < b.length), body (k : Int) = if a[k] = b[k] then some (.inl ((k + 1 : Nat) : Int)) else some (.inr false)) (hend : body (a.length : Int) = some (.inr true)) : loopN body Fu 0 = some (decide (a = b)) := by
 refine loop_list (l := a) (fun k r s => s = (k : Int) ∧ a.take k = b.take k ∧ r = decide (a = b)) (by omega) ?_ ?_ ⟨rfl, rfl, rfl⟩
 ·rintro k hk r s ⟨rfl, he, rfl⟩
  have hkb : k < b.length := by omega
  rw [h k hk hkb]
  by_cases hx : a[k] = b[k]
  ·rw [if_pos hx]
   exact .inl ⟨_, rfl, rfl, by rw [List.take_succ_eq_append_getElem hk, List.take_succ_eq_append_getElem hkb, he, hx], rfl⟩
  ·rw [if_neg hx, dec_f (fun e => hx (by subst e; rfl))]
   exact .inr rfl
 ·rintro r s ⟨rfl, he, rfl⟩
  have : a = b := by rw [List.take_length, hl, List.take_length] at he; exact he
  rw [hend, dec_t this]
theorem attr_eq (a b : Attr) : ((ByteArray.toList a.Key == ByteArray.toList b.Key) && ((ByteArray.toList a.Value == ByteArray.toList b.Value) && true)) = decide (a = b) := by
 cases a; cases b
 simp only [Attr.mk.injEq, Bool.and_true, str_beq]
 rw [Bool.eq_iff_iff]; simp
theorem span_ext {a b : Span} (h1 : a.Trace = b.Trace) (h2 : a.Id = b.Id) (h3 : a.Parent = b.Parent) (h4 : a.Service = b.Service) (h5 : a.Op = b.Op) (h6 : a.Start = b.Start) (h7 : a.Dur = b.Dur) (h8 : a.Err = b.Err) (h9 : a.Attrs = b.Attrs) : a = b := by
 cases a; cases b; simp_all
theorem sameSpan_spec (a b : Span) (ha : a.Attrs.length ≤ 1000000) : gleaningref1_SameSpan a b = some (decide (a = b)) := by
 have no : ∀ (p : Prop), p → (a = b → ¬ p) → some false = some (decide (a = b)) := fun p hp h => by rw [dec_f (fun e => h e hp)]
 by_cases h1 : a.Trace = b.Trace
 case neg => rw [← no _ h1 (fun e h => h (by rw [e]))]; simp only [gleaningref1_SameSpan, trace_eq, dec_f h1, Bool.not_false, if_true, Option.bind_some, Sum.elim_inr]
 by_cases h2 : a.Id = b.Id
 case neg => rw [← no _ h2 (fun e h => h (by rw [e]))]; simp [gleaningref1_SameSpan, trace_eq, h1, h2]
 by_cases h3 : a.Parent = b.Parent
 case neg => rw [← no _ h3 (fun e h => h (by rw [e]))]; simp [gleaningref1_SameSpan, trace_eq, h1, h2, h3]
 by_cases h4 : a.Service = b.Service
 case neg => rw [← no _ h4 (fun e h => h (by rw [e]))]; simp [gleaningref1_SameSpan, trace_eq, str_beq, h1, h2, h3, h4]
 by_cases h5 : a.Op = b.Op
 case neg => rw [← no _ h5 (fun e h => h (by rw [e]))]; simp [gleaningref1_SameSpan, trace_eq, str_beq, h1, h2, h3, h4, h5]
 by_cases h6 : a.Start = b.Start
 case neg => rw [← no _ h6 (fun e h => h (by rw [e]))]; simp [gleaningref1_SameSpan, trace_eq, str_beq, h1, h2, h3, h4, h5, h6]
 by_cases h7 : a.Dur = b.Dur
 case neg => rw [← no _ h7 (fun e h => h (by rw [e]))]; simp [gleaningref1_SameSpan, trace_eq, str_beq, h1, h2, h3, h4, h5, h6, h7]
 by_cases h8 : a.Err = b.Err
 case neg => rw [← no _ h8 (fun e h => h (by rw [e]))]; simp [gleaningref1_SameSpan, trace_eq, str_beq, h1, h2, h3, h4, h5, h6, h7, h8]
 by_cases h9 : a.Attrs.length = b.Attrs.length
 case neg =>
  have : ((a.Attrs.length : Int) != (b.Attrs.length : Int)) = true := by simp only [bne_iff_ne, ne_eq]; omega
  rw [← no _ h9 (fun e h => h (by rw [e]))]; simp [gleaningref1_SameSpan, trace_eq, str_beq, h1, h2, h3, h4, h5, h6, h7, h8, this]
 have hloop : gleaningref1_SameSpan_k0 a b = some (decide (a.Attrs = b.Attrs)) := by
  refine loop_same a.Attrs b.Attrs h9 (by omega) (fun k hk hk2 => ?_) ?_
  ·simp only [gleaningref1_SameSpan_l1, dec_t (by omega : (k : Int) < (a.Attrs.length : Int)), if_true, gd_pos (by omega : (0 : Int) ≤ (k : Int)), Int.toNat_natCast, List.getElem?_eq_getElem hk, List.getElem?_eq_getElem hk2, Option.bind_some, attr_eq, ksucc (by omega : k < 1099511627776)]
   by_cases e : a.Attrs[k] = b.Attrs[k]
   ·simp [e]
   ·simp [e]
  ·simp only [gleaningref1_SameSpan_l1, dec_f (by omega : ¬ (a.Attrs.length : Int) < (a.Attrs.length : Int)), Bool.false_eq_true, if_false]
 have hd : decide (a = b) = decide (a.Attrs = b.Attrs) := by
  by_cases e : a.Attrs = b.Attrs
  ·rw [dec_t e, dec_t (span_ext h1 h2 h3 h4 h5 h6 h7 h8 e)]
  ·rw [dec_f e, dec_f (fun e2 => e (by rw [e2]))]
 have e0 : ((a.Attrs.length : Int) != (b.Attrs.length : Int)) = false := by simp [h9]
 rw [hd, ← hloop]
 simp only [gleaningref1_SameSpan, trace_eq, str_beq, h1, h2, h3, h4, h5, h6, h7, h8, e0, decide_true, Bool.and_self, Bool.and_true, Bool.not_true, bne_self_eq_false, beq_self_eq_true, Bool.false_eq_true, if_false, Option.bind_some, Sum.elim_inl]
theorem sameSpans_spec (a b : List Span) (ha : a.length ≤ 1000000) (hs : ∀ s ∈ a, s.Attrs.length ≤ 1000000) : gleaningref1_SameSpans a b = some (decide (a = b)) := by
 by_cases hl : a.length = b.length
 ·have h0 : ((a.length : Int) != (b.length : Int)) = false := by simp [hl]
  rw [gleaningref1_SameSpans, ite_f h0]
  refine loop_same a b hl (by omega) (fun k hk hk2 => ?_) ?_
  ·simp only [gleaningref1_SameSpans_l0, dec_t (by omega : (k : Int) < (a.length : Int)), if_true, gd_pos (by omega : (0 : Int) ≤ (k : Int)), Int.toNat_natCast, List.getElem?_eq_getElem hk, List.getElem?_eq_getElem hk2, Option.bind_some, sameSpan_spec _ _ (hs _ (List.getElem_mem hk)), ksucc (by omega : k < 1099511627776)]
   by_cases e : a[k] = b[k]
   ·simp [e]
   ·simp [e]
  ·simp only [gleaningref1_SameSpans_l0, dec_f (by omega : ¬ (a.length : Int) < (a.length : Int)), Bool.false_eq_true, if_false]
 ·have h0 : ((a.length : Int) != (b.length : Int)) = true := by simp only [bne_iff_ne, ne_eq]; omega
  rw [gleaningref1_SameSpans, ite_t h0, dec_f (by rintro rfl; exact hl rfl)]
end Go.Proofs.YtjklegmimpehlaaGreat.Ab
namespace Go.Proofs.YtjklegmimpehlaaGreat.Ab
open Go Go.RowKit
set_option linter.unusedVariables false
set_option linter.unusedSimpArgs false
def nameB (s : ByteArray) : Bool := decide (1 ≤ s.size) && decide (s.size ≤ 16)
def badAt (l : List Attr) (i : Nat) : Bool := match l[i]? with | none => false | some a => !nameB a.Key || decide (16 < a.Value.size) || (l.take i).any (fun x => decide (x.Key = a.Key))
def attrsOk (l : List Attr) : Bool := !(List.range l.length).any (badAt l)
def rightS (s : Span) : Bool := nameB s.Service && nameB s.Op && decide (0 ≤ s.Start) && decide (s.Start ≤ 1099511627776) && decide (0 ≤ s.Dur) && decide (s.Dur ≤ 1073741824) && decide (s.Attrs.length ≤ 4) && attrsOk s.Attrs
theorem name_spec (s : ByteArray) : span_Name s = some (nameB s) := by
 unfold span_Name nameB
 by_cases h : 1 ≤ s.size
 ·simp only [dec_t (by omega : (1 : Int) ≤ (s.size : Int)), if_true, dec_t h, Bool.true_and]
  congr 2
  exact propext ⟨fun h => by omega, fun h => by omega⟩
 ·simp only [dec_f (by omega : ¬ (1 : Int) ≤ (s.size : Int)), Bool.false_eq_true, if_false, dec_f h, Bool.false_and]
theorem within_spec (n a b : Int) : gleaningref1_Within n a b = some (decide (a ≤ n) && decide (n ≤ b)) := by
 unfold gleaningref1_Within
 by_cases h : a ≤ n
 ·simp [h]
 ·simp [h]
theorem within_name (s : ByteArray) : gleaningref1_Within (s.size : Int) 1 16 = some (nameB s) := by
 rw [within_spec, nameB]
 congr 2
 ·congr 1; exact propext ⟨fun h => by omega, fun h => by omega⟩
 ·congr 1; exact propext ⟨fun h => by omega, fun h => by omega⟩
theorem attrs_spec (l : List Attr) (hl : l.length ≤ 1000000) : span_attrs l = some (attrsOk l && decide (l.length ≤ 4)) := by
 have hc : ∀ (k : Nat) (hk : k < l.length), slices_ContainsFunc_Attr_span_attrs_c1 (l.take k) l[k] = some ((l.take k).any (fun x => decide (x.Key = l[k].Key))) := by
  intro k hk
  obtain ⟨r, h1, h2⟩ := loop_has (body := fun (s : Int) => slices_IndexFunc_Attr_span_attrs_c1_l0 (l.take k) l[k] s) (fun x : Attr => decide (x.Key = l[k].Key)) (l.take k) (by simp; omega) (fun j hj => by
   simp only [slices_IndexFunc_Attr_span_attrs_c1_l0, dec_t (by omega : (j : Int) < ((l.take k).length : Int)), if_true, gd_pos (by omega : (0 : Int) ≤ (j : Int)), Int.toNat_natCast, List.getElem?_eq_getElem hj, Option.bind_some, span_attrs_c1, str_beq, ksuc (by simp at hj; omega : j < 1099511627776)]) (by simp only [slices_IndexFunc_Attr_span_attrs_c1_l0, dec_f (by omega : ¬ ((l.take k).length : Int) < ((l.take k).length : Int)), Bool.false_eq_true, if_false])
  rw [slices_ContainsFunc_Attr_span_attrs_c1, slices_IndexFunc_Attr_span_attrs_c1, h1, Option.bind_some, h2]
 have hloop := loop_write (body := fun (s : Int) => span_attrs_l1 l s) (l := List.range l.length) (badAt l) (fun k => (k : Int)) (.inl ()) (.inr false) (by simp; omega) (fun k hk hb hk2 => by
   have hk' : k < l.length := by simpa using hk
   rw [List.getElem_range] at hk2
   simp only [badAt, List.getElem?_eq_getElem hk', Bool.or_eq_false_iff, Bool.not_eq_false'] at hk2
   simp only [span_attrs_l1, dec_t (by omega : (k : Int) < (l.length : Int)), if_true, gd_pos (by omega : (0 : Int) ≤ (k : Int)), gd_pos (by omega : (k : Int) ≤ (l.length : Int)), Int.toNat_natCast, List.getElem?_eq_getElem hk', Option.bind_some, name_spec, hk2.1.1, Bool.not_true, Bool.false_eq_true, if_false, hc k hk', hk2.2, ksuc (by omega : k < 1099511627776)]
   rw [dec_f (by have := of_decide_eq_false hk2.1.2; omega)]
   rfl) (fun k hk hb hk2 => by
   have hk' : k < l.length := by simpa using hk
   rw [List.getElem_range] at hk2
   simp only [badAt, List.getElem?_eq_getElem hk'] at hk2
   simp only [span_attrs_l1, dec_t (by omega : (k : Int) < (l.length : Int)), if_true, gd_pos (by omega : (0 : Int) ≤ (k : Int)), gd_pos (by omega : (k : Int) ≤ (l.length : Int)), Int.toNat_natCast, List.getElem?_eq_getElem hk', Option.bind_some, name_spec, hc k hk']
   cases h1 : nameB l[k].Key with
   | false => simp
   | true =>
    by_cases h2 : 16 < l[k].Value.size
    ·simp only [dec_t (by omega : (16 : Int) < (l[k].Value.size : Int)), if_true, Bool.not_true, Bool.false_eq_true, if_false]
    ·rw [h1, dec_f h2] at hk2
     simp only [Bool.not_true, Bool.false_or] at hk2
     simp only [dec_f (by omega : ¬ (16 : Int) < (l[k].Value.size : Int)), hk2, Bool.not_true, Bool.false_eq_true, if_false, if_true]) (fun hb => by
   simp only [List.length_range, span_attrs_l1, dec_f (by omega : ¬ (l.length : Int) < (l.length : Int)), Bool.false_eq_true, if_false])
 have e0 : (((0 : Nat) : Int)) = 0 := rfl
 rw [span_attrs, ← e0, hloop, attrsOk]
 cases hb : (List.range l.length).any (badAt l) with
 | true => rfl
 | false =>
  simp only [Bool.false_eq_true, if_false, Option.bind_some, Sum.elim_inl, span_attrs_k0, Bool.not_false, Bool.true_and]
  congr 2
  exact propext ⟨fun h => by omega, fun h => by omega⟩
theorem right_spec (s : Span) : span_Right s = some (rightS s) := by
 unfold span_Right rightS
 rw [name_spec, name_spec]
 simp only [Option.bind_some]
 cases h1 : nameB s.Service
 ·simp
 cases h2 : nameB s.Op
 ·simp
 by_cases h3 : 0 ≤ s.Start
 case neg => simp [h3]
 by_cases h4 : s.Start ≤ 1099511627776
 case neg => simp [h3, h4]
 by_cases h5 : 0 ≤ s.Dur
 case neg => simp [h3, h4, h5]
 by_cases h6 : s.Dur ≤ 1073741824
 case neg => simp [h3, h4, h5, h6]
 by_cases h7 : s.Attrs.length ≤ 4
 case neg =>
  simp [h3, h4, h5, h6, h7]
  intro h; omega
 rw [attrs_spec _ (by omega)]
 simp [h3, h4, h5, h6, h7, (by omega : (s.Attrs.length : Int) ≤ 4)]
theorem xright_spec (s : Span) : gleaningref1_RightSpan s = some (rightS s) := by
 unfold gleaningref1_RightSpan rightS
 rw [within_name, within_name, within_spec, within_spec]
 simp only [Option.bind_some]
 cases h1 : nameB s.Service
 ·simp
 cases h2 : nameB s.Op
 ·simp
 cases h3 : (decide (0 ≤ s.Start) && decide (s.Start ≤ 1099511627776))
 ·simp [h3]
 cases h4 : (decide (0 ≤ s.Dur) && decide (s.Dur ≤ 1073741824))
 ·simp only [Bool.not_true, Bool.false_eq_true, if_false, Bool.not_false, if_true, Option.bind_some, Sum.elim_inr, Bool.true_and, h3]
  rw [h4]; rfl
 by_cases h7 : s.Attrs.length ≤ 4
 case neg =>
  simp only [Bool.not_true, Bool.false_eq_true, if_false, dec_t (by omega : (4 : Int) < (s.Attrs.length : Int)), if_true, Option.bind_some, Sum.elim_inr, dec_f h7, Bool.and_false, Bool.false_and]
 simp only [Bool.not_true, Bool.false_eq_true, if_false, dec_f (by omega : ¬ (4 : Int) < (s.Attrs.length : Int)), Option.bind_some, Sum.elim_inl, dec_t h7, Bool.and_true, Bool.true_and, h3]
 rw [show (decide (0 ≤ s.Dur) && decide (s.Dur ≤ 1073741824)) = true from h4, Bool.true_and]
 have hin : ∀ (k : Nat) (hk : k < s.Attrs.length), gleaningref1_RightSpan_k2 s (k : Int) = some (if (s.Attrs.take k).any (fun x => decide (x.Key = s.Attrs[k].Key)) then .inr false else .inl ((k + 1 : Nat) : Int)) := by
  intro k hk
  rw [gleaningref1_RightSpan_k2]
  have := loop_write (body := fun (q : Int) => gleaningref1_RightSpan_l3 s (k : Int) q) (l := s.Attrs.take k) (fun x => decide (x.Key = s.Attrs[k].Key)) (fun j => (j : Int)) (.inl ((k + 1 : Nat) : Int)) (.inr false) (by simp; omega) (fun j hj hb hj2 => by
    have hjk : j < k := by simp at hj; omega
    have hjl : j < s.Attrs.length := by omega
    rw [List.getElem_take] at hj2
    simp only [gleaningref1_RightSpan_l3, dec_t (by omega : (j : Int) < (k : Int)), if_true, gd_pos (by omega : (0 : Int) ≤ (j : Int)), gd_pos (by omega : (0 : Int) ≤ (k : Int)), Int.toNat_natCast, List.getElem?_eq_getElem hjl, List.getElem?_eq_getElem hk, Option.bind_some, str_beq, hj2, Bool.false_eq_true, if_false, ksuc (by omega : j < 1099511627776)]) (fun j hj hb hj2 => by
    have hjk : j < k := by simp at hj; omega
    have hjl : j < s.Attrs.length := by omega
    rw [List.getElem_take] at hj2
    simp only [gleaningref1_RightSpan_l3, dec_t (by omega : (j : Int) < (k : Int)), if_true, gd_pos (by omega : (0 : Int) ≤ (j : Int)), gd_pos (by omega : (0 : Int) ≤ (k : Int)), Int.toNat_natCast, List.getElem?_eq_getElem hjl, List.getElem?_eq_getElem hk, Option.bind_some, str_beq, hj2]) (fun hb => by
    have : (s.Attrs.take k).length = k := by simp; omega
    simp only [this, gleaningref1_RightSpan_l3, dec_f (by omega : ¬ (k : Int) < (k : Int)), Bool.false_eq_true, if_false, ksuc (by omega : k < 1099511627776)])
  exact this
 rw [gleaningref1_RightSpan_k0]
 have hloop := loop_write (body := fun (q : Int) => gleaningref1_RightSpan_l1 s q) (l := List.range s.Attrs.length) (badAt s.Attrs) (fun k => (k : Int)) true false (by simp; omega) (fun k hk hb hk2 => by
   have hk' : k < s.Attrs.length := by simpa using hk
   rw [List.getElem_range] at hk2
   simp only [badAt, List.getElem?_eq_getElem hk', Bool.or_eq_false_iff, Bool.not_eq_false'] at hk2
   simp only [gleaningref1_RightSpan_l1, dec_t (by omega : (k : Int) < (s.Attrs.length : Int)), if_true, gd_pos (by omega : (0 : Int) ≤ (k : Int)), Int.toNat_natCast, List.getElem?_eq_getElem hk', Option.bind_some, within_name, hk2.1.1, Bool.not_true, Bool.false_eq_true, if_false]
   rw [dec_f (by have := of_decide_eq_false hk2.1.2; omega)]
   simp only [Bool.false_eq_true, if_false, Option.bind_some, Sum.elim_inl, hin k hk', hk2.2]) (fun k hk hb hk2 => by
   have hk' : k < s.Attrs.length := by simpa using hk
   rw [List.getElem_range] at hk2
   simp only [badAt, List.getElem?_eq_getElem hk'] at hk2
   simp only [gleaningref1_RightSpan_l1, dec_t (by omega : (k : Int) < (s.Attrs.length : Int)), if_true, gd_pos (by omega : (0 : Int) ≤ (k : Int)), Int.toNat_natCast, List.getElem?_eq_getElem hk', Option.bind_some, within_name]
   cases h1 : nameB s.Attrs[k].Key with
   | false => simp
   | true =>
    by_cases h2 : 16 < s.Attrs[k].Value.size
    ·simp only [dec_t (by omega : (16 : Int) < (s.Attrs[k].Value.size : Int)), if_true, Bool.not_true, Bool.false_eq_true, if_false, Option.bind_some, Sum.elim_inr]
    ·rw [h1, dec_f h2] at hk2
     simp only [Bool.not_true, Bool.false_or] at hk2
     simp only [dec_f (by omega : ¬ (16 : Int) < (s.Attrs[k].Value.size : Int)), Bool.not_true, Bool.false_eq_true, if_false, Option.bind_some, Sum.elim_inl, hin k hk', hk2, if_true]) (fun hb => by
   simp only [List.length_range, gleaningref1_RightSpan_l1, dec_f (by omega : ¬ (s.Attrs.length : Int) < (s.Attrs.length : Int)), Bool.false_eq_true, if_false])
 have e0 : (((0 : Nat) : Int)) = 0 := rfl
 rw [← e0, hloop, attrsOk]
 cases (List.range s.Attrs.length).any (badAt s.Attrs) <;> rfl
theorem rightS_of {s : Span} (h : rightS s = true) : 1 ≤ s.Service.size ∧ s.Service.size ≤ 16 ∧ s.Op.size ≤ 16 ∧ 0 ≤ s.Start ∧ s.Start ≤ 1099511627776 ∧ 0 ≤ s.Dur ∧ s.Dur ≤ 1073741824 ∧ s.Attrs.length ≤ 4 ∧ ∀ a ∈ s.Attrs, a.Key.size ≤ 16 ∧ a.Value.size ≤ 16 := by
 simp only [rightS, nameB, Bool.and_eq_true, decide_eq_true_eq] at h
 obtain ⟨⟨⟨⟨⟨⟨⟨h1, h2⟩, h3⟩, h4⟩, h5⟩, h6⟩, h7⟩, h8⟩ := h
 refine ⟨h1.1, h1.2, h2.2, h3, h4, h5, h6, h7, fun a ha => ?_⟩
 obtain ⟨i, hi, rfl⟩ := List.getElem_of_mem ha
 have h9 : badAt s.Attrs i = false := by
  cases e : badAt s.Attrs i with
  | false => rfl
  | true =>
   have : (List.range s.Attrs.length).any (badAt s.Attrs) = true := List.any_eq_true.2 ⟨i, by simpa using hi, e⟩
   rw [attrsOk, this] at h8; cases h8
 simp only [badAt, List.getElem?_eq_getElem hi, Bool.or_eq_false_iff, Bool.not_eq_false', nameB, Bool.and_eq_true, decide_eq_true_eq, decide_eq_false_iff_not] at h9
 exact ⟨h9.1.1.2, by have := h9.1.2; omega⟩
def attrsB (l : List Attr) : List UInt8 := l.flatMap fun a => textB a.Key ++ textB a.Value
def spanB (s : Span) : List UInt8 :=
 putN s.Trace.Hi.toNat ++ (putN s.Trace.Lo.toNat ++ (putN s.Id.toNat ++ (putN s.Parent.toNat ++ (textB s.Service ++ (textB s.Op ++ (putN s.Start.toNat ++ (putN s.Dur.toNat ++ (putN (bitI s.Err).toNat ++ (putN s.Attrs.length ++ attrsB s.Attrs)))))))))
def wfS (s : Span) : Prop := isU s.Trace.Hi ∧ isU s.Trace.Lo ∧ isU s.Id ∧ isU s.Parent
theorem attrsB_app (a b : List Attr) : attrsB (a ++ b) = attrsB a ++ attrsB b := by simp [attrsB]
theorem attrsB_le : ∀ (l : List Attr), (∀ a ∈ l, a.Key.size ≤ 16 ∧ a.Value.size ≤ 16) → (attrsB l).length ≤ 52 * l.length
 | [], _ => by simp [attrsB]
 | a :: l, h => by
  have h1 := h a List.mem_cons_self
  have h2 := attrsB_le l fun m hm => h m (List.mem_cons_of_mem _ hm)
  have h3 := textB_le a.Key (by omega)
  have h4 := textB_le a.Value (by omega)
  simp only [attrsB, List.flatMap_cons, List.length_append, List.length_cons] at h2 ⊢; omega
theorem bitU (b : Bool) : 0 ≤ bitI b ∧ bitI b ≤ 1 := by unfold bitI; split <;> omega
theorem putI_le {n : Int} (h : n < 18446744073709551616) : (putN n.toNat).length ≤ 10 := putN_len10 (by omega)
theorem spanB_le {s : Span} (hw : wfS s) (h : rightS s = true) : (spanB s).length ≤ 400 := by
 obtain ⟨h1, h2, h3, h4, h5, h6, h7, h8, h9⟩ := rightS_of h
 obtain ⟨w1, w2, w3, w4⟩ := hw
 have a1 := putI_le w1.2
 have a2 := putI_le w2.2
 have a3 := putI_le w3.2
 have a4 := putI_le w4.2
 have a5 := textB_le s.Service (by omega)
 have a6 := textB_le s.Op (by omega)
 have a7 := putI_le (n := s.Start) (by omega)
 have a8 := putI_le (n := s.Dur) (by omega)
 have a9 := putI_le (n := bitI s.Err) (by have := (bitU s.Err).2; omega)
 have b1 := putN_len10 (n := s.Attrs.length) (by omega)
 have b2 := attrsB_le s.Attrs h9
 simp only [spanB, List.length_append]; omega
theorem spanB_pos (s : Span) : 0 < (spanB s).length := by
 have := putN_pos s.Trace.Hi.toNat
 simp only [spanB, List.length_append]; omega
theorem put_spec (w : Writer) (s : Span) (hw : wfS s) (h : rightS s = true) (hl : w.B.length ≤ 1000000000) : span_Put w s = some ⟨w.B ++ spanB s⟩ := by
 obtain ⟨h1, h2, h3, h4, h5, h6, h7, h8, h9⟩ := rightS_of h
 obtain ⟨w1, w2, w3, w4⟩ := hw
 have u4 : ∀ n ∈ [s.Trace.Hi, s.Trace.Lo, s.Id, s.Parent], isU n := fun n hn => by
  simp only [List.mem_cons, List.not_mem_nil, or_false] at hn
  rcases hn with rfl | rfl | rfl | rfl <;> assumption
 have t2 : ∀ x ∈ [s.Service, s.Op], x.size ≤ 16 := fun x hx => by
  simp only [List.mem_cons, List.not_mem_nil, or_false] at hx
  rcases hx with rfl | rfl <;> omega
 have n2 : ∀ n ∈ [s.Start, s.Dur], 0 ≤ n ∧ n < 9223372036854775808 := fun n hn => by
  simp only [List.mem_cons, List.not_mem_nil, or_false] at hn
  rcases hn with rfl | rfl <;> omega
 have l1 := numsB_le _ u4
 have l2 := textsB_le _ 16 (by omega) t2
 have l3 := numsB_le [s.Start, s.Dur] fun n hn => ⟨(n2 n hn).1, by have := (n2 n hn).2; omega⟩
 have l4 := numsB_le [bitI s.Err] fun n hn => by rw [List.mem_singleton.1 hn]; exact ⟨(bitU _).1, by have := (bitU s.Err).2; omega⟩
 have l5 := numsB_le [(s.Attrs.length : Int)] fun n hn => by rw [List.mem_singleton.1 hn]; exact ⟨by omega, by omega⟩
 simp only [List.length_cons, List.length_nil] at l1 l2 l3 l4 l5
 rw [span_Put, wide_spec _ _ u4 (by simp only [List.length_cons, List.length_nil]; omega), Option.bind_some,
  wtext_spec _ _ 16 (by omega) t2 (by simp only [List.length_cons, List.length_nil, List.length_append]; omega), Option.bind_some,
  num_spec _ _ n2 (by simp only [List.length_cons, List.length_nil, List.length_append]; omega), Option.bind_some,
  flag_spec _ _ (by simp only [List.length_append]; omega), Option.bind_some,
  num_spec _ _ (fun n hn => by rw [List.mem_singleton.1 hn]; omega) (by simp only [List.length_cons, List.length_nil, List.length_append]; omega), Option.bind_some]
 dsimp only
 have hB : w.B ++ spanB s = (w.B ++ numsB [s.Trace.Hi, s.Trace.Lo, s.Id, s.Parent] ++ textsB [s.Service, s.Op] ++ numsB [s.Start, s.Dur] ++ numsB [bitI s.Err] ++ numsB [(s.Attrs.length : Int)]) ++ attrsB s.Attrs := by
  simp [spanB, numsB, textsB]
 rw [hB]
 generalize hC : w.B ++ numsB [s.Trace.Hi, s.Trace.Lo, s.Id, s.Parent] ++ textsB [s.Service, s.Op] ++ numsB [s.Start, s.Dur] ++ numsB [bitI s.Err] ++ numsB [(s.Attrs.length : Int)] = C
 have hCl : C.length ≤ 1000001000 := by rw [← hC]; simp only [List.length_append]; omega
 refine loop_list (l := s.Attrs) (fun k r q => q = (C ++ attrsB (s.Attrs.take k), (k : Int)) ∧ r = ⟨C ++ attrsB s.Attrs⟩) (by omega) ?_ ?_ ⟨by simp [attrsB], rfl⟩
 ·rintro k hk r q ⟨rfl, rfl⟩
  have hm := h9 s.Attrs[k] (List.getElem_mem hk)
  have hle := attrsB_le (s.Attrs.take k) fun y hy => h9 y (List.mem_of_mem_take hy)
  have hle2 : (s.Attrs.take k).length ≤ 4 := by simp; omega
  refine .inl ⟨(C ++ attrsB (s.Attrs.take (k + 1)), ((k + 1 : Nat) : Int)), ?_, rfl, rfl⟩
  simp only [span_Put_l0, dec_t (by omega : (k : Int) < (s.Attrs.length : Int)), if_true, gd_pos (by omega : (0 : Int) ≤ (k : Int)), Int.toNat_natCast, List.getElem?_eq_getElem hk, Option.bind_some]
  rw [wtext_spec _ _ 16 (by omega) (fun x hx => by
   simp only [List.mem_cons, List.not_mem_nil, or_false] at hx
   rcases hx with rfl | rfl <;> omega) (by simp only [List.length_cons, List.length_nil, List.length_append]; omega), Option.bind_some, ksuc (by omega), List.take_succ_eq_append_getElem hk, attrsB_app, List.append_assoc]
  simp [attrsB, textsB]
 ·rintro r q ⟨rfl, rfl⟩
  simp only [span_Put_l0, dec_f (by omega : ¬ (s.Attrs.length : Int) < (s.Attrs.length : Int)), Bool.false_eq_true, if_false, List.take_length]
def bytesS (s : Span) : List UInt8 := if rightS s = true then spanB s else []
end Go.Proofs.YtjklegmimpehlaaGreat.Ab
namespace Go.Proofs.YtjklegmimpehlaaGreat.Ab
open Go Go.RowKit
set_option linter.unusedVariables false
set_option linter.unusedSimpArgs false
def pAttrs : Nat → List UInt8 → Option (List Attr × List UInt8)
 | 0, b => some ([], b)
 | k + 1, b => match pT b with
  | none => none
  | some (x, b1) => match pT b1 with
   | none => none
   | some (v, b2) => match pAttrs k b2 with
    | none => none
    | some (l, r) => some (⟨x, v⟩ :: l, r)
def pSpan (b0 : List UInt8) : Option (Span × List UInt8) := match pW b0 with
 | none => none
 | some (hi, b1) => match pW b1 with
  | none => none
  | some (lo, b2) => match pW b2 with
   | none => none
   | some (id, b3) => match pW b3 with
    | none => none
    | some (pa, b4) => match pT b4 with
     | none => none
     | some (sv, b5) => match pT b5 with
      | none => none
      | some (op, b6) => match pNum 1099511627776 b6 with
       | none => none
       | some (st, b7) => match pNum 1073741824 b7 with
        | none => none
        | some (du, b8) => match pNum 1 b8 with
         | none => none
         | some (er, b9) => match pNum 4 b9 with
          | none => none
          | some (n, b10) => match pAttrs n.toNat b10 with
           | none => none
           | some (l, r) => some (⟨⟨hi, lo⟩, id, pa, sv, op, st, du, er == 1, l⟩, r)
theorem bit_eq (b : Bool) : (bitI b == 1) = b := by cases b <;> rfl
theorem pAttrs_put : ∀ (l : List Attr) (r : List UInt8), (∀ a ∈ l, a.Key.size ≤ 16 ∧ a.Value.size ≤ 16) → pAttrs l.length (attrsB l ++ r) = some (l, r)
 | [], r, _ => by simp [pAttrs, attrsB]
 | a :: l, r, h => by
  have h1 := h a List.mem_cons_self
  have e : attrsB (a :: l) ++ r = textB a.Key ++ (textB a.Value ++ (attrsB l ++ r)) := by simp [attrsB]
  simp only [List.length_cons, pAttrs, e, pT_put a.Key (by omega), pT_put a.Value (by omega), pAttrs_put l r fun x hx => h x (List.mem_cons_of_mem _ hx)]
theorem pSpan_put {s : Span} (hw : wfS s) (h : rightS s = true) (r : List UInt8) : pSpan (spanB s ++ r) = some (s, r) := by
 obtain ⟨h1, h2, h3, h4, h5, h6, h7, h8, h9⟩ := rightS_of h
 obtain ⟨w1, w2, w3, w4⟩ := hw
 have hb := bitU s.Err
 have hn : putN s.Attrs.length = putN (Int.toNat (s.Attrs.length : Int)) := by simp
 unfold pSpan
 simp only [spanB, List.append_assoc, pW_put w1, pW_put w2, pW_put w3, pW_put w4, pT_put s.Service (by omega), pT_put s.Op (by omega), pNum_put h4 h5 (by omega), pNum_put h6 h7 (by omega), pNum_put hb.1 hb.2 (by omega), hn, pNum_put (n := (s.Attrs.length : Int)) (top := 4) (by omega) (by omega) (by omega)]
 simp only [Int.toNat_natCast, pAttrs_put s.Attrs r h9, bit_eq]
theorem attrs_fit {l : List Attr} (h : l.length ≤ 100) : l.length * 32 ≤ 140737488355328 ∧ l.length ≤ 140737488355328 := by omega
theorem get_bad (x : Int × Reader) (acc : List Attr) : ∀ (m i N : Nat), (i : Int) + m = x.1 → m < N → acc.length + m ≤ 50 → i + m ≤ 50 →
  ∃ acc', loopN (fun (s : List UInt8 × Bool × List Attr × Int) => span_Get_l1 x s.1 s.2.1 s.2.2.1 s.2.2.2) N ([], true, acc, (i : Int)) = some ([], true, acc') := by
 intro m
 induction m generalizing acc with
 | zero =>
  intro i N hi hN _ _
  obtain ⟨N', rfl⟩ : ∃ N', N = N' + 1 := ⟨N - 1, by omega⟩
  exact ⟨acc, loop_r (by simp only [span_Get_l1, dec_f (by omega : ¬ (i : Int) < x.1), Bool.false_eq_true, if_false])⟩
 | succ m ih =>
  intro i N hi hN ha hi2
  obtain ⟨N', rfl⟩ : ∃ N', N = N' + 1 := ⟨N - 1, by omega⟩
  obtain ⟨acc', h⟩ := ih (acc ++ [⟨strOf [], strOf []⟩]) (i + 1) N' (by omega) (by omega) (by simp; omega) (by omega)
  refine ⟨acc', ?_⟩
  rw [loop_l (s' := ([], true, acc ++ [⟨strOf [], strOf []⟩], ((i + 1 : Nat) : Int)))]
  ·exact h
  ·simp only [span_Get_l1, dec_t (by omega : (i : Int) < x.1), if_true, rtext_bad, Option.bind_some]
   rw [gd_pos (attrs_fit (by simp; omega)), ksuc (by omega)]
theorem get_attrs (x : Int × Reader) : ∀ (m i N : Nat) (b : List UInt8) (acc : List Attr), (i : Int) + m = x.1 → m < N → acc.length + m ≤ 50 → i + m ≤ 50 → b.length ≤ 1099511627776 →
  (∀ l r, pAttrs m b = some (l, r) → loopN (fun (s : List UInt8 × Bool × List Attr × Int) => span_Get_l1 x s.1 s.2.1 s.2.2.1 s.2.2.2) N (b, false, acc, (i : Int)) = some (r, false, acc ++ l)) ∧
  (pAttrs m b = none → ∃ acc', loopN (fun (s : List UInt8 × Bool × List Attr × Int) => span_Get_l1 x s.1 s.2.1 s.2.2.1 s.2.2.2) N (b, false, acc, (i : Int)) = some ([], true, acc')) := by
 intro m
 induction m with
 | zero =>
  intro i N b acc hi hN _ _ _
  obtain ⟨N', rfl⟩ : ∃ N', N = N' + 1 := ⟨N - 1, by omega⟩
  refine ⟨fun l r h => ?_, fun h => by cases h⟩
  simp only [pAttrs, Option.some.injEq, Prod.mk.injEq] at h
  obtain ⟨rfl, rfl⟩ := h
  exact loop_r (by simp only [span_Get_l1, dec_f (by omega : ¬ (i : Int) < x.1), Bool.false_eq_true, if_false, List.append_nil])
 | succ m ih =>
  intro i N b acc hi hN ha hi2 hb
  obtain ⟨N', rfl⟩ : ∃ N', N = N' + 1 := ⟨N - 1, by omega⟩
  have hfit : ∀ a : Attr, (acc ++ [a]).length * 32 ≤ 140737488355328 ∧ (acc ++ [a]).length ≤ 140737488355328 := fun a => attrs_fit (by simp; omega)
  cases h1 : pT b with
  | none =>
   refine ⟨fun l r h => by simp [pAttrs, h1] at h, fun _ => ?_⟩
   obtain ⟨acc', h⟩ := get_bad x (acc ++ [⟨strOf [], strOf []⟩]) m (i + 1) N' (by omega) (by omega) (by simp; omega) (by omega)
   refine ⟨acc', ?_⟩
   rw [loop_l (s' := ([], true, acc ++ [⟨strOf [], strOf []⟩], ((i + 1 : Nat) : Int)))]
   ·exact h
   ·simp only [span_Get_l1, dec_t (by omega : (i : Int) < x.1), if_true, rtext_no hb h1, Option.bind_some, rtext_bad, gd_pos (hfit _), ksuc (by omega : i < 1099511627776)]
  | some p =>
   obtain ⟨k, b1⟩ := p
   have hb1 := len_of (pT_sound h1) hb
   cases h2 : pT b1 with
   | none =>
    refine ⟨fun l r h => by simp [pAttrs, h1, h2] at h, fun _ => ?_⟩
    obtain ⟨acc', h⟩ := get_bad x (acc ++ [⟨k, strOf []⟩]) m (i + 1) N' (by omega) (by omega) (by simp; omega) (by omega)
    refine ⟨acc', ?_⟩
    rw [loop_l (s' := ([], true, acc ++ [⟨k, strOf []⟩], ((i + 1 : Nat) : Int)))]
    ·exact h
    ·simp only [span_Get_l1, dec_t (by omega : (i : Int) < x.1), if_true, rtext_ok hb h1, Option.bind_some, rtext_no hb1 h2, gd_pos (hfit _), ksuc (by omega : i < 1099511627776)]
   | some p =>
    obtain ⟨v, b2⟩ := p
    have hb2 := len_of (pT_sound h2) hb1
    have hstep : loopN (fun (s : List UInt8 × Bool × List Attr × Int) => span_Get_l1 x s.1 s.2.1 s.2.2.1 s.2.2.2) (N' + 1) (b, false, acc, (i : Int)) = loopN (fun (s : List UInt8 × Bool × List Attr × Int) => span_Get_l1 x s.1 s.2.1 s.2.2.1 s.2.2.2) N' (b2, false, acc ++ [⟨k, v⟩], ((i + 1 : Nat) : Int)) :=
     loop_l (by simp only [span_Get_l1, dec_t (by omega : (i : Int) < x.1), if_true, rtext_ok hb h1, Option.bind_some, rtext_ok hb1 h2, gd_pos (hfit _), ksuc (by omega : i < 1099511627776)])
    obtain ⟨g1, g2⟩ := ih (i + 1) N' b2 (acc ++ [⟨k, v⟩]) (by omega) (by omega) (by simp; omega) (by omega) hb2
    rw [hstep]
    refine ⟨fun l r h => ?_, fun h => ?_⟩
    ·simp only [pAttrs, h1, h2] at h
     split at h
     ·cases h
     ·rename_i l2 r2 h3
      simp only [Option.some.injEq, Prod.mk.injEq] at h
      obtain ⟨rfl, rfl⟩ := h
      rw [g1 _ _ h3]; simp
    ·simp only [pAttrs, h1, h2] at h
     split at h
     ·rename_i h3; exact g2 h3
     ·cases h
theorem getTail (x4 x6 x8 x10 : Int × Reader) (x12 x14 : ByteArray × Reader) (x16 x18 : Int × Reader) (x20 : Bool × Reader) (acc : List Attr) : ∃ s, span_Get_k0 x4 x6 x8 x10 x12 x14 x16 x18 x20 [] true acc = some (s, ⟨[], true⟩) := by
 simp only [span_Get_k0, if_true]
 exact ⟨_, rfl⟩
theorem loop0 (q : Reader) (B : List UInt8) (f : Bool) (acc : List Attr) : loopN (fun (s : List UInt8 × Bool × List Attr × Int) => span_Get_l1 ((0 : Int), q) s.1 s.2.1 s.2.2.1 s.2.2.2) Fu (B, f, acc, 0) = some (B, f, acc) :=
 loop_now (by simp only [span_Get_l1, dec_f (by omega : ¬ (0 : Int) < 0), Bool.false_eq_true, if_false])
theorem get_spec' (b : List UInt8) (hb : b.length ≤ 1099511627776) : match pSpan b with
  | none => ∃ s, span_Get ⟨b, false⟩ = some (s, ⟨[], true⟩)
  | some (s, r) => span_Get ⟨b, false⟩ = some (s, ⟨r, !rightS s⟩) := by
 have T1 : (0 : Int) ≤ 1099511627776 := by omega
 have T2 : (1099511627776 : Int) < 9223372036854775808 := by omega
 have T3 : (0 : Int) ≤ 1073741824 := by omega
 have T4 : (1073741824 : Int) < 9223372036854775808 := by omega
 have T5 : (0 : Int) ≤ 4 := by omega
 have T6 : (4 : Int) < 9223372036854775808 := by omega
 unfold pSpan
 cases h1 : pW b with
 | none => simp only [span_Get, rwide_no hb h1, rwide_bad, rtext_bad, rnum_bad T1 T2, rnum_bad T3 T4, rnum_bad T5 T6, rflag_bad, Option.bind_some, loop0]; exact getTail _ _ _ _ _ _ _ _ _ _
 | some p =>
 obtain ⟨hi, b1⟩ := p
 have hb1 := len_of (pW_sound h1).2 hb
 dsimp only
 cases h2 : pW b1 with
 | none => simp only [span_Get, rwide_ok hb h1, rwide_no hb1 h2, rwide_bad, rtext_bad, rnum_bad T1 T2, rnum_bad T3 T4, rnum_bad T5 T6, rflag_bad, Option.bind_some, loop0]; exact getTail _ _ _ _ _ _ _ _ _ _
 | some p =>
 obtain ⟨lo, b2⟩ := p
 have hb2 := len_of (pW_sound h2).2 hb1
 dsimp only
 cases h3 : pW b2 with
 | none => simp only [span_Get, rwide_ok hb h1, rwide_ok hb1 h2, rwide_no hb2 h3, rwide_bad, rtext_bad, rnum_bad T1 T2, rnum_bad T3 T4, rnum_bad T5 T6, rflag_bad, Option.bind_some, loop0]; exact getTail _ _ _ _ _ _ _ _ _ _
 | some p =>
 obtain ⟨id, b3⟩ := p
 have hb3 := len_of (pW_sound h3).2 hb2
 dsimp only
 cases h4 : pW b3 with
 | none => simp only [span_Get, rwide_ok hb h1, rwide_ok hb1 h2, rwide_ok hb2 h3, rwide_no hb3 h4, rwide_bad, rtext_bad, rnum_bad T1 T2, rnum_bad T3 T4, rnum_bad T5 T6, rflag_bad, Option.bind_some, loop0]; exact getTail _ _ _ _ _ _ _ _ _ _
 | some p =>
 obtain ⟨pa, b4⟩ := p
 have hb4 := len_of (pW_sound h4).2 hb3
 dsimp only
 cases h5 : pT b4 with
 | none => simp only [span_Get, rwide_ok hb h1, rwide_ok hb1 h2, rwide_ok hb2 h3, rwide_ok hb3 h4, rtext_no hb4 h5, rwide_bad, rtext_bad, rnum_bad T1 T2, rnum_bad T3 T4, rnum_bad T5 T6, rflag_bad, Option.bind_some, loop0]; exact getTail _ _ _ _ _ _ _ _ _ _
 | some p =>
 obtain ⟨sv, b5⟩ := p
 have hb5 := len_of (pT_sound h5) hb4
 dsimp only
 cases h6 : pT b5 with
 | none => simp only [span_Get, rwide_ok hb h1, rwide_ok hb1 h2, rwide_ok hb2 h3, rwide_ok hb3 h4, rtext_ok hb4 h5, rtext_no hb5 h6, rwide_bad, rtext_bad, rnum_bad T1 T2, rnum_bad T3 T4, rnum_bad T5 T6, rflag_bad, Option.bind_some, loop0]; exact getTail _ _ _ _ _ _ _ _ _ _
 | some p =>
 obtain ⟨op, b6⟩ := p
 have hb6 := len_of (pT_sound h6) hb5
 dsimp only
 cases h7 : pNum 1099511627776 b6 with
 | none => simp only [span_Get, rwide_ok hb h1, rwide_ok hb1 h2, rwide_ok hb2 h3, rwide_ok hb3 h4, rtext_ok hb4 h5, rtext_ok hb5 h6, rnum_no T1 T2 hb6 h7, rwide_bad, rtext_bad, rnum_bad T1 T2, rnum_bad T3 T4, rnum_bad T5 T6, rflag_bad, Option.bind_some, loop0]; exact getTail _ _ _ _ _ _ _ _ _ _
 | some p =>
 obtain ⟨st, b7⟩ := p
 have hb7 := len_of (pNum_sound h7).2.2 hb6
 dsimp only
 cases h8 : pNum 1073741824 b7 with
 | none => simp only [span_Get, rwide_ok hb h1, rwide_ok hb1 h2, rwide_ok hb2 h3, rwide_ok hb3 h4, rtext_ok hb4 h5, rtext_ok hb5 h6, rnum_ok T1 T2 hb6 h7, rnum_no T3 T4 hb7 h8, rwide_bad, rtext_bad, rnum_bad T1 T2, rnum_bad T3 T4, rnum_bad T5 T6, rflag_bad, Option.bind_some, loop0]; exact getTail _ _ _ _ _ _ _ _ _ _
 | some p =>
 obtain ⟨du, b8⟩ := p
 have hb8 := len_of (pNum_sound h8).2.2 hb7
 dsimp only
 cases h9 : pNum 1 b8 with
 | none => simp only [span_Get, rwide_ok hb h1, rwide_ok hb1 h2, rwide_ok hb2 h3, rwide_ok hb3 h4, rtext_ok hb4 h5, rtext_ok hb5 h6, rnum_ok T1 T2 hb6 h7, rnum_ok T3 T4 hb7 h8, rflag_no hb8 h9, rwide_bad, rtext_bad, rnum_bad T5 T6, Option.bind_some, loop0]; exact getTail _ _ _ _ _ _ _ _ _ _
 | some p =>
 obtain ⟨er, b9⟩ := p
 have hb9 := len_of (pNum_sound h9).2.2 hb8
 dsimp only
 cases h10 : pNum 4 b9 with
 | none => simp only [span_Get, rwide_ok hb h1, rwide_ok hb1 h2, rwide_ok hb2 h3, rwide_ok hb3 h4, rtext_ok hb4 h5, rtext_ok hb5 h6, rnum_ok T1 T2 hb6 h7, rnum_ok T3 T4 hb7 h8, rflag_ok hb8 h9, rnum_no T5 T6 hb9 h10, Option.bind_some, loop0]; exact getTail _ _ _ _ _ _ _ _ _ _
 | some p =>
 obtain ⟨n, b10⟩ := p
 have hn := pNum_sound h10
 have hb10 := len_of hn.2.2 hb9
 dsimp only
 obtain ⟨n', rfl⟩ := Int.eq_ofNat_of_zero_le hn.1.1
 have hn4 : n' ≤ 4 := by have := hn.2.1; omega
 obtain ⟨g1, g2⟩ := get_attrs ((n' : Int), ⟨b10, false⟩) n' 0 Fu b10 [] (by simp) (by rw [fuPos]; omega) (by simp; omega) (by omega) hb10
 simp only [Int.toNat_natCast]
 cases h11 : pAttrs n' b10 with
 | none =>
  obtain ⟨acc, hg⟩ := g2 h11
  simp only [Int.natCast_zero] at hg
  simp only [span_Get, rwide_ok hb h1, rwide_ok hb1 h2, rwide_ok hb2 h3, rwide_ok hb3 h4, rtext_ok hb4 h5, rtext_ok hb5 h6, rnum_ok T1 T2 hb6 h7, rnum_ok T3 T4 hb7 h8, rflag_ok hb8 h9, rnum_ok T5 T6 hb9 h10, Option.bind_some]
  rw [hg, Option.bind_some]
  exact getTail _ _ _ _ _ _ _ _ _ _
 | some p =>
  obtain ⟨l, r⟩ := p
  have hg := g1 _ _ h11
  simp only [Int.natCast_zero] at hg
  simp only [span_Get, rwide_ok hb h1, rwide_ok hb1 h2, rwide_ok hb2 h3, rwide_ok hb3 h4, rtext_ok hb4 h5, rtext_ok hb5 h6, rnum_ok T1 T2 hb6 h7, rnum_ok T3 T4 hb7 h8, rflag_ok hb8 h9, rnum_ok T5 T6 hb9 h10, Option.bind_some]
  rw [hg, Option.bind_some]
  simp only [span_Get_k0, Bool.false_eq_true, if_false, List.nil_append, right_spec, Option.bind_some]
theorem get_yes {b r : List UInt8} {s : Span} (hb : b.length ≤ 1099511627776) (h : pSpan b = some (s, r)) : span_Get ⟨b, false⟩ = some (s, ⟨r, !rightS s⟩) := by
 have := get_spec' b hb; rw [h] at this; exact this
theorem get_not {b : List UInt8} (hb : b.length ≤ 1099511627776) (h : pSpan b = none) : ∃ s, span_Get ⟨b, false⟩ = some (s, ⟨[], true⟩) := by
 have := get_spec' b hb; rw [h] at this; exact this
theorem rwide_badB {b : List UInt8} (hl : b.length ≤ 1099511627776) : ints_Reader_Wide ⟨b, true⟩ = some (0, ⟨[], true⟩) := by
 simp only [ints_Reader_Wide, get_spec b (by omega), Option.bind_some, if_true, ints_Reader_Wide_k1, Sum.elim_inr]
theorem get_lost {b : List UInt8} (hl : b.length ≤ 1099511627776) : ∃ s, span_Get ⟨b, true⟩ = some (s, ⟨[], true⟩) := by
 have T1 : (0 : Int) ≤ 1099511627776 := by omega
 have T2 : (1099511627776 : Int) < 9223372036854775808 := by omega
 have T3 : (0 : Int) ≤ 1073741824 := by omega
 have T4 : (1073741824 : Int) < 9223372036854775808 := by omega
 have T5 : (0 : Int) ≤ 4 := by omega
 have T6 : (4 : Int) < 9223372036854775808 := by omega
 simp only [span_Get, rwide_badB hl, rwide_bad, rtext_bad, rnum_bad T1 T2, rnum_bad T3 T4, rnum_bad T5 T6, rflag_bad, Option.bind_some, loop0]
 exact getTail _ _ _ _ _ _ _ _ _ _
def readS (b : List UInt8) : Option (Span × List UInt8) := match pSpan b with | none => none | some (s, r) => if rightS s = true then some (s, r) else none
def zeroS : Span := ⟨⟨0, 0⟩, 0, 0, strOf [], strOf [], 0, 0, false, []⟩
def readR (b : List UInt8) : Span × Int × Int := match readS b with | none => (zeroS, 0, 2) | some (s, r) => (s, ((b.length - r.length : Nat) : Int), 0)
end Go.Proofs.YtjklegmimpehlaaGreat.Ab
