/- Spans and loops, told plainly: few and small ones; which may be. -/
import Derived.Test.YtmompdklolomfaaXSpan1
import Derived.Test.YtmompdklolomfaaPKit
namespace Go.Proofs.Ytmompdklolomfaa.Ab
open Go Go.RowKit
set_option linter.unusedVariables false
set_option linter.unusedSimpArgs false
theorem fuPos : Fu = 1208925819614629174706175 + 1 := rfl
theorem ksuc {k : Nat} (h : k < 1099511627776) : IntKind.i64.wrap ((k : Int) + 1) = ((k + 1 : Nat) : Int) := by rw [w64 (by omega) (by omega)]; push_cast; rfl
theorem loop_ex {σ ρ : Type} {body : σ → Option (σ ⊕ ρ)} (I : Nat → σ → Prop) (R : ρ → Prop) (step : ∀ n s, I n s → (∃ s' m, body s = some (.inl s') ∧ m < n ∧ I m s') ∨ ∃ r, body s = some (.inr r) ∧ R r) :
  ∀ (n N : Nat) (s : σ), I n s → n < N → ∃ r, loopN body N s = some r ∧ R r := by
 intro n
 induction n using Nat.strongRecOn with
 | _ n ih =>
  intro N s hI hN
  obtain ⟨N, rfl⟩ : ∃ M, N = M + 1 := ⟨N - 1, by omega⟩
  rcases step n s hI with ⟨s', m, h1, h2, h3⟩ | ⟨r, h1, h2⟩
  ·rw [loop_l h1]; exact ih m h2 N s' h3 (by omega)
  ·exact ⟨r, loop_r h1, h2⟩
theorem loop_exF {σ ρ : Type} {body : σ → Option (σ ⊕ ρ)} (I : Nat → σ → Prop) (R : ρ → Prop) (step : ∀ n s, I n s → (∃ s' m, body s = some (.inl s') ∧ m < n ∧ I m s') ∨ ∃ r, body s = some (.inr r) ∧ R r)
  {n : Nat} {s : σ} (h : I n s) (hn : n ≤ 1000000000) : ∃ r, loopN body Fu s = some r ∧ R r := loop_ex I R step n Fu s h (by unfold Fu; omega)
theorem idx_ex {ρ : Type} {body : Int → Option (Int ⊕ ρ)} (L : Nat) (hL : L ≤ 1000000000) (R : ρ → Prop) (step : ∀ i : Nat, i < L → body (i : Int) = some (.inl ((i : Int) + 1)) ∨ ∃ r, body (i : Int) = some (.inr r) ∧ R r)
  (fin : ∃ r, body (L : Int) = some (.inr r) ∧ R r) : ∃ r, loopN body Fu 0 = some r ∧ R r := by
 refine loop_exF (fun n v => ∃ i : Nat, v = (i : Int) ∧ i + n = L) R ?_ (n := L) ⟨0, rfl, by omega⟩ hL
 rintro n v ⟨i, rfl, hn⟩
 by_cases hi : i < L
 ·rcases step i hi with h | h
  ·exact .inl ⟨_, n - 1, h, by omega, i + 1, by omega, by omega⟩
  ·exact .inr h
 ·obtain rfl : i = L := by omega
  exact .inr fin
theorem idxS_ex {σ ρ : Type} {body : σ × Int → Option ((σ × Int) ⊕ ρ)} (L : Nat) (hL : L ≤ 1000000000) (J : Nat → σ → Prop) (R : ρ → Prop)
  (step : ∀ (i : Nat) (s : σ), i < L → J i s → (∃ s', body (s, (i : Int)) = some (.inl (s', (i : Int) + 1)) ∧ J (i + 1) s') ∨ ∃ r, body (s, (i : Int)) = some (.inr r) ∧ R r)
  (fin : ∀ s, J L s → ∃ r, body (s, (L : Int)) = some (.inr r) ∧ R r) {s0 : σ} (h0 : J 0 s0) : ∃ r, loopN body Fu (s0, 0) = some r ∧ R r := by
 refine loop_exF (fun n v => ∃ i : Nat, v.2 = (i : Int) ∧ i + n = L ∧ J i v.1) R ?_ (n := L) ⟨0, rfl, by omega, h0⟩ hL
 rintro n ⟨s, v⟩ ⟨i, hv, hn, hJ⟩
 obtain rfl : v = (i : Int) := hv
 by_cases hi : i < L
 ·rcases step i s hi hJ with ⟨s', h, hJ'⟩ | h
  ·exact .inl ⟨_, n - 1, h, by omega, i + 1, by simp, by omega, hJ'⟩
  ·exact .inr h
 ·obtain rfl : i = L := by omega
  exact .inr (fin s hJ)
theorem w1 {i : Nat} (h : i ≤ 1000000000) : IntKind.i64.wrap ((i : Int) + 1) = (i : Int) + 1 := w64 (by omega) (by omega)
theorem get_ex {α : Type} {l : List α} {i : Nat} (h : i < l.length) : ∃ x, l[Int.toNat (i : Int)]? = some x ∧ x ∈ l := ⟨l[i], by simp [h], List.getElem_mem h⟩
theorem fit {n k : Nat} (h : n ≤ 1000000) (hk : k ≤ 1000) : n * k ≤ 140737488355328 ∧ n ≤ 140737488355328 := ⟨Nat.le_trans (Nat.mul_le_mul h hk) (by omega), by omega⟩
theorem ksucc {k : Nat} (h : k < 1099511627776) : IntKind.i64.wrap ((k : Int) + 1) = ((k + 1 : Nat) : Int) := by rw [w64 (by omega) (by omega)]; push_cast; rfl
def smallS (s : Span) : Prop := s.Service.size ≤ 100 ∧ s.Op.size ≤ 100 ∧ s.Attrs.length ≤ 20 ∧ ∀ a ∈ s.Attrs, a.Key.size ≤ 100 ∧ a.Value.size ≤ 100
theorem few_spec (s : Span) : ∃ b, gleaninglaw3_Few s = some b ∧ (b = true → smallS s) := by
 by_cases h1 : (100 : Int) < (s.Service.size : Int)
 ·exact ⟨false, by simp [gleaninglaw3_Few, h1], by simp⟩
 by_cases h2 : (100 : Int) < (s.Op.size : Int)
 ·exact ⟨false, by simp [gleaninglaw3_Few, h1, h2], by simp⟩
 by_cases h3 : (20 : Int) < (s.Attrs.length : Int)
 ·exact ⟨false, by simp [gleaninglaw3_Few, h1, h2, h3], by simp⟩
 have hloop : ∃ b, loopN (fun (q : Int) => gleaninglaw3_Few_l1 s q) Fu 0 = some b ∧ (b = true → ∀ a ∈ s.Attrs, a.Key.size ≤ 100 ∧ a.Value.size ≤ 100) := by
  refine loop_inv (fun n (q : Int) => ∃ k : Nat, k ≤ s.Attrs.length ∧ n = s.Attrs.length - k ∧ q = (k : Int) ∧ ∀ a ∈ s.Attrs.take k, a.Key.size ≤ 100 ∧ a.Value.size ≤ 100) _ ?_ Fu s.Attrs.length 0 ⟨0, by omega, by omega, rfl, by simp⟩ (by rw [fu_eq]; omega)
  rintro n q ⟨k, hk, rfl, rfl, ha⟩
  by_cases e : k = s.Attrs.length
  ·refine .inr ⟨true, ?_, fun _ => by rwa [e, List.take_length] at ha⟩
   simp only [gleaninglaw3_Few_l1, dec_f (by omega : ¬ (k : Int) < (s.Attrs.length : Int)), Bool.false_eq_true, if_false]
  ·have hk2 : k < s.Attrs.length := by omega
   by_cases e1 : (100 : Int) < (s.Attrs[k].Key.size : Int)
   ·refine .inr ⟨false, ?_, by simp⟩
    simp only [gleaninglaw3_Few_l1, dec_t (by omega : (k : Int) < (s.Attrs.length : Int)), if_true, gd_pos (by omega : (0 : Int) ≤ (k : Int)), Int.toNat_natCast, List.getElem?_eq_getElem hk2, Option.bind_some, dec_t e1]
   by_cases e2 : (100 : Int) < (s.Attrs[k].Value.size : Int)
   ·refine .inr ⟨false, ?_, by simp⟩
    simp only [gleaninglaw3_Few_l1, dec_t (by omega : (k : Int) < (s.Attrs.length : Int)), if_true, gd_pos (by omega : (0 : Int) ≤ (k : Int)), Int.toNat_natCast, List.getElem?_eq_getElem hk2, Option.bind_some, dec_f e1, Bool.false_eq_true, if_false, dec_t e2]
   refine .inl ⟨((k + 1 : Nat) : Int), s.Attrs.length - (k + 1), ?_, by omega, k + 1, by omega, rfl, rfl, fun a h => ?_⟩
   ·simp only [gleaninglaw3_Few_l1, dec_t (by omega : (k : Int) < (s.Attrs.length : Int)), if_true, gd_pos (by omega : (0 : Int) ≤ (k : Int)), Int.toNat_natCast, List.getElem?_eq_getElem hk2, Option.bind_some, dec_f e1, Bool.false_eq_true, if_false, dec_f e2, ksucc (by omega : k < 1099511627776)]
   ·rw [List.take_succ_eq_append_getElem hk2] at h
    rcases List.mem_append.1 h with h | h
    ·exact ha a h
    ·rw [List.mem_singleton.1 h]; omega
 obtain ⟨b, hb, hb2⟩ := hloop
 refine ⟨b, ?_, fun h => ⟨by omega, by omega, by omega, hb2 h⟩⟩
 simp only [gleaninglaw3_Few, h1, h2, h3, decide_false, Bool.false_eq_true, if_false, Option.bind_some, Sum.elim_inl, gleaninglaw3_Few_k0, hb]
theorem fewAll_spec (l : List Span) : ∃ b, gleaninglaw3_FewAll l = some b ∧ (b = true → l.length ≤ 60 ∧ ∀ s ∈ l, smallS s) := by
 by_cases h1 : (60 : Int) < (l.length : Int)
 ·exact ⟨false, by simp [gleaninglaw3_FewAll, h1], by simp⟩
 have hloop : ∃ b, loopN (fun (q : Int) => gleaninglaw3_FewAll_l0 l q) Fu 0 = some b ∧ (b = true → ∀ s ∈ l, smallS s) := by
  refine loop_inv (fun n (q : Int) => ∃ k : Nat, k ≤ l.length ∧ n = l.length - k ∧ q = (k : Int) ∧ ∀ a ∈ l.take k, smallS a) _ ?_ Fu l.length 0 ⟨0, by omega, by omega, rfl, by simp⟩ (by rw [fu_eq]; omega)
  rintro n q ⟨k, hk, rfl, rfl, ha⟩
  by_cases e : k = l.length
  ·refine .inr ⟨true, ?_, fun _ => by rwa [e, List.take_length] at ha⟩
   simp only [gleaninglaw3_FewAll_l0, dec_f (by omega : ¬ (k : Int) < (l.length : Int)), Bool.false_eq_true, if_false]
  ·have hk2 : k < l.length := by omega
   obtain ⟨b, hb, hb2⟩ := few_spec l[k]
   cases b with
   | false =>
    refine .inr ⟨false, ?_, by simp⟩
    simp only [gleaninglaw3_FewAll_l0, dec_t (by omega : (k : Int) < (l.length : Int)), if_true, gd_pos (by omega : (0 : Int) ≤ (k : Int)), Int.toNat_natCast, List.getElem?_eq_getElem hk2, Option.bind_some, hb, Bool.not_false]
   | true =>
    refine .inl ⟨((k + 1 : Nat) : Int), l.length - (k + 1), ?_, by omega, k + 1, by omega, rfl, rfl, fun a h => ?_⟩
    ·simp only [gleaninglaw3_FewAll_l0, dec_t (by omega : (k : Int) < (l.length : Int)), if_true, gd_pos (by omega : (0 : Int) ≤ (k : Int)), Int.toNat_natCast, List.getElem?_eq_getElem hk2, Option.bind_some, hb, Bool.not_true, Bool.false_eq_true, if_false, ksucc (by omega : k < 1099511627776)]
    ·rw [List.take_succ_eq_append_getElem hk2] at h
     rcases List.mem_append.1 h with h | h
     ·exact ha a h
     ·rw [List.mem_singleton.1 h]; exact hb2 rfl
 obtain ⟨b, hb, hb2⟩ := hloop
 refine ⟨b, ?_, fun h => ⟨by omega, hb2 h⟩⟩
 simp only [gleaninglaw3_FewAll, h1, decide_false, Bool.false_eq_true, if_false, hb]
def nameB (s : ByteArray) : Bool := decide (1 ≤ s.size) && decide (s.size ≤ 16)
def badAt (l : List Attr) (i : Nat) : Bool := match l[i]? with | none => false | some a => !nameB a.Key || decide (16 < a.Value.size) || (l.take i).any (fun x => decide (x.Key = a.Key))
def attrsOk (l : List Attr) : Bool := !(List.range l.length).any (badAt l)
def rightS (s : Span) : Bool := nameB s.Service && nameB s.Op && decide (0 ≤ s.Start) && decide (s.Start ≤ 1099511627776) && decide (0 ≤ s.Dur) && decide (s.Dur ≤ 1073741824) && decide (s.Attrs.length ≤ 4) && attrsOk s.Attrs
theorem name_spec (s : ByteArray) : span_Name s = some (nameB s) := by
 unfold span_Name nameB
 by_cases h : 1 ≤ s.size
 ·simp only [dec_t (by omega : (1 : Int) ≤ (s.size : Int)), if_true, dec_t h, Bool.true_and]
  congr 2
  exact propext ⟨fun h => by omega, fun h => by omega⟩
 ·simp only [dec_f (by omega : ¬ (1 : Int) ≤ (s.size : Int)), Bool.false_eq_true, if_false, dec_f h, Bool.false_and]
theorem within_spec (n a b : Int) : gleaningref1_Within n a b = some (decide (a ≤ n) && decide (n ≤ b)) := by
 unfold gleaningref1_Within
 by_cases h : a ≤ n
 ·simp [h]
 ·simp [h]
theorem within_name (s : ByteArray) : gleaningref1_Within (s.size : Int) 1 16 = some (nameB s) := by
 rw [within_spec, nameB]
 congr 2
 ·congr 1; exact propext ⟨fun h => by omega, fun h => by omega⟩
 ·congr 1; exact propext ⟨fun h => by omega, fun h => by omega⟩
theorem attrs_spec (l : List Attr) (hl : l.length ≤ 1000000) : span_attrs l = some (attrsOk l && decide (l.length ≤ 4)) := by
 have hc : ∀ (k : Nat) (hk : k < l.length), slices_ContainsFunc_Attr_span_attrs_c1 (l.take k) l[k] = some ((l.take k).any (fun x => decide (x.Key = l[k].Key))) := by
  intro k hk
  obtain ⟨r, h1, h2⟩ := loop_has (body := fun (s : Int) => slices_IndexFunc_Attr_span_attrs_c1_l0 (l.take k) l[k] s) (fun x : Attr => decide (x.Key = l[k].Key)) (l.take k) (by simp; omega) (fun j hj => by
   simp only [slices_IndexFunc_Attr_span_attrs_c1_l0, dec_t (by omega : (j : Int) < ((l.take k).length : Int)), if_true, gd_pos (by omega : (0 : Int) ≤ (j : Int)), Int.toNat_natCast, List.getElem?_eq_getElem hj, Option.bind_some, span_attrs_c1, str_beq, ksuc (by simp at hj; omega : j < 1099511627776)]) (by simp only [slices_IndexFunc_Attr_span_attrs_c1_l0, dec_f (by omega : ¬ ((l.take k).length : Int) < ((l.take k).length : Int)), Bool.false_eq_true, if_false])
  rw [slices_ContainsFunc_Attr_span_attrs_c1, slices_IndexFunc_Attr_span_attrs_c1, h1, Option.bind_some, h2]
 have hloop := loop_write (body := fun (s : Int) => span_attrs_l1 l s) (l := List.range l.length) (badAt l) (fun k => (k : Int)) (.inl ()) (.inr false) (by simp; omega) (fun k hk hb hk2 => by
   have hk' : k < l.length := by simpa using hk
   rw [List.getElem_range] at hk2
   simp only [badAt, List.getElem?_eq_getElem hk', Bool.or_eq_false_iff, Bool.not_eq_false'] at hk2
   simp only [span_attrs_l1, dec_t (by omega : (k : Int) < (l.length : Int)), if_true, gd_pos (by omega : (0 : Int) ≤ (k : Int)), gd_pos (by omega : (k : Int) ≤ (l.length : Int)), Int.toNat_natCast, List.getElem?_eq_getElem hk', Option.bind_some, name_spec, hk2.1.1, Bool.not_true, Bool.false_eq_true, if_false, hc k hk', hk2.2, ksuc (by omega : k < 1099511627776)]
   rw [dec_f (by have := of_decide_eq_false hk2.1.2; omega)]
   rfl) (fun k hk hb hk2 => by
   have hk' : k < l.length := by simpa using hk
   rw [List.getElem_range] at hk2
   simp only [badAt, List.getElem?_eq_getElem hk'] at hk2
   simp only [span_attrs_l1, dec_t (by omega : (k : Int) < (l.length : Int)), if_true, gd_pos (by omega : (0 : Int) ≤ (k : Int)), gd_pos (by omega : (k : Int) ≤ (l.length : Int)), Int.toNat_natCast, List.getElem?_eq_getElem hk', Option.bind_some, name_spec, hc k hk']
   cases h1 : nameB l[k].Key with
   | false => simp
   | true =>
    by_cases h2 : 16 < l[k].Value.size
    ·simp only [dec_t (by omega : (16 : Int) < (l[k].Value.size : Int)), if_true, Bool.not_true, Bool.false_eq_true, if_false]
    ·rw [h1, dec_f h2] at hk2
     simp only [Bool.not_true, Bool.false_or] at hk2
     simp only [dec_f (by omega : ¬ (16 : Int) < (l[k].Value.size : Int)), hk2, Bool.not_true, Bool.false_eq_true, if_false, if_true]) (fun hb => by
   simp only [List.length_range, span_attrs_l1, dec_f (by omega : ¬ (l.length : Int) < (l.length : Int)), Bool.false_eq_true, if_false])
 have e0 : (((0 : Nat) : Int)) = 0 := rfl
 rw [span_attrs, ← e0, hloop, attrsOk]
 cases hb : (List.range l.length).any (badAt l) with
 | true => rfl
 | false =>
  simp only [Bool.false_eq_true, if_false, Option.bind_some, Sum.elim_inl, span_attrs_k0, Bool.not_false, Bool.true_and]
  congr 2
  exact propext ⟨fun h => by omega, fun h => by omega⟩
theorem right_spec (s : Span) : span_Right s = some (rightS s) := by
 unfold span_Right rightS
 rw [name_spec, name_spec]
 simp only [Option.bind_some]
 cases h1 : nameB s.Service
 ·simp
 cases h2 : nameB s.Op
 ·simp
 by_cases h3 : 0 ≤ s.Start
 case neg => simp [h3]
 by_cases h4 : s.Start ≤ 1099511627776
 case neg => simp [h3, h4]
 by_cases h5 : 0 ≤ s.Dur
 case neg => simp [h3, h4, h5]
 by_cases h6 : s.Dur ≤ 1073741824
 case neg => simp [h3, h4, h5, h6]
 by_cases h7 : s.Attrs.length ≤ 4
 case neg =>
  simp [h3, h4, h5, h6, h7]
  intro h; omega
 rw [attrs_spec _ (by omega)]
 simp [h3, h4, h5, h6, h7, (by omega : (s.Attrs.length : Int) ≤ 4)]
theorem xright_spec (s : Span) : gleaningref1_RightSpan s = some (rightS s) := by
 unfold gleaningref1_RightSpan rightS
 rw [within_name, within_name, within_spec, within_spec]
 simp only [Option.bind_some]
 cases h1 : nameB s.Service
 ·simp
 cases h2 : nameB s.Op
 ·simp
 cases h3 : (decide (0 ≤ s.Start) && decide (s.Start ≤ 1099511627776))
 ·simp [h3]
 cases h4 : (decide (0 ≤ s.Dur) && decide (s.Dur ≤ 1073741824))
 ·simp only [Bool.not_true, Bool.false_eq_true, if_false, Bool.not_false, if_true, Option.bind_some, Sum.elim_inr, Bool.true_and, h3]
  rw [h4]; rfl
 by_cases h7 : s.Attrs.length ≤ 4
 case neg =>
  simp only [Bool.not_true, Bool.false_eq_true, if_false, dec_t (by omega : (4 : Int) < (s.Attrs.length : Int)), if_true, Option.bind_some, Sum.elim_inr, dec_f h7, Bool.and_false, Bool.false_and]
 simp only [Bool.not_true, Bool.false_eq_true, if_false, dec_f (by omega : ¬ (4 : Int) < (s.Attrs.length : Int)), Option.bind_some, Sum.elim_inl, dec_t h7, Bool.and_true, Bool.true_and, h3]
 rw [show (decide (0 ≤ s.Dur) && decide (s.Dur ≤ 1073741824)) = true from h4, Bool.true_and]
 have hin : ∀ (k : Nat) (hk : k < s.Attrs.length), gleaningref1_RightSpan_k2 s (k : Int) = some (if (s.Attrs.take k).any (fun x => decide (x.Key = s.Attrs[k].Key)) then .inr false else .inl ((k + 1 : Nat) : Int)) := by
  intro k hk
  rw [gleaningref1_RightSpan_k2]
  have := loop_write (body := fun (q : Int) => gleaningref1_RightSpan_l3 s (k : Int) q) (l := s.Attrs.take k) (fun x => decide (x.Key = s.Attrs[k].Key)) (fun j => (j : Int)) (.inl ((k + 1 : Nat) : Int)) (.inr false) (by simp; omega) (fun j hj hb hj2 => by
    have hjk : j < k := by simp at hj; omega
    have hjl : j < s.Attrs.length := by omega
    rw [List.getElem_take] at hj2
    simp only [gleaningref1_RightSpan_l3, dec_t (by omega : (j : Int) < (k : Int)), if_true, gd_pos (by omega : (0 : Int) ≤ (j : Int)), gd_pos (by omega : (0 : Int) ≤ (k : Int)), Int.toNat_natCast, List.getElem?_eq_getElem hjl, List.getElem?_eq_getElem hk, Option.bind_some, str_beq, hj2, Bool.false_eq_true, if_false, ksuc (by omega : j < 1099511627776)]) (fun j hj hb hj2 => by
    have hjk : j < k := by simp at hj; omega
    have hjl : j < s.Attrs.length := by omega
    rw [List.getElem_take] at hj2
    simp only [gleaningref1_RightSpan_l3, dec_t (by omega : (j : Int) < (k : Int)), if_true, gd_pos (by omega : (0 : Int) ≤ (j : Int)), gd_pos (by omega : (0 : Int) ≤ (k : Int)), Int.toNat_natCast, List.getElem?_eq_getElem hjl, List.getElem?_eq_getElem hk, Option.bind_some, str_beq, hj2]) (fun hb => by
    have : (s.Attrs.take k).length = k := by simp; omega
    simp only [this, gleaningref1_RightSpan_l3, dec_f (by omega : ¬ (k : Int) < (k : Int)), Bool.false_eq_true, if_false, ksuc (by omega : k < 1099511627776)])
  exact this
 rw [gleaningref1_RightSpan_k0]
 have hloop := loop_write (body := fun (q : Int) => gleaningref1_RightSpan_l1 s q) (l := List.range s.Attrs.length) (badAt s.Attrs) (fun k => (k : Int)) true false (by simp; omega) (fun k hk hb hk2 => by
   have hk' : k < s.Attrs.length := by simpa using hk
   rw [List.getElem_range] at hk2
   simp only [badAt, List.getElem?_eq_getElem hk', Bool.or_eq_false_iff, Bool.not_eq_false'] at hk2
   simp only [gleaningref1_RightSpan_l1, dec_t (by omega : (k : Int) < (s.Attrs.length : Int)), if_true, gd_pos (by omega : (0 : Int) ≤ (k : Int)), Int.toNat_natCast, List.getElem?_eq_getElem hk', Option.bind_some, within_name, hk2.1.1, Bool.not_true, Bool.false_eq_true, if_false]
   rw [dec_f (by have := of_decide_eq_false hk2.1.2; omega)]
   simp only [Bool.false_eq_true, if_false, Option.bind_some, Sum.elim_inl, hin k hk', hk2.2]) (fun k hk hb hk2 => by
   have hk' : k < s.Attrs.length := by simpa using hk
   rw [List.getElem_range] at hk2
   simp only [badAt, List.getElem?_eq_getElem hk'] at hk2
   simp only [gleaningref1_RightSpan_l1, dec_t (by omega : (k : Int) < (s.Attrs.length : Int)), if_true, gd_pos (by omega : (0 : Int) ≤ (k : Int)), Int.toNat_natCast, List.getElem?_eq_getElem hk', Option.bind_some, within_name]
   cases h1 : nameB s.Attrs[k].Key with
   | false => simp
   | true =>
    by_cases h2 : 16 < s.Attrs[k].Value.size
    ·simp only [dec_t (by omega : (16 : Int) < (s.Attrs[k].Value.size : Int)), if_true, Bool.not_true, Bool.false_eq_true, if_false, Option.bind_some, Sum.elim_inr]
    ·rw [h1, dec_f h2] at hk2
     simp only [Bool.not_true, Bool.false_or] at hk2
     simp only [dec_f (by omega : ¬ (16 : Int) < (s.Attrs[k].Value.size : Int)), Bool.not_true, Bool.false_eq_true, if_false, Option.bind_some, Sum.elim_inl, hin k hk', hk2, if_true]) (fun hb => by
   simp only [List.length_range, gleaningref1_RightSpan_l1, dec_f (by omega : ¬ (s.Attrs.length : Int) < (s.Attrs.length : Int)), Bool.false_eq_true, if_false])
 have e0 : (((0 : Nat) : Int)) = 0 := rfl
 rw [← e0, hloop, attrsOk]
 cases (List.range s.Attrs.length).any (badAt s.Attrs) <;> rfl
theorem rightS_of {s : Span} (h : rightS s = true) : 1 ≤ s.Service.size ∧ s.Service.size ≤ 16 ∧ s.Op.size ≤ 16 ∧ 0 ≤ s.Start ∧ s.Start ≤ 1099511627776 ∧ 0 ≤ s.Dur ∧ s.Dur ≤ 1073741824 ∧ s.Attrs.length ≤ 4 ∧ ∀ a ∈ s.Attrs, a.Key.size ≤ 16 ∧ a.Value.size ≤ 16 := by
 simp only [rightS, nameB, Bool.and_eq_true, decide_eq_true_eq] at h
 obtain ⟨⟨⟨⟨⟨⟨⟨h1, h2⟩, h3⟩, h4⟩, h5⟩, h6⟩, h7⟩, h8⟩ := h
 refine ⟨h1.1, h1.2, h2.2, h3, h4, h5, h6, h7, fun a ha => ?_⟩
 obtain ⟨i, hi, rfl⟩ := List.getElem_of_mem ha
 have h9 : badAt s.Attrs i = false := by
  cases e : badAt s.Attrs i with
  | false => rfl
  | true =>
   have : (List.range s.Attrs.length).any (badAt s.Attrs) = true := List.any_eq_true.2 ⟨i, by simpa using hi, e⟩
   rw [attrsOk, this] at h8; cases h8
 simp only [badAt, List.getElem?_eq_getElem hi, Bool.or_eq_false_iff, Bool.not_eq_false', nameB, Bool.and_eq_true, decide_eq_true_eq, decide_eq_false_iff_not] at h9
 exact ⟨h9.1.1.2, by have := h9.1.2; omega⟩
theorem sall_spec (l : List Span) (hl : l.length ≤ 1000000) : span_All l = some (l.all rightS) := by
 obtain ⟨v, g1, g2⟩ := loop_has (body := fun (q : Int) => slices_IndexFunc_Span_span_All_c1_l0 l q) (fun s => !rightS s) l (by omega) (fun j hj => by
  simp only [slices_IndexFunc_Span_span_All_c1_l0, dec_t (by omega : (j : Int) < (l.length : Int)), if_true, gd_pos (by omega : (0 : Int) ≤ (j : Int)), Int.toNat_natCast, List.getElem?_eq_getElem hj, Option.bind_some, span_All_c1, right_spec, ksuc (by omega : j < 1099511627776)]) (by simp only [slices_IndexFunc_Span_span_All_c1_l0, dec_f (by omega : ¬ (l.length : Int) < (l.length : Int)), Bool.false_eq_true, if_false])
 rw [span_All, slices_ContainsFunc_Span_span_All_c1, slices_IndexFunc_Span_span_All_c1, g1, Option.bind_some, g2, Option.bind_some]
 congr 1
 rw [Bool.eq_iff_iff]; simp
theorem rightSpans_spec (l : List Span) (hl : l.length ≤ 100000) : gleaningref1_RightSpans l = some (l.all rightS) := by
 have h := loop_exF (body := fun (v : Int) => gleaningref1_RightSpans_l0 l v) (fun n v => ∃ i : Nat, v = (i : Int) ∧ i + n = l.length ∧ ∀ x ∈ l.take i, rightS x = true) (fun r => r = l.all rightS) ?_ (n := l.length) (s := 0) ⟨0, rfl, by omega, by simp⟩ (by omega)
 ·obtain ⟨r, h, rfl⟩ := h
  exact h
 ·rintro n v ⟨i, rfl, hn, ha⟩
  simp only [gleaningref1_RightSpans_l0]
  by_cases hi : i < l.length
  ·obtain ⟨x, hx, hm⟩ := get_ex hi
   rw [ite_t (dec_t (by omega)), gd_pos (by omega), hx, Option.bind_some, xright_spec, Option.bind_some, w1 (by omega)]
   cases hr : rightS x with
   | false => exact .inr ⟨_, rfl, by symm; rw [List.all_eq_false]; exact ⟨x, hm, by rw [hr]; simp⟩⟩
   | true =>
    refine .inl ⟨_, n - 1, rfl, by omega, i + 1, by omega, by omega, fun y hy => ?_⟩
    rw [Int.toNat_natCast] at hx
    rw [List.take_add_one, hx] at hy
    rcases List.mem_append.1 hy with hy | hy
    ·exact ha y hy
    ·simp at hy; rw [hy]; exact hr
  ·refine .inr ⟨_, by rw [ite_f (dec_f (by omega))], ?_⟩
   symm; rw [List.all_eq_true]
   intro x hx
   exact ha x (by rw [List.take_of_length_le (by omega)]; exact hx)
end Go.Proofs.Ytmompdklolomfaa.Ab
