/- Spans, told plainly: copies, few and small ones, the same ones. -/
import Derived.Test.YtejimiedoibkcaaXBSum
import Derived.Test.YtejimiedoibkcaaPKit
namespace Go.Proofs.Ytejimiedoibkcaa.Ab
open Go Go.RowKit
set_option linter.unusedVariables false
set_option linter.unusedSimpArgs false
theorem ksucc {k : Nat} (h : k < 1099511627776) : IntKind.i64.wrap ((k : Int) + 1) = ((k + 1 : Nat) : Int) := by rw [w64 (by omega) (by omega)]; push_cast; rfl
theorem trace_eq (a b : Trace) : ((a.Hi == b.Hi) && ((a.Lo == b.Lo) && true)) = decide (a = b) := by
  cases a; cases b
  simp only [Trace.mk.injEq, Bool.and_true]
  rw [Bool.eq_iff_iff]; simp
def smallS (s : Span) : Prop := s.Service.size ≤ 100 ∧ s.Op.size ≤ 100 ∧ s.Attrs.length ≤ 20 ∧ ∀ a ∈ s.Attrs, a.Key.size ≤ 100 ∧ a.Value.size ≤ 100
theorem few_spec (s : Span) : ∃ b, gleaninglaw3_Few s = some b ∧ (b = true → smallS s) := by
  by_cases h1 : (100 : Int) < (s.Service.size : Int)
  · exact ⟨false, by simp [gleaninglaw3_Few, h1], by simp⟩
  by_cases h2 : (100 : Int) < (s.Op.size : Int)
  · exact ⟨false, by simp [gleaninglaw3_Few, h1, h2], by simp⟩
  by_cases h3 : (20 : Int) < (s.Attrs.length : Int)
  · exact ⟨false, by simp [gleaninglaw3_Few, h1, h2, h3], by simp⟩
  have hloop : ∃ b, loopN (fun (q : Int) => gleaninglaw3_Few_l1 s q) Fu 0 = some b ∧ (b = true → ∀ a ∈ s.Attrs, a.Key.size ≤ 100 ∧ a.Value.size ≤ 100) := by
    refine loop_inv (fun n (q : Int) => ∃ k : Nat, k ≤ s.Attrs.length ∧ n = s.Attrs.length - k ∧ q = (k : Int) ∧ ∀ a ∈ s.Attrs.take k, a.Key.size ≤ 100 ∧ a.Value.size ≤ 100) _ ?_ Fu s.Attrs.length 0 ⟨0, by omega, by omega, rfl, by simp⟩ (by rw [fu_eq]; omega)
    rintro n q ⟨k, hk, rfl, rfl, ha⟩
    by_cases e : k = s.Attrs.length
    · refine .inr ⟨true, ?_, fun _ => by rwa [e, List.take_length] at ha⟩
      simp only [gleaninglaw3_Few_l1, dec_f (by omega : ¬ (k : Int) < (s.Attrs.length : Int)), Bool.false_eq_true, if_false]
    · have hk2 : k < s.Attrs.length := by omega
      by_cases e1 : (100 : Int) < (s.Attrs[k].Key.size : Int)
      · refine .inr ⟨false, ?_, by simp⟩
        simp only [gleaninglaw3_Few_l1, dec_t (by omega : (k : Int) < (s.Attrs.length : Int)), if_true, gd_pos (by omega : (0 : Int) ≤ (k : Int)), Int.toNat_natCast, List.getElem?_eq_getElem hk2, Option.bind_some, dec_t e1]
      by_cases e2 : (100 : Int) < (s.Attrs[k].Value.size : Int)
      · refine .inr ⟨false, ?_, by simp⟩
        simp only [gleaninglaw3_Few_l1, dec_t (by omega : (k : Int) < (s.Attrs.length : Int)), if_true, gd_pos (by omega : (0 : Int) ≤ (k : Int)), Int.toNat_natCast, List.getElem?_eq_getElem hk2, Option.bind_some, dec_f e1, Bool.false_eq_true, if_false, dec_t e2]
      refine .inl ⟨((k + 1 : Nat) : Int), s.Attrs.length - (k + 1), ?_, by omega, k + 1, by omega, rfl, rfl, fun a h => ?_⟩
      · simp only [gleaninglaw3_Few_l1, dec_t (by omega : (k : Int) < (s.Attrs.length : Int)), if_true, gd_pos (by omega : (0 : Int) ≤ (k : Int)), Int.toNat_natCast, List.getElem?_eq_getElem hk2, Option.bind_some, dec_f e1, Bool.false_eq_true, if_false, dec_f e2, ksucc (by omega : k < 1099511627776)]
      · rw [List.take_succ_eq_append_getElem hk2] at h
        rcases List.mem_append.1 h with h | h
        · exact ha a h
        · rw [List.mem_singleton.1 h]; omega
  obtain ⟨b, hb, hb2⟩ := hloop
  refine ⟨b, ?_, fun h => ⟨by omega, by omega, by omega, hb2 h⟩⟩
  simp only [gleaninglaw3_Few, h1, h2, h3, decide_false, Bool.false_eq_true, if_false, Option.bind_some, Sum.elim_inl, gleaninglaw3_Few_k0, hb]
theorem fewAll_spec (l : List Span) : ∃ b, gleaninglaw3_FewAll l = some b ∧ (b = true → l.length ≤ 60 ∧ ∀ s ∈ l, smallS s) := by
  by_cases h1 : (60 : Int) < (l.length : Int)
  · exact ⟨false, by simp [gleaninglaw3_FewAll, h1], by simp⟩
  have hloop : ∃ b, loopN (fun (q : Int) => gleaninglaw3_FewAll_l0 l q) Fu 0 = some b ∧ (b = true → ∀ s ∈ l, smallS s) := by
    refine loop_inv (fun n (q : Int) => ∃ k : Nat, k ≤ l.length ∧ n = l.length - k ∧ q = (k : Int) ∧ ∀ a ∈ l.take k, smallS a) _ ?_ Fu l.length 0 ⟨0, by omega, by omega, rfl, by simp⟩ (by rw [fu_eq]; omega)
    rintro n q ⟨k, hk, rfl, rfl, ha⟩
    by_cases e : k = l.length
    · refine .inr ⟨true, ?_, fun _ => by rwa [e, List.take_length] at ha⟩
      simp only [gleaninglaw3_FewAll_l0, dec_f (by omega : ¬ (k : Int) < (l.length : Int)), Bool.false_eq_true, if_false]
    · have hk2 : k < l.length := by omega
      obtain ⟨b, hb, hb2⟩ := few_spec l[k]
      cases b with
      | false =>
        refine .inr ⟨false, ?_, by simp⟩
        simp only [gleaninglaw3_FewAll_l0, dec_t (by omega : (k : Int) < (l.length : Int)), if_true, gd_pos (by omega : (0 : Int) ≤ (k : Int)), Int.toNat_natCast, List.getElem?_eq_getElem hk2, Option.bind_some, hb, Bool.not_false]
      | true =>
        refine .inl ⟨((k + 1 : Nat) : Int), l.length - (k + 1), ?_, by omega, k + 1, by omega, rfl, rfl, fun a h => ?_⟩
        · simp only [gleaninglaw3_FewAll_l0, dec_t (by omega : (k : Int) < (l.length : Int)), if_true, gd_pos (by omega : (0 : Int) ≤ (k : Int)), Int.toNat_natCast, List.getElem?_eq_getElem hk2, Option.bind_some, hb, Bool.not_true, Bool.false_eq_true, if_false, ksucc (by omega : k < 1099511627776)]
        · rw [List.take_succ_eq_append_getElem hk2] at h
          rcases List.mem_append.1 h with h | h
          · exact ha a h
          · rw [List.mem_singleton.1 h]; exact hb2 rfl
  obtain ⟨b, hb, hb2⟩ := hloop
  refine ⟨b, ?_, fun h => ⟨by omega, hb2 h⟩⟩
  simp only [gleaninglaw3_FewAll, h1, decide_false, Bool.false_eq_true, if_false, hb]
end Go.Proofs.Ytejimiedoibkcaa.Ab
