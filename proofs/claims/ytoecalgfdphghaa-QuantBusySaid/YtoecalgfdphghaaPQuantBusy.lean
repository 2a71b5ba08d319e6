/- Chapter 31: which services are busiest, of any rows. -/
import Derived.Test.YtoecalgfdphghaaXQBusy
import Derived.Test.YtoecalgfdphghaaPQuantB
namespace Go.Proofs.Ytoecalgfdphghaa.Ab
open Go Go.RowKit
set_option linter.unusedVariables false
set_option linter.unusedSimpArgs false
theorem okR_wf {r : RowG} (h : RowG.wf r) : okR r := by
  have h1 := h.2.2.2.2.1
  have h2 := h.2.2.2.2.2.1
  simp [inI, IntKind.min, IntKind.max, IntKind.signed, IntKind.bits] at h1 h2
  exact ⟨⟨by omega, by omega⟩, ⟨by omega, by omega⟩⟩
theorem quantBusy_true (l : List RowG) (level n : Int) (hw : l.length ≤ maxLen ∧ ∀ y ∈ l, RowG.wf y) (_ : inI .i64 level) (_ : inI .i64 n) : gleaninglaw31_QuantBusy l level n = some true := by
  simp only [gleaninglaw31_QuantBusy, alive31, Option.bind_some, Bool.not_true, Bool.false_eq_true, if_false]
  by_cases hb : (80 : Int) < (l.length : Int)
  · simp [hb]
  have hr : ∀ r ∈ l, okR r := fun r h => okR_wf (hw.2 r h)
  simp only [hb, decide_false, Bool.false_eq_true, if_false, Option.bind_some, Sum.elim_inl]
  have hloop := loop_write (body := fun (s : Int) => gleaninglaw31_QuantBusy_l2 l s) (l := l) (fun r : RowG => decide ((60 : Int) < (r.Service.size : Int)) || decide ((60 : Int) < (r.Op.size : Int))) (fun k => (k : Int)) (Sum.inl ()) (Sum.inr true) (by omega)
    (fun k hk _ h => by
      simp only [Bool.or_eq_false_iff] at h
      simp only [gleaninglaw31_QuantBusy_l2, dec_t (by omega : (k : Int) < (l.length : Int)), if_true, gd_pos (by omega : (0 : Int) ≤ (k : Int)), Int.toNat_natCast, List.getElem?_eq_getElem hk, Option.bind_some, h.1, h.2, Bool.false_eq_true, if_false, ksuccQ (by omega : k < 1099511627776)])
    (fun k hk _ h => by
      simp only [gleaninglaw31_QuantBusy_l2, dec_t (by omega : (k : Int) < (l.length : Int)), if_true, gd_pos (by omega : (0 : Int) ≤ (k : Int)), Int.toNat_natCast, List.getElem?_eq_getElem hk, Option.bind_some]
      cases h1 : decide ((60 : Int) < (l[k].Service.size : Int)) with
      | true => rfl
      | false =>
        rw [h1, Bool.false_or] at h
        rw [ite_ff, h]; rfl)
    (fun _ => by simp only [gleaninglaw31_QuantBusy_l2, dec_f (by omega : ¬ (l.length : Int) < (l.length : Int)), Bool.false_eq_true, if_false])
  rw [gleaninglaw31_QuantBusy_k0, show (0 : Int) = ((0 : Nat) : Int) from rfl, hloop, Option.bind_some]
  split
  · rfl
  · rw [Sum.elim_inl, gleaninglaw31_QuantBusy_k1, gd_pos (by omega), busy_spec l level n (by omega) hr, Option.bind_some, refBusy_spec l level n (by omega) hr, Option.bind_some, same_spec, Option.bind_some]
    have := (accB_ok level l hr).2
    simp only [busyF, List.length_take, srt_len]; omega
end Go.Proofs.Ytoecalgfdphghaa.Ab
