/- Chapter 20: when nothing goes, when all but one, when all. -/
import Derived.Test.YtejimiedoibkcaaXRNone
import Derived.Test.YtejimiedoibkcaaPRet
import Derived.Test.YtejimiedoibkcaaPUptoR
namespace Go.Proofs.Ytejimiedoibkcaa.Ab
open Go Go.RowKit
set_option linter.unusedVariables false
set_option linter.unusedSimpArgs false
theorem sizeB_pos {b : Block} (h : rightB b = true) : 0 < sizeB b := by
  rw [sizeB, blkB, if_pos h, sealB, List.length_append, fourN_length]; omega
theorem totB_pos {l : List Block} (h : ∀ b ∈ l, rightB b = true) (ok : ∀ b ∈ l, okB b) (h0 : 0 < l.length) : 0 < totB l := by
  cases l with
  | nil => cases h0
  | cons b l =>
    have h1 := sizeB_pos (h b List.mem_cons_self)
    have h2 := totB_le l fun c hc => ok c (List.mem_cons_of_mem _ hc)
    rw [totB_cons]; omega
theorem goL_all : ∀ (n : Nat) (l : List Block), l.length = n → (∀ b ∈ l, rightB b = true) → (∀ b ∈ l, okB b) → (goL 0 l.length l).length = l.length - 1
  | 0, l, hn, _, _ => by rw [hn]; rfl
  | n + 1, l, hn, h, ok => by
    by_cases c : 1 < l.length
    · have hm := minF_lt (l := l) (by omega) l.length (Nat.le_refl _)
      have hc := cutAt_len hm
      rw [goL_go ⟨c, totB_pos h ok (by omega)⟩, List.length_cons, goL_all n _ (by omega) (fun b hb => h b (cutAt_mem hb)) (fun b hb => ok b (cutAt_mem hb))]
      omega
    · rw [goL_no (fun q => c q.1)]
      simp; omega
theorem retireNone_true (l : List Block) (now : Int) (hw : l.length ≤ maxLen ∧ ∀ y ∈ l, Block.wf y) (hn : inI .i64 now) (hb : (l.flatMap (·.Episodes)).length ≤ 1048576) : gleaninglaw20_RetireNone l now = some true := by
  obtain ⟨f1, hf1, g1⟩ := few19_spec l hb
  simp only [gleaninglaw20_RetireNone, alive20, Option.bind_some, Bool.not_true, Bool.false_eq_true, if_false, hf1]
  cases f1 with
  | false => rfl
  | true =>
  have hf := g1 rfl
  have h1 := hf.len
  have ok := okB_of hw.2 hf
  by_cases c0 : l.length < 1
  · simp only [Bool.not_true, Bool.false_eq_true, if_false, dec_t (by omega : (l.length : Int) < 1), if_true, Option.bind_some, Sum.elim_inr]
  simp only [Bool.not_true, Bool.false_eq_true, if_false, dec_f (by omega : ¬ (l.length : Int) < 1), Option.bind_some, Sum.elim_inl]
  rw [gleaninglaw20_RetireNone_k0]
  have hloop := loop_write (body := fun (s : Int) => gleaninglaw20_RetireNone_l2 l now s) (l := l) (fun b => !rightB b || (decide (now < b.Born) || decide ((1099511627776 : Int) < now))) (fun k => (k : Int)) (.inl ()) (.inr true) (by omega) (fun k hk hb hk2 => by
      simp only [Bool.or_eq_false_iff, Bool.not_eq_false'] at hk2
      simp only [gleaninglaw20_RetireNone_l2, dec_t (by omega : (k : Int) < (l.length : Int)), if_true, gd_pos (by omega : (0 : Int) ≤ (k : Int)), Int.toNat_natCast, List.getElem?_eq_getElem hk, Option.bind_some, xisB_spec _ (ok _ (List.getElem_mem hk)).fe, hk2.1, hk2.2.1, hk2.2.2, Bool.not_true, Bool.false_eq_true, if_false, ksuc (by omega : k < 1099511627776)]) (fun k hk hb hk2 => by
      simp only [gleaninglaw20_RetireNone_l2, dec_t (by omega : (k : Int) < (l.length : Int)), if_true, gd_pos (by omega : (0 : Int) ≤ (k : Int)), Int.toNat_natCast, List.getElem?_eq_getElem hk, Option.bind_some, xisB_spec _ (ok _ (List.getElem_mem hk)).fe]
      cases c1 : rightB l[k] with
      | false => rfl
      | true =>
      cases c2 : decide (now < l[k].Born) with
      | true => simp
      | false =>
        rw [c1, c2] at hk2
        simp only [Bool.not_true, Bool.false_or] at hk2
        simp [hk2]) (fun hb => by
      simp only [gleaninglaw20_RetireNone_l2, dec_f (by omega : ¬ (l.length : Int) < (l.length : Int)), Bool.false_eq_true, if_false])
  refine (congrArg (fun o => Option.bind o _) hloop).trans ?_
  cases c : l.any (fun b => !rightB b || (decide (now < b.Born) || decide ((1099511627776 : Int) < now))) with
  | true => rfl
  | false =>
  have hall : ∀ b ∈ l, rightB b = true ∧ b.Born ≤ now ∧ now ≤ 1099511627776 ∧ 0 ≤ b.Born ∧ b.Born ≤ 1099511627776 := fun b hb => by
    have := List.any_eq_false.1 c b hb
    simp only [Bool.or_eq_true, Bool.not_eq_true', decide_eq_true_eq, not_or, Bool.not_eq_false] at this
    have hr := this.1
    have hr0 := this.1
    simp only [rightB, Bool.and_eq_true] at hr
    have := countB_of hr.2.1
    exact ⟨hr0, by omega, by omega, this.1, this.2⟩
  have hold : ∀ b ∈ l, ∀ keep : Int, oldB now keep b = decide (keep < now - b.Born) := fun b hb keep => by
    obtain ⟨_, a1, a2, a3, a4⟩ := hall b hb
    rw [oldB, lessR_in (by omega) a2 a3 a4]
  have n1 : l.filter (oldB now 1099511627776) = [] := List.filter_eq_nil_iff.2 fun b hb => by
    obtain ⟨_, a1, a2, a3, a4⟩ := hall b hb
    rw [hold b hb, dec_f (by omega)]; decide
  have n2 : l.filter (newB now 1099511627776) = l := List.filter_eq_self.2 fun b hb => by
    obtain ⟨_, a1, a2, a3, a4⟩ := hall b hb
    rw [newB, hold b hb, dec_f (by omega)]; rfl
  have n3 : l.filter (oldB now (-1)) = l := List.filter_eq_self.2 fun b hb => by
    obtain ⟨_, a1, a2, a3, a4⟩ := hall b hb
    rw [hold b hb, dec_t (by omega)]
  have n4 : l.filter (newB now (-1)) = [] := List.filter_eq_nil_iff.2 fun b hb => by
    obtain ⟨_, a1, a2, a3, a4⟩ := hall b hb
    rw [newB, hold b hb, dec_t (by omega)]; decide
  have x1 : chooseB l now 1099511627776 (totB l) = [] := by rw [chooseB, n1, n2, goL_no (by omega)]; rfl
  have x2 : (chooseB l now 1099511627776 0).length = l.length - 1 := by rw [chooseB, n1, n2, List.nil_append, List.length_map, goL_all _ l rfl (fun b hb => (hall b hb).1) ok]
  have x3 : (chooseB l now (-1) 1099511627776).length = l.length := by rw [chooseB, n3, n4, List.length_map, List.length_append]; rfl
  simp only [Bool.false_eq_true, if_false, Option.bind_some, Sum.elim_inl, gleaninglaw20_RetireNone_k1, xtotal_spec l (by omega) ok, choose_spec l now _ _ (by omega) ok, x1, x2, x3, w64 (n := (l.length : Int) - 1) (by omega) (by omega)]
  rw [show ((l.length - 1 : Nat) : Int) = (l.length : Int) - 1 by omega]
  simp
end Go.Proofs.Ytejimiedoibkcaa.Ab
