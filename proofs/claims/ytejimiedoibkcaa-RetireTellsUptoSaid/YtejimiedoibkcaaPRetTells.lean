/- Chapter 20: which of any blocks go, and how many bytes all have. -/
import Derived.Test.YtejimiedoibkcaaXRTells
import Derived.Test.YtejimiedoibkcaaPRet
import Derived.Test.YtejimiedoibkcaaPUptoR
namespace Go.Proofs.Ytejimiedoibkcaa.Ab
open Go Go.RowKit
set_option linter.unusedVariables false
set_option linter.unusedSimpArgs false
theorem retireTells_true (l : List Block) (now keep budget : Int) (hw : l.length ≤ maxLen ∧ ∀ y ∈ l, Block.wf y) (hn : inI .i64 now) (_ : inI .i64 keep) (_ : inI .i64 budget) (hb : (l.flatMap (·.Episodes)).length ≤ 1048576) : gleaninglaw20_RetireTells l now keep budget = some true := by
  obtain ⟨f1, hf1, g1⟩ := few19_spec l hb
  simp only [gleaninglaw20_RetireTells, alive20, Option.bind_some, Bool.not_true, Bool.false_eq_true, if_false, hf1]
  cases f1 with
  | false => rfl
  | true =>
  have hf := g1 rfl
  have h1 := hf.len
  have ok := okB_of hw.2 hf
  have hbn : ∀ b ∈ l, inI .i64 b.Born := fun b hb => (hw.2 b hb).2.1
  simp only [Bool.not_true, Bool.false_eq_true, if_false, Option.bind_some, Sum.elim_inl, gleaninglaw20_RetireTells_k0, choose_spec l now keep budget (by omega) ok, xchoose_spec l now keep budget (by omega) ok hn hbn, total_spec l (by omega) ok, xtotal_spec l (by omega) ok, bne_self_eq_false, gleaninglaw20_RetireTells_k1]
  have hlen : (chooseB l now keep budget).length ≤ 1000000 := by
    have h2 : ∀ (n : Nat) (z : List Block), (goL budget n z).length ≤ n := by
      intro n
      induction n with
      | zero => intro z; simp [goL]
      | succ n ih =>
        intro z
        rw [goL]
        split
        · split
          · have := ih (cutAt z (minF z z.length)); rw [List.length_cons]; omega
          · simp
        · simp
    have h3 := h2 (l.filter (newB now keep)).length (l.filter (newB now keep))
    have h4 := List.length_filter_le (newB now keep) l
    have h5 := List.length_filter_le (oldB now keep) l
    rw [chooseB, List.length_map, List.length_append]; omega
  refine loop_list (l := chooseB l now keep budget) (fun k r s => s = (k : Int) ∧ r = true) (by omega) ?_ ?_ ⟨rfl, rfl⟩
  · rintro k hk r s ⟨rfl, rfl⟩
    refine .inl ⟨((k + 1 : Nat) : Int), ?_, rfl, rfl⟩
    simp only [gleaninglaw20_RetireTells_l2, dec_t (by omega : (k : Int) < ((chooseB l now keep budget).length : Int)), if_true, gd_pos (by omega : (0 : Int) ≤ (k : Int)), Int.toNat_natCast, List.getElem?_eq_getElem hk, Option.bind_some, bne_self_eq_false, Bool.false_eq_true, if_false, ksuc (by omega : k < 1099511627776)]
  · rintro r s ⟨rfl, rfl⟩
    simp only [gleaninglaw20_RetireTells_l2, dec_f (by omega : ¬ ((chooseB l now keep budget).length : Int) < ((chooseB l now keep budget).length : Int)), Bool.false_eq_true, if_false]
end Go.Proofs.Ytejimiedoibkcaa.Ab
