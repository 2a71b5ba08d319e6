/- Chapter 13: which rules may be, kind by kind. -/
import Derived.Test.YtbfmmaabaenhgaaXRKinds
import Derived.Test.YtbfmmaabaenhgaaPRuleA
namespace Go.Proofs.Ytbfmmaabaenhgaa.Ab
open Go Go.RowKit
set_option linter.unusedVariables false
set_option linter.unusedSimpArgs false
def kindsL : List Rule := [(Rule.mk 1 0 (strOf []) (strOf []) []), (Rule.mk 2 0 (strOf []) (strOf []) [(Rule.mk 5 0 (strOf []) (strOf []) []), (Rule.mk 5 0 (strOf []) (strOf []) [])]), (Rule.mk 3 0 (strOf []) (strOf []) []), (Rule.mk 3 0 (strOf []) (strOf []) [(Rule.mk 5 0 (strOf []) (strOf []) [])]), (Rule.mk 3 0 (strOf []) (strOf []) [(Rule.mk 5 0 (strOf []) (strOf []) []), (Rule.mk 5 0 (strOf []) (strOf []) [])]), (Rule.mk 5 0 (strOf []) (strOf []) [(Rule.mk 5 0 (strOf []) (strOf []) [])]), (Rule.mk 4 0 (strOf []) (strOf []) []), (Rule.mk 4 1073741824 (strOf []) (strOf []) []), (Rule.mk 4 1073741825 (strOf []) (strOf []) []), (Rule.mk 4 (-1) (strOf []) (strOf []) []), (Rule.mk 6 0 (strOf [107]) (strOf []) []), (Rule.mk 6 0 (strOf []) (strOf [118]) []), (Rule.mk 6 0 (strOf [97, 98, 99, 100, 101, 102, 103, 104, 105, 106, 107, 108, 109, 110, 111, 112, 113]) (strOf []) []), (Rule.mk 6 1 (strOf [107]) (strOf []) []), (Rule.mk 7 1000 (strOf []) (strOf []) []), (Rule.mk 7 1001 (strOf []) (strOf []) []), (Rule.mk 8 1001 (strOf []) (strOf []) []), (Rule.mk 9 1000000 (strOf []) (strOf []) []), (Rule.mk 9 1000001 (strOf []) (strOf []) []), (Rule.mk 5 1 (strOf []) (strOf []) []), (Rule.mk 1 0 (strOf [107]) (strOf []) []), (Rule.mk 0 0 (strOf []) (strOf []) []), (Rule.mk 10 0 (strOf []) (strOf []) []), (Rule.mk (-1) 0 (strOf []) (strOf []) [])]
def kindsO : List Bool := [true, true, false, true, false, false, true, true, false, false, true, false, false, false, true, false, false, true, false, false, false, false, false, false]
theorem kinds_ok : kindsL.map rightR = kindsO := by decide +kernel
theorem kinds_k0 (a0 : Int) : gleaninglaw13_RuleKinds_k0 a0 =
  gd (0 ≤ a0) (Option.bind (kindsL[(Int.toNat a0)]?) (fun (x18 : Rule) => Option.bind (rule_Bytes x18) (fun (x19 : List UInt8) => Option.bind (rule_Read x19) (fun (x21 : Rule × Int) => gd (0 ≤ a0) (Option.bind (kindsL[(Int.toNat a0)]?) (fun (x24 : Rule) => Option.bind (rule_Right x24) (fun (x25 : Bool) => gd (0 ≤ a0) (Option.bind (kindsO[(Int.toNat a0)]?) (fun (x27 : Bool) => if (x25 == x27) = true then (gd (0 ≤ a0) (Option.bind (kindsO[(Int.toNat a0)]?) (fun (x30 : Bool) => if ((decide ((0 : Int) < (List.length x19 : Int))) == x30) = true then (Option.bind (gleaninglaw13_num x21.2) (fun (x32 : Int) => gd (0 ≤ a0) (Option.bind (kindsO[(Int.toNat a0)]?) (fun (x34 : Bool) => some ((x32 == 0) == x34))))) else (some false)))) else (some false)))))))))) := rfl
theorem kinds_law (a0 : Int) : gleaninglaw13_RuleKinds a0 =
  Option.bind (gleaninglaw13_alive) (fun (x3 : Bool) => Option.bind (if (!x3) = true then (some (Sum.inr x3)) else (if (decide (a0 < 0)) = true then (some (Sum.inr x3)) else (if (decide ((List.length kindsL : Int) ≤ a0)) = true then (some (Sum.inr x3)) else (some (Sum.inl ()))))) (Sum.elim (fun (s : Unit) => gleaninglaw13_RuleKinds_k0 a0) some)) := rfl
theorem bytes_someK (r : Rule) : decide ((0 : Int) < ((bytesR r).length : Int)) = rightR r := by
  cases h : rightR r with
  | false => rw [bytesR_f h]; rfl
  | true => rw [bytesR_t h, dec_t (by have := (ruleB_len h).1; omega)]
theorem ruleKinds_true (which : Int) (_ : inI .i64 which) : gleaninglaw13_RuleKinds which = some true := by
  rw [kinds_law]
  simp only [alive13, Option.bind_some, Bool.not_true, Bool.false_eq_true, if_false]
  by_cases h1 : which < 0
  · simp [h1]
  by_cases h2 : (kindsL.length : Int) ≤ which
  · simp [h1, h2]
  simp only [h1, h2, decide_false, Bool.false_eq_true, if_false, Option.bind_some, Sum.elim_inl, kinds_k0]
  obtain ⟨i, rfl⟩ := Int.eq_ofNat_of_zero_le (by omega : 0 ≤ which)
  have hi : i < kindsL.length := by omega
  have hO : kindsO[i]? = some (rightR kindsL[i]) := by rw [← kinds_ok, List.getElem?_map, List.getElem?_eq_getElem hi]; rfl
  have hread : ∃ x, rule_Read (bytesR kindsL[i]) = some x ∧ (x.2 == 0) = rightR kindsL[i] := by
    cases h : rightR kindsL[i] with
    | false => rw [bytesR_f h]; exact ⟨_, read_empty, rfl⟩
    | true => rw [bytesR_t h]; exact ⟨_, read_put h, rfl⟩
  obtain ⟨x, hx, hx2⟩ := hread
  simp only [gd_pos (by omega : (0 : Int) ≤ (i : Int)), Int.toNat_natCast, List.getElem?_eq_getElem hi, Option.bind_some, (rbytes_spec _).1, hx, right_spec', hO, beq_self_eq_true, if_true, bytes_someK, gleaninglaw13_num, hx2]
end Go.Proofs.Ytbfmmaabaenhgaa.Ab
