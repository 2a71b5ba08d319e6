/- Texts as bytes: what 'ints' and the reference write and read. -/
import Derived.Test.YtbfmmaabaenhgaaPNum
import Derived.Test.YtbfmmaabaenhgaaXRW
namespace Go.Proofs.Ytbfmmaabaenhgaa.Ab
open Go Go.RowKit
set_option linter.unusedVariables false
set_option linter.unusedSimpArgs false
/-! ### texts -/
def getT (l : List UInt8) : Option (ByteArray × Nat) := match getN l with
  | none => none
  | some (n, k) => if l.length - k < n then none else some (strOf ((l.drop k).take n), k + n)
def getTR (o : Option (ByteArray × Nat)) : ByteArray × Int × Bool := match o with | none => (strOf [], 0, false) | some (s, k) => (s, (k : Int), true)
theorem gettext_of {f : List UInt8 → Option (Int × Int × Bool)} {k0 : List UInt8 → Int × Int × Bool → Option (ByteArray × Int × Bool)} (l : List UInt8) (hl : l.length ≤ 1099511627776) (hf : f l = some (getR (getN l)))
    (hk : ∀ n k : Nat, k ≤ l.length → n ≤ l.length - k → k0 l ((n : Int), (k : Int), true) = some (strOf ((l.drop k).take n), ((k + n : Nat) : Int), true)) :
    Option.bind (f l) (fun (x3 : Int × Int × Bool) => Option.bind (if (!x3.2.2) = true then (some (Sum.inr ((strOf []), 0, false))) else (if (decide ((IntKind.u64.wrap (IntKind.i64.wrap ((List.length l : Int) - x3.2.1))) < x3.1)) = true then (some (Sum.inr ((strOf []), 0, false))) else (some (Sum.inl ())))) (Sum.elim (fun (s : Unit) => k0 l x3) some)) = some (getTR (getT l)) := by
  rw [hf]
  cases h : getN l with
  | none => simp [getR, getT, h, getTR]
  | some p =>
    obtain ⟨n, k⟩ := p
    obtain ⟨h1, h2⟩ := getA_len _ _ _ _ h
    have hw : IntKind.u64.wrap (IntKind.i64.wrap ((l.length : Int) - (k : Int))) = ((l.length - k : Nat) : Int) := by
      rw [w64 (by omega) (by omega), show ((l.length : Int) - (k : Int)) = ((l.length - k : Nat) : Int) by omega, wrap_u64 _ (by omega)]
    simp only [getR, Option.bind_some, Bool.not_true, Bool.false_eq_true, if_false, hw, getT, h]
    by_cases hn : l.length - k < n
    · simp only [dec_t (by omega : ((l.length - k : Nat) : Int) < (n : Int)), if_true, Option.bind_some, Sum.elim_inr, if_pos hn, getTR]
    · simp only [dec_f (by omega : ¬ ((l.length - k : Nat) : Int) < (n : Int)), Bool.false_eq_true, if_false, Option.bind_some, Sum.elim_inl, if_neg hn, getTR]
      exact hk n k h2 (by omega)
theorem k0_text {l : List UInt8} (hl : l.length ≤ 1099511627776) {n k : Nat} (h1 : k ≤ l.length) (h2 : n ≤ l.length - k) :
    gd (0 ≤ (k : Int)) (gd ((k : Int) ≤ (IntKind.i64.wrap ((k : Int) + (IntKind.i64.wrap (n : Int))))) (gd ((IntKind.i64.wrap ((k : Int) + (IntKind.i64.wrap (n : Int)))) ≤ (List.length l : Int)) (some ((strOf (List.drop (Int.toNat (k : Int)) (List.take (Int.toNat (IntKind.i64.wrap ((k : Int) + (IntKind.i64.wrap (n : Int))))) l))), (IntKind.i64.wrap ((k : Int) + (IntKind.i64.wrap (n : Int)))), true))))
      = some (strOf ((l.drop k).take n), ((k + n : Nat) : Int), true) := by
  have hw : IntKind.i64.wrap (n : Int) = (n : Int) := w64 (by omega) (by omega)
  have hw2 : IntKind.i64.wrap ((k : Int) + (n : Int)) = ((k + n : Nat) : Int) := by rw [w64 (by omega) (by omega)]; push_cast; rfl
  rw [hw, hw2, gd_pos (by omega), gd_pos (by omega), gd_pos (by omega), Int.toNat_natCast, Int.toNat_natCast, List.drop_take, Nat.add_sub_cancel_left]
theorem rgettext_spec (l : List UInt8) (hl : l.length ≤ 1099511627776) : gleaningref1_GetText l = some (getTR (getT l)) :=
  gettext_of l hl (rget_spec l (by omega)) fun n k h1 h2 => k0_text hl h1 h2
def textB (s : ByteArray) : List UInt8 := putN s.size ++ bytesOf s
theorem rtext_spec (l : List UInt8) (s : ByteArray) (hl : l.length ≤ 549755813888) (hs : s.size ≤ 274877906944) : gleaningref1_Text l s = some (l ++ textB s) := by
  have hw : IntKind.u64.wrap (s.size : Int) = (s.size : Int) := wrap_u64 _ (by omega)
  have hp := putN_len10 (n := s.size) (by omega)
  rw [gleaningref1_Text, hw, rput_spec l s.size (by omega) (by omega), Option.bind_some, gd_pos (by simp [bytesOf_length]; omega), List.append_assoc, textB]
end Go.Proofs.Ytbfmmaabaenhgaa.Ab
