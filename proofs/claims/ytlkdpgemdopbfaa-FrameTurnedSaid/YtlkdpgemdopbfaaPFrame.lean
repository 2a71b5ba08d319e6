/- Records, told plainly: how one is written, which one bytes begin with, and which ones. -/
import Derived.Test.YtlkdpgemdopbfaaPCheck
namespace Go.Proofs.Ytlkdpgemdopbfaa.Ab
open Go Go.RowKit
set_option linter.unusedVariables false
set_option linter.unusedSimpArgs false

def recB (p : List UInt8) : List UInt8 := putN p.length ++ fourN (sumB p).toNat ++ p
theorem recB_len (p : List UInt8) : (recB p).length = (putN p.length).length + 4 + p.length := by simp only [recB, List.length_append, fourN_length]
theorem frame_spec (p : List UInt8) (hp : p.length ≤ 549755813888) : frame_Bytes p = some (recB p) := by
  have h10 := putN_len10 (n := p.length) (by omega)
  have hw : IntKind.u64.wrap (p.length : Int) = (p.length : Int) := wrap_u64 _ (by omega)
  rw [frame_Bytes, hw, put_spec [] p.length (by omega) (by simp), List.nil_append, Option.bind_some, sum_spec p (by omega), Option.bind_some, putc_spec _ _ (by omega), Option.bind_some, gd_pos (by simp only [List.length_append, fourN_length]; omega), recB]
theorem rframe_spec (p : List UInt8) (hp : p.length ≤ 549755813888) : gleaningref1_Frame p = some (recB p) := by
  have h10 := putN_len10 (n := p.length) (by omega)
  have hw : IntKind.u64.wrap (p.length : Int) = (p.length : Int) := wrap_u64 _ (by omega)
  rw [gleaningref1_Frame, hw, rput_spec [] p.length (by omega) (by simp), List.nil_append, Option.bind_some, rsum_spec p (by omega), Option.bind_some, rfour_spec _ (sumB p).isLt, Option.bind_some, gd_pos (by simp only [List.length_append, fourN_length]; omega), gd_pos (by simp only [List.length_append, fourN_length]; omega), recB]
def oneF (l : List UInt8) : Option (List UInt8 × List UInt8) := match getN l with
  | none => none
  | some (n, k) => if (l.drop k).length < 4 then none else if (l.drop k).length - 4 < n then none
    else if fourN (sumB (((l.drop k).drop 4).take n)).toNat = (l.drop k).take 4 then some (((l.drop k).drop 4).take n, (l.drop k).drop (4 + n)) else none
theorem oneF_len {l p r : List UInt8} (h : oneF l = some (p, r)) : r.length < l.length ∧ p.length ≤ l.length := by
  unfold oneF at h
  split at h
  · cases h
  · rename_i n k hg
    obtain ⟨h1, h2⟩ := getA_len _ _ _ _ hg
    split at h
    · cases h
    · split at h
      · cases h
      · split at h
        · injection h with h; injection h with h3 h4; subst h3 h4
          simp at *
          omega
        · cases h
theorem clone_spec (l : List UInt8) (hl : l.length ≤ 1099511627776) : bytes_Clone l = some l := by
  cases l with
  | nil => rfl
  | cons c r =>
    have : (List.isEmpty (c :: r)) = false := rfl
    simp only [bytes_Clone, this, Bool.false_eq_true, if_false]
    exact gd_pos (by simp only [List.nil_append]; omega)
theorem one_spec (l : List UInt8) (hl : l.length ≤ 549755813888) : ∃ x, frame_one l = some x ∧ x.2.2 = (oneF l).isSome ∧ ∀ p r, oneF l = some (p, r) → x.1 = p ∧ x.2.1 = r := by
  rw [frame_one, get_spec l (by omega)]
  cases hg : getN l with
  | none =>
    refine ⟨([], [], false), rfl, ?_, ?_⟩ <;> simp [oneF, hg]
  | some nk =>
    obtain ⟨n, k⟩ := nk
    obtain ⟨h1, h2⟩ := getA_len _ _ _ _ hg
    simp only [getR, Option.bind_some, Bool.not_true, Bool.false_eq_true, if_false, gd_pos (by omega : (0 : Int) ≤ (k : Int)), gd_pos (by omega : (k : Int) ≤ (l.length : Int)), Int.toNat_natCast]
    have hdl : (l.drop k).length ≤ 549755813888 := by simp; omega
    have hsh : ∀ b : List UInt8, l.drop k = b → b.length < 4 → oneF l = none := fun b hb h4 => by
      simp only [oneF, hg]; rw [hb, if_pos h4]
    match hb : l.drop k, hdl with
    | [], _ => rw [getc_short (by simp), hsh _ hb (by simp)]; exact ⟨_, rfl, by simp, by simp⟩
    | [_], _ => rw [getc_short (by simp), hsh _ hb (by simp)]; exact ⟨_, rfl, by simp, by simp⟩
    | [_, _], _ => rw [getc_short (by simp), hsh _ hb (by simp)]; exact ⟨_, rfl, by simp, by simp⟩
    | [_, _, _], _ => rw [getc_short (by simp), hsh _ hb (by simp)]; exact ⟨_, rfl, by simp, by simp⟩
    | a :: b :: c :: d :: r, hdl =>
      have hrl : (a :: b :: c :: d :: r).length = r.length + 4 := by simp
      rw [hrl] at hdl
      have ho : oneF l = if r.length < n then none else if fourN (sumB (r.take n)).toNat = [a, b, c, d] then some (r.take n, r.drop n) else none := by
        simp only [oneF, hg, hb, hrl, Nat.add_sub_cancel]
        rw [if_neg (by omega : ¬ r.length + 4 < 4), show (4 + n) = n + 4 by omega]
        rfl
      rw [getc_spec a b c d r (by omega)]
      have hw : IntKind.u64.wrap (IntKind.i64.wrap (((a :: b :: c :: d :: r).length : Int) - 4)) = ((r.length : Nat) : Int) := by
        rw [hrl, w64 (by omega) (by omega), show (((r.length + 4 : Nat) : Int) - 4) = (r.length : Int) by omega, wrap_u64 _ (by omega)]
      simp only [Option.bind_some, Bool.not_true, Bool.false_eq_true, if_false, hw]
      by_cases hn : r.length < n
      · rw [if_pos hn] at ho
        rw [ho]
        simp only [dec_t (by omega : (r.length : Int) < (n : Int)), if_true, Option.bind_some, Sum.elim_inr]
        exact ⟨_, rfl, rfl, by simp⟩
      · rw [if_neg hn] at ho
        simp only [dec_f (by omega : ¬ (r.length : Int) < (n : Int)), Bool.false_eq_true, if_false, Option.bind_some, Sum.elim_inl, frame_one_k0]
        have hw1 : IntKind.i64.wrap (4 + IntKind.i64.wrap (n : Int)) = ((4 + n : Nat) : Int) := by rw [w64 (n := (n : Int)) (by omega) (by omega), w64 (by omega) (by omega)]; push_cast; rfl
        simp only [hw1, Int.toNat_natCast, hb, gd_pos (by omega : (4 : Int) ≤ ((4 + n : Nat) : Int)), gd_pos (by rw [hrl]; omega : ((4 + n : Nat) : Int) ≤ ((a :: b :: c :: d :: r).length : Int)), gd_pos (by omega : (0 : Int) ≤ ((4 + n : Nat) : Int))]
        have hp : List.drop 4 (List.take (4 + n) (a :: b :: c :: d :: r)) = r.take n := by rw [Nat.add_comm]; rfl
        have hq : List.drop (4 + n) (a :: b :: c :: d :: r) = r.drop n := by rw [Nat.add_comm]; rfl
        have hpl : (r.take n).length ≤ 549755813888 := by simp; omega
        rw [hp, hq, clone_spec _ (by omega), Option.bind_some, sum_spec _ (by omega), Option.bind_some]
        have hlt : (sumB (r.take n)).toNat < 4294967296 := (sumB (r.take n)).isLt
        have hwl : wordN a b c d < 4294967296 := by have ha := a.toNat_lt; have hb := b.toNat_lt; have hc := c.toNat_lt; have hd := d.toNat_lt; simp only [wordN]; omega
        by_cases he : (sumB (r.take n)).toNat = wordN a b c d
        · rw [if_pos (by rw [he, four_word])] at ho
          rw [ho, he]
          exact ⟨_, rfl, by simp, fun p q h => by injection h with h; injection h with h1 h2; exact ⟨h1, h2⟩⟩
        · rw [if_neg (fun h => he (by rw [← four_word a b c d] at h; exact fourN_inj hlt hwl h))] at ho
          rw [ho]
          exact ⟨_, rfl, by simp; omega, fun p q h => by cases h⟩
def splitF (l : List UInt8) : List (List UInt8) × List UInt8 :=
  match h : oneF l with
  | none => ([], l)
  | some (p, r) => (p :: (splitF r).1, (splitF r).2)
termination_by l.length
decreasing_by all_goals exact (oneF_len h).1
theorem splitF_none {l : List UInt8} (h : oneF l = none) : splitF l = ([], l) := by rw [splitF]; split <;> simp_all
theorem splitF_some {l p r : List UInt8} (h : oneF l = some (p, r)) : splitF l = (p :: (splitF r).1, (splitF r).2) := by rw [splitF]; split <;> simp_all
theorem splitF_len : ∀ (n : Nat) (l : List UInt8), l.length ≤ n → (splitF l).2.length ≤ l.length ∧ (splitF l).1.length + (splitF l).2.length ≤ l.length
  | n, l, h => by
    cases h1 : oneF l with
    | none => rw [splitF_none h1]; simp
    | some pr =>
      obtain ⟨p, r⟩ := pr
      have h2 := oneF_len h1
      rw [splitF_some h1]
      match n, h with
      | 0, h => omega
      | n + 1, h =>
        have := splitF_len n r (by omega)
        simp only [List.length_cons]; omega
theorem split_spec (l : List UInt8) (hl : l.length ≤ 4294967296) : frame_Split l = some ((splitF l).1, ((l.length - (splitF l).2.length : Nat) : Int)) := by
  refine loop_fu (fun m s r => ∃ (a : List (List UInt8)) (b : List UInt8), s = (a, b) ∧ m = b.length ∧ b.length ≤ l.length ∧ a.length + b.length ≤ l.length ∧ r = (a ++ (splitF b).1, ((l.length - (splitF b).2.length : Nat) : Int))) ?_ ⟨[], l, rfl, rfl, by omega, by simp, by simp⟩ (by omega)
  rintro m s r ⟨a, b, rfl, rfl, hb, hab, rfl⟩
  obtain ⟨x, hx, h1, h2⟩ := one_spec b (by omega)
  simp only [frame_Split_l0, hx, Option.bind_some, h1]
  cases ho : oneF b with
  | none =>
    refine .inr ?_
    rw [splitF_none ho]
    simp only [Option.isSome_none, Bool.not_false, if_true, List.append_nil]
    rw [w64 (by omega) (by omega), show ((l.length : Int) - (b.length : Int)) = ((l.length - b.length : Nat) : Int) by omega]
  | some pr =>
    obtain ⟨p, r⟩ := pr
    obtain ⟨e1, e2⟩ := h2 p r ho
    have hlen := oneF_len ho
    refine .inl ⟨(a ++ [p], r), r.length, ?_, hlen.1, a ++ [p], r, rfl, rfl, by omega, by simp; omega, ?_⟩
    · simp only [Option.isSome_some, Bool.not_true, Bool.false_eq_true, if_false, e1, e2]
      exact gd_pos (by simp only [List.length_append, List.length_singleton]; omega)
    · rw [splitF_some ho]; simp
end Go.Proofs.Ytlkdpgemdopbfaa.Ab
