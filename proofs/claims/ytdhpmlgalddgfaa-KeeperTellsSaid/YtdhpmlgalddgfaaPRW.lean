import Derived.Test.YtdhpmlgalddgfaaPNum
import Derived.Test.YtdhpmlgalddgfaaXRW
namespace Go.Proofs.Ytdhpmlgalddgfaa.Ab
open Go Go.RowKit
set_option linter.unusedVariables false
set_option linter.unusedSimpArgs false
def getT (l : List UInt8) : Option (ByteArray × Nat) := match getN l with
 | none => none
 | some (n, k) => if l.length - k < n then none else some (strOf ((l.drop k).take n), k + n)
def getTR (o : Option (ByteArray × Nat)) : ByteArray × Int × Bool := match o with | none => (strOf [], 0, false) | some (s, k) => (s, (k : Int), true)
theorem gettext_of {f : List UInt8 → Option (Int × Int × Bool)} {k0 : List UInt8 → Int × Int × Bool → Option (ByteArray × Int × Bool)} (l : List UInt8) (hl : l.length ≤ 1099511627776) (hf : f l = some (getR (getN l)))
  (hk : ∀ n k : Nat, k ≤ l.length → n ≤ l.length - k → k0 l ((n : Int), (k : Int), true) = some (strOf ((l.drop k).take n), ((k + n : Nat) : Int), true)) :
  Option.bind (f l) (fun (x3 : Int × Int × Bool) => Option.bind (if (!x3.2.2) = true then (some (Sum.inr ((strOf []), 0, false))) else (if (decide ((IntKind.u64.wrap (IntKind.i64.wrap ((List.length l : Int) - x3.2.1))) < x3.1)) = true then (some (Sum.inr ((strOf []), 0, false))) else (some (Sum.inl ())))) (Sum.elim (fun (s : Unit) => k0 l x3) some)) = some (getTR (getT l)) := by
 rw [hf]
 cases h : getN l with
 | none => simp [getR, getT, h, getTR]
 | some p =>
  obtain ⟨n, k⟩ := p
  obtain ⟨h1, h2⟩ := getA_len _ _ _ _ h
  have hw : IntKind.u64.wrap (IntKind.i64.wrap ((l.length : Int) - (k : Int))) = ((l.length - k : Nat) : Int) := by
   rw [w64 (by omega) (by omega), show ((l.length : Int) - (k : Int)) = ((l.length - k : Nat) : Int) by omega, wrap_u64 _ (by omega)]
  simp only [getR, Option.bind_some, Bool.not_true, Bool.false_eq_true, if_false, hw, getT, h]
  by_cases hn : l.length - k < n
  ·simp only [dec_t (by omega : ((l.length - k : Nat) : Int) < (n : Int)), if_true, Option.bind_some, Sum.elim_inr, if_pos hn, getTR]
  ·simp only [dec_f (by omega : ¬ ((l.length - k : Nat) : Int) < (n : Int)), Bool.false_eq_true, if_false, Option.bind_some, Sum.elim_inl, if_neg hn, getTR]
   exact hk n k h2 (by omega)
theorem k0_text {l : List UInt8} (hl : l.length ≤ 1099511627776) {n k : Nat} (h1 : k ≤ l.length) (h2 : n ≤ l.length - k) :
  gd (0 ≤ (k : Int)) (gd ((k : Int) ≤ (IntKind.i64.wrap ((k : Int) + (IntKind.i64.wrap (n : Int))))) (gd ((IntKind.i64.wrap ((k : Int) + (IntKind.i64.wrap (n : Int)))) ≤ (List.length l : Int)) (some ((strOf (List.drop (Int.toNat (k : Int)) (List.take (Int.toNat (IntKind.i64.wrap ((k : Int) + (IntKind.i64.wrap (n : Int))))) l))), (IntKind.i64.wrap ((k : Int) + (IntKind.i64.wrap (n : Int)))), true))))
   = some (strOf ((l.drop k).take n), ((k + n : Nat) : Int), true) := by
 have hw : IntKind.i64.wrap (n : Int) = (n : Int) := w64 (by omega) (by omega)
 have hw2 : IntKind.i64.wrap ((k : Int) + (n : Int)) = ((k + n : Nat) : Int) := by rw [w64 (by omega) (by omega)]; push_cast; rfl
 rw [hw, hw2, gd_pos (by omega), gd_pos (by omega), gd_pos (by omega), Int.toNat_natCast, Int.toNat_natCast, List.drop_take, Nat.add_sub_cancel_left]
theorem rgettext_spec (l : List UInt8) (hl : l.length ≤ 1099511627776) : gleaningref1_GetText l = some (getTR (getT l)) :=
 gettext_of l hl (rget_spec l (by omega)) fun n k h1 h2 => k0_text hl h1 h2
def textB (s : ByteArray) : List UInt8 := putN s.size ++ bytesOf s
theorem rtext_spec (l : List UInt8) (s : ByteArray) (hl : l.length ≤ 549755813888) (hs : s.size ≤ 274877906944) : gleaningref1_Text l s = some (l ++ textB s) := by
 have hw : IntKind.u64.wrap (s.size : Int) = (s.size : Int) := wrap_u64 _ (by omega)
 have hp := putN_len10 (n := s.size) (by omega)
 rw [gleaningref1_Text, hw, rput_spec l s.size (by omega) (by omega), Option.bind_some, gd_pos (by simp [bytesOf_length]; omega), List.append_assoc, textB]
end Go.Proofs.Ytdhpmlgalddgfaa.Ab
namespace Go.Proofs.Ytdhpmlgalddgfaa.Ab
open Go Go.RowKit
set_option linter.unusedVariables false
set_option linter.unusedSimpArgs false
theorem fuPos : Fu = 1208925819614629174706175 + 1 := rfl
theorem loop_now {σ ρ : Type} {body : σ → Option (σ ⊕ ρ)} {s : σ} {r : ρ} (h : body s = some (.inr r)) : loopN body Fu s = some r := by rw [fuPos]; exact loop_r h
theorem ksuc {k : Nat} (h : k < 1099511627776) : IntKind.i64.wrap ((k : Int) + 1) = ((k + 1 : Nat) : Int) := by rw [w64 (by omega) (by omega)]; push_cast; rfl
def isU (n : Int) : Prop := 0 ≤ n ∧ n < 18446744073709551616
def numsB (l : List Int) : List UInt8 := l.flatMap fun n => putN n.toNat
def textsB (l : List ByteArray) : List UInt8 := l.flatMap textB
theorem numsB_le : ∀ (l : List Int), (∀ n ∈ l, isU n) → (numsB l).length ≤ 10 * l.length
 | [], _ => by simp [numsB]
 | n :: l, h => by
  have h1 := h n List.mem_cons_self
  have h2 := numsB_le l fun m hm => h m (List.mem_cons_of_mem _ hm)
  have h3 := putN_len10 (n := n.toNat) (by have := h1.2; have := h1.1; omega)
  simp only [numsB, List.flatMap_cons, List.length_append, List.length_cons] at h2 ⊢; omega
theorem textB_le (s : ByteArray) (h : s.size < 18446744073709551616) : (textB s).length ≤ s.size + 10 := by
 have := putN_len10 (n := s.size) h
 simp [textB, bytesOf_length]; omega
theorem textsB_le : ∀ (l : List ByteArray) (m : Nat), m < 18446744073709551616 → (∀ s ∈ l, s.size ≤ m) → (textsB l).length ≤ (m + 10) * l.length
 | [], m, _, _ => by simp [textsB]
 | s :: l, m, hm, h => by
  have h2 := textsB_le l m hm fun m hm => h m (List.mem_cons_of_mem _ hm)
  have h4 := h s List.mem_cons_self
  have h3 := textB_le s (by omega)
  simp only [textsB, List.flatMap_cons, List.length_append, List.length_cons, Nat.mul_add] at h2 ⊢; omega
theorem numsB_app (a b : List Int) : numsB (a ++ b) = numsB a ++ numsB b := by simp [numsB]
theorem textsB_app (a b : List ByteArray) : textsB (a ++ b) = textsB a ++ textsB b := by simp [textsB]
theorem wide1_spec (l : List UInt8) (n : Nat) (hn : n < 18446744073709551616) (hl : l.length ≤ 1099511627700) : loopN (fun (s : List UInt8 × Int) => ints_Writer_Wide_l2 s.1 s.2) Fu (l, (n : Int)) = some (l ++ (putN n).dropLast, (((putN n).getLast (List.ne_nil_of_length_pos (putN_pos n))).toNat : Int)) := by
 have hlen := putN_len10 hn
 refine loop_fu (fun m s r => ∃ (a : Nat) (o : List UInt8), s = (o, (a : Int)) ∧ m = (putN a).length ∧ a < 18446744073709551616 ∧ r = (o ++ (putN a).dropLast, (((putN a).getLast (List.ne_nil_of_length_pos (putN_pos a))).toNat : Int)) ∧ o.length + (putN a).length ≤ 1099511627710) ?_ ⟨n, l, rfl, rfl, hn, rfl, by omega⟩ (by omega)
 rintro m s r ⟨a, o, rfl, rfl, ha, rfl, hb⟩
 by_cases h : a < 128
 ·refine .inr ?_
  have hd : ¬ ((128 : Int) ≤ (a : Int)) := by omega
  simp only [ints_Writer_Wide_l2, dec_f hd, ite_ff, putN_lt h, List.getLast_singleton, List.dropLast_singleton, List.append_nil]
  congr 3
  simp; omega
 ·refine .inl ⟨(o ++ [UInt8.ofNat (a % 128 + 128)], ((a / 128 : Nat) : Int)), (putN (a / 128)).length, ?_, by rw [putN_ge h]; simp, a / 128, _, rfl, rfl, by omega, ?_, ?_⟩
  ·have hd : ((128 : Int) ≤ (a : Int)) := by omega
   have hp := putN_pos (a / 128)
   rw [putN_ge h] at hb
   simp only [List.length_cons] at hb
   simp only [ints_Writer_Wide_l2, dec_t hd, ite_tt, u8_or128, shr7]
   exact gd_some' (fitg (by simp; omega)) rfl
  ·have hne : putN (a / 128) ≠ [] := List.ne_nil_of_length_pos (putN_pos _)
   simp only [putN_ge h, List.getLast_cons hne, List.dropLast_cons_of_ne_nil hne, List.append_assoc, List.singleton_append]
  ·rw [putN_ge h] at hb; simp only [List.length_cons, List.length_append, List.length_nil] at hb ⊢; omega
theorem wide_spec (w : Writer) (l : List Int) (hu : ∀ n ∈ l, isU n) (hl : w.B.length + 10 * l.length ≤ 1099511627000) : ints_Writer_Wide w l = some ⟨w.B ++ numsB l⟩ := by
 refine loop_list (l := l) (fun k r s => s = (w.B ++ numsB (l.take k), (k : Int)) ∧ r = ⟨w.B ++ numsB l⟩) (by omega) ?_ ?_ ⟨by simp [numsB], rfl⟩
 ·rintro k hk r s ⟨rfl, rfl⟩
  obtain ⟨h0, h1⟩ := hu l[k] (List.getElem_mem hk)
  obtain ⟨m, hm⟩ := Int.eq_ofNat_of_zero_le h0
  have hm2 : m < 18446744073709551616 := by omega
  have hle := numsB_le (l.take k) fun y hy => hu y (List.mem_of_mem_take hy)
  have hle2 : (l.take k).length ≤ l.length := by simp; omega
  have hp := putN_len10 hm2
  refine .inl ⟨(w.B ++ numsB (l.take (k + 1)), ((k + 1 : Nat) : Int)), ?_, rfl, rfl⟩
  simp only [ints_Writer_Wide_l0, dec_t (by omega : (k : Int) < (l.length : Int)), if_true, gd_pos (by omega : (0 : Int) ≤ (k : Int)), Int.toNat_natCast, List.getElem?_eq_getElem hk, Option.bind_some, hm]
  rw [wide1_spec _ m hm2 (by simp only [List.length_append]; omega), Option.bind_some, ints_Writer_Wide_k1]
  have e : u8 (IntKind.u8.wrap ((((putN m).getLast (List.ne_nil_of_length_pos (putN_pos m))).toNat : Nat) : Int)) = (putN m).getLast (List.ne_nil_of_length_pos (putN_pos m)) := by rw [u8_wrap_nat]; simp
  have hdl : (putN m).dropLast.length ≤ 10 := by rw [List.length_dropLast]; omega
  dsimp only
  rw [e, gd_pos (fitg (by simp only [List.length_append, List.length_cons, List.length_nil]; omega)), ksuc (by omega), List.append_assoc, List.dropLast_concat_getLast, List.append_assoc, List.take_succ_eq_append_getElem hk, numsB_app, hm]
  simp [numsB]
 ·rintro r s ⟨rfl, rfl⟩
  simp only [ints_Writer_Wide_l0, dec_f (by omega : ¬ (l.length : Int) < (l.length : Int)), Bool.false_eq_true, if_false, List.take_length]
theorem num_spec (w : Writer) (l : List Int) (hu : ∀ n ∈ l, 0 ≤ n ∧ n < 9223372036854775808) (hl : w.B.length + 10 * l.length ≤ 1099511627000) : ints_Writer_Num w l = some ⟨w.B ++ numsB l⟩ := by
 refine loop_list (l := l) (fun k r s => s = (w.B ++ numsB (l.take k), (k : Int)) ∧ r = ⟨w.B ++ numsB l⟩) (by omega) ?_ ?_ ⟨by simp [numsB], rfl⟩
 ·rintro k hk r s ⟨rfl, rfl⟩
  obtain ⟨h0, h1⟩ := hu l[k] (List.getElem_mem hk)
  have hle := numsB_le (l.take k) fun y hy => ⟨(hu y (List.mem_of_mem_take hy)).1, by have := (hu y (List.mem_of_mem_take hy)).2; omega⟩
  have hle2 : (l.take k).length ≤ k := by simp; omega
  refine .inl ⟨(w.B ++ numsB (l.take (k + 1)), ((k + 1 : Nat) : Int)), ?_, rfl, rfl⟩
  simp only [ints_Writer_Num_l0, dec_t (by omega : (k : Int) < (l.length : Int)), if_true, gd_pos (by omega : (0 : Int) ≤ (k : Int)), Int.toNat_natCast, List.getElem?_eq_getElem hk, Option.bind_some, wu64 h0 (by omega)]
  rw [wide_spec _ _ (fun n hn => by rw [List.mem_singleton.1 hn]; exact ⟨h0, by omega⟩) (by simp only [List.length_append, List.length_cons, List.length_nil]; omega), Option.bind_some, ksuc (by omega), List.take_succ_eq_append_getElem hk, numsB_app, List.append_assoc]
 ·rintro r s ⟨rfl, rfl⟩
  simp only [ints_Writer_Num_l0, dec_f (by omega : ¬ (l.length : Int) < (l.length : Int)), Bool.false_eq_true, if_false, List.take_length]
theorem wtext_spec (w : Writer) (l : List ByteArray) (m : Nat) (hm : m ≤ 1000000) (hu : ∀ s ∈ l, s.size ≤ m) (hl : w.B.length + (m + 10) * l.length ≤ 1099500000000) : ints_Writer_Text w l = some ⟨w.B ++ textsB l⟩ := by
 have hll : l.length ≤ (m + 10) * l.length := Nat.le_mul_of_pos_left _ (by omega)
 refine loop_list (l := l) (fun k r s => s = (w.B ++ textsB (l.take k), (k : Int)) ∧ r = ⟨w.B ++ textsB l⟩) (by omega) ?_ ?_ ⟨by simp [textsB], rfl⟩
 ·rintro k hk r s ⟨rfl, rfl⟩
  have hs := hu l[k] (List.getElem_mem hk)
  have hle := textsB_le (l.take k) m (by omega) fun y hy => hu y (List.mem_of_mem_take hy)
  have hle2 : (m + 10) * (l.take k).length ≤ (m + 10) * l.length := Nat.mul_le_mul_left _ (by simp; omega)
  refine .inl ⟨(w.B ++ textsB (l.take (k + 1)), ((k + 1 : Nat) : Int)), ?_, rfl, rfl⟩
  have hn : numsB [((l[k].size : Nat) : Int)] = putN l[k].size := by simp [numsB]
  have hp := putN_len10 (n := l[k].size) (by omega)
  simp only [ints_Writer_Text_l0, dec_t (by omega : (k : Int) < (l.length : Int)), if_true, gd_pos (by omega : (0 : Int) ≤ (k : Int)), Int.toNat_natCast, List.getElem?_eq_getElem hk, Option.bind_some]
  rw [num_spec _ _ (fun n hn => by rw [List.mem_singleton.1 hn]; omega) (by simp only [List.length_append, List.length_cons, List.length_nil]; omega), Option.bind_some, hn]
  dsimp only
  rw [gd_pos (by simp only [List.length_append, bytesOf_length]; omega), ksuc (by omega), List.take_succ_eq_append_getElem hk, textsB_app, List.append_assoc, List.append_assoc]
  simp [textsB, textB]
 ·rintro r s ⟨rfl, rfl⟩
  simp only [ints_Writer_Text_l0, dec_f (by omega : ¬ (l.length : Int) < (l.length : Int)), Bool.false_eq_true, if_false, List.take_length]
def bitI (b : Bool) : Int := if b = true then 1 else 0
theorem flag_spec (w : Writer) (b : Bool) (hl : w.B.length ≤ 1099511626000) : ints_Writer_Flag w b = some ⟨w.B ++ numsB [bitI b]⟩ := by
 have h : ints_Writer_Flag w b = ints_Writer_Flag_k0 w (bitI b) := by cases b <;> rfl
 rw [h, ints_Writer_Flag_k0, num_spec _ _ (fun n hn => by rw [List.mem_singleton.1 hn, bitI]; split <;> omega) (by simp; omega)]
 rfl
def pW (b : List UInt8) : Option (Int × List UInt8) := match getN b with | none => none | some (n, k) => some ((n : Int), b.drop k)
def pNum (top : Int) (b : List UInt8) : Option (Int × List UInt8) := match pW b with | none => none | some (n, r) => if top < n then none else some (n, r)
def pT (b : List UInt8) : Option (ByteArray × List UInt8) := match getT b with | none => none | some (s, k) => some (s, b.drop k)
theorem getA_sound : ∀ (l : List UInt8) (i n k : Nat), getA i l = some (n, k) → l.take k = putN n ∧ (0 < i → n ≠ 0)
 | [], i, n, k, h => by simp [getA] at h
 | c :: r, i, n, k, h => by
  simp only [getA] at h
  split at h
  ·cases h
  ·split at h
   ·rename_i h1
    rw [Option.map_eq_some_iff] at h
    obtain ⟨⟨a, b⟩, h2, h3⟩ := h
    injection h3 with h3 h4
    dsimp only at h3 h4
    obtain ⟨h5, h6⟩ := getA_sound r (i + 1) a b h2
    have h7 := h6 (by omega)
    have hc := c.toNat_lt
    have hc2 : UInt8.ofNat (n % 128 + 128) = c := by
     apply UInt8.toNat_inj.1
     rw [ofNat_toNat (by omega)]; omega
    refine ⟨?_, fun _ => by omega⟩
    rw [← h4, List.take_succ_cons, h5, putN_ge (n := n) (by omega), hc2, show n / 128 = a by omega]
   ·split at h
    ·cases h
    ·rename_i h1 h2
     injection h with h; injection h with h3 h4; subst h3 h4
     refine ⟨?_, fun hi hn => h2 (.inr ⟨hn, hi⟩)⟩
     rw [putN_lt (by omega)]
     simp
theorem pW_sound {b r : List UInt8} {n : Int} (h : pW b = some (n, r)) : isU n ∧ b = putN n.toNat ++ r := by
 unfold pW at h
 split at h
 ·cases h
 ·rename_i m k hg
  injection h with h; injection h with h1 h2; subst h1 h2
  have h3 := getA_lt b 0 m k (by omega) hg
  refine ⟨⟨by omega, by simp at h3; omega⟩, ?_⟩
  rw [Int.toNat_natCast, ← (getA_sound b 0 m k hg).1, List.take_append_drop]
theorem pW_put {n : Int} (h : isU n) (r : List UInt8) : pW (putN n.toNat ++ r) = some (n, r) := by
 obtain ⟨h0, h1⟩ := h
 unfold pW
 rw [getN_put (by omega)]
 simp only [List.drop_left]
 congr 2; omega
theorem pNum_sound {b r : List UInt8} {n top : Int} (h : pNum top b = some (n, r)) : isU n ∧ n ≤ top ∧ b = putN n.toNat ++ r := by
 unfold pNum at h
 split at h
 ·cases h
 ·rename_i m q hg
  split at h
  ·cases h
  ·injection h with h; injection h with h1 h2; subst h1 h2
   have := pW_sound hg
   exact ⟨this.1, by omega, this.2⟩
theorem pNum_put {n top : Int} (h0 : 0 ≤ n) (h1 : n ≤ top) (ht : top < 18446744073709551616) (r : List UInt8) : pNum top (putN n.toNat ++ r) = some (n, r) := by
 unfold pNum
 rw [pW_put ⟨h0, by omega⟩]
 simp only [if_neg (by omega : ¬ top < n)]
theorem strOf_size (l : List UInt8) : (strOf l).size = l.length := by rw [← bytesOf_length, bytesOf_strOf]
theorem getT_len {b : List UInt8} {s : ByteArray} {k : Nat} (h : getT b = some (s, k)) : k ≤ b.length ∧ s.size ≤ b.length := by
 unfold getT at h
 split at h
 ·cases h
 ·rename_i n j hg
  split at h
  ·cases h
  ·injection h with h; injection h with h1 h2; subst h1 h2
   have := getA_len _ _ _ _ hg
   rw [strOf_size, List.length_take, List.length_drop]; omega
theorem pT_sound {b r : List UInt8} {s : ByteArray} (h : pT b = some (s, r)) : b = textB s ++ r := by
 unfold pT at h
 split at h
 ·cases h
 ·rename_i s' k hg
  injection h with h; injection h with h1 h2; subst h1 h2
  unfold getT at hg
  split at hg
  ·cases hg
  ·rename_i n j hg2
   split at hg
   ·cases hg
   ·rename_i hl
    injection hg with hg; injection hg with h1 h2; subst h1 h2
    have h3 := (getA_sound _ _ _ _ hg2).1
    have h4 := getA_len _ _ _ _ hg2
    have h5 : (strOf (List.take n (List.drop j b))).size = n := by rw [strOf_size, List.length_take, List.length_drop]; omega
    rw [textB, h5, bytesOf_strOf, ← h3]
    conv => lhs; rw [← List.take_append_drop j b, ← List.take_append_drop n (b.drop j), List.drop_drop]
    rw [List.append_assoc]
theorem pT_put (s : ByteArray) (h : s.size < 18446744073709551616) (r : List UInt8) : pT (textB s ++ r) = some (s, r) := by
 have h1 : textB s ++ r = putN s.size ++ (bytesOf s ++ r) := by simp [textB]
 have h2 : getT (textB s ++ r) = some (s, (putN s.size).length + s.size) := by
  simp only [getT, h1, getN_put h]
  rw [if_neg (by simp [bytesOf_length])]
  simp only [List.drop_left]
  rw [List.take_append_of_le_length (by simp [bytesOf_length]), List.take_of_length_le (by simp [bytesOf_length]), strOf_bytesOf]
 simp only [pT, h2]
 rw [h1, ← List.drop_drop, List.drop_left, List.drop_append_of_le_length (by simp [bytesOf_length]), List.drop_of_length_le (by simp [bytesOf_length]), List.nil_append]
theorem len_of {b c r : List UInt8} {m : Nat} (h : b = c ++ r) (hb : b.length ≤ m) : r.length ≤ m := by rw [h] at hb; simp at hb; omega
theorem rwide_bad : ints_Reader_Wide ⟨[], true⟩ = some (0, ⟨[], true⟩) := by
 simp only [ints_Reader_Wide, get_spec [] (by simp), Option.bind_some, if_true, ints_Reader_Wide_k1, Sum.elim_inr]
theorem rwide_no {b : List UInt8} (hl : b.length ≤ 1099511627776) (h : pW b = none) : ints_Reader_Wide ⟨b, false⟩ = some (0, ⟨[], true⟩) := by
 have hg : getN b = none := by
  unfold pW at h; split at h
  ·assumption
  ·cases h
 simp only [ints_Reader_Wide, get_spec b (by omega), hg, getR, Option.bind_some, Bool.false_eq_true, if_false, Bool.not_false, ints_Reader_Wide_k1, if_true, Sum.elim_inr]
theorem rwide_ok {b r : List UInt8} {n : Int} (hl : b.length ≤ 1099511627776) (h : pW b = some (n, r)) : ints_Reader_Wide ⟨b, false⟩ = some (n, ⟨r, false⟩) := by
 unfold pW at h
 split at h
 ·cases h
 ·rename_i m k hg
  injection h with h; injection h with h1 h2; subst h1 h2
  have h4 := getA_len _ _ _ _ hg
  simp only [ints_Reader_Wide, get_spec b (by omega), hg, getR, Option.bind_some, Bool.false_eq_true, if_false, Bool.not_true, ints_Reader_Wide_k1, Sum.elim_inl, ints_Reader_Wide_k0, gd_pos (by omega : (0 : Int) ≤ (k : Int)), gd_pos (by omega : (k : Int) ≤ (b.length : Int)), Int.toNat_natCast]
theorem rnum_bad {top : Int} (ht : 0 ≤ top) (h2 : top < 9223372036854775808) : ints_Reader_Num ⟨[], true⟩ top = some (0, ⟨[], true⟩) := by
 simp only [ints_Reader_Num, rwide_bad, Option.bind_some, wu64 ht (by omega), dec_f (by omega : ¬ top < 0), Bool.false_eq_true, if_false]
 rfl
theorem rnum_no {b : List UInt8} {top : Int} (ht : 0 ≤ top) (h2 : top < 9223372036854775808) (hl : b.length ≤ 1099511627776) (h : pNum top b = none) : ints_Reader_Num ⟨b, false⟩ top = some (0, ⟨[], true⟩) := by
 unfold pNum at h
 split at h
 ·rename_i hg
  simp only [ints_Reader_Num, rwide_no hl hg, Option.bind_some, wu64 ht (by omega), dec_f (by omega : ¬ top < 0), Bool.false_eq_true, if_false]
  rfl
 ·rename_i n r hg
  split at h
  ·rename_i hn
   simp only [ints_Reader_Num, rwide_ok hl hg, Option.bind_some, wu64 ht (by omega), dec_t hn, if_true]
  ·cases h
theorem rnum_ok {b r : List UInt8} {n top : Int} (ht : 0 ≤ top) (h2 : top < 9223372036854775808) (hl : b.length ≤ 1099511627776) (h : pNum top b = some (n, r)) : ints_Reader_Num ⟨b, false⟩ top = some (n, ⟨r, false⟩) := by
 have hs := pNum_sound h
 unfold pNum at h
 split at h
 ·cases h
 ·rename_i m q hg
  split at h
  ·cases h
  ·rename_i hn
   injection h with h; injection h with e1 e2; subst e1 e2
   simp only [ints_Reader_Num, rwide_ok hl hg, Option.bind_some, wu64 ht (by omega), dec_f hn, Bool.false_eq_true, if_false, w64 (by have := hs.1.1; omega) (by omega : m < 9223372036854775808)]
theorem rtext_bad : ints_Reader_Text ⟨[], true⟩ = some (strOf [], ⟨[], true⟩) := by
 have h0 : IntKind.u64.wrap 0 = 0 := rfl
 have h1 : IntKind.i64.wrap 0 = 0 := rfl
 simp only [ints_Reader_Text, ints_Reader_Count, rwide_bad, Option.bind_some, List.length_nil, Int.ofNat_zero, Int.natCast_zero, h0, dec_f (by omega : ¬ (0 : Int) < 0), Bool.false_eq_true, if_false, h1, ints_Reader_Take, if_true, ints_Reader_Take_k1, Sum.elim_inr]
theorem rtext_no {b : List UInt8} (hl : b.length ≤ 1099511627776) (h : pT b = none) : ints_Reader_Text ⟨b, false⟩ = some (strOf [], ⟨[], true⟩) := by
 have hT : getT b = none := by
  unfold pT at h; split at h
  ·assumption
  ·cases h
 have h0 : IntKind.u64.wrap 0 = 0 := rfl
 have h1 : IntKind.i64.wrap 0 = 0 := rfl
 have hbad : ints_Reader_Take ⟨[], true⟩ 0 = some ([], ⟨[], true⟩) := by simp only [ints_Reader_Take, if_true, Option.bind_some, ints_Reader_Take_k1, Sum.elim_inr]
 unfold getT at hT
 split at hT
 ·rename_i hg
  have hp : pW b = none := by unfold pW; rw [hg]
  simp only [ints_Reader_Text, ints_Reader_Count, rwide_no hl hp, Option.bind_some, List.length_nil, Int.natCast_zero, h0, dec_f (by omega : ¬ (0 : Int) < 0), Bool.false_eq_true, if_false, h1, hbad]
 ·rename_i n k hg
  split at hT
  ·rename_i hn
   have h4 := getA_len _ _ _ _ hg
   have hp : pW b = some ((n : Int), b.drop k) := by unfold pW; rw [hg]
   have hc : IntKind.u64.wrap ((List.drop k b).length : Int) = ((b.length - k : Nat) : Int) := by rw [List.length_drop]; exact wrap_u64 _ (by omega)
   simp only [ints_Reader_Text, ints_Reader_Count, rwide_ok hl hp, Option.bind_some, hc, dec_t (by omega : ((b.length - k : Nat) : Int) < (n : Int)), if_true, hbad]
  ·cases hT
theorem rtake_ok {b : List UInt8} {n : Nat} (hn : n ≤ b.length) : ints_Reader_Take ⟨b, false⟩ (n : Int) = some (b.take n, ⟨b.drop n, false⟩) := by
 simp only [ints_Reader_Take, Bool.false_eq_true, if_false, Option.bind_some, dec_f (by omega : ¬ (b.length : Int) < (n : Int)), ints_Reader_Take_k1, Sum.elim_inl, ints_Reader_Take_k0, gd_pos (by omega : (0 : Int) ≤ (n : Int)), gd_pos (by omega : (n : Int) ≤ (b.length : Int)), Int.toNat_natCast]
theorem rtake_no {b : List UInt8} {n : Nat} {f : Bool} (hn : f = true ∨ b.length < n) : ints_Reader_Take ⟨b, f⟩ (n : Int) = some ([], ⟨[], true⟩) := by
 cases f with
 | true => simp only [ints_Reader_Take, if_true, Option.bind_some, ints_Reader_Take_k1, Sum.elim_inr]
 | false =>
  have : b.length < n := by rcases hn with h | h; cases h; exact h
  simp only [ints_Reader_Take, Bool.false_eq_true, if_false, Option.bind_some, dec_t (by omega : (b.length : Int) < (n : Int)), ints_Reader_Take_k1, if_true, Sum.elim_inr]
theorem rtext_ok {b r : List UInt8} {s : ByteArray} (hl : b.length ≤ 1099511627776) (h : pT b = some (s, r)) : ints_Reader_Text ⟨b, false⟩ = some (s, ⟨r, false⟩) := by
 unfold pT at h
 split at h
 ·cases h
 ·rename_i s' k hg
  injection h with h; injection h with h1 h2; subst h1 h2
  unfold getT at hg
  split at hg
  ·cases hg
  ·rename_i n j hg2
   split at hg
   ·cases hg
   ·rename_i hn
    injection hg with hg; injection hg with h1 h2; subst h1 h2
    have h4 := getA_len _ _ _ _ hg2
    have hp : pW b = some ((n : Int), b.drop j) := by unfold pW; rw [hg2]
    have hc : IntKind.u64.wrap ((List.drop j b).length : Int) = ((b.length - j : Nat) : Int) := by rw [List.length_drop]; exact wrap_u64 _ (by omega)
    simp only [ints_Reader_Text, ints_Reader_Count, rwide_ok hl hp, Option.bind_some, hc, dec_f (by omega : ¬ ((b.length - j : Nat) : Int) < (n : Int)), Bool.false_eq_true, if_false, w64 (by omega) (by omega : (n : Int) < 9223372036854775808)]
    rw [rtake_ok (by rw [List.length_drop]; omega), Option.bind_some]
    simp only [List.drop_drop]
theorem rflag_bad : ints_Reader_Flag ⟨[], true⟩ = some (false, ⟨[], true⟩) := by
 rw [ints_Reader_Flag, rnum_bad (by omega) (by omega)]; rfl
theorem rflag_no {b : List UInt8} (hl : b.length ≤ 1099511627776) (h : pNum 1 b = none) : ints_Reader_Flag ⟨b, false⟩ = some (false, ⟨[], true⟩) := by
 rw [ints_Reader_Flag, rnum_no (by omega) (by omega) hl h]; rfl
theorem rflag_ok {b r : List UInt8} {n : Int} (hl : b.length ≤ 1099511627776) (h : pNum 1 b = some (n, r)) : ints_Reader_Flag ⟨b, false⟩ = some (n == 1, ⟨r, false⟩) := by
 rw [ints_Reader_Flag, rnum_ok (by omega) (by omega) hl h]; rfl
theorem xnum_bad {b : List UInt8} (hl : b.length ≤ 1099511627776) : gleaningref1_Reader_Num ⟨b, true⟩ = some (0, ⟨b, true⟩) := by
 simp only [gleaningref1_Reader_Num, rget_spec b (by omega), Option.bind_some, if_true, gleaningref1_Reader_Num_k1, Sum.elim_inr]
theorem xnum_no {b : List UInt8} (hl : b.length ≤ 1099511627776) (h : pW b = none) : gleaningref1_Reader_Num ⟨b, false⟩ = some (0, ⟨b, true⟩) := by
 have hg : getN b = none := by
  unfold pW at h; split at h
  ·assumption
  ·cases h
 simp only [gleaningref1_Reader_Num, rget_spec b (by omega), hg, getR, Option.bind_some, Bool.false_eq_true, if_false, Bool.not_false, gleaningref1_Reader_Num_k1, if_true, Sum.elim_inr]
theorem xnum_ok {b r : List UInt8} {n : Int} (hl : b.length ≤ 1099511627776) (h : pW b = some (n, r)) : gleaningref1_Reader_Num ⟨b, false⟩ = some (n, ⟨r, false⟩) := by
 unfold pW at h
 split at h
 ·cases h
 ·rename_i m k hg
  injection h with h; injection h with h1 h2; subst h1 h2
  have h4 := getA_len _ _ _ _ hg
  simp only [gleaningref1_Reader_Num, rget_spec b (by omega), hg, getR, Option.bind_some, Bool.false_eq_true, if_false, Bool.not_true, gleaningref1_Reader_Num_k1, Sum.elim_inl, gleaningref1_Reader_Num_k0, gd_pos (by omega : (0 : Int) ≤ (k : Int)), gd_pos (by omega : (k : Int) ≤ (b.length : Int)), Int.toNat_natCast]
theorem xint_bad {b : List UInt8} {top : Int} (ht : 0 ≤ top) (h2 : top < 9223372036854775808) (hl : b.length ≤ 1099511627776) : gleaningref1_Reader_Int ⟨b, true⟩ top = some (0, ⟨b, true⟩) := by
 simp only [gleaningref1_Reader_Int, xnum_bad hl, Option.bind_some, wu64 ht (by omega), dec_f (by omega : ¬ top < 0), Bool.false_eq_true, if_false]
 rfl
theorem xint_no {b : List UInt8} {top : Int} (ht : 0 ≤ top) (h2 : top < 9223372036854775808) (hl : b.length ≤ 1099511627776) (h : pNum top b = none) : ∃ r, r.length ≤ b.length ∧ gleaningref1_Reader_Int ⟨b, false⟩ top = some (0, ⟨r, true⟩) := by
 unfold pNum at h
 split at h
 ·rename_i hg
  refine ⟨b, Nat.le_refl _, ?_⟩
  simp only [gleaningref1_Reader_Int, xnum_no hl hg, Option.bind_some, wu64 ht (by omega), dec_f (by omega : ¬ top < 0), Bool.false_eq_true, if_false]
  rfl
 ·rename_i n r hg
  have hs := pW_sound hg
  split at h
  ·rename_i hn
   refine ⟨r, by rw [hs.2]; simp, ?_⟩
   simp only [gleaningref1_Reader_Int, xnum_ok hl hg, Option.bind_some, wu64 ht (by omega), dec_t hn, if_true]
  ·cases h
theorem xint_ok {b r : List UInt8} {n top : Int} (ht : 0 ≤ top) (h2 : top < 9223372036854775808) (hl : b.length ≤ 1099511627776) (h : pNum top b = some (n, r)) : gleaningref1_Reader_Int ⟨b, false⟩ top = some (n, ⟨r, false⟩) := by
 have hs := pNum_sound h
 unfold pNum at h
 split at h
 ·cases h
 ·rename_i m q hg
  split at h
  ·cases h
  ·rename_i hn
   injection h with h; injection h with e1 e2; subst e1 e2
   simp only [gleaningref1_Reader_Int, xnum_ok hl hg, Option.bind_some, wu64 ht (by omega), dec_f hn, Bool.false_eq_true, if_false, w64 (by have := hs.1.1; omega) (by omega : m < 9223372036854775808)]
theorem xtext_bad {b : List UInt8} (hl : b.length ≤ 1099511627776) : gleaningref1_Reader_Text ⟨b, true⟩ = some (strOf [], ⟨b, true⟩) := by
 simp only [gleaningref1_Reader_Text, rgettext_spec b hl, Option.bind_some, if_true, gleaningref1_Reader_Text_k1, Sum.elim_inr]
theorem xtext_no {b : List UInt8} (hl : b.length ≤ 1099511627776) (h : pT b = none) : gleaningref1_Reader_Text ⟨b, false⟩ = some (strOf [], ⟨b, true⟩) := by
 have hT : getT b = none := by
  unfold pT at h; split at h
  ·assumption
  ·cases h
 simp only [gleaningref1_Reader_Text, rgettext_spec b hl, hT, getTR, Option.bind_some, Bool.false_eq_true, if_false, Bool.not_false, gleaningref1_Reader_Text_k1, if_true, Sum.elim_inr]
theorem xtext_ok {b r : List UInt8} {s : ByteArray} (hl : b.length ≤ 1099511627776) (h : pT b = some (s, r)) : gleaningref1_Reader_Text ⟨b, false⟩ = some (s, ⟨r, false⟩) := by
 unfold pT at h
 split at h
 ·cases h
 ·rename_i s' k hg
  injection h with h; injection h with h1 h2; subst h1 h2
  have h4 := (getT_len hg).1
  simp only [gleaningref1_Reader_Text, rgettext_spec b hl, hg, getTR, Option.bind_some, Bool.false_eq_true, if_false, Bool.not_true, gleaningref1_Reader_Text_k1, Sum.elim_inl, gleaningref1_Reader_Text_k0, gd_pos (by omega : (0 : Int) ≤ (k : Int)), gd_pos (by omega : (k : Int) ≤ (b.length : Int)), Int.toNat_natCast]
end Go.Proofs.Ytdhpmlgalddgfaa.Ab
