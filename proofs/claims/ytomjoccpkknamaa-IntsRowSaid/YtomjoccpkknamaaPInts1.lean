/- Chapter 1's laws hold of the pure functions. -/
import Derived.Test.YtomjoccpkknamaaPInts
namespace Go.Proofs.Ytomjoccpkknamaa.Ab
open Go Go.RowKit
set_option linter.unusedVariables false
set_option linter.unusedSimpArgs false

theorem alive1 : gleaninglaw1_alive = some true := by
  have h1 := get_spec [172, 2, 9] (by decide)
  have h2 := put_spec [] 300 (by decide) (by decide)
  have h3 := text_spec [] (strOf [97, 98]) (by decide) (by decide)
  have e1 : getR (getN [172, 2, 9]) = (300, 2, true) := by decide +kernel
  have e2 : putN 300 = [172, 2] := by decide +kernel
  have e3 : textB (strOf [97, 98]) = [2, 97, 98] := by decide +kernel
  rw [e1] at h1
  rw [e2] at h2
  rw [e3] at h3
  simp only [gleaninglaw1_alive, h1, Option.bind_some, show ((300 : Nat) : Int) = 300 from rfl] at h2 ⊢
  rw [h2]
  simp only [Option.bind_some, toList_str, h3]
  rfl
theorem u64_nat {n : Int} (h : inI .u64 n) : ∃ m : Nat, n = (m : Int) ∧ m < 18446744073709551616 := by
  have := inU64 h
  exact ⟨n.toNat, by omega, by omega⟩
theorem intsTell_true (b : List UInt8) (n : Int) (s : ByteArray) (_ : b.length ≤ maxLen) (hn : inI .u64 n) (_ : s.size ≤ maxLen) : gleaninglaw1_IntsTell b n s = some true := by
  obtain ⟨m, rfl, hm⟩ := u64_nat hn
  simp only [gleaninglaw1_IntsTell, alive1, Option.bind_some, Bool.not_true, Bool.false_eq_true, if_false]
  by_cases a1 : (300 : Int) < (b.length : Int)
  · simp [a1]
  by_cases a2 : (300 : Int) < (s.size : Int)
  · simp [a1, a2]
  simp only [a1, a2, decide_false, Bool.false_eq_true, if_false, Option.bind_some, Sum.elim_inl, gleaninglaw1_IntsTell_k0]
  have hf : b.length * 1 ≤ 140737488355328 ∧ b.length ≤ 140737488355328 := by omega
  rw [gd_pos hf, get_spec b (by omega), rget_spec b (by omega), gettext_spec b (by omega), rgettext_spec b (by omega), put_spec b m hm (by omega), rput_spec b m hm (by omega), text_spec b s (by omega) (by omega), rtext_spec b s (by omega) (by omega)]
  simp only [gd_pos hf, Option.bind_some]
  simp
theorem intsBack_true (n : Int) (s : ByteArray) (more : List UInt8) (cut : Int) (hn : inI .u64 n) (_ : s.size ≤ maxLen) (_ : more.length ≤ maxLen) (hc : inI .i64 cut) : gleaninglaw1_IntsBack n s more cut = some true := by
  obtain ⟨m, rfl, hm⟩ := u64_nat hn
  simp only [gleaninglaw1_IntsBack, alive1, Option.bind_some, Bool.not_true, Bool.false_eq_true, if_false]
  by_cases a1 : (300 : Int) < (s.size : Int)
  · simp [a1]
  by_cases a2 : (100 : Int) < (more.length : Int)
  · simp [a1, a2]
  by_cases a3 : cut < 0
  · simp [a1, a2, a3]
  simp only [a1, a2, a3, decide_false, Bool.false_eq_true, if_false, Option.bind_some, Sum.elim_inl, gleaninglaw1_IntsBack_k0]
  obtain ⟨k, rfl⟩ := Int.eq_ofNat_of_zero_le (by omega : 0 ≤ cut)
  have p1 := putN_pos m
  have p2 := putN_len10 hm
  have p3 := putN_pos s.size
  have p4 := putN_len10 (n := s.size) (by omega)
  have hb : (textB s).length = (putN s.size).length + s.size := by simp [textB, bytesOf_length]
  rw [put_spec [] m hm (by simp), text_spec [] s (by simp) (by omega), List.nil_append, List.nil_append]
  simp only [Option.bind_some]
  have z1 : (((putN m).length : Int) == 0) = false := by simp only [beq_eq_false_iff_ne]; omega
  have z2 : (((textB s).length : Int) == 0) = false := by simp only [beq_eq_false_iff_ne]; omega
  simp only [z1, z2, Bool.false_eq_true, if_false, Option.bind_some, Sum.elim_inl, gleaninglaw1_IntsBack_k1]
  have g1 : (putN m).length * 1 ≤ 140737488355328 ∧ (putN m).length ≤ 140737488355328 := by omega
  have g2 : (putN m ++ more).length * 1 ≤ 140737488355328 ∧ (putN m ++ more).length ≤ 140737488355328 := by simp; omega
  have g3 : (textB s).length * 1 ≤ 140737488355328 ∧ (textB s).length ≤ 140737488355328 := by omega
  have g4 : (textB s ++ more).length * 1 ≤ 140737488355328 ∧ (textB s ++ more).length ≤ 140737488355328 := by simp; omega
  have t1 : Int.tmod (k : Int) ((putN m).length : Int) = ((k % (putN m).length : Nat) : Int) := by rw [Int.tmod_eq_emod_of_nonneg (by omega)]; rfl
  have t2 : Int.tmod (k : Int) ((textB s).length : Int) = ((k % (textB s).length : Nat) : Int) := by rw [Int.tmod_eq_emod_of_nonneg (by omega)]; rfl
  have l1 : k % (putN m).length < (putN m).length := Nat.mod_lt _ p1
  have l2 : k % (textB s).length < (textB s).length := Nat.mod_lt _ (by omega)
  have e1 : getR (getN (putN m ++ more)) = ((m : Int), ((putN m).length : Int), true) := by rw [getN_put hm]; rfl
  have e2 : getTR (getT (textB s ++ more)) = (s, ((textB s).length : Int), true) := by
    have : textB s ++ more = putN s.size ++ (bytesOf s ++ more) := by simp [textB]
    simp only [getT, this, getN_put (by omega : s.size < 18446744073709551616)]
    rw [if_neg (by simp [bytesOf_length])]
    simp only [getTR, List.drop_left, hb]
    rw [List.take_append_of_le_length (by simp [bytesOf_length]), List.take_of_length_le (by simp [bytesOf_length]), strOf_bytesOf]
  have e3 : getR (getN ((putN m).take (k % (putN m).length))) = (0, 0, false) := by rw [getN_cut hm l1]; rfl
  have e4 : getTR (getT ((textB s).take (k % (textB s).length))) = (strOf [], 0, false) := by
    have : getT ((textB s).take (k % (textB s).length)) = none := by
      by_cases h : k % (textB s).length < (putN s.size).length
      · have : (textB s).take (k % (textB s).length) = (putN s.size).take (k % (textB s).length) := by
          generalize k % (textB s).length = j at h
          rw [textB, List.take_append_of_le_length (by omega)]
        rw [this, getT, getN_cut (by omega) h]
      · have : (textB s).take (k % (textB s).length) = putN s.size ++ (bytesOf s).take (k % (textB s).length - (putN s.size).length) := by
          have hk : (putN s.size).length ≤ k % (textB s).length := by omega
          generalize k % (textB s).length = j at hk
          rw [textB, List.take_append, List.take_of_length_le hk]
        rw [this]
        simp only [getT, getN_put (by omega : s.size < 18446744073709551616)]
        rw [if_pos (by simp [bytesOf_length]; omega)]
    rw [this]; rfl
  have q1 := get_spec (putN m ++ more) (by simp; omega)
  have q2 := gettext_spec (textB s ++ more) (by simp; omega)
  have q3 := get_spec ((putN m).take (k % (putN m).length)) (by simp; omega)
  have q4 := gettext_spec ((textB s).take (k % (textB s).length)) (by simp; omega)
  rw [e1] at q1
  rw [e2] at q2
  rw [e3] at q3
  rw [e4] at q4
  simp only [gd_pos g1, gd_pos g2, gd_pos g3, gd_pos g4, q1, q2, Option.bind_some, t1, t2, gd_pos (by omega : ¬ ((putN m).length : Int) = 0), gd_pos (by omega : ¬ ((textB s).length : Int) = 0), gd_pos (by omega : (0 : Int) ≤ ((k % (putN m).length : Nat) : Int)), gd_pos (by omega : (0 : Int) ≤ ((k % (textB s).length : Nat) : Int)),
    gd_pos (by omega : ((k % (putN m).length : Nat) : Int) ≤ ((putN m).length : Int)), gd_pos (by omega : ((k % (textB s).length : Nat) : Int) ≤ ((textB s).length : Int)), Int.toNat_natCast, q3, q4, Bool.not_false, if_true, beq_self_eq_true, dec_t (by omega : ((putN m).length : Int) ≤ 10)]
theorem intsShort_true (n pad : Int) (hn : inI .u64 n) (hp : inI .i64 pad) : gleaninglaw1_IntsShort n pad = some true := by
  obtain ⟨m, rfl, hm⟩ := u64_nat hn
  simp only [gleaninglaw1_IntsShort, alive1, Option.bind_some, Bool.not_true, Bool.false_eq_true, if_false]
  by_cases a1 : pad < 1
  · simp [a1]
  by_cases a2 : (5 : Int) < pad
  · simp [a1, a2]
  simp only [a1, a2, decide_false, Bool.false_eq_true, if_false, Option.bind_some, Sum.elim_inl, gleaninglaw1_IntsShort_k0]
  have p1 := putN_pos m
  have p2 := putN_len10 hm
  rw [put_spec [] m hm (by simp), List.nil_append]
  simp only [Option.bind_some]
  have hloop : loopN (fun (s : Int × Int) => gleaninglaw1_IntsShort_l2 s.1 s.2) Fu (1, (Int.fdiv (m : Int) (2 ^ (min (Int.toNat 7) (IntKind.bits .u64))))) = some ((putN m).length : Int) := by
    rw [shr7]
    refine loop_fu (fun k s r => ∃ (a j : Nat), s = ((j : Int), ((a / 128 : Nat) : Int)) ∧ k = (putN a).length ∧ (putN a).length ≤ 10 ∧ j ≤ 20 - (putN a).length ∧ r = ((j - 1 + (putN a).length : Nat) : Int) ∧ 1 ≤ j) ?_ ⟨m, 1, rfl, rfl, p2, by omega, by simp, by omega⟩ (by omega)
    rintro k s r ⟨a, j, rfl, rfl, h10, hj, rfl, h1⟩
    by_cases h : a < 128
    · refine .inr ?_
      have : a / 128 = 0 := by omega
      simp only [gleaninglaw1_IntsShort_l2, this, putN_lt h, List.length_singleton, dec_f (by omega : ¬ (0 : Int) < ((0 : Nat) : Int)), Bool.false_eq_true, if_false]
      congr 2; omega
    · have hl : (putN a).length = (putN (a / 128)).length + 1 := by rw [putN_ge h]; rfl
      have hp0 := putN_pos (a / 128)
      refine .inl ⟨(((j + 1 : Nat) : Int), ((a / 128 / 128 : Nat) : Int)), (putN (a / 128)).length, ?_, by omega, a / 128, j + 1, rfl, rfl, by omega, by omega, by rw [hl]; congr 1; omega, by omega⟩
      simp only [gleaninglaw1_IntsShort_l2, dec_t (by omega : (0 : Int) < ((a / 128 : Nat) : Int)), if_true, shr7]
      rw [w64 (by omega) (by omega)]; push_cast; rfl
  rw [hloop]
  simp only [Option.bind_some, gleaninglaw1_IntsShort_k1, bne_self_eq_false, Bool.false_eq_true, if_false]
  have hw : IntKind.i64.wrap (((putN m).length : Int) - 1) = (((putN m).length - 1 : Nat) : Int) := by rw [w64 (by omega) (by omega)]; omega
  have hlt : (putN m).length - 1 < (putN m).length := by omega
  have g1 : (putN m).length * 1 ≤ 140737488355328 ∧ (putN m).length ≤ 140737488355328 := by omega
  simp only [gd_pos g1, hw, gd_pos (by omega : (0 : Int) ≤ (((putN m).length - 1 : Nat) : Int)), Int.toNat_natCast, List.getElem?_eq_getElem hlt, Option.bind_some]
  have hu : ∀ c : UInt8, 128 ≤ (u8 (bits .or .u8 (c.toNat : Int) 128)).toNat := all_u8 (p := fun c => 128 ≤ (u8 (bits .or .u8 (c.toNat : Int) 128)).toNat) (by decide +kernel)
  generalize hx : (putN m)[(putN m).length - 1] = c
  have hset : (putN m).set ((putN m).length - 1) (u8 (bits .or .u8 (c.toNat : Int) 128)) = (putN m).dropLast ++ [u8 (bits .or .u8 (c.toNat : Int) 128)] := by
    have hne : putN m ≠ [] := List.ne_nil_of_length_pos p1
    conv => lhs; rw [← List.dropLast_concat_getLast hne]
    rw [List.set_append_right _ _ (by simp)]
    simp
  have hhigh : ∀ d ∈ (putN m).set ((putN m).length - 1) (u8 (bits .or .u8 (c.toNat : Int) 128)), 128 ≤ d.toNat := by
    rw [hset]
    intro d hd
    rcases List.mem_append.1 hd with hd | hd
    · exact putN_high 64 m hm d hd
    · rw [List.mem_singleton.1 hd]; exact hu c
  have hlen : ((putN m).set ((putN m).length - 1) (u8 (bits .or .u8 (c.toNat : Int) 128))).length = (putN m).length := by simp
  generalize (putN m).set ((putN m).length - 1) (u8 (bits .or .u8 (c.toNat : Int) 128)) = lg at hhigh hlen ⊢
  obtain ⟨q, hq⟩ := Int.eq_ofNat_of_zero_le (by omega : 0 ≤ pad)
  subst hq
  have hloop2 : loopN (fun (s : List UInt8 × Int) => gleaninglaw1_IntsShort_l4 (q : Int) s.1 s.2) Fu (lg, 1) = some (lg ++ List.replicate (q - 1) 128) := by
    refine loop_fu (fun k s r => ∃ (o : List UInt8) (j : Nat), s = (o, (j : Int)) ∧ k = q - j ∧ j ≤ q ∧ 1 ≤ j ∧ o.length ≤ 10 + j ∧ r = o ++ List.replicate (q - j) 128) ?_ ⟨lg, 1, rfl, rfl, by omega, by omega, by omega, rfl⟩ (by omega)
    rintro k s r ⟨o, j, rfl, rfl, hj, h1, ho, rfl⟩
    by_cases h : j = q
    · subst h
      refine .inr ?_
      simp only [gleaninglaw1_IntsShort_l4, dec_f (by omega : ¬ (j : Int) < (j : Int)), Bool.false_eq_true, if_false]
      simp
    · refine .inl ⟨(o ++ [128], ((j + 1 : Nat) : Int)), q - (j + 1), ?_, by omega, _, j + 1, rfl, rfl, by omega, by omega, by simp; omega, ?_⟩
      · simp only [gleaninglaw1_IntsShort_l4, dec_t (by omega : (j : Int) < (q : Int)), if_true]
        rw [gd_pos (by simp; omega), w64 (by omega) (by omega)]; push_cast; rfl
      · rw [List.append_assoc, show q - j = (q - (j + 1)) + 1 by omega, List.replicate_succ]; rfl
  rw [hloop2]
  simp only [Option.bind_some, gleaninglaw1_IntsShort_k3]
  rw [gd_pos (by simp; omega), get_spec _ (by simp; omega)]
  have hh : ∀ d ∈ lg ++ List.replicate (q - 1) 128, 128 ≤ d.toNat := by
    intro d hd
    rcases List.mem_append.1 hd with hd | hd
    · exact hhigh d hd
    · rw [List.eq_of_mem_replicate hd]; decide
  have hpos : 0 < (lg ++ List.replicate (q - 1) 128).length := by rw [List.length_append]; omega
  have key : ∀ (l : List UInt8) (i : Nat), (∀ d ∈ l, 128 ≤ d.toNat) → (0 < l.length ∨ 0 < i) → getA i (l ++ [0]) = none := by
    intro l
    induction l with
    | nil =>
      intro i _ h
      rcases h with h | h
      · simp at h
      · simp [getA]; omega
    | cons c r ih =>
      intro i h _
      simp only [List.cons_append, getA, if_pos (h c List.mem_cons_self), ih (i + 1) (fun d hd => h d (List.mem_cons_of_mem _ hd)) (.inr (by omega))]
      split <;> rfl
  rw [getN, key _ 0 hh (.inl hpos)]
  rfl
theorem getN_put' {n : Nat} (h : n < 18446744073709551616) (more : List UInt8) : getR (getN (putN n ++ more)) = ((n : Int), ((putN n).length : Int), true) := by rw [getN_put h]; rfl
theorem getT_text (s : ByteArray) (h : s.size < 18446744073709551616) (more : List UInt8) : getTR (getT (textB s ++ more)) = (s, ((textB s).length : Int), true) := by
  have : textB s ++ more = putN s.size ++ (bytesOf s ++ more) := by simp [textB]
  simp only [getT, this, getN_put h]
  rw [if_neg (by simp [bytesOf_length])]
  simp only [getTR, List.drop_left, textB, List.length_append, bytesOf_length]
  rw [List.take_append_of_le_length (by simp [bytesOf_length]), List.take_of_length_le (by simp [bytesOf_length]), strOf_bytesOf]
def numsB (l : List Int) : List UInt8 := l.flatMap fun n => putN n.toNat
def textsB (l : List ByteArray) : List UInt8 := l.flatMap textB
theorem numsB_le : ∀ (l : List Int), (∀ n ∈ l, inI .u64 n) → (numsB l).length ≤ 10 * l.length
  | [], _ => by simp [numsB]
  | n :: l, h => by
    have h1 := inU64 (h n List.mem_cons_self)
    have h2 := numsB_le l fun m hm => h m (List.mem_cons_of_mem _ hm)
    have h3 := putN_len10 (n := n.toNat) (by omega)
    simp only [numsB, List.flatMap_cons, List.length_append, List.length_cons] at h2 ⊢; omega
theorem textB_le (s : ByteArray) (h : s.size ≤ 100) : (textB s).length ≤ 110 := by
  have := putN_len10 (n := s.size) (by omega)
  simp [textB, bytesOf_length]; omega
theorem textsB_le : ∀ (l : List ByteArray), (∀ s ∈ l, s.size ≤ 100) → (textsB l).length ≤ 110 * l.length
  | [], _ => by simp [textsB]
  | s :: l, h => by
    have h2 := textsB_le l fun m hm => h m (List.mem_cons_of_mem _ hm)
    have h3 := textB_le s (h s List.mem_cons_self)
    simp only [textsB, List.flatMap_cons, List.length_append, List.length_cons] at h2 ⊢; omega
theorem numsB_app (a b : List Int) : numsB (a ++ b) = numsB a ++ numsB b := by simp [numsB]
theorem textsB_app (a b : List ByteArray) : textsB (a ++ b) = textsB a ++ textsB b := by simp [textsB]
theorem intsRow_true (ns : List Int) (ss : List ByteArray) (hn : ns.length ≤ maxLen ∧ ∀ y ∈ ns, inI .u64 y) (hs : ss.length ≤ maxLen ∧ ∀ y ∈ ss, y.size ≤ maxLen) : gleaninglaw1_IntsRow ns ss = some true := by
  simp only [gleaninglaw1_IntsRow, alive1, Option.bind_some, Bool.not_true, Bool.false_eq_true, if_false]
  by_cases a1 : (20 : Int) < (ns.length : Int)
  · simp [a1]
  by_cases a2 : (20 : Int) < (ss.length : Int)
  · simp [a1, a2]
  simp only [a1, a2, decide_false, Bool.false_eq_true, if_false, Option.bind_some, Sum.elim_inl, gleaninglaw1_IntsRow_k0]
  have hl1 := numsB_le ns hn.2
  have w1 : ∀ j : Nat, j < 100 → IntKind.i64.wrap ((j : Int) + 1) = ((j + 1 : Nat) : Int) := fun j hj => by rw [w64 (by omega) (by omega)]; push_cast; rfl
  -- numbers written
  have hA : loopN (fun (s : List UInt8 × Int) => gleaninglaw1_IntsRow_l2 ns s.1 s.2) Fu ([], 0) = some (numsB ns) := by
    refine loop_list (l := ns) (fun k r s => s = (numsB (ns.take k), (k : Int)) ∧ r = numsB ns) (by omega) ?_ ?_ ⟨by simp [numsB], rfl⟩
    · rintro k hk r s ⟨rfl, rfl⟩
      obtain ⟨m, hm, hm2⟩ := u64_nat (hn.2 ns[k] (List.getElem_mem hk))
      have hle := numsB_le (ns.take k) fun y hy => hn.2 y (List.mem_of_mem_take hy)
      have hle2 : (ns.take k).length ≤ 20 := by simp; omega
      refine .inl ⟨(numsB (ns.take (k + 1)), ((k + 1 : Nat) : Int)), ?_, rfl, rfl⟩
      simp only [gleaninglaw1_IntsRow_l2, dec_t (by omega : (k : Int) < (ns.length : Int)), if_true, gd_pos (by omega : (0 : Int) ≤ (k : Int)), Int.toNat_natCast, List.getElem?_eq_getElem hk, Option.bind_some, hm]
      rw [put_spec _ m hm2 (by omega), Option.bind_some, w1 k (by omega), List.take_succ_eq_append_getElem hk, numsB_app, hm]
      simp [numsB]
    · rintro r s ⟨rfl, rfl⟩
      simp only [gleaninglaw1_IntsRow_l2, dec_f (by omega : ¬ (ns.length : Int) < (ns.length : Int)), Bool.false_eq_true, if_false, List.take_length]
  rw [hA, Option.bind_some, gleaninglaw1_IntsRow_k1]
  -- texts written: all are short, or it ends
  have hB : (loopN (fun (s : List UInt8 × Int) => gleaninglaw1_IntsRow_l4 ss s.1 s.2) Fu (numsB ns, 0) = some (.inr true)) ∨ ((∀ s ∈ ss, s.size ≤ 100) ∧ loopN (fun (s : List UInt8 × Int) => gleaninglaw1_IntsRow_l4 ss s.1 s.2) Fu (numsB ns, 0) = some (.inl (numsB ns ++ textsB ss))) := by
    by_cases hall : ∀ s ∈ ss, s.size ≤ 100
    · refine .inr ⟨hall, loop_list (l := ss) (fun k r s => s = (numsB ns ++ textsB (ss.take k), (k : Int)) ∧ r = .inl (numsB ns ++ textsB ss)) (by omega) ?_ ?_ ⟨by simp [textsB], rfl⟩⟩
      · rintro k hk r s ⟨rfl, rfl⟩
        have hsz := hall ss[k] (List.getElem_mem hk)
        have hle := textsB_le (ss.take k) fun y hy => hall y (List.mem_of_mem_take hy)
        have hle2 : (ss.take k).length ≤ 20 := by simp; omega
        refine .inl ⟨(numsB ns ++ textsB (ss.take (k + 1)), ((k + 1 : Nat) : Int)), ?_, rfl, rfl⟩
        simp only [gleaninglaw1_IntsRow_l4, dec_t (by omega : (k : Int) < (ss.length : Int)), if_true, gd_pos (by omega : (0 : Int) ≤ (k : Int)), Int.toNat_natCast, List.getElem?_eq_getElem hk, Option.bind_some, dec_f (by omega : ¬ (100 : Int) < (ss[k].size : Int)), Bool.false_eq_true, if_false]
        rw [text_spec _ _ (by simp; omega) (by omega), Option.bind_some, w1 k (by omega), List.take_succ_eq_append_getElem hk, textsB_app]
        simp [textsB]
      · rintro r s ⟨rfl, rfl⟩
        simp only [gleaninglaw1_IntsRow_l4, dec_f (by omega : ¬ (ss.length : Int) < (ss.length : Int)), Bool.false_eq_true, if_false, List.take_length]
    · refine .inl ?_
      have hex : ∃ k, ∃ hk : k < ss.length, 100 < ss[k].size := by
        obtain ⟨x, hx⟩ := Classical.not_forall.1 hall
        obtain ⟨hx, hx2⟩ := Classical.not_imp.1 hx
        obtain ⟨k, hk, rfl⟩ := List.getElem_of_mem hx
        exact ⟨k, hk, by omega⟩
      obtain ⟨k0, hk0, hbig⟩ := hex
      refine loop_list (l := ss) (fun k r s => k ≤ k0 ∧ s = (numsB ns ++ textsB (ss.take k), (k : Int)) ∧ (∀ y ∈ ss.take k, y.size ≤ 100) ∧ r = .inr true) (by omega) ?_ ?_ ⟨by omega, by simp [textsB], by simp, rfl⟩
      · rintro k hk r s ⟨hkk, rfl, hsm, rfl⟩
        by_cases hb : 100 < ss[k].size
        · refine .inr ?_
          simp only [gleaninglaw1_IntsRow_l4, dec_t (by omega : (k : Int) < (ss.length : Int)), if_true, gd_pos (by omega : (0 : Int) ≤ (k : Int)), Int.toNat_natCast, List.getElem?_eq_getElem hk, Option.bind_some, dec_t (by omega : (100 : Int) < (ss[k].size : Int))]
        · have hne : k ≠ k0 := by rintro rfl; exact hb hbig
          have hle := textsB_le (ss.take k) hsm
          have hle2 : (ss.take k).length ≤ 20 := by simp; omega
          refine .inl ⟨(numsB ns ++ textsB (ss.take (k + 1)), ((k + 1 : Nat) : Int)), ?_, by omega, rfl, ?_, rfl⟩
          · simp only [gleaninglaw1_IntsRow_l4, dec_t (by omega : (k : Int) < (ss.length : Int)), if_true, gd_pos (by omega : (0 : Int) ≤ (k : Int)), Int.toNat_natCast, List.getElem?_eq_getElem hk, Option.bind_some, dec_f (by omega : ¬ (100 : Int) < (ss[k].size : Int)), Bool.false_eq_true, if_false]
            rw [text_spec _ _ (by simp; omega) (by omega), Option.bind_some, w1 k (by omega), List.take_succ_eq_append_getElem hk, textsB_app]
            simp [textsB]
          · intro y hy
            rw [List.take_succ_eq_append_getElem hk] at hy
            rcases List.mem_append.1 hy with hy | hy
            · exact hsm y hy
            · rw [List.mem_singleton.1 hy]; omega
      · rintro r s ⟨hkk, rfl, hsm, rfl⟩
        exact absurd (Nat.lt_of_lt_of_le hk0 hkk) (Nat.lt_irrefl _)
  rcases hB with hB | ⟨hall, hB⟩
  · rw [hB]; rfl
  rw [hB, Option.bind_some, Sum.elim_inl, gleaninglaw1_IntsRow_k3]
  have hl2 := textsB_le ss hall
  -- numbers read
  have hC : loopN (fun (s : List UInt8 × Int) => gleaninglaw1_IntsRow_l6 ns s.1 s.2) Fu (numsB ns ++ textsB ss, 0) = some (.inl (textsB ss)) := by
    refine loop_list (l := ns) (fun k r s => s = (numsB (ns.drop k) ++ textsB ss, (k : Int)) ∧ r = .inl (textsB ss)) (by omega) ?_ ?_ ⟨by simp, rfl⟩
    · rintro k hk r s ⟨rfl, rfl⟩
      obtain ⟨m, hm, hm2⟩ := u64_nat (hn.2 ns[k] (List.getElem_mem hk))
      have hd : numsB (ns.drop k) ++ textsB ss = putN m ++ (numsB (ns.drop (k + 1)) ++ textsB ss) := by
        rw [List.drop_eq_getElem_cons hk]; simp [numsB, hm]
      have hle := numsB_le (ns.drop (k + 1)) fun y hy => hn.2 y (List.mem_of_mem_drop hy)
      have hp := putN_len10 hm2
      have hp0 := putN_pos m
      have hdl : (ns.drop (k + 1)).length ≤ 20 := by simp; omega
      refine .inl ⟨(numsB (ns.drop (k + 1)) ++ textsB ss, ((k + 1 : Nat) : Int)), ?_, rfl, rfl⟩
      simp only [gleaninglaw1_IntsRow_l6, dec_t (by omega : (k : Int) < (ns.length : Int)), if_true]
      rw [hd, get_spec _ (by simp; omega), getN_put' hm2]
      simp only [Option.bind_some, Bool.not_true, Bool.false_eq_true, if_false, gd_pos (by omega : (0 : Int) ≤ (k : Int)), Int.toNat_natCast, List.getElem?_eq_getElem hk, hm, bne_self_eq_false, dec_f (by omega : ¬ ((putN m).length : Int) < 1)]
      rw [dec_f (by rw [List.length_append]; omega : ¬ ((putN m ++ (numsB (ns.drop (k + 1)) ++ textsB ss)).length : Int) < ((putN m).length : Int))]
      simp only [Bool.false_eq_true, if_false, Option.bind_some, Sum.elim_inl, gleaninglaw1_IntsRow_k7, w1 k (by omega), Int.toNat_natCast, List.drop_left]
      rw [gd_pos (by omega), gd_pos (by rw [List.length_append]; omega)]
    · rintro r s ⟨rfl, rfl⟩
      simp only [gleaninglaw1_IntsRow_l6, dec_f (by omega : ¬ (ns.length : Int) < (ns.length : Int)), Bool.false_eq_true, if_false, List.drop_length]
      rfl
  rw [hC, Option.bind_some, Sum.elim_inl, gleaninglaw1_IntsRow_k5]
  have hD : loopN (fun (s : List UInt8 × Int) => gleaninglaw1_IntsRow_l9 ss s.1 s.2) Fu (textsB ss, 0) = some (.inl []) := by
    refine loop_list (l := ss) (fun k r s => s = (textsB (ss.drop k), (k : Int)) ∧ r = .inl []) (by omega) ?_ ?_ ⟨by simp, rfl⟩
    · rintro k hk r s ⟨rfl, rfl⟩
      have hsz := hall ss[k] (List.getElem_mem hk)
      have hd : textsB (ss.drop k) = textB ss[k] ++ textsB (ss.drop (k + 1)) := by
        rw [List.drop_eq_getElem_cons hk, textsB, List.flatMap_cons]; rfl
      have hle := textsB_le (ss.drop (k + 1)) fun y hy => hall y (List.mem_of_mem_drop hy)
      have hp := textB_le ss[k] hsz
      have hp0 : 0 < (textB ss[k]).length := by have := putN_pos ss[k].size; simp [textB]; omega
      have hdl : (ss.drop (k + 1)).length ≤ 20 := by simp; omega
      refine .inl ⟨(textsB (ss.drop (k + 1)), ((k + 1 : Nat) : Int)), ?_, rfl, rfl⟩
      simp only [gleaninglaw1_IntsRow_l9, dec_t (by omega : (k : Int) < (ss.length : Int)), if_true]
      rw [hd, gettext_spec _ (by simp; omega), getT_text _ (by omega)]
      simp only [Option.bind_some, Bool.not_true, Bool.false_eq_true, if_false, gd_pos (by omega : (0 : Int) ≤ (k : Int)), Int.toNat_natCast, List.getElem?_eq_getElem hk, beq_self_eq_true, dec_f (by omega : ¬ ((textB ss[k]).length : Int) < 1)]
      rw [dec_f (by rw [List.length_append]; omega : ¬ ((textB ss[k] ++ textsB (ss.drop (k + 1))).length : Int) < ((textB ss[k]).length : Int))]
      simp only [Bool.false_eq_true, if_false, Option.bind_some, Sum.elim_inl, gleaninglaw1_IntsRow_k10, w1 k (by omega), Int.toNat_natCast, List.drop_left]
      rw [gd_pos (by omega), gd_pos (by rw [List.length_append]; omega)]
    · rintro r s ⟨rfl, rfl⟩
      simp only [gleaninglaw1_IntsRow_l9, dec_f (by omega : ¬ (ss.length : Int) < (ss.length : Int)), Bool.false_eq_true, if_false, List.drop_length]
      rfl
  rw [hD, Option.bind_some, Sum.elim_inl, gleaninglaw1_IntsRow_k8]
  rfl
end Go.Proofs.Ytomjoccpkknamaa.Ab
