/- Chapter 9's laws hold of the pure functions: windows of a minute, an hour, a day. -/
import Derived.Test.YtomjoccpkknamaaXWindow
namespace Go.Proofs.Ytomjoccpkknamaa.Ab
open Go Go.RowKit
set_option linter.unusedVariables false
set_option linter.unusedSimpArgs false

theorem len0 : window_length 0 = some 60 := rfl
theorem len1 : window_length 1 = some 3600 := rfl
theorem len2 : window_length 2 = some 86400 := rfl
theorem of_gen {l L s : Int} (hl : window_length l = some L) (hL : L = 60 ∨ L = 3600 ∨ L = 86400) (h0 : 0 ≤ s) (h1 : s ≤ 1099511627776) : window_Of l s = some (s / L) := by
  have e1 : ¬ L = 0 := by omega
  have e2 : ¬ s < 0 := by omega
  have e3 : ¬ (1099511627776 : Int) < s := by omega
  have e4 : (L == 0) = false := by simpa using e1
  simp only [window_Of, hl, Option.bind_some, e4, e2, e3, decide_false, Bool.false_eq_true, if_false, Sum.elim_inl, window_Of_k0]
  rw [gd_pos e1, Int.tdiv_eq_ediv_of_nonneg h0]
  have : 0 ≤ s / L ∧ s / L ≤ s := by rcases hL with rfl | rfl | rfl <;> omega
  rw [wrap_i64 _ (by omega) (by omega)]
theorem span_gen {l L n : Int} (hl : window_length l = some L) (hL : L = 60 ∨ L = 3600 ∨ L = 86400) (h0 : 0 ≤ n) (h1 : n ≤ 1099511627776 / L) : window_Span l n = some (n * L, (n + 1) * L, true) := by
  have e1 : ¬ L = 0 := by omega
  have e2 : ¬ n < 0 := by omega
  have e4 : (L == 0) = false := by simpa using e1
  have e5 : IntKind.i64.wrap (Int.tdiv 1099511627776 L) = 1099511627776 / L := by rcases hL with rfl | rfl | rfl <;> decide
  have e3 : ¬ (1099511627776 / L : Int) < n := by omega
  simp only [window_Span, hl, Option.bind_some, e4, e2, decide_false, Bool.false_eq_true, if_false]
  rw [gd_pos e1, e5]
  simp only [e3, decide_false, Bool.false_eq_true, if_false, Option.bind_some, Sum.elim_inl, window_Span_k0]
  have : 0 ≤ n * L ∧ n * L ≤ 1099511627776 ∧ (n + 1) * L = n * L + L ∧ n + 1 ≤ 1099511627777 := by rcases hL with rfl | rfl | rfl <;> omega
  rw [wrap_i64 _ (by omega) (by omega), wrap_i64 (n + 1) (by omega) (by omega), wrap_i64 _ (by omega) (by omega)]
theorem span_neg {l L n : Int} (hl : window_length l = some L) (h0 : n < 0) : window_Span l n = some (0, 0, false) := by
  by_cases e1 : L = 0
  · simp [window_Span, hl, e1]
  · have e4 : (L == 0) = false := by simpa using e1
    simp only [window_Span, hl, Option.bind_some, e4, h0, decide_true, Bool.false_eq_true, if_false, if_true, Sum.elim_inr]
theorem up_gen {l L M n : Int} (hl : window_length l = some L) (hL : L = 60 ∨ L = 3600 ∨ L = 86400) (hl2 : l = 0 ∨ l = 1) (hm : window_length (l + 1) = some M) (hM : M = 60 ∨ M = 3600 ∨ M = 86400) (h0 : 0 ≤ n) (h1 : n ≤ 1099511627776 / L) :
    window_Up l n = some (l + 1, n * L / M, true) := by
  have e : (l == 2) = false := by simp only [beq_eq_false_iff_ne]; omega
  have hb : 0 ≤ n * L ∧ n * L ≤ 1099511627776 := by rcases hL with rfl | rfl | rfl <;> omega
  simp only [window_Up, span_gen hl hL h0 h1, Option.bind_some, Bool.not_true, Bool.false_eq_true, if_false, e, Sum.elim_inl, window_Up_k0]
  rw [wrap_i64 _ (by omega) (by omega), of_gen hm hM hb.1 hb.2]
  rfl
theorem alive9 : gleaninglaw9_alive = some true := by
  simp [gleaninglaw9_alive, span_gen (n := 2) len1 (by omega) (by omega) (by omega), of_gen (s := 60) len0 (by omega) (by omega) (by omega)]
theorem k1_holds {l L M s : Int} (hl : window_length l = some L) (hL : L = 60 ∨ L = 3600 ∨ L = 86400) (hl2 : l = 0 ∨ l = 1) (hm : window_length (l + 1) = some M) (hM : (L = 60 ∧ M = 3600) ∨ (L = 3600 ∧ M = 86400)) (h0 : 0 ≤ s) (h1 : s ≤ 1099511627776) :
    gleaninglaw9_WindowHolds_k1 l s (s / L) (s / L * L, (s / L + 1) * L, true) = some true := by
  have e : (l == 2) = false := by simp only [beq_eq_false_iff_ne]; omega
  have hq : 0 ≤ s / L ∧ s / L ≤ 1099511627776 / L := by rcases hL with rfl | rfl | rfl <;> omega
  have hu := up_gen hl hL hl2 hm (by omega) hq.1 hq.2
  have hq2 : 0 ≤ s / L * L / M ∧ s / L * L / M ≤ 1099511627776 / M := by rcases hM with ⟨rfl, rfl⟩ | ⟨rfl, rfl⟩ <;> omega
  have hs := span_gen (n := s / L * L / M) hm (by omega) hq2.1 hq2.2
  have ho := of_gen (s := s) hm (by omega) h0 h1
  simp only [gleaninglaw9_WindowHolds_k1, e, Bool.false_eq_true, if_false, hu, Option.bind_some, hs, if_true, ho]
  rw [wrap_i64 (l + 1) (by omega) (by omega)]
  have e1 : s / L * L / M = s / M := by rcases hM with ⟨rfl, rfl⟩ | ⟨rfl, rfl⟩ <;> omega
  have e2 : s / M * M ≤ s / L * L := by rcases hM with ⟨rfl, rfl⟩ | ⟨rfl, rfl⟩ <;> omega
  have e3 : (s / L + 1) * L ≤ (s / M + 1) * M := by rcases hM with ⟨rfl, rfl⟩ | ⟨rfl, rfl⟩ <;> omega
  simp [e1, e2, e3]
theorem k0_holds {l L s : Int} (hl : window_length l = some L) (hL : L = 60 ∨ L = 3600 ∨ L = 86400) (h0 : 0 ≤ s) (h1 : s ≤ 1099511627776) (hk : gleaninglaw9_WindowHolds_k1 l s (s / L) (s / L * L, (s / L + 1) * L, true) = some true) : gleaninglaw9_WindowHolds_k0 l s = some true := by
  have hq : 0 ≤ s / L ∧ s / L ≤ 1099511627776 / L := by rcases hL with rfl | rfl | rfl <;> omega
  have ho := of_gen hl hL h0 h1
  have hs := span_gen (n := s / L) hl hL hq.1 hq.2
  have e1 : ¬ s < s / L * L := by rcases hL with rfl | rfl | rfl <;> omega
  have e2 : ¬ (s / L + 1) * L ≤ s := by rcases hL with rfl | rfl | rfl <;> omega
  have hw : IntKind.i64.wrap (s / L - 1) = s / L - 1 := wrap_i64 _ (by omega) (by rcases hL with rfl | rfl | rfl <;> omega)
  by_cases hp : 0 < s / L
  · have hs2 := span_gen (n := s / L - 1) hl hL (by omega) (by omega)
    have e3 : (s / L - 1 + 1) * L = s / L * L := by rw [Int.sub_add_cancel]
    simp only [gleaninglaw9_WindowHolds_k0, ho, Option.bind_some, hs, hw, hs2, Bool.not_true, Bool.false_eq_true, if_false, e1, e2, decide_false, hp, decide_true, if_true, e3, bne_self_eq_false, Sum.elim_inl, hk]
  · have hs2 := span_neg (n := s / L - 1) hl (by omega)
    simp only [gleaninglaw9_WindowHolds_k0, ho, Option.bind_some, hs, hw, hs2, Bool.not_true, Bool.false_eq_true, if_false, e1, e2, decide_false, hp, Sum.elim_inl, hk]
theorem windowHolds_true (l s : Int) (_ : inI .i64 l) (_ : inI .i64 s) : gleaninglaw9_WindowHolds l s = some true := by
  simp only [gleaninglaw9_WindowHolds, alive9, Option.bind_some, Bool.not_true, Bool.false_eq_true, if_false]
  by_cases a1 : l < 0
  · simp [a1]
  by_cases a2 : 2 < l
  · simp [a1, a2]
  by_cases a3 : s < 0
  · simp [a1, a2, a3]
  by_cases a4 : 1099511627776 < s
  · simp [a1, a2, a3, a4]
  simp only [a1, a2, a3, a4, decide_false, Bool.false_eq_true, if_false, Option.bind_some, Sum.elim_inl]
  have : l = 0 ∨ l = 1 ∨ l = 2 := by omega
  rcases this with rfl | rfl | rfl
  · exact k0_holds len0 (by omega) (by omega) (by omega) (k1_holds len0 (by omega) (by omega) len1 (by omega) (by omega) (by omega))
  · exact k0_holds len1 (by omega) (by omega) (by omega) (k1_holds len1 (by omega) (by omega) len2 (by omega) (by omega) (by omega))
  · exact k0_holds len2 (by omega) (by omega) (by omega) rfl
theorem k1_nest {l L M n : Int} (hl : window_length l = some L) (hl2 : l = 0 ∨ l = 1) (hm : window_length (l + 1) = some M) (hM : (L = 60 ∧ M = 3600) ∨ (L = 3600 ∧ M = 86400)) (h0 : 0 ≤ n) (h1 : n ≤ 16777216) :
    gleaninglaw9_WindowNest_k1 l n (l + 1, n * L / M, true) (n * L, (n + 1) * L, true) (n * L / M * M, (n * L / M + 1) * M, true) = some true := by
  have hu := up_gen (n := n + 1) hl (by omega) hl2 hm (by omega) (by omega) (by rcases hM with ⟨rfl, rfl⟩ | ⟨rfl, rfl⟩ <;> omega)
  have hw : IntKind.i64.wrap (n + 1) = n + 1 := wrap_i64 _ (by omega) (by omega)
  have hw2 : IntKind.i64.wrap (n * L / M + 1) = n * L / M + 1 := wrap_i64 _ (by rcases hM with ⟨rfl, rfl⟩ | ⟨rfl, rfl⟩ <;> omega) (by rcases hM with ⟨rfl, rfl⟩ | ⟨rfl, rfl⟩ <;> omega)
  simp only [gleaninglaw9_WindowNest_k1, hw, hu, Option.bind_some, beq_self_eq_true, if_true, hw2]
  by_cases e : (n + 1) * L / M = n * L / M
  · simp [e]
  · have e2 : (n + 1) * L / M = n * L / M + 1 := by rcases hM with ⟨rfl, rfl⟩ | ⟨rfl, rfl⟩ <;> omega
    have e3 : (n + 1) * L = (n * L / M + 1) * M := by rcases hM with ⟨rfl, rfl⟩ | ⟨rfl, rfl⟩ <;> omega
    simp [e2, e3]
    rw [← e3, e2]
    simp
theorem k0_nest {l L M n k : Int} (hl : window_length l = some L) (hl2 : l = 0 ∨ l = 1) (hm : window_length (l + 1) = some M) (hM : (L = 60 ∧ M = 3600 ∧ k = 60) ∨ (L = 3600 ∧ M = 86400 ∧ k = 24)) (hk : [60, 24][l.toNat]? = some k) (h0 : 0 ≤ n) (h1 : n ≤ 16777216) :
    gleaninglaw9_WindowNest_k0 l n = some true := by
  have hn : n ≤ 1099511627776 / L := by rcases hM with ⟨rfl, rfl, rfl⟩ | ⟨rfl, rfl, rfl⟩ <;> omega
  have hu := up_gen (n := n) hl (by omega) hl2 hm (by omega) h0 hn
  have hs := span_gen (n := n) hl (by omega) h0 hn
  have hs2 := span_gen (n := n * L / M) hm (by omega) (by rcases hM with ⟨rfl, rfl, rfl⟩ | ⟨rfl, rfl, rfl⟩ <;> omega) (by rcases hM with ⟨rfl, rfl, rfl⟩ | ⟨rfl, rfl, rfl⟩ <;> omega)
  have hb : 0 ≤ n * L ∧ (n + 1) * L = n * L + L ∧ (n + 1) * L ≤ 1099511627776 := by rcases hM with ⟨rfl, rfl, rfl⟩ | ⟨rfl, rfl, rfl⟩ <;> omega
  have ho := of_gen (s := n * L) hm (by omega) hb.1 (by omega)
  have hw1 : IntKind.i64.wrap (l + 1) = l + 1 := wrap_i64 _ (by omega) (by omega)
  have hw2 : IntKind.i64.wrap ((n + 1) * L - 1) = (n + 1) * L - 1 := wrap_i64 _ (by omega) (by omega)
  have ho2 := of_gen (s := (n + 1) * L - 1) hm (by omega) (by omega) (by omega)
  have e1 : ¬ n * L < n * L / M * M := by rcases hM with ⟨rfl, rfl, rfl⟩ | ⟨rfl, rfl, rfl⟩ <;> omega
  have e2 : ¬ (n * L / M + 1) * M < (n + 1) * L := by rcases hM with ⟨rfl, rfl, rfl⟩ | ⟨rfl, rfl, rfl⟩ <;> omega
  have e3 : ((n + 1) * L - 1) / M = n * L / M := by rcases hM with ⟨rfl, rfl, rfl⟩ | ⟨rfl, rfl, rfl⟩ <;> omega
  have e4 : IntKind.i64.wrap ((n * L / M + 1) * M - n * L / M * M) = IntKind.i64.wrap (k * IntKind.i64.wrap ((n + 1) * L - n * L)) := by
    rw [wrap_i64 ((n + 1) * L - n * L) (by omega) (by omega)]
    congr 1
    rcases hM with ⟨rfl, rfl, rfl⟩ | ⟨rfl, rfl, rfl⟩ <;> omega
  have hk1 := k1_nest hl hl2 hm (by omega) h0 h1
  simp only [gleaninglaw9_WindowNest_k0, hu, Option.bind_some, hs, hs2, hk, hw1, hw2, ho, ho2, Bool.not_true, Bool.false_eq_true, if_false, bne_self_eq_false, e1, e2, e3, e4, decide_false, Sum.elim_inl, hk1]
  exact gd_pos (by omega)
theorem windowNest_true (l n : Int) (_ : inI .i64 l) (_ : inI .i64 n) : gleaninglaw9_WindowNest l n = some true := by
  simp only [gleaninglaw9_WindowNest, alive9, Option.bind_some, Bool.not_true, Bool.false_eq_true, if_false]
  by_cases a1 : l < 0
  · simp [a1]
  by_cases a2 : 1 < l
  · simp [a1, a2]
  by_cases a3 : n < 0
  · simp [a1, a2, a3]
  by_cases a4 : 16777216 < n
  · simp [a1, a2, a3, a4]
  simp only [a1, a2, a3, a4, decide_false, Bool.false_eq_true, if_false, Option.bind_some, Sum.elim_inl]
  have : l = 0 ∨ l = 1 := by omega
  rcases this with rfl | rfl
  · exact k0_nest len0 (by omega) len1 (k := 60) (by omega) rfl (by omega) (by omega)
  · exact k0_nest len1 (by omega) len2 (k := 24) (by omega) rfl (by omega) (by omega)
end Go.Proofs.Ytomjoccpkknamaa.Ab
