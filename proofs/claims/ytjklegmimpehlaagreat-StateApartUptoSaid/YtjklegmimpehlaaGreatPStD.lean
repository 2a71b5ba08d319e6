/- States: which two are one, and which are few and small. -/
import Derived.Test.YtjklegmimpehlaaGreatXSt3
import Derived.Test.YtjklegmimpehlaaGreatPRuleP
import Derived.Test.YtjklegmimpehlaaGreatPBlkE
import Derived.Test.YtjklegmimpehlaaGreatPSameR
import Derived.Test.YtjklegmimpehlaaGreatPFew19
namespace Go.Proofs.YtjklegmimpehlaaGreat.Ab
open Go Go.RowKit
set_option linter.unusedVariables false
set_option linter.unusedSimpArgs false
def longT (a : Int) : Int := if a = 0 then 60 else if a = 1 then 3600 else if a = 2 then 86400 else 0
def winB (a w : Int) : Bool := decide (longT a ≠ 0) && (decide (0 ≤ w) && decide (w ≤ Int.tdiv 1099511627776 (longT a)))
theorem long_spec (a : Int) : window_length a = some (longT a) := by
 unfold window_length longT
 by_cases h : a < 0
 ·rw [dec_t h, ite_tt, if_neg (by omega), if_neg (by omega), if_neg (by omega)]; rfl
 by_cases h2 : 3 ≤ a
 ·rw [dec_f h, ite_ff, dec_t h2, ite_tt, if_neg (by omega), if_neg (by omega), if_neg (by omega)]; rfl
 have : a = 0 ∨ a = 1 ∨ a = 2 := by omega
 rcases this with rfl | rfl | rfl <;> rfl
theorem xlong_spec (a : Int) : gleaningref1_Long a = some (longT a) := by
 unfold gleaningref1_Long longT
 by_cases h0 : a = 0
 ·simp [h0]
 by_cases h1 : a = 1
 ·simp [h1]
 by_cases h2 : a = 2
 ·simp [h2]
 simp [h0, h1, h2]
theorem long_div (a : Int) : IntKind.i64.wrap (Int.tdiv 1099511627776 (longT a)) = Int.tdiv 1099511627776 (longT a) := by
 unfold longT
 split
 ·decide
 ·split
  ·decide
  ·split <;> decide
theorem win_spec (a w : Int) : ∃ x y, window_Span a w = some (x, y, winB a w) := by
 rw [window_Span, long_spec, Option.bind_some, winB]
 by_cases h0 : longT a = 0
 ·exact ⟨0, 0, by simp [h0]⟩
 rw [show (longT a == 0) = false from by simpa using h0, ite_ff, dec_t h0, Bool.true_and]
 by_cases h1 : w < 0
 ·exact ⟨0, 0, by rw [dec_t h1, ite_tt, dec_f (by omega : ¬ 0 ≤ w)]; rfl⟩
 rw [dec_f h1, ite_ff, gd_pos h0, long_div, dec_t (by omega : 0 ≤ w), Bool.true_and]
 by_cases h2 : Int.tdiv 1099511627776 (longT a) < w
 ·exact ⟨0, 0, by rw [dec_t h2, ite_tt, dec_f (by omega)]; rfl⟩
 ·rw [dec_f h2, ite_ff, dec_t (by omega)]
  exact ⟨_, _, rfl⟩
theorem xwin_spec (a w : Int) : ∃ x y, gleaningref1_Lasts a w = some (x, y, winB a w) := by
 rw [gleaningref1_Lasts, xlong_spec, Option.bind_some, winB]
 by_cases h0 : longT a = 0
 ·exact ⟨0, 0, by simp [h0]⟩
 rw [show (longT a == 0) = false from by simpa using h0, ite_ff, dec_t h0, Bool.true_and, gd_pos h0, long_div, within_spec, Option.bind_some]
 cases (decide (0 ≤ w) && decide (w ≤ Int.tdiv 1099511627776 (longT a))) with
 | false => exact ⟨0, 0, rfl⟩
 | true => exact ⟨_, _, rfl⟩
theorem win_lev {a w : Int} (h : winB a w = true) : 0 ≤ a ∧ a ≤ 2 ∧ 0 ≤ w ∧ w ≤ 1099511627776 := by
 simp only [winB, Bool.and_eq_true, decide_eq_true_eq] at h
 obtain ⟨h1, h2, h3⟩ := h
 unfold longT at h1 h3
 split at h3
 ·subst_vars
  have : Int.tdiv 1099511627776 60 = 18325193796 := by decide
  omega
 ·split at h3
  ·subst_vars
   have : Int.tdiv 1099511627776 3600 = 305419896 := by decide
   omega
  ·split at h3
   ·subst_vars
    have : Int.tdiv 1099511627776 86400 = 12725829 := by decide
    omega
   ·simp_all
theorem xname_spec (s : ByteArray) : gleaningref15_name s = some (nameB s) := by
 unfold gleaningref15_name nameB
 by_cases h : 1 ≤ s.size
 ·rw [dec_t (by omega : (1 : Int) ≤ (s.size : Int)), ite_tt, dec_t h, Bool.true_and]
  congr 2
  exact propext ⟨fun h => by omega, fun h => by omega⟩
 ·rw [dec_f (by omega : ¬ (1 : Int) ≤ (s.size : Int)), ite_ff, dec_f h]; rfl
def byL (c : Counter) : List Int := [c.By.c0, c.By.c1, c.By.c2, c.By.c3, c.By.c4, c.By.c5, c.By.c6, c.By.c7]
def rowB (r : RowG) : Bool := winB r.Level r.Window && (nameB r.Service && (nameB r.Op && ((countB r.Counter.Count && countB r.Counter.Errs) && (byL r.Counter).all countB)))
def edgB (x : Edge) : Bool := nameB x.From && (nameB x.To && (countB x.Count && countB x.Errs))
def sltB (x : Exemplar) : Bool := nameB x.Service && (nameB x.Op && countB x.Block)
def numB (b : Block) : Bool := countB b.Number && (countB b.Born && countB b.Tier)
theorem row_spec (r : RowG) : state_row r = some (rowB r) := by
 obtain ⟨x, y, h⟩ := win_spec r.Level r.Window
 rw [state_row, h, Option.bind_some, rowB, name_spec, name_spec, epoch_spec _ (by simp), epoch_spec _ (by simp)]
 simp only [Option.bind_some, List.all_cons, List.all_nil, Bool.and_true, byL]
 cases winB r.Level r.Window
 ·rfl
 cases nameB r.Service
 ·rfl
 cases nameB r.Op
 ·rfl
 cases (countB r.Counter.Count && countB r.Counter.Errs) <;> rfl
theorem edg_spec (x : Edge) : state_edge x = some (edgB x) := by
 rw [state_edge, edgB, name_spec, name_spec, epoch_spec _ (by simp)]
 simp only [Option.bind_some, List.all_cons, List.all_nil, Bool.and_true]
 cases nameB x.From
 ·rfl
 cases nameB x.To <;> rfl
theorem slt_spec (x : Exemplar) : state_slot x = some (sltB x) := by
 rw [state_slot, sltB, name_spec, name_spec, epoch_spec _ (by simp)]
 simp only [Option.bind_some, List.all_cons, List.all_nil, Bool.and_true]
 cases nameB x.Service
 ·rfl
 cases nameB x.Op <;> rfl
theorem num_blk (b : Block) : state_Right_c1 b = some (numB b) := by
 rw [state_Right_c1, epoch_spec _ (by simp), numB]
 simp only [Option.bind_some, List.all_cons, List.all_nil, Bool.and_true]
theorem all_eps (l : List Episode) (hl : l.length ≤ 1000000) (he : ∀ e ∈ l, e.Spans.length ≤ 1000) : state_all_Episode_block_Episode l = some (l.all rightE) := by
 obtain ⟨v, g1, g2⟩ := loop_has (body := fun (q : Int) => slices_IndexFunc_Episode_state_all_api_Episode__c1_block_Episode_l0 l q) (fun s => !rightE s) l (by omega) (fun j hj => by
  simp only [slices_IndexFunc_Episode_state_all_api_Episode__c1_block_Episode_l0, dec_t (by omega : (j : Int) < (l.length : Int)), if_true, gd_pos (by omega : (0 : Int) ≤ (j : Int)), Int.toNat_natCast, List.getElem?_eq_getElem hj, Option.bind_some, state_all_api_Episode__c1_block_Episode, isE_spec l[j] (by have := he _ (List.getElem_mem hj); omega), ksuc (by omega : j < 1099511627776)]) (by simp only [slices_IndexFunc_Episode_state_all_api_Episode__c1_block_Episode_l0, dec_f (by omega : ¬ (l.length : Int) < (l.length : Int)), Bool.false_eq_true, if_false])
 rw [state_all_Episode_block_Episode, slices_ContainsFunc_Episode_state_all_api_Episode__c1_block_Episode, slices_IndexFunc_Episode_state_all_api_Episode__c1_block_Episode, g1, Option.bind_some, g2, Option.bind_some]
 congr 1
 rw [Bool.eq_iff_iff]; simp
theorem all_rows (l : List RowG) (hl : l.length ≤ 1000000) : state_all_Row_state_row l = some (l.all rowB) := by
 obtain ⟨v, g1, g2⟩ := loop_has (body := fun (q : Int) => slices_IndexFunc_Row_state_all_api_Row__c1_state_row_l0 l q) (fun s => !rowB s) l (by omega) (fun j hj => by
  simp only [slices_IndexFunc_Row_state_all_api_Row__c1_state_row_l0, dec_t (by omega : (j : Int) < (l.length : Int)), if_true, gd_pos (by omega : (0 : Int) ≤ (j : Int)), Int.toNat_natCast, List.getElem?_eq_getElem hj, Option.bind_some, state_all_api_Row__c1_state_row, row_spec, ksuc (by omega : j < 1099511627776)]) (by simp only [slices_IndexFunc_Row_state_all_api_Row__c1_state_row_l0, dec_f (by omega : ¬ (l.length : Int) < (l.length : Int)), Bool.false_eq_true, if_false])
 rw [state_all_Row_state_row, slices_ContainsFunc_Row_state_all_api_Row__c1_state_row, slices_IndexFunc_Row_state_all_api_Row__c1_state_row, g1, Option.bind_some, g2, Option.bind_some]
 congr 1
 rw [Bool.eq_iff_iff]; simp
theorem all_edgs (l : List Edge) (hl : l.length ≤ 1000000) : state_all_Edge_state_edge l = some (l.all edgB) := by
 obtain ⟨v, g1, g2⟩ := loop_has (body := fun (q : Int) => slices_IndexFunc_Edge_state_all_api_Edge__c1_state_edge_l0 l q) (fun s => !edgB s) l (by omega) (fun j hj => by
  simp only [slices_IndexFunc_Edge_state_all_api_Edge__c1_state_edge_l0, dec_t (by omega : (j : Int) < (l.length : Int)), if_true, gd_pos (by omega : (0 : Int) ≤ (j : Int)), Int.toNat_natCast, List.getElem?_eq_getElem hj, Option.bind_some, state_all_api_Edge__c1_state_edge, edg_spec, ksuc (by omega : j < 1099511627776)]) (by simp only [slices_IndexFunc_Edge_state_all_api_Edge__c1_state_edge_l0, dec_f (by omega : ¬ (l.length : Int) < (l.length : Int)), Bool.false_eq_true, if_false])
 rw [state_all_Edge_state_edge, slices_ContainsFunc_Edge_state_all_api_Edge__c1_state_edge, slices_IndexFunc_Edge_state_all_api_Edge__c1_state_edge, g1, Option.bind_some, g2, Option.bind_some]
 congr 1
 rw [Bool.eq_iff_iff]; simp
theorem all_slts (l : List Exemplar) (hl : l.length ≤ 1000000) : state_all_Exemplar_state_slot l = some (l.all sltB) := by
 obtain ⟨v, g1, g2⟩ := loop_has (body := fun (q : Int) => slices_IndexFunc_Exemplar_state_all_api_Exemplar__c1_state_slot_l0 l q) (fun s => !sltB s) l (by omega) (fun j hj => by
  simp only [slices_IndexFunc_Exemplar_state_all_api_Exemplar__c1_state_slot_l0, dec_t (by omega : (j : Int) < (l.length : Int)), if_true, gd_pos (by omega : (0 : Int) ≤ (j : Int)), Int.toNat_natCast, List.getElem?_eq_getElem hj, Option.bind_some, state_all_api_Exemplar__c1_state_slot, slt_spec, ksuc (by omega : j < 1099511627776)]) (by simp only [slices_IndexFunc_Exemplar_state_all_api_Exemplar__c1_state_slot_l0, dec_f (by omega : ¬ (l.length : Int) < (l.length : Int)), Bool.false_eq_true, if_false])
 rw [state_all_Exemplar_state_slot, slices_ContainsFunc_Exemplar_state_all_api_Exemplar__c1_state_slot, slices_IndexFunc_Exemplar_state_all_api_Exemplar__c1_state_slot, g1, Option.bind_some, g2, Option.bind_some]
 congr 1
 rw [Bool.eq_iff_iff]; simp
theorem all_blks (l : List Block) (hl : l.length ≤ 1000000) : state_all_Block_state_Right_c1 l = some (l.all numB) := by
 obtain ⟨v, g1, g2⟩ := loop_has (body := fun (q : Int) => slices_IndexFunc_Block_state_all_api_Block__c1_state_Right_c1_l0 l q) (fun s => !numB s) l (by omega) (fun j hj => by
  simp only [slices_IndexFunc_Block_state_all_api_Block__c1_state_Right_c1_l0, dec_t (by omega : (j : Int) < (l.length : Int)), if_true, gd_pos (by omega : (0 : Int) ≤ (j : Int)), Int.toNat_natCast, List.getElem?_eq_getElem hj, Option.bind_some, state_all_api_Block__c1_state_Right_c1, num_blk, ksuc (by omega : j < 1099511627776)]) (by simp only [slices_IndexFunc_Block_state_all_api_Block__c1_state_Right_c1_l0, dec_f (by omega : ¬ (l.length : Int) < (l.length : Int)), Bool.false_eq_true, if_false])
 rw [state_all_Block_state_Right_c1, slices_ContainsFunc_Block_state_all_api_Block__c1_state_Right_c1, slices_IndexFunc_Block_state_all_api_Block__c1_state_Right_c1, g1, Option.bind_some, g2, Option.bind_some]
 congr 1
 rw [Bool.eq_iff_iff]; simp
structure fewSt (s : StateG) : Prop where
 open_ : s.Open.length ≤ 200 ∧ ∀ e ∈ s.Open, e.Spans.length ≤ 100
 pend : s.Pending.length ≤ 200 ∧ ∀ e ∈ s.Pending, e.Spans.length ≤ 100
 memo : s.Memo.length ≤ 100
 rows : s.Rows.length ≤ 100
 edgs : s.Edges.length ≤ 100
 slts : s.Slots.length ≤ 100
 blks : s.Blocks.length ≤ 100
def rightSt (s : StateG) : Bool := (countB s.Now && (countB s.Sec && (countB s.Kept && countB s.Next))) && (rightR s.Policy && (s.Open.all rightE && (s.Pending.all rightE && (s.Rows.all rowB && (s.Edges.all edgB && (s.Slots.all sltB && s.Blocks.all numB))))))
theorem right_st (s : StateG) (h : fewSt s) : state_Right s = some (rightSt s) := by
 obtain ⟨⟨h1, h1'⟩, ⟨h2, h2'⟩, h3, h4, h5, h6, h7⟩ := h
 rw [state_Right, epoch_spec _ (by simp), right_spec', all_eps s.Open (by omega) (fun e he => by have := h1' e he; omega), all_eps s.Pending (by omega) (fun e he => by have := h2' e he; omega), all_rows _ (by omega), all_edgs _ (by omega), all_slts _ (by omega), all_blks _ (by omega), rightSt]
 simp only [Option.bind_some, List.all_cons, List.all_nil, Bool.and_true]
 cases (countB s.Now && (countB s.Sec && (countB s.Kept && countB s.Next)))
 ·rfl
 cases rightR s.Policy
 ·rfl
 cases s.Open.all rightE
 ·rfl
 cases s.Pending.all rightE
 ·rfl
 cases s.Rows.all rowB
 ·rfl
 cases s.Edges.all edgB
 ·rfl
 cases s.Slots.all sltB <;> rfl
theorem key4 {ρ : Type} (a b c d : Bool) (x y : ρ) : (if (!a) = true then x else if (!b) = true then x else if (!c) = true then x else if (!d) = true then x else y) = if (a && (b && (c && d))) = true then y else x := by
 cases a <;> cases b <;> cases c <;> cases d <;> rfl
theorem key3 {ρ : Type} (a b c : Bool) (x y : ρ) : (if (!a) = true then x else if (!b) = true then x else if (!c) = true then x else y) = if (a && (b && c)) = true then y else x := by
 cases a <;> cases b <;> cases c <;> rfl
theorem key1 {ρ : Type} (a : Bool) (x y : ρ) : (if (!a) = true then x else y) = if a = true then y else x := by
 cases a <;> rfl
theorem key6 {ρ : Type} (a b c d e f : Bool) (x y : ρ) : Option.bind (if a = true then if b = true then if c = true then if d = true then some e else some false else some false else some false else some false) (fun s => some (if (s && f) = true then y else x)) = if (a && (b && (c && ((d && e) && f)))) = true then some y else some x := by
 cases a <;> cases b <;> cases c <;> cases d <;> cases e <;> cases f <;> rfl
theorem x1_step (s : StateG) (h : ∀ e ∈ s.Open ++ s.Pending, e.Spans.length ≤ 1000) (hl : (s.Open ++ s.Pending).length ≤ 1000000) (k : Nat) (hk : k < (s.Open ++ s.Pending).length) : gleaningref15_RightState_l2 s (k : Int) = if rightE (s.Open ++ s.Pending)[k] = true then some (.inl ((k + 1 : Nat) : Int)) else some (.inr (.inr false)) := by
 simp only [gleaningref15_RightState_l2, dec_t (by omega : (k : Int) < ((s.Open ++ s.Pending).length : Int)), if_true, gd_pos (by omega : (0 : Int) ≤ (k : Int)), Int.toNat_natCast, List.getElem?_eq_getElem hk, Option.bind_some, xisE_spec (s.Open ++ s.Pending)[k] (by have := h _ (List.getElem_mem hk); omega), ksuc (by omega : k < 1099511627776)]
 exact key1 _ _ _
theorem by_loop (v : Int) (r : RowG) (b : Bool) : loopN (fun (s : Bool × Int) => gleaningref15_RightState_l6 v r s.1 s.2) Fu (b, 0) = some (if (b && (byL r.Counter).all countB) = true then .inl (IntKind.i64.wrap (v + 1)) else .inr (.inr false)) := by
 have hlen : (byL r.Counter).length = 8 := rfl
 refine loop_list (l := byL r.Counter) (fun k q s => s = (b && ((byL r.Counter).take k).all countB, (k : Int)) ∧ q = if (b && (byL r.Counter).all countB) = true then .inl (IntKind.i64.wrap (v + 1)) else .inr (.inr false)) (by rw [hlen]; omega) ?_ ?_ ⟨by simp, rfl⟩
 ·rintro k hk q s ⟨rfl, rfl⟩
  rw [hlen] at hk
  refine .inl ⟨(b && ((byL r.Counter).take (k + 1)).all countB, ((k + 1 : Nat) : Int)), ?_, rfl, rfl⟩
  have hk' : k < (byL r.Counter).length := hk
  rw [List.take_succ_eq_append_getElem hk', List.all_append]
  cases hb : (b && ((byL r.Counter).take k).all countB) with
  | false =>
   simp only [gleaningref15_RightState_l6, dec_t (by omega : (k : Int) < 8), if_true, Bool.false_eq_true, if_false, ksuc (by omega : k < 1099511627776)]
   rw [← Bool.and_assoc, hb]; rfl
  | true =>
   have e : ([r.Counter.By.c0, r.Counter.By.c1, r.Counter.By.c2, r.Counter.By.c3, r.Counter.By.c4, r.Counter.By.c5, r.Counter.By.c6, r.Counter.By.c7] : List Int)[k]? = some (byL r.Counter)[k] := List.getElem?_eq_getElem hk'
   simp only [gleaningref15_RightState_l6, dec_t (by omega : (k : Int) < 8), if_true, gd_pos (by omega : (0 : Int) ≤ (k : Int)), gd_pos (by omega : (k : Int) < 8), Int.toNat_natCast, e, Option.bind_some, xcount_spec, ksuc (by omega : k < 1099511627776)]
   rw [← Bool.and_assoc, hb]; simp
 ·rintro q s ⟨rfl, rfl⟩
  rw [hlen]
  simp only [gleaningref15_RightState_l6, dec_f (by decide : ¬ (((8 : Nat) : Int) < 8)), Bool.false_eq_true, if_false]
  rw [← hlen, List.take_length]
  cases (b && (byL r.Counter).all countB) <;> rfl
theorem x2_step (s : StateG) (hl : s.Rows.length ≤ 1000000) (k : Nat) (hk : k < s.Rows.length) : gleaningref15_RightState_l4 s (k : Int) = if rowB s.Rows[k] = true then some (.inl ((k + 1 : Nat) : Int)) else some (.inr (.inr false)) := by
 obtain ⟨x, y, hw⟩ := xwin_spec s.Rows[k].Level s.Rows[k].Window
 simp only [gleaningref15_RightState_l4, dec_t (by omega : (k : Int) < (s.Rows.length : Int)), if_true, gd_pos (by omega : (0 : Int) ≤ (k : Int)), Int.toNat_natCast, List.getElem?_eq_getElem hk, Option.bind_some, hw, xname_spec, xcount_spec, gleaningref15_RightState_k5, by_loop, ksuc (by omega : k < 1099511627776)]
 exact key6 _ _ _ _ _ _ _ _
theorem x3_step (s : StateG) (hl : s.Edges.length ≤ 1000000) (k : Nat) (hk : k < s.Edges.length) : gleaningref15_RightState_l8 s (k : Int) = if edgB s.Edges[k] = true then some (.inl ((k + 1 : Nat) : Int)) else some (.inr (.inr false)) := by
 simp only [gleaningref15_RightState_l8, dec_t (by omega : (k : Int) < (s.Edges.length : Int)), if_true, gd_pos (by omega : (0 : Int) ≤ (k : Int)), Int.toNat_natCast, List.getElem?_eq_getElem hk, Option.bind_some, xname_spec, xcount_spec, ksuc (by omega : k < 1099511627776)]
 exact key4 _ _ _ _ _ _
theorem x4_step (s : StateG) (hl : s.Slots.length ≤ 1000000) (k : Nat) (hk : k < s.Slots.length) : gleaningref15_RightState_l10 s (k : Int) = if sltB s.Slots[k] = true then some (.inl ((k + 1 : Nat) : Int)) else some (.inr (.inr false)) := by
 simp only [gleaningref15_RightState_l10, dec_t (by omega : (k : Int) < (s.Slots.length : Int)), if_true, gd_pos (by omega : (0 : Int) ≤ (k : Int)), Int.toNat_natCast, List.getElem?_eq_getElem hk, Option.bind_some, xname_spec, xcount_spec, ksuc (by omega : k < 1099511627776)]
 exact key3 _ _ _ _ _
theorem x5_step (s : StateG) (hl : s.Blocks.length ≤ 1000000) (k : Nat) (hk : k < s.Blocks.length) : gleaningref15_RightState_l11 s (k : Int) = if numB s.Blocks[k] = true then some (.inl ((k + 1 : Nat) : Int)) else some (.inr false) := by
 simp only [gleaningref15_RightState_l11, dec_t (by omega : (k : Int) < (s.Blocks.length : Int)), if_true, gd_pos (by omega : (0 : Int) ≤ (k : Int)), Int.toNat_natCast, List.getElem?_eq_getElem hk, Option.bind_some, xcount_spec, ksuc (by omega : k < 1099511627776)]
 exact key3 _ _ _ _ _
theorem loop_ok {α ρ : Type} {body : Int → Option (Int ⊕ ρ)} {l : List α} (p : α → Bool) (fin out : ρ) (hn : l.length ≤ 1000000) (step : ∀ (k : Nat) (hk : k < l.length), body (k : Int) = if p l[k] = true then some (.inl ((k + 1 : Nat) : Int)) else some (.inr out)) (last : body (l.length : Int) = some (.inr fin)) : loopN body Fu 0 = some (if l.all p = true then fin else out) := by
 have := loop_write (body := body) (l := l) (fun x => !p x) (fun k => (k : Int)) fin out (by omega) (fun k hk hb hk2 => by
  rw [step k hk]
  simp only [Bool.not_eq_false'] at hk2
  rw [hk2]; rfl) (fun k hk hb hk2 => by
  rw [step k hk]
  simp only [Bool.not_eq_true'] at hk2
  rw [hk2]; rfl) (fun _ => last)
 refine this.trans ?_
 have e : l.all p = !l.any (fun x => !p x) := by rw [Bool.eq_iff_iff]; simp
 rw [e]
 cases l.any (fun x => !p x) <;> rfl
theorem xright_st (s : StateG) (h : fewSt s) : gleaningref15_RightState s = some (rightSt s) := by
 obtain ⟨⟨h1, h1'⟩, ⟨h2, h2'⟩, h3, h4, h5, h6, h7⟩ := h
 have hol : (s.Open ++ s.Pending).length ≤ 1000 := by rw [List.length_append]; omega
 have hos : ∀ e ∈ s.Open ++ s.Pending, e.Spans.length ≤ 1000 := fun e he => by
  rcases List.mem_append.1 he with he | he
  ·have := h1' e he; omega
  ·have := h2' e he; omega
 have l1 := loop_ok (body := fun (q : Int) => gleaningref15_RightState_l2 s q) (l := s.Open ++ s.Pending) rightE (.inl ()) (.inr false) (by omega) (fun k hk => x1_step s hos (by omega) k hk) (by simp only [gleaningref15_RightState_l2, dec_f (by omega : ¬ ((s.Open ++ s.Pending).length : Int) < ((s.Open ++ s.Pending).length : Int)), Bool.false_eq_true, if_false])
 have l2 := loop_ok (body := fun (q : Int) => gleaningref15_RightState_l4 s q) (l := s.Rows) rowB (.inl ()) (.inr false) (by omega) (fun k hk => x2_step s (by omega) k hk) (by simp only [gleaningref15_RightState_l4, dec_f (by omega : ¬ (s.Rows.length : Int) < (s.Rows.length : Int)), Bool.false_eq_true, if_false])
 have l3 := loop_ok (body := fun (q : Int) => gleaningref15_RightState_l8 s q) (l := s.Edges) edgB (.inl ()) (.inr false) (by omega) (fun k hk => x3_step s (by omega) k hk) (by simp only [gleaningref15_RightState_l8, dec_f (by omega : ¬ (s.Edges.length : Int) < (s.Edges.length : Int)), Bool.false_eq_true, if_false])
 have l4 := loop_ok (body := fun (q : Int) => gleaningref15_RightState_l10 s q) (l := s.Slots) sltB (.inl ()) (.inr false) (by omega) (fun k hk => x4_step s (by omega) k hk) (by simp only [gleaningref15_RightState_l10, dec_f (by omega : ¬ (s.Slots.length : Int) < (s.Slots.length : Int)), Bool.false_eq_true, if_false])
 have l5 := loop_ok (body := fun (q : Int) => gleaningref15_RightState_l11 s q) (l := s.Blocks) numB true false (by omega) (fun k hk => x5_step s (by omega) k hk) (by simp only [gleaningref15_RightState_l11, dec_f (by omega : ¬ (s.Blocks.length : Int) < (s.Blocks.length : Int)), Bool.false_eq_true, if_false])
 rw [gleaningref15_RightState, rightSt]
 simp only [xcount_spec, xright_spec', Option.bind_some]
 cases countB s.Now
 ·rfl
 cases countB s.Sec
 ·rfl
 cases countB s.Kept
 ·rfl
 cases countB s.Next
 ·rfl
 cases rightR s.Policy
 ·rfl
 simp only [Bool.not_true, Bool.false_eq_true, if_false, Option.bind_some, Sum.elim_inl, gleaningref15_RightState_k0, Bool.and_self, Bool.true_and]
 rw [gd_pos (by omega), gd_pos (by omega)]
 refine (congrArg (fun o => Option.bind o _) l1).trans ?_
 rw [List.all_append]
 cases s.Open.all rightE
 ·rfl
 cases s.Pending.all rightE
 ·rfl
 simp only [Bool.and_self, if_true, Option.bind_some, Sum.elim_inl, gleaningref15_RightState_k1, Bool.true_and]
 refine (congrArg (fun o => Option.bind o _) l2).trans ?_
 cases s.Rows.all rowB
 ·rfl
 simp only [if_true, Option.bind_some, Sum.elim_inl, gleaningref15_RightState_k3, Bool.true_and]
 refine (congrArg (fun o => Option.bind o _) l3).trans ?_
 cases s.Edges.all edgB
 ·rfl
 simp only [if_true, Option.bind_some, Sum.elim_inl, gleaningref15_RightState_k7, Bool.true_and]
 refine (congrArg (fun o => Option.bind o _) l4).trans ?_
 cases s.Slots.all sltB
 ·rfl
 simp only [if_true, Option.bind_some, Sum.elim_inl, gleaningref15_RightState_k9, Bool.true_and]
 refine l5.trans ?_
 cases s.Blocks.all numB <;> rfl
end Go.Proofs.YtjklegmimpehlaaGreat.Ab
namespace Go.Proofs.YtjklegmimpehlaaGreat.Ab
open Go Go.RowKit
set_option linter.unusedVariables false
set_option linter.unusedSimpArgs false
def trB (t : Trace) : List UInt8 := numsB [t.Hi, t.Lo]
def epF (e : Episode) : List UInt8 := trB e.Trace ++ epB e
def meF (v : Verdict) : List UInt8 := trB v.Trace ++ numsB [bitI v.Kept]
def roF (r : RowG) : List UInt8 := numsB [r.Level, r.Window] ++ (textsB [r.Service, r.Op] ++ (numsB [r.Counter.Count, r.Counter.Errs] ++ numsB (byL r.Counter)))
def edF (x : Edge) : List UInt8 := textsB [x.From, x.To] ++ numsB [x.Count, x.Errs]
def slF (x : Exemplar) : List UInt8 := textsB [x.Service, x.Op] ++ (numsB [x.Trace.Hi, x.Trace.Lo, x.Id] ++ numsB [x.Block])
def blF (b : Block) : List UInt8 := numsB [b.Number, b.Born, b.Tier]
def rowsOfB {α : Type} (f : α → List UInt8) (l : List α) : List UInt8 := numsB [(l.length : Int)] ++ l.flatMap f
def stB (s : StateG) : List UInt8 := numsB [s.Now, s.Sec, s.Kept, s.Next] ++ (numsB [((ruleB 5 s.Policy).length : Int)] ++ (ruleB 5 s.Policy ++ (rowsOfB epF s.Open ++ (rowsOfB epF s.Pending ++ (rowsOfB meF s.Memo ++ (rowsOfB roF s.Rows ++ (rowsOfB edF s.Edges ++ (rowsOfB slF s.Slots ++ rowsOfB blF s.Blocks))))))))
structure wfSt (s : StateG) : Prop where
 open_ : ∀ e ∈ s.Open, wfE e
 pend : ∀ e ∈ s.Pending, wfE e
 memo : ∀ v ∈ s.Memo, isU v.Trace.Hi ∧ isU v.Trace.Lo
 slts : ∀ x ∈ s.Slots, isU x.Trace.Hi ∧ isU x.Trace.Lo ∧ isU x.Id
theorem fl_le {α : Type} {f : α → List UInt8} {m : Nat} : ∀ (l : List α), (∀ x ∈ l, (f x).length ≤ m) → (l.flatMap f).length ≤ m * l.length
 | [], _ => by simp
 | x :: l, h => by
  have h1 := h x List.mem_cons_self
  have h2 := fl_le l fun y hy => h y (List.mem_cons_of_mem _ hy)
  rw [List.flatMap_cons, List.length_append, List.length_cons, Nat.mul_succ]; omega
theorem fl_suc {α : Type} (f : α → List UInt8) {l : List α} {k : Nat} (hk : k < l.length) : (l.take (k + 1)).flatMap f = (l.take k).flatMap f ++ f l[k] := by
 rw [List.take_succ_eq_append_getElem hk, List.flatMap_append]; simp
theorem cnt_in {n : Int} (h : countB n = true) : 0 ≤ n ∧ n < 9223372036854775808 := by have := countB_of h; omega
theorem nms (l : List Int) (h : ∀ n ∈ l, countB n = true) : (∀ n ∈ l, 0 ≤ n ∧ n < 9223372036854775808) ∧ (∀ n ∈ l, isU n) := ⟨fun n hn => cnt_in (h n hn), fun n hn => isU_c (h n hn)⟩
theorem name_in {s : ByteArray} (h : nameB s = true) : 1 ≤ s.size ∧ s.size ≤ 16 := by simpa [nameB] using h
theorem two_mem {α : Type} {p : α → Prop} {a b : α} (ha : p a) (hb : p b) : ∀ x ∈ [a, b], p x := by
 intro x hx
 simp only [List.mem_cons, List.not_mem_nil, or_false] at hx
 rcases hx with rfl | rfl <;> assumption
theorem tx_le {a b : ByteArray} (ha : a.size ≤ 16) (hb : b.size ≤ 16) : (textsB [a, b]).length ≤ 52 := textsB_le [a, b] 16 (by omega) (two_mem (p := fun x : ByteArray => x.size ≤ 16) ha hb)
theorem epF_le {e : Episode} (hw : wfE e) (h : rightE e = true) (hl : e.Spans.length ≤ 100) : (epF e).length ≤ 40200 := by
 obtain ⟨h1, h2, h3, h4⟩ := rightE_of h
 have a1 := nums_le2 (isU_c h1) (isU_c h2)
 have a2 := nums_le1 (isU_bit e.Sure)
 have a3 := nums_le1 (isU_len (n := e.Spans.length) (by omega))
 have a4 := spansB_le e.Spans fun s hs => ⟨hw.2.2 s hs, h4 s hs⟩
 have a5 := nums_le2 hw.1 hw.2.1
 simp only [epF, trB, epB, List.length_append]; omega
theorem meF_le {v : Verdict} (h : isU v.Trace.Hi ∧ isU v.Trace.Lo) : (meF v).length ≤ 30 := by
 have a1 := nums_le2 h.1 h.2
 have a2 := nums_le1 (isU_bit v.Kept)
 simp only [meF, trB, List.length_append]; omega
theorem row_in {r : RowG} (h : rowB r = true) : (0 ≤ r.Level ∧ r.Level ≤ 2 ∧ 0 ≤ r.Window ∧ r.Window ≤ 1099511627776) ∧ nameB r.Service = true ∧ nameB r.Op = true ∧ countB r.Counter.Count = true ∧ countB r.Counter.Errs = true ∧ ∀ n ∈ byL r.Counter, countB n = true := by
 simp only [rowB, Bool.and_eq_true, List.all_eq_true] at h
 exact ⟨win_lev h.1, h.2.1, h.2.2.1, h.2.2.2.1.1, h.2.2.2.1.2, h.2.2.2.2⟩
theorem roF_le {r : RowG} (h : rowB r = true) : (roF r).length ≤ 200 := by
 obtain ⟨h1, h2, h3, h4, h5, h6⟩ := row_in h
 have a1 := nums_le2 (m := r.Level) (n := r.Window) ⟨h1.1, by omega⟩ ⟨h1.2.2.1, by omega⟩
 have a2 := tx_le (name_in h2).2 (name_in h3).2
 have a3 := nums_le2 (isU_c h4) (isU_c h5)
 have a4 := numsB_le (byL r.Counter) (nms _ h6).2
 have a5 : (byL r.Counter).length = 8 := rfl
 simp only [roF, List.length_append]; omega
theorem edg_in {x : Edge} (h : edgB x = true) : nameB x.From = true ∧ nameB x.To = true ∧ countB x.Count = true ∧ countB x.Errs = true := by
 simpa only [edgB, Bool.and_eq_true] using h
theorem edF_le {x : Edge} (h : edgB x = true) : (edF x).length ≤ 100 := by
 obtain ⟨h1, h2, h3, h4⟩ := edg_in h
 have a1 := tx_le (name_in h1).2 (name_in h2).2
 have a2 := nums_le2 (isU_c h3) (isU_c h4)
 simp only [edF, List.length_append]; omega
theorem slt_in {x : Exemplar} (h : sltB x = true) : nameB x.Service = true ∧ nameB x.Op = true ∧ countB x.Block = true := by
 simpa only [sltB, Bool.and_eq_true] using h
theorem slF_le {x : Exemplar} (h : sltB x = true) (w : isU x.Trace.Hi ∧ isU x.Trace.Lo ∧ isU x.Id) : (slF x).length ≤ 100 := by
 obtain ⟨h1, h2, h3⟩ := slt_in h
 have a1 := tx_le (name_in h1).2 (name_in h2).2
 have a2 := numsB_le [x.Trace.Hi, x.Trace.Lo, x.Id] (by simpa using w)
 have a3 := nums_le1 (isU_c h3)
 simp only [slF, List.length_append, List.length_cons, List.length_nil] at a2 ⊢; omega
theorem num_in {b : Block} (h : numB b = true) : countB b.Number = true ∧ countB b.Born = true ∧ countB b.Tier = true := by
 simpa only [numB, Bool.and_eq_true] using h
theorem blF_le {b : Block} (h : numB b = true) : (blF b).length ≤ 30 := by
 obtain ⟨h1, h2, h3⟩ := num_in h
 exact numsB_le [b.Number, b.Born, b.Tier] (by simpa using ⟨isU_c h1, isU_c h2, isU_c h3⟩)
theorem put_len (w : Writer) {n : Nat} (hn : n ≤ 1000000) (hl : w.B.length ≤ 1000000000) : ints_Writer_Num w [(n : Int)] = some ⟨w.B ++ numsB [(n : Int)]⟩ := num_spec w _ (fun m hm => by rw [List.mem_singleton.1 hm]; omega) (by simp only [List.length_cons, List.length_nil]; omega)
theorem put_eps (w : Writer) (l : List Episode) (hl : l.length ≤ 200) (hs : ∀ e ∈ l, e.Spans.length ≤ 100) (hw : ∀ e ∈ l, wfE e) (hr : l.all rightE = true) (hb : w.B.length ≤ 100000000) : state_putEpisodes w l = some ⟨w.B ++ rowsOfB epF l⟩ := by
 rw [List.all_eq_true] at hr
 have hle : ∀ k, ((l.take k).flatMap epF).length ≤ 40200 * 200 := fun k => by
  have := fl_le (f := epF) (m := 40200) (l.take k) fun e he => epF_le (hw _ (List.mem_of_mem_take he)) (hr _ (List.mem_of_mem_take he)) (hs _ (List.mem_of_mem_take he))
  have : (l.take k).length ≤ 200 := by rw [List.length_take]; omega
  omega
 rw [state_putEpisodes, put_len w (by omega) (by omega), Option.bind_some]
 have hn := nums_le1 (isU_len (n := l.length) (by omega))
 have hB : w.B ++ rowsOfB epF l = (w.B ++ numsB [(l.length : Int)]) ++ l.flatMap epF := by simp [rowsOfB]
 rw [hB]
 dsimp only
 generalize hC : w.B ++ numsB [(l.length : Int)] = C
 have hCl : C.length ≤ 100000100 := by rw [← hC, List.length_append]; omega
 refine loop_list (l := l) (fun k r q => q = (C ++ (l.take k).flatMap epF, (k : Int)) ∧ r = ⟨C ++ l.flatMap epF⟩) (by omega) ?_ ?_ ⟨by simp, rfl⟩
 ·rintro k hk r q ⟨rfl, rfl⟩
  have h1 := hle k
  have hwe := hw _ (List.getElem_mem hk)
  have n2 := nums_le2 hwe.1 hwe.2.1
  refine .inl ⟨(C ++ (l.take (k + 1)).flatMap epF, ((k + 1 : Nat) : Int)), ?_, rfl, rfl⟩
  simp only [state_putEpisodes_l0, dec_t (by omega : (k : Int) < (l.length : Int)), if_true, gd_pos (by omega : (0 : Int) ≤ (k : Int)), Int.toNat_natCast, List.getElem?_eq_getElem hk, Option.bind_some]
  rw [wide_spec _ _ (two_mem (p := isU) hwe.1 hwe.2.1) (by simp only [List.length_append, List.length_cons, List.length_nil]; omega), Option.bind_some, puts_spec _ _ hwe (hr _ (List.getElem_mem hk)) (by have := hs _ (List.getElem_mem hk); omega) (by simp only [List.length_append]; omega), Option.bind_some, ksuc (by omega), fl_suc epF hk]
  simp [epF, trB]
 ·rintro r q ⟨rfl, rfl⟩
  simp only [state_putEpisodes_l0, dec_f (by omega : ¬ (l.length : Int) < (l.length : Int)), Bool.false_eq_true, if_false, List.take_length]
theorem loop_memo (s : StateG) (C : List UInt8) (hl : s.Memo.length ≤ 100) (hr : ∀ x ∈ s.Memo, isU x.Trace.Hi ∧ isU x.Trace.Lo) (hb : C.length ≤ 200000000) : loopN (fun (q : List UInt8 × Int) => state_Bytes_l1 s q.1 q.2) Fu (C, 0) = some (C ++ s.Memo.flatMap meF) := by
 have hle : ∀ k, ((s.Memo.take k).flatMap meF).length ≤ 30 * 100 := fun k => by
  have := fl_le (f := meF) (m := 30) (s.Memo.take k) fun x hx => meF_le (hr _ (List.mem_of_mem_take hx))
  have : (s.Memo.take k).length ≤ 100 := by rw [List.length_take]; omega
  omega
 refine loop_list (l := s.Memo) (fun k r q => q = (C ++ (s.Memo.take k).flatMap meF, (k : Int)) ∧ r = (C ++ s.Memo.flatMap meF)) (by omega) ?_ ?_ ⟨by simp, rfl⟩
 ·rintro k hk r q ⟨rfl, rfl⟩
  have h1 := hle k
  have hx := hr _ (List.getElem_mem hk)
  have n2 := nums_le2 hx.1 hx.2
  refine .inl ⟨(C ++ (s.Memo.take (k + 1)).flatMap meF, ((k + 1 : Nat) : Int)), ?_, rfl, rfl⟩
  simp only [state_Bytes_l1, dec_t (by omega : (k : Int) < (s.Memo.length : Int)), if_true, gd_pos (by omega : (0 : Int) ≤ (k : Int)), Int.toNat_natCast, List.getElem?_eq_getElem hk, Option.bind_some]
  rw [wide_spec _ _ (two_mem (p := isU) hx.1 hx.2) (by simp only [List.length_append, List.length_cons, List.length_nil]; omega), Option.bind_some, flag_spec _ _ (by simp only [List.length_append]; omega), Option.bind_some, ksuc (by omega), fl_suc meF hk]
  simp [meF, trB]
 ·rintro r q ⟨rfl, rfl⟩
  simp only [state_Bytes_l1, dec_f (by omega : ¬ (s.Memo.length : Int) < (s.Memo.length : Int)), Bool.false_eq_true, if_false, List.take_length]
theorem loop_rows (s : StateG) (C : List UInt8) (hl : s.Rows.length ≤ 100) (hr : ∀ x ∈ s.Rows, rowB x = true) (hb : C.length ≤ 200000000) : loopN (fun (q : List UInt8 × Int) => state_putRows_l1 s q.1 q.2) Fu (C, 0) = some (C ++ s.Rows.flatMap roF) := by
 have hle : ∀ k, ((s.Rows.take k).flatMap roF).length ≤ 200 * 100 := fun k => by
  have := fl_le (f := roF) (m := 200) (s.Rows.take k) fun x hx => roF_le (hr _ (List.mem_of_mem_take hx))
  have : (s.Rows.take k).length ≤ 100 := by rw [List.length_take]; omega
  omega
 refine loop_list (l := s.Rows) (fun k r q => q = (C ++ (s.Rows.take k).flatMap roF, (k : Int)) ∧ r = (C ++ s.Rows.flatMap roF)) (by omega) ?_ ?_ ⟨by simp, rfl⟩
 ·rintro k hk r q ⟨rfl, rfl⟩
  have h1 := hle k
  have hx := hr _ (List.getElem_mem hk)
  obtain ⟨h2, h3, h4, h5, h6, h7⟩ := row_in hx
  have a1 := nums_le2 (m := s.Rows[k].Level) (n := s.Rows[k].Window) ⟨h2.1, by omega⟩ ⟨h2.2.2.1, by omega⟩
  have a2 := tx_le (name_in h3).2 (name_in h4).2
  have a3 := nums_le2 (isU_c h5) (isU_c h6)
  have a5 : (byL s.Rows[k].Counter).length = 8 := rfl
  have e8 : [s.Rows[k].Counter.By.c0, s.Rows[k].Counter.By.c1, s.Rows[k].Counter.By.c2, s.Rows[k].Counter.By.c3, s.Rows[k].Counter.By.c4, s.Rows[k].Counter.By.c5, s.Rows[k].Counter.By.c6, s.Rows[k].Counter.By.c7] = byL s.Rows[k].Counter := rfl
  refine .inl ⟨(C ++ (s.Rows.take (k + 1)).flatMap roF, ((k + 1 : Nat) : Int)), ?_, rfl, rfl⟩
  simp only [state_putRows_l1, dec_t (by omega : (k : Int) < (s.Rows.length : Int)), if_true, gd_pos (by omega : (0 : Int) ≤ (k : Int)), Int.toNat_natCast, List.getElem?_eq_getElem hk, Option.bind_some]
  rw [num_spec _ _ (two_mem (p := fun n : Int => 0 ≤ n ∧ n < 9223372036854775808) ⟨h2.1, by omega⟩ ⟨h2.2.2.1, by omega⟩) (by simp only [List.length_append, List.length_cons, List.length_nil]; omega), Option.bind_some, wtext_spec _ _ 16 (by omega) (two_mem (p := fun x : ByteArray => x.size ≤ 16) (name_in h3).2 (name_in h4).2) (by simp only [List.length_append, List.length_cons, List.length_nil]; omega), Option.bind_some, num_spec _ _ (two_mem (p := fun n : Int => 0 ≤ n ∧ n < 9223372036854775808) (cnt_in h5) (cnt_in h6)) (by simp only [List.length_append, List.length_cons, List.length_nil]; omega), Option.bind_some, e8, num_spec _ (byL s.Rows[k].Counter) (nms _ h7).1 (by simp only [List.length_append]; omega), Option.bind_some, ksuc (by omega), fl_suc roF hk]
  simp [roF, byL]
 ·rintro r q ⟨rfl, rfl⟩
  simp only [state_putRows_l1, dec_f (by omega : ¬ (s.Rows.length : Int) < (s.Rows.length : Int)), Bool.false_eq_true, if_false, List.take_length]
theorem loop_edgs (s : StateG) (C : List UInt8) (hl : s.Edges.length ≤ 100) (hr : ∀ x ∈ s.Edges, edgB x = true) (hb : C.length ≤ 200000000) : loopN (fun (q : List UInt8 × Int) => state_putRows_l2 s q.1 q.2) Fu (C, 0) = some ⟨C ++ s.Edges.flatMap edF⟩ := by
 have hle : ∀ k, ((s.Edges.take k).flatMap edF).length ≤ 100 * 100 := fun k => by
  have := fl_le (f := edF) (m := 100) (s.Edges.take k) fun x hx => edF_le (hr _ (List.mem_of_mem_take hx))
  have : (s.Edges.take k).length ≤ 100 := by rw [List.length_take]; omega
  omega
 refine loop_list (l := s.Edges) (fun k r q => q = (C ++ (s.Edges.take k).flatMap edF, (k : Int)) ∧ r = ⟨C ++ s.Edges.flatMap edF⟩) (by omega) ?_ ?_ ⟨by simp, rfl⟩
 ·rintro k hk r q ⟨rfl, rfl⟩
  have h1 := hle k
  have hx := hr _ (List.getElem_mem hk)
  obtain ⟨h3, h4, h5, h6⟩ := edg_in hx
  have a2 := tx_le (name_in h3).2 (name_in h4).2
  refine .inl ⟨(C ++ (s.Edges.take (k + 1)).flatMap edF, ((k + 1 : Nat) : Int)), ?_, rfl, rfl⟩
  simp only [state_putRows_l2, dec_t (by omega : (k : Int) < (s.Edges.length : Int)), if_true, gd_pos (by omega : (0 : Int) ≤ (k : Int)), Int.toNat_natCast, List.getElem?_eq_getElem hk, Option.bind_some]
  rw [wtext_spec _ _ 16 (by omega) (two_mem (p := fun x : ByteArray => x.size ≤ 16) (name_in h3).2 (name_in h4).2) (by simp only [List.length_append, List.length_cons, List.length_nil]; omega), Option.bind_some, num_spec _ _ (two_mem (p := fun n : Int => 0 ≤ n ∧ n < 9223372036854775808) (cnt_in h5) (cnt_in h6)) (by simp only [List.length_append, List.length_cons, List.length_nil]; omega), Option.bind_some, ksuc (by omega), fl_suc edF hk]
  simp [edF]
 ·rintro r q ⟨rfl, rfl⟩
  simp only [state_putRows_l2, dec_f (by omega : ¬ (s.Edges.length : Int) < (s.Edges.length : Int)), Bool.false_eq_true, if_false, List.take_length]
theorem loop_slts (s : StateG) (C : List UInt8) (hl : s.Slots.length ≤ 100) (hr : ∀ x ∈ s.Slots, sltB x = true ∧ isU x.Trace.Hi ∧ isU x.Trace.Lo ∧ isU x.Id) (hb : C.length ≤ 200000000) : loopN (fun (q : List UInt8 × Int) => state_putBlocks_l1 s q.1 q.2) Fu (C, 0) = some (C ++ s.Slots.flatMap slF) := by
 have hle : ∀ k, ((s.Slots.take k).flatMap slF).length ≤ 100 * 100 := fun k => by
  have := fl_le (f := slF) (m := 100) (s.Slots.take k) fun x hx => slF_le (hr _ (List.mem_of_mem_take hx)).1 (hr _ (List.mem_of_mem_take hx)).2
  have : (s.Slots.take k).length ≤ 100 := by rw [List.length_take]; omega
  omega
 refine loop_list (l := s.Slots) (fun k r q => q = (C ++ (s.Slots.take k).flatMap slF, (k : Int)) ∧ r = (C ++ s.Slots.flatMap slF)) (by omega) ?_ ?_ ⟨by simp, rfl⟩
 ·rintro k hk r q ⟨rfl, rfl⟩
  have h1 := hle k
  have hx := hr _ (List.getElem_mem hk)
  obtain ⟨h3, h4, h5⟩ := slt_in hx.1
  have a2 := tx_le (name_in h3).2 (name_in h4).2
  have a3 := numsB_le [s.Slots[k].Trace.Hi, s.Slots[k].Trace.Lo, s.Slots[k].Id] (by simpa using hx.2)
  refine .inl ⟨(C ++ (s.Slots.take (k + 1)).flatMap slF, ((k + 1 : Nat) : Int)), ?_, rfl, rfl⟩
  simp only [state_putBlocks_l1, dec_t (by omega : (k : Int) < (s.Slots.length : Int)), if_true, gd_pos (by omega : (0 : Int) ≤ (k : Int)), Int.toNat_natCast, List.getElem?_eq_getElem hk, Option.bind_some]
  rw [wtext_spec _ _ 16 (by omega) (two_mem (p := fun x : ByteArray => x.size ≤ 16) (name_in h3).2 (name_in h4).2) (by simp only [List.length_append, List.length_cons, List.length_nil]; omega), Option.bind_some, wide_spec _ _ (by simpa using hx.2) (by simp only [List.length_append, List.length_cons, List.length_nil]; omega), Option.bind_some, num_spec _ _ (fun n hn => by rw [List.mem_singleton.1 hn]; exact cnt_in h5) (by simp only [List.length_append, List.length_cons, List.length_nil] at a3 ⊢; omega), Option.bind_some, ksuc (by omega), fl_suc slF hk]
  simp [slF]
 ·rintro r q ⟨rfl, rfl⟩
  simp only [state_putBlocks_l1, dec_f (by omega : ¬ (s.Slots.length : Int) < (s.Slots.length : Int)), Bool.false_eq_true, if_false, List.take_length]
theorem loop_blks (s : StateG) (C : List UInt8) (hl : s.Blocks.length ≤ 100) (hr : ∀ x ∈ s.Blocks, numB x = true) (hb : C.length ≤ 200000000) : loopN (fun (q : List UInt8 × Int) => state_putBlocks_l2 s q.1 q.2) Fu (C, 0) = some ⟨C ++ s.Blocks.flatMap blF⟩ := by
 have hle : ∀ k, ((s.Blocks.take k).flatMap blF).length ≤ 30 * 100 := fun k => by
  have := fl_le (f := blF) (m := 30) (s.Blocks.take k) fun x hx => blF_le (hr _ (List.mem_of_mem_take hx))
  have : (s.Blocks.take k).length ≤ 100 := by rw [List.length_take]; omega
  omega
 refine loop_list (l := s.Blocks) (fun k r q => q = (C ++ (s.Blocks.take k).flatMap blF, (k : Int)) ∧ r = ⟨C ++ s.Blocks.flatMap blF⟩) (by omega) ?_ ?_ ⟨by simp, rfl⟩
 ·rintro k hk r q ⟨rfl, rfl⟩
  have h1 := hle k
  have hx := hr _ (List.getElem_mem hk)
  refine .inl ⟨(C ++ (s.Blocks.take (k + 1)).flatMap blF, ((k + 1 : Nat) : Int)), ?_, rfl, rfl⟩
  simp only [state_putBlocks_l2, dec_t (by omega : (k : Int) < (s.Blocks.length : Int)), if_true, gd_pos (by omega : (0 : Int) ≤ (k : Int)), Int.toNat_natCast, List.getElem?_eq_getElem hk, Option.bind_some]
  rw [num_spec _ _ (nms [s.Blocks[k].Number, s.Blocks[k].Born, s.Blocks[k].Tier] (by simpa using num_in hx)).1 (by simp only [List.length_append, List.length_cons, List.length_nil]; omega), Option.bind_some, ksuc (by omega), fl_suc blF hk]
  simp [blF]
 ·rintro r q ⟨rfl, rfl⟩
  simp only [state_putBlocks_l2, dec_f (by omega : ¬ (s.Blocks.length : Int) < (s.Blocks.length : Int)), Bool.false_eq_true, if_false, List.take_length]
theorem rights_of {s : StateG} (h : rightSt s = true) : (countB s.Now = true ∧ countB s.Sec = true ∧ countB s.Kept = true ∧ countB s.Next = true) ∧ rightR s.Policy = true ∧ s.Open.all rightE = true ∧ s.Pending.all rightE = true ∧ (∀ x ∈ s.Rows, rowB x = true) ∧ (∀ x ∈ s.Edges, edgB x = true) ∧ (∀ x ∈ s.Slots, sltB x = true) ∧ ∀ x ∈ s.Blocks, numB x = true := by
 simp only [rightSt, Bool.and_eq_true] at h
 obtain ⟨h1, h2, h3, h4, h5, h6, h7, h8⟩ := h
 exact ⟨h1, h2, h3, h4, List.all_eq_true.1 h5, List.all_eq_true.1 h6, List.all_eq_true.1 h7, List.all_eq_true.1 h8⟩
theorem part_le {α : Type} {f : α → List UInt8} {m n : Nat} (l : List α) (hl : l.length ≤ n) (hn : n ≤ 1000) (h : ∀ x ∈ l, (f x).length ≤ m) : (rowsOfB f l).length ≤ 10 + m * n := by
 have h1 := nums_le1 (isU_len (n := l.length) (by omega))
 have h2 := fl_le l h
 have h3 := Nat.mul_le_mul_left m hl
 rw [rowsOfB, List.length_append]; omega
theorem stB_le {s : StateG} (hf : fewSt s) (hw : wfSt s) (h : rightSt s = true) : (stB s).length ≤ 20000000 := by
 obtain ⟨⟨c1, c2, c3, c4⟩, h2, h3, h4, h5, h6, h7, h8⟩ := rights_of h
 rw [List.all_eq_true] at h3 h4
 have a1 := numsB_le [s.Now, s.Sec, s.Kept, s.Next] (by simpa using ⟨isU_c c1, isU_c c2, isU_c c3, isU_c c4⟩)
 have a2 := (ruleB_len h2).2
 have a3 := nums_le1 (isU_len (n := (ruleB 5 s.Policy).length) (by omega))
 have b1 := part_le (f := epF) (m := 40200) (n := 200) s.Open hf.open_.1 (by omega) fun e he => epF_le (hw.open_ e he) (h3 e he) (hf.open_.2 e he)
 have b2 := part_le (f := epF) (m := 40200) (n := 200) s.Pending hf.pend.1 (by omega) fun e he => epF_le (hw.pend e he) (h4 e he) (hf.pend.2 e he)
 have b3 := part_le (f := meF) (m := 30) (n := 100) s.Memo hf.memo (by omega) fun e he => meF_le (hw.memo e he)
 have b4 := part_le (f := roF) (m := 200) (n := 100) s.Rows hf.rows (by omega) fun e he => roF_le (h5 e he)
 have b5 := part_le (f := edF) (m := 100) (n := 100) s.Edges hf.edgs (by omega) fun e he => edF_le (h6 e he)
 have b6 := part_le (f := slF) (m := 100) (n := 100) s.Slots hf.slts (by omega) fun e he => slF_le (h7 e he) (hw.slts e he)
 have b7 := part_le (f := blF) (m := 30) (n := 100) s.Blocks hf.blks (by omega) fun e he => blF_le (h8 e he)
 simp only [List.length_cons, List.length_nil] at a1
 simp only [stB, List.length_append]; omega
def bytesSt (s : StateG) : List UInt8 := if rightSt s = true then sealB (stB s) else []
theorem bytes_st (s : StateG) (hf : fewSt s) (hw : wfSt s) : state_Bytes s = some (bytesSt s) := by
 rw [state_Bytes, right_st s hf, Option.bind_some, bytesSt]
 cases h : rightSt s with
 | false => rfl
 | true =>
  have hle := stB_le hf hw h
  obtain ⟨⟨c1, c2, c3, c4⟩, h2, h3, h4, h5, h6, h7, h8⟩ := rights_of h
  have a1 := nms [s.Now, s.Sec, s.Kept, s.Next] (by simpa using ⟨c1, c2, c3, c4⟩)
  have a2 := (ruleB_len h2).2
  obtain ⟨f1, f2, f3, f4, f5, f6, f7⟩ := hf
  simp only [stB, List.length_append, rowsOfB] at hle
  simp only [Bool.not_true, Bool.false_eq_true, if_false, if_true]
  rw [num_spec _ _ a1.1 (by simp), Option.bind_some, rbytes_spec, Option.bind_some, bytesR, if_pos h2, put_len _ (by omega) (by simp only [List.length_append, List.length_nil]; omega), Option.bind_some, gd_pos (by simp only [List.length_append, List.length_nil]; omega),
   put_eps _ _ f1.1 f1.2 hw.open_ h3 (by simp only [List.length_append, List.length_nil]; omega), Option.bind_some, put_eps _ _ f2.1 f2.2 hw.pend h4 (by simp only [List.length_append, List.length_nil, rowsOfB]; omega), Option.bind_some, put_len _ (by omega) (by simp only [List.length_append, List.length_nil, rowsOfB]; omega), Option.bind_some]
  dsimp only
  refine (congrArg (fun o => Option.bind o _) (loop_memo s _ f3 hw.memo (by simp only [List.length_append, List.length_nil, rowsOfB]; omega))).trans ?_
  rw [Option.bind_some, state_Bytes_k0, state_putRows, put_len _ (by omega) (by simp only [List.length_append, List.length_nil, rowsOfB]; omega), Option.bind_some]
  dsimp only
  rw [loop_rows s _ f4 h5 (by simp only [List.length_append, List.length_nil, rowsOfB]; omega), Option.bind_some, state_putRows_k0, put_len _ (by omega) (by simp only [List.length_append, List.length_nil, rowsOfB]; omega), Option.bind_some]
  dsimp only
  rw [loop_edgs s _ f5 h6 (by simp only [List.length_append, List.length_nil, rowsOfB]; omega), Option.bind_some, state_putBlocks, put_len _ (by omega) (by simp only [List.length_append, List.length_nil, rowsOfB]; omega), Option.bind_some]
  dsimp only
  rw [loop_slts s _ f6 (fun x hx => ⟨h7 x hx, hw.slts x hx⟩) (by simp only [List.length_append, List.length_nil, rowsOfB]; omega), Option.bind_some, state_putBlocks_k0, put_len _ (by omega) (by simp only [List.length_append, List.length_nil, rowsOfB]; omega), Option.bind_some]
  dsimp only
  rw [loop_blks s _ f7 h8 (by simp only [List.length_append, List.length_nil, rowsOfB]; omega), Option.bind_some, seal_spec _ (by simp only [List.length_append, List.length_nil, rowsOfB]; omega), Option.bind_some]
  simp only [stB, rowsOfB, List.append_assoc, List.nil_append]
end Go.Proofs.YtjklegmimpehlaaGreat.Ab
namespace Go.Proofs.YtjklegmimpehlaaGreat.Ab
open Go Go.RowKit
set_option linter.unusedVariables false
set_option linter.unusedSimpArgs false
theorem nums_c (n : Int) (l : List Int) (q : List UInt8) : numsB (n :: l) ++ q = putN n.toNat ++ (numsB l ++ q) := by simp [numsB]
theorem nums_n (q : List UInt8) : numsB [] ++ q = q := rfl
theorem texts_c (t : ByteArray) (l : List ByteArray) (q : List UInt8) : textsB (t :: l) ++ q = textB t ++ (textsB l ++ q) := by simp [textsB]
theorem texts_n (q : List UInt8) : textsB [] ++ q = q := rfl
theorem putc_le {n : Int} (h : isU n) : (putN n.toNat).length ≤ 10 := putI_le h.2
theorem rnumP {n top : Int} {q : List UInt8} (h0 : 0 ≤ n) (h1 : n ≤ top) (ht : top ≤ 1099511627776) (hq : q.length ≤ 100000000) : ints_Reader_Num ⟨putN n.toNat ++ q, false⟩ top = some (n, ⟨q, false⟩) := by
 have := putI_le (n := n) (by omega)
 exact rnum_ok (by omega) (by omega) (by rw [List.length_append]; omega) (pNum_put h0 h1 (by omega) q)
theorem rcntP {n : Int} {q : List UInt8} (h : countB n = true) (hq : q.length ≤ 100000000) : ints_Reader_Num ⟨putN n.toNat ++ q, false⟩ 1099511627776 = some (n, ⟨q, false⟩) := rnumP (countB_of h).1 (countB_of h).2 (by omega) hq
theorem rwideP {n : Int} {q : List UInt8} (h : isU n) (hq : q.length ≤ 100000000) : ints_Reader_Wide ⟨putN n.toNat ++ q, false⟩ = some (n, ⟨q, false⟩) := by
 have := putc_le h
 exact rwide_ok (by rw [List.length_append]; omega) (pW_put h q)
theorem rtextP {t : ByteArray} {q : List UInt8} (h : t.size ≤ 16) (hq : q.length ≤ 100000000) : ints_Reader_Text ⟨textB t ++ q, false⟩ = some (t, ⟨q, false⟩) := by
 have := textB_le t (by omega)
 exact rtext_ok (by rw [List.length_append]; omega) (pT_put t (by omega) q)
theorem rflagP {b : Bool} {q : List UInt8} (hq : q.length ≤ 100000000) : ints_Reader_Flag ⟨putN (bitI b).toNat ++ q, false⟩ = some (b, ⟨q, false⟩) := by
 have h1 := bitU b
 have := putc_le (isU_bit b)
 rw [rflag_ok (by rw [List.length_append]; omega) (pNum_put h1.1 h1.2 (by omega) q), bit_eq]
theorem rcountP {n : Nat} {q : List UInt8} (h : n ≤ q.length) (hq : q.length ≤ 100000000) : ints_Reader_Count ⟨putN (n : Int).toNat ++ q, false⟩ = some ((n : Int), ⟨q, false⟩) := by
 rw [ints_Reader_Count, rwideP ⟨by omega, by omega⟩ hq, Option.bind_some]
 dsimp only
 rw [wu64 (by omega) (by omega), dec_f (by omega), ite_ff, w64 (by omega) (by omega)]
theorem tr_rd {t : Trace} {q : List UInt8} (h1 : isU t.Hi) (h2 : isU t.Lo) (hq : q.length ≤ 90000000) : state_trace ⟨trB t ++ q, false⟩ = some (t, ⟨q, false⟩) := by
 have := putc_le h2
 rw [trB, nums_c, nums_c, nums_n, state_trace, rwideP h1 (by rw [List.length_append]; omega), Option.bind_some, rwideP h2 (by omega), Option.bind_some]
theorem sp_pos : ∀ (l : List Span), l.length ≤ (spansB l).length
 | [] => by simp [spansB]
 | s :: l => by
  have h1 := spanB_pos s
  have h2 := sp_pos l
  simp only [spansB, List.flatMap_cons, List.length_append, List.length_cons] at h2 ⊢; omega
theorem gets_spec {e : Episode} {q : List UInt8} (hw : wfE e) (h : rightE e = true) (hl : e.Spans.length ≤ 100) (hq : q.length ≤ 50000000) : block_GetSpans ⟨epB e ++ q, false⟩ e.Trace = some (e, ⟨q, false⟩) := by
 obtain ⟨h1, h2, h3, h4⟩ := rightE_of h
 have u1 := putc_le (isU_c h2)
 have u2 := putc_le (isU_bit e.Sure)
 have u3 := putc_le (isU_len (n := e.Spans.length) (by omega))
 have u4 := spansB_le e.Spans fun s hs => ⟨hw.2.2 s hs, h4 s hs⟩
 have u5 := sp_pos e.Spans
 rw [epB, List.append_assoc, List.append_assoc, List.append_assoc, nums_c, nums_c, nums_n, nums_c, nums_n, nums_c, nums_n, block_GetSpans,
  rcntP h1 (by simp only [List.length_append]; omega), Option.bind_some, rcntP h2 (by simp only [List.length_append]; omega), Option.bind_some, rflagP (by simp only [List.length_append]; omega), Option.bind_some, rcountP (by simp only [List.length_append]; omega) (by simp only [List.length_append]; omega), Option.bind_some]
 have hloop : loopN (fun (s : List UInt8 × Bool × List Span × Int) => block_GetSpans_l1 ((e.Spans.length : Int), (⟨spansB e.Spans ++ q, false⟩ : Reader)) s.1 s.2.1 s.2.2.1 s.2.2.2) Fu (spansB e.Spans ++ q, false, [], 0) = some (q, false, e.Spans) := by
  refine loop_list (l := e.Spans) (fun k r s => s = (spansB (e.Spans.drop k) ++ q, false, e.Spans.take k, (k : Int)) ∧ r = (q, false, e.Spans)) (by omega) ?_ ?_ ⟨rfl, rfl⟩
  ·rintro k hk r s ⟨rfl, rfl⟩
   refine .inl ⟨(spansB (e.Spans.drop (k + 1)) ++ q, false, e.Spans.take (k + 1), ((k + 1 : Nat) : Int)), ?_, rfl, rfl⟩
   have hm := List.getElem_mem hk
   have d1 : spansB (e.Spans.drop k) = spanB e.Spans[k] ++ spansB (e.Spans.drop (k + 1)) := by
    rw [List.drop_eq_getElem_cons hk, spansB, spansB, List.flatMap_cons]
   have d2 := spansB_le (e.Spans.drop (k + 1)) fun s hs => ⟨hw.2.2 s (List.mem_of_mem_drop hs), h4 s (List.mem_of_mem_drop hs)⟩
   have d3 : (e.Spans.drop (k + 1)).length ≤ 100 := by rw [List.length_drop]; omega
   have d4 := spanB_le (hw.2.2 _ hm) (h4 _ hm)
   have d5 := get_yes (b := spanB e.Spans[k] ++ (spansB (e.Spans.drop (k + 1)) ++ q)) (by simp only [List.length_append]; omega) (pSpan_put (hw.2.2 _ hm) (h4 _ hm) _)
   rw [h4 _ hm, Bool.not_true] at d5
   simp only [block_GetSpans_l1, dec_t (by omega : (k : Int) < (e.Spans.length : Int)), if_true, Bool.false_eq_true, if_false, d1, List.append_assoc, d5, Option.bind_some, ksuc (by omega : k < 1099511627776)]
   rw [gd_pos (by rw [List.length_append, List.length_take]; simp only [List.length_cons, List.length_nil]; omega), List.take_succ_eq_append_getElem hk]
  ·rintro r s ⟨rfl, rfl⟩
   rw [List.drop_length, List.take_length]
   simp only [block_GetSpans_l1, dec_f (by omega : ¬ (e.Spans.length : Int) < (e.Spans.length : Int)), Bool.false_eq_true, if_false]
   rfl
 refine (congrArg (fun o => Option.bind o _) hloop).trans ?_
 rw [Option.bind_some, block_GetSpans_k0]
 simp only [Bool.false_eq_true, if_false]
 have he : (Episode.mk e.Trace e.First e.Last e.Sure e.Spans) = e := rfl
 rw [he, isE_spec e (by omega), h, Option.bind_some]
 rfl
theorem ep40 {e : Episode} (hw : wfE e) (h : rightE e = true) (hl : e.Spans.length ≤ 100) : (epB e).length ≤ 40200 := by
 have := epF_le hw h hl
 rw [epF, List.length_append] at this; omega
theorem nums_l2 (a b c d : Int) : (numsB [a, b, c, d]).length = (putN a.toNat).length + ((putN b.toNat).length + ((putN c.toNat).length + (putN d.toNat).length)) := by simp [numsB]
theorem nums_l1 (a : Int) : (numsB [a]).length = (putN a.toNat).length := by simp [numsB]
theorem ep_rd {e : Episode} {q : List UInt8} (hw : wfE e) (h : rightE e = true) (hl : e.Spans.length ≤ 100) (hq : q.length ≤ 50000000) : state_getEpisode ⟨epF e ++ q, false⟩ = some (e, ⟨q, false⟩) := by
 have := ep40 hw h hl
 rw [epF, List.append_assoc, state_getEpisode, tr_rd hw.1 hw.2.1 (by rw [List.length_append]; omega), Option.bind_some, gets_spec hw h hl hq, Option.bind_some]
theorem me_rd {v : Verdict} {q : List UInt8} (hw : isU v.Trace.Hi ∧ isU v.Trace.Lo) (hq : q.length ≤ 50000000) : state_get_c3 ⟨meF v ++ q, false⟩ = some (v, ⟨q, false⟩) := by
 have := putc_le (isU_bit v.Kept)
 rw [meF, List.append_assoc, nums_c, nums_n, state_get_c3, tr_rd hw.1 hw.2 (by rw [List.length_append]; omega), Option.bind_some, rflagP (by omega), Option.bind_some]
theorem ed_rd {x : Edge} {q : List UInt8} (h : edgB x = true) (hq : q.length ≤ 50000000) : state_getEdge ⟨edF x ++ q, false⟩ = some (x, ⟨q, false⟩) := by
 obtain ⟨h1, h2, h3, h4⟩ := edg_in h
 have t2 := textB_le x.To (by have := (name_in h2).2; omega)
 have n2 := (name_in h2).2
 have c1 := putc_le (isU_c h3)
 have c2 := putc_le (isU_c h4)
 rw [edF, List.append_assoc, texts_c, texts_c, texts_n, nums_c, nums_c, nums_n, state_getEdge, rtextP (name_in h1).2 (by simp only [List.length_append]; omega), Option.bind_some, rtextP n2 (by simp only [List.length_append]; omega), Option.bind_some, rcntP h3 (by rw [List.length_append]; omega), Option.bind_some, rcntP h4 (by omega), Option.bind_some]
theorem sl_rd {x : Exemplar} {q : List UInt8} (h : sltB x = true) (w : isU x.Trace.Hi ∧ isU x.Trace.Lo ∧ isU x.Id) (hq : q.length ≤ 50000000) : state_getSlot ⟨slF x ++ q, false⟩ = some (x, ⟨q, false⟩) := by
 obtain ⟨h1, h2, h3⟩ := slt_in h
 have t2 := textB_le x.Op (by have := (name_in h2).2; omega)
 have n2 := (name_in h2).2
 have c1 := putc_le w.1
 have c2 := putc_le w.2.1
 have c3 := putc_le w.2.2
 have c4 := putc_le (isU_c h3)
 have e : numsB [x.Trace.Hi, x.Trace.Lo, x.Id] ++ (numsB [x.Block] ++ q) = trB x.Trace ++ (putN x.Id.toNat ++ (putN x.Block.toNat ++ q)) := by simp [trB, numsB]
 have e2 : (trB x.Trace).length ≤ 20 := nums_le2 w.1 w.2.1
 rw [slF, List.append_assoc, List.append_assoc, texts_c, texts_c, texts_n, e, state_getSlot, rtextP (name_in h1).2 (by simp only [List.length_append]; omega), Option.bind_some, rtextP n2 (by simp only [List.length_append]; omega), Option.bind_some, tr_rd w.1 w.2.1 (by simp only [List.length_append]; omega), Option.bind_some, rwideP w.2.2 (by rw [List.length_append]; omega), Option.bind_some, rcntP h3 (by omega), Option.bind_some]
theorem bl_rd {b : Block} {q : List UInt8} (h : numB b = true) (he : b.Episodes = []) (hq : q.length ≤ 50000000) : state_getBlock ⟨blF b ++ q, false⟩ = some (b, ⟨q, false⟩) := by
 obtain ⟨h1, h2, h3⟩ := num_in h
 have c2 := putc_le (isU_c h2)
 have c3 := putc_le (isU_c h3)
 rw [blF, nums_c, nums_c, nums_c, nums_n, state_getBlock, rcntP h1 (by simp only [List.length_append]; omega), Option.bind_some, rcntP h2 (by rw [List.length_append]; omega), Option.bind_some, rcntP h3 (by omega), Option.bind_some]
 cases b
 simp only at he
 subst he
 rfl
theorem fuR : Fu = 1208925819614629174706167 + 1 + 1 + 1 + 1 + 1 + 1 + 1 + 1 + 1 := rfl
theorem ro_rd {r : RowG} {q : List UInt8} (h : rowB r = true) (hq : q.length ≤ 50000000) : state_getRow ⟨roF r ++ q, false⟩ = some (r, ⟨q, false⟩) := by
 obtain ⟨g1, g2, g3, g4, g5, g6⟩ := row_in h
 simp only [byL, List.mem_cons, List.not_mem_nil, or_false, forall_eq_or_imp, forall_eq] at g6
 obtain ⟨b0, b1, b2, b3, b4, b5, b6, b7⟩ := g6
 have t2 := textB_le r.Op (by have := (name_in g3).2; omega)
 have t1 := textB_le r.Service (by have := (name_in g2).2; omega)
 have n1 := (name_in g2).2
 have n2 := (name_in g3).2
 have c1 := putc_le (n := r.Window) ⟨g1.2.2.1, by omega⟩
 have c2 := putc_le (isU_c g4)
 have c3 := putc_le (isU_c g5)
 have d0 := putc_le (isU_c b0)
 have d1 := putc_le (isU_c b1)
 have d2 := putc_le (isU_c b2)
 have d3 := putc_le (isU_c b3)
 have d4 := putc_le (isU_c b4)
 have d5 := putc_le (isU_c b5)
 have d6 := putc_le (isU_c b6)
 have d7 := putc_le (isU_c b7)
 rw [roF, byL, List.append_assoc, List.append_assoc, List.append_assoc, nums_c, nums_c, nums_n, texts_c, texts_c, texts_n, nums_c, nums_c, nums_n, nums_c, nums_c, nums_c, nums_c, nums_c, nums_c, nums_c, nums_c, nums_n, state_getRow,
  rnumP g1.1 (by omega : r.Level ≤ 3) (by omega) (by simp only [List.length_append]; omega), Option.bind_some, rnumP g1.2.2.1 g1.2.2.2 (by omega) (by simp only [List.length_append]; omega), Option.bind_some, rtextP n1 (by simp only [List.length_append]; omega), Option.bind_some, rtextP n2 (by simp only [List.length_append]; omega), Option.bind_some, rcntP g4 (by simp only [List.length_append]; omega), Option.bind_some, rcntP g5 (by simp only [List.length_append]; omega), Option.bind_some]
 dsimp only
 have s0 : ∀ x4 x6 x8 x10 x12 x14, state_getRow_l0 x4 x6 x8 x10 x12 x14 (putN r.Counter.By.c0.toNat ++ (putN r.Counter.By.c1.toNat ++ (putN r.Counter.By.c2.toNat ++ (putN r.Counter.By.c3.toNat ++ (putN r.Counter.By.c4.toNat ++ (putN r.Counter.By.c5.toNat ++ (putN r.Counter.By.c6.toNat ++ (putN r.Counter.By.c7.toNat ++ q)))))))) false 0 0 0 0 0 0 0 0 0 = some (.inl ((putN r.Counter.By.c1.toNat ++ (putN r.Counter.By.c2.toNat ++ (putN r.Counter.By.c3.toNat ++ (putN r.Counter.By.c4.toNat ++ (putN r.Counter.By.c5.toNat ++ (putN r.Counter.By.c6.toNat ++ (putN r.Counter.By.c7.toNat ++ q))))))), false, r.Counter.By.c0, 0, 0, 0, 0, 0, 0, 0, 1)) := fun x4 x6 x8 x10 x12 x14 => by
  show (if decide ((0 : Int) < 8) = true then Option.bind (ints_Reader_Num ⟨(putN r.Counter.By.c0.toNat ++ (putN r.Counter.By.c1.toNat ++ (putN r.Counter.By.c2.toNat ++ (putN r.Counter.By.c3.toNat ++ (putN r.Counter.By.c4.toNat ++ (putN r.Counter.By.c5.toNat ++ (putN r.Counter.By.c6.toNat ++ (putN r.Counter.By.c7.toNat ++ q)))))))), false⟩ 1099511627776) _ else _) = _
  rw [rcntP b0 (by simp only [List.length_append]; omega)]
  rfl
 have s1 : ∀ x4 x6 x8 x10 x12 x14, state_getRow_l0 x4 x6 x8 x10 x12 x14 (putN r.Counter.By.c1.toNat ++ (putN r.Counter.By.c2.toNat ++ (putN r.Counter.By.c3.toNat ++ (putN r.Counter.By.c4.toNat ++ (putN r.Counter.By.c5.toNat ++ (putN r.Counter.By.c6.toNat ++ (putN r.Counter.By.c7.toNat ++ q))))))) false r.Counter.By.c0 0 0 0 0 0 0 0 1 = some (.inl ((putN r.Counter.By.c2.toNat ++ (putN r.Counter.By.c3.toNat ++ (putN r.Counter.By.c4.toNat ++ (putN r.Counter.By.c5.toNat ++ (putN r.Counter.By.c6.toNat ++ (putN r.Counter.By.c7.toNat ++ q)))))), false, r.Counter.By.c0, r.Counter.By.c1, 0, 0, 0, 0, 0, 0, 2)) := fun x4 x6 x8 x10 x12 x14 => by
  show (if decide ((1 : Int) < 8) = true then Option.bind (ints_Reader_Num ⟨(putN r.Counter.By.c1.toNat ++ (putN r.Counter.By.c2.toNat ++ (putN r.Counter.By.c3.toNat ++ (putN r.Counter.By.c4.toNat ++ (putN r.Counter.By.c5.toNat ++ (putN r.Counter.By.c6.toNat ++ (putN r.Counter.By.c7.toNat ++ q))))))), false⟩ 1099511627776) _ else _) = _
  rw [rcntP b1 (by simp only [List.length_append]; omega)]
  rfl
 have s2 : ∀ x4 x6 x8 x10 x12 x14, state_getRow_l0 x4 x6 x8 x10 x12 x14 (putN r.Counter.By.c2.toNat ++ (putN r.Counter.By.c3.toNat ++ (putN r.Counter.By.c4.toNat ++ (putN r.Counter.By.c5.toNat ++ (putN r.Counter.By.c6.toNat ++ (putN r.Counter.By.c7.toNat ++ q)))))) false r.Counter.By.c0 r.Counter.By.c1 0 0 0 0 0 0 2 = some (.inl ((putN r.Counter.By.c3.toNat ++ (putN r.Counter.By.c4.toNat ++ (putN r.Counter.By.c5.toNat ++ (putN r.Counter.By.c6.toNat ++ (putN r.Counter.By.c7.toNat ++ q))))), false, r.Counter.By.c0, r.Counter.By.c1, r.Counter.By.c2, 0, 0, 0, 0, 0, 3)) := fun x4 x6 x8 x10 x12 x14 => by
  show (if decide ((2 : Int) < 8) = true then Option.bind (ints_Reader_Num ⟨(putN r.Counter.By.c2.toNat ++ (putN r.Counter.By.c3.toNat ++ (putN r.Counter.By.c4.toNat ++ (putN r.Counter.By.c5.toNat ++ (putN r.Counter.By.c6.toNat ++ (putN r.Counter.By.c7.toNat ++ q)))))), false⟩ 1099511627776) _ else _) = _
  rw [rcntP b2 (by simp only [List.length_append]; omega)]
  rfl
 have s3 : ∀ x4 x6 x8 x10 x12 x14, state_getRow_l0 x4 x6 x8 x10 x12 x14 (putN r.Counter.By.c3.toNat ++ (putN r.Counter.By.c4.toNat ++ (putN r.Counter.By.c5.toNat ++ (putN r.Counter.By.c6.toNat ++ (putN r.Counter.By.c7.toNat ++ q))))) false r.Counter.By.c0 r.Counter.By.c1 r.Counter.By.c2 0 0 0 0 0 3 = some (.inl ((putN r.Counter.By.c4.toNat ++ (putN r.Counter.By.c5.toNat ++ (putN r.Counter.By.c6.toNat ++ (putN r.Counter.By.c7.toNat ++ q)))), false, r.Counter.By.c0, r.Counter.By.c1, r.Counter.By.c2, r.Counter.By.c3, 0, 0, 0, 0, 4)) := fun x4 x6 x8 x10 x12 x14 => by
  show (if decide ((3 : Int) < 8) = true then Option.bind (ints_Reader_Num ⟨(putN r.Counter.By.c3.toNat ++ (putN r.Counter.By.c4.toNat ++ (putN r.Counter.By.c5.toNat ++ (putN r.Counter.By.c6.toNat ++ (putN r.Counter.By.c7.toNat ++ q))))), false⟩ 1099511627776) _ else _) = _
  rw [rcntP b3 (by simp only [List.length_append]; omega)]
  rfl
 have s4 : ∀ x4 x6 x8 x10 x12 x14, state_getRow_l0 x4 x6 x8 x10 x12 x14 (putN r.Counter.By.c4.toNat ++ (putN r.Counter.By.c5.toNat ++ (putN r.Counter.By.c6.toNat ++ (putN r.Counter.By.c7.toNat ++ q)))) false r.Counter.By.c0 r.Counter.By.c1 r.Counter.By.c2 r.Counter.By.c3 0 0 0 0 4 = some (.inl ((putN r.Counter.By.c5.toNat ++ (putN r.Counter.By.c6.toNat ++ (putN r.Counter.By.c7.toNat ++ q))), false, r.Counter.By.c0, r.Counter.By.c1, r.Counter.By.c2, r.Counter.By.c3, r.Counter.By.c4, 0, 0, 0, 5)) := fun x4 x6 x8 x10 x12 x14 => by
  show (if decide ((4 : Int) < 8) = true then Option.bind (ints_Reader_Num ⟨(putN r.Counter.By.c4.toNat ++ (putN r.Counter.By.c5.toNat ++ (putN r.Counter.By.c6.toNat ++ (putN r.Counter.By.c7.toNat ++ q)))), false⟩ 1099511627776) _ else _) = _
  rw [rcntP b4 (by simp only [List.length_append]; omega)]
  rfl
 have s5 : ∀ x4 x6 x8 x10 x12 x14, state_getRow_l0 x4 x6 x8 x10 x12 x14 (putN r.Counter.By.c5.toNat ++ (putN r.Counter.By.c6.toNat ++ (putN r.Counter.By.c7.toNat ++ q))) false r.Counter.By.c0 r.Counter.By.c1 r.Counter.By.c2 r.Counter.By.c3 r.Counter.By.c4 0 0 0 5 = some (.inl ((putN r.Counter.By.c6.toNat ++ (putN r.Counter.By.c7.toNat ++ q)), false, r.Counter.By.c0, r.Counter.By.c1, r.Counter.By.c2, r.Counter.By.c3, r.Counter.By.c4, r.Counter.By.c5, 0, 0, 6)) := fun x4 x6 x8 x10 x12 x14 => by
  show (if decide ((5 : Int) < 8) = true then Option.bind (ints_Reader_Num ⟨(putN r.Counter.By.c5.toNat ++ (putN r.Counter.By.c6.toNat ++ (putN r.Counter.By.c7.toNat ++ q))), false⟩ 1099511627776) _ else _) = _
  rw [rcntP b5 (by simp only [List.length_append]; omega)]
  rfl
 have s6 : ∀ x4 x6 x8 x10 x12 x14, state_getRow_l0 x4 x6 x8 x10 x12 x14 (putN r.Counter.By.c6.toNat ++ (putN r.Counter.By.c7.toNat ++ q)) false r.Counter.By.c0 r.Counter.By.c1 r.Counter.By.c2 r.Counter.By.c3 r.Counter.By.c4 r.Counter.By.c5 0 0 6 = some (.inl ((putN r.Counter.By.c7.toNat ++ q), false, r.Counter.By.c0, r.Counter.By.c1, r.Counter.By.c2, r.Counter.By.c3, r.Counter.By.c4, r.Counter.By.c5, r.Counter.By.c6, 0, 7)) := fun x4 x6 x8 x10 x12 x14 => by
  show (if decide ((6 : Int) < 8) = true then Option.bind (ints_Reader_Num ⟨(putN r.Counter.By.c6.toNat ++ (putN r.Counter.By.c7.toNat ++ q)), false⟩ 1099511627776) _ else _) = _
  rw [rcntP b6 (by simp only [List.length_append]; omega)]
  rfl
 have s7 : ∀ x4 x6 x8 x10 x12 x14, state_getRow_l0 x4 x6 x8 x10 x12 x14 (putN r.Counter.By.c7.toNat ++ q) false r.Counter.By.c0 r.Counter.By.c1 r.Counter.By.c2 r.Counter.By.c3 r.Counter.By.c4 r.Counter.By.c5 r.Counter.By.c6 0 7 = some (.inl (q, false, r.Counter.By.c0, r.Counter.By.c1, r.Counter.By.c2, r.Counter.By.c3, r.Counter.By.c4, r.Counter.By.c5, r.Counter.By.c6, r.Counter.By.c7, 8)) := fun x4 x6 x8 x10 x12 x14 => by
  show (if decide ((7 : Int) < 8) = true then Option.bind (ints_Reader_Num ⟨(putN r.Counter.By.c7.toNat ++ q), false⟩ 1099511627776) _ else _) = _
  rw [rcntP b7 (by omega)]
  rfl
 rw [fuR, loop_l (s' := ((putN r.Counter.By.c1.toNat ++ (putN r.Counter.By.c2.toNat ++ (putN r.Counter.By.c3.toNat ++ (putN r.Counter.By.c4.toNat ++ (putN r.Counter.By.c5.toNat ++ (putN r.Counter.By.c6.toNat ++ (putN r.Counter.By.c7.toNat ++ q))))))), false, r.Counter.By.c0, 0, 0, 0, 0, 0, 0, 0, 1)) (s0 _ _ _ _ _ _), loop_l (s' := ((putN r.Counter.By.c2.toNat ++ (putN r.Counter.By.c3.toNat ++ (putN r.Counter.By.c4.toNat ++ (putN r.Counter.By.c5.toNat ++ (putN r.Counter.By.c6.toNat ++ (putN r.Counter.By.c7.toNat ++ q)))))), false, r.Counter.By.c0, r.Counter.By.c1, 0, 0, 0, 0, 0, 0, 2)) (s1 _ _ _ _ _ _), loop_l (s' := ((putN r.Counter.By.c3.toNat ++ (putN r.Counter.By.c4.toNat ++ (putN r.Counter.By.c5.toNat ++ (putN r.Counter.By.c6.toNat ++ (putN r.Counter.By.c7.toNat ++ q))))), false, r.Counter.By.c0, r.Counter.By.c1, r.Counter.By.c2, 0, 0, 0, 0, 0, 3)) (s2 _ _ _ _ _ _), loop_l (s' := ((putN r.Counter.By.c4.toNat ++ (putN r.Counter.By.c5.toNat ++ (putN r.Counter.By.c6.toNat ++ (putN r.Counter.By.c7.toNat ++ q)))), false, r.Counter.By.c0, r.Counter.By.c1, r.Counter.By.c2, r.Counter.By.c3, 0, 0, 0, 0, 4)) (s3 _ _ _ _ _ _), loop_l (s' := ((putN r.Counter.By.c5.toNat ++ (putN r.Counter.By.c6.toNat ++ (putN r.Counter.By.c7.toNat ++ q))), false, r.Counter.By.c0, r.Counter.By.c1, r.Counter.By.c2, r.Counter.By.c3, r.Counter.By.c4, 0, 0, 0, 5)) (s4 _ _ _ _ _ _), loop_l (s' := ((putN r.Counter.By.c6.toNat ++ (putN r.Counter.By.c7.toNat ++ q)), false, r.Counter.By.c0, r.Counter.By.c1, r.Counter.By.c2, r.Counter.By.c3, r.Counter.By.c4, r.Counter.By.c5, 0, 0, 6)) (s5 _ _ _ _ _ _), loop_l (s' := ((putN r.Counter.By.c7.toNat ++ q), false, r.Counter.By.c0, r.Counter.By.c1, r.Counter.By.c2, r.Counter.By.c3, r.Counter.By.c4, r.Counter.By.c5, r.Counter.By.c6, 0, 7)) (s6 _ _ _ _ _ _), loop_l (s' := (q, false, r.Counter.By.c0, r.Counter.By.c1, r.Counter.By.c2, r.Counter.By.c3, r.Counter.By.c4, r.Counter.By.c5, r.Counter.By.c6, r.Counter.By.c7, 8)) (s7 _ _ _ _ _ _), loop_r (r := (r, (⟨q, false⟩ : Reader))) (by rfl)]
theorem list_rd {α : Type} {L0 : List UInt8 → Bool → List α → Int → Option ((List UInt8 × Bool × List α × Int) ⊕ (List α × Reader))} (f : α → List UInt8) (l : List α) (q : List UInt8) (hl : l.length ≤ 1000)
  (step : ∀ k (hk : k < l.length), L0 ((l.drop k).flatMap f ++ q) false (l.take k) (k : Int) = some (.inl ((l.drop (k + 1)).flatMap f ++ q, false, l.take (k + 1), ((k + 1 : Nat) : Int)))) (last : L0 q false l (l.length : Int) = some (.inr (l, ⟨q, false⟩))) :
  loopN (fun (s : List UInt8 × Bool × List α × Int) => L0 s.1 s.2.1 s.2.2.1 s.2.2.2) Fu (l.flatMap f ++ q, false, [], 0) = some (l, ⟨q, false⟩) := by
 refine loop_list (l := l) (fun k r s => s = ((l.drop k).flatMap f ++ q, false, l.take k, (k : Int)) ∧ r = (l, (⟨q, false⟩ : Reader))) (by omega) ?_ ?_ ⟨rfl, rfl⟩
 ·rintro k hk r s ⟨rfl, rfl⟩
  exact .inl ⟨_, step k hk, rfl, rfl⟩
 ·rintro r s ⟨rfl, rfl⟩
  rw [List.drop_length, List.take_length]
  exact last
theorem drop_fl {α : Type} (f : α → List UInt8) {l : List α} {k : Nat} (hk : k < l.length) (q : List UInt8) : (l.drop k).flatMap f ++ q = f l[k] ++ ((l.drop (k + 1)).flatMap f ++ q) := by
 rw [List.drop_eq_getElem_cons hk, List.flatMap_cons, List.append_assoc]
theorem fl_pos {α : Type} {f : α → List UInt8} : ∀ (l : List α), (∀ x ∈ l, 1 ≤ (f x).length) → l.length ≤ (l.flatMap f).length
 | [], _ => by simp
 | x :: l, h => by
  have h1 := h x List.mem_cons_self
  have h2 := fl_pos l fun y hy => h y (List.mem_cons_of_mem _ hy)
  rw [List.flatMap_cons, List.length_append, List.length_cons]; omega
theorem pos_tr (t : Trace) : 1 ≤ (trB t).length := by
 have := putN_pos t.Hi.toNat
 have e : trB t = putN t.Hi.toNat ++ (numsB [t.Lo] ++ []) := by simp [trB, numsB]
 rw [e, List.length_append]; omega
theorem pos_num (n : Int) (l : List Int) : 1 ≤ (numsB (n :: l)).length := by
 have := putN_pos n.toNat
 have e : numsB (n :: l) = putN n.toNat ++ (numsB l ++ []) := by simp [numsB]
 rw [e, List.length_append]; omega
theorem pos_txt (t : ByteArray) (l : List ByteArray) : 1 ≤ (textsB (t :: l)).length := by
 have := putN_pos t.size
 have e : textsB (t :: l) = putN t.size ++ (bytesOf t ++ textsB l) := by simp [textsB, textB]
 rw [e, List.length_append]; omega
theorem rd_eps1 (l : List Episode) (q : List UInt8) (hl : l.length ≤ 200) (hr : ∀ x ∈ l, wfE x ∧ rightE x = true ∧ x.Spans.length ≤ 100) (hq : q.length ≤ 30000000) : state_list_Episode_state_get_c1 ⟨rowsOfB epF l ++ q, false⟩ = some (l, ⟨q, false⟩) := by
 have hle : ∀ k, ((l.drop k).flatMap epF).length ≤ 40200 * 200 := fun k => by
  have := fl_le (f := epF) (m := 40200) (l.drop k) fun x hx => epF_le (hr _ (List.mem_of_mem_drop hx)).1 (hr _ (List.mem_of_mem_drop hx)).2.1 (hr _ (List.mem_of_mem_drop hx)).2.2
  have : (l.drop k).length ≤ 200 := by rw [List.length_drop]; omega
  omega
 have h0 := hle 0
 rw [List.drop_zero] at h0
 have hp := fl_pos (f := epF) l fun x _ => by rw [epF, List.length_append]; have := pos_tr x.Trace; omega
 rw [rowsOfB, List.append_assoc, nums_c, nums_n, state_list_Episode_state_get_c1, rcountP (by rw [List.length_append]; omega) (by rw [List.length_append]; omega), Option.bind_some]
 refine list_rd (L0 := state_list_Episode_state_get_c1_l0 ((l.length : Int), (⟨l.flatMap epF ++ q, false⟩ : Reader))) epF l q (by omega) (fun k hk => ?_) ?_
 ·have h1 := hle (k + 1)
  have hx := hr _ (List.getElem_mem hk)
  have hrd := ep_rd hx.1 hx.2.1 hx.2.2 (q := (l.drop (k + 1)).flatMap epF ++ q) (by rw [List.length_append]; omega)
  simp only [state_list_Episode_state_get_c1_l0, dec_t (by omega : (k : Int) < (l.length : Int)), if_true, drop_fl epF hk q, state_get_c1, hrd, Option.bind_some, Bool.false_eq_true, if_false, ksuc (by omega : k < 1099511627776)]
  rw [gd_pos (by rw [List.length_append, List.length_take]; simp only [List.length_cons, List.length_nil]; omega), List.take_succ_eq_append_getElem hk]
 ·simp only [state_list_Episode_state_get_c1_l0, dec_f (by omega : ¬ (l.length : Int) < (l.length : Int)), Bool.false_eq_true, if_false]
theorem rd_eps2 (l : List Episode) (q : List UInt8) (hl : l.length ≤ 200) (hr : ∀ x ∈ l, wfE x ∧ rightE x = true ∧ x.Spans.length ≤ 100) (hq : q.length ≤ 30000000) : state_list_Episode_state_get_c2 ⟨rowsOfB epF l ++ q, false⟩ = some (l, ⟨q, false⟩) := by
 have hle : ∀ k, ((l.drop k).flatMap epF).length ≤ 40200 * 200 := fun k => by
  have := fl_le (f := epF) (m := 40200) (l.drop k) fun x hx => epF_le (hr _ (List.mem_of_mem_drop hx)).1 (hr _ (List.mem_of_mem_drop hx)).2.1 (hr _ (List.mem_of_mem_drop hx)).2.2
  have : (l.drop k).length ≤ 200 := by rw [List.length_drop]; omega
  omega
 have h0 := hle 0
 rw [List.drop_zero] at h0
 have hp := fl_pos (f := epF) l fun x _ => by rw [epF, List.length_append]; have := pos_tr x.Trace; omega
 rw [rowsOfB, List.append_assoc, nums_c, nums_n, state_list_Episode_state_get_c2, rcountP (by rw [List.length_append]; omega) (by rw [List.length_append]; omega), Option.bind_some]
 refine list_rd (L0 := state_list_Episode_state_get_c2_l0 ((l.length : Int), (⟨l.flatMap epF ++ q, false⟩ : Reader))) epF l q (by omega) (fun k hk => ?_) ?_
 ·have h1 := hle (k + 1)
  have hx := hr _ (List.getElem_mem hk)
  have hrd := ep_rd hx.1 hx.2.1 hx.2.2 (q := (l.drop (k + 1)).flatMap epF ++ q) (by rw [List.length_append]; omega)
  simp only [state_list_Episode_state_get_c2_l0, dec_t (by omega : (k : Int) < (l.length : Int)), if_true, drop_fl epF hk q, state_get_c2, hrd, Option.bind_some, Bool.false_eq_true, if_false, ksuc (by omega : k < 1099511627776)]
  rw [gd_pos (by rw [List.length_append, List.length_take]; simp only [List.length_cons, List.length_nil]; omega), List.take_succ_eq_append_getElem hk]
 ·simp only [state_list_Episode_state_get_c2_l0, dec_f (by omega : ¬ (l.length : Int) < (l.length : Int)), Bool.false_eq_true, if_false]
theorem rd_memo (l : List Verdict) (q : List UInt8) (hl : l.length ≤ 100) (hr : ∀ x ∈ l, isU x.Trace.Hi ∧ isU x.Trace.Lo) (hq : q.length ≤ 30000000) : state_list_Verdict_state_get_c3 ⟨rowsOfB meF l ++ q, false⟩ = some (l, ⟨q, false⟩) := by
 have hle : ∀ k, ((l.drop k).flatMap meF).length ≤ 30 * 100 := fun k => by
  have := fl_le (f := meF) (m := 30) (l.drop k) fun x hx => meF_le (hr _ (List.mem_of_mem_drop hx))
  have : (l.drop k).length ≤ 100 := by rw [List.length_drop]; omega
  omega
 have h0 := hle 0
 rw [List.drop_zero] at h0
 have hp := fl_pos (f := meF) l fun x _ => by rw [meF, List.length_append]; have := pos_tr x.Trace; omega
 rw [rowsOfB, List.append_assoc, nums_c, nums_n, state_list_Verdict_state_get_c3, rcountP (by rw [List.length_append]; omega) (by rw [List.length_append]; omega), Option.bind_some]
 refine list_rd (L0 := state_list_Verdict_state_get_c3_l0 ((l.length : Int), (⟨l.flatMap meF ++ q, false⟩ : Reader))) meF l q (by omega) (fun k hk => ?_) ?_
 ·have h1 := hle (k + 1)
  have hx := hr _ (List.getElem_mem hk)
  have hrd := me_rd hx (q := (l.drop (k + 1)).flatMap meF ++ q) (by rw [List.length_append]; omega)
  simp only [state_list_Verdict_state_get_c3_l0, dec_t (by omega : (k : Int) < (l.length : Int)), if_true, drop_fl meF hk q, hrd, Option.bind_some, Bool.false_eq_true, if_false, ksuc (by omega : k < 1099511627776)]
  rw [gd_pos (by rw [List.length_append, List.length_take]; simp only [List.length_cons, List.length_nil]; omega), List.take_succ_eq_append_getElem hk]
 ·simp only [state_list_Verdict_state_get_c3_l0, dec_f (by omega : ¬ (l.length : Int) < (l.length : Int)), Bool.false_eq_true, if_false]
theorem rd_rows (l : List RowG) (q : List UInt8) (hl : l.length ≤ 100) (hr : ∀ x ∈ l, rowB x = true) (hq : q.length ≤ 30000000) : state_list_Row_state_get_c4 ⟨rowsOfB roF l ++ q, false⟩ = some (l, ⟨q, false⟩) := by
 have hle : ∀ k, ((l.drop k).flatMap roF).length ≤ 200 * 100 := fun k => by
  have := fl_le (f := roF) (m := 200) (l.drop k) fun x hx => roF_le (hr _ (List.mem_of_mem_drop hx))
  have : (l.drop k).length ≤ 100 := by rw [List.length_drop]; omega
  omega
 have h0 := hle 0
 rw [List.drop_zero] at h0
 have hp := fl_pos (f := roF) l fun x _ => by rw [roF, List.length_append]; have := pos_num x.Level [x.Window]; omega
 rw [rowsOfB, List.append_assoc, nums_c, nums_n, state_list_Row_state_get_c4, rcountP (by rw [List.length_append]; omega) (by rw [List.length_append]; omega), Option.bind_some]
 refine list_rd (L0 := state_list_Row_state_get_c4_l0 ((l.length : Int), (⟨l.flatMap roF ++ q, false⟩ : Reader))) roF l q (by omega) (fun k hk => ?_) ?_
 ·have h1 := hle (k + 1)
  have hx := hr _ (List.getElem_mem hk)
  have hrd := ro_rd hx (q := (l.drop (k + 1)).flatMap roF ++ q) (by rw [List.length_append]; omega)
  simp only [state_list_Row_state_get_c4_l0, dec_t (by omega : (k : Int) < (l.length : Int)), if_true, drop_fl roF hk q, state_get_c4, hrd, Option.bind_some, Bool.false_eq_true, if_false, ksuc (by omega : k < 1099511627776)]
  rw [gd_pos (by rw [List.length_append, List.length_take]; simp only [List.length_cons, List.length_nil]; omega), List.take_succ_eq_append_getElem hk]
 ·simp only [state_list_Row_state_get_c4_l0, dec_f (by omega : ¬ (l.length : Int) < (l.length : Int)), Bool.false_eq_true, if_false]
theorem rd_edgs (l : List Edge) (q : List UInt8) (hl : l.length ≤ 100) (hr : ∀ x ∈ l, edgB x = true) (hq : q.length ≤ 30000000) : state_list_Edge_state_get_c5 ⟨rowsOfB edF l ++ q, false⟩ = some (l, ⟨q, false⟩) := by
 have hle : ∀ k, ((l.drop k).flatMap edF).length ≤ 100 * 100 := fun k => by
  have := fl_le (f := edF) (m := 100) (l.drop k) fun x hx => edF_le (hr _ (List.mem_of_mem_drop hx))
  have : (l.drop k).length ≤ 100 := by rw [List.length_drop]; omega
  omega
 have h0 := hle 0
 rw [List.drop_zero] at h0
 have hp := fl_pos (f := edF) l fun x _ => by rw [edF, List.length_append]; have := pos_txt x.From [x.To]; omega
 rw [rowsOfB, List.append_assoc, nums_c, nums_n, state_list_Edge_state_get_c5, rcountP (by rw [List.length_append]; omega) (by rw [List.length_append]; omega), Option.bind_some]
 refine list_rd (L0 := state_list_Edge_state_get_c5_l0 ((l.length : Int), (⟨l.flatMap edF ++ q, false⟩ : Reader))) edF l q (by omega) (fun k hk => ?_) ?_
 ·have h1 := hle (k + 1)
  have hx := hr _ (List.getElem_mem hk)
  have hrd := ed_rd hx (q := (l.drop (k + 1)).flatMap edF ++ q) (by rw [List.length_append]; omega)
  simp only [state_list_Edge_state_get_c5_l0, dec_t (by omega : (k : Int) < (l.length : Int)), if_true, drop_fl edF hk q, state_get_c5, hrd, Option.bind_some, Bool.false_eq_true, if_false, ksuc (by omega : k < 1099511627776)]
  rw [gd_pos (by rw [List.length_append, List.length_take]; simp only [List.length_cons, List.length_nil]; omega), List.take_succ_eq_append_getElem hk]
 ·simp only [state_list_Edge_state_get_c5_l0, dec_f (by omega : ¬ (l.length : Int) < (l.length : Int)), Bool.false_eq_true, if_false]
theorem rd_slts (l : List Exemplar) (q : List UInt8) (hl : l.length ≤ 100) (hr : ∀ x ∈ l, sltB x = true ∧ isU x.Trace.Hi ∧ isU x.Trace.Lo ∧ isU x.Id) (hq : q.length ≤ 30000000) : state_list_Exemplar_state_get_c6 ⟨rowsOfB slF l ++ q, false⟩ = some (l, ⟨q, false⟩) := by
 have hle : ∀ k, ((l.drop k).flatMap slF).length ≤ 100 * 100 := fun k => by
  have := fl_le (f := slF) (m := 100) (l.drop k) fun x hx => slF_le (hr _ (List.mem_of_mem_drop hx)).1 (hr _ (List.mem_of_mem_drop hx)).2
  have : (l.drop k).length ≤ 100 := by rw [List.length_drop]; omega
  omega
 have h0 := hle 0
 rw [List.drop_zero] at h0
 have hp := fl_pos (f := slF) l fun x _ => by rw [slF, List.length_append]; have := pos_txt x.Service [x.Op]; omega
 rw [rowsOfB, List.append_assoc, nums_c, nums_n, state_list_Exemplar_state_get_c6, rcountP (by rw [List.length_append]; omega) (by rw [List.length_append]; omega), Option.bind_some]
 refine list_rd (L0 := state_list_Exemplar_state_get_c6_l0 ((l.length : Int), (⟨l.flatMap slF ++ q, false⟩ : Reader))) slF l q (by omega) (fun k hk => ?_) ?_
 ·have h1 := hle (k + 1)
  have hx := hr _ (List.getElem_mem hk)
  have hrd := sl_rd hx.1 hx.2 (q := (l.drop (k + 1)).flatMap slF ++ q) (by rw [List.length_append]; omega)
  simp only [state_list_Exemplar_state_get_c6_l0, dec_t (by omega : (k : Int) < (l.length : Int)), if_true, drop_fl slF hk q, state_get_c6, hrd, Option.bind_some, Bool.false_eq_true, if_false, ksuc (by omega : k < 1099511627776)]
  rw [gd_pos (by rw [List.length_append, List.length_take]; simp only [List.length_cons, List.length_nil]; omega), List.take_succ_eq_append_getElem hk]
 ·simp only [state_list_Exemplar_state_get_c6_l0, dec_f (by omega : ¬ (l.length : Int) < (l.length : Int)), Bool.false_eq_true, if_false]
theorem rd_blks (l : List Block) (q : List UInt8) (hl : l.length ≤ 100) (hr : ∀ x ∈ l, numB x = true ∧ x.Episodes = []) (hq : q.length ≤ 30000000) : state_list_Block_state_get_c7 ⟨rowsOfB blF l ++ q, false⟩ = some (l, ⟨q, false⟩) := by
 have hle : ∀ k, ((l.drop k).flatMap blF).length ≤ 30 * 100 := fun k => by
  have := fl_le (f := blF) (m := 30) (l.drop k) fun x hx => blF_le (hr _ (List.mem_of_mem_drop hx)).1
  have : (l.drop k).length ≤ 100 := by rw [List.length_drop]; omega
  omega
 have h0 := hle 0
 rw [List.drop_zero] at h0
 have hp := fl_pos (f := blF) l fun x _ => pos_num x.Number [x.Born, x.Tier]
 rw [rowsOfB, List.append_assoc, nums_c, nums_n, state_list_Block_state_get_c7, rcountP (by rw [List.length_append]; omega) (by rw [List.length_append]; omega), Option.bind_some]
 refine list_rd (L0 := state_list_Block_state_get_c7_l0 ((l.length : Int), (⟨l.flatMap blF ++ q, false⟩ : Reader))) blF l q (by omega) (fun k hk => ?_) ?_
 ·have h1 := hle (k + 1)
  have hx := hr _ (List.getElem_mem hk)
  have hrd := bl_rd hx.1 hx.2 (q := (l.drop (k + 1)).flatMap blF ++ q) (by rw [List.length_append]; omega)
  simp only [state_list_Block_state_get_c7_l0, dec_t (by omega : (k : Int) < (l.length : Int)), if_true, drop_fl blF hk q, state_get_c7, hrd, Option.bind_some, Bool.false_eq_true, if_false, ksuc (by omega : k < 1099511627776)]
  rw [gd_pos (by rw [List.length_append, List.length_take]; simp only [List.length_cons, List.length_nil]; omega), List.take_succ_eq_append_getElem hk]
 ·simp only [state_list_Block_state_get_c7_l0, dec_f (by omega : ¬ (l.length : Int) < (l.length : Int)), Bool.false_eq_true, if_false]
def bareB (b : Block) : Block := ⟨b.Number, b.Born, b.Tier, []⟩
def bareS (s : StateG) : StateG := { s with Blocks := s.Blocks.map bareB }
theorem bare_rows (l : List Block) : rowsOfB blF (l.map bareB) = rowsOfB blF l := by
 rw [rowsOfB, rowsOfB, List.length_map, List.flatMap_map]; rfl
theorem bare_right (s : StateG) : rightSt (bareS s) = rightSt s := by
 rw [rightSt, rightSt, bareS]
 simp only [List.all_map]
 rfl
theorem bare_st (s : StateG) : stB (bareS s) = stB s := by
 rw [stB, stB, bareS]
 simp only [bare_rows]
theorem bare_few {s : StateG} (h : fewSt s) : fewSt (bareS s) := ⟨h.open_, h.pend, h.memo, h.rows, h.edgs, h.slts, by rw [bareS, List.length_map]; exact h.blks⟩
theorem get_st {s : StateG} (hf : fewSt s) (hw : wfSt s) (h : rightSt s = true) : state_get ⟨stB s, false⟩ = some (bareS s, ⟨[], false⟩) := by
 have hle := stB_le hf hw h
 obtain ⟨⟨c1, c2, c3, c4⟩, h2, h3, h4, h5, h6, h7, h8⟩ := rights_of h
 rw [List.all_eq_true] at h3 h4
 obtain ⟨f1, f2, f3, f4, f5, f6, f7⟩ := hf
 have a2 := ruleB_len h2
 have e0 : rowsOfB blF s.Blocks = rowsOfB blF (s.Blocks.map bareB) ++ [] := by rw [bare_rows, List.append_nil]
 rw [stB, e0] at hle ⊢
 simp only [List.length_append] at hle
 rw [nums_c, nums_c, nums_c, nums_c, nums_n, nums_c, nums_n, state_get, rcntP c1 (by simp only [List.length_append, nums_l1, nums_l2] at hle ⊢; omega), Option.bind_some, rcntP c2 (by simp only [List.length_append, nums_l1, nums_l2] at hle ⊢; omega), Option.bind_some, rcntP c3 (by simp only [List.length_append, nums_l1, nums_l2] at hle ⊢; omega), Option.bind_some, rcntP c4 (by simp only [List.length_append, nums_l1, nums_l2] at hle ⊢; omega), Option.bind_some, rcountP (by rw [List.length_append]; omega) (by simp only [List.length_append]; omega), Option.bind_some]
 dsimp only
 rw [rtake_ok (by rw [List.length_append]; omega), Option.bind_some]
 dsimp only
 rw [List.take_left, List.drop_left, read_put h2, Option.bind_some]
 simp only [Bool.false_eq_true, if_false, bne_self_eq_false, Option.bind_some, state_get_k0]
 rw [rd_eps1 s.Open _ f1.1 (fun x hx => ⟨hw.open_ x hx, h3 x hx, f1.2 x hx⟩) (by simp only [List.length_append]; omega), Option.bind_some,
  rd_eps2 s.Pending _ f2.1 (fun x hx => ⟨hw.pend x hx, h4 x hx, f2.2 x hx⟩) (by simp only [List.length_append]; omega), Option.bind_some,
  rd_memo s.Memo _ f3 hw.memo (by simp only [List.length_append]; omega), Option.bind_some,
  rd_rows s.Rows _ f4 h5 (by simp only [List.length_append]; omega), Option.bind_some,
  rd_edgs s.Edges _ f5 h6 (by simp only [List.length_append]; omega), Option.bind_some,
  rd_slts s.Slots _ f6 (fun x hx => ⟨h7 x hx, hw.slts x hx⟩) (by simp only [List.length_append]; omega), Option.bind_some,
  rd_blks (s.Blocks.map bareB) _ (by rw [List.length_map]; exact f7) (fun x hx => by
   obtain ⟨y, hy, rfl⟩ := List.mem_map.1 hx
   exact ⟨h8 y hy, rfl⟩) (by simp), Option.bind_some]
 rfl
theorem read_st {s : StateG} (hf : fewSt s) (hw : wfSt s) (h : rightSt s = true) : state_Read (sealB (stB s)) = some (bareS s, 0) := by
 have hle := stB_le hf hw h
 have ho := open_spec (sealB (stB s)) (by rw [sealB, List.length_append, fourN_length]; omega)
 rw [open_seal] at ho
 rw [state_Read, ho, Option.bind_some]
 simp only [Bool.not_true, Bool.false_eq_true, if_false]
 rw [get_st hf hw h, Option.bind_some]
 simp only [Bool.false_eq_true, if_false, List.length_nil, Int.natCast_zero, Int.lt_irrefl, decide_false]
 rw [right_st _ (bare_few hf), bare_right, h, Option.bind_some]
 rfl
theorem read_not {b : List UInt8} (hb : b.length ≤ 100000000) (h : openB b = none) : ∃ s, state_Read b = some (s, 2) := by
 have ho := open_spec b hb
 rw [h] at ho
 obtain ⟨x, hx⟩ := ho
 rw [state_Read, hx, Option.bind_some]
 exact ⟨_, rfl⟩
end Go.Proofs.YtjklegmimpehlaaGreat.Ab
namespace Go.Proofs.YtjklegmimpehlaaGreat.Ab
open Go Go.RowKit
set_option linter.unusedVariables false
set_option linter.unusedSimpArgs false
theorem zip_eq {f : Rule → Rule → Bool} : ∀ (l m : List Rule), (∀ x ∈ l, ∀ y, f x y = true → x = y) → allZip f l m = true → l = m
 | [], [], _, _ => rfl
 | a :: l, b :: m, h, e => by
  simp only [allZip, Bool.and_eq_true] at e
  rw [h a List.mem_cons_self b e.1, zip_eq l m (fun x hx => h x (List.mem_cons_of_mem _ hx)) e.2]
 | [], b :: m, _, e => by cases e
 | a :: l, [], _, e => by cases e
theorem same_eq : ∀ (d : Nat) (a b : Rule), sameF d a b = true → a = b
 | 0, _, _, h => by cases h
 | d + 1, a, b, h => by
  simp only [sameF, Bool.and_eq_true, decide_eq_true_eq] at h
  obtain ⟨h1, h2, h3, h4, h5⟩ := h
  exact (rule_eta h1 h2 h3 h4 (zip_eq a.Kids b.Kids (fun x _ y e => same_eq d x y e) h5)).trans (by cases b; rfl)
theorem same_rules (a b : Rule) (h : rightR a = true) : ∃ v, gleaningref1_SameRule a b = some v ∧ (v = true ↔ a = b) := by
 obtain ⟨h1, h2⟩ := rightR_of h
 have hb := bound_ok 5 a h1 (by omega)
 refine ⟨_, by rw [gleaningref1_SameRule]; exact same_rule 5 a b Fu hb (by rw [fuP]; omega), fun e => same_eq 5 a b e, fun e => ?_⟩
 subst e
 exact same_self 5 a hb
theorem step_dec {σ ρ : Type} {p : Prop} [Decidable p] (x : ρ) (y : σ) : (if (!decide p) = true then (some (Sum.inr x) : Option (σ ⊕ ρ)) else some (Sum.inl y)) = if p then some (Sum.inl y) else some (Sum.inr x) := by
 by_cases h : p <;> simp [h]
theorem ep_ext {a b : Episode} (h1 : a.Trace = b.Trace) (h2 : a.First = b.First) (h3 : a.Last = b.Last) (h4 : a.Sure = b.Sure) (h5 : a.Spans = b.Spans) : a = b := by cases a; cases b; simp_all
theorem same_eps (a b : List Episode) (ha : a.length ≤ 1000) (hs : ∀ e ∈ a, e.Spans.length ≤ 1000 ∧ ∀ s ∈ e.Spans, s.Attrs.length ≤ 1000000) : gleaningref15_SameEpisodes a b = some (decide (a = b)) := by
 by_cases hl : a.length = b.length
 ·have h0 : ((a.length : Int) != (b.length : Int)) = false := by simp [hl]
  rw [gleaningref15_SameEpisodes, ite_f h0]
  refine loop_same a b hl (by omega) (fun k hk hk2 => ?_) ?_
  ·have hx := hs _ (List.getElem_mem hk)
   simp only [gleaningref15_SameEpisodes_l0, dec_t (by omega : (k : Int) < (a.length : Int)), if_true, gd_pos (by omega : (0 : Int) ≤ (k : Int)), Int.toNat_natCast, List.getElem?_eq_getElem hk, List.getElem?_eq_getElem hk2, Option.bind_some, trace_eq, sameSpans_spec a[k].Spans b[k].Spans (by omega) hx.2, ksuc (by omega : k < 1099511627776)]
   by_cases e1 : a[k].Trace = b[k].Trace
   case neg =>
    have hne : ¬ a[k] = b[k] := fun e => e1 (by rw [e])
    simp [e1, hne]
   by_cases e2 : a[k].First = b[k].First
   case neg =>
    have hne : ¬ a[k] = b[k] := fun e => e2 (by rw [e])
    simp [e1, e2, hne]
   by_cases e3 : a[k].Last = b[k].Last
   case neg =>
    have hne : ¬ a[k] = b[k] := fun e => e3 (by rw [e])
    simp [e1, e2, e3, hne]
   by_cases e4 : a[k].Sure = b[k].Sure
   case neg =>
    have hne : ¬ a[k] = b[k] := fun e => e4 (by rw [e])
    simp [e1, e2, e3, e4, hne]
   by_cases e5 : a[k].Spans = b[k].Spans
   case neg =>
    have hne : ¬ a[k] = b[k] := fun e => e5 (by rw [e])
    simp [e1, e2, e3, e4, e5, hne]
   have hee := ep_ext e1 e2 e3 e4 e5
   simp [e1, e2, e3, e4, e5, hee]
  ·simp only [gleaningref15_SameEpisodes_l0, dec_f (by omega : ¬ (a.length : Int) < (a.length : Int)), Bool.false_eq_true, if_false]
 ·have h0 : ((a.length : Int) != (b.length : Int)) = true := by simp only [bne_iff_ne, ne_eq]; omega
  rw [gleaningref15_SameEpisodes, ite_t h0, dec_f (by rintro rfl; exact hl rfl)]
theorem me_eq (a b : Verdict) : ((a.Trace.Hi == b.Trace.Hi) && ((a.Trace.Lo == b.Trace.Lo) && ((a.Kept == b.Kept) && true))) = decide (a = b) := by
 obtain ⟨⟨a1, a2⟩, a3⟩ := a
 obtain ⟨⟨b1, b2⟩, b3⟩ := b
 rw [Bool.eq_iff_iff]
 simp only [Bool.and_eq_true, beq_iff_eq, decide_eq_true_iff, Verdict.mk.injEq, Trace.mk.injEq, and_true]
 exact ⟨fun ⟨h1, h2, h3⟩ => ⟨⟨h1, h2⟩, h3⟩, fun ⟨⟨h1, h2⟩, h3⟩ => ⟨h1, h2, h3⟩⟩
theorem edg_eq (a b : Edge) : ((ByteArray.toList a.From == ByteArray.toList b.From) && ((ByteArray.toList a.To == ByteArray.toList b.To) && ((a.Count == b.Count) && ((a.Errs == b.Errs) && true)))) = decide (a = b) := by
 rw [str_beq, str_beq]
 obtain ⟨a1, a2, a3, a4⟩ := a
 obtain ⟨b1, b2, b3, b4⟩ := b
 rw [Bool.eq_iff_iff]
 simp only [Bool.and_eq_true, beq_iff_eq, decide_eq_true_iff, Edge.mk.injEq, and_true]
theorem slt_eq (a b : Exemplar) : ((ByteArray.toList a.Service == ByteArray.toList b.Service) && ((ByteArray.toList a.Op == ByteArray.toList b.Op) && ((a.Trace.Hi == b.Trace.Hi) && ((a.Trace.Lo == b.Trace.Lo) && ((a.Id == b.Id) && ((a.Block == b.Block) && true)))))) = decide (a = b) := by
 rw [str_beq, str_beq]
 obtain ⟨a1, a2, ⟨a3, a4⟩, a5, a6⟩ := a
 obtain ⟨b1, b2, ⟨b3, b4⟩, b5, b6⟩ := b
 rw [Bool.eq_iff_iff]
 simp only [Bool.and_eq_true, beq_iff_eq, decide_eq_true_iff, Exemplar.mk.injEq, Trace.mk.injEq, and_true]
 exact ⟨fun ⟨h1, h2, h3, h4, h5, h6⟩ => ⟨h1, h2, ⟨h3, h4⟩, h5, h6⟩, fun ⟨h1, h2, ⟨h3, h4⟩, h5, h6⟩ => ⟨h1, h2, h3, h4, h5, h6⟩⟩
theorem row_eq (a b : RowG) : ((a.Level == b.Level) && ((a.Window == b.Window) && ((ByteArray.toList a.Service == ByteArray.toList b.Service) && ((ByteArray.toList a.Op == ByteArray.toList b.Op) && ((a.Counter.Count == b.Counter.Count) && ((a.Counter.Errs == b.Counter.Errs) && ((a.Counter.By.c0 == b.Counter.By.c0) && ((a.Counter.By.c1 == b.Counter.By.c1) && ((a.Counter.By.c2 == b.Counter.By.c2) && ((a.Counter.By.c3 == b.Counter.By.c3) && ((a.Counter.By.c4 == b.Counter.By.c4) && ((a.Counter.By.c5 == b.Counter.By.c5) && ((a.Counter.By.c6 == b.Counter.By.c6) && ((a.Counter.By.c7 == b.Counter.By.c7) && true)))))))))))))) = decide (a = b) := by
 rw [str_beq, str_beq]
 obtain ⟨a1, a2, a3, a4, ⟨a5, a6, ⟨p0, p1, p2, p3, p4, p5, p6, p7⟩⟩⟩ := a
 obtain ⟨b1, b2, b3, b4, ⟨b5, b6, ⟨q0, q1, q2, q3, q4, q5, q6, q7⟩⟩⟩ := b
 rw [Bool.eq_iff_iff]
 simp only [Bool.and_eq_true, beq_iff_eq, decide_eq_true_iff, RowG.mk.injEq, Counter.mk.injEq, Arr8_Int.mk.injEq, and_true]
theorem same_memo (a b : List Verdict) (ha : a.length ≤ 1000) : gleaningref15_SameVerdicts a b = some (decide (a = b)) := by
 by_cases hl : a.length = b.length
 ·have h0 : ((a.length : Int) != (b.length : Int)) = false := by simp [hl]
  rw [gleaningref15_SameVerdicts, ite_f h0]
  refine loop_same a b hl (by omega) (fun k hk hk2 => ?_) ?_
  ·simp only [gleaningref15_SameVerdicts_l0, dec_t (by omega : (k : Int) < (a.length : Int)), if_true, gd_pos (by omega : (0 : Int) ≤ (k : Int)), Int.toNat_natCast, List.getElem?_eq_getElem hk, List.getElem?_eq_getElem hk2, Option.bind_some, me_eq, ksuc (by omega : k < 1099511627776)]
   exact step_dec _ _
  ·simp only [gleaningref15_SameVerdicts_l0, dec_f (by omega : ¬ (a.length : Int) < (a.length : Int)), Bool.false_eq_true, if_false]
 ·have h0 : ((a.length : Int) != (b.length : Int)) = true := by simp only [bne_iff_ne, ne_eq]; omega
  rw [gleaningref15_SameVerdicts, ite_t h0, dec_f (by rintro rfl; exact hl rfl)]
theorem same_rows (a b : List RowG) (ha : a.length ≤ 1000) : gleaningref1_SameRows a b = some (decide (a = b)) := by
 by_cases hl : a.length = b.length
 ·have h0 : ((a.length : Int) != (b.length : Int)) = false := by simp [hl]
  rw [gleaningref1_SameRows, ite_f h0]
  refine loop_same a b hl (by omega) (fun k hk hk2 => ?_) ?_
  ·simp only [gleaningref1_SameRows_l0, dec_t (by omega : (k : Int) < (a.length : Int)), if_true, gd_pos (by omega : (0 : Int) ≤ (k : Int)), Int.toNat_natCast, List.getElem?_eq_getElem hk, List.getElem?_eq_getElem hk2, Option.bind_some, row_eq, ksuc (by omega : k < 1099511627776)]
   exact step_dec _ _
  ·simp only [gleaningref1_SameRows_l0, dec_f (by omega : ¬ (a.length : Int) < (a.length : Int)), Bool.false_eq_true, if_false]
 ·have h0 : ((a.length : Int) != (b.length : Int)) = true := by simp only [bne_iff_ne, ne_eq]; omega
  rw [gleaningref1_SameRows, ite_t h0, dec_f (by rintro rfl; exact hl rfl)]
theorem same_edgs (a b : List Edge) (ha : a.length ≤ 1000) : gleaningref1_SameEdges a b = some (decide (a = b)) := by
 by_cases hl : a.length = b.length
 ·have h0 : ((a.length : Int) != (b.length : Int)) = false := by simp [hl]
  rw [gleaningref1_SameEdges, ite_f h0]
  refine loop_same a b hl (by omega) (fun k hk hk2 => ?_) ?_
  ·simp only [gleaningref1_SameEdges_l0, dec_t (by omega : (k : Int) < (a.length : Int)), if_true, gd_pos (by omega : (0 : Int) ≤ (k : Int)), Int.toNat_natCast, List.getElem?_eq_getElem hk, List.getElem?_eq_getElem hk2, Option.bind_some, edg_eq, ksuc (by omega : k < 1099511627776)]
   exact step_dec _ _
  ·simp only [gleaningref1_SameEdges_l0, dec_f (by omega : ¬ (a.length : Int) < (a.length : Int)), Bool.false_eq_true, if_false]
 ·have h0 : ((a.length : Int) != (b.length : Int)) = true := by simp only [bne_iff_ne, ne_eq]; omega
  rw [gleaningref1_SameEdges, ite_t h0, dec_f (by rintro rfl; exact hl rfl)]
theorem same_slts (a b : List Exemplar) (ha : a.length ≤ 1000) : gleaningref1_SameSlots a b = some (decide (a = b)) := by
 by_cases hl : a.length = b.length
 ·have h0 : ((a.length : Int) != (b.length : Int)) = false := by simp [hl]
  rw [gleaningref1_SameSlots, ite_f h0]
  refine loop_same a b hl (by omega) (fun k hk hk2 => ?_) ?_
  ·simp only [gleaningref1_SameSlots_l0, dec_t (by omega : (k : Int) < (a.length : Int)), if_true, gd_pos (by omega : (0 : Int) ≤ (k : Int)), Int.toNat_natCast, List.getElem?_eq_getElem hk, List.getElem?_eq_getElem hk2, Option.bind_some, slt_eq, ksuc (by omega : k < 1099511627776)]
   exact step_dec _ _
  ·simp only [gleaningref1_SameSlots_l0, dec_f (by omega : ¬ (a.length : Int) < (a.length : Int)), Bool.false_eq_true, if_false]
 ·have h0 : ((a.length : Int) != (b.length : Int)) = true := by simp only [bne_iff_ne, ne_eq]; omega
  rw [gleaningref1_SameSlots, ite_t h0, dec_f (by rintro rfl; exact hl rfl)]
theorem same_blk (a b : Block) (h : a.Episodes = []) : gleaningref15_SameBlock a b = some (decide (a = b)) := by
 obtain ⟨a1, a2, a3, a4⟩ := a
 obtain ⟨b1, b2, b3, b4⟩ := b
 simp only at h
 subst h
 rw [gleaningref15_SameBlock, same_eps [] b4 (by simp) (by simp)]
 by_cases e1 : a1 = b1
 case neg => simp [e1]
 by_cases e2 : a2 = b2
 case neg => simp [e1, e2]
 by_cases e3 : a3 = b3
 case neg => simp [e1, e2, e3]
 simp [e1, e2, e3]
theorem same_blks (a b : StateG) (ha : a.Blocks.length ≤ 1000) (hl : a.Blocks.length = b.Blocks.length) (hB : ∀ x ∈ a.Blocks, x.Episodes = []) : gleaningref15_SameState_k1 a b = some (decide (a.Blocks = b.Blocks)) := by
 rw [gleaningref15_SameState_k1]
 refine loop_same a.Blocks b.Blocks hl (by omega) (fun k hk hk2 => ?_) ?_
 ·simp only [gleaningref15_SameState_l2, dec_t (by omega : (k : Int) < (a.Blocks.length : Int)), if_true, gd_pos (by omega : (0 : Int) ≤ (k : Int)), Int.toNat_natCast, List.getElem?_eq_getElem hk, List.getElem?_eq_getElem hk2, Option.bind_some, same_blk _ _ (hB _ (List.getElem_mem hk)), ksuc (by omega : k < 1099511627776)]
  exact step_dec _ _
 ·simp only [gleaningref15_SameState_l2, dec_f (by omega : ¬ (a.Blocks.length : Int) < (a.Blocks.length : Int)), Bool.false_eq_true, if_false]
theorem same_k0 (a b : StateG) (hf : fewSt a) (hB : ∀ x ∈ a.Blocks, x.Episodes = []) : ∃ v, gleaningref15_SameState_k0 a b = some v ∧ (v = true ↔ a.Rows = b.Rows ∧ a.Edges = b.Edges ∧ a.Slots = b.Slots ∧ a.Blocks = b.Blocks) := by
 have f4 := hf.rows
 have f5 := hf.edgs
 have f6 := hf.slts
 have f7 := hf.blks
 rw [gleaningref15_SameState_k0, same_rows _ _ (by omega), same_edgs _ _ (by omega), same_slts _ _ (by omega)]
 by_cases e1 : a.Rows = b.Rows
 case neg => exact ⟨false, by simp [e1], by simp [e1]⟩
 by_cases e2 : a.Edges = b.Edges
 case neg => exact ⟨false, by simp [e1, e2], by simp [e1, e2]⟩
 by_cases e3 : a.Slots = b.Slots
 case neg => exact ⟨false, by simp [e1, e2, e3], by simp [e1, e2, e3]⟩
 by_cases e4 : a.Blocks.length = b.Blocks.length
 case neg =>
  have h0 : ((a.Blocks.length : Int) != (b.Blocks.length : Int)) = true := by simp only [bne_iff_ne, ne_eq]; omega
  refine ⟨false, by simp [e1, e2, e3, h0], fun e => (by cases e), fun e => ?_⟩
  exact absurd (by rw [e.2.2.2]) e4
 have h0 : ((a.Blocks.length : Int) != (b.Blocks.length : Int)) = false := by simp [e4]
 refine ⟨decide (a.Blocks = b.Blocks), ?_, by simp [e1, e2, e3]⟩
 rw [← same_blks a b (by omega) e4 hB]
 simp only [dec_t e1, dec_t e2, dec_t e3, h0, Bool.not_true, Bool.false_eq_true, if_false, Option.bind_some, Sum.elim_inl]
theorem same_st (a b : StateG) (hf : fewSt a) (hr : rightSt a = true) (hB : ∀ x ∈ a.Blocks, x.Episodes = []) : ∃ v, gleaningref15_SameState a b = some v ∧ (v = true ↔ a = b) := by
 obtain ⟨_, h2, h3, h4, _⟩ := rights_of hr
 rw [List.all_eq_true] at h3 h4
 have at_ : ∀ e : Episode, rightE e = true → ∀ s ∈ e.Spans, s.Attrs.length ≤ 1000000 := fun e he s hs => by
  have := (rightS_of ((rightE_of he).2.2.2 s hs)).2.2.2.2.2.2.2.1; omega
 obtain ⟨v1, p1, q1⟩ := same_rules a.Policy b.Policy h2
 obtain ⟨v2, p2, q2⟩ := same_k0 a b hf hB
 have g1 := hf.open_
 have g2 := hf.pend
 have g3 := hf.memo
 rw [gleaningref15_SameState, p1, same_eps a.Open b.Open (by omega) (fun e he => ⟨by have := g1.2 e he; omega, at_ e (h3 e he)⟩), same_eps a.Pending b.Pending (by omega) (fun e he => ⟨by have := g2.2 e he; omega, at_ e (h4 e he)⟩), same_memo _ _ (by omega)]
 have no : ∀ {p : Prop}, (a = b → p) → ¬ p → (false = true ↔ a = b) := fun h n => ⟨fun e => (by cases e), fun e => absurd (h e) n⟩
 by_cases e1 : a.Now = b.Now
 case neg => exact ⟨false, by simp [e1], no (fun e => by rw [e]) e1⟩
 by_cases e2 : a.Sec = b.Sec
 case neg => exact ⟨false, by simp [e1, e2], no (fun e => by rw [e]) e2⟩
 by_cases e3 : a.Kept = b.Kept
 case neg => exact ⟨false, by simp [e1, e2, e3], no (fun e => by rw [e]) e3⟩
 by_cases e4 : a.Next = b.Next
 case neg => exact ⟨false, by simp [e1, e2, e3, e4], no (fun e => by rw [e]) e4⟩
 cases v1 with
 | false =>
  refine ⟨false, by simp [e1, e2, e3, e4], no (p := a.Policy = b.Policy) (fun e => by rw [e]) fun e => ?_⟩
  have := q1.2 e
  cases this
 | true =>
 have e5 := q1.1 rfl
 by_cases e6 : a.Open = b.Open
 case neg => exact ⟨false, by simp [e1, e2, e3, e4, e6], no (fun e => by rw [e]) e6⟩
 by_cases e7 : a.Pending = b.Pending
 case neg => exact ⟨false, by simp [e1, e2, e3, e4, e6, e7], no (fun e => by rw [e]) e7⟩
 by_cases e8 : a.Memo = b.Memo
 case neg => exact ⟨false, by simp [e1, e2, e3, e4, e6, e7, e8], no (fun e => by rw [e]) e8⟩
 refine ⟨v2, by simp [e1, e2, e3, e4, e6, e7, e8, p2], q2.trans ⟨fun ⟨x1, x2, x3, x4⟩ => ?_, fun e => by rw [e]; exact ⟨rfl, rfl, rfl, rfl⟩⟩⟩
 cases a
 cases b
 simp only at *
 subst e1 e2 e3 e4 e5 e6 e7 e8 x1 x2 x3 x4
 rfl
theorem few_rows (s : StateG) (hl : s.Rows.length ≤ 1000) : ∃ v, loopN (fun (q : Int) => gleaninglaw21_Few_l2 s q) Fu 0 = some v := by
 have key : ∃ v, loopN (fun (q : Int) => gleaninglaw21_Few_l2 s q) Fu 0 = some v ∧ True := loop_inv (fun n (q : Int) => ∃ k : Nat, k ≤ s.Rows.length ∧ n = s.Rows.length - k ∧ q = (k : Int)) (fun _ => True) ?_ Fu s.Rows.length 0 ⟨0, by omega, by omega, rfl⟩ (by rw [fu_eq]; omega)
 ·obtain ⟨v, h, _⟩ := key
  exact ⟨v, h⟩
 rintro n q ⟨k, hk, rfl, rfl⟩
 by_cases e : k = s.Rows.length
 ·refine .inr ⟨.inl (), ?_, trivial⟩
  simp only [gleaninglaw21_Few_l2, dec_f (by omega : ¬ (k : Int) < (s.Rows.length : Int)), Bool.false_eq_true, if_false]
 ·have hk2 : k < s.Rows.length := by omega
  simp only [gleaninglaw21_Few_l2, dec_t (by omega : (k : Int) < (s.Rows.length : Int)), if_true, gd_pos (by omega : (0 : Int) ≤ (k : Int)), Int.toNat_natCast, List.getElem?_eq_getElem hk2, Option.bind_some, ksuc (by omega : k < 1099511627776)]
  split
  ·exact .inr ⟨_, rfl, trivial⟩
  ·split
   ·exact .inr ⟨_, rfl, trivial⟩
   ·exact .inl ⟨_, s.Rows.length - (k + 1), rfl, by omega, k + 1, by omega, rfl, rfl⟩
theorem few_edgs (s : StateG) (hl : s.Edges.length ≤ 1000) : ∃ v, loopN (fun (q : Int) => gleaninglaw21_Few_l4 s q) Fu 0 = some v := by
 have key : ∃ v, loopN (fun (q : Int) => gleaninglaw21_Few_l4 s q) Fu 0 = some v ∧ True := loop_inv (fun n (q : Int) => ∃ k : Nat, k ≤ s.Edges.length ∧ n = s.Edges.length - k ∧ q = (k : Int)) (fun _ => True) ?_ Fu s.Edges.length 0 ⟨0, by omega, by omega, rfl⟩ (by rw [fu_eq]; omega)
 ·obtain ⟨v, h, _⟩ := key
  exact ⟨v, h⟩
 rintro n q ⟨k, hk, rfl, rfl⟩
 by_cases e : k = s.Edges.length
 ·refine .inr ⟨.inl (), ?_, trivial⟩
  simp only [gleaninglaw21_Few_l4, dec_f (by omega : ¬ (k : Int) < (s.Edges.length : Int)), Bool.false_eq_true, if_false]
 ·have hk2 : k < s.Edges.length := by omega
  simp only [gleaninglaw21_Few_l4, dec_t (by omega : (k : Int) < (s.Edges.length : Int)), if_true, gd_pos (by omega : (0 : Int) ≤ (k : Int)), Int.toNat_natCast, List.getElem?_eq_getElem hk2, Option.bind_some, ksuc (by omega : k < 1099511627776)]
  split
  ·exact .inr ⟨_, rfl, trivial⟩
  ·split
   ·exact .inr ⟨_, rfl, trivial⟩
   ·exact .inl ⟨_, s.Edges.length - (k + 1), rfl, by omega, k + 1, by omega, rfl, rfl⟩
theorem few_slts (s : StateG) (hl : s.Slots.length ≤ 1000) : ∃ v, gleaninglaw21_Few_k3 s = some v := by
 have key : ∃ v, loopN (fun (q : Int) => gleaninglaw21_Few_l5 s q) Fu 0 = some v ∧ True := loop_inv (fun n (q : Int) => ∃ k : Nat, k ≤ s.Slots.length ∧ n = s.Slots.length - k ∧ q = (k : Int)) (fun _ => True) ?_ Fu s.Slots.length 0 ⟨0, by omega, by omega, rfl⟩ (by rw [fu_eq]; omega)
 ·obtain ⟨v, h, _⟩ := key
  exact ⟨v, h⟩
 rintro n q ⟨k, hk, rfl, rfl⟩
 by_cases e : k = s.Slots.length
 ·refine .inr ⟨true, ?_, trivial⟩
  simp only [gleaninglaw21_Few_l5, dec_f (by omega : ¬ (k : Int) < (s.Slots.length : Int)), Bool.false_eq_true, if_false]
 ·have hk2 : k < s.Slots.length := by omega
  simp only [gleaninglaw21_Few_l5, dec_t (by omega : (k : Int) < (s.Slots.length : Int)), if_true, gd_pos (by omega : (0 : Int) ≤ (k : Int)), Int.toNat_natCast, List.getElem?_eq_getElem hk2, Option.bind_some, ksuc (by omega : k < 1099511627776)]
  split
  ·exact .inr ⟨_, rfl, trivial⟩
  ·split
   ·exact .inr ⟨_, rfl, trivial⟩
   ·exact .inl ⟨_, s.Slots.length - (k + 1), rfl, by omega, k + 1, by omega, rfl, rfl⟩
theorem few21_spec (s : StateG) (hb : (s.Blocks.flatMap (·.Episodes)).length ≤ 1048576) : ∃ v, gleaninglaw21_Few s = some v ∧ (v = true → fewSt s) := by
 obtain ⟨v1, p1, _⟩ := few13_spec s.Policy
 obtain ⟨v2, p2, q2⟩ := few15_spec s.Open
 obtain ⟨v3, p3, q3⟩ := few15_spec s.Pending
 obtain ⟨v4, p4, q4⟩ := few19_spec s.Blocks hb
 rw [gleaninglaw21_Few, p1, p2, p3, p4]
 cases v1
 ·exact ⟨false, rfl, fun e => by cases e⟩
 cases v2
 ·exact ⟨false, rfl, fun e => by cases e⟩
 cases v3
 ·exact ⟨false, rfl, fun e => by cases e⟩
 cases v4
 ·exact ⟨false, rfl, fun e => by cases e⟩
 by_cases c1 : (100 : Int) < (s.Memo.length : Int)
 ·exact ⟨false, by simp [c1], fun e => by cases e⟩
 by_cases c2 : (100 : Int) < (s.Rows.length : Int)
 ·exact ⟨false, by simp [c1, c2], fun e => by cases e⟩
 by_cases c3 : (60 : Int) < (s.Edges.length : Int)
 ·exact ⟨false, by simp [c1, c2, c3], fun e => by cases e⟩
 by_cases c4 : (60 : Int) < (s.Slots.length : Int)
 ·exact ⟨false, by simp [c1, c2, c3, c4], fun e => by cases e⟩
 have g2 := q2 rfl
 have g3 := q3 rfl
 have g4 := (q4 rfl).len
 have hfew : fewSt s := ⟨⟨by omega, fun e he => by have := (g2.2 e he).1; omega⟩, ⟨by omega, fun e he => by have := (g3.2 e he).1; omega⟩, by omega, by omega, by omega, by omega, by omega⟩
 obtain ⟨w1, r1⟩ := few_rows s (by omega)
 obtain ⟨w2, r2⟩ := few_edgs s (by omega)
 obtain ⟨w3, r3⟩ := few_slts s (by omega)
 simp only [Bool.not_true, Bool.false_eq_true, if_false, Option.bind_some, dec_f c1, dec_f c2, dec_f c3, dec_f c4, Sum.elim_inl, gleaninglaw21_Few_k0, r1]
 cases w1 with
 | inr x => exact ⟨x, rfl, fun _ => hfew⟩
 | inl x =>
  simp only [Sum.elim_inl, gleaninglaw21_Few_k1, r2, Option.bind_some]
  cases w2 with
  | inr x => exact ⟨x, rfl, fun _ => hfew⟩
  | inl x => exact ⟨w3, r3, fun _ => hfew⟩
theorem wfSt_of {s : StateG} (h : StateG.wf s) : wfSt s := by
 have hu : ∀ n : Int, inI .u64 n → isU n := fun n h => by simp [inI, IntKind.min, IntKind.max, IntKind.signed, IntKind.bits] at h; exact ⟨by omega, by omega⟩
 have he : ∀ e : Episode, Episode.wf e → wfE e := fun e w => ⟨hu _ w.1.1, hu _ w.1.2, fun s hs => by
  have h4 := w.2.2.2.2.2 s hs
  exact ⟨hu _ h4.1.1, hu _ h4.1.2, hu _ h4.2.1, hu _ h4.2.2.1⟩⟩
 obtain ⟨_, _, _, _, _, h6, h7, h8, h9, h10, h11, h12⟩ := h
 exact ⟨fun e hm => he e (h6.2 e hm), fun e hm => he e (h7.2 e hm), fun v hm => ⟨hu _ (h8.2 v hm).1.1, hu _ (h8.2 v hm).1.2⟩, fun x hm => ⟨hu _ (h11.2 x hm).2.2.1.1, hu _ (h11.2 x hm).2.2.1.2, hu _ (h11.2 x hm).2.2.2.1⟩⟩
theorem bare_wf {s : StateG} (h : wfSt s) : wfSt (bareS s) := ⟨h.open_, h.pend, h.memo, h.slts⟩
theorem alive21 : gleaninglaw21_alive = some true := by
 obtain ⟨z, hz⟩ := read_not (b := []) (by simp) rfl
 have hf : fewSt (StateG.mk 4 0 0 0 (Rule.mk 1 0 (strOf []) (strOf []) []) [] [] [] [] [] [] []) := ⟨by simp, by simp, by simp, by simp, by simp, by simp, by simp⟩
 have hf0 : fewSt (StateG.mk 0 0 0 0 (Rule.mk 0 0 (strOf []) (strOf []) []) [] [] [] [] [] [] []) := ⟨by simp, by simp, by simp, by simp, by simp, by simp, by simp⟩
 have hw : wfSt (StateG.mk 4 0 0 0 (Rule.mk 1 0 (strOf []) (strOf []) []) [] [] [] [] [] [] []) := ⟨by simp, by simp, by simp, by simp⟩
 have hr : rightSt (StateG.mk 4 0 0 0 (Rule.mk 1 0 (strOf []) (strOf []) []) [] [] [] [] [] [] []) = true := by decide
 have hr0 : rightSt (StateG.mk 0 0 0 0 (Rule.mk 0 0 (strOf []) (strOf []) []) [] [] [] [] [] [] []) = false := by decide
 rw [gleaninglaw21_alive, hz, Option.bind_some, bytes_st _ hf hw, bytesSt, if_pos hr, Option.bind_some, read_st hf hw hr, Option.bind_some, right_st _ hf0, hr0]
 rfl
end Go.Proofs.YtjklegmimpehlaaGreat.Ab
