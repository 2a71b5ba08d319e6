/- Chapter 32: blocks that are merged, or stand in another order, have the same traces. -/
import Derived.Test.YtnhjcpnoadicpaaXSMerged
import Derived.Test.YtnhjcpnoadicpaaPSearchA
import Derived.Test.YtnhjcpnoadicpaaPUpto
namespace Go.Proofs.Ytnhjcpnoadicpaa.Ab
open Go Go.RowKit
set_option linter.unusedVariables false
set_option linter.unusedSimpArgs false
theorem all_perm {l m : List Block} {q : Query} (h : (epsF l).Perm (epsF m)) : allF l q = allF m q := by
  refine rise_unique (all_rise l q) (all_rise m q) fun t => ?_
  rw [all_mem, all_mem]
  constructor
  · rintro ⟨e, h1, h2⟩; exact ⟨e, h.mem_iff.1 h1, h2⟩
  · rintro ⟨e, h1, h2⟩; exact ⟨e, h.mem_iff.2 h1, h2⟩
theorem fewB_perm {l m : List Block} (h : (epsF l).Perm (epsF m)) (hf : fewB m) (hl : l.length ≤ 12) : fewB l :=
  ⟨hl, by have := h.length_eq; have := hf.eps; show (epsF l).length ≤ 120; show _; have h2 : (epsF m).length ≤ 120 := hf.eps; omega, fun e he => hf.small e (h.mem_iff.1 he)⟩
theorem back_loop (l : List Block) (hl : l.length ≤ 12) : loopN (fun (s : List Block × Int) => gleaninglaw32_SearchMerged_l2 l s.1 s.2) Fu ([], IntKind.i64.wrap ((l.length : Int) - 1)) = some l.reverse := by
  rw [w64 (by omega) (by omega)]
  refine loop_fu (fun n s r => ∃ k : Nat, k ≤ l.length ∧ n = k ∧ s = ((l.drop k).reverse, (k : Int) - 1) ∧ r = l.reverse) ?_ (n := l.length) ⟨l.length, Nat.le_refl _, rfl, by rw [List.drop_length]; rfl, rfl⟩ (by omega)
  rintro k s r ⟨_, hk, rfl, rfl, rfl⟩
  cases k with
  | zero =>
    refine .inr ?_
    simp only [gleaninglaw32_SearchMerged_l2, dec_f (by omega : ¬ (0 : Int) ≤ ((0 : Nat) : Int) - 1), Bool.false_eq_true, if_false, List.drop_zero]
  | succ k =>
    have hk2 : k < l.length := by omega
    have e1 : (((k + 1 : Nat) : Int) - 1) = (k : Int) := by omega
    refine .inl ⟨((l.drop k).reverse, (k : Int) - 1), k, ?_, by omega, k, by omega, rfl, rfl, rfl⟩
    rw [e1]
    simp only [gleaninglaw32_SearchMerged_l2, dec_t (by omega : (0 : Int) ≤ (k : Int)), if_true, gd_pos (by omega : (0 : Int) ≤ (k : Int)), Int.toNat_natCast, List.getElem?_eq_getElem hk2, Option.bind_some, w64 (n := (k : Int) - 1) (by omega) (by omega)]
    rw [gd_pos (by simp only [List.length_append, List.length_reverse, List.length_drop, List.length_singleton]; omega), List.drop_eq_getElem_cons hk2, List.reverse_cons]
theorem place_loop (a out : List Episode) (v : Nat) (hv : v < a.length) (ho : out.length ≤ 1000) : ∃ r : Int, loopN (fun (s : Int) => gleaningref15_Make_l2 a out (v : Int) s) Fu (out.length : Int) = some r ∧ (0 ≤ r ∧ r ≤ (out.length : Int)) := by
  refine loop_inv (fun n (s : Int) => ∃ k : Nat, k ≤ out.length ∧ n = k ∧ s = (k : Int)) (fun r => 0 ≤ r ∧ r ≤ (out.length : Int)) ?_ Fu out.length _ ⟨out.length, Nat.le_refl _, rfl, rfl⟩ (by rw [show Fu = 1208925819614629174706175 + 1 from rfl]; omega)
  rintro k s ⟨_, hk, rfl, rfl⟩
  cases k with
  | zero =>
    refine .inr ⟨0, ?_, by omega, by omega⟩
    simp only [gleaningref15_Make_l2, dec_f (by omega : ¬ (0 : Int) < ((0 : Nat) : Int)), Bool.false_eq_true, if_false]
    rfl
  | succ k =>
    have hk2 : k < out.length := by omega
    have e1 : IntKind.i64.wrap (((k + 1 : Nat) : Int) - 1) = (k : Int) := by rw [w64 (by omega) (by omega)]; omega
    by_cases ht : tlt a[v].Trace out[k].Trace
    · refine .inl ⟨(k : Int), k, ?_, by omega, k, by omega, rfl, rfl⟩
      simp only [gleaningref15_Make_l2, dec_t (by omega : (0 : Int) < ((k + 1 : Nat) : Int)), if_true, gd_pos (by omega : (0 : Int) ≤ (v : Int)), Int.toNat_natCast, List.getElem?_eq_getElem hv, Option.bind_some, e1, gd_pos (by omega : (0 : Int) ≤ (k : Int)), List.getElem?_eq_getElem hk2, less_spec, dec_t ht]
    · refine .inr ⟨((k + 1 : Nat) : Int), ?_, by omega, by omega⟩
      simp only [gleaningref15_Make_l2, dec_t (by omega : (0 : Int) < ((k + 1 : Nat) : Int)), if_true, gd_pos (by omega : (0 : Int) ≤ (v : Int)), Int.toNat_natCast, List.getElem?_eq_getElem hv, Option.bind_some, e1, gd_pos (by omega : (0 : Int) ≤ (k : Int)), List.getElem?_eq_getElem hk2, less_spec, dec_f ht, Bool.false_eq_true, if_false]
theorem make_spec (n b t : Int) (a : List Episode) (ha : a.length ≤ 300) : ∃ x : Block, gleaningref15_Make n b t a = some x ∧ x.Episodes.Perm a := by
  unfold gleaningref15_Make
  refine loop_inv (fun m (s : List Episode × Int) => ∃ (k : Nat) (out : List Episode), k ≤ a.length ∧ m = a.length - k ∧ s = (out, (k : Int)) ∧ out.Perm (a.take k)) (fun (x : Block) => x.Episodes.Perm a) ?_ Fu a.length _ ⟨0, [], by omega, rfl, rfl, List.Perm.refl _⟩ (by rw [show Fu = 1208925819614629174706175 + 1 from rfl]; omega)
  rintro m s ⟨k, out, hk, rfl, rfl, hp⟩
  have hlen := hp.length_eq
  rw [List.length_take] at hlen
  by_cases hk2 : k < a.length
  · obtain ⟨r, h1, h2, h3⟩ := place_loop a out k hk2 (by omega)
    obtain ⟨p, rfl⟩ := Int.eq_ofNat_of_zero_le h2
    refine .inl ⟨((out.take p ++ [a[k]]) ++ out.drop p, ((k + 1 : Nat) : Int)), a.length - (k + 1), ?_, by omega, k + 1, _, by omega, rfl, rfl, ?_⟩
    · simp only [gleaningref15_Make_l0, dec_t (by omega : (k : Int) < (a.length : Int)), if_true]
      rw [h1, Option.bind_some, gleaningref15_Make_k1]
      simp only [gd_pos h2, gd_pos h3, Int.toNat_natCast, gd_pos (by omega : (0 : Int) ≤ (k : Int)), List.getElem?_eq_getElem hk2, Option.bind_some, w64 (n := (k : Int) + 1) (by omega) (by omega)]
      rw [gd_pos (by simp only [List.length_take]; omega), gd_pos (by simp only [List.length_append, List.length_take, List.length_singleton]; omega), gd_pos (by simp only [List.length_append, List.length_take, List.length_drop, List.length_singleton]; omega)]
      push_cast; rfl
    · rw [List.take_succ_eq_append_getElem hk2]
      have h5 : ((out.take p ++ [a[k]]) ++ out.drop p).Perm ((out.take p ++ out.drop p) ++ [a[k]]) := by
        rw [List.append_assoc, List.append_assoc]
        exact List.Perm.append_left _ List.perm_append_comm
      rw [List.take_append_drop] at h5
      exact h5.trans (hp.append_right _)
  · have e : k = a.length := by omega
    subst e
    rw [List.take_length] at hp
    refine .inr ⟨Block.mk n b t out, ?_, hp⟩
    simp only [gleaningref15_Make_l0, dec_f (by omega : ¬ (a.length : Int) < (a.length : Int)), Bool.false_eq_true, if_false]
theorem join_spec (a b : Block) (n : Int) (h : a.Episodes.length + b.Episodes.length ≤ 300) : ∃ x : Block, gleaningref15_Join a b n = some x ∧ x.Episodes.Perm (a.Episodes ++ b.Episodes) := by
  have hk1 : ∀ u v : Int, ∃ x : Block, gleaningref15_Join_k1 a b n u v = some x ∧ x.Episodes.Perm (a.Episodes ++ b.Episodes) := fun u v => by
    obtain ⟨x, h1, h2⟩ := make_spec n u (IntKind.i64.wrap (v + 1)) (a.Episodes ++ b.Episodes) (by rw [List.length_append]; omega)
    refine ⟨x, ?_, h2⟩
    rw [gleaningref15_Join_k1, gd_pos (by omega), gd_pos (by rw [List.length_append]; omega), h1]; rfl
  unfold gleaningref15_Join
  by_cases c : a.Born < b.Born
  · rw [dec_t c, ite_tt, Option.bind_some, gleaningref15_Join_k0]
    by_cases d : a.Tier < b.Tier
    · rw [dec_t d, ite_tt, Option.bind_some]; exact hk1 _ _
    · rw [dec_f d, ite_ff, Option.bind_some]; exact hk1 _ _
  · rw [dec_f c, ite_ff, Option.bind_some, gleaningref15_Join_k0]
    by_cases d : a.Tier < b.Tier
    · rw [dec_t d, ite_tt, Option.bind_some]; exact hk1 _ _
    · rw [dec_f d, ite_ff, Option.bind_some]; exact hk1 _ _
theorem join_loop (l : List Block) (h : fewB l) : ∃ r : Int × Int × Int × List Episode, loopN (fun (s : Int × Int × Int × List Episode × Int) => gleaninglaw32_SearchMerged_l4 l s.1 s.2.1 s.2.2.1 s.2.2.2.1 s.2.2.2.2) Fu (0, 0, 0, [], 0) = some r ∧ r.2.2.2.Perm (epsF l) := by
  have h12 := h.len
  refine loop_inv (fun m (s : Int × Int × Int × List Episode × Int) => ∃ (k : Nat) (n b t : Int) (es : List Episode), k ≤ l.length ∧ m = l.length - k ∧ s = (n, b, t, es, (k : Int)) ∧ es.Perm (epsF (l.take k))) (fun (r : Int × Int × Int × List Episode) => r.2.2.2.Perm (epsF l)) ?_ Fu l.length _ ⟨0, 0, 0, 0, [], by omega, rfl, rfl, List.Perm.refl _⟩ (by rw [show Fu = 1208925819614629174706175 + 1 from rfl]; omega)
  rintro m s ⟨k, n, b, t, es, hk, rfl, rfl, hp⟩
  by_cases hk2 : k < l.length
  · have he := eps_take_len h k
    have hb := epsB_len h (List.getElem_mem hk2)
    obtain ⟨x, h1, h2⟩ := join_spec (Block.mk n b t es) l[k] (k : Int) (by have := hp.length_eq; show es.length + _ ≤ 300; omega)
    refine .inl ⟨(x.Number, x.Born, x.Tier, x.Episodes, ((k + 1 : Nat) : Int)), l.length - (k + 1), ?_, by omega, k + 1, _, _, _, _, by omega, rfl, rfl, ?_⟩
    · simp only [gleaninglaw32_SearchMerged_l4, dec_t (by omega : (k : Int) < (l.length : Int)), if_true, gd_pos (by omega : (0 : Int) ≤ (k : Int)), Int.toNat_natCast, List.getElem?_eq_getElem hk2, Option.bind_some, h1, ksucc (by omega : k < 1099511627776)]
    · rw [eps_succ l k hk2]
      exact h2.trans (hp.append_right _)
  · have e : k = l.length := by omega
    subst e
    rw [List.take_length] at hp
    refine .inr ⟨(n, b, t, es), ?_, hp⟩
    simp only [gleaninglaw32_SearchMerged_l4, dec_f (by omega : ¬ (l.length : Int) < (l.length : Int)), Bool.false_eq_true, if_false]
theorem searchMerged_true (l : List Block) (q : Query) (_ : l.length ≤ maxLen ∧ ∀ y ∈ l, Block.wf y) (_ : Query.wf q) (hb : (l.flatMap (·.Episodes)).length ≤ 1048576) : gleaninglaw32_SearchMerged l q = some true := by
  obtain ⟨f1, hf1, g1⟩ := few19_spec l hb
  obtain ⟨f2, hf2⟩ := few32_spec q
  simp only [gleaninglaw32_SearchMerged, alive32, Option.bind_some, Bool.not_true, Bool.false_eq_true, if_false, hf1, hf2]
  cases f1 with
  | false => rfl
  | true =>
  cases f2 with
  | false => rfl
  | true =>
  have hf := g1 rfl
  have hl := Nat.le_trans (all_len l q) (show (epsF l).length ≤ 120 from hf.eps)
  have pr : (epsF l.reverse).Perm (epsF l) := (List.reverse_perm l).flatMap_right _
  have fr := fewB_perm pr hf (by rw [List.length_reverse]; exact hf.len)
  obtain ⟨⟨n, b, t, es⟩, h1, h2⟩ := join_loop l hf
  have po : (epsF [Block.mk n b t es]).Perm (epsF l) := by
    have : epsF [Block.mk n b t es] = es := by simp [epsF]
    rw [this]; exact h2
  have fo := fewB_perm po hf (by simp)
  simp only [Bool.not_true, Bool.false_eq_true, if_false, Option.bind_some, Sum.elim_inl, gleaninglaw32_SearchMerged_k0, find_all l q hf, back_loop l hf.len, gleaninglaw32_SearchMerged_k1, find_all _ q fr, all_perm pr, h1, gleaninglaw32_SearchMerged_k3, find_all _ q fo, all_perm po, sameT_spec _ (show (allF l q).length ≤ 1000000 by omega), if_true, count_spec l q hf, beq_self_eq_true]
end Go.Proofs.Ytnhjcpnoadicpaa.Ab
