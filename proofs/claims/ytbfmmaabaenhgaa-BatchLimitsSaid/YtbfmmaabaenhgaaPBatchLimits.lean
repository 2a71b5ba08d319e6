/- Chapter 4: how many spans a batch has, and that one that can't be spoils all. -/
import Derived.Test.YtbfmmaabaenhgaaXBLim
import Derived.Test.YtbfmmaabaenhgaaPBatchA
namespace Go.Proofs.Ytbfmmaabaenhgaa.Ab
open Go Go.RowKit
set_option linter.unusedVariables false
set_option linter.unusedSimpArgs false
theorem limit_rows (n : Nat) (hn : n ≤ 60) (s z : Span) : loopN (fun (q : List Span × Int) => gleaninglaw4_BatchLimits_l2 (n : Int) s q.1 q.2) Fu (List.replicate n z, 0) = some (List.replicate n s) := by
  refine loop_list (l := List.range n) (fun k r q => q = (List.replicate k s ++ List.replicate (n - k) z, (k : Int)) ∧ r = List.replicate n s) (by simp; omega) ?_ ?_ ⟨by simp, rfl⟩
  · rintro k hk r q ⟨rfl, rfl⟩
    have hk' : k < n := by simpa using hk
    refine .inl ⟨(List.replicate (k + 1) s ++ List.replicate (n - (k + 1)) z, ((k + 1 : Nat) : Int)), ?_, rfl, rfl⟩
    have hget : (List.replicate k s ++ List.replicate (n - k) z)[k]? = some z := by
      rw [List.getElem?_append_right (by simp), List.length_replicate, Nat.sub_self, List.getElem?_replicate, if_pos (by omega)]
    simp only [gleaninglaw4_BatchLimits_l2, dec_t (by omega : (k : Int) < (n : Int)), if_true, gd_pos (by omega : (0 : Int) ≤ (k : Int)), Int.toNat_natCast, hget, Option.bind_some, ksuc (by omega : k < 1099511627776)]
    rw [List.set_append_right _ _ (by simp), List.length_replicate, Nat.sub_self, show n - k = (n - (k + 1)) + 1 by omega, List.replicate_succ, List.set_cons_zero, List.replicate_succ', List.append_assoc]
    rfl
  · rintro r q ⟨rfl, rfl⟩
    simp only [List.length_range, gleaninglaw4_BatchLimits_l2, dec_f (by omega : ¬ (n : Int) < (n : Int)), Bool.false_eq_true, if_false, Nat.sub_self, List.replicate_zero, List.append_nil]
theorem batchLimits_true (n : Int) (s : Span) (at_ : Int) (_ : inI .i64 n) (hs : Span.wf s) (_ : inI .i64 at_) : gleaninglaw4_BatchLimits n s at_ = some true := by
  simp only [gleaninglaw4_BatchLimits, alive4, Option.bind_some, Bool.not_true, Bool.false_eq_true, if_false, xright_spec]
  by_cases h1 : n < 0
  · simp [h1]
  by_cases h2 : (60 : Int) < n
  · simp [h1, h2]
  cases hr : rightS s with
  | false => simp [h1, h2]
  | true =>
  by_cases h3 : at_ < 0
  · simp [h1, h2, h3]
  simp only [h1, h2, h3, decide_false, Bool.not_true, Bool.false_eq_true, if_false, Option.bind_some, Sum.elim_inl, gleaninglaw4_BatchLimits_k0]
  obtain ⟨m, rfl⟩ := Int.eq_ofNat_of_zero_le (by omega : 0 ≤ n)
  obtain ⟨c, rfl⟩ := Int.eq_ofNat_of_zero_le (by omega : 0 ≤ at_)
  have ws := wfS_of hs
  have hw : ∀ x ∈ List.replicate m s, wfS x := fun x hx => by rw [(List.mem_replicate.1 hx).2]; exact ws
  have hle := batchB_le hw
  rw [gd_pos (by omega), Int.toNat_natCast, limit_rows m (by omega) s _, Option.bind_some, gleaninglaw4_BatchLimits_k1, batch_spec _ hw, Option.bind_some, (bread_spec _ (by omega)).1, Option.bind_some]
  have hk3 : gleaninglaw4_BatchLimits_k3 (m : Int) (c : Int) (List.replicate m s) = some true := by
    rw [gleaninglaw4_BatchLimits_k3]
    by_cases hm : m = 0
    · subst hm; rfl
    have hlt := Nat.mod_lt c (by omega : 0 < m)
    have hmod : Int.tmod (c : Int) (m : Int) = ((c % m : Nat) : Int) := by rw [Int.tmod_eq_emod_of_nonneg (by omega)]; rfl
    have hget : (List.replicate m s)[c % m]? = some s := by rw [List.getElem?_replicate, if_pos hlt]
    have hset : ∀ x ∈ (List.replicate m s).set (c % m) (Span.mk s.Trace s.Id s.Parent (strOf []) s.Op s.Start s.Dur s.Err s.Attrs), wfS x := fun x hx => by
      rcases List.mem_or_eq_of_mem_set hx with hx | hx
      · exact hw x hx
      · subst hx; exact ws
    have hbad : rightL ((List.replicate m s).set (c % m) (Span.mk s.Trace s.Id s.Parent (strOf []) s.Op s.Start s.Dur s.Err s.Attrs)) = false := by
      have : ((List.replicate m s).set (c % m) (Span.mk s.Trace s.Id s.Parent (strOf []) s.Op s.Start s.Dur s.Err s.Attrs)).all rightS = false := by
        rw [List.all_eq_false]
        refine ⟨_, List.mem_set (i := c % m) (by rw [List.length_replicate]; exact hlt) _, ?_⟩
        have h0 : nameB (strOf []) = false := by decide +kernel
        simp [rightS, h0]
      rw [rightL, this, Bool.and_false]
    rw [show (((m : Int)) == 0) = false from by rw [beq_eq_false_iff_ne]; omega, ite_ff, gd_pos (by omega), hmod, gd_pos (by omega), Int.toNat_natCast, hget, Option.bind_some, batch_spec _ hset, Option.bind_some, batchB, hbad]
    rfl
  by_cases hm : m = 0
  · subst hm
    have h0 : batchB (List.replicate 0 s) = [] := rfl
    have hc : codeB [] = ([], 2) := rfl
    rw [h0, hc]
    simp only [dec_f (by omega : ¬ (1 : Int) ≤ ((0 : Nat) : Int)), Bool.false_eq_true, if_false, List.length_nil, Int.natCast_zero, dec_f (by omega : ¬ (0 : Int) < 0), beq_self_eq_true, Bool.not_true, gleaninglaw4_num, Option.bind_some, (by decide : ((2 : Int) == 0) = false), Sum.elim_inl]
    exact hk3
  have hall : (List.replicate m s).all rightS = true := by
    rw [List.all_eq_true]; intro x hx; rw [(List.mem_replicate.1 hx).2]; exact hr
  by_cases h50 : m ≤ 50
  · have hR : rightL (List.replicate m s) = true := by
      rw [rightL, hall, List.length_replicate, dec_t (by omega), dec_t h50]; rfl
    have hp := batchB_pos hR
    rw [codeB_put hR hw]
    simp only [dec_t (by omega : (1 : Int) ≤ (m : Int)), if_true, dec_t (by omega : (0 : Int) < ((batchB (List.replicate m s)).length : Int)), dec_t (by omega : (m : Int) ≤ 50), beq_self_eq_true, Bool.not_true, Bool.false_eq_true, if_false, gleaninglaw4_num, Option.bind_some, List.length_replicate, bne_self_eq_false, Sum.elim_inl]
    exact hk3
  · have hR : rightL (List.replicate m s) = false := by
      rw [rightL, List.length_replicate, dec_f h50, Bool.and_false, Bool.false_and]
    have h0 : batchB (List.replicate m s) = [] := by rw [batchB, hR]; rfl
    have hc : codeB [] = ([], 2) := rfl
    rw [h0, hc]
    simp only [dec_t (by omega : (1 : Int) ≤ (m : Int)), if_true, List.length_nil, Int.natCast_zero, dec_f (by omega : ¬ (0 : Int) < 0), dec_f (by omega : ¬ (m : Int) ≤ 50), beq_self_eq_true, Bool.not_true, Bool.false_eq_true, if_false, gleaninglaw4_num, Option.bind_some, (by decide : ((2 : Int) == 0) = false), Sum.elim_inl]
    exact hk3
end Go.Proofs.Ytbfmmaabaenhgaa.Ab
