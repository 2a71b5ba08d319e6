/- Chapter 31: the busiest fewer are the first of the busiest more. -/
import Derived.Test.YtoecalgfdphghaaXQFirst
import Derived.Test.YtoecalgfdphghaaPQuantB
namespace Go.Proofs.Ytoecalgfdphghaa.Ab
open Go Go.RowKit
set_option linter.unusedVariables false
set_option linter.unusedSimpArgs false
theorem okR_wf1 {r : RowG} (h : RowG.wf r) : okR r := by
  have h1 := h.2.2.2.2.1
  have h2 := h.2.2.2.2.2.1
  simp [inI, IntKind.min, IntKind.max, IntKind.signed, IntKind.bits] at h1 h2
  exact ⟨⟨by omega, by omega⟩, ⟨by omega, by omega⟩⟩
def sumI : List Int → Int
  | [] => 0
  | x :: l => x + sumI l
theorem sumI_app : ∀ (a b : List Int), sumI (a ++ b) = sumI a + sumI b
  | [], b => by simp [sumI]
  | x :: a, b => by simp only [List.cons_append, sumI, sumI_app a b]; omega
theorem sumI_perm {a b : List Int} (h : a.Perm b) : sumI a = sumI b := by
  induction h with
  | nil => rfl
  | cons x _ ih => simp only [sumI, ih]
  | swap x y l => simp only [sumI]; omega
  | trans _ _ i1 i2 => exact i1.trans i2
theorem sumI_set : ∀ (m : List Int) (i : Nat) (u v : Int), m[i]? = some u → sumI (m.set i v) = sumI m - u + v
  | [], i, u, v, h => by simp at h
  | x :: m, 0, u, v, h => by
    simp at h; subst h; simp only [List.set_cons_zero, sumI]; omega
  | x :: m, i + 1, u, v, h => by
    have := sumI_set m i u v (by simpa using h)
    simp only [List.set_cons_succ, sumI, this]; omega
theorem sumI_nn : ∀ (m : List Int), (∀ x ∈ m, 0 ≤ x) → 0 ≤ sumI m
  | [], _ => Int.le_refl _
  | x :: m, h => by
    have := sumI_nn m fun y hy => h y (List.mem_cons_of_mem _ hy)
    have := h x List.mem_cons_self
    simp only [sumI]; omega
theorem sumI_mem : ∀ (m : List Int), (∀ x ∈ m, 0 ≤ x) → ∀ x ∈ m, x ≤ sumI m
  | [], _, x, hx => by cases hx
  | y :: m, h, x, hx => by
    have h1 := sumI_nn m fun y hy => h y (List.mem_cons_of_mem _ hy)
    have h2 := h y List.mem_cons_self
    simp only [sumI]
    rcases List.mem_cons.1 hx with rfl | hx'
    · omega
    · have := sumI_mem m (fun y hy => h y (List.mem_cons_of_mem _ hy)) x hx'
      omega
theorem sumI_le (B : Int) : ∀ (m : List Int), (∀ x ∈ m, x ≤ B) → sumI m ≤ B * (m.length : Int)
  | [], _ => by simp [sumI]
  | x :: m, h => by
    have h1 := sumI_le B m fun y hy => h y (List.mem_cons_of_mem _ hy)
    have h2 := h x List.mem_cons_self
    simp only [sumI, List.length_cons, Int.natCast_add, Int.mul_add]
    omega
def cnt1 (r : RowG) : Int := r.Counter.Count
theorem addB_sum {l : List Busy} {r : RowG} (hl : ∀ x ∈ l, okB x) (h0 : 0 ≤ cnt1 r) (hb : sumI (l.map (·.Count)) + cnt1 r ≤ 9223372036854775807) : sumI ((addB l r).map (·.Count)) = sumI (l.map (·.Count)) + cnt1 r := by
  have hnn : ∀ x ∈ l.map (·.Count), (0 : Int) ≤ x := fun x hx => by
    obtain ⟨y, hy, rfl⟩ := List.mem_map.1 hx
    exact (hl y hy).1.1
  by_cases hf : l.findIdx (sameKey r) < l.length
  · obtain ⟨x, hx, ha⟩ := addB_old hf
    have hxm := List.mem_of_getElem? hx
    have h1 := (hl x hxm).1.1
    have h2 : x.Count ≤ sumI (l.map (·.Count)) := sumI_mem _ hnn _ (List.mem_map.2 ⟨x, hxm, rfl⟩)
    have h3 : (moreB x r).Count = x.Count + cnt1 r := satp_add h1 h0 (by show x.Count + r.Counter.Count ≤ _; unfold cnt1 at hb; omega)
    rw [ha, List.map_set, sumI_set _ _ x.Count _ (by rw [List.getElem?_map, hx]; rfl), h3]
    omega
  · have h3 : (moreB (freshB r) r).Count = 0 + cnt1 r := satp_add (Int.le_refl _) h0 (by
      have := sumI_nn _ hnn
      show (0 : Int) + r.Counter.Count ≤ _
      unfold cnt1 at hb
      omega)
    rw [addB_new hf, List.map_append, sumI_app, List.map_cons, List.map_nil, h3]
    simp only [sumI]; omega
theorem fold_sum : ∀ (rs : List RowG) (l : List Busy), (∀ x ∈ l, okB x) → (∀ r ∈ rs, okR r ∧ 0 ≤ cnt1 r) → sumI (l.map (·.Count)) + sumI (rs.map cnt1) ≤ 9223372036854775807 → sumI ((rs.foldl addB l).map (·.Count)) = sumI (l.map (·.Count)) + sumI (rs.map cnt1)
  | [], l, _, _, _ => by simp [sumI]
  | r :: rs, l, hl, hr, hb => by
    have h0 := (hr r List.mem_cons_self).2
    have hnn : 0 ≤ sumI (rs.map cnt1) := sumI_nn _ fun x hx => by
      obtain ⟨y, hy, rfl⟩ := List.mem_map.1 hx
      exact (hr y (List.mem_cons_of_mem _ hy)).2
    simp only [List.map_cons, sumI] at hb ⊢
    have h1 := addB_sum hl h0 (by omega)
    rw [List.foldl_cons, fold_sum rs (addB l r) (addB_ok hl (hr r List.mem_cons_self).1) (fun x hx => hr x (List.mem_cons_of_mem _ hx)) (by omega), h1]
    omega
def sumL (level : Int) (l : List RowG) : Int := sumI ((l.filter (atL level)).map cnt1)
theorem sumL_succ (level : Int) (l : List RowG) (k : Nat) (hk : k < l.length) : sumL level (l.take (k + 1)) = if atL level l[k] = true then sumL level (l.take k) + cnt1 l[k] else sumL level (l.take k) := by
  unfold sumL
  rw [List.take_succ_eq_append_getElem hk, List.filter_append, List.map_append, sumI_app]
  cases h : atL level l[k] <;> simp [h, sumI]
theorem sumL_bound (level : Int) (l : List RowG) (h : ∀ r ∈ l, 0 ≤ cnt1 r ∧ cnt1 r ≤ 1099511627776) (hl : l.length ≤ 80) : 0 ≤ sumL level l ∧ sumL level l ≤ 87960930222080 := by
  refine ⟨sumI_nn _ fun x hx => ?_, ?_⟩
  · obtain ⟨y, hy, rfl⟩ := List.mem_map.1 hx
    exact (h y (List.mem_filter.1 hy).1).1
  · have h1 := sumI_le 1099511627776 ((l.filter (atL level)).map cnt1) fun x hx => by
      obtain ⟨y, hy, rfl⟩ := List.mem_map.1 hx
      exact (h y (List.mem_filter.1 hy).1).2
    have h2 := List.length_filter_le (atL level) l
    rw [List.length_map] at h1
    unfold sumL
    omega
def badR (r : RowG) : Bool := decide ((60 : Int) < (r.Service.size : Int)) || (decide ((60 : Int) < (r.Op.size : Int)) || (decide (cnt1 r < 0) || decide ((1099511627776 : Int) < cnt1 r)))
theorem badR_ok {r : RowG} (h : badR r = false) : 0 ≤ cnt1 r ∧ cnt1 r ≤ 1099511627776 := by
  simp only [badR, Bool.or_eq_false_iff, decide_eq_false_iff_not] at h
  omega
theorem rows_loop (l : List RowG) (level : Int) (hl : l.length ≤ 80) : loopN (fun (s : Int × Int) => gleaninglaw31_QuantFirst_l2 l level s.1 s.2) Fu (0, 0) = some (if l.any badR = true then .inr true else .inl (sumL level l)) := by
  have h := loop_write (body := fun (s : Int × Int) => gleaninglaw31_QuantFirst_l2 l level s.1 s.2) (l := l) badR (fun k => (sumL level (l.take k), (k : Int))) (Sum.inl (sumL level l)) (Sum.inr true) (by omega)
    (fun k hk hb h => by
      have hok := badR_ok h
      simp only [badR, Bool.or_eq_false_iff, decide_eq_false_iff_not] at h
      obtain ⟨b1, b2, b3, b4⟩ := h
      have hs := sumL_bound level (l.take k) (fun r hr => badR_ok (hb r hr)) (by rw [List.length_take]; omega)
      rw [sumL_succ level l k hk]
      unfold cnt1 at *
      simp only [gleaninglaw31_QuantFirst_l2, dec_t (by omega : (k : Int) < (l.length : Int)), if_true, gd_pos (by omega : (0 : Int) ≤ (k : Int)), Int.toNat_natCast, List.getElem?_eq_getElem hk, Option.bind_some, dec_f b1, dec_f b2, dec_f b3, dec_f b4, Bool.false_eq_true, if_false, Sum.elim_inl, gleaninglaw31_QuantFirst_k3, ksuccQ (by omega : k < 1099511627776)]
      by_cases hv : l[k].Level = level
      · rw [show (l[k].Level == level) = true from by simp [hv], ite_tt, if_pos (by simp [atL, hv]), w64 (by omega) (by omega)]
      · rw [show (l[k].Level == level) = false from by simp [hv], ite_ff, if_neg (by simp [atL, hv])])
    (fun k hk _ h => by
      simp only [gleaninglaw31_QuantFirst_l2, dec_t (by omega : (k : Int) < (l.length : Int)), if_true, gd_pos (by omega : (0 : Int) ≤ (k : Int)), Int.toNat_natCast, List.getElem?_eq_getElem hk, Option.bind_some]
      by_cases h1 : (60 : Int) < (l[k].Service.size : Int)
      · simp only [dec_t h1, if_true, Option.bind_some, Sum.elim_inr]
      by_cases h2 : (60 : Int) < (l[k].Op.size : Int)
      · simp only [dec_f h1, dec_t h2, Bool.false_eq_true, if_false, if_true, Option.bind_some, Sum.elim_inr]
      by_cases h3 : l[k].Counter.Count < 0
      · simp only [dec_f h1, dec_f h2, dec_t h3, Bool.false_eq_true, if_false, if_true, Option.bind_some, Sum.elim_inr]
      by_cases h4 : (1099511627776 : Int) < l[k].Counter.Count
      · simp only [dec_f h1, dec_f h2, dec_f h3, dec_t h4, Bool.false_eq_true, if_false, if_true, Option.bind_some, Sum.elim_inr]
      · simp [badR, cnt1, h1, h2, h3, h4] at h)
    (fun _ => by simp only [gleaninglaw31_QuantFirst_l2, dec_f (by omega : ¬ (l.length : Int) < (l.length : Int)), Bool.false_eq_true, if_false, List.take_length])
  simpa [sumL, sumI] using h
theorem all_loop (s : List Busy) (S : Int) (hs : S = sumI (s.map (·.Count))) (hn : ∀ x ∈ s, 0 ≤ x.Count) (hS : S ≤ 87960930222080) (hl : s.length ≤ 80) (ho : s.Pairwise (fun a b => ¬ busier b a)) (hk : s.Pairwise (fun a b => keyB a ≠ keyB b)) :
    loopN (fun (q : Int × Int) => gleaninglaw31_QuantFirst_l5 s q.1 q.2) Fu (S, 0) = some true := by
  have hsum : ∀ k, sumI ((s.take k).map (·.Count)) + sumI ((s.drop k).map (·.Count)) = S := fun k => by
    rw [← sumI_app, ← List.map_append, List.take_append_drop, hs]
  have hnn : ∀ m : List Busy, (∀ x ∈ m, x ∈ s) → 0 ≤ sumI (m.map (·.Count)) := fun m hm => sumI_nn _ fun x hx => by
    obtain ⟨y, hy, rfl⟩ := List.mem_map.1 hx
    exact hn y (hm y hy)
  refine loop_list (l := s) (fun k r q => q = (sumI ((s.drop k).map (·.Count)), (k : Int)) ∧ r = true) (by omega) ?_ ?_ ⟨by rw [List.drop_zero, ← hs]; rfl, rfl⟩
  · rintro k hk2 r q ⟨rfl, rfl⟩
    refine .inl ⟨(sumI ((s.drop (k + 1)).map (·.Count)), ((k + 1 : Nat) : Int)), ?_, rfl, rfl⟩
    have hd : sumI ((s.drop k).map (·.Count)) = s[k].Count + sumI ((s.drop (k + 1)).map (·.Count)) := by rw [List.drop_eq_getElem_cons hk2, List.map_cons, sumI]
    have h1 := hsum k
    have h2 := hnn (s.take k) fun x hx => List.mem_of_mem_take hx
    have h3 := hnn (s.drop (k + 1)) fun x hx => List.mem_of_mem_drop hx
    have h4 := hn s[k] (List.getElem_mem hk2)
    have hw : IntKind.i64.wrap (sumI ((s.drop k).map (·.Count)) - s[k].Count) = sumI ((s.drop (k + 1)).map (·.Count)) := by rw [w64 (by omega) (by omega)]; omega
    simp only [gleaninglaw31_QuantFirst_l5, dec_t (by omega : (k : Int) < (s.length : Int)), if_true, gd_pos (by omega : (0 : Int) ≤ (k : Int)), Int.toNat_natCast, List.getElem?_eq_getElem hk2, Option.bind_some, hw, ksuccQ (by omega : k < 1099511627776)]
    by_cases h0 : (0 : Int) < (k : Int)
    · have hk1 : k - 1 < s.length := by omega
      have e1 : IntKind.i64.wrap ((k : Int) - 1) = ((k - 1 : Nat) : Int) := by rw [w64 (by omega) (by omega)]; omega
      have p1 := List.pairwise_iff_getElem.1 ho (k - 1) k hk1 hk2 (by omega)
      have p2 := List.pairwise_iff_getElem.1 hk (k - 1) k hk1 hk2 (by omega)
      have c1 : ¬ s[k - 1].Count < s[k].Count := fun h => p1 (.inl h)
      simp only [dec_t h0, if_true, e1, gd_pos (by omega : (0 : Int) ≤ ((k - 1 : Nat) : Int)), Int.toNat_natCast, List.getElem?_eq_getElem hk1, Option.bind_some, dec_f c1, Bool.false_eq_true, if_false, str_beq]
      by_cases q1 : s[k].Service = s[k - 1].Service
      · have q2 : ¬ s[k].Op = s[k - 1].Op := fun h => p2 (by simp [keyB, q1, h])
        rw [dec_t q1, ite_tt, dec_f q2, ite_ff]
      · rw [dec_f q1, ite_ff]
    · rw [dec_f h0, ite_ff]
  · rintro r q ⟨rfl, rfl⟩
    simp only [gleaninglaw31_QuantFirst_l5, dec_f (by omega : ¬ (s.length : Int) < (s.length : Int)), Bool.false_eq_true, if_false, List.drop_length]
    rfl
theorem quantFirst_true (l : List RowG) (level n m : Int) (hw : l.length ≤ maxLen ∧ ∀ y ∈ l, RowG.wf y) (_ : inI .i64 level) (_ : inI .i64 n) (_ : inI .i64 m) : gleaninglaw31_QuantFirst l level n m = some true := by
  simp only [gleaninglaw31_QuantFirst, alive31, Option.bind_some, Bool.not_true, Bool.false_eq_true, if_false]
  by_cases hb : (80 : Int) < (l.length : Int)
  · simp [hb]
  by_cases h0 : n < 0
  · simp [hb, h0]
  by_cases h1 : m < n
  · simp [hb, h0, h1]
  have hr : ∀ r ∈ l, okR r := fun r h => okR_wf1 (hw.2 r h)
  simp only [hb, h0, h1, decide_false, Bool.false_eq_true, if_false, Option.bind_some, Sum.elim_inl]
  rw [gleaninglaw31_QuantFirst_k0, rows_loop l level (by omega), Option.bind_some]
  split
  · rfl
  · rename_i hany
    have hgood : ∀ r ∈ l, 0 ≤ cnt1 r ∧ cnt1 r ≤ 1099511627776 := fun r hr' => badR_ok (by
      cases hq : badR r with
      | false => rfl
      | true => exact absurd (List.any_eq_true.2 ⟨r, hr', hq⟩) hany)
    obtain ⟨hok, hM⟩ := accB_ok level l hr
    have sl : (srt (accB level l)).length = (accB level l).length := srt_len _
    have la : (busyF l level n).length = cut n (accB level l).length := by
      have := cut_le n (accB level l).length
      simp only [busyF, List.length_take, sl]; omega
    have lb : (busyF l level m).length = cut m (accB level l).length := by
      have := cut_le m (accB level l).length
      simp only [busyF, List.length_take, sl]; omega
    have hall : busyF l level (l.length : Int) = srt (accB level l) := by
      unfold busyF
      rw [List.take_of_length_le]
      rw [sl]; unfold cut
      split
      · omega
      · split <;> omega
    have cn : cut n (accB level l).length = if ((accB level l).length : Int) < n then (accB level l).length else n.toNat := by unfold cut; rw [if_neg h0]
    have cm : cut m (accB level l).length = if ((accB level l).length : Int) < m then (accB level l).length else m.toNat := by unfold cut; rw [if_neg (by omega)]
    have hle : cut n (accB level l).length ≤ cut m (accB level l).length := by rw [cn, cm]; split <;> split <;> omega
    have hcn : (cut n (accB level l).length : Int) ≤ n := by rw [cn]; split <;> omega
    have htake : (busyF l level m).take (busyF l level n).length = busyF l level n := by
      rw [la]; unfold busyF; rw [List.take_take, Nat.min_eq_left hle]
    have hlast : (cut n (accB level l).length : Int) < n → cut m (accB level l).length = cut n (accB level l).length := by
      rw [cn, cm]; split <;> split <;> omega
    rw [Sum.elim_inl, gleaninglaw31_QuantFirst_k1, busy_spec l level n (by omega) hr, Option.bind_some, busy_spec l level m (by omega) hr, Option.bind_some, busy_spec l level _ (by omega) hr, Option.bind_some, hall]
    rw [dec_f (by rw [la]; omega), ite_ff, dec_f (by rw [la, lb]; omega), ite_ff, gd_pos (by omega), gd_pos (by rw [la, lb]; omega), Int.toNat_natCast, htake, same_spec _ (by rw [la]; have := cut_le n (accB level l).length; omega), Option.bind_some, Bool.not_true, ite_ff]
    have hstep : (if decide (((busyF l level n).length : Int) < n) = true then (if decide (((busyF l level n).length : Int) < ((busyF l level m).length : Int)) = true then some (Sum.inr false) else some (Sum.inl ())) else some (Sum.inl () : Unit ⊕ Bool)) = some (Sum.inl ()) := by
      by_cases hq : ((busyF l level n).length : Int) < n
      · rw [dec_t hq, ite_tt, dec_f (by rw [la] at hq ⊢; rw [lb, hlast hq]; omega), ite_ff]
      · rw [dec_f hq, ite_ff]
    rw [hstep, Option.bind_some, Sum.elim_inl, gleaninglaw31_QuantFirst_k4]
    have hb1 := sumL_bound level l hgood (by omega)
    refine all_loop _ _ ?_ (fun x hx => (hok x ((srt_perm _).mem_iff.1 hx)).1.1) hb1.2 (by rw [sl]; omega) (srt_sorted _) ((srt_perm _).symm.pairwise (accB_keys level l) fun h => h.symm)
    have hf := fold_sum (l.filter (atL level)) [] (by simp) (fun r h => ⟨hr r (List.mem_filter.1 h).1, (hgood r (List.mem_filter.1 h).1).1⟩) (by
      show (0 : Int) + sumL level l ≤ _
      omega)
    rw [sumI_perm ((srt_perm (accB level l)).map (·.Count))]
    unfold accB
    rw [hf]
    show sumL level l = 0 + sumL level l
    omega
end Go.Proofs.Ytoecalgfdphghaa.Ab
