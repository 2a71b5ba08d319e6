/- Chapter 31: a quantile of sorted durations. -/
import Derived.Test.YtmhbopjjkgjbnaaXQSorts
import Derived.Test.YtmhbopjjkgjbnaaPQuant1
namespace Go.Proofs.Ytmhbopjjkgjbnaa.Ab
open Go Go.RowKit
set_option linter.unusedVariables false
set_option linter.unusedSimpArgs false

theorem get8s (f : Nat → Int) (k : Nat) (hk : k < 8) : ([f 0, f 1, f 2, f 3, f 4, f 5, f 6, f 7] : List Int)[k]? = some (f k) := by
  match k, hk with
  | 0, _ => rfl
  | 1, _ => rfl
  | 2, _ => rfl
  | 3, _ => rfl
  | 4, _ => rfl
  | 5, _ => rfl
  | 6, _ => rfl
  | 7, _ => rfl
theorem set8s (f : Nat → Int) (k : Nat) (v : Int) (hk : k < 8) (j : Nat) (hj : j < 8) : (List.set [f 0, f 1, f 2, f 3, f 4, f 5, f 6, f 7] k v).getD j 0 = if j = k then v else f j := by
  have h := get8s f j hj
  rw [List.getD_eq_getElem?_getD, List.getElem?_set]
  by_cases e : k = j
  · subst e; rw [if_pos rfl, if_pos (by simpa using hk), if_pos rfl]; rfl
  · rw [if_neg e, h, if_neg (fun x => e x.symm)]; rfl
/-- a counter, told by a function -/
def ctr (a b : Int) (f : Nat → Int) : Counter := Counter.mk a b (Arr8_Int.mk (f 0) (f 1) (f 2) (f 3) (f 4) (f 5) (f 6) (f 7))
theorem sum_spec {a b : Int} (ha : 0 ≤ a) (hb : 0 ≤ b) (h : a + b ≤ 1000) : gleaningref1_sum a b 1000 = some (a + b) := by
  unfold gleaningref1_sum
  have e : gleaningref1_Cap 1000 0 9223372036854775807 = some 1000 := by decide
  have e2 : ∀ x : Int, 0 ≤ x → x ≤ 1000 → gleaningref1_Cap x 0 1000 = some x := fun x h0 h1 => by rw [cap_spec, if_neg (by omega), if_neg (by omega)]
  rw [e, Option.bind_some, e2 a ha (by omega), Option.bind_some, e2 b hb (by omega), Option.bind_some, w64 (n := 1000 - a) (by omega) (by omega), ite_f (dec_f (by omega)), w64 (by omega) (by omega)]
theorem join_spec (a b a' b' : Int) (f g : Nat → Int) (ha : 0 ≤ a ∧ 0 ≤ a' ∧ a + a' ≤ 1000) (hb : 0 ≤ b ∧ 0 ≤ b' ∧ b + b' ≤ 1000) (hf : ∀ k, 0 ≤ f k ∧ 0 ≤ g k ∧ f k + g k ≤ 1000) :
    gleaningref1_JoinCounter (ctr a b f) (ctr a' b' g) 1000 = some (ctr (a + a') (b + b') (fun k => f k + g k)) := by
  unfold gleaningref1_JoinCounter
  rw [show (ctr a b f).Count = a from rfl, show (ctr a' b' g).Count = a' from rfl, show (ctr a b f).Errs = b from rfl, show (ctr a' b' g).Errs = b' from rfl, sum_spec ha.1 ha.2.1 ha.2.2, sum_spec hb.1 hb.2.1 hb.2.2]
  simp only [Option.bind_some]
  let h : Nat → Nat → Int := fun k j => if j < k then f j + g j else 0
  refine loop_fu (fun n s r => ∃ k, k ≤ 8 ∧ n = 8 - k ∧ s = (h k 0, h k 1, h k 2, h k 3, h k 4, h k 5, h k 6, h k 7, (k : Int)) ∧ r = ctr (a + a') (b + b') (fun k => f k + g k)) ?_ (n := 8) ⟨0, by omega, rfl, rfl, rfl⟩ (by decide)
  rintro n s r ⟨k, hk, rfl, rfl, rfl⟩
  by_cases e : k = 8
  · subst e
    exact .inr rfl
  refine .inl ?_
  have hk8 : k < 8 := by omega
  have g1 := get8s f k hk8
  have g2 := get8s g k hk8
  have g3 := get8s (h k) k hk8
  have s1 := set8s (h k) k (f k + g k) hk8
  have n1 : ∀ j, (if j = k then f k + g k else h k j) = h (k + 1) j := fun j => by
    show _ = if j < k + 1 then f j + g j else 0
    by_cases h1 : j = k
    · subst h1; rw [if_pos rfl, if_pos (by omega)]
    · rw [if_neg h1]
      show (if j < k then f j + g j else 0) = _
      by_cases h2 : j < k
      · rw [if_pos h2, if_pos (by omega)]
      · rw [if_neg h2, if_neg (by omega)]
  have hs := sum_spec (hf k).1 (hf k).2.1 (hf k).2.2
  refine ⟨(h (k + 1) 0, h (k + 1) 1, h (k + 1) 2, h (k + 1) 3, h (k + 1) 4, h (k + 1) 5, h (k + 1) 6, h (k + 1) 7, ((k + 1 : Nat) : Int)), 8 - (k + 1), ?_, by omega, k + 1, by omega, rfl, rfl, rfl⟩
  dsimp only [gleaningref1_JoinCounter_l0, ctr]
  rw [ite_t (dec_t (by omega : (k : Int) < 8)), Int.toNat_natCast]
  simp only [gd_pos (by omega : (0 : Int) ≤ (k : Int)), gd_pos (by omega : (k : Int) < 8), Option.bind_some, g1, g2, g3, hs, ksuccQ (by omega : k < 1099511627776)]
  rw [s1 0 (by omega), s1 1 (by omega), s1 2 (by omega), s1 3 (by omega), s1 4 (by omega), s1 5 (by omega), s1 6 (by omega), s1 7 (by omega), n1 0, n1 1, n1 2, n1 3, n1 4, n1 5, n1 6, n1 7]
theorem add_spec (a b : Int) (f : Nat → Int) (d : Int) (ha : 0 ≤ a ∧ a ≤ 900) (hb : 0 ≤ b ∧ b ≤ 900) (hf : ∀ k, 0 ≤ f k ∧ f k ≤ 900) :
    gleaningref1_AddCounter (ctr a b f) (Span.mk (Trace.mk 0 0) 0 0 (strOf []) (strOf []) 0 d false []) 1000 = some (ctr (a + 1) b (fun k => f k + (if k = ofN d then 1 else 0))) := by
  have h8 : ofN d < 8 := by have := ofN_le d; omega
  have hg := get8s (fun _ => 0) (ofN d) h8
  have hs := set8s (fun _ => 0) (ofN d) 1 h8
  unfold gleaningref1_AddCounter
  dsimp only at hg hs ⊢
  rw [of_spec, Option.bind_some, gd_pos (by omega), gd_pos (by omega), Int.toNat_natCast, hg, Option.bind_some]
  simp only [Option.bind_some, Bool.false_eq_true, if_false, gleaningref1_AddCounter_k0]
  rw [hs 0 (by omega), hs 1 (by omega), hs 2 (by omega), hs 3 (by omega), hs 4 (by omega), hs 5 (by omega), hs 6 (by omega), hs 7 (by omega)]
  have := join_spec a b 1 0 f (fun k => if k = ofN d then 1 else 0) ⟨ha.1, by decide, by omega⟩ ⟨hb.1, by decide, by omega⟩ (fun k => by have := hf k; split <;> omega)
  rw [show ctr 1 0 (fun k => if k = ofN d then 1 else 0) = Counter.mk 1 0 (Arr8_Int.mk (if 0 = ofN d then 1 else 0) (if 1 = ofN d then 1 else 0) (if 2 = ofN d then 1 else 0) (if 3 = ofN d then 1 else 0) (if 4 = ofN d then 1 else 0) (if 5 = ofN d then 1 else 0) (if 6 = ofN d then 1 else 0) (if 7 = ofN d then 1 else 0)) from rfl, Int.add_zero] at this
  rw [this]; rfl
/-- how many are in a bucket -/
def inB (l : List Int) (k : Nat) : Int := ((l.filter (fun x => ofN x == k)).length : Int)
def srt (l : List Int) : Prop := l.Pairwise (fun a b => a ≤ b)
/-- a place among what is sorted: all ahead are no greater, all behind are greater -/
theorem srt_ins {l : List Int} {x : Int} {k : Nat} (h : srt l) (h1 : ∀ y ∈ l.take k, y ≤ x) (h2 : ∀ y ∈ l.drop k, x ≤ y) : srt (l.take k ++ [x] ++ l.drop k) := by
  have h0 : srt (l.take k ++ l.drop k) := by rw [List.take_append_drop]; exact h
  unfold srt at *
  rw [List.pairwise_append] at h0
  obtain ⟨a1, a2, a3⟩ := h0
  rw [List.pairwise_append, List.pairwise_append]
  refine ⟨⟨a1, by simp, fun y hy z hz => by rw [List.mem_singleton.1 hz]; exact h1 y hy⟩, a2, fun y hy z hz => ?_⟩
  rcases List.mem_append.1 hy with hy | hy
  · exact a3 y hy z hz
  · rw [List.mem_singleton.1 hy]; exact h2 z hz
theorem srt_get {l : List Int} (h : srt l) {i j : Nat} (hij : i ≤ j) (hj : j < l.length) : l[i]'(by omega) ≤ l[j] := by
  by_cases e : i = j
  · subst e; exact Int.le_refl _
  · exact (List.pairwise_iff_getElem.1 h) i j (by omega) hj (by omega)
theorem ins_loop (durs l : List Int) (i : Nat) (hi : i < durs.length) (hl : l.length ≤ 1000) (hs : srt l) : ∃ k : Nat, loopN (fun (s : Int) => gleaninglaw31_QuantSorts_l4 durs l (i : Int) s) Fu (l.length : Int) = some (k : Int) ∧ k ≤ l.length ∧ srt (l.take k ++ [durs[i]] ++ l.drop k) := by
  have : ∃ r, loopN (fun (s : Int) => gleaninglaw31_QuantSorts_l4 durs l (i : Int) s) Fu (l.length : Int) = some r ∧ ∃ k : Nat, r = (k : Int) ∧ k ≤ l.length ∧ (∀ y ∈ l.take k, y ≤ durs[i]) ∧ (∀ y ∈ l.drop k, durs[i] ≤ y) := by
    refine loop_inv (fun n (s : Int) => ∃ k : Nat, k ≤ l.length ∧ n = k ∧ s = (k : Int) ∧ (∀ y ∈ l.drop k, durs[i] ≤ y)) _ ?_ Fu l.length _ ⟨l.length, Nat.le_refl _, rfl, rfl, by simp⟩ (by rw [fu_eq]; omega)
    rintro n s ⟨k, hk, rfl, rfl, hd⟩
    cases n with
    | zero =>
      exact .inr ⟨0, rfl, 0, rfl, by omega, by simp, hd⟩
    | succ k =>
      have hk2 : k < l.length := by omega
      have e1 : IntKind.i64.wrap (((k + 1 : Nat) : Int) - 1) = (k : Int) := by rw [w64 (by omega) (by omega)]; omega
      have hb : gleaninglaw31_QuantSorts_l4 durs l (i : Int) ((k + 1 : Nat) : Int) = if durs[i] < l[k] then some (.inl (k : Int)) else some (.inr ((k + 1 : Nat) : Int)) := by
        simp only [gleaninglaw31_QuantSorts_l4, e1]
        rw [ite_t (dec_t (by omega)), gd_pos (by omega), Int.toNat_natCast, List.getElem?_eq_getElem hk2, Option.bind_some, gd_pos (by omega), Int.toNat_natCast, List.getElem?_eq_getElem hi, Option.bind_some]
        by_cases h : durs[i] < l[k]
        · rw [ite_t (dec_t h), if_pos h]
        · rw [ite_f (dec_f h), if_neg h]
      rw [hb]
      by_cases h : durs[i] < l[k]
      · rw [if_pos h]
        refine .inl ⟨_, k, rfl, by omega, k, by omega, rfl, rfl, fun y hy => ?_⟩
        rw [List.drop_eq_getElem_cons hk2] at hy
        rcases List.mem_cons.1 hy with rfl | hy
        · omega
        · exact hd y hy
      · rw [if_neg h]
        refine .inr ⟨_, rfl, k + 1, rfl, hk, fun y hy => ?_, hd⟩
        obtain ⟨j, hj, rfl⟩ := List.mem_take_iff_getElem.1 hy
        have := srt_get hs (i := j) (j := k) (by omega) hk2
        omega
  obtain ⟨r, h1, k, rfl, h2, h3, h4⟩ := this
  exact ⟨k, h1, h2, srt_ins hs h3 h4⟩
theorem inB_ins (l : List Int) (x : Int) (k j : Nat) : inB (l.take k ++ [x] ++ l.drop k) j = inB l j + (if j = ofN x then 1 else 0) := by
  have h : inB l j = inB (l.take k ++ l.drop k) j := by rw [List.take_append_drop]
  rw [h]
  unfold inB
  simp only [List.filter_append, List.length_append]
  by_cases e : ofN x = j
  · subst e; simp; omega
  · rw [if_neg (fun h => e h.symm)]
    have : [x].filter (fun y => ofN y == j) = [] := by simp [e]
    rw [this]; simp
theorem inB_le (l : List Int) (k : Nat) : 0 ≤ inB l k ∧ inB l k ≤ (l.length : Int) := by
  unfold inB
  have := List.length_filter_le (fun x => ofN x == k) l
  omega
/-- how many are in a bucket, or ahead of it -/
def upB (l : List Int) (k : Nat) : Nat := (l.filter (fun x => decide (ofN x ≤ k))).length
theorem upB_0 (l : List Int) : (upB l 0 : Int) = inB l 0 := by
  unfold upB inB
  congr 2
  apply List.filter_congr
  intro x _
  by_cases h : ofN x = 0 <;> simp [h]
theorem upB_succ (l : List Int) (k : Nat) : (upB l (k + 1) : Int) = (upB l k : Int) + inB l (k + 1) := by
  unfold upB inB
  induction l with
  | nil => rfl
  | cons x r ih =>
    rcases Nat.lt_trichotomy (ofN x) (k + 1) with h | h | h
    · rw [List.filter_cons_of_pos (by simp; omega), List.filter_cons_of_pos (by simp; omega), List.filter_cons_of_neg (by simp; omega)]
      simp only [List.length_cons]; omega
    · rw [List.filter_cons_of_pos (by simp; omega), List.filter_cons_of_neg (by simp; omega), List.filter_cons_of_pos (by simp; omega)]
      simp only [List.length_cons]; omega
    · rw [List.filter_cons_of_neg (by simp; omega), List.filter_cons_of_neg (by simp; omega), List.filter_cons_of_neg (by simp; omega)]
      exact ih
theorem upB_le (l : List Int) (k : Nat) : upB l k ≤ l.length := List.length_filter_le _ l
theorem cum_up (l : List Int) (hl : l.length ≤ 1000) : ∀ k, k < 8 → (((List.range 8).map (inB l)).take (k + 1)).foldl satp 0 = (upB l k : Int)
  | 0, _ => by
    have h := inB_le l 0
    rw [upB_0]
    show satp 0 (inB l 0) = _
    rw [satp_add (Int.le_refl _) h.1 (by omega)]; omega
  | k + 1, hk => by
    have ih := cum_up l hl k (by omega)
    have h := inB_le l (k + 1)
    have h2 := upB_le l k
    have hlt : k + 1 < ((List.range 8).map (inB l)).length := by simp; omega
    rw [List.take_succ_eq_append_getElem hlt, List.foldl_append, ih, upB_succ]
    have e : ((List.range 8).map (inB l))[k + 1] = inB l (k + 1) := by simp
    rw [e]
    show satp _ _ = _
    rw [satp_add (by omega) h.1 (by omega)]
theorem up_sorted {l : List Int} (h : srt l) (k : Nat) : ∀ i (hi : i < l.length), (i < upB l k ↔ ofN l[i] ≤ k) := by
  induction l with
  | nil => intro i hi; cases hi
  | cons x r ih =>
    unfold srt at h
    rw [List.pairwise_cons] at h
    have ih := ih h.2
    intro i hi
    by_cases e : ofN x ≤ k
    · have e2 : upB (x :: r) k = upB r k + 1 := by unfold upB; rw [List.filter_cons_of_pos (by simpa using e)]; rfl
      cases i with
      | zero => simp [e2, e]
      | succ i =>
        have := ih i (by simpa using hi)
        simp only [List.getElem_cons_succ]
        rw [← this]; omega
    · have e3 : ∀ y ∈ r, ¬ ofN y ≤ k := fun y hy hle => e (Nat.le_trans (ofN_mono (h.1 y hy)) hle)
      have e2 : upB (x :: r) k = 0 := by
        unfold upB
        rw [List.filter_cons_of_neg (by simpa using e), List.length_eq_zero_iff, List.filter_eq_nil_iff]
        intro y hy; simpa using e3 y hy
      rw [e2]
      constructor
      · intro h; omega
      · intro hle
        cases i with
        | zero => exact absurd hle e
        | succ i => exact absurd hle (e3 _ (List.getElem_mem (by simpa using hi)))
theorem sorts_end (l : List Int) (p : Int) (a b : Int) (h1 : 1 ≤ l.length) (h2 : l.length ≤ 80) (hs : srt l) (hp0 : 0 ≤ p) (hp : p ≤ 1000) :
    gleaninglaw31_QuantSorts_k1 p a b (inB l 0) (inB l 1) (inB l 2) (inB l 3) (inB l 4) (inB l 5) (inB l 6) (inB l 7) l = some true := by
  have hv : vL (ctr a b (inB l)) = (List.range 8).map (inB l) := rfl
  have hi : ∀ x ∈ (List.range 8).map (inB l), I63 x := fun x hx => by
    obtain ⟨k, _, rfl⟩ := List.mem_map.1 hx
    have := inB_le l k; unfold I63; omega
  have hlen : ((List.range 8).map (inB l)).length = 8 := by simp
  have h7 : upB l 7 = l.length := by
    unfold upB
    rw [List.filter_eq_self.2 (fun x _ => by have := ofN_le x; simpa using this)]
  have hT : tot ((List.range 8).map (inB l)) = (l.length : Int) := by
    have := cum_up l (by omega) 7 (by omega)
    rw [List.take_of_length_le (by simp), h7] at this
    exact this
  have hmul0 : 0 ≤ p * (l.length : Int) := Int.mul_nonneg hp0 (by omega)
  have hmul1 : p * (l.length : Int) ≤ 1000 * (l.length : Int) := Int.mul_le_mul_of_nonneg_right hp (by omega)
  -- the place
  obtain ⟨w, hw1, hw2, hw3, hw4⟩ : ∃ w : Nat, w < l.length ∧ (∀ n : Nat, n ≤ 1000 → (w < n ↔ enough p (l.length : Int) (n : Int) = true)) ∧ (if (decide ((IntKind.i64.wrap ((IntKind.i64.wrap (Int.tdiv (IntKind.i64.wrap ((IntKind.i64.wrap (p * (List.length l : Int))) + 999)) 1000)) - 1)) < 0)) = true then (some (0 : Int)) else (some (IntKind.i64.wrap ((IntKind.i64.wrap (Int.tdiv (IntKind.i64.wrap ((IntKind.i64.wrap (p * (List.length l : Int))) + 999)) 1000)) - 1)))) = some (w : Int) ∧ True := by
    revert hmul0 hmul1
    unfold enough
    generalize p * (l.length : Int) = m
    intro hmul0 hmul1
    rw [w64 (n := m) (by omega) (by omega), w64 (n := m + 999) (by omega) (by omega), Int.tdiv_eq_ediv_of_nonneg (by omega : (0 : Int) ≤ m + 999), w64 (n := (m + 999) / 1000) (by omega) (by omega), w64 (n := (m + 999) / 1000 - 1) (by omega) (by omega)]
    by_cases hm : m = 0
    · subst hm
      refine ⟨0, by omega, fun n hn => ?_, by decide, trivial⟩
      rw [Bool.and_eq_true, decide_eq_true_eq, decide_eq_true_eq]; omega
    · refine ⟨((m + 999) / 1000 - 1).toNat, by omega, fun n hn => ?_, ?_, trivial⟩
      · rw [Bool.and_eq_true, decide_eq_true_eq, decide_eq_true_eq]; omega
      · rw [ite_f (dec_f (by omega))]; congr 1; omega
  have ho := up_sorted hs
  have hk8 : ofN l[w] < 8 := by have := ofN_le l[w]; omega
  have hq : qIdx (enough p (l.length : Int)) ((List.range 8).map (inB l)) 0 = some (ofN l[w]) := by
    refine qIdx_first (by rw [hlen]; exact hk8) ?_ (fun j hj => ?_)
    · rw [cum_up l (by omega) _ hk8]
      exact (hw2 _ (by have := upB_le l (ofN l[w]); omega)).1 ((ho (ofN l[w]) w hw1).2 (Nat.le_refl _))
    · rw [cum_up l (by omega) _ (by omega)]
      cases h : enough p (l.length : Int) (upB l j : Int) with
      | false => rfl
      | true =>
        have := (ho j w hw1).1 ((hw2 _ (by have := upB_le l j; omega)).2 h)
        omega
  have hspec : quant_Quantile (Counter.mk a b (Arr8_Int.mk (inB l 0) (inB l 1) (inB l 2) (inB l 3) (inB l 4) (inB l 5) (inB l 6) (inB l 7))) p = some (low8.getD (ofN l[w]) 0, true) := by
    have := quantile_spec (ctr a b (inB l)) p (by rw [hv]; exact hi)
    rw [hv] at this
    rw [show Counter.mk a b (Arr8_Int.mk (inB l 0) (inB l 1) (inB l 2) (inB l 3) (inB l 4) (inB l 5) (inB l 6) (inB l 7)) = ctr a b (inB l) from rfl, this, qSpec, if_neg (by rw [hT]; omega), hT, hq, resQ, Nat.zero_add]
  have hlow : ([0, 1, 5, 10, 50, 100, 500, 1000] : List Int)[ofN l[w]]? = some (low8.getD (ofN l[w]) 0) := by
    have : ofN l[w] < low8.length := hk8
    rw [show ([0, 1, 5, 10, 50, 100, 500, 1000] : List Int) = low8 from rfl, List.getD_eq_getElem?_getD, List.getElem?_eq_getElem this]; rfl
  unfold gleaninglaw31_QuantSorts_k1
  rw [hw3, Option.bind_some, gleaninglaw31_QuantSorts_k5, hspec, Option.bind_some]
  rw [ite_tt, gd_pos (by omega), Int.toNat_natCast, List.getElem?_eq_getElem hw1, Option.bind_some, of_spec, Option.bind_some, gd_pos (by omega), Int.toNat_natCast, hlow, Option.bind_some]
  simp
set_option maxRecDepth 100000 in
theorem quantSorts_true (durs : List Int) (p : Int) (_ : List.length durs ≤ maxLen ∧ ∀ y ∈ durs, inI .i64 y) (_ : inI .i64 p) : gleaninglaw31_QuantSorts durs p = some true := by
  unfold gleaninglaw31_QuantSorts
  rw [alive31, Option.bind_some]
  by_cases h1 : (durs.length : Int) < 1
  · simp [h1]
  by_cases h2 : (80 : Int) < (durs.length : Int)
  · simp [h1, h2]
  by_cases h3 : p < 0
  · simp [h1, h2, h3]
  by_cases h4 : 1000 < p
  · simp [h1, h2, h3, h4]
  simp only [h1, h2, h3, h4, Bool.not_true, Bool.false_eq_true, if_false, decide_false, Option.bind_some, Sum.elim_inl, gleaninglaw31_QuantSorts_k0]
  have hloop : ∃ r, loopN (fun (s : Int × Int × Int × Int × Int × Int × Int × Int × Int × Int × List Int × Int) => gleaninglaw31_QuantSorts_l2 durs s.1 s.2.1 s.2.2.1 s.2.2.2.1 s.2.2.2.2.1 s.2.2.2.2.2.1 s.2.2.2.2.2.2.1 s.2.2.2.2.2.2.2.1 s.2.2.2.2.2.2.2.2.1 s.2.2.2.2.2.2.2.2.2.1 s.2.2.2.2.2.2.2.2.2.2.1 s.2.2.2.2.2.2.2.2.2.2.2) Fu (0, 0, 0, 0, 0, 0, 0, 0, 0, 0, [], 0) = some r ∧ ∃ l, r = ((durs.length : Int), 0, inB l 0, inB l 1, inB l 2, inB l 3, inB l 4, inB l 5, inB l 6, inB l 7, l) ∧ l.length = durs.length ∧ srt l := by
    refine loop_inv (fun n (s : Int × Int × Int × Int × Int × Int × Int × Int × Int × Int × List Int × Int) => ∃ i l, i ≤ durs.length ∧ n = durs.length - i ∧ s = ((i : Int), 0, inB l 0, inB l 1, inB l 2, inB l 3, inB l 4, inB l 5, inB l 6, inB l 7, l, (i : Int)) ∧ l.length = i ∧ srt l) _ ?_ Fu durs.length _ ⟨0, [], by omega, rfl, rfl, rfl, List.Pairwise.nil⟩ (by rw [fu_eq]; omega)
    rintro n s ⟨i, l, hi, rfl, rfl, hl, hs⟩
    by_cases e : i = durs.length
    · subst e
      refine .inr ⟨_, ?_, l, rfl, hl, hs⟩
      dsimp only [gleaninglaw31_QuantSorts_l2]
      rw [ite_f (dec_f (by omega))]
    have hi2 : i < durs.length := by omega
    obtain ⟨k, hk1, hk2, hk3⟩ := ins_loop durs l i hi2 (by omega) hs
    have ha := add_spec (i : Int) 0 (inB l) durs[i] (by omega) (by decide) (fun k => by have := inB_le l k; omega)
    rw [show ctr (i : Int) 0 (inB l) = Counter.mk (i : Int) 0 (Arr8_Int.mk (inB l 0) (inB l 1) (inB l 2) (inB l 3) (inB l 4) (inB l 5) (inB l 6) (inB l 7)) from rfl] at ha
    have hlen : (l.take k ++ [durs[i]] ++ l.drop k).length = i + 1 := by simp only [List.length_append, List.length_take, List.length_drop, List.length_singleton]; omega
    refine .inl ⟨((i + 1 : Nat), 0, inB (l.take k ++ [durs[i]] ++ l.drop k) 0, inB (l.take k ++ [durs[i]] ++ l.drop k) 1, inB (l.take k ++ [durs[i]] ++ l.drop k) 2, inB (l.take k ++ [durs[i]] ++ l.drop k) 3, inB (l.take k ++ [durs[i]] ++ l.drop k) 4, inB (l.take k ++ [durs[i]] ++ l.drop k) 5, inB (l.take k ++ [durs[i]] ++ l.drop k) 6, inB (l.take k ++ [durs[i]] ++ l.drop k) 7, l.take k ++ [durs[i]] ++ l.drop k, ((i + 1 : Nat) : Int)), durs.length - (i + 1), ?_, by omega, i + 1, _, by omega, rfl, rfl, hlen, hk3⟩
    dsimp only [gleaninglaw31_QuantSorts_l2]
    rw [ite_t (dec_t (by omega)), gd_pos (by omega), Int.toNat_natCast, List.getElem?_eq_getElem hi2, Option.bind_some, ha, Option.bind_some, hk1, Option.bind_some]
    unfold gleaninglaw31_QuantSorts_k3
    simp only [Int.toNat_natCast, List.getElem?_eq_getElem hi2, Option.bind_some, ksuccQ (by omega : i < 1099511627776)]
    rw [gd_pos (by omega), gd_pos (by omega), gd_pos (by rw [List.length_take]; omega), gd_pos (by omega), gd_pos (by simp only [List.length_append, List.length_take, List.length_singleton]; omega), gd_pos (by omega), gd_pos (by omega), gd_pos (by rw [hlen]; omega)]
    simp only [inB_ins]
    rfl
  obtain ⟨r, hr, l, rfl, hl, hs⟩ := hloop
  rw [hr, Option.bind_some]
  exact sorts_end l p _ _ (by omega) (by omega) hs (by omega) (by omega)
end Go.Proofs.Ytmhbopjjkgjbnaa.Ab
