/- Chapter 32: search, told plainly: all traces, by the program and by the document. -/
import Derived.Test.YtnhjcpnoadicpaaPSearchB
namespace Go.Proofs.Ytnhjcpnoadicpaa.Ab
open Go Go.RowKit Go.Lib Go.Proofs
set_option linter.unusedVariables false
set_option linter.unusedSimpArgs false
/-! ### lists that rise -/
abbrev Rise (l : List Trace) : Prop := l.Pairwise tlt
theorem rise_unique : ∀ {l m : List Trace}, Rise l → Rise m → (∀ t, t ∈ l ↔ t ∈ m) → l = m
  | [], [], _, _, _ => rfl
  | [], b :: m, _, _, h => by have := (h b).2 List.mem_cons_self; cases this
  | a :: l, [], _, _, h => by have := (h a).1 List.mem_cons_self; cases this
  | a :: l, b :: m, h1, h2, h => by
    obtain ⟨p1, p2⟩ := List.pairwise_cons.1 h1
    obtain ⟨q1, q2⟩ := List.pairwise_cons.1 h2
    have e : a = b := by
      rcases List.mem_cons.1 ((h a).1 List.mem_cons_self) with e | e
      · exact e
      · rcases List.mem_cons.1 ((h b).2 List.mem_cons_self) with k | k
        · exact k.symm
        · exact absurd (tlt_tr (q1 a e) (p1 b k)) (tlt_irr b)
    subst e
    rw [rise_unique p2 q2 fun t => ?_]
    constructor
    · intro ht
      rcases List.mem_cons.1 ((h t).1 (List.mem_cons_of_mem _ ht)) with k | k
      · subst k; exact absurd (p1 t ht) (tlt_irr t)
      · exact k
    · intro ht
      rcases List.mem_cons.1 ((h t).2 (List.mem_cons_of_mem _ ht)) with k | k
      · subst k; exact absurd (q1 t ht) (tlt_irr t)
      · exact k
theorem bang_list {l : List Trace} {j : Nat} (h : j < l.length) : l.toArray[j]! = l[j] := by
  rw [getElem!_pos _ _ (by simpa using h)]; simp
theorem compact_rise {l : List Trace} (h : l.Pairwise (fun a b => ¬ tlt b a)) : Rise (compactL l) ∧ ∀ t, t ∈ compactL l ↔ t ∈ l := by
  have hs := List.pairwise_iff_getElem.1 h
  have key : ∀ m, m ≤ l.length → Rise (compactUpTo l.toArray m) ∧ ∀ t, t ∈ compactUpTo l.toArray m ↔ ∃ j, j < m ∧ l.toArray[j]! = t := by
    intro m
    induction m with
    | zero => intro _; exact ⟨by simp [compactUpTo], fun t => by simp [compactUpTo]⟩
    | succ m ih =>
      intro hm
      obtain ⟨i1, i2⟩ := ih (by omega)
      rw [compactUpTo_succ]
      cases hk : keeps l.toArray m with
      | true =>
        rw [if_pos rfl]
        refine ⟨?_, fun t => ?_⟩
        · show List.Pairwise tlt _
          rw [List.pairwise_append]
          refine ⟨i1, by simp, fun x hx y hy => ?_⟩
          rw [List.mem_singleton.1 hy]
          obtain ⟨j, hj, rfl⟩ := (i2 x).1 hx
          have hne : l.toArray[m]! ≠ l.toArray[m - 1]! := by
            have := of_decide_eq_true hk
            rcases this with e | e
            · omega
            · exact e
          rw [bang_list (by omega), bang_list (by omega)] at hne
          rw [bang_list (by omega), bang_list (by omega)]
          have h1 : tlt l[m - 1] l[m] := by
            by_cases q : tlt l[m - 1] l[m]
            · exact q
            · exact absurd (tlt_tot (hs (m - 1) m (by omega) (by omega) (by omega)) q) hne
          by_cases e : j = m - 1
          · subst e; exact h1
          · have h2 := hs j (m - 1) (by omega) (by omega) (by omega)
            by_cases q : tlt l[j] l[m - 1]
            · exact tlt_tr q h1
            · rw [tlt_tot q h2]; exact h1
        · rw [List.mem_append, i2, List.mem_singleton]
          constructor
          · rintro (⟨j, h1, h2⟩ | h1)
            · exact ⟨j, by omega, h2⟩
            · exact ⟨m, by omega, h1.symm⟩
          · rintro ⟨j, h1, h2⟩
            by_cases e : j = m
            · right; rw [← h2, e]
            · exact .inl ⟨j, by omega, h2⟩
      | false =>
        rw [if_neg (by decide), List.append_nil]
        refine ⟨i1, fun t => ?_⟩
        have hd : ¬ (m = 0 ∨ l.toArray[m]! ≠ l.toArray[m - 1]!) := of_decide_eq_false hk
        have hm0 : m ≠ 0 := fun e => hd (.inl e)
        have he : l.toArray[m]! = l.toArray[m - 1]! := Classical.byContradiction fun e => hd (.inr e)
        rw [i2]
        constructor
        · rintro ⟨j, h1, h2⟩; exact ⟨j, by omega, h2⟩
        · rintro ⟨j, h1, h2⟩
          by_cases e : j = m
          · exact ⟨m - 1, by omega, by rw [← he, ← e]; exact h2⟩
          · exact ⟨j, by omega, h2⟩
  obtain ⟨k1, k2⟩ := key l.length (Nat.le_refl _)
  refine ⟨k1, fun t => (k2 t).trans ?_⟩
  constructor
  · rintro ⟨j, h1, h2⟩
    rw [bang_list h1] at h2
    exact h2 ▸ List.getElem_mem h1
  · intro ht
    obtain ⟨j, h1, h2⟩ := List.getElem_of_mem ht
    exact ⟨j, h1, by rw [bang_list h1]; exact h2⟩
def hitF (q : Query) (e : Episode) : Bool := e.Spans.any (matchF q)
def rawE (q : Query) (es : List Episode) : List Trace := (es.filter (hitF q)).map (·.Trace)
def epsF (l : List Block) : List Episode := l.flatMap (·.Episodes)
def allF (l : List Block) (q : Query) : List Trace := compactL (sortF (fun x y => (search_compare x y).getD 0) (rawE q (epsF l)))
theorem srtT_sorted (l : List Trace) : (sortF (fun x y => (search_compare x y).getD 0) l).Pairwise (fun a b => ¬ tlt b a) := by
  refine (sortF_sorted sok_search_compare.swo l).imp fun {a b} h => ?_
  rw [lt_tlt] at h
  exact of_decide_eq_false h
theorem all_rise (l : List Block) (q : Query) : Rise (allF l q) := (compact_rise (srtT_sorted _)).1
theorem all_mem (l : List Block) (q : Query) (t : Trace) : t ∈ allF l q ↔ ∃ e, e ∈ epsF l ∧ hitF q e = true ∧ e.Trace = t := by
  unfold allF
  rw [(compact_rise (srtT_sorted _)).2, (sortF_perm sok_search_compare.swo _).mem_iff, rawE, List.mem_map]
  constructor
  · rintro ⟨e, h1, h2⟩
    obtain ⟨h3, h4⟩ := List.mem_filter.1 h1
    exact ⟨e, h3, h4, h2⟩
  · rintro ⟨e, h1, h2, h3⟩
    exact ⟨e, List.mem_filter.2 ⟨h1, h2⟩, h3⟩
theorem rawE_len (q : Query) (es : List Episode) : (rawE q es).length ≤ es.length := by
  unfold rawE
  rw [List.length_map]; exact List.length_filter_le _ _
theorem rise_nodup {l : List Trace} (h : Rise l) : l.Nodup := h.imp fun {a b} k e => by subst e; exact tlt_irr _ k
theorem all_len (l : List Block) (q : Query) : (allF l q).length ≤ (epsF l).length := by
  have h1 : (compactL (sortF (fun x y => (search_compare x y).getD 0) (rawE q (epsF l)))).length ≤ (sortF (fun x y => (search_compare x y).getD 0) (rawE q (epsF l))).length := by
    have : ∀ (d : Array Trace) (m : Nat), (compactUpTo d m).length ≤ m := fun d m => by
      unfold compactUpTo
      rw [List.length_map]
      exact Nat.le_trans (List.length_filter_le _ _) (by simp)
    exact this _ _
  rw [(sortF_perm sok_search_compare.swo _).length_eq] at h1
  exact Nat.le_trans h1 (rawE_len q _)
theorem small_of {l : List Block} (h : fewB l) {b : Block} (hb : b ∈ l) {e : Episode} (he : e ∈ b.Episodes) : smallE e := h.small e (List.mem_flatMap.2 ⟨b, hb, he⟩)
theorem epsB_len {l : List Block} (h : fewB l) {b : Block} (hb : b ∈ l) : b.Episodes.length ≤ 120 := by
  refine Nat.le_trans ?_ h.eps
  obtain ⟨i, hi⟩ := List.getElem_of_mem hb
  obtain ⟨hi, rfl⟩ := hi
  have := eflat_le (l := l) (i + 1)
  rw [eflat_take hi, List.length_append] at this
  omega
/-! ### the program -/
theorem hit_spec (q : Query) (e : Episode) (he : smallE e) : slices_ContainsFunc_Span_search_all_c1 e.Spans q = some (hitF q e) := by
  have h1 := he.1
  obtain ⟨r, q1, q2⟩ := loop_has (body := fun (s : Int) => slices_IndexFunc_Span_search_all_c1_l0 e.Spans q s) (matchF q) e.Spans (by omega) (fun j hj => by
    have := he.2 e.Spans[j] (List.getElem_mem hj)
    simp only [slices_IndexFunc_Span_search_all_c1_l0, search_all_c1, dec_t (by omega : (j : Int) < (e.Spans.length : Int)), if_true, gd_pos (by omega : (0 : Int) ≤ (j : Int)), Int.toNat_natCast, List.getElem?_eq_getElem hj, Option.bind_some, match_spec q e.Spans[j] (by omega), ksucc (by omega : j < 1099511627776)]) (by simp only [slices_IndexFunc_Span_search_all_c1_l0, dec_f (by omega : ¬ (e.Spans.length : Int) < (e.Spans.length : Int)), Bool.false_eq_true, if_false])
  rw [slices_ContainsFunc_Span_search_all_c1, slices_IndexFunc_Span_search_all_c1, q1, Option.bind_some, q2]
  rfl
theorem rawE_succ (q : Query) (es : List Episode) (k : Nat) (hk : k < es.length) : rawE q (es.take (k + 1)) = if hitF q es[k] = true then rawE q (es.take k) ++ [es[k].Trace] else rawE q (es.take k) := by
  unfold rawE
  rw [List.take_succ_eq_append_getElem hk, List.filter_append, List.map_append]
  cases h : hitF q es[k] <;> simp [h]
theorem inner_all (q : Query) (v : Nat) (hv : v < 1000) (b : Block) (out : List Trace) (ho : out.length ≤ 1000) (hb : b.Episodes.length ≤ 120) (hs : ∀ e ∈ b.Episodes, smallE e) :
    loopN (fun (s : List Trace × Int) => search_all_l2 q (v : Int) b s.1 s.2) Fu (out, 0) = some (.inl (out ++ rawE q b.Episodes, ((v + 1 : Nat) : Int))) := by
  refine loop_list (l := b.Episodes) (fun k r s => s = (out ++ rawE q (b.Episodes.take k), (k : Int)) ∧ r = .inl (out ++ rawE q b.Episodes, ((v + 1 : Nat) : Int))) (by omega) ?_ ?_ ⟨by simp [rawE], rfl⟩
  · rintro k hk r s ⟨rfl, rfl⟩
    refine .inl ⟨(out ++ rawE q (b.Episodes.take (k + 1)), ((k + 1 : Nat) : Int)), ?_, rfl, rfl⟩
    have hl := rawE_len q (b.Episodes.take k)
    have hl2 := List.length_take_le k b.Episodes
    simp only [search_all_l2, dec_t (by omega : (k : Int) < (b.Episodes.length : Int)), if_true, gd_pos (by omega : (0 : Int) ≤ (k : Int)), Int.toNat_natCast, List.getElem?_eq_getElem hk, Option.bind_some, hit_spec q b.Episodes[k] (hs _ (List.getElem_mem hk)), ksucc (by omega : k < 1099511627776)]
    rw [rawE_succ q _ k hk]
    cases hh : hitF q b.Episodes[k] with
    | true =>
      rw [ite_tt, if_pos rfl, gd_pos (by simp only [List.length_append, List.length_singleton]; omega), List.append_assoc]
    | false => rw [ite_ff, if_neg (by decide)]
  · rintro r s ⟨rfl, rfl⟩
    simp only [search_all_l2, dec_f (by omega : ¬ (b.Episodes.length : Int) < (b.Episodes.length : Int)), Bool.false_eq_true, if_false, List.take_length, ksucc (by omega : v < 1099511627776)]
theorem eps_succ (l : List Block) (k : Nat) (hk : k < l.length) : epsF (l.take (k + 1)) = epsF (l.take k) ++ l[k].Episodes := eflat_take hk
theorem eps_take_len {l : List Block} (h : fewB l) (k : Nat) : (epsF (l.take k)).length ≤ 120 := Nat.le_trans (eflat_le k) h.eps
theorem rawE_app (q : Query) (a b : List Episode) : rawE q (a ++ b) = rawE q a ++ rawE q b := by simp [rawE]
theorem all_spec (l : List Block) (q : Query) (h : fewB l) : search_all l q = some (allF l q) := by
  have h12 := h.len
  have hloop : loopN (fun (s : List Trace × Int) => search_all_l1 l q s.1 s.2) Fu ([], 0) = some (rawE q (epsF l)) := by
    refine loop_list (l := l) (fun k r s => s = (rawE q (epsF (l.take k)), (k : Int)) ∧ r = rawE q (epsF l)) (by omega) ?_ ?_ ⟨rfl, rfl⟩
    · rintro k hk r s ⟨rfl, rfl⟩
      refine .inl ⟨(rawE q (epsF (l.take (k + 1))), ((k + 1 : Nat) : Int)), ?_, rfl, rfl⟩
      have hl := rawE_len q (epsF (l.take k))
      have hl2 := eps_take_len h k
      simp only [search_all_l1, dec_t (by omega : (k : Int) < (l.length : Int)), if_true, gd_pos (by omega : (0 : Int) ≤ (k : Int)), Int.toNat_natCast, List.getElem?_eq_getElem hk, Option.bind_some]
      rw [inner_all q k (by omega) l[k] _ (by omega) (epsB_len h (List.getElem_mem hk)) (fun e he => small_of h (List.getElem_mem hk) he), eps_succ l k hk, rawE_app]
    · rintro r s ⟨rfl, rfl⟩
      simp only [search_all_l1, dec_f (by omega : ¬ (l.length : Int) < (l.length : Int)), Bool.false_eq_true, if_false, List.take_length]
  have hl := rawE_len q (epsF l)
  have h120 : (epsF l).length ≤ 120 := h.eps
  have hs : sortO search_compare (rawE q (epsF l)) = some (sortF (fun x y => (search_compare x y).getD 0) (rawE q (epsF l))) := by unfold sortO; rw [gd_pos (by omega)]
  rw [search_all, hloop, Option.bind_some, search_all_k0, hs, Option.bind_some, slices_Compact_Trace, Option.bind_some]
  rfl
def cutT (n : Int) (m : Nat) : Nat := if n < 0 then 0 else if (m : Int) < n then m else n.toNat
theorem cutT_le (n : Int) (m : Nat) : cutT n m ≤ m := by unfold cutT; split <;> (try split) <;> omega
theorem find_spec (l : List Block) (q : Query) (n : Int) (h : fewB l) : search_Find l q n = some ((allF l q).take (cutT n (allF l q).length)) := by
  rw [search_Find, all_spec l q h, Option.bind_some]
  have hc : (if (if ((allF l q).length : Int) < n then ((allF l q).length : Int) else n) > 0 then (if ((allF l q).length : Int) < n then ((allF l q).length : Int) else n) else 0) = (cutT n (allF l q).length : Int) := by
    unfold cutT
    split <;> split <;> (try split) <;> (try split) <;> omega
  have := cutT_le n (allF l q).length
  rw [hc, gd_pos (by omega), gd_pos (by omega), Int.toNat_natCast]
theorem count_spec (l : List Block) (q : Query) (h : fewB l) : search_Count l q = some ((allF l q).length : Int) := by
  rw [search_Count, all_spec l q h, Option.bind_some]
theorem find_all (l : List Block) (q : Query) (h : fewB l) : search_Find l q 1000 = some (allF l q) := by
  have h1 := all_len l q
  have h2 : (epsF l).length ≤ 120 := h.eps
  rw [find_spec l q 1000 h, List.take_of_length_le]
  unfold cutT
  split
  · omega
  · split <;> omega
/-! ### the document -/
def insT (t : Trace) (out : List Trace) : List Trace :=
  if out.findIdx (fun x => !decide (tlt x t)) = out.length ∨ out[out.findIdx (fun x => !decide (tlt x t))]? ≠ some t then (out.take (out.findIdx (fun x => !decide (tlt x t))) ++ [t]) ++ out.drop (out.findIdx (fun x => !decide (tlt x t))) else out
theorem insT_spec {out : List Trace} (h : Rise out) (t : Trace) : Rise (insT t out) ∧ ∀ x, x ∈ insT t out ↔ x = t ∨ x ∈ out := by
  have hbef : ∀ x ∈ out.take (out.findIdx (fun x => !decide (tlt x t))), tlt x t := fun x hx => by
    obtain ⟨i, hi, e⟩ := List.getElem_of_mem hx
    rw [List.length_take] at hi
    rw [List.getElem_take] at e
    have hn := List.not_of_lt_findIdx (p := fun x => !decide (tlt x t)) (xs := out) (i := i) (by omega)
    rw [e] at hn
    simpa using hn
  have hmem : ∀ x, x ∈ (out.take (out.findIdx (fun x => !decide (tlt x t))) ++ [t]) ++ out.drop (out.findIdx (fun x => !decide (tlt x t))) ↔ x = t ∨ x ∈ out := fun x => by
    conv => rhs; rw [← List.take_append_drop (out.findIdx (fun x => !decide (tlt x t))) out]
    simp only [List.mem_append, List.mem_singleton]
    constructor
    · rintro ((h | h) | h)
      · exact .inr (.inl h)
      · exact .inl h
      · exact .inr (.inr h)
    · rintro (h | h | h)
      · exact .inl (.inr h)
      · exact .inl (.inl h)
      · exact .inr h
  unfold insT
  by_cases hf : out.findIdx (fun x => !decide (tlt x t)) < out.length
  · have hp := List.findIdx_getElem (p := fun x => !decide (tlt x t)) (xs := out) (w := hf)
    have hy : ¬ tlt out[out.findIdx (fun x => !decide (tlt x t))] t := by simpa using hp
    rw [List.getElem?_eq_getElem hf]
    by_cases e : out[out.findIdx (fun x => !decide (tlt x t))] = t
    · rw [if_neg (fun q => q.elim (fun q => absurd q (Nat.ne_of_lt hf)) (fun q => q (by rw [e])))]
      refine ⟨h, fun x => ⟨fun k => .inr k, ?_⟩⟩
      rintro (k | k)
      · rw [k, ← e]; exact List.getElem_mem hf
      · exact k
    · rw [if_pos (.inr (fun k => e (by injection k)))]
      refine ⟨?_, hmem⟩
      have hty : tlt t out[out.findIdx (fun x => !decide (tlt x t))] := by
        by_cases q : tlt t out[out.findIdx (fun x => !decide (tlt x t))]
        · exact q
        · exact absurd (tlt_tot hy q) e
      have h0 : (out.take (out.findIdx (fun x => !decide (tlt x t))) ++ out.drop (out.findIdx (fun x => !decide (tlt x t)))).Pairwise tlt := by rw [List.take_append_drop]; exact h
      rw [List.pairwise_append] at h0
      obtain ⟨p1, p2, p3⟩ := h0
      have hdrop : ∀ x ∈ out.drop (out.findIdx (fun x => !decide (tlt x t))), tlt t x := fun x hx => by
        rw [List.drop_eq_getElem_cons hf] at hx p2
        obtain ⟨r1, _⟩ := List.pairwise_cons.1 p2
        rcases List.mem_cons.1 hx with rfl | hx
        · exact hty
        · exact tlt_tr hty (r1 x hx)
      show List.Pairwise tlt _
      rw [List.pairwise_append, List.pairwise_append]
      refine ⟨⟨p1, by simp, fun x hx y hy' => by rw [List.mem_singleton.1 hy']; exact hbef x hx⟩, p2, fun x hx y hy' => ?_⟩
      rcases List.mem_append.1 hx with hx | hx
      · exact p3 x hx y hy'
      · rw [List.mem_singleton.1 hx]; exact hdrop y hy'
  · have he : out.findIdx (fun x => !decide (tlt x t)) = out.length := by
      have := List.findIdx_le_length (p := fun x => !decide (tlt x t)) (xs := out)
      omega
    rw [if_pos (.inl he)]
    refine ⟨?_, hmem⟩
    rw [he] at hbef ⊢
    rw [List.take_length] at hbef ⊢
    rw [List.drop_length, List.append_nil]
    show List.Pairwise tlt _
    rw [List.pairwise_append]
    exact ⟨h, by simp, fun x hx y hy => by rw [List.mem_singleton.1 hy]; exact hbef x hx⟩
def refE (q : Query) (out : List Trace) (es : List Episode) : List Trace := es.foldl (fun out e => if hitF q e = true then insT e.Trace out else out) out
theorem refE_spec (q : Query) : ∀ (es : List Episode) (out : List Trace), Rise out → Rise (refE q out es) ∧ ∀ t, t ∈ refE q out es ↔ t ∈ out ∨ ∃ e, e ∈ es ∧ hitF q e = true ∧ e.Trace = t
  | [], out, h => ⟨h, fun t => by simp [refE]⟩
  | e :: es, out, h => by
    have hstep : Rise (if hitF q e = true then insT e.Trace out else out) ∧ ∀ t, t ∈ (if hitF q e = true then insT e.Trace out else out) ↔ t ∈ out ∨ (hitF q e = true ∧ e.Trace = t) := by
      cases hh : hitF q e with
      | true =>
        obtain ⟨i1, i2⟩ := insT_spec h e.Trace
        rw [if_pos rfl]
        refine ⟨i1, fun t => (i2 t).trans ?_⟩
        constructor
        · rintro (k | k)
          · exact .inr ⟨rfl, k.symm⟩
          · exact .inl k
        · rintro (k | ⟨_, k⟩)
          · exact .inr k
          · exact .inl k.symm
      | false => rw [if_neg (by decide)]; exact ⟨h, fun t => by simp⟩
    obtain ⟨r1, r2⟩ := refE_spec q es _ hstep.1
    refine ⟨r1, fun t => (r2 t).trans ?_⟩
    rw [hstep.2 t]
    constructor
    · rintro ((k | ⟨k1, k2⟩) | ⟨e', k1, k2, k3⟩)
      · exact .inl k
      · exact .inr ⟨e, List.mem_cons_self, k1, k2⟩
      · exact .inr ⟨e', List.mem_cons_of_mem _ k1, k2, k3⟩
    · rintro (k | ⟨e', k1, k2, k3⟩)
      · exact .inl (.inl k)
      · rcases List.mem_cons.1 k1 with rfl | k1
        · exact .inl (.inr ⟨k2, k3⟩)
        · exact .inr ⟨e', k1, k2, k3⟩
theorem ref_all (l : List Block) (q : Query) : refE q [] (epsF l) = allF l q := by
  obtain ⟨r1, r2⟩ := refE_spec q (epsF l) [] List.Pairwise.nil
  refine rise_unique r1 (all_rise l q) fun t => (r2 t).trans ?_
  rw [all_mem]
  simp
theorem insT_len (t : Trace) (out : List Trace) : (insT t out).length ≤ out.length + 1 := by
  unfold insT
  split
  · simp only [List.length_append, List.length_take, List.length_drop, List.length_singleton]
    have := List.findIdx_le_length (p := fun x => !decide (tlt x t)) (xs := out)
    omega
  · omega
theorem refE_len (q : Query) : ∀ (es : List Episode) (out : List Trace), (refE q out es).length ≤ out.length + es.length
  | [], out => Nat.le_refl _
  | e :: es, out => by
    have h := refE_len q es (if hitF q e = true then insT e.Trace out else out)
    have h2 : (if hitF q e = true then insT e.Trace out else out).length ≤ out.length + 1 := by
      split
      · exact insT_len _ _
      · omega
    show (refE q _ es).length ≤ _
    simp only [List.length_cons]; omega
theorem refE_app (q : Query) (out : List Trace) (a b : List Episode) : refE q out (a ++ b) = refE q (refE q out a) b := by simp [refE]
theorem refE_succ (q : Query) (out : List Trace) (es : List Episode) (k : Nat) (hk : k < es.length) : refE q out (es.take (k + 1)) = if hitF q es[k] = true then insT es[k].Trace (refE q out (es.take k)) else refE q out (es.take k) := by
  rw [List.take_succ_eq_append_getElem hk, refE_app]; rfl
theorem less_spec (a b : Trace) : gleaningref15_LessTrace a b = some (decide (tlt a b)) := by
  unfold gleaningref15_LessTrace tlt
  by_cases h1 : a.Hi < b.Hi
  · simp [h1]
  · by_cases h2 : a.Hi = b.Hi
    · simp [h2]
    · simp [h1, h2]
theorem refhit_spec (q : Query) (e : Episode) (he : smallE e) : loopN (fun (s : Bool × Int) => gleaningref28_all_l3 q e s.1 s.2) Fu (false, 0) = some (hitF q e) := by
  have h1 := he.1
  refine loop_list (l := e.Spans) (fun k r s => s = ((e.Spans.take k).any (matchF q), (k : Int)) ∧ r = hitF q e) (by omega) ?_ ?_ ⟨by simp, rfl⟩
  · rintro k hk r s ⟨rfl, rfl⟩
    refine .inl ⟨((e.Spans.take (k + 1)).any (matchF q), ((k + 1 : Nat) : Int)), ?_, rfl, rfl⟩
    have := he.2 e.Spans[k] (List.getElem_mem hk)
    rw [List.take_succ_eq_append_getElem hk, List.any_append]
    simp only [gleaningref28_all_l3, dec_t (by omega : (k : Int) < (e.Spans.length : Int)), if_true, gd_pos (by omega : (0 : Int) ≤ (k : Int)), Int.toNat_natCast, List.getElem?_eq_getElem hk, Option.bind_some, refmatch_spec q e.Spans[k] (by omega), ksucc (by omega : k < 1099511627776), List.any_cons, List.any_nil, Bool.or_false]
    cases (e.Spans.take k).any (matchF q) <;> simp
  · rintro r s ⟨rfl, rfl⟩
    simp only [gleaningref28_all_l3, dec_f (by omega : ¬ (e.Spans.length : Int) < (e.Spans.length : Int)), Bool.false_eq_true, if_false, List.take_length]
    rfl
theorem trace_beq (a b : Trace) : ((a.Hi == b.Hi) && ((a.Lo == b.Lo) && true)) = decide (a = b) := by
  cases a; cases b
  simp only [Trace.mk.injEq, Bool.and_true]
  rw [Bool.eq_iff_iff]; simp
theorem at_spec (out : List Trace) (e : Episode) (ho : out.length ≤ 1000) : loopN (fun (s : Int) => gleaningref28_all_l5 out e s) Fu 0 = some ((out.findIdx (fun x => !decide (tlt x e.Trace)) : Nat) : Int) := by
  have h := loop_idx (body := fun (s : Int) => gleaningref28_all_l5 out e s) (fun x => !decide (tlt x e.Trace)) out (fun k => (k : Int)) (out.length : Int) (by omega) (fun k hk => by
    simp only [gleaningref28_all_l5, dec_t (by omega : (k : Int) < (out.length : Int)), if_true, gd_pos (by omega : (0 : Int) ≤ (k : Int)), Int.toNat_natCast, List.getElem?_eq_getElem hk, Option.bind_some, less_spec, ksucc (by omega : k < 1099511627776)]
    cases decide (tlt out[k] e.Trace) <;> rfl) (by simp only [gleaningref28_all_l5, dec_f (by omega : ¬ (out.length : Int) < (out.length : Int)), Bool.false_eq_true, if_false])
  rw [h]
  split
  · rfl
  · have := List.findIdx_le_length (p := fun x => !decide (tlt x e.Trace)) (xs := out)
    congr 1; omega
theorem k2_ref (out : List Trace) (k : Nat) (hk : k < 1000) (e : Episode) (ok : Bool) (ho : out.length ≤ 1000) : gleaningref28_all_k2 out (k : Int) e ok = some (.inl (if ok = true then insT e.Trace out else out, ((k + 1 : Nat) : Int))) := by
  have hle := List.findIdx_le_length (p := fun x => !decide (tlt x e.Trace)) (xs := out)
  rw [gleaningref28_all_k2, at_spec out e ho, Option.bind_some, gleaningref28_all_k4]
  have k6f : ∀ v, gleaningref28_all_k6 out (k : Int) e v false = some (.inl (out, ((k + 1 : Nat) : Int))) := fun v => by
    rw [gleaningref28_all_k6, ite_ff, ksucc (by omega : k < 1099511627776)]
  have k6t : gleaningref28_all_k6 out (k : Int) e ((out.findIdx (fun x => !decide (tlt x e.Trace)) : Nat) : Int) true = some (.inl ((out.take (out.findIdx (fun x => !decide (tlt x e.Trace))) ++ [e.Trace]) ++ out.drop (out.findIdx (fun x => !decide (tlt x e.Trace))), ((k + 1 : Nat) : Int))) := by
    rw [gleaningref28_all_k6, ite_tt]
    simp only [Int.toNat_natCast, gd_pos (by omega : (0 : Int) ≤ ((out.findIdx (fun x => !decide (tlt x e.Trace)) : Nat) : Int)), gd_pos (by omega : ((out.findIdx (fun x => !decide (tlt x e.Trace)) : Nat) : Int) ≤ (out.length : Int)), ksucc (by omega : k < 1099511627776)]
    rw [gd_pos (by simp only [List.length_take]; omega), gd_pos (by simp only [List.length_append, List.length_take, List.length_singleton]; omega), gd_pos (by simp only [List.length_append, List.length_take, List.length_drop, List.length_singleton]; omega)]
  cases ok with
  | false => rw [ite_ff, Option.bind_some, k6f, if_neg (by decide)]
  | true =>
    rw [ite_tt, if_pos rfl]
    unfold insT
    by_cases hf : out.findIdx (fun x => !decide (tlt x e.Trace)) = out.length
    · rw [show (((out.findIdx (fun x => !decide (tlt x e.Trace)) : Nat) : Int) == (out.length : Int)) = true from by rw [beq_iff_eq]; omega, ite_tt, Option.bind_some, k6t, if_pos (.inl hf)]
    · have hlt : out.findIdx (fun x => !decide (tlt x e.Trace)) < out.length := by omega
      rw [show (((out.findIdx (fun x => !decide (tlt x e.Trace)) : Nat) : Int) == (out.length : Int)) = false from by rw [beq_eq_false_iff_ne]; omega, ite_ff, gd_pos (by omega), Int.toNat_natCast, List.getElem?_eq_getElem hlt, Option.bind_some, Option.bind_some, trace_beq]
      by_cases he : out[out.findIdx (fun x => !decide (tlt x e.Trace))] = e.Trace
      · rw [dec_t he, Bool.not_true, k6f, if_neg (fun q => q.elim hf (fun q => q (by rw [he])))]
      · rw [dec_f he, Bool.not_false, k6t, if_pos (.inr (fun q => he (by injection q)))]
theorem refinner_all (q : Query) (l : List Block) (v : Nat) (hv : v < l.length) (h : fewB l) (out : List Trace) (ho : out.length ≤ 500) :
    loopN (fun (s : List Trace × Int) => gleaningref28_all_l1 l q (v : Int) s.1 s.2) Fu (out, 0) = some (.inl (refE q out l[v].Episodes, ((v + 1 : Nat) : Int))) := by
  have h12 := h.len
  have hb := epsB_len h (List.getElem_mem hv)
  refine loop_list (l := l[v].Episodes) (fun k r s => s = (refE q out (l[v].Episodes.take k), (k : Int)) ∧ r = .inl (refE q out l[v].Episodes, ((v + 1 : Nat) : Int))) (by omega) ?_ ?_ ⟨rfl, rfl⟩
  · rintro k hk r s ⟨rfl, rfl⟩
    refine .inl ⟨(refE q out (l[v].Episodes.take (k + 1)), ((k + 1 : Nat) : Int)), ?_, rfl, rfl⟩
    have hl := refE_len q (l[v].Episodes.take k) out
    have hl2 := List.length_take_le k l[v].Episodes
    simp only [gleaningref28_all_l1, gd_pos (by omega : (0 : Int) ≤ (v : Int)), Int.toNat_natCast, List.getElem?_eq_getElem hv, Option.bind_some, dec_t (by omega : (k : Int) < (l[v].Episodes.length : Int)), if_true, gd_pos (by omega : (0 : Int) ≤ (k : Int)), List.getElem?_eq_getElem hk, refhit_spec q l[v].Episodes[k] (small_of h (List.getElem_mem hv) (List.getElem_mem hk))]
    rw [k2_ref _ k (by omega) _ _ (by omega), refE_succ q out _ k hk]
  · rintro r s ⟨rfl, rfl⟩
    simp only [gleaningref28_all_l1, gd_pos (by omega : (0 : Int) ≤ (v : Int)), Int.toNat_natCast, List.getElem?_eq_getElem hv, Option.bind_some, dec_f (by omega : ¬ (l[v].Episodes.length : Int) < (l[v].Episodes.length : Int)), Bool.false_eq_true, if_false, List.take_length, ksucc (by omega : v < 1099511627776)]
theorem refall_spec (l : List Block) (q : Query) (h : fewB l) : gleaningref28_all l q = some (allF l q) := by
  have h12 := h.len
  rw [← ref_all]
  refine loop_list (l := l) (fun k r s => s = (refE q [] (epsF (l.take k)), (k : Int)) ∧ r = refE q [] (epsF l)) (by omega) ?_ ?_ ⟨rfl, rfl⟩
  · rintro k hk r s ⟨rfl, rfl⟩
    refine .inl ⟨(refE q [] (epsF (l.take (k + 1))), ((k + 1 : Nat) : Int)), ?_, rfl, rfl⟩
    have hl := refE_len q (epsF (l.take k)) []
    have hl2 := eps_take_len h k
    simp only [List.length_nil] at hl
    simp only [gleaningref28_all_l0, dec_t (by omega : (k : Int) < (l.length : Int)), if_true]
    rw [refinner_all q l k hk h _ (by omega), eps_succ l k hk, refE_app]
  · rintro r s ⟨rfl, rfl⟩
    simp only [gleaningref28_all_l0, dec_f (by omega : ¬ (l.length : Int) < (l.length : Int)), Bool.false_eq_true, if_false, List.take_length]
theorem capT_spec {a b c : Int} : gleaningref1_Cap a b c = some (if a < b then b else if c < a then c else a) := by
  unfold gleaningref1_Cap
  by_cases h1 : a < b
  · simp [h1]
  · by_cases h2 : c < a <;> simp [h1, h2]
theorem reffind_spec (l : List Block) (q : Query) (n : Int) (h : fewB l) : gleaningref28_Find l q n = some ((allF l q).take (cutT n (allF l q).length)) := by
  rw [gleaningref28_Find, refall_spec l q h, Option.bind_some, capT_spec, Option.bind_some]
  have hc : (if n < 0 then (0 : Int) else if ((allF l q).length : Int) < n then ((allF l q).length : Int) else n) = (cutT n (allF l q).length : Int) := by
    unfold cutT
    by_cases h1 : n < 0
    · simp [h1]
    · by_cases h2 : ((allF l q).length : Int) < n
      · simp [h1, h2]
      · simp [h1, h2]; omega
  have := cutT_le n (allF l q).length
  rw [hc, gd_pos (by omega), gd_pos (by omega), Int.toNat_natCast]
theorem refcount_spec (l : List Block) (q : Query) (h : fewB l) : gleaningref28_Count l q = some ((allF l q).length : Int) := by
  rw [gleaningref28_Count, refall_spec l q h, Option.bind_some]
theorem sameT_spec (l : List Trace) (hl : l.length ≤ 1000000) : gleaningref28_SameTraces l l = some true := by
  rw [gleaningref28_SameTraces, show ((l.length : Int) != (l.length : Int)) = false from by simp, ite_ff]
  refine loop_list (l := l) (fun k r s => s = (k : Int) ∧ r = true) (by omega) ?_ ?_ ⟨rfl, rfl⟩
  · rintro k hk r s ⟨rfl, rfl⟩
    refine .inl ⟨((k + 1 : Nat) : Int), ?_, rfl, rfl⟩
    simp only [gleaningref28_SameTraces_l0, dec_t (by omega : (k : Int) < (l.length : Int)), if_true, gd_pos (by omega : (0 : Int) ≤ (k : Int)), Int.toNat_natCast, List.getElem?_eq_getElem hk, Option.bind_some, beq_self_eq_true, Bool.and_self, Bool.not_true, Bool.false_eq_true, if_false, ksucc (by omega : k < 1099511627776)]
  · rintro r s ⟨rfl, rfl⟩
    simp only [gleaningref28_SameTraces_l0, dec_f (by omega : ¬ (l.length : Int) < (l.length : Int)), Bool.false_eq_true, if_false]
/-! ### what all its laws ask -/
theorem few_lit {l : List Block} (h1 : l.length ≤ 12) (h2 : (epsF l).length ≤ 120) (h3 : ∀ e ∈ epsF l, smallE e) : fewB l := ⟨h1, h2, h3⟩
end Go.Proofs.Ytnhjcpnoadicpaa.Ab
