/- Episodes, told plainly: what one is with a span more, and the spans of many. -/
import Derived.Test.YtlkdpgemdopbfaaXEpisode
import Derived.Test.YtlkdpgemdopbfaaPSpan
namespace Go.Proofs.Ytlkdpgemdopbfaa.Ab
open Go Go.RowKit
set_option linter.unusedVariables false
set_option linter.unusedSimpArgs false

/-- a loop that goes through a list with something gathered -/
theorem loop_fold {α β σ ρ : Type} {body : σ → Option (σ ⊕ ρ)} (l : List α) (f : β → α → β) (mk : β → Nat → σ) (fin : β → ρ) (b0 : β) (hn : l.length < 1208925819614629174706175)
    (step : ∀ k (hk : k < l.length), body (mk ((l.take k).foldl f b0) k) = some (.inl (mk (f ((l.take k).foldl f b0) l[k]) (k + 1))))
    (last : body (mk (l.foldl f b0) l.length) = some (.inr (fin (l.foldl f b0)))) : loopN body Fu (mk b0 0) = some (fin (l.foldl f b0)) := by
  refine loop_list (l := l) (fun k r s => s = mk ((l.take k).foldl f b0) k ∧ r = fin (l.foldl f b0)) hn ?_ ?_ ⟨rfl, rfl⟩
  · rintro k hk r s ⟨rfl, rfl⟩
    refine .inl ⟨_, step k hk, ?_, rfl⟩
    rw [List.take_succ_eq_append_getElem hk, List.foldl_append]; rfl
  · rintro r s ⟨rfl, rfl⟩
    rw [List.take_length]; exact last
/-- where the first one is that p says, or -1 -/
def idx {α : Type} (p : α → Bool) (l : List α) : Int := match l.findIdx? p with | some k => (k : Int) | none => -1
theorem idx_any {α : Type} (p : α → Bool) (l : List α) : decide ((0 : Int) ≤ idx p l) = l.any p := by
  rw [← List.findIdx?_isSome, idx]
  cases l.findIdx? p with
  | none => rfl
  | some k => simp
theorem loop_find {α : Type} {body : Int → Option (Int ⊕ Int)} (p : α → Bool) (l : List α) (hl : l.length ≤ 1000000000)
    (h : ∀ (k : Nat) (hk : k < l.length), body (k : Int) = if p l[k] = true then some (.inr (k : Int)) else some (.inl ((k + 1 : Nat) : Int))) (hend : body (l.length : Int) = some (.inr (-1))) : loopN body Fu 0 = some (idx p l) := by
  refine loop_list (l := l) (fun k r s => s = (k : Int) ∧ (∀ x ∈ l.take k, p x = false) ∧ r = idx p l) (by omega) ?_ ?_ ⟨rfl, by simp, rfl⟩
  · rintro k hk r s ⟨rfl, hb, rfl⟩
    rw [h k hk]
    cases e : p l[k] with
    | true =>
      refine .inr ?_
      have : l.findIdx? p = some k := by
        rw [List.findIdx?_eq_some_iff_getElem]
        refine ⟨hk, e, fun j hj => ?_⟩
        rw [hb _ (List.mem_take_iff_getElem.2 ⟨j, by omega, rfl⟩)]; decide
      rw [idx, this]; rfl
    | false =>
      refine .inl ⟨_, rfl, rfl, fun x hx => ?_, rfl⟩
      rw [List.take_succ_eq_append_getElem hk] at hx
      rcases List.mem_append.1 hx with hx | hx
      · exact hb x hx
      · rw [List.mem_singleton.1 hx]; exact e
  · rintro r s ⟨rfl, hb, rfl⟩
    rw [List.take_length] at hb
    have : l.findIdx? p = none := by rw [List.findIdx?_eq_none_iff]; exact hb
    rw [hend, idx, this]
def hasId (l : List Span) (s : Span) : Bool := l.any (fun x => x.Id == s.Id)
def addS (l : List Span) (s : Span) : List Span := if hasId l s = true then l else l ++ [s]
def addE (e : Episode) (s : Span) (d : Int) : Episode × Bool :=
  if e.Trace = s.Trace then (if hasId e.Spans s = true then (Episode.mk e.Trace e.First d e.Sure e.Spans, false) else (Episode.mk e.Trace e.First d e.Sure (e.Spans ++ [s]), true)) else (e, false)
def spF (t : Trace) (acc : List Span) (e : Episode) : List Span := if e.Trace = t then e.Spans.foldl addS acc else acc
def spansE (l : List Episode) (t : Trace) : List Span := l.foldl (spF t) []
def smallE (e : Episode) : Prop := e.Spans.length ≤ 60 ∧ ∀ s ∈ e.Spans, s.Attrs.length ≤ 20
def goodE (l : List Episode) : Prop := l.length ≤ 240 ∧ ∀ e ∈ l, smallE e
theorem addS_len (s : Span) (l : List Span) : (addS l s).length ≤ l.length + 1 := by unfold addS; split <;> simp
theorem addS_mem {x s : Span} {l : List Span} (h : x ∈ addS l s) : x ∈ l ∨ x = s := by
  unfold addS at h; split at h
  · exact .inl h
  · simpa using h
theorem addAll_len : ∀ (m b : List Span), (m.foldl addS b).length ≤ b.length + m.length
  | [], b => by simp
  | s :: m, b => by have := addAll_len m (addS b s); have := addS_len s b; simp only [List.foldl_cons, List.length_cons]; omega
theorem addAll_mem {x : Span} : ∀ (m b : List Span), x ∈ m.foldl addS b → x ∈ b ∨ x ∈ m
  | [], b, h => .inl h
  | s :: m, b, h => by
    rcases addAll_mem m (addS b s) h with h | h
    · rcases addS_mem h with h | rfl
      · exact .inl h
      · exact .inr (List.mem_cons_self ..)
    · exact .inr (List.mem_cons_of_mem _ h)
theorem spF_len (t : Trace) (b : List Span) (e : Episode) : (spF t b e).length ≤ b.length + e.Spans.length := by
  unfold spF; split
  · exact addAll_len _ _
  · omega
theorem spAll_len (t : Trace) : ∀ (l : List Episode) (b : List Span), (∀ e ∈ l, smallE e) → (l.foldl (spF t) b).length ≤ b.length + 60 * l.length
  | [], b, _ => by simp
  | e :: l, b, h => by
    have h1 := spAll_len t l (spF t b e) (fun x hx => h x (List.mem_cons_of_mem _ hx))
    have h2 := spF_len t b e
    have h3 := (h e (List.mem_cons_self ..)).1
    simp only [List.foldl_cons, List.length_cons]; omega
theorem spAll_mem {x : Span} (t : Trace) : ∀ (l : List Episode) (b : List Span), x ∈ l.foldl (spF t) b → x ∈ b ∨ ∃ e ∈ l, x ∈ e.Spans
  | [], b, h => .inl h
  | e :: l, b, h => by
    rcases spAll_mem t l (spF t b e) h with h | ⟨e', h1, h2⟩
    · unfold spF at h; split at h
      · rcases addAll_mem _ _ h with h | h
        · exact .inl h
        · exact .inr ⟨e, List.mem_cons_self .., h⟩
      · exact .inl h
    · exact .inr ⟨e', List.mem_cons_of_mem _ h1, h2⟩
theorem spansE_len {l : List Episode} (t : Trace) (g : goodE l) : (spansE l t).length ≤ 14400 := by
  have := spAll_len t l [] g.2; have := g.1; simp only [List.length_nil] at *; unfold spansE; omega
theorem spansE_attrs {l : List Episode} (t : Trace) (g : goodE l) (s : Span) (h : s ∈ spansE l t) : s.Attrs.length ≤ 20 := by
  rcases spAll_mem t l [] h with h | ⟨e, h1, h2⟩
  · cases h
  · exact (g.2 e h1).2 s h2
theorem ecopy_spec {e : Episode} (h : smallE e) : episode_Copy e = some e := by
  rw [episode_Copy, copy_spec _ (by have := h.1; omega) (fun s hs => by have := h.2 s hs; omega)]; rfl
theorem there_spec (l : List Span) (s : Span) (hl : l.length ≤ 1000000000) : episode_there l s = some (hasId l s) := by
  have : slices_IndexFunc_Span_episode_there_c1 l s = some (idx (fun x => x.Id == s.Id) l) := by
    refine loop_find _ l hl (fun k hk => ?_) ?_
    · simp only [slices_IndexFunc_Span_episode_there_c1_l0, dec_t (by omega : (k : Int) < (l.length : Int)), if_true, gd_pos (by omega : (0 : Int) ≤ (k : Int)), Int.toNat_natCast, List.getElem?_eq_getElem hk, Option.bind_some, episode_there_c1, ksucc (by omega : k < 1099511627776)]
    · simp only [slices_IndexFunc_Span_episode_there_c1_l0, dec_f (by omega : ¬ (l.length : Int) < (l.length : Int)), Bool.false_eq_true, if_false]
  rw [episode_there, slices_ContainsFunc_Span_episode_there_c1, this]
  simp only [Option.bind_some, idx_any]; rfl
theorem epAdd_spec (e : Episode) (s : Span) (d : Int) (h : smallE e) (hs : s.Attrs.length ≤ 20) : episode_Add e s d = some (addE e s d) := by
  have hl := h.1
  simp only [episode_Add, ecopy_spec h, Option.bind_some, trace_eq, addE]
  by_cases ht : e.Trace = s.Trace
  · rw [dec_t ht.symm, if_pos ht]
    simp only [Bool.not_true, Bool.false_eq_true, if_false, there_spec _ s (by omega : e.Spans.length ≤ 1000000000), Option.bind_some, copy_spec [s] (by simp) (by simpa using by omega), gd_pos (show (e.Spans ++ [s]).length * 112 ≤ 140737488355328 ∧ (e.Spans ++ [s]).length ≤ 140737488355328 by simp only [List.length_append, List.length_singleton]; omega)]
    split <;> rfl
  · rw [dec_f (fun x => ht x.symm), if_neg ht]; rfl
theorem refAdd_spec (e : Episode) (s : Span) (d : Int) (h : e.Spans.length ≤ 1000000) : gleaningref15_Add e s d = some (addE e s d) := by
  simp only [gleaningref15_Add, trace_eq, addE]
  by_cases ht : e.Trace = s.Trace
  · have := loop_write (body := fun (v : Int) => gleaningref15_Add_l1 e s d v) (l := e.Spans) (fun x => x.Id == s.Id) (fun k => (k : Int)) (Sum.inl ()) (Sum.inr ((Episode.mk e.Trace e.First d e.Sure e.Spans), false)) (by omega)
      (fun k hk _ hb => by simp only [gleaningref15_Add_l1, dec_t (by omega : (k : Int) < (e.Spans.length : Int)), if_true, gd_pos (by omega : (0 : Int) ≤ (k : Int)), Int.toNat_natCast, List.getElem?_eq_getElem hk, Option.bind_some, hb, Bool.false_eq_true, if_false, ksucc (by omega : k < 1099511627776)])
      (fun k hk _ hb => by simp only [gleaningref15_Add_l1, dec_t (by omega : (k : Int) < (e.Spans.length : Int)), if_true, gd_pos (by omega : (0 : Int) ≤ (k : Int)), Int.toNat_natCast, List.getElem?_eq_getElem hk, Option.bind_some, hb])
      (fun _ => by simp only [gleaningref15_Add_l1, dec_f (by omega : ¬ (e.Spans.length : Int) < (e.Spans.length : Int)), Bool.false_eq_true, if_false])
    rw [show ((0 : Nat) : Int) = 0 from rfl] at this
    rw [dec_t ht, if_pos ht, this]
    simp only [Bool.not_true, Bool.false_eq_true, if_false, Option.bind_some]
    unfold hasId
    split
    · rfl
    · simp only [Sum.elim_inl, gleaningref15_Add_k0, gd_pos (show (e.Spans).length * 112 ≤ 140737488355328 ∧ (e.Spans).length ≤ 140737488355328 by omega), gd_pos (show (e.Spans ++ [s]).length * 112 ≤ 140737488355328 ∧ (e.Spans ++ [s]).length ≤ 140737488355328 by simp only [List.length_append, List.length_singleton]; omega)]
  · rw [dec_f ht, if_neg ht]; rfl
theorem spans_spec (l : List Episode) (t : Trace) (g : goodE l) : episode_Spans l t = some (spansE l t) := by
  have hl := g.1
  have : loopN (fun (s : List Span × Int) => episode_Spans_l1 l t s.1 s.2) Fu ([], 0) = some (spansE l t) := by
    refine loop_fold l (spF t) (fun b k => (b, (k : Int))) (fun b => b) [] (by omega) (fun k hk => ?_) ?_
    · have hlen := spAll_len t (l.take k) [] (fun e he => g.2 e (List.mem_of_mem_take he))
      revert hlen
      generalize (l.take k).foldl (spF t) [] = b
      intro hlen
      have hb : b.length ≤ 14400 := by simp only [List.length_nil, List.length_take] at hlen; omega
      have he := (g.2 l[k] (List.getElem_mem hk)).1
      revert he
      simp only [episode_Spans_l1, dec_t (by omega : (k : Int) < (l.length : Int)), if_true, gd_pos (by omega : (0 : Int) ≤ (k : Int)), Int.toNat_natCast, List.getElem?_eq_getElem hk, Option.bind_some, trace_eq, ksucc (by omega : k < 1099511627776), spF]
      generalize l[k] = e
      intro he
      by_cases ht : e.Trace = t
      · rw [dec_t ht, if_pos ht]
        simp only [Bool.not_true, Bool.false_eq_true, if_false]
        refine loop_fold e.Spans addS (fun b j => (b, (j : Int))) (fun b => Sum.inl (b, ((k + 1 : Nat) : Int))) b (by omega) (fun j hj => ?_) ?_
        · have h1 := addAll_len (e.Spans.take j) b
          revert h1
          generalize (e.Spans.take j).foldl addS b = c
          intro h1
          have hc : c.length ≤ 14460 := by simp only [List.length_take] at h1; omega
          simp only [episode_Spans_l2, dec_t (by omega : (j : Int) < (e.Spans.length : Int)), if_true, gd_pos (by omega : (0 : Int) ≤ (j : Int)), Int.toNat_natCast, List.getElem?_eq_getElem hj, Option.bind_some, there_spec c _ (by omega), ksucc (by omega : j < 1099511627776), addS, gd_pos (show (c ++ [e.Spans[j]]).length * 112 ≤ 140737488355328 ∧ (c ++ [e.Spans[j]]).length ≤ 140737488355328 by simp only [List.length_append, List.length_singleton]; omega)]
          cases hasId c e.Spans[j] <;> rfl
        · simp only [episode_Spans_l2, dec_f (by omega : ¬ (e.Spans.length : Int) < (e.Spans.length : Int)), Bool.false_eq_true, if_false, ksucc (by omega : k < 1099511627776)]
      · rw [dec_f ht, if_neg ht]; rfl
    · simp only [episode_Spans_l1, dec_f (by omega : ¬ (l.length : Int) < (l.length : Int)), Bool.false_eq_true, if_false]
  rw [episode_Spans, this, Option.bind_some, episode_Spans_k0, copy_spec _ (by have := spansE_len t g; omega) (fun s hs => by have := spansE_attrs t g s hs; omega)]
  rfl
theorem set_last {α : Type} (c : List α) (x y : α) : (c ++ [x]).set c.length y = c ++ [y] := by simp
theorem refSpans_spec (l : List Episode) (t : Trace) (g : goodE l) : gleaningref15_Spans l t = some (spansE l t) := by
  have hl := g.1
  refine loop_fold l (spF t) (fun b k => (t.Hi, t.Lo, (0 : Int), (0 : Int), false, b, (k : Int))) (fun b => b) [] (by omega) (fun k hk => ?_) ?_
  · have hlen := spAll_len t (l.take k) [] (fun e he => g.2 e (List.mem_of_mem_take he))
    revert hlen
    generalize (l.take k).foldl (spF t) [] = b
    intro hlen
    have hb : b.length ≤ 14400 := by simp only [List.length_nil, List.length_take] at hlen; omega
    have he := (g.2 l[k] (List.getElem_mem hk)).1
    have hk1 := List.getElem?_eq_getElem hk
    revert he hk1
    simp only [gleaningref15_Spans_l0, dec_t (by omega : (k : Int) < (l.length : Int)), if_true, spF]
    generalize l[k] = e
    intro he hk1
    by_cases ht : e.Trace = t
    · rw [if_pos ht]
      refine loop_fold e.Spans addS (fun b j => (t.Hi, t.Lo, (0 : Int), (0 : Int), false, b, (j : Int))) (fun b => Sum.inl (t.Hi, t.Lo, (0 : Int), (0 : Int), false, b, ((k + 1 : Nat) : Int))) b (by omega) (fun j hj => ?_) ?_
      · have h1 := addAll_len (e.Spans.take j) b
        revert h1
        generalize (e.Spans.take j).foldl addS b = c
        intro h1
        have hc : c.length ≤ 14460 := by simp only [List.length_take] at h1; omega
        simp only [gleaningref15_Spans_l1, gleaningref15_Spans_k2, dec_t (by omega : (j : Int) < (e.Spans.length : Int)), if_true, gd_pos (by omega : (0 : Int) ≤ (k : Int)), gd_pos (by omega : (0 : Int) ≤ (j : Int)), Int.toNat_natCast, hk1, List.getElem?_eq_getElem hj, Option.bind_some, trace_eq, dec_t ht, Sum.elim_inl, ksucc (by omega : j < 1099511627776)]
        rw [refAdd_spec _ _ _ (by show c.length ≤ _; omega)]
        simp only [Option.bind_some, addE, if_true, addS]
        have hh : hasId c (Span.mk t e.Spans[j].Id e.Spans[j].Parent e.Spans[j].Service e.Spans[j].Op e.Spans[j].Start e.Spans[j].Dur e.Spans[j].Err e.Spans[j].Attrs) = hasId c e.Spans[j] := rfl
        rw [hh]
        cases hasId c e.Spans[j] with
        | true => rfl
        | false =>
          have hw : IntKind.i64.wrap (((c ++ [Span.mk t e.Spans[j].Id e.Spans[j].Parent e.Spans[j].Service e.Spans[j].Op e.Spans[j].Start e.Spans[j].Dur e.Spans[j].Err e.Spans[j].Attrs]).length : Int) - 1) = (c.length : Int) := by
            rw [List.length_append, List.length_singleton, w64 (by omega) (by omega)]; push_cast; omega
          simp only [Bool.false_eq_true, if_false, if_true, hw, Int.toNat_natCast, gd_pos (by omega : (0 : Int) ≤ (c.length : Int)), List.getElem?_concat_length, Option.bind_some, set_last]
      · simp only [gleaningref15_Spans_l1, gleaningref15_Spans_k2, dec_f (by omega : ¬ (e.Spans.length : Int) < (e.Spans.length : Int)), Bool.false_eq_true, if_false, gd_pos (by omega : (0 : Int) ≤ (k : Int)), Int.toNat_natCast, hk1, Option.bind_some, Sum.elim_inr, ksucc (by omega : k < 1099511627776)]
    · rw [if_neg ht, loop_fu (fun n s r => s = (t.Hi, t.Lo, (0 : Int), (0 : Int), false, b, (0 : Int)) ∧ r = Sum.inl (t.Hi, t.Lo, (0 : Int), (0 : Int), false, b, ((k + 1 : Nat) : Int))) ?_ (n := 0) ⟨rfl, rfl⟩ (by decide)]
      rintro n s r ⟨rfl, rfl⟩
      refine .inr ?_
      simp only [gleaningref15_Spans_l1, gd_pos (by omega : (0 : Int) ≤ (k : Int)), Int.toNat_natCast, hk1, Option.bind_some, trace_eq, dec_f ht, Bool.false_eq_true, if_false, ite_self, Sum.elim_inr, ksucc (by omega : k < 1099511627776)]
  · simp only [gleaningref15_Spans_l0, dec_f (by omega : ¬ (l.length : Int) < (l.length : Int)), Bool.false_eq_true, if_false]
theorem sameEp_spec (a b : List Episode) (g : ∀ e ∈ a, e.Spans.length ≤ 1000000 ∧ ∀ s ∈ e.Spans, s.Attrs.length ≤ 1000000) (ha : a.length ≤ 1000000) : gleaningref15_SameEpisodes a b = some (decide (a = b)) := by
  by_cases hl : a.length = b.length
  · have h0 : ((a.length : Int) != (b.length : Int)) = false := by simp [hl]
    rw [gleaningref15_SameEpisodes, ite_f h0]
    refine loop_same a b hl (by omega) (fun k hk hk2 => ?_) ?_
    · have hg := g _ (List.getElem_mem hk)
      have hk1 := List.getElem?_eq_getElem hk
      have hk3 := List.getElem?_eq_getElem hk2
      revert hg hk1 hk3
      simp only [gleaningref15_SameEpisodes_l0, dec_t (by omega : (k : Int) < (a.length : Int)), if_true, gd_pos (by omega : (0 : Int) ≤ (k : Int)), Int.toNat_natCast, ksucc (by omega : k < 1099511627776), trace_eq]
      generalize a[k] = x; generalize b[k] = y
      intro hg h1 h2
      simp only [h1, h2, Option.bind_some, sameSpans_spec _ _ hg.1 hg.2]
      cases x with | mk xt xf xl xs xp => cases y with | mk yt yf yl ys yp =>
      simp only [Episode.mk.injEq]
      by_cases e1 : xt = yt <;> by_cases e2 : xf = yf <;> by_cases e3 : xl = yl <;> by_cases e4 : xs = ys <;> by_cases e5 : xp = yp <;> simp [e1, e2, e3, e4, e5]
    · simp only [gleaningref15_SameEpisodes_l0, dec_f (by omega : ¬ (a.length : Int) < (a.length : Int)), Bool.false_eq_true, if_false]
  · have h0 : ((a.length : Int) != (b.length : Int)) = true := by simp only [bne_iff_ne, ne_eq]; omega
    rw [gleaningref15_SameEpisodes, ite_t h0, dec_f (by rintro rfl; exact hl rfl)]
theorem few15_spec (l : List Episode) : ∃ b, gleaninglaw15_Few l = some b ∧ (b = true → l.length ≤ 120 ∧ ∀ e ∈ l, smallE e) := by
  refine loop_inv (fun n (q : Int × Int) => ∃ (k c : Nat), k ≤ l.length ∧ k ≤ c ∧ c ≤ 1061 ∧ n = 2000 - k ∧ q = ((c : Int), (k : Int)) ∧ ∀ a ∈ l.take k, smallE a) _ ?_ Fu 2000 (0, 0) ⟨0, 0, by omega, by omega, by omega, rfl, rfl, by simp⟩ (by rw [fu_eq]; omega)
  rintro n q ⟨k, c, hk, hc, hc2, rfl, rfl, ha⟩
  by_cases e : k = l.length
  · refine .inr ⟨decide ((c : Int) ≤ 120), ?_, fun h => ⟨by have := of_decide_eq_true h; omega, by rwa [e, List.take_length] at ha⟩⟩
    simp only [gleaninglaw15_Few_l0, dec_f (by omega : ¬ (k : Int) < (l.length : Int)), Bool.false_eq_true, if_false, Option.bind_some, Sum.elim_inr]
  have hk2 : k < l.length := by omega
  by_cases e1 : c < 1000
  · obtain ⟨b, hb, hb2⟩ := fewAll_spec l[k].Spans
    cases b with
    | false =>
      refine .inr ⟨false, ?_, by simp⟩
      simp only [gleaninglaw15_Few_l0, gleaninglaw15_Few_k1, dec_t (by omega : (k : Int) < (l.length : Int)), dec_t (by omega : (c : Int) < 1000), if_true, gd_pos (by omega : (0 : Int) ≤ (k : Int)), Int.toNat_natCast, List.getElem?_eq_getElem hk2, Option.bind_some, Sum.elim_inl, hb, Bool.not_false]
    | true =>
      have hlen := (hb2 rfl).1
      refine .inl ⟨(((c + 1 + l[k].Spans.length : Nat) : Int), ((k + 1 : Nat) : Int)), 2000 - (k + 1), ?_, by omega, k + 1, _, by omega, by omega, by omega, rfl, rfl, fun a h => ?_⟩
      · simp only [gleaninglaw15_Few_l0, gleaninglaw15_Few_k1, dec_t (by omega : (k : Int) < (l.length : Int)), dec_t (by omega : (c : Int) < 1000), if_true, gd_pos (by omega : (0 : Int) ≤ (k : Int)), Int.toNat_natCast, List.getElem?_eq_getElem hk2, Option.bind_some, Sum.elim_inl, hb, Bool.not_true, Bool.false_eq_true, if_false, ksucc (by omega : k < 1099511627776), ksucc (by omega : c < 1099511627776)]
        rw [w64 (by omega) (by omega)]
        push_cast; rfl
      · rw [List.take_succ_eq_append_getElem hk2] at h
        rcases List.mem_append.1 h with h | h
        · exact ha a h
        · rw [List.mem_singleton.1 h]; exact ⟨hlen, fun s hs => ((hb2 rfl).2 s hs).2.2.1⟩
  · refine .inr ⟨false, ?_, by simp⟩
    simp only [gleaninglaw15_Few_l0, dec_t (by omega : (k : Int) < (l.length : Int)), dec_f (by omega : ¬ (c : Int) < 1000), dec_f (by omega : ¬ (c : Int) ≤ 120), if_true, Bool.false_eq_true, if_false, Option.bind_some, Sum.elim_inr]
theorem alive15 : gleaninglaw15_alive = some true := by
  rw [gleaninglaw15_alive, epAdd_spec _ _ _ ⟨by simp, by simp⟩ (by simp), Option.bind_some, spans_spec [] _ ⟨by simp, by simp⟩]
  rfl
end Go.Proofs.Ytlkdpgemdopbfaa.Ab
