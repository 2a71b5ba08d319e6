/- The laws of chapter 15. -/
import Derived.Test.YtlkdpgemdopbfaaPEpisode
namespace Go.Proofs.Ytlkdpgemdopbfaa.Ab
open Go Go.RowKit
set_option linter.unusedVariables false
set_option linter.unusedSimpArgs false

theorem smallS_attrs {s : Span} (h : smallS s) : s.Attrs.length ≤ 20 := h.2.2.1
theorem few_attrs {s : Span} (h : gleaninglaw3_Few s = some true) : smallS s := by
  obtain ⟨b, h1, h2⟩ := few_spec s
  rw [h] at h1; exact h2 (Option.some.inj h1).symm
theorem fewE {l : List Episode} (h : gleaninglaw15_Few l = some true) : l.length ≤ 120 ∧ ∀ e ∈ l, smallE e := by
  obtain ⟨b, h1, h2⟩ := few15_spec l
  rw [h] at h1; exact h2 (Option.some.inj h1).symm
theorem few_tot (s : Span) : gleaninglaw3_Few s = some true ∨ gleaninglaw3_Few s = some false := by
  obtain ⟨b, h1, _⟩ := few_spec s; cases b <;> simp [h1]
theorem fewE_tot (l : List Episode) : gleaninglaw15_Few l = some true ∨ gleaninglaw15_Few l = some false := by
  obtain ⟨b, h1, _⟩ := few15_spec l; cases b <;> simp [h1]
theorem addE_small {e : Episode} (s : Span) (d : Int) (h : smallE e) (hs : s.Attrs.length ≤ 20) : (addE e s d).1.Spans.length ≤ 61 ∧ ∀ x ∈ (addE e s d).1.Spans, x.Attrs.length ≤ 20 := by
  unfold addE
  split
  · split
    · exact ⟨by have := h.1; show e.Spans.length ≤ 61; omega, h.2⟩
    · refine ⟨by have := h.1; simp only [List.length_append, List.length_singleton]; omega, fun x hx => ?_⟩
      rcases List.mem_append.1 hx with hx | hx
      · exact h.2 x hx
      · rw [List.mem_singleton.1 hx]; exact hs
  · exact ⟨by have := h.1; show e.Spans.length ≤ 61; omega, h.2⟩
theorem episodeTells_true (l : List Episode) (e : Episode) (s : Span) (d : Int) (_ : List.length l ≤ maxLen ∧ ∀ y ∈ l, Episode.wf y) (_ : Episode.wf e) (_ : Span.wf s) (_ : inI .i64 d) : gleaninglaw15_EpisodeTells l e s d = some true := by
  rw [gleaninglaw15_EpisodeTells, alive15, Option.bind_some]
  rcases fewE_tot l with h1 | h1
  case inr => simp [h1]
  rcases fewE_tot [e] with h2 | h2
  case inr => simp [h1, h2]
  rcases few_tot s with h3 | h3
  case inr => simp [h1, h2, h3]
  have g1 := fewE h1
  have g2 := (fewE h2).2 e (by simp)
  have g3 := smallS_attrs (few_attrs h3)
  have g : goodE l := ⟨by omega, g1.2⟩
  simp only [h1, h2, h3, Bool.not_true, Bool.false_eq_true, if_false, Option.bind_some, Sum.elim_inl, gleaninglaw15_EpisodeTells_k0, epAdd_spec e s d g2 g3, refAdd_spec e s d (by have := g2.1; omega)]
  have hg := addE_small s d g2 g3
  rw [sameEp_spec _ _ (by intro x hx; rw [List.mem_singleton.1 hx]; exact ⟨by omega, fun y hy => by have := hg.2 y hy; omega⟩) (by simp), dec_t rfl]
  simp only [spans_spec l _ g, refSpans_spec l _ g, Option.bind_some, if_true]
  rw [sameSpans_spec _ _ (by have := spansE_len s.Trace g; omega) (fun x hx => by have := spansE_attrs s.Trace g x hx; omega), dec_t rfl]
  cases (addE e s d).2 <;> rfl
/-- the spans of a trace, not yet sorted out -/
def flatE (t : Trace) (l : List Episode) : List Span := l.flatMap (fun e => if e.Trace = t then e.Spans else [])
theorem spAll_flat (t : Trace) : ∀ (l : List Episode) (b : List Span), l.foldl (spF t) b = (flatE t l).foldl addS b
  | [], b => rfl
  | e :: l, b => by
    have e1 : flatE t (e :: l) = (if e.Trace = t then e.Spans else []) ++ flatE t l := List.flatMap_cons
    rw [List.foldl_cons, spAll_flat t l, e1, List.foldl_append]
    unfold spF
    split <;> rfl
theorem spansE_flat (l : List Episode) (t : Trace) : spansE l t = (flatE t l).foldl addS [] := spAll_flat t l []
theorem hasId_mem {l : List Span} {s : Span} : hasId l s = true ↔ ∃ x ∈ l, x.Id = s.Id := by simp [hasId]
theorem join_all (X : List Span) : ∀ (m B : List Span), m.foldl addS (X ++ B.filter (fun x => !hasId X x)) = X ++ (m.foldl addS B).filter (fun x => !hasId X x)
  | [], B => rfl
  | s :: m, B => by
    rw [List.foldl_cons, List.foldl_cons, ← join_all X m (addS B s)]
    congr 1
    unfold addS
    by_cases hX : hasId X s = true
    · rw [ite_t (by rw [hasId_mem] at hX ⊢; obtain ⟨x, h1, h2⟩ := hX; exact ⟨x, List.mem_append_left _ h1, h2⟩)]
      split
      · rfl
      · rw [List.filter_append]; simp [hX]
    · have hX' : hasId X s = false := by simpa using hX
      by_cases hB : hasId B s = true
      · rw [ite_t hB, ite_t]
        rw [hasId_mem] at hB ⊢
        obtain ⟨x, h1, h2⟩ := hB
        refine ⟨x, List.mem_append_right _ (List.mem_filter.2 ⟨h1, ?_⟩), h2⟩
        have : hasId X x = hasId X s := by unfold hasId; rw [h2]
        rw [this, hX']; rfl
      · have hB' : hasId B s = false := by simpa using hB
        rw [ite_f hB', ite_f, List.filter_append]
        · simp [hX']
        · rw [← Bool.not_eq_true, hasId_mem]
          rintro ⟨x, h1, h2⟩
          rcases List.mem_append.1 h1 with h1 | h1
          · exact hX (hasId_mem.2 ⟨x, h1, h2⟩)
          · exact hB (hasId_mem.2 ⟨x, (List.mem_filter.1 h1).1, h2⟩)
def gS (X acc : List Span) (s : Span) : List Span := if hasId X s = true then acc else acc ++ [s]
theorem gS_all (X : List Span) : ∀ (L acc : List Span), L.foldl (gS X) acc = acc ++ L.filter (fun x => !hasId X x)
  | [], acc => by simp
  | s :: L, acc => by
    rw [List.foldl_cons, gS_all X L, gS]
    cases h : hasId X s <;> simp [h]
theorem take_any {α : Type} (p : α → Bool) (l : List α) (k : Nat) (hk : k < l.length) : (l.take (k + 1)).any p = ((l.take k).any p || p l[k]) := by
  rw [List.take_succ_eq_append_getElem hk, List.any_append]; simp
/-- the loop that asks each, and keeps a flag -/
theorem loop_flag {α : Type} {body : Bool × Int → Option ((Bool × Int) ⊕ Bool)} (p : α → Bool) (l : List α) (hl : l.length ≤ 1000000000)
    (h : ∀ (k : Nat) (hk : k < l.length) (b : Bool), body (b, (k : Int)) = some (.inl (b || p l[k], ((k + 1 : Nat) : Int)))) (hend : ∀ b, body (b, (l.length : Int)) = some (.inr b)) : loopN body Fu (false, 0) = some (l.any p) := by
  refine loop_list (l := l) (fun k r s => s = ((l.take k).any p, (k : Int)) ∧ r = l.any p) (by omega) ?_ ?_ ⟨rfl, rfl⟩
  · rintro k hk r s ⟨rfl, rfl⟩
    exact .inl ⟨_, h k hk _, by rw [take_any p l k hk], rfl⟩
  · rintro r s ⟨rfl, rfl⟩
    rw [List.take_length]; exact hend _
theorem episodeJoins_true (a b : List Episode) (t : Trace) (_ : List.length a ≤ maxLen ∧ ∀ y ∈ a, Episode.wf y) (_ : List.length b ≤ maxLen ∧ ∀ y ∈ b, Episode.wf y) (_ : Trace.wf t) : gleaninglaw15_EpisodeJoins a b t = some true := by
  rw [gleaninglaw15_EpisodeJoins, alive15, Option.bind_some]
  rcases fewE_tot a with h1 | h1
  case inr => simp [h1]
  rcases fewE_tot b with h2 | h2
  case inr => simp [h1, h2]
  have f1 := fewE h1
  have f2 := fewE h2
  have g1 : goodE a := ⟨by omega, f1.2⟩
  have g2 : goodE b := ⟨by omega, f2.2⟩
  have g3 : goodE (a ++ b) := ⟨by rw [List.length_append]; omega, fun e he => (List.mem_append.1 he).elim (f1.2 e) (f2.2 e)⟩
  have hX := spansE_len t g1
  have hY := spansE_len t g2
  simp only [h1, h2, Bool.not_true, Bool.false_eq_true, if_false, Option.bind_some, Sum.elim_inl, gleaninglaw15_EpisodeJoins_k0, spans_spec a t g1, spans_spec b t g2, gd_pos (show (spansE a t).length * 112 ≤ 140737488355328 ∧ (spansE a t).length ≤ 140737488355328 by omega)]
  have hloop : loopN (fun (s : List Span × Int) => gleaninglaw15_EpisodeJoins_l2 (spansE a t) (spansE b t) s.1 s.2) Fu (spansE a t, 0) = some ((spansE b t).foldl (gS (spansE a t)) (spansE a t)) := by
    revert hX hY
    generalize spansE a t = X; generalize spansE b t = Y
    intro hX hY
    refine loop_fold Y (gS X) (fun b k => (b, (k : Int))) (fun b => b) X (by omega) (fun k hk => ?_) ?_
    · have hlen : ((Y.take k).foldl (gS X) X).length ≤ 14400 + 14400 := by
        rw [gS_all, List.length_append]
        have := List.length_filter_le (fun x => !hasId X x) (Y.take k)
        rw [List.length_take] at this
        omega
      revert hlen
      generalize (Y.take k).foldl (gS X) X = c
      intro hlen
      have hi : loopN (fun (s : Bool × Int) => gleaninglaw15_EpisodeJoins_l4 X Y (k : Int) s.1 s.2) Fu (false, 0) = some (hasId X Y[k]) := by
        refine loop_flag _ X (by omega) (fun j hj f => ?_) (fun f => ?_)
        · simp only [gleaninglaw15_EpisodeJoins_l4, dec_t (by omega : (j : Int) < (X.length : Int)), if_true, gd_pos (by omega : (0 : Int) ≤ (k : Int)), gd_pos (by omega : (0 : Int) ≤ (j : Int)), Int.toNat_natCast, List.getElem?_eq_getElem hk, List.getElem?_eq_getElem hj, Option.bind_some, ksucc (by omega : j < 1099511627776)]
          cases f <;> rfl
        · simp only [gleaninglaw15_EpisodeJoins_l4, dec_f (by omega : ¬ (X.length : Int) < (X.length : Int)), Bool.false_eq_true, if_false]
      simp only [gleaninglaw15_EpisodeJoins_l2, gleaninglaw15_EpisodeJoins_k3, dec_t (by omega : (k : Int) < (Y.length : Int)), if_true, hi, gd_pos (by omega : (0 : Int) ≤ (k : Int)), Int.toNat_natCast, List.getElem?_eq_getElem hk, Option.bind_some, ksucc (by omega : k < 1099511627776), gd_pos (show (c ++ [Y[k]]).length * 112 ≤ 140737488355328 ∧ (c ++ [Y[k]]).length ≤ 140737488355328 by simp only [List.length_append, List.length_singleton]; omega), gS]
      cases hasId X Y[k] <;> rfl
    · simp only [gleaninglaw15_EpisodeJoins_l2, dec_f (by omega : ¬ (Y.length : Int) < (Y.length : Int)), Bool.false_eq_true, if_false]
  have hj : spansE (a ++ b) t = (spansE b t).foldl (gS (spansE a t)) (spansE a t) := by
    have h := join_all (spansE a t) (flatE t b) []
    rw [List.filter_nil, List.append_nil] at h
    rw [gS_all, spansE_flat (a ++ b), flatE, List.flatMap_append, List.foldl_append]
    have e1 : (List.flatMap (fun e => if e.Trace = t then e.Spans else []) a).foldl addS [] = spansE a t := (spansE_flat a t).symm
    rw [e1, spansE_flat b]
    exact h
  simp only [hloop, Option.bind_some, gleaninglaw15_EpisodeJoins_k1, gd_pos (show a.length * 64 ≤ 140737488355328 ∧ a.length ≤ 140737488355328 by omega), gd_pos (show (a ++ b).length * 64 ≤ 140737488355328 ∧ (a ++ b).length ≤ 140737488355328 by rw [List.length_append]; omega), spans_spec _ t g3]
  rw [sameSpans_spec _ _ (by have := spansE_len t g3; omega) (fun x hx => by have := spansE_attrs t g3 x hx; omega), dec_t hj]
  rfl
/-! of each Id the first one -/
def lo4 (x : Int) : Int := bits .and .i64 x 15
theorem lo4_range (x : Int) : 0 ≤ lo4 x ∧ lo4 x ≤ 15 := by
  have h : lo4 x = (((BitVec.ofInt 64 x).toNat &&& 15 : Nat) : Int) := by
    show IntKind.i64.wrap (((BitVec.ofInt 64 x) &&& (BitVec.ofInt 64 15)).toNat : Int) = _
    rw [BitVec.toNat_and, show (BitVec.ofInt 64 15).toNat = 15 by decide]
    have := Nat.and_le_right (n := (BitVec.ofInt 64 x).toNat) (m := 15)
    exact w64 (by omega) (by omega)
  have := Nat.and_le_right (n := (BitVec.ofInt 64 x).toNat) (m := 15)
  omega
theorem lo4_u (x : Int) : IntKind.u64.wrap (lo4 x) = lo4 x := wu64 (lo4_range x).1 (by have := lo4_range x; omega)
theorem lo4_i (x : Int) : IntKind.i64.wrap (lo4 x) = lo4 x := by have := lo4_range x; exact w64 (by omega) (by omega)
theorem hasId_foldl (s : Span) : ∀ (m b : List Span), hasId (m.foldl addS b) s = (hasId b s || hasId m s)
  | [], b => by simp [hasId]
  | x :: m, b => by
    rw [List.foldl_cons, hasId_foldl s m]
    have e1 : hasId (x :: m) s = ((x.Id == s.Id) || hasId m s) := by simp [hasId]
    rw [e1]
    unfold addS
    split
    · rename_i h
      cases hx : (x.Id == s.Id) with
      | false => simp
      | true =>
        have : hasId b s = true := by
          rw [hasId_mem] at h ⊢
          obtain ⟨y, h1, h2⟩ := h
          exact ⟨y, h1, by rw [h2]; simpa using hx⟩
        simp [this]
    · have : hasId (b ++ [x]) s = (hasId b s || (x.Id == s.Id)) := by simp [hasId]
      rw [this, Bool.or_assoc]
theorem flatE_add (A C : List Span) (s : Span) : (A ++ addS C s).foldl addS [] = addS ((A ++ C).foldl addS []) s := by
  unfold addS
  split
  · rename_i h
    have : hasId ((A ++ C).foldl addS []) s = true := by
      rw [hasId_foldl, Bool.or_eq_true]
      refine .inr ?_
      rw [hasId_mem] at h ⊢
      obtain ⟨x, h1, h2⟩ := h
      exact ⟨x, List.mem_append_right _ h1, h2⟩
    exact (ite_t this).symm
  · rw [← List.append_assoc, List.foldl_append]
    rfl
structure OnceI (ids : List Int) (t : Trace) (i : Nat) (eps : List Episode) (e : Episode) (want : List Int) : Prop where
  i_le : i ≤ ids.length
  n_eps : eps.length ≤ 2 * i
  n_sp : e.Spans.length ≤ i
  n_w : want.length ≤ i
  tr : e.Trace = t
  sm : ∀ x ∈ eps, smallE x
  sp : ∀ s ∈ e.Spans, s.Attrs.length ≤ 20
  ids_eq : (spansE (eps ++ [e]) t).map Span.Id = want
  start : ∀ s ∈ spansE (eps ++ [e]) t, ∃ (j : Nat) (hj : j < ids.length), s.Start = (j : Int) ∧ s.Id = lo4 ids[j]
theorem flatE_app (t : Trace) (a b : List Episode) : flatE t (a ++ b) = flatE t a ++ flatE t b := List.flatMap_append
theorem flatE_one {t : Trace} {e : Episode} (h : e.Trace = t) : flatE t [e] = e.Spans := by simp [flatE, h]
theorem flatE_other {t : Trace} {e : Episode} (h : ¬ e.Trace = t) : flatE t [e] = [] := by simp [flatE, h]
theorem hasId_map (l : List Span) (s : Span) : hasId l s = (l.map Span.Id).any (fun x => x == s.Id) := by simp [hasId, List.any_map, Function.comp_def]
theorem once_step {ids : List Int} {t : Trace} {i : Nat} {eps : List Episode} {e : Episode} {want : List Int} (h : OnceI ids t i eps e want) (hi : i < ids.length) (s : Span) (hs1 : s.Trace = t) (hs2 : s.Id = lo4 ids[i]) (hs3 : s.Start = (i : Int)) (hs4 : s.Attrs = []) (d : Int) :
    OnceI ids t (i + 1) eps (addE e s d).1 (if want.any (fun x => x == lo4 ids[i]) = true then want else want ++ [lo4 ids[i]]) := by
  obtain ⟨h1, h2, h3, h4, h5, h6, h7, h8, h9⟩ := h
  have hsp : (addE e s d).1.Spans = addS e.Spans s := by
    unfold addE addS; rw [if_pos (h5.trans hs1.symm)]; split <;> rfl
  have htr : (addE e s d).1.Trace = t := by unfold addE; rw [if_pos (h5.trans hs1.symm)]; split <;> exact h5
  have hD : spansE (eps ++ [(addE e s d).1]) t = addS (spansE (eps ++ [e]) t) s := by
    rw [spansE_flat, spansE_flat, flatE_app, flatE_app, flatE_one htr, flatE_one h5, hsp, flatE_add]
  have hany : hasId (spansE (eps ++ [e]) t) s = want.any (fun x => x == lo4 ids[i]) := by rw [hasId_map, h8, hs2]
  refine ⟨by omega, by omega, ?_, ?_, htr, h6, ?_, ?_, ?_⟩
  · rw [hsp]; have := addS_len s e.Spans; omega
  · split
    · omega
    · rw [List.length_append, List.length_singleton]; omega
  · rw [hsp]
    intro x hx
    rcases addS_mem hx with hx | rfl
    · exact h7 x hx
    · rw [hs4]; simp
  · rw [hD, addS, hany]
    split
    · exact h8
    · rw [List.map_append, h8]; simp [hs2]
  · rw [hD]
    intro x hx
    rcases addS_mem hx with hx | rfl
    · exact h9 x hx
    · exact ⟨i, hi, hs3, hs2⟩
theorem once_cut {ids : List Int} {t : Trace} {i : Nat} {eps : List Episode} {e : Episode} {want : List Int} (h : OnceI ids t (i + 1) eps e want) (hn : eps.length ≤ 2 * i) (hi : i < 60) (j : Episode) (hj : ¬ j.Trace = t) (hj2 : smallE j) (f l : Int) (b : Bool) :
    OnceI ids t (i + 1) (eps ++ [e, j]) (Episode.mk t f l b []) want := by
  obtain ⟨h1, h2, h3, h4, h5, h6, h7, h8, h9⟩ := h
  have hD : spansE ((eps ++ [e, j]) ++ [Episode.mk t f l b []]) t = spansE (eps ++ [e]) t := by
    rw [spansE_flat, spansE_flat, flatE_app, flatE_app, flatE_app, show [e, j] = [e] ++ [j] from rfl, flatE_app, flatE_other hj, flatE_one (show (Episode.mk t f l b []).Trace = t from rfl)]
    simp
  refine ⟨h1, by simp; omega, by simp, h4, rfl, fun x hx => ?_, by simp, by rw [hD]; exact h8, by rw [hD]; exact h9⟩
  rcases List.mem_append.1 hx with hx | hx
  · exact h6 x hx
  · rcases List.mem_cons.1 hx with rfl | hx
    · exact ⟨by omega, h7⟩
    · rw [List.mem_singleton.1 hx]; exact hj2
theorem episodeOnce_true (ids : List Int) (a1 : Int) (t : Trace) (_ : List.length ids ≤ maxLen ∧ ∀ y ∈ ids, inI .i64 y) (_ : inI .i64 a1) (ht : Trace.wf t) : gleaninglaw15_EpisodeOnce ids a1 t = some true := by
  rw [gleaninglaw15_EpisodeOnce, alive15, Option.bind_some]
  by_cases h1 : (60 : Int) < (ids.length : Int)
  · simp [h1]
  by_cases h2 : a1 < 1
  · simp [h1, h2]
  by_cases h3 : (20 : Int) < a1
  · simp [h1, h2, h3]
  simp only [h1, h2, h3, Bool.not_true, Bool.false_eq_true, if_false, decide_false, Option.bind_some, Sum.elim_inl, gleaninglaw15_EpisodeOnce_k0]
  have hloop : ∃ r, loopN (fun (s : List Episode × Int × Int × Int × Int × Bool × List Span × List Int × Int) => gleaninglaw15_EpisodeOnce_l2 ids a1 t s.1 s.2.1 s.2.2.1 s.2.2.2.1 s.2.2.2.2.1 s.2.2.2.2.2.1 s.2.2.2.2.2.2.1 s.2.2.2.2.2.2.2.1 s.2.2.2.2.2.2.2.2) Fu ([], t.Hi, t.Lo, 0, 0, false, [], [], 0) = some r ∧ OnceI ids t ids.length r.1 (Episode.mk (Trace.mk r.2.1 r.2.2.1) r.2.2.2.1 r.2.2.2.2.1 r.2.2.2.2.2.1 r.2.2.2.2.2.2.1) r.2.2.2.2.2.2.2 := by
    refine loop_inv (fun n (s : List Episode × Int × Int × Int × Int × Bool × List Span × List Int × Int) => ∃ (i : Nat), n = ids.length - i ∧ s.2.2.2.2.2.2.2.2 = (i : Int) ∧ OnceI ids t i s.1 (Episode.mk (Trace.mk s.2.1 s.2.2.1) s.2.2.2.1 s.2.2.2.2.1 s.2.2.2.2.2.1 s.2.2.2.2.2.2.1) s.2.2.2.2.2.2.2.1) _ ?_ Fu ids.length _ ⟨0, rfl, rfl, by omega, by simp, by simp, by simp, rfl, by simp, by simp, ?_, ?_⟩ (by rw [fu_eq]; omega)
    · rintro n ⟨eps, hi, lo, f, la, su, sp, want, q⟩ ⟨i, rfl, hq, h⟩
      dsimp only at hq h
      subst hq
      by_cases e : i = ids.length
      · subst e
        refine .inr ⟨(eps, hi, lo, f, la, su, sp, want), ?_, h⟩
        simp only [gleaninglaw15_EpisodeOnce_l2, dec_f (by omega : ¬ (ids.length : Int) < (ids.length : Int)), Bool.false_eq_true, if_false]
      have hi' : i < ids.length := by have := h.i_le; omega
      have hst := once_step h hi' (Span.mk t (IntKind.u64.wrap (lo4 ids[i])) 0 (strOf []) (strOf []) (i : Int) 0 false []) rfl (lo4_u _) rfl rfl (i : Int)
      have hadd := epAdd_spec (Episode.mk (Trace.mk hi lo) f la su sp) (Span.mk t (IntKind.u64.wrap (lo4 ids[i])) 0 (strOf []) (strOf []) (i : Int) 0 false []) (i : Int) ⟨by have := h.n_sp; omega, h.sp⟩ (by simp)
      have hflag : loopN (fun (s : Bool × Int) => gleaninglaw15_EpisodeOnce_l4 want ids[i] s.1 s.2) Fu (false, 0) = some (want.any (fun x => x == lo4 ids[i])) := by
        refine loop_flag _ want (by have := h.n_w; omega) (fun j hj f => ?_) (fun f => ?_)
        · have hu := lo4_u ids[i]
          unfold lo4 at hu
          have := h.n_w
          simp only [gleaninglaw15_EpisodeOnce_l4, dec_t (by omega : (j : Int) < (want.length : Int)), if_true, gd_pos (by omega : (0 : Int) ≤ (j : Int)), Int.toNat_natCast, List.getElem?_eq_getElem hj, Option.bind_some, ksucc (by omega : j < 1099511627776), hu]
          cases f <;> rfl
        · simp only [gleaninglaw15_EpisodeOnce_l4, dec_f (by omega : ¬ (want.length : Int) < (want.length : Int)), Bool.false_eq_true, if_false]
      unfold lo4 at hadd hst hflag
      have hu := lo4_u ids[i]
      unfold lo4 at hu
      have hwl : want.length ≤ i := h.n_w
      have hel := h.n_eps
      have hst' := hst
      revert hst
      simp only [gleaninglaw15_EpisodeOnce_l2, dec_t (by omega : (i : Int) < (ids.length : Int)), if_true, gd_pos (by omega : (0 : Int) ≤ (i : Int)), Int.toNat_natCast, List.getElem?_eq_getElem hi', Option.bind_some, hadd, hflag]
      revert hst'
      generalize addE (Episode.mk (Trace.mk hi lo) f la su sp) (Span.mk t (IntKind.u64.wrap (bits .and .i64 ids[i] 15)) 0 (strOf []) (strOf []) (i : Int) 0 false []) (i : Int) = x
      intro hst' hst
      have hk5 : ∀ w : List Int, OnceI ids t (i + 1) eps x.1 w → ∃ s' m, gleaninglaw15_EpisodeOnce_k5 a1 t eps (i : Int) x w = some (Sum.inl s') ∧ m < ids.length - i ∧ ∃ (i : Nat), m = ids.length - i ∧ s'.2.2.2.2.2.2.2.2 = (i : Int) ∧ OnceI ids t i s'.1 (Episode.mk (Trace.mk s'.2.1 s'.2.2.1) s'.2.2.2.1 s'.2.2.2.2.1 s'.2.2.2.2.2.1 s'.2.2.2.2.2.2.1) s'.2.2.2.2.2.2.2.1 := by
        intro w hw
        simp only [gleaninglaw15_EpisodeOnce_k5, gd_pos (by omega : ¬ a1 = 0), ksucc (by omega : i < 1099511627776)]
        split
        · rw [gd_pos (by simp only [List.length_append, List.length_cons, List.length_nil]; omega)]
          refine ⟨_, ids.length - (i + 1), rfl, by omega, i + 1, rfl, rfl, ?_⟩
          refine once_cut hw hel (by omega) _ (fun e2 => ?_) ⟨by simp, by simp⟩ 0 0 false
          have e3 : IntKind.u64.wrap (t.Lo + 1) = t.Lo := congrArg Trace.Lo e2
          have e4 := ht.2
          simp only [inI, IntKind.min, IntKind.max, IntKind.bits, IntKind.signed] at e4
          simp only [IntKind.wrap, IntKind.bits, IntKind.signed] at e3
          revert e3 e4
          simp
          omega
        · refine ⟨_, ids.length - (i + 1), rfl, by omega, i + 1, rfl, rfl, ?_⟩
          exact hw
      refine .inl ?_
      simp only [gleaninglaw15_EpisodeOnce_k3, hu]
      cases hw : want.any (fun x => x == bits .and .i64 ids[i] 15) with
      | true =>
        rw [hw, if_pos rfl] at hst
        simpa using hk5 _ hst
      | false =>
        rw [hw, if_neg (by decide)] at hst
        simp only [Bool.not_false, if_true, gd_pos (show (want ++ [bits .and .i64 ids[i] 15]).length * 8 ≤ 140737488355328 ∧ (want ++ [bits .and .i64 ids[i] 15]).length ≤ 140737488355328 by simp only [List.length_append, List.length_singleton]; omega), Option.bind_some]
        exact hk5 _ hst
    · simp [spansE, spF]
    · simp [spansE, spF]
  obtain ⟨⟨eps, hi, lo, f, la, su, sp, want⟩, hr, h⟩ := hloop
  dsimp only at h
  rw [hr]
  have g : goodE (eps ++ [Episode.mk (Trace.mk hi lo) f la su sp]) := by
    refine ⟨by have := h.n_eps; simp; omega, fun e he => ?_⟩
    rcases List.mem_append.1 he with he | he
    · exact h.sm e he
    · rw [List.mem_singleton.1 he]; exact ⟨by have := h.n_sp; dsimp only at this ⊢; omega, h.sp⟩
  have h0 := h.n_eps
  simp only [Option.bind_some, gleaninglaw15_EpisodeOnce_k1, gd_pos (show (eps ++ [Episode.mk (Trace.mk hi lo) f la su sp]).length * 64 ≤ 140737488355328 ∧ (eps ++ [Episode.mk (Trace.mk hi lo) f la su sp]).length ≤ 140737488355328 by simp only [List.length_append, List.length_singleton]; omega), spans_spec _ t g]
  have hids := h.ids_eq
  have hstart := h.start
  have hlen := spansE_len t g
  revert hids hstart hlen
  generalize spansE (eps ++ [Episode.mk (Trace.mk hi lo) f la su sp]) t = D
  intro hids hstart hlen
  have hDl : D.length = want.length := by rw [← hids, List.length_map]
  have h5 : ((D.length : Int) != (want.length : Int)) = false := by simp [hDl]
  rw [ite_f h5]
  refine loop_list (l := D) (fun k r s => s = (k : Int) ∧ r = true) (by omega) ?_ ?_ ⟨rfl, rfl⟩
  · rintro k hk r s ⟨rfl, rfl⟩
    refine .inl ⟨((k + 1 : Nat) : Int), ?_, rfl, rfl⟩
    obtain ⟨j, hj, e1, e2⟩ := hstart D[k] (List.getElem_mem hk)
    have hw : want[k]? = some (D[k].Id) := by rw [← hids, List.getElem?_map, List.getElem?_eq_getElem hk]; rfl
    have e3 := lo4_i ids[j]
    unfold lo4 at e2 e3
    simp only [gleaninglaw15_EpisodeOnce_l6, dec_t (by omega : (k : Int) < (D.length : Int)), if_true, gd_pos (by omega : (0 : Int) ≤ (k : Int)), Int.toNat_natCast, List.getElem?_eq_getElem hk, Option.bind_some, hw, bne_self_eq_false, Bool.false_eq_true, if_false, e1, gd_pos (by omega : (0 : Int) ≤ (j : Int)), List.getElem?_eq_getElem hj, e2, e3, ksucc (by omega : k < 1099511627776)]
  · rintro r s ⟨rfl, rfl⟩
    simp only [gleaninglaw15_EpisodeOnce_l6, dec_f (by omega : ¬ (D.length : Int) < (D.length : Int)), Bool.false_eq_true, if_false]
end Go.Proofs.Ytlkdpgemdopbfaa.Ab
