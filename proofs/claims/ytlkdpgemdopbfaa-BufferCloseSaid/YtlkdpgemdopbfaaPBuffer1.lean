/- The laws of chapter 16: each trace open once, and which are closed. -/
import Derived.Test.YtlkdpgemdopbfaaPBuffer
namespace Go.Proofs.Ytlkdpgemdopbfaa.Ab
open Go Go.RowKit
set_option linter.unusedVariables false
set_option linter.unusedSimpArgs false

theorem fewAll_tot (l : List Span) : gleaninglaw3_FewAll l = some false ∨ (gleaninglaw3_FewAll l = some true ∧ l.length ≤ 60 ∧ ∀ s ∈ l, smallS s) := by
  obtain ⟨b, h1, h2⟩ := fewAll_spec l
  cases b with
  | false => exact .inl h1
  | true => exact .inr ⟨h1, h2 rfl⟩
theorem one_at {α : Type} (A B : List α) (x : α) : ((A ++ x :: B).take (A.length + 1)).drop A.length = [x] := by
  rw [show A ++ x :: B = (A ++ [x]) ++ B by simp, List.take_left' (by simp), List.drop_left' rfl]
theorem one_k {α : Type} (l : List α) (k : Nat) (hk : k < l.length) : (l.take (k + 1)).drop k = [l[k]] := by
  have h := one_at (l.take k) (l.drop (k + 1)) l[k]
  rw [List.getElem_cons_drop, List.take_append_drop, List.length_take, Nat.min_eq_left (by omega)] at h
  exact h
theorem one_f {α : Type} (p : α → Bool) (l : List α) (k : Nat) (hk : k < l.length) (h : p l[k] = true) :
    ((l.take k).filter p).length < (l.filter p).length ∧ ((l.filter p).take (((l.take k).filter p).length + 1)).drop ((l.take k).filter p).length = [l[k]] := by
  have e : l.filter p = (l.take k).filter p ++ l[k] :: (l.drop (k + 1)).filter p := by
    have : l = l.take k ++ l[k] :: l.drop (k + 1) := by rw [List.getElem_cons_drop, List.take_append_drop]
    rw [show (l.take k).filter p ++ l[k] :: (l.drop (k + 1)).filter p = (l.take k ++ l[k] :: l.drop (k + 1)).filter p by rw [List.filter_append, List.filter_cons_of_pos h], ← this]
  refine ⟨?_, ?_⟩
  · rw [e]; simp
  · rw [e]; exact one_at _ _ _
theorem filt_take {α : Type} (p : α → Bool) (l : List α) (k : Nat) (hk : k < l.length) : ((l.take (k + 1)).filter p).length = ((l.take k).filter p).length + (if p l[k] = true then 1 else 0) := by
  rw [List.take_succ_eq_append_getElem hk, List.filter_append, List.length_append]
  cases h : p l[k] <;> simp [h]
theorem bufferClose_true (l : List Episode) (now q a : Int) (_ : List.length l ≤ maxLen ∧ ∀ y ∈ l, Episode.wf y) (_ : inI .i64 now) (_ : inI .i64 q) (_ : inI .i64 a) : gleaninglaw16_BufferClose l now q a = some true := by
  rw [gleaninglaw16_BufferClose, alive16, Option.bind_some]
  rcases fewE_tot l with h1 | h1
  case inr => simp [h1]
  by_cases c1 : now < 0
  · simp [h1, c1]
  by_cases c2 : (1099511627776 : Int) < now
  · simp [h1, c1, c2]
  by_cases c3 : q < 1
  · simp [h1, c1, c2, c3]
  by_cases c4 : (1073741824 : Int) < q
  · simp [h1, c1, c2, c3, c4]
  by_cases c5 : a < 1
  · simp [h1, c1, c2, c3, c4, c5]
  by_cases c6 : (1073741824 : Int) < a
  · simp [h1, c1, c2, c3, c4, c5, c6]
  have g := fewE h1
  simp only [h1, c1, c2, c3, c4, c5, c6, Bool.not_true, Bool.false_eq_true, if_false, decide_false, Option.bind_some, Sum.elim_inl, gleaninglaw16_BufferClose_k0, close_spec l now q a (by omega) g.2]
  have hsame : ∀ e : Episode, smallE e → gleaningref15_SameEpisodes [e] [e] = some true := fun e he => by
    rw [sameEp_spec [e] [e] (by intro x hx; rw [List.mem_singleton.1 hx]; exact ⟨by have := he.1; omega, fun y hy => by have := he.2 y hy; omega⟩) (by simp), dec_t rfl]
  have hloop : ∃ r, loopN (fun (s : Int × Int × Int) => gleaninglaw16_BufferClose_l2 l now q a (l.filter (staysB now q a), l.filter (goesB now q a)) s.1 s.2.1 s.2.2) Fu (0, 0, 0) = some r ∧ (r = Sum.inr true ∨ r = Sum.inl (((l.filter (staysB now q a)).length : Int), ((l.filter (goesB now q a)).length : Int))) := by
    refine loop_inv (fun n (s : Int × Int × Int) => ∃ k, k ≤ l.length ∧ n = l.length - k ∧ s = ((((l.take k).filter (staysB now q a)).length : Int), (((l.take k).filter (goesB now q a)).length : Int), (k : Int))) _ ?_ Fu l.length _ ⟨0, by omega, rfl, rfl⟩ (by rw [fu_eq]; omega)
    rintro n s ⟨k, hk, rfl, rfl⟩
    by_cases e : k = l.length
    · subst e
      refine .inr ⟨_, ?_, .inr rfl⟩
      simp only [gleaninglaw16_BufferClose_l2, dec_f (by omega : ¬ (l.length : Int) < (l.length : Int)), Bool.false_eq_true, if_false, List.take_length]
    have hk2 : k < l.length := by omega
    have hs := hsame _ (g.2 _ (List.getElem_mem hk2))
    have n1 := List.length_filter_le (staysB now q a) (l.take k)
    have n2 := List.length_filter_le (goesB now q a) (l.take k)
    rw [List.length_take] at n1 n2
    have f1 := one_f (staysB now q a) l k hk2
    have f2 := one_f (goesB now q a) l k hk2
    have f3 := filt_take (staysB now q a) l k hk2
    have f4 := filt_take (goesB now q a) l k hk2
    have f5 := one_k l k hk2
    simp only [gleaninglaw16_BufferClose_l2, dec_t (by omega : (k : Int) < (l.length : Int)), if_true, gd_pos (by omega : (0 : Int) ≤ (k : Int)), Int.toNat_natCast, List.getElem?_eq_getElem hk2, Option.bind_some]
    by_cases d1 : l[k].First < 0
    · exact .inr ⟨_, by simp only [dec_t d1, if_true, Option.bind_some, Sum.elim_inr], .inl rfl⟩
    by_cases d2 : (1099511627776 : Int) < l[k].First
    · exact .inr ⟨_, by simp only [dec_f d1, dec_t d2, Bool.false_eq_true, if_false, if_true, Option.bind_some, Sum.elim_inr], .inl rfl⟩
    by_cases d3 : l[k].Last < 0
    · exact .inr ⟨_, by simp only [dec_f d1, dec_f d2, dec_t d3, Bool.false_eq_true, if_false, if_true, Option.bind_some, Sum.elim_inr], .inl rfl⟩
    by_cases d4 : (1099511627776 : Int) < l[k].Last
    · exact .inr ⟨_, by simp only [dec_f d1, dec_f d2, dec_f d3, dec_t d4, Bool.false_eq_true, if_false, if_true, Option.bind_some, Sum.elim_inr], .inl rfl⟩
    refine .inl ?_
    have hg : Option.bind (gd ((0 : Int) ≤ (k : Int)) (Option.bind (l[(Int.toNat (k : Int))]?) (fun (x59 : Episode) => if (decide (q ≤ (IntKind.i64.wrap (now - x59.Last)))) = true then (some true) else (gd ((0 : Int) ≤ (k : Int)) (Option.bind (l[(Int.toNat (k : Int))]?) (fun (x62 : Episode) => some (decide (a ≤ (IntKind.i64.wrap (now - x62.First)))))))))) = fun f : Bool → Option ((Int × Int × Int) ⊕ ((Int × Int) ⊕ Bool)) => f (goesB now q a l[k]) := by
      funext f
      simp only [gd_pos (by omega : (0 : Int) ≤ (k : Int)), Int.toNat_natCast, List.getElem?_eq_getElem hk2, Option.bind_some, w64 (n := now - l[k].Last) (by omega) (by omega), w64 (n := now - l[k].First) (by omega) (by omega), goesB, lessR_in (by omega : 0 ≤ now) (by omega) (by omega : 0 ≤ l[k].Last) (by omega), lessR_in (by omega : 0 ≤ now) (by omega) (by omega : 0 ≤ l[k].First) (by omega)]
      cases decide (q ≤ now - l[k].Last) <;> rfl
    simp only [dec_f d1, dec_f d2, dec_f d3, dec_f d4, Bool.false_eq_true, if_false, Option.bind_some, Sum.elim_inl, gleaninglaw16_BufferClose_k3, hg, gleaninglaw16_BufferClose_k4]
    cases hb : goesB now q a l[k] with
    | true =>
      have hb' : staysB now q a l[k] = false := by rw [staysB, hb]; rfl
      have f2' := f2 hb
      rw [hb', if_neg (by decide)] at f3
      rw [hb, if_pos rfl] at f4
      refine ⟨_, l.length - (k + 1), ?_, by omega, k + 1, by omega, rfl, rfl⟩
      rw [if_pos rfl, ite_f (dec_f (by omega))]
      simp only [ksucc (by omega : k < 1099511627776), ksucc (k := ((l.take k).filter (goesB now q a)).length) (by omega), Int.toNat_natCast, f5, f2'.2, hs]
      rw [gd_pos (by omega), gd_pos (by omega), gd_pos (by omega), gd_pos (by omega), gd_pos (by omega), gd_pos (by omega), f3, f4]
      rfl
    | false =>
      have hb' : staysB now q a l[k] = true := by rw [staysB, hb]; rfl
      have f1' := f1 hb'
      rw [hb', if_pos rfl] at f3
      rw [hb, if_neg (by decide)] at f4
      refine ⟨_, l.length - (k + 1), ?_, by omega, k + 1, by omega, rfl, rfl⟩
      rw [if_neg (by decide), ite_f (dec_f (by omega))]
      simp only [ksucc (by omega : k < 1099511627776), ksucc (k := ((l.take k).filter (staysB now q a)).length) (by omega), Int.toNat_natCast, f5, f1'.2, hs]
      rw [gd_pos (by omega), gd_pos (by omega), gd_pos (by omega), gd_pos (by omega), gd_pos (by omega), gd_pos (by omega), f3, f4]
      rfl
  obtain ⟨r, hr, hr2⟩ := hloop
  rw [hr]
  rcases hr2 with rfl | rfl
  · rfl
  · simp only [Option.bind_some, Sum.elim_inl, gleaninglaw16_BufferClose_k1, beq_self_eq_true, if_true]
/-! each trace is open once -/
/-- what is told of a trace, of the first i spans: the first, the last, whether one was sure -/
def tellB (ss : List Span) (bs : List Bool) (T : Trace) : Nat → Int × Int × Bool
  | 0 => (-1, -1, false)
  | i + 1 => match ss[i]?, bs[i]? with
    | some s, some b => if s.Trace = T then (if (tellB ss bs T i).1 < 0 then (i : Int) else (tellB ss bs T i).1, (i : Int), (tellB ss bs T i).2.2 || b) else tellB ss bs T i
    | _, _ => tellB ss bs T i
theorem tellB_succ (ss : List Span) (bs : List Bool) (T : Trace) (i : Nat) (h1 : i < ss.length) (h2 : i < bs.length) : tellB ss bs T (i + 1) = if ss[i].Trace = T then (if (tellB ss bs T i).1 < 0 then (i : Int) else (tellB ss bs T i).1, (i : Int), (tellB ss bs T i).2.2 || bs[i]) else tellB ss bs T i := by
  rw [tellB, List.getElem?_eq_getElem h1, List.getElem?_eq_getElem h2]
structure OneI (ss : List Span) (bs : List Bool) (i : Nat) (l : List Episode) : Prop where
  tells : ∀ e ∈ l, tellB ss bs e.Trace i = (e.First, e.Last, e.Sure) ∧ 0 ≤ e.First
  none : ∀ T, (∀ e ∈ l, ¬ e.Trace = T) → tellB ss bs T i = (-1, -1, false)
  was : ∀ x ∈ ss.take i, ∃ e ∈ l, e.Trace = x.Trace ∧ hasId e.Spans x = true
  from_ : ∀ e ∈ l, ∀ x ∈ e.Spans, ∃ y ∈ ss.take i, y.Trace = e.Trace ∧ y.Id = x.Id
  some_ : ∀ e ∈ l, ∃ y ∈ ss.take i, y.Trace = e.Trace
  once : (l.map Episode.Trace).Nodup
  cnt : cntB l ≤ i
  len : l.length ≤ i
  small : ∀ e ∈ l, e.Spans.length ≤ i ∧ ∀ s ∈ e.Spans, s.Attrs.length ≤ 20
def sameTr (s : Span) : Span → Bool := fun x => decide (x.Trace = s.Trace)
def sameTI (s : Span) : Span → Bool := fun x => decide (x.Trace = s.Trace) && (x.Id == s.Id)
theorem nodup_mem {l : List Episode} (h : (l.map Episode.Trace).Nodup) {a b : Episode} (ha : a ∈ l) (hb : b ∈ l) (e : a.Trace = b.Trace) : a = b := by
  induction l with
  | nil => cases ha
  | cons x r ih =>
    rw [List.map_cons, List.nodup_cons] at h
    rcases List.mem_cons.1 ha with rfl | ha2
    · rcases List.mem_cons.1 hb with rfl | hb2
      · rfl
      · exact absurd (List.mem_map.2 ⟨b, hb2, e.symm⟩) h.1
    · rcases List.mem_cons.1 hb with rfl | hb2
      · exact absurd (List.mem_map.2 ⟨a, ha2, e⟩ : b.Trace ∈ List.map Episode.Trace r) h.1
      · exact ih h.2 ha2 hb2
theorem addS_has (l : List Span) (s : Span) : hasId (addS l s) s = true := by
  unfold addS; split
  · assumption
  · simp [hasId]
theorem addS_has' {l : List Span} {x : Span} (s : Span) (h : hasId l x = true) : hasId (addS l s) x = true := by
  rw [hasId_mem] at *
  obtain ⟨y, h1, h2⟩ := h
  refine ⟨y, ?_, h2⟩
  unfold addS; split
  · exact h1
  · exact List.mem_append_left _ h1
/-- one span more -/
theorem one_step {ss : List Span} {bs : List Bool} {i : Nat} {l : List Episode} (h : OneI ss bs i l) (hi : i < ss.length) (hb : i < bs.length) (hi60 : i < 60) (hs : ss[i].Attrs.length ≤ 20) :
    OneI ss bs (i + 1) (putB l ss[i] (i : Int) bs[i]) ∧
    (putB l ss[i] (i : Int) bs[i]).map Episode.Trace = (if (ss.take i).any (sameTr ss[i]) = true then l.map Episode.Trace else l.map Episode.Trace ++ [ss[i].Trace]) ∧
    cntB (putB l ss[i] (i : Int) bs[i]) = (if (ss.take i).any (sameTI ss[i]) = true then cntB l else cntB l + 1) := by
  obtain ⟨h1, h2, h3, h4, h5, h6, h7, h8, h9⟩ := h
  have hlast : ∀ x, x ∈ ss.take (i + 1) ↔ x ∈ ss.take i ∨ x = ss[i] := fun x => by rw [List.take_succ_eq_append_getElem hi, List.mem_append, List.mem_singleton]
  have hT := fun T => tellB_succ ss bs T i hi hb
  revert hlast hT hs
  generalize hsd : ss[i] = s
  generalize hbd : bs[i] = b
  intro hs hlast hT
  have hany1 : (ss.take i).any (sameTr s) = true ↔ ∃ e ∈ l, e.Trace = s.Trace := by
    rw [List.any_eq_true]
    constructor
    · rintro ⟨x, hx, hx2⟩
      obtain ⟨e, he, he2, _⟩ := h3 x hx
      exact ⟨e, he, he2.trans (of_decide_eq_true hx2)⟩
    · rintro ⟨e, he, he2⟩
      obtain ⟨y, hy, hy2⟩ := h5 e he
      exact ⟨y, hy, decide_eq_true (hy2.trans he2)⟩
  have hany2 : (ss.take i).any (sameTI s) = true ↔ ∃ e ∈ l, e.Trace = s.Trace ∧ hasId e.Spans s = true := by
    rw [List.any_eq_true]
    constructor
    · rintro ⟨x, hx, hx2⟩
      simp only [sameTI, Bool.and_eq_true, decide_eq_true_eq, beq_iff_eq] at hx2
      obtain ⟨e, he, he2, he3⟩ := h3 x hx
      refine ⟨e, he, he2.trans hx2.1, ?_⟩
      rw [hasId_mem] at he3 ⊢
      obtain ⟨y, hy, hy2⟩ := he3
      exact ⟨y, hy, hy2.trans hx2.2⟩
    · rintro ⟨e, he, he2, he3⟩
      rw [hasId_mem] at he3
      obtain ⟨x, hx, hx2⟩ := he3
      obtain ⟨y, hy, hy2, hy3⟩ := h4 e he x hx
      refine ⟨y, hy, ?_⟩
      simp only [sameTI, Bool.and_eq_true, decide_eq_true_eq, beq_iff_eq]
      exact ⟨hy2.trans he2, hy3.trans hx2⟩
  rcases putB_cases s (i : Int) b l with ⟨A, e, B, rfl, he, hp⟩ | ⟨hno, hp⟩
  · rw [hp]
    have heM : e ∈ A ++ e :: B := by simp
    have hmem : ∀ x, x ∈ A ++ updE e s (i : Int) b :: B → x = updE e s (i : Int) b ∨ (x ∈ A ++ e :: B ∧ ¬ x.Trace = s.Trace) := by
      intro x hx
      rw [List.map_append, List.map_cons, List.nodup_append, List.nodup_cons] at h6
      obtain ⟨_, ⟨hB, _⟩, hAB⟩ := h6
      rcases List.mem_append.1 hx with hx | hx
      · exact .inr ⟨List.mem_append_left _ hx, fun e2 => hAB _ (List.mem_map.2 ⟨x, hx, rfl⟩) _ (List.mem_cons_self ..) (e2.trans he.symm)⟩
      · rcases List.mem_cons.1 hx with rfl | hx
        · exact .inl rfl
        · exact .inr ⟨List.mem_append_right _ (List.mem_cons_of_mem _ hx), fun e2 => hB (List.mem_map.2 ⟨x, hx, e2.trans he.symm⟩)⟩
    have hmap : (A ++ updE e s (i : Int) b :: B).map Episode.Trace = (A ++ e :: B).map Episode.Trace := by simp [updE]
    have hall : ∀ x ∈ A ++ e :: B, ∃ y ∈ A ++ updE e s (i : Int) b :: B, y.Trace = x.Trace ∧ (∀ z, hasId x.Spans z = true → hasId y.Spans z = true) := by
      intro x hx
      rcases List.mem_append.1 hx with hx | hx
      · exact ⟨x, List.mem_append_left _ hx, rfl, fun z h => h⟩
      · rcases List.mem_cons.1 hx with rfl | hx
        · exact ⟨_, List.mem_append_right _ (List.mem_cons_self ..), rfl, fun z h => addS_has' s h⟩
        · exact ⟨x, List.mem_append_right _ (List.mem_cons_of_mem _ hx), rfl, fun z h => h⟩
    have hhas : (ss.take i).any (sameTI s) = true ↔ hasId e.Spans s = true := by
      rw [hany2]
      constructor
      · rintro ⟨e', h', h'', h'''⟩
        rw [nodup_mem h6 heM h' (he.trans h''.symm)]; exact h'''
      · exact fun h => ⟨e, heM, he, h⟩
    have hc : cntB (A ++ updE e s (i : Int) b :: B) = (if (ss.take i).any (sameTI s) = true then cntB (A ++ e :: B) else cntB (A ++ e :: B) + 1) := by
      rw [cntB_app, cntB_cons, cntB_app, cntB_cons]
      show cntB A + ((addS e.Spans s).length + cntB B) = _
      by_cases hh : hasId e.Spans s = true
      · rw [if_pos (hhas.2 hh), addS, if_pos hh]
      · rw [if_neg (fun x => hh (hhas.1 x)), addS, if_neg hh, List.length_append, List.length_singleton]; omega
    refine ⟨⟨?_, ?_, ?_, ?_, ?_, by rw [hmap]; exact h6, by rw [hc]; split <;> omega, by simp at h8 ⊢; omega, ?_⟩, ?_, hc⟩
    · intro x hx
      rcases hmem x hx with rfl | ⟨hx1, hx2⟩
      · have := h1 e heM
        rw [show (updE e s (i : Int) b).Trace = e.Trace from rfl, hT, if_pos he.symm, this.1]
        exact ⟨by rw [if_neg (by have := this.2; dsimp only; omega)]; rfl, this.2⟩
      · rw [hT, if_neg (fun x => hx2 x.symm)]
        exact h1 x hx1
    · intro T hTn
      have : ∀ x ∈ A ++ e :: B, ¬ x.Trace = T := fun x hx => by
        obtain ⟨y, hy, hy2, _⟩ := hall x hx
        rw [← hy2]; exact hTn y hy
      rw [hT, if_neg (fun h => this e heM (he.trans h)), h2 T this]
    · intro x hx
      rcases (hlast x).1 hx with hx | rfl
      · obtain ⟨e', h', h'', h'''⟩ := h3 x hx
        obtain ⟨y, hy, hy2, hy3⟩ := hall e' h'
        exact ⟨y, hy, hy2.trans h'', hy3 _ h'''⟩
      · exact ⟨updE e x (i : Int) b, by simp, he, addS_has _ _⟩
    · intro x hx z hz
      rcases hmem x hx with rfl | ⟨hx1, hx2⟩
      · rcases addS_mem hz with hz | rfl
        · obtain ⟨y, hy, hy2⟩ := h4 e heM z hz
          exact ⟨y, (hlast y).2 (.inl hy), hy2⟩
        · exact ⟨z, (hlast z).2 (.inr rfl), he.symm, rfl⟩
      · obtain ⟨y, hy, hy2⟩ := h4 x hx1 z hz
        exact ⟨y, (hlast y).2 (.inl hy), hy2⟩
    · intro x hx
      rcases hmem x hx with rfl | ⟨hx1, hx2⟩
      · exact ⟨s, (hlast s).2 (.inr rfl), he.symm⟩
      · obtain ⟨y, hy, hy2⟩ := h5 x hx1
        exact ⟨y, (hlast y).2 (.inl hy), hy2⟩
    · intro x hx
      rcases hmem x hx with rfl | ⟨hx1, hx2⟩
      · refine ⟨by have := addS_len s e.Spans; have := (h9 e heM).1; show (addS e.Spans s).length ≤ _; omega, fun z hz => ?_⟩
        rcases addS_mem hz with hz | rfl
        · exact (h9 e heM).2 z hz
        · exact hs
      · exact ⟨by have := (h9 x hx1).1; omega, (h9 x hx1).2⟩
    · rw [hmap, if_pos (hany1.2 ⟨e, heM, he⟩)]
  · rw [hp]
    have hmem : ∀ x, x ∈ l ++ [updE (Episode.mk s.Trace (i : Int) 0 false []) s (i : Int) b] ↔ x ∈ l ∨ x = updE (Episode.mk s.Trace (i : Int) 0 false []) s (i : Int) b := fun x => by rw [List.mem_append, List.mem_singleton]
    have hsp : (updE (Episode.mk s.Trace (i : Int) 0 false []) s (i : Int) b).Spans = [s] := rfl
    have htr : (updE (Episode.mk s.Trace (i : Int) 0 false []) s (i : Int) b).Trace = s.Trace := rfl
    have hmap : (l ++ [updE (Episode.mk s.Trace (i : Int) 0 false []) s (i : Int) b]).map Episode.Trace = l.map Episode.Trace ++ [s.Trace] := by simp [updE]
    have n1 : ¬ (ss.take i).any (sameTr s) = true := fun h => by
      obtain ⟨e, he, he2⟩ := hany1.1 h
      exact hno e he he2
    have n2 : ¬ (ss.take i).any (sameTI s) = true := fun h => by
      obtain ⟨e, he, he2, _⟩ := hany2.1 h
      exact hno e he he2
    have hc : cntB (l ++ [updE (Episode.mk s.Trace (i : Int) 0 false []) s (i : Int) b]) = cntB l + 1 := by rw [cntB_app, cntB_cons, hsp]; rfl
    refine ⟨⟨?_, ?_, ?_, ?_, ?_, ?_, by rw [hc]; omega, by simp; omega, ?_⟩, by rw [hmap, if_neg n1], by rw [hc, if_neg n2]⟩
    · intro x hx
      rcases (hmem x).1 hx with hx | rfl
      · rw [hT, if_neg (fun e => hno x hx e.symm)]
        exact h1 x hx
      · rw [htr, hT, if_pos rfl, h2 _ hno]
        exact ⟨rfl, by show (0 : Int) ≤ (i : Int); omega⟩
    · intro T hTn
      rw [hT, if_neg (show ¬ s.Trace = T from fun h => hTn _ ((hmem _).2 (.inr rfl)) (htr.trans h)), h2 T (fun e he => hTn e ((hmem e).2 (.inl he)))]
    · intro x hx
      rcases (hlast x).1 hx with hx | rfl
      · obtain ⟨e', h', h''⟩ := h3 x hx
        exact ⟨e', (hmem _).2 (.inl h'), h''⟩
      · exact ⟨_, (hmem _).2 (.inr rfl), rfl, by rw [hsp]; simp [hasId]⟩
    · intro x hx z hz
      rcases (hmem x).1 hx with hx | rfl
      · obtain ⟨y, hy, hy2⟩ := h4 x hx z hz
        exact ⟨y, (hlast y).2 (.inl hy), hy2⟩
      · rw [hsp, List.mem_singleton] at hz
        subst hz
        exact ⟨z, (hlast z).2 (.inr rfl), rfl, rfl⟩
    · intro x hx
      rcases (hmem x).1 hx with hx | rfl
      · obtain ⟨y, hy, hy2⟩ := h5 x hx
        exact ⟨y, (hlast y).2 (.inl hy), hy2⟩
      · exact ⟨s, (hlast s).2 (.inr rfl), rfl⟩
    · rw [hmap, List.nodup_append]
      refine ⟨h6, by simp, fun a ha b hb => ?_⟩
      rw [List.mem_singleton] at hb
      obtain ⟨e, he, rfl⟩ := List.mem_map.1 ha
      rw [hb]; exact hno e he
    · intro x hx
      rcases (hmem x).1 hx with hx | rfl
      · exact ⟨by have := (h9 x hx).1; omega, (h9 x hx).2⟩
      · rw [hsp]; exact ⟨by simp, fun z hz => by rw [List.mem_singleton.1 hz]; exact hs⟩
theorem once_end (ss : List Span) (bs : List Bool) (l : List Episode) (h : OneI ss bs ss.length l) (h60 : ss.length ≤ 60) (c1 : ¬ (bs.length : Int) < (ss.length : Int)) : gleaninglaw16_BufferOnce_k1 ss bs l (l.map Episode.Trace) = some true := by
  unfold gleaninglaw16_BufferOnce_k1
  have hl := h.len
  refine loop_list (l := l) (fun k r s => s = (k : Int) ∧ r = true) (by omega) ?_ ?_ ⟨rfl, rfl⟩
  · rintro k hk r s ⟨rfl, rfl⟩
    have ht := (h.tells _ (List.getElem_mem hk)).1
    have hm : (l.map Episode.Trace)[k]? = some l[k].Trace := by rw [List.getElem?_map, List.getElem?_eq_getElem hk]; rfl
    refine .inl ⟨((k + 1 : Nat) : Int), ?_, rfl, rfl⟩
    have hlp : loopN (fun (s : Int × Int × Bool × Int) => gleaninglaw16_BufferOnce_l10 ss bs (l.map Episode.Trace) (k : Int) s.1 s.2.1 s.2.2.1 s.2.2.2) Fu (-1, -1, false, 0) = some (l[k].First, l[k].Last, l[k].Sure) := by
      have hsucc := fun i hi hb => tellB_succ ss bs l[k].Trace i hi hb
      have hf0 : tellB ss bs l[k].Trace 0 = (-1, -1, false) := rfl
      rw [← ht]
      revert hsucc hf0
      generalize tellB ss bs l[k].Trace = f
      intro hsucc hf0
      refine loop_list (l := ss) (fun i r s => s = ((f i).1, (f i).2.1, (f i).2.2, (i : Int)) ∧ r = f ss.length) (by omega) ?_ ?_ ⟨by rw [hf0]; rfl, rfl⟩
      · rintro i hi r s ⟨rfl, rfl⟩
        have hb2 : i < bs.length := by omega
        refine .inl ⟨_, ?_, rfl, rfl⟩
        rw [hsucc i hi hb2]
        simp only [gleaninglaw16_BufferOnce_l10, gleaninglaw16_BufferOnce_k11, dec_t (by omega : (i : Int) < (ss.length : Int)), if_true, gd_pos (by omega : (0 : Int) ≤ (k : Int)), gd_pos (by omega : (0 : Int) ≤ (i : Int)), Int.toNat_natCast, List.getElem?_eq_getElem hi, List.getElem?_eq_getElem hb2, hm, Option.bind_some, trace_eq, ksucc (by omega : i < 1099511627776)]
        generalize f i = t
        obtain ⟨t1, t2, t3⟩ := t
        by_cases e1 : ss[i].Trace = l[k].Trace
        · by_cases e2 : t1 < 0
          · cases t3 <;> simp [e1, e2]
          · cases t3 <;> simp [e1, e2]
        · simp [e1]
      · rintro r s ⟨rfl, rfl⟩
        simp only [gleaninglaw16_BufferOnce_l10, dec_f (by omega : ¬ (ss.length : Int) < (ss.length : Int)), Bool.false_eq_true, if_false]
    simp only [gleaninglaw16_BufferOnce_l8, dec_t (by omega : (k : Int) < (l.length : Int)), if_true, hlp, Option.bind_some, gleaninglaw16_BufferOnce_k9, gd_pos (by omega : (0 : Int) ≤ (k : Int)), Int.toNat_natCast, List.getElem?_eq_getElem hk, hm, trace_eq, decide_true, Bool.not_true, Bool.false_eq_true, if_false, bne_self_eq_false, beq_self_eq_true, ksucc (by omega : k < 1099511627776)]
  · rintro r s ⟨rfl, rfl⟩
    simp only [gleaninglaw16_BufferOnce_l8, dec_f (by omega : ¬ (l.length : Int) < (l.length : Int)), Bool.false_eq_true, if_false]
theorem bufferOnce_true (ss : List Span) (bs : List Bool) (_ : List.length ss ≤ maxLen ∧ ∀ y ∈ ss, Span.wf y) (_ : List.length bs ≤ maxLen ∧ ∀ y ∈ bs, True) : gleaninglaw16_BufferOnce ss bs = some true := by
  rw [gleaninglaw16_BufferOnce, alive16, Option.bind_some]
  rcases fewAll_tot ss with h1 | ⟨h1, h60, hsm⟩
  · simp [h1]
  by_cases c1 : (bs.length : Int) < (ss.length : Int)
  · simp [h1, c1]
  simp only [h1, c1, Bool.not_true, Bool.false_eq_true, if_false, decide_false, Option.bind_some, Sum.elim_inl, gleaninglaw16_BufferOnce_k0]
  have hloop : ∃ r, loopN (fun (s : List Episode × Int × List Trace × Int) => gleaninglaw16_BufferOnce_l2 ss bs s.1 s.2.1 s.2.2.1 s.2.2.2) Fu ([], 0, [], 0) = some r ∧ ∃ l, r = Sum.inl (l, l.map Episode.Trace) ∧ OneI ss bs ss.length l := by
    refine loop_inv (fun n (s : List Episode × Int × List Trace × Int) => ∃ i l, i ≤ ss.length ∧ n = ss.length - i ∧ s = (l, (cntB l : Int), l.map Episode.Trace, (i : Int)) ∧ OneI ss bs i l) _ ?_ Fu ss.length _ ⟨0, [], by omega, rfl, rfl, ⟨by simp, fun _ _ => rfl, by simp, by simp, by simp, by simp, by simp [cntB], by simp, by simp⟩⟩ (by rw [fu_eq]; omega)
    rintro n s ⟨i, l, hi, rfl, rfl, h⟩
    by_cases e : i = ss.length
    · subst e
      refine .inr ⟨_, ?_, l, rfl, h⟩
      simp only [gleaninglaw16_BufferOnce_l2, dec_f (by omega : ¬ (ss.length : Int) < (ss.length : Int)), Bool.false_eq_true, if_false]
    have hi2 : i < ss.length := by omega
    have hb2 : i < bs.length := by omega
    have hat := smallS_attrs (hsm _ (List.getElem_mem hi2))
    obtain ⟨s1, s2, s3⟩ := one_step h hi2 hb2 (by omega) hat
    have hp := bput_spec l ss[i] (i : Int) bs[i] (by have := h.len; omega) (fun e he => ⟨by have := (h.small e he).1; omega, (h.small e he).2⟩) hat
    have hcnt := count_spec (putB l ss[i] (i : Int) bs[i]) (by have := s1.len; omega) (by have := s1.cnt; omega)
    have hcl := h.cnt
    have hll := h.len
    have hflag : loopN (fun (s : Bool × Bool × Int) => gleaninglaw16_BufferOnce_l4 ss (i : Int) s.1 s.2.1 s.2.2) Fu (false, false, 0) = some ((ss.take i).any (sameTI ss[i]), (ss.take i).any (sameTr ss[i])) := by
      have hlen : (ss.take i).length = i := by rw [List.length_take]; omega
      refine loop_list (l := ss.take i) (fun k r s => s = ((ss.take k).any (sameTI ss[i]), (ss.take k).any (sameTr ss[i]), (k : Int)) ∧ r = ((ss.take i).any (sameTI ss[i]), (ss.take i).any (sameTr ss[i]))) (by omega) ?_ ?_ ⟨rfl, rfl⟩
      · rintro k hk r s ⟨rfl, rfl⟩
        rw [hlen] at hk
        have hk2 : k < ss.length := by omega
        refine .inl ⟨_, ?_, rfl, rfl⟩
        rw [take_any _ ss k hk2, take_any _ ss k hk2]
        simp only [gleaninglaw16_BufferOnce_l4, gleaninglaw16_BufferOnce_k5, dec_t (by omega : (k : Int) < (i : Int)), if_true, gd_pos (by omega : (0 : Int) ≤ (k : Int)), gd_pos (by omega : (0 : Int) ≤ (i : Int)), Int.toNat_natCast, List.getElem?_eq_getElem hk2, List.getElem?_eq_getElem hi2, Option.bind_some, trace_eq, ksucc (by omega : k < 1099511627776)]
        cases (ss.take k).any (sameTI ss[i]) <;> cases (ss.take k).any (sameTr ss[i]) <;> by_cases e1 : ss[k].Trace = ss[i].Trace <;> simp [sameTI, sameTr, e1]
      · rintro r s ⟨rfl, rfl⟩
        rw [hlen]
        simp only [gleaninglaw16_BufferOnce_l4, dec_f (by omega : ¬ (i : Int) < (i : Int)), Bool.false_eq_true, if_false]
    refine .inl ⟨_, ss.length - (i + 1), ?_, by omega, i + 1, putB l ss[i] (i : Int) bs[i], by omega, rfl, rfl, s1⟩
    simp only [gleaninglaw16_BufferOnce_l2, dec_t (by omega : (i : Int) < (ss.length : Int)), if_true, gd_pos (by omega : (0 : Int) ≤ (i : Int)), Int.toNat_natCast, List.getElem?_eq_getElem hi2, List.getElem?_eq_getElem hb2, Option.bind_some, hp, hflag]
    have hk7 : gleaninglaw16_BufferOnce_k7 (i : Int) (putB l ss[i] (i : Int) bs[i]) ((putB l ss[i] (i : Int) bs[i]).map Episode.Trace) (cntB (putB l ss[i] (i : Int) bs[i]) : Int) = some (Sum.inl (putB l ss[i] (i : Int) bs[i], (cntB (putB l ss[i] (i : Int) bs[i]) : Int), (putB l ss[i] (i : Int) bs[i]).map Episode.Trace, ((i + 1 : Nat) : Int))) := by
      simp only [gleaninglaw16_BufferOnce_k7, hcnt, Option.bind_some, bne_self_eq_false, Bool.false_eq_true, if_false, List.length_map, ksucc (by omega : i < 1099511627776)]
    have hk6 : gleaninglaw16_BufferOnce_k6 (cntB l : Int) (i : Int) (putB l ss[i] (i : Int) bs[i]) ((ss.take i).any (sameTI ss[i])) ((putB l ss[i] (i : Int) bs[i]).map Episode.Trace) = some (Sum.inl (putB l ss[i] (i : Int) bs[i], (cntB (putB l ss[i] (i : Int) bs[i]) : Int), (putB l ss[i] (i : Int) bs[i]).map Episode.Trace, ((i + 1 : Nat) : Int))) := by
      rw [← hk7, gleaninglaw16_BufferOnce_k6, ksucc (by omega)]
      rw [s3]
      cases (ss.take i).any (sameTI ss[i]) <;> simp only [Bool.not_true, Bool.not_false, if_true, Bool.false_eq_true, if_false, Option.bind_some]
    rw [← hk6, gleaninglaw16_BufferOnce_k3]
    simp only [gd_pos (by omega : (0 : Int) ≤ (i : Int)), Int.toNat_natCast, List.getElem?_eq_getElem hi2, Option.bind_some]
    rw [gd_pos (by simp only [List.length_append, List.length_singleton, List.length_map]; omega), s2]
    cases (ss.take i).any (sameTr ss[i]) <;> simp only [Bool.not_true, Bool.not_false, if_true, Bool.false_eq_true, if_false, Option.bind_some]
  obtain ⟨r, hr, l, rfl, h⟩ := hloop
  rw [hr, bind_inl]
  exact once_end ss bs l h h60 c1
end Go.Proofs.Ytlkdpgemdopbfaa.Ab
