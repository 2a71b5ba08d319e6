/- Chapter 16: the oldest one, and all of it against the document's answer. -/
import Derived.Test.YtlkdpgemdopbfaaPBuffer
import Derived.Test.YtlkdpgemdopbfaaXBufTells
namespace Go.Proofs.Ytlkdpgemdopbfaa.Ab
open Go Go.RowKit
set_option linter.unusedVariables false
set_option linter.unusedSimpArgs false

/-- where the first is of those of the first k that came first -/
def minAt (l : List Episode) : Nat → Nat
  | 0 => 0
  | k + 1 => match l[k]?, l[minAt l k]? with
    | some a, some b => if a.First < b.First then k else minAt l k
    | _, _ => minAt l k
theorem minAt_lt (l : List Episode) (h : 0 < l.length) : ∀ k, k ≤ l.length → minAt l k < l.length
  | 0, _ => h
  | k + 1, hk => by
    have ih := minAt_lt l h k (by omega)
    rw [minAt, List.getElem?_eq_getElem (by omega : k < l.length), List.getElem?_eq_getElem ih]
    dsimp only; split <;> omega
theorem minAt_succ (l : List Episode) (k : Nat) (hk : k < l.length) (hm : minAt l k < l.length) : minAt l (k + 1) = if l[k].First < l[minAt l k].First then k else minAt l k := by
  rw [minAt, List.getElem?_eq_getElem hk, List.getElem?_eq_getElem hm]
theorem minAt_min (l : List Episode) (h : 0 < l.length) : ∀ k (hk : k ≤ l.length) (i : Nat) (hi : i < k), (l[minAt l k]'(minAt_lt l h k hk)).First ≤ (l[i]'(by omega)).First ∧ (i < minAt l k → (l[minAt l k]'(minAt_lt l h k hk)).First < (l[i]'(by omega)).First)
  | 0, _, i, hi => by omega
  | k + 1, hk, i, hi => by
    have hm := minAt_lt l h k (by omega)
    have ih := minAt_min l h k (by omega)
    have hs := minAt_succ l k (by omega) hm
    by_cases c : l[k].First < l[minAt l k].First
    · rw [if_pos c] at hs
      simp only [hs]
      by_cases e : i = k
      · subst e; exact ⟨Int.le_refl _, fun x => by omega⟩
      · have := (ih i (by omega)).1
        exact ⟨by omega, fun _ => by omega⟩
    · rw [if_neg c] at hs
      simp only [hs]
      by_cases e : i = k
      · subst e
        refine ⟨by omega, fun x => ?_⟩
        by_cases z : i = 0
        · subst z; exact absurd x (by simp [minAt])
        · have h2 : minAt l i < i := by
            clear ih hs c x
            have : ∀ j, 0 < j → j ≤ l.length → minAt l j < j := by
              intro j
              induction j with
              | zero => intro q; omega
              | succ j ihj =>
                intro _ hj
                rw [minAt_succ l j (by omega) (minAt_lt l h j (by omega))]
                split
                · omega
                · by_cases w : j = 0
                  · subst w; simp [minAt]
                  · have := ihj (by omega) (by omega); omega
            exact this i (by omega) (by omega)
          omega
      · exact ih i (by omega)
def oldB (l : List Episode) : List Episode × Episode × Bool := match l[minAt l l.length]? with
  | some e => (l.take (minAt l l.length) ++ l.drop (minAt l l.length + 1), e, true)
  | none => ([], Episode.mk (Trace.mk 0 0) 0 0 false [], false)
theorem old_loop (body : Int × Int → Option ((Int × Int) ⊕ Int)) (l : List Episode) (hl : l.length ≤ 1000000) (h : 0 < l.length)
    (step : ∀ m k (hm : m < l.length) (hk : k < l.length), body ((m : Int), (k : Int)) = some (.inl (((if l[k].First < l[m].First then k else m : Nat) : Int), ((k + 1 : Nat) : Int))))
    (last : ∀ m, m < l.length → body ((m : Int), (l.length : Int)) = some (.inr (m : Int))) : loopN body Fu (0, 0) = some (minAt l l.length : Int) := by
  refine loop_list (l := l) (fun k r s => s = ((minAt l k : Int), (k : Int)) ∧ r = (minAt l l.length : Int)) (by omega) ?_ ?_ ⟨rfl, rfl⟩
  · rintro k hk r s ⟨rfl, rfl⟩
    refine .inl ⟨_, ?_, rfl, rfl⟩
    have hm := minAt_lt l h k (by omega)
    rw [step _ k hm hk, minAt_succ l k hk hm]
  · rintro r s ⟨rfl, rfl⟩
    exact last _ (minAt_lt l h _ (Nat.le_refl _))
theorem oldest_spec (l : List Episode) (hl : l.length ≤ 1000000) (h : ∀ e ∈ l, smallE e) : buffer_Oldest l = some (oldB l) := by
  rw [buffer_Oldest, copies_spec l hl h, Option.bind_some]
  by_cases h0 : l = []
  · subst h0; rfl
  have hp : 0 < l.length := List.length_pos_iff.2 h0
  have hm := minAt_lt l hp _ (Nat.le_refl _)
  rw [ite_f (by simp [h0]), old_loop _ l hl hp]
  · rw [oldB, List.getElem?_eq_getElem hm, Option.bind_some, buffer_Oldest_k0]
    simp only [gd_pos (by omega : (0 : Int) ≤ (minAt l l.length : Int)), Int.toNat_natCast, List.getElem?_eq_getElem hm, Option.bind_some, ksucc (by omega : minAt l l.length < 1099511627776), slices_Delete_Episode]
    rw [gd_pos (by omega), gd_pos (by omega)]
    rfl
  · intro m k hm hk
    simp only [buffer_Oldest_l1, dec_t (by omega : (k : Int) < (l.length : Int)), if_true, gd_pos (by omega : (0 : Int) ≤ (k : Int)), gd_pos (by omega : (0 : Int) ≤ (m : Int)), Int.toNat_natCast, List.getElem?_eq_getElem hk, List.getElem?_eq_getElem hm, Option.bind_some, ksucc (by omega : k < 1099511627776)]
    by_cases c : l[k].First < l[m].First
    · rw [ite_t (dec_t c), if_pos c]
    · rw [ite_f (dec_f c), if_neg c]
  · intro m hm
    simp only [buffer_Oldest_l1, dec_f (by omega : ¬ (l.length : Int) < (l.length : Int)), Bool.false_eq_true, if_false]
theorem refOldest_spec (l : List Episode) (hl : l.length ≤ 1000000) : gleaningref15_Oldest l = some (oldB l) := by
  rw [gleaningref15_Oldest]
  by_cases h0 : l = []
  · subst h0; rfl
  have hp : 0 < l.length := List.length_pos_iff.2 h0
  have hm := minAt_lt l hp _ (Nat.le_refl _)
  rw [ite_f (by simp [h0]), old_loop _ l hl hp]
  · rw [oldB, List.getElem?_eq_getElem hm, Option.bind_some, gleaningref15_Oldest_k0]
    simp only [gd_pos (by omega : (0 : Int) ≤ (minAt l l.length : Int)), Int.toNat_natCast, List.getElem?_eq_getElem hm, Option.bind_some, ksucc (by omega : minAt l l.length < 1099511627776)]
    rw [gd_pos (by omega), gd_pos (by rw [List.length_take]; omega), gd_pos (by omega), gd_pos (by omega), gd_pos (by rw [List.length_append, List.length_take, List.length_drop]; omega)]
  · intro m k hm hk
    simp only [gleaningref15_Oldest_l1, dec_t (by omega : (k : Int) < (l.length : Int)), if_true, gd_pos (by omega : (0 : Int) ≤ (k : Int)), gd_pos (by omega : (0 : Int) ≤ (m : Int)), Int.toNat_natCast, List.getElem?_eq_getElem hk, List.getElem?_eq_getElem hm, Option.bind_some, ksucc (by omega : k < 1099511627776)]
    by_cases c : l[k].First < l[m].First
    · rw [ite_t (dec_t c), if_pos c]
    · rw [ite_f (dec_f c), if_neg c]
  · intro m hm
    simp only [gleaningref15_Oldest_l1, dec_f (by omega : ¬ (l.length : Int) < (l.length : Int)), Bool.false_eq_true, if_false]
theorem smallE_same {a : List Episode} (h : ∀ e ∈ a, smallE e) : ∀ e ∈ a, e.Spans.length ≤ 1000000 ∧ ∀ s ∈ e.Spans, s.Attrs.length ≤ 1000000 := fun e he => ⟨by have := (h e he).1; omega, fun s hs => by have := (h e he).2 s hs; omega⟩
theorem sameEp_refl (a : List Episode) (h : ∀ e ∈ a, smallE e) (hl : a.length ≤ 1000000) : gleaningref15_SameEpisodes a a = some true := by
  rw [sameEp_spec a a (smallE_same h) hl, dec_t rfl]
theorem bufferOldest_true (l : List Episode) (_ : List.length l ≤ maxLen ∧ ∀ y ∈ l, Episode.wf y) : gleaninglaw16_BufferOldest l = some true := by
  rw [gleaninglaw16_BufferOldest, alive16, Option.bind_some]
  rcases fewE_tot l with h1 | h1
  case inr => simp [h1]
  have g := fewE h1
  simp only [h1, Bool.not_true, Bool.false_eq_true, if_false, Option.bind_some, Sum.elim_inl, gleaninglaw16_BufferOldest_k0, oldest_spec l (by omega) g.2]
  by_cases h0 : l = []
  · subst h0; rfl
  have hp : 0 < l.length := List.length_pos_iff.2 h0
  have hm := minAt_lt l hp _ (Nat.le_refl _)
  have hmin := minAt_min l hp _ (Nat.le_refl _)
  obtain ⟨m, hm', e, hmin'⟩ : ∃ m, ∃ hm : m < l.length, m = minAt l l.length ∧ ∀ (i : Nat) (hi : i < l.length), l[m].First ≤ l[i].First ∧ (i < m → l[m].First < l[i].First) := ⟨minAt l l.length, hm, rfl, hmin⟩
  have ho : oldB l = (l.take m ++ l.drop (m + 1), l[m], true) := by rw [oldB, ← e, List.getElem?_eq_getElem hm']
  clear hmin hm e
  have hm := hm'
  have hmin := hmin'
  rw [ite_f (by simp [h0]), ho]
  have hloop : loopN (fun (s : Int × Int) => gleaninglaw16_BufferOldest_l2 l (l.take m ++ l.drop (m + 1), l[m], true) s.1 s.2) Fu (-1, IntKind.i64.wrap ((l.length : Int) - 1)) = some (Sum.inl (m : Int)) := by
    rw [w64 (by omega) (by omega)]
    refine loop_fu (fun n (s : Int × Int) r => n ≤ l.length ∧ s.2 = (n : Int) - 1 ∧ r = Sum.inl (m : Int) ∧ (m < n ∨ s.1 = (m : Int))) ?_ (n := l.length) ⟨Nat.le_refl _, by simp, rfl, .inl hm⟩ (by omega)
    rintro n ⟨at_, q⟩ r ⟨hn, hq, rfl, hor⟩
    dsimp only at hq hor
    subst hq
    cases n with
    | zero =>
      refine .inr ?_
      have : at_ = (m : Int) := by
        rcases hor with h | h
        · omega
        · exact h
      subst this
      rfl
    | succ n =>
      refine .inl ?_
      have hn2 : n < l.length := by omega
      have hq2 : ((n + 1 : Nat) : Int) - 1 = (n : Int) := by omega
      obtain ⟨q1, q2⟩ := hmin n hn2
      simp only [gleaninglaw16_BufferOldest_l2, hq2, dec_t (by omega : (0 : Int) ≤ (n : Int)), if_true, gd_pos (by omega : (0 : Int) ≤ (n : Int)), Int.toNat_natCast, List.getElem?_eq_getElem hn2, Option.bind_some, dec_f (by omega : ¬ l[n].First < l[m].First), Bool.false_eq_true, if_false, w64 (n := (n : Int) - 1) (by omega) (by omega)]
      by_cases e : l[n].First = l[m].First
      · rw [if_pos (by simp [e])]
        refine ⟨_, n, rfl, by omega, by omega, rfl, trivial, ?_⟩
        by_cases w : n = m
        · exact .inr (by rw [w])
        · refine .inl ?_
          by_cases z : n < m
          · exact absurd (q2 z) (by omega)
          · omega
      · rw [if_neg (by simp [e])]
        have hne : n ≠ m := fun w => e (by subst w; rfl)
        refine ⟨_, n, rfl, by omega, by omega, rfl, trivial, ?_⟩
        rcases hor with h | h
        · exact .inl (by omega)
        · exact .inr h
  rw [hloop]
  simp only [Option.bind_some, Sum.elim_inl, gleaninglaw16_BufferOldest_k1, Bool.not_true, Bool.false_eq_true, if_false, dec_f (by omega : ¬ (m : Int) < 0)]
  have hlen : (l.take m ++ l.drop (m + 1)).length = l.length - 1 := by rw [List.length_append, List.length_take, List.length_drop]; omega
  rw [ite_f (by rw [hlen, w64 (by omega) (by omega)]; simp; omega)]
  have t1 : (l.take m ++ l.drop (m + 1)).take m = l.take m := List.take_left' (by rw [List.length_take]; omega)
  have t2 : (l.take m ++ l.drop (m + 1)).drop m = l.drop (m + 1) := List.drop_left' (by rw [List.length_take]; omega)
  have s1 := sameEp_refl [l[m]] (by intro e he; rw [List.mem_singleton.1 he]; exact g.2 _ (List.getElem_mem hm)) (by simp)
  have s2 := sameEp_refl (l.take m) (fun e he => g.2 e (List.mem_of_mem_take he)) (by rw [List.length_take]; omega)
  have s3 := sameEp_refl (l.drop (m + 1)) (fun e he => g.2 e (List.mem_of_mem_drop he)) (by rw [List.length_drop]; omega)
  simp only [Option.bind_some, Sum.elim_inl, gleaninglaw16_BufferOldest_k3, ksucc (by omega : m < 1099511627776), Int.toNat_natCast, one_k l m hm, hlen, t1, t2, s1, s2, s3, if_true]
  rw [gd_pos (by omega), gd_pos (by omega), gd_pos (by omega), gd_pos (by omega), gd_pos (by omega), gd_pos (by omega), gd_pos (by omega), gd_pos (by omega), gd_pos (by omega), gd_pos (by omega), gd_pos (by omega)]
/-! against the document's answer -/
theorem wrap3 {n : Int} (h : -18446744073709551616 ≤ n) (h2 : n < 18446744073709551616) : IntKind.i64.wrap n = if n < -9223372036854775808 then n + 18446744073709551616 else if 9223372036854775808 ≤ n then n - 18446744073709551616 else n := by
  have h3 : IntKind.i64.wrap n = (n + 9223372036854775808) % 18446744073709551616 - 9223372036854775808 := by
    simp only [IntKind.wrap, IntKind.bits, IntKind.signed]
    simp
    split <;> omega
  rw [h3]
  split
  · omega
  · split <;> omega
theorem refLess_spec {a b : Int} (ha : inI .i64 a) (hb : inI .i64 b) : gleaningref15_less a b = some (lessR a b) := by
  have ha' : -9223372036854775808 ≤ a ∧ a ≤ 9223372036854775807 := ha
  have hb' : -9223372036854775808 ≤ b ∧ b ≤ 9223372036854775807 := hb
  rw [← less_spec]
  have hw := wrap3 (n := a - b) (by omega) (by omega)
  unfold gleaningref15_less rollup_Less
  by_cases c1 : b < 0
  · have c2 : ¬ (0 : Int) < b := by omega
    rw [w64 (n := 9223372036854775807 + b) (by omega) (by omega)]
    simp only [c1, c2, decide_true, decide_false, if_true, Bool.false_eq_true, if_false, Option.bind_some, gleaningref15_less_k1, rollup_Less_k0]
    by_cases c3 : 9223372036854775807 + b < a
    · have : IntKind.i64.wrap (a - b) < a := by rw [hw]; (repeat' split) <;> omega
      simp [c3, this]
    · have : ¬ IntKind.i64.wrap (a - b) < a := by rw [hw]; (repeat' split) <;> omega
      simp [c3, this, gleaningref15_less_k0]
  · by_cases c2 : (0 : Int) < b
    · simp only [c1, c2, decide_true, decide_false, if_true, Bool.false_eq_true, if_false, Option.bind_some, gleaningref15_less_k1, w64 (n := -9223372036854775808 + b) (by omega) (by omega)]
      by_cases c3 : a < -9223372036854775808 + b
      · have : a < IntKind.i64.wrap (a - b) := by rw [hw]; (repeat' split) <;> omega
        simp [c3, this, rollup_Less_k0]
      · have : ¬ a < IntKind.i64.wrap (a - b) := by rw [hw]; (repeat' split) <;> omega
        simp [c1, c3, this, gleaningref15_less_k0, rollup_Less_k0]
    · simp [c1, c2, gleaningref15_less_k1, gleaningref15_less_k0, rollup_Less_k0]
theorem refCount_spec (l : List Episode) (hl : l.length ≤ 1000000) (h : cntB l ≤ 1000000) : gleaningref15_Count l = some (cntB l : Int) := by
  refine loop_list (l := l) (fun k r s => s = ((cntB (l.take k) : Int), (k : Int)) ∧ r = (cntB l : Int)) (by omega) ?_ ?_ ⟨rfl, rfl⟩
  · rintro k hk r s ⟨rfl, rfl⟩
    have h1 := cntB_take l k hk
    have h2 := cntB_take_le l (k + 1)
    refine .inl ⟨((cntB (l.take (k + 1)) : Int), ((k + 1 : Nat) : Int)), ?_, rfl, rfl⟩
    simp only [gleaningref15_Count_l0, dec_t (by omega : (k : Int) < (l.length : Int)), if_true, gd_pos (by omega : (0 : Int) ≤ (k : Int)), Int.toNat_natCast, List.getElem?_eq_getElem hk, Option.bind_some, ksucc (by omega : k < 1099511627776), w64 (n := (cntB (l.take k) : Int) + (l[k].Spans.length : Int)) (by omega) (by omega), h1]
    push_cast; rfl
  · rintro r s ⟨rfl, rfl⟩
    simp only [gleaningref15_Count_l0, dec_f (by omega : ¬ (l.length : Int) < (l.length : Int)), Bool.false_eq_true, if_false, List.take_length]
theorem refPut_spec (l : List Episode) (s : Span) (n : Int) (b : Bool) (hl : l.length ≤ 1000000) (h : ∀ e ∈ l, smallE e) : gleaningref15_Put l s n b = some (putB l s n b) := by
  rw [gleaningref15_Put, gd_pos (by omega)]
  have hp := putB_idx s n b l
  have hloop : loopN (fun (v : Int) => gleaningref15_Put_l1 l s n b v) Fu 0 = some (match l.findIdx? (fun e => decide (e.Trace = s.Trace)) with | some k => Sum.inr (putB l s n b) | none => Sum.inl ()) := by
    refine loop_list (l := l) (fun k r v => v = (k : Int) ∧ (∀ x ∈ l.take k, ¬ x.Trace = s.Trace) ∧ r = (match l.findIdx? (fun e => decide (e.Trace = s.Trace)) with | some k => Sum.inr (putB l s n b) | none => Sum.inl ())) (by omega) ?_ ?_ ⟨rfl, by simp, rfl⟩
    · rintro k hk r v ⟨rfl, hb, rfl⟩
      have hadd := refAdd_spec l[k] s n (by have := (h _ (List.getElem_mem hk)).1; omega)
      simp only [gleaningref15_Put_l1, dec_t (by omega : (k : Int) < (l.length : Int)), if_true, gd_pos (by omega : (0 : Int) ≤ (k : Int)), Int.toNat_natCast, List.getElem?_eq_getElem hk, Option.bind_some, trace_eq, hadd, ksucc (by omega : k < 1099511627776)]
      by_cases e : l[k].Trace = s.Trace
      · refine .inr ?_
        have hf : l.findIdx? (fun e => decide (e.Trace = s.Trace)) = some k := by
          rw [List.findIdx?_eq_some_iff_getElem]
          refine ⟨hk, dec_t e, fun j hj => ?_⟩
          rw [dec_f (hb _ (List.mem_take_iff_getElem.2 ⟨j, by omega, rfl⟩))]; decide
        rw [hf] at hp ⊢
        obtain ⟨_, _, hp2⟩ := hp
        dsimp only
        rw [hp2, dec_t e, if_pos rfl]
        have ha := addE_same n e
        have : (Episode.mk (addE l[k] s n).1.Trace (addE l[k] s n).1.First (addE l[k] s n).1.Last (l[k].Sure || b) (addE l[k] s n).1.Spans) = updE l[k] s n b := by rw [ha]; rfl
        have hsu : (addE l[k] s n).1.Sure = l[k].Sure := by rw [ha]
        simp only [gleaningref15_Put_k2, gleaningref15_Put_k3, gd_pos (by omega : (0 : Int) ≤ (k : Int)), Int.toNat_natCast, List.getElem?_eq_getElem hk, Option.bind_some, hsu]
        rw [← this]
        cases (addE l[k] s n).2 <;> cases l[k].Sure <;> rfl
      · refine .inl ⟨_, by rw [dec_f e, if_neg (by decide)], rfl, fun x hx => ?_, trivial⟩
        rw [List.take_succ_eq_append_getElem hk] at hx
        rcases List.mem_append.1 hx with hx | hx
        · exact hb x hx
        · rw [List.mem_singleton.1 hx]; exact e
    · rintro r v ⟨rfl, hb, rfl⟩
      rw [List.take_length] at hb
      have hf : l.findIdx? (fun e => decide (e.Trace = s.Trace)) = none := by rw [List.findIdx?_eq_none_iff]; exact fun x hx => dec_f (hb x hx)
      simp only [gleaningref15_Put_l1, dec_f (by omega : ¬ (l.length : Int) < (l.length : Int)), Bool.false_eq_true, if_false, hf]
  rw [hloop]
  revert hp
  cases l.findIdx? (fun e => decide (e.Trace = s.Trace)) with
  | some k => intro hp; rfl
  | none =>
    intro hp
    dsimp only at hp
    simp only [Option.bind_some, Sum.elim_inl, gleaningref15_Put_k0]
    rw [gd_pos (by simp only [List.length_append, List.length_singleton]; omega), hp]
    rfl
theorem refClose_spec (l : List Episode) (now q a : Int) (hl : l.length ≤ 1000000) (hw : ∀ e ∈ l, Episode.wf e) (hn : inI .i64 now) : gleaningref15_Close l now q a = some (l.filter (staysB now q a), l.filter (goesB now q a)) := by
  rw [gleaningref15_Close]
  have : loopN (fun (s : List Episode × List Episode × Int) => gleaningref15_Close_l1 l now q a s.1 s.2.1 s.2.2) Fu ([], [], 0) = some (l.filter (staysB now q a), l.filter (goesB now q a)) := by
    refine loop_list (l := l) (fun k r s => s = ((l.take k).filter (staysB now q a), (l.take k).filter (goesB now q a), (k : Int)) ∧ r = (l.filter (staysB now q a), l.filter (goesB now q a))) (by omega) ?_ ?_ ⟨rfl, rfl⟩
    · rintro k hk r s ⟨rfl, rfl⟩
      have h1 := List.length_filter_le (staysB now q a) (l.take k)
      have h2 := List.length_filter_le (goesB now q a) (l.take k)
      rw [List.length_take] at h1 h2
      have hwk := hw _ (List.getElem_mem hk)
      refine .inl ⟨_, ?_, rfl, rfl⟩
      rw [List.take_succ_eq_append_getElem hk, List.filter_append, List.filter_append]
      have e1 : gleaningref15_long l[k].Last now q = some (decide (q ≤ lessR now l[k].Last)) := by rw [gleaningref15_long, refLess_spec hn hwk.2.2.1]; rfl
      have e2 : gleaningref15_long l[k].First now a = some (decide (a ≤ lessR now l[k].First)) := by rw [gleaningref15_long, refLess_spec hn hwk.2.1]; rfl
      simp only [gleaningref15_Close_l1, dec_t (by omega : (k : Int) < (l.length : Int)), if_true, gd_pos (by omega : (0 : Int) ≤ (k : Int)), Int.toNat_natCast, List.getElem?_eq_getElem hk, Option.bind_some, e1, e2]
      have hg : (if decide (q ≤ lessR now l[k].Last) = true then some true else some (decide (a ≤ lessR now l[k].First))) = some (goesB now q a l[k]) := by
        rw [goesB]; cases decide (q ≤ lessR now l[k].Last) <;> rfl
      rw [hg]
      simp only [Option.bind_some, gleaningref15_Close_k2, gd_pos (by omega : (0 : Int) ≤ (k : Int)), Int.toNat_natCast, List.getElem?_eq_getElem hk, ksucc (by omega : k < 1099511627776)]
      rw [gd_pos (by simp only [List.length_append, List.length_singleton]; omega), gd_pos (by simp only [List.length_append, List.length_singleton]; omega)]
      cases hb : goesB now q a l[k] <;> simp [staysB, hb]
    · rintro r s ⟨rfl, rfl⟩
      simp only [gleaningref15_Close_l1, dec_f (by omega : ¬ (l.length : Int) < (l.length : Int)), Bool.false_eq_true, if_false, List.take_length]
  rw [this]; rfl
theorem cntB_le : ∀ (l : List Episode), (∀ e ∈ l, smallE e) → cntB l ≤ 60 * l.length
  | [], _ => by simp [cntB]
  | e :: r, h => by
    have h1 := cntB_le r (fun x hx => h x (List.mem_cons_of_mem _ hx))
    have h2 := (h e (List.mem_cons_self ..)).1
    rw [cntB_cons, List.length_cons]; omega
theorem putB_small (s : Span) (n : Int) (b : Bool) (l : List Episode) (h : ∀ e ∈ l, smallE e) (hs : s.Attrs.length ≤ 20) : (putB l s n b).length ≤ l.length + 1 ∧ ∀ e ∈ putB l s n b, e.Spans.length ≤ 1000000 ∧ ∀ x ∈ e.Spans, x.Attrs.length ≤ 1000000 := by
  have hu : ∀ e : Episode, smallE e → (updE e s n b).Spans.length ≤ 1000000 ∧ ∀ x ∈ (updE e s n b).Spans, x.Attrs.length ≤ 1000000 := by
    intro e he
    refine ⟨by have := addS_len s e.Spans; have := he.1; show (addS e.Spans s).length ≤ _; omega, fun x hx => ?_⟩
    rcases addS_mem hx with hx | rfl
    · have := he.2 x hx; omega
    · omega
  rcases putB_cases s n b l with ⟨A, e, B, rfl, he, hp⟩ | ⟨hno, hp⟩
  · rw [hp]
    refine ⟨by simp, fun x hx => ?_⟩
    rcases List.mem_append.1 hx with hx | hx
    · exact smallE_same h x (List.mem_append_left _ hx)
    · rcases List.mem_cons.1 hx with rfl | hx
      · exact hu e (h e (by simp))
      · exact smallE_same h x (List.mem_append_right _ (List.mem_cons_of_mem _ hx))
  · rw [hp]
    refine ⟨by simp, fun x hx => ?_⟩
    rcases List.mem_append.1 hx with hx | hx
    · exact smallE_same h x hx
    · rw [List.mem_singleton.1 hx]; exact hu _ ⟨by simp, by simp⟩
theorem oldB_small (l : List Episode) (h : ∀ e ∈ l, smallE e) : (oldB l).1.length ≤ l.length ∧ (∀ e ∈ (oldB l).1, smallE e) ∧ smallE (oldB l).2.1 := by
  unfold oldB
  split
  · rename_i e he
    refine ⟨by simp only [List.length_append, List.length_take, List.length_drop]; omega, fun x hx => ?_, h e (List.mem_of_getElem? he)⟩
    rcases List.mem_append.1 hx with hx | hx
    · exact h x (List.mem_of_mem_take hx)
    · exact h x (List.mem_of_mem_drop hx)
  · exact ⟨by simp, by simp, by simp [smallE]⟩
theorem bufferTells_true (l : List Episode) (s : Span) (now : Int) (b : Bool) (q a : Int) (hw : List.length l ≤ maxLen ∧ ∀ y ∈ l, Episode.wf y) (_ : Span.wf s) (hn : inI .i64 now) (_ : True) (_ : inI .i64 q) (_ : inI .i64 a) : gleaninglaw16_BufferTells l s now b q a = some true := by
  rw [gleaninglaw16_BufferTells, alive16, Option.bind_some]
  rcases fewE_tot l with h1 | h1
  case inr => simp [h1]
  rcases few_tot s with h2 | h2
  case inr => simp [h1, h2]
  have g := fewE h1
  have gs := smallS_attrs (few_attrs h2)
  have hc := cntB_le l g.2
  obtain ⟨o1, o2, o3⟩ := oldB_small l g.2
  obtain ⟨p1, p2⟩ := putB_small s now b l g.2 gs
  have f1 := List.length_filter_le (staysB now q a) l
  have f2 := List.length_filter_le (goesB now q a) l
  have s1 := sameEp_refl (oldB l).1 o2 (by omega)
  have s2 := sameEp_refl [(oldB l).2.1] (by intro e he; rw [List.mem_singleton.1 he]; exact o3) (by simp)
  have s3 := sameEp_refl (l.filter (staysB now q a)) (fun e he => g.2 e (List.mem_filter.1 he).1) (by omega)
  have s4 := sameEp_refl (l.filter (goesB now q a)) (fun e he => g.2 e (List.mem_filter.1 he).1) (by omega)
  have s5 : gleaningref15_SameEpisodes (putB l s now b) (putB l s now b) = some true := by rw [sameEp_spec _ _ p2 (by omega), dec_t rfl]
  simp only [h1, h2, Bool.not_true, Bool.false_eq_true, if_false, Option.bind_some, Sum.elim_inl, gleaninglaw16_BufferTells_k0, oldest_spec l (by omega) g.2, refOldest_spec l (by omega), close_spec l now q a (by omega) g.2, refClose_spec l now q a (by omega) hw.2 hn, count_spec l (by omega) (by omega), refCount_spec l (by omega) (by omega), bput_spec l s now b (by omega) g.2 gs, refPut_spec l s now b (by omega) g.2, s1, s2, s3, s4, s5, beq_self_eq_true, if_true]
  rw [gd_pos (by omega)]
end Go.Proofs.Ytlkdpgemdopbfaa.Ab
