/- Open traces, told plainly. -/
import Derived.Test.YtlkdpgemdopbfaaXBuffer
import Derived.Test.YtlkdpgemdopbfaaPEpisK
namespace Go.Proofs.Ytlkdpgemdopbfaa.Ab
open Go Go.RowKit
set_option linter.unusedVariables false
set_option linter.unusedSimpArgs false

theorem fewAll_tot (l : List Span) : gleaninglaw3_FewAll l = some false ∨ (gleaninglaw3_FewAll l = some true ∧ l.length ≤ 60 ∧ ∀ s ∈ l, smallS s) := by
  obtain ⟨b, h1, h2⟩ := fewAll_spec l
  cases b with
  | false => exact .inl h1
  | true => exact .inr ⟨h1, h2 rfl⟩
theorem one_at {α : Type} (A B : List α) (x : α) : ((A ++ x :: B).take (A.length + 1)).drop A.length = [x] := by
  rw [show A ++ x :: B = (A ++ [x]) ++ B by simp, List.take_left' (by simp), List.drop_left' rfl]
theorem one_k {α : Type} (l : List α) (k : Nat) (hk : k < l.length) : (l.take (k + 1)).drop k = [l[k]] := by
  have h := one_at (l.take k) (l.drop (k + 1)) l[k]
  rw [List.getElem_cons_drop, List.take_append_drop, List.length_take, Nat.min_eq_left (by omega)] at h
  exact h
theorem copies_spec (l : List Episode) (hl : l.length ≤ 1000000) (h : ∀ e ∈ l, smallE e) : episode_Copies l = some l := by
  refine loop_list (l := l) (fun k r s => s = (l.take k, (k : Int)) ∧ r = l) (by omega) ?_ ?_ ⟨rfl, rfl⟩
  · rintro k hk r s ⟨rfl, rfl⟩
    refine .inl ⟨(r.take (k + 1), ((k + 1 : Nat) : Int)), ?_, rfl, rfl⟩
    simp only [episode_Copies_l0, dec_t (by omega : (k : Int) < (r.length : Int)), if_true, gd_pos (by omega : (0 : Int) ≤ (k : Int)), Int.toNat_natCast, List.getElem?_eq_getElem hk, Option.bind_some, ecopy_spec (h _ (List.getElem_mem hk)), ksucc (by omega : k < 1099511627776), ← List.take_succ_eq_append_getElem hk]
    rw [gd_pos]
    rw [List.length_take]; omega
  · rintro r s ⟨rfl, rfl⟩
    simp only [episode_Copies_l0, dec_f (by omega : ¬ (r.length : Int) < (r.length : Int)), Bool.false_eq_true, if_false, List.take_length]
def updE (e : Episode) (s : Span) (n : Int) (b : Bool) : Episode := Episode.mk e.Trace e.First n (e.Sure || b) (addS e.Spans s)
def putB : List Episode → Span → Int → Bool → List Episode
  | [], s, n, b => [updE (Episode.mk s.Trace n 0 false []) s n b]
  | e :: r, s, n, b => if e.Trace = s.Trace then updE e s n b :: r else e :: putB r s n b
theorem putB_idx (s : Span) (n : Int) (b : Bool) : ∀ l : List Episode, match l.findIdx? (fun e => decide (e.Trace = s.Trace)) with
    | some k => ∃ hk : k < l.length, l[k].Trace = s.Trace ∧ putB l s n b = l.set k (updE l[k] s n b)
    | none => putB l s n b = l ++ [updE (Episode.mk s.Trace n 0 false []) s n b]
  | [] => rfl
  | e :: r => by
    have ih := putB_idx s n b r
    rw [List.findIdx?_cons]
    by_cases h : e.Trace = s.Trace
    · rw [dec_t h]
      exact ⟨by simp, h, by simp [putB, h]⟩
    · rw [dec_f h]
      cases hh : r.findIdx? (fun e => decide (e.Trace = s.Trace)) with
      | none =>
        rw [hh] at ih
        simp only [Bool.false_eq_true, if_false, Option.map_none]
        rw [putB, if_neg h, ih]; rfl
      | some k =>
        rw [hh] at ih
        obtain ⟨hk, h1, h2⟩ := ih
        simp only [Bool.false_eq_true, if_false, Option.map_some]
        exact ⟨by simp; omega, by simpa using h1, by rw [putB, if_neg h, h2]; rfl⟩
theorem addE_same {e : Episode} {s : Span} (n : Int) (h : e.Trace = s.Trace) : (addE e s n).1 = Episode.mk e.Trace e.First n e.Sure (addS e.Spans s) := by
  unfold addE addS; rw [if_pos h]; split <;> rfl
theorem put_k0 (s : Span) (n : Int) (b : Bool) (l : List Episode) (k : Nat) (hk : k < l.length) (h : smallE l[k]) (ht : l[k].Trace = s.Trace) (hs : s.Attrs.length ≤ 20) : buffer_Put_k0 s n b l (k : Int) = some (l.set k (updE l[k] s n b)) := by
  simp only [buffer_Put_k0, buffer_Put_k1, gd_pos (by omega : (0 : Int) ≤ (k : Int)), Int.toNat_natCast, List.getElem?_eq_getElem hk, Option.bind_some, epAdd_spec _ s n h hs, addE_same n ht, updE]
  cases l[k].Sure <;> rfl
theorem bput_spec (l : List Episode) (s : Span) (n : Int) (b : Bool) (hl : l.length ≤ 1000000) (h : ∀ e ∈ l, smallE e) (hs : s.Attrs.length ≤ 20) : buffer_Put l s n b = some (putB l s n b) := by
  have hi : slices_IndexFunc_Episode_buffer_Put_c1 l s = some (idx (fun e => decide (e.Trace = s.Trace)) l) := by
    refine loop_find _ l (by omega) (fun k hk => ?_) ?_
    · simp only [slices_IndexFunc_Episode_buffer_Put_c1_l0, dec_t (by omega : (k : Int) < (l.length : Int)), if_true, gd_pos (by omega : (0 : Int) ≤ (k : Int)), Int.toNat_natCast, List.getElem?_eq_getElem hk, Option.bind_some, buffer_Put_c1, trace_eq, ksucc (by omega : k < 1099511627776)]
    · simp only [slices_IndexFunc_Episode_buffer_Put_c1_l0, dec_f (by omega : ¬ (l.length : Int) < (l.length : Int)), Bool.false_eq_true, if_false]
  have hp := putB_idx s n b l
  rw [buffer_Put, copies_spec l hl h, Option.bind_some, hi, Option.bind_some, idx]
  revert hp
  cases l.findIdx? (fun e => decide (e.Trace = s.Trace)) with
  | none =>
    intro hp
    dsimp only at hp ⊢
    rw [dec_t (by decide : (-1 : Int) < 0), if_pos rfl, gd_pos (by simp only [List.length_append, List.length_singleton]; omega), Option.bind_some, put_k0 s n b (l ++ [Episode.mk s.Trace n 0 false []]) l.length (by simp) (by simp [smallE]) (by simp) hs, hp]
    simp
  | some k =>
    intro hp
    obtain ⟨hk, h1, h2⟩ := hp
    dsimp only
    rw [dec_f (by omega : ¬ (k : Int) < 0), if_neg (by decide), Option.bind_some, put_k0 s n b l k hk (h _ (List.getElem_mem hk)) h1 hs, h2]
theorem putB_cases (s : Span) (n : Int) (b : Bool) : ∀ l : List Episode, (∃ A e B, l = A ++ e :: B ∧ e.Trace = s.Trace ∧ putB l s n b = A ++ updE e s n b :: B) ∨ ((∀ x ∈ l, ¬ x.Trace = s.Trace) ∧ putB l s n b = l ++ [updE (Episode.mk s.Trace n 0 false []) s n b])
  | [] => .inr ⟨by simp, rfl⟩
  | e :: r => by
    by_cases h : e.Trace = s.Trace
    · exact .inl ⟨[], e, r, rfl, h, by simp [putB, h]⟩
    · rcases putB_cases s n b r with ⟨A, x, B, h1, h2, h3⟩ | ⟨h1, h2⟩
      · exact .inl ⟨e :: A, x, B, by simp [h1], h2, by rw [putB, if_neg h, h3]; rfl⟩
      · refine .inr ⟨fun x hx => ?_, by rw [putB, if_neg h, h2]; rfl⟩
        rcases List.mem_cons.1 hx with rfl | hx
        · exact h
        · exact h1 x hx
def cntB (l : List Episode) : Nat := (l.map (fun e => e.Spans.length)).sum
theorem cntB_app (a b : List Episode) : cntB (a ++ b) = cntB a + cntB b := by simp [cntB]
theorem cntB_cons (e : Episode) (b : List Episode) : cntB (e :: b) = e.Spans.length + cntB b := by simp [cntB]
theorem cntB_take (l : List Episode) (k : Nat) (hk : k < l.length) : cntB (l.take (k + 1)) = cntB (l.take k) + l[k].Spans.length := by
  rw [List.take_succ_eq_append_getElem hk, cntB_app, cntB_cons]; rfl
theorem cntB_take_le (l : List Episode) (k : Nat) : cntB (l.take k) ≤ cntB l := by
  have : cntB l = cntB (l.take k) + cntB (l.drop k) := by rw [← cntB_app, List.take_append_drop]
  omega
theorem count_spec (l : List Episode) (hl : l.length ≤ 1000000) (h : cntB l ≤ 1000000) : buffer_Count l = some (cntB l : Int) := by
  refine loop_list (l := l) (fun k r s => s = ((cntB (l.take k) : Int), (k : Int)) ∧ r = (cntB l : Int)) (by omega) ?_ ?_ ⟨rfl, rfl⟩
  · rintro k hk r s ⟨rfl, rfl⟩
    have h1 := cntB_take l k hk
    have h2 := cntB_take_le l (k + 1)
    refine .inl ⟨((cntB (l.take (k + 1)) : Int), ((k + 1 : Nat) : Int)), ?_, rfl, rfl⟩
    simp only [buffer_Count_l0, dec_t (by omega : (k : Int) < (l.length : Int)), if_true, gd_pos (by omega : (0 : Int) ≤ (k : Int)), Int.toNat_natCast, List.getElem?_eq_getElem hk, Option.bind_some, ksucc (by omega : k < 1099511627776), w64 (n := (cntB (l.take k) : Int) + (l[k].Spans.length : Int)) (by omega) (by omega), h1]
    push_cast; rfl
  · rintro r s ⟨rfl, rfl⟩
    simp only [buffer_Count_l0, dec_f (by omega : ¬ (l.length : Int) < (l.length : Int)), Bool.false_eq_true, if_false, List.take_length]
theorem alive16 : gleaninglaw16_alive = some true := by
  rw [gleaninglaw16_alive, bput_spec [] _ 3 true (by simp) (by simp) (by simp), Option.bind_some, count_spec [] (by simp) (by simp [cntB]), Option.bind_some, count_spec _ (by simp [putB]) (by simp [putB, updE, addS, hasId, cntB])]
  rfl
/-- how much less, but for what is too great -/
def lessR (a b : Int) : Int := (rollup_Less a b).getD 0
theorem less_spec (a b : Int) : rollup_Less a b = some (lessR a b) := by
  have : ∃ r, rollup_Less a b = some r := by
    unfold rollup_Less
    split <;> simp only [Option.bind_some, rollup_Less_k0] <;> (repeat' split) <;> exact ⟨_, rfl⟩
  obtain ⟨r, hr⟩ := this
  rw [lessR, hr]; rfl
theorem lessR_in {a b : Int} (ha : 0 ≤ a) (ha2 : a ≤ 1099511627776) (hb : 0 ≤ b) (hb2 : b ≤ 1099511627776) : lessR a b = a - b := by
  have hw : IntKind.i64.wrap (a - b) = a - b := w64 (by omega) (by omega)
  rw [lessR, rollup_Less]
  by_cases h : (0 : Int) < b
  · have e1 : decide (a < a - b) = false := dec_f (by omega)
    have e2 : decide (b < 0) = false := dec_f (by omega)
    simp [h, hw, rollup_Less_k0, e1, e2]
  · have e2 : decide (b < 0) = false := dec_f (by omega)
    simp [h, hw, rollup_Less_k0, e2]
def goesB (now q a : Int) (e : Episode) : Bool := decide (q ≤ lessR now e.Last) || decide (a ≤ lessR now e.First)
def staysB (now q a : Int) (e : Episode) : Bool := !goesB now q a e
theorem close_spec (l : List Episode) (now q a : Int) (hl : l.length ≤ 1000000) (h : ∀ e ∈ l, smallE e) : buffer_Close l now q a = some (l.filter (staysB now q a), l.filter (goesB now q a)) := by
  rw [buffer_Close, copies_spec l hl h, Option.bind_some]
  have : loopN (fun (s : List Episode × List Episode × Int) => buffer_Close_l1 now q a l s.1 s.2.1 s.2.2) Fu ([], [], 0) = some (l.filter (staysB now q a), l.filter (goesB now q a)) := by
    refine loop_list (l := l) (fun k r s => s = ((l.take k).filter (staysB now q a), (l.take k).filter (goesB now q a), (k : Int)) ∧ r = (l.filter (staysB now q a), l.filter (goesB now q a))) (by omega) ?_ ?_ ⟨rfl, rfl⟩
    · rintro k hk r s ⟨rfl, rfl⟩
      have h1 := List.length_filter_le (staysB now q a) (l.take k)
      have h2 := List.length_filter_le (goesB now q a) (l.take k)
      rw [List.length_take] at h1 h2
      refine .inl ⟨_, ?_, rfl, rfl⟩
      rw [List.take_succ_eq_append_getElem hk, List.filter_append, List.filter_append]
      have hg : Option.bind (rollup_Less now l[k].Last) (fun (x18 : Int) => if (decide (q ≤ x18)) = true then (some true) else (Option.bind (rollup_Less now l[k].First) (fun (x20 : Int) => some (decide (a ≤ x20))))) = some (goesB now q a l[k]) := by
        rw [less_spec, less_spec, goesB]
        simp only [Option.bind_some]
        cases decide (q ≤ lessR now l[k].Last) <;> rfl
      simp only [buffer_Close_l1, dec_t (by omega : (k : Int) < (l.length : Int)), if_true, gd_pos (by omega : (0 : Int) ≤ (k : Int)), Int.toNat_natCast, List.getElem?_eq_getElem hk, Option.bind_some, hg, buffer_Close_k2, ksucc (by omega : k < 1099511627776)]
      rw [gd_pos (by simp only [List.length_append, List.length_singleton]; omega), gd_pos (by simp only [List.length_append, List.length_singleton]; omega)]
      cases hb : goesB now q a l[k] <;> simp [staysB, hb]
    · rintro r s ⟨rfl, rfl⟩
      simp only [buffer_Close_l1, dec_f (by omega : ¬ (l.length : Int) < (l.length : Int)), Bool.false_eq_true, if_false, List.take_length]
  rw [this]; rfl
end Go.Proofs.Ytlkdpgemdopbfaa.Ab
