/- Chapter 32: who asks for more finds no trace that who asks for less does not, in the same order; and who asks for nothing finds all that have spans. -/
import Derived.Test.YtnhjcpnoadicpaaXSNarrows
import Derived.Test.YtnhjcpnoadicpaaPSearchA
import Derived.Test.YtnhjcpnoadicpaaPUpto
namespace Go.Proofs.Ytnhjcpnoadicpaa.Ab
open Go Go.RowKit
set_option linter.unusedVariables false
set_option linter.unusedSimpArgs false
def greedy : List Trace → List Trace → Nat
  | [], _ => 0
  | _ :: _, [] => 0
  | x :: a, y :: b => if x = y then greedy a b + 1 else greedy (x :: a) b
theorem greedy_all : ∀ (b a : List Trace), Rise a → Rise b → (∀ t ∈ a, t ∈ b) → greedy a b = a.length
  | [], [], _, _, _ => rfl
  | [], x :: a, _, _, h => by have := h x List.mem_cons_self; cases this
  | _ :: _, [], _, _, _ => rfl
  | y :: b, x :: a, ha, hb, h => by
    obtain ⟨a1, a2⟩ := List.pairwise_cons.1 ha
    obtain ⟨b1, b2⟩ := List.pairwise_cons.1 hb
    unfold greedy
    by_cases e : x = y
    · subst e
      rw [if_pos rfl, greedy_all b a a2 b2 fun t ht => ?_]
      · rfl
      · rcases List.mem_cons.1 (h t (List.mem_cons_of_mem _ ht)) with k | k
        · subst k; exact absurd (a1 t ht) (tlt_irr t)
        · exact k
    · rw [if_neg e, greedy_all b (x :: a) ha b2 fun t ht => ?_]
      have hyx : tlt y x := by
        rcases List.mem_cons.1 (h x List.mem_cons_self) with k | k
        · exact absurd k e
        · exact b1 x k
      rcases List.mem_cons.1 (h t ht) with k | k
      · subst k
        rcases List.mem_cons.1 ht with k2 | k2
        · exact absurd k2.symm e
        · exact absurd (tlt_tr hyx (a1 t k2)) (tlt_irr t)
      · exact k
theorem within_loop (a b : List Trace) (ha : a.length ≤ 1000000) (hb : b.length ≤ 1000000) : ∀ (m k i N : Nat), i + m = b.length → k ≤ a.length → m < N → loopN (fun (s : Int × Int) => gleaninglaw32_within_l1 a b s.1 s.2) N ((k : Int), (i : Int)) = some ((k + greedy (a.drop k) (b.drop i) : Nat) : Int)
  | 0, k, i, N, hi, hk, hN => by
    obtain ⟨N', rfl⟩ : ∃ N', N = N' + 1 := ⟨N - 1, by omega⟩
    have e : b.drop i = [] := List.drop_of_length_le (by omega)
    have g : greedy (a.drop k) [] = 0 := by cases a.drop k <;> rfl
    rw [e, g]
    refine loop_r ?_
    simp only [gleaninglaw32_within_l1, dec_f (by omega : ¬ (i : Int) < (b.length : Int)), Bool.false_eq_true, if_false, Option.bind_some, Sum.elim_inr, Nat.add_zero]
  | m + 1, k, i, N, hi, hk, hN => by
    obtain ⟨N', rfl⟩ : ∃ N', N = N' + 1 := ⟨N - 1, by omega⟩
    have hib : i < b.length := by omega
    by_cases hka : k < a.length
    · rw [List.drop_eq_getElem_cons hka, List.drop_eq_getElem_cons hib, greedy]
      by_cases e : a[k] = b[i]
      · have hbody : gleaninglaw32_within_l1 a b (k : Int) (i : Int) = some (.inl (((k + 1 : Nat) : Int), ((i + 1 : Nat) : Int))) := by
          simp only [gleaninglaw32_within_l1, dec_t (by omega : (i : Int) < (b.length : Int)), dec_t (by omega : (k : Int) < (a.length : Int)), if_true, Option.bind_some, Sum.elim_inl, gleaninglaw32_within_k2, gd_pos (by omega : (0 : Int) ≤ (k : Int)), gd_pos (by omega : (0 : Int) ≤ (i : Int)), Int.toNat_natCast, List.getElem?_eq_getElem hka, List.getElem?_eq_getElem hib, trace_beq, dec_t e, ksucc (by omega : k < 1099511627776), ksucc (by omega : i < 1099511627776)]
        rw [loop_l (body := fun (s : Int × Int) => gleaninglaw32_within_l1 a b s.1 s.2) hbody, within_loop a b ha hb m (k + 1) (i + 1) N' (by omega) (by omega) (by omega), if_pos e]
        congr 2; omega
      · have hbody : gleaninglaw32_within_l1 a b (k : Int) (i : Int) = some (.inl ((k : Int), ((i + 1 : Nat) : Int))) := by
          simp only [gleaninglaw32_within_l1, dec_t (by omega : (i : Int) < (b.length : Int)), dec_t (by omega : (k : Int) < (a.length : Int)), if_true, Option.bind_some, Sum.elim_inl, gleaninglaw32_within_k2, gd_pos (by omega : (0 : Int) ≤ (k : Int)), gd_pos (by omega : (0 : Int) ≤ (i : Int)), Int.toNat_natCast, List.getElem?_eq_getElem hka, List.getElem?_eq_getElem hib, trace_beq, dec_f e, Bool.false_eq_true, if_false, ksucc (by omega : i < 1099511627776)]
        rw [loop_l (body := fun (s : Int × Int) => gleaninglaw32_within_l1 a b s.1 s.2) hbody, within_loop a b ha hb m k (i + 1) N' (by omega) (by omega) (by omega), if_neg e, List.drop_eq_getElem_cons hka]
    · have e : a.drop k = [] := List.drop_of_length_le (by omega)
      have g : greedy [] (b.drop i) = 0 := by cases b.drop i <;> rfl
      rw [e, g, Nat.add_zero]
      refine loop_r ?_
      simp only [gleaninglaw32_within_l1, dec_t (by omega : (i : Int) < (b.length : Int)), dec_f (by omega : ¬ (k : Int) < (a.length : Int)), if_true, Bool.false_eq_true, if_false, Option.bind_some, Sum.elim_inr]
      rfl
theorem within_spec {a b : List Trace} (ha : Rise a) (hb : Rise b) (h : ∀ t ∈ a, t ∈ b) (la : a.length ≤ 1000000) (lb : b.length ≤ 1000000) : gleaninglaw32_within a b = some true := by
  have hl := within_loop a b la lb b.length 0 0 Fu (by omega) (by omega) (by rw [show Fu = 1208925819614629174706175 + 1 from rfl]; omega)
  rw [List.drop_zero, List.drop_zero, greedy_all b a ha hb h] at hl
  rw [gleaninglaw32_within, show (0 : Int) = ((0 : Nat) : Int) from rfl, hl, Option.bind_some, gleaninglaw32_within_k0]
  simp
theorem hit_mono {q r : Query} (h : ∀ s, matchF q s = true → matchF r s = true) {e : Episode} (he : hitF q e = true) : hitF r e = true := by
  unfold hitF at *
  rw [List.any_eq_true] at *
  obtain ⟨s, h1, h2⟩ := he
  exact ⟨s, h1, h s h2⟩
theorem all_mono {l : List Block} {q r : Query} (h : ∀ s, matchF q s = true → matchF r s = true) : ∀ t ∈ allF l q, t ∈ allF l r := fun t ht => by
  rw [all_mem] at *
  obtain ⟨e, h1, h2, h3⟩ := ht
  exact ⟨e, h1, hit_mono h h2, h3⟩
def q0 : Query := ⟨strOf [], strOf [], strOf [], strOf [], 0, false⟩
theorem match_q0 (s : Span) : matchF q0 s = true := by simp [matchF, restF, q0]
theorem hit_q0 (e : Episode) : hitF q0 e = !decide (e.Spans.length = 0) := by
  unfold hitF
  cases e.Spans with
  | nil => rfl
  | cons s r => simp [match_q0]
/-- each trace that has spans, once -/
def nubE (out : List Trace) (es : List Episode) : List Trace := es.foldl (fun out e => if e.Spans.length = 0 ∨ e.Trace ∈ out then out else out ++ [e.Trace]) out
theorem nub_spec : ∀ (es : List Episode) (out : List Trace), out.Nodup → (nubE out es).Nodup ∧ (∀ t, t ∈ nubE out es ↔ t ∈ out ∨ ∃ e, e ∈ es ∧ hitF q0 e = true ∧ e.Trace = t) ∧ (nubE out es).length ≤ out.length + es.length
  | [], out, h => ⟨h, fun t => by simp [nubE], Nat.le_refl _⟩
  | e :: es, out, h => by
    have hstep : (if e.Spans.length = 0 ∨ e.Trace ∈ out then out else out ++ [e.Trace]).Nodup ∧ (∀ t, t ∈ (if e.Spans.length = 0 ∨ e.Trace ∈ out then out else out ++ [e.Trace]) ↔ t ∈ out ∨ (hitF q0 e = true ∧ e.Trace = t)) ∧ (if e.Spans.length = 0 ∨ e.Trace ∈ out then out else out ++ [e.Trace]).length ≤ out.length + 1 := by
      by_cases c : e.Spans.length = 0 ∨ e.Trace ∈ out
      · rw [if_pos c]
        refine ⟨h, fun t => ⟨fun k => .inl k, ?_⟩, by omega⟩
        rintro (k | ⟨k1, k2⟩)
        · exact k
        · rcases c with c | c
          · rw [hit_q0, dec_t c] at k1; cases k1
          · exact k2 ▸ c
      · rw [if_neg c]
        have c1 : ¬ e.Spans.length = 0 := fun k => c (.inl k)
        have c2 : ¬ e.Trace ∈ out := fun k => c (.inr k)
        refine ⟨?_, fun t => ?_, by simp⟩
        · rw [List.nodup_append]
          refine ⟨h, by simp, fun x hx y hy => ?_⟩
          rw [List.mem_singleton.1 hy]
          intro k
          exact c2 (k ▸ hx)
        · rw [List.mem_append, List.mem_singleton, hit_q0, dec_f c1]
          constructor
          · rintro (k | k)
            · exact .inl k
            · exact .inr ⟨rfl, k.symm⟩
          · rintro (k | ⟨_, k⟩)
            · exact .inl k
            · exact .inr k.symm
    obtain ⟨r1, r2, r3⟩ := nub_spec es _ hstep.1
    refine ⟨r1, fun t => (r2 t).trans ?_, ?_⟩
    · rw [hstep.2.1 t]
      constructor
      · rintro ((k | ⟨k1, k2⟩) | ⟨e', k1, k2, k3⟩)
        · exact .inl k
        · exact .inr ⟨e, List.mem_cons_self, k1, k2⟩
        · exact .inr ⟨e', List.mem_cons_of_mem _ k1, k2, k3⟩
      · rintro (k | ⟨e', k1, k2, k3⟩)
        · exact .inl (.inl k)
        · rcases List.mem_cons.1 k1 with rfl | k1
          · exact .inl (.inr ⟨k2, k3⟩)
          · exact .inr ⟨e', k1, k2, k3⟩
    · have := hstep.2.2
      show (nubE _ es).length ≤ _
      simp only [List.length_cons]; omega
theorem nub_app (out : List Trace) (a b : List Episode) : nubE out (a ++ b) = nubE (nubE out a) b := by simp [nubE]
theorem nub_succ (out : List Trace) (es : List Episode) (k : Nat) (hk : k < es.length) : nubE out (es.take (k + 1)) = if es[k].Spans.length = 0 ∨ es[k].Trace ∈ nubE out (es.take k) then nubE out (es.take k) else nubE out (es.take k) ++ [es[k].Trace] := by
  rw [List.take_succ_eq_append_getElem hk, nub_app]; rfl
theorem there_loop (out : List Trace) (e : Episode) (b0 : Bool) (ho : out.length ≤ 1000) : loopN (fun (s : Bool × Int) => gleaninglaw32_spanned_l4 out e s.1 s.2) Fu (b0, 0) = some (b0 || decide (e.Trace ∈ out)) := by
  have hany : ∀ m : List Trace, decide (e.Trace ∈ m) = m.any (fun x => decide (x = e.Trace)) := fun m => by
    rw [Bool.eq_iff_iff, decide_eq_true_iff, List.any_eq_true]
    constructor
    · intro h; exact ⟨_, h, by simp⟩
    · rintro ⟨x, h1, h2⟩; exact (of_decide_eq_true h2) ▸ h1
  rw [hany]
  refine loop_list (l := out) (fun k r s => s = (b0 || (out.take k).any (fun x => decide (x = e.Trace)), (k : Int)) ∧ r = (b0 || out.any (fun x => decide (x = e.Trace)))) (by omega) ?_ ?_ ⟨by simp, rfl⟩
  · rintro k hk r s ⟨rfl, rfl⟩
    refine .inl ⟨(b0 || (out.take (k + 1)).any (fun x => decide (x = e.Trace)), ((k + 1 : Nat) : Int)), ?_, rfl, rfl⟩
    rw [List.take_succ_eq_append_getElem hk, List.any_append, ← Bool.or_assoc]
    simp only [gleaninglaw32_spanned_l4, dec_t (by omega : (k : Int) < (out.length : Int)), if_true, gd_pos (by omega : (0 : Int) ≤ (k : Int)), Int.toNat_natCast, List.getElem?_eq_getElem hk, Option.bind_some, trace_beq, ksucc (by omega : k < 1099511627776), List.any_cons, List.any_nil, Bool.or_false]
    cases (b0 || (out.take k).any (fun x => decide (x = e.Trace))) <;> simp
  · rintro r s ⟨rfl, rfl⟩
    simp only [gleaninglaw32_spanned_l4, dec_f (by omega : ¬ (out.length : Int) < (out.length : Int)), Bool.false_eq_true, if_false, List.take_length]
theorem span_inner (l : List Block) (v : Nat) (hv : v < l.length) (h : fewB l) (out : List Trace) (hn : out.Nodup) (ho : out.length ≤ 500) :
    loopN (fun (s : List Trace × Int) => gleaninglaw32_spanned_l2 l (v : Int) s.1 s.2) Fu (out, 0) = some (.inl (nubE out l[v].Episodes, ((v + 1 : Nat) : Int))) := by
  have h12 := h.len
  have hb := epsB_len h (List.getElem_mem hv)
  refine loop_list (l := l[v].Episodes) (fun k r s => s = (nubE out (l[v].Episodes.take k), (k : Int)) ∧ r = .inl (nubE out l[v].Episodes, ((v + 1 : Nat) : Int))) (by omega) ?_ ?_ ⟨rfl, rfl⟩
  · rintro k hk r s ⟨rfl, rfl⟩
    refine .inl ⟨(nubE out (l[v].Episodes.take (k + 1)), ((k + 1 : Nat) : Int)), ?_, rfl, rfl⟩
    have hl := (nub_spec (l[v].Episodes.take k) out hn).2.2
    have hl2 := List.length_take_le k l[v].Episodes
    simp only [gleaninglaw32_spanned_l2, gd_pos (by omega : (0 : Int) ≤ (v : Int)), Int.toNat_natCast, List.getElem?_eq_getElem hv, Option.bind_some, dec_t (by omega : (k : Int) < (l[v].Episodes.length : Int)), if_true, gd_pos (by omega : (0 : Int) ≤ (k : Int)), List.getElem?_eq_getElem hk]
    rw [there_loop _ _ _ (by omega), Option.bind_some, gleaninglaw32_spanned_k3, nub_succ out _ k hk]
    have hz : ((l[v].Episodes[k].Spans.length : Int) == 0) = decide (l[v].Episodes[k].Spans.length = 0) := by
      rw [Bool.eq_iff_iff, beq_iff_eq, decide_eq_true_iff]; omega
    rw [hz]
    by_cases c1 : l[v].Episodes[k].Spans.length = 0
    · rw [dec_t c1, Bool.true_or, Bool.not_true, ite_ff, if_pos (.inl c1), ksucc (by omega : k < 1099511627776)]
    · by_cases c2 : l[v].Episodes[k].Trace ∈ nubE out (l[v].Episodes.take k)
      · rw [dec_t c2, Bool.or_true, Bool.not_true, ite_ff, if_pos (.inr c2), ksucc (by omega : k < 1099511627776)]
      · rw [dec_f c1, dec_f c2, Bool.or_false, Bool.not_false, ite_tt, if_neg (fun q => q.elim c1 c2), gd_pos (by simp only [List.length_append, List.length_singleton]; omega), ksucc (by omega : k < 1099511627776)]
  · rintro r s ⟨rfl, rfl⟩
    simp only [gleaninglaw32_spanned_l2, gd_pos (by omega : (0 : Int) ≤ (v : Int)), Int.toNat_natCast, List.getElem?_eq_getElem hv, Option.bind_some, dec_f (by omega : ¬ (l[v].Episodes.length : Int) < (l[v].Episodes.length : Int)), Bool.false_eq_true, if_false, List.take_length, ksucc (by omega : v < 1099511627776)]
theorem spanned_spec (l : List Block) (h : fewB l) : gleaninglaw32_spanned l = some ((allF l q0).length : Int) := by
  have h12 := h.len
  have hloop : loopN (fun (s : List Trace × Int) => gleaninglaw32_spanned_l1 l s.1 s.2) Fu ([], 0) = some (nubE [] (epsF l)) := by
    refine loop_list (l := l) (fun k r s => s = (nubE [] (epsF (l.take k)), (k : Int)) ∧ r = nubE [] (epsF l)) (by omega) ?_ ?_ ⟨rfl, rfl⟩
    · rintro k hk r s ⟨rfl, rfl⟩
      refine .inl ⟨(nubE [] (epsF (l.take (k + 1))), ((k + 1 : Nat) : Int)), ?_, rfl, rfl⟩
      obtain ⟨n1, _, n3⟩ := nub_spec (epsF (l.take k)) [] List.nodup_nil
      have hl2 := eps_take_len h k
      simp only [List.length_nil] at n3
      simp only [gleaninglaw32_spanned_l1, dec_t (by omega : (k : Int) < (l.length : Int)), if_true]
      rw [span_inner l k hk h _ n1 (by omega), eps_succ l k hk, nub_app]
    · rintro r s ⟨rfl, rfl⟩
      simp only [gleaninglaw32_spanned_l1, dec_f (by omega : ¬ (l.length : Int) < (l.length : Int)), Bool.false_eq_true, if_false, List.take_length]
  rw [gleaninglaw32_spanned, hloop, Option.bind_some, gleaninglaw32_spanned_k0]
  obtain ⟨n1, n2, _⟩ := nub_spec (epsF l) [] List.nodup_nil
  have hp := (List.perm_ext_iff_of_nodup n1 (rise_nodup (all_rise l q0))).2 fun t => by rw [n2, all_mem]; simp
  rw [hp.length_eq]
theorem narrows_k1 (l : List Block) (q : Query) (hf : fewB l) (a b : ByteArray) (d : Int) (e : Bool) (h1 : a = q.Service ∨ a = strOf []) (h2 : b = q.Op ∨ b = strOf []) (h3 : d = q.Dur ∨ d = 0) (h4 : e = q.Err ∨ e = false) : gleaninglaw32_SearchNarrows_k1 l q a b d e = some true := by
  have hl := fun q => Nat.le_trans (all_len l q) (show (epsF l).length ≤ 120 from hf.eps)
  have m1 : ∀ s, matchF q s = true → matchF ⟨a, b, q.Key, q.Value, d, e⟩ s = true := fun s h => by
    unfold matchF restF at *
    simp only [Bool.and_eq_true, Bool.or_eq_true, decide_eq_true_iff, Bool.not_eq_true'] at *
    obtain ⟨k1, k2, k3, k4, k5⟩ := h
    refine ⟨?_, ?_, ?_, ?_, k5⟩
    · rcases h1 with rfl | rfl
      · exact k1
      · exact .inl rfl
    · rcases h2 with rfl | rfl
      · exact k2
      · exact .inl rfl
    · rcases h3 with rfl | rfl
      · exact k3
      · exact .inl rfl
    · rcases h4 with rfl | rfl
      · exact k4
      · exact .inl rfl
  have la := hl q
  have lb := hl ⟨a, b, q.Key, q.Value, d, e⟩
  have lc := hl q0
  rw [gleaninglaw32_SearchNarrows_k1, find_all l q hf, Option.bind_some, find_all l _ hf, Option.bind_some, find_all l _ hf, Option.bind_some, within_spec (all_rise l q) (all_rise l _) (all_mono m1) (by omega) (by omega), Option.bind_some, ite_tt]
  rw [show (Query.mk (strOf []) (strOf []) (strOf []) (strOf []) 0 false) = q0 from rfl, within_spec (all_rise l _) (all_rise l q0) (all_mono fun s _ => match_q0 s) (by omega) (by omega), Option.bind_some, ite_tt, spanned_spec l hf, Option.bind_some]
  simp
theorem searchNarrows_true (l : List Block) (q : Query) (which : Int) (_ : l.length ≤ maxLen ∧ ∀ y ∈ l, Block.wf y) (_ : Query.wf q) (_ : inI .i64 which) (hb : (l.flatMap (·.Episodes)).length ≤ 1048576) : gleaninglaw32_SearchNarrows l q which = some true := by
  obtain ⟨f1, hf1, g1⟩ := few19_spec l hb
  obtain ⟨f2, hf2⟩ := few32_spec q
  simp only [gleaninglaw32_SearchNarrows, alive32, Option.bind_some, Bool.not_true, Bool.false_eq_true, if_false, hf1, hf2]
  cases f1 with
  | false => rfl
  | true =>
  cases f2 with
  | false => rfl
  | true =>
  have hf := g1 rfl
  simp only [Bool.not_true, Bool.false_eq_true, if_false, Option.bind_some, Sum.elim_inl, gleaninglaw32_SearchNarrows_k0]
  split
  · exact narrows_k1 l q hf _ _ _ _ (.inr rfl) (.inl rfl) (.inl rfl) (.inl rfl)
  · split
    · exact narrows_k1 l q hf _ _ _ _ (.inl rfl) (.inr rfl) (.inl rfl) (.inl rfl)
    · split
      · exact narrows_k1 l q hf _ _ _ _ (.inl rfl) (.inl rfl) (.inr rfl) (.inl rfl)
      · split
        · exact narrows_k1 l q hf _ _ _ _ (.inl rfl) (.inl rfl) (.inl rfl) (.inr rfl)
        · exact narrows_k1 l q hf _ _ _ _ (.inl rfl) (.inl rfl) (.inl rfl) (.inl rfl)
end Go.Proofs.Ytnhjcpnoadicpaa.Ab
