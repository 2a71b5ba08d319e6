/- Chapter 14: a policy without nots and rates that keeps an episode keeps it with more spans, too. -/
import Derived.Test.YtbfmmaabaenhgaaPJudgeA
namespace Go.Proofs.Ytbfmmaabaenhgaa.Ab
open Go Go.RowKit
set_option linter.unusedVariables false
set_option linter.unusedSimpArgs false
def plainF : Nat → Rule → Bool
  | 0, _ => false
  | d + 1, r => r.Kids.all (plainF d) && (r.Kind != 3 && r.Kind != 9)
theorem plain_spec : ∀ (d : Nat) (r : Rule) (N : Nat), smallN d r → d ≤ N → gleaninglaw14_plainN N r = some (plainF d r) := by
  intro d
  induction d with
  | zero => intro r N h; exact h.elim
  | succ d ih =>
    intro r N h hN
    obtain ⟨N', rfl, hN'⟩ := fuel_pos (by omega : d < N)
    obtain ⟨h1, h2, h3, h4⟩ := h
    have hkid : ∀ (j : Nat) (hj : j < r.Kids.length), gleaninglaw14_plainN N' r.Kids[j] = some (plainF d r.Kids[j]) := fun j hj => ih _ _ (h4 _ (List.getElem_mem hj)) hN'
    have := loop_write (body := fun (q : Int) => gleaninglaw14_plain_b_l1 (gleaninglaw14_plainN N') r q) (l := r.Kids) (fun x => !plainF d x) (fun j => (j : Int)) (.inl ()) (.inr false) (by omega) (fun j hj hb hj2 => by
        simp only [Bool.not_eq_false'] at hj2
        simp only [gleaninglaw14_plain_b_l1, dec_t (by omega : (j : Int) < (r.Kids.length : Int)), if_true, gd_pos (by omega : (0 : Int) ≤ (j : Int)), Int.toNat_natCast, List.getElem?_eq_getElem hj, Option.bind_some, hkid j hj, hj2, Bool.not_true, Bool.false_eq_true, if_false, ksu (by omega : j < 1099511627776)]) (fun j hj hb hj2 => by
        simp only [Bool.not_eq_true'] at hj2
        simp only [gleaninglaw14_plain_b_l1, dec_t (by omega : (j : Int) < (r.Kids.length : Int)), if_true, gd_pos (by omega : (0 : Int) ≤ (j : Int)), Int.toNat_natCast, List.getElem?_eq_getElem hj, Option.bind_some, hkid j hj, hj2, Bool.not_false]) (fun hb => by
        simp only [gleaninglaw14_plain_b_l1, dec_f (by omega : ¬ (r.Kids.length : Int) < (r.Kids.length : Int)), Bool.false_eq_true, if_false])
    have e0 : (((0 : Nat) : Int)) = 0 := rfl
    rw [gleaninglaw14_plainN, gleaninglaw14_plain_b, ← e0, this, plainF]
    have h5 : r.Kids.all (plainF d) = !(r.Kids.any fun x => !plainF d x) := by rw [Bool.eq_iff_iff]; simp
    rw [h5]
    cases r.Kids.any (fun x => !plainF d x) with
    | true => rfl
    | false =>
      simp only [Bool.false_eq_true, if_false, Option.bind_some, Sum.elim_inl, gleaninglaw14_plain_b_k0, Bool.not_false, Bool.true_and]
      cases r.Kind != 3 <;> rfl
theorem keep_grows (e f : Episode) (k k' : Int) (ht : f.Trace = e.Trace) (m : List Span) (hs : f.Spans = e.Spans ++ m) : ∀ (d : Nat) (r : Rule) (p : Nat), plainF p r = true → keepF d r e k = true → keepF d r f k' = true
  | 0, r, p, _, h => by cases h
  | d + 1, r, p, hp, h => by
    cases p with
    | zero => cases hp
    | succ p =>
    simp only [plainF, Bool.and_eq_true, List.all_eq_true, bne_iff_ne, ne_eq] at hp
    obtain ⟨p1, p3, p9⟩ := hp
    rw [keepF] at h ⊢
    by_cases k1 : r.Kind = 1
    · rw [if_pos k1, List.all_eq_true] at h ⊢
      exact fun x hx => keep_grows e f k k' ht m hs d x p (p1 x hx) (h x hx)
    rw [if_neg k1] at h ⊢
    by_cases k2 : r.Kind = 2
    · rw [if_pos k2, List.any_eq_true] at h ⊢
      obtain ⟨x, hx, h⟩ := h
      exact ⟨x, hx, keep_grows e f k k' ht m hs d x p (p1 x hx) h⟩
    rw [if_neg k2] at h ⊢
    rw [if_neg p3] at h ⊢
    by_cases k7 : r.Kind = 7
    · rw [if_pos k7, decide_eq_true_eq] at h ⊢
      rw [hs, List.length_append]; omega
    rw [if_neg k7] at h ⊢
    by_cases k8 : r.Kind = 8
    · rw [if_pos k8] at h ⊢
      rw [ht]; exact h
    rw [if_neg k8] at h ⊢
    rw [if_neg p9] at h ⊢
    rw [hs, List.any_append, h, Bool.true_or]
theorem judgeGrows_true (r : Rule) (e : Episode) (m : List Span) (k : Int) (_ : Rule.wf r) (he : Episode.wf e) (_ : m.length ≤ maxLen ∧ ∀ y ∈ m, Span.wf y) (_ : inI .i64 k) : gleaninglaw14_JudgeGrows r e m k = some true := by
  obtain ⟨b1, f1, g1⟩ := few13_spec r
  obtain ⟨b2, f2, g2⟩ := fewAll_spec e.Spans
  obtain ⟨b3, f3, g3⟩ := fewAll_spec m
  simp only [gleaninglaw14_JudgeGrows, alive14, Option.bind_some, Bool.not_true, Bool.false_eq_true, if_false, f1, f2, f3]
  cases b1 with
  | false => simp
  | true =>
  cases b2 with
  | false => simp
  | true =>
  cases b3 with
  | false => simp
  | true =>
  have hp := plain_spec 31 r Fu (g1 rfl) (by rw [fuP]; omega)
  simp only [Bool.not_true, Bool.false_eq_true, if_false, gleaninglaw14_plain, hp, Option.bind_some]
  cases hq : plainF 31 r with
  | false => simp
  | true =>
  have h2 := g2 rfl
  have h3 := g3 rfl
  have s1 := smallEp_of h2
  have s2 : smallEp (Episode.mk e.Trace e.First e.Last e.Sure (e.Spans ++ m)) := ⟨by show (e.Spans ++ m).length ≤ 130; rw [List.length_append]; omega, fun s hs => by
    rcases List.mem_append.1 hs with hs | hs
    · exact (h2.2 s hs).2.2.1
    · exact (h3.2 s hs).2.2.1⟩
  simp only [Bool.not_true, Bool.false_eq_true, if_false, Option.bind_some, Sum.elim_inl, gleaninglaw14_JudgeGrows_k0]
  rw [gd_pos (by omega), gd_pos (by rw [List.length_append]; omega), (keep_both r e k s1 he.1.1 he.1.2).1, Option.bind_some]
  cases hk : keepB r e k with
  | false => rfl
  | true =>
    rw [keepB, Bool.and_eq_true] at hk
    rw [(keep_both r _ _ s2 he.1.1 he.1.2).1, Option.bind_some, keepB, hk.1, keep_grows e (Episode.mk e.Trace e.First e.Last e.Sure (e.Spans ++ m)) k (IntKind.i64.wrap (k + 1)) rfl m rfl 5 r 31 hq hk.2]
    rfl
end Go.Proofs.Ytbfmmaabaenhgaa.Ab
