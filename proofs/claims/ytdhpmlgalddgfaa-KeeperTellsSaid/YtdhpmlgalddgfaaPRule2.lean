import Derived.Test.YtdhpmlgalddgfaaPRule1
namespace Go.Proofs.Ytdhpmlgalddgfaa.Ab
open Go Go.RowKit
set_option linter.unusedVariables false
set_option linter.unusedSimpArgs false
def pMany (p : List UInt8 → Option (Rule × List UInt8)) : Nat → List UInt8 → Option (List Rule × List UInt8)
 | 0, b => some ([], b)
 | k + 1, b => match p b with
  | none => none
  | some (r, b1) => match pMany p k b1 with
   | none => none
   | some (l, q) => some (r :: l, q)
def pR (T : Int → Int) : Nat → List UInt8 → Option (Rule × List UInt8)
 | 0, _ => none
 | d + 1, b => match b with
  | [] => none
  | c :: b => if kidK (c.toNat : Int) = true then (match pNum 20 b with
    | none => none
    | some (n, b1) => match pMany (pR T d) n.toNat b1 with
     | none => none
     | some (l, q) => some (⟨(c.toNat : Int), 0, strOf [], strOf [], l⟩, q))
   else if (c.toNat : Int) = 6 then (match pT b with
    | none => none
    | some (x, b1) => match pT b1 with
     | none => none
     | some (v, b2) => some (⟨6, 0, x, v, []⟩, b2))
   else if (c.toNat : Int) = 5 then some (⟨5, 0, strOf [], strOf [], []⟩, b)
   else if T (c.toNat : Int) < 0 then none
   else match pNum (T (c.toNat : Int)) b with
    | none => none
    | some (n, q) => some (⟨(c.toNat : Int), n, strOf [], strOf [], []⟩, q)
theorem pMany_sound {p : List UInt8 → Option (Rule × List UInt8)} {f : Rule → List UInt8} (h : ∀ b r q, p b = some (r, q) → b = f r ++ q) : ∀ (k : Nat) (b q : List UInt8) (l : List Rule), pMany p k b = some (l, q) → l.length = k ∧ b = l.flatMap f ++ q
 | 0, b, q, l, e => by
  simp only [pMany, Option.some.injEq, Prod.mk.injEq] at e
  obtain ⟨rfl, rfl⟩ := e
  exact ⟨rfl, by simp⟩
 | k + 1, b, q, l, e => by
  simp only [pMany] at e
  split at e
  ·cases e
  ·rename_i r b1 h1
   split at e
   ·cases e
   ·rename_i l2 q2 h2
    simp only [Option.some.injEq, Prod.mk.injEq] at e
    obtain ⟨rfl, rfl⟩ := e
    obtain ⟨h3, h4⟩ := pMany_sound h k _ _ _ h2
    refine ⟨by simp [h3], ?_⟩
    rw [h _ _ _ h1, h4]; simp
theorem ofNat_toNat8 (c : UInt8) : UInt8.ofNat ((c.toNat : Int)).toNat = c := by simp
theorem pR_sound (T : Int → Int) : ∀ (d : Nat) (b q : List UInt8) (r : Rule), pR T d b = some (r, q) → b = ruleB d r ++ q
 | 0, b, q, r, h => by cases h
 | d + 1, [], q, r, h => by simp [pR] at h
 | d + 1, c :: b, q, r, h => by
  simp only [pR] at h
  by_cases hk : kidK (c.toNat : Int) = true
  ·rw [if_pos hk] at h
   split at h
   ·cases h
   ·rename_i n b1 h1
    split at h
    ·cases h
    ·rename_i l q2 h2
     simp only [Option.some.injEq, Prod.mk.injEq] at h
     obtain ⟨rfl, rfl⟩ := h
     have hn := pNum_sound h1
     obtain ⟨h3, h4⟩ := pMany_sound (fun b r q => pR_sound T d b q r) _ _ _ _ h2
     simp only [ruleB, hk, if_true, ofNat_toNat8, List.cons_append, List.append_assoc]
     rw [hn.2.2, h4, h3]
  rw [if_neg hk] at h
  by_cases h6 : (c.toNat : Int) = 6
  ·rw [if_pos h6] at h
   split at h
   ·cases h
   ·rename_i x b1 h1
    split at h
    ·cases h
    ·rename_i v b2 h2
     simp only [Option.some.injEq, Prod.mk.injEq] at h
     obtain ⟨rfl, rfl⟩ := h
     have hc : c = UInt8.ofNat 6 := by rw [← ofNat_toNat8 c, h6]; rfl
     simp only [ruleB, show kidK 6 = false from rfl, Bool.false_eq_true, if_false, if_true, List.cons_append, List.append_assoc]
     rw [pT_sound h1, pT_sound h2, hc]; rfl
  rw [if_neg h6] at h
  by_cases h5 : (c.toNat : Int) = 5
  ·rw [if_pos h5] at h
   simp only [Option.some.injEq, Prod.mk.injEq] at h
   obtain ⟨rfl, rfl⟩ := h
   have hc : c = UInt8.ofNat 5 := by rw [← ofNat_toNat8 c, h5]; rfl
   rw [hc]; rfl
  rw [if_neg h5] at h
  split at h
  ·cases h
  ·split at h
   ·cases h
   ·rename_i n q2 h1
    simp only [Option.some.injEq, Prod.mk.injEq] at h
    obtain ⟨rfl, rfl⟩ := h
    simp only [ruleB, hk, if_false, h6, h5, ofNat_toNat8, List.cons_append]
    rw [(pNum_sound h1).2.2]; rfl
theorem pMany_put {p : List UInt8 → Option (Rule × List UInt8)} {f : Rule → List UInt8} : ∀ (l : List Rule) (q : List UInt8), (∀ x ∈ l, ∀ q, p (f x ++ q) = some (x, q)) → pMany p l.length (l.flatMap f ++ q) = some (l, q)
 | [], q, _ => by simp [pMany]
 | r :: l, q, h => by
  have e : (r :: l).flatMap f ++ q = f r ++ (l.flatMap f ++ q) := by simp
  simp only [List.length_cons, pMany, e, h r List.mem_cons_self, pMany_put l q fun x hx => h x (List.mem_cons_of_mem _ hx)]
def topOk (T : Int → Int) : Prop := ∀ k, (k = 4 ∨ k = 7 ∨ k = 8 ∨ k = 9) → topK k ≤ T k ∧ T k < 9223372036854775808
theorem rule_eta {r : Rule} {k n : Int} {x v : ByteArray} {l : List Rule} (h1 : r.Kind = k) (h2 : r.N = n) (h3 : r.Key = x) (h4 : r.Value = v) (h5 : r.Kids = l) : r = ⟨k, n, x, v, l⟩ := by cases r; simp_all
theorem pR_put (T : Int → Int) (hT : topOk T) : ∀ (d : Nat) (r : Rule) (q : List UInt8), okF d r = true → numF d r ≤ 20 → pR T d (ruleB d r ++ q) = some (r, q)
 | 0, r, q, h, _ => by cases h
 | d + 1, r, q, h, hn => by
  simp only [okF, Bool.and_eq_true, List.all_eq_true] at h
  obtain ⟨ho, hk⟩ := h
  simp only [numF] at hn
  obtain ⟨a1, a2, a3, a4, a5, a6, a7, a8, a9, a10⟩ := own_data ho
  have hpos : ∀ x ∈ r.Kids, 1 ≤ numF d x := fun x hx => by
   cases d with
   | zero => exact absurd (hk x hx) (by simp [okF])
   | succ d => exact num_pos d x
  have hlen := sumL_len (numF d) _ hpos
  have hb : (((UInt8.ofNat r.Kind.toNat).toNat : Nat) : Int) = r.Kind := by rw [UInt8.toNat_ofNat']; omega
  simp only [ruleB, List.cons_append, pR, hb]
  cases hkk : kidK r.Kind with
  | true =>
   simp only [if_true, List.append_assoc]
   rw [show putN r.Kids.length = putN ((r.Kids.length : Int)).toNat by simp, pNum_put (by omega) (by omega) (by omega)]
   dsimp only
   rw [Int.toNat_natCast, pMany_put r.Kids q fun x hx q => pR_put T hT d x q (hk x hx) (by have := sumL_mem (numF d) r.Kids x hx; omega)]
   have h6 : r.Kind ≠ 6 := by have := kid_kind hkk; omega
   dsimp only
   rw [← rule_eta rfl (a9 (.inl hkk)) (a8 h6).1 (a8 h6).2 rfl]
  | false =>
   obtain ⟨k1, k2, k3⟩ := kid_not hkk
   have h0 : r.Kids = [] := List.length_eq_zero_iff.1 (a5 k1 k2 k3)
   simp only [Bool.false_eq_true, if_false]
   by_cases k6 : r.Kind = 6
   ·simp only [k6, if_true, List.append_assoc]
    rw [pT_put _ (by omega)]
    dsimp only
    rw [pT_put _ (by omega)]
    dsimp only
    rw [← rule_eta k6 (a9 (.inr (.inr k6))) rfl rfl h0]
   simp only [k6, if_false]
   by_cases k5 : r.Kind = 5
   ·simp only [k5, if_true, List.nil_append]
    rw [← rule_eta k5 (a9 (.inr (.inl k5))) (a8 k6).1 (a8 k6).2 h0]
   simp only [k5, if_false]
   have k4 : r.Kind = 4 ∨ r.Kind = 7 ∨ r.Kind = 8 ∨ r.Kind = 9 := by omega
   obtain ⟨t1, t2⟩ := hT _ k4
   have t3 := a10 k4
   rw [if_neg (by omega), pNum_put a6 (by omega) (by omega)]
   dsimp only
   rw [← rule_eta rfl rfl (a8 k6).1 (a8 k6).2 h0]
theorem pR_bound {T : Int → Int} {d : Nat} {b q : List UInt8} {r : Rule} {m : Nat} (h : pR T d b = some (r, q)) (hb : b.length ≤ m) : q.length ≤ m := len_of (pR_sound T d b q r h) hb
theorem rules_fit {l : List Rule} (h : l.length ≤ 100) : l.length * 72 ≤ 140737488355328 ∧ l.length ≤ 140737488355328 := by omega
def RdOk (K : Reader → Int → Option (Rule × Reader)) (dd : Int) (p : List UInt8 → Option (Rule × List UInt8)) : Prop :=
 ∀ b : List UInt8, b.length ≤ 1099511627776 → (∀ r q, p b = some (r, q) → K ⟨b, false⟩ dd = some (r, ⟨q, false⟩)) ∧ (p b = none → ∃ r q, K ⟨b, false⟩ dd = some (r, q) ∧ q.Bad = true)
theorem kids_loop {K : Reader → Int → Option (Rule × Reader)} {a1 : Int} {p : List UInt8 → Option (Rule × List UInt8)} (x : Int × Reader) (hK : RdOk K (IntKind.i64.wrap (a1 - 1)) p) (hp : ∀ b r q m, p b = some (r, q) → b.length ≤ m → q.length ≤ m) : ∀ (m i N : Nat) (b : List UInt8) (acc : List Rule), (i : Int) + m = x.1 → m < N → acc.length + m ≤ 60 → i + m ≤ 60 → b.length ≤ 1099511627776 →
  (∀ l q, pMany p m b = some (l, q) → loopN (fun (s : List UInt8 × Bool × List Rule × Int) => rule_kids_l0 K a1 x s.1 s.2.1 s.2.2.1 s.2.2.2) N (b, false, acc, (i : Int)) = some (acc ++ l, ⟨q, false⟩)) ∧
  (pMany p m b = none → ∃ l q, loopN (fun (s : List UInt8 × Bool × List Rule × Int) => rule_kids_l0 K a1 x s.1 s.2.1 s.2.2.1 s.2.2.2) N (b, false, acc, (i : Int)) = some (l, q) ∧ q.Bad = true) := by
 intro m
 induction m with
 | zero =>
  intro i N b acc hi hN _ _ _
  obtain ⟨N', rfl⟩ : ∃ N', N = N' + 1 := ⟨N - 1, by omega⟩
  refine ⟨fun l q h => ?_, fun h => by cases h⟩
  simp only [pMany, Option.some.injEq, Prod.mk.injEq] at h
  obtain ⟨rfl, rfl⟩ := h
  exact loop_r (by simp only [rule_kids_l0, dec_f (by omega : ¬ (i : Int) < x.1), Bool.false_eq_true, if_false, List.append_nil])
 | succ m ih =>
  intro i N b acc hi hN ha hi2 hb
  obtain ⟨N', rfl⟩ : ∃ N', N = N' + 1 := ⟨N - 1, by omega⟩
  have hfit : ∀ a : Rule, (acc ++ [a]).length * 72 ≤ 140737488355328 ∧ (acc ++ [a]).length ≤ 140737488355328 := fun a => rules_fit (by simp; omega)
  obtain ⟨K1, K2⟩ := hK b hb
  cases h1 : p b with
  | none =>
   refine ⟨fun l q h => by simp [pMany, h1] at h, fun _ => ?_⟩
   obtain ⟨r, ⟨qB, qf⟩, hr, hq⟩ := K2 h1
   dsimp only at hq
   subst hq
   refine ⟨acc ++ [r], ⟨qB, true⟩, ?_, rfl⟩
   rw [loop_l (s' := (qB, true, acc ++ [r], ((i + 1 : Nat) : Int)))]
   ·obtain ⟨N2, rfl⟩ : ∃ N2, N' = N2 + 1 := ⟨N' - 1, by omega⟩
    refine loop_r ?_
    simp only [rule_kids_l0]
    by_cases h : ((i + 1 : Nat) : Int) < x.1
    ·simp only [dec_t h, if_true]
    ·simp only [dec_f h, Bool.false_eq_true, if_false]
   ·simp only [rule_kids_l0, dec_t (by omega : (i : Int) < x.1), if_true, Bool.false_eq_true, if_false, hr, Option.bind_some, gd_pos (hfit _), ksu (by omega : i < 1099511627776)]
  | some pr =>
   obtain ⟨r, b1⟩ := pr
   have hb1 := hp _ _ _ _ h1 hb
   have hg := K1 _ _ h1
   have hstep : loopN (fun (s : List UInt8 × Bool × List Rule × Int) => rule_kids_l0 K a1 x s.1 s.2.1 s.2.2.1 s.2.2.2) (N' + 1) (b, false, acc, (i : Int)) = loopN (fun (s : List UInt8 × Bool × List Rule × Int) => rule_kids_l0 K a1 x s.1 s.2.1 s.2.2.1 s.2.2.2) N' (b1, false, acc ++ [r], ((i + 1 : Nat) : Int)) :=
    loop_l (by simp only [rule_kids_l0, dec_t (by omega : (i : Int) < x.1), if_true, Bool.false_eq_true, if_false, hg, Option.bind_some, gd_pos (hfit _), ksu (by omega : i < 1099511627776)])
   obtain ⟨g1, g2⟩ := ih (i + 1) N' b1 (acc ++ [r]) (by omega) (by omega) (by simp; omega) (by omega) hb1
   rw [hstep]
   refine ⟨fun l q h => ?_, fun h => ?_⟩
   ·simp only [pMany, h1] at h
    split at h
    ·cases h
    ·rename_i l2 q2 h3
     simp only [Option.some.injEq, Prod.mk.injEq] at h
     obtain ⟨rfl, rfl⟩ := h
     rw [g1 _ _ h3]; simp
   ·simp only [pMany, h1] at h
    split at h
    ·rename_i h3; exact g2 h3
    ·cases h
theorem wrap8 (c : UInt8) : IntKind.i64.wrap (c.toNat : Int) = (c.toNat : Int) := by have := c.toNat_lt; exact w64 (by omega) (by omega)
theorem get_rd : ∀ (d N : Nat), d < N → d ≤ 100 → RdOk (rule_getN N) (d : Int) (pR topK d) := by
 intro d
 induction d with
 | zero =>
  intro N hN _ b hb
  obtain ⟨N', rfl, _⟩ := fuel_pos hN
  refine ⟨fun r q h => by simp [pR] at h, fun _ => ?_⟩
  rw [rule_getN, rule_get_b]
  by_cases h : 1 ≤ b.length
  ·rw [show (1 : Int) = ((1 : Nat) : Int) from rfl, rtake_ok h, Option.bind_some, dec_t (by omega)]
   exact ⟨_, _, rfl, rfl⟩
  ·rw [show (1 : Int) = ((1 : Nat) : Int) from rfl, rtake_no (.inr (by omega)), Option.bind_some, dec_t (by omega)]
   exact ⟨_, _, rfl, rfl⟩
 | succ d ih =>
  intro N hN hd b hb
  obtain ⟨N', rfl, hN'⟩ := fuel_pos hN
  have hK := ih N' (by omega) (by omega)
  have hd1 : IntKind.i64.wrap (((d + 1 : Nat) : Int) - 1) = (d : Int) := by rw [w64 (by omega) (by omega)]; omega
  rw [rule_getN]
  cases b with
  | nil =>
   refine ⟨fun r q h => by simp [pR] at h, fun _ => ?_⟩
   rw [rule_get_b, show (1 : Int) = ((1 : Nat) : Int) from rfl, rtake_no (.inr (by simp)), Option.bind_some, dec_f (by omega), ite_ff]
   exact ⟨_, _, rfl, rfl⟩
  | cons c b =>
   simp only [List.length_cons] at hb
   have hcode : rule_get_b (rule_getN N') ⟨c :: b, false⟩ ((d + 1 : Nat) : Int) = rule_get_b_k2 (rule_getN N') ((d + 1 : Nat) : Int) ([c], ⟨b, false⟩) c (kidK (c.toNat : Int)) := by
    rw [rule_get_b, show (1 : Int) = ((1 : Nat) : Int) from rfl, rtake_ok (by simp), Option.bind_some, dec_f (by omega), ite_ff]
    simp only [List.take_succ_cons, List.take_zero, List.drop_succ_cons, List.drop_zero, List.length_cons, List.length_nil]
    rw [show ((((0 + 1 : Nat) : Int)) == 0) = false from rfl, Option.bind_some, rule_get_b_k1]
    simp only [Bool.false_eq_true, if_false, Option.bind_some, Sum.elim_inl, rule_get_b_k0, List.getElem?_cons_zero, wrap8, kid_code]
   rw [hcode, rule_get_b_k2, wrap8]
   simp only [pR]
   cases hkk : kidK (c.toNat : Int) with
   | true =>
    simp only [if_true, rule_kids]
    cases hn : pNum 20 b with
    | none =>
     refine ⟨fun r q h => (by cases h), fun _ => ?_⟩
     rw [rnum_no (by omega) (by omega) (by omega) hn, Option.bind_some]
     have : loopN (fun (s : List UInt8 × Bool × List Rule × Int) => rule_kids_l0 (rule_getN N') ((d + 1 : Nat) : Int) (0, ⟨[], true⟩) s.1 s.2.1 s.2.2.1 s.2.2.2) Fu ([], true, [], 0) = some ([], ⟨[], true⟩) := loop_now (by simp only [rule_kids_l0, dec_f (by omega : ¬ (0 : Int) < 0), Bool.false_eq_true, if_false])
     dsimp only
     rw [this]
     exact ⟨_, _, rfl, rfl⟩
    | some pn =>
     obtain ⟨n, b1⟩ := pn
     have hs := pNum_sound hn
     have hb1 := len_of hs.2.2 (by omega : b.length ≤ 1099511627776)
     obtain ⟨n', rfl⟩ := Int.eq_ofNat_of_zero_le hs.1.1
     have hn20 : n' ≤ 20 := by have := hs.2.1; omega
     rw [rnum_ok (by omega) (by omega) (by omega) hn, Option.bind_some]
     obtain ⟨g1, g2⟩ := kids_loop (a1 := ((d + 1 : Nat) : Int)) ((n' : Int), ⟨b1, false⟩) (by rw [hd1]; exact hK) (fun b r q m h hb => pR_bound h hb) n' 0 Fu b1 [] (by simp) (by rw [fuPos]; omega) (by simp; omega) (by omega) hb1
     simp only [Int.natCast_zero, List.nil_append] at g1 g2
     dsimp only
     simp only [Int.toNat_natCast]
     cases hp : pMany (pR topK d) n' b1 with
     | none =>
      refine ⟨fun r q h => (by cases h), fun _ => ?_⟩
      obtain ⟨l, q, e1, e2⟩ := g2 hp
      rw [e1, Option.bind_some]
      exact ⟨_, _, rfl, e2⟩
     | some pl =>
      obtain ⟨l, q⟩ := pl
      refine ⟨fun r q' h => ?_, fun h => by cases h⟩
      simp only [Option.some.injEq, Prod.mk.injEq] at h
      obtain ⟨rfl, rfl⟩ := h
      rw [g1 _ _ hp, Option.bind_some]
   | false =>
    simp only [Bool.false_eq_true, if_false]
    by_cases h6 : (c.toNat : Int) = 6
    ·simp only [h6, beq_self_eq_true, if_true]
     cases h1 : pT b with
     | none =>
      refine ⟨fun r q h => (by cases h), fun _ => ?_⟩
      rw [rtext_no (by omega) h1, Option.bind_some, rtext_bad]
      exact ⟨_, _, rfl, rfl⟩
     | some p1 =>
      obtain ⟨x, b1⟩ := p1
      have hb1 := len_of (pT_sound h1) (by omega : b.length ≤ 1099511627776)
      rw [rtext_ok (by omega) h1, Option.bind_some]
      dsimp only
      cases h2 : pT b1 with
      | none =>
       refine ⟨fun r q h => (by cases h), fun _ => ?_⟩
       rw [rtext_no hb1 h2]
       exact ⟨_, _, rfl, rfl⟩
      | some p2 =>
       obtain ⟨v, b2⟩ := p2
       refine ⟨fun r q h => ?_, fun h => by cases h⟩
       simp only [Option.some.injEq, Prod.mk.injEq] at h
       obtain ⟨rfl, rfl⟩ := h
       rw [rtext_ok hb1 h2]; rfl
    have e6 : ((c.toNat : Int) == 6) = false := by simpa using h6
    simp only [e6, Bool.false_eq_true, if_false, h6]
    by_cases h5 : (c.toNat : Int) = 5
    ·simp only [h5, beq_self_eq_true, if_true]
     refine ⟨fun r q h => ?_, fun h => by cases h⟩
     simp only [Option.some.injEq, Prod.mk.injEq] at h
     obtain ⟨rfl, rfl⟩ := h
     rfl
    have e5 : ((c.toNat : Int) == 5) = false := by simpa using h5
    simp only [e5, Bool.false_eq_true, if_false, h5, top_spec, Option.bind_some]
    by_cases ht : topK (c.toNat : Int) < 0
    ·refine ⟨fun r q h => by simp [ht] at h, fun _ => ?_⟩
     rw [dec_t ht, ite_tt]
     exact ⟨_, _, rfl, rfl⟩
    ·have ht2 : topK (c.toNat : Int) < 9223372036854775808 := by unfold topK; split <;> (try split) <;> (try split) <;> omega
     rw [dec_f ht, ite_ff, if_neg ht]
     cases hn : pNum (topK (c.toNat : Int)) b with
     | none =>
      refine ⟨fun r q h => (by cases h), fun _ => ?_⟩
      rw [rnum_no (by omega) ht2 (by omega) hn]
      exact ⟨_, _, rfl, rfl⟩
     | some pn =>
      obtain ⟨n, q⟩ := pn
      refine ⟨fun r q' h => ?_, fun h => by cases h⟩
      simp only [Option.some.injEq, Prod.mk.injEq] at h
      obtain ⟨rfl, rfl⟩ := h
      rw [rnum_ok (by omega) ht2 (by omega) hn]; rfl
def topX (k : Int) : Int := if k = 4 ∨ k = 7 ∨ k = 8 ∨ k = 9 then 1073741824 else -1
theorem top_code (k : Int) : (if (k == 4) = true then (some true) else (if (k == 7) = true then (some true) else (if (k == 8) = true then (some true) else (some (k == 9))))) = some (decide (0 ≤ topX k)) := by
 unfold topX
 by_cases h4 : k = 4
 ·simp [h4]
 by_cases h7 : k = 7
 ·simp [h7]
 by_cases h8 : k = 8
 ·simp [h8]
 by_cases h9 : k = 9
 ·simp [h9]
 simp [h4, h7, h8, h9]
theorem xkids_loop {K : Reader → Int → Option (Rule × Reader)} {a1 : Int} {c : UInt8} {p : List UInt8 → Option (Rule × List UInt8)} (x : Int × Reader) (hK : RdOk K (IntKind.i64.wrap (a1 - 1)) p) (hp : ∀ b r q m, p b = some (r, q) → b.length ≤ m → q.length ≤ m) : ∀ (m i N : Nat) (b : List UInt8) (acc : List Rule), (i : Int) + m = x.1 → m < N → acc.length + m ≤ 60 → i + m ≤ 60 → b.length ≤ 1099511627776 →
  (∀ l q, pMany p m b = some (l, q) → loopN (fun (s : List UInt8 × Bool × List Rule × Int) => gleaningref1_Reader_rule_b_l3 K a1 c x s.1 s.2.1 s.2.2.1 s.2.2.2) N (b, false, acc, (i : Int)) = some (⟨(c.toNat : Int), 0, strOf [], strOf [], acc ++ l⟩, ⟨q, false⟩)) ∧
  (pMany p m b = none → ∃ l q, loopN (fun (s : List UInt8 × Bool × List Rule × Int) => gleaningref1_Reader_rule_b_l3 K a1 c x s.1 s.2.1 s.2.2.1 s.2.2.2) N (b, false, acc, (i : Int)) = some (l, q) ∧ q.Bad = true) := by
 intro m
 induction m with
 | zero =>
  intro i N b acc hi hN _ _ _
  obtain ⟨N', rfl⟩ : ∃ N', N = N' + 1 := ⟨N - 1, by omega⟩
  refine ⟨fun l q h => ?_, fun h => by cases h⟩
  simp only [pMany, Option.some.injEq, Prod.mk.injEq] at h
  obtain ⟨rfl, rfl⟩ := h
  exact loop_r (by simp only [gleaningref1_Reader_rule_b_l3, dec_f (by omega : ¬ (i : Int) < x.1), Bool.false_eq_true, if_false, Option.bind_some, Sum.elim_inr, List.append_nil, wrap8])
 | succ m ih =>
  intro i N b acc hi hN ha hi2 hb
  obtain ⟨N', rfl⟩ : ∃ N', N = N' + 1 := ⟨N - 1, by omega⟩
  have hfit : ∀ a : Rule, (acc ++ [a]).length * 72 ≤ 140737488355328 ∧ (acc ++ [a]).length ≤ 140737488355328 := fun a => rules_fit (by simp; omega)
  obtain ⟨K1, K2⟩ := hK b hb
  cases h1 : p b with
  | none =>
   refine ⟨fun l q h => by simp [pMany, h1] at h, fun _ => ?_⟩
   obtain ⟨r, ⟨qB, qf⟩, hr, hq⟩ := K2 h1
   dsimp only at hq
   subst hq
   refine ⟨⟨(c.toNat : Int), 0, strOf [], strOf [], acc ++ [r]⟩, ⟨qB, true⟩, ?_, rfl⟩
   rw [loop_l (s' := (qB, true, acc ++ [r], ((i + 1 : Nat) : Int)))]
   ·obtain ⟨N2, rfl⟩ : ∃ N2, N' = N2 + 1 := ⟨N' - 1, by omega⟩
    refine loop_r ?_
    simp only [gleaningref1_Reader_rule_b_l3, wrap8]
    by_cases h : ((i + 1 : Nat) : Int) < x.1
    ·simp only [dec_t h, if_true, Bool.not_true, Bool.false_eq_true, if_false, Option.bind_some, Sum.elim_inr]
    ·simp only [dec_f h, Bool.false_eq_true, if_false, Option.bind_some, Sum.elim_inr]
   ·simp only [gleaningref1_Reader_rule_b_l3, dec_t (by omega : (i : Int) < x.1), if_true, Bool.not_false, Option.bind_some, Sum.elim_inl, gleaningref1_Reader_rule_b_k4, hr, gd_pos (hfit _), ksu (by omega : i < 1099511627776)]
  | some pr =>
   obtain ⟨r, b1⟩ := pr
   have hb1 := hp _ _ _ _ h1 hb
   have hg := K1 _ _ h1
   have hstep : loopN (fun (s : List UInt8 × Bool × List Rule × Int) => gleaningref1_Reader_rule_b_l3 K a1 c x s.1 s.2.1 s.2.2.1 s.2.2.2) (N' + 1) (b, false, acc, (i : Int)) = loopN (fun (s : List UInt8 × Bool × List Rule × Int) => gleaningref1_Reader_rule_b_l3 K a1 c x s.1 s.2.1 s.2.2.1 s.2.2.2) N' (b1, false, acc ++ [r], ((i + 1 : Nat) : Int)) :=
    loop_l (by simp only [gleaningref1_Reader_rule_b_l3, dec_t (by omega : (i : Int) < x.1), if_true, Bool.not_false, Option.bind_some, Sum.elim_inl, gleaningref1_Reader_rule_b_k4, hg, gd_pos (hfit _), ksu (by omega : i < 1099511627776)])
   obtain ⟨g1, g2⟩ := ih (i + 1) N' b1 (acc ++ [r]) (by omega) (by omega) (by simp; omega) (by omega) hb1
   rw [hstep]
   refine ⟨fun l q h => ?_, fun h => ?_⟩
   ·simp only [pMany, h1] at h
    split at h
    ·cases h
    ·rename_i l2 q2 h3
     simp only [Option.some.injEq, Prod.mk.injEq] at h
     obtain ⟨rfl, rfl⟩ := h
     rw [g1 _ _ h3]; simp
   ·simp only [pMany, h1] at h
    split at h
    ·rename_i h3; exact g2 h3
    ·cases h
theorem xget_rd : ∀ (d N : Nat), d < N → d ≤ 100 → RdOk (gleaningref1_Reader_ruleN N) (d : Int) (pR topX d) := by
 intro d
 induction d with
 | zero =>
  intro N hN _ b hb
  obtain ⟨N', rfl, _⟩ := fuel_pos hN
  refine ⟨fun r q h => by simp [pR] at h, fun _ => ?_⟩
  rw [gleaningref1_Reader_ruleN, gleaningref1_Reader_rule_b]
  dsimp only
  rw [ite_ff]
  by_cases h : ((b.length : Int) == 0) = true
  ·rw [h, ite_tt]
   exact ⟨_, _, rfl, rfl⟩
  ·rw [if_neg h]
   exact ⟨_, _, rfl, rfl⟩
 | succ d ih =>
  intro N hN hd b hb
  obtain ⟨N', rfl, hN'⟩ := fuel_pos hN
  have hK := ih N' (by omega) (by omega)
  have hd1 : IntKind.i64.wrap (((d + 1 : Nat) : Int) - 1) = (d : Int) := by rw [w64 (by omega) (by omega)]; omega
  rw [gleaningref1_Reader_ruleN]
  cases b with
  | nil =>
   refine ⟨fun r q h => by simp [pR] at h, fun _ => ?_⟩
   exact ⟨_, _, rfl, rfl⟩
  | cons c b =>
   simp only [List.length_cons] at hb
   have hcode : gleaningref1_Reader_rule_b (gleaningref1_Reader_ruleN N') ⟨c :: b, false⟩ ((d + 1 : Nat) : Int) = gleaningref1_Reader_rule_b_k2 (gleaningref1_Reader_ruleN N') ⟨c :: b, false⟩ ((d + 1 : Nat) : Int) c (kidK (c.toNat : Int)) := by
    have e1 : (((c :: b).length : Int) == 0) = false := by rw [beq_eq_false_iff_ne, List.length_cons]; omega
    have e2 : (((d + 1 : Nat) : Int) == 0) = false := by rw [beq_eq_false_iff_ne]; omega
    simp only [gleaningref1_Reader_rule_b, e1, e2, Bool.false_eq_true, if_false, Option.bind_some, gleaningref1_Reader_rule_b_k1, Sum.elim_inl, gleaningref1_Reader_rule_b_k0, List.getElem?_cons_zero, wrap8, kid_code]
    rw [gd_pos (by rw [List.length_cons]; omega)]
   rw [hcode, gleaningref1_Reader_rule_b_k2, wrap8]
   simp only [pR, List.drop_succ_cons, List.drop_zero]
   cases hkk : kidK (c.toNat : Int) with
   | true =>
    simp only [if_true]
    cases hn : pNum 20 b with
    | none =>
     refine ⟨fun r q h => (by cases h), fun _ => ?_⟩
     obtain ⟨q, hq, hi⟩ := xint_no (top := 20) (by omega) (by omega) (by omega) hn
     rw [hi, Option.bind_some]
     have : loopN (fun (s : List UInt8 × Bool × List Rule × Int) => gleaningref1_Reader_rule_b_l3 (gleaningref1_Reader_ruleN N') ((d + 1 : Nat) : Int) c (0, ⟨q, true⟩) s.1 s.2.1 s.2.2.1 s.2.2.2) Fu (q, true, [], 0) = some (⟨(c.toNat : Int), 0, strOf [], strOf [], []⟩, ⟨q, true⟩) := loop_now (by simp only [gleaningref1_Reader_rule_b_l3, dec_f (by omega : ¬ (0 : Int) < 0), Bool.false_eq_true, if_false, Option.bind_some, Sum.elim_inr, wrap8])
     dsimp only
     rw [this]
     exact ⟨_, _, rfl, rfl⟩
    | some pn =>
     obtain ⟨n, b1⟩ := pn
     have hs := pNum_sound hn
     have hb1 := len_of hs.2.2 (by omega : b.length ≤ 1099511627776)
     obtain ⟨n', rfl⟩ := Int.eq_ofNat_of_zero_le hs.1.1
     have hn20 : n' ≤ 20 := by have := hs.2.1; omega
     rw [xint_ok (by omega) (by omega) (by omega) hn, Option.bind_some]
     obtain ⟨g1, g2⟩ := xkids_loop (a1 := ((d + 1 : Nat) : Int)) (c := c) ((n' : Int), ⟨b1, false⟩) (by rw [hd1]; exact hK) (fun b r q m h hb => pR_bound h hb) n' 0 Fu b1 [] (by simp) (by rw [fuPos]; omega) (by simp; omega) (by omega) hb1
     simp only [Int.natCast_zero, List.nil_append] at g1 g2
     dsimp only
     simp only [Int.toNat_natCast]
     cases hp : pMany (pR topX d) n' b1 with
     | none =>
      refine ⟨fun r q h => (by cases h), fun _ => ?_⟩
      exact g2 hp
     | some pl =>
      obtain ⟨l, q⟩ := pl
      refine ⟨fun r q' h => ?_, fun h => by cases h⟩
      simp only [Option.some.injEq, Prod.mk.injEq] at h
      obtain ⟨rfl, rfl⟩ := h
      rw [g1 _ _ hp]
   | false =>
    simp only [Bool.false_eq_true, if_false]
    by_cases h6 : (c.toNat : Int) = 6
    ·simp only [h6, beq_self_eq_true, if_true]
     cases h1 : pT b with
     | none =>
      refine ⟨fun r q h => (by cases h), fun _ => ?_⟩
      rw [xtext_no (by omega) h1, Option.bind_some, xtext_bad (by omega)]
      exact ⟨_, _, rfl, rfl⟩
     | some p1 =>
      obtain ⟨x, b1⟩ := p1
      have hb1 := len_of (pT_sound h1) (by omega : b.length ≤ 1099511627776)
      rw [xtext_ok (by omega) h1, Option.bind_some]
      dsimp only
      cases h2 : pT b1 with
      | none =>
       refine ⟨fun r q h => (by cases h), fun _ => ?_⟩
       rw [xtext_no hb1 h2]
       exact ⟨_, _, rfl, rfl⟩
      | some p2 =>
       obtain ⟨v, b2⟩ := p2
       refine ⟨fun r q h => ?_, fun h => by cases h⟩
       simp only [Option.some.injEq, Prod.mk.injEq] at h
       obtain ⟨rfl, rfl⟩ := h
       rw [xtext_ok hb1 h2]; rfl
    have e6 : ((c.toNat : Int) == 6) = false := by simpa using h6
    simp only [e6, Bool.false_eq_true, if_false, h6]
    by_cases h5 : (c.toNat : Int) = 5
    ·simp only [h5, beq_self_eq_true, if_true]
     refine ⟨fun r q h => ?_, fun h => by cases h⟩
     simp only [Option.some.injEq, Prod.mk.injEq] at h
     obtain ⟨rfl, rfl⟩ := h
     rfl
    have e5 : ((c.toNat : Int) == 5) = false := by simpa using h5
    simp only [e5, Bool.false_eq_true, if_false, h5, top_code, Option.bind_some, gleaningref1_Reader_rule_b_k5]
    by_cases ht : topX (c.toNat : Int) < 0
    ·refine ⟨fun r q h => by simp [ht] at h, fun _ => ?_⟩
     rw [dec_f (by omega), ite_ff]
     exact ⟨_, _, rfl, rfl⟩
    ·have hx : topX (c.toNat : Int) = 1073741824 := by unfold topX at ht ⊢; split at ht <;> omega
     rw [dec_t (by omega), ite_tt, if_neg ht, hx]
     cases hn : pNum 1073741824 b with
     | none =>
      refine ⟨fun r q h => (by cases h), fun _ => ?_⟩
      obtain ⟨q, hq, hi⟩ := xint_no (top := 1073741824) (by omega) (by omega) (by omega) hn
      simp only [List.drop_succ_cons, List.drop_zero]
      rw [hi, Option.bind_some]
      exact ⟨_, _, rfl, rfl⟩
     | some pn =>
      obtain ⟨n, q⟩ := pn
      refine ⟨fun r q' h => ?_, fun h => by cases h⟩
      simp only [Option.some.injEq, Prod.mk.injEq] at h
      obtain ⟨rfl, rfl⟩ := h
      simp only [List.drop_succ_cons, List.drop_zero, wrap8]
      rw [xint_ok (by omega) (by omega) (by omega) hn]; rfl
def zeroR : Rule := ⟨0, 0, strOf [], strOf [], []⟩
def bytesR (r : Rule) : List UInt8 := if rightR r = true then ruleB 5 r else []
theorem rightR_of {r : Rule} (h : rightR r = true) : okF 5 r = true ∧ numF 5 r ≤ 20 := by simpa [rightR] using h
theorem rbytes_spec (r : Rule) : rule_Bytes r = some (bytesR r) ∧ gleaningref1_RuleBytes r = some (bytesR r) := by
 rw [rule_Bytes, gleaningref1_RuleBytes, right_spec', xright_spec', Option.bind_some, Option.bind_some, bytesR]
 cases h : rightR r with
 | false => exact ⟨rfl, rfl⟩
 | true =>
  obtain ⟨h1, h2⟩ := rightR_of h
  obtain ⟨p1, p2⟩ := putR_spec 5 r Fu ⟨[]⟩ h1 (by omega) (by rw [fuP]; omega) (by simp; omega)
  simp only [Bool.not_true, Bool.false_eq_true, if_false, rule_put, p1, gleaningref1_addRule, p2, Option.bind_some, List.nil_append, if_true]
  exact ⟨trivial, trivial⟩
def ReadsR (b : List UInt8) (o : Option (Rule × Int)) : Prop := (∃ r, rightR r = true ∧ b = ruleB 5 r ∧ o = some (r, 0)) ∨ ((∀ r, rightR r = true → b ≠ ruleB 5 r) ∧ o = some (zeroR, 2))
theorem reads_of {T : Int → Int} (hT : topOk T) {K : Reader → Int → Option (Rule × Reader)} {R : Rule → Option Bool} (hR : ∀ r, R r = some (rightR r)) (hK : RdOk K 5 (pR T 5)) (b : List UInt8) (hb : b.length ≤ 1099511627776) :
  ReadsR b (Option.bind (K (Reader.mk b false) 5) (fun (x4 : Rule × Reader) => if x4.2.Bad = true then (some ((Rule.mk 0 0 (strOf []) (strOf []) []), 2)) else (if (decide ((0 : Int) < (List.length x4.2.B : Int))) = true then (some ((Rule.mk 0 0 (strOf []) (strOf []) []), 2)) else (Option.bind (R x4.1) (fun (x11 : Bool) => if (!x11) = true then (some ((Rule.mk 0 0 (strOf []) (strOf []) []), 2)) else (some (x4.1, 0))))))) := by
 obtain ⟨K1, K2⟩ := hK b hb
 have none_of : pR T 5 b = none → ∀ r, rightR r = true → b ≠ ruleB 5 r := fun h r hr e => by
  obtain ⟨h1, h2⟩ := rightR_of hr
  have := pR_put T hT 5 r [] h1 h2
  rw [List.append_nil, ← e, h] at this
  cases this
 cases h : pR T 5 b with
 | none =>
  obtain ⟨r, q, h1, h2⟩ := K2 h
  rw [h1, Option.bind_some]
  simp only [h2, if_true]
  exact .inr ⟨none_of h, rfl⟩
 | some p =>
  obtain ⟨r, q⟩ := p
  rw [K1 _ _ h, Option.bind_some]
  simp only [Bool.false_eq_true, if_false]
  have huni : ∀ r', rightR r' = true → b = ruleB 5 r' → r' = r ∧ q = [] := fun r' hr e => by
   obtain ⟨h1, h2⟩ := rightR_of hr
   have := pR_put T hT 5 r' [] h1 h2
   rw [List.append_nil, ← e, h] at this
   simp only [Option.some.injEq, Prod.mk.injEq] at this
   exact ⟨this.1.symm, this.2⟩
  have hsound := pR_sound T 5 b q r h
  by_cases hq : q = []
  ·subst hq
   rw [List.append_nil] at hsound
   simp only [List.length_nil, Int.natCast_zero, dec_f (by omega : ¬ (0 : Int) < 0), Bool.false_eq_true, if_false, hR, Option.bind_some]
   cases hr : rightR r with
   | true => exact .inl ⟨r, hr, hsound, rfl⟩
   | false => exact .inr ⟨fun r' hr' e => by rw [(huni r' hr' e).1] at hr'; rw [hr] at hr'; exact absurd hr' (by decide), rfl⟩
  ·have : 0 < q.length := List.length_pos_iff.2 hq
   rw [dec_t (by omega), ite_tt]
   exact .inr ⟨fun r' hr' e => hq (huni r' hr' e).2, rfl⟩
theorem topK_ok : topOk topK := fun k hk => ⟨Int.le_refl _, by unfold topK; split <;> (try split) <;> (try split) <;> omega⟩
theorem topX_ok : topOk topX := fun k hk => by
 unfold topK topX
 rw [if_pos hk]
 refine ⟨?_, by omega⟩
 split <;> (try split) <;> (try split) <;> omega
theorem read_rule (b : List UInt8) (hb : b.length ≤ 1099511627776) : ReadsR b (rule_Read b) ∧ ReadsR b (gleaningref1_ReadRule b) :=
 ⟨reads_of topK_ok right_spec' (get_rd 5 Fu (by rw [fuPos]; omega) (by omega)) b hb, reads_of topX_ok xright_spec' (xget_rd 5 Fu (by rw [fuPos]; omega) (by omega)) b hb⟩
theorem reads_one {b : List UInt8} {o o' : Option (Rule × Int)} (h : ReadsR b o) (h' : ReadsR b o') : o = o' := by
 rcases h with ⟨r, h1, h2, h3⟩ | ⟨h1, h2⟩ <;> rcases h' with ⟨r', k1, k2, k3⟩ | ⟨k1, k2⟩
 ·have e1 := pR_put topK topK_ok 5 r [] (rightR_of h1).1 (rightR_of h1).2
  have e2 := pR_put topK topK_ok 5 r' [] (rightR_of k1).1 (rightR_of k1).2
  rw [List.append_nil, ← h2] at e1
  rw [List.append_nil, ← k2, e1] at e2
  injection e2 with e2; injection e2 with e2 _
  rw [h3, k3, e2]
 ·exact absurd h2 (k1 r h1)
 ·exact absurd k2 (h1 r' k1)
 ·rw [h2, k2]
end Go.Proofs.Ytdhpmlgalddgfaa.Ab
