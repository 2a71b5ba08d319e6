import Derived.Test.YtdhpmlgalddgfaaPBatch0
import Derived.Test.YtdhpmlgalddgfaaPRule2
import Derived.Test.YtdhpmlgalddgfaaXK
namespace Go.Proofs.Ytdhpmlgalddgfaa.Ab
open Go Go.RowKit
set_option linter.unusedVariables false
set_option linter.unusedSimpArgs false
theorem isU_of {n : Int} (h : inI .u64 n) : isU n := by simp [inI, IntKind.min, IntKind.max, IntKind.signed, IntKind.bits] at h; exact ⟨by omega, by omega⟩
theorem wfS_of {s : Span} (h : Span.wf s) : wfS s := ⟨isU_of h.1.1, isU_of h.1.2, isU_of h.2.1, isU_of h.2.2.1⟩
theorem batchB_le {l : List Span} (hw : ∀ s ∈ l, wfS s) : (batchB l).length ≤ 20100 := by
 unfold batchB
 split
 ·rename_i h
  obtain ⟨h1, h2, h3⟩ := rightL_of h
  have hle := spansB_le l fun s hs => ⟨hw s hs, h3 s hs⟩
  have hp := putN_len10 (n := l.length) (by omega)
  simp only [sealB, List.length_append, fourN_length]; omega
 ·simp
theorem batchB_pos {l : List Span} (h : rightL l = true) : 4 ≤ (batchB l).length := by
 rw [batchB, if_pos h, sealB, List.length_append, fourN_length]; omega
theorem codeB_put {l : List Span} (h : rightL l = true) (hw : ∀ s ∈ l, wfS s) : codeB (batchB l) = (l, 0) := by rw [codeB, readB_put h hw]
theorem codeB_small (b : List UInt8) : (codeB b).1.length ≤ 50 ∧ ∀ s ∈ (codeB b).1, s.Attrs.length ≤ 1000000 := by
 unfold codeB readB
 cases openB b with
 | none => exact ⟨by simp, by simp⟩
 | some x =>
  dsimp only
  cases hn : pNum 50 x with
  | none => exact ⟨by simp, by simp⟩
  | some p =>
   obtain ⟨n, r⟩ := p
   have hs := pNum_sound hn
   dsimp only
   split
   ·exact ⟨by simp, by simp⟩
   ·rename_i l hl
    split at hl
    ·cases hl
    ·split at hl
     ·cases hl
     ·rename_i l2 q hq
      split at hl
      ·injection hl with hl; subst hl
       obtain ⟨g1, g2⟩ := pSpans_len _ _ _ _ hq
       have := hs.1.1
       have := hs.2.1
       exact ⟨by show l2.length ≤ 50; omega, fun s hs => by have := (rightS_of (g2 s hs)).2.2.2.2.2.2.2.1; omega⟩
      ·cases hl
theorem ruleB_head (r : Rule) (h : rightR r = true) : ∃ c l, ruleB 5 r = c :: l := ⟨_, _, rfl⟩
theorem ruleB_len {r : Rule} (h : rightR r = true) : 1 ≤ (ruleB 5 r).length ∧ (ruleB 5 r).length ≤ 1200 := by
 obtain ⟨h1, h2⟩ := rightR_of h
 have := ruleB_le 5 r h1 (by omega)
 obtain ⟨c, l, e⟩ := ruleB_head r h
 refine ⟨by rw [e]; simp, by omega⟩
theorem rule_prefix {r s : Rule} (hr : rightR r = true) (hs : rightR s = true) {q : List UInt8} (h : ruleB 5 r = ruleB 5 s ++ q) : r = s ∧ q = [] := by
 have e1 := pR_put topK topK_ok 5 r [] (rightR_of hr).1 (rightR_of hr).2
 have e2 := pR_put topK topK_ok 5 s q (rightR_of hs).1 (rightR_of hs).2
 rw [List.append_nil, h, e2] at e1
 simp only [Option.some.injEq, Prod.mk.injEq] at e1
 exact ⟨e1.1.symm, e1.2⟩
theorem read_put {r : Rule} (hr : rightR r = true) : rule_Read (ruleB 5 r) = some (r, 0) := by
 have hl := (ruleB_len hr).2
 rcases (read_rule (ruleB 5 r) (by omega)).1 with ⟨s, h1, h2, h3⟩ | ⟨h1, _⟩
 ·rw [h3, (rule_prefix hr h1 (q := []) (by rw [List.append_nil]; exact h2)).1]
 ·exact absurd rfl (h1 r hr)
theorem bytesR_t {r : Rule} (h : rightR r = true) : bytesR r = ruleB 5 r := by rw [bytesR, if_pos h]
theorem bytesR_f {r : Rule} (h : rightR r = false) : bytesR r = [] := by rw [bytesR, h]; rfl
def boundF : Nat → Rule → Prop
 | 0, _ => False
 | d + 1, r => r.Kids.length ≤ 1000 ∧ ∀ x ∈ r.Kids, boundF d x
def allZip (f : Rule → Rule → Bool) : List Rule → List Rule → Bool
 | [], [] => true
 | a :: l, b :: m => f a b && allZip f l m
 | _, _ => false
def sameF : Nat → Rule → Rule → Bool
 | 0, _, _ => false
 | d + 1, a, b => decide (a.Kind = b.Kind) && (decide (a.N = b.N) && (decide (a.Key = b.Key) && (decide (a.Value = b.Value) && allZip (sameF d) a.Kids b.Kids)))
theorem allZip_len {f : Rule → Rule → Bool} : ∀ {l m : List Rule}, allZip f l m = true → l.length = m.length
 | [], [], _ => rfl
 | a :: l, b :: m, h => by
  simp only [allZip, Bool.and_eq_true] at h
  simp [allZip_len h.2]
 | [], b :: m, h => by cases h
 | a :: l, [], h => by cases h
theorem allZip_self {f : Rule → Rule → Bool} : ∀ (l : List Rule), (∀ x ∈ l, f x x = true) → allZip f l l = true
 | [], _ => rfl
 | a :: l, h => by simp only [allZip, h a List.mem_cons_self, allZip_self l fun x hx => h x (List.mem_cons_of_mem _ hx), Bool.and_self]
theorem same_self : ∀ (d : Nat) (r : Rule), boundF d r → sameF d r r = true
 | 0, r, h => h.elim
 | d + 1, r, h => by simp only [sameF, decide_true, Bool.true_and, allZip_self r.Kids fun x hx => same_self d x (h.2 x hx)]
theorem loop_zip {body : Int → Option (Int ⊕ Bool)} (f : Rule → Rule → Bool) (a b : List Rule) (hl : a.length = b.length) (ha : a.length ≤ 1000)
  (h : ∀ (k : Nat) (h1 : k < a.length) (h2 : k < b.length), body (k : Int) = if f a[k] b[k] = true then some (.inl ((k + 1 : Nat) : Int)) else some (.inr false)) (hend : body (a.length : Int) = some (.inr true)) : loopN body Fu 0 = some (allZip f a b) := by
 have key : ∀ (m k N : Nat), k + m = a.length → m < N → loopN body N (k : Int) = some (allZip f (a.drop k) (b.drop k)) := by
  intro m
  induction m with
  | zero =>
   intro k N hk hN
   obtain ⟨N', rfl, _⟩ := fuel_pos hN
   have e : k = a.length := by omega
   subst e
   rw [loop_r hend, List.drop_length, hl, List.drop_length]; rfl
  | succ m ih =>
   intro k N hk hN
   obtain ⟨N', rfl, hN'⟩ := fuel_pos hN
   have h1 : k < a.length := by omega
   have h2 : k < b.length := by omega
   have hb := h k h1 h2
   rw [List.drop_eq_getElem_cons h1, List.drop_eq_getElem_cons h2, allZip]
   cases e : f a[k] b[k] with
   | false =>
    rw [e, if_neg (by decide)] at hb
    rw [loop_r hb]; rfl
   | true =>
    rw [e, if_pos rfl] at hb
    rw [loop_l hb, Bool.true_and]
    exact ih (k + 1) N' (by omega) (by omega)
 have := key a.length 0 Fu (by omega) (by rw [fuP]; omega)
 simpa using this
theorem same_rule : ∀ (d : Nat) (a b : Rule) (N : Nat), boundF d a → d ≤ N → gleaningref1_SameRuleN N a b = some (sameF d a b) := by
 intro d
 induction d with
 | zero => intro a b N h; exact h.elim
 | succ d ih =>
  intro a b N h hN
  obtain ⟨N', rfl, hN'⟩ := fuel_pos (by omega : d < N)
  obtain ⟨h1, h2⟩ := h
  rw [gleaningref1_SameRuleN, gleaningref1_SameRule_b, sameF]
  simp only [str_beq]
  by_cases e1 : a.Kind = b.Kind
  case neg => simp [e1]
  by_cases e2 : a.N = b.N
  case neg => simp [e1, e2]
  by_cases e3 : a.Key = b.Key
  case neg => simp [e1, e2, e3]
  by_cases e4 : a.Value = b.Value
  case neg => simp [e1, e2, e3, e4]
  simp only [e1, e2, e3, e4, beq_self_eq_true, decide_true, if_true, bne_self_eq_false, Bool.not_true, Bool.false_eq_true, if_false, Bool.true_and]
  by_cases e5 : a.Kids.length = b.Kids.length
  case neg =>
   have h0 : ((a.Kids.length : Int) != (b.Kids.length : Int)) = true := by simp only [bne_iff_ne, ne_eq]; omega
   have hz : allZip (sameF d) a.Kids b.Kids = false := by
    cases hq : allZip (sameF d) a.Kids b.Kids with
    | false => rfl
    | true => exact absurd (allZip_len hq) e5
   rw [h0, hz]
   rfl
  have h0 : ((a.Kids.length : Int) != (b.Kids.length : Int)) = false := by simp [e5]
  rw [h0, ite_ff]
  rw [Option.bind_some, Sum.elim_inl, gleaningref1_SameRule_b_k0]
  refine loop_zip (sameF d) a.Kids b.Kids e5 h1 (fun k k1 k2 => ?_) ?_
  ·simp only [gleaningref1_SameRule_b_l1, dec_t (by omega : (k : Int) < (a.Kids.length : Int)), if_true, gd_pos (by omega : (0 : Int) ≤ (k : Int)), Int.toNat_natCast, List.getElem?_eq_getElem k1, List.getElem?_eq_getElem k2, Option.bind_some, (ih a.Kids[k] b.Kids[k] N' (h2 _ (List.getElem_mem k1)) hN'), ksu (by omega : k < 1099511627776)]
   cases sameF d a.Kids[k] b.Kids[k] <;> rfl
  ·simp only [gleaningref1_SameRule_b_l1, dec_f (by omega : ¬ (a.Kids.length : Int) < (a.Kids.length : Int)), Bool.false_eq_true, if_false]
theorem bound_ok : ∀ (d : Nat) (r : Rule), okF d r = true → numF d r ≤ 1000 → boundF d r
 | 0, r, h, _ => by cases h
 | d + 1, r, h, hn => by
  simp only [okF, Bool.and_eq_true, List.all_eq_true] at h
  simp only [numF] at hn
  have hpos : ∀ x ∈ r.Kids, 1 ≤ numF d x := fun x hx => by
   cases d with
   | zero => exact absurd (h.2 x hx) (by simp [okF])
   | succ d => exact num_pos d x
  have := sumL_len (numF d) _ hpos
  exact ⟨by omega, fun x hx => bound_ok d x (h.2 x hx) (by have := sumL_mem (numF d) r.Kids x hx; omega)⟩
theorem same_right {r : Rule} (h : rightR r = true) : gleaningref1_SameRule r r = some true := by
 obtain ⟨h1, h2⟩ := rightR_of h
 have hb := bound_ok 5 r h1 (by omega)
 rw [gleaningref1_SameRule, (same_rule 5 r r Fu hb (by rw [fuP]; omega)), same_self 5 r hb]
theorem same_zero : gleaningref1_SameRule zeroR zeroR = some true := by
 have hb : boundF 1 zeroR := ⟨by simp [zeroR], by simp [zeroR]⟩
 rw [gleaningref1_SameRule, (same_rule 1 zeroR zeroR Fu hb (by rw [fuP]; omega)), same_self 1 zeroR hb]
theorem iput_spec (l : List UInt8) (n : Nat) (hn : n < 18446744073709551616) (hl : l.length ≤ 1099511627700) : ints_Put l (n : Int) = some (l ++ putN n) := by
 have hlen := putN_len10 hn
 have hloop : loopN (fun (s : Int × List UInt8) => ints_Put_l1 s.1 s.2) Fu ((n : Int), l) = some ((((putN n).getLast (List.ne_nil_of_length_pos (putN_pos n))).toNat : Int), l ++ (putN n).dropLast) := by
  refine loop_fu (fun m s r => ∃ (a : Nat) (o : List UInt8), s = ((a : Int), o) ∧ m = (putN a).length ∧ r = ((((putN a).getLast (List.ne_nil_of_length_pos (putN_pos a))).toNat : Int), o ++ (putN a).dropLast) ∧ o.length + (putN a).length ≤ 1099511627710) ?_ ⟨n, l, rfl, rfl, rfl, by omega⟩ (by omega)
  rintro m s r ⟨a, o, rfl, rfl, rfl, hb⟩
  by_cases h : a < 128
  ·refine .inr ?_
   have hd : ¬ ((128 : Int) ≤ (a : Int)) := by omega
   simp only [ints_Put_l1, dec_f hd, ite_ff, putN_lt h, List.getLast_singleton, List.dropLast_singleton, List.append_nil]
   congr 3
   simp; omega
  ·refine .inl ⟨(((a / 128 : Nat) : Int), o ++ [UInt8.ofNat (a % 128 + 128)]), (putN (a / 128)).length, ?_, by rw [putN_ge h]; simp, a / 128, _, rfl, rfl, ?_, ?_⟩
   ·have hd : ((128 : Int) ≤ (a : Int)) := by omega
    have hp := putN_pos (a / 128)
    rw [putN_ge h] at hb
    simp only [List.length_cons] at hb
    simp only [ints_Put_l1, dec_t hd, ite_tt, u8_or128, shr7]
    exact gd_some' (fitg (by simp; omega)) rfl
   ·have hne : putN (a / 128) ≠ [] := List.ne_nil_of_length_pos (putN_pos _)
    simp only [putN_ge h, List.getLast_cons hne, List.dropLast_cons_of_ne_nil hne, List.append_assoc, List.singleton_append]
   ·rw [putN_ge h] at hb; simp only [List.length_cons, List.length_append, List.length_nil] at hb ⊢; omega
 rw [ints_Put, gd_pos (fitg (by omega)), hloop, Option.bind_some, ints_Put_k0]
 have e : u8 (IntKind.u8.wrap ((((putN n).getLast (List.ne_nil_of_length_pos (putN_pos n))).toNat : Nat) : Int)) = (putN n).getLast (List.ne_nil_of_length_pos (putN_pos n)) := by rw [u8_wrap_nat]; simp
 dsimp only
 rw [e, List.append_assoc, List.dropLast_concat_getLast]
 exact gd_some' (fitg (by simp; omega)) rfl
end Go.Proofs.Ytdhpmlgalddgfaa.Ab
namespace Go.Proofs.Ytdhpmlgalddgfaa.Ab
open Go Go.RowKit
set_option linter.unusedVariables false
set_option linter.unusedSimpArgs false
theorem within1 (n : Int) : model_within 0 1099511627776 [n] = some (decide (0 ≤ n) && decide (n ≤ 1099511627776)) := by
 obtain ⟨r, h1, h2⟩ := loop_has (body := fun (s : Int) => slices_IndexFunc_int_model_within_c1_l0 [n] 0 1099511627776 s) (fun x : Int => decide (x < 0) || decide (1099511627776 < x)) [n] (by simp) (fun k hk => by
  have e : k = 0 := by simp at hk; omega
  subst e
  simp only [slices_IndexFunc_int_model_within_c1_l0, List.length_singleton, List.getElem_singleton]
  by_cases a : n < 0
  ·simp [model_within_c1, a, gd]
  ·by_cases b : (1099511627776 : Int) < n
   ·simp [model_within_c1, a, b, gd]
   ·simp [model_within_c1, a, b, gd]; rfl) (by simp [slices_IndexFunc_int_model_within_c1_l0])
 rw [model_within, slices_ContainsFunc_int_model_within_c1, slices_IndexFunc_int_model_within_c1, h1, Option.bind_some, Option.bind_some, h2]
 by_cases a : n < 0
 ·simp [a]; omega
 ·by_cases b : (1099511627776 : Int) < n
  ·simp [a, b]
  ·simp [a, b]; omega
def mayB (o : OpG) : Bool := if o.Kind = 1 then rightL o.Spans else if o.Kind = 2 then decide (0 ≤ o.N) && decide (o.N ≤ 1099511627776) else if o.Kind = 3 then rightR o.Policy else decide (o.Kind = 4)
def opB (o : OpG) : List UInt8 := if mayB o = true then (if o.Kind = 1 then 1 :: batchB o.Spans else if o.Kind = 2 then 2 :: putN o.N.toNat else if o.Kind = 3 then 3 :: ruleB 5 o.Policy else [4]) else []
theorem may_spec (o : OpG) : model_May o = some (mayB o) := by
 obtain ⟨k, n, sp, p⟩ := o
 unfold model_May mayB
 dsimp only
 by_cases k1 : k = 1
 ·subst k1; simp [bright_spec]
 by_cases k2 : k = 2
 ·subst k2; simp [within1]
 by_cases k3 : k = 3
 ·subst k3; simp [right_spec']
 simp [k1, k2, k3]
 rfl
theorem wrap_byte1 : u8 (IntKind.u8.wrap 1) = 1 := rfl
theorem wrap_byte2 : u8 (IntKind.u8.wrap 2) = 2 := rfl
theorem wrap_byte3 : u8 (IntKind.u8.wrap 3) = 3 := rfl
theorem wrap_byte4 : u8 (IntKind.u8.wrap 4) = 4 := rfl
theorem op_spec (o : OpG) (hw : ∀ s ∈ o.Spans, wfS s) : keeper_Op o = some (opB o) ∧ gleaningref24_OpBytes o = some (opB o) := by
 obtain ⟨k, n, sp, p⟩ := o
 have hle := batchB_le hw
 dsimp only at hw hle
 rw [keeper_Op, may_spec, Option.bind_some]
 by_cases k1 : k = 1
 ·subst k1
  cases hr : rightL sp with
  | false =>
   have h0 : batchB sp = [] := by rw [batchB, hr]; rfl
   have hm : mayB ⟨1, n, sp, p⟩ = false := by simp [mayB, hr]
   exact ⟨by simp [hm, opB], by simp [gleaningref24_OpBytes, xbatch_spec sp hw, h0, opB, hm]⟩
  | true =>
   have hm : mayB ⟨1, n, sp, p⟩ = true := by simp [mayB, hr]
   have hp := batchB_pos hr
   have ho : opB ⟨1, n, sp, p⟩ = 1 :: batchB sp := by simp [opB, hm]
   have hd : ((0 : Int) < ((batchB sp).length : Int)) := by omega
   rw [hm, ho]
   refine ⟨?_, ?_⟩
   ·simp only [batch_spec sp hw, Option.bind_some, Bool.not_true, Bool.false_eq_true, if_false, beq_self_eq_true, if_true, wrap_byte1, List.singleton_append]
    exact gd_some' (fitb (by simp; omega)) rfl
   ·simp only [gleaningref24_OpBytes, xbatch_spec sp hw, Option.bind_some, beq_self_eq_true, if_true, dec_t hd, List.singleton_append]
    exact gd_some' (fitb (by simp; omega)) rfl
 by_cases k2 : k = 2
 ·subst k2
  by_cases hn : 0 ≤ n ∧ n ≤ 1099511627776
  ·have hm : mayB ⟨2, n, sp, p⟩ = true := by simp [mayB, hn]
   have ho : opB ⟨2, n, sp, p⟩ = 2 :: putN n.toNat := by simp [opB, hm]
   have e : IntKind.u64.wrap n = ((n.toNat : Nat) : Int) := by rw [wu64 hn.1 (by omega)]; omega
   rw [hm, ho]
   refine ⟨?_, ?_⟩
   ·simp only [show ((2 : Int) == 1) = false from rfl, Bool.not_true, Bool.false_eq_true, if_false, beq_self_eq_true, if_true, wrap_byte2, e, iput_spec [2] n.toNat (by omega) (by simp), Option.bind_some, List.singleton_append]
   ·simp only [gleaningref24_OpBytes, show ((2 : Int) == 1) = false from rfl, Bool.false_eq_true, if_false, beq_self_eq_true, if_true, dec_t hn.1, dec_t hn.2, Option.bind_some, gleaningref24_OpBytes_k0, e, rput_spec [2] n.toNat (by omega) (by simp), List.singleton_append]
  ·have hm : mayB ⟨2, n, sp, p⟩ = false := by
    show (decide (0 ≤ n) && decide (n ≤ 1099511627776)) = false
    rw [← Bool.decide_and, dec_f hn]
   refine ⟨by simp [hm, opB], ?_⟩
   simp only [gleaningref24_OpBytes, show ((2 : Int) == 1) = false from rfl, Bool.false_eq_true, if_false, beq_self_eq_true, if_true, opB, hm]
   by_cases a : 0 ≤ n
   ·have b : ¬ n ≤ 1099511627776 := fun b => hn ⟨a, b⟩
    simp only [dec_t a, if_true, dec_f b, Option.bind_some, gleaningref24_OpBytes_k0, Bool.false_eq_true, if_false]
   ·simp only [dec_f a, Bool.false_eq_true, if_false, Option.bind_some, gleaningref24_OpBytes_k0]
 by_cases k3 : k = 3
 ·subst k3
  cases hr : rightR p with
  | false =>
   have hm : mayB ⟨3, n, sp, p⟩ = false := by simp [mayB, hr]
   exact ⟨by simp [hm, opB], by simp [gleaningref24_OpBytes, (rbytes_spec p).2, bytesR_f hr, opB, hm]⟩
  | true =>
   have hm : mayB ⟨3, n, sp, p⟩ = true := by simp [mayB, hr]
   obtain ⟨hp, hq⟩ := ruleB_len hr
   have ho : opB ⟨3, n, sp, p⟩ = 3 :: ruleB 5 p := by simp [opB, hm]
   have hd : ((0 : Int) < ((ruleB 5 p).length : Int)) := by omega
   rw [hm, ho]
   refine ⟨?_, ?_⟩
   ·simp only [show ((3 : Int) == 1) = false from rfl, show ((3 : Int) == 2) = false from rfl, (rbytes_spec p).1, bytesR_t hr, Option.bind_some, Bool.not_true, Bool.false_eq_true, if_false, beq_self_eq_true, if_true, wrap_byte3, List.singleton_append]
    exact gd_some' (fitb (by simp; omega)) rfl
   ·simp only [gleaningref24_OpBytes, show ((3 : Int) == 1) = false from rfl, show ((3 : Int) == 2) = false from rfl, (rbytes_spec p).2, bytesR_t hr, Option.bind_some, Bool.false_eq_true, if_false, beq_self_eq_true, if_true, dec_t hd, List.singleton_append]
    exact gd_some' (fitb (by simp; omega)) rfl
 have hm : mayB ⟨k, n, sp, p⟩ = decide (k = 4) := by simp [mayB, k1, k2, k3]
 by_cases k4 : k = 4
 ·subst k4
  exact ⟨by simp [hm, opB, wrap_byte4], by simp [gleaningref24_OpBytes, hm, opB]⟩
 ·rw [dec_f k4] at hm
  exact ⟨by simp [hm, opB], by simp [gleaningref24_OpBytes, hm, opB, k1, k2, k3, k4]⟩
def zeroO : OpG := ⟨0, 0, [], zeroR⟩
theorem same_op {k n : Int} {l : List Span} {p : Rule} (hl : l.length ≤ 1000000) (ha : ∀ s ∈ l, s.Attrs.length ≤ 1000000) (hp : gleaningref1_SameRule p p = some true) : gleaninglaw25_same ⟨k, n, l, p⟩ ⟨k, n, l, p⟩ = some true := by
 simp only [gleaninglaw25_same, beq_self_eq_true, if_true, sameSpans_spec l l hl ha, hp, Option.bind_some, decide_true]
theorem same_plain (k n : Int) : gleaninglaw25_same ⟨k, n, [], zeroR⟩ ⟨k, n, [], zeroR⟩ = some true := same_op (by simp) (by simp) same_zero
theorem read_nil : keeper_ReadOp [] = some (zeroO, 2) ∧ gleaningref24_ReadOp [] = some (zeroO, 2) := ⟨rfl, rfl⟩
theorem read1 (r : List UInt8) (hr : r.length ≤ 1000000) : keeper_ReadOp (1 :: r) = some (if (codeB r).2 != 0 then (zeroO, 2) else (⟨1, 0, (codeB r).1, zeroR⟩, 0)) ∧ gleaningref24_ReadOp (1 :: r) = some (if (codeB r).2 != 0 then (zeroO, 2) else (⟨1, 0, (codeB r).1, zeroR⟩, 0)) := by
 have h0 : (((1 :: r : List UInt8).length : Int) == 0) = false := by rw [beq_eq_false_iff_ne]; simp only [List.length_cons]; omega
 have h1 : (1 : Int) ≤ ((1 :: r : List UInt8).length : Int) := by simp only [List.length_cons]; omega
 have e1 : (IntKind.i64.wrap ((1 : UInt8).toNat : Int) == 1) = true := rfl
 have g0 : (1 :: r : List UInt8)[0]? = some 1 := rfl
 have d0 : List.drop 1 (1 :: r : List UInt8) = r := rfl
 have k0 : IntKind.i64.wrap ((1 : UInt8).toNat : Int) = 1 := rfl
 constructor
 ·rw [keeper_ReadOp, h0, ite_ff, g0, Option.bind_some, gd_pos h1, e1, ite_tt, d0, (bread_spec r hr).1, Option.bind_some, Option.bind_some]
  dsimp only
  rw [keeper_ReadOp_k0, k0]
  cases (codeB r).2 != 0 <;> rfl
 ·rw [gleaningref24_ReadOp, h0, ite_ff, g0, Option.bind_some, gd_pos h1, e1, ite_tt, d0, (bread_spec r hr).2, Option.bind_some, Option.bind_some]
  dsimp only
  rw [gleaningref24_ReadOp_k0, k0]
  cases (codeB r).2 != 0 <;> rfl
def numO : Option (Int × List UInt8) → OpG × Int
 | none => (zeroO, 2)
 | some (n, []) => (⟨2, n, [], zeroR⟩, 0)
 | some (n, _ :: _) => (zeroO, 2)
theorem read2 (r : List UInt8) (hr : r.length ≤ 1000000) : keeper_ReadOp (2 :: r) = some (numO (pNum 1099511627776 r)) ∧ gleaningref24_ReadOp (2 :: r) = some (numO (pNum 1099511627776 r)) := by
 have h0 : (((2 :: r : List UInt8).length : Int) == 0) = false := by rw [beq_eq_false_iff_ne]; simp only [List.length_cons]; omega
 have h1 : (1 : Int) ≤ ((2 :: r : List UInt8).length : Int) := by simp only [List.length_cons]; omega
 have k0 : IntKind.i64.wrap ((2 : UInt8).toNat : Int) = 2 := rfl
 have g0 : (2 :: r : List UInt8)[0]? = some 2 := rfl
 have d0 : List.drop 1 (2 :: r : List UInt8) = r := rfl
 constructor
 ·rw [keeper_ReadOp, h0, ite_ff, g0, Option.bind_some, gd_pos h1, k0, show ((2 : Int) == 1) = false from rfl, ite_ff, show ((2 : Int) == 3) = false from rfl, ite_ff, show ((2 : Int) == 2) = true from rfl, ite_tt, d0]
  cases hp : pNum 1099511627776 r with
  | none => rw [rnum_no (by decide) (by decide) (by omega) hp]; rfl
  | some q =>
   obtain ⟨n, q⟩ := q
   rw [rnum_ok (by decide) (by decide) (by omega) hp]
   cases q with
   | nil => rfl
   | cons c q =>
    have hd : (0 : Int) < ((c :: q : List UInt8).length : Int) := by simp only [List.length_cons]; omega
    simp only [Option.bind_some, Bool.false_eq_true, if_false, dec_t hd, if_true]; rfl
 ·rw [gleaningref24_ReadOp, h0, ite_ff, g0, Option.bind_some, k0, show ((2 : Int) == 1) = false from rfl, ite_ff, show ((2 : Int) == 2) = true from rfl, ite_tt, gd_pos h1, d0]
  cases hp : pNum 1099511627776 r with
  | none =>
   obtain ⟨q, _, hq⟩ := xint_no (by decide) (by decide) (by omega) hp
   rw [hq]; rfl
  | some q =>
   obtain ⟨n, q⟩ := q
   rw [xint_ok (by decide) (by decide) (by omega) hp]
   cases q with
   | nil => rfl
   | cons c q =>
    have hd : (0 : Int) < ((c :: q : List UInt8).length : Int) := by simp only [List.length_cons]; omega
    simp only [Option.bind_some, Bool.false_eq_true, if_false, dec_t hd, if_true]; rfl
theorem read3 (r : List UInt8) {x : Rule × Int} (h1' : rule_Read r = some x) (h2' : gleaningref1_ReadRule r = some x) : keeper_ReadOp (3 :: r) = some (if x.2 != 0 then (zeroO, 2) else (⟨3, 0, [], x.1⟩, 0)) ∧ gleaningref24_ReadOp (3 :: r) = some (if x.2 != 0 then (zeroO, 2) else (⟨3, 0, [], x.1⟩, 0)) := by
 obtain ⟨⟨q1, q2, q3, q4, q5⟩, e⟩ := x
 have h0 : (((3 :: r : List UInt8).length : Int) == 0) = false := by rw [beq_eq_false_iff_ne]; simp only [List.length_cons]; omega
 have h1 : (1 : Int) ≤ ((3 :: r : List UInt8).length : Int) := by simp only [List.length_cons]; omega
 have k0 : IntKind.i64.wrap ((3 : UInt8).toNat : Int) = 3 := rfl
 have g0 : (3 :: r : List UInt8)[0]? = some 3 := rfl
 have d0 : List.drop 1 (3 :: r : List UInt8) = r := rfl
 constructor
 ·rw [keeper_ReadOp, h0, ite_ff, g0, Option.bind_some, gd_pos h1, k0, show ((3 : Int) == 1) = false from rfl, ite_ff, show ((3 : Int) == 3) = true from rfl, ite_tt, d0, h1', Option.bind_some, Option.bind_some]
  dsimp only
  rw [keeper_ReadOp_k0, k0]
  cases e != 0 <;> rfl
 ·rw [gleaningref24_ReadOp, h0, ite_ff, g0, Option.bind_some, k0, show ((3 : Int) == 1) = false from rfl, ite_ff, show ((3 : Int) == 2) = false from rfl, ite_ff, show ((3 : Int) == 3) = true from rfl, ite_tt, gd_pos h1, d0, h2', Option.bind_some, Option.bind_some]
  dsimp only
  rw [gleaningref24_ReadOp_k0, k0]
  cases e != 0 <;> rfl
theorem read_rest (c : UInt8) (r : List UInt8) (hr : r.length ≤ 1000000) (n1 : c ≠ 1) (n2 : c ≠ 2) (n3 : c ≠ 3) : keeper_ReadOp (c :: r) = some (if c = 4 ∧ r = [] then (⟨4, 0, [], zeroR⟩, 0) else (zeroO, 2)) ∧ gleaningref24_ReadOp (c :: r) = some (if c = 4 ∧ r = [] then (⟨4, 0, [], zeroR⟩, 0) else (zeroO, 2)) := by
 have h0 : (((c :: r : List UInt8).length : Int) == 0) = false := by rw [beq_eq_false_iff_ne]; simp only [List.length_cons]; omega
 have h1 : (1 : Int) ≤ ((c :: r : List UInt8).length : Int) := by simp only [List.length_cons]; omega
 have k0 : IntKind.i64.wrap (c.toNat : Int) = (c.toNat : Int) := wrap8 c
 have g0 : (c :: r : List UInt8)[0]? = some c := rfl
 have d0 : List.drop 1 (c :: r : List UInt8) = r := rfl
 have nn : ∀ {m : Nat} {d : UInt8}, d.toNat = m → c ≠ d → ((c.toNat : Int) == (m : Int)) = false := fun {m d} hm h => by
  rw [beq_eq_false_iff_ne]; intro e; exact h (UInt8.toNat_inj.1 (by omega))
 have e1 := nn (m := 1) (d := 1) rfl n1
 have e2 := nn (m := 2) (d := 2) rfl n2
 have e3 := nn (m := 3) (d := 3) rfl n3
 rw [show ((1 : Nat) : Int) = 1 from rfl] at e1
 rw [show ((2 : Nat) : Int) = 2 from rfl] at e2
 rw [show ((3 : Nat) : Int) = 3 from rfl] at e3
 rw [keeper_ReadOp, gleaningref24_ReadOp, h0, ite_ff, ite_ff, g0, Option.bind_some, Option.bind_some, gd_pos h1, k0, e1, ite_ff, ite_ff, e3, ite_ff, ite_ff, e2, ite_ff, ite_ff, d0]
 by_cases n4 : c = 4
 ·subst n4
  rw [show (((4 : UInt8).toNat : Int) != 4) = false from rfl, show (((4 : UInt8).toNat : Int) == 4) = true from rfl, ite_ff, ite_tt]
  cases r with
  | nil => exact ⟨rfl, rfl⟩
  | cons d q =>
   have hd : (0 : Int) < ((d :: q : List UInt8).length : Int) := by simp only [List.length_cons]; omega
   have hd2 : (1 : Int) < ((4 :: d :: q : List UInt8).length : Int) := by simp only [List.length_cons]; omega
   rw [dec_t hd, dec_t hd2, ite_tt, if_neg (by simp)]
   exact ⟨rfl, rfl⟩
 ·have e4 := nn (m := 4) (d := 4) rfl n4
  rw [show ((4 : Nat) : Int) = 4 from rfl] at e4
  rw [show ((c.toNat : Int) != 4) = true from by rw [bne, e4]; rfl, e4, ite_tt, ite_ff, if_neg (fun h => n4 h.1)]
  exact ⟨rfl, rfl⟩
theorem read_any (b : List UInt8) (hb : b.length ≤ 1000000) : ∃ x, keeper_ReadOp b = some x ∧ gleaningref24_ReadOp b = some x ∧ gleaninglaw25_same x.1 x.1 = some true := by
 cases b with
 | nil => exact ⟨_, read_nil.1, read_nil.2, same_plain 0 0⟩
 | cons c r =>
  have hr : r.length ≤ 1000000 := by simp only [List.length_cons] at hb; omega
  by_cases n1 : c = 1
  ·subst n1
   refine ⟨_, (read1 r hr).1, (read1 r hr).2, ?_⟩
   obtain ⟨c1, c2⟩ := codeB_small r
   cases (codeB r).2 != 0 with
   | true => exact same_plain 0 0
   | false => exact same_op (by omega) c2 same_zero
  by_cases n2 : c = 2
  ·subst n2
   refine ⟨_, (read2 r hr).1, (read2 r hr).2, ?_⟩
   rcases pNum 1099511627776 r with _ | ⟨n, _ | ⟨d, q⟩⟩
   ·exact same_plain 0 0
   ·exact same_plain 2 n
   ·exact same_plain 0 0
  by_cases n3 : c = 3
  ·subst n3
   obtain ⟨q1, q2⟩ := read_rule r (by omega)
   have he := reads_one q1 q2
   rcases q1 with ⟨r', h1, h2, h3⟩ | ⟨h1, h2⟩
   ·exact ⟨_, (read3 r h3 (he ▸ h3)).1, (read3 r h3 (he ▸ h3)).2, same_op (by simp) (by simp) (same_right h1)⟩
   ·exact ⟨_, (read3 r h2 (he ▸ h2)).1, (read3 r h2 (he ▸ h2)).2, same_plain 0 0⟩
  refine ⟨_, (read_rest c r hr n1 n2 n3).1, (read_rest c r hr n1 n2 n3).2, ?_⟩
  split
  ·exact same_plain 4 0
  ·exact same_plain 0 0
theorem numO_put {n : Int} (h0 : 0 ≤ n) (h1 : n ≤ 1099511627776) : numO (pNum 1099511627776 (putN n.toNat)) = (⟨2, n, [], zeroR⟩, 0) := by
 have := pNum_put h0 h1 (by decide) []
 rw [List.append_nil] at this
 rw [this]; rfl
theorem back_op (o : OpG) (hw : ∀ s ∈ o.Spans, wfS s) (hm : mayB o = true) : ∃ u : OpG, keeper_ReadOp (opB o) = some (u, 0) ∧ keeper_Op u = some (opB o) ∧ u.Kind = o.Kind ∧ (o.Kind = 2 → u.N = o.N) := by
 obtain ⟨k, n, sp, p⟩ := o
 have hle := batchB_le hw
 dsimp only at hw hle
 have h0 : ∀ s ∈ ([] : List Span), wfS s := by simp
 by_cases k1 : k = 1
 ·subst k1
  have hr : rightL sp = true := by simpa [mayB] using hm
  have ho : opB ⟨1, n, sp, p⟩ = 1 :: batchB sp := by simp [opB, hm]
  refine ⟨⟨1, 0, sp, zeroR⟩, ?_, ?_, rfl, fun h => by cases h⟩
  ·rw [ho, (read1 _ (by omega)).1, codeB_put hr hw]; rfl
  ·rw [(op_spec ⟨1, 0, sp, zeroR⟩ hw).1, ho]; simp [opB, mayB, hr]
 by_cases k2 : k = 2
 ·subst k2
  have hn : 0 ≤ n ∧ n ≤ 1099511627776 := by simpa [mayB] using hm
  have ho : opB ⟨2, n, sp, p⟩ = 2 :: putN n.toNat := by simp [opB, hm]
  have hl := putN_len10 (n := n.toNat) (by omega)
  refine ⟨⟨2, n, [], zeroR⟩, ?_, ?_, rfl, fun _ => rfl⟩
  ·rw [ho, (read2 _ (by omega)).1, numO_put hn.1 hn.2]
  ·rw [(op_spec ⟨2, n, [], zeroR⟩ h0).1, ho]; simp [opB, mayB, hn]
 by_cases k3 : k = 3
 ·subst k3
  have hr : rightR p = true := by simpa [mayB] using hm
  have ho : opB ⟨3, n, sp, p⟩ = 3 :: ruleB 5 p := by simp [opB, hm]
  have hl := ruleB_len hr
  have hx : gleaningref1_ReadRule (ruleB 5 p) = some (p, 0) := by
   obtain ⟨q1, q2⟩ := read_rule (ruleB 5 p) (by omega)
   rw [← reads_one q1 q2]; exact read_put hr
  refine ⟨⟨3, 0, [], p⟩, ?_, ?_, rfl, fun h => by cases h⟩
  ·rw [ho, (read3 _ (read_put hr) hx).1]; rfl
  ·rw [(op_spec ⟨3, 0, [], p⟩ h0).1, ho]; simp [opB, mayB, hr]
 have hk : k = 4 := by simpa [mayB, k1, k2, k3] using hm
 subst hk
 have ho : opB ⟨4, n, sp, p⟩ = [4] := by simp [opB, hm]
 refine ⟨⟨4, 0, [], zeroR⟩, ?_, ?_, rfl, fun h => by cases h⟩
 ·rw [ho, (read_rest 4 [] (by simp) (by decide) (by decide) (by decide)).1]; rfl
 ·rw [(op_spec ⟨4, 0, [], zeroR⟩ h0).1, ho]; simp [opB, mayB]
theorem alive25 : gleaninglaw25_alive = some true := by
 have h0 : ∀ s ∈ (OpG.mk 2 7 [] (Rule.mk 0 0 (strOf []) (strOf []) [])).Spans, wfS s := by simp
 obtain ⟨u, h1, _, h3, h4⟩ := back_op (OpG.mk 2 7 [] (Rule.mk 0 0 (strOf []) (strOf []) [])) h0 (by simp [mayB])
 rw [gleaninglaw25_alive, read_nil.1, Option.bind_some, (op_spec _ h0).1, Option.bind_some, h1, Option.bind_some]
 simp only [gleaninglaw25_num, Option.bind_some, beq_self_eq_true, if_true]
 rw [h4 rfl]; rfl
theorem few22 (o : OpG) : ∃ f, gleaninglaw22_Few [o] = some f := by
 obtain ⟨f1, hf1, g1⟩ := fewAll_spec o.Spans
 obtain ⟨f2, hf2, _⟩ := few13_spec o.Policy
 have e0 : ([o] : List OpG)[(Int.toNat 0)]? = some o := rfl
 rw [gleaninglaw22_Few, fuP]
 cases f1 with
 | false =>
  refine ⟨false, loop_r ?_⟩
  simp only [gleaninglaw22_Few_l0, List.length_singleton, dec_t (show (0 : Int) < ((1 : Nat) : Int) by decide), dec_t (show (0 : Int) < 1000 by decide), if_true, Option.bind_some, Sum.elim_inl, gleaninglaw22_Few_k1, gd_pos (show (0 : Int) ≤ 0 by decide), e0, hf1, Bool.not_false, Sum.elim_inr]
 | true =>
 cases f2 with
 | false =>
  refine ⟨false, loop_r ?_⟩
  simp only [gleaninglaw22_Few_l0, List.length_singleton, dec_t (show (0 : Int) < ((1 : Nat) : Int) by decide), dec_t (show (0 : Int) < 1000 by decide), if_true, Option.bind_some, Sum.elim_inl, gleaninglaw22_Few_k1, gd_pos (show (0 : Int) ≤ 0 by decide), e0, hf1, hf2, Bool.not_true, Bool.not_false, Bool.false_eq_true, if_false, Sum.elim_inr]
 | true =>
  have hl := (g1 rfl).1
  have hw : IntKind.i64.wrap (IntKind.i64.wrap (0 + 1) + (o.Spans.length : Int)) = ((o.Spans.length + 1 : Nat) : Int) := by rw [w64 (n := 0 + 1) (by omega) (by omega), w64 (by omega) (by omega)]; push_cast; omega
  have hs : gleaninglaw22_Few_l0 [o] 0 0 = some (Sum.inl (((o.Spans.length + 1 : Nat) : Int), 1)) := by
   simp only [gleaninglaw22_Few_l0, List.length_singleton, dec_t (show (0 : Int) < ((1 : Nat) : Int) by decide), dec_t (show (0 : Int) < 1000 by decide), if_true, Option.bind_some, Sum.elim_inl, gleaninglaw22_Few_k1, gd_pos (show (0 : Int) ≤ 0 by decide), e0, hf1, hf2, Bool.not_true, Bool.false_eq_true, if_false, gleaninglaw22_Few_k2, hw]
   rfl
  rw [loop_l (body := fun (s : Int × Int) => gleaninglaw22_Few_l0 [o] s.1 s.2) hs]
  exact ⟨_, loop_r (n := 1208925819614629174706174) (by simp only [gleaninglaw22_Few_l0, List.length_singleton, dec_f (show ¬ (1 : Int) < ((1 : Nat) : Int) by decide), Bool.false_eq_true, if_false, Option.bind_some, Sum.elim_inr]; rfl)⟩
theorem keeperTells_true (o : OpG) (b : List UInt8) (hw : OpG.wf o) (_ : b.length ≤ maxLen) : gleaninglaw25_KeeperTells o b = some true := by
 obtain ⟨f, hf⟩ := few22 o
 simp only [gleaninglaw25_KeeperTells, alive25, Option.bind_some, Bool.not_true, Bool.false_eq_true, if_false, hf]
 cases f with
 | false => simp
 | true =>
 by_cases hb : (1000 : Int) < (b.length : Int)
 ·simp [hb]
 have hs : ∀ s ∈ o.Spans, wfS s := fun s h => wfS_of (hw.2.2.1.2 s h)
 obtain ⟨x, x1, x2, x3⟩ := read_any b (by omega)
 have key : ∃ u : OpG × Int, keeper_ReadOp (opB o) = some u ∧ gleaninglaw25_KeeperTells_k1 o (opB o) u = some true := by
  cases hm : mayB o with
  | false =>
   have h0 : opB o = [] := by simp [opB, hm]
   rw [h0]
   exact ⟨_, read_nil.1, rfl⟩
  | true =>
   obtain ⟨u, h1, h2, h3, _⟩ := back_op o hs hm
   refine ⟨_, h1, ?_⟩
   rw [gleaninglaw25_KeeperTells_k1]
   split
   ·rfl
   ·simp only [gleaninglaw25_num, Option.bind_some, beq_self_eq_true, if_true, h2, h3]
 obtain ⟨u, u1, u2⟩ := key
 simp only [hb, decide_false, Bool.not_true, Bool.false_eq_true, if_false, Option.bind_some, Sum.elim_inl, gleaninglaw25_KeeperTells_k0, (op_spec o hs).1, (op_spec o hs).2, gd_pos (fitb (show b.length ≤ 1000000000 by omega)), x1, x2, u1, beq_self_eq_true, x3, gleaninglaw25_num, bne_self_eq_false, u2]
end Go.Proofs.Ytdhpmlgalddgfaa.Ab
