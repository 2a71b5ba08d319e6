/- Chapter 13: which policies may be, how any is written, which any bytes are, and which two are one. -/
import Derived.Test.YtbfmmaabaenhgaaXRTells
import Derived.Test.YtbfmmaabaenhgaaPRuleA
namespace Go.Proofs.Ytbfmmaabaenhgaa.Ab
open Go Go.RowKit
set_option linter.unusedVariables false
set_option linter.unusedSimpArgs false
/-- not too wide, not too deep -/
def boundF : Nat → Rule → Prop
  | 0, _ => False
  | d + 1, r => r.Kids.length ≤ 1000 ∧ ∀ x ∈ r.Kids, boundF d x
def allZip (f : Rule → Rule → Bool) : List Rule → List Rule → Bool
  | [], [] => true
  | a :: l, b :: m => f a b && allZip f l m
  | _, _ => false
def sameF : Nat → Rule → Rule → Bool
  | 0, _, _ => false
  | d + 1, a, b => decide (a.Kind = b.Kind) && (decide (a.N = b.N) && (decide (a.Key = b.Key) && (decide (a.Value = b.Value) && allZip (sameF d) a.Kids b.Kids)))
theorem allZip_len {f : Rule → Rule → Bool} : ∀ {l m : List Rule}, allZip f l m = true → l.length = m.length
  | [], [], _ => rfl
  | a :: l, b :: m, h => by
    simp only [allZip, Bool.and_eq_true] at h
    simp [allZip_len h.2]
  | [], b :: m, h => by cases h
  | a :: l, [], h => by cases h
theorem allZip_self {f : Rule → Rule → Bool} : ∀ (l : List Rule), (∀ x ∈ l, f x x = true) → allZip f l l = true
  | [], _ => rfl
  | a :: l, h => by simp only [allZip, h a List.mem_cons_self, allZip_self l fun x hx => h x (List.mem_cons_of_mem _ hx), Bool.and_self]
theorem same_self : ∀ (d : Nat) (r : Rule), boundF d r → sameF d r r = true
  | 0, r, h => h.elim
  | d + 1, r, h => by simp only [sameF, decide_true, Bool.true_and, allZip_self r.Kids fun x hx => same_self d x (h.2 x hx)]
/-- a loop that asks of each pair -/
theorem loop_zip {body : Int → Option (Int ⊕ Bool)} (f : Rule → Rule → Bool) (a b : List Rule) (hl : a.length = b.length) (ha : a.length ≤ 1000)
    (h : ∀ (k : Nat) (h1 : k < a.length) (h2 : k < b.length), body (k : Int) = if f a[k] b[k] = true then some (.inl ((k + 1 : Nat) : Int)) else some (.inr false)) (hend : body (a.length : Int) = some (.inr true)) : loopN body Fu 0 = some (allZip f a b) := by
  have key : ∀ (m k N : Nat), k + m = a.length → m < N → loopN body N (k : Int) = some (allZip f (a.drop k) (b.drop k)) := by
    intro m
    induction m with
    | zero =>
      intro k N hk hN
      obtain ⟨N', rfl, _⟩ := fuel_pos hN
      have e : k = a.length := by omega
      subst e
      rw [loop_r hend, List.drop_length, hl, List.drop_length]; rfl
    | succ m ih =>
      intro k N hk hN
      obtain ⟨N', rfl, hN'⟩ := fuel_pos hN
      have h1 : k < a.length := by omega
      have h2 : k < b.length := by omega
      have hb := h k h1 h2
      rw [List.drop_eq_getElem_cons h1, List.drop_eq_getElem_cons h2, allZip]
      cases e : f a[k] b[k] with
      | false =>
        rw [e, if_neg (by decide)] at hb
        rw [loop_r hb]; rfl
      | true =>
        rw [e, if_pos rfl] at hb
        rw [loop_l hb, Bool.true_and]
        exact ih (k + 1) N' (by omega) (by omega)
  have := key a.length 0 Fu (by omega) (by rw [fuP]; omega)
  simpa using this
theorem same_rule : ∀ (d : Nat) (a b : Rule) (N : Nat), boundF d a → d ≤ N → rule_SameN N a b = some (sameF d a b) ∧ gleaningref1_SameRuleN N a b = some (sameF d a b) := by
  intro d
  induction d with
  | zero => intro a b N h; exact h.elim
  | succ d ih =>
    intro a b N h hN
    obtain ⟨N', rfl, hN'⟩ := fuel_pos (by omega : d < N)
    obtain ⟨h1, h2⟩ := h
    have hf : ∀ {p : Prop} [Decidable p] {x : Bool}, ¬ p → (decide p && x) = false := fun hp => by rw [dec_f hp, Bool.false_and]
    rw [rule_SameN, rule_Same_b, gleaningref1_SameRuleN, gleaningref1_SameRule_b, sameF]
    simp only [str_beq]
    by_cases e1 : a.Kind = b.Kind
    case neg => exact ⟨by simp [e1], by simp [e1]⟩
    by_cases e2 : a.N = b.N
    case neg => exact ⟨by simp [e1, e2], by simp [e1, e2]⟩
    by_cases e3 : a.Key = b.Key
    case neg => exact ⟨by simp [e1, e2, e3], by simp [e1, e2, e3]⟩
    by_cases e4 : a.Value = b.Value
    case neg => exact ⟨by simp [e1, e2, e3, e4], by simp [e1, e2, e3, e4]⟩
    simp only [e1, e2, e3, e4, beq_self_eq_true, decide_true, if_true, bne_self_eq_false, Bool.not_true, Bool.false_eq_true, if_false, Bool.true_and]
    by_cases e5 : a.Kids.length = b.Kids.length
    case neg =>
      have h0 : ((a.Kids.length : Int) != (b.Kids.length : Int)) = true := by simp only [bne_iff_ne, ne_eq]; omega
      have hz : allZip (sameF d) a.Kids b.Kids = false := by
        cases hq : allZip (sameF d) a.Kids b.Kids with
        | false => rfl
        | true => exact absurd (allZip_len hq) e5
      rw [slices_EqualFunc_Rule_rule_Same, h0, hz]
      exact ⟨rfl, rfl⟩
    have h0 : ((a.Kids.length : Int) != (b.Kids.length : Int)) = false := by simp [e5]
    rw [slices_EqualFunc_Rule_rule_Same, h0, ite_ff, ite_ff]
    constructor
    · have hz := loop_zip (body := fun (s : Int) => slices_EqualFunc_Rule_rule_Same_l0 (rule_SameN N') a.Kids b.Kids s) (sameF d) a.Kids b.Kids e5 h1 (fun k k1 k2 => by
        simp only [slices_EqualFunc_Rule_rule_Same_l0, dec_t (by omega : (k : Int) < (a.Kids.length : Int)), if_true, gd_pos (by omega : (0 : Int) ≤ (k : Int)), Int.toNat_natCast, List.getElem?_eq_getElem k1, List.getElem?_eq_getElem k2, Option.bind_some, (ih a.Kids[k] b.Kids[k] N' (h2 _ (List.getElem_mem k1)) hN').1, ksu (by omega : k < 1099511627776)]
        cases sameF d a.Kids[k] b.Kids[k] <;> rfl) (by simp only [slices_EqualFunc_Rule_rule_Same_l0, dec_f (by omega : ¬ (a.Kids.length : Int) < (a.Kids.length : Int)), Bool.false_eq_true, if_false])
      rw [hz]
      rfl
    · rw [Option.bind_some, Sum.elim_inl, gleaningref1_SameRule_b_k0]
      refine loop_zip (sameF d) a.Kids b.Kids e5 h1 (fun k k1 k2 => ?_) ?_
      · simp only [gleaningref1_SameRule_b_l1, dec_t (by omega : (k : Int) < (a.Kids.length : Int)), if_true, gd_pos (by omega : (0 : Int) ≤ (k : Int)), Int.toNat_natCast, List.getElem?_eq_getElem k1, List.getElem?_eq_getElem k2, Option.bind_some, (ih a.Kids[k] b.Kids[k] N' (h2 _ (List.getElem_mem k1)) hN').2, ksu (by omega : k < 1099511627776)]
        cases sameF d a.Kids[k] b.Kids[k] <;> rfl
      · simp only [gleaningref1_SameRule_b_l1, dec_f (by omega : ¬ (a.Kids.length : Int) < (a.Kids.length : Int)), Bool.false_eq_true, if_false]
theorem bound_small : ∀ (d : Nat) (r : Rule), smallN d r → boundF d r
  | 0, r, h => h
  | d + 1, r, h => ⟨by have := h.2.2.1; omega, fun x hx => bound_small d x (h.2.2.2 x hx)⟩
theorem bound_ok : ∀ (d : Nat) (r : Rule), okF d r = true → numF d r ≤ 1000 → boundF d r
  | 0, r, h, _ => by cases h
  | d + 1, r, h, hn => by
    simp only [okF, Bool.and_eq_true, List.all_eq_true] at h
    simp only [numF] at hn
    have hpos : ∀ x ∈ r.Kids, 1 ≤ numF d x := fun x hx => by
      cases d with
      | zero => exact absurd (h.2 x hx) (by simp [okF])
      | succ d => exact num_pos d x
    have := sumL_len (numF d) _ hpos
    exact ⟨by omega, fun x hx => bound_ok d x (h.2 x hx) (by have := sumL_mem (numF d) r.Kids x hx; omega)⟩
theorem same_right {r : Rule} (h : rightR r = true) : gleaningref1_SameRule r r = some true := by
  obtain ⟨h1, h2⟩ := rightR_of h
  have hb := bound_ok 5 r h1 (by omega)
  rw [gleaningref1_SameRule, (same_rule 5 r r Fu hb (by rw [fuP]; omega)).2, same_self 5 r hb]
theorem same_zero : gleaningref1_SameRule zeroR zeroR = some true := by
  have hb : boundF 1 zeroR := ⟨by simp [zeroR], by simp [zeroR]⟩
  rw [gleaningref1_SameRule, (same_rule 1 zeroR zeroR Fu hb (by rw [fuP]; omega)).2, same_self 1 zeroR hb]
theorem ruleTells_true (r s : Rule) (b : List UInt8) (_ : Rule.wf r) (_ : Rule.wf s) (_ : b.length ≤ maxLen) : gleaninglaw13_RuleTells r s b = some true := by
  obtain ⟨f1, hf1, g1⟩ := few13_spec r
  obtain ⟨f2, hf2, g2⟩ := few13_spec s
  simp only [gleaninglaw13_RuleTells, alive13, Option.bind_some, Bool.not_true, Bool.false_eq_true, if_false, hf1, hf2]
  cases f1 with
  | false => simp
  | true =>
  cases f2 with
  | false => simp
  | true =>
  by_cases hb : (500 : Int) < (b.length : Int)
  · simp [hb]
  have hbd := bound_small 31 r (g1 rfl)
  have s1 := same_rule 31 r s Fu hbd (by rw [fuP]; omega)
  have s2 := same_rule 31 r r Fu hbd (by rw [fuP]; omega)
  rw [same_self 31 r hbd] at s2
  have hrd : ∃ x : Rule × Int, rule_Read b = some x ∧ gleaningref1_ReadRule b = some x ∧ gleaningref1_SameRule x.1 x.1 = some true := by
    obtain ⟨q1, q2⟩ := read_rule b (by omega)
    have he := reads_one q1 q2
    rcases q1 with ⟨r', h1, h2, h3⟩ | ⟨h1, h2⟩
    · exact ⟨(r', 0), h3, he ▸ h3, same_right h1⟩
    · exact ⟨(zeroR, 2), h2, he ▸ h2, same_zero⟩
  obtain ⟨x, hx1, hx2, hx3⟩ := hrd
  have hback : ∃ y : Rule × Int, rule_Read (bytesR r) = some y ∧ (((bytesR r).length : Int) == 0) = !rightR r ∧ (rightR r = true → y = (r, 0)) := by
    cases h : rightR r with
    | false => rw [bytesR_f h]; exact ⟨_, read_empty, rfl, fun h => by cases h⟩
    | true =>
      have hl := (ruleB_len h).1
      rw [bytesR_t h]
      exact ⟨_, read_put h, by rw [show (((ruleB 5 r).length : Int) == 0) = false from by rw [beq_eq_false_iff_ne]; omega]; rfl, fun _ => rfl⟩
  obtain ⟨y, hy1, hy2, hy3⟩ := hback
  simp only [hb, decide_false, Bool.not_true, Bool.false_eq_true, if_false, Option.bind_some, Sum.elim_inl, gleaninglaw13_RuleTells_k0, (rbytes_spec r).1, (rbytes_spec r).2, gd_pos (by omega : b.length * 1 ≤ 140737488355328 ∧ b.length ≤ 140737488355328), hx1, hx2, hy1, right_spec', xright_spec', beq_self_eq_true, if_true, hx3, gleaninglaw13_num, rule_Same, gleaningref1_SameRule, s1.1, s1.2, s2.1, hy2]
  rw [gleaningref1_SameRule] at hx3
  rw [hx3]
  simp only [Option.bind_some, if_true]
  cases h : rightR r with
  | false => rfl
  | true =>
    rw [hy3 h]
    simp only [Bool.not_true, Bool.false_eq_true, if_false, beq_self_eq_true, if_true]
    rw [s2.2]; rfl
end Go.Proofs.Ytbfmmaabaenhgaa.Ab
