/- Policies: the same, as the document has it. -/
import Derived.Test.YtjklegmimpehlaaGreatPRuleP
namespace Go.Proofs.YtjklegmimpehlaaGreat.Ab
open Go Go.RowKit
set_option linter.unusedVariables false
set_option linter.unusedSimpArgs false
def boundF : Nat → Rule → Prop
 | 0, _ => False
 | d + 1, r => r.Kids.length ≤ 1000 ∧ ∀ x ∈ r.Kids, boundF d x
def allZip (f : Rule → Rule → Bool) : List Rule → List Rule → Bool
 | [], [] => true
 | a :: l, b :: m => f a b && allZip f l m
 | _, _ => false
def sameF : Nat → Rule → Rule → Bool
 | 0, _, _ => false
 | d + 1, a, b => decide (a.Kind = b.Kind) && (decide (a.N = b.N) && (decide (a.Key = b.Key) && (decide (a.Value = b.Value) && allZip (sameF d) a.Kids b.Kids)))
theorem allZip_len {f : Rule → Rule → Bool} : ∀ {l m : List Rule}, allZip f l m = true → l.length = m.length
 | [], [], _ => rfl
 | a :: l, b :: m, h => by
  simp only [allZip, Bool.and_eq_true] at h
  simp [allZip_len h.2]
 | [], b :: m, h => by cases h
 | a :: l, [], h => by cases h
theorem allZip_self {f : Rule → Rule → Bool} : ∀ (l : List Rule), (∀ x ∈ l, f x x = true) → allZip f l l = true
 | [], _ => rfl
 | a :: l, h => by simp only [allZip, h a List.mem_cons_self, allZip_self l fun x hx => h x (List.mem_cons_of_mem _ hx), Bool.and_self]
theorem same_self : ∀ (d : Nat) (r : Rule), boundF d r → sameF d r r = true
 | 0, r, h => h.elim
 | d + 1, r, h => by simp only [sameF, decide_true, Bool.true_and, allZip_self r.Kids fun x hx => same_self d x (h.2 x hx)]
theorem loop_zip {body : Int → Option (Int ⊕ Bool)} (f : Rule → Rule → Bool) (a b : List Rule) (hl : a.length = b.length) (ha : a.length ≤ 1000)
  (h : ∀ (k : Nat) (h1 : k < a.length) (h2 : k < b.length), body (k : Int) = if f a[k] b[k] = true then some (.inl ((k + 1 : Nat) : Int)) else some (.inr false)) (hend : body (a.length : Int) = some (.inr true)) : loopN body Fu 0 = some (allZip f a b) := by
 have key : ∀ (m k N : Nat), k + m = a.length → m < N → loopN body N (k : Int) = some (allZip f (a.drop k) (b.drop k)) := by
  intro m
  induction m with
  | zero =>
   intro k N hk hN
   obtain ⟨N', rfl, _⟩ := fuel_pos hN
   have e : k = a.length := by omega
   subst e
   rw [loop_r hend, List.drop_length, hl, List.drop_length]; rfl
  | succ m ih =>
   intro k N hk hN
   obtain ⟨N', rfl, hN'⟩ := fuel_pos hN
   have h1 : k < a.length := by omega
   have h2 : k < b.length := by omega
   have hb := h k h1 h2
   rw [List.drop_eq_getElem_cons h1, List.drop_eq_getElem_cons h2, allZip]
   cases e : f a[k] b[k] with
   | false =>
    rw [e, if_neg (by decide)] at hb
    rw [loop_r hb]; rfl
   | true =>
    rw [e, if_pos rfl] at hb
    rw [loop_l hb, Bool.true_and]
    exact ih (k + 1) N' (by omega) (by omega)
 have := key a.length 0 Fu (by omega) (by rw [fuP]; omega)
 simpa using this
theorem same_rule : ∀ (d : Nat) (a b : Rule) (N : Nat), boundF d a → d ≤ N → gleaningref1_SameRuleN N a b = some (sameF d a b) := by
 intro d
 induction d with
 | zero => intro a b N h; exact h.elim
 | succ d ih =>
  intro a b N h hN
  obtain ⟨N', rfl, hN'⟩ := fuel_pos (by omega : d < N)
  obtain ⟨h1, h2⟩ := h
  rw [gleaningref1_SameRuleN, gleaningref1_SameRule_b, sameF]
  simp only [str_beq]
  by_cases e1 : a.Kind = b.Kind
  case neg => simp [e1]
  by_cases e2 : a.N = b.N
  case neg => simp [e1, e2]
  by_cases e3 : a.Key = b.Key
  case neg => simp [e1, e2, e3]
  by_cases e4 : a.Value = b.Value
  case neg => simp [e1, e2, e3, e4]
  simp only [e1, e2, e3, e4, beq_self_eq_true, decide_true, if_true, bne_self_eq_false, Bool.not_true, Bool.false_eq_true, if_false, Bool.true_and]
  by_cases e5 : a.Kids.length = b.Kids.length
  case neg =>
   have h0 : ((a.Kids.length : Int) != (b.Kids.length : Int)) = true := by simp only [bne_iff_ne, ne_eq]; omega
   have hz : allZip (sameF d) a.Kids b.Kids = false := by
    cases hq : allZip (sameF d) a.Kids b.Kids with
    | false => rfl
    | true => exact absurd (allZip_len hq) e5
   rw [h0, hz]
   rfl
  have h0 : ((a.Kids.length : Int) != (b.Kids.length : Int)) = false := by simp [e5]
  rw [h0, ite_ff]
  rw [Option.bind_some, Sum.elim_inl, gleaningref1_SameRule_b_k0]
  refine loop_zip (sameF d) a.Kids b.Kids e5 h1 (fun k k1 k2 => ?_) ?_
  ·simp only [gleaningref1_SameRule_b_l1, dec_t (by omega : (k : Int) < (a.Kids.length : Int)), if_true, gd_pos (by omega : (0 : Int) ≤ (k : Int)), Int.toNat_natCast, List.getElem?_eq_getElem k1, List.getElem?_eq_getElem k2, Option.bind_some, (ih a.Kids[k] b.Kids[k] N' (h2 _ (List.getElem_mem k1)) hN'), ksu (by omega : k < 1099511627776)]
   cases sameF d a.Kids[k] b.Kids[k] <;> rfl
  ·simp only [gleaningref1_SameRule_b_l1, dec_f (by omega : ¬ (a.Kids.length : Int) < (a.Kids.length : Int)), Bool.false_eq_true, if_false]
theorem bound_ok : ∀ (d : Nat) (r : Rule), okF d r = true → numF d r ≤ 1000 → boundF d r
 | 0, r, h, _ => by cases h
 | d + 1, r, h, hn => by
  simp only [okF, Bool.and_eq_true, List.all_eq_true] at h
  simp only [numF] at hn
  have hpos : ∀ x ∈ r.Kids, 1 ≤ numF d x := fun x hx => by
   cases d with
   | zero => exact absurd (h.2 x hx) (by simp [okF])
   | succ d => exact num_pos d x
  have := sumL_len (numF d) _ hpos
  exact ⟨by omega, fun x hx => bound_ok d x (h.2 x hx) (by have := sumL_mem (numF d) r.Kids x hx; omega)⟩
end Go.Proofs.YtjklegmimpehlaaGreat.Ab
