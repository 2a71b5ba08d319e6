/- Chapter 20: with more room, and more time, none goes that would not with less. -/
import Derived.Test.YtejimiedoibkcaaXRMore
import Derived.Test.YtejimiedoibkcaaPRet
import Derived.Test.YtejimiedoibkcaaPUptoR
namespace Go.Proofs.Ytejimiedoibkcaa.Ab
open Go Go.RowKit
set_option linter.unusedVariables false
set_option linter.unusedSimpArgs false
def goS (m : Int) : List Block → List Block
  | [] => []
  | b :: r => if 1 < (b :: r).length ∧ m < totB (b :: r) then b :: goS m r else []
def choS (now keep m : Int) : List Block → List Block
  | [] => []
  | b :: r => if oldB now keep b = true then b :: choS now keep m r else goS m (b :: r)
def riseB (l : List Block) : Prop := l.Pairwise fun a b => a.Born ≤ b.Born
theorem minF_0 {l : List Block} (h : riseB l) (h0 : 0 < l.length) : ∀ i, i ≤ l.length → minF l i = 0
  | 0, _ => rfl
  | i + 1, hi => by
    have e := minF_0 h h0 i (by omega)
    rw [minF_suc (by omega) (by rw [e]; exact h0)]
    simp only [e]
    rw [if_neg]
    by_cases z : i = 0
    · subst z; omega
    · have := List.pairwise_iff_getElem.1 h 0 i h0 (by omega) (by omega)
      omega
theorem goL_S (m : Int) : ∀ (l : List Block), riseB l → goL m l.length l = goS m l
  | [], _ => rfl
  | b :: r, h => by
    by_cases c : 1 < (b :: r).length ∧ m < totB (b :: r)
    · have e := minF_0 h (by simp) (b :: r).length (Nat.le_refl _)
      rw [goL_go c, goS, if_pos c]
      simp only [e]
      have : cutAt (b :: r) 0 = r := by simp [cutAt]
      rw [this, goL_S m r (List.pairwise_cons.1 h).2]
      rfl
    · rw [goL_no c, goS, if_neg c]
theorem cho_S (now keep m : Int) : ∀ (l : List Block), riseB l → (∀ b ∈ l, oldB now keep b = decide (keep < now - b.Born)) → l.filter (oldB now keep) ++ goL m (l.filter (newB now keep)).length (l.filter (newB now keep)) = choS now keep m l
  | [], _, _ => rfl
  | b :: r, h, ho => by
    cases c : oldB now keep b with
    | true =>
      have ih := cho_S now keep m r (List.pairwise_cons.1 h).2 fun x hx => ho x (List.mem_cons_of_mem _ hx)
      rw [choS, if_pos c, ← ih]
      simp [c, newB]
    | false =>
      have hb := ho b List.mem_cons_self
      rw [c] at hb
      have hall : ∀ x ∈ b :: r, oldB now keep x = false := fun x hx => by
        rw [ho x hx]
        rcases List.mem_cons.1 hx with rfl | hx
        · exact hb.symm
        · have h1 := (List.pairwise_cons.1 h).1 x hx
          have h2 : ¬ keep < now - b.Born := of_decide_eq_false hb.symm
          exact dec_f (by omega)
      have n1 : (b :: r).filter (oldB now keep) = [] := List.filter_eq_nil_iff.2 fun x hx => by rw [hall x hx]; decide
      have n2 : (b :: r).filter (newB now keep) = b :: r := List.filter_eq_self.2 fun x hx => by rw [newB, hall x hx]; rfl
      rw [n1, n2, goL_S m _ h, choS, if_neg (by rw [c]; decide), List.nil_append]
theorem goS_less {m m' : Int} (hm : m ≤ m') : ∀ (l : List Block), goS m' l <+: goS m l
  | [] => List.nil_prefix
  | b :: r => by
    by_cases c : 1 < (b :: r).length ∧ m' < totB (b :: r)
    · rw [goS, goS, if_pos c, if_pos ⟨c.1, by omega⟩]
      exact (List.prefix_cons_inj b).2 (goS_less hm r)
    · rw [goS, if_neg c]; exact List.nil_prefix
theorem goS_cho {now keep m m' : Int} (hm : m ≤ m') : ∀ (l : List Block), goS m' l <+: choS now keep m l
  | [] => List.nil_prefix
  | b :: r => by
    rw [choS]
    split
    · by_cases c : 1 < (b :: r).length ∧ m' < totB (b :: r)
      · rw [goS, if_pos c]
        exact (List.prefix_cons_inj b).2 (goS_cho hm r)
      · rw [goS, if_neg c]; exact List.nil_prefix
    · exact goS_less hm _
theorem cho_less {now keep keep' m m' : Int} (hm : m ≤ m') : ∀ (l : List Block), (∀ b ∈ l, oldB now keep' b = true → oldB now keep b = true) → choS now keep' m' l <+: choS now keep m l
  | [], _ => List.nil_prefix
  | b :: r, h => by
    cases c : oldB now keep b with
    | true =>
      cases c2 : oldB now keep' b with
      | true =>
        rw [choS, choS, if_pos c, if_pos c2]
        exact (List.prefix_cons_inj b).2 (cho_less hm r fun x hx => h x (List.mem_cons_of_mem _ hx))
      | false =>
        rw [choS, if_neg (by rw [c2]; decide)]
        exact goS_cho hm _
    | false =>
      have c2 : oldB now keep' b = false := by
        cases c2 : oldB now keep' b with
        | false => rfl
        | true => rw [h b List.mem_cons_self c2] at c; cases c
      rw [choS, choS, if_neg (by rw [c2]; decide), if_neg (by rw [c]; decide)]
      exact goS_less hm _
/-- what spoils the law's premise -/
def spoilS (l : List Block) (i : Nat) : Bool := match l[i]? with
  | none => false
  | some b => decide (b.Born < 0) || (decide ((1099511627776 : Int) < b.Born) || ((decide (0 < i) && match l[i - 1]? with | some c => decide (b.Born < c.Born) | none => false) || (l.take i).any (fun c => decide (c.Number = b.Number))))
theorem inner_more (l : List Block) (hl : l.length ≤ 1000) (k : Nat) (hk : k < l.length) : gleaninglaw20_RetireMore_k3 l (k : Int) = some (if (l.take k).any (fun c => decide (c.Number = l[k].Number)) = true then .inr (.inr true) else .inl ((k + 1 : Nat) : Int)) := by
  rw [gleaninglaw20_RetireMore_k3]
  have := loop_write (body := fun (q : Int) => gleaninglaw20_RetireMore_l4 l (k : Int) q) (l := l.take k) (fun c => decide (c.Number = l[k].Number)) (fun j => (j : Int)) (.inl ((k + 1 : Nat) : Int)) (.inr (.inr true)) (by simp; omega) (fun j hj hb hj2 => by
      have hjk : j < k := by simp at hj; omega
      have hjl : j < l.length := by omega
      rw [List.getElem_take] at hj2
      simp only [gleaninglaw20_RetireMore_l4, dec_t (by omega : (j : Int) < (k : Int)), if_true, gd_pos (by omega : (0 : Int) ≤ (j : Int)), gd_pos (by omega : (0 : Int) ≤ (k : Int)), Int.toNat_natCast, List.getElem?_eq_getElem hjl, List.getElem?_eq_getElem hk, Option.bind_some, show (l[j].Number == l[k].Number) = false from by simpa using hj2, Bool.false_eq_true, if_false, ksuc (by omega : j < 1099511627776)]) (fun j hj hb hj2 => by
      have hjk : j < k := by simp at hj; omega
      have hjl : j < l.length := by omega
      rw [List.getElem_take] at hj2
      simp only [gleaninglaw20_RetireMore_l4, dec_t (by omega : (j : Int) < (k : Int)), if_true, gd_pos (by omega : (0 : Int) ≤ (j : Int)), gd_pos (by omega : (0 : Int) ≤ (k : Int)), Int.toNat_natCast, List.getElem?_eq_getElem hjl, List.getElem?_eq_getElem hk, Option.bind_some, show (l[j].Number == l[k].Number) = true from by simpa using hj2]) (fun hb => by
      have : (l.take k).length = k := by simp; omega
      simp only [this, gleaninglaw20_RetireMore_l4, dec_f (by omega : ¬ (k : Int) < (k : Int)), Bool.false_eq_true, if_false, ksuc (by omega : k < 1099511627776)])
  exact this
theorem more_step (l : List Block) (hl : l.length ≤ 1000) (k : Nat) (hk : k < l.length) : gleaninglaw20_RetireMore_l2 l (k : Int) = if spoilS l k = true then some (.inr (.inr true)) else some (.inl ((k + 1 : Nat) : Int)) := by
  have hin := inner_more l hl k hk
  simp only [gleaninglaw20_RetireMore_l2, dec_t (by omega : (k : Int) < (l.length : Int)), if_true, gd_pos (by omega : (0 : Int) ≤ (k : Int)), Int.toNat_natCast, List.getElem?_eq_getElem hk, Option.bind_some, spoilS]
  by_cases c1 : l[k].Born < 0
  · simp [c1]
  by_cases c2 : 1099511627776 < l[k].Born
  · simp [c1, c2]
  simp only [dec_f c1, dec_f c2, Bool.false_eq_true, if_false, Bool.false_or]
  by_cases z : k = 0
  · subst z
    simp only [Int.ofNat_zero, Int.lt_irrefl, decide_false, Bool.false_eq_true, if_false, Option.bind_some, Sum.elim_inl, Bool.false_and, Bool.false_or]
    rw [show ((0 : Int)) = (((0 : Nat)) : Int) from rfl, hin]
    simp
  · have hw : IntKind.i64.wrap ((k : Int) - 1) = ((k - 1 : Nat) : Int) := by rw [w64 (by omega) (by omega)]; omega
    simp only [dec_t (by omega : (0 : Int) < (k : Int)), dec_t (by omega : 0 < k), if_true, hw, gd_pos (by omega : (0 : Int) ≤ ((k - 1 : Nat) : Int)), Int.toNat_natCast, List.getElem?_eq_getElem (by omega : k - 1 < l.length), Option.bind_some, Bool.true_and]
    by_cases c3 : l[k].Born < l[k - 1].Born
    · simp [c3]
    · simp only [dec_f c3, Bool.false_eq_true, if_false, Option.bind_some, Sum.elim_inl, hin, Bool.false_or]
      split <;> rfl
theorem retireMore_true (l : List Block) (now keep budget longer more : Int) (hw : l.length ≤ maxLen ∧ ∀ y ∈ l, Block.wf y) (hn : inI .i64 now) (_ : inI .i64 keep) (_ : inI .i64 budget) (_ : inI .i64 longer) (_ : inI .i64 more) (hb : (l.flatMap (·.Episodes)).length ≤ 1048576) : gleaninglaw20_RetireMore l now keep budget longer more = some true := by
  obtain ⟨f1, hf1, g1⟩ := few19_spec l hb
  simp only [gleaninglaw20_RetireMore, alive20, Option.bind_some, Bool.not_true, Bool.false_eq_true, if_false, hf1]
  cases f1 with
  | false => rfl
  | true =>
  have hf := g1 rfl
  have h1 := hf.len
  have ok := okB_of hw.2 hf
  by_cases a1 : now < 0
  · simp [a1]
  by_cases a2 : 1099511627776 < now
  · simp [a1, a2]
  by_cases a3 : keep < 0
  · simp [a1, a2, a3]
  by_cases a4 : 1073741824 < keep
  · simp [a1, a2, a3, a4]
  by_cases a5 : budget < 0
  · simp [a1, a2, a3, a4, a5]
  by_cases a6 : 1073741824 < budget
  · simp [a1, a2, a3, a4, a5, a6]
  by_cases a7 : longer < 0
  · simp [a1, a2, a3, a4, a5, a6, a7]
  by_cases a8 : 1073741824 < longer
  · simp [a1, a2, a3, a4, a5, a6, a7, a8]
  by_cases a9 : more < 0
  · simp [a1, a2, a3, a4, a5, a6, a7, a8, a9]
  by_cases a0 : 1073741824 < more
  · simp [a1, a2, a3, a4, a5, a6, a7, a8, a9, a0]
  simp only [Bool.not_true, Bool.false_eq_true, if_false, dec_f a1, dec_f a2, dec_f a3, dec_f a4, dec_f a5, dec_f a6, dec_f a7, dec_f a8, dec_f a9, dec_f a0, Option.bind_some, Sum.elim_inl]
  rw [gleaninglaw20_RetireMore_k0]
  have hloop := loop_write (body := fun (s : Int) => gleaninglaw20_RetireMore_l2 l s) (l := List.range l.length) (spoilS l) (fun k => (k : Int)) (.inl ()) (.inr true) (by simp; omega) (fun k hk hb hk2 => by
      rw [List.getElem_range] at hk2
      rw [more_step l (by omega) k (by simpa using hk), hk2]; rfl) (fun k hk hb hk2 => by
      rw [List.getElem_range] at hk2
      rw [more_step l (by omega) k (by simpa using hk), hk2]; rfl) (fun hb => by
      simp only [List.length_range, gleaninglaw20_RetireMore_l2, dec_f (by omega : ¬ (l.length : Int) < (l.length : Int)), Bool.false_eq_true, if_false])
  refine (congrArg (fun o => Option.bind o _) hloop).trans ?_
  cases c : (List.range l.length).any (spoilS l) with
  | true => rfl
  | false =>
  have hgood : ∀ (i : Nat) (hi : i < l.length), 0 ≤ l[i].Born ∧ l[i].Born ≤ 1099511627776 ∧ ∀ (h0 : 0 < i), l[i - 1].Born ≤ l[i].Born := fun i hi => by
    have := List.any_eq_false.1 c i (List.mem_range.2 hi)
    simp only [spoilS, List.getElem?_eq_getElem hi, Bool.or_eq_true, decide_eq_true_eq, not_or] at this
    refine ⟨by omega, by omega, fun h0 => ?_⟩
    have h2 := this.2.2.1
    rw [dec_t h0, Bool.true_and, List.getElem?_eq_getElem (by omega : i - 1 < l.length)] at h2
    simpa using h2
  have hrise : riseB l := List.pairwise_iff_getElem.2 fun i j hi hj hij => by
    have key : ∀ d (h : i + d < l.length), l[i].Born ≤ l[i + d].Born := by
      intro d
      induction d with
      | zero => intro _; exact Int.le_refl _
      | succ d ih =>
        intro h
        have h3 := ih (by omega)
        have h4 := (hgood (i + (d + 1)) h).2.2 (by omega)
        have e : i + (d + 1) - 1 = i + d := by omega
        simp only [e] at h4
        omega
    have := key (j - i) (by omega)
    have e : i + (j - i) = j := by omega
    simp only [e] at this
    exact this
  have hold : ∀ b ∈ l, ∀ k : Int, oldB now k b = decide (k < now - b.Born) := fun b hb k => by
    obtain ⟨i, hi, rfl⟩ := List.getElem_of_mem hb
    have := hgood i hi
    rw [oldB, lessR_in (by omega) (by omega) this.1 this.2.1]
  have w1 : IntKind.i64.wrap (keep + longer) = keep + longer := w64 (by omega) (by omega)
  have w2 : IntKind.i64.wrap (budget + more) = budget + more := w64 (by omega) (by omega)
  have x1 : chooseB l now keep budget = (choS now keep budget l).map (·.Number) := by rw [chooseB, cho_S _ _ _ l hrise fun b hb => hold b hb keep]
  have x2 : chooseB l now (keep + longer) (budget + more) = (choS now (keep + longer) (budget + more) l).map (·.Number) := by rw [chooseB, cho_S _ _ _ l hrise fun b hb => hold b hb _]
  have hp : chooseB l now (keep + longer) (budget + more) <+: chooseB l now keep budget := by
    rw [x1, x2]
    exact (cho_less (by omega) l fun b hb h => by
      rw [hold b hb] at h ⊢
      have := of_decide_eq_true h
      exact dec_t (by omega)).map _
  have hlen : (chooseB l now keep budget).length ≤ 1000000 := by
    have h2 : ∀ (n : Nat) (z : List Block), (goL budget n z).length ≤ n := by
      intro n
      induction n with
      | zero => intro z; simp [goL]
      | succ n ih =>
        intro z
        rw [goL]
        split
        · split
          · have := ih (cutAt z (minF z z.length)); rw [List.length_cons]; omega
          · simp
        · simp
    have h3 := h2 (l.filter (newB now keep)).length (l.filter (newB now keep))
    have h4 := List.length_filter_le (newB now keep) l
    have h5 := List.length_filter_le (oldB now keep) l
    rw [chooseB, List.length_map, List.length_append]; omega
  have hpl := hp.length_le
  simp only [Bool.false_eq_true, if_false, Option.bind_some, Sum.elim_inl, gleaninglaw20_RetireMore_k1, w1, w2, choose_spec l now _ _ (by omega) ok]
  generalize hX : chooseB l now keep budget = X at hp hlen hpl ⊢
  generalize hY : chooseB l now (keep + longer) (budget + more) = Y at hp hpl ⊢
  have h6 : loopN (fun (s : Int) => gleaninglaw20_RetireMore_l6 X Y s) Fu 0 = some (.inl ()) := by
    refine loop_list (l := Y) (fun k r s => s = (k : Int) ∧ r = .inl ()) (by omega) ?_ ?_ ⟨rfl, rfl⟩
    · rintro k hk r s ⟨rfl, rfl⟩
      refine .inl ⟨((k + 1 : Nat) : Int), ?_, rfl, rfl⟩
      have hkx : k < X.length := by omega
      have hxy : X[k] = Y[k] := by
        obtain ⟨t, ht⟩ := hp
        subst ht
        rw [List.getElem_append_left hk]
      simp only [gleaninglaw20_RetireMore_l6, dec_t (by omega : (k : Int) < (Y.length : Int)), if_true]
      refine loop_list (l := X) (fun j r s => s = (decide (∃ i, ∃ (hi : i < X.length), i < j ∧ X[i] = Y[k]), (j : Int)) ∧ r = .inl ((k + 1 : Nat) : Int)) (by omega) ?_ ?_ ⟨by simp, rfl⟩
      · rintro j hj r s ⟨rfl, rfl⟩
        refine .inl ⟨(decide (∃ i, ∃ (hi : i < X.length), i < j + 1 ∧ X[i] = Y[k]), ((j + 1 : Nat) : Int)), ?_, rfl, rfl⟩
        by_cases e : ∃ i, ∃ (hi : i < X.length), i < j ∧ X[i] = Y[k]
        · have e' : ∃ i, ∃ (hi : i < X.length), i < j + 1 ∧ X[i] = Y[k] := by
            obtain ⟨i, hi, h2, h3⟩ := e
            exact ⟨i, hi, by omega, h3⟩
          simp only [gleaninglaw20_RetireMore_l7, dec_t (by omega : (j : Int) < (X.length : Int)), if_true, dec_t e, dec_t e', ksuc (by omega : j < 1099511627776)]
        · simp only [gleaninglaw20_RetireMore_l7, dec_t (by omega : (j : Int) < (X.length : Int)), if_true, dec_f e, Bool.false_eq_true, if_false, gd_pos (by omega : (0 : Int) ≤ (j : Int)), gd_pos (by omega : (0 : Int) ≤ (k : Int)), Int.toNat_natCast, List.getElem?_eq_getElem hj, List.getElem?_eq_getElem hk, Option.bind_some, ksuc (by omega : j < 1099511627776)]
          congr 3
          rw [Bool.eq_iff_iff, beq_iff_eq, decide_eq_true_iff]
          constructor
          · intro h; exact ⟨j, hj, by omega, h⟩
          · rintro ⟨i, hi, h2, h3⟩
            by_cases z : i = j
            · subst z; exact h3
            · exact absurd ⟨i, hi, by omega, h3⟩ e
      · rintro r s ⟨rfl, rfl⟩
        have e : ∃ i, ∃ (hi : i < X.length), i < X.length ∧ X[i] = Y[k] := ⟨k, hkx, hkx, hxy⟩
        simp only [gleaninglaw20_RetireMore_l7, dec_f (by omega : ¬ (X.length : Int) < (X.length : Int)), Bool.false_eq_true, if_false, dec_t e, Bool.not_true, Option.bind_some, ksuc (by omega : k < 1099511627776)]
    · rintro r s ⟨rfl, rfl⟩
      simp only [gleaninglaw20_RetireMore_l6, dec_f (by omega : ¬ (Y.length : Int) < (Y.length : Int)), Bool.false_eq_true, if_false]
  rw [h6, Option.bind_some]
  simp only [Sum.elim_inl, gleaninglaw20_RetireMore_k5]
  rw [dec_t (by omega)]
end Go.Proofs.Ytejimiedoibkcaa.Ab
