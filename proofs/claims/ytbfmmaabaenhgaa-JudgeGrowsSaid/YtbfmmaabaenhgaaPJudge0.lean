/- Judging, told plainly: a trace's place, and by which policy an episode is kept. -/
import Derived.Test.YtbfmmaabaenhgaaXJ2
import Derived.Test.YtbfmmaabaenhgaaPRule0
import Derived.Test.YtbfmmaabaenhgaaPSpanF
import Derived.Test.YtbfmmaabaenhgaaPSumJ
namespace Go.Proofs.Ytbfmmaabaenhgaa.Ab
open Go Go.RowKit
set_option linter.unusedVariables false
set_option linter.unusedSimpArgs false

/-! ### a trace's place -/
def beB (x : Nat) : List UInt8 := (List.range 8).map fun j => UInt8.ofNat (x / 2 ^ (56 - 8 * j))
def hashN (t : Trace) : Nat := (sumB (beB t.Hi.toNat ++ beB t.Lo.toNat)).toNat % 1000
def hashT (t : Trace) : Int := (hashN t : Int)
theorem hash_lt (t : Trace) : 0 ≤ hashT t ∧ hashT t < 1000 := by unfold hashT hashN; omega
theorem beB_len (x : Nat) : (beB x).length = 8 := by simp [beB]
theorem fit1 {l : List UInt8} (h : l.length ≤ 1000) : l.length * 1 ≤ 140737488355328 ∧ l.length ≤ 140737488355328 := by omega
theorem hash_inner (v : Int) (x : Nat) (l : List UInt8) (hl : l.length ≤ 100) : loopN (fun (s : List UInt8 × Int) => judge_Hash_l2 v (x : Int) s.1 s.2) Fu (l, 56) = some (.inl (l ++ beB x, IntKind.i64.wrap (v + 1))) := by
  refine loop_fu (fun m s r => ∃ j : Nat, j ≤ 8 ∧ m = 8 - j ∧ s = (l ++ (beB x).take j, 56 - 8 * (j : Int)) ∧ r = .inl (l ++ beB x, IntKind.i64.wrap (v + 1))) ?_ ⟨0, by omega, rfl, by simp, rfl⟩ (by omega)
  rintro m s r ⟨j, hj, rfl, rfl, rfl⟩
  by_cases h : j = 8
  · subst h
    refine .inr ?_
    simp only [judge_Hash_l2, dec_f (by omega : ¬ (0 : Int) ≤ 56 - 8 * ((8 : Nat) : Int)), Bool.false_eq_true, if_false]
    rw [List.take_of_length_le (by rw [beB_len]; omega)]
  · have hj2 : j < 8 := by omega
    refine .inl ⟨(l ++ (beB x).take (j + 1), 56 - 8 * ((j + 1 : Nat) : Int)), 8 - (j + 1), ?_, by omega, j + 1, by omega, rfl, rfl, rfl⟩
    have he : (56 : Int) - 8 * (j : Int) = ((56 - 8 * j : Nat) : Int) := by omega
    have hb : (beB x).take (j + 1) = (beB x).take j ++ [UInt8.ofNat (x / 2 ^ (56 - 8 * j))] := by
      rw [List.take_succ_eq_append_getElem (by rw [beB_len]; omega)]
      simp [beB]
    simp only [judge_Hash_l2, dec_t (by omega : (0 : Int) ≤ 56 - 8 * (j : Int)), if_true, gd_pos (by omega : ¬ (56 : Int) - 8 * (j : Int) < 0)]
    rw [he, shr_nat x (56 - 8 * j) (by omega), u8_wrap_nat, gd_pos (fit1 (by simp; omega)), hb, List.append_assoc, w64 (by omega) (by omega), show ((56 - 8 * j : Nat) : Int) - 8 = 56 - 8 * ((j + 1 : Nat) : Int) by omega]
theorem xhash_inner (t : Trace) (v : Nat) (x : Nat) (hx : [t.Hi, t.Lo][v]? = some (x : Int)) (hxx : x < 18446744073709551616) (l : List UInt8) (hl : l.length ≤ 100) : loopN (fun (s : List UInt8 × Int) => gleaningref1_Hash_l2 t (v : Int) s.1 s.2) Fu (l, 7) = some (.inl (l ++ beB x, IntKind.i64.wrap ((v : Int) + 1))) := by
  refine loop_fu (fun m s r => ∃ j : Nat, j ≤ 8 ∧ m = 8 - j ∧ s = (l ++ (beB x).take j, 7 - (j : Int)) ∧ r = .inl (l ++ beB x, IntKind.i64.wrap ((v : Int) + 1))) ?_ ⟨0, by omega, rfl, by simp, rfl⟩ (by omega)
  rintro m s r ⟨j, hj, rfl, rfl, rfl⟩
  by_cases h : j = 8
  · subst h
    refine .inr ?_
    simp only [gleaningref1_Hash_l2, dec_f (by omega : ¬ (0 : Int) ≤ 7 - ((8 : Nat) : Int)), Bool.false_eq_true, if_false]
    rw [List.take_of_length_le (by rw [beB_len]; omega)]
  · have hj2 : j < 8 := by omega
    refine .inl ⟨(l ++ (beB x).take (j + 1), 7 - ((j + 1 : Nat) : Int)), 8 - (j + 1), ?_, by omega, j + 1, by omega, rfl, rfl, rfl⟩
    have he : IntKind.u64.wrap (IntKind.i64.wrap (8 * ((7 : Int) - (j : Int)))) = ((56 - 8 * j : Nat) : Int) := by
      rw [w64 (by omega) (by omega), show 8 * ((7 : Int) - (j : Int)) = ((56 - 8 * j : Nat) : Int) by omega, wrap_u64 _ (by omega)]
    have hb : (beB x).take (j + 1) = (beB x).take j ++ [UInt8.ofNat (x / 2 ^ (56 - 8 * j))] := by
      rw [List.take_succ_eq_append_getElem (by rw [beB_len]; omega)]
      simp [beB]
    have hsm : x / 2 ^ (56 - 8 * j) < 18446744073709551616 := Nat.lt_of_le_of_lt (Nat.div_le_self _ _) hxx
    have hand : bits .and .u64 ((x / 2 ^ (56 - 8 * j) : Nat) : Int) 255 = ((x / 2 ^ (56 - 8 * j) % 256 : Nat) : Int) := by
      have := bits_and_u64 (x / 2 ^ (56 - 8 * j)) 255 hsm (by decide)
      rw [Nat.and_two_pow_sub_one_eq_mod _ 8] at this
      exact this
    have hmod : UInt8.ofNat (x / 2 ^ (56 - 8 * j) % 256) = UInt8.ofNat (x / 2 ^ (56 - 8 * j)) := by
      apply UInt8.toNat_inj.1; simp
    simp only [gleaningref1_Hash_l2, dec_t (by omega : (0 : Int) ≤ 7 - (j : Int)), if_true, gd_pos (by omega : (0 : Int) ≤ (v : Int)), Int.toNat_natCast, hx, Option.bind_some, he, gd_pos (by omega : ¬ ((56 - 8 * j : Nat) : Int) < 0)]
    have hs := shr_nat x (56 - 8 * j) (by omega)
    simp only [Int.toNat_natCast] at hs
    rw [hs, hand, u8_wrap_nat, hmod, gd_pos (fit1 (by simp; omega)), hb, List.append_assoc, w64 (by omega) (by omega), show (7 : Int) - (j : Int) - 1 = 7 - ((j + 1 : Nat) : Int) by omega]
theorem hash_fin (t : Trace) : IntKind.i64.wrap (Int.tmod ((sumB (beB t.Hi.toNat ++ beB t.Lo.toNat)).toNat : Int) 1000) = hashT t := by
  rw [show (1000 : Int) = ((1000 : Nat) : Int) from rfl, ← Int.ofNat_tmod, w64 (by omega) (by omega)]
  rfl
theorem hash_spec (t : Trace) (h1 : inI .u64 t.Hi) (h2 : inI .u64 t.Lo) : judge_Hash t = some (hashT t) ∧ gleaningref1_Hash t = some (hashT t) := by
  simp [inI, IntKind.min, IntKind.max, IntKind.signed, IntKind.bits] at h1 h2
  have e1 : t.Hi = (t.Hi.toNat : Int) := by omega
  have e2 : t.Lo = (t.Lo.toNat : Int) := by omega
  constructor
  · have hloop : loopN (fun (s : List UInt8 × Int) => judge_Hash_l1 t s.1 s.2) Fu ([], 0) = some (beB t.Hi.toNat ++ beB t.Lo.toNat) := by
      have g1 := hash_inner 0 t.Hi.toNat [] (by simp)
      have g2 := hash_inner 1 t.Lo.toNat (beB t.Hi.toNat) (by rw [beB_len]; omega)
      rw [← e1] at g1
      rw [← e2] at g2
      rw [show Fu = (1208925819614629174706173 + 1 + 1) + 1 from rfl]
      rw [loop_l (s' := (beB t.Hi.toNat, 1)) (by simp only [judge_Hash_l1, List.length_cons, List.length_nil]; rw [dec_t (by omega), ite_tt, gd_pos (by omega)]; simp only [Int.toNat_zero, List.getElem?_cons_zero, Option.bind_some, g1]; rfl),
        loop_l (s' := (beB t.Hi.toNat ++ beB t.Lo.toNat, 2)) (by simp only [judge_Hash_l1, List.length_cons, List.length_nil]; rw [dec_t (by omega), ite_tt, gd_pos (by omega)]; simp only [Int.toNat_one, List.getElem?_cons_succ, List.getElem?_cons_zero, Option.bind_some, g2]; rfl)]
      exact loop_r (by simp only [judge_Hash_l1, List.length_cons, List.length_nil]; rw [dec_f (by omega), ite_ff])
    rw [judge_Hash, hloop, Option.bind_some, judge_Hash_k0, sum_spec _ (by simp [beB_len]), Option.bind_some, hash_fin]
  · have hloop : loopN (fun (s : List UInt8 × Int) => gleaningref1_Hash_l1 t s.1 s.2) Fu ([], 0) = some (beB t.Hi.toNat ++ beB t.Lo.toNat) := by
      have g1 := xhash_inner t 0 t.Hi.toNat (by rw [← e1]; rfl) (by omega) [] (by simp)
      have g2 := xhash_inner t 1 t.Lo.toNat (by rw [← e2]; rfl) (by omega) (beB t.Hi.toNat) (by rw [beB_len]; omega)
      rw [show Fu = (1208925819614629174706173 + 1 + 1) + 1 from rfl] at g1 g2 ⊢
      rw [loop_l (s' := (beB t.Hi.toNat, 1)) (by simp only [gleaningref1_Hash_l1]; rw [dec_t (by omega), ite_tt]; exact g1),
        loop_l (s' := (beB t.Hi.toNat ++ beB t.Lo.toNat, 2)) (by simp only [gleaningref1_Hash_l1]; rw [dec_t (by omega), ite_tt]; exact g2)]
      exact loop_r (by simp only [gleaningref1_Hash_l1]; rw [dec_f (by omega), ite_ff])
    rw [gleaningref1_Hash, hloop, Option.bind_some, gleaningref1_Hash_k0, rsum_spec _ (by simp [beB_len]), Option.bind_some, hash_fin]
/-! ### whether an episode is kept -/
def someB (r : Rule) (s : Span) : Bool := if r.Kind = 4 then decide (r.N ≤ s.Dur) else if r.Kind = 5 then s.Err else s.Attrs.any fun a => decide (a = ⟨r.Key, r.Value⟩)
def keepF : Nat → Rule → Episode → Int → Bool
  | 0, _, _, _ => false
  | d + 1, r, e, k =>
    if r.Kind = 1 then r.Kids.all fun x => keepF d x e k
    else if r.Kind = 2 then r.Kids.any fun x => keepF d x e k
    else if r.Kind = 3 then !(r.Kids.any fun x => keepF d x e k)
    else if r.Kind = 7 then decide (r.N ≤ (e.Spans.length : Int))
    else if r.Kind = 8 then decide (hashT e.Trace < r.N)
    else if r.Kind = 9 then decide (k < r.N)
    else e.Spans.any (someB r)
def smallEp (e : Episode) : Prop := e.Spans.length ≤ 130 ∧ ∀ s ∈ e.Spans, s.Attrs.length ≤ 20
theorem attr_eqJ (a b : Attr) : ((ByteArray.toList a.Key == ByteArray.toList b.Key) && ((ByteArray.toList a.Value == ByteArray.toList b.Value) && true)) = decide (b = a) := by
  cases a; cases b
  simp only [Attr.mk.injEq, Bool.and_true, str_beq]
  rw [Bool.eq_iff_iff]; simp
  exact ⟨fun h => ⟨h.1.symm, h.2.symm⟩, fun h => ⟨h.1.symm, h.2.symm⟩⟩
theorem some_spec (r : Rule) (s : Span) (hs : s.Attrs.length ≤ 20) : judge_some r s = some (someB r s) := by
  unfold judge_some someB
  by_cases k4 : r.Kind = 4
  · simp [k4]
  by_cases k5 : r.Kind = 5
  · simp [k5]
  have e4 : (r.Kind == 4) = false := by simpa using k4
  have e5 : (r.Kind == 5) = false := by simpa using k5
  obtain ⟨v, h1, h2⟩ := loop_has (body := fun (q : Int) => slices_Index_Attr_l0 s.Attrs ⟨r.Key, r.Value⟩ q) (fun a : Attr => decide (a = ⟨r.Key, r.Value⟩)) s.Attrs (by omega) (fun j hj => by
    have := attr_eqJ ⟨r.Key, r.Value⟩ s.Attrs[j]
    dsimp only at this
    simp only [slices_Index_Attr_l0, dec_t (by omega : (j : Int) < (s.Attrs.length : Int)), if_true, gd_pos (by omega : (0 : Int) ≤ (j : Int)), Int.toNat_natCast, List.getElem?_eq_getElem hj, Option.bind_some, this, ksu (by omega : j < 1099511627776)]) (by simp only [slices_Index_Attr_l0, dec_f (by omega : ¬ (s.Attrs.length : Int) < (s.Attrs.length : Int)), Bool.false_eq_true, if_false])
  simp only [e4, e5, Bool.false_eq_true, if_false, slices_Contains_Attr, slices_Index_Attr, h1, Option.bind_some, h2, k4, k5]
theorem spans_spec' (r : Rule) (l : List Span) (hl : l.length ≤ 130) (hs : ∀ s ∈ l, s.Attrs.length ≤ 20) : slices_ContainsFunc_Span_judge_keep_c3 l r = some (l.any (someB r)) := by
  obtain ⟨v, h1, h2⟩ := loop_has (body := fun (q : Int) => slices_IndexFunc_Span_judge_keep_c3_l0 l r q) (someB r) l (by omega) (fun j hj => by
    simp only [slices_IndexFunc_Span_judge_keep_c3_l0, dec_t (by omega : (j : Int) < (l.length : Int)), if_true, gd_pos (by omega : (0 : Int) ≤ (j : Int)), Int.toNat_natCast, List.getElem?_eq_getElem hj, Option.bind_some, judge_keep_c3, some_spec r l[j] (hs _ (List.getElem_mem hj)), ksu (by omega : j < 1099511627776)]) (by simp only [slices_IndexFunc_Span_judge_keep_c3_l0, dec_f (by omega : ¬ (l.length : Int) < (l.length : Int)), Bool.false_eq_true, if_false])
  rw [slices_ContainsFunc_Span_judge_keep_c3, slices_IndexFunc_Span_judge_keep_c3, h1, Option.bind_some, h2]
/-- what is known of a node that may be -/
theorem own_kind {r : Rule} (h : ownB r = true) : (r.Kind = 3 → r.Kids.length = 1) ∧ (r.Kind ≠ 1 → r.Kind ≠ 2 → r.Kind ≠ 3 → r.Kind ≠ 7 → r.Kind ≠ 8 → r.Kind ≠ 9 → r.Kind ≠ 4 → r.Kind ≠ 5 → r.Kind = 6) := by
  unfold ownB at h
  refine ⟨fun h3 => ?_, fun k1 k2 k3 k7 k8 k9 k4 k5 => ?_⟩
  · rw [h3] at h
    simpa using And.right (And.right (And.right (by simpa using h : r.N = 0 ∧ r.Key = strOf [] ∧ r.Value = strOf [] ∧ r.Kids.length = 1)))
  · by_cases k6 : r.Kind = 6
    · exact k6
    · simp only [k1, k2, k3, k5, k6, or_self, if_false, topK, k4, k7, k8, k9, decide_eq_true_eq] at h
      omega
theorem loop_now' {σ ρ : Type} {body : σ → Option (σ ⊕ ρ)} {s : σ} {r : ρ} (h : body s = some (.inr r)) : loopN body Fu s = some r := by rw [fuP]; exact loop_r h
theorem some_loop (r : Rule) (j : Nat) (s : Span) (k6 : r.Kind = 6) (ha : s.Attrs.length ≤ 20) (hj : j < 1099511627776) : loopN (fun (q : Int) => gleaningref1_some_l2 r (j : Int) s q) Fu 0 = some (if (s.Attrs.any fun a => decide (a = ⟨r.Key, r.Value⟩)) = true then .inr true else .inl ((j + 1 : Nat) : Int)) := by
  have := loop_write (body := fun (q : Int) => gleaningref1_some_l2 r (j : Int) s q) (l := s.Attrs) (fun a : Attr => decide (a = ⟨r.Key, r.Value⟩)) (fun i => (i : Int)) (.inl ((j + 1 : Nat) : Int)) (.inr true) (by omega) (fun i hi hb hi2 => by
      have hne : ¬ s.Attrs[i] = ⟨r.Key, r.Value⟩ := by simpa using hi2
      simp only [gleaningref1_some_l2, dec_t (by omega : (i : Int) < (s.Attrs.length : Int)), if_true, k6, beq_self_eq_true, Option.bind_some, Sum.elim_inl, gleaningref1_some_k3, gd_pos (by omega : (0 : Int) ≤ (i : Int)), Int.toNat_natCast, List.getElem?_eq_getElem hi, str_beq, ksu (by omega : i < 1099511627776)]
      by_cases e1 : s.Attrs[i].Key = r.Key
      · by_cases e2 : s.Attrs[i].Value = r.Value
        · exact absurd (by cases hq : s.Attrs[i]; rw [hq] at e1 e2; dsimp only at e1 e2; rw [e1, e2]) hne
        · simp only [dec_t e1, dec_f e2, if_true, Bool.false_eq_true, if_false]
      · simp only [dec_f e1, Bool.false_eq_true, if_false]) (fun i hi hb hi2 => by
      have he : s.Attrs[i] = ⟨r.Key, r.Value⟩ := by simpa using hi2
      simp only [gleaningref1_some_l2, dec_t (by omega : (i : Int) < (s.Attrs.length : Int)), if_true, k6, beq_self_eq_true, Option.bind_some, Sum.elim_inl, gleaningref1_some_k3, gd_pos (by omega : (0 : Int) ≤ (i : Int)), Int.toNat_natCast, List.getElem?_eq_getElem hi, str_beq, he, decide_true]) (fun hb => by
      simp only [gleaningref1_some_l2, dec_f (by omega : ¬ (s.Attrs.length : Int) < (s.Attrs.length : Int)), Bool.false_eq_true, if_false, Option.bind_some, Sum.elim_inr, ksu hj])
  exact this
theorem keep_spec : ∀ (d : Nat) (r : Rule) (N : Nat) (e : Episode) (k : Int), okF d r = true → numF d r ≤ 1000 → d ≤ N → smallEp e → inI .u64 e.Trace.Hi → inI .u64 e.Trace.Lo → judge_keepN N r e k = some (keepF d r e k) ∧ gleaningref1_keepN N r e k = some (keepF d r e k) := by
  intro d
  induction d with
  | zero => intro r N e k h; cases h
  | succ d ih =>
    intro r N e k h hn hN he ht1 ht2
    obtain ⟨N', rfl, hN'⟩ := fuel_pos (by omega : d < N)
    simp only [okF, Bool.and_eq_true, List.all_eq_true] at h
    obtain ⟨ho, hk⟩ := h
    have hpos : ∀ x ∈ r.Kids, 1 ≤ numF d x := fun x hx => by
      cases d with
      | zero => exact absurd (hk x hx) (by simp [okF])
      | succ d => exact num_pos d x
    have hl : r.Kids.length ≤ 1000 := by
      have := sumL_len (numF d) _ hpos
      simp only [numF] at hn; omega
    have hkid : ∀ (j : Nat) (hj : j < r.Kids.length), judge_keepN N' r.Kids[j] e k = some (keepF d r.Kids[j] e k) ∧ gleaningref1_keepN N' r.Kids[j] e k = some (keepF d r.Kids[j] e k) := fun j hj => by
      refine ih _ _ _ _ (hk _ (List.getElem_mem hj)) ?_ hN' he ht1 ht2
      have h1 := sumL_take (numF d) r.Kids (j + 1)
      have h2 := sumL_succ (numF d) r.Kids j hj
      simp only [numF] at hn; omega
    obtain ⟨o3, o6⟩ := own_kind ho
    have e0 : (((0 : Nat) : Int)) = 0 := rfl
    rw [judge_keepN, judge_keep_b, gleaningref1_keepN, gleaningref1_keep_b, keepF]
    by_cases k1 : r.Kind = 1
    · simp only [k1, beq_self_eq_true, if_true]
      constructor
      · obtain ⟨v, h1, h2⟩ := loop_has (body := fun (q : Int) => slices_IndexFunc_Rule_judge_keep_c2_judge_keep_c1_l0 (judge_keepN N') r.Kids e k q) (fun x => !keepF d x e k) r.Kids (by omega) (fun j hj => by
          simp only [slices_IndexFunc_Rule_judge_keep_c2_judge_keep_c1_l0, dec_t (by omega : (j : Int) < (r.Kids.length : Int)), if_true, gd_pos (by omega : (0 : Int) ≤ (j : Int)), Int.toNat_natCast, List.getElem?_eq_getElem hj, Option.bind_some, judge_keep_c2_judge_keep_c1, judge_keep_c1, (hkid j hj).1, ksu (by omega : j < 1099511627776)]) (by simp only [slices_IndexFunc_Rule_judge_keep_c2_judge_keep_c1_l0, dec_f (by omega : ¬ (r.Kids.length : Int) < (r.Kids.length : Int)), Bool.false_eq_true, if_false])
        rw [slices_ContainsFunc_Rule_judge_keep_c2_judge_keep_c1, slices_IndexFunc_Rule_judge_keep_c2_judge_keep_c1, h1, Option.bind_some, h2, Option.bind_some]
        congr 1
        rw [Bool.eq_iff_iff]; simp
      · have := loop_write (body := fun (q : Int) => gleaningref1_keep_b_l0 (gleaningref1_keepN N') r e k q) (l := r.Kids) (fun x => !keepF d x e k) (fun j => (j : Int)) true false (by omega) (fun j hj hb hj2 => by
            simp only [Bool.not_eq_false'] at hj2
            simp only [gleaningref1_keep_b_l0, dec_t (by omega : (j : Int) < (r.Kids.length : Int)), if_true, gd_pos (by omega : (0 : Int) ≤ (j : Int)), Int.toNat_natCast, List.getElem?_eq_getElem hj, Option.bind_some, (hkid j hj).2, hj2, Bool.not_true, Bool.false_eq_true, if_false, ksu (by omega : j < 1099511627776)]) (fun j hj hb hj2 => by
            simp only [Bool.not_eq_true'] at hj2
            simp only [gleaningref1_keep_b_l0, dec_t (by omega : (j : Int) < (r.Kids.length : Int)), if_true, gd_pos (by omega : (0 : Int) ≤ (j : Int)), Int.toNat_natCast, List.getElem?_eq_getElem hj, Option.bind_some, (hkid j hj).2, hj2, Bool.not_false]) (fun hb => by
            simp only [gleaningref1_keep_b_l0, dec_f (by omega : ¬ (r.Kids.length : Int) < (r.Kids.length : Int)), Bool.false_eq_true, if_false])
        rw [← e0, this]
        have h3 : (r.Kids.all fun x => keepF d x e k) = !(r.Kids.any fun x => !keepF d x e k) := by rw [Bool.eq_iff_iff]; simp
        rw [h3]
        cases r.Kids.any (fun x => !keepF d x e k) <;> rfl
    have f1 : (r.Kind == 1) = false := by simpa using k1
    simp only [f1, Bool.false_eq_true, if_false, k1]
    by_cases k2 : r.Kind = 2
    · simp only [k2, beq_self_eq_true, if_true]
      constructor
      · obtain ⟨v, h1, h2⟩ := loop_has (body := fun (q : Int) => slices_IndexFunc_Rule_judge_keep_c1_l0 (judge_keepN N') r.Kids e k q) (fun x => keepF d x e k) r.Kids (by omega) (fun j hj => by
          simp only [slices_IndexFunc_Rule_judge_keep_c1_l0, dec_t (by omega : (j : Int) < (r.Kids.length : Int)), if_true, gd_pos (by omega : (0 : Int) ≤ (j : Int)), Int.toNat_natCast, List.getElem?_eq_getElem hj, Option.bind_some, judge_keep_c1, (hkid j hj).1, ksu (by omega : j < 1099511627776)]) (by simp only [slices_IndexFunc_Rule_judge_keep_c1_l0, dec_f (by omega : ¬ (r.Kids.length : Int) < (r.Kids.length : Int)), Bool.false_eq_true, if_false])
        rw [slices_ContainsFunc_Rule_judge_keep_c1, slices_IndexFunc_Rule_judge_keep_c1, h1, Option.bind_some, h2, Option.bind_some]
      · have := loop_write (body := fun (q : Int) => gleaningref1_keep_b_l1 (gleaningref1_keepN N') r e k q) (l := r.Kids) (fun x => keepF d x e k) (fun j => (j : Int)) false true (by omega) (fun j hj hb hj2 => by
            simp only [gleaningref1_keep_b_l1, dec_t (by omega : (j : Int) < (r.Kids.length : Int)), if_true, gd_pos (by omega : (0 : Int) ≤ (j : Int)), Int.toNat_natCast, List.getElem?_eq_getElem hj, Option.bind_some, (hkid j hj).2, hj2, Bool.false_eq_true, if_false, ksu (by omega : j < 1099511627776)]) (fun j hj hb hj2 => by
            simp only [gleaningref1_keep_b_l1, dec_t (by omega : (j : Int) < (r.Kids.length : Int)), if_true, gd_pos (by omega : (0 : Int) ≤ (j : Int)), Int.toNat_natCast, List.getElem?_eq_getElem hj, Option.bind_some, (hkid j hj).2, hj2]) (fun hb => by
            simp only [gleaningref1_keep_b_l1, dec_f (by omega : ¬ (r.Kids.length : Int) < (r.Kids.length : Int)), Bool.false_eq_true, if_false])
        rw [← e0, this]
        cases r.Kids.any (fun x => keepF d x e k) <;> rfl
    have f2 : (r.Kind == 2) = false := by simpa using k2
    simp only [f2, Bool.false_eq_true, if_false, k2]
    by_cases k3 : r.Kind = 3
    · have h1 := o3 k3
      have hx : ∃ x, r.Kids = [x] := by
        match hq : r.Kids, h1 with
        | [x], _ => exact ⟨x, rfl⟩
      obtain ⟨x, hx⟩ := hx
      have hkx := hkid 0 (by omega)
      simp only [hx, List.getElem_cons_zero] at hkx
      simp only [k3, beq_self_eq_true, if_true, hx, List.getElem?_cons_zero, Option.bind_some, judge_keep_c1, hkx.1, hkx.2, List.any_cons, List.any_nil, Bool.or_false]
      exact ⟨trivial, trivial⟩
    have f3 : (r.Kind == 3) = false := by simpa using k3
    simp only [f3, Bool.false_eq_true, if_false, k3]
    by_cases k7 : r.Kind = 7
    · simp [k7]
    have f7 : (r.Kind == 7) = false := by simpa using k7
    simp only [f7, Bool.false_eq_true, if_false, k7]
    by_cases k8 : r.Kind = 8
    · obtain ⟨a1, a2⟩ := hash_spec e.Trace ht1 ht2
      simp [k8, a1, a2]
    have f8 : (r.Kind == 8) = false := by simpa using k8
    simp only [f8, Bool.false_eq_true, if_false, k8]
    by_cases k9 : r.Kind = 9
    · simp [k9]
    have f9 : (r.Kind == 9) = false := by simpa using k9
    simp only [f9, Bool.false_eq_true, if_false, k9]
    refine ⟨by rw [spans_spec' r e.Spans he.1 he.2, Option.bind_some], ?_⟩
    have := loop_write (body := fun (q : Int) => gleaningref1_some_l0 r e.Spans q) (l := e.Spans) (someB r) (fun j => (j : Int)) false true (by have := he.1; omega) ?_ ?_ (fun hb => by
        simp only [gleaningref1_some_l0, dec_f (by omega : ¬ (e.Spans.length : Int) < (e.Spans.length : Int)), Bool.false_eq_true, if_false])
    · rw [gleaningref1_some, ← e0, this, Option.bind_some]
      cases e.Spans.any (someB r) <;> rfl
    · intro j hj hb hj2
      have hjl : j < 1099511627776 := by have := he.1; omega
      have ha := he.2 _ (List.getElem_mem hj)
      simp only [gleaningref1_some_l0, dec_t (by omega : (j : Int) < (e.Spans.length : Int)), if_true, gd_pos (by omega : (0 : Int) ≤ (j : Int)), Int.toNat_natCast, List.getElem?_eq_getElem hj, Option.bind_some]
      unfold someB at hj2
      by_cases k4 : r.Kind = 4
      · simp only [k4, if_true] at hj2
        simp only [k4, beq_self_eq_true, if_true, hj2, Bool.false_eq_true, if_false, (by decide : ((4 : Int) == 5) = false), Option.bind_some, Sum.elim_inl, gleaningref1_some_k1]
        exact loop_now' (by simp only [gleaningref1_some_l2, k4, (by decide : ((4 : Int) == 6) = false), Bool.false_eq_true, if_false, ite_self, Option.bind_some, Sum.elim_inr, ksu hjl])
      have f4 : (r.Kind == 4) = false := by simpa using k4
      simp only [k4, if_false] at hj2
      simp only [f4, Bool.false_eq_true, if_false]
      by_cases k5 : r.Kind = 5
      · simp only [k5, if_true] at hj2
        simp only [k5, beq_self_eq_true, if_true, hj2, Bool.false_eq_true, if_false, Option.bind_some, Sum.elim_inl, gleaningref1_some_k1]
        exact loop_now' (by simp only [gleaningref1_some_l2, k5, (by decide : ((5 : Int) == 6) = false), Bool.false_eq_true, if_false, ite_self, Option.bind_some, Sum.elim_inr, ksu hjl])
      have f5 : (r.Kind == 5) = false := by simpa using k5
      simp only [k5, if_false] at hj2
      simp only [f5, Bool.false_eq_true, if_false, Option.bind_some, Sum.elim_inl, gleaningref1_some_k1]
      have k6 := o6 k1 k2 k3 k7 k8 k9 k4 k5
      have := some_loop r j e.Spans[j] k6 ha hjl
      rw [this, hj2]; rfl
    · intro j hj hb hj2
      have hjl : j < 1099511627776 := by have := he.1; omega
      have ha := he.2 _ (List.getElem_mem hj)
      simp only [gleaningref1_some_l0, dec_t (by omega : (j : Int) < (e.Spans.length : Int)), if_true, gd_pos (by omega : (0 : Int) ≤ (j : Int)), Int.toNat_natCast, List.getElem?_eq_getElem hj, Option.bind_some]
      unfold someB at hj2
      by_cases k4 : r.Kind = 4
      · simp only [k4, if_true] at hj2
        simp only [k4, beq_self_eq_true, if_true, hj2, Option.bind_some, Sum.elim_inr]
      have f4 : (r.Kind == 4) = false := by simpa using k4
      simp only [k4, if_false] at hj2
      simp only [f4, Bool.false_eq_true, if_false]
      by_cases k5 : r.Kind = 5
      · simp only [k5, if_true] at hj2
        simp only [k5, beq_self_eq_true, if_true, hj2, Option.bind_some, Sum.elim_inr]
      have f5 : (r.Kind == 5) = false := by simpa using k5
      simp only [k5, if_false] at hj2
      simp only [f5, Bool.false_eq_true, if_false, Option.bind_some, Sum.elim_inl, gleaningref1_some_k1]
      have k6 := o6 k1 k2 k3 k7 k8 k9 k4 k5
      have := some_loop r j e.Spans[j] k6 ha hjl
      rw [this, hj2]; rfl
def keepB (r : Rule) (e : Episode) (k : Int) : Bool := rightR r && keepF 5 r e k
theorem keep_both (r : Rule) (e : Episode) (k : Int) (he : smallEp e) (h1 : inI .u64 e.Trace.Hi) (h2 : inI .u64 e.Trace.Lo) : judge_Keep r e k = some (keepB r e k) ∧ gleaningref1_Keep r e k = some (keepB r e k) := by
  rw [judge_Keep, gleaningref1_Keep, right_spec', xright_spec', Option.bind_some, Option.bind_some, keepB]
  cases hr : rightR r with
  | false => exact ⟨rfl, rfl⟩
  | true =>
    simp only [rightR, Bool.and_eq_true, decide_eq_true_eq] at hr
    obtain ⟨a1, a2⟩ := keep_spec 5 r Fu e k hr.1 (by omega) (by rw [fuP]; omega) he h1 h2
    simp only [if_true, judge_keep, a1, gleaningref1_keep, a2, Option.bind_some, Bool.true_and]
    exact ⟨trivial, trivial⟩
end Go.Proofs.Ytbfmmaabaenhgaa.Ab
