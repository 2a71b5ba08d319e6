import Derived.Test.YtdhpmlgalddgfaaPSpanB
namespace Go.Proofs.Ytdhpmlgalddgfaa.Ab
open Go Go.RowKit
set_option linter.unusedVariables false
set_option linter.unusedSimpArgs false
def pAttrs : Nat → List UInt8 → Option (List Attr × List UInt8)
 | 0, b => some ([], b)
 | k + 1, b => match pT b with
  | none => none
  | some (x, b1) => match pT b1 with
   | none => none
   | some (v, b2) => match pAttrs k b2 with
    | none => none
    | some (l, r) => some (⟨x, v⟩ :: l, r)
def pSpan (b0 : List UInt8) : Option (Span × List UInt8) := match pW b0 with
 | none => none
 | some (hi, b1) => match pW b1 with
  | none => none
  | some (lo, b2) => match pW b2 with
   | none => none
   | some (id, b3) => match pW b3 with
    | none => none
    | some (pa, b4) => match pT b4 with
     | none => none
     | some (sv, b5) => match pT b5 with
      | none => none
      | some (op, b6) => match pNum 1099511627776 b6 with
       | none => none
       | some (st, b7) => match pNum 1073741824 b7 with
        | none => none
        | some (du, b8) => match pNum 1 b8 with
         | none => none
         | some (er, b9) => match pNum 4 b9 with
          | none => none
          | some (n, b10) => match pAttrs n.toNat b10 with
           | none => none
           | some (l, r) => some (⟨⟨hi, lo⟩, id, pa, sv, op, st, du, er == 1, l⟩, r)
theorem bit_back {n : Int} (h0 : 0 ≤ n) (h1 : n ≤ 1) : bitI (n == 1) = n := by
 have : n = 0 ∨ n = 1 := by omega
 rcases this with rfl | rfl <;> rfl
theorem bit_eq (b : Bool) : (bitI b == 1) = b := by cases b <;> rfl
theorem pAttrs_sound : ∀ (k : Nat) (b r : List UInt8) (l : List Attr), pAttrs k b = some (l, r) → l.length = k ∧ b = attrsB l ++ r
 | 0, b, r, l, h => by
  simp only [pAttrs, Option.some.injEq, Prod.mk.injEq] at h
  obtain ⟨rfl, rfl⟩ := h
  exact ⟨rfl, by simp [attrsB]⟩
 | k + 1, b, r, l, h => by
  simp only [pAttrs] at h
  split at h
  ·cases h
  ·rename_i x b1 h1
   split at h
   ·cases h
   ·rename_i v b2 h2
    split at h
    ·cases h
    ·rename_i l2 r2 h3
     simp only [Option.some.injEq, Prod.mk.injEq] at h
     obtain ⟨rfl, rfl⟩ := h
     obtain ⟨h4, h5⟩ := pAttrs_sound k _ _ _ h3
     refine ⟨by simp [h4], ?_⟩
     rw [pT_sound h1, pT_sound h2, h5]
     simp [attrsB]
theorem pAttrs_put : ∀ (l : List Attr) (r : List UInt8), (∀ a ∈ l, a.Key.size ≤ 16 ∧ a.Value.size ≤ 16) → pAttrs l.length (attrsB l ++ r) = some (l, r)
 | [], r, _ => by simp [pAttrs, attrsB]
 | a :: l, r, h => by
  have h1 := h a List.mem_cons_self
  have e : attrsB (a :: l) ++ r = textB a.Key ++ (textB a.Value ++ (attrsB l ++ r)) := by simp [attrsB]
  simp only [List.length_cons, pAttrs, e, pT_put a.Key (by omega), pT_put a.Value (by omega), pAttrs_put l r fun x hx => h x (List.mem_cons_of_mem _ hx)]
theorem pSpan_sound {b r : List UInt8} {s : Span} (h : pSpan b = some (s, r)) : wfS s ∧ s.Attrs.length ≤ 4 ∧ b = spanB s ++ r := by
 unfold pSpan at h
 split at h
 ·cases h
 rename_i hi b1 h1
 split at h
 ·cases h
 rename_i lo b2 h2
 split at h
 ·cases h
 rename_i id b3 h3
 split at h
 ·cases h
 rename_i pa b4 h4
 split at h
 ·cases h
 rename_i sv b5 h5
 split at h
 ·cases h
 rename_i op b6 h6
 split at h
 ·cases h
 rename_i st b7 h7
 split at h
 ·cases h
 rename_i du b8 h8
 split at h
 ·cases h
 rename_i er b9 h9
 split at h
 ·cases h
 rename_i n b10 h10
 split at h
 ·cases h
 rename_i l r' h11
 simp only [Option.some.injEq, Prod.mk.injEq] at h
 obtain ⟨rfl, rfl⟩ := h
 have k1 := pW_sound h1
 have k2 := pW_sound h2
 have k3 := pW_sound h3
 have k4 := pW_sound h4
 have k5 := pT_sound h5
 have k6 := pT_sound h6
 have k7 := pNum_sound h7
 have k8 := pNum_sound h8
 have k9 := pNum_sound h9
 have k10 := pNum_sound h10
 have k11 := pAttrs_sound _ _ _ _ h11
 have hn := k10.1.1
 refine ⟨⟨k1.1, k2.1, k3.1, k4.1⟩, by show l.length ≤ 4; rw [k11.1]; have := k10.2.1; omega, ?_⟩
 rw [k1.2, k2.2, k3.2, k4.2, k5, k6, k7.2.2, k8.2.2, k9.2.2, k10.2.2, k11.2]
 simp only [spanB, bit_back k9.1.1 k9.2.1, k11.1, List.append_assoc]
theorem pSpan_put {s : Span} (hw : wfS s) (h : rightS s = true) (r : List UInt8) : pSpan (spanB s ++ r) = some (s, r) := by
 obtain ⟨h1, h2, h3, h4, h5, h6, h7, h8, h9⟩ := rightS_of h
 obtain ⟨w1, w2, w3, w4⟩ := hw
 have hb := bitU s.Err
 have hn : putN s.Attrs.length = putN (Int.toNat (s.Attrs.length : Int)) := by simp
 unfold pSpan
 simp only [spanB, List.append_assoc, pW_put w1, pW_put w2, pW_put w3, pW_put w4, pT_put s.Service (by omega), pT_put s.Op (by omega), pNum_put h4 h5 (by omega), pNum_put h6 h7 (by omega), pNum_put hb.1 hb.2 (by omega), hn, pNum_put (n := (s.Attrs.length : Int)) (top := 4) (by omega) (by omega) (by omega)]
 simp only [Int.toNat_natCast, pAttrs_put s.Attrs r h9, bit_eq]
theorem attrs_fit {l : List Attr} (h : l.length ≤ 100) : l.length * 32 ≤ 140737488355328 ∧ l.length ≤ 140737488355328 := by omega
theorem get_bad (x : Int × Reader) (acc : List Attr) : ∀ (m i N : Nat), (i : Int) + m = x.1 → m < N → acc.length + m ≤ 50 → i + m ≤ 50 →
  ∃ acc', loopN (fun (s : List UInt8 × Bool × List Attr × Int) => span_Get_l1 x s.1 s.2.1 s.2.2.1 s.2.2.2) N ([], true, acc, (i : Int)) = some ([], true, acc') := by
 intro m
 induction m generalizing acc with
 | zero =>
  intro i N hi hN _ _
  obtain ⟨N', rfl⟩ : ∃ N', N = N' + 1 := ⟨N - 1, by omega⟩
  exact ⟨acc, loop_r (by simp only [span_Get_l1, dec_f (by omega : ¬ (i : Int) < x.1), Bool.false_eq_true, if_false])⟩
 | succ m ih =>
  intro i N hi hN ha hi2
  obtain ⟨N', rfl⟩ : ∃ N', N = N' + 1 := ⟨N - 1, by omega⟩
  obtain ⟨acc', h⟩ := ih (acc ++ [⟨strOf [], strOf []⟩]) (i + 1) N' (by omega) (by omega) (by simp; omega) (by omega)
  refine ⟨acc', ?_⟩
  rw [loop_l (s' := ([], true, acc ++ [⟨strOf [], strOf []⟩], ((i + 1 : Nat) : Int)))]
  ·exact h
  ·simp only [span_Get_l1, dec_t (by omega : (i : Int) < x.1), if_true, rtext_bad, Option.bind_some]
   rw [gd_pos (attrs_fit (by simp; omega)), ksuc (by omega)]
theorem get_attrs (x : Int × Reader) : ∀ (m i N : Nat) (b : List UInt8) (acc : List Attr), (i : Int) + m = x.1 → m < N → acc.length + m ≤ 50 → i + m ≤ 50 → b.length ≤ 1099511627776 →
  (∀ l r, pAttrs m b = some (l, r) → loopN (fun (s : List UInt8 × Bool × List Attr × Int) => span_Get_l1 x s.1 s.2.1 s.2.2.1 s.2.2.2) N (b, false, acc, (i : Int)) = some (r, false, acc ++ l)) ∧
  (pAttrs m b = none → ∃ acc', loopN (fun (s : List UInt8 × Bool × List Attr × Int) => span_Get_l1 x s.1 s.2.1 s.2.2.1 s.2.2.2) N (b, false, acc, (i : Int)) = some ([], true, acc')) := by
 intro m
 induction m with
 | zero =>
  intro i N b acc hi hN _ _ _
  obtain ⟨N', rfl⟩ : ∃ N', N = N' + 1 := ⟨N - 1, by omega⟩
  refine ⟨fun l r h => ?_, fun h => by cases h⟩
  simp only [pAttrs, Option.some.injEq, Prod.mk.injEq] at h
  obtain ⟨rfl, rfl⟩ := h
  exact loop_r (by simp only [span_Get_l1, dec_f (by omega : ¬ (i : Int) < x.1), Bool.false_eq_true, if_false, List.append_nil])
 | succ m ih =>
  intro i N b acc hi hN ha hi2 hb
  obtain ⟨N', rfl⟩ : ∃ N', N = N' + 1 := ⟨N - 1, by omega⟩
  have hfit : ∀ a : Attr, (acc ++ [a]).length * 32 ≤ 140737488355328 ∧ (acc ++ [a]).length ≤ 140737488355328 := fun a => attrs_fit (by simp; omega)
  cases h1 : pT b with
  | none =>
   refine ⟨fun l r h => by simp [pAttrs, h1] at h, fun _ => ?_⟩
   obtain ⟨acc', h⟩ := get_bad x (acc ++ [⟨strOf [], strOf []⟩]) m (i + 1) N' (by omega) (by omega) (by simp; omega) (by omega)
   refine ⟨acc', ?_⟩
   rw [loop_l (s' := ([], true, acc ++ [⟨strOf [], strOf []⟩], ((i + 1 : Nat) : Int)))]
   ·exact h
   ·simp only [span_Get_l1, dec_t (by omega : (i : Int) < x.1), if_true, rtext_no hb h1, Option.bind_some, rtext_bad, gd_pos (hfit _), ksuc (by omega : i < 1099511627776)]
  | some p =>
   obtain ⟨k, b1⟩ := p
   have hb1 := len_of (pT_sound h1) hb
   cases h2 : pT b1 with
   | none =>
    refine ⟨fun l r h => by simp [pAttrs, h1, h2] at h, fun _ => ?_⟩
    obtain ⟨acc', h⟩ := get_bad x (acc ++ [⟨k, strOf []⟩]) m (i + 1) N' (by omega) (by omega) (by simp; omega) (by omega)
    refine ⟨acc', ?_⟩
    rw [loop_l (s' := ([], true, acc ++ [⟨k, strOf []⟩], ((i + 1 : Nat) : Int)))]
    ·exact h
    ·simp only [span_Get_l1, dec_t (by omega : (i : Int) < x.1), if_true, rtext_ok hb h1, Option.bind_some, rtext_no hb1 h2, gd_pos (hfit _), ksuc (by omega : i < 1099511627776)]
   | some p =>
    obtain ⟨v, b2⟩ := p
    have hb2 := len_of (pT_sound h2) hb1
    have hstep : loopN (fun (s : List UInt8 × Bool × List Attr × Int) => span_Get_l1 x s.1 s.2.1 s.2.2.1 s.2.2.2) (N' + 1) (b, false, acc, (i : Int)) = loopN (fun (s : List UInt8 × Bool × List Attr × Int) => span_Get_l1 x s.1 s.2.1 s.2.2.1 s.2.2.2) N' (b2, false, acc ++ [⟨k, v⟩], ((i + 1 : Nat) : Int)) :=
     loop_l (by simp only [span_Get_l1, dec_t (by omega : (i : Int) < x.1), if_true, rtext_ok hb h1, Option.bind_some, rtext_ok hb1 h2, gd_pos (hfit _), ksuc (by omega : i < 1099511627776)])
    obtain ⟨g1, g2⟩ := ih (i + 1) N' b2 (acc ++ [⟨k, v⟩]) (by omega) (by omega) (by simp; omega) (by omega) hb2
    rw [hstep]
    refine ⟨fun l r h => ?_, fun h => ?_⟩
    ·simp only [pAttrs, h1, h2] at h
     split at h
     ·cases h
     ·rename_i l2 r2 h3
      simp only [Option.some.injEq, Prod.mk.injEq] at h
      obtain ⟨rfl, rfl⟩ := h
      rw [g1 _ _ h3]; simp
    ·simp only [pAttrs, h1, h2] at h
     split at h
     ·rename_i h3; exact g2 h3
     ·cases h
theorem getTail (x4 x6 x8 x10 : Int × Reader) (x12 x14 : ByteArray × Reader) (x16 x18 : Int × Reader) (x20 : Bool × Reader) (acc : List Attr) : ∃ s, span_Get_k0 x4 x6 x8 x10 x12 x14 x16 x18 x20 [] true acc = some (s, ⟨[], true⟩) := by
 simp only [span_Get_k0, if_true]
 exact ⟨_, rfl⟩
theorem loop0 (q : Reader) (B : List UInt8) (f : Bool) (acc : List Attr) : loopN (fun (s : List UInt8 × Bool × List Attr × Int) => span_Get_l1 ((0 : Int), q) s.1 s.2.1 s.2.2.1 s.2.2.2) Fu (B, f, acc, 0) = some (B, f, acc) :=
 loop_now (by simp only [span_Get_l1, dec_f (by omega : ¬ (0 : Int) < 0), Bool.false_eq_true, if_false])
theorem get_spec' (b : List UInt8) (hb : b.length ≤ 1099511627776) : match pSpan b with
  | none => ∃ s, span_Get ⟨b, false⟩ = some (s, ⟨[], true⟩)
  | some (s, r) => span_Get ⟨b, false⟩ = some (s, ⟨r, !rightS s⟩) := by
 have T1 : (0 : Int) ≤ 1099511627776 := by omega
 have T2 : (1099511627776 : Int) < 9223372036854775808 := by omega
 have T3 : (0 : Int) ≤ 1073741824 := by omega
 have T4 : (1073741824 : Int) < 9223372036854775808 := by omega
 have T5 : (0 : Int) ≤ 4 := by omega
 have T6 : (4 : Int) < 9223372036854775808 := by omega
 unfold pSpan
 cases h1 : pW b with
 | none => simp only [span_Get, rwide_no hb h1, rwide_bad, rtext_bad, rnum_bad T1 T2, rnum_bad T3 T4, rnum_bad T5 T6, rflag_bad, Option.bind_some, loop0]; exact getTail _ _ _ _ _ _ _ _ _ _
 | some p =>
 obtain ⟨hi, b1⟩ := p
 have hb1 := len_of (pW_sound h1).2 hb
 dsimp only
 cases h2 : pW b1 with
 | none => simp only [span_Get, rwide_ok hb h1, rwide_no hb1 h2, rwide_bad, rtext_bad, rnum_bad T1 T2, rnum_bad T3 T4, rnum_bad T5 T6, rflag_bad, Option.bind_some, loop0]; exact getTail _ _ _ _ _ _ _ _ _ _
 | some p =>
 obtain ⟨lo, b2⟩ := p
 have hb2 := len_of (pW_sound h2).2 hb1
 dsimp only
 cases h3 : pW b2 with
 | none => simp only [span_Get, rwide_ok hb h1, rwide_ok hb1 h2, rwide_no hb2 h3, rwide_bad, rtext_bad, rnum_bad T1 T2, rnum_bad T3 T4, rnum_bad T5 T6, rflag_bad, Option.bind_some, loop0]; exact getTail _ _ _ _ _ _ _ _ _ _
 | some p =>
 obtain ⟨id, b3⟩ := p
 have hb3 := len_of (pW_sound h3).2 hb2
 dsimp only
 cases h4 : pW b3 with
 | none => simp only [span_Get, rwide_ok hb h1, rwide_ok hb1 h2, rwide_ok hb2 h3, rwide_no hb3 h4, rwide_bad, rtext_bad, rnum_bad T1 T2, rnum_bad T3 T4, rnum_bad T5 T6, rflag_bad, Option.bind_some, loop0]; exact getTail _ _ _ _ _ _ _ _ _ _
 | some p =>
 obtain ⟨pa, b4⟩ := p
 have hb4 := len_of (pW_sound h4).2 hb3
 dsimp only
 cases h5 : pT b4 with
 | none => simp only [span_Get, rwide_ok hb h1, rwide_ok hb1 h2, rwide_ok hb2 h3, rwide_ok hb3 h4, rtext_no hb4 h5, rwide_bad, rtext_bad, rnum_bad T1 T2, rnum_bad T3 T4, rnum_bad T5 T6, rflag_bad, Option.bind_some, loop0]; exact getTail _ _ _ _ _ _ _ _ _ _
 | some p =>
 obtain ⟨sv, b5⟩ := p
 have hb5 := len_of (pT_sound h5) hb4
 dsimp only
 cases h6 : pT b5 with
 | none => simp only [span_Get, rwide_ok hb h1, rwide_ok hb1 h2, rwide_ok hb2 h3, rwide_ok hb3 h4, rtext_ok hb4 h5, rtext_no hb5 h6, rwide_bad, rtext_bad, rnum_bad T1 T2, rnum_bad T3 T4, rnum_bad T5 T6, rflag_bad, Option.bind_some, loop0]; exact getTail _ _ _ _ _ _ _ _ _ _
 | some p =>
 obtain ⟨op, b6⟩ := p
 have hb6 := len_of (pT_sound h6) hb5
 dsimp only
 cases h7 : pNum 1099511627776 b6 with
 | none => simp only [span_Get, rwide_ok hb h1, rwide_ok hb1 h2, rwide_ok hb2 h3, rwide_ok hb3 h4, rtext_ok hb4 h5, rtext_ok hb5 h6, rnum_no T1 T2 hb6 h7, rwide_bad, rtext_bad, rnum_bad T1 T2, rnum_bad T3 T4, rnum_bad T5 T6, rflag_bad, Option.bind_some, loop0]; exact getTail _ _ _ _ _ _ _ _ _ _
 | some p =>
 obtain ⟨st, b7⟩ := p
 have hb7 := len_of (pNum_sound h7).2.2 hb6
 dsimp only
 cases h8 : pNum 1073741824 b7 with
 | none => simp only [span_Get, rwide_ok hb h1, rwide_ok hb1 h2, rwide_ok hb2 h3, rwide_ok hb3 h4, rtext_ok hb4 h5, rtext_ok hb5 h6, rnum_ok T1 T2 hb6 h7, rnum_no T3 T4 hb7 h8, rwide_bad, rtext_bad, rnum_bad T1 T2, rnum_bad T3 T4, rnum_bad T5 T6, rflag_bad, Option.bind_some, loop0]; exact getTail _ _ _ _ _ _ _ _ _ _
 | some p =>
 obtain ⟨du, b8⟩ := p
 have hb8 := len_of (pNum_sound h8).2.2 hb7
 dsimp only
 cases h9 : pNum 1 b8 with
 | none => simp only [span_Get, rwide_ok hb h1, rwide_ok hb1 h2, rwide_ok hb2 h3, rwide_ok hb3 h4, rtext_ok hb4 h5, rtext_ok hb5 h6, rnum_ok T1 T2 hb6 h7, rnum_ok T3 T4 hb7 h8, rflag_no hb8 h9, rwide_bad, rtext_bad, rnum_bad T5 T6, Option.bind_some, loop0]; exact getTail _ _ _ _ _ _ _ _ _ _
 | some p =>
 obtain ⟨er, b9⟩ := p
 have hb9 := len_of (pNum_sound h9).2.2 hb8
 dsimp only
 cases h10 : pNum 4 b9 with
 | none => simp only [span_Get, rwide_ok hb h1, rwide_ok hb1 h2, rwide_ok hb2 h3, rwide_ok hb3 h4, rtext_ok hb4 h5, rtext_ok hb5 h6, rnum_ok T1 T2 hb6 h7, rnum_ok T3 T4 hb7 h8, rflag_ok hb8 h9, rnum_no T5 T6 hb9 h10, Option.bind_some, loop0]; exact getTail _ _ _ _ _ _ _ _ _ _
 | some p =>
 obtain ⟨n, b10⟩ := p
 have hn := pNum_sound h10
 have hb10 := len_of hn.2.2 hb9
 dsimp only
 obtain ⟨n', rfl⟩ := Int.eq_ofNat_of_zero_le hn.1.1
 have hn4 : n' ≤ 4 := by have := hn.2.1; omega
 obtain ⟨g1, g2⟩ := get_attrs ((n' : Int), ⟨b10, false⟩) n' 0 Fu b10 [] (by simp) (by rw [fuPos]; omega) (by simp; omega) (by omega) hb10
 simp only [Int.toNat_natCast]
 cases h11 : pAttrs n' b10 with
 | none =>
  obtain ⟨acc, hg⟩ := g2 h11
  simp only [Int.natCast_zero] at hg
  simp only [span_Get, rwide_ok hb h1, rwide_ok hb1 h2, rwide_ok hb2 h3, rwide_ok hb3 h4, rtext_ok hb4 h5, rtext_ok hb5 h6, rnum_ok T1 T2 hb6 h7, rnum_ok T3 T4 hb7 h8, rflag_ok hb8 h9, rnum_ok T5 T6 hb9 h10, Option.bind_some]
  rw [hg, Option.bind_some]
  exact getTail _ _ _ _ _ _ _ _ _ _
 | some p =>
  obtain ⟨l, r⟩ := p
  have hg := g1 _ _ h11
  simp only [Int.natCast_zero] at hg
  simp only [span_Get, rwide_ok hb h1, rwide_ok hb1 h2, rwide_ok hb2 h3, rwide_ok hb3 h4, rtext_ok hb4 h5, rtext_ok hb5 h6, rnum_ok T1 T2 hb6 h7, rnum_ok T3 T4 hb7 h8, rflag_ok hb8 h9, rnum_ok T5 T6 hb9 h10, Option.bind_some]
  rw [hg, Option.bind_some]
  simp only [span_Get_k0, Bool.false_eq_true, if_false, List.nil_append, right_spec, Option.bind_some]
theorem get_yes {b r : List UInt8} {s : Span} (hb : b.length ≤ 1099511627776) (h : pSpan b = some (s, r)) : span_Get ⟨b, false⟩ = some (s, ⟨r, !rightS s⟩) := by
 have := get_spec' b hb; rw [h] at this; exact this
theorem get_not {b : List UInt8} (hb : b.length ≤ 1099511627776) (h : pSpan b = none) : ∃ s, span_Get ⟨b, false⟩ = some (s, ⟨[], true⟩) := by
 have := get_spec' b hb; rw [h] at this; exact this
theorem rwide_badB {b : List UInt8} (hl : b.length ≤ 1099511627776) : ints_Reader_Wide ⟨b, true⟩ = some (0, ⟨[], true⟩) := by
 simp only [ints_Reader_Wide, get_spec b (by omega), Option.bind_some, if_true, ints_Reader_Wide_k1, Sum.elim_inr]
theorem get_lost {b : List UInt8} (hl : b.length ≤ 1099511627776) : ∃ s, span_Get ⟨b, true⟩ = some (s, ⟨[], true⟩) := by
 have T1 : (0 : Int) ≤ 1099511627776 := by omega
 have T2 : (1099511627776 : Int) < 9223372036854775808 := by omega
 have T3 : (0 : Int) ≤ 1073741824 := by omega
 have T4 : (1073741824 : Int) < 9223372036854775808 := by omega
 have T5 : (0 : Int) ≤ 4 := by omega
 have T6 : (4 : Int) < 9223372036854775808 := by omega
 simp only [span_Get, rwide_badB hl, rwide_bad, rtext_bad, rnum_bad T1 T2, rnum_bad T3 T4, rnum_bad T5 T6, rflag_bad, Option.bind_some, loop0]
 exact getTail _ _ _ _ _ _ _ _ _ _
def readS (b : List UInt8) : Option (Span × List UInt8) := match pSpan b with | none => none | some (s, r) => if rightS s = true then some (s, r) else none
def zeroS : Span := ⟨⟨0, 0⟩, 0, 0, strOf [], strOf [], 0, 0, false, []⟩
def readR (b : List UInt8) : Span × Int × Int := match readS b with | none => (zeroS, 0, 2) | some (s, r) => (s, ((b.length - r.length : Nat) : Int), 0)
theorem readS_put {s : Span} (hw : wfS s) (h : rightS s = true) (r : List UInt8) : readS (spanB s ++ r) = some (s, r) := by
 simp only [readS, pSpan_put hw h r, h, if_true]
theorem readS_sound {b r : List UInt8} {s : Span} (h : readS b = some (s, r)) : wfS s ∧ rightS s = true ∧ b = spanB s ++ r := by
 unfold readS at h
 split at h
 ·cases h
 ·rename_i s' r' hp
  split at h
  ·rename_i hr
   injection h with h; injection h with e1 e2; subst e1 e2
   have := pSpan_sound hp
   exact ⟨this.1, hr, this.2.2⟩
  ·cases h
theorem xget_attrs (x : Int × Reader) : ∀ (m i N : Nat) (b : List UInt8) (acc : List Attr), (i : Int) + m = x.1 → m < N → acc.length + m ≤ 50 → i + m ≤ 50 → b.length ≤ 1099511627776 →
  (∀ l r, pAttrs m b = some (l, r) → loopN (fun (s : List UInt8 × Bool × List Attr × Int) => gleaningref1_Reader_Span_l1 x s.1 s.2.1 s.2.2.1 s.2.2.2) N (b, false, acc, (i : Int)) = some (r, false, acc ++ l)) ∧
  (pAttrs m b = none → ∃ B acc', B.length ≤ b.length ∧ loopN (fun (s : List UInt8 × Bool × List Attr × Int) => gleaningref1_Reader_Span_l1 x s.1 s.2.1 s.2.2.1 s.2.2.2) N (b, false, acc, (i : Int)) = some (B, true, acc')) := by
 intro m
 induction m with
 | zero =>
  intro i N b acc hi hN _ _ _
  obtain ⟨N', rfl⟩ : ∃ N', N = N' + 1 := ⟨N - 1, by omega⟩
  refine ⟨fun l r h => ?_, fun h => by cases h⟩
  simp only [pAttrs, Option.some.injEq, Prod.mk.injEq] at h
  obtain ⟨rfl, rfl⟩ := h
  exact loop_r (by simp only [gleaningref1_Reader_Span_l1, dec_f (by omega : ¬ (i : Int) < x.1), Bool.false_eq_true, if_false, Option.bind_some, Sum.elim_inr, List.append_nil])
 | succ m ih =>
  intro i N b acc hi hN ha hi2 hb
  obtain ⟨N', rfl⟩ : ∃ N', N = N' + 1 := ⟨N - 1, by omega⟩
  have hfit : ∀ a : Attr, (acc ++ [a]).length * 32 ≤ 140737488355328 ∧ (acc ++ [a]).length ≤ 140737488355328 := fun a => attrs_fit (by simp; omega)
  have stop : ∀ (B : List UInt8) (a : List Attr), loopN (fun (s : List UInt8 × Bool × List Attr × Int) => gleaningref1_Reader_Span_l1 x s.1 s.2.1 s.2.2.1 s.2.2.2) N' (B, true, a, ((i + 1 : Nat) : Int)) = some (B, true, a) := by
   intro B a
   obtain ⟨N2, rfl⟩ : ∃ N2, N' = N2 + 1 := ⟨N' - 1, by omega⟩
   refine loop_r ?_
   simp only [gleaningref1_Reader_Span_l1]
   by_cases h : ((i + 1 : Nat) : Int) < x.1
   ·simp only [dec_t h, if_true, Bool.not_true, Bool.false_eq_true, if_false, Option.bind_some, Sum.elim_inr]
   ·simp only [dec_f h, Bool.false_eq_true, if_false, Option.bind_some, Sum.elim_inr]
  cases h1 : pT b with
  | none =>
   refine ⟨fun l r h => by simp [pAttrs, h1] at h, fun _ => ⟨b, acc ++ [⟨strOf [], strOf []⟩], Nat.le_refl _, ?_⟩⟩
   rw [loop_l (s' := (b, true, acc ++ [⟨strOf [], strOf []⟩], ((i + 1 : Nat) : Int)))]
   ·exact stop _ _
   ·simp only [gleaningref1_Reader_Span_l1, dec_t (by omega : (i : Int) < x.1), if_true, Bool.not_false, Option.bind_some, Sum.elim_inl, gleaningref1_Reader_Span_k2, xtext_no hb h1, xtext_bad hb, gd_pos (hfit _), ksuc (by omega : i < 1099511627776)]
  | some p =>
   obtain ⟨k, b1⟩ := p
   have hb1 := len_of (pT_sound h1) hb
   have hbb := len_of (pT_sound h1) (Nat.le_refl b.length)
   cases h2 : pT b1 with
   | none =>
    refine ⟨fun l r h => by simp [pAttrs, h1, h2] at h, fun _ => ⟨b1, acc ++ [⟨k, strOf []⟩], hbb, ?_⟩⟩
    rw [loop_l (s' := (b1, true, acc ++ [⟨k, strOf []⟩], ((i + 1 : Nat) : Int)))]
    ·exact stop _ _
    ·simp only [gleaningref1_Reader_Span_l1, dec_t (by omega : (i : Int) < x.1), if_true, Bool.not_false, Option.bind_some, Sum.elim_inl, gleaningref1_Reader_Span_k2, xtext_ok hb h1, xtext_no hb1 h2, gd_pos (hfit _), ksuc (by omega : i < 1099511627776)]
   | some p =>
    obtain ⟨v, b2⟩ := p
    have hb2 := len_of (pT_sound h2) hb1
    have hbb2 := len_of (pT_sound h2) (Nat.le_refl b1.length)
    have hstep : loopN (fun (s : List UInt8 × Bool × List Attr × Int) => gleaningref1_Reader_Span_l1 x s.1 s.2.1 s.2.2.1 s.2.2.2) (N' + 1) (b, false, acc, (i : Int)) = loopN (fun (s : List UInt8 × Bool × List Attr × Int) => gleaningref1_Reader_Span_l1 x s.1 s.2.1 s.2.2.1 s.2.2.2) N' (b2, false, acc ++ [⟨k, v⟩], ((i + 1 : Nat) : Int)) :=
     loop_l (by simp only [gleaningref1_Reader_Span_l1, dec_t (by omega : (i : Int) < x.1), if_true, Bool.not_false, Option.bind_some, Sum.elim_inl, gleaningref1_Reader_Span_k2, xtext_ok hb h1, xtext_ok hb1 h2, gd_pos (hfit _), ksuc (by omega : i < 1099511627776)])
    obtain ⟨g1, g2⟩ := ih (i + 1) N' b2 (acc ++ [⟨k, v⟩]) (by omega) (by omega) (by simp; omega) (by omega) hb2
    rw [hstep]
    refine ⟨fun l r h => ?_, fun h => ?_⟩
    ·simp only [pAttrs, h1, h2] at h
     split at h
     ·cases h
     ·rename_i l2 r2 h3
      simp only [Option.some.injEq, Prod.mk.injEq] at h
      obtain ⟨rfl, rfl⟩ := h
      rw [g1 _ _ h3]; simp
    ·simp only [pAttrs, h1, h2] at h
     split at h
     ·rename_i h3
      obtain ⟨B, acc', k1, k2⟩ := g2 h3
      exact ⟨B, acc', by omega, k2⟩
     ·cases h
theorem xgetTail (b : List UInt8) (x4 x6 x8 x10 : Int × Reader) (x12 x14 : ByteArray × Reader) (x16 x18 x20 : Int × Reader) (acc : List Attr) {m : Nat} (hm : b.length ≤ m) : ∃ s r, gleaningref1_Reader_Span_k0 x4 x6 x8 x10 x12 x14 x16 x18 x20 b true acc = some (s, r) ∧ r.Bad = true ∧ r.B.length ≤ m := by
 simp only [gleaningref1_Reader_Span_k0, if_true]
 exact ⟨_, _, rfl, rfl, hm⟩
theorem xloop0 (q : Reader) (B : List UInt8) (f : Bool) (acc : List Attr) : loopN (fun (s : List UInt8 × Bool × List Attr × Int) => gleaningref1_Reader_Span_l1 ((0 : Int), q) s.1 s.2.1 s.2.2.1 s.2.2.2) Fu (B, f, acc, 0) = some (B, f, acc) :=
 loop_now (by simp only [gleaningref1_Reader_Span_l1, dec_f (by omega : ¬ (0 : Int) < 0), Bool.false_eq_true, if_false, Option.bind_some, Sum.elim_inr])
theorem xget_spec (b : List UInt8) (hb : b.length ≤ 1099511627776) : match pSpan b with
  | none => ∃ s r, gleaningref1_Reader_Span ⟨b, false⟩ = some (s, r) ∧ r.Bad = true ∧ r.B.length ≤ b.length
  | some (s, r) => gleaningref1_Reader_Span ⟨b, false⟩ = some (s, ⟨r, !rightS s⟩) := by
 have T1 : (0 : Int) ≤ 1099511627776 := by omega
 have T2 : (1099511627776 : Int) < 9223372036854775808 := by omega
 have T3 : (0 : Int) ≤ 1073741824 := by omega
 have T4 : (1073741824 : Int) < 9223372036854775808 := by omega
 have T5 : (0 : Int) ≤ 4 := by omega
 have T6 : (4 : Int) < 9223372036854775808 := by omega
 have T7 : (0 : Int) ≤ 1 := by omega
 have T8 : (1 : Int) < 9223372036854775808 := by omega
 unfold pSpan
 cases h1 : pW b with
 | none => simp only [gleaningref1_Reader_Span, xnum_no hb h1, xnum_bad hb, xtext_bad hb, xint_bad T1 T2 hb, xint_bad T3 T4 hb, xint_bad T5 T6 hb, xint_bad T7 T8 hb, Option.bind_some, xloop0]; exact xgetTail _ _ _ _ _ _ _ _ _ _ _ (Nat.le_refl _)
 | some p =>
 obtain ⟨hi, b1⟩ := p
 have hb1 := len_of (pW_sound h1).2 hb
 have e1 := len_of (pW_sound h1).2 (Nat.le_refl b.length)
 dsimp only
 cases h2 : pW b1 with
 | none => simp only [gleaningref1_Reader_Span, xnum_ok hb h1, xnum_no hb1 h2, xnum_bad hb1, xtext_bad hb1, xint_bad T1 T2 hb1, xint_bad T3 T4 hb1, xint_bad T5 T6 hb1, xint_bad T7 T8 hb1, Option.bind_some, xloop0]; exact xgetTail _ _ _ _ _ _ _ _ _ _ _ e1
 | some p =>
 obtain ⟨lo, b2⟩ := p
 have hb2 := len_of (pW_sound h2).2 hb1
 have e2 := len_of (pW_sound h2).2 e1
 dsimp only
 cases h3 : pW b2 with
 | none => simp only [gleaningref1_Reader_Span, xnum_ok hb h1, xnum_ok hb1 h2, xnum_no hb2 h3, xnum_bad hb2, xtext_bad hb2, xint_bad T1 T2 hb2, xint_bad T3 T4 hb2, xint_bad T5 T6 hb2, xint_bad T7 T8 hb2, Option.bind_some, xloop0]; exact xgetTail _ _ _ _ _ _ _ _ _ _ _ e2
 | some p =>
 obtain ⟨id, b3⟩ := p
 have hb3 := len_of (pW_sound h3).2 hb2
 have e3 := len_of (pW_sound h3).2 e2
 dsimp only
 cases h4 : pW b3 with
 | none => simp only [gleaningref1_Reader_Span, xnum_ok hb h1, xnum_ok hb1 h2, xnum_ok hb2 h3, xnum_no hb3 h4, xtext_bad hb3, xint_bad T1 T2 hb3, xint_bad T3 T4 hb3, xint_bad T5 T6 hb3, xint_bad T7 T8 hb3, Option.bind_some, xloop0]; exact xgetTail _ _ _ _ _ _ _ _ _ _ _ e3
 | some p =>
 obtain ⟨pa, b4⟩ := p
 have hb4 := len_of (pW_sound h4).2 hb3
 have e4 := len_of (pW_sound h4).2 e3
 dsimp only
 cases h5 : pT b4 with
 | none => simp only [gleaningref1_Reader_Span, xnum_ok hb h1, xnum_ok hb1 h2, xnum_ok hb2 h3, xnum_ok hb3 h4, xtext_no hb4 h5, xtext_bad hb4, xint_bad T1 T2 hb4, xint_bad T3 T4 hb4, xint_bad T5 T6 hb4, xint_bad T7 T8 hb4, Option.bind_some, xloop0]; exact xgetTail _ _ _ _ _ _ _ _ _ _ _ e4
 | some p =>
 obtain ⟨sv, b5⟩ := p
 have hb5 := len_of (pT_sound h5) hb4
 have e5 := len_of (pT_sound h5) e4
 dsimp only
 cases h6 : pT b5 with
 | none => simp only [gleaningref1_Reader_Span, xnum_ok hb h1, xnum_ok hb1 h2, xnum_ok hb2 h3, xnum_ok hb3 h4, xtext_ok hb4 h5, xtext_no hb5 h6, xint_bad T1 T2 hb5, xint_bad T3 T4 hb5, xint_bad T5 T6 hb5, xint_bad T7 T8 hb5, Option.bind_some, xloop0]; exact xgetTail _ _ _ _ _ _ _ _ _ _ _ e5
 | some p =>
 obtain ⟨op, b6⟩ := p
 have hb6 := len_of (pT_sound h6) hb5
 have e6 := len_of (pT_sound h6) e5
 dsimp only
 cases h7 : pNum 1099511627776 b6 with
 | none =>
  obtain ⟨q, hq, hx⟩ := xint_no T1 T2 hb6 h7
  have hq' : q.length ≤ 1099511627776 := by omega
  simp only [gleaningref1_Reader_Span, xnum_ok hb h1, xnum_ok hb1 h2, xnum_ok hb2 h3, xnum_ok hb3 h4, xtext_ok hb4 h5, xtext_ok hb5 h6, hx, xint_bad T3 T4 hq', xint_bad T5 T6 hq', xint_bad T7 T8 hq', Option.bind_some, xloop0]; exact xgetTail _ _ _ _ _ _ _ _ _ _ _ (by omega)
 | some p =>
 obtain ⟨st, b7⟩ := p
 have hb7 := len_of (pNum_sound h7).2.2 hb6
 have e7 := len_of (pNum_sound h7).2.2 e6
 dsimp only
 cases h8 : pNum 1073741824 b7 with
 | none =>
  obtain ⟨q, hq, hx⟩ := xint_no T3 T4 hb7 h8
  have hq' : q.length ≤ 1099511627776 := by omega
  simp only [gleaningref1_Reader_Span, xnum_ok hb h1, xnum_ok hb1 h2, xnum_ok hb2 h3, xnum_ok hb3 h4, xtext_ok hb4 h5, xtext_ok hb5 h6, xint_ok T1 T2 hb6 h7, hx, xint_bad T5 T6 hq', xint_bad T7 T8 hq', Option.bind_some, xloop0]; exact xgetTail _ _ _ _ _ _ _ _ _ _ _ (by omega)
 | some p =>
 obtain ⟨du, b8⟩ := p
 have hb8 := len_of (pNum_sound h8).2.2 hb7
 have e8 := len_of (pNum_sound h8).2.2 e7
 dsimp only
 cases h9 : pNum 1 b8 with
 | none =>
  obtain ⟨q, hq, hx⟩ := xint_no T7 T8 hb8 h9
  have hq' : q.length ≤ 1099511627776 := by omega
  simp only [gleaningref1_Reader_Span, xnum_ok hb h1, xnum_ok hb1 h2, xnum_ok hb2 h3, xnum_ok hb3 h4, xtext_ok hb4 h5, xtext_ok hb5 h6, xint_ok T1 T2 hb6 h7, xint_ok T3 T4 hb7 h8, hx, xint_bad T5 T6 hq', Option.bind_some, xloop0]; exact xgetTail _ _ _ _ _ _ _ _ _ _ _ (by omega)
 | some p =>
 obtain ⟨er, b9⟩ := p
 have hb9 := len_of (pNum_sound h9).2.2 hb8
 have e9 := len_of (pNum_sound h9).2.2 e8
 dsimp only
 cases h10 : pNum 4 b9 with
 | none =>
  obtain ⟨q, hq, hx⟩ := xint_no T5 T6 hb9 h10
  simp only [gleaningref1_Reader_Span, xnum_ok hb h1, xnum_ok hb1 h2, xnum_ok hb2 h3, xnum_ok hb3 h4, xtext_ok hb4 h5, xtext_ok hb5 h6, xint_ok T1 T2 hb6 h7, xint_ok T3 T4 hb7 h8, xint_ok T7 T8 hb8 h9, hx, Option.bind_some, xloop0]; exact xgetTail _ _ _ _ _ _ _ _ _ _ _ (by omega)
 | some p =>
 obtain ⟨n, b10⟩ := p
 have hn := pNum_sound h10
 have hb10 := len_of hn.2.2 hb9
 have e10 := len_of hn.2.2 e9
 dsimp only
 obtain ⟨n', rfl⟩ := Int.eq_ofNat_of_zero_le hn.1.1
 have hn4 : n' ≤ 4 := by have := hn.2.1; omega
 obtain ⟨g1, g2⟩ := xget_attrs ((n' : Int), ⟨b10, false⟩) n' 0 Fu b10 [] (by simp) (by rw [fuPos]; omega) (by simp; omega) (by omega) hb10
 simp only [Int.toNat_natCast]
 cases h11 : pAttrs n' b10 with
 | none =>
  obtain ⟨B, acc, hB, hg⟩ := g2 h11
  simp only [Int.natCast_zero] at hg
  simp only [gleaningref1_Reader_Span, xnum_ok hb h1, xnum_ok hb1 h2, xnum_ok hb2 h3, xnum_ok hb3 h4, xtext_ok hb4 h5, xtext_ok hb5 h6, xint_ok T1 T2 hb6 h7, xint_ok T3 T4 hb7 h8, xint_ok T7 T8 hb8 h9, xint_ok T5 T6 hb9 h10, Option.bind_some]
  rw [hg, Option.bind_some]
  exact xgetTail B _ _ _ _ _ _ _ _ _ _ (show B.length ≤ b.length by omega)
 | some p =>
  obtain ⟨l, r⟩ := p
  have hg := g1 _ _ h11
  simp only [Int.natCast_zero] at hg
  simp only [gleaningref1_Reader_Span, xnum_ok hb h1, xnum_ok hb1 h2, xnum_ok hb2 h3, xnum_ok hb3 h4, xtext_ok hb4 h5, xtext_ok hb5 h6, xint_ok T1 T2 hb6 h7, xint_ok T3 T4 hb7 h8, xint_ok T7 T8 hb8 h9, xint_ok T5 T6 hb9 h10, Option.bind_some]
  rw [hg, Option.bind_some]
  simp only [gleaningref1_Reader_Span_k0, Bool.false_eq_true, if_false, List.nil_append, xright_spec, Option.bind_some]
theorem xget_yes {b r : List UInt8} {s : Span} (hb : b.length ≤ 1099511627776) (h : pSpan b = some (s, r)) : gleaningref1_Reader_Span ⟨b, false⟩ = some (s, ⟨r, !rightS s⟩) := by
 have := xget_spec b hb; rw [h] at this; exact this
theorem xget_not {b : List UInt8} (hb : b.length ≤ 1099511627776) (h : pSpan b = none) : ∃ s r, gleaningref1_Reader_Span ⟨b, false⟩ = some (s, r) ∧ r.Bad = true ∧ r.B.length ≤ b.length := by
 have := xget_spec b hb; rw [h] at this; exact this
end Go.Proofs.Ytdhpmlgalddgfaa.Ab
