/- Chapter 32: search, told plainly: which traces are found. -/
import Derived.Test.YtnhjcpnoadicpaaXS1
import Derived.Test.YtnhjcpnoadicpaaPSearchF
namespace Go.Proofs.Ytnhjcpnoadicpaa.Ab
open Go Go.RowKit Go.Lib Go.Proofs
set_option linter.unusedVariables false
set_option linter.unusedSimpArgs false
/-! ### which spans -/
def restF (q : Query) (s : Span) : Bool := (decide (q.Key = strOf []) && decide (q.Value = strOf [])) || s.Attrs.any (fun a => decide (q.Key = a.Key) && decide (q.Value = a.Value))
def matchF (q : Query) (s : Span) : Bool := (decide (q.Service = strOf []) || decide (q.Service = s.Service)) && ((decide (q.Op = strOf []) || decide (q.Op = s.Op)) && ((decide (q.Dur = 0) || !decide (s.Dur < q.Dur)) && ((!q.Err || s.Err) && restF q s)))
theorem contains_spec (l : List Attr) (k v : ByteArray) (hl : l.length ≤ 1000000) : slices_Contains_Attr l ⟨k, v⟩ = some (l.any (fun a => decide (k = a.Key) && decide (v = a.Value))) := by
  obtain ⟨r, h1, h2⟩ := loop_has (body := fun (s : Int) => slices_Index_Attr_l0 l ⟨k, v⟩ s) (fun a : Attr => decide (k = a.Key) && decide (v = a.Value)) l (by omega) (fun j hj => by
    simp only [slices_Index_Attr_l0, dec_t (by omega : (j : Int) < (l.length : Int)), if_true, gd_pos (by omega : (0 : Int) ≤ (j : Int)), Int.toNat_natCast, List.getElem?_eq_getElem hj, Option.bind_some, str_beq, Bool.and_true, ksucc (by omega : j < 1099511627776)]) (by simp only [slices_Index_Attr_l0, dec_f (by omega : ¬ (l.length : Int) < (l.length : Int)), Bool.false_eq_true, if_false])
  rw [slices_Contains_Attr, slices_Index_Attr, h1, Option.bind_some, h2]
theorem rest_spec (q : Query) (s : Span) (hs : s.Attrs.length ≤ 1000000) : search_Match_k0 q s = some (restF q s) := by
  unfold search_Match_k0 restF
  simp only [str_beq, contains_spec _ _ _ hs, Option.bind_some]
  by_cases h1 : q.Key = strOf []
  · by_cases h2 : q.Value = strOf []
    · simp [h1, h2]
    · simp [h1, h2]
  · simp [h1]
theorem bne_dec (x y : Int) : (x != y) = !decide (x = y) := by
  by_cases h : x = y
  · simp [h]
  · simp [h]
theorem match_spec (q : Query) (s : Span) (hs : s.Attrs.length ≤ 1000000) : search_Match q s = some (matchF q s) := by
  unfold search_Match matchF search_Match_k1
  simp only [str_beq, bne_dec, rest_spec q s hs]
  generalize decide (q.Service = strOf []) = a
  generalize decide (q.Service = s.Service) = b
  generalize decide (q.Op = strOf []) = c
  generalize decide (q.Op = s.Op) = d
  generalize decide (q.Dur = 0) = e
  generalize decide (s.Dur < q.Dur) = g
  generalize q.Err = x
  generalize s.Err = y
  generalize restF q s = r
  cases a <;> cases b <;> cases c <;> cases d <;> cases e <;> cases g <;> cases x <;> cases y <;> cases r <;> rfl
theorem refrest_spec (q : Query) (s : Span) (hs : s.Attrs.length ≤ 1000000) : gleaningref28_Match_k0 q s = some (restF q s) := by
  have hloop : ∀ b : Bool, gleaningref28_Match_k1 q s b = some (b || s.Attrs.any (fun a => decide (q.Key = a.Key) && decide (q.Value = a.Value))) := fun b => by
    unfold gleaningref28_Match_k1
    refine loop_list (l := s.Attrs) (fun k r st => st = (b || (s.Attrs.take k).any (fun a => decide (q.Key = a.Key) && decide (q.Value = a.Value)), (k : Int)) ∧ r = (b || s.Attrs.any (fun a => decide (q.Key = a.Key) && decide (q.Value = a.Value)))) (by omega) ?_ ?_ ⟨by simp, rfl⟩
    · rintro k hk r st ⟨rfl, rfl⟩
      refine .inl ⟨(b || (s.Attrs.take (k + 1)).any (fun a => decide (q.Key = a.Key) && decide (q.Value = a.Value)), ((k + 1 : Nat) : Int)), ?_, rfl, rfl⟩
      rw [List.take_succ_eq_append_getElem hk, List.any_append]
      simp only [gleaningref28_Match_l2, dec_t (by omega : (k : Int) < (s.Attrs.length : Int)), if_true, gd_pos (by omega : (0 : Int) ≤ (k : Int)), Int.toNat_natCast, List.getElem?_eq_getElem hk, Option.bind_some, str_beq, ksucc (by omega : k < 1099511627776), List.any_cons, List.any_nil, Bool.or_false]
      cases hx : (b || (s.Attrs.take k).any (fun a => decide (q.Key = a.Key) && decide (q.Value = a.Value))) with
      | true => simp [← Bool.or_assoc, hx]
      | false =>
        rw [← Bool.or_assoc, hx]
        simp only [Bool.false_eq_true, if_false, Bool.false_or]
        by_cases e1 : q.Key = s.Attrs[k].Key
        · by_cases e2 : q.Value = s.Attrs[k].Value
          · simp [e1, e2]
          · have : s.Attrs[k].Value ≠ q.Value := fun h => e2 h.symm
            simp [e1, e2, this]
        · have : s.Attrs[k].Key ≠ q.Key := fun h => e1 h.symm
          simp [e1, this]
    · rintro r st ⟨rfl, rfl⟩
      simp only [gleaningref28_Match_l2, dec_f (by omega : ¬ (s.Attrs.length : Int) < (s.Attrs.length : Int)), Bool.false_eq_true, if_false, List.take_length]
  unfold gleaningref28_Match_k0 restF
  simp only [str_beq]
  by_cases h1 : q.Key = strOf []
  · simp [h1, hloop]
  · simp [h1, hloop]
theorem refmatch_spec (q : Query) (s : Span) (hs : s.Attrs.length ≤ 1000000) : gleaningref28_Match q s = some (matchF q s) := by
  unfold gleaningref28_Match matchF
  simp only [str_beq, bne_dec, refrest_spec q s hs]
  generalize decide (q.Service = strOf []) = a
  generalize decide (q.Service = s.Service) = b
  generalize decide (q.Op = strOf []) = c
  generalize decide (q.Op = s.Op) = d
  generalize decide (q.Dur = 0) = e
  generalize decide (s.Dur < q.Dur) = g
  generalize q.Err = x
  generalize s.Err = y
  generalize restF q s = r
  cases a <;> cases b <;> cases c <;> cases d <;> cases e <;> cases g <;> cases x <;> cases y <;> cases r <;> rfl
end Go.Proofs.Ytnhjcpnoadicpaa.Ab
