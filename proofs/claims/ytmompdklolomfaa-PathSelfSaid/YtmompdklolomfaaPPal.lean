/- The document's example; what is waited for, and how long each was busy itself: the two answers are one. -/
import Derived.Test.YtmompdklolomfaaXPTells
import Derived.Test.YtmompdklolomfaaPSlf
namespace Go.Proofs.Ytmompdklolomfaa.Ab
open Go Go.RowKit
set_option linter.unusedVariables false
set_option linter.unusedSimpArgs false
def sp1 : Span := Span.mk (Trace.mk 0 0) 1 9 (strOf [97]) (strOf [98]) 2 700 false []
def sp2 : Span := Span.mk (Trace.mk 0 0) 2 1 (strOf [97]) (strOf [98]) 2 300 false []
theorem al_right : ([sp1, sp2] : List Span).all rightS = true := by decide +kernel
theorem al_par : parF [sp1, sp2] = [-1, 0] := by decide +kernel
theorem al_kids (p : Int) : kidsF [sp1, sp2] p = if p = -1 then [0] else if p = 0 then [1] else [] := by
 unfold kidsF chU
 rw [al_par]
 by_cases h : p = -1
 ·subst h; rfl
 ·by_cases h0 : p = 0
  ·subst h0; rfl
  ·rw [if_neg h, if_neg h0]
   have : (List.range ([sp1, sp2] : List Span).length).filter (fun i => decide (([-1, 0] : List Int)[i]? = some p)) = [] := by
    rw [List.filter_eq_nil_iff]
    intro i hi
    have hi' : i < 2 := by simpa using hi
    rw [decide_eq_true_iff]
    rcases Nat.lt_or_ge i 1 with h1 | h1
    ·have : i = 0 := by omega
     subst this
     intro e; injection e with e; exact h e.symm
    ·have : i = 1 := by omega
     subst this
     intro e; injection e with e; exact h0 e.symm
   rw [this]; rfl
theorem al_crit : ∃ X, path_Critical [sp1, sp2] = some X ∧ X.length = 2 ∧ X[1]? = some 1 := by
 obtain ⟨X, h1, _, h2⟩ := crit_spec [sp1, sp2] (by decide)
 obtain ⟨h3, h4⟩ := h2 al_right
 refine ⟨X, h1, ?_⟩
 match X, h3, h4 with
 | [], _, h4 => rw [al_kids] at h4; cases h4
 | [x], h3, h4 =>
  have hx := (h3 0 x rfl).1
  rw [show prevO [x] 0 = -1 from rfl, al_kids, if_pos rfl] at hx
  have hx0 := List.mem_singleton.1 hx
  subst hx0
  rw [show prevO [(0 : Int)] [(0 : Int)].length = 0 from rfl, al_kids] at h4; cases h4
 | x :: y :: r, h3, h4 =>
  have hx := (h3 0 x rfl).1
  rw [show prevO (x :: y :: r) 0 = -1 from rfl, al_kids, if_pos rfl] at hx
  have hx0 := List.mem_singleton.1 hx
  subst hx0
  have hy := (h3 1 y rfl).1
  rw [show prevO (0 :: y :: r) 1 = 0 from rfl, al_kids, if_neg (by decide), if_pos rfl] at hy
  have hy1 := List.mem_singleton.1 hy
  subst hy1
  match r, h3 with
  | [], _ => exact ⟨rfl, rfl⟩
  | z :: r, h3 =>
   have hz := (h3 2 z rfl).1
   rw [show prevO (0 :: 1 :: z :: r) 2 = 1 from rfl, al_kids, if_neg (by decide), if_neg (by decide)] at hz
   cases hz
theorem al_crit0 : path_Critical [] = some [] := by
 obtain ⟨X, h1, _, h2⟩ := crit_spec [] (by decide)
 have := chn_len (h2 rfl).1
 have hX : X = [] := List.eq_nil_of_length_eq_zero (by simpa using this)
 rw [h1, hX]
theorem al_self : path_Self [sp1, sp2] 0 = some 400 := by
 rw [pself_spec _ (by decide), if_pos ⟨by decide, al_right⟩]
 unfold selfF
 have e1 : (chU (parF [sp1, sp2]) 0 ([sp1, sp2] : List Span).length).map (ivl [sp1, sp2]) = [(2000, 2300)] := by rw [al_par]; decide +kernel
 have e2 : aOf [sp1, sp2] 0 = 2000 := by decide +kernel
 have e3 : eOf [sp1, sp2] 0 = 2700 := by decide +kernel
 rw [e1, e2, e3, cnt_split _ (u := 2000) (w := 2300) (v := 2700) (by decide) (by decide), cnt_none (u := 2000) (v := 2300) (fun t h1 h2 => fr_in h1 h2), cnt_all (u := 2300) (v := 2700) (fun t h1 h2 => by rw [fr_out (.inr h1)]; rfl)]
 rfl
theorem al_ends : endsF sp1 = (2000, 2700) := by decide +kernel
theorem alive30 : gleaninglaw30_alive = some true := by
 unfold gleaninglaw30_alive
 obtain ⟨X, h1, h2, h3⟩ := al_crit
 show Option.bind (some sp1) _ = _
 rw [Option.bind_some, pends_spec, Option.bind_some, al_ends]
 rw [show path_Critical [Span.mk (Trace.mk 0 0) 1 9 (strOf [97]) (strOf [98]) 2 700 false [], Span.mk (Trace.mk 0 0) 2 1 (strOf [97]) (strOf [98]) 2 300 false []] = some X from h1, Option.bind_some, al_crit0, Option.bind_some]
 rw [h2, h3]
 show Option.bind (path_Self [sp1, sp2] 0) (fun x => some (x == 400)) = some true
 rw [al_self]; rfl
theorem fit112 {n : Nat} (h : n ≤ 60) : n * 112 ≤ 140737488355328 ∧ n ≤ 140737488355328 := by omega
theorem pathTells_true (l : List Span) (s : Span) (i : Int) (hl : (List.length l) ≤ maxLen ∧ ∀ y ∈ l, Span.wf y) (hs : Span.wf s) (hi : inI .i64 i) : gleaninglaw30_PathTells l s i = some true := by
 unfold gleaninglaw30_PathTells
 rw [alive30, Option.bind_some, Bool.not_true, ite_ff]
 obtain ⟨b, hb, hb2⟩ := fewAll_spec l
 obtain ⟨c, hc, _⟩ := few_spec s
 rw [hb, Option.bind_some]
 cases b with
 | false => rfl
 | true =>
  have h60 := (hb2 rfl).1
  rw [Bool.not_true, ite_ff, hc, Option.bind_some]
  cases c with
  | false => rfl
  | true =>
   rw [Bool.not_true, ite_ff, Option.bind_some]
   show gleaninglaw30_PathTells_k0 l s i = some true
   unfold gleaninglaw30_PathTells_k0
   obtain ⟨X, x1, x2, x3⟩ := crit_spec l h60
   rw [pends_spec, Option.bind_some, rends_spec, Option.bind_some, gd_pos (fit112 h60), x1, Option.bind_some, x2, Option.bind_some, pself_spec l h60, Option.bind_some, rself_spec l h60, Option.bind_some]
   rw [ite_f (by simp), ite_f (by simp), ite_f (by simp), ite_f (by simp), Option.bind_some]
   show gleaninglaw30_PathTells_k1 X X = some true
   unfold gleaninglaw30_PathTells_k1
   have hX : X.length ≤ 60 := by
    cases hr : l.all rightS with
    | true => exact Nat.le_trans (chn_len (x3 hr).1) h60
    | false =>
     have : X = [] := by
      unfold path_Critical at x1
      rw [sall_spec l (by omega), Option.bind_some, hr] at x1
      injection x1 with x1
      exact x1.symm
     rw [this]; simp
   refine loop_fu (fun n q r => ∃ k : Nat, q = (k : Int) ∧ k + n = X.length ∧ r = true) ?_ (n := X.length) ⟨0, rfl, by omega, rfl⟩ (by omega)
   rintro n q r ⟨k, rfl, hk, rfl⟩
   show (∃ s' m, gleaninglaw30_PathTells_l2 X X (k : Int) = _ ∧ _) ∨ gleaninglaw30_PathTells_l2 X X (k : Int) = _
   unfold gleaninglaw30_PathTells_l2
   by_cases hlt : k < X.length
   ·rw [ite_t (lt_d hlt), gd_pos (by omega), Int.toNat_natCast, List.getElem?_eq_getElem hlt, Option.bind_some, gd_pos (by omega), Option.bind_some, ite_f (by simp), wp1 (by omega)]
    exact .inl ⟨_, n - 1, rfl, by omega, k + 1, rfl, by omega, rfl⟩
   ·rw [ite_f (lt_n hlt)]
    exact .inr rfl
end Go.Proofs.Ytmompdklolomfaa.Ab
