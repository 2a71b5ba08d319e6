/- What a trace waited for: the program's answer, the document's, and what is known of it. -/
import Derived.Test.YtmompdklolomfaaXPath
import Derived.Test.YtmompdklolomfaaPKid
namespace Go.Proofs.Ytmompdklolomfaa.Ab
open Go Go.RowKit
set_option linter.unusedVariables false
set_option linter.unusedSimpArgs false
def endsF (s : Span) : Int × Int := if rightS s = true then (s.Start * 1000, s.Start * 1000 + s.Dur) else (0, 0)
theorem ends_w {s : Span} (h : rightS s = true) : IntKind.i64.wrap (s.Start * 1000) = s.Start * 1000 ∧ IntKind.i64.wrap (s.Start * 1000 + s.Dur) = s.Start * 1000 + s.Dur := by
 obtain ⟨_, _, _, h1, h2, h3, h4, _⟩ := rightS_of h
 exact ⟨w64 (by omega) (by omega), w64 (by omega) (by omega)⟩
theorem pends_spec (s : Span) : path_Ends s = some (endsF s) := by
 unfold path_Ends endsF
 rw [right_spec, Option.bind_some]
 cases h : rightS s with
 | false => rfl
 | true => rw [Bool.not_true, ite_ff, (ends_w h).1, (ends_w h).2]; rfl
theorem rends_spec (s : Span) : gleaningref28_Ends s = some (endsF s) := by
 unfold gleaningref28_Ends endsF
 rw [xright_spec, Option.bind_some]
 cases h : rightS s with
 | false => rfl
 | true => rw [Bool.not_true, ite_ff, (ends_w h).1, (ends_w h).2]; rfl
def eOf (l : List Span) (x : Int) : Int := match l[x.toNat]? with | some s => (endsF s).2 | none => 0
theorem ends_pos (s : Span) : 0 ≤ (endsF s).2 := by
 unfold endsF
 split
 ·rename_i h
  obtain ⟨_, _, _, h1, h2, h3, h4, _⟩ := rightS_of h
  dsimp only; omega
 ·exact Int.le_refl _
theorem e_get {l : List Span} {x : Int} (h : okP l x) : ∃ s, l[x.toNat]? = some s ∧ eOf l x = (endsF s).2 := ⟨l[x.toNat]'h.2, List.getElem?_eq_getElem h.2, by simp [eOf, List.getElem?_eq_getElem h.2]⟩
theorem e_pos (l : List Span) (x : Int) : 0 ≤ eOf l x := by
 unfold eOf
 split
 ·exact ends_pos _
 ·exact Int.le_refl _
def lstO (l : List Span) : Int → List Int → Int
 | b, [] => b
 | b, x :: r => lstO l (if eOf l b < eOf l x then x else b) r
theorem lstO_mem (l : List Span) : ∀ (r : List Int) (b : Int), lstO l b r = b ∨ lstO l b r ∈ r
 | [], b => .inl rfl
 | x :: r, b => by
  show lstO l (if eOf l b < eOf l x then x else b) r = b ∨ _
  rcases lstO_mem l r (if eOf l b < eOf l x then x else b) with h | h
  ·rw [h]
   show _ ∨ lstO l (if eOf l b < eOf l x then x else b) r ∈ _
   rw [h]
   split
   ·exact .inr List.mem_cons_self
   ·exact .inl rfl
  ·exact .inr (List.mem_cons_of_mem _ h)
theorem lstO_max (l : List Span) : ∀ (r : List Int) (b : Int), eOf l b ≤ eOf l (lstO l b r) ∧ ∀ y ∈ r, eOf l y ≤ eOf l (lstO l b r)
 | [], b => ⟨Int.le_refl _, by simp⟩
 | x :: r, b => by
  obtain ⟨h1, h2⟩ := lstO_max l r (if eOf l b < eOf l x then x else b)
  show eOf l b ≤ eOf l (lstO l (if eOf l b < eOf l x then x else b) r) ∧ ∀ y ∈ x :: r, eOf l y ≤ eOf l (lstO l (if eOf l b < eOf l x then x else b) r)
  have h3 : eOf l b ≤ eOf l (if eOf l b < eOf l x then x else b) ∧ eOf l x ≤ eOf l (if eOf l b < eOf l x then x else b) := by split <;> omega
  refine ⟨by omega, fun y hy => ?_⟩
  rcases List.mem_cons.1 hy with rfl | hy
  ·omega
  ·exact h2 y hy
def bestK (l : List Span) (k : List Int) : Int := match k with | [] => 0 | x :: r => lstO l x r
theorem lat_loop (l : List Span) (k : List Int) (hk : k.length ≤ 10000) (hok : ∀ y ∈ k, okP l y) : ∀ (n i : Nat) (b : Int) (N : Nat), i + n = k.length → n < N →
  loopN (fun (s : Int × Int × Int) => path_latest_l1 l k s.1 s.2.1 s.2.2) N (b, eOf l b, (i : Int)) = some (lstO l b (k.drop i)) := by
 intro n
 induction n with
 | zero =>
  intro i b N hi hN
  obtain ⟨N, rfl⟩ : ∃ M, N = M + 1 := ⟨N - 1, by omega⟩
  rw [List.drop_eq_nil_of_le (by omega)]
  refine loop_r ?_
  show path_latest_l1 l k b (eOf l b) (i : Int) = _
  unfold path_latest_l1
  rw [ite_f (lt_n (by omega))]; rfl
 | succ n ih =>
  intro i b N hi hN
  obtain ⟨N, rfl⟩ : ∃ M, N = M + 1 := ⟨N - 1, by omega⟩
  have hlt : i < k.length := by omega
  obtain ⟨s, h1, h2⟩ := e_get (hok k[i] (List.getElem_mem hlt))
  have hb : path_latest_l1 l k b (eOf l b) (i : Int) = some (.inl ((if eOf l b < eOf l k[i] then k[i] else b), eOf l (if eOf l b < eOf l k[i] then k[i] else b), ((i + 1 : Nat) : Int))) := by
   unfold path_latest_l1
   rw [ite_t (lt_d hlt), gd_pos (by omega), Int.toNat_natCast, List.getElem?_eq_getElem hlt, Option.bind_some, gd_pos (hok k[i] (List.getElem_mem hlt)).1, h1, Option.bind_some, pends_spec, Option.bind_some, wp1 (by omega), h2]
   by_cases h : eOf l b < (endsF s).2
   ·rw [ite_t (dec_t h), if_pos h, h2]
   ·rw [ite_f (dec_f h), if_neg h]
  rw [loop_l hb, ih (i + 1) _ N (by omega) (by omega), List.drop_eq_getElem_cons hlt]
  rfl
theorem latest_spec (l : List Span) (k : List Int) (hk : k.length ≤ 10000) (hok : ∀ y ∈ k, okP l y) : path_latest l k = some (bestK l k, decide (k ≠ [])) := by
 unfold path_latest
 cases k with
 | nil =>
  have : loopN (fun (s : Int × Int × Int) => path_latest_l1 l [] s.1 s.2.1 s.2.2) Fu (0, -1, 0) = some 0 := by
   rw [fuPos]
   refine loop_r ?_
   show path_latest_l1 l [] 0 (-1) 0 = _
   rfl
  rw [this]; rfl
 | cons x r =>
  obtain ⟨s, h1, h2⟩ := e_get (hok x List.mem_cons_self)
  have hb : path_latest_l1 l (x :: r) 0 (-1) 0 = some (.inl (x, eOf l x, ((1 : Nat) : Int))) := by
   unfold path_latest_l1
   have : -1 < (endsF s).2 := by have := ends_pos s; omega
   rw [ite_t (dec_t (by simp)), gd_pos (by omega)]
   show Option.bind (some x) _ = _
   rw [Option.bind_some, gd_pos (hok x List.mem_cons_self).1, h1, Option.bind_some, pends_spec, Option.bind_some, ite_t (dec_t this), h2]
   rfl
  rw [fuPos, loop_l hb, lat_loop l (x :: r) hk hok r.length 1 x _ (by simp; omega) (by simp at hk; omega), Option.bind_some]
  unfold path_latest_k0
  show some (lstO l x r, _) = some (lstO l x r, _)
  congr 2
  rw [decide_eq_decide]; simp
theorem rbest_loop (l : List Span) (k : List Int) (hk : k.length ≤ 10000) (hok : ∀ y ∈ k, okP l y) : ∀ (n i : Nat) (b : Int) (N : Nat), i + n = k.length → okP l b → n < N →
  loopN (fun (s : Int × Int) => gleaningref28_Critical_l2 l k s.1 s.2) N (b, (i : Int)) = some (lstO l b (k.drop i)) := by
 intro n
 induction n with
 | zero =>
  intro i b N hi hb hN
  obtain ⟨N, rfl⟩ : ∃ M, N = M + 1 := ⟨N - 1, by omega⟩
  rw [List.drop_eq_nil_of_le (by omega)]
  refine loop_r ?_
  show gleaningref28_Critical_l2 l k b (i : Int) = _
  unfold gleaningref28_Critical_l2
  rw [ite_f (lt_n (by omega))]; rfl
 | succ n ih =>
  intro i b N hi hob hN
  obtain ⟨N, rfl⟩ : ∃ M, N = M + 1 := ⟨N - 1, by omega⟩
  have hlt : i < k.length := by omega
  have hoi := hok k[i] (List.getElem_mem hlt)
  obtain ⟨s, h1, h2⟩ := e_get hoi
  obtain ⟨t, h3, h4⟩ := e_get hob
  have hb : gleaningref28_Critical_l2 l k b (i : Int) = some (.inl ((if eOf l b < eOf l k[i] then k[i] else b), ((i + 1 : Nat) : Int))) := by
   unfold gleaningref28_Critical_l2
   rw [ite_t (lt_d hlt), gd_pos (by omega), Int.toNat_natCast, List.getElem?_eq_getElem hlt, Option.bind_some, gd_pos hoi.1, h1, Option.bind_some, rends_spec, Option.bind_some, gd_pos hob.1, h3, Option.bind_some, rends_spec, Option.bind_some, wp1 (by omega), h2, h4]
   by_cases h : (endsF t).2 < (endsF s).2
   ·rw [ite_t (dec_t h), if_pos h, gd_pos (by omega), Option.bind_some]
   ·rw [ite_f (dec_f h), if_neg h]
  rw [loop_l hb, ih (i + 1) _ N (by omega) (by split <;> assumption) (by omega), List.drop_eq_getElem_cons hlt]
  rfl
def prevO (out : List Int) (j : Nat) : Int := if j = 0 then -1 else (out[j - 1]?).getD (-1)
def Chn (l : List Span) (out : List Int) : Prop := ∀ (j : Nat) (x : Int), out[j]? = some x → x ∈ kidsF l (prevO out j) ∧ ∀ y ∈ kidsF l (prevO out j), eOf l y ≤ eOf l x
theorem chn_inj {l : List Span} {out : List Int} (h : Chn l out) : ∀ (a b : Nat) (x : Int), a < b → out[a]? = some x → out[b]? = some x → False := by
 intro a
 induction a with
 | zero =>
  intro b x hab h1 h2
  obtain ⟨i, i1, i2, i3⟩ := kids_mem.1 (h 0 x h1).1
  obtain ⟨j, j1, j2, j3⟩ := kids_mem.1 (h b x h2).1
  have : i = j := by omega
  subst this
  rw [i2] at j2
  injection j2 with j2
  obtain ⟨z, hz⟩ : ∃ z, out[b - 1]? = some z := ⟨_, List.getElem?_eq_getElem (by have := (List.getElem?_eq_some_iff.1 h2).1; omega)⟩
  have hz2 := (kids_ok z (h (b - 1) z hz).1).1
  simp only [prevO, if_pos rfl, if_neg (show ¬ b = 0 by omega), hz, Option.getD_some] at j2
  simp at j2
  omega
 | succ a ih =>
  intro b x hab h1 h2
  obtain ⟨i, i1, i2, i3⟩ := kids_mem.1 (h (a + 1) x h1).1
  obtain ⟨j, j1, j2, j3⟩ := kids_mem.1 (h b x h2).1
  have : i = j := by omega
  subst this
  rw [i2] at j2
  injection j2 with j2
  obtain ⟨y, hy⟩ : ∃ y, out[a]? = some y := ⟨_, List.getElem?_eq_getElem (by have := (List.getElem?_eq_some_iff.1 h1).1; omega)⟩
  obtain ⟨z, hz⟩ : ∃ z, out[b - 1]? = some z := ⟨_, List.getElem?_eq_getElem (by have := (List.getElem?_eq_some_iff.1 h2).1; omega)⟩
  simp only [prevO, if_neg (show ¬ b = 0 by omega), if_neg (show ¬ a + 1 = 0 by omega), Nat.add_sub_cancel, hy, hz, Option.getD_some] at j2
  subst j2
  exact ih (b - 1) y (by omega) hy hz
theorem chn_len {l : List Span} {out : List Int} (h : Chn l out) : out.length ≤ l.length := by
 rcases Nat.lt_or_ge l.length out.length with hlt | hge
 ·exfalso
  obtain ⟨a, b, h1, h2, h3⟩ := pigeon l.length out.length (fun j => ((out[j]?).getD 0).toNat) (fun j hj => by
   rw [List.getElem?_eq_getElem hj, Option.getD_some]
   exact (kids_ok _ (h j _ (List.getElem?_eq_getElem hj)).1).2) hlt
  rw [List.getElem?_eq_getElem (by omega : a < out.length), List.getElem?_eq_getElem h2, Option.getD_some, Option.getD_some] at h3
  have ha := (kids_ok _ (h a _ (List.getElem?_eq_getElem (by omega : a < out.length))).1).1
  have hb := (kids_ok _ (h b _ (List.getElem?_eq_getElem h2)).1).1
  have e : out[a] = out[b] := by omega
  exact chn_inj h a b out[b] h1 (by rw [List.getElem?_eq_getElem (by omega : a < out.length), e]) (List.getElem?_eq_getElem h2)
 ·exact hge
theorem prevO_app {out : List Int} {b : Int} {j : Nat} (h : j ≤ out.length) : prevO (out ++ [b]) j = prevO out j := by
 unfold prevO
 split
 ·rfl
 ·rw [List.getElem?_append_left (by omega)]
theorem chn_app {l : List Span} {out : List Int} {x : Int} {r : List Int} (h : Chn l out) (hk : kidsF l (prevO out out.length) = x :: r) : Chn l (out ++ [lstO l x r]) := by
 intro j y hj
 by_cases e : j < out.length
 ·rw [List.getElem?_append_left e] at hj
  rw [prevO_app (by omega)]
  exact h j y hj
 ·have hjl := (List.getElem?_eq_some_iff.1 hj).1
  simp at hjl
  have : j = out.length := by omega
  subst this
  simp at hj
  subst hj
  rw [prevO_app (Nat.le_refl _), hk]
  obtain ⟨h1, h2⟩ := lstO_max l r x
  refine ⟨?_, fun y hy => ?_⟩
  ·rcases lstO_mem l r x with h | h
   ·rw [h]; exact List.mem_cons_self
   ·exact List.mem_cons_of_mem _ h
  ·rcases List.mem_cons.1 hy with rfl | hy
   ·exact h1
   ·exact h2 y hy
theorem prevO_end {out : List Int} {b : Int} : prevO (out ++ [b]) (out ++ [b]).length = b := by
 unfold prevO
 simp
theorem allKids_of {l : List Span} {x : Int} (h : okP l x) : (allKids l)[x.toNat]? = some (kidsF l x) := by
 rw [allKids_at h.2]; congr 2; have := h.1; omega
theorem crit_loops (l : List Span) (hl : l.length ≤ 60) : ∀ (f : Nat) (out : List Int) (N : Nat), Chn l out → out.length + f = l.length + 1 → f < N →
  ∃ X, loopN (fun (s : List Int × List Int) => path_Critical_l0 l (allKids l) s.1 s.2) N (out, kidsF l (prevO out out.length)) = some X ∧ loopN (fun (s : List Int × List Int) => gleaningref28_Critical_l0 l (parF l) s.1 s.2) N (out, kidsF l (prevO out out.length)) = some X ∧ Chn l X ∧ kidsF l (prevO X X.length) = []
 | 0, out, N, h, hf, hN => by have := chn_len h; omega
 | f + 1, out, N, h, hf, hN => by
  obtain ⟨N, rfl⟩ : ∃ M, N = M + 1 := ⟨N - 1, by omega⟩
  have hok : ∀ y ∈ kidsF l (prevO out out.length), okP l y := kids_ok
  have hkl : (kidsF l (prevO out out.length)).length ≤ 10000 := Nat.le_trans (kids_len_le _ _) (by omega)
  have hlat := latest_spec l _ hkl hok
  have hpb : path_Critical_l0 l (allKids l) out (kidsF l (prevO out out.length)) = if kidsF l (prevO out out.length) = [] then some (.inr out) else some (.inl (out ++ [bestK l (kidsF l (prevO out out.length))], kidsF l (bestK l (kidsF l (prevO out out.length))))) := by
   unfold path_Critical_l0
   rw [hlat, Option.bind_some]
   dsimp only
   by_cases e : kidsF l (prevO out out.length) = []
   ·rw [if_pos e, ite_t (by simp [e])]
   ·rw [if_neg e, ite_f (by simp [e])]
    have hob : okP l (bestK l (kidsF l (prevO out out.length))) := by
     refine hok _ ?_
     cases hk : kidsF l (prevO out out.length) with
     | nil => exact absurd hk e
     | cons x r =>
      show lstO l x r ∈ _
      rcases lstO_mem l r x with h | h
      ·rw [h]; exact List.mem_cons_self
      ·exact List.mem_cons_of_mem _ h
    rw [gd_pos (fitI (by simp; omega)), gd_pos hob.1, allKids_of hob, Option.bind_some]
  have hrb : gleaningref28_Critical_l0 l (parF l) out (kidsF l (prevO out out.length)) = if kidsF l (prevO out out.length) = [] then some (.inr out) else some (.inl (out ++ [bestK l (kidsF l (prevO out out.length))], kidsF l (bestK l (kidsF l (prevO out out.length))))) := by
   unfold gleaningref28_Critical_l0
   cases hk : kidsF l (prevO out out.length) with
   | nil => rfl
   | cons x r =>
    rw [hk] at hok hkl
    have e0 : (((0 : Nat) : Int)) = 0 := rfl
    have hl2 := rbest_loop l (x :: r) hkl hok (x :: r).length 0 x Fu (by simp) (hok x List.mem_cons_self) (by rw [fu_eq]; omega)
    rw [e0, List.drop_zero] at hl2
    have hxx : lstO l x (x :: r) = lstO l x r := by
     show lstO l (if eOf l x < eOf l x then x else x) r = _
     rw [if_neg (by omega)]
    rw [ite_t (dec_t (by simp))]
    show Option.bind (some x) _ = _
    rw [Option.bind_some, hl2, Option.bind_some, hxx]
    unfold gleaningref28_Critical_k1
    rw [gd_pos (fitI (by simp; omega)), rkids_spec l (by omega), Option.bind_some, if_neg (by simp)]
    rfl
  by_cases e : kidsF l (prevO out out.length) = []
  ·rw [if_pos e] at hpb hrb
   exact ⟨out, loop_r hpb, loop_r hrb, h, e⟩
  ·rw [if_neg e] at hpb hrb
   rw [loop_l hpb, loop_l hrb]
   have hb : ∃ b, bestK l (kidsF l (prevO out out.length)) = b ∧ Chn l (out ++ [b]) := by
    cases hk : kidsF l (prevO out out.length) with
    | nil => exact absurd hk e
    | cons x r => exact ⟨_, rfl, chn_app h hk⟩
   obtain ⟨b, hb1, hb2⟩ := hb
   rw [hb1]
   have := crit_loops l hl f (out ++ [b]) N hb2 (by simp; omega) (by omega)
   rw [prevO_end] at this
   exact this
theorem crit_spec (l : List Span) (hl : l.length ≤ 60) : ∃ X, path_Critical l = some X ∧ gleaningref28_Critical l = some X ∧ (l.all rightS = true → Chn l X ∧ kidsF l (prevO X X.length) = []) := by
 unfold path_Critical gleaningref28_Critical
 rw [sall_spec l (by omega), rightSpans_spec l (by omega), Option.bind_some, Option.bind_some]
 cases h : l.all rightS with
 | false => exact ⟨[], rfl, rfl, by simp⟩
 | true =>
  obtain ⟨X, h1, h2, h3, h4⟩ := crit_loops l hl (l.length + 1) [] Fu (fun j x hj => by simp at hj) (by simp) (by rw [fu_eq]; omega)
  refine ⟨X, ?_, ?_, fun _ => ⟨h3, h4⟩⟩
  ·rw [Bool.not_true, ite_ff, tkids_spec l hl, Option.bind_some, gd_pos (by omega), Int.toNat_natCast, allKids_end, Option.bind_some]
   exact h1
  ·rw [Bool.not_true, ite_ff, rparents_spec l (by omega), Option.bind_some, rkids_spec l (by omega), Option.bind_some]
   exact h2
end Go.Proofs.Ytmompdklolomfaa.Ab
