/- The document's step on the first state: spans come. -/
import Derived.Test.YtbaibpjffcahiaaGreatPTkA
namespace Go.Proofs.YtbaibpjffcahiaaGreat.Ab
open Go Go.RowKit
set_option linter.unusedVariables false
set_option linter.unusedSimpArgs false
theorem edge_l1 (l : List Edge) (hl : l.length ≤ 100000) (e : Edge) : ∃ r, loopN (fun (x : Int) => gleaningref1_edge_l1 l e x) Fu 0 = some r ∧ ∃ j : Nat, r = (j : Int) ∧ j ≤ l.length := by
 refine idx_ex l.length (by omega) _ (fun i hi => ?_) ⟨(l.length : Int), ?_, l.length, rfl, by omega⟩
 ·obtain ⟨x, hx, _⟩ := get_ex hi
  simp only [gleaningref1_edge_l1]
  rw [ite_t (dec_t (by omega)), gd_pos (by omega), hx, Option.bind_some, w1 (by omega)]
  split
  ·exact .inl rfl
  ·rw [gd_pos (by omega), Option.bind_some]
   split
   ·rw [gd_pos (by omega), Option.bind_some]
    split
    ·exact .inl rfl
    ·exact .inr ⟨_, rfl, i, rfl, by omega⟩
   ·exact .inr ⟨_, rfl, i, rfl, by omega⟩
 ·simp only [gleaningref1_edge_l1]
  rw [ite_f (dec_f (by omega))]
theorem edge_k3 (l : List Edge) (hl : l.length ≤ 100000) (e : Edge) (m : Int) (j : Nat) (b : Bool) (hb : b = true → j < l.length) (hj : j ≤ l.length) : ∃ x y : Int, ∃ q : Nat, gleaningref1_edge_k3 l e m (j : Int) b = some (x, y, (q : Int)) ∧ j ≤ q ∧ q ≤ l.length := by
 unfold gleaningref1_edge_k3
 cases b with
 | false =>
  obtain ⟨x, hx⟩ := sum_ex 0 e.Count m
  obtain ⟨y, hy⟩ := sum_ex 0 e.Errs m
  exact ⟨x, y, j, by rw [ite_ff, hx, Option.bind_some, hy]; rfl, Nat.le_refl _, hj⟩
 | true =>
  have h := hb rfl
  obtain ⟨z, hz, _⟩ := get_ex h
  obtain ⟨x, hx⟩ := sum_ex z.Count e.Count m
  obtain ⟨y, hy⟩ := sum_ex z.Errs e.Errs m
  refine ⟨x, y, j + 1, ?_, by omega, by omega⟩
  rw [ite_tt, gd_pos (by omega), hz, Option.bind_some, hx, Option.bind_some, gd_pos (by omega), Option.bind_some, hy, Option.bind_some, w1 (by omega)]
  rfl
theorem edge_ex (l : List Edge) (hl : l.length ≤ 90000) (e : Edge) (m : Int) : ∃ l', gleaningref1_edge l e m = some l' ∧ l'.length ≤ l.length + 1 := by
 obtain ⟨r, hr, j, rfl, hj⟩ := edge_l1 l (by omega) e
 unfold gleaningref1_edge
 rw [hr, Option.bind_some]
 unfold gleaningref1_edge_k0
 rw [gd_pos (by omega), gd_pos (by omega), Int.toNat_natCast, gd_pos (fit (by simp; omega) (by omega))]
 have h0 : ∃ b, (if (decide ((j : Int) < (List.length l : Int))) = true then (gd (0 ≤ (j : Int)) (Option.bind (l[j]?) (fun (x29 : Edge) => if (ByteArray.toList x29.From == ByteArray.toList e.From) = true then (gd (0 ≤ (j : Int)) (Option.bind (l[j]?) (fun (x32 : Edge) => some (ByteArray.toList x32.To == ByteArray.toList e.To)))) else (some false)))) else (some false)) = some b ∧ (b = true → j < l.length) := by
  by_cases h : j < l.length
  ·obtain ⟨x, hx, _⟩ := get_ex h
   rw [Int.toNat_natCast] at hx
   rw [ite_t (dec_t (by omega)), gd_pos (by omega), hx, Option.bind_some]
   split
   ·exact ⟨_, by rw [gd_pos (by omega), Option.bind_some], fun _ => h⟩
   ·exact ⟨_, rfl, fun _ => h⟩
  ·exact ⟨false, by rw [ite_f (dec_f (by omega))], fun h => by cases h⟩
 obtain ⟨b, hb, hb2⟩ := h0
 obtain ⟨x, y, q, hq, q1, q2⟩ := edge_k3 l (by omega) e m j b hb2 hj
 rw [hb, Option.bind_some, hq, Option.bind_some]
 unfold gleaningref1_edge_k2
 dsimp only
 rw [Int.toNat_natCast, gd_pos (fit (by simp; omega) (by omega)), gd_pos (by omega), gd_pos (by omega), Int.toNat_natCast, gd_pos (fit (by simp; omega) (by omega))]
 exact ⟨_, rfl, by simp; omega⟩
theorem addEdges_ex (l : List Span) (hl : l.length ≤ 1000) (m : Int) : ∃ r, gleaningref1_AddEdges [] l m = some r := by
 unfold gleaningref1_AddEdges
 rw [gd_pos (by simp)]
 have h := idxS_ex (body := fun (x : List Edge × Int) => gleaningref1_AddEdges_l0 l m x.1 x.2) l.length (by omega) (fun i x => x.length ≤ i) (fun _ => True) ?_ ?_ (s0 := []) (by simp)
 ·obtain ⟨r, h, _⟩ := h
  exact ⟨r, h⟩
 ·intro i x hi hx
  obtain ⟨s, hs, _⟩ := get_ex hi
  refine .inl ?_
  simp only [gleaningref1_AddEdges_l0]
  rw [ite_t (dec_t (by omega)), gd_pos (by omega), hs, Option.bind_some, xright_spec, Option.bind_some, w1 (by omega)]
  cases rightS s with
  | false => exact ⟨x, rfl, by omega⟩
  | true =>
   rw [if_neg (by simp)]
   have h2 := idx_ex (body := fun (v : Int) => gleaningref1_AddEdges_l1 l m x (i : Int) s v) l.length (by omega) (fun r => ∃ x', r = Sum.inl (x', (i : Int) + 1) ∧ x'.length ≤ i + 1) (fun k hk => ?_) ⟨_, ?_, x, rfl, by omega⟩
   ·obtain ⟨r, h2, x', rfl, h3⟩ := h2
    exact ⟨x', h2, h3⟩
   ·obtain ⟨p, hp, _⟩ := get_ex hk
    simp only [gleaningref1_AddEdges_l1]
    rw [ite_t (dec_t (by omega)), gd_pos (by omega), hp, Option.bind_some, xright_spec, Option.bind_some]
    have h3 : ∃ b, (if rightS p = true then (if ((p.Trace.Hi == s.Trace.Hi) && ((p.Trace.Lo == s.Trace.Lo) && true)) = true then (some (p.Id == s.Parent)) else (some false)) else (some false)) = some b := by
     split
     ·split <;> exact ⟨_, rfl⟩
     ·exact ⟨_, rfl⟩
    obtain ⟨b, hb⟩ := h3
    rw [hb, Option.bind_some]
    unfold gleaningref1_AddEdges_k2
    rw [w1 (by omega), w1 (by omega)]
    cases b with
    | false => exact .inl rfl
    | true =>
     rw [ite_tt]
     split
     ·have hbit : ∃ n, gleaningref1_Bit s.Err = some n := by
       unfold gleaningref1_Bit
       split <;> exact ⟨_, rfl⟩
      obtain ⟨n, hn⟩ := hbit
      obtain ⟨x', h4, h5⟩ := edge_ex x (by omega) (Edge.mk p.Service s.Service 1 (IntKind.i64.wrap n)) m
      exact .inr ⟨_, by rw [hn, Option.bind_some, h4, Option.bind_some], x', rfl, by omega⟩
     ·exact .inr ⟨_, rfl, x, rfl, by omega⟩
   ·simp only [gleaningref1_AddEdges_l1]
    rw [ite_f (dec_f (by omega)), w1 (by omega)]
 ·intro x hx
  exact ⟨x, by simp only [gleaningref1_AddEdges_l0]; rw [ite_f (dec_f (by omega))], trivial⟩
def fitE (k : Nat) (l : List Episode) : Prop := l.length ≤ k ∧ ∀ e ∈ l, e.Spans.length ≤ k
theorem fitE_le {a b : Nat} {l : List Episode} (h : fitE a l) (hab : a ≤ b) : fitE b l := ⟨by have := h.1; omega, fun e he => by have := h.2 e he; omega⟩
theorem count_ex (l : List Episode) (hl : l.length ≤ 1000) : ∃ n, gleaningref15_Count l = some n := by
 have h := idxS_ex (body := fun (s : Int × Int) => gleaningref15_Count_l0 l s.1 s.2) l.length (by omega) (fun _ _ => True) (fun _ => True) ?_ ?_ (s0 := 0) trivial
 ·obtain ⟨r, h, _⟩ := h
  exact ⟨r, h⟩
 ·intro i s hi _
  obtain ⟨x, hx, _⟩ := get_ex hi
  refine .inl ?_
  simp only [gleaningref15_Count_l0]
  rw [ite_t (dec_t (by omega)), gd_pos (by omega), hx, Option.bind_some, w1 (by omega)]
  exact ⟨_, rfl, trivial⟩
 ·intro s _
  exact ⟨s, by simp only [gleaningref15_Count_l0]; rw [ite_f (dec_f (by omega))], trivial⟩
theorem oldest_ex {k : Nat} (hk : k ≤ 1000) (l : List Episode) (h : fitE k l) : ∃ x, gleaningref15_Oldest l = some x ∧ fitE k x.1 ∧ x.2.1.Spans.length ≤ k := by
 obtain ⟨h1, h2⟩ := h
 unfold gleaningref15_Oldest
 by_cases h0 : l.length = 0
 ·exact ⟨_, by rw [if_pos (by simp [h0])], ⟨by simp, by simp⟩, by simp⟩
 ·rw [ite_f (by simp; intro h; exact h0 (by rw [h]; rfl))]
  have h := idxS_ex (body := fun (s : Int × Int) => gleaningref15_Oldest_l1 l s.1 s.2) l.length (by omega) (fun _ s => ∃ j : Nat, s = (j : Int) ∧ j < l.length) (fun r => ∃ j : Nat, r = (j : Int) ∧ j < l.length) ?_ ?_ (s0 := 0) ⟨0, rfl, by omega⟩
  ·obtain ⟨r, hr, j, rfl, hj⟩ := h
   obtain ⟨x, hx, hm⟩ := get_ex hj
   have e : IntKind.i64.wrap ((j : Int) + 1) = ((j + 1 : Nat) : Int) := by rw [w1 (by omega)]; rfl
   rw [hr, Option.bind_some]
   unfold gleaningref15_Oldest_k0
   rw [gd_pos (by omega), gd_pos (by omega), e, Int.toNat_natCast, Int.toNat_natCast, gd_pos (fit (by simp; omega) (by omega)), gd_pos (by omega), gd_pos (by omega), gd_pos (fit (by simp; omega) (by omega)), gd_pos (by omega)]
   rw [Int.toNat_natCast] at hx
   rw [hx, Option.bind_some]
   refine ⟨_, rfl, ⟨by simp; omega, fun e he => ?_⟩, h2 x hm⟩
   rcases List.mem_append.1 he with he | he
   ·exact h2 e (List.mem_of_mem_take he)
   ·exact h2 e (List.mem_of_mem_drop he)
  ·rintro i s hi ⟨j, rfl, hj⟩
   obtain ⟨x, hx, _⟩ := get_ex hi
   obtain ⟨y, hy, _⟩ := get_ex hj
   refine .inl ?_
   simp only [gleaningref15_Oldest_l1]
   rw [ite_t (dec_t (by omega)), gd_pos (by omega), hx, Option.bind_some, gd_pos (by omega), hy, Option.bind_some, w1 (by omega)]
   split
   ·exact ⟨_, rfl, i, rfl, hi⟩
   ·exact ⟨_, rfl, j, rfl, hj⟩
  ·rintro s ⟨j, rfl, hj⟩
   exact ⟨_, by simp only [gleaningref15_Oldest_l1]; rw [ite_f (dec_f (by omega))], j, rfl, hj⟩
theorem add_ex {k : Nat} (hk : k ≤ 1000) (e : Episode) (h : e.Spans.length ≤ k) (s : Span) (now : Int) : ∃ x, gleaningref15_Add e s now = some x ∧ x.1.Spans.length ≤ k + 1 := by
 unfold gleaningref15_Add
 split
 ·exact ⟨_, rfl, by simp; omega⟩
 ·have hl := idx_ex (body := fun (v : Int) => gleaningref15_Add_l1 e s now v) e.Spans.length (by omega) (fun r => ∀ x, r = Sum.inr x → x.1.Spans.length ≤ k + 1) (fun i hi => ?_) ⟨Sum.inl (), ?_, fun x hx => by cases hx⟩
  ·obtain ⟨r, hr, h2⟩ := hl
   rw [hr, Option.bind_some]
   cases r with
   | inr x => exact ⟨x, rfl, h2 x rfl⟩
   | inl u =>
    simp only [Sum.elim_inl]
    unfold gleaningref15_Add_k0
    rw [gd_pos (fit (by omega) (by omega)), gd_pos (fit (by simp; omega) (by omega))]
    exact ⟨_, rfl, by simp; omega⟩
  ·obtain ⟨x, hx, _⟩ := get_ex hi
   simp only [gleaningref15_Add_l1]
   rw [ite_t (dec_t (by omega)), gd_pos (by omega), hx, Option.bind_some, w1 (by omega)]
   split
   ·exact .inr ⟨_, rfl, fun y hy => by cases hy; simp; omega⟩
   ·exact .inl rfl
  ·simp only [gleaningref15_Add_l1]
   rw [ite_f (dec_f (by omega))]
theorem put_ex {k : Nat} (hk : k ≤ 900) (l : List Episode) (h : fitE k l) (s : Span) (now : Int) (b : Bool) : ∃ l', gleaningref15_Put l s now b = some l' ∧ fitE (k + 1) l' := by
 obtain ⟨h1, h2⟩ := h
 unfold gleaningref15_Put
 rw [gd_pos (fit (by omega) (by omega))]
 have hl := idx_ex (body := fun (v : Int) => gleaningref15_Put_l1 l s now b v) l.length (by omega) (fun r => ∀ x, r = Sum.inr x → fitE (k + 1) x) (fun i hi => ?_) ⟨Sum.inl (), ?_, fun x hx => by cases hx⟩
 ·obtain ⟨r, hr, h3⟩ := hl
  rw [hr, Option.bind_some]
  cases r with
  | inr x => exact ⟨x, rfl, h3 x rfl⟩
  | inl u =>
   simp only [Sum.elim_inl]
   unfold gleaningref15_Put_k0
   rw [gd_pos (fit (by simp; omega) (by omega))]
   refine ⟨_, rfl, by simp; omega, fun e he => ?_⟩
   rcases List.mem_append.1 he with he | he
   ·have := h2 e he; omega
   ·rw [List.mem_singleton.1 he]; simp
 ·obtain ⟨x, hx, hm⟩ := get_ex hi
  simp only [gleaningref15_Put_l1]
  rw [ite_t (dec_t (by omega)), gd_pos (by omega), hx, Option.bind_some, w1 (by omega)]
  split
  ·obtain ⟨y, hy, y1⟩ := add_ex (k := k) (by omega) x (h2 x hm) s now
   refine .inr ?_
   rw [gd_pos (by omega), Option.bind_some, hy, Option.bind_some]
   have key : ∀ c : Bool, ∃ r, gleaningref15_Put_k2 l (i : Int) y c = some (Sum.inr r) ∧ ∀ x, r = Sum.inr x → fitE (k + 1) x := by
    intro c
    unfold gleaningref15_Put_k2
    rw [gd_pos (by omega), hx, Option.bind_some]
    refine ⟨_, rfl, fun z hz => ?_⟩
    cases hz
    refine ⟨by simp; omega, fun e he => ?_⟩
    rcases List.mem_or_eq_of_mem_set he with he | he
    ·have := h2 e he; omega
    ·rw [he]; exact y1
   split
   ·exact key _
   ·exact key _
  ·exact .inl rfl
 ·simp only [gleaningref15_Put_l1]
  rw [ite_f (dec_f (by omega))]
theorem verdict_ex (l : List Verdict) (hl : l.length ≤ 1000) (t : Trace) : ∃ r, gleaningref15_Verdict l t = some r := by
 have h := idx_ex (body := fun (v : Int) => gleaningref15_Verdict_l0 l t v) l.length (by omega) (fun _ => True) (fun i hi => ?_) ⟨(false, false), ?_, trivial⟩
 ·obtain ⟨r, h, _⟩ := h
  exact ⟨r, h⟩
 ·obtain ⟨x, hx, _⟩ := get_ex hi
  simp only [gleaningref15_Verdict_l0]
  rw [ite_t (dec_t (by omega)), gd_pos (by omega), hx, Option.bind_some, w1 (by omega)]
  split
  ·exact .inr ⟨_, by rw [gd_pos (by omega), Option.bind_some], trivial⟩
  ·exact .inl rfl
 ·simp only [gleaningref15_Verdict_l0]
  rw [ite_f (dec_f (by omega))]
theorem remember_ex {k : Nat} (hk : k ≤ 900) (l : List Verdict) (hl : l.length ≤ k) (v : Verdict) (m : Int) : ∃ l', gleaningref15_Remember l v m = some l' ∧ l'.length ≤ k + 1 := by
 unfold gleaningref15_Remember
 have h := idxS_ex (body := fun (s : List Verdict × Int) => gleaningref15_Remember_l1 l v s.1 s.2) l.length (by omega) (fun i x => x.length ≤ i + 1) (fun r => r.length ≤ k + 1) ?_ ?_ (s0 := [v]) (by simp)
 ·obtain ⟨r, hr, h2⟩ := h
  rw [hr, Option.bind_some]
  unfold gleaningref15_Remember_k0
  obtain ⟨x, hx, x0, x1⟩ := cap_in m (r.length : Int) (by omega)
  rw [hx, Option.bind_some, gd_pos x0, gd_pos x1]
  exact ⟨_, rfl, by simp; omega⟩
 ·intro i x hi hx
  obtain ⟨y, hy, _⟩ := get_ex hi
  refine .inl ?_
  simp only [gleaningref15_Remember_l1]
  rw [ite_t (dec_t (by omega)), gd_pos (by omega), hy, Option.bind_some, w1 (by omega)]
  split
  ·rw [gd_pos (by omega), Option.bind_some, gd_pos (fit (by simp; omega) (by omega))]
   exact ⟨_, rfl, by simp; omega⟩
  ·exact ⟨_, rfl, by omega⟩
 ·intro x hx
  exact ⟨x, by simp only [gleaningref15_Remember_l1]; rw [ite_f (dec_f (by omega))], by omega⟩
def allR : Rule := ⟨1, 0, strOf [], strOf [], []⟩
theorem allR_right : rightR allR = true := by decide
theorem keep_ex (e : Episode) (n : Int) : gleaningref1_Keep allR e n = some true := by
 unfold gleaningref1_Keep
 rw [xright_spec', Option.bind_some, allR_right, ite_tt]
 unfold gleaningref1_keep
 rw [fuPos]
 show Option.bind (gleaningref1_keep_b _ allR e n) _ = _
 unfold gleaningref1_keep_b
 rw [if_pos (by rfl), fuPos, loop_r (r := true) (by unfold gleaningref1_keep_b_l0; rfl)]
 rfl
structure Fits (k : Nat) (s : StateG) : Prop where
 pol : s.Policy = allR
 opn : fitE k s.Open
 pen : s.Pending.length ≤ k
 mem : s.Memo.length ≤ k
 row : s.Rows.length ≤ 3 * k
 edg : s.Edges = []
theorem decide_ex {k : Nat} (hk : k ≤ 900) (c : Config) (s : StateG) (e : Episode) (hp : s.Policy = allR) (h1 : s.Pending.length ≤ k) (h2 : s.Memo.length ≤ k) : ∃ s', gleaningref15_decide c s e = some s' ∧ s'.Policy = allR ∧ s'.Open = s.Open ∧ s'.Pending.length ≤ k + 1 ∧ s'.Memo.length ≤ k + 1 ∧ s'.Rows = s.Rows ∧ s'.Edges = s.Edges := by
 unfold gleaningref15_decide
 have key : ∀ b : Bool, ∃ s', gleaningref15_decide_k0 c s e b = some s' ∧ s'.Policy = allR ∧ s'.Open = s.Open ∧ s'.Pending.length ≤ k + 1 ∧ s'.Memo.length ≤ k + 1 ∧ s'.Rows = s.Rows ∧ s'.Edges = s.Edges := by
  intro b
  unfold gleaningref15_decide_k0
  obtain ⟨m, hm, m1⟩ := remember_ex hk s.Memo h2 (Verdict.mk e.Trace b) c.Memo
  rw [hm, Option.bind_some]
  cases b with
  | true =>
   rw [ite_tt, gd_pos (fit (by omega) (by omega)), gd_pos (fit (by simp; omega) (by omega))]
   exact ⟨_, rfl, hp, rfl, by simp; omega, m1, rfl, rfl⟩
  | false => exact ⟨_, rfl, hp, rfl, by simp; omega, m1, rfl, rfl⟩
 split
 ·exact key _
 ·rw [hp, keep_ex]
  exact key _
end Go.Proofs.YtbaibpjffcahiaaGreat.Ab
