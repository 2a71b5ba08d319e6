import Derived.Test.YtbaibpjffcahiaaGreatAbSim
namespace Go.Proofs.YtbaibpjffcahiaaGreat.Ab
open Go Go.RowKit
set_option linter.unusedVariables false
set_option linter.unusedSimpArgs false
structure Fx where
 L : List (Nat × Nat)
 v : PV
 U : List ((Nat × Nat) × Option AObj)
 N : List Nat
def look : List ((Nat × Nat) × Option AObj) → Nat → Nat → Option AObj → Option AObj
 | [], _, _, o => o
 | ((d', n'), x) :: r, d, n, o => if d = d' ∧ n = n' then x else look r d n o
def cnt : List Nat → Nat → Nat
 | [], _ => 0
 | x :: r, d => (if d = x then 1 else 0) + cnt r d
def St.app (s : St) (d : Option Nat) (x : Fx) : St :=
 { env := (s.put d x.v).env, heap := fun a n => look x.U a n (s.heap a n), next := fun a => s.next a + cnt x.N a, X := s.X }
def pureFx (v : PV) : Fx := ⟨[], v, [], []⟩
theorem app_pure (s : St) (d : Option Nat) (v : PV) : s.app d (pureFx v) = s.put d v := by
 cases d <;> rfl
theorem app_read (s : St) (d : Option Nat) (L : List (Nat × Nat)) (v : PV) : s.app d ⟨L, v, [], []⟩ = s.put d v := by
 cases d <;> rfl
structure Agree (ops : Array Oper) (o : Oper) (x : Fx) (s s' : St) : Prop where
 env : ∀ t ∈ o.looksAt ops, s'.env t = s.env t
 rd : ∀ p ∈ x.L, s'.heap p.1 p.2 = s.heap p.1 p.2
 up : ∀ p ∈ x.U, s'.heap p.1.1 p.1.2 = s.heap p.1.1 p.1.2
 nx : ∀ d ∈ x.N, s'.next d = s.next d
theorem Agree.refl (ops : Array Oper) (o : Oper) (x : Fx) (s : St) : Agree ops o x s s := ⟨fun _ _ => rfl, fun _ _ => rfl, fun _ _ => rfl, fun _ _ => rfl⟩
def Does (P : Program) (N : Nat) (ops : Array Oper) (o : Oper) (s : St) (x : Fx) : Prop :=
 ∀ s', Agree ops o x s s' → (∀ t ∈ o.looksAt ops, t < N) → ∀ w0 Mv J a w, Sim w0 Mv N J s' a w → ∀ Q, o.wp P a w (fun a' w' => ∃ J', Sim w0 Mv N J' (s'.app o.dst x) a' w') Q
def guardOk (ops : Array Oper) (o : Oper) (s : St) : Option Bool :=
 match o.guard with
 | none => some true
 | some (j, want) => match (ops[j]?).bind (·.dst) with
  | none => some false
  | some t => match s.env t with
   | .bool b => some (b == want)
   | .skip => some false
   | _ => none
def Acts (P : Program) (N : Nat) (ops : Array Oper) (o : Oper) (s : St) (x : Fx) : Prop :=
 (guardOk ops o s = some true ∧ Does P N ops o s x) ∨ (guardOk ops o s = some false ∧ x = pureFx .skip)
theorem guard_tmp {ops : Array Oper} {o : Oper} {j : Nat} {want : Bool} {t : Nat} (hg : o.guard = some (j, want)) (ht : (ops[j]?).bind (·.dst) = some t) : t ∈ o.looksAt ops := by
 unfold Oper.looksAt
 rw [hg]
 simp [ht]
theorem guardOk_agree {ops : Array Oper} {o : Oper} {x : Fx} {s s' : St} (h : Agree ops o x s s') : guardOk ops o s' = guardOk ops o s := by
 unfold guardOk
 cases hg : o.guard with
 | none => rfl
 | some jw =>
  obtain ⟨j, want⟩ := jw
  dsimp only
  cases ht : (ops[j]?).bind (·.dst) with
  | none => rfl
  | some t => dsimp only; rw [h.env t (guard_tmp hg ht)]
theorem wanted_of {ops : Array Oper} {o : Oper} {s : St} {w0 : World} {Mv : Nat → Prop} {N : Nat} {J : Site} {a : Act} {w : World} (h : Sim w0 Mv N J s a w) (hN : ∀ t ∈ o.looksAt ops, t < N) {b : Bool}
  (hb : guardOk ops o s = some b) : Region.wanted o (yielded ops a.tmps) = b := by
 unfold guardOk at hb
 unfold Region.wanted
 cases hg : o.guard with
 | none => rw [hg] at hb; simpa using hb
 | some jw =>
  obtain ⟨j, want⟩ := jw
  rw [hg] at hb
  dsimp only at hb ⊢
  cases ht : (ops[j]?).bind (·.dst) with
  | none =>
   rw [ht] at hb
   have h1 : yielded ops a.tmps j = none := by unfold yielded; rw [ht]; rfl
   rw [h1]
   injection hb
  | some t =>
   rw [ht] at hb
   dsimp only at hb
   have hlt := hN t (guard_tmp hg ht)
   have hs : t < a.tmps.size := by rw [h.size]; exact hlt
   have he := h.env t hlt
   have hget : a.tmps.getD t Go.undef = a.tmps[t] := by simp [hs]
   rw [hget] at he
   have hy : yielded ops a.tmps j = match a.tmps[t] with | .bool b => some b | _ => none := by
    unfold yielded; rw [ht]; simp only [Option.bind_some, Array.getElem?_eq_getElem hs]; cases a.tmps[t] <;> rfl
   rw [hy]
   cases hv : s.env t with
   | bool c =>
    rw [hv] at hb he
    injection hb with hb
    generalize a.tmps[t] = u at he ⊢
    cases he
    rw [← hb]; cases c <;> cases want <;> rfl
   | skip =>
    rw [hv] at hb he
    injection hb with hb
    generalize a.tmps[t] = u at he ⊢
    cases he
    rw [← hb]; cases want <;> rfl
   | _ => rw [hv] at hb; cases hb
theorem Acts.op {P : Program} {N : Nat} {ops : Array Oper} {o : Oper} {s s' : St} {x : Fx} (h : Acts P N ops o s x) (hag : Agree ops o x s s') (hN : ∀ t ∈ o.looksAt ops, t < N)
  {w0 : World} {Mv : Nat → Prop} {J : Site} {a : Act} {w : World} (hs : Sim w0 Mv N J s' a w) {K : Act → World → Prop} (hK : ∀ J' a' w', Sim w0 Mv N J' (s'.app o.dst x) a' w' → K a' w') {Q : Exit → Act → World → Prop} :
  if Region.wanted o (yielded ops a.tmps) then o.wp P a w K Q ∨ (o.asks P a w ∧ LetsOut Q) else K (a.put o.dst Go.undef) w := by
 have hg := guardOk_agree hag
 rcases h with ⟨h1, h2⟩ | ⟨h1, rfl⟩
 ·rw [wanted_of hs hN (hg.trans h1), if_pos rfl]
  refine .inl (Oper.wp_mono ?_ (h2 s' hag hN w0 Mv J a w hs Q))
  rintro a' w' ⟨J', h⟩
  exact hK _ _ _ h
 ·rw [wanted_of hs hN (hg.trans h1), if_neg (by simp)]
  refine hK J _ _ ?_
  rw [app_pure]
  exact hs.put _ (.skip _)
inductive Lex (P : Program) (N : Nat) (ops : Array Oper) : List Oper → St → List Fx → St → Prop
 | nil (s) : Lex P N ops [] s [] s
 | cons {o l s x xs s'} (h : Acts P N ops o s x) (hN : ∀ t ∈ o.looksAt ops, t < N) (hr : Lex P N ops l (s.app o.dst x) xs s') : Lex P N ops (o :: l) s (x :: xs) s'
theorem Lex.seq {P : Program} {N : Nat} {ops : Array Oper} {l : List Oper} {s s' : St} {xs : List Fx} (h : Lex P N ops l s xs s') {w0 : World} {Mv : Nat → Prop} {J : Site} {a : Act} {w : World} (hs : Sim w0 Mv N J s a w)
  {Q : Exit → Act → World → Prop} (hQ : ∀ J' a' w', Sim w0 Mv N J' s' a' w' → Q .normal a' w') : wpList P ops Q l a w := by
 induction h generalizing J a w with
 | nil s => exact wpList_nil (hQ _ _ _ hs)
 | cons h hN hr ih =>
  unfold wpList
  exact h.op (Agree.refl _ _ _ _) hN hs (fun J' a' w' h' => ih h' hQ)
end Go.Proofs.YtbaibpjffcahiaaGreat.Ab
