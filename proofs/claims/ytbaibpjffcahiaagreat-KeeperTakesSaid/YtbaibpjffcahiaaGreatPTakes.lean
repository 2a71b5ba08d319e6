/- Chapter 25: just what the model takes has bytes. -/
import Derived.Test.YtbaibpjffcahiaaGreatPTkB
import Derived.Test.YtbaibpjffcahiaaGreatPKOp
namespace Go.Proofs.YtbaibpjffcahiaaGreat.Ab
open Go Go.RowKit
set_option linter.unusedVariables false
set_option linter.unusedSimpArgs false
theorem bind_ex {α β : Type} {x : Option α} {f : α → Option β} (R : α → Prop) (h : ∃ a, x = some a ∧ R a) (k : ∀ a, R a → ∃ b, f a = some b) : ∃ b, Option.bind x f = some b := by
 obtain ⟨a, rfl, ha⟩ := h
 exact k a ha
theorem ing_k2 (l : List Span) (hl : l.length ≤ 60) {i : Nat} (hi : i < l.length) (n0 n1 n2 n3 n4 n5 : Int) (ky va : ByteArray) (kd : List Rule) (o p : List Episode) (m : List Verdict) (r : List RowG) (e : List Edge) (sl : List Exemplar) (b : List Block) (ho : fitE i o) (hm : m.length ≤ i + 1) :
  ∃ o', gleaningref15_ingest_k2 l (i : Int) n0 n1 n2 n3 n4 n5 ky va kd o p m r e sl b = some (.inl (n0, n1, n2, n3, n4, n5, ky, va, kd, o', p, m, r, e, sl, b, (i : Int) + 1)) ∧ fitE (i + 1) o' := by
 obtain ⟨x, hx, _⟩ := get_ex hi
 obtain ⟨v, hv⟩ := verdict_ex m (by omega) x.Trace
 unfold gleaningref15_ingest_k2
 rw [gd_pos (by omega), hx, Option.bind_some, hv, Option.bind_some]
 have key : ∀ c : Bool, ∃ o', gleaningref15_ingest_k3 l (i : Int) n0 n1 n2 n3 n4 n5 ky va kd o p m r e sl b v c = some (.inl (n0, n1, n2, n3, n4, n5, ky, va, kd, o', p, m, r, e, sl, b, (i : Int) + 1)) ∧ fitE (i + 1) o' := by
  intro c
  unfold gleaningref15_ingest_k3
  rw [w1 (by omega)]
  cases c with
  | false => exact ⟨o, rfl, fitE_le ho (by omega)⟩
  | true =>
   obtain ⟨o', h1, h2⟩ := put_ex (by omega) o ho x n0 v.2
   exact ⟨o', by rw [ite_tt, gd_pos (by omega), hx, Option.bind_some, h1, Option.bind_some], h2⟩
 split
 ·exact key _
 ·exact key _
theorem ingest_ex (c : Config) (s : StateG) (hs : Fits 0 s) (l : List Span) (hl : l.length ≤ 60) : ∃ s', gleaningref15_ingest c s l = some s' := by
 unfold gleaningref15_ingest
 refine bind_ex (fun r => r.2.2.2.2.2.2.2.2.2.2.2.2.2.1 = []) (loop_exF (fun n t => ∃ i : Nat, t.2.2.2.2.2.2.2.2.2.2.2.2.2.2.2.2 = (i : Int) ∧ i + n = l.length ∧ (Rule.mk t.2.2.2.2.1 t.2.2.2.2.2.1 t.2.2.2.2.2.2.1 t.2.2.2.2.2.2.2.1 t.2.2.2.2.2.2.2.2.1 = allR) ∧
  fitE i t.2.2.2.2.2.2.2.2.2.1 ∧ t.2.2.2.2.2.2.2.2.2.2.1.length ≤ i ∧ t.2.2.2.2.2.2.2.2.2.2.2.1.length ≤ i ∧ t.2.2.2.2.2.2.2.2.2.2.2.2.1.length ≤ 3 * i ∧ t.2.2.2.2.2.2.2.2.2.2.2.2.2.1 = []) _ ?_ (n := l.length) ?_ (by omega)) ?_
 ·rintro n ⟨n0, n1, n2, n3, n4, n5, ky, va, kd, o, p, m, r, e, sl, b, v⟩ ⟨i, hv, hn, hp, ho, hpe, hm, hr, he⟩
  dsimp only at hv hp ho hpe hm hr he
  subst hv he
  dsimp only
  unfold gleaningref15_ingest_l1
  by_cases hi : i < l.length
  ·obtain ⟨x, hx, _⟩ := get_ex hi
   obtain ⟨r', hr1, hr2⟩ := addRows_ex r (by omega) x c.Cap
   obtain ⟨q, hq⟩ := count_ex o (by have := ho.1; omega)
   refine .inl ?_
   rw [ite_t (dec_t (by omega)), gd_pos (by omega), hx, Option.bind_some, hr1, Option.bind_some, hq, Option.bind_some]
   by_cases hc : c.Most ≤ q
   ·obtain ⟨y, hy, y1, y2⟩ := oldest_ex (by omega) o ho
    rw [ite_t (dec_t hc), hy, Option.bind_some]
    split
    ·obtain ⟨s', d0, d1, d2, d3, d4, d5, d6⟩ := decide_ex (k := i) (by omega) c (StateG.mk n0 n1 n2 n3 (Rule.mk n4 n5 ky va kd) y.1 p m r' [] sl b) y.2.1 hp hpe hm
     rw [d0, Option.bind_some, Option.bind_some]
     obtain ⟨o', k1, k2⟩ := ing_k2 l hl hi s'.Now s'.Sec s'.Kept s'.Next s'.Policy.Kind s'.Policy.N s'.Policy.Key s'.Policy.Value s'.Policy.Kids s'.Open s'.Pending s'.Memo s'.Rows s'.Edges s'.Slots s'.Blocks (by rw [d2]; exact y1) d4
     dsimp only
     rw [k1]
     refine ⟨_, n - 1, rfl, by omega, i + 1, by simp, by omega, ?_, k2, d3, d4, ?_, d6⟩
     ·have : s'.Policy = ⟨s'.Policy.Kind, s'.Policy.N, s'.Policy.Key, s'.Policy.Value, s'.Policy.Kids⟩ := by cases s'.Policy; rfl
      dsimp only
      rw [← this]; exact d1
     ·show s'.Rows.length ≤ _
      rw [d5]; show r'.length ≤ _; omega
    ·rw [Option.bind_some]
     obtain ⟨o', k1, k2⟩ := ing_k2 l hl hi n0 n1 n2 n3 n4 n5 ky va kd o p m r' [] sl b ho (by omega)
     dsimp only
     rw [k1]
     exact ⟨_, n - 1, rfl, by omega, i + 1, by simp, by omega, hp, k2, by dsimp only; omega, by dsimp only; omega, by dsimp only; omega, rfl⟩
   ·rw [ite_f (dec_f hc), Option.bind_some]
    obtain ⟨o', k1, k2⟩ := ing_k2 l hl hi n0 n1 n2 n3 n4 n5 ky va kd o p m r' [] sl b ho (by omega)
    dsimp only
    rw [k1]
    exact ⟨_, n - 1, rfl, by omega, i + 1, by simp, by omega, hp, k2, by dsimp only; omega, by dsimp only; omega, by dsimp only; omega, rfl⟩
  ·refine .inr ⟨_, by rw [ite_f (dec_f (by omega))], rfl⟩
 ·have hp := hs.pol
  have : s.Policy = ⟨s.Policy.Kind, s.Policy.N, s.Policy.Key, s.Policy.Value, s.Policy.Kids⟩ := by cases s.Policy; rfl
  exact ⟨0, rfl, by omega, this ▸ hp, hs.opn, hs.pen, hs.mem, hs.row, hs.edg⟩
 ·intro t ht
  unfold gleaningref15_ingest_k0
  rw [ht]
  obtain ⟨x, hx⟩ := addEdges_ex l (by omega) c.Cap
  exact ⟨_, by rw [hx, Option.bind_some]⟩
def state0 : StateG := ⟨0, 0, 0, 0, allR, [], [], [], [], [], [], []⟩
theorem loop_1 {σ ρ : Type} {body : σ → Option (σ ⊕ ρ)} {s : σ} {r : ρ} (h : body s = some (.inr r)) : loopN body Fu s = some r := by rw [fuPos]; exact loop_r h
theorem right0 : gleaningref15_RightState state0 = some true := by
 have h0 : gleaningref15_count 0 = some true := rfl
 unfold gleaningref15_RightState
 simp only [state0, h0, Option.bind_some, Bool.not_true, Bool.false_eq_true, if_false, xright_spec', allR_right, Sum.elim_inl]
 unfold gleaningref15_RightState_k0
 rw [gd_pos (by simp), gd_pos (by simp), loop_1 (r := Sum.inl ()) rfl, Option.bind_some, Sum.elim_inl]
 unfold gleaningref15_RightState_k1
 rw [loop_1 (r := Sum.inl ()) rfl, Option.bind_some, Sum.elim_inl]
 unfold gleaningref15_RightState_k3
 rw [loop_1 (r := Sum.inl ()) rfl, Option.bind_some, Sum.elim_inl]
 unfold gleaningref15_RightState_k5
 rw [loop_1 (r := Sum.inl ()) rfl, Option.bind_some, Sum.elim_inl]
 unfold gleaningref15_RightState_k7
 exact loop_1 rfl
theorem tick_ex (c : Config) (n : Int) : ∃ s', gleaningref15_tick c state0 n = some s' := by
 have hcl : ∀ a b d, gleaningref15_Close [] a b d = some ([], []) := fun a b d => by
  unfold gleaningref15_Close
  rw [loop_1 (r := ()) rfl]; rfl
 have hch : ∀ a b d, gleaningref15_Choose [] a b d = some [] := fun a b d => by
  unfold gleaningref15_Choose
  rw [loop_1 (r := ()) rfl, Option.bind_some, gleaningref15_Choose_k0]
  exact loop_1 rfl
 have hex : ∀ a b, gleaningref1_Expire [] a b = some [] := fun a b => by
  unfold gleaningref1_Expire
  exact loop_1 rfl
 have key : ∀ v : Int, ∃ s', gleaningref15_tick_k0 c state0 v = some s' := by
  intro v
  unfold gleaningref15_tick_k0
  rw [show state0.Open = [] from rfl, hcl, Option.bind_some, loop_1 (r := ()) rfl, Option.bind_some]
  unfold gleaningref15_tick_k1
  rw [show state0.Pending = [] from rfl, if_neg (by simp), show state0.Blocks = [] from rfl, hch, Option.bind_some, loop_1 (r := ()) rfl, Option.bind_some]
  unfold gleaningref15_tick_k3
  rw [show state0.Rows = [] from rfl, hex]
  exact ⟨_, rfl⟩
 unfold gleaningref15_tick
 split
 ·exact key _
 ·exact key _
theorem rightSpans_spec (l : List Span) (hl : l.length ≤ 100000) : gleaningref1_RightSpans l = some (l.all rightS) := by
 have h := loop_exF (body := fun (v : Int) => gleaningref1_RightSpans_l0 l v) (fun n v => ∃ i : Nat, v = (i : Int) ∧ i + n = l.length ∧ ∀ x ∈ l.take i, rightS x = true) (fun r => r = l.all rightS) ?_ (n := l.length) (s := 0) ⟨0, rfl, by omega, by simp⟩ (by omega)
 ·obtain ⟨r, h, rfl⟩ := h
  exact h
 ·rintro n v ⟨i, rfl, hn, ha⟩
  simp only [gleaningref1_RightSpans_l0]
  by_cases hi : i < l.length
  ·obtain ⟨x, hx, hm⟩ := get_ex hi
   rw [ite_t (dec_t (by omega)), gd_pos (by omega), hx, Option.bind_some, xright_spec, Option.bind_some, w1 (by omega)]
   cases hr : rightS x with
   | false => exact .inr ⟨_, rfl, by symm; rw [List.all_eq_false]; exact ⟨x, hm, by rw [hr]; simp⟩⟩
   | true =>
    refine .inl ⟨_, n - 1, rfl, by omega, i + 1, by omega, by omega, fun y hy => ?_⟩
    rw [Int.toNat_natCast] at hx
    rw [List.take_add_one, hx] at hy
    rcases List.mem_append.1 hy with hy | hy
    ·exact ha y hy
    ·simp at hy; rw [hy]; exact hr
  ·refine .inr ⟨_, by rw [ite_f (dec_f (by omega))], ?_⟩
   symm; rw [List.all_eq_true]
   intro x hx
   exact ha x (by rw [List.take_of_length_le (by omega)]; exact hx)
theorem rightC_ex (c : Config) : ∃ b, gleaningref15_RightConfig c = some b := by
 unfold gleaningref15_RightConfig
 refine bind_ex (fun _ => True) (idx_ex 4 (by omega) _ (fun i hi => ?_) ⟨Sum.inl (), ?_, trivial⟩) (fun r _ => ?_)
 ·obtain ⟨x, hx, _⟩ := get_ex (l := [c.Idle, c.Age, c.Most, c.Cap]) (i := i) (by simpa using hi)
  simp only [gleaningref15_RightConfig_l1]
  rw [ite_t (dec_t (by omega)), gd_pos (by omega), hx, Option.bind_some]
  split
  ·exact .inr ⟨_, rfl, trivial⟩
  ·rw [gd_pos (by omega), Option.bind_some, w1 (by omega)]
   split
   ·exact .inr ⟨_, rfl, trivial⟩
   ·exact .inl rfl
 ·simp only [gleaningref15_RightConfig_l1]
  rfl
 ·cases r with
  | inr b => exact ⟨b, rfl⟩
  | inl u =>
   simp only [Sum.elim_inl]
   unfold gleaningref15_RightConfig_k0
   refine bind_ex (fun _ => True) (idx_ex 3 (by omega) _ (fun i hi => ?_) ⟨Sum.inl (), ?_, trivial⟩) (fun r _ => ?_)
   ·obtain ⟨x, hx, _⟩ := get_ex (l := ([c.Horizon.c0, c.Horizon.c1, c.Horizon.c2] : List Int)) (i := i) (by simpa using hi)
    simp only [gleaningref15_RightConfig_l3]
    rw [ite_t (dec_t (by omega)), gd_pos (by omega), gd_pos (by omega), hx, Option.bind_some]
    split
    ·exact .inr ⟨_, rfl, trivial⟩
    ·rw [gd_pos (by omega), gd_pos (by omega), Option.bind_some, w1 (by omega)]
     split
     ·exact .inr ⟨_, rfl, trivial⟩
     ·exact .inl rfl
   ·simp only [gleaningref15_RightConfig_l3]
    rfl
   ·cases r with
    | inr b => exact ⟨b, rfl⟩
    | inl u =>
     simp only [Sum.elim_inl]
     unfold gleaningref15_RightConfig_k2
     repeat' (first | exact ⟨_, rfl⟩ | split)
theorem step_ex (c : Config) (hc : gleaningref15_RightConfig c = some true) (o : OpG) (h4 : o.Kind ≠ 4) : ∃ x, gleaningref15_Step c state0 o = some x ∧ (x.2 == 0) = mayB o := by
 unfold gleaningref15_Step
 rw [hc, Option.bind_some, if_neg (by simp), right0, Option.bind_some, if_neg (by simp), Option.bind_some, Sum.elim_inl]
 unfold gleaningref15_Step_k0 mayB
 by_cases k1 : o.Kind = 1
 ·rw [if_pos (by simp [k1]), if_pos k1]
  unfold rightL
  by_cases a : (o.Spans.length : Int) < 1
  ·exact ⟨_, by rw [ite_t (dec_t a)]; rfl, by rw [dec_f (show ¬ 1 ≤ o.Spans.length by omega)]; rfl⟩
  ·rw [ite_f (dec_f a), dec_t (show 1 ≤ o.Spans.length by omega)]
   by_cases b : (50 : Int) < (o.Spans.length : Int)
   ·exact ⟨_, by rw [ite_t (dec_t b)]; rfl, by rw [dec_f (show ¬ o.Spans.length ≤ 50 by omega)]; rfl⟩
   ·rw [ite_f (dec_f b), dec_t (show o.Spans.length ≤ 50 by omega), rightSpans_spec _ (by omega), Option.bind_some]
    cases o.Spans.all rightS with
    | false => exact ⟨_, rfl, rfl⟩
    | true =>
     rw [if_neg (by simp), Option.bind_some, Sum.elim_inl]
     unfold gleaningref15_Step_k1
     obtain ⟨s', h⟩ := ingest_ex c state0 ⟨rfl, ⟨by simp [state0], by simp [state0]⟩, by simp [state0], by simp [state0], by simp [state0], rfl⟩ o.Spans (by omega)
     exact ⟨_, by rw [h, Option.bind_some], rfl⟩
 rw [if_neg (by simpa using k1), if_neg k1]
 by_cases k2 : o.Kind = 2
 ·rw [if_pos (by simp [k2]), if_pos k2]
  by_cases a : o.N < 0
  ·exact ⟨_, by rw [ite_t (dec_t a)]; rfl, by rw [dec_f (show ¬ 0 ≤ o.N by omega)]; rfl⟩
  ·rw [ite_f (dec_f a), dec_t (show 0 ≤ o.N by omega)]
   by_cases b : (1099511627776 : Int) < o.N
   ·exact ⟨_, by rw [ite_t (dec_t b)]; rfl, by rw [dec_f (show ¬ o.N ≤ 1099511627776 by omega)]; rfl⟩
   ·rw [ite_f (dec_f b), dec_t (show o.N ≤ 1099511627776 by omega), ite_f (dec_f (by simp [state0])), Option.bind_some, Sum.elim_inl]
    unfold gleaningref15_Step_k2
    obtain ⟨s', h⟩ := tick_ex c o.N
    exact ⟨_, by rw [h, Option.bind_some], rfl⟩
 rw [if_neg (by simpa using k2), if_neg k2]
 by_cases k3 : o.Kind = 3
 ·rw [if_pos (by simp [k3]), if_pos k3, xright_spec', Option.bind_some]
  cases rightR o.Policy with
  | false => exact ⟨_, rfl, rfl⟩
  | true => exact ⟨_, rfl, rfl⟩
 rw [if_neg (by simpa using k3), if_neg k3, if_neg (by simpa using h4)]
 exact ⟨_, rfl, by rw [dec_f h4]; rfl⟩
theorem bytesR_t {r : Rule} (h : rightR r = true) : bytesR r = ruleB 5 r := by rw [bytesR, if_pos h]
theorem op_ex (o : OpG) (hw : ∀ s ∈ o.Spans, wfS s) : ∃ x, keeper_Op o = some x ∧ decide ((0 : Int) < (x.length : Int)) = mayB o := by
 unfold keeper_Op
 rw [may_spec, Option.bind_some]
 cases hm : mayB o with
 | false => exact ⟨[], rfl, rfl⟩
 | true =>
  rw [if_neg (by simp)]
  by_cases k1 : o.Kind = 1
  ·have hle := batchB_le hw
   rw [if_pos (by simp [k1]), batch_spec _ hw, Option.bind_some, gd_pos (fit (by simp; omega) (by omega))]
   exact ⟨_, rfl, dec_t (by simp)⟩
  rw [if_neg (by simpa using k1)]
  by_cases k2 : o.Kind = 2
  ·have hn : 0 ≤ o.N ∧ o.N ≤ 1099511627776 := by simpa [mayB, k1, k2] using hm
   have e : IntKind.u64.wrap o.N = ((o.N.toNat : Nat) : Int) := by rw [wu64 hn.1 (by omega)]; omega
   rw [if_pos (by simp [k2]), e, iput_spec _ _ (by omega) (by simp), Option.bind_some]
   exact ⟨_, rfl, dec_t (by simp)⟩
  rw [if_neg (by simpa using k2)]
  by_cases k3 : o.Kind = 3
  ·have hr : rightR o.Policy = true := by simpa [mayB, k1, k2, k3] using hm
   have hl := ruleB_len hr
   rw [if_pos (by simp [k3]), rbytes_spec, Option.bind_some, bytesR_t hr, gd_pos (fit (by simp; omega) (by omega))]
   exact ⟨_, rfl, dec_t (by simp)⟩
  rw [if_neg (by simpa using k3)]
  exact ⟨_, rfl, dec_t (by simp)⟩
theorem alive25 : gleaninglaw25_alive = some true := by
 have h0 : ∀ s ∈ ([] : List Span), wfS s := by simp
 have h1 : keeper_Op (OpG.mk 2 7 [] (Rule.mk 0 0 (strOf []) (strOf []) [])) = some [2, 7] := by
  unfold keeper_Op
  rw [may_spec, Option.bind_some, show mayB (OpG.mk 2 7 [] (Rule.mk 0 0 (strOf []) (strOf []) [])) = true from rfl]
  have := iput_spec [2] 7 (by omega) (by simp)
  rw [putN_lt (by omega)] at this
  show Option.bind (ints_Put [2] 7) _ = _
  rw [show (7 : Int) = ((7 : Nat) : Int) from rfl, this]; rfl
 have h2 : keeper_ReadOp [2, 7] = some (OpG.mk 2 7 [] (Rule.mk 0 0 (strOf []) (strOf []) []), 0) := by kernel_rfl
 unfold gleaninglaw25_alive
 rw [show keeper_ReadOp [] = some (OpG.mk 0 0 [] (Rule.mk 0 0 (strOf []) (strOf []) []), 2) from rfl, Option.bind_some, h1, Option.bind_some, h2]
 rfl
theorem keeperTakes_true (o : OpG) (c : Config) (hw : OpG.wf o) (_ : Config.wf c) : gleaninglaw25_KeeperTakes o c = some true := by
 obtain ⟨f, hf⟩ := few22 o
 obtain ⟨b, hb⟩ := rightC_ex c
 have hs : ∀ s ∈ o.Spans, wfS s := fun s h => wfS_of (hw.2.2.1.2 s h)
 unfold gleaninglaw25_KeeperTakes
 rw [alive25, Option.bind_some, if_neg (by simp), hf, Option.bind_some]
 cases f with
 | false => rfl
 | true =>
  rw [if_neg (by simp), hb, Option.bind_some]
  cases b with
  | false => rfl
  | true =>
   rw [if_neg (by simp)]
   by_cases h4 : o.Kind = 4
   ·rw [if_pos (by simp [h4])]; rfl
   rw [if_neg (by simpa using h4), Option.bind_some, Sum.elim_inl]
   unfold gleaninglaw25_KeeperTakes_k0
   have h0 : gleaningref15_First c = some state0 := by
    unfold gleaningref15_First
    rw [hb]; rfl
   obtain ⟨x, hx, x1⟩ := step_ex c hb o h4
   obtain ⟨y, hy, y1⟩ := op_ex o hs
   rw [h0, Option.bind_some, hx, Option.bind_some, hy, Option.bind_some, x1, y1]
   simp
end Go.Proofs.YtbaibpjffcahiaaGreat.Ab
