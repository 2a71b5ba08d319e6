/- RetireMoreUptoSaid: for every input that the row speaks of, of bulk at most 1048576, the given law answers true and leaves what it was given as it was. -/
import Derived.Test.YtejimiedoibkcaaRows
import Derived.Test.YtejimiedoibkcaaXRMore
import Derived.Test.YtejimiedoibkcaaPRetMore
import Derived.WalkKit
import Derived.ProofKit
import Derived.OpenShut
import Derived.ShutString
import Derived.ChangeOld
import Derived.Below
import Derived.SizedLaws
import Derived.JoinedCond
import Derived.Test.YtejimiedoibkcaaAbArgU
namespace Go.Proofs.Ytejimiedoibkcaa.retireMoreUpto
open Go Go.ChangeShapes Go.WideShapes Go.ChangeAt Go.RowKit Go.Proofs.Ytejimiedoibkcaa.Ab
open Go.ChangeMaps (open_string shut_string)
set_option linter.unusedVariables false
set_option linter.unusedSimpArgs false
theorem own : ownKnob Try.prog.godebug = none := by kernel_rfl
theorem laidOut : laidOutB Try.prog = true := by kernel_rfl
theorem closed : closedT Try.prog [3, 4, 9, 22, 29, 31, 42, 44, 45, 47, 57, 59, 74] = true := by kernel_rfl
theorem agg3 : aggT Try.prog 3 = false := by kernel_rfl
theorem agg22 : aggT Try.prog 22 = false := by kernel_rfl
mutual
theorem dB_le {H : Type} : ∀ d : DataW H, dB d + 1 ≤ Rows.uptoBulk d
  | .lit l => by cases l <;> simp [dB, Rows.uptoBulk]
  | .nil => by simp [dB, Rows.uptoBulk]
  | .ptr d => by simp [dB, Rows.uptoBulk]
  | .slice elems spare => by
    have := dBAll_le elems
    simp only [dB, Rows.uptoBulk]; omega
  | .agg parts => by
    have := dBAll_le parts
    simp only [dB, Rows.uptoBulk]; omega
  | .iface _ d => by simp [dB, Rows.uptoBulk]
  | .map e => by simp [dB, Rows.uptoBulk]
  | .held _ => by simp [dB, Rows.uptoBulk]
theorem dBAll_le {H : Type} : ∀ l : List (DataW H), dBAll l + l.length ≤ Rows.uptoBulkAll l
  | [] => by simp [dBAll, Rows.uptoBulkAll]
  | d :: l => by
    have h1 := dB_le d
    have h2 := dBAll_le l
    simp only [dBAll, Rows.uptoBulkAll, List.length_cons]; omega
end
theorem part_le {H : Type} {d : DataW H} {l : List (DataW H)} (h : d ∈ l) : Rows.uptoBulk d ≤ Rows.uptoBulkAll l := by
  induction l with
  | nil => cases h
  | cons x r ih =>
    simp only [Rows.uptoBulkAll]
    rcases List.mem_cons.1 h with rfl | e
    · omega
    · have := ih e; omega
theorem contract (H : Type) (enc : TypeId × Value → H) (W : World) (base : Nat) (args : Array Value) (ds gs : List (DataW H)) (before : List MemPlace)
    (hval0 : ∀ (j : Nat) t v, Try.f6.params[j]? = some t → args[j]? = some v → Value.okWide Try.prog W .any base t v)
    (hW : DataW.Whole enc Try.prog Try.f6.params.toList Rows.retireMoreSpec.vars false W args.toList ds gs before) (hk : Rows.uptoSmall H (ds ++ gs) = true) :
    Calls Try.prog 6 args W fun e W' => ∃ v, e = .returned v ∧ Rows.retireMoreSpec.post enc Try.prog Try.f6 false true false false W args v W' := by
  have hval : ∀ (j : Nat) t v, Try.f6.params[j]? = some t → args[j]? = some v → Value.okWide Try.prog W .any base t v := hval0
  have hW' := hW
  obtain ⟨p, q, hA0, hV, rfl, hfz, hnd⟩ := hW
  have hA : DataW.TrodAll enc Try.prog W 0 (fun _ => true) true Try.f6.params.toList args.toList ds p := hA0
  rw [Try.params6] at hA hval
  obtain ⟨v0, vs0, d0, ds0, p0, q0, hargs, rfl, rfl, h0, r0⟩ := trodAll_cons hA
  obtain ⟨v1, vs1, d1, ds1, p1, q1, rfl, rfl, rfl, h1, r1⟩ := trodAll_cons r0
  obtain ⟨v2, vs2, d2, ds2, p2, q2, rfl, rfl, rfl, h2, r2⟩ := trodAll_cons r1
  obtain ⟨v3, vs3, d3, ds3, p3, q3, rfl, rfl, rfl, h3, r3⟩ := trodAll_cons r2
  obtain ⟨v4, vs4, d4, ds4, p4, q4, rfl, rfl, rfl, h4, r4⟩ := trodAll_cons r3
  obtain ⟨v5, vs5, d5, ds5, p5, q5, rfl, rfl, rfl, h5, r5⟩ := trodAll_cons r4
  obtain ⟨rfl, rfl, rfl⟩ := trodAll_nil r5
  obtain rfl : args = #[v0, v1, v2, v3, v4, v5] := by cases args; simp_all
  obtain ⟨rfl, rfl⟩ := trodVars_none hV
  obtain ⟨n0, c0, ⟨s0, b0⟩, e0⟩ := arg_openU closed (t := 22) (by decide) (hval 0 22 v0 rfl rfl) h0
  rw [agg22] at e0
  have lt0 : ∀ x ∈ p0, x.block < W.heap.size := by obtain ⟨m, hm⟩ := h0; exact DataW.trod_lt m _ _ _ hm
  obtain ⟨n1, c1, s1, e1⟩ := arg_open closed (t := 3) (by decide) (hval 1 3 v1 rfl rfl) h1
  rw [agg3] at e1
  have lt1 : ∀ x ∈ p1, x.block < W.heap.size := by obtain ⟨m, hm⟩ := h1; exact DataW.trod_lt m _ _ _ hm
  obtain ⟨n2, c2, s2, e2⟩ := arg_open closed (t := 3) (by decide) (hval 2 3 v2 rfl rfl) h2
  rw [agg3] at e2
  have lt2 : ∀ x ∈ p2, x.block < W.heap.size := by obtain ⟨m, hm⟩ := h2; exact DataW.trod_lt m _ _ _ hm
  obtain ⟨n3, c3, s3, e3⟩ := arg_open closed (t := 3) (by decide) (hval 3 3 v3 rfl rfl) h3
  rw [agg3] at e3
  have lt3 : ∀ x ∈ p3, x.block < W.heap.size := by obtain ⟨m, hm⟩ := h3; exact DataW.trod_lt m _ _ _ hm
  obtain ⟨n4, c4, s4, e4⟩ := arg_open closed (t := 3) (by decide) (hval 4 3 v4 rfl rfl) h4
  rw [agg3] at e4
  have lt4 : ∀ x ∈ p4, x.block < W.heap.size := by obtain ⟨m, hm⟩ := h4; exact DataW.trod_lt m _ _ _ hm
  obtain ⟨n5, c5, s5, e5⟩ := arg_open closed (t := 3) (by decide) (hval 5 3 v5 rfl rfl) h5
  rw [agg3] at e5
  have lt5 : ∀ x ∈ p5, x.block < W.heap.size := by obtain ⟨m, hm⟩ := h5; exact DataW.trod_lt m _ _ _ hm
  have hbulk : Rows.uptoBulkAll ([d0, d1, d2, d3, d4, d5] ++ []) ≤ 1048576 := of_decide_eq_true hk
  have sS0 := s0
  have bB0 : bulkS Try.prog n0 22 c0 ≤ 1048576 := Nat.le_trans b0 (Nat.le_trans (Nat.le_succ _) (Nat.le_trans (dB_le d0) (Nat.le_trans (part_le (l := [d0, d1, d2, d3, d4, d5] ++ []) (by simp)) hbulk)))
  obtain ⟨z0, rfl, w0⟩ := sh22 _ _ s0
  obtain ⟨z1, rfl, w1⟩ := sh3 _ _ s1
  obtain ⟨z2, rfl, w2⟩ := sh3 _ _ s2
  obtain ⟨z3, rfl, w3⟩ := sh3 _ _ s3
  obtain ⟨z4, rfl, w4⟩ := sh3 _ _ s4
  obtain ⟨z5, rfl, w5⟩ := sh3 _ _ s5
  clear hA0 hval0
  refine (law_calls (gleaninglaw20_RetireMore_ok z0 z1 z2 z3 z4 z5 (retireMore_true z0 z1 z2 z3 z4 z5 w0 w1 w2 w3 w4 w5 (blk_bound Try.underlying22 Try.underlying31 (List.mem_cons_of_mem _ (List.mem_cons_of_mem _ (List.mem_cons_of_mem _ List.mem_cons_self))) rfl rfl (by kernel_rfl) Try.underlying29 (by kernel_rfl) sS0 bB0))) (vals := [v0, v1, v2, v3, v4, v5]) ⟨e0, ⟨e1, ⟨e2, ⟨e3, ⟨e4, ⟨e5, trivial⟩⟩⟩⟩⟩⟩).mono fun e W' ⟨he, bel⟩ => ?_
  subst he
  exact ⟨_, rfl, _, _, _, [], _, [], hW', trodAll_mk1 (shut_bool Try.underlying4 _), (trodAll_cons_mk (Below.trod laidOut (by kernel_rfl) (of_decide_eq_true (by kernel_rfl)) h0 bel lt0) (trodAll_cons_mk (Below.trod laidOut (by kernel_rfl) (of_decide_eq_true (by kernel_rfl)) h1 bel lt1) (trodAll_cons_mk (Below.trod laidOut (by kernel_rfl) (of_decide_eq_true (by kernel_rfl)) h2 bel lt2) (trodAll_cons_mk (Below.trod laidOut (by kernel_rfl) (of_decide_eq_true (by kernel_rfl)) h3 bel lt3) (trodAll_cons_mk (Below.trod laidOut (by kernel_rfl) (of_decide_eq_true (by kernel_rfl)) h4 bel lt4) (trodAll_cons_mk (Below.trod laidOut (by kernel_rfl) (of_decide_eq_true (by kernel_rfl)) h5 bel lt5) trodAll_mk0)))))), rfl, bel.frame _, fun h => by cases h⟩
set_option maxRecDepth 100000 in
theorem lifted (os : Os) (started : os.Started) (H : Type) (enc : TypeId × Value → H) (F : Stop.Interp) :
    ReturnsInHanded {} Try.checked os 6 .any ((Rows.OpenSpec.upto Rows.retireMoreSpec).pre6 enc Try.prog Try.f6 Rows.retireMoreUptoRow.domain false) (((Rows.OpenSpec.upto Rows.retireMoreSpec).at F).post enc Try.prog Try.f6 false true false false) := by
  refine returnsInHanded_of_cond (C := Try.checked) (s := Rows.OpenSpec.upto Rows.retireMoreSpec) (k := Rows.uptoSmall) rfl own started (by kernel_rfl) Try.func6
    (OpenSpec.witness (enc := enc) (C := Try.checked) (s := Rows.OpenSpec.upto Rows.retireMoreSpec) (k := Rows.uptoSmall) rfl false ⟨#[], #[.slice none 0 0, .int .i64 0, .int .i64 0, .int .i64 0, .int .i64 0, .int .i64 0], []⟩ 8 (by kernel_rfl) (by kernel_rfl) (by kernel_rfl)
      (x := ([.nil, .lit (.int .i64 0), .lit (.int .i64 0), .lit (.int .i64 0), .lit (.int .i64 0), .lit (.int .i64 0)], [], [])) (by kernel_rfl) rfl (by kernel_rfl)) ?_
  intro W base args ds gs before hval hW _ hk _
  exact contract H enc W base args ds gs before hval hW hk
theorem proved : Rows.RetireMoreUptoSaid :=
  OpenClaim.holds_of_cond 6 Try.f6 rfl rfl rfl rfl rfl rfl rfl ⟨rfl, rfl, rfl, rfl, rfl⟩ rfl rfl rfl rfl rfl (by kernel_rfl) Try.func6 (by kernel_rfl)
    (of_decide_eq_true (by kernel_rfl)) (by unfold Func.isWrapper; first | (rw [if_pos (by decide +kernel)]; kernel_rfl) | (rw [if_neg (by decide +kernel)]; exact ⟨rfl, rfl⟩))
    (fun os started H enc _ F => lifted os started H enc F)
end Go.Proofs.Ytejimiedoibkcaa.retireMoreUpto
namespace Go.Proofs.Ytejimiedoibkcaa
/-- The row, under a short name, for the claim. -/
theorem retireMoreUpto_holds : Rows.RetireMoreUptoSaid := retireMoreUpto.proved
#print axioms retireMoreUpto_holds
end Go.Proofs.Ytejimiedoibkcaa
