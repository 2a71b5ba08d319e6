/- StateTellsUptoSaid: for every input that the row speaks of, of bulk at most 1048576, the given law answers true and leaves what it was given as it was. -/
import Derived.Test.YtjklegmimpehlaaGreatRows
import Derived.Test.YtjklegmimpehlaaGreatXStTells
import Derived.Test.YtjklegmimpehlaaGreatPStTells
import Derived.WalkKit
import Derived.ProofKit
import Derived.OpenShut
import Derived.ShutString
import Derived.ChangeOld
import Derived.Below
import Derived.SizedLaws
import Derived.JoinedCond
import Derived.Test.YtjklegmimpehlaaGreatAbArgU
namespace Go.Proofs.YtjklegmimpehlaaGreat.stateTellsUpto
open Go Go.ChangeShapes Go.WideShapes Go.ChangeAt Go.RowKit Go.Proofs.YtjklegmimpehlaaGreat.Ab
open Go.ChangeMaps (open_string shut_string)
set_option linter.unusedVariables false
set_option linter.unusedSimpArgs false
theorem own : ownKnob Tryz.prog.godebug = none := by kernel_rfl
theorem laidOut : laidOutB Tryz.prog = true := by kernel_rfl
theorem closed : closedT Tryz.prog [3, 4, 5, 9, 22, 24, 25, 26, 27, 28, 29, 30, 32, 35, 41, 53, 55, 57, 59, 60, 62, 64, 67, 69, 80, 129, 131, 182] = true := by kernel_rfl
theorem agg32 : aggT Tryz.prog 32 = true := by kernel_rfl
theorem agg35 : aggT Tryz.prog 35 = false := by kernel_rfl
mutual
theorem dB_le {H : Type} : ∀ d : DataW H, dB d + 1 ≤ Rows.uptoBulk d
  | .lit l => by cases l <;> simp [dB, Rows.uptoBulk]
  | .nil => by simp [dB, Rows.uptoBulk]
  | .ptr d => by simp [dB, Rows.uptoBulk]
  | .slice elems spare => by
    have := dBAll_le elems
    simp only [dB, Rows.uptoBulk]; omega
  | .agg parts => by
    have := dBAll_le parts
    simp only [dB, Rows.uptoBulk]; omega
  | .iface _ d => by simp [dB, Rows.uptoBulk]
  | .map e => by simp [dB, Rows.uptoBulk]
  | .held _ => by simp [dB, Rows.uptoBulk]
theorem dBAll_le {H : Type} : ∀ l : List (DataW H), dBAll l + l.length ≤ Rows.uptoBulkAll l
  | [] => by simp [dBAll, Rows.uptoBulkAll]
  | d :: l => by
    have h1 := dB_le d
    have h2 := dBAll_le l
    simp only [dBAll, Rows.uptoBulkAll, List.length_cons]; omega
end
theorem part_le {H : Type} {d : DataW H} {l : List (DataW H)} (h : d ∈ l) : Rows.uptoBulk d ≤ Rows.uptoBulkAll l := by
  induction l with
  | nil => cases h
  | cons x r ih =>
    simp only [Rows.uptoBulkAll]
    rcases List.mem_cons.1 h with rfl | e
    · omega
    · have := ih e; omega
set_option maxRecDepth 100000 in
theorem contract (H : Type) (enc : TypeId × Value → H) (W : World) (base : Nat) (args : Array Value) (ds gs : List (DataW H)) (before : List MemPlace)
    (hval0 : ∀ (j : Nat) t v, Tryz.f5.params[j]? = some t → args[j]? = some v → Value.okWide Tryz.prog W .any base t v)
    (hW : DataW.Whole enc Tryz.prog Tryz.f5.params.toList Rows.stateTellsSpec.vars false W args.toList ds gs before) (hk : Rows.uptoSmall H (ds ++ gs) = true) :
    Calls Tryz.prog 5 args W fun e W' => ∃ v, e = .returned v ∧ Rows.stateTellsSpec.post enc Tryz.prog Tryz.f5 false true false false W args v W' := by
  have hval : ∀ (j : Nat) t v, Tryz.f5.params[j]? = some t → args[j]? = some v → Value.okWide Tryz.prog W .any base t v := hval0
  have hW' := hW
  obtain ⟨p, q, hA0, hV, rfl, hfz, hnd⟩ := hW
  have hA : DataW.TrodAll enc Tryz.prog W 0 (fun _ => true) true Tryz.f5.params.toList args.toList ds p := hA0
  rw [Tryz.params5] at hA hval
  obtain ⟨v0, vs0, d0, ds0, p0, q0, hargs, rfl, rfl, h0, r0⟩ := trodAll_cons hA
  obtain ⟨v1, vs1, d1, ds1, p1, q1, rfl, rfl, rfl, h1, r1⟩ := trodAll_cons r0
  obtain ⟨v2, vs2, d2, ds2, p2, q2, rfl, rfl, rfl, h2, r2⟩ := trodAll_cons r1
  obtain ⟨rfl, rfl, rfl⟩ := trodAll_nil r2
  obtain rfl : args = #[v0, v1, v2] := by cases args; simp_all
  obtain ⟨rfl, rfl⟩ := trodVars_none hV
  obtain ⟨n0, c0, ⟨s0, b0⟩, e0⟩ := arg_openU closed (t := 32) (by decide) (hval 0 32 v0 rfl rfl) h0
  rw [agg32] at e0
  have lt0 : ∀ x ∈ p0, x.block < W.heap.size := by obtain ⟨m, hm⟩ := h0; exact DataW.trod_lt m _ _ _ hm
  obtain ⟨n1, c1, ⟨s1, b1⟩, e1⟩ := arg_openU closed (t := 32) (by decide) (hval 1 32 v1 rfl rfl) h1
  rw [agg32] at e1
  have lt1 : ∀ x ∈ p1, x.block < W.heap.size := by obtain ⟨m, hm⟩ := h1; exact DataW.trod_lt m _ _ _ hm
  obtain ⟨n2, c2, s2, e2⟩ := arg_open closed (t := 35) (by decide) (hval 2 35 v2 rfl rfl) h2
  rw [agg35] at e2
  have lt2 : ∀ x ∈ p2, x.block < W.heap.size := by obtain ⟨m, hm⟩ := h2; exact DataW.trod_lt m _ _ _ hm
  have hbulk : Rows.uptoBulkAll ([d0, d1, d2] ++ []) ≤ 1048576 := of_decide_eq_true hk
  have sS0 := s0
  have bB0 : bulkS Tryz.prog n0 32 c0 ≤ 1048576 := Nat.le_trans b0 (Nat.le_trans (Nat.le_succ _) (Nat.le_trans (dB_le d0) (Nat.le_trans (part_le (l := [d0, d1, d2] ++ []) (by simp)) hbulk)))
  have sS1 := s1
  have bB1 : bulkS Tryz.prog n1 32 c1 ≤ 1048576 := Nat.le_trans b1 (Nat.le_trans (Nat.le_succ _) (Nat.le_trans (dB_le d1) (Nat.le_trans (part_le (l := [d0, d1, d2] ++ []) (by simp)) hbulk)))
  obtain ⟨z0, rfl, w0⟩ := sh32 _ _ s0
  obtain ⟨z1, rfl, w1⟩ := sh32 _ _ s1
  obtain ⟨z2, rfl, w2⟩ := sh35 _ _ s2
  clear hA0 hval0
  refine (law_calls (gleaninglaw21_StateTells_ok z0 z1 z2 (stateTells_true z0 z1 z2 w0 w1 w2 (st_bound Tryz.underlying32 (List.mem_cons_of_mem _ (List.mem_cons_of_mem _ (List.mem_cons_of_mem _ (List.mem_cons_of_mem _ (List.mem_cons_of_mem _ (List.mem_cons_of_mem _ (List.mem_cons_of_mem _ (List.mem_cons_of_mem _ (List.mem_cons_of_mem _ (List.mem_cons_of_mem _ (List.mem_cons_of_mem _ List.mem_cons_self))))))))))) rfl (by kernel_rfl) rfl Tryz.underlying30 Tryz.underlying41 (List.mem_cons_of_mem _ (List.mem_cons_of_mem _ (List.mem_cons_of_mem _ List.mem_cons_self))) rfl rfl (by kernel_rfl) Tryz.underlying25 (by kernel_rfl) sS0 bB0) (st_bound Tryz.underlying32 (List.mem_cons_of_mem _ (List.mem_cons_of_mem _ (List.mem_cons_of_mem _ (List.mem_cons_of_mem _ (List.mem_cons_of_mem _ (List.mem_cons_of_mem _ (List.mem_cons_of_mem _ (List.mem_cons_of_mem _ (List.mem_cons_of_mem _ (List.mem_cons_of_mem _ (List.mem_cons_of_mem _ List.mem_cons_self))))))))))) rfl (by kernel_rfl) rfl Tryz.underlying30 Tryz.underlying41 (List.mem_cons_of_mem _ (List.mem_cons_of_mem _ (List.mem_cons_of_mem _ List.mem_cons_self))) rfl rfl (by kernel_rfl) Tryz.underlying25 (by kernel_rfl) sS1 bB1))) (vals := [v0, v1, v2]) ⟨e0, ⟨e1, ⟨e2, trivial⟩⟩⟩).mono fun e W' ⟨he, bel⟩ => ?_
  subst he
  exact ⟨_, rfl, _, _, _, [], _, [], hW', trodAll_mk1 (shut_bool Tryz.underlying4 _), (trodAll_cons_mk (Below.trod laidOut (by kernel_rfl) (of_decide_eq_true (by kernel_rfl)) h0 bel lt0) (trodAll_cons_mk (Below.trod laidOut (by kernel_rfl) (of_decide_eq_true (by kernel_rfl)) h1 bel lt1) (trodAll_cons_mk (Below.trod laidOut (by kernel_rfl) (of_decide_eq_true (by kernel_rfl)) h2 bel lt2) trodAll_mk0))), rfl, bel.frame _, fun h => by cases h⟩
set_option maxRecDepth 100000 in
theorem lifted (os : Os) (started : os.Started) (H : Type) (enc : TypeId × Value → H) (F : Stop.Interp) :
    ReturnsInHanded {} Tryz.checked os 5 .any ((Rows.OpenSpec.upto Rows.stateTellsSpec).pre6 enc Tryz.prog Tryz.f5 Rows.stateTellsUptoRow.domain false) (((Rows.OpenSpec.upto Rows.stateTellsSpec).at F).post enc Tryz.prog Tryz.f5 false true false false) := by
  refine returnsInHanded_of_cond (C := Tryz.checked) (s := Rows.OpenSpec.upto Rows.stateTellsSpec) (k := Rows.uptoSmall) rfl own started (by kernel_rfl) Tryz.func5
    (OpenSpec.witness (enc := enc) (C := Tryz.checked) (s := Rows.OpenSpec.upto Rows.stateTellsSpec) (k := Rows.uptoSmall) rfl false ⟨#[], #[.agg #[.int .i64 0, .int .i64 0, .int .i64 0, .int .i64 0, .int .i64 0, .int .i64 0, .string ByteArray.empty, .string ByteArray.empty, .slice none 0 0, .slice none 0 0, .slice none 0 0, .slice none 0 0, .slice none 0 0, .slice none 0 0, .slice none 0 0, .slice none 0 0], .agg #[.int .i64 0, .int .i64 0, .int .i64 0, .int .i64 0, .int .i64 0, .int .i64 0, .string ByteArray.empty, .string ByteArray.empty, .slice none 0 0, .slice none 0 0, .slice none 0 0, .slice none 0 0, .slice none 0 0, .slice none 0 0, .slice none 0 0, .slice none 0 0], .slice none 0 0], []⟩ 8 (by kernel_rfl) (by kernel_rfl) (by kernel_rfl)
      (x := ([.agg [.lit (.int .i64 0), .lit (.int .i64 0), .lit (.int .i64 0), .lit (.int .i64 0), .agg [.lit (.int .i64 0), .lit (.int .i64 0), .lit (.string []), .lit (.string []), .nil], .nil, .nil, .nil, .nil, .nil, .nil, .nil], .agg [.lit (.int .i64 0), .lit (.int .i64 0), .lit (.int .i64 0), .lit (.int .i64 0), .agg [.lit (.int .i64 0), .lit (.int .i64 0), .lit (.string []), .lit (.string []), .nil], .nil, .nil, .nil, .nil, .nil, .nil, .nil], .nil], [], [])) (by kernel_rfl) rfl (by kernel_rfl)) ?_
  intro W base args ds gs before hval hW _ hk _
  exact contract H enc W base args ds gs before hval hW hk
theorem proved : Rows.StateTellsUptoSaid :=
  OpenClaim.holds_of_cond 5 Tryz.f5 rfl rfl rfl rfl rfl rfl rfl ⟨rfl, rfl, rfl, rfl, rfl⟩ rfl rfl rfl rfl rfl (by kernel_rfl) Tryz.func5 (by kernel_rfl)
    (of_decide_eq_true (by kernel_rfl)) (by unfold Func.isWrapper; first | (rw [if_pos (by decide +kernel)]; kernel_rfl) | (rw [if_neg (by decide +kernel)]; exact ⟨rfl, rfl⟩))
    (fun os started H enc _ F => lifted os started H enc F)
end Go.Proofs.YtjklegmimpehlaaGreat.stateTellsUpto
namespace Go.Proofs.YtjklegmimpehlaaGreat
/-- The row, under a short name, for the claim. -/
theorem stateTellsUpto_holds : Rows.StateTellsUptoSaid := stateTellsUpto.proved
#print axioms stateTellsUpto_holds
end Go.Proofs.YtjklegmimpehlaaGreat
