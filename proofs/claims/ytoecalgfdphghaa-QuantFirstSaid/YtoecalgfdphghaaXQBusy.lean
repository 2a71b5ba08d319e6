/- Chapter 31: which are busiest. -/
import Derived.Test.YtoecalgfdphghaaXQB
import Derived.Test.YtoecalgfdphghaaProg
namespace Go.Proofs.Ytoecalgfdphghaa.Ab
open Go Go.RowKit
set_option linter.unusedVariables false
set_option linter.unusedSimpArgs false
theorem ent5 : Ent Try.prog 5 := ⟨_, Try.func5, by kernel_rfl, rfl⟩
theorem ent6 : Ent Try.prog 6 := ⟨_, Try.func6, by kernel_rfl, rfl⟩
theorem ent7 : Ent Try.prog 7 := ⟨_, Try.func7, by kernel_rfl, rfl⟩
theorem ent8 : Ent Try.prog 8 := ⟨_, Try.func8, by kernel_rfl, rfl⟩
def gleaninglaw31_QuantBusy_l2 (a0 : List RowG) (v8_2 : Int) : Option (Int ⊕ (Unit ⊕ Bool)) :=
  if (decide (v8_2 < (List.length a0 : Int))) = true then (gd (0 ≤ v8_2) (Option.bind (a0[(Int.toNat v8_2)]?) (fun (x22 : RowG) => if (decide ((60 : Int) < (ByteArray.size x22.Service : Int))) = true then (some (Sum.inr (Sum.inr true))) else (gd (0 ≤ v8_2) (Option.bind (a0[(Int.toNat v8_2)]?) (fun (x26 : RowG) => if (decide ((60 : Int) < (ByteArray.size x26.Op : Int))) = true then (some (Sum.inr (Sum.inr true))) else (some (Sum.inl (IntKind.i64.wrap (v8_2 + 1)))))))))) else (some (Sum.inr (Sum.inl ())))
def gleaninglaw31_QuantBusy_k1 (a0 : List RowG) (a1 : Int) (a2 : Int) : Option Bool :=
  gd ((List.length a0) * 128 ≤ 140737488355328 ∧ (List.length a0) ≤ 140737488355328) (Option.bind (quant_Busy a0 a1 a2) (fun (x31 : List Busy) => Option.bind (gleaningref28_Busy a0 a1 a2) (fun (x32 : List Busy) => Option.bind (gleaningref28_SameBusy x31 x32) (fun (x33 : Bool) => some x33))))
def gleaninglaw31_QuantBusy_k0 (a0 : List RowG) (a1 : Int) (a2 : Int) : Option Bool :=
  Option.bind (loopN (fun (s : Int) => gleaninglaw31_QuantBusy_l2 a0 s) Fu 0) (Sum.elim (fun (s : Unit) => gleaninglaw31_QuantBusy_k1 a0 a1 a2) some)
def gleaninglaw31_QuantBusy (a0 : List RowG) (a1 : Int) (a2 : Int) : Option Bool :=
  Option.bind (gleaninglaw31_alive) (fun (x3 : Bool) => Option.bind (if (!x3) = true then (some (Sum.inr x3)) else (if (decide ((80 : Int) < (List.length a0 : Int))) = true then (some (Sum.inr x3)) else (some (Sum.inl ())))) (Sum.elim (fun (s : Unit) => gleaninglaw31_QuantBusy_k0 a0 a1 a2) some))
set_option maxRecDepth 100000 in
set_option maxHeartbeats 8000000 in
/-- gleaning/gleaninglaw31.QuantBusy -/
theorem gleaninglaw31_QuantBusy_ok (a0 : List RowG) (a1 : Int) (a2 : Int) {r : Bool} (h : gleaninglaw31_QuantBusy a0 a1 a2 = some r) : Ok Try.prog 3 [.sl 14 (List.map enc27 a0), .int .i64 a1, .int .i64 a2] [] [] (.bool r) [] [] := by
  unfold gleaninglaw31_QuantBusy at h
  refine ok_of_code Try.func3 rfl (by show (3 : Nat) ≤ _; decide) (Nat.le_refl _) fun X => ?_
  refine aw_seq_k (fun K1 hK1 => ?_)
  refine aw_regL ?_
  refine alP (some 6) rfl rfl (does_assign (v := .bool false) (by exact rfl)) (by decide) ?_
  refine al_nil ?_
  refine hK1 _ ?_
  refine aw_seq_k (fun K2 hK2 => ?_)
  refine aw_regL ?_
  obtain ⟨x3, hx3, h⟩ := bnd_some h
  refine alD (some 9) rfl rfl (do_call0 9 false (gleaninglaw31_alive_ok hx3) rfl ent5 rfl rfl) (by decide) ?_
  refine alP (some 7) rfl rfl (does_assign (v := .bool x3) (by exact rfl)) (by decide) ?_
  refine al_nil ?_
  refine hK2 _ ?_
  obtain ⟨q4, h, hk5⟩ := bnd_some h
  refine aw_cut (fun s => gleaninglaw31_QuantBusy_k0 a0 a1 a2 = some r ∧ s = lit [(0, .sl 14 (List.map enc27 a0)), (1, .int .i64 a1), (2, .int .i64 a2)] [] [] X) ?_ ?_
  · skip
    refine aw_seq_k (fun K6 hK6 => ?_)
    refine aw_regL ?_
    refine alP (some 10) rfl rfl (does_move (v := .bool x3) (by exact rfl)) (by decide) ?_
    refine alP (some 11) rfl rfl (does_un (v := .bool (!x3)) (by conv => lhs; whnf) rfl) (by decide) ?_
    refine alP (some 12) rfl rfl (does_move (v := .bool (!x3)) (by exact rfl)) (by decide) ?_
    refine al_bool (c := (!x3)) 12 rfl (fun c7 => ?_) (fun c7 => ?_)
    · have h := ifT c7 h
      refine alS (some 13) rfl rfl (by decide) ?_
      refine alS (some 14) rfl rfl (by decide) ?_
      refine alS (some 15) rfl rfl (by decide) ?_
      refine alP (some 16) rfl rfl (does_pick (v := .bool true) (by conv => lhs; whnf) (by exact rfl)) (by decide) ?_
      refine al_nil ?_
      refine hK6 _ ?_
      refine aw_cond_t (by decide) rfl ?_
      refine aw_seq_k (fun K8 hK8 => ?_)
      refine aw_regL ?_
      refine alP (some 17) rfl rfl (does_move (v := .bool x3) (by exact rfl)) (by decide) ?_
      refine alP (some 6) rfl rfl (does_assign (v := .bool x3) (by exact rfl)) (by decide) ?_
      refine al_nil ?_
      refine hK8 _ ?_
      refine aw_ret ?_
      have h := leafR h hk5
      obtain rfl := Option.some.inj h
      exact ret_ok1 (by conv => lhs; whnf) (by conv => lhs; whnf) (by exact rfl) (.inr rfl) rfl
    · have h := ifF c7 h
      refine alP (some 13) rfl rfl (does_move (v := .sl 14 (List.map enc27 a0)) (by exact rfl)) (by decide) ?_
      refine alP (some 14) rfl rfl ((does_len_sl (by conv => lhs; whnf) ty22).castp (v' := .int .i64 (List.length a0 : Int)) (by exact len_map _)) (by decide) ?_
      refine alP (some 15) rfl rfl (does_bin (v := .bool (decide ((80 : Int) < (List.length a0 : Int)))) (by conv => lhs; whnf) (by conv => lhs; whnf) rfl) (by decide) ?_
      refine alP (some 16) rfl rfl (does_pick (v := .bool (decide ((80 : Int) < (List.length a0 : Int)))) (by conv => lhs; whnf) (by exact rfl)) (by decide) ?_
      refine al_nil ?_
      refine hK6 _ ?_
      refine aw_bool (b := (decide ((80 : Int) < (List.length a0 : Int)))) 16 rfl (fun c9 => ?_) (fun c9 => ?_)
      · have h := ifT c9 h
        refine aw_cond_t (by decide) rfl ?_
        refine aw_seq_k (fun K10 hK10 => ?_)
        refine aw_regL ?_
        refine alP (some 17) rfl rfl (does_move (v := .bool x3) (by exact rfl)) (by decide) ?_
        refine alP (some 6) rfl rfl (does_assign (v := .bool x3) (by exact rfl)) (by decide) ?_
        refine al_nil ?_
        refine hK10 _ ?_
        refine aw_ret ?_
        have h := leafR h hk5
        obtain rfl := Option.some.inj h
        exact ret_ok1 (by conv => lhs; whnf) (by conv => lhs; whnf) (by exact rfl) (.inr rfl) rfl
      · have h := ifF c9 h
        refine aw_cond_f (by decide) rfl ?_
        refine aw_skip ?_
        have h := leafL h hk5
        exact ⟨_, reb_lit [(0, .sl 14 (List.map enc27 a0)), (1, .int .i64 a1), (2, .int .i64 a2)] [] [] [] (envOk_cons (by conv => lhs; whnf) (by exact rfl) (envOk_cons (by conv => lhs; whnf) (by exact rfl) (envOk_cons (by conv => lhs; whnf) (by exact rfl) envOk_nil))) objOk_nil (nodup_b rfl) (nodup_b rfl) rfl rfl, h, rfl⟩
  · rintro s ⟨h, rfl⟩
    unfold gleaninglaw31_QuantBusy_k0 at h
    obtain ⟨q11, h, hk12⟩ := bnd_some h
    refine aw_cut (fun s => gleaninglaw31_QuantBusy_k1 a0 a1 a2 = some r ∧ s = lit [(0, .sl 14 (List.map enc27 a0)), (1, .int .i64 a1), (2, .int .i64 a2)] [] [] X) ?_ ?_
    · skip
      refine aw_seq_k (fun K13 hK13 => ?_)
      refine aw_regL ?_
      refine alP (some 8) rfl rfl (does_assign (v := .int .i64 0) (by exact rfl)) (by decide) ?_
      refine al_nil ?_
      refine hK13 _ ?_
      refine aw_block ?_
      refine aw_loop' (fun m s => ∃ (v8_2 : Int), loopN (fun (s : Int) => gleaninglaw31_QuantBusy_l2 a0 s) m v8_2 = some q11 ∧ s = lit [(0, .sl 14 (List.map enc27 a0)), (1, .int .i64 a1), (2, .int .i64 a2), (8, .int .i64 v8_2)] [] [] X) Fu
        ⟨_, reb_lit [(0, .sl 14 (List.map enc27 a0)), (1, .int .i64 a1), (2, .int .i64 a2), (8, .int .i64 (0))] [] [] [] (envOk_cons (by conv => lhs; whnf) (by exact rfl) (envOk_cons (by conv => lhs; whnf) (by exact rfl) (envOk_cons (by conv => lhs; whnf) (by exact rfl) (envOk_cons (by conv => lhs; whnf) (by exact rfl) envOk_nil)))) objOk_nil (nodup_b rfl) (nodup_b rfl) rfl rfl, 0, h, rfl⟩ ?_
      rintro m s ⟨v8_2, h, rfl⟩
      obtain ⟨m2, q14, rfl, h, hq15⟩ := loop_some h
      replace h : gleaninglaw31_QuantBusy_l2 a0 v8_2 = some q14 := h
      unfold gleaninglaw31_QuantBusy_l2 at h
      refine aw_seq_k (fun K16 hK16 => ?_)
      refine aw_seq_k (fun K17 hK17 => ?_)
      refine aw_regL ?_
      refine alP (some 18) rfl rfl (does_move (v := .int .i64 v8_2) (by exact rfl)) (by decide) ?_
      refine alP (some 19) rfl rfl (does_move (v := .sl 14 (List.map enc27 a0)) (by exact rfl)) (by decide) ?_
      refine alP (some 20) rfl rfl ((does_len_sl (by conv => lhs; whnf) ty22).castp (v' := .int .i64 (List.length a0 : Int)) (by exact len_map _)) (by decide) ?_
      refine alP (some 21) rfl rfl (does_bin (v := .bool (decide (v8_2 < (List.length a0 : Int)))) (by conv => lhs; whnf) (by conv => lhs; whnf) rfl) (by decide) ?_
      refine al_nil ?_
      refine hK17 _ ?_
      refine aw_bool (b := (decide (v8_2 < (List.length a0 : Int)))) 21 rfl (fun c18 => ?_) (fun c18 => ?_)
      · have h := ifT c18 h
        refine aw_cond_t (by decide) rfl ?_
        refine aw_skip ?_
        refine hK16 _ ?_
        refine aw_seq_k (fun K19 hK19 => ?_)
        refine aw_block ?_
        refine aw_seq_k (fun K20 hK20 => ?_)
        refine aw_regL ?_
        refine alP (some 24) rfl rfl (does_move (v := .sl 14 (List.map enc27 a0)) (by exact rfl)) (by decide) ?_
        refine alP (some 25) rfl rfl (does_move (v := .int .i64 v8_2) (by exact rfl)) (by decide) ?_
        obtain ⟨g21, h⟩ := gd_some h
        obtain ⟨x22, hx22, h⟩ := bnd_some h
        refine alP (some 26) rfl rfl (does_indexAddr_sl (el := .agg [.int .i64 x22.Level, .int .i64 x22.Window, .str x22.Service, .str x22.Op, .int .i64 x22.Counter.Count, .int .i64 x22.Counter.Errs, .int .i64 x22.Counter.By.c0, .int .i64 x22.Counter.By.c1, .int .i64 x22.Counter.By.c2, .int .i64 x22.Counter.By.c3, .int .i64 x22.Counter.By.c4, .int .i64 x22.Counter.By.c5, .int .i64 x22.Counter.By.c6, .int .i64 x22.Counter.By.c7]) (by conv => lhs; whnf) (by conv => lhs; whnf) ty22 ty28 g21 (by exact map_get hx22)) (by decide) ?_
        refine alP (some 27) rfl rfl (does_fieldAddr (q := .rptr [.str x22.Service, .str x22.Op, .int .i64 x22.Counter.Count, .int .i64 x22.Counter.Errs, .int .i64 x22.Counter.By.c0, .int .i64 x22.Counter.By.c1, .int .i64 x22.Counter.By.c2, .int .i64 x22.Counter.By.c3, .int .i64 x22.Counter.By.c4, .int .i64 x22.Counter.By.c5, .int .i64 x22.Counter.By.c6, .int .i64 x22.Counter.By.c7]) (by conv => lhs; whnf) ty28 rfl ty9 (by decide) (by exact rfl)) (by decide) ?_
        refine alR (some 28) rfl rfl (does_load (v := .str x22.Service) (by conv => lhs; whnf) (by conv => lhs; whnf) ty9 (by exact rfl)) (by decide) ?_
        refine alP (some 29) rfl rfl (does_len_str (by conv => lhs; whnf) ty9) (by decide) ?_
        refine alP (some 30) rfl rfl (does_bin (v := .bool (decide ((60 : Int) < (ByteArray.size x22.Service : Int)))) (by conv => lhs; whnf) (by conv => lhs; whnf) rfl) (by decide) ?_
        refine alP (some 31) rfl rfl (does_move (v := .bool (decide ((60 : Int) < (ByteArray.size x22.Service : Int)))) (by exact rfl)) (by decide) ?_
        refine al_bool (c := (decide ((60 : Int) < (ByteArray.size x22.Service : Int)))) 31 rfl (fun c23 => ?_) (fun c23 => ?_)
        · have h := ifT c23 h
          refine alS (some 32) rfl rfl (by decide) ?_
          refine alS (some 33) rfl rfl (by decide) ?_
          refine alS (some 34) rfl rfl (by decide) ?_
          refine alS (some 35) rfl rfl (by decide) ?_
          refine alS (some 36) rfl rfl (by decide) ?_
          refine alS (some 37) rfl rfl (by decide) ?_
          refine alS (some 38) rfl rfl (by decide) ?_
          refine alP (some 39) rfl rfl (does_pick (v := .bool true) (by conv => lhs; whnf) (by exact rfl)) (by decide) ?_
          refine al_nil ?_
          refine hK20 _ ?_
          refine aw_cond_t (by decide) rfl ?_
          refine aw_seq_k (fun K24 hK24 => ?_)
          refine aw_regL ?_
          refine alP (some 6) rfl rfl (does_assign (v := .bool true) (by exact rfl)) (by decide) ?_
          refine al_nil ?_
          refine hK24 _ ?_
          refine aw_ret ?_
          have h := leafR h hq15
          have h := leafR h hk12
          obtain rfl := Option.some.inj h
          exact ret_ok1 (by conv => lhs; whnf) (by conv => lhs; whnf) (by exact rfl) (.inr rfl) rfl
        · have h := ifF c23 h
          refine alP (some 32) rfl rfl (does_move (v := .sl 14 (List.map enc27 a0)) (by exact rfl)) (by decide) ?_
          refine alP (some 33) rfl rfl (does_move (v := .int .i64 v8_2) (by exact rfl)) (by decide) ?_
          obtain ⟨g25, h⟩ := gd_some h
          obtain ⟨x26, hx26, h⟩ := bnd_some h
          refine alP (some 34) rfl rfl (does_indexAddr_sl (el := .agg [.int .i64 x26.Level, .int .i64 x26.Window, .str x26.Service, .str x26.Op, .int .i64 x26.Counter.Count, .int .i64 x26.Counter.Errs, .int .i64 x26.Counter.By.c0, .int .i64 x26.Counter.By.c1, .int .i64 x26.Counter.By.c2, .int .i64 x26.Counter.By.c3, .int .i64 x26.Counter.By.c4, .int .i64 x26.Counter.By.c5, .int .i64 x26.Counter.By.c6, .int .i64 x26.Counter.By.c7]) (by conv => lhs; whnf) (by conv => lhs; whnf) ty22 ty28 g25 (by exact map_get hx26)) (by decide) ?_
          refine alP (some 35) rfl rfl (does_fieldAddr (q := .rptr [.str x26.Op, .int .i64 x26.Counter.Count, .int .i64 x26.Counter.Errs, .int .i64 x26.Counter.By.c0, .int .i64 x26.Counter.By.c1, .int .i64 x26.Counter.By.c2, .int .i64 x26.Counter.By.c3, .int .i64 x26.Counter.By.c4, .int .i64 x26.Counter.By.c5, .int .i64 x26.Counter.By.c6, .int .i64 x26.Counter.By.c7]) (by conv => lhs; whnf) ty28 rfl ty9 (by decide) (by exact rfl)) (by decide) ?_
          refine alR (some 36) rfl rfl (does_load (v := .str x26.Op) (by conv => lhs; whnf) (by conv => lhs; whnf) ty9 (by exact rfl)) (by decide) ?_
          refine alP (some 37) rfl rfl (does_len_str (by conv => lhs; whnf) ty9) (by decide) ?_
          refine alP (some 38) rfl rfl (does_bin (v := .bool (decide ((60 : Int) < (ByteArray.size x26.Op : Int)))) (by conv => lhs; whnf) (by conv => lhs; whnf) rfl) (by decide) ?_
          refine alP (some 39) rfl rfl (does_pick (v := .bool (decide ((60 : Int) < (ByteArray.size x26.Op : Int)))) (by conv => lhs; whnf) (by exact rfl)) (by decide) ?_
          refine al_nil ?_
          refine hK20 _ ?_
          refine aw_bool (b := (decide ((60 : Int) < (ByteArray.size x26.Op : Int)))) 39 rfl (fun c27 => ?_) (fun c27 => ?_)
          · have h := ifT c27 h
            refine aw_cond_t (by decide) rfl ?_
            refine aw_seq_k (fun K28 hK28 => ?_)
            refine aw_regL ?_
            refine alP (some 6) rfl rfl (does_assign (v := .bool true) (by exact rfl)) (by decide) ?_
            refine al_nil ?_
            refine hK28 _ ?_
            refine aw_ret ?_
            have h := leafR h hq15
            have h := leafR h hk12
            obtain rfl := Option.some.inj h
            exact ret_ok1 (by conv => lhs; whnf) (by conv => lhs; whnf) (by exact rfl) (.inr rfl) rfl
          · have h := ifF c27 h
            refine aw_cond_f (by decide) rfl ?_
            refine aw_skip ?_
            refine hK19 _ ?_
            refine aw_regL ?_
            refine alP (some 22) rfl rfl (does_move (v := .int .i64 v8_2) (by exact rfl)) (by decide) ?_
            refine alP (some 23) rfl rfl (does_bin (v := .int .i64 (IntKind.i64.wrap (v8_2 + 1))) (by conv => lhs; whnf) (by conv => lhs; whnf) rfl) (by decide) ?_
            refine alP (some 8) rfl rfl (does_assign (v := .int .i64 (IntKind.i64.wrap (v8_2 + 1))) (by exact rfl)) (by decide) ?_
            refine al_nil ?_
            have h := leafL h hq15
            exact ⟨m2, Nat.lt_succ_self _, _, reb_lit [(0, .sl 14 (List.map enc27 a0)), (1, .int .i64 a1), (2, .int .i64 a2), (8, .int .i64 (IntKind.i64.wrap (v8_2 + 1)))] [] [] [] (envOk_cons (by conv => lhs; whnf) (by exact rfl) (envOk_cons (by conv => lhs; whnf) (by exact rfl) (envOk_cons (by conv => lhs; whnf) (by exact rfl) (envOk_cons (by conv => lhs; whnf) (by exact rfl) envOk_nil)))) objOk_nil (nodup_b rfl) (nodup_b rfl) rfl rfl, (IntKind.i64.wrap (v8_2 + 1)), h, rfl⟩
      · have h := ifF c18 h
        refine aw_cond_f (by decide) rfl ?_
        refine aw_exit ?_
        have h := leafR h hq15
        have h := leafL h hk12
        exact ⟨_, reb_lit [(0, .sl 14 (List.map enc27 a0)), (1, .int .i64 a1), (2, .int .i64 a2)] [] [] [] (envOk_cons (by conv => lhs; whnf) (by exact rfl) (envOk_cons (by conv => lhs; whnf) (by exact rfl) (envOk_cons (by conv => lhs; whnf) (by exact rfl) envOk_nil))) objOk_nil (nodup_b rfl) (nodup_b rfl) rfl rfl, h, rfl⟩
    · rintro s ⟨h, rfl⟩
      unfold gleaninglaw31_QuantBusy_k1 at h
      refine aw_seq_k (fun K29 hK29 => ?_)
      refine aw_regL ?_
      refine alP (some 40) rfl rfl (does_move (v := .sl 14 (List.map enc27 a0)) (by exact rfl)) (by decide) ?_
      obtain ⟨g30, h⟩ := gd_some h
      refine alD (some 41) rfl rfl (do_append (v := List.map enc27 a0) (by conv => lhs; whnf) (by conv => lhs; whnf) ty22 ty28 rfl rfl (by conv => lhs; whnf) (by first | exact .inl rfl | exact .inr ⟨rfl, rfl⟩) (by conv => lhs; whnf) (by first | exact .inr rfl | exact .inl rfl) (List.nil_append _) (fit_map g30)) (by decide) ?_
      refine alP (some 42) rfl rfl (does_move (v := .int .i64 a1) (by exact rfl)) (by decide) ?_
      refine alP (some 43) rfl rfl (does_move (v := .int .i64 a2) (by exact rfl)) (by decide) ?_
      obtain ⟨x31, hx31, h⟩ := bnd_some h
      refine alD (some 44) rfl rfl (does_frz (d := 41) (n := 0) (by conv => lhs; whnf) (do_callG (bcs := []) [] [] [(41, 0)] 44 false (quant_Busy_ok a0 a1 a2 hx31) rfl ent7 trivial trivial rfl rfl rfl rfl rfl rfl rfl rfl (.inl ⟨⟨_, _, _, rfl⟩, trivial⟩))) (by decide) ?_
      refine alP (some 45) rfl rfl (does_move (v := .sl 14 (List.map enc27 a0)) (by exact rfl)) (by decide) ?_
      refine alP (some 46) rfl rfl (does_move (v := .int .i64 a1) (by exact rfl)) (by decide) ?_
      refine alP (some 47) rfl rfl (does_move (v := .int .i64 a2) (by exact rfl)) (by decide) ?_
      obtain ⟨x32, hx32, h⟩ := bnd_some h
      refine alD (some 48) rfl rfl (do_call0 48 false (gleaningref28_Busy_ok a0 a1 a2 hx32) rfl ent8 rfl rfl) (by decide) ?_
      obtain ⟨x33, hx33, h⟩ := bnd_some h
      refine alD (some 49) rfl rfl (do_call0 49 false (gleaningref28_SameBusy_ok x31 x32 hx33) rfl ent6 rfl rfl) (by decide) ?_
      refine alP (some 6) rfl rfl (does_assign (v := .bool x33) (by exact rfl)) (by decide) ?_
      refine al_nil ?_
      refine hK29 _ ?_
      refine aw_ret ?_
      obtain rfl := Option.some.inj h
      exact ret_ok1 (by conv => lhs; whnf) (by conv => lhs; whnf) (by exact rfl) (.inr rfl) rfl
theorem sh3 : ∀ (m : Nat) (cs : List PV), Shape Try.prog m 3 cs → ∃ a : Int, cs = [.int .i64 a] ∧ (inI .i64 a) := fun m cs h => shape_i h Try.underlying3
theorem sh9 : ∀ (m : Nat) (cs : List PV), Shape Try.prog m 9 cs → ∃ a : ByteArray, cs = [.str a] ∧ ((ByteArray.size a) ≤ maxLen) := fun m cs h => shape_str h Try.underlying9
def Arr8_Int.wf (a : Arr8_Int) : Prop := (inI .i64 a.c0) ∧ (inI .i64 a.c1) ∧ (inI .i64 a.c2) ∧ (inI .i64 a.c3) ∧ (inI .i64 a.c4) ∧ (inI .i64 a.c5) ∧ (inI .i64 a.c6) ∧ (inI .i64 a.c7)
theorem sh24 : ∀ (m : Nat) (cs : List PV), Shape Try.prog m 24 cs → ∃ a : Arr8_Int, cs = [.int .i64 a.c0, .int .i64 a.c1, .int .i64 a.c2, .int .i64 a.c3, .int .i64 a.c4, .int .i64 a.c5, .int .i64 a.c6, .int .i64 a.c7] ∧ (Arr8_Int.wf a) := fun m cs h => by
  obtain ⟨hl, m, hf⟩ := shape_arr (c := 1) h Try.underlying24 (by kernel_rfl)
  have f0 := hf 0 (by decide)
  obtain ⟨a0, e0, w0⟩ := sh3 m _ f0
  have f1 := hf 1 (by decide)
  obtain ⟨a1, e1, w1⟩ := sh3 m _ f1
  have f2 := hf 2 (by decide)
  obtain ⟨a2, e2, w2⟩ := sh3 m _ f2
  have f3 := hf 3 (by decide)
  obtain ⟨a3, e3, w3⟩ := sh3 m _ f3
  have f4 := hf 4 (by decide)
  obtain ⟨a4, e4, w4⟩ := sh3 m _ f4
  have f5 := hf 5 (by decide)
  obtain ⟨a5, e5, w5⟩ := sh3 m _ f5
  have f6 := hf 6 (by decide)
  obtain ⟨a6, e6, w6⟩ := sh3 m _ f6
  have f7 := hf 7 (by decide)
  obtain ⟨a7, e7, w7⟩ := sh3 m _ f7
  exact ⟨⟨a0, a1, a2, a3, a4, a5, a6, a7⟩, tile_all (l := [(1, [.int .i64 a0]), (1, [.int .i64 a1]), (1, [.int .i64 a2]), (1, [.int .i64 a3]), (1, [.int .i64 a4]), (1, [.int .i64 a5]), (1, [.int .i64 a6]), (1, [.int .i64 a7])]) ⟨e0, e1, e2, e3, e4, e5, e6, e7, trivial⟩ hl (by kernel_rfl), ⟨w0, w1, w2, w3, w4, w5, w6, w7⟩⟩
def Counter.wf (a : Counter) : Prop := (inI .i64 a.Count) ∧ (inI .i64 a.Errs) ∧ (Arr8_Int.wf a.By)
theorem sh26 : ∀ (m : Nat) (cs : List PV), Shape Try.prog m 26 cs → ∃ a : Counter, cs = [.int .i64 a.Count, .int .i64 a.Errs, .int .i64 a.By.c0, .int .i64 a.By.c1, .int .i64 a.By.c2, .int .i64 a.By.c3, .int .i64 a.By.c4, .int .i64 a.By.c5, .int .i64 a.By.c6, .int .i64 a.By.c7] ∧ (Counter.wf a) := fun m cs h => by
  obtain ⟨hl, m, hf⟩ := shape_struct h Try.underlying26
  have f0 := hf 0 _ rfl
  obtain ⟨a0, e0, w0⟩ := sh3 m _ f0
  rw [show Try.prog.cellsOf _ = 1 by kernel_rfl] at e0
  have f1 := hf 1 _ rfl
  obtain ⟨a1, e1, w1⟩ := sh3 m _ f1
  rw [show Try.prog.cellsOf _ = 1 by kernel_rfl] at e1
  have f2 := hf 2 _ rfl
  obtain ⟨a2, e2, w2⟩ := sh24 m _ f2
  rw [show Try.prog.cellsOf _ = 8 by kernel_rfl] at e2
  exact ⟨⟨a0, a1, a2⟩, tile_all (l := [(1, [.int .i64 a0]), (1, [.int .i64 a1]), (8, [.int .i64 a2.c0, .int .i64 a2.c1, .int .i64 a2.c2, .int .i64 a2.c3, .int .i64 a2.c4, .int .i64 a2.c5, .int .i64 a2.c6, .int .i64 a2.c7])]) ⟨e0, e1, e2, trivial⟩ hl (by kernel_rfl), ⟨w0, w1, w2⟩⟩
def RowG.wf (a : RowG) : Prop := (inI .i64 a.Level) ∧ (inI .i64 a.Window) ∧ ((ByteArray.size a.Service) ≤ maxLen) ∧ ((ByteArray.size a.Op) ≤ maxLen) ∧ (Counter.wf a.Counter)
theorem sh28 : ∀ (m : Nat) (cs : List PV), Shape Try.prog m 28 cs → ∃ a : RowG, cs = [.int .i64 a.Level, .int .i64 a.Window, .str a.Service, .str a.Op, .int .i64 a.Counter.Count, .int .i64 a.Counter.Errs, .int .i64 a.Counter.By.c0, .int .i64 a.Counter.By.c1, .int .i64 a.Counter.By.c2, .int .i64 a.Counter.By.c3, .int .i64 a.Counter.By.c4, .int .i64 a.Counter.By.c5, .int .i64 a.Counter.By.c6, .int .i64 a.Counter.By.c7] ∧ (RowG.wf a) := fun m cs h => by
  obtain ⟨hl, m, hf⟩ := shape_struct h Try.underlying28
  have f0 := hf 0 _ rfl
  obtain ⟨a0, e0, w0⟩ := sh3 m _ f0
  rw [show Try.prog.cellsOf _ = 1 by kernel_rfl] at e0
  have f1 := hf 1 _ rfl
  obtain ⟨a1, e1, w1⟩ := sh3 m _ f1
  rw [show Try.prog.cellsOf _ = 1 by kernel_rfl] at e1
  have f2 := hf 2 _ rfl
  obtain ⟨a2, e2, w2⟩ := sh9 m _ f2
  rw [show Try.prog.cellsOf _ = 1 by kernel_rfl] at e2
  have f3 := hf 3 _ rfl
  obtain ⟨a3, e3, w3⟩ := sh9 m _ f3
  rw [show Try.prog.cellsOf _ = 1 by kernel_rfl] at e3
  have f4 := hf 4 _ rfl
  obtain ⟨a4, e4, w4⟩ := sh26 m _ f4
  rw [show Try.prog.cellsOf _ = 10 by kernel_rfl] at e4
  exact ⟨⟨a0, a1, a2, a3, a4⟩, tile_all (l := [(1, [.int .i64 a0]), (1, [.int .i64 a1]), (1, [.str a2]), (1, [.str a3]), (10, [.int .i64 a4.Count, .int .i64 a4.Errs, .int .i64 a4.By.c0, .int .i64 a4.By.c1, .int .i64 a4.By.c2, .int .i64 a4.By.c3, .int .i64 a4.By.c4, .int .i64 a4.By.c5, .int .i64 a4.By.c6, .int .i64 a4.By.c7])]) ⟨e0, e1, e2, e3, e4, trivial⟩ hl (by kernel_rfl), ⟨w0, w1, w2, w3, w4⟩⟩
theorem sh22 : ∀ (m : Nat) (cs : List PV), Shape Try.prog m 22 cs → ∃ a : List RowG, cs = [.sl 14 (List.map enc27 a)] ∧ ((List.length a) ≤ maxLen ∧ ∀ y ∈ a, RowG.wf y) := fun m cs h => by
  obtain ⟨l, h1, h2, h3⟩ := shape_rows (f := enc27) (Q := fun y => RowG.wf y) h Try.underlying22 (fun m ps hs => by
    obtain ⟨a, rfl, hw⟩ := sh28 m ps hs
    exact ⟨a, by rw [show aggT Try.prog 28 = true by kernel_rfl]; rfl, hw⟩)
  exact ⟨l, h1.trans (by rw [show Try.prog.cellsOf 28 = 14 by kernel_rfl]), h2, h3⟩
end Go.Proofs.Ytoecalgfdphghaa.Ab
