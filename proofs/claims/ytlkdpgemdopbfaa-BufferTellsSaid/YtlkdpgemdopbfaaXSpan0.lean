/- Spans: few and small; the same. -/
import Derived.Test.YtlkdpgemdopbfaaAbDel
import Derived.Test.YtlkdpgemdopbfaaProg
namespace Go.Proofs.Ytlkdpgemdopbfaa.Ab
open Go Go.RowKit
set_option linter.unusedVariables false
set_option linter.unusedSimpArgs false
structure Trace where
  Hi : Int
  Lo : Int
  deriving DecidableEq
structure Attr where
  Key : ByteArray
  Value : ByteArray
  deriving DecidableEq
structure Span where
  Trace : Trace
  Id : Int
  Parent : Int
  Service : ByteArray
  Op : ByteArray
  Start : Int
  Dur : Int
  Err : Bool
  Attrs : List Attr
  deriving DecidableEq
def enc68 (x : Attr) : PV := .agg [.str x.Key, .str x.Value]
def enc30 (x : Span) : PV := .agg [.int .u64 x.Trace.Hi, .int .u64 x.Trace.Lo, .int .u64 x.Id, .int .u64 x.Parent, .str x.Service, .str x.Op, .int .i64 x.Start, .int .i64 x.Dur, .bool x.Err, .sl 2 (List.map enc68 x.Attrs)]
theorem ty3 : tyOf Try.prog 3 = some ⟨.int .i64, 1, 8, [.int .i64 0]⟩ := by kernel_rfl
theorem ty4 : tyOf Try.prog 4 = some ⟨.bool, 1, 1, [.bool false]⟩ := by kernel_rfl
theorem ty9 : tyOf Try.prog 9 = some ⟨.str, 1, 16, [.str ByteArray.empty]⟩ := by kernel_rfl
theorem ty23 : tyOf Try.prog 23 = some ⟨.int .u64, 1, 8, [.int .u64 0]⟩ := by kernel_rfl
theorem ty25 : tyOf Try.prog 25 = some ⟨.struct [(0, 23), (1, 23)], 2, 16, [.int .u64 0, .int .u64 0]⟩ := by kernel_rfl
theorem ty26 : tyOf Try.prog 26 = some ⟨.slice 31, 1, 24, [.nil]⟩ := by kernel_rfl
theorem ty29 : tyOf Try.prog 29 = some ⟨.slice 69, 1, 24, [.nil]⟩ := by kernel_rfl
theorem ty31 : tyOf Try.prog 31 = some ⟨.struct [(0, 25), (2, 23), (3, 23), (4, 9), (5, 9), (6, 3), (7, 3), (8, 4), (9, 29)], 10, 112, [.int .u64 0, .int .u64 0, .int .u64 0, .int .u64 0, .str ByteArray.empty, .str ByteArray.empty, .int .i64 0, .int .i64 0, .bool false, .nil]⟩ := by kernel_rfl
theorem ty69 : tyOf Try.prog 69 = some ⟨.struct [(0, 9), (1, 9)], 2, 32, [.str ByteArray.empty, .str ByteArray.empty]⟩ := by kernel_rfl
theorem fk25 : flatK Try.prog 8 25 = some [.i .u64, .i .u64] := by kernel_rfl
theorem ag25 : aggT Try.prog 25 = true := by kernel_rfl
theorem eg25 : Try.prog.eqGuardType Try.prog.depth 25 = false := by kernel_rfl
theorem fk69 : flatK Try.prog 8 69 = some [.s, .s] := by kernel_rfl
theorem ag69 : aggT Try.prog 69 = true := by kernel_rfl
theorem eg69 : Try.prog.eqGuardType Try.prog.depth 69 = false := by kernel_rfl
theorem ent17 : Ent Try.prog 17 := ⟨_, Try.func17, by kernel_rfl, rfl⟩
theorem ent46 : Ent Try.prog 46 := ⟨_, Try.func46, by kernel_rfl, rfl⟩
theorem ent64 : Ent Try.prog 64 := ⟨_, Try.func64, by kernel_rfl, rfl⟩
theorem ent65 : Ent Try.prog 65 := ⟨_, Try.func65, by kernel_rfl, rfl⟩
def gleaninglaw3_Few_l1 (a0 : Span) (v3_1 : Int) : Option (Int ⊕ Bool) :=
  if (decide (v3_1 < (List.length a0.Attrs : Int))) = true then (gd (0 ≤ v3_1) (Option.bind (a0.Attrs[(Int.toNat v3_1)]?) (fun (x21 : Attr) => if (decide ((100 : Int) < (ByteArray.size x21.Key : Int))) = true then (some (Sum.inr false)) else (gd (0 ≤ v3_1) (Option.bind (a0.Attrs[(Int.toNat v3_1)]?) (fun (x25 : Attr) => if (decide ((100 : Int) < (ByteArray.size x25.Value : Int))) = true then (some (Sum.inr false)) else (some (Sum.inl (IntKind.i64.wrap (v3_1 + 1)))))))))) else (some (Sum.inr true))
def gleaninglaw3_Few_k0 (a0 : Span) : Option Bool :=
  loopN (fun (s : Int) => gleaninglaw3_Few_l1 a0 s) Fu 0
def gleaninglaw3_Few (a0 : Span) : Option Bool :=
  Option.bind (if (decide ((100 : Int) < (ByteArray.size a0.Service : Int))) = true then (some (Sum.inr false)) else (if (decide ((100 : Int) < (ByteArray.size a0.Op : Int))) = true then (some (Sum.inr false)) else (if (decide ((20 : Int) < (List.length a0.Attrs : Int))) = true then (some (Sum.inr false)) else (some (Sum.inl ()))))) (Sum.elim (fun (s : Unit) => gleaninglaw3_Few_k0 a0) some)
set_option maxRecDepth 100000 in
set_option maxHeartbeats 8000000 in
/-- gleaning/gleaninglaw3.Few -/
theorem gleaninglaw3_Few_ok (a0 : Span) {r : Bool} (h : gleaninglaw3_Few a0 = some r) : Ok Try.prog 17 [.agg [.int .u64 a0.Trace.Hi, .int .u64 a0.Trace.Lo, .int .u64 a0.Id, .int .u64 a0.Parent, .str a0.Service, .str a0.Op, .int .i64 a0.Start, .int .i64 a0.Dur, .bool a0.Err, .sl 2 (List.map enc68 a0.Attrs)]] [] [] (.bool r) [] [] := by
  unfold gleaninglaw3_Few at h
  refine ok_of_code Try.func17 rfl (by show (1 : Nat) ≤ _; decide) (Nat.le_refl _) fun X => ?_
  refine aw_seq_k (fun K1 hK1 => ?_)
  refine aw_regL ?_
  refine alD (some 1) rfl rfl (do_box (by conv => lhs; whnf) rfl rfl) (by decide) ?_
  refine alP (some 2) rfl rfl (does_assign (v := .bool false) (by exact rfl)) (by decide) ?_
  refine al_nil ?_
  refine hK1 _ ?_
  obtain ⟨q2, h, hk3⟩ := bnd_some h
  refine aw_cut (fun s => gleaninglaw3_Few_k0 a0 = some r ∧ s = lit [(1, .ptr 1 0 0)] [((1, 0), .box [.int .u64 a0.Trace.Hi, .int .u64 a0.Trace.Lo, .int .u64 a0.Id, .int .u64 a0.Parent, .str a0.Service, .str a0.Op, .int .i64 a0.Start, .int .i64 a0.Dur, .bool a0.Err, .sl 2 (List.map enc68 a0.Attrs)])] [(1, 1)] X) ?_ ?_
  · skip
    refine aw_seq_k (fun K4 hK4 => ?_)
    refine aw_regL ?_
    refine alP (some 4) rfl rfl (does_fieldAddr (q := .ptr 1 0 4) (by conv => lhs; whnf) ty31 rfl ty9 (by decide) (by exact rfl)) (by decide) ?_
    refine alR (some 5) rfl rfl (does_load (v := .str a0.Service) (by conv => lhs; whnf) (by conv => lhs; whnf) ty9 (by exact rfl)) (by decide) ?_
    refine alP (some 6) rfl rfl (does_len_str (by conv => lhs; whnf) ty9) (by decide) ?_
    refine alP (some 7) rfl rfl (does_bin (v := .bool (decide ((100 : Int) < (ByteArray.size a0.Service : Int)))) (by conv => lhs; whnf) (by conv => lhs; whnf) rfl) (by decide) ?_
    refine alP (some 8) rfl rfl (does_move (v := .bool (decide ((100 : Int) < (ByteArray.size a0.Service : Int)))) (by exact rfl)) (by decide) ?_
    refine al_bool (c := (decide ((100 : Int) < (ByteArray.size a0.Service : Int)))) 8 rfl (fun c5 => ?_) (fun c5 => ?_)
    · have h := ifT c5 h
      refine alS (some 9) rfl rfl (by decide) ?_
      refine alS (some 10) rfl rfl (by decide) ?_
      refine alS (some 11) rfl rfl (by decide) ?_
      refine alS (some 12) rfl rfl (by decide) ?_
      refine alP (some 13) rfl rfl (does_pick (v := .bool true) (by conv => lhs; whnf) (by exact rfl)) (by decide) ?_
      refine alP (some 14) rfl rfl (does_move (v := .bool true) (by exact rfl)) (by decide) ?_
      refine alS (some 15) rfl rfl (by decide) ?_
      refine alS (some 16) rfl rfl (by decide) ?_
      refine alS (some 17) rfl rfl (by decide) ?_
      refine alS (some 18) rfl rfl (by decide) ?_
      refine alP (some 19) rfl rfl (does_pick (v := .bool true) (by conv => lhs; whnf) (by exact rfl)) (by decide) ?_
      refine al_nil ?_
      refine hK4 _ ?_
      refine aw_cond_t (by decide) rfl ?_
      refine aw_seq_k (fun K6 hK6 => ?_)
      refine aw_regL ?_
      refine alP (some 2) rfl rfl (does_assign (v := .bool false) (by exact rfl)) (by decide) ?_
      refine al_nil ?_
      refine hK6 _ ?_
      refine aw_ret ?_
      have h := leafR h hk3
      obtain rfl := Option.some.inj h
      exact ret_ok1 (by conv => lhs; whnf) (by conv => lhs; whnf) (by exact rfl) (.inr rfl) rfl
    · have h := ifF c5 h
      refine alP (some 9) rfl rfl (does_fieldAddr (q := .ptr 1 0 5) (by conv => lhs; whnf) ty31 rfl ty9 (by decide) (by exact rfl)) (by decide) ?_
      refine alR (some 10) rfl rfl (does_load (v := .str a0.Op) (by conv => lhs; whnf) (by conv => lhs; whnf) ty9 (by exact rfl)) (by decide) ?_
      refine alP (some 11) rfl rfl (does_len_str (by conv => lhs; whnf) ty9) (by decide) ?_
      refine alP (some 12) rfl rfl (does_bin (v := .bool (decide ((100 : Int) < (ByteArray.size a0.Op : Int)))) (by conv => lhs; whnf) (by conv => lhs; whnf) rfl) (by decide) ?_
      refine alP (some 13) rfl rfl (does_pick (v := .bool (decide ((100 : Int) < (ByteArray.size a0.Op : Int)))) (by conv => lhs; whnf) (by exact rfl)) (by decide) ?_
      refine alP (some 14) rfl rfl (does_move (v := .bool (decide ((100 : Int) < (ByteArray.size a0.Op : Int)))) (by exact rfl)) (by decide) ?_
      refine al_bool (c := (decide ((100 : Int) < (ByteArray.size a0.Op : Int)))) 14 rfl (fun c7 => ?_) (fun c7 => ?_)
      · have h := ifT c7 h
        refine alS (some 15) rfl rfl (by decide) ?_
        refine alS (some 16) rfl rfl (by decide) ?_
        refine alS (some 17) rfl rfl (by decide) ?_
        refine alS (some 18) rfl rfl (by decide) ?_
        refine alP (some 19) rfl rfl (does_pick (v := .bool true) (by conv => lhs; whnf) (by exact rfl)) (by decide) ?_
        refine al_nil ?_
        refine hK4 _ ?_
        refine aw_cond_t (by decide) rfl ?_
        refine aw_seq_k (fun K8 hK8 => ?_)
        refine aw_regL ?_
        refine alP (some 2) rfl rfl (does_assign (v := .bool false) (by exact rfl)) (by decide) ?_
        refine al_nil ?_
        refine hK8 _ ?_
        refine aw_ret ?_
        have h := leafR h hk3
        obtain rfl := Option.some.inj h
        exact ret_ok1 (by conv => lhs; whnf) (by conv => lhs; whnf) (by exact rfl) (.inr rfl) rfl
      · have h := ifF c7 h
        refine alP (some 15) rfl rfl (does_fieldAddr (q := .ptr 1 0 9) (by conv => lhs; whnf) ty31 rfl ty29 (by decide) (by exact rfl)) (by decide) ?_
        refine alR (some 16) rfl rfl (does_load (v := .sl 2 (List.map enc68 a0.Attrs)) (by conv => lhs; whnf) (by conv => lhs; whnf) ty29 (by exact rfl)) (by decide) ?_
        refine alP (some 17) rfl rfl ((does_len_sl (by conv => lhs; whnf) ty29).castp (v' := .int .i64 (List.length a0.Attrs : Int)) (by exact len_map _)) (by decide) ?_
        refine alP (some 18) rfl rfl (does_bin (v := .bool (decide ((20 : Int) < (List.length a0.Attrs : Int)))) (by conv => lhs; whnf) (by conv => lhs; whnf) rfl) (by decide) ?_
        refine alP (some 19) rfl rfl (does_pick (v := .bool (decide ((20 : Int) < (List.length a0.Attrs : Int)))) (by conv => lhs; whnf) (by exact rfl)) (by decide) ?_
        refine al_nil ?_
        refine hK4 _ ?_
        refine aw_bool (b := (decide ((20 : Int) < (List.length a0.Attrs : Int)))) 19 rfl (fun c9 => ?_) (fun c9 => ?_)
        · have h := ifT c9 h
          refine aw_cond_t (by decide) rfl ?_
          refine aw_seq_k (fun K10 hK10 => ?_)
          refine aw_regL ?_
          refine alP (some 2) rfl rfl (does_assign (v := .bool false) (by exact rfl)) (by decide) ?_
          refine al_nil ?_
          refine hK10 _ ?_
          refine aw_ret ?_
          have h := leafR h hk3
          obtain rfl := Option.some.inj h
          exact ret_ok1 (by conv => lhs; whnf) (by conv => lhs; whnf) (by exact rfl) (.inr rfl) rfl
        · have h := ifF c9 h
          refine aw_cond_f (by decide) rfl ?_
          refine aw_skip ?_
          have h := leafL h hk3
          exact ⟨_, reb_lit [(1, .ptr 1 0 0)] [(1, 0)] [((1, 0), .box [.int .u64 a0.Trace.Hi, .int .u64 a0.Trace.Lo, .int .u64 a0.Id, .int .u64 a0.Parent, .str a0.Service, .str a0.Op, .int .i64 a0.Start, .int .i64 a0.Dur, .bool a0.Err, .sl 2 (List.map enc68 a0.Attrs)])] [(1, 1)] (envOk_cons (by conv => lhs; whnf) (by exact rfl) envOk_nil) (objOk_cons (by conv => lhs; whnf) (by conv => lhs; whnf) (by exact rfl) (by simp) objOk_nil) (nodup_b rfl) (nodup_b rfl) rfl rfl, h, rfl⟩
  · rintro s ⟨h, rfl⟩
    unfold gleaninglaw3_Few_k0 at h
    refine aw_seq_k (fun K11 hK11 => ?_)
    refine aw_seq_k (fun K12 hK12 => ?_)
    refine aw_regL ?_
    refine alP (some 3) rfl rfl (does_assign (v := .int .i64 0) (by exact rfl)) (by decide) ?_
    refine al_nil ?_
    refine hK12 _ ?_
    refine aw_block ?_
    refine aw_loop' (fun m s => ∃ (v3_1 : Int), loopN (fun (s : Int) => gleaninglaw3_Few_l1 a0 s) m v3_1 = some r ∧ s = lit [(1, .ptr 1 0 0), (3, .int .i64 v3_1)] [((1, 0), .box [.int .u64 a0.Trace.Hi, .int .u64 a0.Trace.Lo, .int .u64 a0.Id, .int .u64 a0.Parent, .str a0.Service, .str a0.Op, .int .i64 a0.Start, .int .i64 a0.Dur, .bool a0.Err, .sl 2 (List.map enc68 a0.Attrs)])] [(1, 1)] X) Fu
      ⟨_, reb_lit [(1, .ptr 1 0 0), (3, .int .i64 (0))] [(1, 0)] [((1, 0), .box [.int .u64 a0.Trace.Hi, .int .u64 a0.Trace.Lo, .int .u64 a0.Id, .int .u64 a0.Parent, .str a0.Service, .str a0.Op, .int .i64 a0.Start, .int .i64 a0.Dur, .bool a0.Err, .sl 2 (List.map enc68 a0.Attrs)])] [(1, 1)] (envOk_cons (by conv => lhs; whnf) (by exact rfl) (envOk_cons (by conv => lhs; whnf) (by exact rfl) envOk_nil)) (objOk_cons (by conv => lhs; whnf) (by conv => lhs; whnf) (by exact rfl) (by simp) objOk_nil) (nodup_b rfl) (nodup_b rfl) rfl rfl, 0, h, rfl⟩ ?_
    rintro m s ⟨v3_1, h, rfl⟩
    obtain ⟨m1, q13, rfl, h, hq14⟩ := loop_some h
    replace h : gleaninglaw3_Few_l1 a0 v3_1 = some q13 := h
    unfold gleaninglaw3_Few_l1 at h
    refine aw_seq_k (fun K15 hK15 => ?_)
    refine aw_seq_k (fun K16 hK16 => ?_)
    refine aw_regL ?_
    refine alP (some 20) rfl rfl (does_move (v := .int .i64 v3_1) (by exact rfl)) (by decide) ?_
    refine alP (some 21) rfl rfl (does_fieldAddr (q := .ptr 1 0 9) (by conv => lhs; whnf) ty31 rfl ty29 (by decide) (by exact rfl)) (by decide) ?_
    refine alR (some 22) rfl rfl (does_load (v := .sl 2 (List.map enc68 a0.Attrs)) (by conv => lhs; whnf) (by conv => lhs; whnf) ty29 (by exact rfl)) (by decide) ?_
    refine alP (some 23) rfl rfl ((does_len_sl (by conv => lhs; whnf) ty29).castp (v' := .int .i64 (List.length a0.Attrs : Int)) (by exact len_map _)) (by decide) ?_
    refine alP (some 24) rfl rfl (does_bin (v := .bool (decide (v3_1 < (List.length a0.Attrs : Int)))) (by conv => lhs; whnf) (by conv => lhs; whnf) rfl) (by decide) ?_
    refine al_nil ?_
    refine hK16 _ ?_
    refine aw_bool (b := (decide (v3_1 < (List.length a0.Attrs : Int)))) 24 rfl (fun c17 => ?_) (fun c17 => ?_)
    · have h := ifT c17 h
      refine aw_cond_t (by decide) rfl ?_
      refine aw_skip ?_
      refine hK15 _ ?_
      refine aw_seq_k (fun K18 hK18 => ?_)
      refine aw_block ?_
      refine aw_seq_k (fun K19 hK19 => ?_)
      refine aw_regL ?_
      refine alP (some 27) rfl rfl (does_fieldAddr (q := .ptr 1 0 9) (by conv => lhs; whnf) ty31 rfl ty29 (by decide) (by exact rfl)) (by decide) ?_
      refine alR (some 28) rfl rfl (does_load (v := .sl 2 (List.map enc68 a0.Attrs)) (by conv => lhs; whnf) (by conv => lhs; whnf) ty29 (by exact rfl)) (by decide) ?_
      refine alP (some 29) rfl rfl (does_move (v := .int .i64 v3_1) (by exact rfl)) (by decide) ?_
      obtain ⟨g20, h⟩ := gd_some h
      obtain ⟨x21, hx21, h⟩ := bnd_some h
      refine alP (some 30) rfl rfl (does_indexAddr_sl (el := .agg [.str x21.Key, .str x21.Value]) (by conv => lhs; whnf) (by conv => lhs; whnf) ty29 ty69 g20 (by exact map_get hx21)) (by decide) ?_
      refine alP (some 31) rfl rfl (does_fieldAddr (q := .rptr [.str x21.Key, .str x21.Value]) (by conv => lhs; whnf) ty69 rfl ty9 (by decide) (by exact rfl)) (by decide) ?_
      refine alR (some 32) rfl rfl (does_load (v := .str x21.Key) (by conv => lhs; whnf) (by conv => lhs; whnf) ty9 (by exact rfl)) (by decide) ?_
      refine alP (some 33) rfl rfl (does_len_str (by conv => lhs; whnf) ty9) (by decide) ?_
      refine alP (some 34) rfl rfl (does_bin (v := .bool (decide ((100 : Int) < (ByteArray.size x21.Key : Int)))) (by conv => lhs; whnf) (by conv => lhs; whnf) rfl) (by decide) ?_
      refine alP (some 35) rfl rfl (does_move (v := .bool (decide ((100 : Int) < (ByteArray.size x21.Key : Int)))) (by exact rfl)) (by decide) ?_
      refine al_bool (c := (decide ((100 : Int) < (ByteArray.size x21.Key : Int)))) 35 rfl (fun c22 => ?_) (fun c22 => ?_)
      · have h := ifT c22 h
        refine alS (some 36) rfl rfl (by decide) ?_
        refine alS (some 37) rfl rfl (by decide) ?_
        refine alS (some 38) rfl rfl (by decide) ?_
        refine alS (some 39) rfl rfl (by decide) ?_
        refine alS (some 40) rfl rfl (by decide) ?_
        refine alS (some 41) rfl rfl (by decide) ?_
        refine alS (some 42) rfl rfl (by decide) ?_
        refine alS (some 43) rfl rfl (by decide) ?_
        refine alP (some 44) rfl rfl (does_pick (v := .bool true) (by conv => lhs; whnf) (by exact rfl)) (by decide) ?_
        refine al_nil ?_
        refine hK19 _ ?_
        refine aw_cond_t (by decide) rfl ?_
        refine aw_seq_k (fun K23 hK23 => ?_)
        refine aw_regL ?_
        refine alP (some 2) rfl rfl (does_assign (v := .bool false) (by exact rfl)) (by decide) ?_
        refine al_nil ?_
        refine hK23 _ ?_
        refine aw_ret ?_
        have h := leafR h hq14
        obtain rfl := Option.some.inj h
        exact ret_ok1 (by conv => lhs; whnf) (by conv => lhs; whnf) (by exact rfl) (.inr rfl) rfl
      · have h := ifF c22 h
        refine alP (some 36) rfl rfl (does_fieldAddr (q := .ptr 1 0 9) (by conv => lhs; whnf) ty31 rfl ty29 (by decide) (by exact rfl)) (by decide) ?_
        refine alR (some 37) rfl rfl (does_load (v := .sl 2 (List.map enc68 a0.Attrs)) (by conv => lhs; whnf) (by conv => lhs; whnf) ty29 (by exact rfl)) (by decide) ?_
        refine alP (some 38) rfl rfl (does_move (v := .int .i64 v3_1) (by exact rfl)) (by decide) ?_
        obtain ⟨g24, h⟩ := gd_some h
        obtain ⟨x25, hx25, h⟩ := bnd_some h
        refine alP (some 39) rfl rfl (does_indexAddr_sl (el := .agg [.str x25.Key, .str x25.Value]) (by conv => lhs; whnf) (by conv => lhs; whnf) ty29 ty69 g24 (by exact map_get hx25)) (by decide) ?_
        refine alP (some 40) rfl rfl (does_fieldAddr (q := .rptr [.str x25.Value]) (by conv => lhs; whnf) ty69 rfl ty9 (by decide) (by exact rfl)) (by decide) ?_
        refine alR (some 41) rfl rfl (does_load (v := .str x25.Value) (by conv => lhs; whnf) (by conv => lhs; whnf) ty9 (by exact rfl)) (by decide) ?_
        refine alP (some 42) rfl rfl (does_len_str (by conv => lhs; whnf) ty9) (by decide) ?_
        refine alP (some 43) rfl rfl (does_bin (v := .bool (decide ((100 : Int) < (ByteArray.size x25.Value : Int)))) (by conv => lhs; whnf) (by conv => lhs; whnf) rfl) (by decide) ?_
        refine alP (some 44) rfl rfl (does_pick (v := .bool (decide ((100 : Int) < (ByteArray.size x25.Value : Int)))) (by conv => lhs; whnf) (by exact rfl)) (by decide) ?_
        refine al_nil ?_
        refine hK19 _ ?_
        refine aw_bool (b := (decide ((100 : Int) < (ByteArray.size x25.Value : Int)))) 44 rfl (fun c26 => ?_) (fun c26 => ?_)
        · have h := ifT c26 h
          refine aw_cond_t (by decide) rfl ?_
          refine aw_seq_k (fun K27 hK27 => ?_)
          refine aw_regL ?_
          refine alP (some 2) rfl rfl (does_assign (v := .bool false) (by exact rfl)) (by decide) ?_
          refine al_nil ?_
          refine hK27 _ ?_
          refine aw_ret ?_
          have h := leafR h hq14
          obtain rfl := Option.some.inj h
          exact ret_ok1 (by conv => lhs; whnf) (by conv => lhs; whnf) (by exact rfl) (.inr rfl) rfl
        · have h := ifF c26 h
          refine aw_cond_f (by decide) rfl ?_
          refine aw_skip ?_
          refine hK18 _ ?_
          refine aw_regL ?_
          refine alP (some 25) rfl rfl (does_move (v := .int .i64 v3_1) (by exact rfl)) (by decide) ?_
          refine alP (some 26) rfl rfl (does_bin (v := .int .i64 (IntKind.i64.wrap (v3_1 + 1))) (by conv => lhs; whnf) (by conv => lhs; whnf) rfl) (by decide) ?_
          refine alP (some 3) rfl rfl (does_assign (v := .int .i64 (IntKind.i64.wrap (v3_1 + 1))) (by exact rfl)) (by decide) ?_
          refine al_nil ?_
          have h := leafL h hq14
          exact ⟨m1, Nat.lt_succ_self _, _, reb_lit [(1, .ptr 1 0 0), (3, .int .i64 (IntKind.i64.wrap (v3_1 + 1)))] [(1, 0)] [((1, 0), .box [.int .u64 a0.Trace.Hi, .int .u64 a0.Trace.Lo, .int .u64 a0.Id, .int .u64 a0.Parent, .str a0.Service, .str a0.Op, .int .i64 a0.Start, .int .i64 a0.Dur, .bool a0.Err, .sl 2 (List.map enc68 a0.Attrs)])] [(1, 1)] (envOk_cons (by conv => lhs; whnf) (by exact rfl) (envOk_cons (by conv => lhs; whnf) (by exact rfl) envOk_nil)) (objOk_cons (by conv => lhs; whnf) (by conv => lhs; whnf) (by exact rfl) (by simp) objOk_nil) (nodup_b rfl) (nodup_b rfl) rfl rfl, (IntKind.i64.wrap (v3_1 + 1)), h, rfl⟩
    · have h := ifF c17 h
      refine aw_cond_f (by decide) rfl ?_
      refine aw_exit ?_
      have h := leafR h hq14
      refine hK11 _ ?_
      refine aw_seq_k (fun K28 hK28 => ?_)
      refine aw_regL ?_
      refine alP (some 2) rfl rfl (does_assign (v := .bool true) (by exact rfl)) (by decide) ?_
      refine al_nil ?_
      refine hK28 _ ?_
      refine aw_ret ?_
      obtain rfl := Option.some.inj h
      exact ret_ok1 (by conv => lhs; whnf) (by conv => lhs; whnf) (by exact rfl) (.inr rfl) rfl
theorem sh23 : ∀ (m : Nat) (cs : List PV), Shape Try.prog m 23 cs → ∃ a : Int, cs = [.int .u64 a] ∧ (inI .u64 a) := fun m cs h => shape_i h Try.underlying23
def Trace.wf (a : Trace) : Prop := (inI .u64 a.Hi) ∧ (inI .u64 a.Lo)
theorem sh25 : ∀ (m : Nat) (cs : List PV), Shape Try.prog m 25 cs → ∃ a : Trace, cs = [.int .u64 a.Hi, .int .u64 a.Lo] ∧ (Trace.wf a) := fun m cs h => by
  obtain ⟨hl, m, hf⟩ := shape_struct h Try.underlying25
  have f0 := hf 0 _ rfl
  obtain ⟨a0, e0, w0⟩ := sh23 m _ f0
  rw [show Try.prog.cellsOf _ = 1 by kernel_rfl] at e0
  have f1 := hf 1 _ rfl
  obtain ⟨a1, e1, w1⟩ := sh23 m _ f1
  rw [show Try.prog.cellsOf _ = 1 by kernel_rfl] at e1
  exact ⟨⟨a0, a1⟩, tile_all (l := [(1, [.int .u64 a0]), (1, [.int .u64 a1])]) ⟨e0, e1, trivial⟩ hl (by kernel_rfl), ⟨w0, w1⟩⟩
theorem sh9 : ∀ (m : Nat) (cs : List PV), Shape Try.prog m 9 cs → ∃ a : ByteArray, cs = [.str a] ∧ ((ByteArray.size a) ≤ maxLen) := fun m cs h => shape_str h Try.underlying9
theorem sh3 : ∀ (m : Nat) (cs : List PV), Shape Try.prog m 3 cs → ∃ a : Int, cs = [.int .i64 a] ∧ (inI .i64 a) := fun m cs h => shape_i h Try.underlying3
theorem sh4 : ∀ (m : Nat) (cs : List PV), Shape Try.prog m 4 cs → ∃ a : Bool, cs = [.bool a] ∧ True := fun m cs h => shape_b h Try.underlying4
def Attr.wf (a : Attr) : Prop := ((ByteArray.size a.Key) ≤ maxLen) ∧ ((ByteArray.size a.Value) ≤ maxLen)
theorem sh69 : ∀ (m : Nat) (cs : List PV), Shape Try.prog m 69 cs → ∃ a : Attr, cs = [.str a.Key, .str a.Value] ∧ (Attr.wf a) := fun m cs h => by
  obtain ⟨hl, m, hf⟩ := shape_struct h Try.underlying69
  have f0 := hf 0 _ rfl
  obtain ⟨a0, e0, w0⟩ := sh9 m _ f0
  rw [show Try.prog.cellsOf _ = 1 by kernel_rfl] at e0
  have f1 := hf 1 _ rfl
  obtain ⟨a1, e1, w1⟩ := sh9 m _ f1
  rw [show Try.prog.cellsOf _ = 1 by kernel_rfl] at e1
  exact ⟨⟨a0, a1⟩, tile_all (l := [(1, [.str a0]), (1, [.str a1])]) ⟨e0, e1, trivial⟩ hl (by kernel_rfl), ⟨w0, w1⟩⟩
theorem sh29 : ∀ (m : Nat) (cs : List PV), Shape Try.prog m 29 cs → ∃ a : List Attr, cs = [.sl 2 (List.map enc68 a)] ∧ ((List.length a) ≤ maxLen ∧ ∀ y ∈ a, Attr.wf y) := fun m cs h => by
  obtain ⟨l, h1, h2, h3⟩ := shape_rows (f := enc68) (Q := fun y => Attr.wf y) h Try.underlying29 (fun m ps hs => by
    obtain ⟨a, rfl, hw⟩ := sh69 m ps hs
    exact ⟨a, by rw [show aggT Try.prog 69 = true by kernel_rfl]; rfl, hw⟩)
  exact ⟨l, h1.trans (by rw [show Try.prog.cellsOf 69 = 2 by kernel_rfl]), h2, h3⟩
def Span.wf (a : Span) : Prop := (Trace.wf a.Trace) ∧ (inI .u64 a.Id) ∧ (inI .u64 a.Parent) ∧ ((ByteArray.size a.Service) ≤ maxLen) ∧ ((ByteArray.size a.Op) ≤ maxLen) ∧ (inI .i64 a.Start) ∧ (inI .i64 a.Dur) ∧ True ∧ ((List.length a.Attrs) ≤ maxLen ∧ ∀ y ∈ a.Attrs, Attr.wf y)
theorem sh31 : ∀ (m : Nat) (cs : List PV), Shape Try.prog m 31 cs → ∃ a : Span, cs = [.int .u64 a.Trace.Hi, .int .u64 a.Trace.Lo, .int .u64 a.Id, .int .u64 a.Parent, .str a.Service, .str a.Op, .int .i64 a.Start, .int .i64 a.Dur, .bool a.Err, .sl 2 (List.map enc68 a.Attrs)] ∧ (Span.wf a) := fun m cs h => by
  obtain ⟨hl, m, hf⟩ := shape_struct h Try.underlying31
  have f0 := hf 0 _ rfl
  obtain ⟨a0, e0, w0⟩ := sh25 m _ f0
  rw [show Try.prog.cellsOf _ = 2 by kernel_rfl] at e0
  have f1 := hf 1 _ rfl
  obtain ⟨a1, e1, w1⟩ := sh23 m _ f1
  rw [show Try.prog.cellsOf _ = 1 by kernel_rfl] at e1
  have f2 := hf 2 _ rfl
  obtain ⟨a2, e2, w2⟩ := sh23 m _ f2
  rw [show Try.prog.cellsOf _ = 1 by kernel_rfl] at e2
  have f3 := hf 3 _ rfl
  obtain ⟨a3, e3, w3⟩ := sh9 m _ f3
  rw [show Try.prog.cellsOf _ = 1 by kernel_rfl] at e3
  have f4 := hf 4 _ rfl
  obtain ⟨a4, e4, w4⟩ := sh9 m _ f4
  rw [show Try.prog.cellsOf _ = 1 by kernel_rfl] at e4
  have f5 := hf 5 _ rfl
  obtain ⟨a5, e5, w5⟩ := sh3 m _ f5
  rw [show Try.prog.cellsOf _ = 1 by kernel_rfl] at e5
  have f6 := hf 6 _ rfl
  obtain ⟨a6, e6, w6⟩ := sh3 m _ f6
  rw [show Try.prog.cellsOf _ = 1 by kernel_rfl] at e6
  have f7 := hf 7 _ rfl
  obtain ⟨a7, e7, w7⟩ := sh4 m _ f7
  rw [show Try.prog.cellsOf _ = 1 by kernel_rfl] at e7
  have f8 := hf 8 _ rfl
  obtain ⟨a8, e8, w8⟩ := sh29 m _ f8
  rw [show Try.prog.cellsOf _ = 1 by kernel_rfl] at e8
  exact ⟨⟨a0, a1, a2, a3, a4, a5, a6, a7, a8⟩, tile_all (l := [(2, [.int .u64 a0.Hi, .int .u64 a0.Lo]), (1, [.int .u64 a1]), (1, [.int .u64 a2]), (1, [.str a3]), (1, [.str a4]), (1, [.int .i64 a5]), (1, [.int .i64 a6]), (1, [.bool a7]), (1, [.sl 2 (List.map enc68 a8)])]) ⟨e0, e1, e2, e3, e4, e5, e6, e7, e8, trivial⟩ hl (by kernel_rfl), ⟨w0, w1, w2, w3, w4, w5, w6, w7, w8⟩⟩
def gleaninglaw3_FewAll_l0 (a0 : List Span) (v3_0 : Int) : Option (Int ⊕ Bool) :=
  if (decide (v3_0 < (List.length a0 : Int))) = true then (gd (0 ≤ v3_0) (Option.bind (a0[(Int.toNat v3_0)]?) (fun (x16 : Span) => Option.bind (gleaninglaw3_Few x16) (fun (x17 : Bool) => if (!x17) = true then (some (Sum.inr false)) else (some (Sum.inl (IntKind.i64.wrap (v3_0 + 1)))))))) else (some (Sum.inr true))
def gleaninglaw3_FewAll (a0 : List Span) : Option Bool :=
  if (decide ((60 : Int) < (List.length a0 : Int))) = true then (some false) else (loopN (fun (s : Int) => gleaninglaw3_FewAll_l0 a0 s) Fu 0)
set_option maxRecDepth 100000 in
set_option maxHeartbeats 8000000 in
/-- gleaning/gleaninglaw3.FewAll -/
theorem gleaninglaw3_FewAll_ok (a0 : List Span) {r : Bool} (h : gleaninglaw3_FewAll a0 = some r) : Ok Try.prog 25 [.sl 10 (List.map enc30 a0)] [] [] (.bool r) [] [] := by
  unfold gleaninglaw3_FewAll at h
  refine ok_of_code Try.func25 rfl (by show (1 : Nat) ≤ _; decide) (Nat.le_refl _) fun X => ?_
  refine aw_seq_k (fun K1 hK1 => ?_)
  refine aw_regL ?_
  refine alP (some 2) rfl rfl (does_assign (v := .bool false) (by exact rfl)) (by decide) ?_
  refine al_nil ?_
  refine hK1 _ ?_
  refine aw_seq_k (fun K2 hK2 => ?_)
  refine aw_seq_k (fun K3 hK3 => ?_)
  refine aw_regL ?_
  refine alP (some 4) rfl rfl (does_move (v := .sl 10 (List.map enc30 a0)) (by exact rfl)) (by decide) ?_
  refine alP (some 5) rfl rfl ((does_len_sl (by conv => lhs; whnf) ty26).castp (v' := .int .i64 (List.length a0 : Int)) (by exact len_map _)) (by decide) ?_
  refine alP (some 6) rfl rfl (does_bin (v := .bool (decide ((60 : Int) < (List.length a0 : Int)))) (by conv => lhs; whnf) (by conv => lhs; whnf) rfl) (by decide) ?_
  refine al_nil ?_
  refine hK3 _ ?_
  refine aw_bool (b := (decide ((60 : Int) < (List.length a0 : Int)))) 6 rfl (fun c4 => ?_) (fun c4 => ?_)
  · have h := ifT c4 h
    refine aw_cond_t (by decide) rfl ?_
    refine aw_seq_k (fun K5 hK5 => ?_)
    refine aw_regL ?_
    refine alP (some 2) rfl rfl (does_assign (v := .bool false) (by exact rfl)) (by decide) ?_
    refine al_nil ?_
    refine hK5 _ ?_
    refine aw_ret ?_
    obtain rfl := Option.some.inj h
    exact ret_ok1 (by conv => lhs; whnf) (by conv => lhs; whnf) (by exact rfl) (.inr rfl) rfl
  · have h := ifF c4 h
    refine aw_cond_f (by decide) rfl ?_
    refine aw_skip ?_
    refine hK2 _ ?_
    refine aw_seq_k (fun K6 hK6 => ?_)
    refine aw_seq_k (fun K7 hK7 => ?_)
    refine aw_regL ?_
    refine alP (some 3) rfl rfl (does_assign (v := .int .i64 0) (by exact rfl)) (by decide) ?_
    refine al_nil ?_
    refine hK7 _ ?_
    refine aw_block ?_
    refine aw_loop' (fun m s => ∃ (v3_0 : Int), loopN (fun (s : Int) => gleaninglaw3_FewAll_l0 a0 s) m v3_0 = some r ∧ s = lit [(0, .sl 10 (List.map enc30 a0)), (3, .int .i64 v3_0)] [] [] X) Fu
      ⟨_, reb_lit [(0, .sl 10 (List.map enc30 a0)), (3, .int .i64 (0))] [] [] [] (envOk_cons (by conv => lhs; whnf) (by exact rfl) (envOk_cons (by conv => lhs; whnf) (by exact rfl) envOk_nil)) objOk_nil (nodup_b rfl) (nodup_b rfl) rfl rfl, 0, h, rfl⟩ ?_
    rintro m s ⟨v3_0, h, rfl⟩
    obtain ⟨m0, q8, rfl, h, hq9⟩ := loop_some h
    replace h : gleaninglaw3_FewAll_l0 a0 v3_0 = some q8 := h
    unfold gleaninglaw3_FewAll_l0 at h
    refine aw_seq_k (fun K10 hK10 => ?_)
    refine aw_seq_k (fun K11 hK11 => ?_)
    refine aw_regL ?_
    refine alP (some 7) rfl rfl (does_move (v := .int .i64 v3_0) (by exact rfl)) (by decide) ?_
    refine alP (some 8) rfl rfl (does_move (v := .sl 10 (List.map enc30 a0)) (by exact rfl)) (by decide) ?_
    refine alP (some 9) rfl rfl ((does_len_sl (by conv => lhs; whnf) ty26).castp (v' := .int .i64 (List.length a0 : Int)) (by exact len_map _)) (by decide) ?_
    refine alP (some 10) rfl rfl (does_bin (v := .bool (decide (v3_0 < (List.length a0 : Int)))) (by conv => lhs; whnf) (by conv => lhs; whnf) rfl) (by decide) ?_
    refine al_nil ?_
    refine hK11 _ ?_
    refine aw_bool (b := (decide (v3_0 < (List.length a0 : Int)))) 10 rfl (fun c12 => ?_) (fun c12 => ?_)
    · have h := ifT c12 h
      refine aw_cond_t (by decide) rfl ?_
      refine aw_skip ?_
      refine hK10 _ ?_
      refine aw_seq_k (fun K13 hK13 => ?_)
      refine aw_block ?_
      refine aw_seq_k (fun K14 hK14 => ?_)
      refine aw_regL ?_
      refine alP (some 13) rfl rfl (does_move (v := .sl 10 (List.map enc30 a0)) (by exact rfl)) (by decide) ?_
      refine alP (some 14) rfl rfl (does_move (v := .int .i64 v3_0) (by exact rfl)) (by decide) ?_
      obtain ⟨g15, h⟩ := gd_some h
      obtain ⟨x16, hx16, h⟩ := bnd_some h
      refine alP (some 15) rfl rfl (does_indexAddr_sl (el := .agg [.int .u64 x16.Trace.Hi, .int .u64 x16.Trace.Lo, .int .u64 x16.Id, .int .u64 x16.Parent, .str x16.Service, .str x16.Op, .int .i64 x16.Start, .int .i64 x16.Dur, .bool x16.Err, .sl 2 (List.map enc68 x16.Attrs)]) (by conv => lhs; whnf) (by conv => lhs; whnf) ty26 ty31 g15 (by exact map_get hx16)) (by decide) ?_
      refine alR (some 16) rfl rfl (does_load (v := .agg [.int .u64 x16.Trace.Hi, .int .u64 x16.Trace.Lo, .int .u64 x16.Id, .int .u64 x16.Parent, .str x16.Service, .str x16.Op, .int .i64 x16.Start, .int .i64 x16.Dur, .bool x16.Err, .sl 2 (List.map enc68 x16.Attrs)]) (by conv => lhs; whnf) (by conv => lhs; whnf) ty31 (by exact rfl)) (by decide) ?_
      obtain ⟨x17, hx17, h⟩ := bnd_some h
      refine alD (some 17) rfl rfl (do_call0 17 false (gleaninglaw3_Few_ok x16 hx17) rfl ent17 rfl rfl) (by decide) ?_
      refine alP (some 18) rfl rfl (does_un (v := .bool (!x17)) (by conv => lhs; whnf) rfl) (by decide) ?_
      refine al_nil ?_
      refine hK14 _ ?_
      refine aw_bool (b := (!x17)) 18 rfl (fun c18 => ?_) (fun c18 => ?_)
      · have h := ifT c18 h
        refine aw_cond_t (by decide) rfl ?_
        refine aw_seq_k (fun K19 hK19 => ?_)
        refine aw_regL ?_
        refine alP (some 2) rfl rfl (does_assign (v := .bool false) (by exact rfl)) (by decide) ?_
        refine al_nil ?_
        refine hK19 _ ?_
        refine aw_ret ?_
        have h := leafR h hq9
        obtain rfl := Option.some.inj h
        exact ret_ok1 (by conv => lhs; whnf) (by conv => lhs; whnf) (by exact rfl) (.inr rfl) rfl
      · have h := ifF c18 h
        refine aw_cond_f (by decide) rfl ?_
        refine aw_skip ?_
        refine hK13 _ ?_
        refine aw_regL ?_
        refine alP (some 11) rfl rfl (does_move (v := .int .i64 v3_0) (by exact rfl)) (by decide) ?_
        refine alP (some 12) rfl rfl (does_bin (v := .int .i64 (IntKind.i64.wrap (v3_0 + 1))) (by conv => lhs; whnf) (by conv => lhs; whnf) rfl) (by decide) ?_
        refine alP (some 3) rfl rfl (does_assign (v := .int .i64 (IntKind.i64.wrap (v3_0 + 1))) (by exact rfl)) (by decide) ?_
        refine al_nil ?_
        have h := leafL h hq9
        exact ⟨m0, Nat.lt_succ_self _, _, reb_lit [(0, .sl 10 (List.map enc30 a0)), (3, .int .i64 (IntKind.i64.wrap (v3_0 + 1)))] [] [] [] (envOk_cons (by conv => lhs; whnf) (by exact rfl) (envOk_cons (by conv => lhs; whnf) (by exact rfl) envOk_nil)) objOk_nil (nodup_b rfl) (nodup_b rfl) rfl rfl, (IntKind.i64.wrap (v3_0 + 1)), h, rfl⟩
    · have h := ifF c12 h
      refine aw_cond_f (by decide) rfl ?_
      refine aw_exit ?_
      have h := leafR h hq9
      refine hK6 _ ?_
      refine aw_seq_k (fun K20 hK20 => ?_)
      refine aw_regL ?_
      refine alP (some 2) rfl rfl (does_assign (v := .bool true) (by exact rfl)) (by decide) ?_
      refine al_nil ?_
      refine hK20 _ ?_
      refine aw_ret ?_
      obtain rfl := Option.some.inj h
      exact ret_ok1 (by conv => lhs; whnf) (by conv => lhs; whnf) (by exact rfl) (.inr rfl) rfl
theorem sh26 : ∀ (m : Nat) (cs : List PV), Shape Try.prog m 26 cs → ∃ a : List Span, cs = [.sl 10 (List.map enc30 a)] ∧ ((List.length a) ≤ maxLen ∧ ∀ y ∈ a, Span.wf y) := fun m cs h => by
  obtain ⟨l, h1, h2, h3⟩ := shape_rows (f := enc30) (Q := fun y => Span.wf y) h Try.underlying26 (fun m ps hs => by
    obtain ⟨a, rfl, hw⟩ := sh31 m ps hs
    exact ⟨a, by rw [show aggT Try.prog 31 = true by kernel_rfl]; rfl, hw⟩)
  exact ⟨l, h1.trans (by rw [show Try.prog.cellsOf 31 = 10 by kernel_rfl]), h2, h3⟩
def gleaningref1_SameSpan_l1 (a0 : Span) (a1 : Span) (v5_1 : Int) : Option (Int ⊕ Bool) :=
  if (decide (v5_1 < (List.length a0.Attrs : Int))) = true then (gd (0 ≤ v5_1) (Option.bind (a0.Attrs[(Int.toNat v5_1)]?) (fun (x33 : Attr) => gd (0 ≤ v5_1) (Option.bind (a1.Attrs[(Int.toNat v5_1)]?) (fun (x35 : Attr) => if (!((ByteArray.toList x33.Key == ByteArray.toList x35.Key) && ((ByteArray.toList x33.Value == ByteArray.toList x35.Value) && true))) = true then (some (Sum.inr false)) else (some (Sum.inl (IntKind.i64.wrap (v5_1 + 1))))))))) else (some (Sum.inr true))
def gleaningref1_SameSpan_k0 (a0 : Span) (a1 : Span) : Option Bool :=
  loopN (fun (s : Int) => gleaningref1_SameSpan_l1 a0 a1 s) Fu 0
def gleaningref1_SameSpan (a0 : Span) (a1 : Span) : Option Bool :=
  Option.bind (if (!((a0.Trace.Hi == a1.Trace.Hi) && ((a0.Trace.Lo == a1.Trace.Lo) && true))) = true then (some (Sum.inr false)) else (if (a0.Id != a1.Id) = true then (some (Sum.inr false)) else (if (a0.Parent != a1.Parent) = true then (some (Sum.inr false)) else (if (!(ByteArray.toList a0.Service == ByteArray.toList a1.Service)) = true then (some (Sum.inr false)) else (if (!(ByteArray.toList a0.Op == ByteArray.toList a1.Op)) = true then (some (Sum.inr false)) else (if (a0.Start != a1.Start) = true then (some (Sum.inr false)) else (if (a0.Dur != a1.Dur) = true then (some (Sum.inr false)) else (if (!(a0.Err == a1.Err)) = true then (some (Sum.inr false)) else (if ((List.length a0.Attrs : Int) != (List.length a1.Attrs : Int)) = true then (some (Sum.inr false)) else (some (Sum.inl ()))))))))))) (Sum.elim (fun (s : Unit) => gleaningref1_SameSpan_k0 a0 a1) some)
set_option maxRecDepth 100000 in
set_option maxHeartbeats 8000000 in
/-- gleaning/gleaningref1.SameSpan -/
theorem gleaningref1_SameSpan_ok (a0 : Span) (a1 : Span) {r : Bool} (h : gleaningref1_SameSpan a0 a1 = some r) : Ok Try.prog 46 [.agg [.int .u64 a0.Trace.Hi, .int .u64 a0.Trace.Lo, .int .u64 a0.Id, .int .u64 a0.Parent, .str a0.Service, .str a0.Op, .int .i64 a0.Start, .int .i64 a0.Dur, .bool a0.Err, .sl 2 (List.map enc68 a0.Attrs)], .agg [.int .u64 a1.Trace.Hi, .int .u64 a1.Trace.Lo, .int .u64 a1.Id, .int .u64 a1.Parent, .str a1.Service, .str a1.Op, .int .i64 a1.Start, .int .i64 a1.Dur, .bool a1.Err, .sl 2 (List.map enc68 a1.Attrs)]] [] [] (.bool r) [] [] := by
  unfold gleaningref1_SameSpan at h
  refine ok_of_code Try.func46 rfl (by show (2 : Nat) ≤ _; decide) (Nat.le_refl _) fun X => ?_
  refine aw_seq_k (fun K1 hK1 => ?_)
  refine aw_regL ?_
  refine alD (some 2) rfl rfl (do_box (by conv => lhs; whnf) rfl rfl) (by decide) ?_
  refine alD (some 3) rfl rfl (do_box (by conv => lhs; whnf) rfl rfl) (by decide) ?_
  refine alP (some 4) rfl rfl (does_assign (v := .bool false) (by exact rfl)) (by decide) ?_
  refine al_nil ?_
  refine hK1 _ ?_
  obtain ⟨q2, h, hk3⟩ := bnd_some h
  refine aw_cut (fun s => gleaningref1_SameSpan_k0 a0 a1 = some r ∧ s = lit [(2, .ptr 2 0 0), (3, .ptr 3 0 0)] [((2, 0), .box [.int .u64 a0.Trace.Hi, .int .u64 a0.Trace.Lo, .int .u64 a0.Id, .int .u64 a0.Parent, .str a0.Service, .str a0.Op, .int .i64 a0.Start, .int .i64 a0.Dur, .bool a0.Err, .sl 2 (List.map enc68 a0.Attrs)]), ((3, 0), .box [.int .u64 a1.Trace.Hi, .int .u64 a1.Trace.Lo, .int .u64 a1.Id, .int .u64 a1.Parent, .str a1.Service, .str a1.Op, .int .i64 a1.Start, .int .i64 a1.Dur, .bool a1.Err, .sl 2 (List.map enc68 a1.Attrs)])] [(2, 1), (3, 1)] X) ?_ ?_
  · skip
    refine aw_seq_k (fun K4 hK4 => ?_)
    refine aw_regL ?_
    refine alP (some 6) rfl rfl (does_fieldAddr (q := .ptr 2 0 0) (by conv => lhs; whnf) ty31 rfl ty25 (by decide) (by exact rfl)) (by decide) ?_
    refine alR (some 7) rfl rfl (does_load (v := .agg [.int .u64 a0.Trace.Hi, .int .u64 a0.Trace.Lo]) (by conv => lhs; whnf) (by conv => lhs; whnf) ty25 (by exact rfl)) (by decide) ?_
    refine alP (some 8) rfl rfl (does_fieldAddr (q := .ptr 3 0 0) (by conv => lhs; whnf) ty31 rfl ty25 (by decide) (by exact rfl)) (by decide) ?_
    refine alR (some 9) rfl rfl (does_load (v := .agg [.int .u64 a1.Trace.Hi, .int .u64 a1.Trace.Lo]) (by conv => lhs; whnf) (by conv => lhs; whnf) ty25 (by exact rfl)) (by decide) ?_
    refine alP (some 10) rfl rfl (does_eq_struct (v := .bool (!((a0.Trace.Hi == a1.Trace.Hi) && ((a0.Trace.Lo == a1.Trace.Lo) && true)))) (by conv => lhs; whnf) (by conv => lhs; whnf) fk25 rfl ag25 eg25 (by conv => lhs; whnf) rfl) (by decide) ?_
    refine alP (some 11) rfl rfl (does_move (v := .bool (!((a0.Trace.Hi == a1.Trace.Hi) && ((a0.Trace.Lo == a1.Trace.Lo) && true)))) (by exact rfl)) (by decide) ?_
    refine al_bool (c := (!((a0.Trace.Hi == a1.Trace.Hi) && ((a0.Trace.Lo == a1.Trace.Lo) && true)))) 11 rfl (fun c5 => ?_) (fun c5 => ?_)
    · have h := ifT c5 h
      refine alS (some 12) rfl rfl (by decide) ?_
      refine alS (some 13) rfl rfl (by decide) ?_
      refine alS (some 14) rfl rfl (by decide) ?_
      refine alS (some 15) rfl rfl (by decide) ?_
      refine alS (some 16) rfl rfl (by decide) ?_
      refine alP (some 17) rfl rfl (does_pick (v := .bool true) (by conv => lhs; whnf) (by exact rfl)) (by decide) ?_
      refine alP (some 18) rfl rfl (does_move (v := .bool true) (by exact rfl)) (by decide) ?_
      refine alS (some 19) rfl rfl (by decide) ?_
      refine alS (some 20) rfl rfl (by decide) ?_
      refine alS (some 21) rfl rfl (by decide) ?_
      refine alS (some 22) rfl rfl (by decide) ?_
      refine alS (some 23) rfl rfl (by decide) ?_
      refine alP (some 24) rfl rfl (does_pick (v := .bool true) (by conv => lhs; whnf) (by exact rfl)) (by decide) ?_
      refine alP (some 25) rfl rfl (does_move (v := .bool true) (by exact rfl)) (by decide) ?_
      refine alS (some 26) rfl rfl (by decide) ?_
      refine alS (some 27) rfl rfl (by decide) ?_
      refine alS (some 28) rfl rfl (by decide) ?_
      refine alS (some 29) rfl rfl (by decide) ?_
      refine alS (some 30) rfl rfl (by decide) ?_
      refine alP (some 31) rfl rfl (does_pick (v := .bool true) (by conv => lhs; whnf) (by exact rfl)) (by decide) ?_
      refine alP (some 32) rfl rfl (does_move (v := .bool true) (by exact rfl)) (by decide) ?_
      refine alS (some 33) rfl rfl (by decide) ?_
      refine alS (some 34) rfl rfl (by decide) ?_
      refine alS (some 35) rfl rfl (by decide) ?_
      refine alS (some 36) rfl rfl (by decide) ?_
      refine alS (some 37) rfl rfl (by decide) ?_
      refine alP (some 38) rfl rfl (does_pick (v := .bool true) (by conv => lhs; whnf) (by exact rfl)) (by decide) ?_
      refine alP (some 39) rfl rfl (does_move (v := .bool true) (by exact rfl)) (by decide) ?_
      refine alS (some 40) rfl rfl (by decide) ?_
      refine alS (some 41) rfl rfl (by decide) ?_
      refine alS (some 42) rfl rfl (by decide) ?_
      refine alS (some 43) rfl rfl (by decide) ?_
      refine alS (some 44) rfl rfl (by decide) ?_
      refine alP (some 45) rfl rfl (does_pick (v := .bool true) (by conv => lhs; whnf) (by exact rfl)) (by decide) ?_
      refine alP (some 46) rfl rfl (does_move (v := .bool true) (by exact rfl)) (by decide) ?_
      refine alS (some 47) rfl rfl (by decide) ?_
      refine alS (some 48) rfl rfl (by decide) ?_
      refine alS (some 49) rfl rfl (by decide) ?_
      refine alS (some 50) rfl rfl (by decide) ?_
      refine alS (some 51) rfl rfl (by decide) ?_
      refine alP (some 52) rfl rfl (does_pick (v := .bool true) (by conv => lhs; whnf) (by exact rfl)) (by decide) ?_
      refine alP (some 53) rfl rfl (does_move (v := .bool true) (by exact rfl)) (by decide) ?_
      refine alS (some 54) rfl rfl (by decide) ?_
      refine alS (some 55) rfl rfl (by decide) ?_
      refine alS (some 56) rfl rfl (by decide) ?_
      refine alS (some 57) rfl rfl (by decide) ?_
      refine alS (some 58) rfl rfl (by decide) ?_
      refine alP (some 59) rfl rfl (does_pick (v := .bool true) (by conv => lhs; whnf) (by exact rfl)) (by decide) ?_
      refine alP (some 60) rfl rfl (does_move (v := .bool true) (by exact rfl)) (by decide) ?_
      refine alS (some 61) rfl rfl (by decide) ?_
      refine alS (some 62) rfl rfl (by decide) ?_
      refine alS (some 63) rfl rfl (by decide) ?_
      refine alS (some 64) rfl rfl (by decide) ?_
      refine alS (some 65) rfl rfl (by decide) ?_
      refine alS (some 66) rfl rfl (by decide) ?_
      refine alS (some 67) rfl rfl (by decide) ?_
      refine alP (some 68) rfl rfl (does_pick (v := .bool true) (by conv => lhs; whnf) (by exact rfl)) (by decide) ?_
      refine al_nil ?_
      refine hK4 _ ?_
      refine aw_cond_t (by decide) rfl ?_
      refine aw_seq_k (fun K6 hK6 => ?_)
      refine aw_regL ?_
      refine alP (some 4) rfl rfl (does_assign (v := .bool false) (by exact rfl)) (by decide) ?_
      refine al_nil ?_
      refine hK6 _ ?_
      refine aw_ret ?_
      have h := leafR h hk3
      obtain rfl := Option.some.inj h
      exact ret_ok1 (by conv => lhs; whnf) (by conv => lhs; whnf) (by exact rfl) (.inr rfl) rfl
    · have h := ifF c5 h
      refine alP (some 12) rfl rfl (does_fieldAddr (q := .ptr 2 0 2) (by conv => lhs; whnf) ty31 rfl ty23 (by decide) (by exact rfl)) (by decide) ?_
      refine alR (some 13) rfl rfl (does_load (v := .int .u64 a0.Id) (by conv => lhs; whnf) (by conv => lhs; whnf) ty23 (by exact rfl)) (by decide) ?_
      refine alP (some 14) rfl rfl (does_fieldAddr (q := .ptr 3 0 2) (by conv => lhs; whnf) ty31 rfl ty23 (by decide) (by exact rfl)) (by decide) ?_
      refine alR (some 15) rfl rfl (does_load (v := .int .u64 a1.Id) (by conv => lhs; whnf) (by conv => lhs; whnf) ty23 (by exact rfl)) (by decide) ?_
      refine alP (some 16) rfl rfl (does_bin (v := .bool (a0.Id != a1.Id)) (by conv => lhs; whnf) (by conv => lhs; whnf) rfl) (by decide) ?_
      refine alP (some 17) rfl rfl (does_pick (v := .bool (a0.Id != a1.Id)) (by conv => lhs; whnf) (by exact rfl)) (by decide) ?_
      refine alP (some 18) rfl rfl (does_move (v := .bool (a0.Id != a1.Id)) (by exact rfl)) (by decide) ?_
      refine al_bool (c := (a0.Id != a1.Id)) 18 rfl (fun c7 => ?_) (fun c7 => ?_)
      · have h := ifT c7 h
        refine alS (some 19) rfl rfl (by decide) ?_
        refine alS (some 20) rfl rfl (by decide) ?_
        refine alS (some 21) rfl rfl (by decide) ?_
        refine alS (some 22) rfl rfl (by decide) ?_
        refine alS (some 23) rfl rfl (by decide) ?_
        refine alP (some 24) rfl rfl (does_pick (v := .bool true) (by conv => lhs; whnf) (by exact rfl)) (by decide) ?_
        refine alP (some 25) rfl rfl (does_move (v := .bool true) (by exact rfl)) (by decide) ?_
        refine alS (some 26) rfl rfl (by decide) ?_
        refine alS (some 27) rfl rfl (by decide) ?_
        refine alS (some 28) rfl rfl (by decide) ?_
        refine alS (some 29) rfl rfl (by decide) ?_
        refine alS (some 30) rfl rfl (by decide) ?_
        refine alP (some 31) rfl rfl (does_pick (v := .bool true) (by conv => lhs; whnf) (by exact rfl)) (by decide) ?_
        refine alP (some 32) rfl rfl (does_move (v := .bool true) (by exact rfl)) (by decide) ?_
        refine alS (some 33) rfl rfl (by decide) ?_
        refine alS (some 34) rfl rfl (by decide) ?_
        refine alS (some 35) rfl rfl (by decide) ?_
        refine alS (some 36) rfl rfl (by decide) ?_
        refine alS (some 37) rfl rfl (by decide) ?_
        refine alP (some 38) rfl rfl (does_pick (v := .bool true) (by conv => lhs; whnf) (by exact rfl)) (by decide) ?_
        refine alP (some 39) rfl rfl (does_move (v := .bool true) (by exact rfl)) (by decide) ?_
        refine alS (some 40) rfl rfl (by decide) ?_
        refine alS (some 41) rfl rfl (by decide) ?_
        refine alS (some 42) rfl rfl (by decide) ?_
        refine alS (some 43) rfl rfl (by decide) ?_
        refine alS (some 44) rfl rfl (by decide) ?_
        refine alP (some 45) rfl rfl (does_pick (v := .bool true) (by conv => lhs; whnf) (by exact rfl)) (by decide) ?_
        refine alP (some 46) rfl rfl (does_move (v := .bool true) (by exact rfl)) (by decide) ?_
        refine alS (some 47) rfl rfl (by decide) ?_
        refine alS (some 48) rfl rfl (by decide) ?_
        refine alS (some 49) rfl rfl (by decide) ?_
        refine alS (some 50) rfl rfl (by decide) ?_
        refine alS (some 51) rfl rfl (by decide) ?_
        refine alP (some 52) rfl rfl (does_pick (v := .bool true) (by conv => lhs; whnf) (by exact rfl)) (by decide) ?_
        refine alP (some 53) rfl rfl (does_move (v := .bool true) (by exact rfl)) (by decide) ?_
        refine alS (some 54) rfl rfl (by decide) ?_
        refine alS (some 55) rfl rfl (by decide) ?_
        refine alS (some 56) rfl rfl (by decide) ?_
        refine alS (some 57) rfl rfl (by decide) ?_
        refine alS (some 58) rfl rfl (by decide) ?_
        refine alP (some 59) rfl rfl (does_pick (v := .bool true) (by conv => lhs; whnf) (by exact rfl)) (by decide) ?_
        refine alP (some 60) rfl rfl (does_move (v := .bool true) (by exact rfl)) (by decide) ?_
        refine alS (some 61) rfl rfl (by decide) ?_
        refine alS (some 62) rfl rfl (by decide) ?_
        refine alS (some 63) rfl rfl (by decide) ?_
        refine alS (some 64) rfl rfl (by decide) ?_
        refine alS (some 65) rfl rfl (by decide) ?_
        refine alS (some 66) rfl rfl (by decide) ?_
        refine alS (some 67) rfl rfl (by decide) ?_
        refine alP (some 68) rfl rfl (does_pick (v := .bool true) (by conv => lhs; whnf) (by exact rfl)) (by decide) ?_
        refine al_nil ?_
        refine hK4 _ ?_
        refine aw_cond_t (by decide) rfl ?_
        refine aw_seq_k (fun K8 hK8 => ?_)
        refine aw_regL ?_
        refine alP (some 4) rfl rfl (does_assign (v := .bool false) (by exact rfl)) (by decide) ?_
        refine al_nil ?_
        refine hK8 _ ?_
        refine aw_ret ?_
        have h := leafR h hk3
        obtain rfl := Option.some.inj h
        exact ret_ok1 (by conv => lhs; whnf) (by conv => lhs; whnf) (by exact rfl) (.inr rfl) rfl
      · have h := ifF c7 h
        refine alP (some 19) rfl rfl (does_fieldAddr (q := .ptr 2 0 3) (by conv => lhs; whnf) ty31 rfl ty23 (by decide) (by exact rfl)) (by decide) ?_
        refine alR (some 20) rfl rfl (does_load (v := .int .u64 a0.Parent) (by conv => lhs; whnf) (by conv => lhs; whnf) ty23 (by exact rfl)) (by decide) ?_
        refine alP (some 21) rfl rfl (does_fieldAddr (q := .ptr 3 0 3) (by conv => lhs; whnf) ty31 rfl ty23 (by decide) (by exact rfl)) (by decide) ?_
        refine alR (some 22) rfl rfl (does_load (v := .int .u64 a1.Parent) (by conv => lhs; whnf) (by conv => lhs; whnf) ty23 (by exact rfl)) (by decide) ?_
        refine alP (some 23) rfl rfl (does_bin (v := .bool (a0.Parent != a1.Parent)) (by conv => lhs; whnf) (by conv => lhs; whnf) rfl) (by decide) ?_
        refine alP (some 24) rfl rfl (does_pick (v := .bool (a0.Parent != a1.Parent)) (by conv => lhs; whnf) (by exact rfl)) (by decide) ?_
        refine alP (some 25) rfl rfl (does_move (v := .bool (a0.Parent != a1.Parent)) (by exact rfl)) (by decide) ?_
        refine al_bool (c := (a0.Parent != a1.Parent)) 25 rfl (fun c9 => ?_) (fun c9 => ?_)
        · have h := ifT c9 h
          refine alS (some 26) rfl rfl (by decide) ?_
          refine alS (some 27) rfl rfl (by decide) ?_
          refine alS (some 28) rfl rfl (by decide) ?_
          refine alS (some 29) rfl rfl (by decide) ?_
          refine alS (some 30) rfl rfl (by decide) ?_
          refine alP (some 31) rfl rfl (does_pick (v := .bool true) (by conv => lhs; whnf) (by exact rfl)) (by decide) ?_
          refine alP (some 32) rfl rfl (does_move (v := .bool true) (by exact rfl)) (by decide) ?_
          refine alS (some 33) rfl rfl (by decide) ?_
          refine alS (some 34) rfl rfl (by decide) ?_
          refine alS (some 35) rfl rfl (by decide) ?_
          refine alS (some 36) rfl rfl (by decide) ?_
          refine alS (some 37) rfl rfl (by decide) ?_
          refine alP (some 38) rfl rfl (does_pick (v := .bool true) (by conv => lhs; whnf) (by exact rfl)) (by decide) ?_
          refine alP (some 39) rfl rfl (does_move (v := .bool true) (by exact rfl)) (by decide) ?_
          refine alS (some 40) rfl rfl (by decide) ?_
          refine alS (some 41) rfl rfl (by decide) ?_
          refine alS (some 42) rfl rfl (by decide) ?_
          refine alS (some 43) rfl rfl (by decide) ?_
          refine alS (some 44) rfl rfl (by decide) ?_
          refine alP (some 45) rfl rfl (does_pick (v := .bool true) (by conv => lhs; whnf) (by exact rfl)) (by decide) ?_
          refine alP (some 46) rfl rfl (does_move (v := .bool true) (by exact rfl)) (by decide) ?_
          refine alS (some 47) rfl rfl (by decide) ?_
          refine alS (some 48) rfl rfl (by decide) ?_
          refine alS (some 49) rfl rfl (by decide) ?_
          refine alS (some 50) rfl rfl (by decide) ?_
          refine alS (some 51) rfl rfl (by decide) ?_
          refine alP (some 52) rfl rfl (does_pick (v := .bool true) (by conv => lhs; whnf) (by exact rfl)) (by decide) ?_
          refine alP (some 53) rfl rfl (does_move (v := .bool true) (by exact rfl)) (by decide) ?_
          refine alS (some 54) rfl rfl (by decide) ?_
          refine alS (some 55) rfl rfl (by decide) ?_
          refine alS (some 56) rfl rfl (by decide) ?_
          refine alS (some 57) rfl rfl (by decide) ?_
          refine alS (some 58) rfl rfl (by decide) ?_
          refine alP (some 59) rfl rfl (does_pick (v := .bool true) (by conv => lhs; whnf) (by exact rfl)) (by decide) ?_
          refine alP (some 60) rfl rfl (does_move (v := .bool true) (by exact rfl)) (by decide) ?_
          refine alS (some 61) rfl rfl (by decide) ?_
          refine alS (some 62) rfl rfl (by decide) ?_
          refine alS (some 63) rfl rfl (by decide) ?_
          refine alS (some 64) rfl rfl (by decide) ?_
          refine alS (some 65) rfl rfl (by decide) ?_
          refine alS (some 66) rfl rfl (by decide) ?_
          refine alS (some 67) rfl rfl (by decide) ?_
          refine alP (some 68) rfl rfl (does_pick (v := .bool true) (by conv => lhs; whnf) (by exact rfl)) (by decide) ?_
          refine al_nil ?_
          refine hK4 _ ?_
          refine aw_cond_t (by decide) rfl ?_
          refine aw_seq_k (fun K10 hK10 => ?_)
          refine aw_regL ?_
          refine alP (some 4) rfl rfl (does_assign (v := .bool false) (by exact rfl)) (by decide) ?_
          refine al_nil ?_
          refine hK10 _ ?_
          refine aw_ret ?_
          have h := leafR h hk3
          obtain rfl := Option.some.inj h
          exact ret_ok1 (by conv => lhs; whnf) (by conv => lhs; whnf) (by exact rfl) (.inr rfl) rfl
        · have h := ifF c9 h
          refine alP (some 26) rfl rfl (does_fieldAddr (q := .ptr 2 0 4) (by conv => lhs; whnf) ty31 rfl ty9 (by decide) (by exact rfl)) (by decide) ?_
          refine alR (some 27) rfl rfl (does_load (v := .str a0.Service) (by conv => lhs; whnf) (by conv => lhs; whnf) ty9 (by exact rfl)) (by decide) ?_
          refine alP (some 28) rfl rfl (does_fieldAddr (q := .ptr 3 0 4) (by conv => lhs; whnf) ty31 rfl ty9 (by decide) (by exact rfl)) (by decide) ?_
          refine alR (some 29) rfl rfl (does_load (v := .str a1.Service) (by conv => lhs; whnf) (by conv => lhs; whnf) ty9 (by exact rfl)) (by decide) ?_
          refine alP (some 30) rfl rfl (does_bin (v := .bool (!(ByteArray.toList a0.Service == ByteArray.toList a1.Service))) (by conv => lhs; whnf) (by conv => lhs; whnf) rfl) (by decide) ?_
          refine alP (some 31) rfl rfl (does_pick (v := .bool (!(ByteArray.toList a0.Service == ByteArray.toList a1.Service))) (by conv => lhs; whnf) (by exact rfl)) (by decide) ?_
          refine alP (some 32) rfl rfl (does_move (v := .bool (!(ByteArray.toList a0.Service == ByteArray.toList a1.Service))) (by exact rfl)) (by decide) ?_
          refine al_bool (c := (!(ByteArray.toList a0.Service == ByteArray.toList a1.Service))) 32 rfl (fun c11 => ?_) (fun c11 => ?_)
          · have h := ifT c11 h
            refine alS (some 33) rfl rfl (by decide) ?_
            refine alS (some 34) rfl rfl (by decide) ?_
            refine alS (some 35) rfl rfl (by decide) ?_
            refine alS (some 36) rfl rfl (by decide) ?_
            refine alS (some 37) rfl rfl (by decide) ?_
            refine alP (some 38) rfl rfl (does_pick (v := .bool true) (by conv => lhs; whnf) (by exact rfl)) (by decide) ?_
            refine alP (some 39) rfl rfl (does_move (v := .bool true) (by exact rfl)) (by decide) ?_
            refine alS (some 40) rfl rfl (by decide) ?_
            refine alS (some 41) rfl rfl (by decide) ?_
            refine alS (some 42) rfl rfl (by decide) ?_
            refine alS (some 43) rfl rfl (by decide) ?_
            refine alS (some 44) rfl rfl (by decide) ?_
            refine alP (some 45) rfl rfl (does_pick (v := .bool true) (by conv => lhs; whnf) (by exact rfl)) (by decide) ?_
            refine alP (some 46) rfl rfl (does_move (v := .bool true) (by exact rfl)) (by decide) ?_
            refine alS (some 47) rfl rfl (by decide) ?_
            refine alS (some 48) rfl rfl (by decide) ?_
            refine alS (some 49) rfl rfl (by decide) ?_
            refine alS (some 50) rfl rfl (by decide) ?_
            refine alS (some 51) rfl rfl (by decide) ?_
            refine alP (some 52) rfl rfl (does_pick (v := .bool true) (by conv => lhs; whnf) (by exact rfl)) (by decide) ?_
            refine alP (some 53) rfl rfl (does_move (v := .bool true) (by exact rfl)) (by decide) ?_
            refine alS (some 54) rfl rfl (by decide) ?_
            refine alS (some 55) rfl rfl (by decide) ?_
            refine alS (some 56) rfl rfl (by decide) ?_
            refine alS (some 57) rfl rfl (by decide) ?_
            refine alS (some 58) rfl rfl (by decide) ?_
            refine alP (some 59) rfl rfl (does_pick (v := .bool true) (by conv => lhs; whnf) (by exact rfl)) (by decide) ?_
            refine alP (some 60) rfl rfl (does_move (v := .bool true) (by exact rfl)) (by decide) ?_
            refine alS (some 61) rfl rfl (by decide) ?_
            refine alS (some 62) rfl rfl (by decide) ?_
            refine alS (some 63) rfl rfl (by decide) ?_
            refine alS (some 64) rfl rfl (by decide) ?_
            refine alS (some 65) rfl rfl (by decide) ?_
            refine alS (some 66) rfl rfl (by decide) ?_
            refine alS (some 67) rfl rfl (by decide) ?_
            refine alP (some 68) rfl rfl (does_pick (v := .bool true) (by conv => lhs; whnf) (by exact rfl)) (by decide) ?_
            refine al_nil ?_
            refine hK4 _ ?_
            refine aw_cond_t (by decide) rfl ?_
            refine aw_seq_k (fun K12 hK12 => ?_)
            refine aw_regL ?_
            refine alP (some 4) rfl rfl (does_assign (v := .bool false) (by exact rfl)) (by decide) ?_
            refine al_nil ?_
            refine hK12 _ ?_
            refine aw_ret ?_
            have h := leafR h hk3
            obtain rfl := Option.some.inj h
            exact ret_ok1 (by conv => lhs; whnf) (by conv => lhs; whnf) (by exact rfl) (.inr rfl) rfl
          · have h := ifF c11 h
            refine alP (some 33) rfl rfl (does_fieldAddr (q := .ptr 2 0 5) (by conv => lhs; whnf) ty31 rfl ty9 (by decide) (by exact rfl)) (by decide) ?_
            refine alR (some 34) rfl rfl (does_load (v := .str a0.Op) (by conv => lhs; whnf) (by conv => lhs; whnf) ty9 (by exact rfl)) (by decide) ?_
            refine alP (some 35) rfl rfl (does_fieldAddr (q := .ptr 3 0 5) (by conv => lhs; whnf) ty31 rfl ty9 (by decide) (by exact rfl)) (by decide) ?_
            refine alR (some 36) rfl rfl (does_load (v := .str a1.Op) (by conv => lhs; whnf) (by conv => lhs; whnf) ty9 (by exact rfl)) (by decide) ?_
            refine alP (some 37) rfl rfl (does_bin (v := .bool (!(ByteArray.toList a0.Op == ByteArray.toList a1.Op))) (by conv => lhs; whnf) (by conv => lhs; whnf) rfl) (by decide) ?_
            refine alP (some 38) rfl rfl (does_pick (v := .bool (!(ByteArray.toList a0.Op == ByteArray.toList a1.Op))) (by conv => lhs; whnf) (by exact rfl)) (by decide) ?_
            refine alP (some 39) rfl rfl (does_move (v := .bool (!(ByteArray.toList a0.Op == ByteArray.toList a1.Op))) (by exact rfl)) (by decide) ?_
            refine al_bool (c := (!(ByteArray.toList a0.Op == ByteArray.toList a1.Op))) 39 rfl (fun c13 => ?_) (fun c13 => ?_)
            · have h := ifT c13 h
              refine alS (some 40) rfl rfl (by decide) ?_
              refine alS (some 41) rfl rfl (by decide) ?_
              refine alS (some 42) rfl rfl (by decide) ?_
              refine alS (some 43) rfl rfl (by decide) ?_
              refine alS (some 44) rfl rfl (by decide) ?_
              refine alP (some 45) rfl rfl (does_pick (v := .bool true) (by conv => lhs; whnf) (by exact rfl)) (by decide) ?_
              refine alP (some 46) rfl rfl (does_move (v := .bool true) (by exact rfl)) (by decide) ?_
              refine alS (some 47) rfl rfl (by decide) ?_
              refine alS (some 48) rfl rfl (by decide) ?_
              refine alS (some 49) rfl rfl (by decide) ?_
              refine alS (some 50) rfl rfl (by decide) ?_
              refine alS (some 51) rfl rfl (by decide) ?_
              refine alP (some 52) rfl rfl (does_pick (v := .bool true) (by conv => lhs; whnf) (by exact rfl)) (by decide) ?_
              refine alP (some 53) rfl rfl (does_move (v := .bool true) (by exact rfl)) (by decide) ?_
              refine alS (some 54) rfl rfl (by decide) ?_
              refine alS (some 55) rfl rfl (by decide) ?_
              refine alS (some 56) rfl rfl (by decide) ?_
              refine alS (some 57) rfl rfl (by decide) ?_
              refine alS (some 58) rfl rfl (by decide) ?_
              refine alP (some 59) rfl rfl (does_pick (v := .bool true) (by conv => lhs; whnf) (by exact rfl)) (by decide) ?_
              refine alP (some 60) rfl rfl (does_move (v := .bool true) (by exact rfl)) (by decide) ?_
              refine alS (some 61) rfl rfl (by decide) ?_
              refine alS (some 62) rfl rfl (by decide) ?_
              refine alS (some 63) rfl rfl (by decide) ?_
              refine alS (some 64) rfl rfl (by decide) ?_
              refine alS (some 65) rfl rfl (by decide) ?_
              refine alS (some 66) rfl rfl (by decide) ?_
              refine alS (some 67) rfl rfl (by decide) ?_
              refine alP (some 68) rfl rfl (does_pick (v := .bool true) (by conv => lhs; whnf) (by exact rfl)) (by decide) ?_
              refine al_nil ?_
              refine hK4 _ ?_
              refine aw_cond_t (by decide) rfl ?_
              refine aw_seq_k (fun K14 hK14 => ?_)
              refine aw_regL ?_
              refine alP (some 4) rfl rfl (does_assign (v := .bool false) (by exact rfl)) (by decide) ?_
              refine al_nil ?_
              refine hK14 _ ?_
              refine aw_ret ?_
              have h := leafR h hk3
              obtain rfl := Option.some.inj h
              exact ret_ok1 (by conv => lhs; whnf) (by conv => lhs; whnf) (by exact rfl) (.inr rfl) rfl
            · have h := ifF c13 h
              refine alP (some 40) rfl rfl (does_fieldAddr (q := .ptr 2 0 6) (by conv => lhs; whnf) ty31 rfl ty3 (by decide) (by exact rfl)) (by decide) ?_
              refine alR (some 41) rfl rfl (does_load (v := .int .i64 a0.Start) (by conv => lhs; whnf) (by conv => lhs; whnf) ty3 (by exact rfl)) (by decide) ?_
              refine alP (some 42) rfl rfl (does_fieldAddr (q := .ptr 3 0 6) (by conv => lhs; whnf) ty31 rfl ty3 (by decide) (by exact rfl)) (by decide) ?_
              refine alR (some 43) rfl rfl (does_load (v := .int .i64 a1.Start) (by conv => lhs; whnf) (by conv => lhs; whnf) ty3 (by exact rfl)) (by decide) ?_
              refine alP (some 44) rfl rfl (does_bin (v := .bool (a0.Start != a1.Start)) (by conv => lhs; whnf) (by conv => lhs; whnf) rfl) (by decide) ?_
              refine alP (some 45) rfl rfl (does_pick (v := .bool (a0.Start != a1.Start)) (by conv => lhs; whnf) (by exact rfl)) (by decide) ?_
              refine alP (some 46) rfl rfl (does_move (v := .bool (a0.Start != a1.Start)) (by exact rfl)) (by decide) ?_
              refine al_bool (c := (a0.Start != a1.Start)) 46 rfl (fun c15 => ?_) (fun c15 => ?_)
              · have h := ifT c15 h
                refine alS (some 47) rfl rfl (by decide) ?_
                refine alS (some 48) rfl rfl (by decide) ?_
                refine alS (some 49) rfl rfl (by decide) ?_
                refine alS (some 50) rfl rfl (by decide) ?_
                refine alS (some 51) rfl rfl (by decide) ?_
                refine alP (some 52) rfl rfl (does_pick (v := .bool true) (by conv => lhs; whnf) (by exact rfl)) (by decide) ?_
                refine alP (some 53) rfl rfl (does_move (v := .bool true) (by exact rfl)) (by decide) ?_
                refine alS (some 54) rfl rfl (by decide) ?_
                refine alS (some 55) rfl rfl (by decide) ?_
                refine alS (some 56) rfl rfl (by decide) ?_
                refine alS (some 57) rfl rfl (by decide) ?_
                refine alS (some 58) rfl rfl (by decide) ?_
                refine alP (some 59) rfl rfl (does_pick (v := .bool true) (by conv => lhs; whnf) (by exact rfl)) (by decide) ?_
                refine alP (some 60) rfl rfl (does_move (v := .bool true) (by exact rfl)) (by decide) ?_
                refine alS (some 61) rfl rfl (by decide) ?_
                refine alS (some 62) rfl rfl (by decide) ?_
                refine alS (some 63) rfl rfl (by decide) ?_
                refine alS (some 64) rfl rfl (by decide) ?_
                refine alS (some 65) rfl rfl (by decide) ?_
                refine alS (some 66) rfl rfl (by decide) ?_
                refine alS (some 67) rfl rfl (by decide) ?_
                refine alP (some 68) rfl rfl (does_pick (v := .bool true) (by conv => lhs; whnf) (by exact rfl)) (by decide) ?_
                refine al_nil ?_
                refine hK4 _ ?_
                refine aw_cond_t (by decide) rfl ?_
                refine aw_seq_k (fun K16 hK16 => ?_)
                refine aw_regL ?_
                refine alP (some 4) rfl rfl (does_assign (v := .bool false) (by exact rfl)) (by decide) ?_
                refine al_nil ?_
                refine hK16 _ ?_
                refine aw_ret ?_
                have h := leafR h hk3
                obtain rfl := Option.some.inj h
                exact ret_ok1 (by conv => lhs; whnf) (by conv => lhs; whnf) (by exact rfl) (.inr rfl) rfl
              · have h := ifF c15 h
                refine alP (some 47) rfl rfl (does_fieldAddr (q := .ptr 2 0 7) (by conv => lhs; whnf) ty31 rfl ty3 (by decide) (by exact rfl)) (by decide) ?_
                refine alR (some 48) rfl rfl (does_load (v := .int .i64 a0.Dur) (by conv => lhs; whnf) (by conv => lhs; whnf) ty3 (by exact rfl)) (by decide) ?_
                refine alP (some 49) rfl rfl (does_fieldAddr (q := .ptr 3 0 7) (by conv => lhs; whnf) ty31 rfl ty3 (by decide) (by exact rfl)) (by decide) ?_
                refine alR (some 50) rfl rfl (does_load (v := .int .i64 a1.Dur) (by conv => lhs; whnf) (by conv => lhs; whnf) ty3 (by exact rfl)) (by decide) ?_
                refine alP (some 51) rfl rfl (does_bin (v := .bool (a0.Dur != a1.Dur)) (by conv => lhs; whnf) (by conv => lhs; whnf) rfl) (by decide) ?_
                refine alP (some 52) rfl rfl (does_pick (v := .bool (a0.Dur != a1.Dur)) (by conv => lhs; whnf) (by exact rfl)) (by decide) ?_
                refine alP (some 53) rfl rfl (does_move (v := .bool (a0.Dur != a1.Dur)) (by exact rfl)) (by decide) ?_
                refine al_bool (c := (a0.Dur != a1.Dur)) 53 rfl (fun c17 => ?_) (fun c17 => ?_)
                · have h := ifT c17 h
                  refine alS (some 54) rfl rfl (by decide) ?_
                  refine alS (some 55) rfl rfl (by decide) ?_
                  refine alS (some 56) rfl rfl (by decide) ?_
                  refine alS (some 57) rfl rfl (by decide) ?_
                  refine alS (some 58) rfl rfl (by decide) ?_
                  refine alP (some 59) rfl rfl (does_pick (v := .bool true) (by conv => lhs; whnf) (by exact rfl)) (by decide) ?_
                  refine alP (some 60) rfl rfl (does_move (v := .bool true) (by exact rfl)) (by decide) ?_
                  refine alS (some 61) rfl rfl (by decide) ?_
                  refine alS (some 62) rfl rfl (by decide) ?_
                  refine alS (some 63) rfl rfl (by decide) ?_
                  refine alS (some 64) rfl rfl (by decide) ?_
                  refine alS (some 65) rfl rfl (by decide) ?_
                  refine alS (some 66) rfl rfl (by decide) ?_
                  refine alS (some 67) rfl rfl (by decide) ?_
                  refine alP (some 68) rfl rfl (does_pick (v := .bool true) (by conv => lhs; whnf) (by exact rfl)) (by decide) ?_
                  refine al_nil ?_
                  refine hK4 _ ?_
                  refine aw_cond_t (by decide) rfl ?_
                  refine aw_seq_k (fun K18 hK18 => ?_)
                  refine aw_regL ?_
                  refine alP (some 4) rfl rfl (does_assign (v := .bool false) (by exact rfl)) (by decide) ?_
                  refine al_nil ?_
                  refine hK18 _ ?_
                  refine aw_ret ?_
                  have h := leafR h hk3
                  obtain rfl := Option.some.inj h
                  exact ret_ok1 (by conv => lhs; whnf) (by conv => lhs; whnf) (by exact rfl) (.inr rfl) rfl
                · have h := ifF c17 h
                  refine alP (some 54) rfl rfl (does_fieldAddr (q := .ptr 2 0 8) (by conv => lhs; whnf) ty31 rfl ty4 (by decide) (by exact rfl)) (by decide) ?_
                  refine alR (some 55) rfl rfl (does_load (v := .bool a0.Err) (by conv => lhs; whnf) (by conv => lhs; whnf) ty4 (by exact rfl)) (by decide) ?_
                  refine alP (some 56) rfl rfl (does_fieldAddr (q := .ptr 3 0 8) (by conv => lhs; whnf) ty31 rfl ty4 (by decide) (by exact rfl)) (by decide) ?_
                  refine alR (some 57) rfl rfl (does_load (v := .bool a1.Err) (by conv => lhs; whnf) (by conv => lhs; whnf) ty4 (by exact rfl)) (by decide) ?_
                  refine alP (some 58) rfl rfl (does_eq_bool (v := .bool (!(a0.Err == a1.Err))) (by conv => lhs; whnf) (by conv => lhs; whnf) (ty_bool ty4) rfl) (by decide) ?_
                  refine alP (some 59) rfl rfl (does_pick (v := .bool (!(a0.Err == a1.Err))) (by conv => lhs; whnf) (by exact rfl)) (by decide) ?_
                  refine alP (some 60) rfl rfl (does_move (v := .bool (!(a0.Err == a1.Err))) (by exact rfl)) (by decide) ?_
                  refine al_bool (c := (!(a0.Err == a1.Err))) 60 rfl (fun c19 => ?_) (fun c19 => ?_)
                  · have h := ifT c19 h
                    refine alS (some 61) rfl rfl (by decide) ?_
                    refine alS (some 62) rfl rfl (by decide) ?_
                    refine alS (some 63) rfl rfl (by decide) ?_
                    refine alS (some 64) rfl rfl (by decide) ?_
                    refine alS (some 65) rfl rfl (by decide) ?_
                    refine alS (some 66) rfl rfl (by decide) ?_
                    refine alS (some 67) rfl rfl (by decide) ?_
                    refine alP (some 68) rfl rfl (does_pick (v := .bool true) (by conv => lhs; whnf) (by exact rfl)) (by decide) ?_
                    refine al_nil ?_
                    refine hK4 _ ?_
                    refine aw_cond_t (by decide) rfl ?_
                    refine aw_seq_k (fun K20 hK20 => ?_)
                    refine aw_regL ?_
                    refine alP (some 4) rfl rfl (does_assign (v := .bool false) (by exact rfl)) (by decide) ?_
                    refine al_nil ?_
                    refine hK20 _ ?_
                    refine aw_ret ?_
                    have h := leafR h hk3
                    obtain rfl := Option.some.inj h
                    exact ret_ok1 (by conv => lhs; whnf) (by conv => lhs; whnf) (by exact rfl) (.inr rfl) rfl
                  · have h := ifF c19 h
                    refine alP (some 61) rfl rfl (does_fieldAddr (q := .ptr 2 0 9) (by conv => lhs; whnf) ty31 rfl ty29 (by decide) (by exact rfl)) (by decide) ?_
                    refine alR (some 62) rfl rfl (does_load (v := .sl 2 (List.map enc68 a0.Attrs)) (by conv => lhs; whnf) (by conv => lhs; whnf) ty29 (by exact rfl)) (by decide) ?_
                    refine alP (some 63) rfl rfl ((does_len_sl (by conv => lhs; whnf) ty29).castp (v' := .int .i64 (List.length a0.Attrs : Int)) (by exact len_map _)) (by decide) ?_
                    refine alP (some 64) rfl rfl (does_fieldAddr (q := .ptr 3 0 9) (by conv => lhs; whnf) ty31 rfl ty29 (by decide) (by exact rfl)) (by decide) ?_
                    refine alR (some 65) rfl rfl (does_load (v := .sl 2 (List.map enc68 a1.Attrs)) (by conv => lhs; whnf) (by conv => lhs; whnf) ty29 (by exact rfl)) (by decide) ?_
                    refine alP (some 66) rfl rfl ((does_len_sl (by conv => lhs; whnf) ty29).castp (v' := .int .i64 (List.length a1.Attrs : Int)) (by exact len_map _)) (by decide) ?_
                    refine alP (some 67) rfl rfl (does_bin (v := .bool ((List.length a0.Attrs : Int) != (List.length a1.Attrs : Int))) (by conv => lhs; whnf) (by conv => lhs; whnf) rfl) (by decide) ?_
                    refine alP (some 68) rfl rfl (does_pick (v := .bool ((List.length a0.Attrs : Int) != (List.length a1.Attrs : Int))) (by conv => lhs; whnf) (by exact rfl)) (by decide) ?_
                    refine al_nil ?_
                    refine hK4 _ ?_
                    refine aw_bool (b := ((List.length a0.Attrs : Int) != (List.length a1.Attrs : Int))) 68 rfl (fun c21 => ?_) (fun c21 => ?_)
                    · have h := ifT c21 h
                      refine aw_cond_t (by decide) rfl ?_
                      refine aw_seq_k (fun K22 hK22 => ?_)
                      refine aw_regL ?_
                      refine alP (some 4) rfl rfl (does_assign (v := .bool false) (by exact rfl)) (by decide) ?_
                      refine al_nil ?_
                      refine hK22 _ ?_
                      refine aw_ret ?_
                      have h := leafR h hk3
                      obtain rfl := Option.some.inj h
                      exact ret_ok1 (by conv => lhs; whnf) (by conv => lhs; whnf) (by exact rfl) (.inr rfl) rfl
                    · have h := ifF c21 h
                      refine aw_cond_f (by decide) rfl ?_
                      refine aw_skip ?_
                      have h := leafL h hk3
                      exact ⟨_, reb_lit [(2, .ptr 2 0 0), (3, .ptr 3 0 0)] [(2, 0), (3, 0)] [((2, 0), .box [.int .u64 a0.Trace.Hi, .int .u64 a0.Trace.Lo, .int .u64 a0.Id, .int .u64 a0.Parent, .str a0.Service, .str a0.Op, .int .i64 a0.Start, .int .i64 a0.Dur, .bool a0.Err, .sl 2 (List.map enc68 a0.Attrs)]), ((3, 0), .box [.int .u64 a1.Trace.Hi, .int .u64 a1.Trace.Lo, .int .u64 a1.Id, .int .u64 a1.Parent, .str a1.Service, .str a1.Op, .int .i64 a1.Start, .int .i64 a1.Dur, .bool a1.Err, .sl 2 (List.map enc68 a1.Attrs)])] [(2, 1), (3, 1)] (envOk_cons (by conv => lhs; whnf) (by exact rfl) (envOk_cons (by conv => lhs; whnf) (by exact rfl) envOk_nil)) (objOk_cons (by conv => lhs; whnf) (by conv => lhs; whnf) (by exact rfl) (by simp) (objOk_cons (by conv => lhs; whnf) (by conv => lhs; whnf) (by exact rfl) (by simp) objOk_nil)) (nodup_b rfl) (nodup_b rfl) rfl rfl, h, rfl⟩
  · rintro s ⟨h, rfl⟩
    unfold gleaningref1_SameSpan_k0 at h
    refine aw_seq_k (fun K23 hK23 => ?_)
    refine aw_seq_k (fun K24 hK24 => ?_)
    refine aw_regL ?_
    refine alP (some 5) rfl rfl (does_assign (v := .int .i64 0) (by exact rfl)) (by decide) ?_
    refine al_nil ?_
    refine hK24 _ ?_
    refine aw_block ?_
    refine aw_loop' (fun m s => ∃ (v5_1 : Int), loopN (fun (s : Int) => gleaningref1_SameSpan_l1 a0 a1 s) m v5_1 = some r ∧ s = lit [(2, .ptr 2 0 0), (3, .ptr 3 0 0), (5, .int .i64 v5_1)] [((2, 0), .box [.int .u64 a0.Trace.Hi, .int .u64 a0.Trace.Lo, .int .u64 a0.Id, .int .u64 a0.Parent, .str a0.Service, .str a0.Op, .int .i64 a0.Start, .int .i64 a0.Dur, .bool a0.Err, .sl 2 (List.map enc68 a0.Attrs)]), ((3, 0), .box [.int .u64 a1.Trace.Hi, .int .u64 a1.Trace.Lo, .int .u64 a1.Id, .int .u64 a1.Parent, .str a1.Service, .str a1.Op, .int .i64 a1.Start, .int .i64 a1.Dur, .bool a1.Err, .sl 2 (List.map enc68 a1.Attrs)])] [(2, 1), (3, 1)] X) Fu
      ⟨_, reb_lit [(2, .ptr 2 0 0), (3, .ptr 3 0 0), (5, .int .i64 (0))] [(2, 0), (3, 0)] [((2, 0), .box [.int .u64 a0.Trace.Hi, .int .u64 a0.Trace.Lo, .int .u64 a0.Id, .int .u64 a0.Parent, .str a0.Service, .str a0.Op, .int .i64 a0.Start, .int .i64 a0.Dur, .bool a0.Err, .sl 2 (List.map enc68 a0.Attrs)]), ((3, 0), .box [.int .u64 a1.Trace.Hi, .int .u64 a1.Trace.Lo, .int .u64 a1.Id, .int .u64 a1.Parent, .str a1.Service, .str a1.Op, .int .i64 a1.Start, .int .i64 a1.Dur, .bool a1.Err, .sl 2 (List.map enc68 a1.Attrs)])] [(2, 1), (3, 1)] (envOk_cons (by conv => lhs; whnf) (by exact rfl) (envOk_cons (by conv => lhs; whnf) (by exact rfl) (envOk_cons (by conv => lhs; whnf) (by exact rfl) envOk_nil))) (objOk_cons (by conv => lhs; whnf) (by conv => lhs; whnf) (by exact rfl) (by simp) (objOk_cons (by conv => lhs; whnf) (by conv => lhs; whnf) (by exact rfl) (by simp) objOk_nil)) (nodup_b rfl) (nodup_b rfl) rfl rfl, 0, h, rfl⟩ ?_
    rintro m s ⟨v5_1, h, rfl⟩
    obtain ⟨m1, q25, rfl, h, hq26⟩ := loop_some h
    replace h : gleaningref1_SameSpan_l1 a0 a1 v5_1 = some q25 := h
    unfold gleaningref1_SameSpan_l1 at h
    refine aw_seq_k (fun K27 hK27 => ?_)
    refine aw_seq_k (fun K28 hK28 => ?_)
    refine aw_regL ?_
    refine alP (some 69) rfl rfl (does_move (v := .int .i64 v5_1) (by exact rfl)) (by decide) ?_
    refine alP (some 70) rfl rfl (does_fieldAddr (q := .ptr 2 0 9) (by conv => lhs; whnf) ty31 rfl ty29 (by decide) (by exact rfl)) (by decide) ?_
    refine alR (some 71) rfl rfl (does_load (v := .sl 2 (List.map enc68 a0.Attrs)) (by conv => lhs; whnf) (by conv => lhs; whnf) ty29 (by exact rfl)) (by decide) ?_
    refine alP (some 72) rfl rfl ((does_len_sl (by conv => lhs; whnf) ty29).castp (v' := .int .i64 (List.length a0.Attrs : Int)) (by exact len_map _)) (by decide) ?_
    refine alP (some 73) rfl rfl (does_bin (v := .bool (decide (v5_1 < (List.length a0.Attrs : Int)))) (by conv => lhs; whnf) (by conv => lhs; whnf) rfl) (by decide) ?_
    refine al_nil ?_
    refine hK28 _ ?_
    refine aw_bool (b := (decide (v5_1 < (List.length a0.Attrs : Int)))) 73 rfl (fun c29 => ?_) (fun c29 => ?_)
    · have h := ifT c29 h
      refine aw_cond_t (by decide) rfl ?_
      refine aw_skip ?_
      refine hK27 _ ?_
      refine aw_seq_k (fun K30 hK30 => ?_)
      refine aw_block ?_
      refine aw_seq_k (fun K31 hK31 => ?_)
      refine aw_regd (by kernel_rfl) (by decide +kernel) ?_
      refine aoP (some 76) rfl rfl (does_fieldAddr (q := .ptr 2 0 9) (by conv => lhs; whnf) ty31 rfl ty29 (by decide) (by exact rfl)) (by decide) ?_
      refine aoR (some 77) rfl rfl (does_load (v := .sl 2 (List.map enc68 a0.Attrs)) (by conv => lhs; whnf) (by conv => lhs; whnf) ty29 (by exact rfl)) (by decide) ?_
      refine aoP (some 78) rfl rfl (does_move (v := .int .i64 v5_1) (by exact rfl)) (by decide) ?_
      obtain ⟨g32, h⟩ := gd_some h
      obtain ⟨x33, hx33, h⟩ := bnd_some h
      refine aoP (some 79) rfl rfl (does_indexAddr_sl (el := .agg [.str x33.Key, .str x33.Value]) (by conv => lhs; whnf) (by conv => lhs; whnf) ty29 ty69 g32 (by exact map_get hx33)) (by decide) ?_
      refine aoR (some 80) rfl rfl (does_load (v := .agg [.str x33.Key, .str x33.Value]) (by conv => lhs; whnf) (by conv => lhs; whnf) ty69 (by exact rfl)) (by decide) ?_
      refine aoP (some 81) rfl rfl (does_fieldAddr (q := .ptr 3 0 9) (by conv => lhs; whnf) ty31 rfl ty29 (by decide) (by exact rfl)) (by decide) ?_
      refine aoR (some 82) rfl rfl (does_load (v := .sl 2 (List.map enc68 a1.Attrs)) (by conv => lhs; whnf) (by conv => lhs; whnf) ty29 (by exact rfl)) (by decide) ?_
      refine aoP (some 83) rfl rfl (does_move (v := .int .i64 v5_1) (by exact rfl)) (by decide) ?_
      obtain ⟨g34, h⟩ := gd_some h
      obtain ⟨x35, hx35, h⟩ := bnd_some h
      refine aoP (some 84) rfl rfl (does_indexAddr_sl (el := .agg [.str x35.Key, .str x35.Value]) (by conv => lhs; whnf) (by conv => lhs; whnf) ty29 ty69 g34 (by exact map_get hx35)) (by decide) ?_
      refine aoR (some 85) rfl rfl (does_load (v := .agg [.str x35.Key, .str x35.Value]) (by conv => lhs; whnf) (by conv => lhs; whnf) ty69 (by exact rfl)) (by decide) ?_
      refine aoP (some 86) rfl rfl (does_eq_struct (v := .bool (!((ByteArray.toList x33.Key == ByteArray.toList x35.Key) && ((ByteArray.toList x33.Value == ByteArray.toList x35.Value) && true)))) (by conv => lhs; whnf) (by conv => lhs; whnf) fk69 rfl ag69 eg69 (by conv => lhs; whnf) rfl) (by decide) ?_
      refine ao_nil_d (by kernel_rfl) ?_
      refine hK31 _ ?_
      refine aw_bool (b := (!((ByteArray.toList x33.Key == ByteArray.toList x35.Key) && ((ByteArray.toList x33.Value == ByteArray.toList x35.Value) && true)))) 86 rfl (fun c36 => ?_) (fun c36 => ?_)
      · have h := ifT c36 h
        refine aw_cond_t (by decide) rfl ?_
        refine aw_seq_k (fun K37 hK37 => ?_)
        refine aw_regL ?_
        refine alP (some 4) rfl rfl (does_assign (v := .bool false) (by exact rfl)) (by decide) ?_
        refine al_nil ?_
        refine hK37 _ ?_
        refine aw_ret ?_
        have h := leafR h hq26
        obtain rfl := Option.some.inj h
        exact ret_ok1 (by conv => lhs; whnf) (by conv => lhs; whnf) (by exact rfl) (.inr rfl) rfl
      · have h := ifF c36 h
        refine aw_cond_f (by decide) rfl ?_
        refine aw_skip ?_
        refine hK30 _ ?_
        refine aw_regL ?_
        refine alP (some 74) rfl rfl (does_move (v := .int .i64 v5_1) (by exact rfl)) (by decide) ?_
        refine alP (some 75) rfl rfl (does_bin (v := .int .i64 (IntKind.i64.wrap (v5_1 + 1))) (by conv => lhs; whnf) (by conv => lhs; whnf) rfl) (by decide) ?_
        refine alP (some 5) rfl rfl (does_assign (v := .int .i64 (IntKind.i64.wrap (v5_1 + 1))) (by exact rfl)) (by decide) ?_
        refine al_nil ?_
        have h := leafL h hq26
        exact ⟨m1, Nat.lt_succ_self _, _, reb_lit [(2, .ptr 2 0 0), (3, .ptr 3 0 0), (5, .int .i64 (IntKind.i64.wrap (v5_1 + 1)))] [(2, 0), (3, 0)] [((2, 0), .box [.int .u64 a0.Trace.Hi, .int .u64 a0.Trace.Lo, .int .u64 a0.Id, .int .u64 a0.Parent, .str a0.Service, .str a0.Op, .int .i64 a0.Start, .int .i64 a0.Dur, .bool a0.Err, .sl 2 (List.map enc68 a0.Attrs)]), ((3, 0), .box [.int .u64 a1.Trace.Hi, .int .u64 a1.Trace.Lo, .int .u64 a1.Id, .int .u64 a1.Parent, .str a1.Service, .str a1.Op, .int .i64 a1.Start, .int .i64 a1.Dur, .bool a1.Err, .sl 2 (List.map enc68 a1.Attrs)])] [(2, 1), (3, 1)] (envOk_cons (by conv => lhs; whnf) (by exact rfl) (envOk_cons (by conv => lhs; whnf) (by exact rfl) (envOk_cons (by conv => lhs; whnf) (by exact rfl) envOk_nil))) (objOk_cons (by conv => lhs; whnf) (by conv => lhs; whnf) (by exact rfl) (by simp) (objOk_cons (by conv => lhs; whnf) (by conv => lhs; whnf) (by exact rfl) (by simp) objOk_nil)) (nodup_b rfl) (nodup_b rfl) rfl rfl, (IntKind.i64.wrap (v5_1 + 1)), h, rfl⟩
    · have h := ifF c29 h
      refine aw_cond_f (by decide) rfl ?_
      refine aw_exit ?_
      have h := leafR h hq26
      refine hK23 _ ?_
      refine aw_seq_k (fun K38 hK38 => ?_)
      refine aw_regL ?_
      refine alP (some 4) rfl rfl (does_assign (v := .bool true) (by exact rfl)) (by decide) ?_
      refine al_nil ?_
      refine hK38 _ ?_
      refine aw_ret ?_
      obtain rfl := Option.some.inj h
      exact ret_ok1 (by conv => lhs; whnf) (by conv => lhs; whnf) (by exact rfl) (.inr rfl) rfl
def gleaningref1_SameSpans_l0 (a0 : List Span) (a1 : List Span) (v5_0 : Int) : Option (Int ⊕ Bool) :=
  if (decide (v5_0 < (List.length a0 : Int))) = true then (gd (0 ≤ v5_0) (Option.bind (a0[(Int.toNat v5_0)]?) (fun (x16 : Span) => gd (0 ≤ v5_0) (Option.bind (a1[(Int.toNat v5_0)]?) (fun (x18 : Span) => Option.bind (gleaningref1_SameSpan x16 x18) (fun (x19 : Bool) => if (!x19) = true then (some (Sum.inr false)) else (some (Sum.inl (IntKind.i64.wrap (v5_0 + 1)))))))))) else (some (Sum.inr true))
def gleaningref1_SameSpans (a0 : List Span) (a1 : List Span) : Option Bool :=
  if ((List.length a0 : Int) != (List.length a1 : Int)) = true then (some false) else (loopN (fun (s : Int) => gleaningref1_SameSpans_l0 a0 a1 s) Fu 0)
set_option maxRecDepth 100000 in
set_option maxHeartbeats 8000000 in
/-- gleaning/gleaningref1.SameSpans -/
theorem gleaningref1_SameSpans_ok (a0 : List Span) (a1 : List Span) {r : Bool} (h : gleaningref1_SameSpans a0 a1 = some r) : Ok Try.prog 21 [.sl 10 (List.map enc30 a0), .sl 10 (List.map enc30 a1)] [] [] (.bool r) [] [] := by
  unfold gleaningref1_SameSpans at h
  refine ok_of_code Try.func21 rfl (by show (2 : Nat) ≤ _; decide) (Nat.le_refl _) fun X => ?_
  refine aw_seq_k (fun K1 hK1 => ?_)
  refine aw_regL ?_
  refine alP (some 4) rfl rfl (does_assign (v := .bool false) (by exact rfl)) (by decide) ?_
  refine al_nil ?_
  refine hK1 _ ?_
  refine aw_seq_k (fun K2 hK2 => ?_)
  refine aw_seq_k (fun K3 hK3 => ?_)
  refine aw_regL ?_
  refine alP (some 6) rfl rfl (does_move (v := .sl 10 (List.map enc30 a0)) (by exact rfl)) (by decide) ?_
  refine alP (some 7) rfl rfl ((does_len_sl (by conv => lhs; whnf) ty26).castp (v' := .int .i64 (List.length a0 : Int)) (by exact len_map _)) (by decide) ?_
  refine alP (some 8) rfl rfl (does_move (v := .sl 10 (List.map enc30 a1)) (by exact rfl)) (by decide) ?_
  refine alP (some 9) rfl rfl ((does_len_sl (by conv => lhs; whnf) ty26).castp (v' := .int .i64 (List.length a1 : Int)) (by exact len_map _)) (by decide) ?_
  refine alP (some 10) rfl rfl (does_bin (v := .bool ((List.length a0 : Int) != (List.length a1 : Int))) (by conv => lhs; whnf) (by conv => lhs; whnf) rfl) (by decide) ?_
  refine al_nil ?_
  refine hK3 _ ?_
  refine aw_bool (b := ((List.length a0 : Int) != (List.length a1 : Int))) 10 rfl (fun c4 => ?_) (fun c4 => ?_)
  · have h := ifT c4 h
    refine aw_cond_t (by decide) rfl ?_
    refine aw_seq_k (fun K5 hK5 => ?_)
    refine aw_regL ?_
    refine alP (some 4) rfl rfl (does_assign (v := .bool false) (by exact rfl)) (by decide) ?_
    refine al_nil ?_
    refine hK5 _ ?_
    refine aw_ret ?_
    obtain rfl := Option.some.inj h
    exact ret_ok1 (by conv => lhs; whnf) (by conv => lhs; whnf) (by exact rfl) (.inr rfl) rfl
  · have h := ifF c4 h
    refine aw_cond_f (by decide) rfl ?_
    refine aw_skip ?_
    refine hK2 _ ?_
    refine aw_seq_k (fun K6 hK6 => ?_)
    refine aw_seq_k (fun K7 hK7 => ?_)
    refine aw_regL ?_
    refine alP (some 5) rfl rfl (does_assign (v := .int .i64 0) (by exact rfl)) (by decide) ?_
    refine al_nil ?_
    refine hK7 _ ?_
    refine aw_block ?_
    refine aw_loop' (fun m s => ∃ (v5_0 : Int), loopN (fun (s : Int) => gleaningref1_SameSpans_l0 a0 a1 s) m v5_0 = some r ∧ s = lit [(0, .sl 10 (List.map enc30 a0)), (1, .sl 10 (List.map enc30 a1)), (5, .int .i64 v5_0)] [] [] X) Fu
      ⟨_, reb_lit [(0, .sl 10 (List.map enc30 a0)), (1, .sl 10 (List.map enc30 a1)), (5, .int .i64 (0))] [] [] [] (envOk_cons (by conv => lhs; whnf) (by exact rfl) (envOk_cons (by conv => lhs; whnf) (by exact rfl) (envOk_cons (by conv => lhs; whnf) (by exact rfl) envOk_nil))) objOk_nil (nodup_b rfl) (nodup_b rfl) rfl rfl, 0, h, rfl⟩ ?_
    rintro m s ⟨v5_0, h, rfl⟩
    obtain ⟨m0, q8, rfl, h, hq9⟩ := loop_some h
    replace h : gleaningref1_SameSpans_l0 a0 a1 v5_0 = some q8 := h
    unfold gleaningref1_SameSpans_l0 at h
    refine aw_seq_k (fun K10 hK10 => ?_)
    refine aw_seq_k (fun K11 hK11 => ?_)
    refine aw_regL ?_
    refine alP (some 11) rfl rfl (does_move (v := .int .i64 v5_0) (by exact rfl)) (by decide) ?_
    refine alP (some 12) rfl rfl (does_move (v := .sl 10 (List.map enc30 a0)) (by exact rfl)) (by decide) ?_
    refine alP (some 13) rfl rfl ((does_len_sl (by conv => lhs; whnf) ty26).castp (v' := .int .i64 (List.length a0 : Int)) (by exact len_map _)) (by decide) ?_
    refine alP (some 14) rfl rfl (does_bin (v := .bool (decide (v5_0 < (List.length a0 : Int)))) (by conv => lhs; whnf) (by conv => lhs; whnf) rfl) (by decide) ?_
    refine al_nil ?_
    refine hK11 _ ?_
    refine aw_bool (b := (decide (v5_0 < (List.length a0 : Int)))) 14 rfl (fun c12 => ?_) (fun c12 => ?_)
    · have h := ifT c12 h
      refine aw_cond_t (by decide) rfl ?_
      refine aw_skip ?_
      refine hK10 _ ?_
      refine aw_seq_k (fun K13 hK13 => ?_)
      refine aw_block ?_
      refine aw_seq_k (fun K14 hK14 => ?_)
      refine aw_regd (by kernel_rfl) (by decide +kernel) ?_
      refine aoP (some 17) rfl rfl (does_move (v := .sl 10 (List.map enc30 a0)) (by exact rfl)) (by decide) ?_
      refine aoP (some 18) rfl rfl (does_move (v := .int .i64 v5_0) (by exact rfl)) (by decide) ?_
      obtain ⟨g15, h⟩ := gd_some h
      obtain ⟨x16, hx16, h⟩ := bnd_some h
      refine aoP (some 19) rfl rfl (does_indexAddr_sl (el := .agg [.int .u64 x16.Trace.Hi, .int .u64 x16.Trace.Lo, .int .u64 x16.Id, .int .u64 x16.Parent, .str x16.Service, .str x16.Op, .int .i64 x16.Start, .int .i64 x16.Dur, .bool x16.Err, .sl 2 (List.map enc68 x16.Attrs)]) (by conv => lhs; whnf) (by conv => lhs; whnf) ty26 ty31 g15 (by exact map_get hx16)) (by decide) ?_
      refine aoR (some 20) rfl rfl (does_load (v := .agg [.int .u64 x16.Trace.Hi, .int .u64 x16.Trace.Lo, .int .u64 x16.Id, .int .u64 x16.Parent, .str x16.Service, .str x16.Op, .int .i64 x16.Start, .int .i64 x16.Dur, .bool x16.Err, .sl 2 (List.map enc68 x16.Attrs)]) (by conv => lhs; whnf) (by conv => lhs; whnf) ty31 (by exact rfl)) (by decide) ?_
      refine aoP (some 21) rfl rfl (does_move (v := .sl 10 (List.map enc30 a1)) (by exact rfl)) (by decide) ?_
      refine aoP (some 22) rfl rfl (does_move (v := .int .i64 v5_0) (by exact rfl)) (by decide) ?_
      obtain ⟨g17, h⟩ := gd_some h
      obtain ⟨x18, hx18, h⟩ := bnd_some h
      refine aoP (some 23) rfl rfl (does_indexAddr_sl (el := .agg [.int .u64 x18.Trace.Hi, .int .u64 x18.Trace.Lo, .int .u64 x18.Id, .int .u64 x18.Parent, .str x18.Service, .str x18.Op, .int .i64 x18.Start, .int .i64 x18.Dur, .bool x18.Err, .sl 2 (List.map enc68 x18.Attrs)]) (by conv => lhs; whnf) (by conv => lhs; whnf) ty26 ty31 g17 (by exact map_get hx18)) (by decide) ?_
      refine aoR (some 24) rfl rfl (does_load (v := .agg [.int .u64 x18.Trace.Hi, .int .u64 x18.Trace.Lo, .int .u64 x18.Id, .int .u64 x18.Parent, .str x18.Service, .str x18.Op, .int .i64 x18.Start, .int .i64 x18.Dur, .bool x18.Err, .sl 2 (List.map enc68 x18.Attrs)]) (by conv => lhs; whnf) (by conv => lhs; whnf) ty31 (by exact rfl)) (by decide) ?_
      obtain ⟨x19, hx19, h⟩ := bnd_some h
      refine aoD (some 25) rfl rfl (do_call0 25 false (gleaningref1_SameSpan_ok x16 x18 hx19) rfl ent46 rfl rfl) (by decide) ?_
      refine aoP (some 26) rfl rfl (does_un (v := .bool (!x19)) (by conv => lhs; whnf) rfl) (by decide) ?_
      refine ao_nil_d (by kernel_rfl) ?_
      refine hK14 _ ?_
      refine aw_bool (b := (!x19)) 26 rfl (fun c20 => ?_) (fun c20 => ?_)
      · have h := ifT c20 h
        refine aw_cond_t (by decide) rfl ?_
        refine aw_seq_k (fun K21 hK21 => ?_)
        refine aw_regL ?_
        refine alP (some 4) rfl rfl (does_assign (v := .bool false) (by exact rfl)) (by decide) ?_
        refine al_nil ?_
        refine hK21 _ ?_
        refine aw_ret ?_
        have h := leafR h hq9
        obtain rfl := Option.some.inj h
        exact ret_ok1 (by conv => lhs; whnf) (by conv => lhs; whnf) (by exact rfl) (.inr rfl) rfl
      · have h := ifF c20 h
        refine aw_cond_f (by decide) rfl ?_
        refine aw_skip ?_
        refine hK13 _ ?_
        refine aw_regL ?_
        refine alP (some 15) rfl rfl (does_move (v := .int .i64 v5_0) (by exact rfl)) (by decide) ?_
        refine alP (some 16) rfl rfl (does_bin (v := .int .i64 (IntKind.i64.wrap (v5_0 + 1))) (by conv => lhs; whnf) (by conv => lhs; whnf) rfl) (by decide) ?_
        refine alP (some 5) rfl rfl (does_assign (v := .int .i64 (IntKind.i64.wrap (v5_0 + 1))) (by exact rfl)) (by decide) ?_
        refine al_nil ?_
        have h := leafL h hq9
        exact ⟨m0, Nat.lt_succ_self _, _, reb_lit [(0, .sl 10 (List.map enc30 a0)), (1, .sl 10 (List.map enc30 a1)), (5, .int .i64 (IntKind.i64.wrap (v5_0 + 1)))] [] [] [] (envOk_cons (by conv => lhs; whnf) (by exact rfl) (envOk_cons (by conv => lhs; whnf) (by exact rfl) (envOk_cons (by conv => lhs; whnf) (by exact rfl) envOk_nil))) objOk_nil (nodup_b rfl) (nodup_b rfl) rfl rfl, (IntKind.i64.wrap (v5_0 + 1)), h, rfl⟩
    · have h := ifF c12 h
      refine aw_cond_f (by decide) rfl ?_
      refine aw_exit ?_
      have h := leafR h hq9
      refine hK6 _ ?_
      refine aw_seq_k (fun K22 hK22 => ?_)
      refine aw_regL ?_
      refine alP (some 4) rfl rfl (does_assign (v := .bool true) (by exact rfl)) (by decide) ?_
      refine al_nil ?_
      refine hK22 _ ?_
      refine aw_ret ?_
      obtain rfl := Option.some.inj h
      exact ret_ok1 (by conv => lhs; whnf) (by conv => lhs; whnf) (by exact rfl) (.inr rfl) rfl
def slices_Clone_Span (a0 : List Span) : Option (List Span) :=
  if List.isEmpty a0 = true then gd (((some []) : Option (List Span)) = (gd ((List.length ([] ++ a0)) * 112 ≤ 140737488355328 ∧ (List.length ([] ++ a0)) ≤ 140737488355328) (some ([] ++ a0)))) (some []) else (gd ((List.length ([] ++ a0)) * 112 ≤ 140737488355328 ∧ (List.length ([] ++ a0)) ≤ 140737488355328) (some ([] ++ a0)))
set_option maxRecDepth 100000 in
set_option maxHeartbeats 8000000 in
/-- slices.Clone[[]gleaning/api.Span,gleaning/api.Span] -/
theorem slices_Clone_Span_ok (a0 : List Span) {r : List Span} (h : slices_Clone_Span a0 = some r) : Ok Try.prog 64 [.sl 10 (List.map enc30 a0)] [] [] (.own 2 0) [] [(31, 10, List.map enc30 r)] := by
  unfold slices_Clone_Span at h
  refine ok_of_code Try.func64 rfl (by show (1 : Nat) ≤ _; decide) (Nat.le_refl _) fun X => ?_
  refine aw_seq_k (fun K1 hK1 => ?_)
  refine aw_regL ?_
  refine alP (some 2) rfl rfl (does_assign (v := .nil) (by exact rfl)) (by decide) ?_
  refine al_nil ?_
  refine hK1 _ ?_
  refine aw_seq_k (fun K2 hK2 => ?_)
  refine aw_seq_k (fun K3 hK3 => ?_)
  refine aw_region_nil (l1 := [_]) (.cons (acts_of rfl (does_move (v := .sl 10 (List.map enc30 a0)) (by exact rfl))) (by decide) (.nil _)) (ty_slice ty26) (by conv => lhs; whnf) (by conv => lhs; whnf) (fun t e => by cases e; decide) (by kernel_rfl) (fun b hb => ?_)
  cases b
  · have h := nilF h
    refine hK3 _ ?_
    refine aw_cond_f (by decide) rfl ?_
    refine aw_skip ?_
    refine hK2 _ ?_
    refine aw_seq_k (fun K4 hK4 => ?_)
    refine aw_regL ?_
    refine alD (some 5) rfl rfl (do_buildSlice (xs := List.map enc30 []) ty26 ty31 rfl rfl rfl rfl rfl rfl rfl rfl) (by decide) ?_
    refine alP (some 6) rfl rfl (does_move (v := .sl 10 (List.map enc30 a0)) (by exact rfl)) (by decide) ?_
    obtain ⟨g5, h⟩ := gd_some h
    refine alD (some 7) rfl rfl (do_append (v := List.map enc30 ([] ++ a0)) (by conv => lhs; whnf) (by conv => lhs; whnf) ty26 ty31 rfl rfl (by conv => lhs; whnf) (by first | exact .inl rfl | exact .inr ⟨rfl, rfl⟩) (by conv => lhs; whnf) (by first | exact .inr rfl | exact .inl rfl) (map_app _ _) (fit_map g5)) (by decide) ?_
    refine alP (some 2) rfl rfl (does_assign (v := .own 7 0) (by exact rfl)) (by decide) ?_
    refine al_nil ?_
    refine hK4 _ ?_
    refine aw_ret ?_
    obtain rfl := Option.some.inj h
    exact ret_okR [(7, 0)] (by conv => lhs; whnf) (by conv => lhs; whnf) (by exact rfl) (rowsOk_cons (by conv => lhs; whnf) (by exact rfl) trivial) (nodup_b rfl) (.inr rfl) rfl
  · have h := nilT hb h
    refine hK3 _ ?_
    refine aw_cond_t (by decide) rfl ?_
    refine aw_seq_k (fun K6 hK6 => ?_)
    refine aw_regL ?_
    refine alP (some 2) rfl rfl (does_assign (v := .nil) (by exact rfl)) (by decide) ?_
    refine al_nil ?_
    refine hK6 _ ?_
    refine aw_nilOwn 2 31 10 (by conv => lhs; whnf) (by decide) (by decide) ?_
    refine aw_ret ?_
    obtain rfl := Option.some.inj h
    exact ret_okR [(2, 0)] (by conv => lhs; whnf) (by conv => lhs; whnf) (by exact rfl) (rowsOk_cons (by conv => lhs; whnf) (by exact rfl) trivial) (nodup_b rfl) (.inr rfl) rfl
def slices_Clone_Attr (a0 : List Attr) : Option (List Attr) :=
  if List.isEmpty a0 = true then gd (((some []) : Option (List Attr)) = (gd ((List.length ([] ++ a0)) * 32 ≤ 140737488355328 ∧ (List.length ([] ++ a0)) ≤ 140737488355328) (some ([] ++ a0)))) (some []) else (gd ((List.length ([] ++ a0)) * 32 ≤ 140737488355328 ∧ (List.length ([] ++ a0)) ≤ 140737488355328) (some ([] ++ a0)))
set_option maxRecDepth 100000 in
set_option maxHeartbeats 8000000 in
/-- slices.Clone[[]gleaning/api.Attr,gleaning/api.Attr] -/
theorem slices_Clone_Attr_ok (a0 : List Attr) {r : List Attr} (h : slices_Clone_Attr a0 = some r) : Ok Try.prog 65 [.sl 2 (List.map enc68 a0)] [] [] (.sl 2 (List.map enc68 r)) [] [] := by
  unfold slices_Clone_Attr at h
  refine ok_of_code Try.func65 rfl (by show (1 : Nat) ≤ _; decide) (Nat.le_refl _) fun X => ?_
  refine aw_seq_k (fun K1 hK1 => ?_)
  refine aw_regL ?_
  refine alP (some 2) rfl rfl (does_assign (v := .nil) (by exact rfl)) (by decide) ?_
  refine al_nil ?_
  refine hK1 _ ?_
  refine aw_seq_k (fun K2 hK2 => ?_)
  refine aw_seq_k (fun K3 hK3 => ?_)
  refine aw_region_nil (l1 := [_]) (.cons (acts_of rfl (does_move (v := .sl 2 (List.map enc68 a0)) (by exact rfl))) (by decide) (.nil _)) (ty_slice ty29) (by conv => lhs; whnf) (by conv => lhs; whnf) (fun t e => by cases e; decide) (by kernel_rfl) (fun b hb => ?_)
  cases b
  · have h := nilF h
    refine hK3 _ ?_
    refine aw_cond_f (by decide) rfl ?_
    refine aw_skip ?_
    refine hK2 _ ?_
    refine aw_seq_k (fun K4 hK4 => ?_)
    refine aw_regL ?_
    refine alD (some 5) rfl rfl (do_buildSlice (xs := List.map enc68 []) ty29 ty69 rfl rfl rfl rfl rfl rfl rfl rfl) (by decide) ?_
    refine alP (some 6) rfl rfl (does_move (v := .sl 2 (List.map enc68 a0)) (by exact rfl)) (by decide) ?_
    obtain ⟨g5, h⟩ := gd_some h
    refine alD (some 7) rfl rfl (do_append (v := List.map enc68 ([] ++ a0)) (by conv => lhs; whnf) (by conv => lhs; whnf) ty29 ty69 rfl rfl (by conv => lhs; whnf) (by first | exact .inl rfl | exact .inr ⟨rfl, rfl⟩) (by conv => lhs; whnf) (by first | exact .inr rfl | exact .inl rfl) (map_app _ _) (fit_map g5)) (by decide) ?_
    refine alP (some 2) rfl rfl (does_assign (v := .own 7 0) (by exact rfl)) (by decide) ?_
    refine al_nil ?_
    refine hK4 _ ?_
    refine aw_ret ?_
    obtain rfl := Option.some.inj h
    exact ret_ok1 (by conv => lhs; whnf) (by conv => lhs; whnf) (by exact rfl) (.inr rfl) rfl
  · have h := nilT hb h
    refine hK3 _ ?_
    refine aw_cond_t (by decide) rfl ?_
    refine aw_seq_k (fun K6 hK6 => ?_)
    refine aw_regL ?_
    refine alP (some 2) rfl rfl (does_assign (v := .nil) (by exact rfl)) (by decide) ?_
    refine al_nil ?_
    refine hK6 _ ?_
    refine aw_reb (reb_w (tl' := [(2, .sl 2 (List.map enc68 []))]) (ol' := []) (reb_lit [(2, .nil)] [] [] [] (envOk_cons (by conv => lhs; whnf) (by exact rfl) envOk_nil) objOk_nil (nodup_b rfl) (nodup_b rfl) rfl rfl) ⟨rfl, (le_nil _), trivial⟩ trivial) ?_
    refine aw_ret ?_
    obtain rfl := Option.some.inj h
    exact ret_ok1 (by conv => lhs; whnf) (by conv => lhs; whnf) (by exact rfl) (.inr rfl) rfl
def span_Copy_l0 (x3 : List Span) (v0_s_0 : List Span) (v8_0 : Int) : Option ((List Span × Int) ⊕ (List Span)) :=
  if (decide (v8_0 < (List.length x3 : Int))) = true then (gd (0 ≤ v8_0) (Option.bind (v0_s_0[(Int.toNat v8_0)]?) (fun (x14 : Span) => Option.bind (slices_Clone_Attr x14.Attrs) (fun (x15 : List Attr) => gd (0 ≤ v8_0) (Option.bind (v0_s_0[(Int.toNat v8_0)]?) (fun (x17 : Span) => some (Sum.inl ((List.set v0_s_0 (Int.toNat v8_0) (Span.mk x17.Trace x17.Id x17.Parent x17.Service x17.Op x17.Start x17.Dur x17.Err x15)), (IntKind.i64.wrap (v8_0 + 1)))))))))) else (some (Sum.inr v0_s_0))
def span_Copy (a0 : List Span) : Option (List Span) :=
  Option.bind (slices_Clone_Span a0) (fun (x3 : List Span) => loopN (fun (s : List Span × Int) => span_Copy_l0 x3 s.1 s.2) Fu (x3, 0))
set_option maxRecDepth 100000 in
set_option maxHeartbeats 8000000 in
/-- gleaning/span.Copy -/
theorem span_Copy_ok (a0 : List Span) {r : List Span} (h : span_Copy a0 = some r) : Ok Try.prog 45 [.sl 10 (List.map enc30 a0)] [] [] (.own 2 0) [] [(31, 10, List.map enc30 r)] := by
  unfold span_Copy at h
  refine ok_of_code Try.func45 rfl (by show (1 : Nat) ≤ _; decide) (Nat.le_refl _) fun X => ?_
  refine aw_seq_k (fun K1 hK1 => ?_)
  refine aw_regL ?_
  refine alP (some 2) rfl rfl (does_assign (v := .nil) (by exact rfl)) (by decide) ?_
  refine al_nil ?_
  refine hK1 _ ?_
  refine aw_seq_k (fun K2 hK2 => ?_)
  refine aw_regL ?_
  refine alP (some 4) rfl rfl (does_move (v := .sl 10 (List.map enc30 a0)) (by exact rfl)) (by decide) ?_
  obtain ⟨x3, hx3, h⟩ := bnd_some h
  refine alD (some 5) rfl rfl (do_call0 5 false (slices_Clone_Span_ok a0 hx3) rfl ent64 rfl rfl) (by decide) ?_
  refine alP (some 0) rfl rfl (does_assign (v := .own 5 0) (by exact rfl)) (by decide) ?_
  refine al_nil ?_
  refine hK2 _ ?_
  refine aw_seq_k (fun K4 hK4 => ?_)
  refine aw_seq_k (fun K5 hK5 => ?_)
  refine aw_regL ?_
  refine alP (some 6) rfl rfl (does_move (v := .own 5 0) (by exact rfl)) (by decide) ?_
  refine alR (some 7) rfl rfl ((does_len_own (by conv => lhs; whnf) (by conv => lhs; whnf) ty26).cast (v' := .int .i64 (List.length x3 : Int)) (by exact len_map _)) (by decide) ?_
  refine alP (some 8) rfl rfl (does_move (v := .int .i64 0) (by exact rfl)) (by decide) ?_
  refine al_nil ?_
  refine hK5 _ ?_
  refine aw_block ?_
  refine aw_loop' (fun m s => ∃ (v0_s_0 : List Span), ∃ (v8_0 : Int), loopN (fun (s : List Span × Int) => span_Copy_l0 x3 s.1 s.2) m (v0_s_0, v8_0) = some r ∧ s = lit [(0, .own 5 0), (7, .int .i64 (List.length x3 : Int)), (8, .int .i64 v8_0)] [((5, 0), .arr 31 10 false (List.map enc30 v0_s_0))] [(5, 1)] X) Fu
    ⟨_, reb_lit [(0, .own 5 0), (7, .int .i64 (List.length x3 : Int)), (8, .int .i64 (0))] [(5, 0)] [((5, 0), .arr 31 10 false (List.map enc30 x3))] [(5, 1)] (envOk_cons (by conv => lhs; whnf) (by exact rfl) (envOk_cons (by conv => lhs; whnf) (by exact rfl) (envOk_cons (by conv => lhs; whnf) (by exact rfl) envOk_nil))) (objOk_cons (by conv => lhs; whnf) (by conv => lhs; whnf) (by exact rfl) (by simp) objOk_nil) (nodup_b rfl) (nodup_b rfl) rfl rfl, x3, 0, h, rfl⟩ ?_
  rintro m s ⟨v0_s_0, v8_0, h, rfl⟩
  obtain ⟨m0, q6, rfl, h, hq7⟩ := loop_some h
  replace h : span_Copy_l0 x3 v0_s_0 v8_0 = some q6 := h
  unfold span_Copy_l0 at h
  refine aw_seq_k (fun K8 hK8 => ?_)
  refine aw_regL ?_
  refine alP (some 9) rfl rfl (does_bin (v := .bool (decide (v8_0 < (List.length x3 : Int)))) (by conv => lhs; whnf) (by conv => lhs; whnf) rfl) (by decide) ?_
  refine al_nil ?_
  refine hK8 _ ?_
  refine aw_seq_k (fun K9 hK9 => ?_)
  refine aw_bool (b := (decide (v8_0 < (List.length x3 : Int)))) 9 rfl (fun c10 => ?_) (fun c10 => ?_)
  · have h := ifT c10 h
    refine aw_cond_t (by decide) rfl ?_
    refine aw_skip ?_
    refine hK9 _ ?_
    refine aw_seq_k (fun K11 hK11 => ?_)
    refine aw_block ?_
    refine aw_seq_k (fun K12 hK12 => ?_)
    refine aw_regL ?_
    refine alP (some 10) rfl rfl (does_move (v := .int .i64 v8_0) (by exact rfl)) (by decide) ?_
    refine alP (some 3) rfl rfl (does_assign (v := .int .i64 v8_0) (by exact rfl)) (by decide) ?_
    refine al_nil ?_
    refine hK12 _ ?_
    refine aw_regL ?_
    refine alP (some 11) rfl rfl (does_move (v := .own 5 0) (by exact rfl)) (by decide) ?_
    refine alP (some 12) rfl rfl (does_move (v := .int .i64 v8_0) (by exact rfl)) (by decide) ?_
    refine alP (some 13) rfl rfl (does_move (v := .own 5 0) (by exact rfl)) (by decide) ?_
    refine alP (some 14) rfl rfl (does_move (v := .int .i64 v8_0) (by exact rfl)) (by decide) ?_
    obtain ⟨g13, h⟩ := gd_some h
    obtain ⟨x14, hx14, h⟩ := bnd_some h
    refine alR (some 15) rfl rfl (does_indexAddr_own (by conv => lhs; whnf) (by conv => lhs; whnf) (by conv => lhs; whnf) ty26 ty31 g13 (by exact own_lt hx14)) (by decide) ?_
    refine alP (some 16) rfl rfl (does_fieldAddr (q := .eptr 5 0 10 (Int.toNat v8_0) 9) (by conv => lhs; whnf) ty31 rfl ty29 (by decide) (by exact rfl)) (by decide) ?_
    refine alR (some 17) rfl rfl (does_load (v := .sl 2 (List.map enc68 x14.Attrs)) (by conv => lhs; whnf) (cellsAt_eptr (by conv => lhs; whnf) (by exact map_get hx14)) ty29 (by exact rfl)) (by decide) ?_
    obtain ⟨x15, hx15, h⟩ := bnd_some h
    refine alD (some 18) rfl rfl (do_call0 18 false (slices_Clone_Attr_ok x14.Attrs hx15) rfl ent65 rfl rfl) (by decide) ?_
    obtain ⟨g16, h⟩ := gd_some h
    obtain ⟨x17, hx17, h⟩ := bnd_some h
    refine alR (some 19) rfl rfl (does_indexAddr_own (by conv => lhs; whnf) (by conv => lhs; whnf) (by conv => lhs; whnf) ty26 ty31 g16 (by exact own_lt hx17)) (by decide) ?_
    refine alP (some 20) rfl rfl (does_fieldAddr (q := .eptr 5 0 10 (Int.toNat v8_0) 9) (by conv => lhs; whnf) ty31 rfl ty29 (by decide) (by exact rfl)) (by decide) ?_
    refine alD none rfl rfl (does_storeE (old := .agg [.int .u64 x17.Trace.Hi, .int .u64 x17.Trace.Lo, .int .u64 x17.Id, .int .u64 x17.Parent, .str x17.Service, .str x17.Op, .int .i64 x17.Start, .int .i64 x17.Dur, .bool x17.Err, .sl 2 (List.map enc68 x17.Attrs)]) (el := .agg [.int .u64 x17.Trace.Hi, .int .u64 x17.Trace.Lo, .int .u64 x17.Id, .int .u64 x17.Parent, .str x17.Service, .str x17.Op, .int .i64 x17.Start, .int .i64 x17.Dur, .bool x17.Err, .sl 2 (List.map enc68 x15)]) (xs' := List.map enc30 (List.set v0_s_0 (Int.toNat v8_0) (Span.mk x17.Trace x17.Id x17.Parent x17.Service x17.Op x17.Start x17.Dur x17.Err x15))) (by conv => lhs; whnf) (by conv => lhs; whnf) (by conv => lhs; whnf) ty29 (by rfl) (by rfl) (by exact map_get hx17) (by rfl) (by exact rfl) (by exact map_set' _ _ (Span.mk x17.Trace x17.Id x17.Parent x17.Service x17.Op x17.Start x17.Dur x17.Err x15)) (by rfl)) (by decide) ?_
    refine al_nil ?_
    refine hK11 _ ?_
    refine aw_regL ?_
    refine alP (some 21) rfl rfl (does_bin (v := .int .i64 (IntKind.i64.wrap (v8_0 + 1))) (by conv => lhs; whnf) (by conv => lhs; whnf) rfl) (by decide) ?_
    refine alP (some 8) rfl rfl (does_move (v := .int .i64 (IntKind.i64.wrap (v8_0 + 1))) (by exact rfl)) (by decide) ?_
    refine al_nil ?_
    have h := leafL h hq7
    exact ⟨m0, Nat.lt_succ_self _, _, reb_lit [(0, .own 5 0), (7, .int .i64 (List.length x3 : Int)), (8, .int .i64 (IntKind.i64.wrap (v8_0 + 1)))] [(5, 0)] [((5, 0), .arr 31 10 false (List.map enc30 (List.set v0_s_0 (Int.toNat v8_0) (Span.mk x17.Trace x17.Id x17.Parent x17.Service x17.Op x17.Start x17.Dur x17.Err x15))))] [(5, 1)] (envOk_cons (by conv => lhs; whnf) (by exact rfl) (envOk_cons (by conv => lhs; whnf) (by exact rfl) (envOk_cons (by conv => lhs; whnf) (by exact rfl) envOk_nil))) (objOk_cons (by conv => lhs; whnf) (by conv => lhs; whnf) (by exact rfl) (by simp) objOk_nil) (nodup_b rfl) (nodup_b rfl) rfl rfl, (List.set v0_s_0 (Int.toNat v8_0) (Span.mk x17.Trace x17.Id x17.Parent x17.Service x17.Op x17.Start x17.Dur x17.Err x15)), (IntKind.i64.wrap (v8_0 + 1)), h, rfl⟩
  · have h := ifF c10 h
    refine aw_cond_f (by decide) rfl ?_
    refine aw_exit ?_
    have h := leafR h hq7
    refine hK4 _ ?_
    refine aw_seq_k (fun K18 hK18 => ?_)
    refine aw_regL ?_
    refine alP (some 22) rfl rfl (does_move (v := .own 5 0) (by exact rfl)) (by decide) ?_
    refine alP (some 2) rfl rfl (does_assign (v := .own 5 0) (by exact rfl)) (by decide) ?_
    refine al_nil ?_
    refine hK18 _ ?_
    refine aw_ret ?_
    obtain rfl := Option.some.inj h
    exact ret_okR [(5, 0)] (by conv => lhs; whnf) (by conv => lhs; whnf) (by exact rfl) (rowsOk_cons (by conv => lhs; whnf) (by exact rfl) trivial) (nodup_b rfl) (.inr rfl) rfl
end Go.Proofs.Ytlkdpgemdopbfaa.Ab
