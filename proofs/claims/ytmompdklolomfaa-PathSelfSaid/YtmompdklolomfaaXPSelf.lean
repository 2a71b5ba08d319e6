/- Chapter 30: its own. -/
import Derived.Test.YtmompdklolomfaaXPLat
import Derived.Test.YtmompdklolomfaaProg
namespace Go.Proofs.Ytmompdklolomfaa.Ab
open Go Go.RowKit
set_option linter.unusedVariables false
set_option linter.unusedSimpArgs false
def gleaninglaw30_PathSelf_l2 (a0 : List Int) (a1 : List Int) (v8_s_2 : List Span) (v9_2 : Int) : Option ((List Span × Int) ⊕ (List Span)) :=
 if (decide (v9_2 < (List.length a0 : Int))) = true then (gd (0 ≤ v9_2) (Option.bind (a1[(Int.toNat v9_2)]?) (fun (x28 : Int) => gd (0 ≤ v9_2) (Option.bind (a0[(Int.toNat v9_2)]?) (fun (x30 : Int) => gd ((List.length (v8_s_2 ++ [(Span.mk (Trace.mk 0 0) (IntKind.u64.wrap (IntKind.i64.wrap (v9_2 + 2))) 1 (strOf [97]) (strOf [98]) (IntKind.i64.wrap (2 + (bits .and .i64 x28 3))) (bits .and .i64 x30 2047) false [])])) * 112 ≤ 140737488355328 ∧ (List.length (v8_s_2 ++ [(Span.mk (Trace.mk 0 0) (IntKind.u64.wrap (IntKind.i64.wrap (v9_2 + 2))) 1 (strOf [97]) (strOf [98]) (IntKind.i64.wrap (2 + (bits .and .i64 x28 3))) (bits .and .i64 x30 2047) false [])])) ≤ 140737488355328) (some (Sum.inl ((v8_s_2 ++ [(Span.mk (Trace.mk 0 0) (IntKind.u64.wrap (IntKind.i64.wrap (v9_2 + 2))) 1 (strOf [97]) (strOf [98]) (IntKind.i64.wrap (2 + (bits .and .i64 x28 3))) (bits .and .i64 x30 2047) false [])]), (IntKind.i64.wrap (v9_2 + 1)))))))))) else (some (Sum.inr v8_s_2))
def gleaninglaw30_PathSelf_l6 (v8_s_1 : List Span) (v11_4 : Int) (v12_6 : Bool) (v13_6 : Int) : Option ((Bool × Int) ⊕ Bool) :=
 if (decide (v13_6 < (List.length v8_s_1 : Int))) = true then (if v12_6 = true then (gd (0 ≤ v13_6) (Option.bind (v8_s_1[(Int.toNat v13_6)]?) (fun (x54 : Span) => if (decide (v11_4 < (IntKind.i64.wrap (x54.Start * 1000)))) = true then (some (Sum.inl (true, (IntKind.i64.wrap (v13_6 + 1))))) else (gd (0 ≤ v13_6) (Option.bind (v8_s_1[(Int.toNat v13_6)]?) (fun (x57 : Span) => gd (0 ≤ v13_6) (Option.bind (v8_s_1[(Int.toNat v13_6)]?) (fun (x59 : Span) => some (Sum.inl ((decide ((IntKind.i64.wrap ((IntKind.i64.wrap (x57.Start * 1000)) + x59.Dur)) ≤ v11_4)), (IntKind.i64.wrap (v13_6 + 1)))))))))))) else (some (Sum.inl (false, (IntKind.i64.wrap (v13_6 + 1)))))) else (some (Sum.inr v12_6))
def gleaninglaw30_PathSelf_k5 (v10_4 : Int) (v11_4 : Int) (v12_5 : Bool) : Option ((Int × Int) ⊕ Int) :=
 if v12_5 = true then (some (Sum.inl ((IntKind.i64.wrap (v10_4 + 1)), (IntKind.i64.wrap (v11_4 + 1))))) else (some (Sum.inl (v10_4, (IntKind.i64.wrap (v11_4 + 1)))))
def gleaninglaw30_PathSelf_l4 (a2 : Int) (v8_s_1 : List Span) (v10_4 : Int) (v11_4 : Int) : Option ((Int × Int) ⊕ Int) :=
 if (decide (v11_4 < (IntKind.i64.wrap (3000 + a2)))) = true then (Option.bind (loopN (fun (s : Bool × Int) => gleaninglaw30_PathSelf_l6 v8_s_1 v11_4 s.1 s.2) Fu (true, 1)) (fun (s : Bool) => gleaninglaw30_PathSelf_k5 v10_4 v11_4 s)) else (some (Sum.inr v10_4))
def gleaninglaw30_PathSelf_l8 (v8_s_1 : List Span) (v14_8 : Int) : Option (Int ⊕ (Unit ⊕ Bool)) :=
 if (decide (v14_8 < (List.length v8_s_1 : Int))) = true then (Option.bind (path_Self v8_s_1 v14_8) (fun (x72 : Int) => gd (0 ≤ v14_8) (Option.bind (v8_s_1[(Int.toNat v14_8)]?) (fun (x74 : Span) => if (x72 != x74.Dur) = true then (some (Sum.inr (Sum.inr false))) else (some (Sum.inl (IntKind.i64.wrap (v14_8 + 1)))))))) else (some (Sum.inr (Sum.inl ())))
def gleaninglaw30_PathSelf_k7 (a2 : Int) (v8_s_1 : List Span) (v10_3 : Int) : Option Bool :=
 Option.bind (path_Self v8_s_1 0) (fun (x78 : Int) => if (x78 == v10_3) = true then (some (decide (v10_3 ≤ a2))) else (some false))
def gleaninglaw30_PathSelf_k3 (a2 : Int) (v8_s_1 : List Span) (v10_3 : Int) : Option Bool :=
 Option.bind (loopN (fun (s : Int) => gleaninglaw30_PathSelf_l8 v8_s_1 s) Fu 1) (Sum.elim (fun (s : Unit) => gleaninglaw30_PathSelf_k7 a2 v8_s_1 v10_3) some)
def gleaninglaw30_PathSelf_k1 (a2 : Int) (v8_s_1 : List Span) : Option Bool :=
 Option.bind (loopN (fun (s : Int × Int) => gleaninglaw30_PathSelf_l4 a2 v8_s_1 s.1 s.2) Fu (0, 3000)) (fun (s : Int) => gleaninglaw30_PathSelf_k3 a2 v8_s_1 s)
def gleaninglaw30_PathSelf_k0 (a0 : List Int) (a1 : List Int) (a2 : Int) : Option Bool :=
 Option.bind (loopN (fun (s : List Span × Int) => gleaninglaw30_PathSelf_l2 a0 a1 s.1 s.2) Fu ([(Span.mk (Trace.mk 0 0) 1 99 (strOf [97]) (strOf [98]) 3 a2 false [])], 0)) (fun (s : List Span) => gleaninglaw30_PathSelf_k1 a2 s)
def gleaninglaw30_PathSelf (a0 : List Int) (a1 : List Int) (a2 : Int) : Option Bool :=
 Option.bind (gleaninglaw30_alive) (fun (x3 : Bool) => Option.bind (if (!x3) = true then (some (Sum.inr x3)) else (if (decide ((12 : Int) < (List.length a0 : Int))) = true then (some (Sum.inr x3)) else (if (decide ((List.length a1 : Int) < (List.length a0 : Int))) = true then (some (Sum.inr x3)) else (if (decide (a2 < 0)) = true then (some (Sum.inr x3)) else (if (decide ((3000 : Int) < a2)) = true then (some (Sum.inr x3)) else (some (Sum.inl ()))))))) (Sum.elim (fun (s : Unit) => gleaninglaw30_PathSelf_k0 a0 a1 a2) some))
set_option maxRecDepth 100000 in
set_option maxHeartbeats 8000000 in
theorem gleaninglaw30_PathSelf_ok (a0 : List Int) (a1 : List Int) (a2 : Int) {r : Bool} (h : gleaninglaw30_PathSelf a0 a1 a2 = some r) : Ok Try.prog 5 [.sl 1 (List.map enc2 a0), .sl 1 (List.map enc2 a1), .int .i64 a2] [] [] (.bool r) [] [] := by
 unfold gleaninglaw30_PathSelf at h
 refine ok_of_code Try.func5 rfl (by show (3 : Nat) ≤ _; decide) (Nat.le_refl _) fun X => ?_
 refine aw_seq_k (fun K1 hK1 => ?_)
 refine aw_regL ?_
 refine alP (some 6) rfl rfl (does_assign (v := .bool false) (by exact rfl)) (by decide) ?_
 refine al_nil ?_
 refine hK1 _ ?_
 refine aw_seq_k (fun K2 hK2 => ?_)
 refine aw_regL ?_
 obtain ⟨x3, hx3, h⟩ := bnd_some h
 refine alD (some 15) rfl rfl (do_call0 15 false (gleaninglaw30_alive_ok hx3) rfl ent6 rfl rfl) (by decide) ?_
 refine alP (some 7) rfl rfl (does_assign (v := .bool x3) (by exact rfl)) (by decide) ?_
 refine al_nil ?_
 refine hK2 _ ?_
 obtain ⟨q4, h, hk5⟩ := bnd_some h
 refine aw_cut (fun s => gleaninglaw30_PathSelf_k0 a0 a1 a2 = some r ∧ s = lit [(0, .sl 1 (List.map enc2 a0)), (1, .sl 1 (List.map enc2 a1)), (2, .int .i64 a2)] [] [] X) ?_ ?_
 ·skip
  refine aw_seq_k (fun K6 hK6 => ?_)
  refine aw_regL ?_
  refine alP (some 16) rfl rfl (does_move (v := .bool x3) (by exact rfl)) (by decide) ?_
  refine alP (some 17) rfl rfl (does_un (v := .bool (!x3)) (by conv => lhs; whnf) rfl) (by decide) ?_
  refine alP (some 18) rfl rfl (does_move (v := .bool (!x3)) (by exact rfl)) (by decide) ?_
  refine al_bool (c := (!x3)) 18 rfl (fun c7 => ?_) (fun c7 => ?_)
  ·have h := ifT c7 h
   refine alS (some 19) rfl rfl (by decide) ?_
   refine alS (some 20) rfl rfl (by decide) ?_
   refine alS (some 21) rfl rfl (by decide) ?_
   refine alP (some 22) rfl rfl (does_pick (v := .bool true) (by conv => lhs; whnf) (by exact rfl)) (by decide) ?_
   refine alP (some 23) rfl rfl (does_move (v := .bool true) (by exact rfl)) (by decide) ?_
   refine alS (some 24) rfl rfl (by decide) ?_
   refine alS (some 25) rfl rfl (by decide) ?_
   refine alS (some 26) rfl rfl (by decide) ?_
   refine alS (some 27) rfl rfl (by decide) ?_
   refine alS (some 28) rfl rfl (by decide) ?_
   refine alP (some 29) rfl rfl (does_pick (v := .bool true) (by conv => lhs; whnf) (by exact rfl)) (by decide) ?_
   refine alP (some 30) rfl rfl (does_move (v := .bool true) (by exact rfl)) (by decide) ?_
   refine alS (some 31) rfl rfl (by decide) ?_
   refine alS (some 32) rfl rfl (by decide) ?_
   refine alP (some 33) rfl rfl (does_pick (v := .bool true) (by conv => lhs; whnf) (by exact rfl)) (by decide) ?_
   refine alP (some 34) rfl rfl (does_move (v := .bool true) (by exact rfl)) (by decide) ?_
   refine alS (some 35) rfl rfl (by decide) ?_
   refine alS (some 36) rfl rfl (by decide) ?_
   refine alP (some 37) rfl rfl (does_pick (v := .bool true) (by conv => lhs; whnf) (by exact rfl)) (by decide) ?_
   refine al_nil ?_
   refine hK6 _ ?_
   refine aw_cond_t (by decide) rfl ?_
   refine aw_seq_k (fun K8 hK8 => ?_)
   refine aw_regL ?_
   refine alP (some 38) rfl rfl (does_move (v := .bool x3) (by exact rfl)) (by decide) ?_
   refine alP (some 6) rfl rfl (does_assign (v := .bool x3) (by exact rfl)) (by decide) ?_
   refine al_nil ?_
   refine hK8 _ ?_
   refine aw_ret ?_
   have h := leafR h hk5
   obtain rfl := Option.some.inj h
   exact ret_ok1 (by conv => lhs; whnf) (by conv => lhs; whnf) (by exact rfl) (.inr rfl) rfl
  ·have h := ifF c7 h
   refine alP (some 19) rfl rfl (does_move (v := .sl 1 (List.map enc2 a0)) (by exact rfl)) (by decide) ?_
   refine alP (some 20) rfl rfl ((does_len_sl (by conv => lhs; whnf) ty34).castp (v' := .int .i64 (List.length a0 : Int)) (by exact len_map _)) (by decide) ?_
   refine alP (some 21) rfl rfl (does_bin (v := .bool (decide ((12 : Int) < (List.length a0 : Int)))) (by conv => lhs; whnf) (by conv => lhs; whnf) rfl) (by decide) ?_
   refine alP (some 22) rfl rfl (does_pick (v := .bool (decide ((12 : Int) < (List.length a0 : Int)))) (by conv => lhs; whnf) (by exact rfl)) (by decide) ?_
   refine alP (some 23) rfl rfl (does_move (v := .bool (decide ((12 : Int) < (List.length a0 : Int)))) (by exact rfl)) (by decide) ?_
   refine al_bool (c := (decide ((12 : Int) < (List.length a0 : Int)))) 23 rfl (fun c9 => ?_) (fun c9 => ?_)
   ·have h := ifT c9 h
    refine alS (some 24) rfl rfl (by decide) ?_
    refine alS (some 25) rfl rfl (by decide) ?_
    refine alS (some 26) rfl rfl (by decide) ?_
    refine alS (some 27) rfl rfl (by decide) ?_
    refine alS (some 28) rfl rfl (by decide) ?_
    refine alP (some 29) rfl rfl (does_pick (v := .bool true) (by conv => lhs; whnf) (by exact rfl)) (by decide) ?_
    refine alP (some 30) rfl rfl (does_move (v := .bool true) (by exact rfl)) (by decide) ?_
    refine alS (some 31) rfl rfl (by decide) ?_
    refine alS (some 32) rfl rfl (by decide) ?_
    refine alP (some 33) rfl rfl (does_pick (v := .bool true) (by conv => lhs; whnf) (by exact rfl)) (by decide) ?_
    refine alP (some 34) rfl rfl (does_move (v := .bool true) (by exact rfl)) (by decide) ?_
    refine alS (some 35) rfl rfl (by decide) ?_
    refine alS (some 36) rfl rfl (by decide) ?_
    refine alP (some 37) rfl rfl (does_pick (v := .bool true) (by conv => lhs; whnf) (by exact rfl)) (by decide) ?_
    refine al_nil ?_
    refine hK6 _ ?_
    refine aw_cond_t (by decide) rfl ?_
    refine aw_seq_k (fun K10 hK10 => ?_)
    refine aw_regL ?_
    refine alP (some 38) rfl rfl (does_move (v := .bool x3) (by exact rfl)) (by decide) ?_
    refine alP (some 6) rfl rfl (does_assign (v := .bool x3) (by exact rfl)) (by decide) ?_
    refine al_nil ?_
    refine hK10 _ ?_
    refine aw_ret ?_
    have h := leafR h hk5
    obtain rfl := Option.some.inj h
    exact ret_ok1 (by conv => lhs; whnf) (by conv => lhs; whnf) (by exact rfl) (.inr rfl) rfl
   ·have h := ifF c9 h
    refine alP (some 24) rfl rfl (does_move (v := .sl 1 (List.map enc2 a1)) (by exact rfl)) (by decide) ?_
    refine alP (some 25) rfl rfl ((does_len_sl (by conv => lhs; whnf) ty34).castp (v' := .int .i64 (List.length a1 : Int)) (by exact len_map _)) (by decide) ?_
    refine alP (some 26) rfl rfl (does_move (v := .sl 1 (List.map enc2 a0)) (by exact rfl)) (by decide) ?_
    refine alP (some 27) rfl rfl ((does_len_sl (by conv => lhs; whnf) ty34).castp (v' := .int .i64 (List.length a0 : Int)) (by exact len_map _)) (by decide) ?_
    refine alP (some 28) rfl rfl (does_bin (v := .bool (decide ((List.length a1 : Int) < (List.length a0 : Int)))) (by conv => lhs; whnf) (by conv => lhs; whnf) rfl) (by decide) ?_
    refine alP (some 29) rfl rfl (does_pick (v := .bool (decide ((List.length a1 : Int) < (List.length a0 : Int)))) (by conv => lhs; whnf) (by exact rfl)) (by decide) ?_
    refine alP (some 30) rfl rfl (does_move (v := .bool (decide ((List.length a1 : Int) < (List.length a0 : Int)))) (by exact rfl)) (by decide) ?_
    refine al_bool (c := (decide ((List.length a1 : Int) < (List.length a0 : Int)))) 30 rfl (fun c11 => ?_) (fun c11 => ?_)
    ·have h := ifT c11 h
     refine alS (some 31) rfl rfl (by decide) ?_
     refine alS (some 32) rfl rfl (by decide) ?_
     refine alP (some 33) rfl rfl (does_pick (v := .bool true) (by conv => lhs; whnf) (by exact rfl)) (by decide) ?_
     refine alP (some 34) rfl rfl (does_move (v := .bool true) (by exact rfl)) (by decide) ?_
     refine alS (some 35) rfl rfl (by decide) ?_
     refine alS (some 36) rfl rfl (by decide) ?_
     refine alP (some 37) rfl rfl (does_pick (v := .bool true) (by conv => lhs; whnf) (by exact rfl)) (by decide) ?_
     refine al_nil ?_
     refine hK6 _ ?_
     refine aw_cond_t (by decide) rfl ?_
     refine aw_seq_k (fun K12 hK12 => ?_)
     refine aw_regL ?_
     refine alP (some 38) rfl rfl (does_move (v := .bool x3) (by exact rfl)) (by decide) ?_
     refine alP (some 6) rfl rfl (does_assign (v := .bool x3) (by exact rfl)) (by decide) ?_
     refine al_nil ?_
     refine hK12 _ ?_
     refine aw_ret ?_
     have h := leafR h hk5
     obtain rfl := Option.some.inj h
     exact ret_ok1 (by conv => lhs; whnf) (by conv => lhs; whnf) (by exact rfl) (.inr rfl) rfl
    ·have h := ifF c11 h
     refine alP (some 31) rfl rfl (does_move (v := .int .i64 a2) (by exact rfl)) (by decide) ?_
     refine alP (some 32) rfl rfl (does_bin (v := .bool (decide (a2 < 0))) (by conv => lhs; whnf) (by conv => lhs; whnf) rfl) (by decide) ?_
     refine alP (some 33) rfl rfl (does_pick (v := .bool (decide (a2 < 0))) (by conv => lhs; whnf) (by exact rfl)) (by decide) ?_
     refine alP (some 34) rfl rfl (does_move (v := .bool (decide (a2 < 0))) (by exact rfl)) (by decide) ?_
     refine al_bool (c := (decide (a2 < 0))) 34 rfl (fun c13 => ?_) (fun c13 => ?_)
     ·have h := ifT c13 h
      refine alS (some 35) rfl rfl (by decide) ?_
      refine alS (some 36) rfl rfl (by decide) ?_
      refine alP (some 37) rfl rfl (does_pick (v := .bool true) (by conv => lhs; whnf) (by exact rfl)) (by decide) ?_
      refine al_nil ?_
      refine hK6 _ ?_
      refine aw_cond_t (by decide) rfl ?_
      refine aw_seq_k (fun K14 hK14 => ?_)
      refine aw_regL ?_
      refine alP (some 38) rfl rfl (does_move (v := .bool x3) (by exact rfl)) (by decide) ?_
      refine alP (some 6) rfl rfl (does_assign (v := .bool x3) (by exact rfl)) (by decide) ?_
      refine al_nil ?_
      refine hK14 _ ?_
      refine aw_ret ?_
      have h := leafR h hk5
      obtain rfl := Option.some.inj h
      exact ret_ok1 (by conv => lhs; whnf) (by conv => lhs; whnf) (by exact rfl) (.inr rfl) rfl
     ·have h := ifF c13 h
      refine alP (some 35) rfl rfl (does_move (v := .int .i64 a2) (by exact rfl)) (by decide) ?_
      refine alP (some 36) rfl rfl (does_bin (v := .bool (decide ((3000 : Int) < a2))) (by conv => lhs; whnf) (by conv => lhs; whnf) rfl) (by decide) ?_
      refine alP (some 37) rfl rfl (does_pick (v := .bool (decide ((3000 : Int) < a2))) (by conv => lhs; whnf) (by exact rfl)) (by decide) ?_
      refine al_nil ?_
      refine hK6 _ ?_
      refine aw_bool (b := (decide ((3000 : Int) < a2))) 37 rfl (fun c15 => ?_) (fun c15 => ?_)
      ·have h := ifT c15 h
       refine aw_cond_t (by decide) rfl ?_
       refine aw_seq_k (fun K16 hK16 => ?_)
       refine aw_regL ?_
       refine alP (some 38) rfl rfl (does_move (v := .bool x3) (by exact rfl)) (by decide) ?_
       refine alP (some 6) rfl rfl (does_assign (v := .bool x3) (by exact rfl)) (by decide) ?_
       refine al_nil ?_
       refine hK16 _ ?_
       refine aw_ret ?_
       have h := leafR h hk5
       obtain rfl := Option.some.inj h
       exact ret_ok1 (by conv => lhs; whnf) (by conv => lhs; whnf) (by exact rfl) (.inr rfl) rfl
      ·have h := ifF c15 h
       refine aw_cond_f (by decide) rfl ?_
       refine aw_skip ?_
       have h := leafL h hk5
       exact ⟨_, reb_lit [(0, .sl 1 (List.map enc2 a0)), (1, .sl 1 (List.map enc2 a1)), (2, .int .i64 a2)] [] [] [] (envOk_cons (by conv => lhs; whnf) (by exact rfl) (envOk_cons (by conv => lhs; whnf) (by exact rfl) (envOk_cons (by conv => lhs; whnf) (by exact rfl) envOk_nil))) objOk_nil (nodup_b rfl) (nodup_b rfl) rfl rfl, h, rfl⟩
 ·rintro s ⟨h, rfl⟩
  unfold gleaninglaw30_PathSelf_k0 at h
  refine aw_seq_k (fun K17 hK17 => ?_)
  refine aw_regL ?_
  refine alP (some 39) rfl rfl (does_move (v := .int .i64 a2) (by exact rfl)) (by decide) ?_
  refine alP (some 40) rfl rfl ((do_build_struct (cs := [.int .u64 0, .int .u64 0, .int .u64 1, .int .u64 99, .str (strOf [97]), .str (strOf [98]), .int .i64 3, .int .i64 a2, .bool false, .nil]) ty28 rfl [⟨.struct [(0, 23), (1, 23)], 2, 16, [.int .u64 0, .int .u64 0]⟩, ⟨.int .u64, 1, 8, [.int .u64 0]⟩, ⟨.int .u64, 1, 8, [.int .u64 0]⟩, ⟨.str, 1, 16, [.str ByteArray.empty]⟩, ⟨.str, 1, 16, [.str ByteArray.empty]⟩, ⟨.int .i64, 1, 8, [.int .i64 0]⟩, ⟨.int .i64, 1, 8, [.int .i64 0]⟩, ⟨.bool, 1, 1, [.bool false]⟩, ⟨.slice 40, 1, 24, [.nil]⟩] (by simp only [List.map, ty23, ty25, ty26, ty3, ty4, ty9]) (by rfl) (by exact rfl)).weak (v' := .agg [.int .u64 0, .int .u64 0, .int .u64 1, .int .u64 99, .str (strOf [97]), .str (strOf [98]), .int .i64 3, .int .i64 a2, .bool false, .sl 2 (List.map enc39 [])]) (le_agg ⟨le_refl _, le_refl _, le_refl _, le_refl _, le_refl _, le_refl _, le_refl _, le_refl _, le_refl _, le_nil _, trivial⟩)) (by decide) ?_
  refine alD (some 41) rfl rfl (do_buildSlice (xs := List.map enc27 [(Span.mk (Trace.mk 0 0) 1 99 (strOf [97]) (strOf [98]) 3 a2 false [])]) ty22 ty28 rfl rfl rfl rfl rfl rfl rfl rfl) (by decide) ?_
  refine alP (some 8) rfl rfl (does_assign (v := .own 41 0) (by exact rfl)) (by decide) ?_
  refine al_nil ?_
  refine hK17 _ ?_
  obtain ⟨q18, h, hk19⟩ := bnd_some h
  refine aw_cut (fun s => ∃ (v8_s_1 : List Span), gleaninglaw30_PathSelf_k1 a2 v8_s_1 = some r ∧ s = lit [(2, .int .i64 a2), (8, .own 41 0)] [((41, 0), .arr 28 10 false (List.map enc27 v8_s_1))] [(41, 1)] X) ?_ ?_
  ·skip
   refine aw_seq_k (fun K20 hK20 => ?_)
   refine aw_regL ?_
   refine alP (some 9) rfl rfl (does_assign (v := .int .i64 0) (by exact rfl)) (by decide) ?_
   refine al_nil ?_
   refine hK20 _ ?_
   refine aw_block ?_
   refine aw_loop' (fun m s => ∃ (v8_s_2 : List Span), ∃ (v9_2 : Int), loopN (fun (s : List Span × Int) => gleaninglaw30_PathSelf_l2 a0 a1 s.1 s.2) m (v8_s_2, v9_2) = some q18 ∧ s = lit [(0, .sl 1 (List.map enc2 a0)), (1, .sl 1 (List.map enc2 a1)), (2, .int .i64 a2), (8, .own 41 0), (9, .int .i64 v9_2)] [((41, 0), .arr 28 10 false (List.map enc27 v8_s_2))] [(41, 1)] X) Fu
    ⟨_, reb_lit [(0, .sl 1 (List.map enc2 a0)), (1, .sl 1 (List.map enc2 a1)), (2, .int .i64 a2), (8, .own 41 0), (9, .int .i64 (0))] [(41, 0)] [((41, 0), .arr 28 10 false (List.map enc27 [(Span.mk (Trace.mk 0 0) 1 99 (strOf [97]) (strOf [98]) 3 a2 false [])]))] [(41, 1)] (envOk_cons (by conv => lhs; whnf) (by exact rfl) (envOk_cons (by conv => lhs; whnf) (by exact rfl) (envOk_cons (by conv => lhs; whnf) (by exact rfl) (envOk_cons (by conv => lhs; whnf) (by exact rfl) (envOk_cons (by conv => lhs; whnf) (by exact rfl) envOk_nil))))) (objOk_cons (by conv => lhs; whnf) (by conv => lhs; whnf) (by exact rfl) (by simp) objOk_nil) (nodup_b rfl) (nodup_b rfl) rfl rfl, [(Span.mk (Trace.mk 0 0) 1 99 (strOf [97]) (strOf [98]) 3 a2 false [])], 0, h, rfl⟩ ?_
   rintro m s ⟨v8_s_2, v9_2, h, rfl⟩
   obtain ⟨m2, q21, rfl, h, hq22⟩ := loop_some h
   replace h : gleaninglaw30_PathSelf_l2 a0 a1 v8_s_2 v9_2 = some q21 := h
   unfold gleaninglaw30_PathSelf_l2 at h
   refine aw_seq_k (fun K23 hK23 => ?_)
   refine aw_seq_k (fun K24 hK24 => ?_)
   refine aw_regL ?_
   refine alP (some 42) rfl rfl (does_move (v := .int .i64 v9_2) (by exact rfl)) (by decide) ?_
   refine alP (some 43) rfl rfl (does_move (v := .sl 1 (List.map enc2 a0)) (by exact rfl)) (by decide) ?_
   refine alP (some 44) rfl rfl ((does_len_sl (by conv => lhs; whnf) ty34).castp (v' := .int .i64 (List.length a0 : Int)) (by exact len_map _)) (by decide) ?_
   refine alP (some 45) rfl rfl (does_bin (v := .bool (decide (v9_2 < (List.length a0 : Int)))) (by conv => lhs; whnf) (by conv => lhs; whnf) rfl) (by decide) ?_
   refine al_nil ?_
   refine hK24 _ ?_
   refine aw_bool (b := (decide (v9_2 < (List.length a0 : Int)))) 45 rfl (fun c25 => ?_) (fun c25 => ?_)
   ·have h := ifT c25 h
    refine aw_cond_t (by decide) rfl ?_
    refine aw_skip ?_
    refine hK23 _ ?_
    refine aw_seq_k (fun K26 hK26 => ?_)
    refine aw_block ?_
    refine aw_regd (by kernel_rfl) (by decide +kernel) ?_
    refine aoP (some 48) rfl rfl (does_move (v := .own 41 0) (by exact rfl)) (by decide) ?_
    refine aoP (some 49) rfl rfl (does_move (v := .int .i64 v9_2) (by exact rfl)) (by decide) ?_
    refine aoP (some 50) rfl rfl (does_bin (v := .int .i64 (IntKind.i64.wrap (v9_2 + 2))) (by conv => lhs; whnf) (by conv => lhs; whnf) rfl) (by decide) ?_
    refine aoP (some 51) rfl rfl (does_conv_int (v := .int .u64 (IntKind.u64.wrap (IntKind.i64.wrap (v9_2 + 2)))) (by conv => lhs; whnf) (ty_some ty3) (ty_int ty23) rfl) (by decide) ?_
    refine aoP (some 52) rfl rfl (does_move (v := .sl 1 (List.map enc2 a1)) (by exact rfl)) (by decide) ?_
    refine aoP (some 53) rfl rfl (does_move (v := .int .i64 v9_2) (by exact rfl)) (by decide) ?_
    obtain ⟨g27, h⟩ := gd_some h
    obtain ⟨x28, hx28, h⟩ := bnd_some h
    refine aoP (some 54) rfl rfl (does_indexAddr_sl (el := .int .i64 x28) (by conv => lhs; whnf) (by conv => lhs; whnf) ty34 ty3 g27 (by exact map_get hx28)) (by decide) ?_
    refine aoR (some 55) rfl rfl (does_load (v := .int .i64 x28) (by conv => lhs; whnf) (by conv => lhs; whnf) ty3 (by exact rfl)) (by decide) ?_
    refine aoP (some 56) rfl rfl (does_bin (v := .int .i64 (bits .and .i64 x28 3)) (by conv => lhs; whnf) (by conv => lhs; whnf) rfl) (by decide) ?_
    refine aoP (some 57) rfl rfl (does_bin (v := .int .i64 (IntKind.i64.wrap (2 + (bits .and .i64 x28 3)))) (by conv => lhs; whnf) (by conv => lhs; whnf) rfl) (by decide) ?_
    refine aoP (some 58) rfl rfl (does_move (v := .sl 1 (List.map enc2 a0)) (by exact rfl)) (by decide) ?_
    refine aoP (some 59) rfl rfl (does_move (v := .int .i64 v9_2) (by exact rfl)) (by decide) ?_
    obtain ⟨g29, h⟩ := gd_some h
    obtain ⟨x30, hx30, h⟩ := bnd_some h
    refine aoP (some 60) rfl rfl (does_indexAddr_sl (el := .int .i64 x30) (by conv => lhs; whnf) (by conv => lhs; whnf) ty34 ty3 g29 (by exact map_get hx30)) (by decide) ?_
    refine aoR (some 61) rfl rfl (does_load (v := .int .i64 x30) (by conv => lhs; whnf) (by conv => lhs; whnf) ty3 (by exact rfl)) (by decide) ?_
    refine aoP (some 62) rfl rfl (does_bin (v := .int .i64 (bits .and .i64 x30 2047)) (by conv => lhs; whnf) (by conv => lhs; whnf) rfl) (by decide) ?_
    refine aoP (some 63) rfl rfl ((do_build_struct (cs := [.int .u64 0, .int .u64 0, .int .u64 (IntKind.u64.wrap (IntKind.i64.wrap (v9_2 + 2))), .int .u64 1, .str (strOf [97]), .str (strOf [98]), .int .i64 (IntKind.i64.wrap (2 + (bits .and .i64 x28 3))), .int .i64 (bits .and .i64 x30 2047), .bool false, .nil]) ty28 rfl [⟨.struct [(0, 23), (1, 23)], 2, 16, [.int .u64 0, .int .u64 0]⟩, ⟨.int .u64, 1, 8, [.int .u64 0]⟩, ⟨.int .u64, 1, 8, [.int .u64 0]⟩, ⟨.str, 1, 16, [.str ByteArray.empty]⟩, ⟨.str, 1, 16, [.str ByteArray.empty]⟩, ⟨.int .i64, 1, 8, [.int .i64 0]⟩, ⟨.int .i64, 1, 8, [.int .i64 0]⟩, ⟨.bool, 1, 1, [.bool false]⟩, ⟨.slice 40, 1, 24, [.nil]⟩] (by simp only [List.map, ty23, ty25, ty26, ty3, ty4, ty9]) (by rfl) (by exact rfl)).weak (v' := .agg [.int .u64 0, .int .u64 0, .int .u64 (IntKind.u64.wrap (IntKind.i64.wrap (v9_2 + 2))), .int .u64 1, .str (strOf [97]), .str (strOf [98]), .int .i64 (IntKind.i64.wrap (2 + (bits .and .i64 x28 3))), .int .i64 (bits .and .i64 x30 2047), .bool false, .sl 2 (List.map enc39 [])]) (le_agg ⟨le_refl _, le_refl _, le_refl _, le_refl _, le_refl _, le_refl _, le_refl _, le_refl _, le_refl _, le_nil _, trivial⟩)) (by decide) ?_
    refine aoD (some 64) rfl rfl (do_buildSlice (xs := List.map enc27 [(Span.mk (Trace.mk 0 0) (IntKind.u64.wrap (IntKind.i64.wrap (v9_2 + 2))) 1 (strOf [97]) (strOf [98]) (IntKind.i64.wrap (2 + (bits .and .i64 x28 3))) (bits .and .i64 x30 2047) false [])]) ty22 ty28 rfl rfl rfl rfl rfl rfl rfl rfl) (by decide) ?_
    obtain ⟨g31, h⟩ := gd_some h
    refine aoD (some 65) rfl rfl (do_append (v := List.map enc27 (v8_s_2 ++ [(Span.mk (Trace.mk 0 0) (IntKind.u64.wrap (IntKind.i64.wrap (v9_2 + 2))) 1 (strOf [97]) (strOf [98]) (IntKind.i64.wrap (2 + (bits .and .i64 x28 3))) (bits .and .i64 x30 2047) false [])])) (by conv => lhs; whnf) (by conv => lhs; whnf) ty22 ty28 rfl rfl (by conv => lhs; whnf) (by first | exact .inl rfl | exact .inr ⟨rfl, rfl⟩) (by conv => lhs; whnf) (by first | exact .inr rfl | exact .inl rfl) (map_app _ _) (fit_map g31)) (by decide) ?_
    refine aoP (some 8) rfl rfl (does_assign (v := .own 65 0) (by exact rfl)) (by decide) ?_
    refine ao_nil_d (by kernel_rfl) ?_
    refine hK26 _ ?_
    refine aw_regL ?_
    refine alP (some 46) rfl rfl (does_move (v := .int .i64 v9_2) (by exact rfl)) (by decide) ?_
    refine alP (some 47) rfl rfl (does_bin (v := .int .i64 (IntKind.i64.wrap (v9_2 + 1))) (by conv => lhs; whnf) (by conv => lhs; whnf) rfl) (by decide) ?_
    refine alP (some 9) rfl rfl (does_assign (v := .int .i64 (IntKind.i64.wrap (v9_2 + 1))) (by exact rfl)) (by decide) ?_
    refine al_nil ?_
    have h := leafL h hq22
    exact ⟨m2, Nat.lt_succ_self _, _, reb_lit [(0, .sl 1 (List.map enc2 a0)), (1, .sl 1 (List.map enc2 a1)), (2, .int .i64 a2), (8, .own 41 0), (9, .int .i64 (IntKind.i64.wrap (v9_2 + 1)))] [(65, 0)] [((41, 0), .arr 28 10 false (List.map enc27 (v8_s_2 ++ [(Span.mk (Trace.mk 0 0) (IntKind.u64.wrap (IntKind.i64.wrap (v9_2 + 2))) 1 (strOf [97]) (strOf [98]) (IntKind.i64.wrap (2 + (bits .and .i64 x28 3))) (bits .and .i64 x30 2047) false [])])))] [(41, 1)] (envOk_cons (by conv => lhs; whnf) (by exact rfl) (envOk_cons (by conv => lhs; whnf) (by exact rfl) (envOk_cons (by conv => lhs; whnf) (by exact rfl) (envOk_cons (by conv => lhs; whnf) (by exact rfl) (envOk_cons (by conv => lhs; whnf) (by exact rfl) envOk_nil))))) (objOk_cons (by conv => lhs; whnf) (by conv => lhs; whnf) (by exact rfl) (by simp) objOk_nil) (nodup_b rfl) (nodup_b rfl) rfl rfl, (v8_s_2 ++ [(Span.mk (Trace.mk 0 0) (IntKind.u64.wrap (IntKind.i64.wrap (v9_2 + 2))) 1 (strOf [97]) (strOf [98]) (IntKind.i64.wrap (2 + (bits .and .i64 x28 3))) (bits .and .i64 x30 2047) false [])]), (IntKind.i64.wrap (v9_2 + 1)), h, rfl⟩
   ·have h := ifF c25 h
    refine aw_cond_f (by decide) rfl ?_
    refine aw_exit ?_
    have h := leafR h hq22
    obtain rfl := Option.some.inj h
    have h := hk19
    exact ⟨_, reb_lit [(2, .int .i64 a2), (8, .own 41 0)] [(41, 0)] [((41, 0), .arr 28 10 false (List.map enc27 v8_s_2))] [(41, 1)] (envOk_cons (by conv => lhs; whnf) (by exact rfl) (envOk_cons (by conv => lhs; whnf) (by exact rfl) envOk_nil)) (objOk_cons (by conv => lhs; whnf) (by conv => lhs; whnf) (by exact rfl) (by simp) objOk_nil) (nodup_b rfl) (nodup_b rfl) rfl rfl, v8_s_2, h, rfl⟩
  ·rintro s ⟨v8_s_1, h, rfl⟩
   unfold gleaninglaw30_PathSelf_k1 at h
   refine aw_seq_k (fun K32 hK32 => ?_)
   refine aw_regL ?_
   refine alP (some 10) rfl rfl (does_assign (v := .int .i64 0) (by exact rfl)) (by decide) ?_
   refine al_nil ?_
   refine hK32 _ ?_
   obtain ⟨q33, h, hk34⟩ := bnd_some h
   refine aw_cut (fun s => ∃ (v10_3 : Int), gleaninglaw30_PathSelf_k3 a2 v8_s_1 v10_3 = some r ∧ s = lit [(2, .int .i64 a2), (8, .own 41 0), (10, .int .i64 v10_3)] [((41, 0), .arr 28 10 false (List.map enc27 v8_s_1))] [(41, 1)] X) ?_ ?_
   ·skip
    refine aw_seq_k (fun K35 hK35 => ?_)
    refine aw_regL ?_
    refine alP (some 11) rfl rfl (does_assign (v := .int .i64 3000) (by exact rfl)) (by decide) ?_
    refine al_nil ?_
    refine hK35 _ ?_
    refine aw_block ?_
    refine aw_loop' (fun m s => ∃ (v10_4 : Int), ∃ (v11_4 : Int), loopN (fun (s : Int × Int) => gleaninglaw30_PathSelf_l4 a2 v8_s_1 s.1 s.2) m (v10_4, v11_4) = some q33 ∧ s = lit [(2, .int .i64 a2), (8, .own 41 0), (10, .int .i64 v10_4), (11, .int .i64 v11_4)] [((41, 0), .arr 28 10 false (List.map enc27 v8_s_1))] [(41, 1)] X) Fu
     ⟨_, reb_lit [(2, .int .i64 a2), (8, .own 41 0), (10, .int .i64 (0)), (11, .int .i64 (3000))] [(41, 0)] [((41, 0), .arr 28 10 false (List.map enc27 v8_s_1))] [(41, 1)] (envOk_cons (by conv => lhs; whnf) (by exact rfl) (envOk_cons (by conv => lhs; whnf) (by exact rfl) (envOk_cons (by conv => lhs; whnf) (by exact rfl) (envOk_cons (by conv => lhs; whnf) (by exact rfl) envOk_nil)))) (objOk_cons (by conv => lhs; whnf) (by conv => lhs; whnf) (by exact rfl) (by simp) objOk_nil) (nodup_b rfl) (nodup_b rfl) rfl rfl, 0, 3000, h, rfl⟩ ?_
    rintro m s ⟨v10_4, v11_4, h, rfl⟩
    obtain ⟨m4, q36, rfl, h, hq37⟩ := loop_some h
    replace h : gleaninglaw30_PathSelf_l4 a2 v8_s_1 v10_4 v11_4 = some q36 := h
    unfold gleaninglaw30_PathSelf_l4 at h
    refine aw_seq_k (fun K38 hK38 => ?_)
    refine aw_seq_k (fun K39 hK39 => ?_)
    refine aw_regL ?_
    refine alP (some 66) rfl rfl (does_move (v := .int .i64 v11_4) (by exact rfl)) (by decide) ?_
    refine alP (some 67) rfl rfl (does_move (v := .int .i64 a2) (by exact rfl)) (by decide) ?_
    refine alP (some 68) rfl rfl (does_bin (v := .int .i64 (IntKind.i64.wrap (3000 + a2))) (by conv => lhs; whnf) (by conv => lhs; whnf) rfl) (by decide) ?_
    refine alP (some 69) rfl rfl (does_bin (v := .bool (decide (v11_4 < (IntKind.i64.wrap (3000 + a2))))) (by conv => lhs; whnf) (by conv => lhs; whnf) rfl) (by decide) ?_
    refine al_nil ?_
    refine hK39 _ ?_
    refine aw_bool (b := (decide (v11_4 < (IntKind.i64.wrap (3000 + a2))))) 69 rfl (fun c40 => ?_) (fun c40 => ?_)
    ·have h := ifT c40 h
     refine aw_cond_t (by decide) rfl ?_
     refine aw_skip ?_
     refine hK38 _ ?_
     refine aw_seq_k (fun K41 hK41 => ?_)
     refine aw_block ?_
     refine aw_seq_k (fun K42 hK42 => ?_)
     refine aw_regL ?_
     refine alP (some 12) rfl rfl (does_assign (v := .bool true) (by exact rfl)) (by decide) ?_
     refine al_nil ?_
     refine hK42 _ ?_
     obtain ⟨q43, h, hk44⟩ := bnd_some h
     refine aw_cut (fun s => ∃ (v12_5 : Bool), gleaninglaw30_PathSelf_k5 v10_4 v11_4 v12_5 = some q36 ∧ s = lit [(2, .int .i64 a2), (8, .own 41 0), (10, .int .i64 v10_4), (11, .int .i64 v11_4), (12, .bool v12_5)] [((41, 0), .arr 28 10 false (List.map enc27 v8_s_1))] [(41, 1)] X) ?_ ?_
     ·skip
      refine aw_seq_k (fun K45 hK45 => ?_)
      refine aw_regL ?_
      refine alP (some 13) rfl rfl (does_assign (v := .int .i64 1) (by exact rfl)) (by decide) ?_
      refine al_nil ?_
      refine hK45 _ ?_
      refine aw_block ?_
      refine aw_loop' (fun m s => ∃ (v12_6 : Bool), ∃ (v13_6 : Int), loopN (fun (s : Bool × Int) => gleaninglaw30_PathSelf_l6 v8_s_1 v11_4 s.1 s.2) m (v12_6, v13_6) = some q43 ∧ s = lit [(2, .int .i64 a2), (8, .own 41 0), (10, .int .i64 v10_4), (11, .int .i64 v11_4), (12, .bool v12_6), (13, .int .i64 v13_6)] [((41, 0), .arr 28 10 false (List.map enc27 v8_s_1))] [(41, 1)] X) Fu
       ⟨_, reb_lit [(2, .int .i64 a2), (8, .own 41 0), (10, .int .i64 v10_4), (11, .int .i64 v11_4), (12, .bool true), (13, .int .i64 (1))] [(41, 0)] [((41, 0), .arr 28 10 false (List.map enc27 v8_s_1))] [(41, 1)] (envOk_cons (by conv => lhs; whnf) (by exact rfl) (envOk_cons (by conv => lhs; whnf) (by exact rfl) (envOk_cons (by conv => lhs; whnf) (by exact rfl) (envOk_cons (by conv => lhs; whnf) (by exact rfl) (envOk_cons (by conv => lhs; whnf) (by exact rfl) (envOk_cons (by conv => lhs; whnf) (by exact rfl) envOk_nil)))))) (objOk_cons (by conv => lhs; whnf) (by conv => lhs; whnf) (by exact rfl) (by simp) objOk_nil) (nodup_b rfl) (nodup_b rfl) rfl rfl, true, 1, h, rfl⟩ ?_
      rintro m s ⟨v12_6, v13_6, h, rfl⟩
      obtain ⟨m6, q46, rfl, h, hq47⟩ := loop_some h
      replace h : gleaninglaw30_PathSelf_l6 v8_s_1 v11_4 v12_6 v13_6 = some q46 := h
      unfold gleaninglaw30_PathSelf_l6 at h
      refine aw_seq_k (fun K48 hK48 => ?_)
      refine aw_seq_k (fun K49 hK49 => ?_)
      refine aw_regL ?_
      refine alP (some 72) rfl rfl (does_move (v := .int .i64 v13_6) (by exact rfl)) (by decide) ?_
      refine alP (some 73) rfl rfl (does_move (v := .own 41 0) (by exact rfl)) (by decide) ?_
      refine alR (some 74) rfl rfl ((does_len_own (by conv => lhs; whnf) (by conv => lhs; whnf) ty22).cast (v' := .int .i64 (List.length v8_s_1 : Int)) (by exact len_map _)) (by decide) ?_
      refine alP (some 75) rfl rfl (does_bin (v := .bool (decide (v13_6 < (List.length v8_s_1 : Int)))) (by conv => lhs; whnf) (by conv => lhs; whnf) rfl) (by decide) ?_
      refine al_nil ?_
      refine hK49 _ ?_
      refine aw_bool (b := (decide (v13_6 < (List.length v8_s_1 : Int)))) 75 rfl (fun c50 => ?_) (fun c50 => ?_)
      ·have h := ifT c50 h
       refine aw_cond_t (by decide) rfl ?_
       refine aw_skip ?_
       refine hK48 _ ?_
       refine aw_seq_k (fun K51 hK51 => ?_)
       refine aw_block ?_
       refine aw_regd (by kernel_rfl) (by decide +kernel) ?_
       refine aoP (some 78) rfl rfl (does_move (v := .bool v12_6) (by exact rfl)) (by decide) ?_
       refine aoP (some 79) rfl rfl (does_move (v := .bool v12_6) (by exact rfl)) (by decide) ?_
       refine ao_bool (c := v12_6) 79 rfl (fun c52 => ?_) (fun c52 => ?_)
       ·have h := ifT c52 h
        refine aoP (some 80) rfl rfl (does_move (v := .int .i64 v11_4) (by exact rfl)) (by decide) ?_
        refine aoP (some 81) rfl rfl (does_move (v := .own 41 0) (by exact rfl)) (by decide) ?_
        refine aoP (some 82) rfl rfl (does_move (v := .int .i64 v13_6) (by exact rfl)) (by decide) ?_
        obtain ⟨g53, h⟩ := gd_some h
        obtain ⟨x54, hx54, h⟩ := bnd_some h
        refine aoR (some 83) rfl rfl (does_indexAddr_own (by conv => lhs; whnf) (by conv => lhs; whnf) (by conv => lhs; whnf) ty22 ty28 g53 (by exact own_lt hx54)) (by decide) ?_
        refine aoP (some 84) rfl rfl (does_fieldAddr (q := .eptr 41 0 10 (Int.toNat v13_6) 6) (by conv => lhs; whnf) ty28 rfl ty3 (by decide) (by exact rfl)) (by decide) ?_
        refine aoR (some 85) rfl rfl (does_load (v := .int .i64 x54.Start) (by conv => lhs; whnf) (cellsAt_eptr (by conv => lhs; whnf) (by exact map_get hx54)) ty3 (by exact rfl)) (by decide) ?_
        refine aoP (some 86) rfl rfl (does_bin (v := .int .i64 (IntKind.i64.wrap (x54.Start * 1000))) (by conv => lhs; whnf) (by conv => lhs; whnf) rfl) (by decide) ?_
        refine aoP (some 87) rfl rfl (does_bin (v := .bool (decide (v11_4 < (IntKind.i64.wrap (x54.Start * 1000))))) (by conv => lhs; whnf) (by conv => lhs; whnf) rfl) (by decide) ?_
        refine aoP (some 88) rfl rfl (does_move (v := .bool (decide (v11_4 < (IntKind.i64.wrap (x54.Start * 1000))))) (by exact rfl)) (by decide) ?_
        refine ao_bool (c := (decide (v11_4 < (IntKind.i64.wrap (x54.Start * 1000))))) 88 rfl (fun c55 => ?_) (fun c55 => ?_)
        ·have h := ifT c55 h
         refine aoS (some 89) rfl rfl (by decide) ?_
         refine aoS (some 90) rfl rfl (by decide) ?_
         refine aoS (some 91) rfl rfl (by decide) ?_
         refine aoS (some 92) rfl rfl (by decide) ?_
         refine aoS (some 93) rfl rfl (by decide) ?_
         refine aoS (some 94) rfl rfl (by decide) ?_
         refine aoS (some 95) rfl rfl (by decide) ?_
         refine aoS (some 96) rfl rfl (by decide) ?_
         refine aoS (some 97) rfl rfl (by decide) ?_
         refine aoS (some 98) rfl rfl (by decide) ?_
         refine aoS (some 99) rfl rfl (by decide) ?_
         refine aoS (some 100) rfl rfl (by decide) ?_
         refine aoS (some 101) rfl rfl (by decide) ?_
         refine aoS (some 102) rfl rfl (by decide) ?_
         refine aoP (some 103) rfl rfl (does_pick (v := .bool true) (by conv => lhs; whnf) (by exact rfl)) (by decide) ?_
         refine aoP (some 104) rfl rfl (does_pick (v := .bool true) (by conv => lhs; whnf) (by exact rfl)) (by decide) ?_
         refine aoP (some 12) rfl rfl (does_assign (v := .bool true) (by exact rfl)) (by decide) ?_
         refine ao_nil_d (by kernel_rfl) ?_
         refine hK51 _ ?_
         refine aw_regL ?_
         refine alP (some 76) rfl rfl (does_move (v := .int .i64 v13_6) (by exact rfl)) (by decide) ?_
         refine alP (some 77) rfl rfl (does_bin (v := .int .i64 (IntKind.i64.wrap (v13_6 + 1))) (by conv => lhs; whnf) (by conv => lhs; whnf) rfl) (by decide) ?_
         refine alP (some 13) rfl rfl (does_assign (v := .int .i64 (IntKind.i64.wrap (v13_6 + 1))) (by exact rfl)) (by decide) ?_
         refine al_nil ?_
         have h := leafL h hq47
         exact ⟨m6, Nat.lt_succ_self _, _, reb_lit [(2, .int .i64 a2), (8, .own 41 0), (10, .int .i64 v10_4), (11, .int .i64 v11_4), (12, .bool true), (13, .int .i64 (IntKind.i64.wrap (v13_6 + 1)))] [(41, 0)] [((41, 0), .arr 28 10 false (List.map enc27 v8_s_1))] [(41, 1)] (envOk_cons (by conv => lhs; whnf) (by exact rfl) (envOk_cons (by conv => lhs; whnf) (by exact rfl) (envOk_cons (by conv => lhs; whnf) (by exact rfl) (envOk_cons (by conv => lhs; whnf) (by exact rfl) (envOk_cons (by conv => lhs; whnf) (by exact rfl) (envOk_cons (by conv => lhs; whnf) (by exact rfl) envOk_nil)))))) (objOk_cons (by conv => lhs; whnf) (by conv => lhs; whnf) (by exact rfl) (by simp) objOk_nil) (nodup_b rfl) (nodup_b rfl) rfl rfl, true, (IntKind.i64.wrap (v13_6 + 1)), h, rfl⟩
        ·have h := ifF c55 h
         refine aoP (some 89) rfl rfl (does_move (v := .int .i64 v11_4) (by exact rfl)) (by decide) ?_
         refine aoP (some 90) rfl rfl (does_move (v := .own 41 0) (by exact rfl)) (by decide) ?_
         refine aoP (some 91) rfl rfl (does_move (v := .int .i64 v13_6) (by exact rfl)) (by decide) ?_
         obtain ⟨g56, h⟩ := gd_some h
         obtain ⟨x57, hx57, h⟩ := bnd_some h
         refine aoR (some 92) rfl rfl (does_indexAddr_own (by conv => lhs; whnf) (by conv => lhs; whnf) (by conv => lhs; whnf) ty22 ty28 g56 (by exact own_lt hx57)) (by decide) ?_
         refine aoP (some 93) rfl rfl (does_fieldAddr (q := .eptr 41 0 10 (Int.toNat v13_6) 6) (by conv => lhs; whnf) ty28 rfl ty3 (by decide) (by exact rfl)) (by decide) ?_
         refine aoR (some 94) rfl rfl (does_load (v := .int .i64 x57.Start) (by conv => lhs; whnf) (cellsAt_eptr (by conv => lhs; whnf) (by exact map_get hx57)) ty3 (by exact rfl)) (by decide) ?_
         refine aoP (some 95) rfl rfl (does_bin (v := .int .i64 (IntKind.i64.wrap (x57.Start * 1000))) (by conv => lhs; whnf) (by conv => lhs; whnf) rfl) (by decide) ?_
         refine aoP (some 96) rfl rfl (does_move (v := .own 41 0) (by exact rfl)) (by decide) ?_
         refine aoP (some 97) rfl rfl (does_move (v := .int .i64 v13_6) (by exact rfl)) (by decide) ?_
         obtain ⟨g58, h⟩ := gd_some h
         obtain ⟨x59, hx59, h⟩ := bnd_some h
         refine aoR (some 98) rfl rfl (does_indexAddr_own (by conv => lhs; whnf) (by conv => lhs; whnf) (by conv => lhs; whnf) ty22 ty28 g58 (by exact own_lt hx59)) (by decide) ?_
         refine aoP (some 99) rfl rfl (does_fieldAddr (q := .eptr 41 0 10 (Int.toNat v13_6) 7) (by conv => lhs; whnf) ty28 rfl ty3 (by decide) (by exact rfl)) (by decide) ?_
         refine aoR (some 100) rfl rfl (does_load (v := .int .i64 x59.Dur) (by conv => lhs; whnf) (cellsAt_eptr (by conv => lhs; whnf) (by exact map_get hx59)) ty3 (by exact rfl)) (by decide) ?_
         refine aoP (some 101) rfl rfl (does_bin (v := .int .i64 (IntKind.i64.wrap ((IntKind.i64.wrap (x57.Start * 1000)) + x59.Dur))) (by conv => lhs; whnf) (by conv => lhs; whnf) rfl) (by decide) ?_
         refine aoP (some 102) rfl rfl (does_bin (v := .bool (decide ((IntKind.i64.wrap ((IntKind.i64.wrap (x57.Start * 1000)) + x59.Dur)) ≤ v11_4))) (by conv => lhs; whnf) (by conv => lhs; whnf) rfl) (by decide) ?_
         refine aoP (some 103) rfl rfl (does_pick (v := .bool (decide ((IntKind.i64.wrap ((IntKind.i64.wrap (x57.Start * 1000)) + x59.Dur)) ≤ v11_4))) (by conv => lhs; whnf) (by exact rfl)) (by decide) ?_
         refine aoP (some 104) rfl rfl (does_pick (v := .bool (decide ((IntKind.i64.wrap ((IntKind.i64.wrap (x57.Start * 1000)) + x59.Dur)) ≤ v11_4))) (by conv => lhs; whnf) (by exact rfl)) (by decide) ?_
         refine aoP (some 12) rfl rfl (does_assign (v := .bool (decide ((IntKind.i64.wrap ((IntKind.i64.wrap (x57.Start * 1000)) + x59.Dur)) ≤ v11_4))) (by exact rfl)) (by decide) ?_
         refine ao_nil_d (by kernel_rfl) ?_
         refine hK51 _ ?_
         refine aw_regL ?_
         refine alP (some 76) rfl rfl (does_move (v := .int .i64 v13_6) (by exact rfl)) (by decide) ?_
         refine alP (some 77) rfl rfl (does_bin (v := .int .i64 (IntKind.i64.wrap (v13_6 + 1))) (by conv => lhs; whnf) (by conv => lhs; whnf) rfl) (by decide) ?_
         refine alP (some 13) rfl rfl (does_assign (v := .int .i64 (IntKind.i64.wrap (v13_6 + 1))) (by exact rfl)) (by decide) ?_
         refine al_nil ?_
         have h := leafL h hq47
         exact ⟨m6, Nat.lt_succ_self _, _, reb_lit [(2, .int .i64 a2), (8, .own 41 0), (10, .int .i64 v10_4), (11, .int .i64 v11_4), (12, .bool (decide ((IntKind.i64.wrap ((IntKind.i64.wrap (x57.Start * 1000)) + x59.Dur)) ≤ v11_4))), (13, .int .i64 (IntKind.i64.wrap (v13_6 + 1)))] [(41, 0)] [((41, 0), .arr 28 10 false (List.map enc27 v8_s_1))] [(41, 1)] (envOk_cons (by conv => lhs; whnf) (by exact rfl) (envOk_cons (by conv => lhs; whnf) (by exact rfl) (envOk_cons (by conv => lhs; whnf) (by exact rfl) (envOk_cons (by conv => lhs; whnf) (by exact rfl) (envOk_cons (by conv => lhs; whnf) (by exact rfl) (envOk_cons (by conv => lhs; whnf) (by exact rfl) envOk_nil)))))) (objOk_cons (by conv => lhs; whnf) (by conv => lhs; whnf) (by exact rfl) (by simp) objOk_nil) (nodup_b rfl) (nodup_b rfl) rfl rfl, (decide ((IntKind.i64.wrap ((IntKind.i64.wrap (x57.Start * 1000)) + x59.Dur)) ≤ v11_4)), (IntKind.i64.wrap (v13_6 + 1)), h, rfl⟩
       ·have h := ifF c52 h
        refine aoS (some 80) rfl rfl (by decide) ?_
        refine aoS (some 81) rfl rfl (by decide) ?_
        refine aoS (some 82) rfl rfl (by decide) ?_
        refine aoS (some 83) rfl rfl (by decide) ?_
        refine aoS (some 84) rfl rfl (by decide) ?_
        refine aoS (some 85) rfl rfl (by decide) ?_
        refine aoS (some 86) rfl rfl (by decide) ?_
        refine aoS (some 87) rfl rfl (by decide) ?_
        refine aoS (some 88) rfl rfl (by decide) ?_
        refine aoS (some 89) rfl rfl (by decide) ?_
        refine aoS (some 90) rfl rfl (by decide) ?_
        refine aoS (some 91) rfl rfl (by decide) ?_
        refine aoS (some 92) rfl rfl (by decide) ?_
        refine aoS (some 93) rfl rfl (by decide) ?_
        refine aoS (some 94) rfl rfl (by decide) ?_
        refine aoS (some 95) rfl rfl (by decide) ?_
        refine aoS (some 96) rfl rfl (by decide) ?_
        refine aoS (some 97) rfl rfl (by decide) ?_
        refine aoS (some 98) rfl rfl (by decide) ?_
        refine aoS (some 99) rfl rfl (by decide) ?_
        refine aoS (some 100) rfl rfl (by decide) ?_
        refine aoS (some 101) rfl rfl (by decide) ?_
        refine aoS (some 102) rfl rfl (by decide) ?_
        refine aoS (some 103) rfl rfl (by decide) ?_
        refine aoP (some 104) rfl rfl (does_pick (v := .bool false) (by conv => lhs; whnf) (by exact rfl)) (by decide) ?_
        refine aoP (some 12) rfl rfl (does_assign (v := .bool false) (by exact rfl)) (by decide) ?_
        refine ao_nil_d (by kernel_rfl) ?_
        refine hK51 _ ?_
        refine aw_regL ?_
        refine alP (some 76) rfl rfl (does_move (v := .int .i64 v13_6) (by exact rfl)) (by decide) ?_
        refine alP (some 77) rfl rfl (does_bin (v := .int .i64 (IntKind.i64.wrap (v13_6 + 1))) (by conv => lhs; whnf) (by conv => lhs; whnf) rfl) (by decide) ?_
        refine alP (some 13) rfl rfl (does_assign (v := .int .i64 (IntKind.i64.wrap (v13_6 + 1))) (by exact rfl)) (by decide) ?_
        refine al_nil ?_
        have h := leafL h hq47
        exact ⟨m6, Nat.lt_succ_self _, _, reb_lit [(2, .int .i64 a2), (8, .own 41 0), (10, .int .i64 v10_4), (11, .int .i64 v11_4), (12, .bool false), (13, .int .i64 (IntKind.i64.wrap (v13_6 + 1)))] [(41, 0)] [((41, 0), .arr 28 10 false (List.map enc27 v8_s_1))] [(41, 1)] (envOk_cons (by conv => lhs; whnf) (by exact rfl) (envOk_cons (by conv => lhs; whnf) (by exact rfl) (envOk_cons (by conv => lhs; whnf) (by exact rfl) (envOk_cons (by conv => lhs; whnf) (by exact rfl) (envOk_cons (by conv => lhs; whnf) (by exact rfl) (envOk_cons (by conv => lhs; whnf) (by exact rfl) envOk_nil)))))) (objOk_cons (by conv => lhs; whnf) (by conv => lhs; whnf) (by exact rfl) (by simp) objOk_nil) (nodup_b rfl) (nodup_b rfl) rfl rfl, false, (IntKind.i64.wrap (v13_6 + 1)), h, rfl⟩
      ·have h := ifF c50 h
       refine aw_cond_f (by decide) rfl ?_
       refine aw_exit ?_
       have h := leafR h hq47
       obtain rfl := Option.some.inj h
       have h := hk44
       exact ⟨_, reb_lit [(2, .int .i64 a2), (8, .own 41 0), (10, .int .i64 v10_4), (11, .int .i64 v11_4), (12, .bool v12_6)] [(41, 0)] [((41, 0), .arr 28 10 false (List.map enc27 v8_s_1))] [(41, 1)] (envOk_cons (by conv => lhs; whnf) (by exact rfl) (envOk_cons (by conv => lhs; whnf) (by exact rfl) (envOk_cons (by conv => lhs; whnf) (by exact rfl) (envOk_cons (by conv => lhs; whnf) (by exact rfl) (envOk_cons (by conv => lhs; whnf) (by exact rfl) envOk_nil))))) (objOk_cons (by conv => lhs; whnf) (by conv => lhs; whnf) (by exact rfl) (by simp) objOk_nil) (nodup_b rfl) (nodup_b rfl) rfl rfl, v12_6, h, rfl⟩
     ·rintro s ⟨v12_5, h, rfl⟩
      unfold gleaninglaw30_PathSelf_k5 at h
      refine aw_seq_k (fun K60 hK60 => ?_)
      refine aw_regL ?_
      refine alP (some 105) rfl rfl (does_move (v := .bool v12_5) (by exact rfl)) (by decide) ?_
      refine al_nil ?_
      refine hK60 _ ?_
      refine aw_bool (b := v12_5) 105 rfl (fun c61 => ?_) (fun c61 => ?_)
      ·have h := ifT c61 h
       refine aw_cond_t (by decide) rfl ?_
       refine aw_regL ?_
       refine alP (some 106) rfl rfl (does_move (v := .int .i64 v10_4) (by exact rfl)) (by decide) ?_
       refine alP (some 107) rfl rfl (does_bin (v := .int .i64 (IntKind.i64.wrap (v10_4 + 1))) (by conv => lhs; whnf) (by conv => lhs; whnf) rfl) (by decide) ?_
       refine alP (some 10) rfl rfl (does_assign (v := .int .i64 (IntKind.i64.wrap (v10_4 + 1))) (by exact rfl)) (by decide) ?_
       refine al_nil ?_
       refine hK41 _ ?_
       refine aw_regL ?_
       refine alP (some 70) rfl rfl (does_move (v := .int .i64 v11_4) (by exact rfl)) (by decide) ?_
       refine alP (some 71) rfl rfl (does_bin (v := .int .i64 (IntKind.i64.wrap (v11_4 + 1))) (by conv => lhs; whnf) (by conv => lhs; whnf) rfl) (by decide) ?_
       refine alP (some 11) rfl rfl (does_assign (v := .int .i64 (IntKind.i64.wrap (v11_4 + 1))) (by exact rfl)) (by decide) ?_
       refine al_nil ?_
       have h := leafL h hq37
       exact ⟨m4, Nat.lt_succ_self _, _, reb_lit [(2, .int .i64 a2), (8, .own 41 0), (10, .int .i64 (IntKind.i64.wrap (v10_4 + 1))), (11, .int .i64 (IntKind.i64.wrap (v11_4 + 1)))] [(41, 0)] [((41, 0), .arr 28 10 false (List.map enc27 v8_s_1))] [(41, 1)] (envOk_cons (by conv => lhs; whnf) (by exact rfl) (envOk_cons (by conv => lhs; whnf) (by exact rfl) (envOk_cons (by conv => lhs; whnf) (by exact rfl) (envOk_cons (by conv => lhs; whnf) (by exact rfl) envOk_nil)))) (objOk_cons (by conv => lhs; whnf) (by conv => lhs; whnf) (by exact rfl) (by simp) objOk_nil) (nodup_b rfl) (nodup_b rfl) rfl rfl, (IntKind.i64.wrap (v10_4 + 1)), (IntKind.i64.wrap (v11_4 + 1)), h, rfl⟩
      ·have h := ifF c61 h
       refine aw_cond_f (by decide) rfl ?_
       refine aw_skip ?_
       refine hK41 _ ?_
       refine aw_regL ?_
       refine alP (some 70) rfl rfl (does_move (v := .int .i64 v11_4) (by exact rfl)) (by decide) ?_
       refine alP (some 71) rfl rfl (does_bin (v := .int .i64 (IntKind.i64.wrap (v11_4 + 1))) (by conv => lhs; whnf) (by conv => lhs; whnf) rfl) (by decide) ?_
       refine alP (some 11) rfl rfl (does_assign (v := .int .i64 (IntKind.i64.wrap (v11_4 + 1))) (by exact rfl)) (by decide) ?_
       refine al_nil ?_
       have h := leafL h hq37
       exact ⟨m4, Nat.lt_succ_self _, _, reb_lit [(2, .int .i64 a2), (8, .own 41 0), (10, .int .i64 v10_4), (11, .int .i64 (IntKind.i64.wrap (v11_4 + 1)))] [(41, 0)] [((41, 0), .arr 28 10 false (List.map enc27 v8_s_1))] [(41, 1)] (envOk_cons (by conv => lhs; whnf) (by exact rfl) (envOk_cons (by conv => lhs; whnf) (by exact rfl) (envOk_cons (by conv => lhs; whnf) (by exact rfl) (envOk_cons (by conv => lhs; whnf) (by exact rfl) envOk_nil)))) (objOk_cons (by conv => lhs; whnf) (by conv => lhs; whnf) (by exact rfl) (by simp) objOk_nil) (nodup_b rfl) (nodup_b rfl) rfl rfl, v10_4, (IntKind.i64.wrap (v11_4 + 1)), h, rfl⟩
    ·have h := ifF c40 h
     refine aw_cond_f (by decide) rfl ?_
     refine aw_exit ?_
     have h := leafR h hq37
     obtain rfl := Option.some.inj h
     have h := hk34
     exact ⟨_, reb_lit [(2, .int .i64 a2), (8, .own 41 0), (10, .int .i64 v10_4)] [(41, 0)] [((41, 0), .arr 28 10 false (List.map enc27 v8_s_1))] [(41, 1)] (envOk_cons (by conv => lhs; whnf) (by exact rfl) (envOk_cons (by conv => lhs; whnf) (by exact rfl) (envOk_cons (by conv => lhs; whnf) (by exact rfl) envOk_nil))) (objOk_cons (by conv => lhs; whnf) (by conv => lhs; whnf) (by exact rfl) (by simp) objOk_nil) (nodup_b rfl) (nodup_b rfl) rfl rfl, v10_4, h, rfl⟩
   ·rintro s ⟨v10_3, h, rfl⟩
    unfold gleaninglaw30_PathSelf_k3 at h
    obtain ⟨q62, h, hk63⟩ := bnd_some h
    refine aw_cut (fun s => gleaninglaw30_PathSelf_k7 a2 v8_s_1 v10_3 = some r ∧ s = lit [(2, .int .i64 a2), (8, .own 41 0), (10, .int .i64 v10_3)] [((41, 0), .arr 28 10 false (List.map enc27 v8_s_1))] [(41, 1)] X) ?_ ?_
    ·skip
     refine aw_seq_k (fun K64 hK64 => ?_)
     refine aw_regL ?_
     refine alP (some 14) rfl rfl (does_assign (v := .int .i64 1) (by exact rfl)) (by decide) ?_
     refine al_nil ?_
     refine hK64 _ ?_
     refine aw_block ?_
     refine aw_loop' (fun m s => ∃ (v14_8 : Int), loopN (fun (s : Int) => gleaninglaw30_PathSelf_l8 v8_s_1 s) m v14_8 = some q62 ∧ s = lit [(2, .int .i64 a2), (8, .own 41 0), (10, .int .i64 v10_3), (14, .int .i64 v14_8)] [((41, 0), .arr 28 10 false (List.map enc27 v8_s_1))] [(41, 1)] X) Fu
      ⟨_, reb_lit [(2, .int .i64 a2), (8, .own 41 0), (10, .int .i64 v10_3), (14, .int .i64 (1))] [(41, 0)] [((41, 0), .arr 28 10 false (List.map enc27 v8_s_1))] [(41, 1)] (envOk_cons (by conv => lhs; whnf) (by exact rfl) (envOk_cons (by conv => lhs; whnf) (by exact rfl) (envOk_cons (by conv => lhs; whnf) (by exact rfl) (envOk_cons (by conv => lhs; whnf) (by exact rfl) envOk_nil)))) (objOk_cons (by conv => lhs; whnf) (by conv => lhs; whnf) (by exact rfl) (by simp) objOk_nil) (nodup_b rfl) (nodup_b rfl) rfl rfl, 1, h, rfl⟩ ?_
     rintro m s ⟨v14_8, h, rfl⟩
     obtain ⟨m8, q65, rfl, h, hq66⟩ := loop_some h
     replace h : gleaninglaw30_PathSelf_l8 v8_s_1 v14_8 = some q65 := h
     unfold gleaninglaw30_PathSelf_l8 at h
     refine aw_seq_k (fun K67 hK67 => ?_)
     refine aw_seq_k (fun K68 hK68 => ?_)
     refine aw_regL ?_
     refine alP (some 108) rfl rfl (does_move (v := .int .i64 v14_8) (by exact rfl)) (by decide) ?_
     refine alP (some 109) rfl rfl (does_move (v := .own 41 0) (by exact rfl)) (by decide) ?_
     refine alR (some 110) rfl rfl ((does_len_own (by conv => lhs; whnf) (by conv => lhs; whnf) ty22).cast (v' := .int .i64 (List.length v8_s_1 : Int)) (by exact len_map _)) (by decide) ?_
     refine alP (some 111) rfl rfl (does_bin (v := .bool (decide (v14_8 < (List.length v8_s_1 : Int)))) (by conv => lhs; whnf) (by conv => lhs; whnf) rfl) (by decide) ?_
     refine al_nil ?_
     refine hK68 _ ?_
     refine aw_bool (b := (decide (v14_8 < (List.length v8_s_1 : Int)))) 111 rfl (fun c69 => ?_) (fun c69 => ?_)
     ·have h := ifT c69 h
      refine aw_cond_t (by decide) rfl ?_
      refine aw_skip ?_
      refine hK67 _ ?_
      refine aw_seq_k (fun K70 hK70 => ?_)
      refine aw_block ?_
      refine aw_seq_k (fun K71 hK71 => ?_)
      refine aw_regd (by kernel_rfl) (by decide +kernel) ?_
      refine aoP (some 114) rfl rfl (does_move (v := .own 41 0) (by exact rfl)) (by decide) ?_
      refine aoP (some 115) rfl rfl (does_move (v := .int .i64 v14_8) (by exact rfl)) (by decide) ?_
      obtain ⟨x72, hx72, h⟩ := bnd_some h
      refine aoD (some 116) rfl rfl (do_callG (bcs := []) [] [] [(41, 0)] 116 false (path_Self_ok v8_s_1 v14_8 hx72) rfl ent13 trivial trivial rfl rfl rfl rfl rfl rfl rfl rfl (.inr ⟨rfl, rfl, trivial⟩)) (by decide) ?_
      refine aoP (some 117) rfl rfl (does_move (v := .own 41 0) (by exact rfl)) (by decide) ?_
      refine aoP (some 118) rfl rfl (does_move (v := .int .i64 v14_8) (by exact rfl)) (by decide) ?_
      obtain ⟨g73, h⟩ := gd_some h
      obtain ⟨x74, hx74, h⟩ := bnd_some h
      refine aoR (some 119) rfl rfl (does_indexAddr_own (by conv => lhs; whnf) (by conv => lhs; whnf) (by conv => lhs; whnf) ty22 ty28 g73 (by exact own_lt hx74)) (by decide) ?_
      refine aoP (some 120) rfl rfl (does_fieldAddr (q := .eptr 41 0 10 (Int.toNat v14_8) 7) (by conv => lhs; whnf) ty28 rfl ty3 (by decide) (by exact rfl)) (by decide) ?_
      refine aoR (some 121) rfl rfl (does_load (v := .int .i64 x74.Dur) (by conv => lhs; whnf) (cellsAt_eptr (by conv => lhs; whnf) (by exact map_get hx74)) ty3 (by exact rfl)) (by decide) ?_
      refine aoP (some 122) rfl rfl (does_bin (v := .bool (x72 != x74.Dur)) (by conv => lhs; whnf) (by conv => lhs; whnf) rfl) (by decide) ?_
      refine ao_nil_d (by kernel_rfl) ?_
      refine hK71 _ ?_
      refine aw_bool (b := (x72 != x74.Dur)) 122 rfl (fun c75 => ?_) (fun c75 => ?_)
      ·have h := ifT c75 h
       refine aw_cond_t (by decide) rfl ?_
       refine aw_seq_k (fun K76 hK76 => ?_)
       refine aw_regL ?_
       refine alP (some 6) rfl rfl (does_assign (v := .bool false) (by exact rfl)) (by decide) ?_
       refine al_nil ?_
       refine hK76 _ ?_
       refine aw_ret ?_
       have h := leafR h hq66
       have h := leafR h hk63
       obtain rfl := Option.some.inj h
       exact ret_ok1 (by conv => lhs; whnf) (by conv => lhs; whnf) (by exact rfl) (.inr rfl) rfl
      ·have h := ifF c75 h
       refine aw_cond_f (by decide) rfl ?_
       refine aw_skip ?_
       refine hK70 _ ?_
       refine aw_regL ?_
       refine alP (some 112) rfl rfl (does_move (v := .int .i64 v14_8) (by exact rfl)) (by decide) ?_
       refine alP (some 113) rfl rfl (does_bin (v := .int .i64 (IntKind.i64.wrap (v14_8 + 1))) (by conv => lhs; whnf) (by conv => lhs; whnf) rfl) (by decide) ?_
       refine alP (some 14) rfl rfl (does_assign (v := .int .i64 (IntKind.i64.wrap (v14_8 + 1))) (by exact rfl)) (by decide) ?_
       refine al_nil ?_
       have h := leafL h hq66
       exact ⟨m8, Nat.lt_succ_self _, _, reb_lit [(2, .int .i64 a2), (8, .own 41 0), (10, .int .i64 v10_3), (14, .int .i64 (IntKind.i64.wrap (v14_8 + 1)))] [(41, 0)] [((41, 0), .arr 28 10 false (List.map enc27 v8_s_1))] [(41, 1)] (envOk_cons (by conv => lhs; whnf) (by exact rfl) (envOk_cons (by conv => lhs; whnf) (by exact rfl) (envOk_cons (by conv => lhs; whnf) (by exact rfl) (envOk_cons (by conv => lhs; whnf) (by exact rfl) envOk_nil)))) (objOk_cons (by conv => lhs; whnf) (by conv => lhs; whnf) (by exact rfl) (by simp) objOk_nil) (nodup_b rfl) (nodup_b rfl) rfl rfl, (IntKind.i64.wrap (v14_8 + 1)), h, rfl⟩
     ·have h := ifF c69 h
      refine aw_cond_f (by decide) rfl ?_
      refine aw_exit ?_
      have h := leafR h hq66
      have h := leafL h hk63
      exact ⟨_, reb_lit [(2, .int .i64 a2), (8, .own 41 0), (10, .int .i64 v10_3)] [(41, 0)] [((41, 0), .arr 28 10 false (List.map enc27 v8_s_1))] [(41, 1)] (envOk_cons (by conv => lhs; whnf) (by exact rfl) (envOk_cons (by conv => lhs; whnf) (by exact rfl) (envOk_cons (by conv => lhs; whnf) (by exact rfl) envOk_nil))) (objOk_cons (by conv => lhs; whnf) (by conv => lhs; whnf) (by exact rfl) (by simp) objOk_nil) (nodup_b rfl) (nodup_b rfl) rfl rfl, h, rfl⟩
    ·rintro s ⟨h, rfl⟩
     unfold gleaninglaw30_PathSelf_k7 at h
     refine aw_seq_k (fun K77 hK77 => ?_)
     refine aw_regL ?_
     refine alP (some 123) rfl rfl (does_move (v := .own 41 0) (by exact rfl)) (by decide) ?_
     obtain ⟨x78, hx78, h⟩ := bnd_some h
     refine alD (some 124) rfl rfl (do_callG (bcs := []) [] [] [(41, 0)] 124 false (path_Self_ok v8_s_1 0 hx78) rfl ent13 trivial trivial rfl rfl rfl rfl rfl rfl rfl rfl (.inr ⟨rfl, rfl, trivial⟩)) (by decide) ?_
     refine alP (some 125) rfl rfl (does_move (v := .int .i64 v10_3) (by exact rfl)) (by decide) ?_
     refine alP (some 126) rfl rfl (does_bin (v := .bool (x78 == v10_3)) (by conv => lhs; whnf) (by conv => lhs; whnf) rfl) (by decide) ?_
     refine alP (some 127) rfl rfl (does_move (v := .bool (x78 == v10_3)) (by exact rfl)) (by decide) ?_
     refine al_bool (c := (x78 == v10_3)) 127 rfl (fun c79 => ?_) (fun c79 => ?_)
     ·have h := ifT c79 h
      refine alP (some 128) rfl rfl (does_move (v := .int .i64 v10_3) (by exact rfl)) (by decide) ?_
      refine alP (some 129) rfl rfl (does_move (v := .int .i64 a2) (by exact rfl)) (by decide) ?_
      refine alP (some 130) rfl rfl (does_bin (v := .bool (decide (v10_3 ≤ a2))) (by conv => lhs; whnf) (by conv => lhs; whnf) rfl) (by decide) ?_
      refine alP (some 131) rfl rfl (does_pick (v := .bool (decide (v10_3 ≤ a2))) (by conv => lhs; whnf) (by exact rfl)) (by decide) ?_
      refine alP (some 6) rfl rfl (does_assign (v := .bool (decide (v10_3 ≤ a2))) (by exact rfl)) (by decide) ?_
      refine al_nil ?_
      refine hK77 _ ?_
      refine aw_ret ?_
      obtain rfl := Option.some.inj h
      exact ret_ok1 (by conv => lhs; whnf) (by conv => lhs; whnf) (by exact rfl) (.inr rfl) rfl
     ·have h := ifF c79 h
      refine alS (some 128) rfl rfl (by decide) ?_
      refine alS (some 129) rfl rfl (by decide) ?_
      refine alS (some 130) rfl rfl (by decide) ?_
      refine alP (some 131) rfl rfl (does_pick (v := .bool false) (by conv => lhs; whnf) (by exact rfl)) (by decide) ?_
      refine alP (some 6) rfl rfl (does_assign (v := .bool false) (by exact rfl)) (by decide) ?_
      refine al_nil ?_
      refine hK77 _ ?_
      refine aw_ret ?_
      obtain rfl := Option.some.inj h
      exact ret_ok1 (by conv => lhs; whnf) (by conv => lhs; whnf) (by exact rfl) (.inr rfl) rfl
theorem sh34 : ∀ (m : Nat) (cs : List PV), Shape Try.prog m 34 cs → ∃ a : List Int, cs = [.sl 1 (List.map enc2 a)] ∧ ((List.length a) ≤ maxLen ∧ ∀ y ∈ a, inI .i64 y) := fun m cs h => by
 obtain ⟨l, h1, h2, h3⟩ := shape_rows (f := enc2) (Q := fun y => inI .i64 y) h Try.underlying34 (fun m ps hs => by
  obtain ⟨a, rfl, hw⟩ := sh3 m ps hs
  exact ⟨a, by rw [show aggT Try.prog 3 = false by kernel_rfl]; rfl, hw⟩)
 exact ⟨l, h1.trans (by rw [show Try.prog.cellsOf 3 = 1 by kernel_rfl]), h2, h3⟩
end Go.Proofs.Ytmompdklolomfaa.Ab
