/- Chapter 30: the example. -/
import Derived.Test.YtmompdklolomfaaXRefP
import Derived.Test.YtmompdklolomfaaProg
namespace Go.Proofs.Ytmompdklolomfaa.Ab
open Go Go.RowKit
set_option linter.unusedVariables false
set_option linter.unusedSimpArgs false
theorem ty4 : tyOf Try.prog 4 = some ⟨.bool, 1, 1, [.bool false]⟩ := by kernel_rfl
theorem ty25 : tyOf Try.prog 25 = some ⟨.struct [(0, 23), (1, 23)], 2, 16, [.int .u64 0, .int .u64 0]⟩ := by kernel_rfl
theorem ent11 : Ent Try.prog 11 := ⟨_, Try.func11, by kernel_rfl, rfl⟩
theorem ent13 : Ent Try.prog 13 := ⟨_, Try.func13, by kernel_rfl, rfl⟩
def gleaninglaw30_alive : Option Bool :=
 Option.bind ([(Span.mk (Trace.mk 0 0) 1 9 (strOf [97]) (strOf [98]) 2 700 false []), (Span.mk (Trace.mk 0 0) 2 1 (strOf [97]) (strOf [98]) 2 300 false [])][0]?) (fun (x4 : Span) => Option.bind (path_Ends x4) (fun (x5 : Int × Int) => Option.bind (path_Critical [(Span.mk (Trace.mk 0 0) 1 9 (strOf [97]) (strOf [98]) 2 700 false []), (Span.mk (Trace.mk 0 0) 2 1 (strOf [97]) (strOf [98]) 2 300 false [])]) (fun (x7 : List Int) => Option.bind (path_Critical []) (fun (x9 : List Int) => if ((List.length x9 : Int) == 0) = true then (if (x5.1 == 2000) = true then (if (x5.2 == 2700) = true then (if ((List.length x7 : Int) == 2) = true then (Option.bind (x7[1]?) (fun (x14 : Int) => if (x14 == 1) = true then (Option.bind (path_Self [(Span.mk (Trace.mk 0 0) 1 9 (strOf [97]) (strOf [98]) 2 700 false []), (Span.mk (Trace.mk 0 0) 2 1 (strOf [97]) (strOf [98]) 2 300 false [])] 0) (fun (x16 : Int) => some (x16 == 400))) else (some false))) else (some false)) else (some false)) else (some false)) else (some false)))))
set_option maxRecDepth 100000 in
set_option maxHeartbeats 8000000 in
theorem gleaninglaw30_alive_ok {r : Bool} (h : gleaninglaw30_alive = some r) : Ok Try.prog 6 [] [] [] (.bool r) [] [] := by
 unfold gleaninglaw30_alive at h
 refine ok_of_code Try.func6 rfl (by show (0 : Nat) ≤ _; decide) (Nat.le_refl _) fun X => ?_
 refine aw_seq_k (fun K1 hK1 => ?_)
 refine aw_regL ?_
 refine alP (some 0) rfl rfl (does_assign (v := .bool false) (by exact rfl)) (by decide) ?_
 refine al_nil ?_
 refine hK1 _ ?_
 refine aw_seq_k (fun K2 hK2 => ?_)
 refine aw_regL ?_
 refine alP (some 5) rfl rfl ((do_build_struct (cs := [.int .u64 0, .int .u64 0, .int .u64 1, .int .u64 9, .str (strOf [97]), .str (strOf [98]), .int .i64 2, .int .i64 700, .bool false, .nil]) ty28 rfl [⟨.struct [(0, 23), (1, 23)], 2, 16, [.int .u64 0, .int .u64 0]⟩, ⟨.int .u64, 1, 8, [.int .u64 0]⟩, ⟨.int .u64, 1, 8, [.int .u64 0]⟩, ⟨.str, 1, 16, [.str ByteArray.empty]⟩, ⟨.str, 1, 16, [.str ByteArray.empty]⟩, ⟨.int .i64, 1, 8, [.int .i64 0]⟩, ⟨.int .i64, 1, 8, [.int .i64 0]⟩, ⟨.bool, 1, 1, [.bool false]⟩, ⟨.slice 40, 1, 24, [.nil]⟩] (by simp only [List.map, ty23, ty25, ty26, ty3, ty4, ty9]) (by rfl) (by exact rfl)).weak (v' := .agg [.int .u64 0, .int .u64 0, .int .u64 1, .int .u64 9, .str (strOf [97]), .str (strOf [98]), .int .i64 2, .int .i64 700, .bool false, .sl 2 (List.map enc39 [])]) (le_agg ⟨le_refl _, le_refl _, le_refl _, le_refl _, le_refl _, le_refl _, le_refl _, le_refl _, le_refl _, le_nil _, trivial⟩)) (by decide) ?_
 refine alP (some 6) rfl rfl ((do_build_struct (cs := [.int .u64 0, .int .u64 0, .int .u64 2, .int .u64 1, .str (strOf [97]), .str (strOf [98]), .int .i64 2, .int .i64 300, .bool false, .nil]) ty28 rfl [⟨.struct [(0, 23), (1, 23)], 2, 16, [.int .u64 0, .int .u64 0]⟩, ⟨.int .u64, 1, 8, [.int .u64 0]⟩, ⟨.int .u64, 1, 8, [.int .u64 0]⟩, ⟨.str, 1, 16, [.str ByteArray.empty]⟩, ⟨.str, 1, 16, [.str ByteArray.empty]⟩, ⟨.int .i64, 1, 8, [.int .i64 0]⟩, ⟨.int .i64, 1, 8, [.int .i64 0]⟩, ⟨.bool, 1, 1, [.bool false]⟩, ⟨.slice 40, 1, 24, [.nil]⟩] (by simp only [List.map, ty23, ty25, ty26, ty3, ty4, ty9]) (by rfl) (by exact rfl)).weak (v' := .agg [.int .u64 0, .int .u64 0, .int .u64 2, .int .u64 1, .str (strOf [97]), .str (strOf [98]), .int .i64 2, .int .i64 300, .bool false, .sl 2 (List.map enc39 [])]) (le_agg ⟨le_refl _, le_refl _, le_refl _, le_refl _, le_refl _, le_refl _, le_refl _, le_refl _, le_refl _, le_nil _, trivial⟩)) (by decide) ?_
 refine alD (some 7) rfl rfl (do_buildSlice (xs := List.map enc27 [(Span.mk (Trace.mk 0 0) 1 9 (strOf [97]) (strOf [98]) 2 700 false []), (Span.mk (Trace.mk 0 0) 2 1 (strOf [97]) (strOf [98]) 2 300 false [])]) ty22 ty28 rfl rfl rfl rfl rfl rfl rfl rfl) (by decide) ?_
 refine alP (some 1) rfl rfl (does_assign (v := .own 7 0) (by exact rfl)) (by decide) ?_
 refine al_nil ?_
 refine hK2 _ ?_
 refine aw_seq_k (fun K3 hK3 => ?_)
 refine aw_regL ?_
 refine alP (some 9) rfl rfl (does_move (v := .own 7 0) (by exact rfl)) (by decide) ?_
 obtain ⟨x4, hx4, h⟩ := bnd_some h
 refine alR (some 10) rfl rfl (does_indexAddr_own (by conv => lhs; whnf) (by conv => lhs; whnf) (by conv => lhs; whnf) ty22 ty28 (by decide) (by exact own_lt hx4)) (by decide) ?_
 refine alR (some 11) rfl rfl (does_load (v := .agg [.int .u64 x4.Trace.Hi, .int .u64 x4.Trace.Lo, .int .u64 x4.Id, .int .u64 x4.Parent, .str x4.Service, .str x4.Op, .int .i64 x4.Start, .int .i64 x4.Dur, .bool x4.Err, .sl 2 (List.map enc39 x4.Attrs)]) (by conv => lhs; whnf) (cellsAt_eptr (by conv => lhs; whnf) (by exact map_get hx4)) ty28 (by exact rfl)) (by decide) ?_
 obtain ⟨x5, hx5, h⟩ := bnd_some h
 refine alD (some 12) rfl rfl (do_call0 12 false (path_Ends_ok x4 hx5) rfl ent9 rfl rfl) (by decide) ?_
 refine alP (some 8) rfl rfl (does_move (v := .tup [.int .i64 x5.1, .int .i64 x5.2]) (by exact rfl)) (by decide) ?_
 refine alP (some 13) rfl rfl (does_extract (v := .int .i64 x5.1) (by conv => lhs; whnf) (by exact rfl)) (by decide) ?_
 refine alP (some 14) rfl rfl (does_extract (v := .int .i64 x5.2) (by conv => lhs; whnf) (by exact rfl)) (by decide) ?_
 refine alP (some 2) rfl rfl (does_assign (v := .int .i64 x5.1) (by exact rfl)) (by decide) ?_
 refine alP (some 3) rfl rfl (does_assign (v := .int .i64 x5.2) (by exact rfl)) (by decide) ?_
 refine al_nil ?_
 refine hK3 _ ?_
 refine aw_seq_k (fun K6 hK6 => ?_)
 refine aw_regL ?_
 refine alP (some 15) rfl rfl (does_move (v := .own 7 0) (by exact rfl)) (by decide) ?_
 obtain ⟨x7, hx7, h⟩ := bnd_some h
 refine alD (some 16) rfl rfl (do_callG (bcs := []) [] [] [(7, 0)] 16 false (path_Critical_ok [(Span.mk (Trace.mk 0 0) 1 9 (strOf [97]) (strOf [98]) 2 700 false []), (Span.mk (Trace.mk 0 0) 2 1 (strOf [97]) (strOf [98]) 2 300 false [])] hx7) rfl ent11 trivial trivial rfl rfl rfl rfl rfl rfl rfl rfl (.inr ⟨rfl, rfl, ⟨plain_map (fun _ => rfl), trivial⟩⟩)) (by decide) ?_
 refine alP (some 4) rfl rfl (does_assign (v := .own 16 0) (by exact rfl)) (by decide) ?_
 refine al_nil ?_
 refine hK6 _ ?_
 refine aw_seq_k (fun K8 hK8 => ?_)
 refine aw_regL ?_
 obtain ⟨x9, hx9, h⟩ := bnd_some h
 refine alD (some 17) rfl rfl ((do_call0 17 false ((path_Critical_ok [] hx9).weak (args' := [.nil]) ⟨le_nil _, trivial⟩) rfl ent11 rfl rfl).fx (y := ⟨[], .own 17 0, [((17, 0), some (.arr 3 1 false (List.map enc2 x9)))], [17, 17]⟩) rfl) (by decide) ?_
 refine alR (some 18) rfl rfl ((does_len_own (by conv => lhs; whnf) (by conv => lhs; whnf) ty34).cast (v' := .int .i64 (List.length x9 : Int)) (by exact len_map _)) (by decide) ?_
 refine alP (some 19) rfl rfl (does_bin (v := .bool ((List.length x9 : Int) == 0)) (by conv => lhs; whnf) (by conv => lhs; whnf) rfl) (by decide) ?_
 refine alP (some 20) rfl rfl (does_move (v := .bool ((List.length x9 : Int) == 0)) (by exact rfl)) (by decide) ?_
 refine al_bool (c := ((List.length x9 : Int) == 0)) 20 rfl (fun c10 => ?_) (fun c10 => ?_)
 ·have h := ifT c10 h
  refine alP (some 21) rfl rfl (does_move (v := .int .i64 x5.1) (by exact rfl)) (by decide) ?_
  refine alP (some 22) rfl rfl (does_bin (v := .bool (x5.1 == 2000)) (by conv => lhs; whnf) (by conv => lhs; whnf) rfl) (by decide) ?_
  refine alP (some 23) rfl rfl (does_pick (v := .bool (x5.1 == 2000)) (by conv => lhs; whnf) (by exact rfl)) (by decide) ?_
  refine alP (some 24) rfl rfl (does_move (v := .bool (x5.1 == 2000)) (by exact rfl)) (by decide) ?_
  refine al_bool (c := (x5.1 == 2000)) 24 rfl (fun c11 => ?_) (fun c11 => ?_)
  ·have h := ifT c11 h
   refine alP (some 25) rfl rfl (does_move (v := .int .i64 x5.2) (by exact rfl)) (by decide) ?_
   refine alP (some 26) rfl rfl (does_bin (v := .bool (x5.2 == 2700)) (by conv => lhs; whnf) (by conv => lhs; whnf) rfl) (by decide) ?_
   refine alP (some 27) rfl rfl (does_pick (v := .bool (x5.2 == 2700)) (by conv => lhs; whnf) (by exact rfl)) (by decide) ?_
   refine alP (some 28) rfl rfl (does_move (v := .bool (x5.2 == 2700)) (by exact rfl)) (by decide) ?_
   refine al_bool (c := (x5.2 == 2700)) 28 rfl (fun c12 => ?_) (fun c12 => ?_)
   ·have h := ifT c12 h
    refine alP (some 29) rfl rfl (does_move (v := .own 16 0) (by exact rfl)) (by decide) ?_
    refine alR (some 30) rfl rfl ((does_len_own (by conv => lhs; whnf) (by conv => lhs; whnf) ty34).cast (v' := .int .i64 (List.length x7 : Int)) (by exact len_map _)) (by decide) ?_
    refine alP (some 31) rfl rfl (does_bin (v := .bool ((List.length x7 : Int) == 2)) (by conv => lhs; whnf) (by conv => lhs; whnf) rfl) (by decide) ?_
    refine alP (some 32) rfl rfl (does_pick (v := .bool ((List.length x7 : Int) == 2)) (by conv => lhs; whnf) (by exact rfl)) (by decide) ?_
    refine alP (some 33) rfl rfl (does_move (v := .bool ((List.length x7 : Int) == 2)) (by exact rfl)) (by decide) ?_
    refine al_bool (c := ((List.length x7 : Int) == 2)) 33 rfl (fun c13 => ?_) (fun c13 => ?_)
    ·have h := ifT c13 h
     refine alP (some 34) rfl rfl (does_move (v := .own 16 0) (by exact rfl)) (by decide) ?_
     obtain ⟨x14, hx14, h⟩ := bnd_some h
     refine alR (some 35) rfl rfl (does_indexAddr_own (by conv => lhs; whnf) (by conv => lhs; whnf) (by conv => lhs; whnf) ty34 ty3 (by decide) (by exact own_lt hx14)) (by decide) ?_
     refine alR (some 36) rfl rfl (does_load (v := .int .i64 x14) (by conv => lhs; whnf) (cellsAt_eptr (by conv => lhs; whnf) (by exact map_get hx14)) ty3 (by exact rfl)) (by decide) ?_
     refine alP (some 37) rfl rfl (does_bin (v := .bool (x14 == 1)) (by conv => lhs; whnf) (by conv => lhs; whnf) rfl) (by decide) ?_
     refine alP (some 38) rfl rfl (does_pick (v := .bool (x14 == 1)) (by conv => lhs; whnf) (by exact rfl)) (by decide) ?_
     refine alP (some 39) rfl rfl (does_move (v := .bool (x14 == 1)) (by exact rfl)) (by decide) ?_
     refine al_bool (c := (x14 == 1)) 39 rfl (fun c15 => ?_) (fun c15 => ?_)
     ·have h := ifT c15 h
      refine alP (some 40) rfl rfl (does_move (v := .own 7 0) (by exact rfl)) (by decide) ?_
      obtain ⟨x16, hx16, h⟩ := bnd_some h
      refine alD (some 41) rfl rfl ((do_callG (bcs := []) [] [] [(7, 0)] 41 false (path_Self_ok [(Span.mk (Trace.mk 0 0) 1 9 (strOf [97]) (strOf [98]) 2 700 false []), (Span.mk (Trace.mk 0 0) 2 1 (strOf [97]) (strOf [98]) 2 300 false [])] 0 hx16) rfl ent13 trivial trivial rfl rfl rfl rfl rfl rfl rfl rfl (.inr ⟨rfl, rfl, trivial⟩)).fx (y := ⟨[(7, 0)], .int .i64 x16, [], [41]⟩) rfl) (by decide) ?_
      refine alP (some 42) rfl rfl (does_bin (v := .bool (x16 == 400)) (by conv => lhs; whnf) (by conv => lhs; whnf) rfl) (by decide) ?_
      refine alP (some 43) rfl rfl (does_pick (v := .bool (x16 == 400)) (by conv => lhs; whnf) (by exact rfl)) (by decide) ?_
      refine alP (some 0) rfl rfl (does_assign (v := .bool (x16 == 400)) (by exact rfl)) (by decide) ?_
      refine al_nil ?_
      refine hK8 _ ?_
      refine aw_ret ?_
      obtain rfl := Option.some.inj h
      exact ret_ok1 (by conv => lhs; whnf) (by conv => lhs; whnf) (by exact rfl) (.inr rfl) rfl
     ·have h := ifF c15 h
      refine alS (some 40) rfl rfl (by decide) ?_
      refine alS (some 41) rfl rfl (by decide) ?_
      refine alS (some 42) rfl rfl (by decide) ?_
      refine alP (some 43) rfl rfl (does_pick (v := .bool false) (by conv => lhs; whnf) (by exact rfl)) (by decide) ?_
      refine alP (some 0) rfl rfl (does_assign (v := .bool false) (by exact rfl)) (by decide) ?_
      refine al_nil ?_
      refine hK8 _ ?_
      refine aw_ret ?_
      obtain rfl := Option.some.inj h
      exact ret_ok1 (by conv => lhs; whnf) (by conv => lhs; whnf) (by exact rfl) (.inr rfl) rfl
    ·have h := ifF c13 h
     refine alS (some 34) rfl rfl (by decide) ?_
     refine alS (some 35) rfl rfl (by decide) ?_
     refine alS (some 36) rfl rfl (by decide) ?_
     refine alS (some 37) rfl rfl (by decide) ?_
     refine alP (some 38) rfl rfl (does_pick (v := .bool false) (by conv => lhs; whnf) (by exact rfl)) (by decide) ?_
     refine alP (some 39) rfl rfl (does_move (v := .bool false) (by exact rfl)) (by decide) ?_
     refine alS (some 40) rfl rfl (by decide) ?_
     refine alS (some 41) rfl rfl (by decide) ?_
     refine alS (some 42) rfl rfl (by decide) ?_
     refine alP (some 43) rfl rfl (does_pick (v := .bool false) (by conv => lhs; whnf) (by exact rfl)) (by decide) ?_
     refine alP (some 0) rfl rfl (does_assign (v := .bool false) (by exact rfl)) (by decide) ?_
     refine al_nil ?_
     refine hK8 _ ?_
     refine aw_ret ?_
     obtain rfl := Option.some.inj h
     exact ret_ok1 (by conv => lhs; whnf) (by conv => lhs; whnf) (by exact rfl) (.inr rfl) rfl
   ·have h := ifF c12 h
    refine alS (some 29) rfl rfl (by decide) ?_
    refine alS (some 30) rfl rfl (by decide) ?_
    refine alS (some 31) rfl rfl (by decide) ?_
    refine alP (some 32) rfl rfl (does_pick (v := .bool false) (by conv => lhs; whnf) (by exact rfl)) (by decide) ?_
    refine alP (some 33) rfl rfl (does_move (v := .bool false) (by exact rfl)) (by decide) ?_
    refine alS (some 34) rfl rfl (by decide) ?_
    refine alS (some 35) rfl rfl (by decide) ?_
    refine alS (some 36) rfl rfl (by decide) ?_
    refine alS (some 37) rfl rfl (by decide) ?_
    refine alP (some 38) rfl rfl (does_pick (v := .bool false) (by conv => lhs; whnf) (by exact rfl)) (by decide) ?_
    refine alP (some 39) rfl rfl (does_move (v := .bool false) (by exact rfl)) (by decide) ?_
    refine alS (some 40) rfl rfl (by decide) ?_
    refine alS (some 41) rfl rfl (by decide) ?_
    refine alS (some 42) rfl rfl (by decide) ?_
    refine alP (some 43) rfl rfl (does_pick (v := .bool false) (by conv => lhs; whnf) (by exact rfl)) (by decide) ?_
    refine alP (some 0) rfl rfl (does_assign (v := .bool false) (by exact rfl)) (by decide) ?_
    refine al_nil ?_
    refine hK8 _ ?_
    refine aw_ret ?_
    obtain rfl := Option.some.inj h
    exact ret_ok1 (by conv => lhs; whnf) (by conv => lhs; whnf) (by exact rfl) (.inr rfl) rfl
  ·have h := ifF c11 h
   refine alS (some 25) rfl rfl (by decide) ?_
   refine alS (some 26) rfl rfl (by decide) ?_
   refine alP (some 27) rfl rfl (does_pick (v := .bool false) (by conv => lhs; whnf) (by exact rfl)) (by decide) ?_
   refine alP (some 28) rfl rfl (does_move (v := .bool false) (by exact rfl)) (by decide) ?_
   refine alS (some 29) rfl rfl (by decide) ?_
   refine alS (some 30) rfl rfl (by decide) ?_
   refine alS (some 31) rfl rfl (by decide) ?_
   refine alP (some 32) rfl rfl (does_pick (v := .bool false) (by conv => lhs; whnf) (by exact rfl)) (by decide) ?_
   refine alP (some 33) rfl rfl (does_move (v := .bool false) (by exact rfl)) (by decide) ?_
   refine alS (some 34) rfl rfl (by decide) ?_
   refine alS (some 35) rfl rfl (by decide) ?_
   refine alS (some 36) rfl rfl (by decide) ?_
   refine alS (some 37) rfl rfl (by decide) ?_
   refine alP (some 38) rfl rfl (does_pick (v := .bool false) (by conv => lhs; whnf) (by exact rfl)) (by decide) ?_
   refine alP (some 39) rfl rfl (does_move (v := .bool false) (by exact rfl)) (by decide) ?_
   refine alS (some 40) rfl rfl (by decide) ?_
   refine alS (some 41) rfl rfl (by decide) ?_
   refine alS (some 42) rfl rfl (by decide) ?_
   refine alP (some 43) rfl rfl (does_pick (v := .bool false) (by conv => lhs; whnf) (by exact rfl)) (by decide) ?_
   refine alP (some 0) rfl rfl (does_assign (v := .bool false) (by exact rfl)) (by decide) ?_
   refine al_nil ?_
   refine hK8 _ ?_
   refine aw_ret ?_
   obtain rfl := Option.some.inj h
   exact ret_ok1 (by conv => lhs; whnf) (by conv => lhs; whnf) (by exact rfl) (.inr rfl) rfl
 ·have h := ifF c10 h
  refine alS (some 21) rfl rfl (by decide) ?_
  refine alS (some 22) rfl rfl (by decide) ?_
  refine alP (some 23) rfl rfl (does_pick (v := .bool false) (by conv => lhs; whnf) (by exact rfl)) (by decide) ?_
  refine alP (some 24) rfl rfl (does_move (v := .bool false) (by exact rfl)) (by decide) ?_
  refine alS (some 25) rfl rfl (by decide) ?_
  refine alS (some 26) rfl rfl (by decide) ?_
  refine alP (some 27) rfl rfl (does_pick (v := .bool false) (by conv => lhs; whnf) (by exact rfl)) (by decide) ?_
  refine alP (some 28) rfl rfl (does_move (v := .bool false) (by exact rfl)) (by decide) ?_
  refine alS (some 29) rfl rfl (by decide) ?_
  refine alS (some 30) rfl rfl (by decide) ?_
  refine alS (some 31) rfl rfl (by decide) ?_
  refine alP (some 32) rfl rfl (does_pick (v := .bool false) (by conv => lhs; whnf) (by exact rfl)) (by decide) ?_
  refine alP (some 33) rfl rfl (does_move (v := .bool false) (by exact rfl)) (by decide) ?_
  refine alS (some 34) rfl rfl (by decide) ?_
  refine alS (some 35) rfl rfl (by decide) ?_
  refine alS (some 36) rfl rfl (by decide) ?_
  refine alS (some 37) rfl rfl (by decide) ?_
  refine alP (some 38) rfl rfl (does_pick (v := .bool false) (by conv => lhs; whnf) (by exact rfl)) (by decide) ?_
  refine alP (some 39) rfl rfl (does_move (v := .bool false) (by exact rfl)) (by decide) ?_
  refine alS (some 40) rfl rfl (by decide) ?_
  refine alS (some 41) rfl rfl (by decide) ?_
  refine alS (some 42) rfl rfl (by decide) ?_
  refine alP (some 43) rfl rfl (does_pick (v := .bool false) (by conv => lhs; whnf) (by exact rfl)) (by decide) ?_
  refine alP (some 0) rfl rfl (does_assign (v := .bool false) (by exact rfl)) (by decide) ?_
  refine al_nil ?_
  refine hK8 _ ?_
  refine aw_ret ?_
  obtain rfl := Option.some.inj h
  exact ret_ok1 (by conv => lhs; whnf) (by conv => lhs; whnf) (by exact rfl) (.inr rfl) rfl
end Go.Proofs.Ytmompdklolomfaa.Ab
