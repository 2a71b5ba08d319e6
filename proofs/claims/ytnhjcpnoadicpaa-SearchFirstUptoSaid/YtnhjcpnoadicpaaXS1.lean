/- Search: the document. -/
import Derived.Test.YtnhjcpnoadicpaaXS0
import Derived.Test.YtnhjcpnoadicpaaProg
namespace Go.Proofs.Ytnhjcpnoadicpaa.Ab
open Go Go.RowKit
set_option linter.unusedVariables false
set_option linter.unusedSimpArgs false
theorem ent12 : Ent Try.prog 12 := ⟨_, Try.func12, by kernel_rfl, rfl⟩
theorem ent21 : Ent Try.prog 21 := ⟨_, Try.func21, by kernel_rfl, rfl⟩
theorem ent25 : Ent Try.prog 25 := ⟨_, Try.func25, by kernel_rfl, rfl⟩
theorem ent26 : Ent Try.prog 26 := ⟨_, Try.func26, by kernel_rfl, rfl⟩
theorem ent27 : Ent Try.prog 27 := ⟨_, Try.func27, by kernel_rfl, rfl⟩
def gleaningref28_Match_l2 (a0 : Query) (a1 : Span) (v5_2 : Bool) (v6_2 : Int) : Option ((Bool × Int) ⊕ Bool) :=
  if (decide (v6_2 < (List.length a1.Attrs : Int))) = true then (if v5_2 = true then (some (Sum.inl (true, (IntKind.i64.wrap (v6_2 + 1))))) else (gd (0 ≤ v6_2) (Option.bind (a1.Attrs[(Int.toNat v6_2)]?) (fun (x63 : Attr) => if (ByteArray.toList x63.Key == ByteArray.toList a0.Key) = true then (gd (0 ≤ v6_2) (Option.bind (a1.Attrs[(Int.toNat v6_2)]?) (fun (x66 : Attr) => some (Sum.inl ((ByteArray.toList x66.Value == ByteArray.toList a0.Value), (IntKind.i64.wrap (v6_2 + 1))))))) else (some (Sum.inl (false, (IntKind.i64.wrap (v6_2 + 1))))))))) else (some (Sum.inr v5_2))
def gleaningref28_Match_k1 (a0 : Query) (a1 : Span) (v5_1 : Bool) : Option Bool :=
  loopN (fun (s : Bool × Int) => gleaningref28_Match_l2 a0 a1 s.1 s.2) Fu (v5_1, 0)
def gleaningref28_Match_k0 (a0 : Query) (a1 : Span) : Option Bool :=
  Option.bind (if (ByteArray.toList a0.Key == ByteArray.toList (strOf [])) = true then (some (ByteArray.toList a0.Value == ByteArray.toList (strOf []))) else (some false)) (fun (s : Bool) => gleaningref28_Match_k1 a0 a1 s)
def gleaningref28_Match (a0 : Query) (a1 : Span) : Option Bool :=
  Option.bind (if (!(ByteArray.toList a0.Service == ByteArray.toList (strOf []))) = true then (if (!(ByteArray.toList a0.Service == ByteArray.toList a1.Service)) = true then (some (Sum.inr false)) else (if (!(ByteArray.toList a0.Op == ByteArray.toList (strOf []))) = true then (if (!(ByteArray.toList a0.Op == ByteArray.toList a1.Op)) = true then (some (Sum.inr false)) else (if (a0.Dur != 0) = true then (if (decide (a1.Dur < a0.Dur)) = true then (some (Sum.inr false)) else (if a0.Err = true then (if (!a1.Err) = true then (some (Sum.inr false)) else (some (Sum.inl ()))) else (some (Sum.inl ())))) else (if a0.Err = true then (if (!a1.Err) = true then (some (Sum.inr false)) else (some (Sum.inl ()))) else (some (Sum.inl ()))))) else (if (a0.Dur != 0) = true then (if (decide (a1.Dur < a0.Dur)) = true then (some (Sum.inr false)) else (if a0.Err = true then (if (!a1.Err) = true then (some (Sum.inr false)) else (some (Sum.inl ()))) else (some (Sum.inl ())))) else (if a0.Err = true then (if (!a1.Err) = true then (some (Sum.inr false)) else (some (Sum.inl ()))) else (some (Sum.inl ())))))) else (if (!(ByteArray.toList a0.Op == ByteArray.toList (strOf []))) = true then (if (!(ByteArray.toList a0.Op == ByteArray.toList a1.Op)) = true then (some (Sum.inr false)) else (if (a0.Dur != 0) = true then (if (decide (a1.Dur < a0.Dur)) = true then (some (Sum.inr false)) else (if a0.Err = true then (if (!a1.Err) = true then (some (Sum.inr false)) else (some (Sum.inl ()))) else (some (Sum.inl ())))) else (if a0.Err = true then (if (!a1.Err) = true then (some (Sum.inr false)) else (some (Sum.inl ()))) else (some (Sum.inl ()))))) else (if (a0.Dur != 0) = true then (if (decide (a1.Dur < a0.Dur)) = true then (some (Sum.inr false)) else (if a0.Err = true then (if (!a1.Err) = true then (some (Sum.inr false)) else (some (Sum.inl ()))) else (some (Sum.inl ())))) else (if a0.Err = true then (if (!a1.Err) = true then (some (Sum.inr false)) else (some (Sum.inl ()))) else (some (Sum.inl ())))))) (Sum.elim (fun (s : Unit) => gleaningref28_Match_k0 a0 a1) some)
set_option maxRecDepth 100000 in
set_option maxHeartbeats 8000000 in
/-- gleaning/gleaningref28.Match -/
theorem gleaningref28_Match_ok (a0 : Query) (a1 : Span) {r : Bool} (h : gleaningref28_Match a0 a1 = some r) : Ok Try.prog 12 [.agg [.str a0.Service, .str a0.Op, .str a0.Key, .str a0.Value, .int .i64 a0.Dur, .bool a0.Err], .agg [.int .u64 a1.Trace.Hi, .int .u64 a1.Trace.Lo, .int .u64 a1.Id, .int .u64 a1.Parent, .str a1.Service, .str a1.Op, .int .i64 a1.Start, .int .i64 a1.Dur, .bool a1.Err, .sl 2 (List.map enc53 a1.Attrs)]] [] [] (.bool r) [] [] := by
  unfold gleaningref28_Match at h
  refine ok_of_code Try.func12 rfl (by show (2 : Nat) ≤ _; decide) (Nat.le_refl _) fun X => ?_
  refine aw_seq_k (fun K1 hK1 => ?_)
  refine aw_regL ?_
  refine alD (some 2) rfl rfl (do_box (by conv => lhs; whnf) rfl rfl) (by decide) ?_
  refine alD (some 3) rfl rfl (do_box (by conv => lhs; whnf) rfl rfl) (by decide) ?_
  refine alP (some 4) rfl rfl (does_assign (v := .bool false) (by exact rfl)) (by decide) ?_
  refine al_nil ?_
  refine hK1 _ ?_
  obtain ⟨q2, h, hk3⟩ := bnd_some h
  refine aw_cut (fun s => gleaningref28_Match_k0 a0 a1 = some r ∧ s = lit [(2, .ptr 2 0 0), (3, .ptr 3 0 0)] [((2, 0), .box [.str a0.Service, .str a0.Op, .str a0.Key, .str a0.Value, .int .i64 a0.Dur, .bool a0.Err]), ((3, 0), .box [.int .u64 a1.Trace.Hi, .int .u64 a1.Trace.Lo, .int .u64 a1.Id, .int .u64 a1.Parent, .str a1.Service, .str a1.Op, .int .i64 a1.Start, .int .i64 a1.Dur, .bool a1.Err, .sl 2 (List.map enc53 a1.Attrs)])] [(2, 1), (3, 1)] X) ?_ ?_
  · skip
    refine aw_seq_k (fun K4 hK4 => ?_)
    refine aw_regL ?_
    refine alP (some 7) rfl rfl (does_fieldAddr (q := .ptr 2 0 0) (by conv => lhs; whnf) ty24 rfl ty9 (by decide) (by exact rfl)) (by decide) ?_
    refine alR (some 8) rfl rfl (does_load (v := .str a0.Service) (by conv => lhs; whnf) (by conv => lhs; whnf) ty9 (by exact rfl)) (by decide) ?_
    refine alP (some 9) rfl rfl (does_bin (v := .bool (!(ByteArray.toList a0.Service == ByteArray.toList (strOf [])))) (by conv => lhs; whnf) (by conv => lhs; whnf) rfl) (by decide) ?_
    refine alP (some 10) rfl rfl (does_move (v := .bool (!(ByteArray.toList a0.Service == ByteArray.toList (strOf [])))) (by exact rfl)) (by decide) ?_
    refine al_bool (c := (!(ByteArray.toList a0.Service == ByteArray.toList (strOf [])))) 10 rfl (fun c5 => ?_) (fun c5 => ?_)
    · have h := ifT c5 h
      refine alP (some 11) rfl rfl (does_fieldAddr (q := .ptr 2 0 0) (by conv => lhs; whnf) ty24 rfl ty9 (by decide) (by exact rfl)) (by decide) ?_
      refine alR (some 12) rfl rfl (does_load (v := .str a0.Service) (by conv => lhs; whnf) (by conv => lhs; whnf) ty9 (by exact rfl)) (by decide) ?_
      refine alP (some 13) rfl rfl (does_fieldAddr (q := .ptr 3 0 4) (by conv => lhs; whnf) ty30 rfl ty9 (by decide) (by exact rfl)) (by decide) ?_
      refine alR (some 14) rfl rfl (does_load (v := .str a1.Service) (by conv => lhs; whnf) (by conv => lhs; whnf) ty9 (by exact rfl)) (by decide) ?_
      refine alP (some 15) rfl rfl (does_bin (v := .bool (!(ByteArray.toList a0.Service == ByteArray.toList a1.Service))) (by conv => lhs; whnf) (by conv => lhs; whnf) rfl) (by decide) ?_
      refine alP (some 16) rfl rfl (does_pick (v := .bool (!(ByteArray.toList a0.Service == ByteArray.toList a1.Service))) (by conv => lhs; whnf) (by exact rfl)) (by decide) ?_
      refine alP (some 17) rfl rfl (does_move (v := .bool (!(ByteArray.toList a0.Service == ByteArray.toList a1.Service))) (by exact rfl)) (by decide) ?_
      refine al_bool (c := (!(ByteArray.toList a0.Service == ByteArray.toList a1.Service))) 17 rfl (fun c6 => ?_) (fun c6 => ?_)
      · have h := ifT c6 h
        refine alS (some 18) rfl rfl (by decide) ?_
        refine alS (some 19) rfl rfl (by decide) ?_
        refine alS (some 20) rfl rfl (by decide) ?_
        refine alS (some 21) rfl rfl (by decide) ?_
        refine alS (some 22) rfl rfl (by decide) ?_
        refine alS (some 23) rfl rfl (by decide) ?_
        refine alS (some 24) rfl rfl (by decide) ?_
        refine alS (some 25) rfl rfl (by decide) ?_
        refine alS (some 26) rfl rfl (by decide) ?_
        refine alS (some 27) rfl rfl (by decide) ?_
        refine alP (some 28) rfl rfl (does_pick (v := .bool true) (by conv => lhs; whnf) (by exact rfl)) (by decide) ?_
        refine alP (some 29) rfl rfl (does_move (v := .bool true) (by exact rfl)) (by decide) ?_
        refine alS (some 30) rfl rfl (by decide) ?_
        refine alS (some 31) rfl rfl (by decide) ?_
        refine alS (some 32) rfl rfl (by decide) ?_
        refine alS (some 33) rfl rfl (by decide) ?_
        refine alS (some 34) rfl rfl (by decide) ?_
        refine alS (some 35) rfl rfl (by decide) ?_
        refine alS (some 36) rfl rfl (by decide) ?_
        refine alS (some 37) rfl rfl (by decide) ?_
        refine alS (some 38) rfl rfl (by decide) ?_
        refine alS (some 39) rfl rfl (by decide) ?_
        refine alP (some 40) rfl rfl (does_pick (v := .bool true) (by conv => lhs; whnf) (by exact rfl)) (by decide) ?_
        refine alP (some 41) rfl rfl (does_move (v := .bool true) (by exact rfl)) (by decide) ?_
        refine alS (some 42) rfl rfl (by decide) ?_
        refine alS (some 43) rfl rfl (by decide) ?_
        refine alS (some 44) rfl rfl (by decide) ?_
        refine alS (some 45) rfl rfl (by decide) ?_
        refine alS (some 46) rfl rfl (by decide) ?_
        refine alS (some 47) rfl rfl (by decide) ?_
        refine alS (some 48) rfl rfl (by decide) ?_
        refine alP (some 49) rfl rfl (does_pick (v := .bool true) (by conv => lhs; whnf) (by exact rfl)) (by decide) ?_
        refine al_nil ?_
        refine hK4 _ ?_
        refine aw_cond_t (by decide) rfl ?_
        refine aw_seq_k (fun K7 hK7 => ?_)
        refine aw_regL ?_
        refine alP (some 4) rfl rfl (does_assign (v := .bool false) (by exact rfl)) (by decide) ?_
        refine al_nil ?_
        refine hK7 _ ?_
        refine aw_ret ?_
        have h := leafR h hk3
        obtain rfl := Option.some.inj h
        exact ret_ok1 (by conv => lhs; whnf) (by conv => lhs; whnf) (by exact rfl) (.inr rfl) rfl
      · have h := ifF c6 h
        refine alP (some 18) rfl rfl (does_fieldAddr (q := .ptr 2 0 1) (by conv => lhs; whnf) ty24 rfl ty9 (by decide) (by exact rfl)) (by decide) ?_
        refine alR (some 19) rfl rfl (does_load (v := .str a0.Op) (by conv => lhs; whnf) (by conv => lhs; whnf) ty9 (by exact rfl)) (by decide) ?_
        refine alP (some 20) rfl rfl (does_bin (v := .bool (!(ByteArray.toList a0.Op == ByteArray.toList (strOf [])))) (by conv => lhs; whnf) (by conv => lhs; whnf) rfl) (by decide) ?_
        refine alP (some 21) rfl rfl (does_move (v := .bool (!(ByteArray.toList a0.Op == ByteArray.toList (strOf [])))) (by exact rfl)) (by decide) ?_
        refine al_bool (c := (!(ByteArray.toList a0.Op == ByteArray.toList (strOf [])))) 21 rfl (fun c8 => ?_) (fun c8 => ?_)
        · have h := ifT c8 h
          refine alP (some 22) rfl rfl (does_fieldAddr (q := .ptr 2 0 1) (by conv => lhs; whnf) ty24 rfl ty9 (by decide) (by exact rfl)) (by decide) ?_
          refine alR (some 23) rfl rfl (does_load (v := .str a0.Op) (by conv => lhs; whnf) (by conv => lhs; whnf) ty9 (by exact rfl)) (by decide) ?_
          refine alP (some 24) rfl rfl (does_fieldAddr (q := .ptr 3 0 5) (by conv => lhs; whnf) ty30 rfl ty9 (by decide) (by exact rfl)) (by decide) ?_
          refine alR (some 25) rfl rfl (does_load (v := .str a1.Op) (by conv => lhs; whnf) (by conv => lhs; whnf) ty9 (by exact rfl)) (by decide) ?_
          refine alP (some 26) rfl rfl (does_bin (v := .bool (!(ByteArray.toList a0.Op == ByteArray.toList a1.Op))) (by conv => lhs; whnf) (by conv => lhs; whnf) rfl) (by decide) ?_
          refine alP (some 27) rfl rfl (does_pick (v := .bool (!(ByteArray.toList a0.Op == ByteArray.toList a1.Op))) (by conv => lhs; whnf) (by exact rfl)) (by decide) ?_
          refine alP (some 28) rfl rfl (does_pick (v := .bool (!(ByteArray.toList a0.Op == ByteArray.toList a1.Op))) (by conv => lhs; whnf) (by exact rfl)) (by decide) ?_
          refine alP (some 29) rfl rfl (does_move (v := .bool (!(ByteArray.toList a0.Op == ByteArray.toList a1.Op))) (by exact rfl)) (by decide) ?_
          refine al_bool (c := (!(ByteArray.toList a0.Op == ByteArray.toList a1.Op))) 29 rfl (fun c9 => ?_) (fun c9 => ?_)
          · have h := ifT c9 h
            refine alS (some 30) rfl rfl (by decide) ?_
            refine alS (some 31) rfl rfl (by decide) ?_
            refine alS (some 32) rfl rfl (by decide) ?_
            refine alS (some 33) rfl rfl (by decide) ?_
            refine alS (some 34) rfl rfl (by decide) ?_
            refine alS (some 35) rfl rfl (by decide) ?_
            refine alS (some 36) rfl rfl (by decide) ?_
            refine alS (some 37) rfl rfl (by decide) ?_
            refine alS (some 38) rfl rfl (by decide) ?_
            refine alS (some 39) rfl rfl (by decide) ?_
            refine alP (some 40) rfl rfl (does_pick (v := .bool true) (by conv => lhs; whnf) (by exact rfl)) (by decide) ?_
            refine alP (some 41) rfl rfl (does_move (v := .bool true) (by exact rfl)) (by decide) ?_
            refine alS (some 42) rfl rfl (by decide) ?_
            refine alS (some 43) rfl rfl (by decide) ?_
            refine alS (some 44) rfl rfl (by decide) ?_
            refine alS (some 45) rfl rfl (by decide) ?_
            refine alS (some 46) rfl rfl (by decide) ?_
            refine alS (some 47) rfl rfl (by decide) ?_
            refine alS (some 48) rfl rfl (by decide) ?_
            refine alP (some 49) rfl rfl (does_pick (v := .bool true) (by conv => lhs; whnf) (by exact rfl)) (by decide) ?_
            refine al_nil ?_
            refine hK4 _ ?_
            refine aw_cond_t (by decide) rfl ?_
            refine aw_seq_k (fun K10 hK10 => ?_)
            refine aw_regL ?_
            refine alP (some 4) rfl rfl (does_assign (v := .bool false) (by exact rfl)) (by decide) ?_
            refine al_nil ?_
            refine hK10 _ ?_
            refine aw_ret ?_
            have h := leafR h hk3
            obtain rfl := Option.some.inj h
            exact ret_ok1 (by conv => lhs; whnf) (by conv => lhs; whnf) (by exact rfl) (.inr rfl) rfl
          · have h := ifF c9 h
            refine alP (some 30) rfl rfl (does_fieldAddr (q := .ptr 2 0 4) (by conv => lhs; whnf) ty24 rfl ty3 (by decide) (by exact rfl)) (by decide) ?_
            refine alR (some 31) rfl rfl (does_load (v := .int .i64 a0.Dur) (by conv => lhs; whnf) (by conv => lhs; whnf) ty3 (by exact rfl)) (by decide) ?_
            refine alP (some 32) rfl rfl (does_bin (v := .bool (a0.Dur != 0)) (by conv => lhs; whnf) (by conv => lhs; whnf) rfl) (by decide) ?_
            refine alP (some 33) rfl rfl (does_move (v := .bool (a0.Dur != 0)) (by exact rfl)) (by decide) ?_
            refine al_bool (c := (a0.Dur != 0)) 33 rfl (fun c11 => ?_) (fun c11 => ?_)
            · have h := ifT c11 h
              refine alP (some 34) rfl rfl (does_fieldAddr (q := .ptr 3 0 7) (by conv => lhs; whnf) ty30 rfl ty3 (by decide) (by exact rfl)) (by decide) ?_
              refine alR (some 35) rfl rfl (does_load (v := .int .i64 a1.Dur) (by conv => lhs; whnf) (by conv => lhs; whnf) ty3 (by exact rfl)) (by decide) ?_
              refine alP (some 36) rfl rfl (does_fieldAddr (q := .ptr 2 0 4) (by conv => lhs; whnf) ty24 rfl ty3 (by decide) (by exact rfl)) (by decide) ?_
              refine alR (some 37) rfl rfl (does_load (v := .int .i64 a0.Dur) (by conv => lhs; whnf) (by conv => lhs; whnf) ty3 (by exact rfl)) (by decide) ?_
              refine alP (some 38) rfl rfl (does_bin (v := .bool (decide (a1.Dur < a0.Dur))) (by conv => lhs; whnf) (by conv => lhs; whnf) rfl) (by decide) ?_
              refine alP (some 39) rfl rfl (does_pick (v := .bool (decide (a1.Dur < a0.Dur))) (by conv => lhs; whnf) (by exact rfl)) (by decide) ?_
              refine alP (some 40) rfl rfl (does_pick (v := .bool (decide (a1.Dur < a0.Dur))) (by conv => lhs; whnf) (by exact rfl)) (by decide) ?_
              refine alP (some 41) rfl rfl (does_move (v := .bool (decide (a1.Dur < a0.Dur))) (by exact rfl)) (by decide) ?_
              refine al_bool (c := (decide (a1.Dur < a0.Dur))) 41 rfl (fun c12 => ?_) (fun c12 => ?_)
              · have h := ifT c12 h
                refine alS (some 42) rfl rfl (by decide) ?_
                refine alS (some 43) rfl rfl (by decide) ?_
                refine alS (some 44) rfl rfl (by decide) ?_
                refine alS (some 45) rfl rfl (by decide) ?_
                refine alS (some 46) rfl rfl (by decide) ?_
                refine alS (some 47) rfl rfl (by decide) ?_
                refine alS (some 48) rfl rfl (by decide) ?_
                refine alP (some 49) rfl rfl (does_pick (v := .bool true) (by conv => lhs; whnf) (by exact rfl)) (by decide) ?_
                refine al_nil ?_
                refine hK4 _ ?_
                refine aw_cond_t (by decide) rfl ?_
                refine aw_seq_k (fun K13 hK13 => ?_)
                refine aw_regL ?_
                refine alP (some 4) rfl rfl (does_assign (v := .bool false) (by exact rfl)) (by decide) ?_
                refine al_nil ?_
                refine hK13 _ ?_
                refine aw_ret ?_
                have h := leafR h hk3
                obtain rfl := Option.some.inj h
                exact ret_ok1 (by conv => lhs; whnf) (by conv => lhs; whnf) (by exact rfl) (.inr rfl) rfl
              · have h := ifF c12 h
                refine alP (some 42) rfl rfl (does_fieldAddr (q := .ptr 2 0 5) (by conv => lhs; whnf) ty24 rfl ty4 (by decide) (by exact rfl)) (by decide) ?_
                refine alR (some 43) rfl rfl (does_load (v := .bool a0.Err) (by conv => lhs; whnf) (by conv => lhs; whnf) ty4 (by exact rfl)) (by decide) ?_
                refine alP (some 44) rfl rfl (does_move (v := .bool a0.Err) (by exact rfl)) (by decide) ?_
                refine al_bool (c := a0.Err) 44 rfl (fun c14 => ?_) (fun c14 => ?_)
                · have h := ifT c14 h
                  refine alP (some 45) rfl rfl (does_fieldAddr (q := .ptr 3 0 8) (by conv => lhs; whnf) ty30 rfl ty4 (by decide) (by exact rfl)) (by decide) ?_
                  refine alR (some 46) rfl rfl (does_load (v := .bool a1.Err) (by conv => lhs; whnf) (by conv => lhs; whnf) ty4 (by exact rfl)) (by decide) ?_
                  refine alP (some 47) rfl rfl (does_un (v := .bool (!a1.Err)) (by conv => lhs; whnf) rfl) (by decide) ?_
                  refine alP (some 48) rfl rfl (does_pick (v := .bool (!a1.Err)) (by conv => lhs; whnf) (by exact rfl)) (by decide) ?_
                  refine alP (some 49) rfl rfl (does_pick (v := .bool (!a1.Err)) (by conv => lhs; whnf) (by exact rfl)) (by decide) ?_
                  refine al_nil ?_
                  refine hK4 _ ?_
                  refine aw_bool (b := (!a1.Err)) 49 rfl (fun c15 => ?_) (fun c15 => ?_)
                  · have h := ifT c15 h
                    refine aw_cond_t (by decide) rfl ?_
                    refine aw_seq_k (fun K16 hK16 => ?_)
                    refine aw_regL ?_
                    refine alP (some 4) rfl rfl (does_assign (v := .bool false) (by exact rfl)) (by decide) ?_
                    refine al_nil ?_
                    refine hK16 _ ?_
                    refine aw_ret ?_
                    have h := leafR h hk3
                    obtain rfl := Option.some.inj h
                    exact ret_ok1 (by conv => lhs; whnf) (by conv => lhs; whnf) (by exact rfl) (.inr rfl) rfl
                  · have h := ifF c15 h
                    refine aw_cond_f (by decide) rfl ?_
                    refine aw_skip ?_
                    have h := leafL h hk3
                    exact ⟨_, reb_lit [(2, .ptr 2 0 0), (3, .ptr 3 0 0)] [(2, 0), (3, 0)] [((2, 0), .box [.str a0.Service, .str a0.Op, .str a0.Key, .str a0.Value, .int .i64 a0.Dur, .bool a0.Err]), ((3, 0), .box [.int .u64 a1.Trace.Hi, .int .u64 a1.Trace.Lo, .int .u64 a1.Id, .int .u64 a1.Parent, .str a1.Service, .str a1.Op, .int .i64 a1.Start, .int .i64 a1.Dur, .bool a1.Err, .sl 2 (List.map enc53 a1.Attrs)])] [(2, 1), (3, 1)] (envOk_cons (by conv => lhs; whnf) (by exact rfl) (envOk_cons (by conv => lhs; whnf) (by exact rfl) envOk_nil)) (objOk_cons (by conv => lhs; whnf) (by conv => lhs; whnf) (by exact rfl) (by simp) (objOk_cons (by conv => lhs; whnf) (by conv => lhs; whnf) (by exact rfl) (by simp) objOk_nil)) (nodup_b rfl) (nodup_b rfl) rfl rfl, h, rfl⟩
                · have h := ifF c14 h
                  refine alS (some 45) rfl rfl (by decide) ?_
                  refine alS (some 46) rfl rfl (by decide) ?_
                  refine alS (some 47) rfl rfl (by decide) ?_
                  refine alP (some 48) rfl rfl (does_pick (v := .bool false) (by conv => lhs; whnf) (by exact rfl)) (by decide) ?_
                  refine alP (some 49) rfl rfl (does_pick (v := .bool false) (by conv => lhs; whnf) (by exact rfl)) (by decide) ?_
                  refine al_nil ?_
                  refine hK4 _ ?_
                  refine aw_cond_f (by decide) rfl ?_
                  refine aw_skip ?_
                  have h := leafL h hk3
                  exact ⟨_, reb_lit [(2, .ptr 2 0 0), (3, .ptr 3 0 0)] [(2, 0), (3, 0)] [((2, 0), .box [.str a0.Service, .str a0.Op, .str a0.Key, .str a0.Value, .int .i64 a0.Dur, .bool a0.Err]), ((3, 0), .box [.int .u64 a1.Trace.Hi, .int .u64 a1.Trace.Lo, .int .u64 a1.Id, .int .u64 a1.Parent, .str a1.Service, .str a1.Op, .int .i64 a1.Start, .int .i64 a1.Dur, .bool a1.Err, .sl 2 (List.map enc53 a1.Attrs)])] [(2, 1), (3, 1)] (envOk_cons (by conv => lhs; whnf) (by exact rfl) (envOk_cons (by conv => lhs; whnf) (by exact rfl) envOk_nil)) (objOk_cons (by conv => lhs; whnf) (by conv => lhs; whnf) (by exact rfl) (by simp) (objOk_cons (by conv => lhs; whnf) (by conv => lhs; whnf) (by exact rfl) (by simp) objOk_nil)) (nodup_b rfl) (nodup_b rfl) rfl rfl, h, rfl⟩
            · have h := ifF c11 h
              refine alS (some 34) rfl rfl (by decide) ?_
              refine alS (some 35) rfl rfl (by decide) ?_
              refine alS (some 36) rfl rfl (by decide) ?_
              refine alS (some 37) rfl rfl (by decide) ?_
              refine alS (some 38) rfl rfl (by decide) ?_
              refine alP (some 39) rfl rfl (does_pick (v := .bool false) (by conv => lhs; whnf) (by exact rfl)) (by decide) ?_
              refine alP (some 40) rfl rfl (does_pick (v := .bool false) (by conv => lhs; whnf) (by exact rfl)) (by decide) ?_
              refine alP (some 41) rfl rfl (does_move (v := .bool false) (by exact rfl)) (by decide) ?_
              refine alP (some 42) rfl rfl (does_fieldAddr (q := .ptr 2 0 5) (by conv => lhs; whnf) ty24 rfl ty4 (by decide) (by exact rfl)) (by decide) ?_
              refine alR (some 43) rfl rfl (does_load (v := .bool a0.Err) (by conv => lhs; whnf) (by conv => lhs; whnf) ty4 (by exact rfl)) (by decide) ?_
              refine alP (some 44) rfl rfl (does_move (v := .bool a0.Err) (by exact rfl)) (by decide) ?_
              refine al_bool (c := a0.Err) 44 rfl (fun c17 => ?_) (fun c17 => ?_)
              · have h := ifT c17 h
                refine alP (some 45) rfl rfl (does_fieldAddr (q := .ptr 3 0 8) (by conv => lhs; whnf) ty30 rfl ty4 (by decide) (by exact rfl)) (by decide) ?_
                refine alR (some 46) rfl rfl (does_load (v := .bool a1.Err) (by conv => lhs; whnf) (by conv => lhs; whnf) ty4 (by exact rfl)) (by decide) ?_
                refine alP (some 47) rfl rfl (does_un (v := .bool (!a1.Err)) (by conv => lhs; whnf) rfl) (by decide) ?_
                refine alP (some 48) rfl rfl (does_pick (v := .bool (!a1.Err)) (by conv => lhs; whnf) (by exact rfl)) (by decide) ?_
                refine alP (some 49) rfl rfl (does_pick (v := .bool (!a1.Err)) (by conv => lhs; whnf) (by exact rfl)) (by decide) ?_
                refine al_nil ?_
                refine hK4 _ ?_
                refine aw_bool (b := (!a1.Err)) 49 rfl (fun c18 => ?_) (fun c18 => ?_)
                · have h := ifT c18 h
                  refine aw_cond_t (by decide) rfl ?_
                  refine aw_seq_k (fun K19 hK19 => ?_)
                  refine aw_regL ?_
                  refine alP (some 4) rfl rfl (does_assign (v := .bool false) (by exact rfl)) (by decide) ?_
                  refine al_nil ?_
                  refine hK19 _ ?_
                  refine aw_ret ?_
                  have h := leafR h hk3
                  obtain rfl := Option.some.inj h
                  exact ret_ok1 (by conv => lhs; whnf) (by conv => lhs; whnf) (by exact rfl) (.inr rfl) rfl
                · have h := ifF c18 h
                  refine aw_cond_f (by decide) rfl ?_
                  refine aw_skip ?_
                  have h := leafL h hk3
                  exact ⟨_, reb_lit [(2, .ptr 2 0 0), (3, .ptr 3 0 0)] [(2, 0), (3, 0)] [((2, 0), .box [.str a0.Service, .str a0.Op, .str a0.Key, .str a0.Value, .int .i64 a0.Dur, .bool a0.Err]), ((3, 0), .box [.int .u64 a1.Trace.Hi, .int .u64 a1.Trace.Lo, .int .u64 a1.Id, .int .u64 a1.Parent, .str a1.Service, .str a1.Op, .int .i64 a1.Start, .int .i64 a1.Dur, .bool a1.Err, .sl 2 (List.map enc53 a1.Attrs)])] [(2, 1), (3, 1)] (envOk_cons (by conv => lhs; whnf) (by exact rfl) (envOk_cons (by conv => lhs; whnf) (by exact rfl) envOk_nil)) (objOk_cons (by conv => lhs; whnf) (by conv => lhs; whnf) (by exact rfl) (by simp) (objOk_cons (by conv => lhs; whnf) (by conv => lhs; whnf) (by exact rfl) (by simp) objOk_nil)) (nodup_b rfl) (nodup_b rfl) rfl rfl, h, rfl⟩
              · have h := ifF c17 h
                refine alS (some 45) rfl rfl (by decide) ?_
                refine alS (some 46) rfl rfl (by decide) ?_
                refine alS (some 47) rfl rfl (by decide) ?_
                refine alP (some 48) rfl rfl (does_pick (v := .bool false) (by conv => lhs; whnf) (by exact rfl)) (by decide) ?_
                refine alP (some 49) rfl rfl (does_pick (v := .bool false) (by conv => lhs; whnf) (by exact rfl)) (by decide) ?_
                refine al_nil ?_
                refine hK4 _ ?_
                refine aw_cond_f (by decide) rfl ?_
                refine aw_skip ?_
                have h := leafL h hk3
                exact ⟨_, reb_lit [(2, .ptr 2 0 0), (3, .ptr 3 0 0)] [(2, 0), (3, 0)] [((2, 0), .box [.str a0.Service, .str a0.Op, .str a0.Key, .str a0.Value, .int .i64 a0.Dur, .bool a0.Err]), ((3, 0), .box [.int .u64 a1.Trace.Hi, .int .u64 a1.Trace.Lo, .int .u64 a1.Id, .int .u64 a1.Parent, .str a1.Service, .str a1.Op, .int .i64 a1.Start, .int .i64 a1.Dur, .bool a1.Err, .sl 2 (List.map enc53 a1.Attrs)])] [(2, 1), (3, 1)] (envOk_cons (by conv => lhs; whnf) (by exact rfl) (envOk_cons (by conv => lhs; whnf) (by exact rfl) envOk_nil)) (objOk_cons (by conv => lhs; whnf) (by conv => lhs; whnf) (by exact rfl) (by simp) (objOk_cons (by conv => lhs; whnf) (by conv => lhs; whnf) (by exact rfl) (by simp) objOk_nil)) (nodup_b rfl) (nodup_b rfl) rfl rfl, h, rfl⟩
        · have h := ifF c8 h
          refine alS (some 22) rfl rfl (by decide) ?_
          refine alS (some 23) rfl rfl (by decide) ?_
          refine alS (some 24) rfl rfl (by decide) ?_
          refine alS (some 25) rfl rfl (by decide) ?_
          refine alS (some 26) rfl rfl (by decide) ?_
          refine alP (some 27) rfl rfl (does_pick (v := .bool false) (by conv => lhs; whnf) (by exact rfl)) (by decide) ?_
          refine alP (some 28) rfl rfl (does_pick (v := .bool false) (by conv => lhs; whnf) (by exact rfl)) (by decide) ?_
          refine alP (some 29) rfl rfl (does_move (v := .bool false) (by exact rfl)) (by decide) ?_
          refine alP (some 30) rfl rfl (does_fieldAddr (q := .ptr 2 0 4) (by conv => lhs; whnf) ty24 rfl ty3 (by decide) (by exact rfl)) (by decide) ?_
          refine alR (some 31) rfl rfl (does_load (v := .int .i64 a0.Dur) (by conv => lhs; whnf) (by conv => lhs; whnf) ty3 (by exact rfl)) (by decide) ?_
          refine alP (some 32) rfl rfl (does_bin (v := .bool (a0.Dur != 0)) (by conv => lhs; whnf) (by conv => lhs; whnf) rfl) (by decide) ?_
          refine alP (some 33) rfl rfl (does_move (v := .bool (a0.Dur != 0)) (by exact rfl)) (by decide) ?_
          refine al_bool (c := (a0.Dur != 0)) 33 rfl (fun c20 => ?_) (fun c20 => ?_)
          · have h := ifT c20 h
            refine alP (some 34) rfl rfl (does_fieldAddr (q := .ptr 3 0 7) (by conv => lhs; whnf) ty30 rfl ty3 (by decide) (by exact rfl)) (by decide) ?_
            refine alR (some 35) rfl rfl (does_load (v := .int .i64 a1.Dur) (by conv => lhs; whnf) (by conv => lhs; whnf) ty3 (by exact rfl)) (by decide) ?_
            refine alP (some 36) rfl rfl (does_fieldAddr (q := .ptr 2 0 4) (by conv => lhs; whnf) ty24 rfl ty3 (by decide) (by exact rfl)) (by decide) ?_
            refine alR (some 37) rfl rfl (does_load (v := .int .i64 a0.Dur) (by conv => lhs; whnf) (by conv => lhs; whnf) ty3 (by exact rfl)) (by decide) ?_
            refine alP (some 38) rfl rfl (does_bin (v := .bool (decide (a1.Dur < a0.Dur))) (by conv => lhs; whnf) (by conv => lhs; whnf) rfl) (by decide) ?_
            refine alP (some 39) rfl rfl (does_pick (v := .bool (decide (a1.Dur < a0.Dur))) (by conv => lhs; whnf) (by exact rfl)) (by decide) ?_
            refine alP (some 40) rfl rfl (does_pick (v := .bool (decide (a1.Dur < a0.Dur))) (by conv => lhs; whnf) (by exact rfl)) (by decide) ?_
            refine alP (some 41) rfl rfl (does_move (v := .bool (decide (a1.Dur < a0.Dur))) (by exact rfl)) (by decide) ?_
            refine al_bool (c := (decide (a1.Dur < a0.Dur))) 41 rfl (fun c21 => ?_) (fun c21 => ?_)
            · have h := ifT c21 h
              refine alS (some 42) rfl rfl (by decide) ?_
              refine alS (some 43) rfl rfl (by decide) ?_
              refine alS (some 44) rfl rfl (by decide) ?_
              refine alS (some 45) rfl rfl (by decide) ?_
              refine alS (some 46) rfl rfl (by decide) ?_
              refine alS (some 47) rfl rfl (by decide) ?_
              refine alS (some 48) rfl rfl (by decide) ?_
              refine alP (some 49) rfl rfl (does_pick (v := .bool true) (by conv => lhs; whnf) (by exact rfl)) (by decide) ?_
              refine al_nil ?_
              refine hK4 _ ?_
              refine aw_cond_t (by decide) rfl ?_
              refine aw_seq_k (fun K22 hK22 => ?_)
              refine aw_regL ?_
              refine alP (some 4) rfl rfl (does_assign (v := .bool false) (by exact rfl)) (by decide) ?_
              refine al_nil ?_
              refine hK22 _ ?_
              refine aw_ret ?_
              have h := leafR h hk3
              obtain rfl := Option.some.inj h
              exact ret_ok1 (by conv => lhs; whnf) (by conv => lhs; whnf) (by exact rfl) (.inr rfl) rfl
            · have h := ifF c21 h
              refine alP (some 42) rfl rfl (does_fieldAddr (q := .ptr 2 0 5) (by conv => lhs; whnf) ty24 rfl ty4 (by decide) (by exact rfl)) (by decide) ?_
              refine alR (some 43) rfl rfl (does_load (v := .bool a0.Err) (by conv => lhs; whnf) (by conv => lhs; whnf) ty4 (by exact rfl)) (by decide) ?_
              refine alP (some 44) rfl rfl (does_move (v := .bool a0.Err) (by exact rfl)) (by decide) ?_
              refine al_bool (c := a0.Err) 44 rfl (fun c23 => ?_) (fun c23 => ?_)
              · have h := ifT c23 h
                refine alP (some 45) rfl rfl (does_fieldAddr (q := .ptr 3 0 8) (by conv => lhs; whnf) ty30 rfl ty4 (by decide) (by exact rfl)) (by decide) ?_
                refine alR (some 46) rfl rfl (does_load (v := .bool a1.Err) (by conv => lhs; whnf) (by conv => lhs; whnf) ty4 (by exact rfl)) (by decide) ?_
                refine alP (some 47) rfl rfl (does_un (v := .bool (!a1.Err)) (by conv => lhs; whnf) rfl) (by decide) ?_
                refine alP (some 48) rfl rfl (does_pick (v := .bool (!a1.Err)) (by conv => lhs; whnf) (by exact rfl)) (by decide) ?_
                refine alP (some 49) rfl rfl (does_pick (v := .bool (!a1.Err)) (by conv => lhs; whnf) (by exact rfl)) (by decide) ?_
                refine al_nil ?_
                refine hK4 _ ?_
                refine aw_bool (b := (!a1.Err)) 49 rfl (fun c24 => ?_) (fun c24 => ?_)
                · have h := ifT c24 h
                  refine aw_cond_t (by decide) rfl ?_
                  refine aw_seq_k (fun K25 hK25 => ?_)
                  refine aw_regL ?_
                  refine alP (some 4) rfl rfl (does_assign (v := .bool false) (by exact rfl)) (by decide) ?_
                  refine al_nil ?_
                  refine hK25 _ ?_
                  refine aw_ret ?_
                  have h := leafR h hk3
                  obtain rfl := Option.some.inj h
                  exact ret_ok1 (by conv => lhs; whnf) (by conv => lhs; whnf) (by exact rfl) (.inr rfl) rfl
                · have h := ifF c24 h
                  refine aw_cond_f (by decide) rfl ?_
                  refine aw_skip ?_
                  have h := leafL h hk3
                  exact ⟨_, reb_lit [(2, .ptr 2 0 0), (3, .ptr 3 0 0)] [(2, 0), (3, 0)] [((2, 0), .box [.str a0.Service, .str a0.Op, .str a0.Key, .str a0.Value, .int .i64 a0.Dur, .bool a0.Err]), ((3, 0), .box [.int .u64 a1.Trace.Hi, .int .u64 a1.Trace.Lo, .int .u64 a1.Id, .int .u64 a1.Parent, .str a1.Service, .str a1.Op, .int .i64 a1.Start, .int .i64 a1.Dur, .bool a1.Err, .sl 2 (List.map enc53 a1.Attrs)])] [(2, 1), (3, 1)] (envOk_cons (by conv => lhs; whnf) (by exact rfl) (envOk_cons (by conv => lhs; whnf) (by exact rfl) envOk_nil)) (objOk_cons (by conv => lhs; whnf) (by conv => lhs; whnf) (by exact rfl) (by simp) (objOk_cons (by conv => lhs; whnf) (by conv => lhs; whnf) (by exact rfl) (by simp) objOk_nil)) (nodup_b rfl) (nodup_b rfl) rfl rfl, h, rfl⟩
              · have h := ifF c23 h
                refine alS (some 45) rfl rfl (by decide) ?_
                refine alS (some 46) rfl rfl (by decide) ?_
                refine alS (some 47) rfl rfl (by decide) ?_
                refine alP (some 48) rfl rfl (does_pick (v := .bool false) (by conv => lhs; whnf) (by exact rfl)) (by decide) ?_
                refine alP (some 49) rfl rfl (does_pick (v := .bool false) (by conv => lhs; whnf) (by exact rfl)) (by decide) ?_
                refine al_nil ?_
                refine hK4 _ ?_
                refine aw_cond_f (by decide) rfl ?_
                refine aw_skip ?_
                have h := leafL h hk3
                exact ⟨_, reb_lit [(2, .ptr 2 0 0), (3, .ptr 3 0 0)] [(2, 0), (3, 0)] [((2, 0), .box [.str a0.Service, .str a0.Op, .str a0.Key, .str a0.Value, .int .i64 a0.Dur, .bool a0.Err]), ((3, 0), .box [.int .u64 a1.Trace.Hi, .int .u64 a1.Trace.Lo, .int .u64 a1.Id, .int .u64 a1.Parent, .str a1.Service, .str a1.Op, .int .i64 a1.Start, .int .i64 a1.Dur, .bool a1.Err, .sl 2 (List.map enc53 a1.Attrs)])] [(2, 1), (3, 1)] (envOk_cons (by conv => lhs; whnf) (by exact rfl) (envOk_cons (by conv => lhs; whnf) (by exact rfl) envOk_nil)) (objOk_cons (by conv => lhs; whnf) (by conv => lhs; whnf) (by exact rfl) (by simp) (objOk_cons (by conv => lhs; whnf) (by conv => lhs; whnf) (by exact rfl) (by simp) objOk_nil)) (nodup_b rfl) (nodup_b rfl) rfl rfl, h, rfl⟩
          · have h := ifF c20 h
            refine alS (some 34) rfl rfl (by decide) ?_
            refine alS (some 35) rfl rfl (by decide) ?_
            refine alS (some 36) rfl rfl (by decide) ?_
            refine alS (some 37) rfl rfl (by decide) ?_
            refine alS (some 38) rfl rfl (by decide) ?_
            refine alP (some 39) rfl rfl (does_pick (v := .bool false) (by conv => lhs; whnf) (by exact rfl)) (by decide) ?_
            refine alP (some 40) rfl rfl (does_pick (v := .bool false) (by conv => lhs; whnf) (by exact rfl)) (by decide) ?_
            refine alP (some 41) rfl rfl (does_move (v := .bool false) (by exact rfl)) (by decide) ?_
            refine alP (some 42) rfl rfl (does_fieldAddr (q := .ptr 2 0 5) (by conv => lhs; whnf) ty24 rfl ty4 (by decide) (by exact rfl)) (by decide) ?_
            refine alR (some 43) rfl rfl (does_load (v := .bool a0.Err) (by conv => lhs; whnf) (by conv => lhs; whnf) ty4 (by exact rfl)) (by decide) ?_
            refine alP (some 44) rfl rfl (does_move (v := .bool a0.Err) (by exact rfl)) (by decide) ?_
            refine al_bool (c := a0.Err) 44 rfl (fun c26 => ?_) (fun c26 => ?_)
            · have h := ifT c26 h
              refine alP (some 45) rfl rfl (does_fieldAddr (q := .ptr 3 0 8) (by conv => lhs; whnf) ty30 rfl ty4 (by decide) (by exact rfl)) (by decide) ?_
              refine alR (some 46) rfl rfl (does_load (v := .bool a1.Err) (by conv => lhs; whnf) (by conv => lhs; whnf) ty4 (by exact rfl)) (by decide) ?_
              refine alP (some 47) rfl rfl (does_un (v := .bool (!a1.Err)) (by conv => lhs; whnf) rfl) (by decide) ?_
              refine alP (some 48) rfl rfl (does_pick (v := .bool (!a1.Err)) (by conv => lhs; whnf) (by exact rfl)) (by decide) ?_
              refine alP (some 49) rfl rfl (does_pick (v := .bool (!a1.Err)) (by conv => lhs; whnf) (by exact rfl)) (by decide) ?_
              refine al_nil ?_
              refine hK4 _ ?_
              refine aw_bool (b := (!a1.Err)) 49 rfl (fun c27 => ?_) (fun c27 => ?_)
              · have h := ifT c27 h
                refine aw_cond_t (by decide) rfl ?_
                refine aw_seq_k (fun K28 hK28 => ?_)
                refine aw_regL ?_
                refine alP (some 4) rfl rfl (does_assign (v := .bool false) (by exact rfl)) (by decide) ?_
                refine al_nil ?_
                refine hK28 _ ?_
                refine aw_ret ?_
                have h := leafR h hk3
                obtain rfl := Option.some.inj h
                exact ret_ok1 (by conv => lhs; whnf) (by conv => lhs; whnf) (by exact rfl) (.inr rfl) rfl
              · have h := ifF c27 h
                refine aw_cond_f (by decide) rfl ?_
                refine aw_skip ?_
                have h := leafL h hk3
                exact ⟨_, reb_lit [(2, .ptr 2 0 0), (3, .ptr 3 0 0)] [(2, 0), (3, 0)] [((2, 0), .box [.str a0.Service, .str a0.Op, .str a0.Key, .str a0.Value, .int .i64 a0.Dur, .bool a0.Err]), ((3, 0), .box [.int .u64 a1.Trace.Hi, .int .u64 a1.Trace.Lo, .int .u64 a1.Id, .int .u64 a1.Parent, .str a1.Service, .str a1.Op, .int .i64 a1.Start, .int .i64 a1.Dur, .bool a1.Err, .sl 2 (List.map enc53 a1.Attrs)])] [(2, 1), (3, 1)] (envOk_cons (by conv => lhs; whnf) (by exact rfl) (envOk_cons (by conv => lhs; whnf) (by exact rfl) envOk_nil)) (objOk_cons (by conv => lhs; whnf) (by conv => lhs; whnf) (by exact rfl) (by simp) (objOk_cons (by conv => lhs; whnf) (by conv => lhs; whnf) (by exact rfl) (by simp) objOk_nil)) (nodup_b rfl) (nodup_b rfl) rfl rfl, h, rfl⟩
            · have h := ifF c26 h
              refine alS (some 45) rfl rfl (by decide) ?_
              refine alS (some 46) rfl rfl (by decide) ?_
              refine alS (some 47) rfl rfl (by decide) ?_
              refine alP (some 48) rfl rfl (does_pick (v := .bool false) (by conv => lhs; whnf) (by exact rfl)) (by decide) ?_
              refine alP (some 49) rfl rfl (does_pick (v := .bool false) (by conv => lhs; whnf) (by exact rfl)) (by decide) ?_
              refine al_nil ?_
              refine hK4 _ ?_
              refine aw_cond_f (by decide) rfl ?_
              refine aw_skip ?_
              have h := leafL h hk3
              exact ⟨_, reb_lit [(2, .ptr 2 0 0), (3, .ptr 3 0 0)] [(2, 0), (3, 0)] [((2, 0), .box [.str a0.Service, .str a0.Op, .str a0.Key, .str a0.Value, .int .i64 a0.Dur, .bool a0.Err]), ((3, 0), .box [.int .u64 a1.Trace.Hi, .int .u64 a1.Trace.Lo, .int .u64 a1.Id, .int .u64 a1.Parent, .str a1.Service, .str a1.Op, .int .i64 a1.Start, .int .i64 a1.Dur, .bool a1.Err, .sl 2 (List.map enc53 a1.Attrs)])] [(2, 1), (3, 1)] (envOk_cons (by conv => lhs; whnf) (by exact rfl) (envOk_cons (by conv => lhs; whnf) (by exact rfl) envOk_nil)) (objOk_cons (by conv => lhs; whnf) (by conv => lhs; whnf) (by exact rfl) (by simp) (objOk_cons (by conv => lhs; whnf) (by conv => lhs; whnf) (by exact rfl) (by simp) objOk_nil)) (nodup_b rfl) (nodup_b rfl) rfl rfl, h, rfl⟩
    · have h := ifF c5 h
      refine alS (some 11) rfl rfl (by decide) ?_
      refine alS (some 12) rfl rfl (by decide) ?_
      refine alS (some 13) rfl rfl (by decide) ?_
      refine alS (some 14) rfl rfl (by decide) ?_
      refine alS (some 15) rfl rfl (by decide) ?_
      refine alP (some 16) rfl rfl (does_pick (v := .bool false) (by conv => lhs; whnf) (by exact rfl)) (by decide) ?_
      refine alP (some 17) rfl rfl (does_move (v := .bool false) (by exact rfl)) (by decide) ?_
      refine alP (some 18) rfl rfl (does_fieldAddr (q := .ptr 2 0 1) (by conv => lhs; whnf) ty24 rfl ty9 (by decide) (by exact rfl)) (by decide) ?_
      refine alR (some 19) rfl rfl (does_load (v := .str a0.Op) (by conv => lhs; whnf) (by conv => lhs; whnf) ty9 (by exact rfl)) (by decide) ?_
      refine alP (some 20) rfl rfl (does_bin (v := .bool (!(ByteArray.toList a0.Op == ByteArray.toList (strOf [])))) (by conv => lhs; whnf) (by conv => lhs; whnf) rfl) (by decide) ?_
      refine alP (some 21) rfl rfl (does_move (v := .bool (!(ByteArray.toList a0.Op == ByteArray.toList (strOf [])))) (by exact rfl)) (by decide) ?_
      refine al_bool (c := (!(ByteArray.toList a0.Op == ByteArray.toList (strOf [])))) 21 rfl (fun c29 => ?_) (fun c29 => ?_)
      · have h := ifT c29 h
        refine alP (some 22) rfl rfl (does_fieldAddr (q := .ptr 2 0 1) (by conv => lhs; whnf) ty24 rfl ty9 (by decide) (by exact rfl)) (by decide) ?_
        refine alR (some 23) rfl rfl (does_load (v := .str a0.Op) (by conv => lhs; whnf) (by conv => lhs; whnf) ty9 (by exact rfl)) (by decide) ?_
        refine alP (some 24) rfl rfl (does_fieldAddr (q := .ptr 3 0 5) (by conv => lhs; whnf) ty30 rfl ty9 (by decide) (by exact rfl)) (by decide) ?_
        refine alR (some 25) rfl rfl (does_load (v := .str a1.Op) (by conv => lhs; whnf) (by conv => lhs; whnf) ty9 (by exact rfl)) (by decide) ?_
        refine alP (some 26) rfl rfl (does_bin (v := .bool (!(ByteArray.toList a0.Op == ByteArray.toList a1.Op))) (by conv => lhs; whnf) (by conv => lhs; whnf) rfl) (by decide) ?_
        refine alP (some 27) rfl rfl (does_pick (v := .bool (!(ByteArray.toList a0.Op == ByteArray.toList a1.Op))) (by conv => lhs; whnf) (by exact rfl)) (by decide) ?_
        refine alP (some 28) rfl rfl (does_pick (v := .bool (!(ByteArray.toList a0.Op == ByteArray.toList a1.Op))) (by conv => lhs; whnf) (by exact rfl)) (by decide) ?_
        refine alP (some 29) rfl rfl (does_move (v := .bool (!(ByteArray.toList a0.Op == ByteArray.toList a1.Op))) (by exact rfl)) (by decide) ?_
        refine al_bool (c := (!(ByteArray.toList a0.Op == ByteArray.toList a1.Op))) 29 rfl (fun c30 => ?_) (fun c30 => ?_)
        · have h := ifT c30 h
          refine alS (some 30) rfl rfl (by decide) ?_
          refine alS (some 31) rfl rfl (by decide) ?_
          refine alS (some 32) rfl rfl (by decide) ?_
          refine alS (some 33) rfl rfl (by decide) ?_
          refine alS (some 34) rfl rfl (by decide) ?_
          refine alS (some 35) rfl rfl (by decide) ?_
          refine alS (some 36) rfl rfl (by decide) ?_
          refine alS (some 37) rfl rfl (by decide) ?_
          refine alS (some 38) rfl rfl (by decide) ?_
          refine alS (some 39) rfl rfl (by decide) ?_
          refine alP (some 40) rfl rfl (does_pick (v := .bool true) (by conv => lhs; whnf) (by exact rfl)) (by decide) ?_
          refine alP (some 41) rfl rfl (does_move (v := .bool true) (by exact rfl)) (by decide) ?_
          refine alS (some 42) rfl rfl (by decide) ?_
          refine alS (some 43) rfl rfl (by decide) ?_
          refine alS (some 44) rfl rfl (by decide) ?_
          refine alS (some 45) rfl rfl (by decide) ?_
          refine alS (some 46) rfl rfl (by decide) ?_
          refine alS (some 47) rfl rfl (by decide) ?_
          refine alS (some 48) rfl rfl (by decide) ?_
          refine alP (some 49) rfl rfl (does_pick (v := .bool true) (by conv => lhs; whnf) (by exact rfl)) (by decide) ?_
          refine al_nil ?_
          refine hK4 _ ?_
          refine aw_cond_t (by decide) rfl ?_
          refine aw_seq_k (fun K31 hK31 => ?_)
          refine aw_regL ?_
          refine alP (some 4) rfl rfl (does_assign (v := .bool false) (by exact rfl)) (by decide) ?_
          refine al_nil ?_
          refine hK31 _ ?_
          refine aw_ret ?_
          have h := leafR h hk3
          obtain rfl := Option.some.inj h
          exact ret_ok1 (by conv => lhs; whnf) (by conv => lhs; whnf) (by exact rfl) (.inr rfl) rfl
        · have h := ifF c30 h
          refine alP (some 30) rfl rfl (does_fieldAddr (q := .ptr 2 0 4) (by conv => lhs; whnf) ty24 rfl ty3 (by decide) (by exact rfl)) (by decide) ?_
          refine alR (some 31) rfl rfl (does_load (v := .int .i64 a0.Dur) (by conv => lhs; whnf) (by conv => lhs; whnf) ty3 (by exact rfl)) (by decide) ?_
          refine alP (some 32) rfl rfl (does_bin (v := .bool (a0.Dur != 0)) (by conv => lhs; whnf) (by conv => lhs; whnf) rfl) (by decide) ?_
          refine alP (some 33) rfl rfl (does_move (v := .bool (a0.Dur != 0)) (by exact rfl)) (by decide) ?_
          refine al_bool (c := (a0.Dur != 0)) 33 rfl (fun c32 => ?_) (fun c32 => ?_)
          · have h := ifT c32 h
            refine alP (some 34) rfl rfl (does_fieldAddr (q := .ptr 3 0 7) (by conv => lhs; whnf) ty30 rfl ty3 (by decide) (by exact rfl)) (by decide) ?_
            refine alR (some 35) rfl rfl (does_load (v := .int .i64 a1.Dur) (by conv => lhs; whnf) (by conv => lhs; whnf) ty3 (by exact rfl)) (by decide) ?_
            refine alP (some 36) rfl rfl (does_fieldAddr (q := .ptr 2 0 4) (by conv => lhs; whnf) ty24 rfl ty3 (by decide) (by exact rfl)) (by decide) ?_
            refine alR (some 37) rfl rfl (does_load (v := .int .i64 a0.Dur) (by conv => lhs; whnf) (by conv => lhs; whnf) ty3 (by exact rfl)) (by decide) ?_
            refine alP (some 38) rfl rfl (does_bin (v := .bool (decide (a1.Dur < a0.Dur))) (by conv => lhs; whnf) (by conv => lhs; whnf) rfl) (by decide) ?_
            refine alP (some 39) rfl rfl (does_pick (v := .bool (decide (a1.Dur < a0.Dur))) (by conv => lhs; whnf) (by exact rfl)) (by decide) ?_
            refine alP (some 40) rfl rfl (does_pick (v := .bool (decide (a1.Dur < a0.Dur))) (by conv => lhs; whnf) (by exact rfl)) (by decide) ?_
            refine alP (some 41) rfl rfl (does_move (v := .bool (decide (a1.Dur < a0.Dur))) (by exact rfl)) (by decide) ?_
            refine al_bool (c := (decide (a1.Dur < a0.Dur))) 41 rfl (fun c33 => ?_) (fun c33 => ?_)
            · have h := ifT c33 h
              refine alS (some 42) rfl rfl (by decide) ?_
              refine alS (some 43) rfl rfl (by decide) ?_
              refine alS (some 44) rfl rfl (by decide) ?_
              refine alS (some 45) rfl rfl (by decide) ?_
              refine alS (some 46) rfl rfl (by decide) ?_
              refine alS (some 47) rfl rfl (by decide) ?_
              refine alS (some 48) rfl rfl (by decide) ?_
              refine alP (some 49) rfl rfl (does_pick (v := .bool true) (by conv => lhs; whnf) (by exact rfl)) (by decide) ?_
              refine al_nil ?_
              refine hK4 _ ?_
              refine aw_cond_t (by decide) rfl ?_
              refine aw_seq_k (fun K34 hK34 => ?_)
              refine aw_regL ?_
              refine alP (some 4) rfl rfl (does_assign (v := .bool false) (by exact rfl)) (by decide) ?_
              refine al_nil ?_
              refine hK34 _ ?_
              refine aw_ret ?_
              have h := leafR h hk3
              obtain rfl := Option.some.inj h
              exact ret_ok1 (by conv => lhs; whnf) (by conv => lhs; whnf) (by exact rfl) (.inr rfl) rfl
            · have h := ifF c33 h
              refine alP (some 42) rfl rfl (does_fieldAddr (q := .ptr 2 0 5) (by conv => lhs; whnf) ty24 rfl ty4 (by decide) (by exact rfl)) (by decide) ?_
              refine alR (some 43) rfl rfl (does_load (v := .bool a0.Err) (by conv => lhs; whnf) (by conv => lhs; whnf) ty4 (by exact rfl)) (by decide) ?_
              refine alP (some 44) rfl rfl (does_move (v := .bool a0.Err) (by exact rfl)) (by decide) ?_
              refine al_bool (c := a0.Err) 44 rfl (fun c35 => ?_) (fun c35 => ?_)
              · have h := ifT c35 h
                refine alP (some 45) rfl rfl (does_fieldAddr (q := .ptr 3 0 8) (by conv => lhs; whnf) ty30 rfl ty4 (by decide) (by exact rfl)) (by decide) ?_
                refine alR (some 46) rfl rfl (does_load (v := .bool a1.Err) (by conv => lhs; whnf) (by conv => lhs; whnf) ty4 (by exact rfl)) (by decide) ?_
                refine alP (some 47) rfl rfl (does_un (v := .bool (!a1.Err)) (by conv => lhs; whnf) rfl) (by decide) ?_
                refine alP (some 48) rfl rfl (does_pick (v := .bool (!a1.Err)) (by conv => lhs; whnf) (by exact rfl)) (by decide) ?_
                refine alP (some 49) rfl rfl (does_pick (v := .bool (!a1.Err)) (by conv => lhs; whnf) (by exact rfl)) (by decide) ?_
                refine al_nil ?_
                refine hK4 _ ?_
                refine aw_bool (b := (!a1.Err)) 49 rfl (fun c36 => ?_) (fun c36 => ?_)
                · have h := ifT c36 h
                  refine aw_cond_t (by decide) rfl ?_
                  refine aw_seq_k (fun K37 hK37 => ?_)
                  refine aw_regL ?_
                  refine alP (some 4) rfl rfl (does_assign (v := .bool false) (by exact rfl)) (by decide) ?_
                  refine al_nil ?_
                  refine hK37 _ ?_
                  refine aw_ret ?_
                  have h := leafR h hk3
                  obtain rfl := Option.some.inj h
                  exact ret_ok1 (by conv => lhs; whnf) (by conv => lhs; whnf) (by exact rfl) (.inr rfl) rfl
                · have h := ifF c36 h
                  refine aw_cond_f (by decide) rfl ?_
                  refine aw_skip ?_
                  have h := leafL h hk3
                  exact ⟨_, reb_lit [(2, .ptr 2 0 0), (3, .ptr 3 0 0)] [(2, 0), (3, 0)] [((2, 0), .box [.str a0.Service, .str a0.Op, .str a0.Key, .str a0.Value, .int .i64 a0.Dur, .bool a0.Err]), ((3, 0), .box [.int .u64 a1.Trace.Hi, .int .u64 a1.Trace.Lo, .int .u64 a1.Id, .int .u64 a1.Parent, .str a1.Service, .str a1.Op, .int .i64 a1.Start, .int .i64 a1.Dur, .bool a1.Err, .sl 2 (List.map enc53 a1.Attrs)])] [(2, 1), (3, 1)] (envOk_cons (by conv => lhs; whnf) (by exact rfl) (envOk_cons (by conv => lhs; whnf) (by exact rfl) envOk_nil)) (objOk_cons (by conv => lhs; whnf) (by conv => lhs; whnf) (by exact rfl) (by simp) (objOk_cons (by conv => lhs; whnf) (by conv => lhs; whnf) (by exact rfl) (by simp) objOk_nil)) (nodup_b rfl) (nodup_b rfl) rfl rfl, h, rfl⟩
              · have h := ifF c35 h
                refine alS (some 45) rfl rfl (by decide) ?_
                refine alS (some 46) rfl rfl (by decide) ?_
                refine alS (some 47) rfl rfl (by decide) ?_
                refine alP (some 48) rfl rfl (does_pick (v := .bool false) (by conv => lhs; whnf) (by exact rfl)) (by decide) ?_
                refine alP (some 49) rfl rfl (does_pick (v := .bool false) (by conv => lhs; whnf) (by exact rfl)) (by decide) ?_
                refine al_nil ?_
                refine hK4 _ ?_
                refine aw_cond_f (by decide) rfl ?_
                refine aw_skip ?_
                have h := leafL h hk3
                exact ⟨_, reb_lit [(2, .ptr 2 0 0), (3, .ptr 3 0 0)] [(2, 0), (3, 0)] [((2, 0), .box [.str a0.Service, .str a0.Op, .str a0.Key, .str a0.Value, .int .i64 a0.Dur, .bool a0.Err]), ((3, 0), .box [.int .u64 a1.Trace.Hi, .int .u64 a1.Trace.Lo, .int .u64 a1.Id, .int .u64 a1.Parent, .str a1.Service, .str a1.Op, .int .i64 a1.Start, .int .i64 a1.Dur, .bool a1.Err, .sl 2 (List.map enc53 a1.Attrs)])] [(2, 1), (3, 1)] (envOk_cons (by conv => lhs; whnf) (by exact rfl) (envOk_cons (by conv => lhs; whnf) (by exact rfl) envOk_nil)) (objOk_cons (by conv => lhs; whnf) (by conv => lhs; whnf) (by exact rfl) (by simp) (objOk_cons (by conv => lhs; whnf) (by conv => lhs; whnf) (by exact rfl) (by simp) objOk_nil)) (nodup_b rfl) (nodup_b rfl) rfl rfl, h, rfl⟩
          · have h := ifF c32 h
            refine alS (some 34) rfl rfl (by decide) ?_
            refine alS (some 35) rfl rfl (by decide) ?_
            refine alS (some 36) rfl rfl (by decide) ?_
            refine alS (some 37) rfl rfl (by decide) ?_
            refine alS (some 38) rfl rfl (by decide) ?_
            refine alP (some 39) rfl rfl (does_pick (v := .bool false) (by conv => lhs; whnf) (by exact rfl)) (by decide) ?_
            refine alP (some 40) rfl rfl (does_pick (v := .bool false) (by conv => lhs; whnf) (by exact rfl)) (by decide) ?_
            refine alP (some 41) rfl rfl (does_move (v := .bool false) (by exact rfl)) (by decide) ?_
            refine alP (some 42) rfl rfl (does_fieldAddr (q := .ptr 2 0 5) (by conv => lhs; whnf) ty24 rfl ty4 (by decide) (by exact rfl)) (by decide) ?_
            refine alR (some 43) rfl rfl (does_load (v := .bool a0.Err) (by conv => lhs; whnf) (by conv => lhs; whnf) ty4 (by exact rfl)) (by decide) ?_
            refine alP (some 44) rfl rfl (does_move (v := .bool a0.Err) (by exact rfl)) (by decide) ?_
            refine al_bool (c := a0.Err) 44 rfl (fun c38 => ?_) (fun c38 => ?_)
            · have h := ifT c38 h
              refine alP (some 45) rfl rfl (does_fieldAddr (q := .ptr 3 0 8) (by conv => lhs; whnf) ty30 rfl ty4 (by decide) (by exact rfl)) (by decide) ?_
              refine alR (some 46) rfl rfl (does_load (v := .bool a1.Err) (by conv => lhs; whnf) (by conv => lhs; whnf) ty4 (by exact rfl)) (by decide) ?_
              refine alP (some 47) rfl rfl (does_un (v := .bool (!a1.Err)) (by conv => lhs; whnf) rfl) (by decide) ?_
              refine alP (some 48) rfl rfl (does_pick (v := .bool (!a1.Err)) (by conv => lhs; whnf) (by exact rfl)) (by decide) ?_
              refine alP (some 49) rfl rfl (does_pick (v := .bool (!a1.Err)) (by conv => lhs; whnf) (by exact rfl)) (by decide) ?_
              refine al_nil ?_
              refine hK4 _ ?_
              refine aw_bool (b := (!a1.Err)) 49 rfl (fun c39 => ?_) (fun c39 => ?_)
              · have h := ifT c39 h
                refine aw_cond_t (by decide) rfl ?_
                refine aw_seq_k (fun K40 hK40 => ?_)
                refine aw_regL ?_
                refine alP (some 4) rfl rfl (does_assign (v := .bool false) (by exact rfl)) (by decide) ?_
                refine al_nil ?_
                refine hK40 _ ?_
                refine aw_ret ?_
                have h := leafR h hk3
                obtain rfl := Option.some.inj h
                exact ret_ok1 (by conv => lhs; whnf) (by conv => lhs; whnf) (by exact rfl) (.inr rfl) rfl
              · have h := ifF c39 h
                refine aw_cond_f (by decide) rfl ?_
                refine aw_skip ?_
                have h := leafL h hk3
                exact ⟨_, reb_lit [(2, .ptr 2 0 0), (3, .ptr 3 0 0)] [(2, 0), (3, 0)] [((2, 0), .box [.str a0.Service, .str a0.Op, .str a0.Key, .str a0.Value, .int .i64 a0.Dur, .bool a0.Err]), ((3, 0), .box [.int .u64 a1.Trace.Hi, .int .u64 a1.Trace.Lo, .int .u64 a1.Id, .int .u64 a1.Parent, .str a1.Service, .str a1.Op, .int .i64 a1.Start, .int .i64 a1.Dur, .bool a1.Err, .sl 2 (List.map enc53 a1.Attrs)])] [(2, 1), (3, 1)] (envOk_cons (by conv => lhs; whnf) (by exact rfl) (envOk_cons (by conv => lhs; whnf) (by exact rfl) envOk_nil)) (objOk_cons (by conv => lhs; whnf) (by conv => lhs; whnf) (by exact rfl) (by simp) (objOk_cons (by conv => lhs; whnf) (by conv => lhs; whnf) (by exact rfl) (by simp) objOk_nil)) (nodup_b rfl) (nodup_b rfl) rfl rfl, h, rfl⟩
            · have h := ifF c38 h
              refine alS (some 45) rfl rfl (by decide) ?_
              refine alS (some 46) rfl rfl (by decide) ?_
              refine alS (some 47) rfl rfl (by decide) ?_
              refine alP (some 48) rfl rfl (does_pick (v := .bool false) (by conv => lhs; whnf) (by exact rfl)) (by decide) ?_
              refine alP (some 49) rfl rfl (does_pick (v := .bool false) (by conv => lhs; whnf) (by exact rfl)) (by decide) ?_
              refine al_nil ?_
              refine hK4 _ ?_
              refine aw_cond_f (by decide) rfl ?_
              refine aw_skip ?_
              have h := leafL h hk3
              exact ⟨_, reb_lit [(2, .ptr 2 0 0), (3, .ptr 3 0 0)] [(2, 0), (3, 0)] [((2, 0), .box [.str a0.Service, .str a0.Op, .str a0.Key, .str a0.Value, .int .i64 a0.Dur, .bool a0.Err]), ((3, 0), .box [.int .u64 a1.Trace.Hi, .int .u64 a1.Trace.Lo, .int .u64 a1.Id, .int .u64 a1.Parent, .str a1.Service, .str a1.Op, .int .i64 a1.Start, .int .i64 a1.Dur, .bool a1.Err, .sl 2 (List.map enc53 a1.Attrs)])] [(2, 1), (3, 1)] (envOk_cons (by conv => lhs; whnf) (by exact rfl) (envOk_cons (by conv => lhs; whnf) (by exact rfl) envOk_nil)) (objOk_cons (by conv => lhs; whnf) (by conv => lhs; whnf) (by exact rfl) (by simp) (objOk_cons (by conv => lhs; whnf) (by conv => lhs; whnf) (by exact rfl) (by simp) objOk_nil)) (nodup_b rfl) (nodup_b rfl) rfl rfl, h, rfl⟩
      · have h := ifF c29 h
        refine alS (some 22) rfl rfl (by decide) ?_
        refine alS (some 23) rfl rfl (by decide) ?_
        refine alS (some 24) rfl rfl (by decide) ?_
        refine alS (some 25) rfl rfl (by decide) ?_
        refine alS (some 26) rfl rfl (by decide) ?_
        refine alP (some 27) rfl rfl (does_pick (v := .bool false) (by conv => lhs; whnf) (by exact rfl)) (by decide) ?_
        refine alP (some 28) rfl rfl (does_pick (v := .bool false) (by conv => lhs; whnf) (by exact rfl)) (by decide) ?_
        refine alP (some 29) rfl rfl (does_move (v := .bool false) (by exact rfl)) (by decide) ?_
        refine alP (some 30) rfl rfl (does_fieldAddr (q := .ptr 2 0 4) (by conv => lhs; whnf) ty24 rfl ty3 (by decide) (by exact rfl)) (by decide) ?_
        refine alR (some 31) rfl rfl (does_load (v := .int .i64 a0.Dur) (by conv => lhs; whnf) (by conv => lhs; whnf) ty3 (by exact rfl)) (by decide) ?_
        refine alP (some 32) rfl rfl (does_bin (v := .bool (a0.Dur != 0)) (by conv => lhs; whnf) (by conv => lhs; whnf) rfl) (by decide) ?_
        refine alP (some 33) rfl rfl (does_move (v := .bool (a0.Dur != 0)) (by exact rfl)) (by decide) ?_
        refine al_bool (c := (a0.Dur != 0)) 33 rfl (fun c41 => ?_) (fun c41 => ?_)
        · have h := ifT c41 h
          refine alP (some 34) rfl rfl (does_fieldAddr (q := .ptr 3 0 7) (by conv => lhs; whnf) ty30 rfl ty3 (by decide) (by exact rfl)) (by decide) ?_
          refine alR (some 35) rfl rfl (does_load (v := .int .i64 a1.Dur) (by conv => lhs; whnf) (by conv => lhs; whnf) ty3 (by exact rfl)) (by decide) ?_
          refine alP (some 36) rfl rfl (does_fieldAddr (q := .ptr 2 0 4) (by conv => lhs; whnf) ty24 rfl ty3 (by decide) (by exact rfl)) (by decide) ?_
          refine alR (some 37) rfl rfl (does_load (v := .int .i64 a0.Dur) (by conv => lhs; whnf) (by conv => lhs; whnf) ty3 (by exact rfl)) (by decide) ?_
          refine alP (some 38) rfl rfl (does_bin (v := .bool (decide (a1.Dur < a0.Dur))) (by conv => lhs; whnf) (by conv => lhs; whnf) rfl) (by decide) ?_
          refine alP (some 39) rfl rfl (does_pick (v := .bool (decide (a1.Dur < a0.Dur))) (by conv => lhs; whnf) (by exact rfl)) (by decide) ?_
          refine alP (some 40) rfl rfl (does_pick (v := .bool (decide (a1.Dur < a0.Dur))) (by conv => lhs; whnf) (by exact rfl)) (by decide) ?_
          refine alP (some 41) rfl rfl (does_move (v := .bool (decide (a1.Dur < a0.Dur))) (by exact rfl)) (by decide) ?_
          refine al_bool (c := (decide (a1.Dur < a0.Dur))) 41 rfl (fun c42 => ?_) (fun c42 => ?_)
          · have h := ifT c42 h
            refine alS (some 42) rfl rfl (by decide) ?_
            refine alS (some 43) rfl rfl (by decide) ?_
            refine alS (some 44) rfl rfl (by decide) ?_
            refine alS (some 45) rfl rfl (by decide) ?_
            refine alS (some 46) rfl rfl (by decide) ?_
            refine alS (some 47) rfl rfl (by decide) ?_
            refine alS (some 48) rfl rfl (by decide) ?_
            refine alP (some 49) rfl rfl (does_pick (v := .bool true) (by conv => lhs; whnf) (by exact rfl)) (by decide) ?_
            refine al_nil ?_
            refine hK4 _ ?_
            refine aw_cond_t (by decide) rfl ?_
            refine aw_seq_k (fun K43 hK43 => ?_)
            refine aw_regL ?_
            refine alP (some 4) rfl rfl (does_assign (v := .bool false) (by exact rfl)) (by decide) ?_
            refine al_nil ?_
            refine hK43 _ ?_
            refine aw_ret ?_
            have h := leafR h hk3
            obtain rfl := Option.some.inj h
            exact ret_ok1 (by conv => lhs; whnf) (by conv => lhs; whnf) (by exact rfl) (.inr rfl) rfl
          · have h := ifF c42 h
            refine alP (some 42) rfl rfl (does_fieldAddr (q := .ptr 2 0 5) (by conv => lhs; whnf) ty24 rfl ty4 (by decide) (by exact rfl)) (by decide) ?_
            refine alR (some 43) rfl rfl (does_load (v := .bool a0.Err) (by conv => lhs; whnf) (by conv => lhs; whnf) ty4 (by exact rfl)) (by decide) ?_
            refine alP (some 44) rfl rfl (does_move (v := .bool a0.Err) (by exact rfl)) (by decide) ?_
            refine al_bool (c := a0.Err) 44 rfl (fun c44 => ?_) (fun c44 => ?_)
            · have h := ifT c44 h
              refine alP (some 45) rfl rfl (does_fieldAddr (q := .ptr 3 0 8) (by conv => lhs; whnf) ty30 rfl ty4 (by decide) (by exact rfl)) (by decide) ?_
              refine alR (some 46) rfl rfl (does_load (v := .bool a1.Err) (by conv => lhs; whnf) (by conv => lhs; whnf) ty4 (by exact rfl)) (by decide) ?_
              refine alP (some 47) rfl rfl (does_un (v := .bool (!a1.Err)) (by conv => lhs; whnf) rfl) (by decide) ?_
              refine alP (some 48) rfl rfl (does_pick (v := .bool (!a1.Err)) (by conv => lhs; whnf) (by exact rfl)) (by decide) ?_
              refine alP (some 49) rfl rfl (does_pick (v := .bool (!a1.Err)) (by conv => lhs; whnf) (by exact rfl)) (by decide) ?_
              refine al_nil ?_
              refine hK4 _ ?_
              refine aw_bool (b := (!a1.Err)) 49 rfl (fun c45 => ?_) (fun c45 => ?_)
              · have h := ifT c45 h
                refine aw_cond_t (by decide) rfl ?_
                refine aw_seq_k (fun K46 hK46 => ?_)
                refine aw_regL ?_
                refine alP (some 4) rfl rfl (does_assign (v := .bool false) (by exact rfl)) (by decide) ?_
                refine al_nil ?_
                refine hK46 _ ?_
                refine aw_ret ?_
                have h := leafR h hk3
                obtain rfl := Option.some.inj h
                exact ret_ok1 (by conv => lhs; whnf) (by conv => lhs; whnf) (by exact rfl) (.inr rfl) rfl
              · have h := ifF c45 h
                refine aw_cond_f (by decide) rfl ?_
                refine aw_skip ?_
                have h := leafL h hk3
                exact ⟨_, reb_lit [(2, .ptr 2 0 0), (3, .ptr 3 0 0)] [(2, 0), (3, 0)] [((2, 0), .box [.str a0.Service, .str a0.Op, .str a0.Key, .str a0.Value, .int .i64 a0.Dur, .bool a0.Err]), ((3, 0), .box [.int .u64 a1.Trace.Hi, .int .u64 a1.Trace.Lo, .int .u64 a1.Id, .int .u64 a1.Parent, .str a1.Service, .str a1.Op, .int .i64 a1.Start, .int .i64 a1.Dur, .bool a1.Err, .sl 2 (List.map enc53 a1.Attrs)])] [(2, 1), (3, 1)] (envOk_cons (by conv => lhs; whnf) (by exact rfl) (envOk_cons (by conv => lhs; whnf) (by exact rfl) envOk_nil)) (objOk_cons (by conv => lhs; whnf) (by conv => lhs; whnf) (by exact rfl) (by simp) (objOk_cons (by conv => lhs; whnf) (by conv => lhs; whnf) (by exact rfl) (by simp) objOk_nil)) (nodup_b rfl) (nodup_b rfl) rfl rfl, h, rfl⟩
            · have h := ifF c44 h
              refine alS (some 45) rfl rfl (by decide) ?_
              refine alS (some 46) rfl rfl (by decide) ?_
              refine alS (some 47) rfl rfl (by decide) ?_
              refine alP (some 48) rfl rfl (does_pick (v := .bool false) (by conv => lhs; whnf) (by exact rfl)) (by decide) ?_
              refine alP (some 49) rfl rfl (does_pick (v := .bool false) (by conv => lhs; whnf) (by exact rfl)) (by decide) ?_
              refine al_nil ?_
              refine hK4 _ ?_
              refine aw_cond_f (by decide) rfl ?_
              refine aw_skip ?_
              have h := leafL h hk3
              exact ⟨_, reb_lit [(2, .ptr 2 0 0), (3, .ptr 3 0 0)] [(2, 0), (3, 0)] [((2, 0), .box [.str a0.Service, .str a0.Op, .str a0.Key, .str a0.Value, .int .i64 a0.Dur, .bool a0.Err]), ((3, 0), .box [.int .u64 a1.Trace.Hi, .int .u64 a1.Trace.Lo, .int .u64 a1.Id, .int .u64 a1.Parent, .str a1.Service, .str a1.Op, .int .i64 a1.Start, .int .i64 a1.Dur, .bool a1.Err, .sl 2 (List.map enc53 a1.Attrs)])] [(2, 1), (3, 1)] (envOk_cons (by conv => lhs; whnf) (by exact rfl) (envOk_cons (by conv => lhs; whnf) (by exact rfl) envOk_nil)) (objOk_cons (by conv => lhs; whnf) (by conv => lhs; whnf) (by exact rfl) (by simp) (objOk_cons (by conv => lhs; whnf) (by conv => lhs; whnf) (by exact rfl) (by simp) objOk_nil)) (nodup_b rfl) (nodup_b rfl) rfl rfl, h, rfl⟩
        · have h := ifF c41 h
          refine alS (some 34) rfl rfl (by decide) ?_
          refine alS (some 35) rfl rfl (by decide) ?_
          refine alS (some 36) rfl rfl (by decide) ?_
          refine alS (some 37) rfl rfl (by decide) ?_
          refine alS (some 38) rfl rfl (by decide) ?_
          refine alP (some 39) rfl rfl (does_pick (v := .bool false) (by conv => lhs; whnf) (by exact rfl)) (by decide) ?_
          refine alP (some 40) rfl rfl (does_pick (v := .bool false) (by conv => lhs; whnf) (by exact rfl)) (by decide) ?_
          refine alP (some 41) rfl rfl (does_move (v := .bool false) (by exact rfl)) (by decide) ?_
          refine alP (some 42) rfl rfl (does_fieldAddr (q := .ptr 2 0 5) (by conv => lhs; whnf) ty24 rfl ty4 (by decide) (by exact rfl)) (by decide) ?_
          refine alR (some 43) rfl rfl (does_load (v := .bool a0.Err) (by conv => lhs; whnf) (by conv => lhs; whnf) ty4 (by exact rfl)) (by decide) ?_
          refine alP (some 44) rfl rfl (does_move (v := .bool a0.Err) (by exact rfl)) (by decide) ?_
          refine al_bool (c := a0.Err) 44 rfl (fun c47 => ?_) (fun c47 => ?_)
          · have h := ifT c47 h
            refine alP (some 45) rfl rfl (does_fieldAddr (q := .ptr 3 0 8) (by conv => lhs; whnf) ty30 rfl ty4 (by decide) (by exact rfl)) (by decide) ?_
            refine alR (some 46) rfl rfl (does_load (v := .bool a1.Err) (by conv => lhs; whnf) (by conv => lhs; whnf) ty4 (by exact rfl)) (by decide) ?_
            refine alP (some 47) rfl rfl (does_un (v := .bool (!a1.Err)) (by conv => lhs; whnf) rfl) (by decide) ?_
            refine alP (some 48) rfl rfl (does_pick (v := .bool (!a1.Err)) (by conv => lhs; whnf) (by exact rfl)) (by decide) ?_
            refine alP (some 49) rfl rfl (does_pick (v := .bool (!a1.Err)) (by conv => lhs; whnf) (by exact rfl)) (by decide) ?_
            refine al_nil ?_
            refine hK4 _ ?_
            refine aw_bool (b := (!a1.Err)) 49 rfl (fun c48 => ?_) (fun c48 => ?_)
            · have h := ifT c48 h
              refine aw_cond_t (by decide) rfl ?_
              refine aw_seq_k (fun K49 hK49 => ?_)
              refine aw_regL ?_
              refine alP (some 4) rfl rfl (does_assign (v := .bool false) (by exact rfl)) (by decide) ?_
              refine al_nil ?_
              refine hK49 _ ?_
              refine aw_ret ?_
              have h := leafR h hk3
              obtain rfl := Option.some.inj h
              exact ret_ok1 (by conv => lhs; whnf) (by conv => lhs; whnf) (by exact rfl) (.inr rfl) rfl
            · have h := ifF c48 h
              refine aw_cond_f (by decide) rfl ?_
              refine aw_skip ?_
              have h := leafL h hk3
              exact ⟨_, reb_lit [(2, .ptr 2 0 0), (3, .ptr 3 0 0)] [(2, 0), (3, 0)] [((2, 0), .box [.str a0.Service, .str a0.Op, .str a0.Key, .str a0.Value, .int .i64 a0.Dur, .bool a0.Err]), ((3, 0), .box [.int .u64 a1.Trace.Hi, .int .u64 a1.Trace.Lo, .int .u64 a1.Id, .int .u64 a1.Parent, .str a1.Service, .str a1.Op, .int .i64 a1.Start, .int .i64 a1.Dur, .bool a1.Err, .sl 2 (List.map enc53 a1.Attrs)])] [(2, 1), (3, 1)] (envOk_cons (by conv => lhs; whnf) (by exact rfl) (envOk_cons (by conv => lhs; whnf) (by exact rfl) envOk_nil)) (objOk_cons (by conv => lhs; whnf) (by conv => lhs; whnf) (by exact rfl) (by simp) (objOk_cons (by conv => lhs; whnf) (by conv => lhs; whnf) (by exact rfl) (by simp) objOk_nil)) (nodup_b rfl) (nodup_b rfl) rfl rfl, h, rfl⟩
          · have h := ifF c47 h
            refine alS (some 45) rfl rfl (by decide) ?_
            refine alS (some 46) rfl rfl (by decide) ?_
            refine alS (some 47) rfl rfl (by decide) ?_
            refine alP (some 48) rfl rfl (does_pick (v := .bool false) (by conv => lhs; whnf) (by exact rfl)) (by decide) ?_
            refine alP (some 49) rfl rfl (does_pick (v := .bool false) (by conv => lhs; whnf) (by exact rfl)) (by decide) ?_
            refine al_nil ?_
            refine hK4 _ ?_
            refine aw_cond_f (by decide) rfl ?_
            refine aw_skip ?_
            have h := leafL h hk3
            exact ⟨_, reb_lit [(2, .ptr 2 0 0), (3, .ptr 3 0 0)] [(2, 0), (3, 0)] [((2, 0), .box [.str a0.Service, .str a0.Op, .str a0.Key, .str a0.Value, .int .i64 a0.Dur, .bool a0.Err]), ((3, 0), .box [.int .u64 a1.Trace.Hi, .int .u64 a1.Trace.Lo, .int .u64 a1.Id, .int .u64 a1.Parent, .str a1.Service, .str a1.Op, .int .i64 a1.Start, .int .i64 a1.Dur, .bool a1.Err, .sl 2 (List.map enc53 a1.Attrs)])] [(2, 1), (3, 1)] (envOk_cons (by conv => lhs; whnf) (by exact rfl) (envOk_cons (by conv => lhs; whnf) (by exact rfl) envOk_nil)) (objOk_cons (by conv => lhs; whnf) (by conv => lhs; whnf) (by exact rfl) (by simp) (objOk_cons (by conv => lhs; whnf) (by conv => lhs; whnf) (by exact rfl) (by simp) objOk_nil)) (nodup_b rfl) (nodup_b rfl) rfl rfl, h, rfl⟩
  · rintro s ⟨h, rfl⟩
    unfold gleaningref28_Match_k0 at h
    obtain ⟨q50, h, hk51⟩ := bnd_some h
    refine aw_cut (fun s => ∃ (v5_1 : Bool), gleaningref28_Match_k1 a0 a1 v5_1 = some r ∧ s = lit [(2, .ptr 2 0 0), (3, .ptr 3 0 0), (5, .bool v5_1)] [((2, 0), .box [.str a0.Service, .str a0.Op, .str a0.Key, .str a0.Value, .int .i64 a0.Dur, .bool a0.Err]), ((3, 0), .box [.int .u64 a1.Trace.Hi, .int .u64 a1.Trace.Lo, .int .u64 a1.Id, .int .u64 a1.Parent, .str a1.Service, .str a1.Op, .int .i64 a1.Start, .int .i64 a1.Dur, .bool a1.Err, .sl 2 (List.map enc53 a1.Attrs)])] [(2, 1), (3, 1)] X) ?_ ?_
    · skip
      refine aw_regL ?_
      refine alP (some 50) rfl rfl (does_fieldAddr (q := .ptr 2 0 2) (by conv => lhs; whnf) ty24 rfl ty9 (by decide) (by exact rfl)) (by decide) ?_
      refine alR (some 51) rfl rfl (does_load (v := .str a0.Key) (by conv => lhs; whnf) (by conv => lhs; whnf) ty9 (by exact rfl)) (by decide) ?_
      refine alP (some 52) rfl rfl (does_bin (v := .bool (ByteArray.toList a0.Key == ByteArray.toList (strOf []))) (by conv => lhs; whnf) (by conv => lhs; whnf) rfl) (by decide) ?_
      refine alP (some 53) rfl rfl (does_move (v := .bool (ByteArray.toList a0.Key == ByteArray.toList (strOf []))) (by exact rfl)) (by decide) ?_
      refine al_bool (c := (ByteArray.toList a0.Key == ByteArray.toList (strOf []))) 53 rfl (fun c52 => ?_) (fun c52 => ?_)
      · have h := ifT c52 h
        refine alP (some 54) rfl rfl (does_fieldAddr (q := .ptr 2 0 3) (by conv => lhs; whnf) ty24 rfl ty9 (by decide) (by exact rfl)) (by decide) ?_
        refine alR (some 55) rfl rfl (does_load (v := .str a0.Value) (by conv => lhs; whnf) (by conv => lhs; whnf) ty9 (by exact rfl)) (by decide) ?_
        refine alP (some 56) rfl rfl (does_bin (v := .bool (ByteArray.toList a0.Value == ByteArray.toList (strOf []))) (by conv => lhs; whnf) (by conv => lhs; whnf) rfl) (by decide) ?_
        refine alP (some 57) rfl rfl (does_pick (v := .bool (ByteArray.toList a0.Value == ByteArray.toList (strOf []))) (by conv => lhs; whnf) (by exact rfl)) (by decide) ?_
        refine alP (some 5) rfl rfl (does_assign (v := .bool (ByteArray.toList a0.Value == ByteArray.toList (strOf []))) (by exact rfl)) (by decide) ?_
        refine al_nil ?_
        obtain rfl := Option.some.inj h
        have h := hk51
        exact ⟨_, reb_lit [(2, .ptr 2 0 0), (3, .ptr 3 0 0), (5, .bool (ByteArray.toList a0.Value == ByteArray.toList (strOf [])))] [(2, 0), (3, 0)] [((2, 0), .box [.str a0.Service, .str a0.Op, .str a0.Key, .str a0.Value, .int .i64 a0.Dur, .bool a0.Err]), ((3, 0), .box [.int .u64 a1.Trace.Hi, .int .u64 a1.Trace.Lo, .int .u64 a1.Id, .int .u64 a1.Parent, .str a1.Service, .str a1.Op, .int .i64 a1.Start, .int .i64 a1.Dur, .bool a1.Err, .sl 2 (List.map enc53 a1.Attrs)])] [(2, 1), (3, 1)] (envOk_cons (by conv => lhs; whnf) (by exact rfl) (envOk_cons (by conv => lhs; whnf) (by exact rfl) (envOk_cons (by conv => lhs; whnf) (by exact rfl) envOk_nil))) (objOk_cons (by conv => lhs; whnf) (by conv => lhs; whnf) (by exact rfl) (by simp) (objOk_cons (by conv => lhs; whnf) (by conv => lhs; whnf) (by exact rfl) (by simp) objOk_nil)) (nodup_b rfl) (nodup_b rfl) rfl rfl, (ByteArray.toList a0.Value == ByteArray.toList (strOf [])), h, rfl⟩
      · have h := ifF c52 h
        refine alS (some 54) rfl rfl (by decide) ?_
        refine alS (some 55) rfl rfl (by decide) ?_
        refine alS (some 56) rfl rfl (by decide) ?_
        refine alP (some 57) rfl rfl (does_pick (v := .bool false) (by conv => lhs; whnf) (by exact rfl)) (by decide) ?_
        refine alP (some 5) rfl rfl (does_assign (v := .bool false) (by exact rfl)) (by decide) ?_
        refine al_nil ?_
        obtain rfl := Option.some.inj h
        have h := hk51
        exact ⟨_, reb_lit [(2, .ptr 2 0 0), (3, .ptr 3 0 0), (5, .bool false)] [(2, 0), (3, 0)] [((2, 0), .box [.str a0.Service, .str a0.Op, .str a0.Key, .str a0.Value, .int .i64 a0.Dur, .bool a0.Err]), ((3, 0), .box [.int .u64 a1.Trace.Hi, .int .u64 a1.Trace.Lo, .int .u64 a1.Id, .int .u64 a1.Parent, .str a1.Service, .str a1.Op, .int .i64 a1.Start, .int .i64 a1.Dur, .bool a1.Err, .sl 2 (List.map enc53 a1.Attrs)])] [(2, 1), (3, 1)] (envOk_cons (by conv => lhs; whnf) (by exact rfl) (envOk_cons (by conv => lhs; whnf) (by exact rfl) (envOk_cons (by conv => lhs; whnf) (by exact rfl) envOk_nil))) (objOk_cons (by conv => lhs; whnf) (by conv => lhs; whnf) (by exact rfl) (by simp) (objOk_cons (by conv => lhs; whnf) (by conv => lhs; whnf) (by exact rfl) (by simp) objOk_nil)) (nodup_b rfl) (nodup_b rfl) rfl rfl, false, h, rfl⟩
    · rintro s ⟨v5_1, h, rfl⟩
      unfold gleaningref28_Match_k1 at h
      refine aw_seq_k (fun K53 hK53 => ?_)
      refine aw_seq_k (fun K54 hK54 => ?_)
      refine aw_regL ?_
      refine alP (some 6) rfl rfl (does_assign (v := .int .i64 0) (by exact rfl)) (by decide) ?_
      refine al_nil ?_
      refine hK54 _ ?_
      refine aw_block ?_
      refine aw_loop' (fun m s => ∃ (v5_2 : Bool), ∃ (v6_2 : Int), loopN (fun (s : Bool × Int) => gleaningref28_Match_l2 a0 a1 s.1 s.2) m (v5_2, v6_2) = some r ∧ s = lit [(2, .ptr 2 0 0), (3, .ptr 3 0 0), (5, .bool v5_2), (6, .int .i64 v6_2)] [((2, 0), .box [.str a0.Service, .str a0.Op, .str a0.Key, .str a0.Value, .int .i64 a0.Dur, .bool a0.Err]), ((3, 0), .box [.int .u64 a1.Trace.Hi, .int .u64 a1.Trace.Lo, .int .u64 a1.Id, .int .u64 a1.Parent, .str a1.Service, .str a1.Op, .int .i64 a1.Start, .int .i64 a1.Dur, .bool a1.Err, .sl 2 (List.map enc53 a1.Attrs)])] [(2, 1), (3, 1)] X) Fu
        ⟨_, reb_lit [(2, .ptr 2 0 0), (3, .ptr 3 0 0), (5, .bool v5_1), (6, .int .i64 (0))] [(2, 0), (3, 0)] [((2, 0), .box [.str a0.Service, .str a0.Op, .str a0.Key, .str a0.Value, .int .i64 a0.Dur, .bool a0.Err]), ((3, 0), .box [.int .u64 a1.Trace.Hi, .int .u64 a1.Trace.Lo, .int .u64 a1.Id, .int .u64 a1.Parent, .str a1.Service, .str a1.Op, .int .i64 a1.Start, .int .i64 a1.Dur, .bool a1.Err, .sl 2 (List.map enc53 a1.Attrs)])] [(2, 1), (3, 1)] (envOk_cons (by conv => lhs; whnf) (by exact rfl) (envOk_cons (by conv => lhs; whnf) (by exact rfl) (envOk_cons (by conv => lhs; whnf) (by exact rfl) (envOk_cons (by conv => lhs; whnf) (by exact rfl) envOk_nil)))) (objOk_cons (by conv => lhs; whnf) (by conv => lhs; whnf) (by exact rfl) (by simp) (objOk_cons (by conv => lhs; whnf) (by conv => lhs; whnf) (by exact rfl) (by simp) objOk_nil)) (nodup_b rfl) (nodup_b rfl) rfl rfl, v5_1, 0, h, rfl⟩ ?_
      rintro m s ⟨v5_2, v6_2, h, rfl⟩
      obtain ⟨m2, q55, rfl, h, hq56⟩ := loop_some h
      replace h : gleaningref28_Match_l2 a0 a1 v5_2 v6_2 = some q55 := h
      unfold gleaningref28_Match_l2 at h
      refine aw_seq_k (fun K57 hK57 => ?_)
      refine aw_seq_k (fun K58 hK58 => ?_)
      refine aw_regL ?_
      refine alP (some 58) rfl rfl (does_move (v := .int .i64 v6_2) (by exact rfl)) (by decide) ?_
      refine alP (some 59) rfl rfl (does_fieldAddr (q := .ptr 3 0 9) (by conv => lhs; whnf) ty30 rfl ty28 (by decide) (by exact rfl)) (by decide) ?_
      refine alR (some 60) rfl rfl (does_load (v := .sl 2 (List.map enc53 a1.Attrs)) (by conv => lhs; whnf) (by conv => lhs; whnf) ty28 (by exact rfl)) (by decide) ?_
      refine alP (some 61) rfl rfl ((does_len_sl (by conv => lhs; whnf) ty28).castp (v' := .int .i64 (List.length a1.Attrs : Int)) (by exact len_map _)) (by decide) ?_
      refine alP (some 62) rfl rfl (does_bin (v := .bool (decide (v6_2 < (List.length a1.Attrs : Int)))) (by conv => lhs; whnf) (by conv => lhs; whnf) rfl) (by decide) ?_
      refine al_nil ?_
      refine hK58 _ ?_
      refine aw_bool (b := (decide (v6_2 < (List.length a1.Attrs : Int)))) 62 rfl (fun c59 => ?_) (fun c59 => ?_)
      · have h := ifT c59 h
        refine aw_cond_t (by decide) rfl ?_
        refine aw_skip ?_
        refine hK57 _ ?_
        refine aw_seq_k (fun K60 hK60 => ?_)
        refine aw_block ?_
        refine aw_regd (by kernel_rfl) (by decide +kernel) ?_
        refine aoP (some 65) rfl rfl (does_move (v := .bool v5_2) (by exact rfl)) (by decide) ?_
        refine aoP (some 66) rfl rfl (does_move (v := .bool v5_2) (by exact rfl)) (by decide) ?_
        refine ao_bool (c := v5_2) 66 rfl (fun c61 => ?_) (fun c61 => ?_)
        · have h := ifT c61 h
          refine aoS (some 67) rfl rfl (by decide) ?_
          refine aoS (some 68) rfl rfl (by decide) ?_
          refine aoS (some 69) rfl rfl (by decide) ?_
          refine aoS (some 70) rfl rfl (by decide) ?_
          refine aoS (some 71) rfl rfl (by decide) ?_
          refine aoS (some 72) rfl rfl (by decide) ?_
          refine aoS (some 73) rfl rfl (by decide) ?_
          refine aoS (some 74) rfl rfl (by decide) ?_
          refine aoS (some 75) rfl rfl (by decide) ?_
          refine aoS (some 76) rfl rfl (by decide) ?_
          refine aoS (some 77) rfl rfl (by decide) ?_
          refine aoS (some 78) rfl rfl (by decide) ?_
          refine aoS (some 79) rfl rfl (by decide) ?_
          refine aoS (some 80) rfl rfl (by decide) ?_
          refine aoS (some 81) rfl rfl (by decide) ?_
          refine aoS (some 82) rfl rfl (by decide) ?_
          refine aoS (some 83) rfl rfl (by decide) ?_
          refine aoS (some 84) rfl rfl (by decide) ?_
          refine aoS (some 85) rfl rfl (by decide) ?_
          refine aoS (some 86) rfl rfl (by decide) ?_
          refine aoP (some 87) rfl rfl (does_pick (v := .bool true) (by conv => lhs; whnf) (by exact rfl)) (by decide) ?_
          refine aoP (some 5) rfl rfl (does_assign (v := .bool true) (by exact rfl)) (by decide) ?_
          refine ao_nil_d (by kernel_rfl) ?_
          refine hK60 _ ?_
          refine aw_regL ?_
          refine alP (some 63) rfl rfl (does_move (v := .int .i64 v6_2) (by exact rfl)) (by decide) ?_
          refine alP (some 64) rfl rfl (does_bin (v := .int .i64 (IntKind.i64.wrap (v6_2 + 1))) (by conv => lhs; whnf) (by conv => lhs; whnf) rfl) (by decide) ?_
          refine alP (some 6) rfl rfl (does_assign (v := .int .i64 (IntKind.i64.wrap (v6_2 + 1))) (by exact rfl)) (by decide) ?_
          refine al_nil ?_
          have h := leafL h hq56
          exact ⟨m2, Nat.lt_succ_self _, _, reb_lit [(2, .ptr 2 0 0), (3, .ptr 3 0 0), (5, .bool true), (6, .int .i64 (IntKind.i64.wrap (v6_2 + 1)))] [(2, 0), (3, 0)] [((2, 0), .box [.str a0.Service, .str a0.Op, .str a0.Key, .str a0.Value, .int .i64 a0.Dur, .bool a0.Err]), ((3, 0), .box [.int .u64 a1.Trace.Hi, .int .u64 a1.Trace.Lo, .int .u64 a1.Id, .int .u64 a1.Parent, .str a1.Service, .str a1.Op, .int .i64 a1.Start, .int .i64 a1.Dur, .bool a1.Err, .sl 2 (List.map enc53 a1.Attrs)])] [(2, 1), (3, 1)] (envOk_cons (by conv => lhs; whnf) (by exact rfl) (envOk_cons (by conv => lhs; whnf) (by exact rfl) (envOk_cons (by conv => lhs; whnf) (by exact rfl) (envOk_cons (by conv => lhs; whnf) (by exact rfl) envOk_nil)))) (objOk_cons (by conv => lhs; whnf) (by conv => lhs; whnf) (by exact rfl) (by simp) (objOk_cons (by conv => lhs; whnf) (by conv => lhs; whnf) (by exact rfl) (by simp) objOk_nil)) (nodup_b rfl) (nodup_b rfl) rfl rfl, true, (IntKind.i64.wrap (v6_2 + 1)), h, rfl⟩
        · have h := ifF c61 h
          refine aoP (some 67) rfl rfl (does_fieldAddr (q := .ptr 3 0 9) (by conv => lhs; whnf) ty30 rfl ty28 (by decide) (by exact rfl)) (by decide) ?_
          refine aoR (some 68) rfl rfl (does_load (v := .sl 2 (List.map enc53 a1.Attrs)) (by conv => lhs; whnf) (by conv => lhs; whnf) ty28 (by exact rfl)) (by decide) ?_
          refine aoP (some 69) rfl rfl (does_move (v := .int .i64 v6_2) (by exact rfl)) (by decide) ?_
          obtain ⟨g62, h⟩ := gd_some h
          obtain ⟨x63, hx63, h⟩ := bnd_some h
          refine aoP (some 70) rfl rfl (does_indexAddr_sl (el := .agg [.str x63.Key, .str x63.Value]) (by conv => lhs; whnf) (by conv => lhs; whnf) ty28 ty54 g62 (by exact map_get hx63)) (by decide) ?_
          refine aoP (some 71) rfl rfl (does_fieldAddr (q := .rptr [.str x63.Key, .str x63.Value]) (by conv => lhs; whnf) ty54 rfl ty9 (by decide) (by exact rfl)) (by decide) ?_
          refine aoR (some 72) rfl rfl (does_load (v := .str x63.Key) (by conv => lhs; whnf) (by conv => lhs; whnf) ty9 (by exact rfl)) (by decide) ?_
          refine aoP (some 73) rfl rfl (does_fieldAddr (q := .ptr 2 0 2) (by conv => lhs; whnf) ty24 rfl ty9 (by decide) (by exact rfl)) (by decide) ?_
          refine aoR (some 74) rfl rfl (does_load (v := .str a0.Key) (by conv => lhs; whnf) (by conv => lhs; whnf) ty9 (by exact rfl)) (by decide) ?_
          refine aoP (some 75) rfl rfl (does_bin (v := .bool (ByteArray.toList x63.Key == ByteArray.toList a0.Key)) (by conv => lhs; whnf) (by conv => lhs; whnf) rfl) (by decide) ?_
          refine aoP (some 76) rfl rfl (does_move (v := .bool (ByteArray.toList x63.Key == ByteArray.toList a0.Key)) (by exact rfl)) (by decide) ?_
          refine ao_bool (c := (ByteArray.toList x63.Key == ByteArray.toList a0.Key)) 76 rfl (fun c64 => ?_) (fun c64 => ?_)
          · have h := ifT c64 h
            refine aoP (some 77) rfl rfl (does_fieldAddr (q := .ptr 3 0 9) (by conv => lhs; whnf) ty30 rfl ty28 (by decide) (by exact rfl)) (by decide) ?_
            refine aoR (some 78) rfl rfl (does_load (v := .sl 2 (List.map enc53 a1.Attrs)) (by conv => lhs; whnf) (by conv => lhs; whnf) ty28 (by exact rfl)) (by decide) ?_
            refine aoP (some 79) rfl rfl (does_move (v := .int .i64 v6_2) (by exact rfl)) (by decide) ?_
            obtain ⟨g65, h⟩ := gd_some h
            obtain ⟨x66, hx66, h⟩ := bnd_some h
            refine aoP (some 80) rfl rfl (does_indexAddr_sl (el := .agg [.str x66.Key, .str x66.Value]) (by conv => lhs; whnf) (by conv => lhs; whnf) ty28 ty54 g65 (by exact map_get hx66)) (by decide) ?_
            refine aoP (some 81) rfl rfl (does_fieldAddr (q := .rptr [.str x66.Value]) (by conv => lhs; whnf) ty54 rfl ty9 (by decide) (by exact rfl)) (by decide) ?_
            refine aoR (some 82) rfl rfl (does_load (v := .str x66.Value) (by conv => lhs; whnf) (by conv => lhs; whnf) ty9 (by exact rfl)) (by decide) ?_
            refine aoP (some 83) rfl rfl (does_fieldAddr (q := .ptr 2 0 3) (by conv => lhs; whnf) ty24 rfl ty9 (by decide) (by exact rfl)) (by decide) ?_
            refine aoR (some 84) rfl rfl (does_load (v := .str a0.Value) (by conv => lhs; whnf) (by conv => lhs; whnf) ty9 (by exact rfl)) (by decide) ?_
            refine aoP (some 85) rfl rfl (does_bin (v := .bool (ByteArray.toList x66.Value == ByteArray.toList a0.Value)) (by conv => lhs; whnf) (by conv => lhs; whnf) rfl) (by decide) ?_
            refine aoP (some 86) rfl rfl (does_pick (v := .bool (ByteArray.toList x66.Value == ByteArray.toList a0.Value)) (by conv => lhs; whnf) (by exact rfl)) (by decide) ?_
            refine aoP (some 87) rfl rfl (does_pick (v := .bool (ByteArray.toList x66.Value == ByteArray.toList a0.Value)) (by conv => lhs; whnf) (by exact rfl)) (by decide) ?_
            refine aoP (some 5) rfl rfl (does_assign (v := .bool (ByteArray.toList x66.Value == ByteArray.toList a0.Value)) (by exact rfl)) (by decide) ?_
            refine ao_nil_d (by kernel_rfl) ?_
            refine hK60 _ ?_
            refine aw_regL ?_
            refine alP (some 63) rfl rfl (does_move (v := .int .i64 v6_2) (by exact rfl)) (by decide) ?_
            refine alP (some 64) rfl rfl (does_bin (v := .int .i64 (IntKind.i64.wrap (v6_2 + 1))) (by conv => lhs; whnf) (by conv => lhs; whnf) rfl) (by decide) ?_
            refine alP (some 6) rfl rfl (does_assign (v := .int .i64 (IntKind.i64.wrap (v6_2 + 1))) (by exact rfl)) (by decide) ?_
            refine al_nil ?_
            have h := leafL h hq56
            exact ⟨m2, Nat.lt_succ_self _, _, reb_lit [(2, .ptr 2 0 0), (3, .ptr 3 0 0), (5, .bool (ByteArray.toList x66.Value == ByteArray.toList a0.Value)), (6, .int .i64 (IntKind.i64.wrap (v6_2 + 1)))] [(2, 0), (3, 0)] [((2, 0), .box [.str a0.Service, .str a0.Op, .str a0.Key, .str a0.Value, .int .i64 a0.Dur, .bool a0.Err]), ((3, 0), .box [.int .u64 a1.Trace.Hi, .int .u64 a1.Trace.Lo, .int .u64 a1.Id, .int .u64 a1.Parent, .str a1.Service, .str a1.Op, .int .i64 a1.Start, .int .i64 a1.Dur, .bool a1.Err, .sl 2 (List.map enc53 a1.Attrs)])] [(2, 1), (3, 1)] (envOk_cons (by conv => lhs; whnf) (by exact rfl) (envOk_cons (by conv => lhs; whnf) (by exact rfl) (envOk_cons (by conv => lhs; whnf) (by exact rfl) (envOk_cons (by conv => lhs; whnf) (by exact rfl) envOk_nil)))) (objOk_cons (by conv => lhs; whnf) (by conv => lhs; whnf) (by exact rfl) (by simp) (objOk_cons (by conv => lhs; whnf) (by conv => lhs; whnf) (by exact rfl) (by simp) objOk_nil)) (nodup_b rfl) (nodup_b rfl) rfl rfl, (ByteArray.toList x66.Value == ByteArray.toList a0.Value), (IntKind.i64.wrap (v6_2 + 1)), h, rfl⟩
          · have h := ifF c64 h
            refine aoS (some 77) rfl rfl (by decide) ?_
            refine aoS (some 78) rfl rfl (by decide) ?_
            refine aoS (some 79) rfl rfl (by decide) ?_
            refine aoS (some 80) rfl rfl (by decide) ?_
            refine aoS (some 81) rfl rfl (by decide) ?_
            refine aoS (some 82) rfl rfl (by decide) ?_
            refine aoS (some 83) rfl rfl (by decide) ?_
            refine aoS (some 84) rfl rfl (by decide) ?_
            refine aoS (some 85) rfl rfl (by decide) ?_
            refine aoP (some 86) rfl rfl (does_pick (v := .bool false) (by conv => lhs; whnf) (by exact rfl)) (by decide) ?_
            refine aoP (some 87) rfl rfl (does_pick (v := .bool false) (by conv => lhs; whnf) (by exact rfl)) (by decide) ?_
            refine aoP (some 5) rfl rfl (does_assign (v := .bool false) (by exact rfl)) (by decide) ?_
            refine ao_nil_d (by kernel_rfl) ?_
            refine hK60 _ ?_
            refine aw_regL ?_
            refine alP (some 63) rfl rfl (does_move (v := .int .i64 v6_2) (by exact rfl)) (by decide) ?_
            refine alP (some 64) rfl rfl (does_bin (v := .int .i64 (IntKind.i64.wrap (v6_2 + 1))) (by conv => lhs; whnf) (by conv => lhs; whnf) rfl) (by decide) ?_
            refine alP (some 6) rfl rfl (does_assign (v := .int .i64 (IntKind.i64.wrap (v6_2 + 1))) (by exact rfl)) (by decide) ?_
            refine al_nil ?_
            have h := leafL h hq56
            exact ⟨m2, Nat.lt_succ_self _, _, reb_lit [(2, .ptr 2 0 0), (3, .ptr 3 0 0), (5, .bool false), (6, .int .i64 (IntKind.i64.wrap (v6_2 + 1)))] [(2, 0), (3, 0)] [((2, 0), .box [.str a0.Service, .str a0.Op, .str a0.Key, .str a0.Value, .int .i64 a0.Dur, .bool a0.Err]), ((3, 0), .box [.int .u64 a1.Trace.Hi, .int .u64 a1.Trace.Lo, .int .u64 a1.Id, .int .u64 a1.Parent, .str a1.Service, .str a1.Op, .int .i64 a1.Start, .int .i64 a1.Dur, .bool a1.Err, .sl 2 (List.map enc53 a1.Attrs)])] [(2, 1), (3, 1)] (envOk_cons (by conv => lhs; whnf) (by exact rfl) (envOk_cons (by conv => lhs; whnf) (by exact rfl) (envOk_cons (by conv => lhs; whnf) (by exact rfl) (envOk_cons (by conv => lhs; whnf) (by exact rfl) envOk_nil)))) (objOk_cons (by conv => lhs; whnf) (by conv => lhs; whnf) (by exact rfl) (by simp) (objOk_cons (by conv => lhs; whnf) (by conv => lhs; whnf) (by exact rfl) (by simp) objOk_nil)) (nodup_b rfl) (nodup_b rfl) rfl rfl, false, (IntKind.i64.wrap (v6_2 + 1)), h, rfl⟩
      · have h := ifF c59 h
        refine aw_cond_f (by decide) rfl ?_
        refine aw_exit ?_
        have h := leafR h hq56
        refine hK53 _ ?_
        refine aw_seq_k (fun K67 hK67 => ?_)
        refine aw_regL ?_
        refine alP (some 88) rfl rfl (does_move (v := .bool v5_2) (by exact rfl)) (by decide) ?_
        refine alP (some 4) rfl rfl (does_assign (v := .bool v5_2) (by exact rfl)) (by decide) ?_
        refine al_nil ?_
        refine hK67 _ ?_
        refine aw_ret ?_
        obtain rfl := Option.some.inj h
        exact ret_ok1 (by conv => lhs; whnf) (by conv => lhs; whnf) (by exact rfl) (.inr rfl) rfl
def gleaningref15_LessTrace (a0 : Trace) (a1 : Trace) : Option Bool :=
  if (decide (a0.Hi < a1.Hi)) = true then (some true) else (if (a0.Hi == a1.Hi) = true then (some (decide (a0.Lo < a1.Lo))) else (some false))
set_option maxRecDepth 100000 in
set_option maxHeartbeats 8000000 in
/-- gleaning/gleaningref15.LessTrace -/
theorem gleaningref15_LessTrace_ok (a0 : Trace) (a1 : Trace) {r : Bool} (h : gleaningref15_LessTrace a0 a1 = some r) : Ok Try.prog 21 [.agg [.int .u64 a0.Hi, .int .u64 a0.Lo], .agg [.int .u64 a1.Hi, .int .u64 a1.Lo]] [] [] (.bool r) [] [] := by
  unfold gleaningref15_LessTrace at h
  refine ok_of_code Try.func21 rfl (by show (2 : Nat) ≤ _; decide) (Nat.le_refl _) fun X => ?_
  refine aw_seq_k (fun K1 hK1 => ?_)
  refine aw_regL ?_
  refine alD (some 2) rfl rfl (do_box (by conv => lhs; whnf) rfl rfl) (by decide) ?_
  refine alD (some 3) rfl rfl (do_box (by conv => lhs; whnf) rfl rfl) (by decide) ?_
  refine alP (some 4) rfl rfl (does_assign (v := .bool false) (by exact rfl)) (by decide) ?_
  refine al_nil ?_
  refine hK1 _ ?_
  refine aw_seq_k (fun K2 hK2 => ?_)
  refine aw_regL ?_
  refine alP (some 5) rfl rfl (does_fieldAddr (q := .ptr 2 0 0) (by conv => lhs; whnf) ty27 rfl ty25 (by decide) (by exact rfl)) (by decide) ?_
  refine alR (some 6) rfl rfl (does_load (v := .int .u64 a0.Hi) (by conv => lhs; whnf) (by conv => lhs; whnf) ty25 (by exact rfl)) (by decide) ?_
  refine alP (some 7) rfl rfl (does_fieldAddr (q := .ptr 3 0 0) (by conv => lhs; whnf) ty27 rfl ty25 (by decide) (by exact rfl)) (by decide) ?_
  refine alR (some 8) rfl rfl (does_load (v := .int .u64 a1.Hi) (by conv => lhs; whnf) (by conv => lhs; whnf) ty25 (by exact rfl)) (by decide) ?_
  refine alP (some 9) rfl rfl (does_bin (v := .bool (decide (a0.Hi < a1.Hi))) (by conv => lhs; whnf) (by conv => lhs; whnf) rfl) (by decide) ?_
  refine alP (some 10) rfl rfl (does_move (v := .bool (decide (a0.Hi < a1.Hi))) (by exact rfl)) (by decide) ?_
  refine al_bool (c := (decide (a0.Hi < a1.Hi))) 10 rfl (fun c3 => ?_) (fun c3 => ?_)
  · have h := ifT c3 h
    refine alS (some 11) rfl rfl (by decide) ?_
    refine alS (some 12) rfl rfl (by decide) ?_
    refine alS (some 13) rfl rfl (by decide) ?_
    refine alS (some 14) rfl rfl (by decide) ?_
    refine alS (some 15) rfl rfl (by decide) ?_
    refine alS (some 16) rfl rfl (by decide) ?_
    refine alS (some 17) rfl rfl (by decide) ?_
    refine alS (some 18) rfl rfl (by decide) ?_
    refine alS (some 19) rfl rfl (by decide) ?_
    refine alS (some 20) rfl rfl (by decide) ?_
    refine alS (some 21) rfl rfl (by decide) ?_
    refine alS (some 22) rfl rfl (by decide) ?_
    refine alP (some 23) rfl rfl (does_pick (v := .bool true) (by conv => lhs; whnf) (by exact rfl)) (by decide) ?_
    refine alP (some 4) rfl rfl (does_assign (v := .bool true) (by exact rfl)) (by decide) ?_
    refine al_nil ?_
    refine hK2 _ ?_
    refine aw_ret ?_
    obtain rfl := Option.some.inj h
    exact ret_ok1 (by conv => lhs; whnf) (by conv => lhs; whnf) (by exact rfl) (.inr rfl) rfl
  · have h := ifF c3 h
    refine alP (some 11) rfl rfl (does_fieldAddr (q := .ptr 2 0 0) (by conv => lhs; whnf) ty27 rfl ty25 (by decide) (by exact rfl)) (by decide) ?_
    refine alR (some 12) rfl rfl (does_load (v := .int .u64 a0.Hi) (by conv => lhs; whnf) (by conv => lhs; whnf) ty25 (by exact rfl)) (by decide) ?_
    refine alP (some 13) rfl rfl (does_fieldAddr (q := .ptr 3 0 0) (by conv => lhs; whnf) ty27 rfl ty25 (by decide) (by exact rfl)) (by decide) ?_
    refine alR (some 14) rfl rfl (does_load (v := .int .u64 a1.Hi) (by conv => lhs; whnf) (by conv => lhs; whnf) ty25 (by exact rfl)) (by decide) ?_
    refine alP (some 15) rfl rfl (does_bin (v := .bool (a0.Hi == a1.Hi)) (by conv => lhs; whnf) (by conv => lhs; whnf) rfl) (by decide) ?_
    refine alP (some 16) rfl rfl (does_move (v := .bool (a0.Hi == a1.Hi)) (by exact rfl)) (by decide) ?_
    refine al_bool (c := (a0.Hi == a1.Hi)) 16 rfl (fun c4 => ?_) (fun c4 => ?_)
    · have h := ifT c4 h
      refine alP (some 17) rfl rfl (does_fieldAddr (q := .ptr 2 0 1) (by conv => lhs; whnf) ty27 rfl ty25 (by decide) (by exact rfl)) (by decide) ?_
      refine alR (some 18) rfl rfl (does_load (v := .int .u64 a0.Lo) (by conv => lhs; whnf) (by conv => lhs; whnf) ty25 (by exact rfl)) (by decide) ?_
      refine alP (some 19) rfl rfl (does_fieldAddr (q := .ptr 3 0 1) (by conv => lhs; whnf) ty27 rfl ty25 (by decide) (by exact rfl)) (by decide) ?_
      refine alR (some 20) rfl rfl (does_load (v := .int .u64 a1.Lo) (by conv => lhs; whnf) (by conv => lhs; whnf) ty25 (by exact rfl)) (by decide) ?_
      refine alP (some 21) rfl rfl (does_bin (v := .bool (decide (a0.Lo < a1.Lo))) (by conv => lhs; whnf) (by conv => lhs; whnf) rfl) (by decide) ?_
      refine alP (some 22) rfl rfl (does_pick (v := .bool (decide (a0.Lo < a1.Lo))) (by conv => lhs; whnf) (by exact rfl)) (by decide) ?_
      refine alP (some 23) rfl rfl (does_pick (v := .bool (decide (a0.Lo < a1.Lo))) (by conv => lhs; whnf) (by exact rfl)) (by decide) ?_
      refine alP (some 4) rfl rfl (does_assign (v := .bool (decide (a0.Lo < a1.Lo))) (by exact rfl)) (by decide) ?_
      refine al_nil ?_
      refine hK2 _ ?_
      refine aw_ret ?_
      obtain rfl := Option.some.inj h
      exact ret_ok1 (by conv => lhs; whnf) (by conv => lhs; whnf) (by exact rfl) (.inr rfl) rfl
    · have h := ifF c4 h
      refine alS (some 17) rfl rfl (by decide) ?_
      refine alS (some 18) rfl rfl (by decide) ?_
      refine alS (some 19) rfl rfl (by decide) ?_
      refine alS (some 20) rfl rfl (by decide) ?_
      refine alS (some 21) rfl rfl (by decide) ?_
      refine alP (some 22) rfl rfl (does_pick (v := .bool false) (by conv => lhs; whnf) (by exact rfl)) (by decide) ?_
      refine alP (some 23) rfl rfl (does_pick (v := .bool false) (by conv => lhs; whnf) (by exact rfl)) (by decide) ?_
      refine alP (some 4) rfl rfl (does_assign (v := .bool false) (by exact rfl)) (by decide) ?_
      refine al_nil ?_
      refine hK2 _ ?_
      refine aw_ret ?_
      obtain rfl := Option.some.inj h
      exact ret_ok1 (by conv => lhs; whnf) (by conv => lhs; whnf) (by exact rfl) (.inr rfl) rfl
def gleaningref28_all_l3 (a1 : Query) (x24 : Episode) (v9_3 : Bool) (v10_3 : Int) : Option ((Bool × Int) ⊕ Bool) :=
  if (decide (v10_3 < (List.length x24.Spans : Int))) = true then (if v9_3 = true then (some (Sum.inl (true, (IntKind.i64.wrap (v10_3 + 1))))) else (gd (0 ≤ v10_3) (Option.bind (x24.Spans[(Int.toNat v10_3)]?) (fun (x37 : Span) => Option.bind (gleaningref28_Match a1 x37) (fun (x38 : Bool) => some (Sum.inl (x38, (IntKind.i64.wrap (v10_3 + 1))))))))) else (some (Sum.inr v9_3))
def gleaningref28_all_l5 (v5_s_1 : List Trace) (x24 : Episode) (v11_5 : Int) : Option (Int ⊕ Int) :=
  if (decide (v11_5 < (List.length v5_s_1 : Int))) = true then (gd (0 ≤ v11_5) (Option.bind (v5_s_1[(Int.toNat v11_5)]?) (fun (x48 : Trace) => Option.bind (gleaningref15_LessTrace x48 x24.Trace) (fun (x49 : Bool) => if x49 = true then (some (Sum.inl (IntKind.i64.wrap (v11_5 + 1)))) else (some (Sum.inr v11_5)))))) else (some (Sum.inr v11_5))
def gleaningref28_all_k6 (v5_s_1 : List Trace) (v7_1 : Int) (x24 : Episode) (v11_4 : Int) (v83_6 : Bool) : Option ((List Trace × Int) ⊕ ((List Trace × Int) ⊕ (List Trace))) :=
  if v83_6 = true then (gd (0 ≤ v11_4) (gd (v11_4 ≤ (List.length v5_s_1 : Int)) (gd ((List.length (List.take (Int.toNat v11_4) v5_s_1)) * 16 ≤ 140737488355328 ∧ (List.length (List.take (Int.toNat v11_4) v5_s_1)) ≤ 140737488355328) (gd ((List.length ((List.take (Int.toNat v11_4) v5_s_1) ++ [x24.Trace])) * 16 ≤ 140737488355328 ∧ (List.length ((List.take (Int.toNat v11_4) v5_s_1) ++ [x24.Trace])) ≤ 140737488355328) (gd (0 ≤ v11_4) (gd (v11_4 ≤ (List.length v5_s_1 : Int)) (gd ((List.length (((List.take (Int.toNat v11_4) v5_s_1) ++ [x24.Trace]) ++ (List.drop (Int.toNat v11_4) v5_s_1))) * 16 ≤ 140737488355328 ∧ (List.length (((List.take (Int.toNat v11_4) v5_s_1) ++ [x24.Trace]) ++ (List.drop (Int.toNat v11_4) v5_s_1))) ≤ 140737488355328) (some (Sum.inl ((((List.take (Int.toNat v11_4) v5_s_1) ++ [x24.Trace]) ++ (List.drop (Int.toNat v11_4) v5_s_1)), (IntKind.i64.wrap (v7_1 + 1)))))))))))) else (some (Sum.inl (v5_s_1, (IntKind.i64.wrap (v7_1 + 1)))))
def gleaningref28_all_k4 (v5_s_1 : List Trace) (v7_1 : Int) (x24 : Episode) (v9_2 : Bool) (v11_4 : Int) : Option ((List Trace × Int) ⊕ ((List Trace × Int) ⊕ (List Trace))) :=
  Option.bind (if v9_2 = true then (if (v11_4 == (List.length v5_s_1 : Int)) = true then (some true) else (gd (0 ≤ v11_4) (Option.bind (v5_s_1[(Int.toNat v11_4)]?) (fun (x56 : Trace) => some (!((x56.Hi == x24.Trace.Hi) && ((x56.Lo == x24.Trace.Lo) && true))))))) else (some false)) (fun (s : Bool) => gleaningref28_all_k6 v5_s_1 v7_1 x24 v11_4 s)
def gleaningref28_all_k2 (v5_s_1 : List Trace) (v7_1 : Int) (x24 : Episode) (v9_2 : Bool) : Option ((List Trace × Int) ⊕ ((List Trace × Int) ⊕ (List Trace))) :=
  Option.bind (loopN (fun (s : Int) => gleaningref28_all_l5 v5_s_1 x24 s) Fu 0) (fun (s : Int) => gleaningref28_all_k4 v5_s_1 v7_1 x24 v9_2 s)
def gleaningref28_all_l1 (a0 : List Block) (a1 : Query) (v6_0 : Int) (v5_s_1 : List Trace) (v7_1 : Int) : Option ((List Trace × Int) ⊕ ((List Trace × Int) ⊕ (List Trace))) :=
  gd (0 ≤ v6_0) (Option.bind (a0[(Int.toNat v6_0)]?) (fun (x17 : Block) => if (decide (v7_1 < (List.length x17.Episodes : Int))) = true then (gd (0 ≤ v6_0) (Option.bind (a0[(Int.toNat v6_0)]?) (fun (x22 : Block) => gd (0 ≤ v7_1) (Option.bind (x22.Episodes[(Int.toNat v7_1)]?) (fun (x24 : Episode) => Option.bind (loopN (fun (s : Bool × Int) => gleaningref28_all_l3 a1 x24 s.1 s.2) Fu (false, 0)) (fun (s : Bool) => gleaningref28_all_k2 v5_s_1 v7_1 x24 s)))))) else (some (Sum.inr (Sum.inl (v5_s_1, (IntKind.i64.wrap (v6_0 + 1))))))))
def gleaningref28_all_l0 (a0 : List Block) (a1 : Query) (v5_s_0 : List Trace) (v6_0 : Int) : Option ((List Trace × Int) ⊕ (List Trace)) :=
  if (decide (v6_0 < (List.length a0 : Int))) = true then (loopN (fun (s : List Trace × Int) => gleaningref28_all_l1 a0 a1 v6_0 s.1 s.2) Fu (v5_s_0, 0)) else (some (Sum.inr v5_s_0))
def gleaningref28_all (a0 : List Block) (a1 : Query) : Option (List Trace) :=
  loopN (fun (s : List Trace × Int) => gleaningref28_all_l0 a0 a1 s.1 s.2) Fu ([], 0)
set_option maxRecDepth 100000 in
set_option maxHeartbeats 8000000 in
/-- gleaning/gleaningref28.all -/
theorem gleaningref28_all_ok (a0 : List Block) (a1 : Query) {r : List Trace} (h : gleaningref28_all a0 a1 = some r) : Ok Try.prog 25 [.sl 4 (List.map enc44 a0), .agg [.str a1.Service, .str a1.Op, .str a1.Key, .str a1.Value, .int .i64 a1.Dur, .bool a1.Err]] [] [] (.own 2 0) [] [(27, 2, List.map enc26 r)] := by
  unfold gleaningref28_all at h
  refine ok_of_code Try.func25 rfl (by show (2 : Nat) ≤ _; decide) (Nat.le_refl _) fun X => ?_
  refine aw_seq_k (fun K1 hK1 => ?_)
  refine aw_regL ?_
  refine alD (some 3) rfl rfl (do_box (by conv => lhs; whnf) rfl rfl) (by decide) ?_
  refine alP (some 4) rfl rfl (does_assign (v := .nil) (by exact rfl)) (by decide) ?_
  refine al_nil ?_
  refine hK1 _ ?_
  refine aw_seq_k (fun K2 hK2 => ?_)
  refine aw_regL ?_
  refine alP (some 5) rfl rfl (does_assign (v := .nil) (by exact rfl)) (by decide) ?_
  refine al_nil ?_
  refine hK2 _ ?_
  refine aw_seq_k (fun K3 hK3 => ?_)
  refine aw_seq_k (fun K4 hK4 => ?_)
  refine aw_regL ?_
  refine alP (some 6) rfl rfl (does_assign (v := .int .i64 0) (by exact rfl)) (by decide) ?_
  refine al_nil ?_
  refine hK4 _ ?_
  refine aw_block ?_
  refine aw_nilOwn 5 27 2 (by conv => lhs; whnf) (by decide) (by decide) ?_
  refine aw_loop' (fun m s => ∃ (v5_s_0 : List Trace), ∃ (v6_0 : Int), loopN (fun (s : List Trace × Int) => gleaningref28_all_l0 a0 a1 s.1 s.2) m (v5_s_0, v6_0) = some r ∧ s = lit [(0, .sl 4 (List.map enc44 a0)), (3, .ptr 3 0 0), (5, .own 5 0), (6, .int .i64 v6_0)] [((3, 0), .box [.str a1.Service, .str a1.Op, .str a1.Key, .str a1.Value, .int .i64 a1.Dur, .bool a1.Err]), ((5, 0), .arr 27 2 false (List.map enc26 v5_s_0))] [(3, 1), (5, 1)] X) Fu
    ⟨_, reb_lit [(0, .sl 4 (List.map enc44 a0)), (3, .ptr 3 0 0), (5, .own 5 0), (6, .int .i64 (0))] [(3, 0), (5, 0)] [((3, 0), .box [.str a1.Service, .str a1.Op, .str a1.Key, .str a1.Value, .int .i64 a1.Dur, .bool a1.Err]), ((5, 0), .arr 27 2 false (List.map enc26 []))] [(3, 1), (5, 1)] (envOk_cons (by conv => lhs; whnf) (by exact rfl) (envOk_cons (by conv => lhs; whnf) (by exact rfl) (envOk_cons (by conv => lhs; whnf) (by exact rfl) (envOk_cons (by conv => lhs; whnf) (by exact rfl) envOk_nil)))) (objOk_cons (by conv => lhs; whnf) (by conv => lhs; whnf) (by exact rfl) (by simp) (objOk_cons (by conv => lhs; whnf) (by conv => lhs; whnf) (by exact rfl) (by simp) objOk_nil)) (nodup_b rfl) (nodup_b rfl) rfl rfl, [], 0, h, rfl⟩ ?_
  rintro m s ⟨v5_s_0, v6_0, h, rfl⟩
  obtain ⟨m0, q5, rfl, h, hq6⟩ := loop_some h
  replace h : gleaningref28_all_l0 a0 a1 v5_s_0 v6_0 = some q5 := h
  unfold gleaningref28_all_l0 at h
  refine aw_seq_k (fun K7 hK7 => ?_)
  refine aw_seq_k (fun K8 hK8 => ?_)
  refine aw_regL ?_
  refine alP (some 12) rfl rfl (does_move (v := .int .i64 v6_0) (by exact rfl)) (by decide) ?_
  refine alP (some 13) rfl rfl (does_move (v := .sl 4 (List.map enc44 a0)) (by exact rfl)) (by decide) ?_
  refine alP (some 14) rfl rfl ((does_len_sl (by conv => lhs; whnf) ty22).castp (v' := .int .i64 (List.length a0 : Int)) (by exact len_map _)) (by decide) ?_
  refine alP (some 15) rfl rfl (does_bin (v := .bool (decide (v6_0 < (List.length a0 : Int)))) (by conv => lhs; whnf) (by conv => lhs; whnf) rfl) (by decide) ?_
  refine al_nil ?_
  refine hK8 _ ?_
  refine aw_bool (b := (decide (v6_0 < (List.length a0 : Int)))) 15 rfl (fun c9 => ?_) (fun c9 => ?_)
  · have h := ifT c9 h
    refine aw_cond_t (by decide) rfl ?_
    refine aw_skip ?_
    refine hK7 _ ?_
    refine aw_seq_k (fun K10 hK10 => ?_)
    refine aw_block ?_
    refine aw_seq_k (fun K11 hK11 => ?_)
    refine aw_regL ?_
    refine alP (some 7) rfl rfl (does_assign (v := .int .i64 0) (by exact rfl)) (by decide) ?_
    refine al_nil ?_
    refine hK11 _ ?_
    refine aw_block ?_
    refine aw_loop' (fun m s => ∃ (v5_s_1 : List Trace), ∃ (v7_1 : Int), loopN (fun (s : List Trace × Int) => gleaningref28_all_l1 a0 a1 v6_0 s.1 s.2) m (v5_s_1, v7_1) = some q5 ∧ s = lit [(0, .sl 4 (List.map enc44 a0)), (3, .ptr 3 0 0), (5, .own 5 0), (6, .int .i64 v6_0), (7, .int .i64 v7_1)] [((3, 0), .box [.str a1.Service, .str a1.Op, .str a1.Key, .str a1.Value, .int .i64 a1.Dur, .bool a1.Err]), ((5, 0), .arr 27 2 false (List.map enc26 v5_s_1))] [(3, 1), (5, 1)] X) Fu
      ⟨_, reb_lit [(0, .sl 4 (List.map enc44 a0)), (3, .ptr 3 0 0), (5, .own 5 0), (6, .int .i64 v6_0), (7, .int .i64 (0))] [(3, 0), (5, 0)] [((3, 0), .box [.str a1.Service, .str a1.Op, .str a1.Key, .str a1.Value, .int .i64 a1.Dur, .bool a1.Err]), ((5, 0), .arr 27 2 false (List.map enc26 v5_s_0))] [(3, 1), (5, 1)] (envOk_cons (by conv => lhs; whnf) (by exact rfl) (envOk_cons (by conv => lhs; whnf) (by exact rfl) (envOk_cons (by conv => lhs; whnf) (by exact rfl) (envOk_cons (by conv => lhs; whnf) (by exact rfl) (envOk_cons (by conv => lhs; whnf) (by exact rfl) envOk_nil))))) (objOk_cons (by conv => lhs; whnf) (by conv => lhs; whnf) (by exact rfl) (by simp) (objOk_cons (by conv => lhs; whnf) (by conv => lhs; whnf) (by exact rfl) (by simp) objOk_nil)) (nodup_b rfl) (nodup_b rfl) rfl rfl, v5_s_0, 0, h, rfl⟩ ?_
    rintro m s ⟨v5_s_1, v7_1, h, rfl⟩
    obtain ⟨m1, q12, rfl, h, hq13⟩ := loop_some h
    replace h : gleaningref28_all_l1 a0 a1 v6_0 v5_s_1 v7_1 = some q12 := h
    unfold gleaningref28_all_l1 at h
    refine aw_seq_k (fun K14 hK14 => ?_)
    refine aw_seq_k (fun K15 hK15 => ?_)
    refine aw_regL ?_
    refine alP (some 18) rfl rfl (does_move (v := .int .i64 v7_1) (by exact rfl)) (by decide) ?_
    refine alP (some 19) rfl rfl (does_move (v := .sl 4 (List.map enc44 a0)) (by exact rfl)) (by decide) ?_
    refine alP (some 20) rfl rfl (does_move (v := .int .i64 v6_0) (by exact rfl)) (by decide) ?_
    obtain ⟨g16, h⟩ := gd_some h
    obtain ⟨x17, hx17, h⟩ := bnd_some h
    refine alP (some 21) rfl rfl (does_indexAddr_sl (el := .agg [.int .i64 x17.Number, .int .i64 x17.Born, .int .i64 x17.Tier, .sl 6 (List.map enc50 x17.Episodes)]) (by conv => lhs; whnf) (by conv => lhs; whnf) ty22 ty45 g16 (by exact map_get hx17)) (by decide) ?_
    refine alP (some 22) rfl rfl (does_fieldAddr (q := .rptr [.sl 6 (List.map enc50 x17.Episodes)]) (by conv => lhs; whnf) ty45 rfl ty43 (by decide) (by exact rfl)) (by decide) ?_
    refine alR (some 23) rfl rfl (does_load (v := .sl 6 (List.map enc50 x17.Episodes)) (by conv => lhs; whnf) (by conv => lhs; whnf) ty43 (by exact rfl)) (by decide) ?_
    refine alP (some 24) rfl rfl ((does_len_sl (by conv => lhs; whnf) ty43).castp (v' := .int .i64 (List.length x17.Episodes : Int)) (by exact len_map _)) (by decide) ?_
    refine alP (some 25) rfl rfl (does_bin (v := .bool (decide (v7_1 < (List.length x17.Episodes : Int)))) (by conv => lhs; whnf) (by conv => lhs; whnf) rfl) (by decide) ?_
    refine al_nil ?_
    refine hK15 _ ?_
    refine aw_bool (b := (decide (v7_1 < (List.length x17.Episodes : Int)))) 25 rfl (fun c18 => ?_) (fun c18 => ?_)
    · have h := ifT c18 h
      refine aw_cond_t (by decide) rfl ?_
      refine aw_skip ?_
      refine hK14 _ ?_
      refine aw_seq_k (fun K19 hK19 => ?_)
      refine aw_block ?_
      refine aw_seq_k (fun K20 hK20 => ?_)
      refine aw_regL ?_
      refine alP (some 28) rfl rfl (does_move (v := .sl 4 (List.map enc44 a0)) (by exact rfl)) (by decide) ?_
      refine alP (some 29) rfl rfl (does_move (v := .int .i64 v6_0) (by exact rfl)) (by decide) ?_
      obtain ⟨g21, h⟩ := gd_some h
      obtain ⟨x22, hx22, h⟩ := bnd_some h
      refine alP (some 30) rfl rfl (does_indexAddr_sl (el := .agg [.int .i64 x22.Number, .int .i64 x22.Born, .int .i64 x22.Tier, .sl 6 (List.map enc50 x22.Episodes)]) (by conv => lhs; whnf) (by conv => lhs; whnf) ty22 ty45 g21 (by exact map_get hx22)) (by decide) ?_
      refine alP (some 31) rfl rfl (does_fieldAddr (q := .rptr [.sl 6 (List.map enc50 x22.Episodes)]) (by conv => lhs; whnf) ty45 rfl ty43 (by decide) (by exact rfl)) (by decide) ?_
      refine alR (some 32) rfl rfl (does_load (v := .sl 6 (List.map enc50 x22.Episodes)) (by conv => lhs; whnf) (by conv => lhs; whnf) ty43 (by exact rfl)) (by decide) ?_
      refine alP (some 33) rfl rfl (does_move (v := .int .i64 v7_1) (by exact rfl)) (by decide) ?_
      obtain ⟨g23, h⟩ := gd_some h
      obtain ⟨x24, hx24, h⟩ := bnd_some h
      refine alP (some 34) rfl rfl (does_indexAddr_sl (el := .agg [.int .u64 x24.Trace.Hi, .int .u64 x24.Trace.Lo, .int .i64 x24.First, .int .i64 x24.Last, .bool x24.Sure, .sl 10 (List.map enc29 x24.Spans)]) (by conv => lhs; whnf) (by conv => lhs; whnf) ty43 ty51 g23 (by exact map_get hx24)) (by decide) ?_
      refine alR (some 35) rfl rfl (does_load (v := .agg [.int .u64 x24.Trace.Hi, .int .u64 x24.Trace.Lo, .int .i64 x24.First, .int .i64 x24.Last, .bool x24.Sure, .sl 10 (List.map enc29 x24.Spans)]) (by conv => lhs; whnf) (by conv => lhs; whnf) ty51 (by exact rfl)) (by decide) ?_
      refine alD (some 8) rfl rfl (do_new ty51 rfl rfl) (by decide) ?_
      refine alD none rfl rfl (do_store (cs' := [.int .u64 x24.Trace.Hi, .int .u64 x24.Trace.Lo, .int .i64 x24.First, .int .i64 x24.Last, .bool x24.Sure, .sl 10 (List.map enc29 x24.Spans)]) (by conv => lhs; whnf) (by conv => lhs; whnf) (by conv => lhs; whnf) ty51 rfl rfl rfl (by exact rfl)) (by decide) ?_
      refine al_nil ?_
      refine hK20 _ ?_
      refine aw_seq_k (fun K25 hK25 => ?_)
      refine aw_regL ?_
      refine alP (some 9) rfl rfl (does_assign (v := .bool false) (by exact rfl)) (by decide) ?_
      refine al_nil ?_
      refine hK25 _ ?_
      obtain ⟨q26, h, hk27⟩ := bnd_some h
      refine aw_cut (fun s => ∃ (v9_2 : Bool), gleaningref28_all_k2 v5_s_1 v7_1 x24 v9_2 = some q12 ∧ s = lit [(0, .sl 4 (List.map enc44 a0)), (3, .ptr 3 0 0), (5, .own 5 0), (6, .int .i64 v6_0), (7, .int .i64 v7_1), (8, .ptr 8 0 0), (9, .bool v9_2)] [((3, 0), .box [.str a1.Service, .str a1.Op, .str a1.Key, .str a1.Value, .int .i64 a1.Dur, .bool a1.Err]), ((5, 0), .arr 27 2 false (List.map enc26 v5_s_1)), ((8, 0), .box [.int .u64 x24.Trace.Hi, .int .u64 x24.Trace.Lo, .int .i64 x24.First, .int .i64 x24.Last, .bool x24.Sure, .sl 10 (List.map enc29 x24.Spans)])] [(3, 1), (5, 1), (8, 1)] X) ?_ ?_
      · skip
        refine aw_seq_k (fun K28 hK28 => ?_)
        refine aw_regL ?_
        refine alP (some 10) rfl rfl (does_assign (v := .int .i64 0) (by exact rfl)) (by decide) ?_
        refine al_nil ?_
        refine hK28 _ ?_
        refine aw_block ?_
        refine aw_loop' (fun m s => ∃ (v9_3 : Bool), ∃ (v10_3 : Int), loopN (fun (s : Bool × Int) => gleaningref28_all_l3 a1 x24 s.1 s.2) m (v9_3, v10_3) = some q26 ∧ s = lit [(0, .sl 4 (List.map enc44 a0)), (3, .ptr 3 0 0), (5, .own 5 0), (6, .int .i64 v6_0), (7, .int .i64 v7_1), (8, .ptr 8 0 0), (9, .bool v9_3), (10, .int .i64 v10_3)] [((3, 0), .box [.str a1.Service, .str a1.Op, .str a1.Key, .str a1.Value, .int .i64 a1.Dur, .bool a1.Err]), ((5, 0), .arr 27 2 false (List.map enc26 v5_s_1)), ((8, 0), .box [.int .u64 x24.Trace.Hi, .int .u64 x24.Trace.Lo, .int .i64 x24.First, .int .i64 x24.Last, .bool x24.Sure, .sl 10 (List.map enc29 x24.Spans)])] [(3, 1), (5, 1), (8, 1)] X) Fu
          ⟨_, reb_lit [(0, .sl 4 (List.map enc44 a0)), (3, .ptr 3 0 0), (5, .own 5 0), (6, .int .i64 v6_0), (7, .int .i64 v7_1), (8, .ptr 8 0 0), (9, .bool false), (10, .int .i64 (0))] [(3, 0), (5, 0), (8, 0)] [((3, 0), .box [.str a1.Service, .str a1.Op, .str a1.Key, .str a1.Value, .int .i64 a1.Dur, .bool a1.Err]), ((5, 0), .arr 27 2 false (List.map enc26 v5_s_1)), ((8, 0), .box [.int .u64 x24.Trace.Hi, .int .u64 x24.Trace.Lo, .int .i64 x24.First, .int .i64 x24.Last, .bool x24.Sure, .sl 10 (List.map enc29 x24.Spans)])] [(3, 1), (5, 1), (8, 1)] (envOk_cons (by conv => lhs; whnf) (by exact rfl) (envOk_cons (by conv => lhs; whnf) (by exact rfl) (envOk_cons (by conv => lhs; whnf) (by exact rfl) (envOk_cons (by conv => lhs; whnf) (by exact rfl) (envOk_cons (by conv => lhs; whnf) (by exact rfl) (envOk_cons (by conv => lhs; whnf) (by exact rfl) (envOk_cons (by conv => lhs; whnf) (by exact rfl) (envOk_cons (by conv => lhs; whnf) (by exact rfl) envOk_nil)))))))) (objOk_cons (by conv => lhs; whnf) (by conv => lhs; whnf) (by exact rfl) (by simp) (objOk_cons (by conv => lhs; whnf) (by conv => lhs; whnf) (by exact rfl) (by simp) (objOk_cons (by conv => lhs; whnf) (by conv => lhs; whnf) (by exact rfl) (by simp) objOk_nil))) (nodup_b rfl) (nodup_b rfl) rfl rfl, false, 0, h, rfl⟩ ?_
        rintro m s ⟨v9_3, v10_3, h, rfl⟩
        obtain ⟨m3, q29, rfl, h, hq30⟩ := loop_some h
        replace h : gleaningref28_all_l3 a1 x24 v9_3 v10_3 = some q29 := h
        unfold gleaningref28_all_l3 at h
        refine aw_seq_k (fun K31 hK31 => ?_)
        refine aw_seq_k (fun K32 hK32 => ?_)
        refine aw_regL ?_
        refine alP (some 36) rfl rfl (does_move (v := .int .i64 v10_3) (by exact rfl)) (by decide) ?_
        refine alP (some 37) rfl rfl (does_fieldAddr (q := .ptr 8 0 5) (by conv => lhs; whnf) ty51 rfl ty49 (by decide) (by exact rfl)) (by decide) ?_
        refine alR (some 38) rfl rfl (does_load (v := .sl 10 (List.map enc29 x24.Spans)) (by conv => lhs; whnf) (by conv => lhs; whnf) ty49 (by exact rfl)) (by decide) ?_
        refine alP (some 39) rfl rfl ((does_len_sl (by conv => lhs; whnf) ty49).castp (v' := .int .i64 (List.length x24.Spans : Int)) (by exact len_map _)) (by decide) ?_
        refine alP (some 40) rfl rfl (does_bin (v := .bool (decide (v10_3 < (List.length x24.Spans : Int)))) (by conv => lhs; whnf) (by conv => lhs; whnf) rfl) (by decide) ?_
        refine al_nil ?_
        refine hK32 _ ?_
        refine aw_bool (b := (decide (v10_3 < (List.length x24.Spans : Int)))) 40 rfl (fun c33 => ?_) (fun c33 => ?_)
        · have h := ifT c33 h
          refine aw_cond_t (by decide) rfl ?_
          refine aw_skip ?_
          refine hK31 _ ?_
          refine aw_seq_k (fun K34 hK34 => ?_)
          refine aw_block ?_
          refine aw_regd (by kernel_rfl) (by decide +kernel) ?_
          refine aoP (some 43) rfl rfl (does_move (v := .bool v9_3) (by exact rfl)) (by decide) ?_
          refine aoP (some 44) rfl rfl (does_move (v := .bool v9_3) (by exact rfl)) (by decide) ?_
          refine ao_bool (c := v9_3) 44 rfl (fun c35 => ?_) (fun c35 => ?_)
          · have h := ifT c35 h
            refine aoS (some 45) rfl rfl (by decide) ?_
            refine aoS (some 46) rfl rfl (by decide) ?_
            refine aoS (some 47) rfl rfl (by decide) ?_
            refine aoS (some 48) rfl rfl (by decide) ?_
            refine aoS (some 49) rfl rfl (by decide) ?_
            refine aoS (some 50) rfl rfl (by decide) ?_
            refine aoS (some 51) rfl rfl (by decide) ?_
            refine aoP (some 52) rfl rfl (does_pick (v := .bool true) (by conv => lhs; whnf) (by exact rfl)) (by decide) ?_
            refine aoP (some 9) rfl rfl (does_assign (v := .bool true) (by exact rfl)) (by decide) ?_
            refine ao_nil_d (by kernel_rfl) ?_
            refine hK34 _ ?_
            refine aw_regL ?_
            refine alP (some 41) rfl rfl (does_move (v := .int .i64 v10_3) (by exact rfl)) (by decide) ?_
            refine alP (some 42) rfl rfl (does_bin (v := .int .i64 (IntKind.i64.wrap (v10_3 + 1))) (by conv => lhs; whnf) (by conv => lhs; whnf) rfl) (by decide) ?_
            refine alP (some 10) rfl rfl (does_assign (v := .int .i64 (IntKind.i64.wrap (v10_3 + 1))) (by exact rfl)) (by decide) ?_
            refine al_nil ?_
            have h := leafL h hq30
            exact ⟨m3, Nat.lt_succ_self _, _, reb_lit [(0, .sl 4 (List.map enc44 a0)), (3, .ptr 3 0 0), (5, .own 5 0), (6, .int .i64 v6_0), (7, .int .i64 v7_1), (8, .ptr 8 0 0), (9, .bool true), (10, .int .i64 (IntKind.i64.wrap (v10_3 + 1)))] [(3, 0), (5, 0), (8, 0)] [((3, 0), .box [.str a1.Service, .str a1.Op, .str a1.Key, .str a1.Value, .int .i64 a1.Dur, .bool a1.Err]), ((5, 0), .arr 27 2 false (List.map enc26 v5_s_1)), ((8, 0), .box [.int .u64 x24.Trace.Hi, .int .u64 x24.Trace.Lo, .int .i64 x24.First, .int .i64 x24.Last, .bool x24.Sure, .sl 10 (List.map enc29 x24.Spans)])] [(3, 1), (5, 1), (8, 1)] (envOk_cons (by conv => lhs; whnf) (by exact rfl) (envOk_cons (by conv => lhs; whnf) (by exact rfl) (envOk_cons (by conv => lhs; whnf) (by exact rfl) (envOk_cons (by conv => lhs; whnf) (by exact rfl) (envOk_cons (by conv => lhs; whnf) (by exact rfl) (envOk_cons (by conv => lhs; whnf) (by exact rfl) (envOk_cons (by conv => lhs; whnf) (by exact rfl) (envOk_cons (by conv => lhs; whnf) (by exact rfl) envOk_nil)))))))) (objOk_cons (by conv => lhs; whnf) (by conv => lhs; whnf) (by exact rfl) (by simp) (objOk_cons (by conv => lhs; whnf) (by conv => lhs; whnf) (by exact rfl) (by simp) (objOk_cons (by conv => lhs; whnf) (by conv => lhs; whnf) (by exact rfl) (by simp) objOk_nil))) (nodup_b rfl) (nodup_b rfl) rfl rfl, true, (IntKind.i64.wrap (v10_3 + 1)), h, rfl⟩
          · have h := ifF c35 h
            refine aoR (some 45) rfl rfl (does_load (v := .agg [.str a1.Service, .str a1.Op, .str a1.Key, .str a1.Value, .int .i64 a1.Dur, .bool a1.Err]) (by conv => lhs; whnf) (by conv => lhs; whnf) ty24 (by exact rfl)) (by decide) ?_
            refine aoP (some 46) rfl rfl (does_fieldAddr (q := .ptr 8 0 5) (by conv => lhs; whnf) ty51 rfl ty49 (by decide) (by exact rfl)) (by decide) ?_
            refine aoR (some 47) rfl rfl (does_load (v := .sl 10 (List.map enc29 x24.Spans)) (by conv => lhs; whnf) (by conv => lhs; whnf) ty49 (by exact rfl)) (by decide) ?_
            refine aoP (some 48) rfl rfl (does_move (v := .int .i64 v10_3) (by exact rfl)) (by decide) ?_
            obtain ⟨g36, h⟩ := gd_some h
            obtain ⟨x37, hx37, h⟩ := bnd_some h
            refine aoP (some 49) rfl rfl (does_indexAddr_sl (el := .agg [.int .u64 x37.Trace.Hi, .int .u64 x37.Trace.Lo, .int .u64 x37.Id, .int .u64 x37.Parent, .str x37.Service, .str x37.Op, .int .i64 x37.Start, .int .i64 x37.Dur, .bool x37.Err, .sl 2 (List.map enc53 x37.Attrs)]) (by conv => lhs; whnf) (by conv => lhs; whnf) ty49 ty30 g36 (by exact map_get hx37)) (by decide) ?_
            refine aoR (some 50) rfl rfl (does_load (v := .agg [.int .u64 x37.Trace.Hi, .int .u64 x37.Trace.Lo, .int .u64 x37.Id, .int .u64 x37.Parent, .str x37.Service, .str x37.Op, .int .i64 x37.Start, .int .i64 x37.Dur, .bool x37.Err, .sl 2 (List.map enc53 x37.Attrs)]) (by conv => lhs; whnf) (by conv => lhs; whnf) ty30 (by exact rfl)) (by decide) ?_
            obtain ⟨x38, hx38, h⟩ := bnd_some h
            refine aoD (some 51) rfl rfl (do_call0 51 false (gleaningref28_Match_ok a1 x37 hx38) rfl ent12 rfl rfl) (by decide) ?_
            refine aoP (some 52) rfl rfl (does_pick (v := .bool x38) (by conv => lhs; whnf) (by exact rfl)) (by decide) ?_
            refine aoP (some 9) rfl rfl (does_assign (v := .bool x38) (by exact rfl)) (by decide) ?_
            refine ao_nil_d (by kernel_rfl) ?_
            refine hK34 _ ?_
            refine aw_regL ?_
            refine alP (some 41) rfl rfl (does_move (v := .int .i64 v10_3) (by exact rfl)) (by decide) ?_
            refine alP (some 42) rfl rfl (does_bin (v := .int .i64 (IntKind.i64.wrap (v10_3 + 1))) (by conv => lhs; whnf) (by conv => lhs; whnf) rfl) (by decide) ?_
            refine alP (some 10) rfl rfl (does_assign (v := .int .i64 (IntKind.i64.wrap (v10_3 + 1))) (by exact rfl)) (by decide) ?_
            refine al_nil ?_
            have h := leafL h hq30
            exact ⟨m3, Nat.lt_succ_self _, _, reb_lit [(0, .sl 4 (List.map enc44 a0)), (3, .ptr 3 0 0), (5, .own 5 0), (6, .int .i64 v6_0), (7, .int .i64 v7_1), (8, .ptr 8 0 0), (9, .bool x38), (10, .int .i64 (IntKind.i64.wrap (v10_3 + 1)))] [(3, 0), (5, 0), (8, 0)] [((3, 0), .box [.str a1.Service, .str a1.Op, .str a1.Key, .str a1.Value, .int .i64 a1.Dur, .bool a1.Err]), ((5, 0), .arr 27 2 false (List.map enc26 v5_s_1)), ((8, 0), .box [.int .u64 x24.Trace.Hi, .int .u64 x24.Trace.Lo, .int .i64 x24.First, .int .i64 x24.Last, .bool x24.Sure, .sl 10 (List.map enc29 x24.Spans)])] [(3, 1), (5, 1), (8, 1)] (envOk_cons (by conv => lhs; whnf) (by exact rfl) (envOk_cons (by conv => lhs; whnf) (by exact rfl) (envOk_cons (by conv => lhs; whnf) (by exact rfl) (envOk_cons (by conv => lhs; whnf) (by exact rfl) (envOk_cons (by conv => lhs; whnf) (by exact rfl) (envOk_cons (by conv => lhs; whnf) (by exact rfl) (envOk_cons (by conv => lhs; whnf) (by exact rfl) (envOk_cons (by conv => lhs; whnf) (by exact rfl) envOk_nil)))))))) (objOk_cons (by conv => lhs; whnf) (by conv => lhs; whnf) (by exact rfl) (by simp) (objOk_cons (by conv => lhs; whnf) (by conv => lhs; whnf) (by exact rfl) (by simp) (objOk_cons (by conv => lhs; whnf) (by conv => lhs; whnf) (by exact rfl) (by simp) objOk_nil))) (nodup_b rfl) (nodup_b rfl) rfl rfl, x38, (IntKind.i64.wrap (v10_3 + 1)), h, rfl⟩
        · have h := ifF c33 h
          refine aw_cond_f (by decide) rfl ?_
          refine aw_exit ?_
          have h := leafR h hq30
          obtain rfl := Option.some.inj h
          have h := hk27
          exact ⟨_, reb_lit [(0, .sl 4 (List.map enc44 a0)), (3, .ptr 3 0 0), (5, .own 5 0), (6, .int .i64 v6_0), (7, .int .i64 v7_1), (8, .ptr 8 0 0), (9, .bool v9_3)] [(3, 0), (5, 0), (8, 0)] [((3, 0), .box [.str a1.Service, .str a1.Op, .str a1.Key, .str a1.Value, .int .i64 a1.Dur, .bool a1.Err]), ((5, 0), .arr 27 2 false (List.map enc26 v5_s_1)), ((8, 0), .box [.int .u64 x24.Trace.Hi, .int .u64 x24.Trace.Lo, .int .i64 x24.First, .int .i64 x24.Last, .bool x24.Sure, .sl 10 (List.map enc29 x24.Spans)])] [(3, 1), (5, 1), (8, 1)] (envOk_cons (by conv => lhs; whnf) (by exact rfl) (envOk_cons (by conv => lhs; whnf) (by exact rfl) (envOk_cons (by conv => lhs; whnf) (by exact rfl) (envOk_cons (by conv => lhs; whnf) (by exact rfl) (envOk_cons (by conv => lhs; whnf) (by exact rfl) (envOk_cons (by conv => lhs; whnf) (by exact rfl) (envOk_cons (by conv => lhs; whnf) (by exact rfl) envOk_nil))))))) (objOk_cons (by conv => lhs; whnf) (by conv => lhs; whnf) (by exact rfl) (by simp) (objOk_cons (by conv => lhs; whnf) (by conv => lhs; whnf) (by exact rfl) (by simp) (objOk_cons (by conv => lhs; whnf) (by conv => lhs; whnf) (by exact rfl) (by simp) objOk_nil))) (nodup_b rfl) (nodup_b rfl) rfl rfl, v9_3, h, rfl⟩
      · rintro s ⟨v9_2, h, rfl⟩
        unfold gleaningref28_all_k2 at h
        refine aw_seq_k (fun K39 hK39 => ?_)
        refine aw_regL ?_
        refine alP (some 11) rfl rfl (does_assign (v := .int .i64 0) (by exact rfl)) (by decide) ?_
        refine al_nil ?_
        refine hK39 _ ?_
        obtain ⟨q40, h, hk41⟩ := bnd_some h
        refine aw_cut (fun s => ∃ (v11_4 : Int), gleaningref28_all_k4 v5_s_1 v7_1 x24 v9_2 v11_4 = some q12 ∧ s = lit [(0, .sl 4 (List.map enc44 a0)), (3, .ptr 3 0 0), (5, .own 5 0), (6, .int .i64 v6_0), (7, .int .i64 v7_1), (8, .ptr 8 0 0), (9, .bool v9_2), (11, .int .i64 v11_4)] [((3, 0), .box [.str a1.Service, .str a1.Op, .str a1.Key, .str a1.Value, .int .i64 a1.Dur, .bool a1.Err]), ((5, 0), .arr 27 2 false (List.map enc26 v5_s_1)), ((8, 0), .box [.int .u64 x24.Trace.Hi, .int .u64 x24.Trace.Lo, .int .i64 x24.First, .int .i64 x24.Last, .bool x24.Sure, .sl 10 (List.map enc29 x24.Spans)])] [(3, 1), (5, 1), (8, 1)] X) ?_ ?_
        · skip
          refine aw_block ?_
          refine aw_loop' (fun m s => ∃ (v11_5 : Int), loopN (fun (s : Int) => gleaningref28_all_l5 v5_s_1 x24 s) m v11_5 = some q40 ∧ s = lit [(0, .sl 4 (List.map enc44 a0)), (3, .ptr 3 0 0), (5, .own 5 0), (6, .int .i64 v6_0), (7, .int .i64 v7_1), (8, .ptr 8 0 0), (9, .bool v9_2), (11, .int .i64 v11_5)] [((3, 0), .box [.str a1.Service, .str a1.Op, .str a1.Key, .str a1.Value, .int .i64 a1.Dur, .bool a1.Err]), ((5, 0), .arr 27 2 false (List.map enc26 v5_s_1)), ((8, 0), .box [.int .u64 x24.Trace.Hi, .int .u64 x24.Trace.Lo, .int .i64 x24.First, .int .i64 x24.Last, .bool x24.Sure, .sl 10 (List.map enc29 x24.Spans)])] [(3, 1), (5, 1), (8, 1)] X) Fu
            ⟨_, reb_lit [(0, .sl 4 (List.map enc44 a0)), (3, .ptr 3 0 0), (5, .own 5 0), (6, .int .i64 v6_0), (7, .int .i64 v7_1), (8, .ptr 8 0 0), (9, .bool v9_2), (11, .int .i64 (0))] [(3, 0), (5, 0), (8, 0)] [((3, 0), .box [.str a1.Service, .str a1.Op, .str a1.Key, .str a1.Value, .int .i64 a1.Dur, .bool a1.Err]), ((5, 0), .arr 27 2 false (List.map enc26 v5_s_1)), ((8, 0), .box [.int .u64 x24.Trace.Hi, .int .u64 x24.Trace.Lo, .int .i64 x24.First, .int .i64 x24.Last, .bool x24.Sure, .sl 10 (List.map enc29 x24.Spans)])] [(3, 1), (5, 1), (8, 1)] (envOk_cons (by conv => lhs; whnf) (by exact rfl) (envOk_cons (by conv => lhs; whnf) (by exact rfl) (envOk_cons (by conv => lhs; whnf) (by exact rfl) (envOk_cons (by conv => lhs; whnf) (by exact rfl) (envOk_cons (by conv => lhs; whnf) (by exact rfl) (envOk_cons (by conv => lhs; whnf) (by exact rfl) (envOk_cons (by conv => lhs; whnf) (by exact rfl) (envOk_cons (by conv => lhs; whnf) (by exact rfl) envOk_nil)))))))) (objOk_cons (by conv => lhs; whnf) (by conv => lhs; whnf) (by exact rfl) (by simp) (objOk_cons (by conv => lhs; whnf) (by conv => lhs; whnf) (by exact rfl) (by simp) (objOk_cons (by conv => lhs; whnf) (by conv => lhs; whnf) (by exact rfl) (by simp) objOk_nil))) (nodup_b rfl) (nodup_b rfl) rfl rfl, 0, h, rfl⟩ ?_
          rintro m s ⟨v11_5, h, rfl⟩
          obtain ⟨m5, q42, rfl, h, hq43⟩ := loop_some h
          replace h : gleaningref28_all_l5 v5_s_1 x24 v11_5 = some q42 := h
          unfold gleaningref28_all_l5 at h
          refine aw_seq_k (fun K44 hK44 => ?_)
          refine aw_seq_k (fun K45 hK45 => ?_)
          refine aw_regd (by kernel_rfl) (by decide +kernel) ?_
          refine aoP (some 53) rfl rfl (does_move (v := .int .i64 v11_5) (by exact rfl)) (by decide) ?_
          refine aoP (some 54) rfl rfl (does_move (v := .own 5 0) (by exact rfl)) (by decide) ?_
          refine aoR (some 55) rfl rfl ((does_len_own (by conv => lhs; whnf) (by conv => lhs; whnf) ty37).cast (v' := .int .i64 (List.length v5_s_1 : Int)) (by exact len_map _)) (by decide) ?_
          refine aoP (some 56) rfl rfl (does_bin (v := .bool (decide (v11_5 < (List.length v5_s_1 : Int)))) (by conv => lhs; whnf) (by conv => lhs; whnf) rfl) (by decide) ?_
          refine aoP (some 57) rfl rfl (does_move (v := .bool (decide (v11_5 < (List.length v5_s_1 : Int)))) (by exact rfl)) (by decide) ?_
          refine ao_bool (c := (decide (v11_5 < (List.length v5_s_1 : Int)))) 57 rfl (fun c46 => ?_) (fun c46 => ?_)
          · have h := ifT c46 h
            refine aoP (some 58) rfl rfl (does_move (v := .own 5 0) (by exact rfl)) (by decide) ?_
            refine aoP (some 59) rfl rfl (does_move (v := .int .i64 v11_5) (by exact rfl)) (by decide) ?_
            obtain ⟨g47, h⟩ := gd_some h
            obtain ⟨x48, hx48, h⟩ := bnd_some h
            refine aoR (some 60) rfl rfl (does_indexAddr_own (by conv => lhs; whnf) (by conv => lhs; whnf) (by conv => lhs; whnf) ty37 ty27 g47 (by exact own_lt hx48)) (by decide) ?_
            refine aoR (some 61) rfl rfl (does_load (v := .agg [.int .u64 x48.Hi, .int .u64 x48.Lo]) (by conv => lhs; whnf) (cellsAt_eptr (by conv => lhs; whnf) (by exact map_get hx48)) ty27 (by exact rfl)) (by decide) ?_
            refine aoP (some 62) rfl rfl (does_fieldAddr (q := .ptr 8 0 0) (by conv => lhs; whnf) ty51 rfl ty27 (by decide) (by exact rfl)) (by decide) ?_
            refine aoR (some 63) rfl rfl (does_load (v := .agg [.int .u64 x24.Trace.Hi, .int .u64 x24.Trace.Lo]) (by conv => lhs; whnf) (by conv => lhs; whnf) ty27 (by exact rfl)) (by decide) ?_
            obtain ⟨x49, hx49, h⟩ := bnd_some h
            refine aoD (some 64) rfl rfl (do_call0 64 false (gleaningref15_LessTrace_ok x48 x24.Trace hx49) rfl ent21 rfl rfl) (by decide) ?_
            refine aoP (some 65) rfl rfl (does_pick (v := .bool x49) (by conv => lhs; whnf) (by exact rfl)) (by decide) ?_
            refine ao_nil_d (by kernel_rfl) ?_
            refine hK45 _ ?_
            refine aw_bool (b := x49) 65 rfl (fun c50 => ?_) (fun c50 => ?_)
            · have h := ifT c50 h
              refine aw_cond_t (by decide) rfl ?_
              refine aw_skip ?_
              refine hK44 _ ?_
              refine aw_block ?_
              refine aw_regL ?_
              refine alP (some 66) rfl rfl (does_move (v := .int .i64 v11_5) (by exact rfl)) (by decide) ?_
              refine alP (some 67) rfl rfl (does_bin (v := .int .i64 (IntKind.i64.wrap (v11_5 + 1))) (by conv => lhs; whnf) (by conv => lhs; whnf) rfl) (by decide) ?_
              refine alP (some 11) rfl rfl (does_assign (v := .int .i64 (IntKind.i64.wrap (v11_5 + 1))) (by exact rfl)) (by decide) ?_
              refine al_nil ?_
              have h := leafL h hq43
              exact ⟨m5, Nat.lt_succ_self _, _, reb_lit [(0, .sl 4 (List.map enc44 a0)), (3, .ptr 3 0 0), (5, .own 5 0), (6, .int .i64 v6_0), (7, .int .i64 v7_1), (8, .ptr 8 0 0), (9, .bool v9_2), (11, .int .i64 (IntKind.i64.wrap (v11_5 + 1)))] [(3, 0), (5, 0), (8, 0)] [((3, 0), .box [.str a1.Service, .str a1.Op, .str a1.Key, .str a1.Value, .int .i64 a1.Dur, .bool a1.Err]), ((5, 0), .arr 27 2 false (List.map enc26 v5_s_1)), ((8, 0), .box [.int .u64 x24.Trace.Hi, .int .u64 x24.Trace.Lo, .int .i64 x24.First, .int .i64 x24.Last, .bool x24.Sure, .sl 10 (List.map enc29 x24.Spans)])] [(3, 1), (5, 1), (8, 1)] (envOk_cons (by conv => lhs; whnf) (by exact rfl) (envOk_cons (by conv => lhs; whnf) (by exact rfl) (envOk_cons (by conv => lhs; whnf) (by exact rfl) (envOk_cons (by conv => lhs; whnf) (by exact rfl) (envOk_cons (by conv => lhs; whnf) (by exact rfl) (envOk_cons (by conv => lhs; whnf) (by exact rfl) (envOk_cons (by conv => lhs; whnf) (by exact rfl) (envOk_cons (by conv => lhs; whnf) (by exact rfl) envOk_nil)))))))) (objOk_cons (by conv => lhs; whnf) (by conv => lhs; whnf) (by exact rfl) (by simp) (objOk_cons (by conv => lhs; whnf) (by conv => lhs; whnf) (by exact rfl) (by simp) (objOk_cons (by conv => lhs; whnf) (by conv => lhs; whnf) (by exact rfl) (by simp) objOk_nil))) (nodup_b rfl) (nodup_b rfl) rfl rfl, (IntKind.i64.wrap (v11_5 + 1)), h, rfl⟩
            · have h := ifF c50 h
              refine aw_cond_f (by decide) rfl ?_
              refine aw_exit ?_
              have h := leafR h hq43
              obtain rfl := Option.some.inj h
              have h := hk41
              exact ⟨_, reb_lit [(0, .sl 4 (List.map enc44 a0)), (3, .ptr 3 0 0), (5, .own 5 0), (6, .int .i64 v6_0), (7, .int .i64 v7_1), (8, .ptr 8 0 0), (9, .bool v9_2), (11, .int .i64 v11_5)] [(3, 0), (5, 0), (8, 0)] [((3, 0), .box [.str a1.Service, .str a1.Op, .str a1.Key, .str a1.Value, .int .i64 a1.Dur, .bool a1.Err]), ((5, 0), .arr 27 2 false (List.map enc26 v5_s_1)), ((8, 0), .box [.int .u64 x24.Trace.Hi, .int .u64 x24.Trace.Lo, .int .i64 x24.First, .int .i64 x24.Last, .bool x24.Sure, .sl 10 (List.map enc29 x24.Spans)])] [(3, 1), (5, 1), (8, 1)] (envOk_cons (by conv => lhs; whnf) (by exact rfl) (envOk_cons (by conv => lhs; whnf) (by exact rfl) (envOk_cons (by conv => lhs; whnf) (by exact rfl) (envOk_cons (by conv => lhs; whnf) (by exact rfl) (envOk_cons (by conv => lhs; whnf) (by exact rfl) (envOk_cons (by conv => lhs; whnf) (by exact rfl) (envOk_cons (by conv => lhs; whnf) (by exact rfl) (envOk_cons (by conv => lhs; whnf) (by exact rfl) envOk_nil)))))))) (objOk_cons (by conv => lhs; whnf) (by conv => lhs; whnf) (by exact rfl) (by simp) (objOk_cons (by conv => lhs; whnf) (by conv => lhs; whnf) (by exact rfl) (by simp) (objOk_cons (by conv => lhs; whnf) (by conv => lhs; whnf) (by exact rfl) (by simp) objOk_nil))) (nodup_b rfl) (nodup_b rfl) rfl rfl, v11_5, h, rfl⟩
          · have h := ifF c46 h
            refine aoS (some 58) rfl rfl (by decide) ?_
            refine aoS (some 59) rfl rfl (by decide) ?_
            refine aoS (some 60) rfl rfl (by decide) ?_
            refine aoS (some 61) rfl rfl (by decide) ?_
            refine aoS (some 62) rfl rfl (by decide) ?_
            refine aoS (some 63) rfl rfl (by decide) ?_
            refine aoS (some 64) rfl rfl (by decide) ?_
            refine aoP (some 65) rfl rfl (does_pick (v := .bool false) (by conv => lhs; whnf) (by exact rfl)) (by decide) ?_
            refine ao_nil_d (by kernel_rfl) ?_
            refine hK45 _ ?_
            refine aw_cond_f (by decide) rfl ?_
            refine aw_exit ?_
            have h := leafR h hq43
            obtain rfl := Option.some.inj h
            have h := hk41
            exact ⟨_, reb_lit [(0, .sl 4 (List.map enc44 a0)), (3, .ptr 3 0 0), (5, .own 5 0), (6, .int .i64 v6_0), (7, .int .i64 v7_1), (8, .ptr 8 0 0), (9, .bool v9_2), (11, .int .i64 v11_5)] [(3, 0), (5, 0), (8, 0)] [((3, 0), .box [.str a1.Service, .str a1.Op, .str a1.Key, .str a1.Value, .int .i64 a1.Dur, .bool a1.Err]), ((5, 0), .arr 27 2 false (List.map enc26 v5_s_1)), ((8, 0), .box [.int .u64 x24.Trace.Hi, .int .u64 x24.Trace.Lo, .int .i64 x24.First, .int .i64 x24.Last, .bool x24.Sure, .sl 10 (List.map enc29 x24.Spans)])] [(3, 1), (5, 1), (8, 1)] (envOk_cons (by conv => lhs; whnf) (by exact rfl) (envOk_cons (by conv => lhs; whnf) (by exact rfl) (envOk_cons (by conv => lhs; whnf) (by exact rfl) (envOk_cons (by conv => lhs; whnf) (by exact rfl) (envOk_cons (by conv => lhs; whnf) (by exact rfl) (envOk_cons (by conv => lhs; whnf) (by exact rfl) (envOk_cons (by conv => lhs; whnf) (by exact rfl) (envOk_cons (by conv => lhs; whnf) (by exact rfl) envOk_nil)))))))) (objOk_cons (by conv => lhs; whnf) (by conv => lhs; whnf) (by exact rfl) (by simp) (objOk_cons (by conv => lhs; whnf) (by conv => lhs; whnf) (by exact rfl) (by simp) (objOk_cons (by conv => lhs; whnf) (by conv => lhs; whnf) (by exact rfl) (by simp) objOk_nil))) (nodup_b rfl) (nodup_b rfl) rfl rfl, v11_5, h, rfl⟩
        · rintro s ⟨v11_4, h, rfl⟩
          unfold gleaningref28_all_k4 at h
          obtain ⟨q51, h, hk52⟩ := bnd_some h
          refine aw_cut (fun s => ∃ (v83_6 : Bool), gleaningref28_all_k6 v5_s_1 v7_1 x24 v11_4 v83_6 = some q12 ∧ s = lit [(0, .sl 4 (List.map enc44 a0)), (3, .ptr 3 0 0), (5, .own 5 0), (6, .int .i64 v6_0), (7, .int .i64 v7_1), (8, .ptr 8 0 0), (11, .int .i64 v11_4), (83, .bool v83_6)] [((3, 0), .box [.str a1.Service, .str a1.Op, .str a1.Key, .str a1.Value, .int .i64 a1.Dur, .bool a1.Err]), ((5, 0), .arr 27 2 false (List.map enc26 v5_s_1)), ((8, 0), .box [.int .u64 x24.Trace.Hi, .int .u64 x24.Trace.Lo, .int .i64 x24.First, .int .i64 x24.Last, .bool x24.Sure, .sl 10 (List.map enc29 x24.Spans)])] [(3, 1), (5, 1), (8, 1)] X) ?_ ?_
          · skip
            refine aw_regd (by kernel_rfl) (by decide +kernel) ?_
            refine aoP (some 68) rfl rfl (does_move (v := .bool v9_2) (by exact rfl)) (by decide) ?_
            refine aoP (some 69) rfl rfl (does_move (v := .bool v9_2) (by exact rfl)) (by decide) ?_
            refine ao_bool (c := v9_2) 69 rfl (fun c53 => ?_) (fun c53 => ?_)
            · have h := ifT c53 h
              refine aoP (some 70) rfl rfl (does_move (v := .int .i64 v11_4) (by exact rfl)) (by decide) ?_
              refine aoP (some 71) rfl rfl (does_move (v := .own 5 0) (by exact rfl)) (by decide) ?_
              refine aoR (some 72) rfl rfl ((does_len_own (by conv => lhs; whnf) (by conv => lhs; whnf) ty37).cast (v' := .int .i64 (List.length v5_s_1 : Int)) (by exact len_map _)) (by decide) ?_
              refine aoP (some 73) rfl rfl (does_bin (v := .bool (v11_4 == (List.length v5_s_1 : Int))) (by conv => lhs; whnf) (by conv => lhs; whnf) rfl) (by decide) ?_
              refine aoP (some 74) rfl rfl (does_move (v := .bool (v11_4 == (List.length v5_s_1 : Int))) (by exact rfl)) (by decide) ?_
              refine ao_bool (c := (v11_4 == (List.length v5_s_1 : Int))) 74 rfl (fun c54 => ?_) (fun c54 => ?_)
              · have h := ifT c54 h
                refine aoS (some 75) rfl rfl (by decide) ?_
                refine aoS (some 76) rfl rfl (by decide) ?_
                refine aoS (some 77) rfl rfl (by decide) ?_
                refine aoS (some 78) rfl rfl (by decide) ?_
                refine aoS (some 79) rfl rfl (by decide) ?_
                refine aoS (some 80) rfl rfl (by decide) ?_
                refine aoS (some 81) rfl rfl (by decide) ?_
                refine aoP (some 82) rfl rfl (does_pick (v := .bool true) (by conv => lhs; whnf) (by exact rfl)) (by decide) ?_
                refine aoP (some 83) rfl rfl (does_pick (v := .bool true) (by conv => lhs; whnf) (by exact rfl)) (by decide) ?_
                refine ao_nil_d (by kernel_rfl) ?_
                obtain rfl := Option.some.inj h
                have h := hk52
                exact ⟨_, reb_lit [(0, .sl 4 (List.map enc44 a0)), (3, .ptr 3 0 0), (5, .own 5 0), (6, .int .i64 v6_0), (7, .int .i64 v7_1), (8, .ptr 8 0 0), (11, .int .i64 v11_4), (83, .bool true)] [(3, 0), (5, 0), (8, 0)] [((3, 0), .box [.str a1.Service, .str a1.Op, .str a1.Key, .str a1.Value, .int .i64 a1.Dur, .bool a1.Err]), ((5, 0), .arr 27 2 false (List.map enc26 v5_s_1)), ((8, 0), .box [.int .u64 x24.Trace.Hi, .int .u64 x24.Trace.Lo, .int .i64 x24.First, .int .i64 x24.Last, .bool x24.Sure, .sl 10 (List.map enc29 x24.Spans)])] [(3, 1), (5, 1), (8, 1)] (envOk_cons (by conv => lhs; whnf) (by exact rfl) (envOk_cons (by conv => lhs; whnf) (by exact rfl) (envOk_cons (by conv => lhs; whnf) (by exact rfl) (envOk_cons (by conv => lhs; whnf) (by exact rfl) (envOk_cons (by conv => lhs; whnf) (by exact rfl) (envOk_cons (by conv => lhs; whnf) (by exact rfl) (envOk_cons (by conv => lhs; whnf) (by exact rfl) (envOk_cons (by conv => lhs; whnf) (by exact rfl) envOk_nil)))))))) (objOk_cons (by conv => lhs; whnf) (by conv => lhs; whnf) (by exact rfl) (by simp) (objOk_cons (by conv => lhs; whnf) (by conv => lhs; whnf) (by exact rfl) (by simp) (objOk_cons (by conv => lhs; whnf) (by conv => lhs; whnf) (by exact rfl) (by simp) objOk_nil))) (nodup_b rfl) (nodup_b rfl) rfl rfl, true, h, rfl⟩
              · have h := ifF c54 h
                refine aoP (some 75) rfl rfl (does_move (v := .own 5 0) (by exact rfl)) (by decide) ?_
                refine aoP (some 76) rfl rfl (does_move (v := .int .i64 v11_4) (by exact rfl)) (by decide) ?_
                obtain ⟨g55, h⟩ := gd_some h
                obtain ⟨x56, hx56, h⟩ := bnd_some h
                refine aoR (some 77) rfl rfl (does_indexAddr_own (by conv => lhs; whnf) (by conv => lhs; whnf) (by conv => lhs; whnf) ty37 ty27 g55 (by exact own_lt hx56)) (by decide) ?_
                refine aoR (some 78) rfl rfl (does_load (v := .agg [.int .u64 x56.Hi, .int .u64 x56.Lo]) (by conv => lhs; whnf) (cellsAt_eptr (by conv => lhs; whnf) (by exact map_get hx56)) ty27 (by exact rfl)) (by decide) ?_
                refine aoP (some 79) rfl rfl (does_fieldAddr (q := .ptr 8 0 0) (by conv => lhs; whnf) ty51 rfl ty27 (by decide) (by exact rfl)) (by decide) ?_
                refine aoR (some 80) rfl rfl (does_load (v := .agg [.int .u64 x24.Trace.Hi, .int .u64 x24.Trace.Lo]) (by conv => lhs; whnf) (by conv => lhs; whnf) ty27 (by exact rfl)) (by decide) ?_
                refine aoP (some 81) rfl rfl (does_eq_struct (v := .bool (!((x56.Hi == x24.Trace.Hi) && ((x56.Lo == x24.Trace.Lo) && true)))) (by conv => lhs; whnf) (by conv => lhs; whnf) fk27 rfl ag27 eg27 (by conv => lhs; whnf) rfl) (by decide) ?_
                refine aoP (some 82) rfl rfl (does_pick (v := .bool (!((x56.Hi == x24.Trace.Hi) && ((x56.Lo == x24.Trace.Lo) && true)))) (by conv => lhs; whnf) (by exact rfl)) (by decide) ?_
                refine aoP (some 83) rfl rfl (does_pick (v := .bool (!((x56.Hi == x24.Trace.Hi) && ((x56.Lo == x24.Trace.Lo) && true)))) (by conv => lhs; whnf) (by exact rfl)) (by decide) ?_
                refine ao_nil_d (by kernel_rfl) ?_
                obtain rfl := Option.some.inj h
                have h := hk52
                exact ⟨_, reb_lit [(0, .sl 4 (List.map enc44 a0)), (3, .ptr 3 0 0), (5, .own 5 0), (6, .int .i64 v6_0), (7, .int .i64 v7_1), (8, .ptr 8 0 0), (11, .int .i64 v11_4), (83, .bool (!((x56.Hi == x24.Trace.Hi) && ((x56.Lo == x24.Trace.Lo) && true))))] [(3, 0), (5, 0), (8, 0)] [((3, 0), .box [.str a1.Service, .str a1.Op, .str a1.Key, .str a1.Value, .int .i64 a1.Dur, .bool a1.Err]), ((5, 0), .arr 27 2 false (List.map enc26 v5_s_1)), ((8, 0), .box [.int .u64 x24.Trace.Hi, .int .u64 x24.Trace.Lo, .int .i64 x24.First, .int .i64 x24.Last, .bool x24.Sure, .sl 10 (List.map enc29 x24.Spans)])] [(3, 1), (5, 1), (8, 1)] (envOk_cons (by conv => lhs; whnf) (by exact rfl) (envOk_cons (by conv => lhs; whnf) (by exact rfl) (envOk_cons (by conv => lhs; whnf) (by exact rfl) (envOk_cons (by conv => lhs; whnf) (by exact rfl) (envOk_cons (by conv => lhs; whnf) (by exact rfl) (envOk_cons (by conv => lhs; whnf) (by exact rfl) (envOk_cons (by conv => lhs; whnf) (by exact rfl) (envOk_cons (by conv => lhs; whnf) (by exact rfl) envOk_nil)))))))) (objOk_cons (by conv => lhs; whnf) (by conv => lhs; whnf) (by exact rfl) (by simp) (objOk_cons (by conv => lhs; whnf) (by conv => lhs; whnf) (by exact rfl) (by simp) (objOk_cons (by conv => lhs; whnf) (by conv => lhs; whnf) (by exact rfl) (by simp) objOk_nil))) (nodup_b rfl) (nodup_b rfl) rfl rfl, (!((x56.Hi == x24.Trace.Hi) && ((x56.Lo == x24.Trace.Lo) && true))), h, rfl⟩
            · have h := ifF c53 h
              refine aoS (some 70) rfl rfl (by decide) ?_
              refine aoS (some 71) rfl rfl (by decide) ?_
              refine aoS (some 72) rfl rfl (by decide) ?_
              refine aoS (some 73) rfl rfl (by decide) ?_
              refine aoS (some 74) rfl rfl (by decide) ?_
              refine aoS (some 75) rfl rfl (by decide) ?_
              refine aoS (some 76) rfl rfl (by decide) ?_
              refine aoS (some 77) rfl rfl (by decide) ?_
              refine aoS (some 78) rfl rfl (by decide) ?_
              refine aoS (some 79) rfl rfl (by decide) ?_
              refine aoS (some 80) rfl rfl (by decide) ?_
              refine aoS (some 81) rfl rfl (by decide) ?_
              refine aoS (some 82) rfl rfl (by decide) ?_
              refine aoP (some 83) rfl rfl (does_pick (v := .bool false) (by conv => lhs; whnf) (by exact rfl)) (by decide) ?_
              refine ao_nil_d (by kernel_rfl) ?_
              obtain rfl := Option.some.inj h
              have h := hk52
              exact ⟨_, reb_lit [(0, .sl 4 (List.map enc44 a0)), (3, .ptr 3 0 0), (5, .own 5 0), (6, .int .i64 v6_0), (7, .int .i64 v7_1), (8, .ptr 8 0 0), (11, .int .i64 v11_4), (83, .bool false)] [(3, 0), (5, 0), (8, 0)] [((3, 0), .box [.str a1.Service, .str a1.Op, .str a1.Key, .str a1.Value, .int .i64 a1.Dur, .bool a1.Err]), ((5, 0), .arr 27 2 false (List.map enc26 v5_s_1)), ((8, 0), .box [.int .u64 x24.Trace.Hi, .int .u64 x24.Trace.Lo, .int .i64 x24.First, .int .i64 x24.Last, .bool x24.Sure, .sl 10 (List.map enc29 x24.Spans)])] [(3, 1), (5, 1), (8, 1)] (envOk_cons (by conv => lhs; whnf) (by exact rfl) (envOk_cons (by conv => lhs; whnf) (by exact rfl) (envOk_cons (by conv => lhs; whnf) (by exact rfl) (envOk_cons (by conv => lhs; whnf) (by exact rfl) (envOk_cons (by conv => lhs; whnf) (by exact rfl) (envOk_cons (by conv => lhs; whnf) (by exact rfl) (envOk_cons (by conv => lhs; whnf) (by exact rfl) (envOk_cons (by conv => lhs; whnf) (by exact rfl) envOk_nil)))))))) (objOk_cons (by conv => lhs; whnf) (by conv => lhs; whnf) (by exact rfl) (by simp) (objOk_cons (by conv => lhs; whnf) (by conv => lhs; whnf) (by exact rfl) (by simp) (objOk_cons (by conv => lhs; whnf) (by conv => lhs; whnf) (by exact rfl) (by simp) objOk_nil))) (nodup_b rfl) (nodup_b rfl) rfl rfl, false, h, rfl⟩
          · rintro s ⟨v83_6, h, rfl⟩
            unfold gleaningref28_all_k6 at h
            refine aw_bool (b := v83_6) 83 rfl (fun c57 => ?_) (fun c57 => ?_)
            · have h := ifT c57 h
              refine aw_cond_t (by decide) rfl ?_
              refine aw_freeze (d := 5) (n := 0) (by conv => lhs; whnf) ?_
              refine aw_regd (by kernel_rfl) (by decide +kernel) ?_
              refine aoP (some 84) rfl rfl (does_move (v := .own 5 0) (by exact rfl)) (by decide) ?_
              refine aoP (some 85) rfl rfl (does_move (v := .int .i64 v11_4) (by exact rfl)) (by decide) ?_
              obtain ⟨g58, h⟩ := gd_some h
              obtain ⟨g59, h⟩ := gd_some h
              refine aoD (some 86) rfl rfl (does_slice_own (l := 0) (k := (Int.toNat v11_4)) (by conv => lhs; whnf) (by conv => lhs; whnf) ty37 ty27 bd_none (bd_some (by conv => lhs; whnf) (by exact (nat_of (by omega)))) (by (try simp only [List.length_map]); omega) (by (try simp only [List.length_map]); omega) (by exact part_h _ _)) (by decide) ?_
              obtain ⟨g60, h⟩ := gd_some h
              refine aoD (some 87) rfl rfl (do_append (v := List.map enc26 (List.take (Int.toNat v11_4) v5_s_1)) (by conv => lhs; whnf) (by conv => lhs; whnf) ty37 ty27 rfl rfl (by conv => lhs; whnf) (by first | exact .inl rfl | exact .inr ⟨rfl, rfl⟩) (by conv => lhs; whnf) (by first | exact .inr rfl | exact .inl rfl) (List.nil_append _) (fit_map g60)) (by decide) ?_
              refine aoP (some 88) rfl rfl (does_fieldAddr (q := .ptr 8 0 0) (by conv => lhs; whnf) ty51 rfl ty27 (by decide) (by exact rfl)) (by decide) ?_
              refine aoR (some 89) rfl rfl (does_load (v := .agg [.int .u64 x24.Trace.Hi, .int .u64 x24.Trace.Lo]) (by conv => lhs; whnf) (by conv => lhs; whnf) ty27 (by exact rfl)) (by decide) ?_
              refine aoD (some 90) rfl rfl (do_buildSlice (xs := List.map enc26 [x24.Trace]) ty37 ty27 rfl rfl rfl rfl rfl rfl rfl rfl) (by decide) ?_
              obtain ⟨g61, h⟩ := gd_some h
              refine aoD (some 91) rfl rfl (do_append (v := List.map enc26 ((List.take (Int.toNat v11_4) v5_s_1) ++ [x24.Trace])) (by conv => lhs; whnf) (by conv => lhs; whnf) ty37 ty27 rfl rfl (by conv => lhs; whnf) (by first | exact .inl rfl | exact .inr ⟨rfl, rfl⟩) (by conv => lhs; whnf) (by first | exact .inr rfl | exact .inl rfl) (map_app _ _) (fit_map g61)) (by decide) ?_
              refine aoP (some 92) rfl rfl (does_move (v := .own 5 0) (by exact rfl)) (by decide) ?_
              refine aoP (some 93) rfl rfl (does_move (v := .int .i64 v11_4) (by exact rfl)) (by decide) ?_
              obtain ⟨g62, h⟩ := gd_some h
              obtain ⟨g63, h⟩ := gd_some h
              refine aoD (some 94) rfl rfl (does_slice_own (l := (Int.toNat v11_4)) (by conv => lhs; whnf) (by conv => lhs; whnf) ty37 ty27 (bd_some (by conv => lhs; whnf) (by exact (nat_of g62))) bd_none (by (try simp only [List.length_map]); omega) (by (try simp only [List.length_map]); omega) (by exact part_l _ _)) (by decide) ?_
              obtain ⟨g64, h⟩ := gd_some h
              refine aoD (some 95) rfl rfl (do_append (v := List.map enc26 (((List.take (Int.toNat v11_4) v5_s_1) ++ [x24.Trace]) ++ (List.drop (Int.toNat v11_4) v5_s_1))) (by conv => lhs; whnf) (by conv => lhs; whnf) ty37 ty27 rfl rfl (by conv => lhs; whnf) (by first | exact .inl rfl | exact .inr ⟨rfl, rfl⟩) (by conv => lhs; whnf) (by first | exact .inr rfl | exact .inl rfl) (map_app _ _) (fit_map g64)) (by decide) ?_
              refine aoP (some 5) rfl rfl (does_assign (v := .own 95 0) (by exact rfl)) (by decide) ?_
              refine ao_nil_d (by kernel_rfl) ?_
              refine hK19 _ ?_
              refine aw_regL ?_
              refine alP (some 26) rfl rfl (does_move (v := .int .i64 v7_1) (by exact rfl)) (by decide) ?_
              refine alP (some 27) rfl rfl (does_bin (v := .int .i64 (IntKind.i64.wrap (v7_1 + 1))) (by conv => lhs; whnf) (by conv => lhs; whnf) rfl) (by decide) ?_
              refine alP (some 7) rfl rfl (does_assign (v := .int .i64 (IntKind.i64.wrap (v7_1 + 1))) (by exact rfl)) (by decide) ?_
              refine al_nil ?_
              have h := leafL h hq13
              exact ⟨m1, Nat.lt_succ_self _, _, reb_lit [(0, .sl 4 (List.map enc44 a0)), (3, .ptr 3 0 0), (5, .own 5 0), (6, .int .i64 v6_0), (7, .int .i64 (IntKind.i64.wrap (v7_1 + 1)))] [(3, 0), (95, 0)] [((3, 0), .box [.str a1.Service, .str a1.Op, .str a1.Key, .str a1.Value, .int .i64 a1.Dur, .bool a1.Err]), ((5, 0), .arr 27 2 false (List.map enc26 (((List.take (Int.toNat v11_4) v5_s_1) ++ [x24.Trace]) ++ (List.drop (Int.toNat v11_4) v5_s_1))))] [(3, 1), (5, 1)] (envOk_cons (by conv => lhs; whnf) (by exact rfl) (envOk_cons (by conv => lhs; whnf) (by exact rfl) (envOk_cons (by conv => lhs; whnf) (by exact rfl) (envOk_cons (by conv => lhs; whnf) (by exact rfl) (envOk_cons (by conv => lhs; whnf) (by exact rfl) envOk_nil))))) (objOk_cons (by conv => lhs; whnf) (by conv => lhs; whnf) (by exact rfl) (by simp) (objOk_cons (by conv => lhs; whnf) (by conv => lhs; whnf) (by exact rfl) (by simp) objOk_nil)) (nodup_b rfl) (nodup_b rfl) rfl rfl, (((List.take (Int.toNat v11_4) v5_s_1) ++ [x24.Trace]) ++ (List.drop (Int.toNat v11_4) v5_s_1)), (IntKind.i64.wrap (v7_1 + 1)), h, rfl⟩
            · have h := ifF c57 h
              refine aw_cond_f (by decide) rfl ?_
              refine aw_skip ?_
              refine hK19 _ ?_
              refine aw_regL ?_
              refine alP (some 26) rfl rfl (does_move (v := .int .i64 v7_1) (by exact rfl)) (by decide) ?_
              refine alP (some 27) rfl rfl (does_bin (v := .int .i64 (IntKind.i64.wrap (v7_1 + 1))) (by conv => lhs; whnf) (by conv => lhs; whnf) rfl) (by decide) ?_
              refine alP (some 7) rfl rfl (does_assign (v := .int .i64 (IntKind.i64.wrap (v7_1 + 1))) (by exact rfl)) (by decide) ?_
              refine al_nil ?_
              have h := leafL h hq13
              exact ⟨m1, Nat.lt_succ_self _, _, reb_lit [(0, .sl 4 (List.map enc44 a0)), (3, .ptr 3 0 0), (5, .own 5 0), (6, .int .i64 v6_0), (7, .int .i64 (IntKind.i64.wrap (v7_1 + 1)))] [(3, 0), (5, 0)] [((3, 0), .box [.str a1.Service, .str a1.Op, .str a1.Key, .str a1.Value, .int .i64 a1.Dur, .bool a1.Err]), ((5, 0), .arr 27 2 false (List.map enc26 v5_s_1))] [(3, 1), (5, 1)] (envOk_cons (by conv => lhs; whnf) (by exact rfl) (envOk_cons (by conv => lhs; whnf) (by exact rfl) (envOk_cons (by conv => lhs; whnf) (by exact rfl) (envOk_cons (by conv => lhs; whnf) (by exact rfl) (envOk_cons (by conv => lhs; whnf) (by exact rfl) envOk_nil))))) (objOk_cons (by conv => lhs; whnf) (by conv => lhs; whnf) (by exact rfl) (by simp) (objOk_cons (by conv => lhs; whnf) (by conv => lhs; whnf) (by exact rfl) (by simp) objOk_nil)) (nodup_b rfl) (nodup_b rfl) rfl rfl, v5_s_1, (IntKind.i64.wrap (v7_1 + 1)), h, rfl⟩
    · have h := ifF c18 h
      refine aw_cond_f (by decide) rfl ?_
      refine aw_exit ?_
      have h := leafR h hq13
      refine hK10 _ ?_
      refine aw_regL ?_
      refine alP (some 16) rfl rfl (does_move (v := .int .i64 v6_0) (by exact rfl)) (by decide) ?_
      refine alP (some 17) rfl rfl (does_bin (v := .int .i64 (IntKind.i64.wrap (v6_0 + 1))) (by conv => lhs; whnf) (by conv => lhs; whnf) rfl) (by decide) ?_
      refine alP (some 6) rfl rfl (does_assign (v := .int .i64 (IntKind.i64.wrap (v6_0 + 1))) (by exact rfl)) (by decide) ?_
      refine al_nil ?_
      have h := leafL h hq6
      exact ⟨m0, Nat.lt_succ_self _, _, reb_lit [(0, .sl 4 (List.map enc44 a0)), (3, .ptr 3 0 0), (5, .own 5 0), (6, .int .i64 (IntKind.i64.wrap (v6_0 + 1)))] [(3, 0), (5, 0)] [((3, 0), .box [.str a1.Service, .str a1.Op, .str a1.Key, .str a1.Value, .int .i64 a1.Dur, .bool a1.Err]), ((5, 0), .arr 27 2 false (List.map enc26 v5_s_1))] [(3, 1), (5, 1)] (envOk_cons (by conv => lhs; whnf) (by exact rfl) (envOk_cons (by conv => lhs; whnf) (by exact rfl) (envOk_cons (by conv => lhs; whnf) (by exact rfl) (envOk_cons (by conv => lhs; whnf) (by exact rfl) envOk_nil)))) (objOk_cons (by conv => lhs; whnf) (by conv => lhs; whnf) (by exact rfl) (by simp) (objOk_cons (by conv => lhs; whnf) (by conv => lhs; whnf) (by exact rfl) (by simp) objOk_nil)) (nodup_b rfl) (nodup_b rfl) rfl rfl, v5_s_1, (IntKind.i64.wrap (v6_0 + 1)), h, rfl⟩
  · have h := ifF c9 h
    refine aw_cond_f (by decide) rfl ?_
    refine aw_exit ?_
    have h := leafR h hq6
    refine hK3 _ ?_
    refine aw_seq_k (fun K65 hK65 => ?_)
    refine aw_regL ?_
    refine alP (some 96) rfl rfl (does_move (v := .own 5 0) (by exact rfl)) (by decide) ?_
    refine alP (some 4) rfl rfl (does_assign (v := .own 5 0) (by exact rfl)) (by decide) ?_
    refine al_nil ?_
    refine hK65 _ ?_
    refine aw_ret ?_
    obtain rfl := Option.some.inj h
    exact ret_okR [(5, 0)] (by conv => lhs; whnf) (by conv => lhs; whnf) (by exact rfl) (rowsOk_cons (by conv => lhs; whnf) (by exact rfl) trivial) (nodup_b rfl) (.inr rfl) rfl
def gleaningref1_Cap (a0 : Int) (a1 : Int) (a2 : Int) : Option Int :=
  if (decide (a0 < a1)) = true then (some a1) else (if (decide (a2 < a0)) = true then (some a2) else (some a0))
set_option maxRecDepth 100000 in
set_option maxHeartbeats 8000000 in
/-- gleaning/gleaningref1.Cap -/
theorem gleaningref1_Cap_ok (a0 : Int) (a1 : Int) (a2 : Int) {r : Int} (h : gleaningref1_Cap a0 a1 a2 = some r) : Ok Try.prog 26 [.int .i64 a0, .int .i64 a1, .int .i64 a2] [] [] (.int .i64 r) [] [] := by
  unfold gleaningref1_Cap at h
  refine ok_of_code Try.func26 rfl (by show (3 : Nat) ≤ _; decide) (Nat.le_refl _) fun X => ?_
  refine aw_seq_k (fun K1 hK1 => ?_)
  refine aw_regL ?_
  refine alP (some 6) rfl rfl (does_assign (v := .int .i64 0) (by exact rfl)) (by decide) ?_
  refine al_nil ?_
  refine hK1 _ ?_
  refine aw_seq_k (fun K2 hK2 => ?_)
  refine aw_block ?_
  refine aw_seq_k (fun K3 hK3 => ?_)
  refine aw_regL ?_
  refine alP (some 8) rfl rfl (does_move (v := .int .i64 a0) (by exact rfl)) (by decide) ?_
  refine alP (some 9) rfl rfl (does_move (v := .int .i64 a1) (by exact rfl)) (by decide) ?_
  refine alP (some 10) rfl rfl (does_bin (v := .bool (decide (a0 < a1))) (by conv => lhs; whnf) (by conv => lhs; whnf) rfl) (by decide) ?_
  refine alP (some 7) rfl rfl (does_assign (v := .bool (decide (a0 < a1))) (by exact rfl)) (by decide) ?_
  refine al_nil ?_
  refine hK3 _ ?_
  refine aw_bool (b := (decide (a0 < a1))) 7 rfl (fun c4 => ?_) (fun c4 => ?_)
  · have h := ifT c4 h
    refine aw_cond_t (by decide) rfl ?_
    refine aw_seq_k (fun K5 hK5 => ?_)
    refine aw_regL ?_
    refine alP (some 11) rfl rfl (does_move (v := .int .i64 a1) (by exact rfl)) (by decide) ?_
    refine alP (some 6) rfl rfl (does_assign (v := .int .i64 a1) (by exact rfl)) (by decide) ?_
    refine al_nil ?_
    refine hK5 _ ?_
    refine aw_ret ?_
    obtain rfl := Option.some.inj h
    exact ret_ok1 (by conv => lhs; whnf) (by conv => lhs; whnf) (by exact rfl) (.inr rfl) rfl
  · have h := ifF c4 h
    refine aw_cond_f (by decide) rfl ?_
    refine aw_seq_k (fun K6 hK6 => ?_)
    refine aw_regL ?_
    refine alP (some 13) rfl rfl (does_move (v := .int .i64 a0) (by exact rfl)) (by decide) ?_
    refine alP (some 14) rfl rfl (does_move (v := .int .i64 a2) (by exact rfl)) (by decide) ?_
    refine alP (some 15) rfl rfl (does_bin (v := .bool (decide (a2 < a0))) (by conv => lhs; whnf) (by conv => lhs; whnf) rfl) (by decide) ?_
    refine alP (some 12) rfl rfl (does_assign (v := .bool (decide (a2 < a0))) (by exact rfl)) (by decide) ?_
    refine al_nil ?_
    refine hK6 _ ?_
    refine aw_bool (b := (decide (a2 < a0))) 12 rfl (fun c7 => ?_) (fun c7 => ?_)
    · have h := ifT c7 h
      refine aw_cond_t (by decide) rfl ?_
      refine aw_seq_k (fun K8 hK8 => ?_)
      refine aw_regL ?_
      refine alP (some 16) rfl rfl (does_move (v := .int .i64 a2) (by exact rfl)) (by decide) ?_
      refine alP (some 6) rfl rfl (does_assign (v := .int .i64 a2) (by exact rfl)) (by decide) ?_
      refine al_nil ?_
      refine hK8 _ ?_
      refine aw_ret ?_
      obtain rfl := Option.some.inj h
      exact ret_ok1 (by conv => lhs; whnf) (by conv => lhs; whnf) (by exact rfl) (.inr rfl) rfl
    · have h := ifF c7 h
      refine aw_cond_f (by decide) rfl ?_
      refine aw_skip ?_
      refine hK2 _ ?_
      refine aw_seq_k (fun K9 hK9 => ?_)
      refine aw_regL ?_
      refine alP (some 17) rfl rfl (does_move (v := .int .i64 a0) (by exact rfl)) (by decide) ?_
      refine alP (some 6) rfl rfl (does_assign (v := .int .i64 a0) (by exact rfl)) (by decide) ?_
      refine al_nil ?_
      refine hK9 _ ?_
      refine aw_ret ?_
      obtain rfl := Option.some.inj h
      exact ret_ok1 (by conv => lhs; whnf) (by conv => lhs; whnf) (by exact rfl) (.inr rfl) rfl
def gleaningref28_Find (a0 : List Block) (a1 : Query) (a2 : Int) : Option (List Trace) :=
  Option.bind (gleaningref28_all a0 a1) (fun (x3 : List Trace) => Option.bind (gleaningref1_Cap a2 0 (List.length x3 : Int)) (fun (x5 : Int) => gd (0 ≤ x5) (gd (x5 ≤ (List.length x3 : Int)) (some (List.take (Int.toNat x5) x3)))))
set_option maxRecDepth 100000 in
set_option maxHeartbeats 8000000 in
/-- gleaning/gleaningref28.Find -/
theorem gleaningref28_Find_ok (a0 : List Block) (a1 : Query) (a2 : Int) {r : List Trace} (h : gleaningref28_Find a0 a1 a2 = some r) : Ok Try.prog 15 [.sl 4 (List.map enc44 a0), .agg [.str a1.Service, .str a1.Op, .str a1.Key, .str a1.Value, .int .i64 a1.Dur, .bool a1.Err], .int .i64 a2] [] [] (.sl 2 (List.map enc26 r)) [] [] := by
  unfold gleaningref28_Find at h
  refine ok_of_code Try.func15 rfl (by show (3 : Nat) ≤ _; decide) (Nat.le_refl _) fun X => ?_
  refine aw_seq_k (fun K1 hK1 => ?_)
  refine aw_regL ?_
  refine alD (some 4) rfl rfl (do_box (by conv => lhs; whnf) rfl rfl) (by decide) ?_
  refine alP (some 6) rfl rfl (does_assign (v := .nil) (by exact rfl)) (by decide) ?_
  refine al_nil ?_
  refine hK1 _ ?_
  refine aw_seq_k (fun K2 hK2 => ?_)
  refine aw_regL ?_
  refine alP (some 8) rfl rfl (does_move (v := .sl 4 (List.map enc44 a0)) (by exact rfl)) (by decide) ?_
  refine alR (some 9) rfl rfl (does_load (v := .agg [.str a1.Service, .str a1.Op, .str a1.Key, .str a1.Value, .int .i64 a1.Dur, .bool a1.Err]) (by conv => lhs; whnf) (by conv => lhs; whnf) ty24 (by exact rfl)) (by decide) ?_
  obtain ⟨x3, hx3, h⟩ := bnd_some h
  refine alD (some 10) rfl rfl (do_call0 10 false (gleaningref28_all_ok a0 a1 hx3) rfl ent25 rfl rfl) (by decide) ?_
  refine alP (some 7) rfl rfl (does_assign (v := .own 10 0) (by exact rfl)) (by decide) ?_
  refine al_nil ?_
  refine hK2 _ ?_
  refine aw_seq_k (fun K4 hK4 => ?_)
  refine aw_regL ?_
  refine alP (some 11) rfl rfl (does_move (v := .own 10 0) (by exact rfl)) (by decide) ?_
  refine alP (some 12) rfl rfl (does_move (v := .int .i64 a2) (by exact rfl)) (by decide) ?_
  refine alP (some 13) rfl rfl (does_move (v := .own 10 0) (by exact rfl)) (by decide) ?_
  refine alR (some 14) rfl rfl ((does_len_own (by conv => lhs; whnf) (by conv => lhs; whnf) ty37).cast (v' := .int .i64 (List.length x3 : Int)) (by exact len_map _)) (by decide) ?_
  obtain ⟨x5, hx5, h⟩ := bnd_some h
  refine alD (some 15) rfl rfl (do_call0 15 false (gleaningref1_Cap_ok a2 0 (List.length x3 : Int) hx5) rfl ent26 rfl rfl) (by decide) ?_
  obtain ⟨g6, h⟩ := gd_some h
  obtain ⟨g7, h⟩ := gd_some h
  refine alD (some 16) rfl rfl (does_frz (d := 10) (n := 0) (by conv => lhs; whnf) (does_slice_own (l := 0) (k := (Int.toNat x5)) (by conv => lhs; whnf) (by conv => lhs; whnf) ty37 ty27 bd_none (bd_some (by conv => lhs; whnf) (by exact (nat_of (by omega)))) (by (try simp only [List.length_map]); omega) (by (try simp only [List.length_map]); omega) (by exact part_h _ _))) (by decide) ?_
  refine alP (some 6) rfl rfl (does_assign (v := .sl 2 (List.map enc26 (List.take (Int.toNat x5) x3))) (by exact rfl)) (by decide) ?_
  refine al_nil ?_
  refine hK4 _ ?_
  refine aw_ret ?_
  obtain rfl := Option.some.inj h
  exact ret_ok1 (by conv => lhs; whnf) (by conv => lhs; whnf) (by exact rfl) (.inr rfl) rfl
def gleaningref28_Count (a0 : List Block) (a1 : Query) : Option Int :=
  Option.bind (gleaningref28_all a0 a1) (fun (x3 : List Trace) => some (List.length x3 : Int))
set_option maxRecDepth 100000 in
set_option maxHeartbeats 8000000 in
/-- gleaning/gleaningref28.Count -/
theorem gleaningref28_Count_ok (a0 : List Block) (a1 : Query) {r : Int} (h : gleaningref28_Count a0 a1 = some r) : Ok Try.prog 17 [.sl 4 (List.map enc44 a0), .agg [.str a1.Service, .str a1.Op, .str a1.Key, .str a1.Value, .int .i64 a1.Dur, .bool a1.Err]] [] [] (.int .i64 r) [] [] := by
  unfold gleaningref28_Count at h
  refine ok_of_code Try.func17 rfl (by show (2 : Nat) ≤ _; decide) (Nat.le_refl _) fun X => ?_
  refine aw_seq_k (fun K1 hK1 => ?_)
  refine aw_regL ?_
  refine alD (some 3) rfl rfl (do_box (by conv => lhs; whnf) rfl rfl) (by decide) ?_
  refine alP (some 4) rfl rfl (does_assign (v := .int .i64 0) (by exact rfl)) (by decide) ?_
  refine al_nil ?_
  refine hK1 _ ?_
  refine aw_seq_k (fun K2 hK2 => ?_)
  refine aw_regL ?_
  refine alP (some 5) rfl rfl (does_move (v := .sl 4 (List.map enc44 a0)) (by exact rfl)) (by decide) ?_
  refine alR (some 6) rfl rfl (does_load (v := .agg [.str a1.Service, .str a1.Op, .str a1.Key, .str a1.Value, .int .i64 a1.Dur, .bool a1.Err]) (by conv => lhs; whnf) (by conv => lhs; whnf) ty24 (by exact rfl)) (by decide) ?_
  obtain ⟨x3, hx3, h⟩ := bnd_some h
  refine alD (some 7) rfl rfl (do_call0 7 false (gleaningref28_all_ok a0 a1 hx3) rfl ent25 rfl rfl) (by decide) ?_
  refine alR (some 8) rfl rfl ((does_len_own (by conv => lhs; whnf) (by conv => lhs; whnf) ty37).cast (v' := .int .i64 (List.length x3 : Int)) (by exact len_map _)) (by decide) ?_
  refine alP (some 4) rfl rfl (does_assign (v := .int .i64 (List.length x3 : Int)) (by exact rfl)) (by decide) ?_
  refine al_nil ?_
  refine hK2 _ ?_
  refine aw_ret ?_
  obtain rfl := Option.some.inj h
  exact ret_ok1 (by conv => lhs; whnf) (by conv => lhs; whnf) (by exact rfl) (.inr rfl) rfl
def gleaningref28_SameTraces_l0 (a0 : List Trace) (a1 : List Trace) (v5_0 : Int) : Option (Int ⊕ Bool) :=
  if (decide (v5_0 < (List.length a0 : Int))) = true then (gd (0 ≤ v5_0) (Option.bind (a0[(Int.toNat v5_0)]?) (fun (x16 : Trace) => gd (0 ≤ v5_0) (Option.bind (a1[(Int.toNat v5_0)]?) (fun (x18 : Trace) => if (!((x16.Hi == x18.Hi) && ((x16.Lo == x18.Lo) && true))) = true then (some (Sum.inr false)) else (some (Sum.inl (IntKind.i64.wrap (v5_0 + 1))))))))) else (some (Sum.inr true))
def gleaningref28_SameTraces (a0 : List Trace) (a1 : List Trace) : Option Bool :=
  if ((List.length a0 : Int) != (List.length a1 : Int)) = true then (some false) else (loopN (fun (s : Int) => gleaningref28_SameTraces_l0 a0 a1 s) Fu 0)
set_option maxRecDepth 100000 in
set_option maxHeartbeats 8000000 in
/-- gleaning/gleaningref28.SameTraces -/
theorem gleaningref28_SameTraces_ok (a0 : List Trace) (a1 : List Trace) {r : Bool} (h : gleaningref28_SameTraces a0 a1 = some r) : Ok Try.prog 13 [.sl 2 (List.map enc26 a0), .sl 2 (List.map enc26 a1)] [] [] (.bool r) [] [] := by
  unfold gleaningref28_SameTraces at h
  refine ok_of_code Try.func13 rfl (by show (2 : Nat) ≤ _; decide) (Nat.le_refl _) fun X => ?_
  refine aw_seq_k (fun K1 hK1 => ?_)
  refine aw_regL ?_
  refine alP (some 4) rfl rfl (does_assign (v := .bool false) (by exact rfl)) (by decide) ?_
  refine al_nil ?_
  refine hK1 _ ?_
  refine aw_seq_k (fun K2 hK2 => ?_)
  refine aw_seq_k (fun K3 hK3 => ?_)
  refine aw_regL ?_
  refine alP (some 6) rfl rfl (does_move (v := .sl 2 (List.map enc26 a0)) (by exact rfl)) (by decide) ?_
  refine alP (some 7) rfl rfl ((does_len_sl (by conv => lhs; whnf) ty37).castp (v' := .int .i64 (List.length a0 : Int)) (by exact len_map _)) (by decide) ?_
  refine alP (some 8) rfl rfl (does_move (v := .sl 2 (List.map enc26 a1)) (by exact rfl)) (by decide) ?_
  refine alP (some 9) rfl rfl ((does_len_sl (by conv => lhs; whnf) ty37).castp (v' := .int .i64 (List.length a1 : Int)) (by exact len_map _)) (by decide) ?_
  refine alP (some 10) rfl rfl (does_bin (v := .bool ((List.length a0 : Int) != (List.length a1 : Int))) (by conv => lhs; whnf) (by conv => lhs; whnf) rfl) (by decide) ?_
  refine al_nil ?_
  refine hK3 _ ?_
  refine aw_bool (b := ((List.length a0 : Int) != (List.length a1 : Int))) 10 rfl (fun c4 => ?_) (fun c4 => ?_)
  · have h := ifT c4 h
    refine aw_cond_t (by decide) rfl ?_
    refine aw_seq_k (fun K5 hK5 => ?_)
    refine aw_regL ?_
    refine alP (some 4) rfl rfl (does_assign (v := .bool false) (by exact rfl)) (by decide) ?_
    refine al_nil ?_
    refine hK5 _ ?_
    refine aw_ret ?_
    obtain rfl := Option.some.inj h
    exact ret_ok1 (by conv => lhs; whnf) (by conv => lhs; whnf) (by exact rfl) (.inr rfl) rfl
  · have h := ifF c4 h
    refine aw_cond_f (by decide) rfl ?_
    refine aw_skip ?_
    refine hK2 _ ?_
    refine aw_seq_k (fun K6 hK6 => ?_)
    refine aw_seq_k (fun K7 hK7 => ?_)
    refine aw_regL ?_
    refine alP (some 5) rfl rfl (does_assign (v := .int .i64 0) (by exact rfl)) (by decide) ?_
    refine al_nil ?_
    refine hK7 _ ?_
    refine aw_block ?_
    refine aw_loop' (fun m s => ∃ (v5_0 : Int), loopN (fun (s : Int) => gleaningref28_SameTraces_l0 a0 a1 s) m v5_0 = some r ∧ s = lit [(0, .sl 2 (List.map enc26 a0)), (1, .sl 2 (List.map enc26 a1)), (5, .int .i64 v5_0)] [] [] X) Fu
      ⟨_, reb_lit [(0, .sl 2 (List.map enc26 a0)), (1, .sl 2 (List.map enc26 a1)), (5, .int .i64 (0))] [] [] [] (envOk_cons (by conv => lhs; whnf) (by exact rfl) (envOk_cons (by conv => lhs; whnf) (by exact rfl) (envOk_cons (by conv => lhs; whnf) (by exact rfl) envOk_nil))) objOk_nil (nodup_b rfl) (nodup_b rfl) rfl rfl, 0, h, rfl⟩ ?_
    rintro m s ⟨v5_0, h, rfl⟩
    obtain ⟨m0, q8, rfl, h, hq9⟩ := loop_some h
    replace h : gleaningref28_SameTraces_l0 a0 a1 v5_0 = some q8 := h
    unfold gleaningref28_SameTraces_l0 at h
    refine aw_seq_k (fun K10 hK10 => ?_)
    refine aw_seq_k (fun K11 hK11 => ?_)
    refine aw_regL ?_
    refine alP (some 11) rfl rfl (does_move (v := .int .i64 v5_0) (by exact rfl)) (by decide) ?_
    refine alP (some 12) rfl rfl (does_move (v := .sl 2 (List.map enc26 a0)) (by exact rfl)) (by decide) ?_
    refine alP (some 13) rfl rfl ((does_len_sl (by conv => lhs; whnf) ty37).castp (v' := .int .i64 (List.length a0 : Int)) (by exact len_map _)) (by decide) ?_
    refine alP (some 14) rfl rfl (does_bin (v := .bool (decide (v5_0 < (List.length a0 : Int)))) (by conv => lhs; whnf) (by conv => lhs; whnf) rfl) (by decide) ?_
    refine al_nil ?_
    refine hK11 _ ?_
    refine aw_bool (b := (decide (v5_0 < (List.length a0 : Int)))) 14 rfl (fun c12 => ?_) (fun c12 => ?_)
    · have h := ifT c12 h
      refine aw_cond_t (by decide) rfl ?_
      refine aw_skip ?_
      refine hK10 _ ?_
      refine aw_seq_k (fun K13 hK13 => ?_)
      refine aw_block ?_
      refine aw_seq_k (fun K14 hK14 => ?_)
      refine aw_regd (by kernel_rfl) (by decide +kernel) ?_
      refine aoP (some 17) rfl rfl (does_move (v := .sl 2 (List.map enc26 a0)) (by exact rfl)) (by decide) ?_
      refine aoP (some 18) rfl rfl (does_move (v := .int .i64 v5_0) (by exact rfl)) (by decide) ?_
      obtain ⟨g15, h⟩ := gd_some h
      obtain ⟨x16, hx16, h⟩ := bnd_some h
      refine aoP (some 19) rfl rfl (does_indexAddr_sl (el := .agg [.int .u64 x16.Hi, .int .u64 x16.Lo]) (by conv => lhs; whnf) (by conv => lhs; whnf) ty37 ty27 g15 (by exact map_get hx16)) (by decide) ?_
      refine aoR (some 20) rfl rfl (does_load (v := .agg [.int .u64 x16.Hi, .int .u64 x16.Lo]) (by conv => lhs; whnf) (by conv => lhs; whnf) ty27 (by exact rfl)) (by decide) ?_
      refine aoP (some 21) rfl rfl (does_move (v := .sl 2 (List.map enc26 a1)) (by exact rfl)) (by decide) ?_
      refine aoP (some 22) rfl rfl (does_move (v := .int .i64 v5_0) (by exact rfl)) (by decide) ?_
      obtain ⟨g17, h⟩ := gd_some h
      obtain ⟨x18, hx18, h⟩ := bnd_some h
      refine aoP (some 23) rfl rfl (does_indexAddr_sl (el := .agg [.int .u64 x18.Hi, .int .u64 x18.Lo]) (by conv => lhs; whnf) (by conv => lhs; whnf) ty37 ty27 g17 (by exact map_get hx18)) (by decide) ?_
      refine aoR (some 24) rfl rfl (does_load (v := .agg [.int .u64 x18.Hi, .int .u64 x18.Lo]) (by conv => lhs; whnf) (by conv => lhs; whnf) ty27 (by exact rfl)) (by decide) ?_
      refine aoP (some 25) rfl rfl (does_eq_struct (v := .bool (!((x16.Hi == x18.Hi) && ((x16.Lo == x18.Lo) && true)))) (by conv => lhs; whnf) (by conv => lhs; whnf) fk27 rfl ag27 eg27 (by conv => lhs; whnf) rfl) (by decide) ?_
      refine ao_nil_d (by kernel_rfl) ?_
      refine hK14 _ ?_
      refine aw_bool (b := (!((x16.Hi == x18.Hi) && ((x16.Lo == x18.Lo) && true)))) 25 rfl (fun c19 => ?_) (fun c19 => ?_)
      · have h := ifT c19 h
        refine aw_cond_t (by decide) rfl ?_
        refine aw_seq_k (fun K20 hK20 => ?_)
        refine aw_regL ?_
        refine alP (some 4) rfl rfl (does_assign (v := .bool false) (by exact rfl)) (by decide) ?_
        refine al_nil ?_
        refine hK20 _ ?_
        refine aw_ret ?_
        have h := leafR h hq9
        obtain rfl := Option.some.inj h
        exact ret_ok1 (by conv => lhs; whnf) (by conv => lhs; whnf) (by exact rfl) (.inr rfl) rfl
      · have h := ifF c19 h
        refine aw_cond_f (by decide) rfl ?_
        refine aw_skip ?_
        refine hK13 _ ?_
        refine aw_regL ?_
        refine alP (some 15) rfl rfl (does_move (v := .int .i64 v5_0) (by exact rfl)) (by decide) ?_
        refine alP (some 16) rfl rfl (does_bin (v := .int .i64 (IntKind.i64.wrap (v5_0 + 1))) (by conv => lhs; whnf) (by conv => lhs; whnf) rfl) (by decide) ?_
        refine alP (some 5) rfl rfl (does_assign (v := .int .i64 (IntKind.i64.wrap (v5_0 + 1))) (by exact rfl)) (by decide) ?_
        refine al_nil ?_
        have h := leafL h hq9
        exact ⟨m0, Nat.lt_succ_self _, _, reb_lit [(0, .sl 2 (List.map enc26 a0)), (1, .sl 2 (List.map enc26 a1)), (5, .int .i64 (IntKind.i64.wrap (v5_0 + 1)))] [] [] [] (envOk_cons (by conv => lhs; whnf) (by exact rfl) (envOk_cons (by conv => lhs; whnf) (by exact rfl) (envOk_cons (by conv => lhs; whnf) (by exact rfl) envOk_nil))) objOk_nil (nodup_b rfl) (nodup_b rfl) rfl rfl, (IntKind.i64.wrap (v5_0 + 1)), h, rfl⟩
    · have h := ifF c12 h
      refine aw_cond_f (by decide) rfl ?_
      refine aw_exit ?_
      have h := leafR h hq9
      refine hK6 _ ?_
      refine aw_seq_k (fun K21 hK21 => ?_)
      refine aw_regL ?_
      refine alP (some 4) rfl rfl (does_assign (v := .bool true) (by exact rfl)) (by decide) ?_
      refine al_nil ?_
      refine hK21 _ ?_
      refine aw_ret ?_
      obtain rfl := Option.some.inj h
      exact ret_ok1 (by conv => lhs; whnf) (by conv => lhs; whnf) (by exact rfl) (.inr rfl) rfl
def gleaningref15_Make_l2 (a3 : List Episode) (v9_s_3_0 : List Episode) (v10_0 : Int) (v11_2 : Int) : Option (Int ⊕ Int) :=
  if (decide ((0 : Int) < v11_2)) = true then (gd (0 ≤ v10_0) (Option.bind (a3[(Int.toNat v10_0)]?) (fun (x20 : Episode) => gd (0 ≤ (IntKind.i64.wrap (v11_2 - 1))) (Option.bind (v9_s_3_0[(Int.toNat (IntKind.i64.wrap (v11_2 - 1)))]?) (fun (x22 : Episode) => Option.bind (gleaningref15_LessTrace x20.Trace x22.Trace) (fun (x23 : Bool) => if x23 = true then (some (Sum.inl (IntKind.i64.wrap (v11_2 - 1)))) else (some (Sum.inr v11_2)))))))) else (some (Sum.inr v11_2))
def gleaningref15_Make_k1 (a3 : List Episode) (v9_s_3_0 : List Episode) (v10_0 : Int) (v11_1 : Int) : Option ((List Episode × Int) ⊕ Block) :=
  gd (0 ≤ v11_1) (gd (v11_1 ≤ (List.length v9_s_3_0 : Int)) (gd ((List.length (List.take (Int.toNat v11_1) v9_s_3_0)) * 64 ≤ 140737488355328 ∧ (List.length (List.take (Int.toNat v11_1) v9_s_3_0)) ≤ 140737488355328) (gd (0 ≤ v10_0) (Option.bind (a3[(Int.toNat v10_0)]?) (fun (x29 : Episode) => gd ((List.length ((List.take (Int.toNat v11_1) v9_s_3_0) ++ [x29])) * 64 ≤ 140737488355328 ∧ (List.length ((List.take (Int.toNat v11_1) v9_s_3_0) ++ [x29])) ≤ 140737488355328) (gd (0 ≤ v11_1) (gd (v11_1 ≤ (List.length v9_s_3_0 : Int)) (gd ((List.length (((List.take (Int.toNat v11_1) v9_s_3_0) ++ [x29]) ++ (List.drop (Int.toNat v11_1) v9_s_3_0))) * 64 ≤ 140737488355328 ∧ (List.length (((List.take (Int.toNat v11_1) v9_s_3_0) ++ [x29]) ++ (List.drop (Int.toNat v11_1) v9_s_3_0))) ≤ 140737488355328) (some (Sum.inl ((((List.take (Int.toNat v11_1) v9_s_3_0) ++ [x29]) ++ (List.drop (Int.toNat v11_1) v9_s_3_0)), (IntKind.i64.wrap (v10_0 + 1)))))))))))))
def gleaningref15_Make_l0 (a0 : Int) (a1 : Int) (a2 : Int) (a3 : List Episode) (v9_s_3_0 : List Episode) (v10_0 : Int) : Option ((List Episode × Int) ⊕ Block) :=
  if (decide (v10_0 < (List.length a3 : Int))) = true then (Option.bind (loopN (fun (s : Int) => gleaningref15_Make_l2 a3 v9_s_3_0 v10_0 s) Fu (List.length v9_s_3_0 : Int)) (fun (s : Int) => gleaningref15_Make_k1 a3 v9_s_3_0 v10_0 s)) else (some (Sum.inr (Block.mk a0 a1 a2 v9_s_3_0)))
def gleaningref15_Make (a0 : Int) (a1 : Int) (a2 : Int) (a3 : List Episode) : Option Block :=
  loopN (fun (s : List Episode × Int) => gleaningref15_Make_l0 a0 a1 a2 a3 s.1 s.2) Fu ([], 0)
set_option maxRecDepth 100000 in
set_option maxHeartbeats 8000000 in
/-- gleaning/gleaningref15.Make -/
theorem gleaningref15_Make_ok (a0 : Int) (a1 : Int) (a2 : Int) (a3 : List Episode) {r : Block} (h : gleaningref15_Make a0 a1 a2 a3 = some r) : Ok Try.prog 27 [.int .i64 a0, .int .i64 a1, .int .i64 a2, .sl 6 (List.map enc50 a3)] [] [] (.agg [.int .i64 r.Number, .int .i64 r.Born, .int .i64 r.Tier, .sl 6 (List.map enc50 r.Episodes)]) [] [] := by
  unfold gleaningref15_Make at h
  refine ok_of_code Try.func27 rfl (by show (4 : Nat) ≤ _; decide) (Nat.le_refl _) fun X => ?_
  refine aw_seq_k (fun K1 hK1 => ?_)
  refine aw_regL ?_
  refine alD (some 8) rfl rfl (do_new ty45 rfl rfl) (by decide) ?_
  refine al_nil ?_
  refine hK1 _ ?_
  refine aw_seq_k (fun K2 hK2 => ?_)
  refine aw_regL ?_
  refine alP (some 12) rfl rfl (does_move (v := .int .i64 a0) (by exact rfl)) (by decide) ?_
  refine alP (some 13) rfl rfl (does_move (v := .int .i64 a1) (by exact rfl)) (by decide) ?_
  refine alP (some 14) rfl rfl (does_move (v := .int .i64 a2) (by exact rfl)) (by decide) ?_
  refine alP (some 15) rfl rfl (do_build_struct (cs := [.int .i64 a0, .int .i64 a1, .int .i64 a2, .nil]) ty45 rfl [⟨.int .i64, 1, 8, [.int .i64 0]⟩, ⟨.int .i64, 1, 8, [.int .i64 0]⟩, ⟨.int .i64, 1, 8, [.int .i64 0]⟩, ⟨.slice 51, 1, 24, [.nil]⟩] (by simp only [List.map, ty3, ty43]) (by rfl) (by exact rfl)) (by decide) ?_
  refine alD (some 9) rfl rfl (do_new ty45 rfl rfl) (by decide) ?_
  refine alD none rfl rfl (do_store (cs' := [.int .i64 a0, .int .i64 a1, .int .i64 a2, .nil]) (by conv => lhs; whnf) (by conv => lhs; whnf) (by conv => lhs; whnf) ty45 rfl rfl rfl (by exact rfl)) (by decide) ?_
  refine al_nil ?_
  refine hK2 _ ?_
  refine aw_seq_k (fun K3 hK3 => ?_)
  refine aw_seq_k (fun K4 hK4 => ?_)
  refine aw_regL ?_
  refine alP (some 10) rfl rfl (does_assign (v := .int .i64 0) (by exact rfl)) (by decide) ?_
  refine al_nil ?_
  refine hK4 _ ?_
  refine aw_block ?_
  refine aw_loop' (fun m s => ∃ (v9_s_3_0 : List Episode), ∃ (v10_0 : Int), loopN (fun (s : List Episode × Int) => gleaningref15_Make_l0 a0 a1 a2 a3 s.1 s.2) m (v9_s_3_0, v10_0) = some r ∧ s = lit [(3, .sl 6 (List.map enc50 a3)), (8, .ptr 8 0 0), (9, .ptr 9 0 0), (10, .int .i64 v10_0)] [((8, 0), .box [.int .i64 0, .int .i64 0, .int .i64 0, .nil]), ((9, 0), .box [.int .i64 a0, .int .i64 a1, .int .i64 a2, .sl 6 (List.map enc50 v9_s_3_0)])] [(8, 1), (9, 1)] X) Fu
    ⟨_, reb_w (tl' := [(3, .sl 6 (List.map enc50 a3)), (8, .ptr 8 0 0), (9, .ptr 9 0 0), (10, .int .i64 (0))]) (ol' := [((8, 0), .box [.int .i64 0, .int .i64 0, .int .i64 0, .nil]), ((9, 0), .box [.int .i64 a0, .int .i64 a1, .int .i64 a2, .sl 6 (List.map enc50 [])])]) (reb_lit [(3, .sl 6 (List.map enc50 a3)), (8, .ptr 8 0 0), (9, .ptr 9 0 0), (10, .int .i64 (0))] [(8, 0), (9, 0)] [((8, 0), .box [.int .i64 0, .int .i64 0, .int .i64 0, .nil]), ((9, 0), .box [.int .i64 a0, .int .i64 a1, .int .i64 a2, .nil])] [(8, 1), (9, 1)] (envOk_cons (by conv => lhs; whnf) (by exact rfl) (envOk_cons (by conv => lhs; whnf) (by exact rfl) (envOk_cons (by conv => lhs; whnf) (by exact rfl) (envOk_cons (by conv => lhs; whnf) (by exact rfl) envOk_nil)))) (objOk_cons (by conv => lhs; whnf) (by conv => lhs; whnf) (by exact rfl) (by simp) (objOk_cons (by conv => lhs; whnf) (by conv => lhs; whnf) (by exact rfl) (by simp) objOk_nil)) (nodup_b rfl) (nodup_b rfl) rfl rfl) ⟨rfl, le_refl _, rfl, le_refl _, rfl, le_refl _, rfl, le_refl _, trivial⟩ ⟨rfl, .rfl _, rfl, (.box ⟨le_refl _, le_refl _, le_refl _, le_nil _, trivial⟩), trivial⟩, [], 0, h, rfl⟩ ?_
  rintro m s ⟨v9_s_3_0, v10_0, h, rfl⟩
  obtain ⟨m0, q5, rfl, h, hq6⟩ := loop_some h
  replace h : gleaningref15_Make_l0 a0 a1 a2 a3 v9_s_3_0 v10_0 = some q5 := h
  unfold gleaningref15_Make_l0 at h
  refine aw_seq_k (fun K7 hK7 => ?_)
  refine aw_seq_k (fun K8 hK8 => ?_)
  refine aw_regL ?_
  refine alP (some 16) rfl rfl (does_move (v := .int .i64 v10_0) (by exact rfl)) (by decide) ?_
  refine alP (some 17) rfl rfl (does_move (v := .sl 6 (List.map enc50 a3)) (by exact rfl)) (by decide) ?_
  refine alP (some 18) rfl rfl ((does_len_sl (by conv => lhs; whnf) ty43).castp (v' := .int .i64 (List.length a3 : Int)) (by exact len_map _)) (by decide) ?_
  refine alP (some 19) rfl rfl (does_bin (v := .bool (decide (v10_0 < (List.length a3 : Int)))) (by conv => lhs; whnf) (by conv => lhs; whnf) rfl) (by decide) ?_
  refine al_nil ?_
  refine hK8 _ ?_
  refine aw_bool (b := (decide (v10_0 < (List.length a3 : Int)))) 19 rfl (fun c9 => ?_) (fun c9 => ?_)
  · have h := ifT c9 h
    refine aw_cond_t (by decide) rfl ?_
    refine aw_skip ?_
    refine hK7 _ ?_
    refine aw_seq_k (fun K10 hK10 => ?_)
    refine aw_block ?_
    refine aw_seq_k (fun K11 hK11 => ?_)
    refine aw_regL ?_
    refine alP (some 22) rfl rfl (does_fieldAddr (q := .ptr 9 0 3) (by conv => lhs; whnf) ty45 rfl ty43 (by decide) (by exact rfl)) (by decide) ?_
    refine alR (some 23) rfl rfl (does_load (v := .sl 6 (List.map enc50 v9_s_3_0)) (by conv => lhs; whnf) (by conv => lhs; whnf) ty43 (by exact rfl)) (by decide) ?_
    refine alP (some 24) rfl rfl ((does_len_sl (by conv => lhs; whnf) ty43).castp (v' := .int .i64 (List.length v9_s_3_0 : Int)) (by exact len_map _)) (by decide) ?_
    refine alP (some 11) rfl rfl (does_assign (v := .int .i64 (List.length v9_s_3_0 : Int)) (by exact rfl)) (by decide) ?_
    refine al_nil ?_
    refine hK11 _ ?_
    obtain ⟨q12, h, hk13⟩ := bnd_some h
    refine aw_cut (fun s => ∃ (v11_1 : Int), gleaningref15_Make_k1 a3 v9_s_3_0 v10_0 v11_1 = some q5 ∧ s = lit [(3, .sl 6 (List.map enc50 a3)), (8, .ptr 8 0 0), (9, .ptr 9 0 0), (10, .int .i64 v10_0), (11, .int .i64 v11_1)] [((8, 0), .box [.int .i64 0, .int .i64 0, .int .i64 0, .nil]), ((9, 0), .box [.int .i64 a0, .int .i64 a1, .int .i64 a2, .sl 6 (List.map enc50 v9_s_3_0)])] [(8, 1), (9, 1)] X) ?_ ?_
    · skip
      refine aw_block ?_
      refine aw_loop' (fun m s => ∃ (v11_2 : Int), loopN (fun (s : Int) => gleaningref15_Make_l2 a3 v9_s_3_0 v10_0 s) m v11_2 = some q12 ∧ s = lit [(3, .sl 6 (List.map enc50 a3)), (8, .ptr 8 0 0), (9, .ptr 9 0 0), (10, .int .i64 v10_0), (11, .int .i64 v11_2)] [((8, 0), .box [.int .i64 0, .int .i64 0, .int .i64 0, .nil]), ((9, 0), .box [.int .i64 a0, .int .i64 a1, .int .i64 a2, .sl 6 (List.map enc50 v9_s_3_0)])] [(8, 1), (9, 1)] X) Fu
        ⟨_, reb_lit [(3, .sl 6 (List.map enc50 a3)), (8, .ptr 8 0 0), (9, .ptr 9 0 0), (10, .int .i64 v10_0), (11, .int .i64 (List.length v9_s_3_0 : Int))] [(8, 0), (9, 0)] [((8, 0), .box [.int .i64 0, .int .i64 0, .int .i64 0, .nil]), ((9, 0), .box [.int .i64 a0, .int .i64 a1, .int .i64 a2, .sl 6 (List.map enc50 v9_s_3_0)])] [(8, 1), (9, 1)] (envOk_cons (by conv => lhs; whnf) (by exact rfl) (envOk_cons (by conv => lhs; whnf) (by exact rfl) (envOk_cons (by conv => lhs; whnf) (by exact rfl) (envOk_cons (by conv => lhs; whnf) (by exact rfl) (envOk_cons (by conv => lhs; whnf) (by exact rfl) envOk_nil))))) (objOk_cons (by conv => lhs; whnf) (by conv => lhs; whnf) (by exact rfl) (by simp) (objOk_cons (by conv => lhs; whnf) (by conv => lhs; whnf) (by exact rfl) (by simp) objOk_nil)) (nodup_b rfl) (nodup_b rfl) rfl rfl, (List.length v9_s_3_0 : Int), h, rfl⟩ ?_
      rintro m s ⟨v11_2, h, rfl⟩
      obtain ⟨m2, q14, rfl, h, hq15⟩ := loop_some h
      replace h : gleaningref15_Make_l2 a3 v9_s_3_0 v10_0 v11_2 = some q14 := h
      unfold gleaningref15_Make_l2 at h
      refine aw_seq_k (fun K16 hK16 => ?_)
      refine aw_seq_k (fun K17 hK17 => ?_)
      refine aw_regd (by kernel_rfl) (by decide +kernel) ?_
      refine aoP (some 25) rfl rfl (does_move (v := .int .i64 v11_2) (by exact rfl)) (by decide) ?_
      refine aoP (some 26) rfl rfl (does_bin (v := .bool (decide ((0 : Int) < v11_2))) (by conv => lhs; whnf) (by conv => lhs; whnf) rfl) (by decide) ?_
      refine aoP (some 27) rfl rfl (does_move (v := .bool (decide ((0 : Int) < v11_2))) (by exact rfl)) (by decide) ?_
      refine ao_bool (c := (decide ((0 : Int) < v11_2))) 27 rfl (fun c18 => ?_) (fun c18 => ?_)
      · have h := ifT c18 h
        refine aoP (some 28) rfl rfl (does_move (v := .sl 6 (List.map enc50 a3)) (by exact rfl)) (by decide) ?_
        refine aoP (some 29) rfl rfl (does_move (v := .int .i64 v10_0) (by exact rfl)) (by decide) ?_
        obtain ⟨g19, h⟩ := gd_some h
        obtain ⟨x20, hx20, h⟩ := bnd_some h
        refine aoP (some 30) rfl rfl (does_indexAddr_sl (el := .agg [.int .u64 x20.Trace.Hi, .int .u64 x20.Trace.Lo, .int .i64 x20.First, .int .i64 x20.Last, .bool x20.Sure, .sl 10 (List.map enc29 x20.Spans)]) (by conv => lhs; whnf) (by conv => lhs; whnf) ty43 ty51 g19 (by exact map_get hx20)) (by decide) ?_
        refine aoP (some 31) rfl rfl (does_fieldAddr (q := .rptr [.int .u64 x20.Trace.Hi, .int .u64 x20.Trace.Lo, .int .i64 x20.First, .int .i64 x20.Last, .bool x20.Sure, .sl 10 (List.map enc29 x20.Spans)]) (by conv => lhs; whnf) ty51 rfl ty27 (by decide) (by exact rfl)) (by decide) ?_
        refine aoR (some 32) rfl rfl (does_load (v := .agg [.int .u64 x20.Trace.Hi, .int .u64 x20.Trace.Lo]) (by conv => lhs; whnf) (by conv => lhs; whnf) ty27 (by exact rfl)) (by decide) ?_
        refine aoP (some 33) rfl rfl (does_fieldAddr (q := .ptr 9 0 3) (by conv => lhs; whnf) ty45 rfl ty43 (by decide) (by exact rfl)) (by decide) ?_
        refine aoR (some 34) rfl rfl (does_load (v := .sl 6 (List.map enc50 v9_s_3_0)) (by conv => lhs; whnf) (by conv => lhs; whnf) ty43 (by exact rfl)) (by decide) ?_
        refine aoP (some 35) rfl rfl (does_move (v := .int .i64 v11_2) (by exact rfl)) (by decide) ?_
        refine aoP (some 36) rfl rfl (does_bin (v := .int .i64 (IntKind.i64.wrap (v11_2 - 1))) (by conv => lhs; whnf) (by conv => lhs; whnf) rfl) (by decide) ?_
        obtain ⟨g21, h⟩ := gd_some h
        obtain ⟨x22, hx22, h⟩ := bnd_some h
        refine aoP (some 37) rfl rfl (does_indexAddr_sl (el := .agg [.int .u64 x22.Trace.Hi, .int .u64 x22.Trace.Lo, .int .i64 x22.First, .int .i64 x22.Last, .bool x22.Sure, .sl 10 (List.map enc29 x22.Spans)]) (by conv => lhs; whnf) (by conv => lhs; whnf) ty43 ty51 g21 (by exact map_get hx22)) (by decide) ?_
        refine aoP (some 38) rfl rfl (does_fieldAddr (q := .rptr [.int .u64 x22.Trace.Hi, .int .u64 x22.Trace.Lo, .int .i64 x22.First, .int .i64 x22.Last, .bool x22.Sure, .sl 10 (List.map enc29 x22.Spans)]) (by conv => lhs; whnf) ty51 rfl ty27 (by decide) (by exact rfl)) (by decide) ?_
        refine aoR (some 39) rfl rfl (does_load (v := .agg [.int .u64 x22.Trace.Hi, .int .u64 x22.Trace.Lo]) (by conv => lhs; whnf) (by conv => lhs; whnf) ty27 (by exact rfl)) (by decide) ?_
        obtain ⟨x23, hx23, h⟩ := bnd_some h
        refine aoD (some 40) rfl rfl (do_call0 40 false (gleaningref15_LessTrace_ok x20.Trace x22.Trace hx23) rfl ent21 rfl rfl) (by decide) ?_
        refine aoP (some 41) rfl rfl (does_pick (v := .bool x23) (by conv => lhs; whnf) (by exact rfl)) (by decide) ?_
        refine ao_nil_d (by kernel_rfl) ?_
        refine hK17 _ ?_
        refine aw_bool (b := x23) 41 rfl (fun c24 => ?_) (fun c24 => ?_)
        · have h := ifT c24 h
          refine aw_cond_t (by decide) rfl ?_
          refine aw_skip ?_
          refine hK16 _ ?_
          refine aw_block ?_
          refine aw_regL ?_
          refine alP (some 42) rfl rfl (does_move (v := .int .i64 v11_2) (by exact rfl)) (by decide) ?_
          refine alP (some 43) rfl rfl (does_bin (v := .int .i64 (IntKind.i64.wrap (v11_2 - 1))) (by conv => lhs; whnf) (by conv => lhs; whnf) rfl) (by decide) ?_
          refine alP (some 11) rfl rfl (does_assign (v := .int .i64 (IntKind.i64.wrap (v11_2 - 1))) (by exact rfl)) (by decide) ?_
          refine al_nil ?_
          have h := leafL h hq15
          exact ⟨m2, Nat.lt_succ_self _, _, reb_lit [(3, .sl 6 (List.map enc50 a3)), (8, .ptr 8 0 0), (9, .ptr 9 0 0), (10, .int .i64 v10_0), (11, .int .i64 (IntKind.i64.wrap (v11_2 - 1)))] [(8, 0), (9, 0)] [((8, 0), .box [.int .i64 0, .int .i64 0, .int .i64 0, .nil]), ((9, 0), .box [.int .i64 a0, .int .i64 a1, .int .i64 a2, .sl 6 (List.map enc50 v9_s_3_0)])] [(8, 1), (9, 1)] (envOk_cons (by conv => lhs; whnf) (by exact rfl) (envOk_cons (by conv => lhs; whnf) (by exact rfl) (envOk_cons (by conv => lhs; whnf) (by exact rfl) (envOk_cons (by conv => lhs; whnf) (by exact rfl) (envOk_cons (by conv => lhs; whnf) (by exact rfl) envOk_nil))))) (objOk_cons (by conv => lhs; whnf) (by conv => lhs; whnf) (by exact rfl) (by simp) (objOk_cons (by conv => lhs; whnf) (by conv => lhs; whnf) (by exact rfl) (by simp) objOk_nil)) (nodup_b rfl) (nodup_b rfl) rfl rfl, (IntKind.i64.wrap (v11_2 - 1)), h, rfl⟩
        · have h := ifF c24 h
          refine aw_cond_f (by decide) rfl ?_
          refine aw_exit ?_
          have h := leafR h hq15
          obtain rfl := Option.some.inj h
          have h := hk13
          exact ⟨_, reb_lit [(3, .sl 6 (List.map enc50 a3)), (8, .ptr 8 0 0), (9, .ptr 9 0 0), (10, .int .i64 v10_0), (11, .int .i64 v11_2)] [(8, 0), (9, 0)] [((8, 0), .box [.int .i64 0, .int .i64 0, .int .i64 0, .nil]), ((9, 0), .box [.int .i64 a0, .int .i64 a1, .int .i64 a2, .sl 6 (List.map enc50 v9_s_3_0)])] [(8, 1), (9, 1)] (envOk_cons (by conv => lhs; whnf) (by exact rfl) (envOk_cons (by conv => lhs; whnf) (by exact rfl) (envOk_cons (by conv => lhs; whnf) (by exact rfl) (envOk_cons (by conv => lhs; whnf) (by exact rfl) (envOk_cons (by conv => lhs; whnf) (by exact rfl) envOk_nil))))) (objOk_cons (by conv => lhs; whnf) (by conv => lhs; whnf) (by exact rfl) (by simp) (objOk_cons (by conv => lhs; whnf) (by conv => lhs; whnf) (by exact rfl) (by simp) objOk_nil)) (nodup_b rfl) (nodup_b rfl) rfl rfl, v11_2, h, rfl⟩
      · have h := ifF c18 h
        refine aoS (some 28) rfl rfl (by decide) ?_
        refine aoS (some 29) rfl rfl (by decide) ?_
        refine aoS (some 30) rfl rfl (by decide) ?_
        refine aoS (some 31) rfl rfl (by decide) ?_
        refine aoS (some 32) rfl rfl (by decide) ?_
        refine aoS (some 33) rfl rfl (by decide) ?_
        refine aoS (some 34) rfl rfl (by decide) ?_
        refine aoS (some 35) rfl rfl (by decide) ?_
        refine aoS (some 36) rfl rfl (by decide) ?_
        refine aoS (some 37) rfl rfl (by decide) ?_
        refine aoS (some 38) rfl rfl (by decide) ?_
        refine aoS (some 39) rfl rfl (by decide) ?_
        refine aoS (some 40) rfl rfl (by decide) ?_
        refine aoP (some 41) rfl rfl (does_pick (v := .bool false) (by conv => lhs; whnf) (by exact rfl)) (by decide) ?_
        refine ao_nil_d (by kernel_rfl) ?_
        refine hK17 _ ?_
        refine aw_cond_f (by decide) rfl ?_
        refine aw_exit ?_
        have h := leafR h hq15
        obtain rfl := Option.some.inj h
        have h := hk13
        exact ⟨_, reb_lit [(3, .sl 6 (List.map enc50 a3)), (8, .ptr 8 0 0), (9, .ptr 9 0 0), (10, .int .i64 v10_0), (11, .int .i64 v11_2)] [(8, 0), (9, 0)] [((8, 0), .box [.int .i64 0, .int .i64 0, .int .i64 0, .nil]), ((9, 0), .box [.int .i64 a0, .int .i64 a1, .int .i64 a2, .sl 6 (List.map enc50 v9_s_3_0)])] [(8, 1), (9, 1)] (envOk_cons (by conv => lhs; whnf) (by exact rfl) (envOk_cons (by conv => lhs; whnf) (by exact rfl) (envOk_cons (by conv => lhs; whnf) (by exact rfl) (envOk_cons (by conv => lhs; whnf) (by exact rfl) (envOk_cons (by conv => lhs; whnf) (by exact rfl) envOk_nil))))) (objOk_cons (by conv => lhs; whnf) (by conv => lhs; whnf) (by exact rfl) (by simp) (objOk_cons (by conv => lhs; whnf) (by conv => lhs; whnf) (by exact rfl) (by simp) objOk_nil)) (nodup_b rfl) (nodup_b rfl) rfl rfl, v11_2, h, rfl⟩
    · rintro s ⟨v11_1, h, rfl⟩
      unfold gleaningref15_Make_k1 at h
      refine aw_regd (by kernel_rfl) (by decide +kernel) ?_
      refine aoP (some 44) rfl rfl (does_fieldAddr (q := .ptr 9 0 3) (by conv => lhs; whnf) ty45 rfl ty43 (by decide) (by exact rfl)) (by decide) ?_
      refine aoR (some 45) rfl rfl (does_load (v := .sl 6 (List.map enc50 v9_s_3_0)) (by conv => lhs; whnf) (by conv => lhs; whnf) ty43 (by exact rfl)) (by decide) ?_
      refine aoP (some 46) rfl rfl (does_move (v := .int .i64 v11_1) (by exact rfl)) (by decide) ?_
      obtain ⟨g25, h⟩ := gd_some h
      obtain ⟨g26, h⟩ := gd_some h
      refine aoP (some 47) rfl rfl (does_slice_sl (l := 0) (k := (Int.toNat v11_1)) (by conv => lhs; whnf) ty43 ty51 bd_none (bd_some (by conv => lhs; whnf) (by exact (nat_of (by omega)))) (by (try simp only [List.length_map]); omega) (by (try simp only [List.length_map]); omega) (by exact part_h _ _)) (by decide) ?_
      obtain ⟨g27, h⟩ := gd_some h
      refine aoD (some 48) rfl rfl (do_append (v := List.map enc50 (List.take (Int.toNat v11_1) v9_s_3_0)) (by conv => lhs; whnf) (by conv => lhs; whnf) ty43 ty51 rfl rfl (by conv => lhs; whnf) (by first | exact .inl rfl | exact .inr ⟨rfl, rfl⟩) (by conv => lhs; whnf) (by first | exact .inr rfl | exact .inl rfl) (List.nil_append _) (fit_map g27)) (by decide) ?_
      refine aoP (some 49) rfl rfl (does_move (v := .sl 6 (List.map enc50 a3)) (by exact rfl)) (by decide) ?_
      refine aoP (some 50) rfl rfl (does_move (v := .int .i64 v10_0) (by exact rfl)) (by decide) ?_
      obtain ⟨g28, h⟩ := gd_some h
      obtain ⟨x29, hx29, h⟩ := bnd_some h
      refine aoP (some 51) rfl rfl (does_indexAddr_sl (el := .agg [.int .u64 x29.Trace.Hi, .int .u64 x29.Trace.Lo, .int .i64 x29.First, .int .i64 x29.Last, .bool x29.Sure, .sl 10 (List.map enc29 x29.Spans)]) (by conv => lhs; whnf) (by conv => lhs; whnf) ty43 ty51 g28 (by exact map_get hx29)) (by decide) ?_
      refine aoR (some 52) rfl rfl (does_load (v := .agg [.int .u64 x29.Trace.Hi, .int .u64 x29.Trace.Lo, .int .i64 x29.First, .int .i64 x29.Last, .bool x29.Sure, .sl 10 (List.map enc29 x29.Spans)]) (by conv => lhs; whnf) (by conv => lhs; whnf) ty51 (by exact rfl)) (by decide) ?_
      refine aoD (some 53) rfl rfl (do_buildSlice (xs := List.map enc50 [x29]) ty43 ty51 rfl rfl rfl rfl rfl rfl rfl rfl) (by decide) ?_
      obtain ⟨g30, h⟩ := gd_some h
      refine aoD (some 54) rfl rfl (do_append (v := List.map enc50 ((List.take (Int.toNat v11_1) v9_s_3_0) ++ [x29])) (by conv => lhs; whnf) (by conv => lhs; whnf) ty43 ty51 rfl rfl (by conv => lhs; whnf) (by first | exact .inl rfl | exact .inr ⟨rfl, rfl⟩) (by conv => lhs; whnf) (by first | exact .inr rfl | exact .inl rfl) (map_app _ _) (fit_map g30)) (by decide) ?_
      refine aoP (some 55) rfl rfl (does_fieldAddr (q := .ptr 9 0 3) (by conv => lhs; whnf) ty45 rfl ty43 (by decide) (by exact rfl)) (by decide) ?_
      refine aoR (some 56) rfl rfl (does_load (v := .sl 6 (List.map enc50 v9_s_3_0)) (by conv => lhs; whnf) (by conv => lhs; whnf) ty43 (by exact rfl)) (by decide) ?_
      refine aoP (some 57) rfl rfl (does_move (v := .int .i64 v11_1) (by exact rfl)) (by decide) ?_
      obtain ⟨g31, h⟩ := gd_some h
      obtain ⟨g32, h⟩ := gd_some h
      refine aoP (some 58) rfl rfl (does_slice_sl (l := (Int.toNat v11_1)) (by conv => lhs; whnf) ty43 ty51 (bd_some (by conv => lhs; whnf) (by exact (nat_of g31))) bd_none (by (try simp only [List.length_map]); omega) (by (try simp only [List.length_map]); omega) (by exact part_l _ _)) (by decide) ?_
      obtain ⟨g33, h⟩ := gd_some h
      refine aoD (some 59) rfl rfl (do_append (v := List.map enc50 (((List.take (Int.toNat v11_1) v9_s_3_0) ++ [x29]) ++ (List.drop (Int.toNat v11_1) v9_s_3_0))) (by conv => lhs; whnf) (by conv => lhs; whnf) ty43 ty51 rfl rfl (by conv => lhs; whnf) (by first | exact .inl rfl | exact .inr ⟨rfl, rfl⟩) (by conv => lhs; whnf) (by first | exact .inr rfl | exact .inl rfl) (map_app _ _) (fit_map g33)) (by decide) ?_
      refine aoP (some 60) rfl rfl (does_fieldAddr (q := .ptr 9 0 3) (by conv => lhs; whnf) ty45 rfl ty43 (by decide) (by exact rfl)) (by decide) ?_
      refine aoD none rfl rfl (do_store (cs' := [.int .i64 a0, .int .i64 a1, .int .i64 a2, .own 59 0]) (by conv => lhs; whnf) (by conv => lhs; whnf) (by conv => lhs; whnf) ty43 rfl rfl rfl (by exact rfl)) (by decide) ?_
      refine ao_nil_d (by kernel_rfl) ?_
      refine hK10 _ ?_
      refine aw_regL ?_
      refine alP (some 20) rfl rfl (does_move (v := .int .i64 v10_0) (by exact rfl)) (by decide) ?_
      refine alP (some 21) rfl rfl (does_bin (v := .int .i64 (IntKind.i64.wrap (v10_0 + 1))) (by conv => lhs; whnf) (by conv => lhs; whnf) rfl) (by decide) ?_
      refine alP (some 10) rfl rfl (does_assign (v := .int .i64 (IntKind.i64.wrap (v10_0 + 1))) (by exact rfl)) (by decide) ?_
      refine al_nil ?_
      have h := leafL h hq6
      exact ⟨m0, Nat.lt_succ_self _, _, reb_lit [(3, .sl 6 (List.map enc50 a3)), (8, .ptr 8 0 0), (9, .ptr 9 0 0), (10, .int .i64 (IntKind.i64.wrap (v10_0 + 1)))] [(8, 0), (9, 0)] [((8, 0), .box [.int .i64 0, .int .i64 0, .int .i64 0, .nil]), ((9, 0), .box [.int .i64 a0, .int .i64 a1, .int .i64 a2, .sl 6 (List.map enc50 (((List.take (Int.toNat v11_1) v9_s_3_0) ++ [x29]) ++ (List.drop (Int.toNat v11_1) v9_s_3_0)))])] [(8, 1), (9, 1)] (envOk_cons (by conv => lhs; whnf) (by exact rfl) (envOk_cons (by conv => lhs; whnf) (by exact rfl) (envOk_cons (by conv => lhs; whnf) (by exact rfl) (envOk_cons (by conv => lhs; whnf) (by exact rfl) envOk_nil)))) (objOk_cons (by conv => lhs; whnf) (by conv => lhs; whnf) (by exact rfl) (by simp) (objOk_cons (by conv => lhs; whnf) (by conv => lhs; whnf) (by exact rfl) (by simp) objOk_nil)) (nodup_b rfl) (nodup_b rfl) rfl rfl, (((List.take (Int.toNat v11_1) v9_s_3_0) ++ [x29]) ++ (List.drop (Int.toNat v11_1) v9_s_3_0)), (IntKind.i64.wrap (v10_0 + 1)), h, rfl⟩
  · have h := ifF c9 h
    refine aw_cond_f (by decide) rfl ?_
    refine aw_exit ?_
    have h := leafR h hq6
    refine hK3 _ ?_
    refine aw_seq_k (fun K34 hK34 => ?_)
    refine aw_regL ?_
    refine alR (some 61) rfl rfl (does_load (v := .agg [.int .i64 a0, .int .i64 a1, .int .i64 a2, .sl 6 (List.map enc50 v9_s_3_0)]) (by conv => lhs; whnf) (by conv => lhs; whnf) ty45 (by exact rfl)) (by decide) ?_
    refine alD none rfl rfl (do_store (cs' := [.int .i64 a0, .int .i64 a1, .int .i64 a2, .sl 6 (List.map enc50 v9_s_3_0)]) (by conv => lhs; whnf) (by conv => lhs; whnf) (by conv => lhs; whnf) ty45 rfl rfl rfl (by exact rfl)) (by decide) ?_
    refine al_nil ?_
    refine hK34 _ ?_
    refine aw_ret ?_
    obtain rfl := Option.some.inj h
    exact ret_ok1 (by conv => lhs; whnf) (by conv => lhs; whnf) (by exact rfl) (.inr rfl) rfl
def gleaningref15_Join_k1 (a0 : Block) (a1 : Block) (a2 : Int) (v7_0 : Int) (v8_1 : Int) : Option Block :=
  gd ((List.length a0.Episodes) * 64 ≤ 140737488355328 ∧ (List.length a0.Episodes) ≤ 140737488355328) (gd ((List.length (a0.Episodes ++ a1.Episodes)) * 64 ≤ 140737488355328 ∧ (List.length (a0.Episodes ++ a1.Episodes)) ≤ 140737488355328) (Option.bind (gleaningref15_Make a2 v7_0 (IntKind.i64.wrap (v8_1 + 1)) (a0.Episodes ++ a1.Episodes)) (fun (x15 : Block) => some x15)))
def gleaningref15_Join_k0 (a0 : Block) (a1 : Block) (a2 : Int) (v7_0 : Int) : Option Block :=
  Option.bind (if (decide (a0.Tier < a1.Tier)) = true then (some a1.Tier) else (some a0.Tier)) (fun (s : Int) => gleaningref15_Join_k1 a0 a1 a2 v7_0 s)
def gleaningref15_Join (a0 : Block) (a1 : Block) (a2 : Int) : Option Block :=
  Option.bind (if (decide (a0.Born < a1.Born)) = true then (some a1.Born) else (some a0.Born)) (fun (s : Int) => gleaningref15_Join_k0 a0 a1 a2 s)
set_option maxRecDepth 100000 in
set_option maxHeartbeats 8000000 in
/-- gleaning/gleaningref15.Join -/
theorem gleaningref15_Join_ok (a0 : Block) (a1 : Block) (a2 : Int) {r : Block} (h : gleaningref15_Join a0 a1 a2 = some r) : Ok Try.prog 20 [.agg [.int .i64 a0.Number, .int .i64 a0.Born, .int .i64 a0.Tier, .sl 6 (List.map enc50 a0.Episodes)], .agg [.int .i64 a1.Number, .int .i64 a1.Born, .int .i64 a1.Tier, .sl 6 (List.map enc50 a1.Episodes)], .int .i64 a2] [] [] (.agg [.int .i64 r.Number, .int .i64 r.Born, .int .i64 r.Tier, .sl 6 (List.map enc50 r.Episodes)]) [] [] := by
  unfold gleaningref15_Join at h
  refine ok_of_code Try.func20 rfl (by show (3 : Nat) ≤ _; decide) (Nat.le_refl _) fun X => ?_
  refine aw_seq_k (fun K1 hK1 => ?_)
  refine aw_regL ?_
  refine alD (some 3) rfl rfl (do_box (by conv => lhs; whnf) rfl rfl) (by decide) ?_
  refine alD (some 4) rfl rfl (do_box (by conv => lhs; whnf) rfl rfl) (by decide) ?_
  refine alD (some 6) rfl rfl (do_new ty45 rfl rfl) (by decide) ?_
  refine al_nil ?_
  refine hK1 _ ?_
  refine aw_seq_k (fun K2 hK2 => ?_)
  refine aw_regL ?_
  refine alP (some 9) rfl rfl (does_fieldAddr (q := .ptr 3 0 1) (by conv => lhs; whnf) ty45 rfl ty3 (by decide) (by exact rfl)) (by decide) ?_
  refine alR (some 10) rfl rfl (does_load (v := .int .i64 a0.Born) (by conv => lhs; whnf) (by conv => lhs; whnf) ty3 (by exact rfl)) (by decide) ?_
  refine alP (some 7) rfl rfl (does_assign (v := .int .i64 a0.Born) (by exact rfl)) (by decide) ?_
  refine al_nil ?_
  refine hK2 _ ?_
  obtain ⟨q3, h, hk4⟩ := bnd_some h
  refine aw_cut (fun s => ∃ (v7_0 : Int), gleaningref15_Join_k0 a0 a1 a2 v7_0 = some r ∧ s = lit [(2, .int .i64 a2), (3, .ptr 3 0 0), (4, .ptr 4 0 0), (6, .ptr 6 0 0), (7, .int .i64 v7_0)] [((3, 0), .box [.int .i64 a0.Number, .int .i64 a0.Born, .int .i64 a0.Tier, .sl 6 (List.map enc50 a0.Episodes)]), ((4, 0), .box [.int .i64 a1.Number, .int .i64 a1.Born, .int .i64 a1.Tier, .sl 6 (List.map enc50 a1.Episodes)]), ((6, 0), .box [.int .i64 0, .int .i64 0, .int .i64 0, .nil])] [(3, 1), (4, 1), (6, 1)] X) ?_ ?_
  · skip
    refine aw_seq_k (fun K5 hK5 => ?_)
    refine aw_regL ?_
    refine alP (some 11) rfl rfl (does_fieldAddr (q := .ptr 4 0 1) (by conv => lhs; whnf) ty45 rfl ty3 (by decide) (by exact rfl)) (by decide) ?_
    refine alR (some 12) rfl rfl (does_load (v := .int .i64 a1.Born) (by conv => lhs; whnf) (by conv => lhs; whnf) ty3 (by exact rfl)) (by decide) ?_
    refine alP (some 13) rfl rfl (does_move (v := .int .i64 a0.Born) (by exact rfl)) (by decide) ?_
    refine alP (some 14) rfl rfl (does_bin (v := .bool (decide (a0.Born < a1.Born))) (by conv => lhs; whnf) (by conv => lhs; whnf) rfl) (by decide) ?_
    refine al_nil ?_
    refine hK5 _ ?_
    refine aw_bool (b := (decide (a0.Born < a1.Born))) 14 rfl (fun c6 => ?_) (fun c6 => ?_)
    · have h := ifT c6 h
      refine aw_cond_t (by decide) rfl ?_
      refine aw_regL ?_
      refine alP (some 15) rfl rfl (does_fieldAddr (q := .ptr 4 0 1) (by conv => lhs; whnf) ty45 rfl ty3 (by decide) (by exact rfl)) (by decide) ?_
      refine alR (some 16) rfl rfl (does_load (v := .int .i64 a1.Born) (by conv => lhs; whnf) (by conv => lhs; whnf) ty3 (by exact rfl)) (by decide) ?_
      refine alP (some 7) rfl rfl (does_assign (v := .int .i64 a1.Born) (by exact rfl)) (by decide) ?_
      refine al_nil ?_
      obtain rfl := Option.some.inj h
      have h := hk4
      exact ⟨_, reb_lit [(2, .int .i64 a2), (3, .ptr 3 0 0), (4, .ptr 4 0 0), (6, .ptr 6 0 0), (7, .int .i64 a1.Born)] [(3, 0), (4, 0), (6, 0)] [((3, 0), .box [.int .i64 a0.Number, .int .i64 a0.Born, .int .i64 a0.Tier, .sl 6 (List.map enc50 a0.Episodes)]), ((4, 0), .box [.int .i64 a1.Number, .int .i64 a1.Born, .int .i64 a1.Tier, .sl 6 (List.map enc50 a1.Episodes)]), ((6, 0), .box [.int .i64 0, .int .i64 0, .int .i64 0, .nil])] [(3, 1), (4, 1), (6, 1)] (envOk_cons (by conv => lhs; whnf) (by exact rfl) (envOk_cons (by conv => lhs; whnf) (by exact rfl) (envOk_cons (by conv => lhs; whnf) (by exact rfl) (envOk_cons (by conv => lhs; whnf) (by exact rfl) (envOk_cons (by conv => lhs; whnf) (by exact rfl) envOk_nil))))) (objOk_cons (by conv => lhs; whnf) (by conv => lhs; whnf) (by exact rfl) (by simp) (objOk_cons (by conv => lhs; whnf) (by conv => lhs; whnf) (by exact rfl) (by simp) (objOk_cons (by conv => lhs; whnf) (by conv => lhs; whnf) (by exact rfl) (by simp) objOk_nil))) (nodup_b rfl) (nodup_b rfl) rfl rfl, a1.Born, h, rfl⟩
    · have h := ifF c6 h
      refine aw_cond_f (by decide) rfl ?_
      refine aw_skip ?_
      obtain rfl := Option.some.inj h
      have h := hk4
      exact ⟨_, reb_lit [(2, .int .i64 a2), (3, .ptr 3 0 0), (4, .ptr 4 0 0), (6, .ptr 6 0 0), (7, .int .i64 a0.Born)] [(3, 0), (4, 0), (6, 0)] [((3, 0), .box [.int .i64 a0.Number, .int .i64 a0.Born, .int .i64 a0.Tier, .sl 6 (List.map enc50 a0.Episodes)]), ((4, 0), .box [.int .i64 a1.Number, .int .i64 a1.Born, .int .i64 a1.Tier, .sl 6 (List.map enc50 a1.Episodes)]), ((6, 0), .box [.int .i64 0, .int .i64 0, .int .i64 0, .nil])] [(3, 1), (4, 1), (6, 1)] (envOk_cons (by conv => lhs; whnf) (by exact rfl) (envOk_cons (by conv => lhs; whnf) (by exact rfl) (envOk_cons (by conv => lhs; whnf) (by exact rfl) (envOk_cons (by conv => lhs; whnf) (by exact rfl) (envOk_cons (by conv => lhs; whnf) (by exact rfl) envOk_nil))))) (objOk_cons (by conv => lhs; whnf) (by conv => lhs; whnf) (by exact rfl) (by simp) (objOk_cons (by conv => lhs; whnf) (by conv => lhs; whnf) (by exact rfl) (by simp) (objOk_cons (by conv => lhs; whnf) (by conv => lhs; whnf) (by exact rfl) (by simp) objOk_nil))) (nodup_b rfl) (nodup_b rfl) rfl rfl, a0.Born, h, rfl⟩
  · rintro s ⟨v7_0, h, rfl⟩
    unfold gleaningref15_Join_k0 at h
    refine aw_seq_k (fun K7 hK7 => ?_)
    refine aw_regL ?_
    refine alP (some 17) rfl rfl (does_fieldAddr (q := .ptr 3 0 2) (by conv => lhs; whnf) ty45 rfl ty3 (by decide) (by exact rfl)) (by decide) ?_
    refine alR (some 18) rfl rfl (does_load (v := .int .i64 a0.Tier) (by conv => lhs; whnf) (by conv => lhs; whnf) ty3 (by exact rfl)) (by decide) ?_
    refine alP (some 8) rfl rfl (does_assign (v := .int .i64 a0.Tier) (by exact rfl)) (by decide) ?_
    refine al_nil ?_
    refine hK7 _ ?_
    obtain ⟨q8, h, hk9⟩ := bnd_some h
    refine aw_cut (fun s => ∃ (v8_1 : Int), gleaningref15_Join_k1 a0 a1 a2 v7_0 v8_1 = some r ∧ s = lit [(2, .int .i64 a2), (3, .ptr 3 0 0), (4, .ptr 4 0 0), (6, .ptr 6 0 0), (7, .int .i64 v7_0), (8, .int .i64 v8_1)] [((3, 0), .box [.int .i64 a0.Number, .int .i64 a0.Born, .int .i64 a0.Tier, .sl 6 (List.map enc50 a0.Episodes)]), ((4, 0), .box [.int .i64 a1.Number, .int .i64 a1.Born, .int .i64 a1.Tier, .sl 6 (List.map enc50 a1.Episodes)]), ((6, 0), .box [.int .i64 0, .int .i64 0, .int .i64 0, .nil])] [(3, 1), (4, 1), (6, 1)] X) ?_ ?_
    · skip
      refine aw_seq_k (fun K10 hK10 => ?_)
      refine aw_regL ?_
      refine alP (some 19) rfl rfl (does_fieldAddr (q := .ptr 4 0 2) (by conv => lhs; whnf) ty45 rfl ty3 (by decide) (by exact rfl)) (by decide) ?_
      refine alR (some 20) rfl rfl (does_load (v := .int .i64 a1.Tier) (by conv => lhs; whnf) (by conv => lhs; whnf) ty3 (by exact rfl)) (by decide) ?_
      refine alP (some 21) rfl rfl (does_move (v := .int .i64 a0.Tier) (by exact rfl)) (by decide) ?_
      refine alP (some 22) rfl rfl (does_bin (v := .bool (decide (a0.Tier < a1.Tier))) (by conv => lhs; whnf) (by conv => lhs; whnf) rfl) (by decide) ?_
      refine al_nil ?_
      refine hK10 _ ?_
      refine aw_bool (b := (decide (a0.Tier < a1.Tier))) 22 rfl (fun c11 => ?_) (fun c11 => ?_)
      · have h := ifT c11 h
        refine aw_cond_t (by decide) rfl ?_
        refine aw_regL ?_
        refine alP (some 23) rfl rfl (does_fieldAddr (q := .ptr 4 0 2) (by conv => lhs; whnf) ty45 rfl ty3 (by decide) (by exact rfl)) (by decide) ?_
        refine alR (some 24) rfl rfl (does_load (v := .int .i64 a1.Tier) (by conv => lhs; whnf) (by conv => lhs; whnf) ty3 (by exact rfl)) (by decide) ?_
        refine alP (some 8) rfl rfl (does_assign (v := .int .i64 a1.Tier) (by exact rfl)) (by decide) ?_
        refine al_nil ?_
        obtain rfl := Option.some.inj h
        have h := hk9
        exact ⟨_, reb_lit [(2, .int .i64 a2), (3, .ptr 3 0 0), (4, .ptr 4 0 0), (6, .ptr 6 0 0), (7, .int .i64 v7_0), (8, .int .i64 a1.Tier)] [(3, 0), (4, 0), (6, 0)] [((3, 0), .box [.int .i64 a0.Number, .int .i64 a0.Born, .int .i64 a0.Tier, .sl 6 (List.map enc50 a0.Episodes)]), ((4, 0), .box [.int .i64 a1.Number, .int .i64 a1.Born, .int .i64 a1.Tier, .sl 6 (List.map enc50 a1.Episodes)]), ((6, 0), .box [.int .i64 0, .int .i64 0, .int .i64 0, .nil])] [(3, 1), (4, 1), (6, 1)] (envOk_cons (by conv => lhs; whnf) (by exact rfl) (envOk_cons (by conv => lhs; whnf) (by exact rfl) (envOk_cons (by conv => lhs; whnf) (by exact rfl) (envOk_cons (by conv => lhs; whnf) (by exact rfl) (envOk_cons (by conv => lhs; whnf) (by exact rfl) (envOk_cons (by conv => lhs; whnf) (by exact rfl) envOk_nil)))))) (objOk_cons (by conv => lhs; whnf) (by conv => lhs; whnf) (by exact rfl) (by simp) (objOk_cons (by conv => lhs; whnf) (by conv => lhs; whnf) (by exact rfl) (by simp) (objOk_cons (by conv => lhs; whnf) (by conv => lhs; whnf) (by exact rfl) (by simp) objOk_nil))) (nodup_b rfl) (nodup_b rfl) rfl rfl, a1.Tier, h, rfl⟩
      · have h := ifF c11 h
        refine aw_cond_f (by decide) rfl ?_
        refine aw_skip ?_
        obtain rfl := Option.some.inj h
        have h := hk9
        exact ⟨_, reb_lit [(2, .int .i64 a2), (3, .ptr 3 0 0), (4, .ptr 4 0 0), (6, .ptr 6 0 0), (7, .int .i64 v7_0), (8, .int .i64 a0.Tier)] [(3, 0), (4, 0), (6, 0)] [((3, 0), .box [.int .i64 a0.Number, .int .i64 a0.Born, .int .i64 a0.Tier, .sl 6 (List.map enc50 a0.Episodes)]), ((4, 0), .box [.int .i64 a1.Number, .int .i64 a1.Born, .int .i64 a1.Tier, .sl 6 (List.map enc50 a1.Episodes)]), ((6, 0), .box [.int .i64 0, .int .i64 0, .int .i64 0, .nil])] [(3, 1), (4, 1), (6, 1)] (envOk_cons (by conv => lhs; whnf) (by exact rfl) (envOk_cons (by conv => lhs; whnf) (by exact rfl) (envOk_cons (by conv => lhs; whnf) (by exact rfl) (envOk_cons (by conv => lhs; whnf) (by exact rfl) (envOk_cons (by conv => lhs; whnf) (by exact rfl) (envOk_cons (by conv => lhs; whnf) (by exact rfl) envOk_nil)))))) (objOk_cons (by conv => lhs; whnf) (by conv => lhs; whnf) (by exact rfl) (by simp) (objOk_cons (by conv => lhs; whnf) (by conv => lhs; whnf) (by exact rfl) (by simp) (objOk_cons (by conv => lhs; whnf) (by conv => lhs; whnf) (by exact rfl) (by simp) objOk_nil))) (nodup_b rfl) (nodup_b rfl) rfl rfl, a0.Tier, h, rfl⟩
    · rintro s ⟨v8_1, h, rfl⟩
      unfold gleaningref15_Join_k1 at h
      refine aw_seq_k (fun K12 hK12 => ?_)
      refine aw_regd (by kernel_rfl) (by decide +kernel) ?_
      refine aoP (some 25) rfl rfl (does_move (v := .int .i64 a2) (by exact rfl)) (by decide) ?_
      refine aoP (some 26) rfl rfl (does_move (v := .int .i64 v7_0) (by exact rfl)) (by decide) ?_
      refine aoP (some 27) rfl rfl (does_move (v := .int .i64 v8_1) (by exact rfl)) (by decide) ?_
      refine aoP (some 28) rfl rfl (does_bin (v := .int .i64 (IntKind.i64.wrap (v8_1 + 1))) (by conv => lhs; whnf) (by conv => lhs; whnf) rfl) (by decide) ?_
      refine aoP (some 29) rfl rfl (does_fieldAddr (q := .ptr 3 0 3) (by conv => lhs; whnf) ty45 rfl ty43 (by decide) (by exact rfl)) (by decide) ?_
      refine aoR (some 30) rfl rfl (does_load (v := .sl 6 (List.map enc50 a0.Episodes)) (by conv => lhs; whnf) (by conv => lhs; whnf) ty43 (by exact rfl)) (by decide) ?_
      obtain ⟨g13, h⟩ := gd_some h
      refine aoD (some 31) rfl rfl (do_append (v := List.map enc50 a0.Episodes) (by conv => lhs; whnf) (by conv => lhs; whnf) ty43 ty51 rfl rfl (by conv => lhs; whnf) (by first | exact .inl rfl | exact .inr ⟨rfl, rfl⟩) (by conv => lhs; whnf) (by first | exact .inr rfl | exact .inl rfl) (List.nil_append _) (fit_map g13)) (by decide) ?_
      refine aoP (some 32) rfl rfl (does_fieldAddr (q := .ptr 4 0 3) (by conv => lhs; whnf) ty45 rfl ty43 (by decide) (by exact rfl)) (by decide) ?_
      refine aoR (some 33) rfl rfl (does_load (v := .sl 6 (List.map enc50 a1.Episodes)) (by conv => lhs; whnf) (by conv => lhs; whnf) ty43 (by exact rfl)) (by decide) ?_
      obtain ⟨g14, h⟩ := gd_some h
      refine aoD (some 34) rfl rfl (do_append (v := List.map enc50 (a0.Episodes ++ a1.Episodes)) (by conv => lhs; whnf) (by conv => lhs; whnf) ty43 ty51 rfl rfl (by conv => lhs; whnf) (by first | exact .inl rfl | exact .inr ⟨rfl, rfl⟩) (by conv => lhs; whnf) (by first | exact .inr rfl | exact .inl rfl) (map_app _ _) (fit_map g14)) (by decide) ?_
      obtain ⟨x15, hx15, h⟩ := bnd_some h
      refine aoD (some 35) rfl rfl (does_frz (d := 34) (n := 0) (by conv => lhs; whnf) (do_callG (bcs := []) [] [] [(34, 0)] 35 false (gleaningref15_Make_ok a2 v7_0 (IntKind.i64.wrap (v8_1 + 1)) (a0.Episodes ++ a1.Episodes) hx15) rfl ent27 trivial trivial rfl rfl rfl rfl rfl rfl rfl rfl (.inl ⟨⟨_, _, _, rfl⟩, trivial⟩))) (by decide) ?_
      refine aoD none rfl rfl (do_store (cs' := [.int .i64 x15.Number, .int .i64 x15.Born, .int .i64 x15.Tier, .sl 6 (List.map enc50 x15.Episodes)]) (by conv => lhs; whnf) (by conv => lhs; whnf) (by conv => lhs; whnf) ty45 rfl rfl rfl (by exact rfl)) (by decide) ?_
      refine ao_nil_d (by kernel_rfl) ?_
      refine hK12 _ ?_
      refine aw_ret ?_
      obtain rfl := Option.some.inj h
      exact ret_ok1 (by conv => lhs; whnf) (by conv => lhs; whnf) (by exact rfl) (.inr rfl) rfl
end Go.Proofs.Ytnhjcpnoadicpaa.Ab
