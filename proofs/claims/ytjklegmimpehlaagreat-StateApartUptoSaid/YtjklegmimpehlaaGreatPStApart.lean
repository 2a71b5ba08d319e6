/- Chapter 21: no two states that may be are written as one, but for the blocks episodes. -/
import Derived.Test.YtjklegmimpehlaaGreatXStApart
import Derived.Test.YtjklegmimpehlaaGreatPStD
import Derived.Test.YtjklegmimpehlaaGreatPStU
namespace Go.Proofs.YtjklegmimpehlaaGreat.Ab
open Go Go.RowKit
set_option linter.unusedVariables false
set_option linter.unusedSimpArgs false
theorem bare_spec (s : StateG) (h : s.Blocks.length ≤ 1000) : gleaninglaw21_bare s = some (bareS s) := by
 rw [gleaninglaw21_bare]
 have hloop : loopN (fun (q : List Block × Int) => gleaninglaw21_bare_l1 s q.1 q.2) Fu ([], 0) = some (s.Blocks.map bareB) := by
  refine loop_list (l := s.Blocks) (fun k r q => q = ((s.Blocks.take k).map bareB, (k : Int)) ∧ r = s.Blocks.map bareB) (by omega) ?_ ?_ ⟨rfl, rfl⟩
  ·rintro k hk r q ⟨rfl, rfl⟩
   refine .inl ⟨((s.Blocks.take (k + 1)).map bareB, ((k + 1 : Nat) : Int)), ?_, rfl, rfl⟩
   simp only [gleaninglaw21_bare_l1, dec_t (by omega : (k : Int) < (s.Blocks.length : Int)), if_true, gd_pos (by omega : (0 : Int) ≤ (k : Int)), Int.toNat_natCast, List.getElem?_eq_getElem hk, Option.bind_some, ksuc (by omega : k < 1099511627776)]
   rw [gd_pos (by rw [List.length_append, List.length_map, List.length_take]; simp only [List.length_cons, List.length_nil]; omega), List.take_succ_eq_append_getElem hk, List.map_append]
   rfl
  ·rintro r q ⟨rfl, rfl⟩
   simp only [gleaninglaw21_bare_l1, dec_f (by omega : ¬ (s.Blocks.length : Int) < (s.Blocks.length : Int)), Bool.false_eq_true, if_false, List.take_length]
 refine (congrArg (fun o => Option.bind o _) hloop).trans ?_
 rfl
theorem bare_none (s : StateG) : ∀ x ∈ (bareS s).Blocks, x.Episodes = [] := fun x hx => by
 obtain ⟨y, _, rfl⟩ := List.mem_map.1 hx
 rfl
theorem stateApart_true (s t : StateG) (hs : StateG.wf s) (ht : StateG.wf t) (bs : (s.Blocks.flatMap (·.Episodes)).length ≤ 1048576) (bt : (t.Blocks.flatMap (·.Episodes)).length ≤ 1048576) : gleaninglaw21_StateApart s t = some true := by
 obtain ⟨f1, p1, g1⟩ := few21_spec s bs
 obtain ⟨f2, p2, g2⟩ := few21_spec t bt
 simp only [gleaninglaw21_StateApart, alive21, Option.bind_some, Bool.not_true, Bool.false_eq_true, if_false, p1, p2]
 cases f1 with
 | false => rfl
 | true =>
 cases f2 with
 | false => rfl
 | true =>
 have hf := g1 rfl
 have hg := g2 rfl
 have ws := wfSt_of hs
 have wt := wfSt_of ht
 simp only [Bool.not_true, Bool.false_eq_true, if_false, xright_st s hf, xright_st t hg, Option.bind_some]
 cases rs : rightSt s with
 | false => rfl
 | true =>
 cases rt : rightSt t with
 | false => rfl
 | true =>
 have f7 := hf.blks
 have g7 := hg.blks
 obtain ⟨v, hv, hiff⟩ := same_st (bareS s) (bareS t) (bare_few hf) (by rw [bare_right, rs]) (bare_none s)
 simp only [Bool.not_true, Bool.false_eq_true, if_false, Option.bind_some, Sum.elim_inl, gleaninglaw21_StateApart_k0, bytes_st s hf ws, bytes_st t hg wt, bare_spec s (by omega), bare_spec t (by omega), hv, toList_str]
 rw [bytesSt, bytesSt, if_pos rs, if_pos rt]
 have hb : sealB (stB s) = sealB (stB t) ↔ bareS s = bareS t := by
  constructor
  ·intro e
   have r1 := read_st hf ws rs
   rw [e, read_st hg wt rt] at r1
   simp only [Option.some.injEq, Prod.mk.injEq, and_true] at r1
   exact r1.symm
  ·intro e
   rw [← bare_st s, ← bare_st t, e]
 congr 1
 cases v with
 | true =>
  have e := hb.2 (hiff.1 rfl)
  rw [e]; simp
 | false =>
  have : ¬ sealB (stB s) = sealB (stB t) := fun e => by have := hiff.2 (hb.1 e); cases this
  simp [this]
end Go.Proofs.YtjklegmimpehlaaGreat.Ab
