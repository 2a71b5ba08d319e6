/- Chapter 21: a state is read as it was written, but the blocks episodes, and one of which a bit was turned is none. -/
import Derived.Test.YtjklegmimpehlaaGreatXStBack
import Derived.Test.YtjklegmimpehlaaGreatPStD
import Derived.Test.YtjklegmimpehlaaGreatPStU
namespace Go.Proofs.YtjklegmimpehlaaGreat.Ab
open Go Go.RowKit
set_option linter.unusedVariables false
set_option linter.unusedSimpArgs false
theorem bare_none (s : StateG) : ∀ x ∈ (bareS s).Blocks, x.Episodes = [] := fun x hx => by
 obtain ⟨y, _, rfl⟩ := List.mem_map.1 hx
 rfl
theorem stateBack_true (s : StateG) (bit : Int) (hs : StateG.wf s) (hbit : inI .i64 bit) (bs : (s.Blocks.flatMap (·.Episodes)).length ≤ 1048576) : gleaninglaw21_StateBack s bit = some true := by
 obtain ⟨f1, p1, g1⟩ := few21_spec s bs
 simp only [gleaninglaw21_StateBack, alive21, Option.bind_some, Bool.not_true, Bool.false_eq_true, if_false, p1]
 cases f1 with
 | false => rfl
 | true =>
 have hf := g1 rfl
 have ws := wfSt_of hs
 simp only [Bool.not_true, Bool.false_eq_true, if_false, xright_st s hf, Option.bind_some]
 cases rs : rightSt s with
 | false => rfl
 | true =>
 by_cases h2 : bit < 0
 ·simp [h2]
 have f7 := hf.blks
 have hle := stB_le hf ws rs
 have hloop : loopN (fun (q : List Block × Int) => gleaninglaw21_StateBack_l2 s q.1 q.2) Fu ([], 0) = some (s.Blocks.map bareB) := by
  refine loop_list (l := s.Blocks) (fun k r q => q = ((s.Blocks.take k).map bareB, (k : Int)) ∧ r = s.Blocks.map bareB) (by omega) ?_ ?_ ⟨rfl, rfl⟩
  ·rintro k hk r q ⟨rfl, rfl⟩
   refine .inl ⟨((s.Blocks.take (k + 1)).map bareB, ((k + 1 : Nat) : Int)), ?_, rfl, rfl⟩
   simp only [gleaninglaw21_StateBack_l2, dec_t (by omega : (k : Int) < (s.Blocks.length : Int)), if_true, gd_pos (by omega : (0 : Int) ≤ (k : Int)), Int.toNat_natCast, List.getElem?_eq_getElem hk, Option.bind_some, ksuc (by omega : k < 1099511627776)]
   rw [gd_pos (by rw [List.length_append, List.length_map, List.length_take]; simp only [List.length_cons, List.length_nil]; omega), List.take_succ_eq_append_getElem hk, List.map_append]
   rfl
  ·rintro r q ⟨rfl, rfl⟩
   simp only [gleaninglaw21_StateBack_l2, dec_f (by omega : ¬ (s.Blocks.length : Int) < (s.Blocks.length : Int)), Bool.false_eq_true, if_false, List.take_length]
 have hbl : bytesSt s = sealB (stB s) := by rw [bytesSt, if_pos rs]
 have hlen : (sealB (stB s)).length = (stB s).length + 4 := by rw [sealB, List.length_append, fourN_length]
 simp only [Bool.not_true, Bool.false_eq_true, if_false, dec_f h2, Option.bind_some, Sum.elim_inl, gleaninglaw21_StateBack_k0, bytes_st s hf ws, hbl]
 rw [show (((sealB (stB s)).length : Int) == 0) = false by rw [beq_eq_false_iff_ne]; omega, ite_ff, read_st hf ws rs, Option.bind_some]
 refine (congrArg (fun o => Option.bind o _) hloop).trans ?_
 obtain ⟨v, hv, hiff⟩ := same_st (bareS s) (bareS s) (bare_few hf) (by rw [bare_right, rs]) (bare_none s)
 have hv1 : v = true := hiff.2 rfl
 subst hv1
 obtain ⟨t, rfl⟩ := Int.eq_ofNat_of_zero_le (by omega : 0 ≤ bit)
 have hst : (StateG.mk s.Now s.Sec s.Kept s.Next s.Policy s.Open s.Pending s.Memo s.Rows s.Edges s.Slots (s.Blocks.map bareB)) = bareS s := rfl
 rw [Option.bind_some]
 simp only [gleaninglaw21_StateBack_k1, hst]
 have hturn := open_turned (stB s)
 generalize hB : sealB (stB s) = B at *
 have hw8 : IntKind.i64.wrap (8 * (B.length : Int)) = ((8 * B.length : Nat) : Int) := by rw [w64 (by omega) (by omega)]; push_cast; rfl
 have hm2 : Int.tmod (t : Int) ((8 * B.length : Nat) : Int) = ((t % (8 * B.length) : Nat) : Int) := by rw [Int.tmod_eq_emod_of_nonneg (by omega)]; rfl
 have hlt2 := Nat.mod_lt t (by omega : 0 < 8 * B.length)
 generalize hu : t % (8 * B.length) = u at *
 have hdiv : IntKind.i64.wrap (Int.tdiv (u : Int) 8) = ((u / 8 : Nat) : Int) := by rw [Int.tdiv_eq_ediv_of_nonneg (by omega), w64 (by omega) (by omega)]; rfl
 have hmod : IntKind.u64.wrap (Int.tmod (u : Int) 8) = ((u % 8 : Nat) : Int) := by rw [Int.tmod_eq_emod_of_nonneg (by omega), wu64 (by omega) (by omega)]; rfl
 have hp : u / 8 < B.length := by omega
 have hq : u % 8 < 8 := Nat.mod_lt _ (by omega)
 have hbt := bit_turn ⟨u % 8, hq⟩ B[u / 8]
 have hfl : List.set B (u / 8) (B[u / 8] ^^^ bitB (u % 8)) = flip B (u / 8) (bitB (u % 8)) := by
  rw [flip, List.getD_eq_getElem?_getD, List.getElem?_eq_getElem hp]; rfl
 obtain ⟨z, hz⟩ := read_not (b := flip B (u / 8) (bitB (u % 8))) (by rw [flip_length]; omega) (hturn (u / 8) (u % 8) hq hp)
 have g1 : B.length * 1 ≤ 140737488355328 ∧ B.length ≤ 140737488355328 := by omega
 have g4 : ¬ ((8 * B.length : Nat) : Int) = 0 := by omega
 have g5 : ¬ ((u % 8 : Nat) : Int) < 0 := by omega
 dsimp only at hbt
 simp only [hw8, hm2, hu, hdiv, hmod, gd_pos g1, gd_pos g4, gd_pos g5, gd_pos (by omega : (0 : Int) ≤ ((u / 8 : Nat) : Int)), Int.toNat_natCast, List.getElem?_eq_getElem hp, Option.bind_some]
 simp only [Int.toNat_natCast] at hbt
 rw [hbt, hfl, hz]
 simp only [Option.bind_some, gleaninglaw21_num, hv]
 rfl
end Go.Proofs.YtjklegmimpehlaaGreat.Ab
