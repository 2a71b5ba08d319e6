/- A span is busy itself where none of its kids is, millisecond by millisecond. -/
import Derived.Test.YtmompdklolomfaaXPSelf
import Derived.Test.YtmompdklolomfaaPPal
namespace Go.Proofs.Ytmompdklolomfaa.Ab
open Go Go.RowKit
set_option linter.unusedVariables false
set_option linter.unusedSimpArgs false
theorem band_rng (x : Int) {m : Nat} (hm : m < 4611686018427387904) : 0 ≤ bits .and .i64 x (m : Int) ∧ bits .and .i64 x (m : Int) ≤ (m : Int) := by
 have h : bits .and .i64 x (m : Int) = IntKind.i64.wrap (((BitVec.ofInt 64 x) &&& (BitVec.ofInt 64 (m : Int))).toNat : Int) := rfl
 have hle : ((BitVec.ofInt 64 x) &&& (BitVec.ofInt 64 (m : Int))).toNat ≤ m := by
  rw [BitVec.toNat_and, BitVec.ofInt_natCast, BitVec.toNat_ofNat, Nat.mod_eq_of_lt (by omega)]
  exact Nat.and_le_right
 rw [h, w64 (by omega) (by omega)]
 omega
def roS (own : Int) : Span := Span.mk (Trace.mk 0 0) 1 99 (strOf [97]) (strOf [98]) 3 own false []
def kiS (d s : Int) (i : Nat) : Span := Span.mk (Trace.mk 0 0) ((i + 2 : Nat) : Int) 1 (strOf [97]) (strOf [98]) (2 + bits .and .i64 s 3) (bits .and .i64 d 2047) false []
def fam (durs starts : List Int) (own : Int) : List Span := roS own :: (List.range durs.length).map fun i => kiS ((durs[i]?).getD 0) ((starts[i]?).getD 0) i
theorem fam_len (durs starts : List Int) (own : Int) : (fam durs starts own).length = durs.length + 1 := by simp [fam]
theorem name_a : nameB (strOf [97]) = true := by decide +kernel
theorem name_b : nameB (strOf [98]) = true := by decide +kernel
theorem attrs0 : attrsOk [] = true := by decide +kernel
theorem ro_right {own : Int} (h : 0 ≤ own ∧ own ≤ 3000) : rightS (roS own) = true := by
 unfold rightS roS
 simp only [name_a, name_b, attrs0, Bool.true_and, Bool.and_true, List.length_nil, Bool.and_eq_true, decide_eq_true_eq]
 omega
theorem ki_right (d s : Int) (i : Nat) : rightS (kiS d s i) = true := by
 have h1 := band_rng s (m := 3) (by decide)
 have h2 := band_rng d (m := 2047) (by decide)
 have e3 : (((3 : Nat) : Int)) = 3 := rfl
 have e4 : (((2047 : Nat) : Int)) = 2047 := rfl
 rw [e3] at h1
 rw [e4] at h2
 unfold rightS kiS
 simp only [name_a, name_b, attrs0, Bool.true_and, Bool.and_true, List.length_nil, Bool.and_eq_true, decide_eq_true_eq]
 omega
theorem fam_right {durs starts : List Int} {own : Int} (h : 0 ≤ own ∧ own ≤ 3000) : (fam durs starts own).all rightS = true := by
 rw [List.all_eq_true]
 intro s hs
 rcases List.mem_cons.1 hs with rfl | hs
 ·exact ro_right h
 ·obtain ⟨i, _, rfl⟩ := List.mem_map.1 hs
  exact ki_right _ _ _
theorem fam_0 (durs starts : List Int) (own : Int) : (fam durs starts own)[0]? = some (roS own) := rfl
theorem fam_s {durs starts : List Int} {own : Int} {i : Nat} (h : i < durs.length) : (fam durs starts own)[i + 1]? = some (kiS ((durs[i]?).getD 0) ((starts[i]?).getD 0) i) := by
 simp [fam, h]
section
variable {durs starts : List Int} {own : Int} (h12 : durs.length ≤ 12)
include h12
theorem fam_named0 : namedF (fam durs starts own) 0 = -1 := by
 refine named_none fun j hj => ?_
 rw [fam_len] at hj
 cases j with
 | zero => rfl
 | succ j =>
  rw [hit_get (fam_s (by omega)) (fam_0 _ _ _)]
  have : ¬ (kiS ((durs[j]?).getD 0) ((starts[j]?).getD 0) j).Id = (roS own).Parent := by
   show ¬ ((j + 2 : Nat) : Int) = 99
   omega
  rw [dec_f this, Bool.and_false]
theorem fam_named {i : Nat} (hi : i < durs.length) : namedF (fam durs starts own) (i + 1) = 0 := by
 refine named_hit (k := 0) (by rw [fam_len]; omega) ?_ fun j hj => by omega
 rw [hit_get (fam_0 _ _ _) (fam_s hi)]
 have : (roS own).Id = (kiS ((durs[i]?).getD 0) ((starts[i]?).getD 0) i).Parent := rfl
 rw [dec_t this]; rfl
theorem fam_par0 : (parF (fam durs starts own))[0]? = some (-1) := by
 have h0 : 0 < (fam durs starts own).length := by rw [fam_len]; omega
 have : (parF (fam durs starts own))[0]? = some (if cutB (upF (fam durs starts own)) 0 = true then -1 else namedF (fam durs starts own) 0) := by simp [parF, h0]
 rw [this, fam_named0 h12]
 simp
theorem fam_par {i : Nat} (hi : i < durs.length) : (parF (fam durs starts own))[i + 1]? = some 0 := by
 have hl : i + 1 < (fam durs starts own).length := by rw [fam_len]; omega
 have h0 : 0 < (fam durs starts own).length := by rw [fam_len]; omega
 have : (parF (fam durs starts own))[i + 1]? = some (if cutB (upF (fam durs starts own)) (i + 1) = true then -1 else namedF (fam durs starts own) (i + 1)) := by simp [parF, hl]
 rw [this, fam_named h12 hi]
 have hc : cutB (upF (fam durs starts own)) (i + 1) = false := by
  unfold cutB
  rw [gU_at (upF_at hl), fam_named h12 hi]
  have : (upF (fam durs starts own)).length = durs.length + 1 := by rw [upF_len, fam_len]
  rw [this, rcF, if_neg (by omega), if_pos (by omega)]
 rw [hc]; simp
theorem fam_ch {i : Nat} (hi : i < durs.length) (k : Nat) : k ≤ (fam durs starts own).length → chU (parF (fam durs starts own)) ((i + 1 : Nat) : Int) k = [] := by
 induction k with
 | zero => intro _; rfl
 | succ k ih =>
  intro hk
  rw [chU_succ, ih (by omega), List.nil_append, if_neg]
  intro hc
  rw [fam_len] at hk
  cases k with
  | zero => rw [fam_par0 h12] at hc; injection hc with hc; omega
  | succ k => rw [fam_par h12 (by omega)] at hc; injection hc with hc; omega
theorem fam_ch0 (k : Nat) : k ≤ durs.length → chU (parF (fam durs starts own)) 0 (k + 1) = (List.range k).map fun j : Nat => ((j + 1 : Nat) : Int) := by
 induction k with
 | zero =>
  intro _
  rw [chU_succ, fam_par0 h12, if_neg (by intro h; injection h with h; omega)]; rfl
 | succ k ih =>
  intro hk
  rw [chU_succ, ih (by omega), fam_par h12 (by omega), if_pos rfl, List.range_succ, List.map_append]; rfl
end
def iv (durs starts : List Int) : List (Int × Int) := (List.range durs.length).map fun i => endsF (kiS ((durs[i]?).getD 0) ((starts[i]?).getD 0) i)
theorem ends_ki (d s : Int) (i : Nat) : endsF (kiS d s i) = ((kiS d s i).Start * 1000, (kiS d s i).Start * 1000 + (kiS d s i).Dur) := by unfold endsF; rw [if_pos (ki_right d s i)]
theorem ki_w (d s : Int) (i : Nat) : IntKind.i64.wrap ((kiS d s i).Start * 1000) = (endsF (kiS d s i)).1 ∧ IntKind.i64.wrap ((endsF (kiS d s i)).1 + (kiS d s i).Dur) = (endsF (kiS d s i)).2 := by
 rw [ends_ki]
 exact ends_w (ki_right d s i)
theorem build_loop (durs starts : List Int) (own : Int) (h12 : durs.length ≤ 12) (hs : durs.length ≤ starts.length) : loopN (fun (s : List Span × Int) => gleaninglaw30_PathSelf_l2 durs starts s.1 s.2) Fu ([roS own], 0) = some (fam durs starts own) := by
 refine loop_fu (fun n s r => ∃ k : Nat, s = (roS own :: (List.range k).map (fun i => kiS ((durs[i]?).getD 0) ((starts[i]?).getD 0) i), (k : Int)) ∧ k + n = durs.length ∧ r = fam durs starts own) ?_ (n := durs.length) ⟨0, rfl, by omega, rfl⟩ (by omega)
 rintro n s r ⟨k, rfl, hk, rfl⟩
 show (∃ s' m, gleaninglaw30_PathSelf_l2 durs starts _ (k : Int) = _ ∧ _) ∨ gleaninglaw30_PathSelf_l2 durs starts _ (k : Int) = _
 unfold gleaninglaw30_PathSelf_l2
 by_cases hlt : k < durs.length
 ·have hd : durs[k]? = some durs[k] := List.getElem?_eq_getElem hlt
  have hst : starts[k]? = some starts[k] := List.getElem?_eq_getElem (by omega)
  have h3 := band_rng starts[k] (m := 3) (by decide)
  have hw1 : IntKind.u64.wrap (IntKind.i64.wrap ((k : Int) + 2)) = ((k + 2 : Nat) : Int) := by rw [wn (i := k + 2) (by omega) (by omega), wu64 (by omega) (by omega)]
  have e3 : (((3 : Nat) : Int)) = 3 := rfl
  rw [e3] at h3
  have hw2 : IntKind.i64.wrap (2 + bits .and .i64 starts[k] 3) = 2 + bits .and .i64 starts[k] 3 := w64 (by omega) (by omega)
  have hki : Span.mk (Trace.mk 0 0) ((k + 2 : Nat) : Int) 1 (strOf [97]) (strOf [98]) (2 + bits .and .i64 starts[k] 3) (bits .and .i64 durs[k] 2047) false [] = kiS ((durs[k]?).getD 0) ((starts[k]?).getD 0) k := by rw [hd, hst]; rfl
  rw [ite_t (lt_d hlt), gd_pos (by omega), Int.toNat_natCast, hst, Option.bind_some, gd_pos (by omega), hd, Option.bind_some, hw1, hw2, hki, wp1 (by omega), gd_pos (fit112 (by simp; omega))]
  refine .inl ⟨_, n - 1, rfl, by omega, k + 1, ?_, by omega, rfl⟩
  rw [List.range_succ, List.map_append]; rfl
 ·right
  rw [ite_f (lt_n hlt), show k = durs.length by omega]; rfl
theorem free_loop (durs starts : List Int) (own : Int) (h12 : durs.length ≤ 12) (t : Int) : loopN (fun (s : Bool × Int) => gleaninglaw30_PathSelf_l6 (fam durs starts own) t s.1 s.2) Fu (true, 1) = some (frT (iv durs starts) t) := by
 have key : ∀ (m i N : Nat) (b : Bool), i + m = durs.length → m < N → loopN (fun (s : Bool × Int) => gleaninglaw30_PathSelf_l6 (fam durs starts own) t s.1 s.2) N (b, ((i + 1 : Nat) : Int)) = some (b && frT ((List.range' i m).map fun i => endsF (kiS ((durs[i]?).getD 0) ((starts[i]?).getD 0) i)) t) := by
  intro m
  induction m with
  | zero =>
   intro i N b hi hN
   obtain ⟨N, rfl⟩ : ∃ M, N = M + 1 := ⟨N - 1, by omega⟩
   rw [show (List.range' i 0) = [] from rfl]
   have hb : gleaninglaw30_PathSelf_l6 (fam durs starts own) t b ((i + 1 : Nat) : Int) = some (.inr b) := by
    unfold gleaninglaw30_PathSelf_l6
    rw [ite_f (lt_n (by rw [fam_len]; omega))]
   rw [loop_r hb]
   simp [frT]
  | succ m ih =>
   intro i N b hi hN
   obtain ⟨N, rfl⟩ : ∃ M, N = M + 1 := ⟨N - 1, by omega⟩
   have hlt : i < durs.length := by omega
   obtain ⟨k1, k2⟩ := ki_w ((durs[i]?).getD 0) ((starts[i]?).getD 0) i
   have hle : (endsF (kiS ((durs[i]?).getD 0) ((starts[i]?).getD 0) i)).1 ≤ (endsF (kiS ((durs[i]?).getD 0) ((starts[i]?).getD 0) i)).2 := (ends_rng _).2.1
   have hb : gleaninglaw30_PathSelf_l6 (fam durs starts own) t b ((i + 1 : Nat) : Int) = some (.inl ((b && frT [endsF (kiS ((durs[i]?).getD 0) ((starts[i]?).getD 0) i)] t), ((i + 1 + 1 : Nat) : Int))) := by
    unfold gleaninglaw30_PathSelf_l6
    rw [ite_t (lt_d (by rw [fam_len]; omega)), wp1 (by omega)]
    cases b with
    | false => rw [ite_ff, Bool.false_and]
    | true =>
     rw [ite_tt, gd_pos (by omega), Int.toNat_natCast, fam_s hlt, Option.bind_some, k1]
     by_cases h1 : t < (endsF (kiS ((durs[i]?).getD 0) ((starts[i]?).getD 0) i)).1
     ·rw [ite_t (dec_t h1), fr_out (.inl h1)]; rfl
     ·rw [ite_f (dec_f h1), gd_pos (by omega), Option.bind_some, gd_pos (by omega), Option.bind_some, k1, k2, Bool.true_and]
      by_cases h2 : (endsF (kiS ((durs[i]?).getD 0) ((starts[i]?).getD 0) i)).2 ≤ t
      ·rw [dec_t h2, fr_out (.inr h2)]; rfl
      ·rw [dec_f h2, fr_in (by omega) (by omega)]
   have e1 : ∀ k : Int × Int, frT [k] t = !(decide (k.1 ≤ t) && decide (t < k.2)) := fun k => by rw [fr_cons, show frT [] t = true from rfl, Bool.and_true]
   rw [loop_l hb, ih (i + 1) N _ (by omega) (by omega), List.range'_succ, List.map_cons, fr_cons _ (List.map _ _), e1, Bool.and_assoc]
 have := key durs.length 0 Fu true (by omega) (by rw [fu_eq]; omega)
 rw [Bool.true_and, ← List.range_eq_range'] at this
 exact this
theorem cnt_step (ks : List (Int × Int)) (u : Int) (k : Nat) : cntF ks u (u + ((k + 1 : Nat) : Int)) = cntF ks u (u + (k : Int)) + (if frT ks (u + (k : Int)) = true then 1 else 0) := by
 rw [cnt_split ks (u := u) (w := u + (k : Int)) (v := u + ((k + 1 : Nat) : Int)) (by omega) (by omega)]
 congr 1
 cases h : frT ks (u + (k : Int)) with
 | true =>
  rw [cnt_all fun t h1 h2 => by rw [show t = u + (k : Int) by omega]; exact h]
  rw [if_pos rfl]; omega
 | false =>
  rw [cnt_none fun t h1 h2 => by rw [show t = u + (k : Int) by omega]; exact h]
  rfl
theorem pathSelf_true (durs starts : List Int) (own : Int) (hd : (List.length durs) ≤ maxLen ∧ ∀ y ∈ durs, inI .i64 y) (hs : (List.length starts) ≤ maxLen ∧ ∀ y ∈ starts, inI .i64 y) (ho : inI .i64 own) : gleaninglaw30_PathSelf durs starts own = some true := by
 clear hd hs ho
 unfold gleaninglaw30_PathSelf
 rw [alive30, Option.bind_some, Bool.not_true, ite_ff]
 by_cases h1 : (12 : Int) < (durs.length : Int)
 ·rw [ite_t (dec_t h1)]; rfl
 by_cases h2 : (starts.length : Int) < (durs.length : Int)
 ·rw [ite_f (dec_f h1), ite_t (dec_t h2)]; rfl
 by_cases h3 : own < 0
 ·rw [ite_f (dec_f h1), ite_f (dec_f h2), ite_t (dec_t h3)]; rfl
 by_cases h4 : (3000 : Int) < own
 ·rw [ite_f (dec_f h1), ite_f (dec_f h2), ite_f (dec_f h3), ite_t (dec_t h4)]; rfl
 rw [ite_f (dec_f h1), ite_f (dec_f h2), ite_f (dec_f h3), ite_f (dec_f h4), Option.bind_some]
 show gleaninglaw30_PathSelf_k0 durs starts own = some true
 have h12 : durs.length ≤ 12 := by omega
 have hl60 : (fam durs starts own).length ≤ 60 := by rw [fam_len]; omega
 have hright : (fam durs starts own).all rightS = true := fam_right (by omega)
 have hro : endsF (roS own) = (3000, 3000 + own) := by unfold endsF; rw [if_pos (ro_right (by omega))]; rfl
 unfold gleaninglaw30_PathSelf_k0
 rw [show loopN (fun (s : List Span × Int) => gleaninglaw30_PathSelf_l2 durs starts s.1 s.2) Fu ([(Span.mk (Trace.mk 0 0) 1 99 (strOf [97]) (strOf [98]) 3 own false [])], 0) = some (fam durs starts own) from build_loop durs starts own h12 (by omega), Option.bind_some]
 unfold gleaninglaw30_PathSelf_k1
 have hcount : loopN (fun (s : Int × Int) => gleaninglaw30_PathSelf_l4 own (fam durs starts own) s.1 s.2) Fu (0, 3000) = some (cntF (iv durs starts) 3000 (3000 + own) : Int) := by
  obtain ⟨o, rfl⟩ : ∃ o : Nat, own = (o : Int) := ⟨own.toNat, by omega⟩
  refine loop_fu (fun n s r => ∃ k : Nat, s = ((cntF (iv durs starts) 3000 (3000 + (k : Int)) : Int), 3000 + (k : Int)) ∧ k + n = o ∧ r = (cntF (iv durs starts) 3000 (3000 + (o : Int)) : Int)) ?_ (n := o) ⟨0, by rw [cnt_nil (by omega)]; rfl, by omega, rfl⟩ (by omega)
  rintro n s r ⟨k, rfl, hk, rfl⟩
  show (∃ s' m, gleaninglaw30_PathSelf_l4 (o : Int) _ _ (3000 + (k : Int)) = _ ∧ _) ∨ gleaninglaw30_PathSelf_l4 (o : Int) _ _ (3000 + (k : Int)) = _
  unfold gleaninglaw30_PathSelf_l4
  rw [w64 (n := 3000 + (o : Int)) (by omega) (by omega)]
  have hcl := cnt_le (iv durs starts) 3000 (3000 + (k : Int))
  by_cases hlt : k < o
  ·rw [ite_t (dec_t (by omega)), free_loop durs starts _ h12, Option.bind_some]
   unfold gleaninglaw30_PathSelf_k5
   have hst := cnt_step (iv durs starts) 3000 k
   have hw : IntKind.i64.wrap (3000 + (k : Int) + 1) = 3000 + ((k + 1 : Nat) : Int) := by rw [w64 (by omega) (by omega)]; omega
   rw [hw]
   refine .inl ?_
   cases hf : frT (iv durs starts) (3000 + (k : Int)) with
   | true =>
    rw [hf, if_pos rfl] at hst
    rw [ite_tt, w64 (by omega) (by omega)]
    exact ⟨_, n - 1, rfl, by omega, k + 1, by rw [hst]; rfl, by omega, rfl⟩
   | false =>
    rw [hf, if_neg (by decide)] at hst
    rw [ite_ff]
    exact ⟨_, n - 1, rfl, by omega, k + 1, by rw [hst]; rfl, by omega, rfl⟩
  ·right
   rw [ite_f (dec_f (by omega)), show k = o by omega]
 rw [hcount, Option.bind_some]
 unfold gleaninglaw30_PathSelf_k3
 have hkids : loopN (fun (s : Int) => gleaninglaw30_PathSelf_l8 (fam durs starts own) s) Fu 1 = some (.inl ()) := by
  refine loop_fu (fun n s r => ∃ k : Nat, s = ((k + 1 : Nat) : Int) ∧ k + n = durs.length ∧ r = .inl ()) ?_ (n := durs.length) ⟨0, rfl, by omega, rfl⟩ (by omega)
  rintro n s r ⟨k, rfl, hk, rfl⟩
  show (∃ s' m, gleaninglaw30_PathSelf_l8 _ ((k + 1 : Nat) : Int) = _ ∧ _) ∨ gleaninglaw30_PathSelf_l8 _ ((k + 1 : Nat) : Int) = _
  unfold gleaninglaw30_PathSelf_l8
  by_cases hlt : k < durs.length
  ·have hok : okP (fam durs starts own) ((k + 1 : Nat) : Int) := ⟨by omega, by rw [Int.toNat_natCast, fam_len]; omega⟩
   obtain ⟨s, s1, _, s2, s3⟩ := ae_get hok
   rw [Int.toNat_natCast, fam_s hlt] at s1
   injection s1 with s1
   have hself : selfF (fam durs starts own) ((k + 1 : Nat) : Int) = (kiS ((durs[k]?).getD 0) ((starts[k]?).getD 0) k).Dur := by
    unfold selfF
    rw [fam_ch h12 hlt _ (Nat.le_refl _), s2, s3, ← s1, ends_ki, List.map_nil, cnt_all fun t _ _ => rfl]
    have := band_rng ((durs[k]?).getD 0) (m := 2047) (by decide)
    have hd : (kiS ((durs[k]?).getD 0) ((starts[k]?).getD 0) k).Dur = bits .and .i64 ((durs[k]?).getD 0) 2047 := rfl
    have e : (((2047 : Nat) : Int)) = 2047 := rfl
    rw [e] at this
    dsimp only
    omega
   have hR : (if okP (fam durs starts own) ((k + 1 : Nat) : Int) ∧ (fam durs starts own).all rightS = true then selfF (fam durs starts own) ((k + 1 : Nat) : Int) else 0) = (kiS ((durs[k]?).getD 0) ((starts[k]?).getD 0) k).Dur := by rw [if_pos ⟨hok, hright⟩, hself]
   rw [ite_t (lt_d (by rw [fam_len]; omega)), pself_spec _ hl60, hR, Option.bind_some, gd_pos (by omega), Int.toNat_natCast, fam_s hlt, Option.bind_some, ite_f (by simp), wp1 (by omega)]
   exact .inl ⟨_, n - 1, rfl, by omega, k + 1, rfl, by omega, rfl⟩
  ·right
   rw [ite_f (lt_n (by rw [fam_len]; omega))]
 rw [hkids, Option.bind_some]
 show gleaninglaw30_PathSelf_k7 own (fam durs starts own) _ = some true
 unfold gleaninglaw30_PathSelf_k7
 have hok0 : okP (fam durs starts own) 0 := ⟨by omega, by rw [fam_len]; simp⟩
 have hself0 : selfF (fam durs starts own) 0 = (cntF (iv durs starts) 3000 (3000 + own) : Int) := by
  unfold selfF
  have ha : aOf (fam durs starts own) 0 = 3000 := by
   show (endsF (roS own)).1 = _
   rw [hro]
  have he : eOf (fam durs starts own) 0 = 3000 + own := by
   show (endsF (roS own)).2 = _
   rw [hro]
  have hm : (chU (parF (fam durs starts own)) 0 (fam durs starts own).length).map (ivl (fam durs starts own)) = iv durs starts := by
   rw [fam_len, fam_ch0 h12 _ (Nat.le_refl _), List.map_map]
   unfold iv
   refine List.map_congr_left fun i hi => ?_
   have hi' : i < durs.length := List.mem_range.1 hi
   show (aOf (fam durs starts own) ((i + 1 : Nat) : Int), eOf (fam durs starts own) ((i + 1 : Nat) : Int)) = _
   unfold aOf eOf
   rw [Int.toNat_natCast, fam_s hi']
  rw [hm, ha, he]
 have hR0 : (if okP (fam durs starts own) 0 ∧ (fam durs starts own).all rightS = true then selfF (fam durs starts own) 0 else 0) = (cntF (iv durs starts) 3000 (3000 + own) : Int) := by rw [if_pos ⟨hok0, hright⟩, hself0]
 rw [pself_spec _ hl60, hR0, Option.bind_some, ite_t (by simp)]
 have := cnt_le (iv durs starts) 3000 (3000 + own)
 congr 1
 exact dec_t (by omega)
end Go.Proofs.Ytmompdklolomfaa.Ab
