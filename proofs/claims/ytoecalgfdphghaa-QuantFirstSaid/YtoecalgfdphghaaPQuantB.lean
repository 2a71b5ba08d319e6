/- Chapter 31: the busiest, told plainly: the program and the document come to one list. -/
import Derived.Test.YtoecalgfdphghaaXQB
import Derived.Test.YtoecalgfdphghaaPQuant0P
import Derived.Test.YtoecalgfdphghaaPSort
namespace Go.Proofs.Ytoecalgfdphghaa.Ab
open Go Go.RowKit Go.Lib Go.Proofs
set_option linter.unusedVariables false
set_option linter.unusedSimpArgs false
theorem cap_spec {a b c : Int} : gleaningref1_Cap a b c = some (if a < b then b else if c < a then c else a) := by
  unfold gleaningref1_Cap
  by_cases h1 : a < b
  · simp [h1]
  · by_cases h2 : c < a <;> simp [h1, h2]
theorem refPlus_spec {a b : Int} (ha : I63 a) (hb : I63 b) : gleaningref28_plus a b = some (satp a b) := by
  have e1 : ∀ x : Int, I63 x → (if x < 0 then (0 : Int) else if 9223372036854775807 < x then 9223372036854775807 else x) = cl x := fun x hx => by
    have h := hx.2
    unfold cl; split <;> split <;> first | omega | (split <;> omega)
  have h1 := (cl_n ha); have h2 := (cl_n hb)
  have h1a := h1.1; have h1b := h1.2; have h2a := h2.1; have h2b := h2.2
  unfold gleaningref28_plus
  simp only [cap_spec, e1 a ha, e1 b hb, Option.bind_some, w64 (n := 9223372036854775807 - cl a) (by omega) (by omega)]
  unfold satp
  by_cases h : 9223372036854775807 - cl a < cl b
  · rw [ite_t (dec_t h), if_pos (by omega)]
  · rw [ite_f (dec_f h), if_neg (by omega), w64 (by omega) (by omega)]
def sameKey (r : RowG) (x : Busy) : Bool := decide (x.Service = r.Service) && decide (x.Op = r.Op)
def moreB (x : Busy) (r : RowG) : Busy := ⟨x.Service, x.Op, satp x.Count r.Counter.Count, satp x.Errs r.Counter.Errs⟩
def freshB (r : RowG) : Busy := ⟨r.Service, r.Op, 0, 0⟩
def addB (l : List Busy) (r : RowG) : List Busy := match l[l.findIdx (sameKey r)]? with
  | some x => l.set (l.findIdx (sameKey r)) (moreB x r)
  | none => l ++ [moreB (freshB r) r]
def atL (level : Int) (r : RowG) : Bool := r.Level == level
def accB (level : Int) (l : List RowG) : List Busy := (l.filter (atL level)).foldl addB []
def okB (x : Busy) : Prop := N63 x.Count ∧ N63 x.Errs
def okR (r : RowG) : Prop := I63 r.Counter.Count ∧ I63 r.Counter.Errs
theorem moreB_ok {x : Busy} {r : RowG} (hx : okB x) (hr : okR r) : okB (moreB x r) := ⟨satp_n hx.1.i hr.1, satp_n hx.2.i hr.2⟩
theorem fresh_ok (r : RowG) : okB (freshB r) := ⟨n0, n0⟩
theorem addB_ok {l : List Busy} {r : RowG} (hl : ∀ x ∈ l, okB x) (hr : okR r) : ∀ x ∈ addB l r, okB x := by
  intro x hx
  unfold addB at hx
  split at hx
  · rename_i y hy
    rcases List.mem_or_eq_of_mem_set hx with h | h
    · exact hl x h
    · rw [h]; exact moreB_ok (hl y (List.mem_of_getElem? hy)) hr
  · rcases List.mem_append.1 hx with h | h
    · exact hl x h
    · rw [List.mem_singleton.1 h]; exact moreB_ok (fresh_ok r) hr
theorem addB_len (l : List Busy) (r : RowG) : (addB l r).length ≤ l.length + 1 := by
  unfold addB
  split <;> simp
theorem fold_ok : ∀ (rs : List RowG) (l : List Busy), (∀ x ∈ l, okB x) → (∀ r ∈ rs, okR r) → (∀ x ∈ rs.foldl addB l, okB x) ∧ (rs.foldl addB l).length ≤ l.length + rs.length
  | [], l, h, _ => ⟨h, Nat.le_refl _⟩
  | r :: rs, l, h, hr => by
    have h2 := fold_ok rs (addB l r) (addB_ok h (hr r List.mem_cons_self)) (fun x hx => hr x (List.mem_cons_of_mem _ hx))
    refine ⟨h2.1, ?_⟩
    have := h2.2
    have := addB_len l r
    simp only [List.foldl_cons, List.length_cons]; omega
theorem accB_ok (level : Int) (l : List RowG) (h : ∀ r ∈ l, okR r) : (∀ x ∈ accB level l, okB x) ∧ (accB level l).length ≤ l.length := by
  obtain ⟨h1, h2⟩ := fold_ok (l.filter (atL level)) [] (by simp) (fun r hr => h r (List.mem_filter.1 hr).1)
  refine ⟨h1, Nat.le_trans h2 ?_⟩
  have := List.length_filter_le (atL level) l
  simp only [List.length_nil]; omega
theorem accB_succ (level : Int) (l : List RowG) (k : Nat) (hk : k < l.length) : accB level (l.take (k + 1)) = if atL level l[k] = true then addB (accB level (l.take k)) l[k] else accB level (l.take k) := by
  unfold accB
  rw [List.take_succ_eq_append_getElem hk, List.filter_append, List.foldl_append]
  cases h : atL level l[k] <;> simp [h]
theorem addB_old {l : List Busy} {r : RowG} (h : l.findIdx (sameKey r) < l.length) : ∃ x, l[l.findIdx (sameKey r)]? = some x ∧ addB l r = l.set (l.findIdx (sameKey r)) (moreB x r) := by
  refine ⟨_, List.getElem?_eq_getElem h, ?_⟩
  unfold addB
  rw [List.getElem?_eq_getElem h]
theorem addB_new {l : List Busy} {r : RowG} (h : ¬ l.findIdx (sameKey r) < l.length) : addB l r = l ++ [moreB (freshB r) r] := by
  unfold addB
  rw [List.getElem?_eq_none (by omega)]
/-- the program -/
theorem c1_spec (x : Busy) (r : RowG) : quant_Busy_c1 x r = some (sameKey r x) := by
  simp only [quant_Busy_c1, str_beq, sameKey]
  by_cases h : x.Service = r.Service <;> simp [h]
theorem index_spec (l : List Busy) (r : RowG) (hl : l.length ≤ 1000000) : slices_IndexFunc_Busy_quant_Busy_c1 l r = some (if l.findIdx (sameKey r) < l.length then ((l.findIdx (sameKey r) : Nat) : Int) else -1) := by
  unfold slices_IndexFunc_Busy_quant_Busy_c1
  refine loop_idx (sameKey r) l (fun k => (k : Int)) (-1) (by omega) (fun k hk => ?_) ?_
  · simp only [slices_IndexFunc_Busy_quant_Busy_c1_l0, dec_t (by omega : (k : Int) < (l.length : Int)), if_true, gd_pos (by omega : (0 : Int) ≤ (k : Int)), Int.toNat_natCast, List.getElem?_eq_getElem hk, Option.bind_some, c1_spec, ksuccQ (by omega : k < 1099511627776)]
  · simp only [slices_IndexFunc_Busy_quant_Busy_c1_l0, dec_f (by omega : ¬ (l.length : Int) < (l.length : Int)), Bool.false_eq_true, if_false]
theorem k2_spec (v : Nat) (hv : v < 1000000) (r : RowG) (l : List Busy) (i : Nat) {x : Busy} (hx : l[i]? = some x) (ok : okB x) (okr : okR r) : quant_Busy_k2 (v : Int) r l (i : Int) = some (.inl (l.set i (moreB x r), ((v + 1 : Nat) : Int))) := by
  have hi : i < l.length := (List.getElem?_eq_some_iff.1 hx).1
  have h2 : (l.set i (Busy.mk x.Service x.Op (satp x.Count r.Counter.Count) x.Errs))[i]? = some (Busy.mk x.Service x.Op (satp x.Count r.Counter.Count) x.Errs) := by rw [List.getElem?_set_self hi]
  simp only [quant_Busy_k2, gd_pos (by omega : (0 : Int) ≤ (i : Int)), Int.toNat_natCast, hx, Option.bind_some, plus_spec ok.1.i okr.1, plus_spec ok.2.i okr.2, h2, List.set_set, ksuccQ (by omega : v < 1099511627776)]
  rfl
theorem prog_step (l : List RowG) (level : Int) (hl : l.length ≤ 1000) (hr : ∀ r ∈ l, okR r) (k : Nat) (hk : k < l.length) (out : List Busy) (ho : ∀ x ∈ out, okB x) (hn : out.length ≤ 1000) :
    quant_Busy_l1 l level out (k : Int) = some (.inl (if atL level l[k] = true then addB out l[k] else out, ((k + 1 : Nat) : Int))) := by
  simp only [quant_Busy_l1, dec_t (by omega : (k : Int) < (l.length : Int)), if_true, gd_pos (by omega : (0 : Int) ≤ (k : Int)), Int.toNat_natCast, List.getElem?_eq_getElem hk, Option.bind_some]
  have hok := hr l[k] (List.getElem_mem hk)
  by_cases hlev : l[k].Level = level
  · have h1 : atL level l[k] = true := by simp [atL, hlev]
    rw [show (l[k].Level != level) = false from by simp [hlev], ite_ff, h1, if_pos rfl, index_spec _ _ (by omega), Option.bind_some]
    by_cases hf : out.findIdx (sameKey l[k]) < out.length
    · obtain ⟨x, hx, ha⟩ := addB_old hf
      rw [if_pos hf, dec_f (by omega), ite_ff, Option.bind_some]
      dsimp only
      rw [k2_spec k (by omega) _ _ _ hx (ho x (List.mem_of_getElem? hx)) hok, ha]
    · rw [if_neg hf, dec_t (by omega), ite_tt, gd_pos (by simp; omega), Option.bind_some]
      dsimp only
      have hx : (out ++ [Busy.mk l[k].Service l[k].Op 0 0])[out.length]? = some (freshB l[k]) := get_at (A := out) (B := []) (x := freshB l[k])
      have hset : (out ++ [Busy.mk l[k].Service l[k].Op 0 0]).set out.length (moreB (freshB l[k]) l[k]) = out ++ [moreB (freshB l[k]) l[k]] := set_at (A := out) (B := []) (x := freshB l[k])
      rw [k2_spec k (by omega) _ _ _ hx (fresh_ok _) hok, addB_new hf, hset]
  · have h1 : atL level l[k] = false := by simp [atL, hlev]
    rw [show (l[k].Level != level) = true from by simp [hlev], ite_tt, h1, if_neg (by decide), ksuccQ (by omega : k < 1099511627776)]
/-- a loop that adds row by row -/
theorem acc_loop {body : List Busy × Int → Option ((List Busy × Int) ⊕ List Busy)} (l : List RowG) (level : Int) (hl : l.length ≤ 1000) (hr : ∀ r ∈ l, okR r)
    (step : ∀ k (hk : k < l.length) out, (∀ x ∈ out, okB x) → out.length ≤ 1000 → body (out, (k : Int)) = some (.inl (if atL level l[k] = true then addB out l[k] else out, ((k + 1 : Nat) : Int))))
    (last : ∀ out, body (out, (l.length : Int)) = some (.inr out)) : loopN body Fu ([], 0) = some (accB level l) := by
  refine loop_list (l := l) (fun k r s => s = (accB level (l.take k), (k : Int)) ∧ r = accB level l) (by omega) ?_ ?_ ⟨rfl, rfl⟩
  · rintro k hk r s ⟨rfl, rfl⟩
    obtain ⟨h1, h2⟩ := accB_ok level (l.take k) (fun r h => hr r (List.mem_of_mem_take h))
    have := List.length_take_le k l
    exact .inl ⟨_, step k hk _ h1 (by omega), by rw [accB_succ level l k hk], rfl⟩
  · rintro r s ⟨rfl, rfl⟩
    rw [last, List.take_length]
/-- the busiest: all of them, sorted -/
def srt (l : List Busy) : List Busy := sortF (fun x y => (quant_compare x y).getD 0) l
def cut (n : Int) (m : Nat) : Nat := if n < 0 then 0 else if (m : Int) < n then m else n.toNat
theorem cut_le (n : Int) (m : Nat) : cut n m ≤ m := by unfold cut; split <;> (try split) <;> omega
theorem srt_perm (l : List Busy) : (srt l).Perm l := sortF_perm sok_quant_compare.swo l
theorem srt_len (l : List Busy) : (srt l).length = l.length := (srt_perm l).length_eq
theorem srt_sorted (l : List Busy) : (srt l).Pairwise (fun a b => ¬ busier b a) := by
  refine (sortF_sorted sok_quant_compare.swo l).imp fun {a b} h => ?_
  rw [lt_busier] at h
  exact of_decide_eq_false h
def busyF (l : List RowG) (level n : Int) : List Busy := (srt (accB level l)).take (cut n (accB level l).length)
theorem busy_spec (l : List RowG) (level n : Int) (hl : l.length ≤ 1000) (hr : ∀ r ∈ l, okR r) : quant_Busy l level n = some (busyF l level n) := by
  rw [quant_Busy, acc_loop l level hl hr (fun k hk out ho hn => prog_step l level hl hr k hk out ho hn) (fun out => by simp only [quant_Busy_l1, dec_f (by omega : ¬ (l.length : Int) < (l.length : Int)), Bool.false_eq_true, if_false]), Option.bind_some]
  have hlen := (accB_ok level l hr).2
  have hs : sortO quant_compare (accB level l) = some (srt (accB level l)) := by unfold sortO; rw [gd_pos (by omega)]; rfl
  rw [quant_Busy_k0, hs, Option.bind_some, srt_len]
  have hc : (if (if ((accB level l).length : Int) < n then ((accB level l).length : Int) else n) > 0 then (if ((accB level l).length : Int) < n then ((accB level l).length : Int) else n) else 0) = (cut n (accB level l).length : Int) := by
    unfold cut
    split <;> split <;> (try split) <;> (try split) <;> omega
  have := cut_le n (accB level l).length
  rw [hc, gd_pos (by omega), gd_pos (by omega), Int.toNat_natCast]
  rfl
/-- the document -/
theorem refIdx_spec (a : List RowG) (l : List Busy) (v : Nat) {r : RowG} (hr : a[v]? = some r) (hl : l.length ≤ 1000000) : loopN (fun (s : Int) => gleaningref28_Busy_l3 a l (v : Int) s) Fu 0 = some ((l.findIdx (sameKey r) : Nat) : Int) := by
  have h := loop_idx (body := fun (s : Int) => gleaningref28_Busy_l3 a l (v : Int) s) (sameKey r) l (fun k => (k : Int)) (l.length : Int) (by omega) (fun k hk => by
    simp only [gleaningref28_Busy_l3, dec_t (by omega : (k : Int) < (l.length : Int)), if_true, gd_pos (by omega : (0 : Int) ≤ (k : Int)), gd_pos (by omega : (0 : Int) ≤ (v : Int)), Int.toNat_natCast, List.getElem?_eq_getElem hk, hr, Option.bind_some, str_beq, ksuccQ (by omega : k < 1099511627776), sameKey]
    by_cases h1 : l[k].Service = r.Service
    · by_cases h2 : l[k].Op = r.Op <;> simp [h1, h2]
    · simp [h1]) (by simp only [gleaningref28_Busy_l3, dec_f (by omega : ¬ (l.length : Int) < (l.length : Int)), Bool.false_eq_true, if_false])
  rw [h]
  split
  · rfl
  · have := List.findIdx_le_length (p := sameKey r) (xs := l)
    congr 1; omega
theorem refk4_spec (a : List RowG) (v : Nat) (hv : v < 1000000) {r : RowG} (hr : a[v]? = some r) (l : List Busy) (i : Nat) {x : Busy} (hx : l[i]? = some x) (ok : okB x) (okr : okR r) : gleaningref28_Busy_k4 a (v : Int) (i : Int) l = some (.inl (l.set i (moreB x r), ((v + 1 : Nat) : Int))) := by
  have hi : i < l.length := (List.getElem?_eq_some_iff.1 hx).1
  have h2 : (l.set i (Busy.mk x.Service x.Op (satp x.Count r.Counter.Count) x.Errs))[i]? = some (Busy.mk x.Service x.Op (satp x.Count r.Counter.Count) x.Errs) := by rw [List.getElem?_set_self hi]
  simp only [gleaningref28_Busy_k4, gd_pos (by omega : (0 : Int) ≤ (i : Int)), gd_pos (by omega : (0 : Int) ≤ (v : Int)), Int.toNat_natCast, hx, hr, Option.bind_some, refPlus_spec ok.1.i okr.1, refPlus_spec ok.2.i okr.2, h2, List.set_set, ksuccQ (by omega : v < 1099511627776)]
  rfl
theorem ref_step (l : List RowG) (level : Int) (hl : l.length ≤ 1000) (hr : ∀ r ∈ l, okR r) (k : Nat) (hk : k < l.length) (out : List Busy) (ho : ∀ x ∈ out, okB x) (hn : out.length ≤ 1000) :
    gleaningref28_Busy_l1 l level out (k : Int) = some (.inl (if atL level l[k] = true then addB out l[k] else out, ((k + 1 : Nat) : Int))) := by
  have hg := List.getElem?_eq_getElem hk
  simp only [gleaningref28_Busy_l1, dec_t (by omega : (k : Int) < (l.length : Int)), if_true, gd_pos (by omega : (0 : Int) ≤ (k : Int)), Int.toNat_natCast, hg, Option.bind_some]
  have hok := hr l[k] (List.getElem_mem hk)
  by_cases hlev : l[k].Level = level
  · have h1 : atL level l[k] = true := by simp [atL, hlev]
    rw [show (l[k].Level != level) = false from by simp [hlev], ite_ff, h1, if_pos rfl, refIdx_spec l out k hg (by omega), Option.bind_some, gleaningref28_Busy_k2]
    by_cases hf : out.findIdx (sameKey l[k]) < out.length
    · obtain ⟨x, hx, ha⟩ := addB_old hf
      rw [show (((out.findIdx (sameKey l[k]) : Nat) : Int) == (out.length : Int)) = false from by rw [beq_eq_false_iff_ne]; omega, ite_ff, Option.bind_some, refk4_spec l k (by omega) hg _ _ hx (ho x (List.mem_of_getElem? hx)) hok, ha]
    · have he : out.findIdx (sameKey l[k]) = out.length := by
        have := List.findIdx_le_length (p := sameKey l[k]) (xs := out)
        omega
      rw [he, show ((out.length : Int) == (out.length : Int)) = true from by simp, ite_tt]
      simp only [gd_pos (by omega : (0 : Int) ≤ (k : Int)), Int.toNat_natCast, hg, Option.bind_some]
      rw [gd_pos (by simp; omega), Option.bind_some]
      have hx : (out ++ [Busy.mk l[k].Service l[k].Op 0 0])[out.length]? = some (freshB l[k]) := get_at (A := out) (B := []) (x := freshB l[k])
      have hset : (out ++ [Busy.mk l[k].Service l[k].Op 0 0]).set out.length (moreB (freshB l[k]) l[k]) = out ++ [moreB (freshB l[k]) l[k]] := set_at (A := out) (B := []) (x := freshB l[k])
      rw [refk4_spec l k (by omega) hg _ _ hx (fresh_ok _) hok, addB_new hf, hset]
  · have h1 : atL level l[k] = false := by simp [atL, hlev]
    rw [show (l[k].Level != level) = true from by simp [hlev], ite_tt, h1, if_neg (by decide), ksuccQ (by omega : k < 1099511627776)]
theorem busier_ref (x y : Busy) : gleaningref28_busier x y = some (decide (busier x y)) := by
  simp only [gleaningref28_busier, str_beq, bless_eq]
  unfold busier
  by_cases h1 : x.Count = y.Count
  · by_cases h2 : x.Service = y.Service
    · simp [h1, h2, bless_irr]
    · simp [h1, h2]
  · have : (x.Count != y.Count) = true := by simp [h1]
    rw [this, ite_tt]
    simp [h1]
theorem inner_loop (v : Nat) (hv : v < 1000000) : ∀ (rA : List Busy) (x : Busy) (B : List Busy) (N : Nat), rA.length < N → rA.length ≤ 1000000 → loopN (fun (s : List Busy × Int) => gleaningref28_Busy_l7 (v : Int) s.1 s.2) N (rA.reverse ++ x :: B, (rA.length : Int)) = some (.inl (bub busier x rA ++ B, ((v + 1 : Nat) : Int)))
  | [], x, B, N, hN, _ => by
    obtain ⟨N', rfl⟩ : ∃ N', N = N' + 1 := ⟨N - 1, by simp at hN; omega⟩
    refine loop_r ?_
    simp only [gleaningref28_Busy_l7, List.length_nil, dec_f (by simp : ¬ (0 : Int) < ((0 : Nat) : Int)), Bool.false_eq_true, if_false, Option.bind_some, Sum.elim_inr, ksuccQ (by omega : v < 1099511627776)]
    rfl
  | a :: r, x, B, N, hN, hr => by
    obtain ⟨N', rfl⟩ : ∃ N', N = N' + 1 := ⟨N - 1, by omega⟩
    simp only [List.length_cons] at hN hr
    have hj : (((a :: r).length : Nat) : Int) = (r.length : Int) + 1 := by simp
    have e1 : IntKind.i64.wrap ((((a :: r).length : Nat) : Int) - 1) = (r.length : Int) := by rw [hj, w64 (by omega) (by omega)]; omega
    have hlist : (a :: r).reverse ++ x :: B = r.reverse ++ a :: x :: B := by simp
    have g0 : ((a :: r).reverse ++ x :: B)[r.length]? = some a := by
      rw [hlist]; have := get_at (A := r.reverse) (B := x :: B) (x := a); rwa [List.length_reverse] at this
    have g1 : ((a :: r).reverse ++ x :: B)[(a :: r).length]? = some x := by
      have := get_at (A := (a :: r).reverse) (B := B) (x := x); rwa [List.length_reverse] at this
    have s1 : ((a :: r).reverse ++ x :: B).set (a :: r).length a = r.reverse ++ a :: a :: B := by
      have := set_at (A := (a :: r).reverse) (B := B) (x := x) (y := a); rw [List.length_reverse] at this; rw [this]; simp
    have s2 : (r.reverse ++ a :: a :: B).set r.length x = r.reverse ++ x :: a :: B := by
      have := set_at (A := r.reverse) (B := a :: B) (x := a) (y := x); rwa [List.length_reverse] at this
    have g2 : (r.reverse ++ a :: a :: B)[r.length]? = some a := by
      have := get_at (A := r.reverse) (B := a :: B) (x := a); rwa [List.length_reverse] at this
    have hpos : (0 : Int) < (((a :: r).length : Nat) : Int) := by omega
    by_cases hb : busier x a
    · have hbody : gleaningref28_Busy_l7 (v : Int) ((a :: r).reverse ++ x :: B) (((a :: r).length : Nat) : Int) = some (.inl (r.reverse ++ x :: a :: B, (r.length : Int))) := by
        simp only [gleaningref28_Busy_l7, dec_t hpos, if_true, gd_pos (by omega : (0 : Int) ≤ (((a :: r).length : Nat) : Int)), e1, gd_pos (by omega : (0 : Int) ≤ (r.length : Int)), Int.toNat_natCast, g0, g1, Option.bind_some, busier_ref, dec_t hb, Sum.elim_inl, gleaningref28_Busy_k8, s1, g2, s2]
      rw [loop_l (body := fun (s : List Busy × Int) => gleaningref28_Busy_l7 (v : Int) s.1 s.2) hbody, inner_loop v hv r x (a :: B) N' (by omega) (by omega), bub, if_pos hb, List.append_assoc]
      rfl
    · refine loop_r ?_
      simp only [gleaningref28_Busy_l7, dec_t hpos, if_true, gd_pos (by omega : (0 : Int) ≤ (((a :: r).length : Nat) : Int)), e1, gd_pos (by omega : (0 : Int) ≤ (r.length : Int)), Int.toNat_natCast, g0, g1, Option.bind_some, busier_ref, dec_f hb, Bool.false_eq_true, if_false, Sum.elim_inr, ksuccQ (by omega : v < 1099511627776)]
      rw [bub, if_neg hb, List.append_assoc]
      rfl
theorem outer_loop : ∀ (R S : List Busy) (N : Nat), R.length < N → S.length + R.length ≤ 1000 → loopN (fun (s : List Busy × Int) => gleaningref28_Busy_l6 s.1 s.2) N (S ++ R, (S.length : Int)) = some (insAll busier S R)
  | [], S, N, hN, _ => by
    obtain ⟨N', rfl⟩ : ∃ N', N = N' + 1 := ⟨N - 1, by simp at hN; omega⟩
    refine loop_r ?_
    simp only [gleaningref28_Busy_l6, List.append_nil, dec_f (by omega : ¬ (S.length : Int) < (S.length : Int)), Bool.false_eq_true, if_false]
    rfl
  | x :: R, S, N, hN, hl => by
    obtain ⟨N', rfl⟩ : ∃ N', N = N' + 1 := ⟨N - 1, by omega⟩
    simp only [List.length_cons] at hN hl
    have hlt : (S.length : Int) < ((S ++ x :: R).length : Int) := by simp only [List.length_append, List.length_cons]; omega
    have hin := inner_loop S.length (by omega) S.reverse x R Fu (by rw [List.length_reverse, show Fu = 1208925819614629174706175 + 1 from rfl]; omega) (by rw [List.length_reverse]; omega)
    rw [List.reverse_reverse, List.length_reverse] at hin
    have hbody : gleaningref28_Busy_l6 (S ++ x :: R) (S.length : Int) = some (.inl (bub busier x S.reverse ++ R, ((S.length + 1 : Nat) : Int))) := by
      rw [gleaningref28_Busy_l6, dec_t hlt, ite_tt]; exact hin
    have hbl : (bub busier x S.reverse).length = S.length + 1 := by
      rw [(bub_perm (lt := busier) x S.reverse).length_eq]; simp
    rw [loop_l (body := fun (s : List Busy × Int) => gleaningref28_Busy_l6 s.1 s.2) hbody, ← hbl, outer_loop R _ N' (by omega) (by omega)]
    rfl
theorem wk_busier : Wk busier := ⟨busier_irr, fun _ _ _ => busier_tr, fun _ _ _ => nbusier_tr⟩
def keyB (x : Busy) : ByteArray × ByteArray := (x.Service, x.Op)
theorem addB_keys {l : List Busy} {r : RowG} (h : l.Pairwise (fun a b => keyB a ≠ keyB b)) : (addB l r).Pairwise (fun a b => keyB a ≠ keyB b) := by
  have hm : ∀ {l : List Busy}, l.Pairwise (fun a b => keyB a ≠ keyB b) ↔ (l.map keyB).Pairwise (fun a b => a ≠ b) := fun {l} => by rw [List.pairwise_map]
  by_cases hf : l.findIdx (sameKey r) < l.length
  · obtain ⟨x, hx, ha⟩ := addB_old hf
    rw [ha, hm, List.map_set]
    have hk : keyB (moreB x r) = keyB x := rfl
    have he : (l.map keyB)[l.findIdx (sameKey r)]? = some (keyB x) := by rw [List.getElem?_map, hx]; rfl
    have hlt : l.findIdx (sameKey r) < (l.map keyB).length := by simpa using hf
    have he2 : keyB x = (l.map keyB)[l.findIdx (sameKey r)] := by
      rw [List.getElem?_eq_getElem hlt] at he; injection he with he; exact he.symm
    rw [hk, he2, List.set_getElem_self]
    exact hm.1 h
  · rw [addB_new hf, List.pairwise_append]
    refine ⟨h, by simp, fun a ha b hb => ?_⟩
    rw [List.mem_singleton.1 hb]
    intro he
    have hno : ¬ ∃ x, x ∈ l ∧ sameKey r x = true := fun hx => hf (List.findIdx_lt_length.2 hx)
    refine hno ⟨a, ha, ?_⟩
    simp only [keyB, moreB, freshB, Prod.mk.injEq] at he
    simp [sameKey, he.1, he.2]
theorem fold_keys : ∀ (rs : List RowG) (l : List Busy), l.Pairwise (fun a b => keyB a ≠ keyB b) → (rs.foldl addB l).Pairwise (fun a b => keyB a ≠ keyB b)
  | [], l, h => h
  | r :: rs, l, h => fold_keys rs _ (addB_keys h)
theorem accB_keys (level : Int) (l : List RowG) : (accB level l).Pairwise (fun a b => keyB a ≠ keyB b) := fold_keys _ [] List.Pairwise.nil
theorem key_inj : ∀ {l : List Busy}, l.Pairwise (fun a b => keyB a ≠ keyB b) → ∀ a ∈ l, ∀ b ∈ l, keyB a = keyB b → a = b
  | [], _, a, ha, _, _, _ => by cases ha
  | x :: l, h, a, ha, b, hb, e => by
    obtain ⟨h1, h2⟩ := List.pairwise_cons.1 h
    rcases List.mem_cons.1 ha with rfl | ha' <;> rcases List.mem_cons.1 hb with rfl | hb'
    · rfl
    · exact absurd e (h1 b hb')
    · exact absurd e.symm (h1 a ha')
    · exact key_inj h2 a ha' b hb' e
theorem srt_ins {l : List Busy} (h : l.Pairwise (fun a b => keyB a ≠ keyB b)) : insAll busier [] l = srt l := by
  have p1 := insAll_perm (lt := busier) l []
  rw [List.nil_append] at p1
  have p2 := srt_perm l
  refine List.Perm.eq_of_pairwise (le := fun a b => ¬ busier b a) (fun a b ha hb h1 h2 => ?_) (insAll_sorted wk_busier l [] List.Pairwise.nil) (srt_sorted l) (p1.trans p2.symm)
  obtain ⟨_, e2, e3⟩ := busier_tot h2 h1
  exact key_inj h a (p1.mem_iff.1 ha) b (p2.mem_iff.1 hb) (by simp [keyB, e2, e3])
theorem refBusy_spec (l : List RowG) (level n : Int) (hl : l.length ≤ 1000) (hr : ∀ r ∈ l, okR r) : gleaningref28_Busy l level n = some (busyF l level n) := by
  rw [gleaningref28_Busy, acc_loop l level hl hr (fun k hk out ho hn => ref_step l level hl hr k hk out ho hn) (fun out => by simp only [gleaningref28_Busy_l1, dec_f (by omega : ¬ (l.length : Int) < (l.length : Int)), Bool.false_eq_true, if_false]), Option.bind_some]
  have hlen := (accB_ok level l hr).2
  have ho := outer_loop (accB level l) [] Fu (by rw [show Fu = 1208925819614629174706175 + 1 from rfl]; omega) (by simp; omega)
  rw [List.nil_append, srt_ins (accB_keys level l)] at ho
  rw [gleaningref28_Busy_k0, show (0 : Int) = (([] : List Busy).length : Int) from rfl, ho, Option.bind_some, gleaningref28_Busy_k5, cap_spec, Option.bind_some, srt_len]
  have hc : (if n < (([] : List Busy).length : Int) then (([] : List Busy).length : Int) else if ((accB level l).length : Int) < n then ((accB level l).length : Int) else n) = (cut n (accB level l).length : Int) := by
    unfold cut
    simp only [List.length_nil]
    by_cases h1 : n < 0
    · simp [h1]
    · by_cases h2 : ((accB level l).length : Int) < n
      · simp [h1, h2]
      · simp [h1, h2]; omega
  have := cut_le n (accB level l).length
  first
  | rw [hc, gd_pos (by omega), gd_pos (by omega), Int.toNat_natCast]; rfl
  | (rw [show (0 : Int) = (([] : List Busy).length : Int) from rfl, hc, gd_pos (by simp), gd_pos (by omega), Int.toNat_natCast]; rfl)
theorem same_spec (l : List Busy) (hl : l.length ≤ 1000000) : gleaningref28_SameBusy l l = some true := by
  rw [gleaningref28_SameBusy, show ((l.length : Int) != (l.length : Int)) = false from by simp, ite_ff]
  refine loop_list (l := l) (fun k r s => s = (k : Int) ∧ r = true) (by omega) ?_ ?_ ⟨rfl, rfl⟩
  · rintro k hk r s ⟨rfl, rfl⟩
    refine .inl ⟨((k + 1 : Nat) : Int), ?_, rfl, rfl⟩
    simp only [gleaningref28_SameBusy_l0, dec_t (by omega : (k : Int) < (l.length : Int)), if_true, gd_pos (by omega : (0 : Int) ≤ (k : Int)), Int.toNat_natCast, List.getElem?_eq_getElem hk, Option.bind_some, beq_self_eq_true, Bool.and_self, Bool.not_true, Bool.false_eq_true, if_false, ksuccQ (by omega : k < 1099511627776)]
  · rintro r s ⟨rfl, rfl⟩
    simp only [gleaningref28_SameBusy_l0, dec_f (by omega : ¬ (l.length : Int) < (l.length : Int)), Bool.false_eq_true, if_false]
end Go.Proofs.Ytoecalgfdphghaa.Ab
