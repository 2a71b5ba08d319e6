/- slices.Delete at elements of any number of cells: what it does with a row of ours. -/
import Derived.Test.YtejimiedoibkcaaAbOps15
import Derived.Shelf.SlBodiesN
import Derived.Shelf.SlGeneric
import Derived.Shelf.RegionOpenPlain
import Derived.WalkKit
import Derived.Deep.LoopGhost
import Derived.Deep.RegionLaw
import Derived.Lib.Walk
import Derived.Sort.WalkB12
import Derived.Lib.SliceRun
import Derived.Lib.SlicesDelete
namespace Go.Proofs.Ytejimiedoibkcaa.Ab
open Go Go.RowKit Go.Shelf Go.Lib Go.Sort Go.Proofs
set_option linter.unusedVariables false
set_option linter.unusedSimpArgs false
variable {P : Program} {ρ : Ren}
/-- what is asked of a program for slices.Delete -/
structure DelLay (P : Program) (ρ : Ren) (sz : Nat) : Prop where
  mixed : P.follows .mixedOrders = true
  f45 : Bears P (ρ.f 45) (SlBodyN.n45 ρ)
  t0 : P.underlying (ρ.t 0) = some (TypeDesc.tuple #[])
  a0 : ∀ w, (isAgg (ρ.t 0)).run P w = .ok false w
  z0 : ∀ w, (Go.sizeOf (ρ.t 0)).run P w = .ok 1 w
  v0 : ∀ w, (zeroValue (ρ.t 0)).run P w = .ok (Value.tuple #[]) w
  t3 : P.underlying (ρ.t 3) = some (TypeDesc.int IntKind.i64)
  a3 : ∀ w, (isAgg (ρ.t 3)).run P w = .ok false w
  z3 : ∀ w, (Go.sizeOf (ρ.t 3)).run P w = .ok 1 w
  v3 : ∀ w, (zeroValue (ρ.t 3)).run P w = .ok (Value.int IntKind.i64 0) w
  t4 : P.underlying (ρ.t 4) = some (TypeDesc.bool)
  a4 : ∀ w, (isAgg (ρ.t 4)).run P w = .ok false w
  z4 : ∀ w, (Go.sizeOf (ρ.t 4)).run P w = .ok 1 w
  v4 : ∀ w, (zeroValue (ρ.t 4)).run P w = .ok (Value.bool false) w
  t22 : P.underlying (ρ.t 22) = some (TypeDesc.slice (ρ.t 23))
  a22 : ∀ w, (isAgg (ρ.t 22)).run P w = .ok false w
  z22 : ∀ w, (Go.sizeOf (ρ.t 22)).run P w = .ok 1 w
  v22 : ∀ w, (zeroValue (ρ.t 22)).run P w = .ok (Value.slice none 0 0) w
  z23 : ∀ w, (Go.sizeOf (ρ.t 23)).run P w = .ok sz w
theorem run_clear_many (w : World) {n : Nat} (t e ty : TypeId) (z : Value) (ht : P.underlying t = some (.slice e)) (hv : ∀ w, (zeroValue e).run P w = .ok z w) (h1 : ∀ u ∈ (Builtin.zeroCells z.cells n).toList, u.oneCell' = true) (b o c : Nat) (hn : 0 < n)
    (hc : ∀ j, j < (Builtin.zeroCells z.cells n).toList.length → (w.cell? ⟨b, o + j, none⟩).isSome = true) (hf : ∀ j, j < (Builtin.zeroCells z.cells n).toList.length → w.frozen? ⟨b, o + j, none⟩ = false) :
    (Builtin.clear_ #[t] ty #[.slice (some ⟨b, o, none⟩) n c]).run P w = .ok (.tuple #[]) (w.setCells b o (Builtin.zeroCells z.cells n).toList) := by
  have hst := run_storeCells_cells (P := P) b o (Builtin.zeroCells z.cells n).toList 0 w (by simpa using hc) (by simpa using hf) h1
  simp only [Nat.add_zero] at hst
  obtain ⟨m, rfl⟩ : ∃ m, n = m + 1 := ⟨n - 1, by omega⟩
  simp [Builtin.clear_, run_underlying ht, hv, hst]
set_option maxHeartbeats 4000000 in
set_option maxRecDepth 1000000 in
theorem delete_run {sz : Nat} (L : DelLay P ρ sz) (z : Value) (v23 : ∀ w, (zeroValue (ρ.t 23)).run P w = .ok z w) (hzc : z.cells.size = sz) (hz1 : ∀ u ∈ z.cells, u.oneCell' = true) (i0 : TypeInfo) (hi0 : P.info? (ρ.t 23) = some i0) (hs0 : i0.size = sz) (hp : 0 < sz)
    (g n cap i j : Nat) (ys : List Value) (w : World) (hy : ys.length = n * sz) (hc : ∀ k u, ys[k]? = some u → w.cell? ⟨g, k, none⟩ = some u) (hf : ∀ k, k < n * sz → w.frozen? ⟨g, k, none⟩ = false) (h1 : ∀ u ∈ ys, u.oneCell' = true)
    (hcap : n ≤ cap) (hm : cap ≤ 9223372036854775807) (hij : i < j) (hj : j ≤ n) :
    Calls P (ρ.f 45) #[.slice (some ⟨g, 0, none⟩) n cap, .int .i64 i, .int .i64 j] w fun e w' => e = .returned (.slice (some ⟨g, 0, none⟩) (n - (j - i)) cap) ∧ w' = (w.drew.setCells g (i * sz) (ys.drop (j * sz))).setCells g ((i + (n - j)) * sz) (Builtin.zeroCells z.cells (j - i)).toList := by
  have mixed := L.mixed; have t0 := L.t0; have a0 := L.a0; have z0 := L.z0; have v0 := L.v0; have t3 := L.t3; have a3 := L.a3; have z3 := L.z3; have v3 := L.v3; have t4 := L.t4; have a4 := L.a4; have z4 := L.z4; have v4 := L.v4; have t22 := L.t22; have a22 := L.a22; have z22 := L.z22; have v22 := L.v22; have z23 := L.z23
  obtain ⟨news, hnews⟩ : ∃ news, news = ys.drop (j * sz) := ⟨_, rfl⟩
  have hsub : (n - j) * sz = n * sz - j * sz := Nat.sub_mul n j sz
  have hjs : j * sz ≤ n * sz := Nat.mul_le_mul_right _ hj
  have hlen : news.length = (n - j) * sz := by rw [hnews, List.length_drop, hy, hsub]
  obtain ⟨A, hA, hsrc⟩ : ∃ A : Addr, (if cap = j then some (⟨g, 0, none⟩ : Addr) else some ⟨g, j * sz, none⟩) = some A ∧ Hid (∀ t u, news[t]? = some u → w.drew.cell? (A.add t) = some u) := by
    by_cases h : cap = j
    · refine ⟨⟨g, 0, none⟩, by simp [h], fun t u hu => ?_⟩
      have h0 : news.length = 0 := by rw [hlen, show n - j = 0 by omega, Nat.zero_mul]
      rw [List.length_eq_zero_iff.1 h0] at hu
      simp at hu
    · refine ⟨⟨g, j * sz, none⟩, by simp [h], fun t u hu => ?_⟩
      rw [hnews, List.getElem?_drop] at hu
      rw [Addr.add_lit]
      exact hc _ _ hu
  have s1 : Hid (news.length = (n - j) * sz) := hlen
  have s2 : Hid (∀ u ∈ news, u.oneCell' = true) := by
    intro u hu
    rw [hnews] at hu
    exact h1 u (List.mem_of_mem_drop hu)
  have hin : ∀ k, k < n * sz → (w.cell? ⟨g, k, none⟩).isSome = true := fun k hk => by rw [hc k _ (List.getElem?_eq_getElem (by omega : k < ys.length))]; rfl
  have hisz : i * sz + (n - j) * sz ≤ n * sz := by rw [← Nat.add_mul]; exact Nat.mul_le_mul_right _ (by omega)
  have s3 : Hid (∀ t, t < news.length → (w.drew.cell? ⟨g, 0 + i * sz + t, none⟩).isSome = true ∧ w.drew.frozen? ⟨g, 0 + i * sz + t, none⟩ = false) := by
    intro t ht
    rw [hlen] at ht
    rw [Nat.zero_add]
    exact ⟨hin _ (by omega), hf _ (by omega)⟩
  obtain ⟨W1, hW1⟩ : ∃ W1, W1 = w.drew.setCells g (0 + i * sz) news := ⟨_, rfl⟩
  have hzl : (Builtin.zeroCells z.cells (n - (i + (n - j)))).toList.length = (j - i) * sz := by
    rw [show n - (i + (n - j)) = j - i by omega]
    simp [Builtin.zeroCells, hzc]
  have hz1' : ∀ u ∈ (Builtin.zeroCells z.cells (n - (i + (n - j)))).toList, u.oneCell' = true := by
    intro u hu
    simp only [Builtin.zeroCells, Array.toList_map, List.mem_map] at hu
    obtain ⟨q, hq, rfl⟩ := hu
    have hlt : q % z.cells.size < z.cells.size := Nat.mod_lt _ (by omega)
    rw [getElem!_pos z.cells _ hlt]
    exact hz1 _ (Array.getElem_mem hlt)
  have hend : (i + (n - j)) * sz + (j - i) * sz = n * sz := by rw [← Nat.add_mul]; congr 1; omega
  have hcl : ∀ ty, (Builtin.clear_ #[ρ.t 22] ty #[.slice (some ⟨g, (i + (n - j)) * sz, none⟩) (n - (i + (n - j))) (cap - (i + (n - j)))]).run P W1 = .ok (.tuple #[]) (W1.setCells g ((i + (n - j)) * sz) (Builtin.zeroCells z.cells (n - (i + (n - j)))).toList) :=
    fun ty => run_clear_many W1 _ _ ty z t22 v23 hz1' g ((i + (n - j)) * sz) _ (by omega) (fun t ht => by
      rw [hzl] at ht
      rw [hW1, World.cell?_setCells_out _ _ _ _ _ (fun _ _ => .inr (by rw [hlen, Nat.zero_add, Nat.add_mul]; show _ ≤ (i * sz + (n - j) * sz) + t; omega))]
      exact hin _ (by omega)) (fun t ht => by
      rw [hzl] at ht
      rw [hW1, World.frozen?_setCells]
      exact hf _ (by omega))
  have hW : Hid (W1 = w.drew.setCells g (0 + i * sz) news) := hW1
  have hic : i ≤ cap := by omega
  have hjc : j ≤ cap := by omega
  have hR : (w.drew.setCells g (i * sz) (ys.drop (j * sz))).setCells g ((i + (n - j)) * sz) (Builtin.zeroCells z.cells (j - i)).toList = W1.setCells g ((i + (n - j)) * sz) (Builtin.zeroCells z.cells (n - (i + (n - j)))).toList := by
    rw [hW1, hnews, Nat.zero_add, show n - (i + (n - j)) = j - i by omega]
  rw [hR]
  obtain ⟨zs, hzs⟩ : ∃ zs, zs = (Builtin.zeroCells z.cells (n - (i + (n - j)))).toList := ⟨_, rfl⟩
  rw [← hzs] at hcl ⊢
  clear hW1 hR hnews hlen hin hz1' hzl hzs hz1 hzc v23
  obtain ⟨_, _, FG⟩ := L.f45
  go_enter FG, SlBodyN.n45_ntmps ρ
  go_wp2_with fail
  go_region_law_o (refine step_append_room rfl (.tmp 22) (.tmp 25) (ρ.t 22) rfl (ρ.t 23) i0 sz t22 hi0 hs0 g 0 i cap (by simp [Act.eval, Act.put]) A (n - j) (cap - j) news (by simp [Act.eval, Act.put]) s1.out hsrc.out s2.out (by omega) s3.out ?_; rw [← hW.out])
  go_wp2
  go_ret
  exact ⟨by rw [show n - (j - i) = i + (n - j) by omega]; rfl, rfl⟩

/-- cells of a block, overwritten from one on -/
def setArr (cur : Array Value) : Nat → List Value → Array Value
  | _, [] => cur
  | o, v :: r => setArr (cur.setIfInBounds o v) (o + 1) r
theorem setArr_size : ∀ (l : List Value) (cur : Array Value) (o : Nat), (setArr cur o l).size = cur.size
  | [], _, _ => rfl
  | v :: r, cur, o => by rw [setArr, setArr_size r]; simp
theorem setArr_get : ∀ (l : List Value) (cur : Array Value) (o k : Nat), o + l.length ≤ cur.size → (setArr cur o l)[k]? = if o ≤ k ∧ k < o + l.length then l[k - o]? else cur[k]?
  | [], cur, o, k, _ => by rw [setArr, if_neg (by simp)]
  | v :: r, cur, o, k, h => by
    simp only [List.length_cons] at h
    rw [setArr, setArr_get r _ _ _ (by simp; omega)]
    by_cases h1 : o + 1 ≤ k ∧ k < o + 1 + r.length
    · rw [if_pos h1, if_pos (by simp; omega), show k - o = (k - (o + 1)) + 1 by omega, List.getElem?_cons_succ]
    · rw [if_neg h1]
      by_cases h2 : k = o
      · subst h2
        rw [if_pos (by simp), Nat.sub_self, List.getElem?_cons_zero, Array.getElem?_setIfInBounds_self_of_lt (by omega)]
      · rw [if_neg (by simp; omega), Array.getElem?_setIfInBounds_ne (by omega)]
theorem setCells_heap (g : Nat) : ∀ (l : List Value) (o : Nat) (w : World) (cur : Array Value) (e : TypeId), w.heap[g]? = some (.cells cur e (0, 0)) →
    (w.setCells g o l).heap[g]? = some (.cells (setArr cur o l) e (0, 0)) ∧ (∀ b, b ≠ g → (w.setCells g o l).heap[b]? = w.heap[b]?) ∧ (w.setCells g o l).heap.size = w.heap.size ∧ (w.setCells g o l).os = w.os ∧ (w.setCells g o l).tape = w.tape ∧ (w.setCells g o l).output = w.output
  | [], o, w, cur, e, h => ⟨h, fun _ _ => rfl, rfl, rfl, rfl, rfl⟩
  | v :: r, o, w, cur, e, h => by
    have h1 : (w.setCell ⟨g, o, none⟩ v).heap[g]? = some (.cells (cur.setIfInBounds o v) e (0, 0)) := by
      simp only [World.setCell]
      rw [Array.getElem?_modify, if_pos rfl, h]
      rfl
    obtain ⟨a1, a2, a3, a4, a5, a6⟩ := setCells_heap g r (o + 1) (w.setCell ⟨g, o, none⟩ v) _ e h1
    rw [World.setCells, setArr]
    refine ⟨a1, fun b hb => (a2 b hb).trans (heap_setCell_other w _ b v hb), a3.trans (by simp [World.setCell]), a4, a5, a6⟩
theorem setCells_drawn (g : Nat) : ∀ (l : List Value) (o : Nat) (w : World), (w.setCells g o l).drawn = w.drawn
  | [], _, _ => rfl
  | v :: r, o, w => by rw [World.setCells, setCells_drawn g r]; rfl
theorem delete_okG {sz : Nat} (L : DelLay P ρ sz) (z : Value) (v23 : ∀ w, (zeroValue (ρ.t 23)).run P w = .ok z w) (hzc : z.cells.size = sz) (hz1 : ∀ u ∈ z.cells, u.oneCell' = true) (i0 : TypeInfo) (hi0 : P.info? (ρ.t 23) = some i0) (hs0 : i0.size = sz)
    {xs : List PV} {i j : Nat} (hij : i < j) (hj : j ≤ xs.length) : Ok P (ρ.f 45) [.own 1 0, .int .i64 (i : Int), .int .i64 (j : Int)] [] [(ρ.t 23, sz, xs)] (.own 2 0) [] [(ρ.t 23, sz, xs.take i ++ xs.drop j)] := by
  intro w X J vals hb hl hr
  have hobj := hb.obj 1 0 (.arr (ρ.t 23) sz false xs) rfl
  obtain ⟨v, ys, hJ, hown, hp, hwd, ho, hrep⟩ := hobj
  match vals, hl with
  | [v0, v1, v2], _ =>
  have r0 := hr 0 _ _ rfl rfl
  have r1 := hr 1 _ _ rfl rfl
  have r2 := hr 2 _ _ rfl rfl
  obtain ⟨hylen, hcase⟩ := hown
  rcases hcase with ⟨_, hn0⟩ | ⟨g, cap, cur, hv, _, hg, hcap, hmax, hcs, htake⟩
  · omega
  have hv0 : v0 = .slice (some ⟨g, 0, none⟩) xs.length cap := by
    cases r0 with
    | own _ _ _ A len c h => rw [hJ] at h; injection h with h; rw [← h, hv]
    | own0 _ _ _ a h => rw [hJ] at h; injection h with h; rw [hv] at h; cases h
  have hv1 : v1 = .int .i64 (i : Int) := by cases r1; rfl
  have hv2 : v2 = .int .i64 (j : Int) := by cases r2; rfl
  subst hv0 hv1 hv2
  have hglt : g < w.heap.size := (Array.getElem?_eq_some_iff.1 hg).1
  have hcell : ∀ k, w.cell? ⟨g, k, none⟩ = cur[k]? := fun k => by rw [cell_of_row w g _ cur (ρ.t 23) (0, 0) hg]
  have hycur : ∀ k u, ys[k]? = some u → cur[k]? = some u := fun k u h => by
    rw [← htake, List.getElem?_take] at h
    split at h
    · rwa [Array.getElem?_toList] at h
    · cases h
  have hfl : (flat xs).length = xs.length * sz := flat_length hwd
  have hone : ∀ u ∈ ys, u.oneCell' = true := fun u hu => by
    obtain ⟨k, hk⟩ := List.getElem?_of_mem hu
    have hlt : k < (flat xs).length := by rw [hfl, ← hylen]; exact (List.getElem?_eq_some_iff.1 hk).1
    have h1 := hrep k _ _ (List.getElem?_eq_getElem hlt) hk
    exact h1.oneCell (ho _ (List.getElem_mem hlt))
  have hfrz : ∀ k, k < xs.length * sz → w.frozen? ⟨g, k, none⟩ = false := fun k _ => by
    have h0 : w.ownsRow 0 (ρ.t 23) sz (.slice (some ⟨g, 0, none⟩) xs.length cap) xs.length ys := ⟨hylen, .inr ⟨g, cap, cur, rfl, Nat.zero_le _, hg, hcap, hmax, hcs, htake⟩⟩
    exact h0.frozenAt k
  have hmax' : cap ≤ 9223372036854775807 := hmax
  refine (delete_run L z v23 hzc hz1 i0 hi0 hs0 hp g xs.length cap i j ys w hylen (fun k u h => by rw [hcell]; exact hycur k u h) hfrz hone hcap hmax' hij hj).mono ?_
  rintro e w' ⟨he, hw'⟩
  have hjs : j * sz ≤ xs.length * sz := Nat.mul_le_mul_right _ hj
  have hsub : (xs.length - j) * sz = xs.length * sz - j * sz := Nat.sub_mul xs.length j sz
  have hnlen : (ys.drop (j * sz)).length = (xs.length - j) * sz := by rw [List.length_drop, hylen, hsub]
  have his : i * sz + (xs.length - j) * sz ≤ xs.length * sz := by rw [← Nat.add_mul]; exact Nat.mul_le_mul_right _ (by omega)
  have hcs2 : xs.length * sz ≤ cur.size := by rw [hcs]; exact Nat.mul_le_mul_right _ hcap
  have hg' : w.drew.heap[g]? = some (.cells cur (ρ.t 23) (0, 0)) := hg
  obtain ⟨a1, a2, a3, a4, a5, a6⟩ := setCells_heap g (ys.drop (j * sz)) (i * sz) w.drew cur (ρ.t 23) hg'
  obtain ⟨b1, b2, b3, b4, b5, b6⟩ := setCells_heap g (Builtin.zeroCells z.cells (j - i)).toList ((i + (xs.length - j)) * sz) _ _ (ρ.t 23) a1
  rw [← hw'] at b1 b2 b3 b4 b5 b6
  have hheap : ∀ b, b ≠ g → w'.heap[b]? = w.heap[b]? := fun b hbg => (b2 b hbg).trans (a2 b hbg)
  have hsize : w'.heap.size = w.heap.size := b3.trans a3
  have hxl : (xs.take i ++ xs.drop j).length = i + (xs.length - j) := by rw [List.length_append, List.length_take, List.length_drop]; omega
  have hn' : xs.length - (j - i) = i + (xs.length - j) := by omega
  -- the cells that are left
  have hleft : (setArr (setArr cur (i * sz) (ys.drop (j * sz))) ((i + (xs.length - j)) * sz) (Builtin.zeroCells z.cells (j - i)).toList).toList.take ((i + (xs.length - j)) * sz) = ys.take (i * sz) ++ ys.drop (j * sz) := by
    have hzl : (Builtin.zeroCells z.cells (j - i)).toList.length = (j - i) * sz := by simp [Builtin.zeroCells, hzc]
    have hend : (i + (xs.length - j)) * sz + (j - i) * sz = xs.length * sz := by rw [← Nat.add_mul]; congr 1; omega
    have hsum : (i + (xs.length - j)) * sz = i * sz + (xs.length - j) * sz := Nat.add_mul _ _ _
    apply List.ext_getElem?
    intro k
    rw [List.getElem?_take, Array.getElem?_toList]
    by_cases hk : k < (i + (xs.length - j)) * sz
    · rw [if_pos hk, setArr_get _ _ _ _ (by rw [setArr_size, hzl]; omega), if_neg (by omega), setArr_get _ _ _ _ (by rw [hnlen]; omega), hnlen]
      by_cases hk2 : i * sz ≤ k
      · rw [if_pos ⟨hk2, by omega⟩, List.getElem?_append_right (by rw [List.length_take]; omega), List.length_take, Nat.min_eq_left (by omega)]
      · rw [if_neg (by omega), List.getElem?_append_left (by rw [List.length_take]; omega), List.getElem?_take, if_pos (by omega)]
        have hky : k < ys.length := by omega
        rw [List.getElem?_eq_getElem hky]
        exact hycur k _ (List.getElem?_eq_getElem hky)
    · rw [if_neg hk, List.getElem?_eq_none (by rw [List.length_append, List.length_take, hnlen]; omega)]
  have hown' : w'.ownsRow 0 (ρ.t 23) sz (.slice (some ⟨g, 0, none⟩) (i + (xs.length - j)) cap) (i + (xs.length - j)) (ys.take (i * sz) ++ ys.drop (j * sz)) := by
    refine ⟨by rw [List.length_append, List.length_take, hnlen, Nat.add_mul]; omega, .inr ⟨g, cap, _, rfl, Nat.zero_le _, b1, by omega, hmax, by rw [setArr_size, setArr_size, hcs], hleft⟩⟩
  let J' : Site := fun d n => if d = 2 ∧ n = 0 then some (.slice (some ⟨g, 0, none⟩) (i + (xs.length - j)) cap) else none
  have hJ' : ∀ d n u, J' d n = some u → d = 2 ∧ n = 0 ∧ u = .slice (some ⟨g, 0, none⟩) (i + (xs.length - j)) cap := fun d n u h => by
    simp only [J'] at h
    split at h
    · rename_i hc; injection h with h; exact ⟨hc.1, hc.2, h.symm⟩
    · cases h
  have hgm : OMut (bst [] [(ρ.t 23, sz, xs)] 1 X) J g := ⟨1, 0, .arr (ρ.t 23) sz false xs, v, rfl, rfl, hJ, by rw [hv]; rfl⟩
  have hOM : ∀ b, OMut (bst [] [(ρ.t 23, sz, xs.take i ++ xs.drop j)] 2 X) J' b → OMut (bst [] [(ρ.t 23, sz, xs)] 1 X) J b := by
    rintro b ⟨d, n, o, u, _, _, h3, h4⟩
    obtain ⟨_, _, rfl⟩ := hJ' d n u h3
    simp only [blockOf, Option.some.injEq] at h4
    exact h4 ▸ hgm
  have hflat : flat (xs.take i ++ xs.drop j) = (flat xs).take (i * sz) ++ (flat xs).drop (j * sz) := by rw [flat_append, flat_take hwd, flat_drop hwd]
  refine ⟨.slice (some ⟨g, 0, none⟩) (i + (xs.length - j)) cap, J', by rw [he, hn'], ⟨fun d n o h => ?_, fun d n d' n' o o' u u' b h1 h2 h3 h4 h5 h6 => ?_, fun d n h => ?_, fun d n o u b h1 h2 h3 => ?_, fun b hx => by rw [hsize]; exact hb.xlt b hx⟩, fun n hn => absurd hn (Nat.not_lt_zero _), .own _ _ _ _ _ _ (by simp [J']), ⟨fun b hlt hm => ?_, fun b hm _ => hOM b hm, by rw [hsize]; exact Nat.le_refl _, b4.trans a4, b5.trans a5, b6.trans a6, by rw [hw', setCells_drawn, setCells_drawn]; exact Nat.le_succ _⟩⟩
  · rcases bst_heap (by decide) h with ⟨_, cs, h5, _⟩ | ⟨rfl, q, h5, rfl⟩
    · simp at h5
    · have hn0 : n = 0 := by
        have := (List.getElem?_eq_some_iff.1 h5).1
        simp at this; exact this
      subst hn0
      simp only [List.getElem?_cons_zero, Option.some.injEq] at h5
      subst h5
      refine ⟨.slice (some ⟨g, 0, none⟩) (i + (xs.length - j)) cap, ys.take (i * sz) ++ ys.drop (j * sz), by simp [J'], by rw [hxl]; exact hown', hp, fun x hx => ?_, fun c hc => ?_, fun k c y hc hy => ?_⟩
      · rcases List.mem_append.1 hx with hx | hx
        · exact hwd x (List.mem_of_mem_take hx)
        · exact hwd x (List.mem_of_mem_drop hx)
      · rw [hflat] at hc
        rcases List.mem_append.1 hc with hc | hc
        · exact ho c (List.mem_of_mem_take hc)
        · exact ho c (List.mem_of_mem_drop hc)
      · rw [hflat] at hc
        have hold : ∃ k' : Nat, (flat xs)[k']? = some c ∧ ys[k']? = some y := by
          have ht1 : ((flat xs).take (i * sz)).length = i * sz := by rw [List.length_take, hfl]; omega
          have ht2 : (ys.take (i * sz)).length = i * sz := by rw [List.length_take, hylen]; omega
          by_cases hk : k < i * sz
          · rw [List.getElem?_append_left (by omega), List.getElem?_take, if_pos hk] at hc
            rw [List.getElem?_append_left (by omega), List.getElem?_take, if_pos hk] at hy
            exact ⟨k, hc, hy⟩
          · rw [List.getElem?_append_right (by omega), ht1, List.getElem?_drop] at hc
            rw [List.getElem?_append_right (by omega), ht2, List.getElem?_drop] at hy
            exact ⟨_, hc, hy⟩
        obtain ⟨k', h6, h7⟩ := hold
        refine (hrep k' c y h6 h7).mono (fun b hlt hm => hheap b fun e => hm (.inr (e ▸ hgm))) (fun b hlt hm => ?_) fun _ _ _ h => h
        rcases hm with hm | hm
        · exact .inl hm
        · exact .inr (hOM b hm)
  · obtain ⟨e1, e2, _⟩ := hJ' d n u h3
    obtain ⟨e3, e4, _⟩ := hJ' d' n' u' h4
    exact ⟨e1.trans e3.symm, e2.trans e4.symm⟩
  · simp only [J']
    rw [if_neg]
    rintro ⟨rfl, rfl⟩
    simp [bst] at h
  · obtain ⟨_, _, rfl⟩ := hJ' d n u h2
    simp only [blockOf, Option.some.injEq] at h3
    subst h3
    exact hb.sepX 1 0 _ v g rfl hJ (by rw [hv]; rfl)
  · exact hheap b fun e => hm (e ▸ hgm)
/-- a type as it's laid, in one question -/
def tyD (P : Program) (t : TypeId) (d : TypeDesc) (n : Nat) (z : Value) : Prop := P.underlying t = some d ∧ (P.info? t).map (fun i => (i.size, i.zero)) = some (n, some z)
theorem tyD.size {t d n z} (h : tyD P t d n z) (w : World) : (Go.sizeOf t).run P w = .ok n w := by
  obtain ⟨i, h1, h2⟩ := Option.map_eq_some_iff.1 h.2
  injection h2 with h2 h3
  simp [Go.sizeOf, typeInfo, h1, h2]
theorem tyD.zero {t d n z} (h : tyD P t d n z) (w : World) : (zeroValue t).run P w = .ok z w := by
  obtain ⟨i, h1, h2⟩ := Option.map_eq_some_iff.1 h.2
  injection h2 with h2 h3
  simp [zeroValue, typeInfo, h1, h3]
/-- an element's type: so many cells, each of one -/
def tyZ (P : Program) (t : TypeId) (n : Nat) : Bool := match P.info? t with
  | some i => match i.zero with
    | some z => i.size == n && z.cells.size == n && z.cells.all (fun u => u.oneCell')
    | none => false
  | none => false
theorem delete_okT {f sl el tu ti tb sz : Nat} (hm : P.follows .mixedOrders = true) (hf : Bears P f (SlBodyN.n45 ⟨fun _ => f, fun n => if n = 0 then tu else if n = 3 then ti else if n = 4 then tb else if n = 22 then sl else el, id⟩))
    (h0 : tyD P tu (.tuple #[]) 1 (.tuple #[])) (h3 : tyD P ti (.int .i64) 1 (.int .i64 0)) (h4 : tyD P tb .bool 1 (.bool false)) (h22 : tyD P sl (.slice el) 1 (.slice none 0 0)) (h23 : tyZ P el sz = true)
    {α : Type} (enc : α → PV) (l : List α) (i j : Int) {r : List α} (h : gd (0 ≤ i) (gd (i < j) (gd (j ≤ (l.length : Int)) (some (l.take i.toNat ++ l.drop j.toNat)))) = some r) :
    Ok P f [.own 1 0, .int .i64 i, .int .i64 j] [] [(el, sz, List.map enc l)] (.own 2 0) [] [(el, sz, List.map enc r)] := by
  obtain ⟨g1, h⟩ := gd_some h
  obtain ⟨g2, h⟩ := gd_some h
  obtain ⟨g3, h⟩ := gd_some h
  injection h with h
  subst h
  obtain ⟨a, rfl⟩ := Int.eq_ofNat_of_zero_le g1
  obtain ⟨b, rfl⟩ := Int.eq_ofNat_of_zero_le (show 0 ≤ j by omega)
  unfold tyZ at h23
  cases hi0 : P.info? el with
  | none => rw [hi0] at h23; cases h23
  | some i0 =>
    cases hz : i0.zero with
    | none => rw [hi0] at h23; dsimp only at h23; rw [hz] at h23; cases h23
    | some z =>
      rw [hi0] at h23; dsimp only at h23; rw [hz] at h23
      simp only [Bool.and_eq_true, beq_iff_eq] at h23
      obtain ⟨⟨q1, q2⟩, q3⟩ := h23
      have L : DelLay P ⟨fun _ => f, fun n => if n = 0 then tu else if n = 3 then ti else if n = 4 then tb else if n = 22 then sl else el, id⟩ sz :=
        { mixed := hm, f45 := hf, t0 := h0.1, a0 := fun w => run_isAgg_plain h0.1 rfl w, z0 := h0.size, v0 := h0.zero, t3 := h3.1, a3 := fun w => run_isAgg_plain h3.1 rfl w, z3 := h3.size, v3 := h3.zero,
          t4 := h4.1, a4 := fun w => run_isAgg_plain h4.1 rfl w, z4 := h4.size, v4 := h4.zero, t22 := h22.1, a22 := fun w => run_isAgg_plain h22.1 rfl w, z22 := h22.size, v22 := h22.zero,
          z23 := fun w => by
            show (Go.sizeOf el).run P w = _
            simp [Go.sizeOf, typeInfo, hi0, q1] }
      have h := delete_okG L z (fun w => by
          show (zeroValue el).run P w = _
          simp [zeroValue, typeInfo, hi0, hz]) q2 (by rw [Array.all_eq_true] at q3; intro u hu; obtain ⟨k, hk, rfl⟩ := Array.mem_iff_getElem.1 hu; exact q3 k hk) i0 hi0 q1 (xs := List.map enc l) (i := a) (j := b) (by omega) (by rw [List.length_map]; omega)
      rw [← List.map_take, ← List.map_drop, ← List.map_append] at h
      exact h
end Go.Proofs.Ytejimiedoibkcaa.Ab
