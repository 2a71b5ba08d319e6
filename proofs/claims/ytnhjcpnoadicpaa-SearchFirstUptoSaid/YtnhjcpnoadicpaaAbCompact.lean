/- slices.Compact at structures: what it does with a row of ours. -/
import Derived.Test.YtnhjcpnoadicpaaAbSort
import Derived.Test.YtnhjcpnoadicpaaAbDel
import Derived.Lib.SlicesCompact
namespace Go.Proofs.Ytnhjcpnoadicpaa.Ab
open Go Go.RowKit Go.Shelf Go.Lib Go.Proofs
set_option linter.unusedVariables false
set_option linter.unusedSimpArgs false
variable {P : Program} {ρ : Ren} {α : Type} [Inhabited α] [DecidableEq α]
structure CompLay (P : Program) (ρ : Ren) (sz : Nat) : Prop where
  mixed : P.follows .mixedOrders = true
  f43 : Bears P (ρ.f 43) (SlBodyN.n43 ρ)
  t0 : P.underlying (ρ.t 0) = some (TypeDesc.tuple #[])
  a0 : ∀ w, (isAgg (ρ.t 0)).run P w = .ok false w
  z0 : ∀ w, (Go.sizeOf (ρ.t 0)).run P w = .ok 1 w
  v0 : ∀ w, (zeroValue (ρ.t 0)).run P w = .ok (Value.tuple #[]) w
  t3 : P.underlying (ρ.t 3) = some (TypeDesc.int IntKind.i64)
  a3 : ∀ w, (isAgg (ρ.t 3)).run P w = .ok false w
  z3 : ∀ w, (Go.sizeOf (ρ.t 3)).run P w = .ok 1 w
  v3 : ∀ w, (zeroValue (ρ.t 3)).run P w = .ok (Value.int IntKind.i64 0) w
  t4 : P.underlying (ρ.t 4) = some (TypeDesc.bool)
  a4 : ∀ w, (isAgg (ρ.t 4)).run P w = .ok false w
  z4 : ∀ w, (Go.sizeOf (ρ.t 4)).run P w = .ok 1 w
  v4 : ∀ w, (zeroValue (ρ.t 4)).run P w = .ok (Value.bool false) w
  t22 : P.underlying (ρ.t 22) = some (TypeDesc.slice (ρ.t 23))
  a22 : ∀ w, (isAgg (ρ.t 22)).run P w = .ok false w
  z22 : ∀ w, (Go.sizeOf (ρ.t 22)).run P w = .ok 1 w
  v22 : ∀ w, (zeroValue (ρ.t 22)).run P w = .ok (Value.slice none 0 0) w
  a23 : ∀ w, (isAgg (ρ.t 23)).run P w = .ok true w
  z23 : ∀ w, (Go.sizeOf (ρ.t 23)).run P w = .ok sz w
omit [DecidableEq α] in
theorem setMany_elem {enc : α → List Value} {sz : Nat} (hk : ∀ x, (enc x).length = sz) (d : Array α) (i : Nat) (hi : i < d.size) (u : α) : Sort.setMany (Sort.flatK enc sz d) (i * sz) (enc u) = Sort.flatK enc sz (d.setIfInBounds i u) := by
  have hb : i * sz + sz ≤ d.size * sz := by rw [← Nat.succ_mul]; exact Nat.mul_le_mul_right _ hi
  apply Array.ext
  · simp
  · intro t h1 h2
    have ht : t < d.size * sz := by simpa using h1
    have hsp : 0 < sz := Nat.pos_of_ne_zero fun e => by subst e; simp at ht
    rw [← getElem!_pos _ t h1, ← getElem!_pos _ t h2, Sort.get_setMany _ _ _ t (by simpa using ht), Sort.get_flatK _ _ _ t ht, Sort.get_flatK _ _ _ t (by simpa using ht), hk]
    have hdm := Nat.div_add_mod' t sz
    have hml := Nat.mod_lt t hsp
    by_cases e : t / sz = i
    · rw [if_pos (by rw [← e]; omega), show (d.setIfInBounds i u)[t / sz]! = u from by rw [e]; exact Sort.getElem!_set_same d i u hi]
      congr 1
      rw [← e]; omega
    · rw [if_neg, Sort.getElem!_set_other d i (t / sz) u (Ne.symm (Ne.symm e))]
      rintro ⟨a, b⟩
      exact e (Nat.div_eq_of_lt_le (by rw [Nat.mul_comm] at a ⊢; exact a) (by rw [Nat.succ_mul]; exact b))
omit [DecidableEq α] in
theorem store_worldK {enc : α → List Value} {sz : Nat} (hk : ∀ x, (enc x).length = sz) {w wr : World} {n blk off : Nat} {dk : Array α} {i : Nat} (hi : i < dk.size) (hwr : wr = Sort.putRowK enc sz (Sort.ahead w n) blk off dk) (u : α) :
    wr.drew.setCells blk (off + i * sz) (enc u) = Sort.putRowK enc sz (Sort.ahead w (n + 1)) blk off (dk.setIfInBounds i u) := by
  subst hwr
  have hb : i * sz + (enc u).length ≤ (Sort.flatK enc sz dk).size := by rw [hk, Sort.size_flatK, ← Nat.succ_mul]; exact Nat.mul_le_mul_right _ hi
  show (Sort.putRow id (Sort.ahead w (n + 1)) blk off (Sort.flatK enc sz dk)).setCells blk (off + i * sz) (enc u) = _
  rw [Sort.setCells_putRow _ _ _ _ _ _ hb, setMany_elem hk dk i hi u]
  rfl
set_option maxHeartbeats 4000000 in
set_option maxRecDepth 1000000 in
theorem compact_run {sz : Nat} (L : CompLay P ρ sz) (enc : α → List Value) (hk : ∀ x, (enc x).length = sz) (h1 : ∀ x, ∀ v ∈ enc x, v.oneCell' = true)
    (heq : ∀ (x y : α) (w : World), Sem.run P (binOp .eql (ρ.t 23) (.agg (enc x).toArray) (.agg (enc y).toArray)) w = .ok (.bool (decide (x = y))) w) (hne : ∀ (x y : α) (w : World), Sem.run P (binOp .neq (ρ.t 23) (.agg (enc x).toArray) (.agg (enc y).toArray)) w = .ok (.bool (!decide (x = y))) w)
    (hgd : ∀ (op : BinOp) (a b : Operand) (x y : α) (w : World), Sem.run P (eqGuard op (ρ.t 23) a b (.agg (enc x).toArray) (.agg (enc y).toArray)) w = .ok () w)
    (z : Value) (v23 : ∀ w, (zeroValue (ρ.t 23)).run P w = .ok z w) (hzc : z.cells.size = sz) (hz1 : ∀ u ∈ z.cells, u.oneCell' = true)
    (blk off cap : Nat) (d : Array α) (w : World) (hH : Sort.HoldsK enc sz w blk off d) (hblk : blk < w.heap.size) (hcap : d.size ≤ cap) (hm : cap ≤ 9223372036854775807) :
    Calls P (ρ.f 43) #[.slice (some ⟨blk, off, none⟩) d.size cap] w fun e w' => e = .returned (.slice (some ⟨blk, off, none⟩) (compactUpTo d d.size).length cap) ∧
      ∃ (q : Nat) (dk : Array α) (zs : List Value), w' = (Sort.putRowK enc sz (Sort.ahead w q) blk off dk).setCells blk (off + (compactUpTo d d.size).length * sz) zs ∧ dk.size = d.size ∧ zs.length = (d.size - (compactUpTo d d.size).length) * sz ∧ (compactUpTo d d.size).length ≤ d.size ∧ ∀ j, j < (compactUpTo d d.size).length → (compactUpTo d d.size)[j]? = some dk[j]! := by
  have mixed := L.mixed; have t0 := L.t0; have a0 := L.a0; have z0 := L.z0; have v0 := L.v0; have t3 := L.t3; have a3 := L.a3; have z3 := L.z3; have v3 := L.v3; have t4 := L.t4; have a4 := L.a4; have z4 := L.z4; have v4 := L.v4; have t22 := L.t22; have a22 := L.a22; have z22 := L.z22; have v22 := L.v22; have a23 := L.a23; have z23 := L.z23
  have same : ∀ q, (∀ j, j < d.size → keeps d j = true) → (compactUpTo d d.size).length = d.size ∧ ∃ (dk : Array α) (zs : List Value), w.drewN q = (Sort.putRowK enc sz (Sort.ahead w q) blk off dk).setCells blk (off + (compactUpTo d d.size).length * sz) zs ∧ dk.size = d.size ∧ zs.length = (d.size - (compactUpTo d d.size).length) * sz ∧ (compactUpTo d d.size).length ≤ d.size ∧ ∀ j, j < (compactUpTo d d.size).length → (compactUpTo d d.size)[j]? = some dk[j]! := by
    intro q hall
    have e : compactUpTo d d.size = d.toList := by rw [compactUpTo_all d _ hall, range_map_get]
    rw [e]
    refine ⟨by simp, d, [], ?_, rfl, by simp, by simp, fun j hj => ?_⟩
    · exact (Sort.putRowK_self enc sz (Sort.ahead w q) blk off d (Sort.holdsK_ahead enc sz w q blk off d hH)).symm
    · have hj' : j < d.size := by simpa using hj
      rw [Array.getElem?_toList, Array.getElem?_eq_getElem hj', getElem!_pos d j hj']
  have HS : Aside (∀ q, (∀ j, j < d.size → keeps d j = true) → (compactUpTo d d.size).length = d.size ∧ ∃ (dk : Array α) (zs : List Value), w.drewN q = (Sort.putRowK enc sz (Sort.ahead w q) blk off dk).setCells blk (off + (compactUpTo d d.size).length * sz) zs ∧ dk.size = d.size ∧ zs.length = (d.size - (compactUpTo d d.size).length) * sz ∧ (compactUpTo d d.size).length ≤ d.size ∧ ∀ j, j < (compactUpTo d d.size).length → (compactUpTo d d.size)[j]? = some dk[j]!) := same
  have HK : Hid (∀ x, (enc x).length = sz) := hk
  have H1 : Hid (∀ x, ∀ v ∈ enc x, v.oneCell' = true) := h1
  have HH : Aside (Sort.HoldsK enc sz w blk off d) := hH
  clear same hk h1 hH
  by_cases h2 : d.size < 2
  · obtain ⟨_, _, FG⟩ := L.f43
    go_enter FG, SlBodyN.n43_ntmps ρ
    go_wp2
    go_ret
    obtain ⟨e1, e2⟩ := HS.out 0 (fun j hj => keeps_lt_one d j (by omega))
    exact ⟨by rw [e1]; rfl, 0, e2⟩
  · obtain ⟨_, _, FG⟩ := L.f43
    go_enter FG, SlBodyN.n43_ntmps ρ
    go_wp2
    go_loopg [3] d.size (fun g s3 wr => ∃ k q : Nat, 1 ≤ k ∧ k ≤ d.size ∧ d.size - k ≤ g ∧ s3 = .int .i64 k ∧ wr = w.drewN q ∧ ∀ j, j < k → keeps d j = true)
    case atStart => exact ⟨1, 0, Nat.le_refl _, by omega, by omega, rfl, rfl, keeps_lt_one d⟩
    case round =>
      obtain ⟨k, q, hk1, hk, hg, rfl, rfl, hall⟩ := hrel
      by_cases hlt : k < d.size
      · have A : Aside (∀ j, j < k → keeps d j = true) := hall
        clear hall
        obtain ⟨kp, rfl⟩ : ∃ kp, k = kp + 1 := ⟨k - 1, by omega⟩
        have l1 : Sem.run P (loadCellsFrom ⟨blk, off + (kp + 1) * sz, none⟩ 0 sz #[]) (w.drewN (q + 1)) = .ok (enc d[kp + 1]!).toArray (w.drewN (q + 1)) :=
          run_loadCellsFrom_list P _ _ _ sz (HK.out _) (HoldsK.cells (W := w.drewN (q + 1)) (by exact HH.out) HK.out hlt)
        have l0 : Sem.run P (loadCellsFrom ⟨blk, off + kp * sz, none⟩ 0 sz #[]) (w.drewN (q + 1)) = .ok (enc d[kp]!).toArray (w.drewN (q + 1)) :=
          run_loadCellsFrom_list P _ _ _ sz (HK.out _) (HoldsK.cells (W := w.drewN (q + 1)) (by exact HH.out) HK.out (by omega))
        have hwp : IntKind.i64.wrap (kp : Int) = (kp : Int) := by rw [IntKind.wrap_i64]; omega
        have p1 : (kp : Int) + 1 < (d.size : Int) := by omega
        have p2 : (kp : Int) < (d.size : Int) := by omega
        have p0 : (0 : Int) ≤ (kp : Int) + 1 := by omega
        have e0 : ((kp : Int) + 1).toNat = kp + 1 := by omega
        generalize hx : d[kp + 1]! = x at l1
        generalize hy : d[kp]! = y at l0
        have B : Aside (d[kp + 1]! = x ∧ d[kp]! = y) := ⟨hx, hy⟩
        clear hx hy
        by_cases hdup : x = y
        · subst hdup
          go_wp2_with fail
          go_region_o
          clear l0 l1
          go_wp2
          go_loopg [3, 5] d.size (fun g s3 s5 wr => ∃ (kk k2 q2 : Nat) (dk : Array α), s3 = .int .i64 kk ∧ s5 = .int .i64 k2 ∧ 1 ≤ k2 ∧ kp + 1 + k2 ≤ d.size ∧ d.size - (kp + 1 + k2) ≤ g ∧ wr = Sort.putRowK enc sz (Sort.ahead w q2) blk off dk ∧ CompInv d (kp + 1 + k2) kk dk)
          case atStart => exact ⟨kp + 1, 1, q + 1, d, rfl, rfl, Nat.le_refl _, by omega, by omega, (Sort.putRowK_self enc sz (Sort.ahead w (q + 1)) blk off d (by exact HH.out)).symm, CompInv.start A.out (keeps_neg (by omega) (by rw [Nat.add_sub_cancel, B.out.1, B.out.2]))⟩
          case round =>
            obtain ⟨kk, k2, q2, dk, rfl, rfl, h1, hle, hg2, hwr, hI⟩ := hrel
            have hkk := hI.lt
            have hds := hI.size
            have hHk : Sort.HoldsK enc sz wr blk off dk := by rw [hwr]; exact Sort.holdsK_putRowK enc sz _ blk off d dk (by exact HH.out) hds
            have W2 : Aside (wr = Sort.putRowK enc sz (Sort.ahead w q2) blk off dk) := hwr
            have I2 : Aside (CompInv d (kp + 1 + k2) kk dk) := hI
            clear hwr
            by_cases hlt2 : kp + 1 + k2 < d.size
            · obtain ⟨kq, rfl⟩ : ∃ kq, k2 = kq + 1 := ⟨k2 - 1, by omega⟩
              have lm : Sem.run P (loadCellsFrom ⟨blk, off + (kp + 1) * sz + (kq + 1) * sz, none⟩ 0 sz #[]) wr.drew = .ok (enc d[kp + 1 + (kq + 1)]!).toArray wr.drew := by
                have := run_loadCellsFrom_list P _ _ _ sz (HK.out _) (HoldsK.cells (W := wr.drew) (i := kp + 1 + (kq + 1)) (by exact hHk) HK.out (by omega))
                rw [Nat.add_mul, ← Nat.add_assoc, hI.high (kp + 1 + (kq + 1)) (by omega)] at this
                exact this
              have lp : Sem.run P (loadCellsFrom ⟨blk, off + (kp + 1) * sz + kq * sz, none⟩ 0 sz #[]) wr.drew = .ok (enc d[kp + 1 + kq]!).toArray wr.drew := by
                have := run_loadCellsFrom_list P _ _ _ sz (HK.out _) (HoldsK.cells (W := wr.drew) (i := kp + 1 + kq) (by exact hHk) HK.out (by omega))
                rw [Nat.add_mul, ← Nat.add_assoc, hI.high (kp + 1 + kq) (by omega)] at this
                exact this
              have hst : ∀ u : α, Sem.run P (storeCells ⟨blk, off + kk * sz, none⟩ (enc u) 0) wr.drew = .ok () (wr.drew.setCells blk (off + kk * sz) (enc u)) := fun u =>
                stores_of_holds P (W := wr.drew) (by exact hHk) (kk * sz) (enc u) (by rw [HK.out, Sort.size_flatK, ← Nat.succ_mul]; exact Nat.mul_le_mul_right _ (by omega)) (H1.out u)
              clear hHk hI
              generalize hu : d[kp + 1 + (kq + 1)]! = u at lm
              generalize hv : d[kp + 1 + kq]! = v at lp
              replace hst := hst u
              have C : Aside (d[kp + 1 + (kq + 1)]! = u ∧ d[kp + 1 + kq]! = v) := ⟨hu, hv⟩
              clear hu hv
              have hwq : IntKind.i64.wrap (kq : Int) = (kq : Int) := by rw [IntKind.wrap_i64]; omega
              have r1 : (kq : Int) + 1 < ((d.size - (kp + 1) : Nat) : Int) := by omega
              have r2 : (kq : Int) < ((d.size - (kp + 1) : Nat) : Int) := by omega
              have r0 : (0 : Int) ≤ (kq : Int) + 1 := by omega
              have f0 : ((kq : Int) + 1).toNat = kq + 1 := by omega
              have g1 : (kk : Int) < (d.size : Int) := by omega
              by_cases huv : u = v
              · subst huv
                go_wp2_with fail
                go_region_o
                go_wp2
                go_roundg (d.size - (kp + 1 + (kq + 1 + 1)))
                case measure => omega
                case rel => exact ⟨kk, kq + 1 + 1, q2 + 1, dk, rfl, by go_num, by omega, by omega, Nat.le_refl _, by rw [W2.out]; rfl, I2.out.skip (keeps_neg (by omega) (by rw [show kp + 1 + (kq + 1) - 1 = kp + 1 + kq by omega, C.out.1, C.out.2]))⟩
              · have hul : (enc u).length = sz := HK.out u
                go_wp2_with fail
                go_region_o
                go_wp2
                go_roundg (d.size - (kp + 1 + (kq + 1 + 1)))
                case measure => omega
                case rel => exact ⟨kk + 1, kq + 1 + 1, q2 + 1, dk.setIfInBounds kk u, by go_num, by go_num, by omega, by omega, Nat.le_refl _, store_worldK HK.out (by omega) W2.out u, by have := I2.out.keep hlt2 (keeps_pos (by rw [show kp + 1 + (kq + 1) - 1 = kp + 1 + kq by omega, C.out.1, C.out.2]; exact huv)); rwa [C.out.1] at this⟩
            · have hend : kp + 1 + k2 = d.size := by omega
              have hzl : (Builtin.zeroCells z.cells (d.size - kk)).toList.length = (d.size - kk) * sz := by simp [Builtin.zeroCells, hzc]
              have hz1' : ∀ u ∈ (Builtin.zeroCells z.cells (d.size - kk)).toList, u.oneCell' = true := by
                intro u hu
                simp only [Builtin.zeroCells, Array.toList_map, List.mem_map] at hu
                obtain ⟨qq, hq, rfl⟩ := hu
                have hlen : qq < (d.size - kk) * z.cells.size := by simpa using hq
                have hzp : 0 < z.cells.size := Nat.pos_of_ne_zero fun e => by rw [e] at hlen; simp at hlen
                have hlt : qq % z.cells.size < z.cells.size := Nat.mod_lt _ hzp
                rw [getElem!_pos z.cells _ hlt]
                exact hz1 _ (Array.getElem_mem hlt)
              have hin : ∀ t, t < (d.size - kk) * sz → kk * sz + t < (Sort.flatK enc sz dk).size := fun t ht => by
                rw [Sort.size_flatK, hds]
                have : (d.size - kk) * sz = d.size * sz - kk * sz := Nat.sub_mul _ _ _
                have : kk * sz ≤ d.size * sz := Nat.mul_le_mul_right _ (by omega)
                omega
              have hcl : ∀ ty, (Builtin.clear_ #[ρ.t 22] ty #[.slice (some ⟨blk, off + kk * sz, none⟩) (d.size - kk) (cap - kk)]).run P wr = .ok (.tuple #[]) (wr.setCells blk (off + kk * sz) (Builtin.zeroCells z.cells (d.size - kk)).toList) :=
                fun ty => run_clear_many wr _ _ ty z t22 v23 hz1' blk (off + kk * sz) _ (by omega) (fun t ht => by
                  rw [hzl] at ht
                  rw [Nat.add_assoc, (hHk _ (hin t ht)).1]; rfl) (fun t ht => by
                  rw [hzl] at ht
                  rw [Nat.add_assoc]; exact (hHk _ (hin t ht)).2)
              have hnlt : ¬ (k2 : Int) < ((d.size - (kp + 1) : Nat) : Int) := by omega
              obtain ⟨zs, hzs⟩ : ∃ zs, zs = (Builtin.zeroCells z.cells (d.size - kk)).toList := ⟨_, rfl⟩
              rw [← hzs] at hcl hzl
              have hkc : kk ≤ cap := by omega
              have hkn : kk ≠ cap := by omega
              have hkd : (kk : Int) ≤ (d.size : Int) := by omega
              clear hHk hI hzs hz1' hin
              go_wp2
              go_ret
              have hI := I2.out
              rw [hend] at hI
              exact ⟨by rw [hI.len]; rfl, q2, dk, zs, by rw [hI.len, W2.out], hds, by rw [hI.len]; exact hzl, by rw [hI.len]; omega, fun j hj => hI.low j (by rw [hI.len] at hj; exact hj)⟩
        · go_wp2_with fail
          go_region_o
          go_wp2
          go_roundg (d.size - (kp + 1 + 1))
          case measure => omega
          case rel =>
            refine ⟨kp + 1 + 1, q + 1, by omega, by omega, Nat.le_refl _, by go_num, rfl, fun j hj => ?_⟩
            by_cases e : j = kp + 1
            · subst e
              exact keeps_pos (by rw [Nat.add_sub_cancel, B.out.1, B.out.2]; exact hdup)
            · exact A.out j (by omega)
      · have : k = d.size := by omega
        subst this
        go_wp2
        go_ret
        obtain ⟨e1, e2⟩ := HS.out q hall
        exact ⟨by rw [e1]; rfl, q, e2⟩
omit [Inhabited α] [DecidableEq α] in
set_option maxHeartbeats 4000000 in
set_option maxRecDepth 1000000 in
theorem compact_none {sz : Nat} (L : CompLay P ρ sz) (p : Option Addr) (cap : Nat) (w : World) : Calls P (ρ.f 43) #[.slice p 0 cap] w fun e w' => e = .returned (.slice p 0 cap) ∧ w' = w := by
  have mixed := L.mixed; have t0 := L.t0; have a0 := L.a0; have z0 := L.z0; have v0 := L.v0; have t3 := L.t3; have a3 := L.a3; have z3 := L.z3; have v3 := L.v3; have t4 := L.t4; have a4 := L.a4; have z4 := L.z4; have v4 := L.v4; have t22 := L.t22; have a22 := L.a22; have z22 := L.z22; have v22 := L.v22; have a23 := L.a23; have z23 := L.z23
  obtain ⟨_, _, FG⟩ := L.f43
  go_enter FG, SlBodyN.n43_ntmps ρ
  go_wp2
  go_ret
  exact ⟨rfl, rfl⟩
def compactL (l : List α) : List α := compactUpTo l.toArray l.length
omit [DecidableEq α] in
theorem heap_putRowK {ev : α → List Value} {sz : Nat} {w : World} {g m : Nat} {d' : Array α} {cur : Array Value} {e : TypeId} (h : w.heap[g]? = some (.cells cur e (0, 0))) :
    (Sort.putRowK ev sz (Sort.ahead w m) g 0 d').heap[g]? = some (.cells (Sort.putCells id 0 (Sort.flatK ev sz d') cur) e (0, 0)) := by
  have := heap_sortWorldK (ev := ev) (sz := sz) (m := m) (d' := d') (os := #[]) h
  unfold sortWorldK at this
  rwa [Sort.grow_empty] at this
/-- at a function's border: one row came in, one goes out, in its own block -/
theorem ok_of_row {w w' : World} {X : Ctx} {J : Site} {t sz : Nat} {xs xs' : List PV} {v v' : Value} {ys' : List Value} (hb : Bord w (bst [] [(t, sz, xs)] 1 X) J) (hJ : J 1 0 = some v)
    (hbl : blockOf v' = blockOf v) (hblock : ∀ b, blockOf v ≠ some b → w'.heap[b]? = w.heap[b]?) (hsize : w'.heap.size = w.heap.size) (hos : w'.os = w.os) (htape : w'.tape = w.tape) (hout : w'.output = w.output) (hd : w.drawn ≤ w'.drawn)
    (hown' : w'.ownsRow 0 t sz v' xs'.length ys') (hp : 0 < sz) (hwd : ∀ x ∈ xs', x.cells.length = sz) (ho : ∀ c ∈ flat xs', c.one = true) (hrep : ∀ (M : Nat → Prop) (k : Nat) (c : PV) (y : Value), (flat xs')[k]? = some c → ys'[k]? = some y → Rep w' M noSite c y)
    {u : Value} (hu : u = v' ∨ ∃ a, u = .slice (some a) 0 0 ∧ v' = .slice none 0 0) (hform : ∃ A len cap, v' = .slice A len cap) :
    ∃ (u' : Value) (J' : Site), Ending.returned u = .returned u' ∧ Bord w' (bst [] [(t, sz, xs')] 2 X) J' ∧ (∀ n, n < ([] : List (List PV)).length → J' 0 n = J 0 n) ∧ Rep w' (Mut (bst [] [(t, sz, xs')] 2 X) J') J' (.own 2 0) u' ∧
      Fr w w' (OMut (bst [] [(t, sz, xs)] 1 X) J) (OMut (bst [] [(t, sz, xs')] 2 X) J') := by
  let J' : Site := fun d n => if d = 2 ∧ n = 0 then some v' else none
  have hJ' : ∀ d n u, J' d n = some u → d = 2 ∧ n = 0 ∧ u = v' := fun d n u h => by
    simp only [J'] at h
    split at h
    · rename_i hc; injection h with h; exact ⟨hc.1, hc.2, h.symm⟩
    · cases h
  have hgm : ∀ g, blockOf v = some g → OMut (bst [] [(t, sz, xs)] 1 X) J g := fun g hg => ⟨1, 0, .arr t sz false xs, v, rfl, rfl, hJ, hg⟩
  have hOM : ∀ b, OMut (bst [] [(t, sz, xs')] 2 X) J' b → OMut (bst [] [(t, sz, xs)] 1 X) J b := by
    rintro b ⟨d, n, o, u, _, _, h3, h4⟩
    obtain ⟨_, _, rfl⟩ := hJ' d n u h3
    rw [hbl] at h4
    exact hgm b h4
  refine ⟨u, J', rfl, ⟨fun d n o h => ?_, fun d n d' n' o o' u u' b h1 h2 h3 h4 h5 h6 => ?_, fun d n h => ?_, fun d n o u b h1 h2 h3 => ?_, fun b hx => by rw [hsize]; exact hb.xlt b hx⟩, fun n hn => absurd hn (Nat.not_lt_zero _), ?_, ⟨fun b hlt hm => ?_, fun b hm _ => hOM b hm, by rw [hsize]; exact Nat.le_refl _, hos, htape, hout, hd⟩⟩
  · rcases bst_heap (by decide) h with ⟨_, cs, h5, _⟩ | ⟨rfl, q, h5, rfl⟩
    · simp at h5
    · have hn0 : n = 0 := by
        have := (List.getElem?_eq_some_iff.1 h5).1
        simp at this; exact this
      subst hn0
      simp only [List.getElem?_cons_zero, Option.some.injEq] at h5
      subst h5
      exact ⟨v', ys', by simp [J'], hown', hp, hwd, ho, fun k c y hc hy => hrep _ k c y hc hy⟩
  · obtain ⟨e1, e2, _⟩ := hJ' d n u h3
    obtain ⟨e3, e4, _⟩ := hJ' d' n' u' h4
    exact ⟨e1.trans e3.symm, e2.trans e4.symm⟩
  · simp only [J']
    rw [if_neg]
    rintro ⟨rfl, rfl⟩
    simp [bst] at h
  · obtain ⟨_, _, rfl⟩ := hJ' d n u h2
    rw [hbl] at h3
    exact hb.sepX 1 0 _ v b rfl hJ h3
  · obtain ⟨A, len, cap, hf⟩ := hform
    rcases hu with rfl | ⟨a, rfl, h2⟩
    · rw [hf]; exact .own _ _ _ _ _ _ (by simp [J', hf])
    · exact .own0 _ _ _ _ (by simp [J', h2])
  · exact hblock b fun e => hm (hgm b e)
theorem compact_okG {sz : Nat} (L : CompLay P ρ sz) {cells : α → List PV} (hk : ∀ x, (cells x).length = sz) (hkp : 0 < sz) (hex : ∀ x, ∀ c ∈ cells x, c.exact = true)
    (heq : ∀ (x y : α) (w : World), Sem.run P (binOp .eql (ρ.t 23) (.agg ((cells x).map valOf).toArray) (.agg ((cells y).map valOf).toArray)) w = .ok (.bool (decide (x = y))) w) (hne : ∀ (x y : α) (w : World), Sem.run P (binOp .neq (ρ.t 23) (.agg ((cells x).map valOf).toArray) (.agg ((cells y).map valOf).toArray)) w = .ok (.bool (!decide (x = y))) w)
    (hgd : ∀ (op : BinOp) (a b : Operand) (x y : α) (w : World), Sem.run P (eqGuard op (ρ.t 23) a b (.agg ((cells x).map valOf).toArray) (.agg ((cells y).map valOf).toArray)) w = .ok () w)
    (z : Value) (v23 : ∀ w, (zeroValue (ρ.t 23)).run P w = .ok z w) (hzc : z.cells.size = sz) (hz1 : ∀ u ∈ z.cells, u.oneCell' = true) (l : List α) :
    Ok P (ρ.f 43) [.own 1 0] [] [(ρ.t 23, sz, l.map fun x => PV.agg (cells x))] (.own 2 0) [] [(ρ.t 23, sz, (compactL l).map fun x => PV.agg (cells x))] := by
  intro w X J vals hb hl hr
  obtain ⟨v, ys, hJ, hown, hp, hwd, ho, hrep⟩ := hb.obj 1 0 (.arr (ρ.t 23) sz false (l.map fun x => PV.agg (cells x))) rfl
  match vals, hl with
  | [v0], _ =>
  have r0 := hr 0 _ _ rfl rfl
  by_cases h0 : l = []
  · subst h0
    have hv : ∃ p cap, v0 = .slice p 0 cap ∧ (v0 = v ∨ ∃ a, v0 = .slice (some a) 0 0 ∧ v = .slice none 0 0) := by
      cases r0 with
      | own _ _ _ A len cap h =>
        rw [hJ] at h; injection h with h
        rcases hown.2 with ⟨q, _⟩ | ⟨_, _, _, q, _⟩
        · rw [q] at h; injection h with h1 h2 h3; subst h1 h2 h3; exact ⟨_, _, rfl, .inl q.symm⟩
        · rw [q] at h; injection h with h1 h2 h3; subst h1 h2 h3; exact ⟨_, _, rfl, .inl q.symm⟩
      | own0 _ _ _ ab h => rw [hJ] at h; injection h with h; exact ⟨_, _, rfl, .inr ⟨ab, rfl, h⟩⟩
    obtain ⟨p, cap, hv, hv2⟩ := hv
    have hcl : compactL ([] : List α) = [] := rfl
    subst hv
    refine (compact_none L p cap w).mono ?_
    rintro e w' ⟨rfl, rfl⟩
    rw [hcl]
    refine ok_of_row (v := v) (v' := v) (ys' := ys) hb hJ rfl (fun _ _ => rfl) rfl rfl rfl rfl (Nat.le_refl _) hown hp hwd ho (fun M k c y hc => by simp [flat] at hc) hv2 ?_
    rcases hown.2 with ⟨q, _⟩ | ⟨_, _, _, q, _⟩
    · exact ⟨_, _, _, q⟩
    · exact ⟨_, _, _, q⟩
  · have hlp : 0 < l.length := List.length_pos_iff.2 h0
    have hown0 := hown
    obtain ⟨hylen, hcase⟩ := hown
    rw [List.length_map] at hylen hcase
    rcases hcase with ⟨_, hn0⟩ | ⟨g, cap, cur, hv, _, hg, hcap, hmax, hcs, htake⟩
    · omega
    have hv0 : v0 = .slice (some ⟨g, 0, none⟩) l.toArray.size cap := by
      cases r0 with
      | own _ _ _ A len c h => rw [hJ] at h; injection h with h; rw [← h, hv]; rfl
      | own0 _ _ _ a h => rw [hJ] at h; injection h with h; rw [hv] at h; cases h
    subst hv0
    have hglt : g < w.heap.size := (Array.getElem?_eq_some_iff.1 hg).1
    have hcell : ∀ k, w.cell? ⟨g, k, none⟩ = cur[k]? := fun k => by rw [cell_of_row w g _ cur (ρ.t 23) (0, 0) hg]
    have hfrz : ∀ k, w.frozen? ⟨g, k, none⟩ = false := fun k => by
      have h1 : w.ownsRow 0 (ρ.t 23) sz (.slice (some ⟨g, 0, none⟩) l.length cap) l.length ys := ⟨hylen, .inr ⟨g, cap, cur, rfl, Nat.zero_le _, hg, hcap, hmax, hcs, htake⟩⟩
      exact h1.frozenAt k
    have hycur : ∀ k u, ys[k]? = some u → cur[k]? = some u := fun k u h => by
      rw [← htake, List.getElem?_take] at h
      split at h
      · rwa [Array.getElem?_toList] at h
      · cases h
    have hH : Sort.HoldsK (fun x => (cells x).map valOf) sz w g 0 l.toArray := by
      intro j hj
      rw [Sort.size_flatK] at hj
      have hj' : j < l.length * sz := by simpa using hj
      obtain ⟨c, c1, c2, x, hxl, hcx⟩ := flatK_get (cells := cells) hk hkp l j hj'
      have hy : j < ys.length := by omega
      have := hrep j c ys[j] c1 (List.getElem?_eq_getElem hy)
      rw [Nat.zero_add]
      refine ⟨?_, hfrz j⟩
      rw [hcell, hycur j _ (List.getElem?_eq_getElem hy), exact_eq (hex x c hcx) this, c2]
      rfl
    refine (compact_run L (fun x => (cells x).map valOf) (fun x => by rw [List.length_map, hk]) (fun x u hu => by
      obtain ⟨c, hc, rfl⟩ := List.mem_map.1 hu
      exact exact_val (hex x c hc)) heq hne hgd z v23 hzc hz1 g 0 cap l.toArray w hH hglt (by simpa using hcap) hmax).mono ?_
    rintro e w' ⟨rfl, q, dk, zs, rfl, hds, hzl, hle, hlow⟩
    have hcl : compactUpTo l.toArray l.toArray.size = compactL l := rfl
    rw [hcl] at hzl hle hlow ⊢
    have hsl : l.toArray.size = l.length := rfl
    rw [hsl] at hle hzl hds
    have hcs2 : l.length * sz ≤ cur.size := by rw [hcs]; exact Nat.mul_le_mul_right _ hcap
    have hFs : (Sort.flatK (fun x => (cells x).map valOf) sz dk).size = l.length * sz := by rw [Sort.size_flatK, hds]
    have hw1 := heap_putRowK (ev := fun x : α => (cells x).map valOf) (sz := sz) (m := q) (d' := dk) hg
    rw [Nat.zero_add]
    obtain ⟨b1, b2, b3, b4, b5, b6⟩ := setCells_heap g zs ((compactL l).length * sz) _ _ (ρ.t 23) hw1
    have hnsz : (compactL l).length * sz ≤ l.length * sz := Nat.mul_le_mul_right _ hle
    have hsub : (l.length - (compactL l).length) * sz = l.length * sz - (compactL l).length * sz := Nat.sub_mul _ _ _
    have hpsz : (Sort.putCells id 0 (Sort.flatK (fun x => (cells x).map valOf) sz dk) cur).size = cur.size := by simp [Sort.putCells]
    have htk : (setArr (Sort.putCells id 0 (Sort.flatK (fun x => (cells x).map valOf) sz dk) cur) ((compactL l).length * sz) zs).toList.take ((compactL l).length * sz) = (Sort.flatK (fun x => (cells x).map valOf) sz (compactL l).toArray).toList := by
      apply List.ext_getElem?
      intro k
      rw [List.getElem?_take]
      by_cases hk2 : k < (compactL l).length * sz
      · have hkd : k / sz < (compactL l).length := Nat.div_lt_of_lt_mul (by rw [Nat.mul_comm]; exact hk2)
        have hlk := hlow (k / sz) hkd
        have hr1 : k < (Sort.flatK (fun x => (cells x).map valOf) sz dk).size := by rw [hFs]; omega
        have hr2 : k < (Sort.flatK (fun x => (cells x).map valOf) sz (compactL l).toArray).size := by rw [Sort.size_flatK]; simpa using hk2
        rw [if_pos hk2, Array.getElem?_toList, setArr_get _ _ _ _ (by rw [hpsz]; omega), if_neg (by omega)]
        have hpc := putCells_take (F := Sort.flatK (fun x => (cells x).map valOf) sz dk) (cur := cur) (by rw [hFs]; exact hcs2)
        have h5 : (Sort.putCells id 0 (Sort.flatK (fun x => (cells x).map valOf) sz dk) cur)[k]? = (Sort.flatK (fun x => (cells x).map valOf) sz dk)[k]? := by
          rw [← Array.getElem?_toList, ← Array.getElem?_toList, ← hpc, List.getElem?_take, if_pos hr1]
        rw [h5, Array.getElem?_toList, Array.getElem?_eq_getElem hr1, Array.getElem?_eq_getElem hr2]
        congr 1
        rw [← getElem!_pos _ k hr1, ← getElem!_pos _ k hr2, Sort.get_flatK _ _ _ k (by rw [Sort.size_flatK] at hr1; exact hr1), Sort.get_flatK _ _ _ k (by rw [Sort.size_flatK] at hr2; exact hr2)]
        have h6 : (compactL l).toArray[k / sz]! = dk[k / sz]! := by
          rw [List.getElem?_eq_getElem hkd] at hlk
          injection hlk with hlk
          rw [getElem!_pos _ _ (by simpa using hkd), ← hlk]
          simp
        rw [h6]
      · rw [if_neg hk2, Array.getElem?_toList, Array.getElem?_eq_none (by rw [Sort.size_flatK]; simp; omega)]
    refine ok_of_row (v := v) (v' := .slice (some ⟨g, 0, none⟩) (compactL l).length cap) (ys' := (Sort.flatK (fun x => (cells x).map valOf) sz (compactL l).toArray).toList) hb hJ (by rw [hv]; rfl) (fun b hb' => ?_) ?_ b4 b5 b6 ?_ ⟨?_, .inr ⟨g, cap, _, ?_, Nat.zero_le _, b1, ?_, hmax, ?_, ?_⟩⟩ hp (fun x hx => ?_) (fun c hc => ?_) (fun M k c y hc hy => ?_) (.inl rfl) ⟨_, _, _, rfl⟩
    · have hne : b ≠ g := fun e => hb' (by rw [hv, e]; rfl)
      rw [b2 b hne]
      unfold Sort.putRowK Sort.putRow Sort.mapBlock
      show ((Sort.ahead w q).heap.modify g _)[b]? = _
      rw [Array.getElem?_modify, if_neg (fun e => hne e.symm)]
      rfl
    · rw [b3]
      unfold Sort.putRowK Sort.putRow Sort.mapBlock
      simp
    · rw [setCells_drawn]
      show w.drawn ≤ w.drawn + q
      omega
    · rw [Array.length_toList, Sort.size_flatK, List.length_map]; simp
    · rw [List.length_map]
    · rw [List.length_map]; omega
    · rw [setArr_size, hpsz, hcs]
    · rw [List.length_map]; exact htk
    · obtain ⟨y, _, rfl⟩ := List.mem_map.1 hx
      exact hk y
    · obtain ⟨y, hy, hcy⟩ := List.mem_flatMap.1 hc
      obtain ⟨u, _, rfl⟩ := List.mem_map.1 hy
      exact exact_one (hex u c hcy)
    · have hkl : k < (compactL l).length * sz := by
        have h1 := (List.getElem?_eq_some_iff.1 hy).1
        rw [Array.length_toList, Sort.size_flatK] at h1
        simpa using h1
      obtain ⟨c2, c3, c4, x, hxl, hcx⟩ := flatK_get (cells := cells) hk hkp (compactL l) k hkl
      rw [c3] at hc
      injection hc with hc
      subst hc
      rw [← getElem_of_bang hy, c4]
      exact exact_rep (hex x c2 hcx) _ _ _
omit [Inhabited α] in
theorem eq_exact {t m : Nat} {K : List Kd} {cells : α → List PV} (hK : flatK P m t = some K) (hm : Nat.ble m 10000 = true) (ha : aggT P t = true) (hg : P.eqGuardType P.depth t = false) (hex : ∀ x, ∀ c ∈ cells x, c.exact = true) (he : ∀ x y, eqK K (cells x) (cells y) = some (decide (x = y))) :
    (∀ (x y : α) (w : World), Sem.run P (binOp .eql t (.agg ((cells x).map valOf).toArray) (.agg ((cells y).map valOf).toArray)) w = .ok (.bool (decide (x = y))) w) ∧ (∀ (x y : α) (w : World), Sem.run P (binOp .neq t (.agg ((cells x).map valOf).toArray) (.agg ((cells y).map valOf).toArray)) w = .ok (.bool (!decide (x = y))) w) ∧
      (∀ (op : BinOp) (a b : Operand) (x y : α) (w : World), Sem.run P (eqGuard op t a b (.agg ((cells x).map valOf).toArray) (.agg ((cells y).map valOf).toArray)) w = .ok () w) := by
  have hrep : ∀ (z : α) (w : World) (i : Nat) (c : PV) (v : Value), (cells z)[i]? = some c → ((cells z).map valOf)[i]? = some v → Rep w (fun _ => False) noSite c v := fun z w i c v hc hv => by
    rw [List.getElem?_map, hc] at hv
    injection hv with hv
    subst hv
    exact exact_rep (hex z c (List.mem_of_getElem? hc)) _ _ _
  have hq : ∀ (x y : α) (w : World), (Op.equalIn 10000 t (.agg ((cells x).map valOf).toArray) (.agg ((cells y).map valOf).toArray)).run P w = .ok (decide (x = y)) w := fun x y w => by
    have h1 := eqK_W (w := w) (M := fun _ => False) (J := noSite) (us := (cells x).map valOf) (vs := (cells y).map valOf) (he x y) (by simp) (by simp) (hrep x w) (hrep y w)
    have h2 := equal_flat m t K hK 10000 _ _ _ (Nat.le_of_ble_eq_true hm) h1 w
    simpa only [mkV, ha, if_true] using h2
  exact ⟨fun x y w => by simp [run_eql_struct, hq], fun x y w => by simp [run_neq_struct, hq], fun op a b x y w => run_eqGuard_agg (P := P) w op t a b _ _ hg⟩
theorem compact_okT {f el sz m : Nat} {K : List Kd} (L : CompLay P ρ sz) (hf : ρ.f 43 = f) (hel : ρ.t 23 = el) (enc : α → PV) (cells : α → List PV) (hen : ∀ x, enc x = .agg (cells x)) (hk : ∀ x, (cells x).length = sz) (hkp : 0 < sz) (hex : ∀ x, (cells x).all PV.exact = true)
    (hK : flatK P m el = some K) (hm : Nat.ble m 10000 = true) (ha : aggT P el = true) (hg : P.eqGuardType P.depth el = false) (he : ∀ x y, eqK K (cells x) (cells y) = some (decide (x = y))) (hz : tyZ P el sz = true)
    (l : List α) {r : List α} (h : some (compactL l) = some r) : Ok P f [.own 1 0] [] [(el, sz, List.map enc l)] (.own 2 0) [] [(el, sz, List.map enc r)] := by
  injection h with h
  subst h
  obtain rfl : enc = fun x => PV.agg (cells x) := funext hen
  have hx : ∀ x, ∀ c ∈ cells x, c.exact = true := fun x => List.all_eq_true.1 (hex x)
  subst hf hel
  unfold tyZ at hz
  cases hi0 : P.info? (ρ.t 23) with
  | none => rw [hi0] at hz; cases hz
  | some i0 =>
    cases hz0 : i0.zero with
    | none => rw [hi0] at hz; dsimp only at hz; rw [hz0] at hz; cases hz
    | some z =>
      rw [hi0] at hz; dsimp only at hz; rw [hz0] at hz
      simp only [Bool.and_eq_true, beq_iff_eq] at hz
      obtain ⟨⟨q1, q2⟩, q3⟩ := hz
      obtain ⟨g1, g2, g3⟩ := eq_exact hK hm ha hg hx he
      exact compact_okG L hk hkp hx g1 g2 g3 z (fun w => by simp [zeroValue, typeInfo, hi0, hz0]) q2 (by rw [Array.all_eq_true] at q3; intro u hu; obtain ⟨k, hk, rfl⟩ := Array.mem_iff_getElem.1 hu; exact q3 k hk) l
end Go.Proofs.Ytnhjcpnoadicpaa.Ab
