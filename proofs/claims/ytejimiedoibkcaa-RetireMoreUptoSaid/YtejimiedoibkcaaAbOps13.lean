/- make of a slice: so many zero elements. -/
import Derived.Test.YtejimiedoibkcaaAbOps12
namespace Go.Proofs.Ytejimiedoibkcaa.Ab
open Go Go.RowKit
set_option linter.unusedVariables false
set_option linter.unusedSimpArgs false
variable {P : Program} {N : Nat} {ops : Array Oper} {dst : Option Tmp} {type : TypeId} {pos : String} {after : Array Edge} {guard : Option (Nat × Bool)} {s : St}
/-- a zero's cell, told as itself, or a nil as an empty row -/
def zle : PV → PV → Bool
  | .nil, .sl _ [] => true
  | .nil, .nil => true
  | .bool a, .bool b => a == b
  | .int k a, .int l b => decide (k = l) && decide (a = b)
  | .str a, .str b => decide (a = b)
  | _, _ => false
def zlesB : List PV → List PV → Bool
  | [], [] => true
  | a :: r, b :: q => zle a b && zlesB r q
  | _, _ => false
theorem zle_rep {a b : PV} (h : zle a b = true) {w : World} {M : Nat → Prop} {J : Site} {v : Value} (hr : Rep w M J a v) : Rep w M J b v ∧ b.one = true := by
  unfold zle at h
  split at h
  · cases hr; exact ⟨.sl0 _ _ _, rfl⟩
  · cases hr; exact ⟨.nil _, rfl⟩
  · have := eq_of_beq h; subst this; exact ⟨hr, rfl⟩
  · simp only [Bool.and_eq_true, decide_eq_true_eq] at h
    obtain ⟨rfl, rfl⟩ := h
    exact ⟨hr, rfl⟩
  · simp only [decide_eq_true_eq] at h
    subst h
    exact ⟨hr, rfl⟩
  · cases h
theorem zles_len : ∀ {a b : List PV}, zlesB a b = true → b.length = a.length
  | [], [], _ => rfl
  | a :: r, b :: q, h => by
    simp only [zlesB, Bool.and_eq_true] at h
    simp [zles_len h.2]
  | [], b :: q, h => by cases h
  | a :: r, [], h => by cases h
theorem zles_get : ∀ {a b : List PV}, zlesB a b = true → ∀ {k : Nat} {c : PV}, b[k]? = some c → ∃ d, a[k]? = some d ∧ zle d c = true
  | [], [], _, k, c, hc => by simp at hc
  | a :: r, b :: q, h, 0, c, hc => by
    simp only [zlesB, Bool.and_eq_true] at h
    simp at hc; subst hc
    exact ⟨a, rfl, h.1⟩
  | a :: r, b :: q, h, k + 1, c, hc => by
    simp only [zlesB, Bool.and_eq_true] at h
    obtain ⟨d, h1, h2⟩ := zles_get h.2 (k := k) (c := c) (by simpa using hc)
    exact ⟨d, by simpa using h1, h2⟩
  | [], b :: q, h, _, _, _ => by cases h
  | a :: r, [], h, _, _, _ => by cases h
theorem flat_rep_get {x : PV} {m : Nat} : ∀ {n k : Nat} {c : PV}, x.cells.length = m → 0 < m → (flat (List.replicate n x))[k]? = some c → k < n * m ∧ x.cells[k % m]? = some c
  | 0, k, c, _, _, h => by simp [flat] at h
  | n + 1, k, c, hm, hp, h => by
    rw [List.replicate_succ, flat, List.flatMap_cons] at h
    by_cases hk : k < m
    · rw [List.getElem?_append_left (by omega)] at h
      refine ⟨by rw [Nat.succ_mul]; omega, ?_⟩
      rw [Nat.mod_eq_of_lt hk]; exact h
    · rw [List.getElem?_append_right (by omega), hm] at h
      obtain ⟨h1, h2⟩ := flat_rep_get (n := n) (k := k - m) hm hp h
      refine ⟨by rw [Nat.succ_mul]; omega, ?_⟩
      rw [← h2]; congr 1
      rw [Nat.mod_eq_sub_mod (by omega)]
theorem does_makeSlice {d : Nat} {t e : TypeId} {x y : Operand} {sz by_ : Nat} {z : List PV} {ei : TyI} {zx : PV} {kx ky : IntKind} {n : Nat} (ht : tyOf P t = some ⟨.slice e, sz, by_, z⟩) (he : tyOf P e = some ei)
    (hx : s.ev x = .int kx (n : Int)) (hy : s.ev y = .int ky (n : Int)) (hz : ei.zero.isEmpty = false) (hzl : Nat.beq ei.zero.length ei.size = true) (hzx : zlesB ei.zero zx.cells = true) (hn : n ≤ 1000000) (hb : Nat.ble (ei.bytes * 1000000) 281474976710656 = true) :
    Does P N ops ⟨some d, .makeSlice t x y, type, pos, after, guard⟩ s ⟨[], .own d (s.next d), [((d, s.next d), some (.arr e ei.size false (List.replicate n zx)))], [d]⟩ :=
  does_alloc d fun w0 Mv J s' a w hs hL hnx hr => by
    obtain ⟨i, dd, h1, h2, h3, h4, h4b, h5⟩ := tyOf_spec he
    have hzl' := Nat.eq_of_beq_eq_true hzl
    have hz' : ei.zero ≠ [] := by intro h; rw [h] at hz; cases hz
    have hp : 0 < ei.size := by rw [← hzl']; exact List.length_pos_iff.2 hz'
    have hzlen : zx.cells.length = ei.size := by rw [zles_len hzx, hzl']
    cases hzv : i.zero with
    | none => rw [hzv] at h5; exact absurd h5 hz'
    | some zv =>
      rw [hzv] at h5
      dsimp only at h5
      have hzs : zv.cells.size = ei.size := by rw [← hzl', h5]; simp
      have hex : a.eval x = .int kx (n : Int) := by
        have := hr x (by simp [Op.operands]); rw [hx] at this
        generalize a.eval x = v at this ⊢; cases this; rfl
      have hey : a.eval y = .int ky (n : Int) := by
        have := hr y (by simp [Op.operands]); rw [hy] at this
        generalize a.eval y = v at this ⊢; cases this; rfl
      have hbn : i.bytes * n ≤ 281474976710656 := by
        have h6 := Nat.le_of_ble_eq_true hb
        rw [← h4b] at h6
        exact Nat.le_trans (Nat.mul_le_mul_left _ hn) h6
      have hbi : (i.bytes : Int) * (n : Int) ≤ 281474976710656 := by rw [← Int.natCast_mul]; omega
      have hwr : IntKind.i64.wrap (n : Int) = (n : Int) := wrap_i64 _ (by omega) (by omega)
      have hcell : ∀ (k : Nat) (c : PV), (flat (List.replicate n zx))[k]? = some c → ∃ u, ((Array.range (n * ei.size)).map (zv.cells[· % zv.cells.size]!))[k]? = some u ∧ Rep w (Mut s' J) noSite c u ∧ c.one = true := by
        intro k c hc
        obtain ⟨g1, g2⟩ := flat_rep_get hzlen hp hc
        obtain ⟨dcell, g3, g4⟩ := zles_get hzx g2
        have hlt : k % ei.size < zv.cells.size := by rw [hzs]; exact Nat.mod_lt _ hp
        rw [h5, List.getElem?_map, Array.getElem?_toList, Array.getElem?_eq_getElem hlt] at g3
        simp only [Option.map_some, Option.some.injEq] at g3
        refine ⟨zv.cells[k % ei.size], ?_, zle_rep g4 (g3 ▸ rep_ofVal1 _)⟩
        rw [Array.getElem?_map, Array.getElem?_range]
        simp only [g1, if_true, Option.map_some, hzs]
        rw [getElem!_pos zv.cells (k % ei.size) hlt]
      have hfl : (flat (List.replicate n zx)).length = n * ei.size := by
        rw [flat_length (sz := ei.size) (fun q hq => by rw [(List.mem_replicate.1 hq).2]; exact hzlen), List.length_replicate]
      refine ⟨.slice (some ⟨w.heap.size, 0, none⟩) n n, .cells ((Array.range (n * ei.size)).map (zv.cells[· % zv.cells.size]!)) e, ?_, rfl, fun M J' hJ' => .own _ _ _ _ _ _ hJ', fun M J' hJ' hmono hsub => ⟨_, ((Array.range (n * ei.size)).map (zv.cells[· % zv.cells.size]!)).toList, hJ', by rw [List.length_replicate]; exact owns_new (by rw [Array.size_map, Array.size_range]) (Nat.le_trans hn (by decide)), hp, fun q hq => by rw [(List.mem_replicate.1 hq).2]; exact hzlen, fun c hc => ?_, fun k c yv hc hyv => ?_⟩⟩
      · have hrun := run_make (P := P) w t e i zv (ty_slice ht) h1 hzv kx ky n n (by omega) (Int.le_refl _) hbi (by omega)
        simp only [Int.toNat_natCast, h4] at hrun
        simp only [execOp, hex, hey, Sem.run_bind, hrun, Result.andThen_ok]
        rfl
      · obtain ⟨k, hk⟩ := List.getElem?_of_mem hc
        obtain ⟨u, _, _, h⟩ := hcell k c hk
        exact h
      · obtain ⟨u, hu, hrp, _⟩ := hcell k c hc
        rw [← Array.getElem?_toList] at hu
        rw [hu] at hyv
        injection hyv with hyv
        subst hyv
        exact hmono noSite noSite c u (fun _ _ _ h => h) hrp
theorem ev_nat {x : Operand} {k : IntKind} {n : Int} (h : s.ev x = .int k n) (h0 : 0 ≤ n) : s.ev x = .int k ((n.toNat : Nat) : Int) := by rw [h, Int.toNat_of_nonneg h0]
theorem do_makeSlice {α : Type} {f : α → PV} {z0 : α} {d : Nat} {t e : TypeId} {x y : Operand} {sz by_ : Nat} {z : List PV} {ei : TyI} {zx : PV} {kx ky : IntKind} {n : Nat} (hf : f z0 = zx) (ht : tyOf P t = some ⟨.slice e, sz, by_, z⟩) (he : tyOf P e = some ei)
    (hx : s.ev x = .int kx (n : Int)) (hy : s.ev y = .int ky (n : Int)) (hz : ei.zero.isEmpty = false) (hzl : Nat.beq ei.zero.length ei.size = true) (hzx : zlesB ei.zero zx.cells = true) (hn : n ≤ 1000000) (hb : Nat.ble (ei.bytes * 1000000) 281474976710656 = true) :
    Does P N ops ⟨some d, .makeSlice t x y, type, pos, after, guard⟩ s ⟨[], .own d (s.next d), [((d, s.next d), some (.arr e ei.size false (List.map f (List.replicate n z0))))], [d]⟩ := by
  rw [List.map_replicate, hf]
  exact does_makeSlice ht he hx hy hz hzl hzx hn hb
end Go.Proofs.Ytejimiedoibkcaa.Ab
