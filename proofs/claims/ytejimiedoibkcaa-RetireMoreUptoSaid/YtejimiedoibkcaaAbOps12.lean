/- Values of a type that holds itself: their cells are told by an equation. -/
import Derived.Test.YtejimiedoibkcaaAbOps11
namespace Go.Proofs.Ytejimiedoibkcaa.Ab
open Go Go.RowKit
set_option linter.unusedVariables false
set_option linter.unusedSimpArgs false
variable {P : Program} {N : Nat} {ops : Array Oper} {dst : Option Tmp} {type : TypeId} {pos : String} {after : Array Edge} {guard : Option (Nat × Bool)} {s : St}
theorem map_getE {α : Type} {f : α → PV} {l : List α} {i : Nat} {x : α} {p : PV} (e : f x = p) (h : l[i]? = some x) : (List.map f l)[i]? = some p := by simp [h, e]
theorem map_consE {α : Type} {f : α → PV} {x : α} {r : List α} {p : PV} {ps : List PV} (e : f x = p) (h : List.map f r = ps) : List.map f (x :: r) = p :: ps := by rw [List.map_cons, e, h]
theorem do_buildSliceE {α : Type} {f : α → PV} {ls : List α} {d : Nat} {t e : TypeId} {len : Nat} {ps : Array (Nat × Operand)} {sz by_ : Nat} {z : List PV} {ei : TyI} {xs : List PV} {ps' : List (Nat × PV)} {L : List (Nat × Nat)} (hx : List.map f ls = xs) (ht : tyOf P t = some ⟨.slice e, sz, by_, z⟩) (he : tyOf P e = some ei)
    (hz : ei.zero.isEmpty = false) (hzl : Nat.beq ei.zero.length ei.size = true) (hlen : Nat.beq xs.length len = true) (hw : xs.all (fun x => Nat.beq x.cells.length ei.size) = true) (h24 : Nat.ble (len * ei.size) 16777216 = true) (hlow : s.lowP (evParts s ps.toList) = some (ps', L)) (ho : (flat xs).all PV.one = true)
    (hf : fillPV (fun i => some (i * ei.size, ei.size)) ((List.replicate len ei.zero).flatten) ps' = some (flat xs)) :
    Does P N ops ⟨some d, .buildSlice t len ps, type, pos, after, guard⟩ s ⟨L, .own d (s.next d), [((d, s.next d), some (.arr e ei.size false (List.map f ls)))], [d]⟩ := by
  rw [hx]
  exact do_buildSlice ht he hz hzl hlen hw h24 hlow ho hf
theorem shape_structR {n : Nat} {t : TypeId} {cs : List PV} {fs : Array Field} (h : Shape P n t cs) (ht : P.underlying t = some (.struct fs)) :
    cs.length = P.cellsOf t ∧ ∃ m, m < n ∧ ∀ (i : Nat) (f : Field), fs.toList[i]? = some f → Shape P m f.type ((cs.drop f.offset).take (P.cellsOf f.type)) := by
  cases n with
  | zero => exact h.elim
  | succ n =>
    simp only [Shape, ht] at h
    exact ⟨h.1, n, Nat.lt_succ_self n, fun i f hf => h.2 f (List.mem_of_getElem? hf)⟩
theorem shape_rowsR {α : Type} {f : α → PV} {Q : α → Prop} {n : Nat} {t e : TypeId} {cs : List PV} (h : Shape P n t cs) (ht : P.underlying t = some (.slice e)) (hf : ∀ m, m < n → ∀ ps, Shape P m e ps → ∃ a, PV.mk (aggT P e) ps = f a ∧ Q a) :
    ∃ l : List α, cs = [.sl (P.cellsOf e) (l.map f)] ∧ l.length ≤ maxLen ∧ ∀ a ∈ l, Q a := by
  cases n with
  | zero => exact h.elim
  | succ n =>
    simp only [Shape, ht] at h
    obtain ⟨xs, rfl, hm, hx⟩ := h
    have : ∃ l : List α, xs = l.map f ∧ ∀ a ∈ l, Q a := by
      clear hm
      induction xs with
      | nil => exact ⟨[], rfl, by simp⟩
      | cons x xs ih =>
        obtain ⟨l, rfl, hq⟩ := ih fun y hy => hx y (List.mem_cons_of_mem _ hy)
        obtain ⟨ps, rfl, hs⟩ := hx x List.mem_cons_self
        obtain ⟨a, ha, hqa⟩ := hf n (Nat.lt_succ_self n) ps hs
        exact ⟨a :: l, by rw [ha]; rfl, by simpa using ⟨hqa, hq⟩⟩
    obtain ⟨l, rfl, hq⟩ := this
    exact ⟨l, rfl, by simpa using hm, hq⟩
end Go.Proofs.Ytejimiedoibkcaa.Ab
