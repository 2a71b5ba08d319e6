import Derived.Test.YtmompdklolomfaaAbOps7
namespace Go.Proofs.Ytmompdklolomfaa.Ab
open Go Go.RowKit
set_option linter.unusedVariables false
set_option linter.unusedSimpArgs false
variable {P : Program} {N : Nat} {s : St}
def KC : List Kd → List PV → Prop
 | [], cs => cs = []
 | .b :: K, cs => ∃ b r, cs = .bool b :: r ∧ KC K r
 | .i k :: K, cs => ∃ n r, cs = .int k n :: r ∧ (Lit.int k n).wf = true ∧ KC K r
 | .s :: K, cs => ∃ s r, cs = .str s :: r ∧ s.size ≤ maxLen ∧ KC K r
theorem shape_rows {α : Type} {f : α → PV} {Q : α → Prop} {n : Nat} {t e : TypeId} {cs : List PV} (h : Shape P n t cs) (ht : P.underlying t = some (.slice e)) (hf : ∀ m ps, Shape P m e ps → ∃ a, PV.mk (aggT P e) ps = f a ∧ Q a) :
  ∃ l : List α, cs = [.sl (P.cellsOf e) (l.map f)] ∧ l.length ≤ maxLen ∧ ∀ a ∈ l, Q a := by
 cases n with
 | zero => exact h.elim
 | succ n =>
  simp only [Shape, ht] at h
  obtain ⟨xs, rfl, hm, hx⟩ := h
  have : ∃ l : List α, xs = l.map f ∧ ∀ a ∈ l, Q a := by
   clear hm
   induction xs with
   | nil => exact ⟨[], rfl, by simp⟩
   | cons x xs ih =>
    obtain ⟨l, rfl, hq⟩ := ih fun y hy => hx y (List.mem_cons_of_mem _ hy)
    obtain ⟨ps, rfl, hs⟩ := hx x List.mem_cons_self
    obtain ⟨a, ha, hqa⟩ := hf n ps hs
    exact ⟨a :: l, by rw [ha]; rfl, by simpa using ⟨hqa, hq⟩⟩
  obtain ⟨l, rfl, hq⟩ := this
  exact ⟨l, rfl, by simpa using hm, hq⟩
theorem do_build_struct {ops : Array Oper} {dst : Option Tmp} {type : TypeId} {pos : String} {after : Array Edge} {guard : Option (Nat × Bool)} {t : TypeId} {ps : Array (Nat × Operand)} {fs : List (Nat × TypeId)} {sz by_ : Nat} {z cs : List PV} (ht : tyOf P t = some ⟨.struct fs, sz, by_, z⟩) (hz : z.isEmpty = false) (tis : List TyI) (htis : fs.map (fun f => tyOf P f.2) = tis.map some)
  (ho : (evParts s ps.toList).all (fun p => p.2.cells.all PV.one) = true) (hf : fillPV (fun i => (((fs.zip tis).map fun q => (q.1.1, q.2.size))[i]?)) z (evParts s ps.toList) = some cs) :
  Does P N ops ⟨dst, .build t ps, type, pos, after, guard⟩ s (pureFx (.agg cs)) :=
 does_build_struct ht (by intro h; rw [h] at hz; cases hz) tis htis (fun p hp => by rw [List.all_eq_true] at ho; exact all_one (ho p hp)) hf
end Go.Proofs.Ytmompdklolomfaa.Ab
