import Derived.Test.YtmompdklolomfaaAbOps14
import Derived.Shelf.SlSortCmp.NoneTotal
namespace Go.Proofs.Ytmompdklolomfaa.Ab
open Go Go.RowKit
set_option linter.unusedVariables false
set_option linter.unusedSimpArgs false
variable {P : Program} {N : Nat} {ops : Array Oper} {dst : Option Tmp} {type : TypeId} {pos : String} {after : Array Edge} {guard : Option (Nat × Bool)} {s : St}
end Go.Proofs.Ytmompdklolomfaa.Ab
namespace Go.Proofs.Ytmompdklolomfaa.Ab
open Go Go.RowKit Go.Shelf Go.Lib Go.Proofs
set_option linter.unusedVariables false
set_option linter.unusedSimpArgs false
variable {P : Program} {ρ : Ren}
def valOf : PV → Value
 | .bool b => .bool b
 | .int k n => .int k n
 | .str s => .string s
 | _ => Go.undef
def PV.exact : PV → Bool
 | .bool _ => true
 | .int _ _ => true
 | .str _ => true
 | _ => false
theorem grown_of {w w' : World} {M M' : Nat → Prop} (h : Fr w w' M M') (hM : ∀ b, ¬ M b) : ∃ q os', w' = Sort.grow (w.drewN q) os' := by
 refine ⟨w'.drawn - w.drawn, w'.heap.extract w.heap.size w'.heap.size, ?_⟩
 obtain ⟨heap', tape', drawn', os', output'⟩ := w'
 have e1 : os' = w.os := h.os
 have e2 : tape' = w.tape := h.tape
 have e3 : output' = w.output := h.output
 have hs : w.heap.size ≤ heap'.size := h.size
 have hb : ∀ k, k < w.heap.size → heap'[k]? = w.heap[k]? := fun k hk => h.block k hk (hM k)
 have hd : w.drawn ≤ drawn' := h.drawn
 subst e1 e2 e3
 have eh : heap' = w.heap ++ heap'.extract w.heap.size heap'.size := by
  apply Array.ext_getElem?
  intro k
  by_cases hk : k < w.heap.size
  ·rw [Array.getElem?_append_left hk]; exact hb k hk
  ·rw [Array.getElem?_append_right (by omega), Array.getElem?_extract]
   by_cases hk2 : k < heap'.size
   ·rw [if_pos (by omega)]; congr 1; omega
   ·rw [if_neg (by omega), Array.getElem?_eq_none (by omega)]
 have ed : drawn' = w.drawn + (drawn' - w.drawn) := by omega
 simp only [Sort.grow, World.drewN]
 rw [← eh, ← ed]
theorem bst_nil (tag : Nat) (X : Ctx) (J : Site) (g : Nat) : ¬ OMut (bst [] [] tag X) J g := by
 rintro ⟨d, n, o, v, h, _⟩
 simp only [bst] at h
 split at h
 ·simp at h
 ·split at h
  ·simp at h
  ·cases h
variable {α : Type} [Inhabited α]
def sortF (cf : α → α → Int) (l : List α) : List α := (Sort.pdq (ltOf cf) l.toArray 0 l.length (Lib.bitLen l.length) true true).toList
variable {N : Nat} {ops : Array Oper} {s : St} {dst : Option Tmp} {type : TypeId} {pos : String} {after : Array Edge} {guard : Option (Nat × Bool)}
structure SortOk (cmp : α → α → Option Int) : Prop where
 all : ∀ x y, ∃ r, cmp x y = some r
 swo : Sort.SWO (ltOf fun x y => (cmp x y).getD 0)
def sortO (cmp : α → α → Option Int) (l : List α) : Option (List α) := gd (l.length < 4611686018427387904) (some (sortF (fun x y => (cmp x y).getD 0) l))
end Go.Proofs.Ytmompdklolomfaa.Ab
