/-
  No cell of these rows narrows 'for every input' (looked for: loops, veiled, ifaces, maps, wideKeys, modest, calm, conditions, laid).
  DERIVED. THE GIVEN ROWS OF THIS SEAT. 3 by the template 'for every input the law returns true; each argument reads behind the call as it read before'; 0 by the template 'total and deterministic' (their statements: YtmhbopjjkgjbnaaTotals.lean).
  GIVEN WITH THE SEED: the statements are not yours to turn. If you find one false, say at which input.
  Laid BY PROGRAM, IN A SANDBOX (cutbox-rows.mjs): the forced cells as the released guide's own fill.sh prints them over the translation 92be2e81e8faab42… (all of the seat's roots in one cut). By AI agents, Wed Nov 11 2026. No macro, syntax, notation, axiom, sorry.
-/
import Derived.Test.YtmhbopjjkgjbnaaChecked
import GoSem.Claim
import GoSem.ClaimJoined
import GoSem.ClaimMapViews
import Derived.JoinedTies
import Derived.KernelRfl
namespace Go.Proofs.Ytmhbopjjkgjbnaa
/- THE CELL 'sum', in the pinned program and in every row, IS THE sha256 OF THE DUMP (.gsa) THAT YtmhbopjjkgjbnaaProg.lean LOADS. Nothing in Lean hashes anything: it is a label: what it is worth is what the hold of that sum in a sandbox is worth. -/
noncomputable def Try.pinned : Pinned := { name := "ytmhbopjjkgjbnaa", sum := "92be2e81e8faab4224f0cdbfae7120251d96a6a32ed2ef5ce852469c88342084", checked := Try.checked }
namespace Rows
def none {H : Type} : Left H := { results := [], args := [] }

/-- 'gleaninglaw31.QuantTells': WHATEVER THE INPUT: true; the input reads as it did. -/
def quantTellsSpec : ChangeSpec := { name := "quantTells", fn := fun _ => fun
  | [d1, d2] => { results := [.lit (.bool true)], args := [d1, d2] }
  | _ => none }
def quantTellsRow : OpenClaim := { program := "ytmhbopjjkgjbnaa", sum := "92be2e81e8faab4224f0cdbfae7120251d96a6a32ed2ef5ce852469c88342084", func := "gleaning/gleaninglaw31.QuantTells", spec := "quantTells", named := ["math/bits.divideError", "math/bits.overflowError"], apart := false }
def QuantTellsSaid : Prop := quantTellsRow.holds Try.pinned (OpenSpec.ofChange quantTellsSpec)

/-- ITS FALSE NEIGHBOUR: 'it returns false'. Refute it at one input. -/
def quantTellsWrong : ChangeSpec := { name := "quantTells", fn := fun _ => fun
  | [d1, d2] => { results := [.lit (.bool false)], args := [d1, d2] }
  | _ => none }
def QuantTellsWrongFalsely : Prop := quantTellsRow.holds Try.pinned (OpenSpec.ofChange quantTellsWrong)

/-- 'gleaninglaw31.QuantSorts': WHATEVER THE INPUT: true; the input reads as it did. -/
def quantSortsSpec : ChangeSpec := { name := "quantSorts", fn := fun _ => fun
  | [d1, d2] => { results := [.lit (.bool true)], args := [d1, d2] }
  | _ => none }
def quantSortsRow : OpenClaim := { program := "ytmhbopjjkgjbnaa", sum := "92be2e81e8faab4224f0cdbfae7120251d96a6a32ed2ef5ce852469c88342084", func := "gleaning/gleaninglaw31.QuantSorts", spec := "quantSorts", named := ["math/bits.divideError", "math/bits.overflowError"], apart := false }
def QuantSortsSaid : Prop := quantSortsRow.holds Try.pinned (OpenSpec.ofChange quantSortsSpec)

/-- ITS FALSE NEIGHBOUR: 'it returns false'. Refute it at one input. -/
def quantSortsWrong : ChangeSpec := { name := "quantSorts", fn := fun _ => fun
  | [d1, d2] => { results := [.lit (.bool false)], args := [d1, d2] }
  | _ => none }
def QuantSortsWrongFalsely : Prop := quantSortsRow.holds Try.pinned (OpenSpec.ofChange quantSortsWrong)

/-- 'gleaninglaw31.QuantOrder': WHATEVER THE INPUT: true; the input reads as it did. -/
def quantOrderSpec : ChangeSpec := { name := "quantOrder", fn := fun _ => fun
  | [d1, d2, d3] => { results := [.lit (.bool true)], args := [d1, d2, d3] }
  | _ => none }
def quantOrderRow : OpenClaim := { program := "ytmhbopjjkgjbnaa", sum := "92be2e81e8faab4224f0cdbfae7120251d96a6a32ed2ef5ce852469c88342084", func := "gleaning/gleaninglaw31.QuantOrder", spec := "quantOrder", named := ["math/bits.divideError", "math/bits.overflowError"], apart := false }
def QuantOrderSaid : Prop := quantOrderRow.holds Try.pinned (OpenSpec.ofChange quantOrderSpec)

/-- ITS FALSE NEIGHBOUR: 'it returns false'. Refute it at one input. -/
def quantOrderWrong : ChangeSpec := { name := "quantOrder", fn := fun _ => fun
  | [d1, d2, d3] => { results := [.lit (.bool false)], args := [d1, d2, d3] }
  | _ => none }
def QuantOrderWrongFalsely : Prop := quantOrderRow.holds Try.pinned (OpenSpec.ofChange quantOrderWrong)

/- THE SECOND FORM. 'bulk': how many values and letters a reading holds, each counted each time it is reached (what is shared counts as often as it is met; a slice's spare places count too). A statement '..UptoSaid' is the law's where the arguments, and the package variables that the reading takes, are together of bulk at most 1048576: NARROWER than '..Said'. Prove '..Said' where nothing that the law and all that it calls make is longer than what came in: it says more and counts as full. Else prove '..UptoSaid'. A law counts once. -/
mutual
def uptoBulk {H : Type} : DataW H → Nat
  | .lit (.string bytes) => bytes.length + 1
  | .lit _ => 1
  | .nil => 1
  | .ptr d => uptoBulk d + 1
  | .slice elems spare => uptoBulkAll elems + uptoBulkAll spare + 1
  | .agg parts => uptoBulkAll parts + 1
  | .iface _ d => uptoBulk d + 1
  | .map entries => uptoBulkEntries entries + 1
  | .held _ => 1
def uptoBulkAll {H : Type} : List (DataW H) → Nat
  | [] => 0
  | d :: r => uptoBulk d + uptoBulkAll r
def uptoBulkEntries {H : Type} : List (Lit × DataW H) → Nat
  | [] => 0
  | x :: r => uptoBulkEntry x + uptoBulkEntries r
def uptoBulkEntry {H : Type} : Lit × DataW H → Nat
  | (.string bytes, d) => bytes.length + uptoBulk d + 1
  | (_, d) => uptoBulk d + 1
 end
def uptoSmall : (H : Type) → List (DataW H) → Bool := fun _ ds => decide (uptoBulkAll ds ≤ 1048576)
def OpenSpec.upto (s : _root_.Go.ChangeSpec) : _root_.Go.OpenSpec := { _root_.Go.OpenSpec.ofChange s with cond := some uptoSmall }

/-- 'gleaninglaw31.QuantTells', WHERE WHAT IT READS IS OF BULK AT MOST 1048576: true; the input reads as it did. -/
def quantTellsUptoRow : OpenClaim := { program := "ytmhbopjjkgjbnaa", sum := "92be2e81e8faab4224f0cdbfae7120251d96a6a32ed2ef5ce852469c88342084", func := "gleaning/gleaninglaw31.QuantTells", spec := "quantTells", named := ["math/bits.divideError", "math/bits.overflowError"], apart := false, narrowed := true }
def QuantTellsUptoSaid : Prop := quantTellsUptoRow.holds Try.pinned (OpenSpec.upto quantTellsSpec)

/-- 'gleaninglaw31.QuantSorts', WHERE WHAT IT READS IS OF BULK AT MOST 1048576: true; the input reads as it did. -/
def quantSortsUptoRow : OpenClaim := { program := "ytmhbopjjkgjbnaa", sum := "92be2e81e8faab4224f0cdbfae7120251d96a6a32ed2ef5ce852469c88342084", func := "gleaning/gleaninglaw31.QuantSorts", spec := "quantSorts", named := ["math/bits.divideError", "math/bits.overflowError"], apart := false, narrowed := true }
def QuantSortsUptoSaid : Prop := quantSortsUptoRow.holds Try.pinned (OpenSpec.upto quantSortsSpec)

/-- 'gleaninglaw31.QuantOrder', WHERE WHAT IT READS IS OF BULK AT MOST 1048576: true; the input reads as it did. -/
def quantOrderUptoRow : OpenClaim := { program := "ytmhbopjjkgjbnaa", sum := "92be2e81e8faab4224f0cdbfae7120251d96a6a32ed2ef5ce852469c88342084", func := "gleaning/gleaninglaw31.QuantOrder", spec := "quantOrder", named := ["math/bits.divideError", "math/bits.overflowError"], apart := false, narrowed := true }
def QuantOrderUptoSaid : Prop := quantOrderUptoRow.holds Try.pinned (OpenSpec.upto quantOrderSpec)

end Rows
end Go.Proofs.Ytmhbopjjkgjbnaa
