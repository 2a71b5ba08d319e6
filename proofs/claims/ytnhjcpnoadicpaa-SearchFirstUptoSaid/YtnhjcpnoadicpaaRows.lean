/-
  No cell of these rows narrows 'for every input' (looked for: loops, veiled, ifaces, maps, wideKeys, modest, calm, conditions, laid).
  DERIVED. THE GIVEN ROWS OF THIS SEAT. 4 by the template 'for every input the law returns true; each argument reads behind the call as it read before'; 0 by the template 'total and deterministic' (their statements: YtnhjcpnoadicpaaTotals.lean).
  GIVEN WITH THE SEED: the statements are not yours to turn. If you find one false, say at which input.
  Laid BY PROGRAM, IN A SANDBOX (cutbox-rows.mjs): the forced cells as the released guide's own fill.sh prints them over the translation 74b187e64033012c… (all of the seat's roots in one cut). By AI agents, Wed Nov 11 2026. No macro, syntax, notation, axiom, sorry.
-/
import Derived.Test.YtnhjcpnoadicpaaChecked
import GoSem.Claim
import GoSem.ClaimJoined
import GoSem.ClaimMapViews
import Derived.JoinedTies
import Derived.KernelRfl
namespace Go.Proofs.Ytnhjcpnoadicpaa
/- THE CELL 'sum', in the pinned program and in every row, IS THE sha256 OF THE DUMP (.gsa) THAT YtnhjcpnoadicpaaProg.lean LOADS. Nothing in Lean hashes anything: it is a label: what it is worth is what the hold of that sum in a sandbox is worth. -/
noncomputable def Try.pinned : Pinned := { name := "ytnhjcpnoadicpaa", sum := "74b187e64033012ce6fef50e3e47ac80ab619078fe24b939a7672c5ef4f7a9f3", checked := Try.checked }
namespace Rows
def none {H : Type} : Left H := { results := [], args := [] }

/-- 'gleaninglaw32.SearchTells': WHATEVER THE INPUT: true; the input reads as it did. -/
def searchTellsSpec : ChangeSpec := { name := "searchTells", fn := fun _ => fun
  | [d1, d2, d3, d4] => { results := [.lit (.bool true)], args := [d1, d2, d3, d4] }
  | _ => none }
def searchTellsRow : OpenClaim := { program := "ytnhjcpnoadicpaa", sum := "74b187e64033012ce6fef50e3e47ac80ab619078fe24b939a7672c5ef4f7a9f3", func := "gleaning/gleaninglaw32.SearchTells", spec := "searchTells", unfollowed := true, recurses := true, apart := false }
def SearchTellsSaid : Prop := searchTellsRow.holds Try.pinned (OpenSpec.ofChange searchTellsSpec)

/-- ITS FALSE NEIGHBOUR: 'it returns false'. Refute it at one input. -/
def searchTellsWrong : ChangeSpec := { name := "searchTells", fn := fun _ => fun
  | [d1, d2, d3, d4] => { results := [.lit (.bool false)], args := [d1, d2, d3, d4] }
  | _ => none }
def SearchTellsWrongFalsely : Prop := searchTellsRow.holds Try.pinned (OpenSpec.ofChange searchTellsWrong)

/-- 'gleaninglaw32.SearchNarrows': WHATEVER THE INPUT: true; the input reads as it did. -/
def searchNarrowsSpec : ChangeSpec := { name := "searchNarrows", fn := fun _ => fun
  | [d1, d2, d3] => { results := [.lit (.bool true)], args := [d1, d2, d3] }
  | _ => none }
def searchNarrowsRow : OpenClaim := { program := "ytnhjcpnoadicpaa", sum := "74b187e64033012ce6fef50e3e47ac80ab619078fe24b939a7672c5ef4f7a9f3", func := "gleaning/gleaninglaw32.SearchNarrows", spec := "searchNarrows", unfollowed := true, recurses := true, apart := false }
def SearchNarrowsSaid : Prop := searchNarrowsRow.holds Try.pinned (OpenSpec.ofChange searchNarrowsSpec)

/-- ITS FALSE NEIGHBOUR: 'it returns false'. Refute it at one input. -/
def searchNarrowsWrong : ChangeSpec := { name := "searchNarrows", fn := fun _ => fun
  | [d1, d2, d3] => { results := [.lit (.bool false)], args := [d1, d2, d3] }
  | _ => none }
def SearchNarrowsWrongFalsely : Prop := searchNarrowsRow.holds Try.pinned (OpenSpec.ofChange searchNarrowsWrong)

/-- 'gleaninglaw32.SearchMerged': WHATEVER THE INPUT: true; the input reads as it did. -/
def searchMergedSpec : ChangeSpec := { name := "searchMerged", fn := fun _ => fun
  | [d1, d2] => { results := [.lit (.bool true)], args := [d1, d2] }
  | _ => none }
def searchMergedRow : OpenClaim := { program := "ytnhjcpnoadicpaa", sum := "74b187e64033012ce6fef50e3e47ac80ab619078fe24b939a7672c5ef4f7a9f3", func := "gleaning/gleaninglaw32.SearchMerged", spec := "searchMerged", unfollowed := true, recurses := true, apart := false }
def SearchMergedSaid : Prop := searchMergedRow.holds Try.pinned (OpenSpec.ofChange searchMergedSpec)

/-- ITS FALSE NEIGHBOUR: 'it returns false'. Refute it at one input. -/
def searchMergedWrong : ChangeSpec := { name := "searchMerged", fn := fun _ => fun
  | [d1, d2] => { results := [.lit (.bool false)], args := [d1, d2] }
  | _ => none }
def SearchMergedWrongFalsely : Prop := searchMergedRow.holds Try.pinned (OpenSpec.ofChange searchMergedWrong)

/-- 'gleaninglaw32.SearchFirst': WHATEVER THE INPUT: true; the input reads as it did. -/
def searchFirstSpec : ChangeSpec := { name := "searchFirst", fn := fun _ => fun
  | [d1, d2, d3] => { results := [.lit (.bool true)], args := [d1, d2, d3] }
  | _ => none }
def searchFirstRow : OpenClaim := { program := "ytnhjcpnoadicpaa", sum := "74b187e64033012ce6fef50e3e47ac80ab619078fe24b939a7672c5ef4f7a9f3", func := "gleaning/gleaninglaw32.SearchFirst", spec := "searchFirst", unfollowed := true, recurses := true, apart := false }
def SearchFirstSaid : Prop := searchFirstRow.holds Try.pinned (OpenSpec.ofChange searchFirstSpec)

/-- ITS FALSE NEIGHBOUR: 'it returns false'. Refute it at one input. -/
def searchFirstWrong : ChangeSpec := { name := "searchFirst", fn := fun _ => fun
  | [d1, d2, d3] => { results := [.lit (.bool false)], args := [d1, d2, d3] }
  | _ => none }
def SearchFirstWrongFalsely : Prop := searchFirstRow.holds Try.pinned (OpenSpec.ofChange searchFirstWrong)

/- THE SECOND FORM. 'bulk': how many values and letters a reading holds, each counted each time it is reached (what is shared counts as often as it is met; a slice's spare places count too). A statement '..UptoSaid' is the law's where the arguments, and the package variables that the reading takes, are together of bulk at most 1048576: NARROWER than '..Said'. Prove '..Said' where nothing that the law and all that it calls make is longer than what came in: it says more and counts as full. Else prove '..UptoSaid'. A law counts once. -/
mutual
def uptoBulk {H : Type} : DataW H → Nat
  | .lit (.string bytes) => bytes.length + 1
  | .lit _ => 1
  | .nil => 1
  | .ptr d => uptoBulk d + 1
  | .slice elems spare => uptoBulkAll elems + uptoBulkAll spare + 1
  | .agg parts => uptoBulkAll parts + 1
  | .iface _ d => uptoBulk d + 1
  | .map entries => uptoBulkEntries entries + 1
  | .held _ => 1
def uptoBulkAll {H : Type} : List (DataW H) → Nat
  | [] => 0
  | d :: r => uptoBulk d + uptoBulkAll r
def uptoBulkEntries {H : Type} : List (Lit × DataW H) → Nat
  | [] => 0
  | x :: r => uptoBulkEntry x + uptoBulkEntries r
def uptoBulkEntry {H : Type} : Lit × DataW H → Nat
  | (.string bytes, d) => bytes.length + uptoBulk d + 1
  | (_, d) => uptoBulk d + 1
 end
def uptoSmall : (H : Type) → List (DataW H) → Bool := fun _ ds => decide (uptoBulkAll ds ≤ 1048576)
def OpenSpec.upto (s : _root_.Go.ChangeSpec) : _root_.Go.OpenSpec := { _root_.Go.OpenSpec.ofChange s with cond := some uptoSmall }

/-- 'gleaninglaw32.SearchTells', WHERE WHAT IT READS IS OF BULK AT MOST 1048576: true; the input reads as it did. -/
def searchTellsUptoRow : OpenClaim := { program := "ytnhjcpnoadicpaa", sum := "74b187e64033012ce6fef50e3e47ac80ab619078fe24b939a7672c5ef4f7a9f3", func := "gleaning/gleaninglaw32.SearchTells", spec := "searchTells", unfollowed := true, recurses := true, apart := false, narrowed := true }
def SearchTellsUptoSaid : Prop := searchTellsUptoRow.holds Try.pinned (OpenSpec.upto searchTellsSpec)

/-- 'gleaninglaw32.SearchNarrows', WHERE WHAT IT READS IS OF BULK AT MOST 1048576: true; the input reads as it did. -/
def searchNarrowsUptoRow : OpenClaim := { program := "ytnhjcpnoadicpaa", sum := "74b187e64033012ce6fef50e3e47ac80ab619078fe24b939a7672c5ef4f7a9f3", func := "gleaning/gleaninglaw32.SearchNarrows", spec := "searchNarrows", unfollowed := true, recurses := true, apart := false, narrowed := true }
def SearchNarrowsUptoSaid : Prop := searchNarrowsUptoRow.holds Try.pinned (OpenSpec.upto searchNarrowsSpec)

/-- 'gleaninglaw32.SearchMerged', WHERE WHAT IT READS IS OF BULK AT MOST 1048576: true; the input reads as it did. -/
def searchMergedUptoRow : OpenClaim := { program := "ytnhjcpnoadicpaa", sum := "74b187e64033012ce6fef50e3e47ac80ab619078fe24b939a7672c5ef4f7a9f3", func := "gleaning/gleaninglaw32.SearchMerged", spec := "searchMerged", unfollowed := true, recurses := true, apart := false, narrowed := true }
def SearchMergedUptoSaid : Prop := searchMergedUptoRow.holds Try.pinned (OpenSpec.upto searchMergedSpec)

/-- 'gleaninglaw32.SearchFirst', WHERE WHAT IT READS IS OF BULK AT MOST 1048576: true; the input reads as it did. -/
def searchFirstUptoRow : OpenClaim := { program := "ytnhjcpnoadicpaa", sum := "74b187e64033012ce6fef50e3e47ac80ab619078fe24b939a7672c5ef4f7a9f3", func := "gleaning/gleaninglaw32.SearchFirst", spec := "searchFirst", unfollowed := true, recurses := true, apart := false, narrowed := true }
def SearchFirstUptoSaid : Prop := searchFirstUptoRow.holds Try.pinned (OpenSpec.upto searchFirstSpec)

end Rows
end Go.Proofs.Ytnhjcpnoadicpaa
