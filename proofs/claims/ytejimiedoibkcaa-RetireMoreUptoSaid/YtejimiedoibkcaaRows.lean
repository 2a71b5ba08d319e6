/-
  No cell of these rows narrows 'for every input' (looked for: loops, veiled, ifaces, maps, wideKeys, modest, calm, conditions, laid).
  DERIVED. THE GIVEN ROWS OF THIS SEAT. 4 by the template 'for every input the law returns true; each argument reads behind the call as it read before'; 0 by the template 'total and deterministic' (their statements: YtejimiedoibkcaaTotals.lean).
  GIVEN WITH THE SEED: the statements are not yours to turn. If you find one false, say at which input.
  Laid BY PROGRAM, IN A SANDBOX (cutbox-rows.mjs): the forced cells as the released guide's own fill.sh prints them over the translation 9a7c4e2578f91ebf… (all of the seat's roots in one cut). By AI agents, Wed Nov 11 2026. No macro, syntax, notation, axiom, sorry.
-/
import Derived.Test.YtejimiedoibkcaaChecked
import GoSem.Claim
import GoSem.ClaimJoined
import GoSem.ClaimMapViews
import Derived.JoinedTies
import Derived.KernelRfl
namespace Go.Proofs.Ytejimiedoibkcaa
/- THE CELL 'sum', in the pinned program and in every row, IS THE sha256 OF THE DUMP (.gsa) THAT YtejimiedoibkcaaProg.lean LOADS. Nothing in Lean hashes anything: it is a label: what it is worth is what the hold of that sum in a sandbox is worth. -/
noncomputable def Try.pinned : Pinned := { name := "ytejimiedoibkcaa", sum := "9a7c4e2578f91ebf6d20e7c808a38861688b7b0a6d14be975b0276453eec6dab", checked := Try.checked }
namespace Rows
def none {H : Type} : Left H := { results := [], args := [] }

/-- 'gleaninglaw20.RetireTells': WHATEVER THE INPUT: true; the input reads as it did. -/
def retireTellsSpec : ChangeSpec := { name := "retireTells", fn := fun _ => fun
  | [d1, d2, d3, d4] => { results := [.lit (.bool true)], args := [d1, d2, d3, d4] }
  | _ => none }
def retireTellsRow : OpenClaim := { program := "ytejimiedoibkcaa", sum := "9a7c4e2578f91ebf6d20e7c808a38861688b7b0a6d14be975b0276453eec6dab", func := "gleaning/gleaninglaw20.RetireTells", spec := "retireTells", unfollowed := true, recurses := true, apart := false }
def RetireTellsSaid : Prop := retireTellsRow.holds Try.pinned (OpenSpec.ofChange retireTellsSpec)

/-- ITS FALSE NEIGHBOUR: 'it returns false'. Refute it at one input. -/
def retireTellsWrong : ChangeSpec := { name := "retireTells", fn := fun _ => fun
  | [d1, d2, d3, d4] => { results := [.lit (.bool false)], args := [d1, d2, d3, d4] }
  | _ => none }
def RetireTellsWrongFalsely : Prop := retireTellsRow.holds Try.pinned (OpenSpec.ofChange retireTellsWrong)

/-- 'gleaninglaw20.RetireBounds': WHATEVER THE INPUT: true; the input reads as it did. -/
def retireBoundsSpec : ChangeSpec := { name := "retireBounds", fn := fun _ => fun
  | [d1, d2, d3, d4] => { results := [.lit (.bool true)], args := [d1, d2, d3, d4] }
  | _ => none }
def retireBoundsRow : OpenClaim := { program := "ytejimiedoibkcaa", sum := "9a7c4e2578f91ebf6d20e7c808a38861688b7b0a6d14be975b0276453eec6dab", func := "gleaning/gleaninglaw20.RetireBounds", spec := "retireBounds", unfollowed := true, recurses := true, apart := false }
def RetireBoundsSaid : Prop := retireBoundsRow.holds Try.pinned (OpenSpec.ofChange retireBoundsSpec)

/-- ITS FALSE NEIGHBOUR: 'it returns false'. Refute it at one input. -/
def retireBoundsWrong : ChangeSpec := { name := "retireBounds", fn := fun _ => fun
  | [d1, d2, d3, d4] => { results := [.lit (.bool false)], args := [d1, d2, d3, d4] }
  | _ => none }
def RetireBoundsWrongFalsely : Prop := retireBoundsRow.holds Try.pinned (OpenSpec.ofChange retireBoundsWrong)

/-- 'gleaninglaw20.RetireNone': WHATEVER THE INPUT: true; the input reads as it did. -/
def retireNoneSpec : ChangeSpec := { name := "retireNone", fn := fun _ => fun
  | [d1, d2] => { results := [.lit (.bool true)], args := [d1, d2] }
  | _ => none }
def retireNoneRow : OpenClaim := { program := "ytejimiedoibkcaa", sum := "9a7c4e2578f91ebf6d20e7c808a38861688b7b0a6d14be975b0276453eec6dab", func := "gleaning/gleaninglaw20.RetireNone", spec := "retireNone", unfollowed := true, recurses := true, apart := false }
def RetireNoneSaid : Prop := retireNoneRow.holds Try.pinned (OpenSpec.ofChange retireNoneSpec)

/-- ITS FALSE NEIGHBOUR: 'it returns false'. Refute it at one input. -/
def retireNoneWrong : ChangeSpec := { name := "retireNone", fn := fun _ => fun
  | [d1, d2] => { results := [.lit (.bool false)], args := [d1, d2] }
  | _ => none }
def RetireNoneWrongFalsely : Prop := retireNoneRow.holds Try.pinned (OpenSpec.ofChange retireNoneWrong)

/-- 'gleaninglaw20.RetireMore': WHATEVER THE INPUT: true; the input reads as it did. -/
def retireMoreSpec : ChangeSpec := { name := "retireMore", fn := fun _ => fun
  | [d1, d2, d3, d4, d5, d6] => { results := [.lit (.bool true)], args := [d1, d2, d3, d4, d5, d6] }
  | _ => none }
def retireMoreRow : OpenClaim := { program := "ytejimiedoibkcaa", sum := "9a7c4e2578f91ebf6d20e7c808a38861688b7b0a6d14be975b0276453eec6dab", func := "gleaning/gleaninglaw20.RetireMore", spec := "retireMore", unfollowed := true, recurses := true, apart := false }
def RetireMoreSaid : Prop := retireMoreRow.holds Try.pinned (OpenSpec.ofChange retireMoreSpec)

/-- ITS FALSE NEIGHBOUR: 'it returns false'. Refute it at one input. -/
def retireMoreWrong : ChangeSpec := { name := "retireMore", fn := fun _ => fun
  | [d1, d2, d3, d4, d5, d6] => { results := [.lit (.bool false)], args := [d1, d2, d3, d4, d5, d6] }
  | _ => none }
def RetireMoreWrongFalsely : Prop := retireMoreRow.holds Try.pinned (OpenSpec.ofChange retireMoreWrong)

/- THE SECOND FORM. 'bulk': how many values and letters a reading holds, each counted each time it is reached (what is shared counts as often as it is met; a slice's spare places count too). A statement '..UptoSaid' is the law's where the arguments, and the package variables that the reading takes, are together of bulk at most 1048576: NARROWER than '..Said'. Prove '..Said' where nothing that the law and all that it calls make is longer than what came in: it says more and counts as full. Else prove '..UptoSaid'. A law counts once. -/
mutual
def uptoBulk {H : Type} : DataW H → Nat
  | .lit (.string bytes) => bytes.length + 1
  | .lit _ => 1
  | .nil => 1
  | .ptr d => uptoBulk d + 1
  | .slice elems spare => uptoBulkAll elems + uptoBulkAll spare + 1
  | .agg parts => uptoBulkAll parts + 1
  | .iface _ d => uptoBulk d + 1
  | .map entries => uptoBulkEntries entries + 1
  | .held _ => 1
def uptoBulkAll {H : Type} : List (DataW H) → Nat
  | [] => 0
  | d :: r => uptoBulk d + uptoBulkAll r
def uptoBulkEntries {H : Type} : List (Lit × DataW H) → Nat
  | [] => 0
  | x :: r => uptoBulkEntry x + uptoBulkEntries r
def uptoBulkEntry {H : Type} : Lit × DataW H → Nat
  | (.string bytes, d) => bytes.length + uptoBulk d + 1
  | (_, d) => uptoBulk d + 1
 end
def uptoSmall : (H : Type) → List (DataW H) → Bool := fun _ ds => decide (uptoBulkAll ds ≤ 1048576)
def OpenSpec.upto (s : _root_.Go.ChangeSpec) : _root_.Go.OpenSpec := { _root_.Go.OpenSpec.ofChange s with cond := some uptoSmall }

/-- 'gleaninglaw20.RetireTells', WHERE WHAT IT READS IS OF BULK AT MOST 1048576: true; the input reads as it did. -/
def retireTellsUptoRow : OpenClaim := { program := "ytejimiedoibkcaa", sum := "9a7c4e2578f91ebf6d20e7c808a38861688b7b0a6d14be975b0276453eec6dab", func := "gleaning/gleaninglaw20.RetireTells", spec := "retireTells", unfollowed := true, recurses := true, apart := false, narrowed := true }
def RetireTellsUptoSaid : Prop := retireTellsUptoRow.holds Try.pinned (OpenSpec.upto retireTellsSpec)

/-- 'gleaninglaw20.RetireBounds', WHERE WHAT IT READS IS OF BULK AT MOST 1048576: true; the input reads as it did. -/
def retireBoundsUptoRow : OpenClaim := { program := "ytejimiedoibkcaa", sum := "9a7c4e2578f91ebf6d20e7c808a38861688b7b0a6d14be975b0276453eec6dab", func := "gleaning/gleaninglaw20.RetireBounds", spec := "retireBounds", unfollowed := true, recurses := true, apart := false, narrowed := true }
def RetireBoundsUptoSaid : Prop := retireBoundsUptoRow.holds Try.pinned (OpenSpec.upto retireBoundsSpec)

/-- 'gleaninglaw20.RetireNone', WHERE WHAT IT READS IS OF BULK AT MOST 1048576: true; the input reads as it did. -/
def retireNoneUptoRow : OpenClaim := { program := "ytejimiedoibkcaa", sum := "9a7c4e2578f91ebf6d20e7c808a38861688b7b0a6d14be975b0276453eec6dab", func := "gleaning/gleaninglaw20.RetireNone", spec := "retireNone", unfollowed := true, recurses := true, apart := false, narrowed := true }
def RetireNoneUptoSaid : Prop := retireNoneUptoRow.holds Try.pinned (OpenSpec.upto retireNoneSpec)

/-- 'gleaninglaw20.RetireMore', WHERE WHAT IT READS IS OF BULK AT MOST 1048576: true; the input reads as it did. -/
def retireMoreUptoRow : OpenClaim := { program := "ytejimiedoibkcaa", sum := "9a7c4e2578f91ebf6d20e7c808a38861688b7b0a6d14be975b0276453eec6dab", func := "gleaning/gleaninglaw20.RetireMore", spec := "retireMore", unfollowed := true, recurses := true, apart := false, narrowed := true }
def RetireMoreUptoSaid : Prop := retireMoreUptoRow.holds Try.pinned (OpenSpec.upto retireMoreSpec)

end Rows
end Go.Proofs.Ytejimiedoibkcaa
