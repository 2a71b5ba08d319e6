/-
  NARROWER THAN 'FOR EVERY INPUT', by the rows' own cells (each row's printed sentence says how): KeeperTells: loops.
  DERIVED. THE GIVEN ROWS OF THIS SEAT. 17 by the template 'for every input the law returns true; each argument reads behind the call as it read before'; 0 by the template 'total and deterministic' (their statements: YtfpnnipbggbceaaTotals.lean).
  GIVEN WITH THE SEED: the statements are not yours to turn. If you find one false, say at which input.
  Laid BY PROGRAM, IN A SANDBOX (cutbox-rows.mjs): the forced cells as the released guide's own fill.sh prints them over the translation 6b7434c3dc24ae77… (all of the seat's roots in one cut). By AI agents, Wed Nov 11 2026. No macro, syntax, notation, axiom, sorry.
-/
import Derived.Test.YtfpnnipbggbceaaChecked
import GoSem.Claim
import GoSem.ClaimJoined
import GoSem.ClaimMapViews
import Derived.JoinedTies
import Derived.KernelRfl
namespace Go.Proofs.Ytfpnnipbggbceaa
/- THE CELL 'sum', in the pinned program and in every row, IS THE sha256 OF THE DUMP (.gsa) THAT YtfpnnipbggbceaaProg.lean LOADS. Nothing in Lean hashes anything: it is a label: what it is worth is what the hold of that sum in a sandbox is worth. -/
noncomputable def Try.pinned : Pinned := { name := "ytfpnnipbggbceaa", sum := "6b7434c3dc24ae7769ad5b34cc344c90d7953bde97ac0e6b4d5220892669ebdc", checked := Try.checked }
namespace Rows
def none {H : Type} : Left H := { results := [], args := [] }

/-- 'gleaninglaw31.QuantTells': WHATEVER THE INPUT: true; the input reads as it did. -/
def quantTellsSpec : ChangeSpec := { name := "quantTells", fn := fun _ => fun
  | [d1, d2] => { results := [.lit (.bool true)], args := [d1, d2] }
  | _ => none }
def quantTellsRow : OpenClaim := { program := "ytfpnnipbggbceaa", sum := "6b7434c3dc24ae7769ad5b34cc344c90d7953bde97ac0e6b4d5220892669ebdc", func := "gleaning/gleaninglaw31.QuantTells", spec := "quantTells", named := ["math/bits.divideError", "math/bits.overflowError"], apart := false }
def QuantTellsSaid : Prop := quantTellsRow.holds Try.pinned (OpenSpec.ofChange quantTellsSpec)

/-- ITS FALSE NEIGHBOUR: 'it returns false'. Refute it at one input. -/
def quantTellsWrong : ChangeSpec := { name := "quantTells", fn := fun _ => fun
  | [d1, d2] => { results := [.lit (.bool false)], args := [d1, d2] }
  | _ => none }
def QuantTellsWrongFalsely : Prop := quantTellsRow.holds Try.pinned (OpenSpec.ofChange quantTellsWrong)

/-- 'gleaninglaw31.QuantSorts': WHATEVER THE INPUT: true; the input reads as it did. -/
def quantSortsSpec : ChangeSpec := { name := "quantSorts", fn := fun _ => fun
  | [d1, d2] => { results := [.lit (.bool true)], args := [d1, d2] }
  | _ => none }
def quantSortsRow : OpenClaim := { program := "ytfpnnipbggbceaa", sum := "6b7434c3dc24ae7769ad5b34cc344c90d7953bde97ac0e6b4d5220892669ebdc", func := "gleaning/gleaninglaw31.QuantSorts", spec := "quantSorts", named := ["math/bits.divideError", "math/bits.overflowError"], apart := false }
def QuantSortsSaid : Prop := quantSortsRow.holds Try.pinned (OpenSpec.ofChange quantSortsSpec)

/-- ITS FALSE NEIGHBOUR: 'it returns false'. Refute it at one input. -/
def quantSortsWrong : ChangeSpec := { name := "quantSorts", fn := fun _ => fun
  | [d1, d2] => { results := [.lit (.bool false)], args := [d1, d2] }
  | _ => none }
def QuantSortsWrongFalsely : Prop := quantSortsRow.holds Try.pinned (OpenSpec.ofChange quantSortsWrong)

/-- 'gleaninglaw31.QuantOrder': WHATEVER THE INPUT: true; the input reads as it did. -/
def quantOrderSpec : ChangeSpec := { name := "quantOrder", fn := fun _ => fun
  | [d1, d2, d3] => { results := [.lit (.bool true)], args := [d1, d2, d3] }
  | _ => none }
def quantOrderRow : OpenClaim := { program := "ytfpnnipbggbceaa", sum := "6b7434c3dc24ae7769ad5b34cc344c90d7953bde97ac0e6b4d5220892669ebdc", func := "gleaning/gleaninglaw31.QuantOrder", spec := "quantOrder", named := ["math/bits.divideError", "math/bits.overflowError"], apart := false }
def QuantOrderSaid : Prop := quantOrderRow.holds Try.pinned (OpenSpec.ofChange quantOrderSpec)

/-- ITS FALSE NEIGHBOUR: 'it returns false'. Refute it at one input. -/
def quantOrderWrong : ChangeSpec := { name := "quantOrder", fn := fun _ => fun
  | [d1, d2, d3] => { results := [.lit (.bool false)], args := [d1, d2, d3] }
  | _ => none }
def QuantOrderWrongFalsely : Prop := quantOrderRow.holds Try.pinned (OpenSpec.ofChange quantOrderWrong)

/-- 'gleaninglaw20.RetireTells': WHATEVER THE INPUT: true; the input reads as it did. -/
def retireTellsSpec : ChangeSpec := { name := "retireTells", fn := fun _ => fun
  | [d1, d2, d3, d4] => { results := [.lit (.bool true)], args := [d1, d2, d3, d4] }
  | _ => none }
def retireTellsRow : OpenClaim := { program := "ytfpnnipbggbceaa", sum := "6b7434c3dc24ae7769ad5b34cc344c90d7953bde97ac0e6b4d5220892669ebdc", func := "gleaning/gleaninglaw20.RetireTells", spec := "retireTells", unfollowed := true, recurses := true, apart := false }
def RetireTellsSaid : Prop := retireTellsRow.holds Try.pinned (OpenSpec.ofChange retireTellsSpec)

/-- ITS FALSE NEIGHBOUR: 'it returns false'. Refute it at one input. -/
def retireTellsWrong : ChangeSpec := { name := "retireTells", fn := fun _ => fun
  | [d1, d2, d3, d4] => { results := [.lit (.bool false)], args := [d1, d2, d3, d4] }
  | _ => none }
def RetireTellsWrongFalsely : Prop := retireTellsRow.holds Try.pinned (OpenSpec.ofChange retireTellsWrong)

/-- 'gleaninglaw20.RetireBounds': WHATEVER THE INPUT: true; the input reads as it did. -/
def retireBoundsSpec : ChangeSpec := { name := "retireBounds", fn := fun _ => fun
  | [d1, d2, d3, d4] => { results := [.lit (.bool true)], args := [d1, d2, d3, d4] }
  | _ => none }
def retireBoundsRow : OpenClaim := { program := "ytfpnnipbggbceaa", sum := "6b7434c3dc24ae7769ad5b34cc344c90d7953bde97ac0e6b4d5220892669ebdc", func := "gleaning/gleaninglaw20.RetireBounds", spec := "retireBounds", unfollowed := true, recurses := true, apart := false }
def RetireBoundsSaid : Prop := retireBoundsRow.holds Try.pinned (OpenSpec.ofChange retireBoundsSpec)

/-- ITS FALSE NEIGHBOUR: 'it returns false'. Refute it at one input. -/
def retireBoundsWrong : ChangeSpec := { name := "retireBounds", fn := fun _ => fun
  | [d1, d2, d3, d4] => { results := [.lit (.bool false)], args := [d1, d2, d3, d4] }
  | _ => none }
def RetireBoundsWrongFalsely : Prop := retireBoundsRow.holds Try.pinned (OpenSpec.ofChange retireBoundsWrong)

/-- 'gleaninglaw20.RetireNone': WHATEVER THE INPUT: true; the input reads as it did. -/
def retireNoneSpec : ChangeSpec := { name := "retireNone", fn := fun _ => fun
  | [d1, d2] => { results := [.lit (.bool true)], args := [d1, d2] }
  | _ => none }
def retireNoneRow : OpenClaim := { program := "ytfpnnipbggbceaa", sum := "6b7434c3dc24ae7769ad5b34cc344c90d7953bde97ac0e6b4d5220892669ebdc", func := "gleaning/gleaninglaw20.RetireNone", spec := "retireNone", unfollowed := true, recurses := true, apart := false }
def RetireNoneSaid : Prop := retireNoneRow.holds Try.pinned (OpenSpec.ofChange retireNoneSpec)

/-- ITS FALSE NEIGHBOUR: 'it returns false'. Refute it at one input. -/
def retireNoneWrong : ChangeSpec := { name := "retireNone", fn := fun _ => fun
  | [d1, d2] => { results := [.lit (.bool false)], args := [d1, d2] }
  | _ => none }
def RetireNoneWrongFalsely : Prop := retireNoneRow.holds Try.pinned (OpenSpec.ofChange retireNoneWrong)

/-- 'gleaninglaw20.RetireMore': WHATEVER THE INPUT: true; the input reads as it did. -/
def retireMoreSpec : ChangeSpec := { name := "retireMore", fn := fun _ => fun
  | [d1, d2, d3, d4, d5, d6] => { results := [.lit (.bool true)], args := [d1, d2, d3, d4, d5, d6] }
  | _ => none }
def retireMoreRow : OpenClaim := { program := "ytfpnnipbggbceaa", sum := "6b7434c3dc24ae7769ad5b34cc344c90d7953bde97ac0e6b4d5220892669ebdc", func := "gleaning/gleaninglaw20.RetireMore", spec := "retireMore", unfollowed := true, recurses := true, apart := false }
def RetireMoreSaid : Prop := retireMoreRow.holds Try.pinned (OpenSpec.ofChange retireMoreSpec)

/-- ITS FALSE NEIGHBOUR: 'it returns false'. Refute it at one input. -/
def retireMoreWrong : ChangeSpec := { name := "retireMore", fn := fun _ => fun
  | [d1, d2, d3, d4, d5, d6] => { results := [.lit (.bool false)], args := [d1, d2, d3, d4, d5, d6] }
  | _ => none }
def RetireMoreWrongFalsely : Prop := retireMoreRow.holds Try.pinned (OpenSpec.ofChange retireMoreWrong)

/-- 'gleaninglaw25.KeeperTells': WHATEVER THE INPUT: true; the input reads as it did. -/
def keeperTellsSpec : ChangeSpec := { name := "keeperTells", fn := fun _ => fun
  | [d1, d2] => { results := [.lit (.bool true)], args := [d1, d2] }
  | _ => none }
def keeperTellsRow : OpenClaim := { program := "ytfpnnipbggbceaa", sum := "6b7434c3dc24ae7769ad5b34cc344c90d7953bde97ac0e6b4d5220892669ebdc", func := "gleaning/gleaninglaw25.KeeperTells", spec := "keeperTells", unfollowed := true, recurses := true, loops := true, apart := false }
def KeeperTellsSaid : Prop := keeperTellsRow.holds Try.pinned (OpenSpec.ofChange keeperTellsSpec)

/-- ITS FALSE NEIGHBOUR: 'it returns false'. Refute it at one input. -/
def keeperTellsWrong : ChangeSpec := { name := "keeperTells", fn := fun _ => fun
  | [d1, d2] => { results := [.lit (.bool false)], args := [d1, d2] }
  | _ => none }
def KeeperTellsWrongFalsely : Prop := keeperTellsRow.holds Try.pinned (OpenSpec.ofChange keeperTellsWrong)

/-- 'gleaninglaw32.SearchTells': WHATEVER THE INPUT: true; the input reads as it did. -/
def searchTellsSpec : ChangeSpec := { name := "searchTells", fn := fun _ => fun
  | [d1, d2, d3, d4] => { results := [.lit (.bool true)], args := [d1, d2, d3, d4] }
  | _ => none }
def searchTellsRow : OpenClaim := { program := "ytfpnnipbggbceaa", sum := "6b7434c3dc24ae7769ad5b34cc344c90d7953bde97ac0e6b4d5220892669ebdc", func := "gleaning/gleaninglaw32.SearchTells", spec := "searchTells", unfollowed := true, recurses := true, apart := false }
def SearchTellsSaid : Prop := searchTellsRow.holds Try.pinned (OpenSpec.ofChange searchTellsSpec)

/-- ITS FALSE NEIGHBOUR: 'it returns false'. Refute it at one input. -/
def searchTellsWrong : ChangeSpec := { name := "searchTells", fn := fun _ => fun
  | [d1, d2, d3, d4] => { results := [.lit (.bool false)], args := [d1, d2, d3, d4] }
  | _ => none }
def SearchTellsWrongFalsely : Prop := searchTellsRow.holds Try.pinned (OpenSpec.ofChange searchTellsWrong)

/-- 'gleaninglaw32.SearchNarrows': WHATEVER THE INPUT: true; the input reads as it did. -/
def searchNarrowsSpec : ChangeSpec := { name := "searchNarrows", fn := fun _ => fun
  | [d1, d2, d3] => { results := [.lit (.bool true)], args := [d1, d2, d3] }
  | _ => none }
def searchNarrowsRow : OpenClaim := { program := "ytfpnnipbggbceaa", sum := "6b7434c3dc24ae7769ad5b34cc344c90d7953bde97ac0e6b4d5220892669ebdc", func := "gleaning/gleaninglaw32.SearchNarrows", spec := "searchNarrows", unfollowed := true, recurses := true, apart := false }
def SearchNarrowsSaid : Prop := searchNarrowsRow.holds Try.pinned (OpenSpec.ofChange searchNarrowsSpec)

/-- ITS FALSE NEIGHBOUR: 'it returns false'. Refute it at one input. -/
def searchNarrowsWrong : ChangeSpec := { name := "searchNarrows", fn := fun _ => fun
  | [d1, d2, d3] => { results := [.lit (.bool false)], args := [d1, d2, d3] }
  | _ => none }
def SearchNarrowsWrongFalsely : Prop := searchNarrowsRow.holds Try.pinned (OpenSpec.ofChange searchNarrowsWrong)

/-- 'gleaninglaw32.SearchMerged': WHATEVER THE INPUT: true; the input reads as it did. -/
def searchMergedSpec : ChangeSpec := { name := "searchMerged", fn := fun _ => fun
  | [d1, d2] => { results := [.lit (.bool true)], args := [d1, d2] }
  | _ => none }
def searchMergedRow : OpenClaim := { program := "ytfpnnipbggbceaa", sum := "6b7434c3dc24ae7769ad5b34cc344c90d7953bde97ac0e6b4d5220892669ebdc", func := "gleaning/gleaninglaw32.SearchMerged", spec := "searchMerged", unfollowed := true, recurses := true, apart := false }
def SearchMergedSaid : Prop := searchMergedRow.holds Try.pinned (OpenSpec.ofChange searchMergedSpec)

/-- ITS FALSE NEIGHBOUR: 'it returns false'. Refute it at one input. -/
def searchMergedWrong : ChangeSpec := { name := "searchMerged", fn := fun _ => fun
  | [d1, d2] => { results := [.lit (.bool false)], args := [d1, d2] }
  | _ => none }
def SearchMergedWrongFalsely : Prop := searchMergedRow.holds Try.pinned (OpenSpec.ofChange searchMergedWrong)

/-- 'gleaninglaw32.SearchFirst': WHATEVER THE INPUT: true; the input reads as it did. -/
def searchFirstSpec : ChangeSpec := { name := "searchFirst", fn := fun _ => fun
  | [d1, d2, d3] => { results := [.lit (.bool true)], args := [d1, d2, d3] }
  | _ => none }
def searchFirstRow : OpenClaim := { program := "ytfpnnipbggbceaa", sum := "6b7434c3dc24ae7769ad5b34cc344c90d7953bde97ac0e6b4d5220892669ebdc", func := "gleaning/gleaninglaw32.SearchFirst", spec := "searchFirst", unfollowed := true, recurses := true, apart := false }
def SearchFirstSaid : Prop := searchFirstRow.holds Try.pinned (OpenSpec.ofChange searchFirstSpec)

/-- ITS FALSE NEIGHBOUR: 'it returns false'. Refute it at one input. -/
def searchFirstWrong : ChangeSpec := { name := "searchFirst", fn := fun _ => fun
  | [d1, d2, d3] => { results := [.lit (.bool false)], args := [d1, d2, d3] }
  | _ => none }
def SearchFirstWrongFalsely : Prop := searchFirstRow.holds Try.pinned (OpenSpec.ofChange searchFirstWrong)

/-- 'gleaninglaw31.QuantBusy': WHATEVER THE INPUT: true; the input reads as it did. -/
def quantBusySpec : ChangeSpec := { name := "quantBusy", fn := fun _ => fun
  | [d1, d2, d3] => { results := [.lit (.bool true)], args := [d1, d2, d3] }
  | _ => none }
def quantBusyRow : OpenClaim := { program := "ytfpnnipbggbceaa", sum := "6b7434c3dc24ae7769ad5b34cc344c90d7953bde97ac0e6b4d5220892669ebdc", func := "gleaning/gleaninglaw31.QuantBusy", spec := "quantBusy", unfollowed := true, recurses := true, named := ["math/bits.divideError", "math/bits.overflowError"], apart := false }
def QuantBusySaid : Prop := quantBusyRow.holds Try.pinned (OpenSpec.ofChange quantBusySpec)

/-- ITS FALSE NEIGHBOUR: 'it returns false'. Refute it at one input. -/
def quantBusyWrong : ChangeSpec := { name := "quantBusy", fn := fun _ => fun
  | [d1, d2, d3] => { results := [.lit (.bool false)], args := [d1, d2, d3] }
  | _ => none }
def QuantBusyWrongFalsely : Prop := quantBusyRow.holds Try.pinned (OpenSpec.ofChange quantBusyWrong)

/-- 'gleaninglaw31.QuantFirst': WHATEVER THE INPUT: true; the input reads as it did. -/
def quantFirstSpec : ChangeSpec := { name := "quantFirst", fn := fun _ => fun
  | [d1, d2, d3, d4] => { results := [.lit (.bool true)], args := [d1, d2, d3, d4] }
  | _ => none }
def quantFirstRow : OpenClaim := { program := "ytfpnnipbggbceaa", sum := "6b7434c3dc24ae7769ad5b34cc344c90d7953bde97ac0e6b4d5220892669ebdc", func := "gleaning/gleaninglaw31.QuantFirst", spec := "quantFirst", unfollowed := true, recurses := true, named := ["math/bits.divideError", "math/bits.overflowError"], apart := false }
def QuantFirstSaid : Prop := quantFirstRow.holds Try.pinned (OpenSpec.ofChange quantFirstSpec)

/-- ITS FALSE NEIGHBOUR: 'it returns false'. Refute it at one input. -/
def quantFirstWrong : ChangeSpec := { name := "quantFirst", fn := fun _ => fun
  | [d1, d2, d3, d4] => { results := [.lit (.bool false)], args := [d1, d2, d3, d4] }
  | _ => none }
def QuantFirstWrongFalsely : Prop := quantFirstRow.holds Try.pinned (OpenSpec.ofChange quantFirstWrong)

/-- 'gleaninglaw30.PathTells': WHATEVER THE INPUT: true; the input reads as it did. -/
def pathTellsSpec : ChangeSpec := { name := "pathTells", fn := fun _ => fun
  | [d1, d2, d3] => { results := [.lit (.bool true)], args := [d1, d2, d3] }
  | _ => none }
def pathTellsRow : OpenClaim := { program := "ytfpnnipbggbceaa", sum := "6b7434c3dc24ae7769ad5b34cc344c90d7953bde97ac0e6b4d5220892669ebdc", func := "gleaning/gleaninglaw30.PathTells", spec := "pathTells", unfollowed := true, recurses := true, apart := false }
def PathTellsSaid : Prop := pathTellsRow.holds Try.pinned (OpenSpec.ofChange pathTellsSpec)

/-- ITS FALSE NEIGHBOUR: 'it returns false'. Refute it at one input. -/
def pathTellsWrong : ChangeSpec := { name := "pathTells", fn := fun _ => fun
  | [d1, d2, d3] => { results := [.lit (.bool false)], args := [d1, d2, d3] }
  | _ => none }
def PathTellsWrongFalsely : Prop := pathTellsRow.holds Try.pinned (OpenSpec.ofChange pathTellsWrong)

/-- 'gleaninglaw30.PathLatest': WHATEVER THE INPUT: true; the input reads as it did. -/
def pathLatestSpec : ChangeSpec := { name := "pathLatest", fn := fun _ => fun
  | [d] => { results := [.lit (.bool true)], args := [d] }
  | _ => none }
def pathLatestRow : OpenClaim := { program := "ytfpnnipbggbceaa", sum := "6b7434c3dc24ae7769ad5b34cc344c90d7953bde97ac0e6b4d5220892669ebdc", func := "gleaning/gleaninglaw30.PathLatest", spec := "pathLatest", unfollowed := true, recurses := true, apart := false }
def PathLatestSaid : Prop := pathLatestRow.holds Try.pinned (OpenSpec.ofChange pathLatestSpec)

/-- ITS FALSE NEIGHBOUR: 'it returns false'. Refute it at one input. -/
def pathLatestWrong : ChangeSpec := { name := "pathLatest", fn := fun _ => fun
  | [d] => { results := [.lit (.bool false)], args := [d] }
  | _ => none }
def PathLatestWrongFalsely : Prop := pathLatestRow.holds Try.pinned (OpenSpec.ofChange pathLatestWrong)

/-- 'gleaninglaw30.PathSelf': WHATEVER THE INPUT: true; the input reads as it did. -/
def pathSelfSpec : ChangeSpec := { name := "pathSelf", fn := fun _ => fun
  | [d1, d2, d3] => { results := [.lit (.bool true)], args := [d1, d2, d3] }
  | _ => none }
def pathSelfRow : OpenClaim := { program := "ytfpnnipbggbceaa", sum := "6b7434c3dc24ae7769ad5b34cc344c90d7953bde97ac0e6b4d5220892669ebdc", func := "gleaning/gleaninglaw30.PathSelf", spec := "pathSelf", unfollowed := true, recurses := true, apart := false }
def PathSelfSaid : Prop := pathSelfRow.holds Try.pinned (OpenSpec.ofChange pathSelfSpec)

/-- ITS FALSE NEIGHBOUR: 'it returns false'. Refute it at one input. -/
def pathSelfWrong : ChangeSpec := { name := "pathSelf", fn := fun _ => fun
  | [d1, d2, d3] => { results := [.lit (.bool false)], args := [d1, d2, d3] }
  | _ => none }
def PathSelfWrongFalsely : Prop := pathSelfRow.holds Try.pinned (OpenSpec.ofChange pathSelfWrong)

/- THE SECOND FORM. 'bulk': how many values and letters a reading holds, each counted each time it is reached (what is shared counts as often as it is met; a slice's spare places count too). A statement '..UptoSaid' is the law's where the arguments, and the package variables that the reading takes, are together of bulk at most 1048576: NARROWER than '..Said'. Prove '..Said' where nothing that the law and all that it calls make is longer than what came in: it says more and counts as full. Else prove '..UptoSaid'. A law counts once. -/
mutual
def uptoBulk {H : Type} : DataW H → Nat
  | .lit (.string bytes) => bytes.length + 1
  | .lit _ => 1
  | .nil => 1
  | .ptr d => uptoBulk d + 1
  | .slice elems spare => uptoBulkAll elems + uptoBulkAll spare + 1
  | .agg parts => uptoBulkAll parts + 1
  | .iface _ d => uptoBulk d + 1
  | .map entries => uptoBulkEntries entries + 1
  | .held _ => 1
def uptoBulkAll {H : Type} : List (DataW H) → Nat
  | [] => 0
  | d :: r => uptoBulk d + uptoBulkAll r
def uptoBulkEntries {H : Type} : List (Lit × DataW H) → Nat
  | [] => 0
  | x :: r => uptoBulkEntry x + uptoBulkEntries r
def uptoBulkEntry {H : Type} : Lit × DataW H → Nat
  | (.string bytes, d) => bytes.length + uptoBulk d + 1
  | (_, d) => uptoBulk d + 1
 end
def uptoSmall : (H : Type) → List (DataW H) → Bool := fun _ ds => decide (uptoBulkAll ds ≤ 1048576)
def OpenSpec.upto (s : _root_.Go.ChangeSpec) : _root_.Go.OpenSpec := { _root_.Go.OpenSpec.ofChange s with cond := some uptoSmall }

/-- 'gleaninglaw31.QuantTells', WHERE WHAT IT READS IS OF BULK AT MOST 1048576: true; the input reads as it did. -/
def quantTellsUptoRow : OpenClaim := { program := "ytfpnnipbggbceaa", sum := "6b7434c3dc24ae7769ad5b34cc344c90d7953bde97ac0e6b4d5220892669ebdc", func := "gleaning/gleaninglaw31.QuantTells", spec := "quantTells", named := ["math/bits.divideError", "math/bits.overflowError"], apart := false, narrowed := true }
def QuantTellsUptoSaid : Prop := quantTellsUptoRow.holds Try.pinned (OpenSpec.upto quantTellsSpec)

/-- 'gleaninglaw31.QuantSorts', WHERE WHAT IT READS IS OF BULK AT MOST 1048576: true; the input reads as it did. -/
def quantSortsUptoRow : OpenClaim := { program := "ytfpnnipbggbceaa", sum := "6b7434c3dc24ae7769ad5b34cc344c90d7953bde97ac0e6b4d5220892669ebdc", func := "gleaning/gleaninglaw31.QuantSorts", spec := "quantSorts", named := ["math/bits.divideError", "math/bits.overflowError"], apart := false, narrowed := true }
def QuantSortsUptoSaid : Prop := quantSortsUptoRow.holds Try.pinned (OpenSpec.upto quantSortsSpec)

/-- 'gleaninglaw31.QuantOrder', WHERE WHAT IT READS IS OF BULK AT MOST 1048576: true; the input reads as it did. -/
def quantOrderUptoRow : OpenClaim := { program := "ytfpnnipbggbceaa", sum := "6b7434c3dc24ae7769ad5b34cc344c90d7953bde97ac0e6b4d5220892669ebdc", func := "gleaning/gleaninglaw31.QuantOrder", spec := "quantOrder", named := ["math/bits.divideError", "math/bits.overflowError"], apart := false, narrowed := true }
def QuantOrderUptoSaid : Prop := quantOrderUptoRow.holds Try.pinned (OpenSpec.upto quantOrderSpec)

/-- 'gleaninglaw20.RetireTells', WHERE WHAT IT READS IS OF BULK AT MOST 1048576: true; the input reads as it did. -/
def retireTellsUptoRow : OpenClaim := { program := "ytfpnnipbggbceaa", sum := "6b7434c3dc24ae7769ad5b34cc344c90d7953bde97ac0e6b4d5220892669ebdc", func := "gleaning/gleaninglaw20.RetireTells", spec := "retireTells", unfollowed := true, recurses := true, apart := false, narrowed := true }
def RetireTellsUptoSaid : Prop := retireTellsUptoRow.holds Try.pinned (OpenSpec.upto retireTellsSpec)

/-- 'gleaninglaw20.RetireBounds', WHERE WHAT IT READS IS OF BULK AT MOST 1048576: true; the input reads as it did. -/
def retireBoundsUptoRow : OpenClaim := { program := "ytfpnnipbggbceaa", sum := "6b7434c3dc24ae7769ad5b34cc344c90d7953bde97ac0e6b4d5220892669ebdc", func := "gleaning/gleaninglaw20.RetireBounds", spec := "retireBounds", unfollowed := true, recurses := true, apart := false, narrowed := true }
def RetireBoundsUptoSaid : Prop := retireBoundsUptoRow.holds Try.pinned (OpenSpec.upto retireBoundsSpec)

/-- 'gleaninglaw20.RetireNone', WHERE WHAT IT READS IS OF BULK AT MOST 1048576: true; the input reads as it did. -/
def retireNoneUptoRow : OpenClaim := { program := "ytfpnnipbggbceaa", sum := "6b7434c3dc24ae7769ad5b34cc344c90d7953bde97ac0e6b4d5220892669ebdc", func := "gleaning/gleaninglaw20.RetireNone", spec := "retireNone", unfollowed := true, recurses := true, apart := false, narrowed := true }
def RetireNoneUptoSaid : Prop := retireNoneUptoRow.holds Try.pinned (OpenSpec.upto retireNoneSpec)

/-- 'gleaninglaw20.RetireMore', WHERE WHAT IT READS IS OF BULK AT MOST 1048576: true; the input reads as it did. -/
def retireMoreUptoRow : OpenClaim := { program := "ytfpnnipbggbceaa", sum := "6b7434c3dc24ae7769ad5b34cc344c90d7953bde97ac0e6b4d5220892669ebdc", func := "gleaning/gleaninglaw20.RetireMore", spec := "retireMore", unfollowed := true, recurses := true, apart := false, narrowed := true }
def RetireMoreUptoSaid : Prop := retireMoreUptoRow.holds Try.pinned (OpenSpec.upto retireMoreSpec)

/-- 'gleaninglaw25.KeeperTells', WHERE WHAT IT READS IS OF BULK AT MOST 1048576: true; the input reads as it did. -/
def keeperTellsUptoRow : OpenClaim := { program := "ytfpnnipbggbceaa", sum := "6b7434c3dc24ae7769ad5b34cc344c90d7953bde97ac0e6b4d5220892669ebdc", func := "gleaning/gleaninglaw25.KeeperTells", spec := "keeperTells", unfollowed := true, recurses := true, loops := true, apart := false, narrowed := true }
def KeeperTellsUptoSaid : Prop := keeperTellsUptoRow.holds Try.pinned (OpenSpec.upto keeperTellsSpec)

/-- 'gleaninglaw32.SearchTells', WHERE WHAT IT READS IS OF BULK AT MOST 1048576: true; the input reads as it did. -/
def searchTellsUptoRow : OpenClaim := { program := "ytfpnnipbggbceaa", sum := "6b7434c3dc24ae7769ad5b34cc344c90d7953bde97ac0e6b4d5220892669ebdc", func := "gleaning/gleaninglaw32.SearchTells", spec := "searchTells", unfollowed := true, recurses := true, apart := false, narrowed := true }
def SearchTellsUptoSaid : Prop := searchTellsUptoRow.holds Try.pinned (OpenSpec.upto searchTellsSpec)

/-- 'gleaninglaw32.SearchNarrows', WHERE WHAT IT READS IS OF BULK AT MOST 1048576: true; the input reads as it did. -/
def searchNarrowsUptoRow : OpenClaim := { program := "ytfpnnipbggbceaa", sum := "6b7434c3dc24ae7769ad5b34cc344c90d7953bde97ac0e6b4d5220892669ebdc", func := "gleaning/gleaninglaw32.SearchNarrows", spec := "searchNarrows", unfollowed := true, recurses := true, apart := false, narrowed := true }
def SearchNarrowsUptoSaid : Prop := searchNarrowsUptoRow.holds Try.pinned (OpenSpec.upto searchNarrowsSpec)

/-- 'gleaninglaw32.SearchMerged', WHERE WHAT IT READS IS OF BULK AT MOST 1048576: true; the input reads as it did. -/
def searchMergedUptoRow : OpenClaim := { program := "ytfpnnipbggbceaa", sum := "6b7434c3dc24ae7769ad5b34cc344c90d7953bde97ac0e6b4d5220892669ebdc", func := "gleaning/gleaninglaw32.SearchMerged", spec := "searchMerged", unfollowed := true, recurses := true, apart := false, narrowed := true }
def SearchMergedUptoSaid : Prop := searchMergedUptoRow.holds Try.pinned (OpenSpec.upto searchMergedSpec)

/-- 'gleaninglaw32.SearchFirst', WHERE WHAT IT READS IS OF BULK AT MOST 1048576: true; the input reads as it did. -/
def searchFirstUptoRow : OpenClaim := { program := "ytfpnnipbggbceaa", sum := "6b7434c3dc24ae7769ad5b34cc344c90d7953bde97ac0e6b4d5220892669ebdc", func := "gleaning/gleaninglaw32.SearchFirst", spec := "searchFirst", unfollowed := true, recurses := true, apart := false, narrowed := true }
def SearchFirstUptoSaid : Prop := searchFirstUptoRow.holds Try.pinned (OpenSpec.upto searchFirstSpec)

/-- 'gleaninglaw31.QuantBusy', WHERE WHAT IT READS IS OF BULK AT MOST 1048576: true; the input reads as it did. -/
def quantBusyUptoRow : OpenClaim := { program := "ytfpnnipbggbceaa", sum := "6b7434c3dc24ae7769ad5b34cc344c90d7953bde97ac0e6b4d5220892669ebdc", func := "gleaning/gleaninglaw31.QuantBusy", spec := "quantBusy", unfollowed := true, recurses := true, named := ["math/bits.divideError", "math/bits.overflowError"], apart := false, narrowed := true }
def QuantBusyUptoSaid : Prop := quantBusyUptoRow.holds Try.pinned (OpenSpec.upto quantBusySpec)

/-- 'gleaninglaw31.QuantFirst', WHERE WHAT IT READS IS OF BULK AT MOST 1048576: true; the input reads as it did. -/
def quantFirstUptoRow : OpenClaim := { program := "ytfpnnipbggbceaa", sum := "6b7434c3dc24ae7769ad5b34cc344c90d7953bde97ac0e6b4d5220892669ebdc", func := "gleaning/gleaninglaw31.QuantFirst", spec := "quantFirst", unfollowed := true, recurses := true, named := ["math/bits.divideError", "math/bits.overflowError"], apart := false, narrowed := true }
def QuantFirstUptoSaid : Prop := quantFirstUptoRow.holds Try.pinned (OpenSpec.upto quantFirstSpec)

/-- 'gleaninglaw30.PathTells', WHERE WHAT IT READS IS OF BULK AT MOST 1048576: true; the input reads as it did. -/
def pathTellsUptoRow : OpenClaim := { program := "ytfpnnipbggbceaa", sum := "6b7434c3dc24ae7769ad5b34cc344c90d7953bde97ac0e6b4d5220892669ebdc", func := "gleaning/gleaninglaw30.PathTells", spec := "pathTells", unfollowed := true, recurses := true, apart := false, narrowed := true }
def PathTellsUptoSaid : Prop := pathTellsUptoRow.holds Try.pinned (OpenSpec.upto pathTellsSpec)

/-- 'gleaninglaw30.PathLatest', WHERE WHAT IT READS IS OF BULK AT MOST 1048576: true; the input reads as it did. -/
def pathLatestUptoRow : OpenClaim := { program := "ytfpnnipbggbceaa", sum := "6b7434c3dc24ae7769ad5b34cc344c90d7953bde97ac0e6b4d5220892669ebdc", func := "gleaning/gleaninglaw30.PathLatest", spec := "pathLatest", unfollowed := true, recurses := true, apart := false, narrowed := true }
def PathLatestUptoSaid : Prop := pathLatestUptoRow.holds Try.pinned (OpenSpec.upto pathLatestSpec)

/-- 'gleaninglaw30.PathSelf', WHERE WHAT IT READS IS OF BULK AT MOST 1048576: true; the input reads as it did. -/
def pathSelfUptoRow : OpenClaim := { program := "ytfpnnipbggbceaa", sum := "6b7434c3dc24ae7769ad5b34cc344c90d7953bde97ac0e6b4d5220892669ebdc", func := "gleaning/gleaninglaw30.PathSelf", spec := "pathSelf", unfollowed := true, recurses := true, apart := false, narrowed := true }
def PathSelfUptoSaid : Prop := pathSelfUptoRow.holds Try.pinned (OpenSpec.upto pathSelfSpec)

end Rows
end Go.Proofs.Ytfpnnipbggbceaa
