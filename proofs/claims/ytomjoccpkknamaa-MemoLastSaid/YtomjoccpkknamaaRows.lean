/-
  No cell of these rows narrows 'for every input' (looked for: loops, veiled, ifaces, maps, wideKeys, modest, calm, conditions, laid).
  DERIVED. THE GIVEN ROWS OF THIS SEAT. 13 by the template 'for every input the law returns true; each argument reads behind the call as it read before'; 0 by the template 'total and deterministic' (their statements: YtomjoccpkknamaaTotals.lean).
  GIVEN WITH THE SEED: the statements are not yours to turn. If you find one false, say at which input.
  Laid BY PROGRAM, IN A SANDBOX (cutbox-rows.mjs): the forced cells as the released guide's own fill.sh prints them over the translation b28969dc42de4545… (all of the seat's roots in one cut). By AI agents, Wed Nov 11 2026. No macro, syntax, notation, axiom, sorry.
-/
import Derived.Test.YtomjoccpkknamaaChecked
import GoSem.Claim
import GoSem.ClaimJoined
import GoSem.ClaimMapViews
import Derived.JoinedTies
import Derived.KernelRfl
namespace Go.Proofs.Ytomjoccpkknamaa
/- THE CELL 'sum', in the pinned program and in every row, IS THE sha256 OF THE DUMP (.gsa) THAT YtomjoccpkknamaaProg.lean LOADS. Nothing in Lean hashes anything: it is a label: what it is worth is what the hold of that sum in a sandbox is worth. -/
noncomputable def Try.pinned : Pinned := { name := "ytomjoccpkknamaa", sum := "b28969dc42de4545d4617eb48951c26ec8f6d706124cff1c93fc23eb7180e371", checked := Try.checked }
namespace Rows
def none {H : Type} : Left H := { results := [], args := [] }

/-- 'gleaninglaw2.CheckTells': WHATEVER THE INPUT: true; the input reads as it did. -/
def checkTellsSpec : ChangeSpec := { name := "checkTells", fn := fun _ => fun
  | [d1, d2] => { results := [.lit (.bool true)], args := [d1, d2] }
  | _ => none }
def checkTellsRow : OpenClaim := { program := "ytomjoccpkknamaa", sum := "b28969dc42de4545d4617eb48951c26ec8f6d706124cff1c93fc23eb7180e371", func := "gleaning/gleaninglaw2.CheckTells", spec := "checkTells", apart := false }
def CheckTellsSaid : Prop := checkTellsRow.holds Try.pinned (OpenSpec.ofChange checkTellsSpec)

/-- ITS FALSE NEIGHBOUR: 'it returns false'. Refute it at one input. -/
def checkTellsWrong : ChangeSpec := { name := "checkTells", fn := fun _ => fun
  | [d1, d2] => { results := [.lit (.bool false)], args := [d1, d2] }
  | _ => none }
def CheckTellsWrongFalsely : Prop := checkTellsRow.holds Try.pinned (OpenSpec.ofChange checkTellsWrong)

/-- 'gleaninglaw2.CheckTurns': WHATEVER THE INPUT: true; the input reads as it did. -/
def checkTurnsSpec : ChangeSpec := { name := "checkTurns", fn := fun _ => fun
  | [d1, d2, d3, d4] => { results := [.lit (.bool true)], args := [d1, d2, d3, d4] }
  | _ => none }
def checkTurnsRow : OpenClaim := { program := "ytomjoccpkknamaa", sum := "b28969dc42de4545d4617eb48951c26ec8f6d706124cff1c93fc23eb7180e371", func := "gleaning/gleaninglaw2.CheckTurns", spec := "checkTurns", apart := false }
def CheckTurnsSaid : Prop := checkTurnsRow.holds Try.pinned (OpenSpec.ofChange checkTurnsSpec)

/-- ITS FALSE NEIGHBOUR: 'it returns false'. Refute it at one input. -/
def checkTurnsWrong : ChangeSpec := { name := "checkTurns", fn := fun _ => fun
  | [d1, d2, d3, d4] => { results := [.lit (.bool false)], args := [d1, d2, d3, d4] }
  | _ => none }
def CheckTurnsWrongFalsely : Prop := checkTurnsRow.holds Try.pinned (OpenSpec.ofChange checkTurnsWrong)

/-- 'gleaninglaw2.CheckAdds': WHATEVER THE INPUT: true; the input reads as it did. -/
def checkAddsSpec : ChangeSpec := { name := "checkAdds", fn := fun _ => fun
  | [d1, d2, d3] => { results := [.lit (.bool true)], args := [d1, d2, d3] }
  | _ => none }
def checkAddsRow : OpenClaim := { program := "ytomjoccpkknamaa", sum := "b28969dc42de4545d4617eb48951c26ec8f6d706124cff1c93fc23eb7180e371", func := "gleaning/gleaninglaw2.CheckAdds", spec := "checkAdds", apart := false }
def CheckAddsSaid : Prop := checkAddsRow.holds Try.pinned (OpenSpec.ofChange checkAddsSpec)

/-- ITS FALSE NEIGHBOUR: 'it returns false'. Refute it at one input. -/
def checkAddsWrong : ChangeSpec := { name := "checkAdds", fn := fun _ => fun
  | [d1, d2, d3] => { results := [.lit (.bool false)], args := [d1, d2, d3] }
  | _ => none }
def CheckAddsWrongFalsely : Prop := checkAddsRow.holds Try.pinned (OpenSpec.ofChange checkAddsWrong)

/-- 'gleaninglaw2.CheckRest': WHATEVER THE INPUT: true; the input reads as it did. -/
def checkRestSpec : ChangeSpec := { name := "checkRest", fn := fun _ => fun
  | [d] => { results := [.lit (.bool true)], args := [d] }
  | _ => none }
def checkRestRow : OpenClaim := { program := "ytomjoccpkknamaa", sum := "b28969dc42de4545d4617eb48951c26ec8f6d706124cff1c93fc23eb7180e371", func := "gleaning/gleaninglaw2.CheckRest", spec := "checkRest", apart := false }
def CheckRestSaid : Prop := checkRestRow.holds Try.pinned (OpenSpec.ofChange checkRestSpec)

/-- ITS FALSE NEIGHBOUR: 'it returns false'. Refute it at one input. -/
def checkRestWrong : ChangeSpec := { name := "checkRest", fn := fun _ => fun
  | [d] => { results := [.lit (.bool false)], args := [d] }
  | _ => none }
def CheckRestWrongFalsely : Prop := checkRestRow.holds Try.pinned (OpenSpec.ofChange checkRestWrong)

/-- 'gleaninglaw17.MemoPlays': WHATEVER THE INPUT: true; the input reads as it did. -/
def memoPlaysSpec : ChangeSpec := { name := "memoPlays", fn := fun _ => fun
  | [d1, d2, d3] => { results := [.lit (.bool true)], args := [d1, d2, d3] }
  | _ => none }
def memoPlaysRow : OpenClaim := { program := "ytomjoccpkknamaa", sum := "b28969dc42de4545d4617eb48951c26ec8f6d706124cff1c93fc23eb7180e371", func := "gleaning/gleaninglaw17.MemoPlays", spec := "memoPlays", unfollowed := true, recurses := true, apart := false }
def MemoPlaysSaid : Prop := memoPlaysRow.holds Try.pinned (OpenSpec.ofChange memoPlaysSpec)

/-- ITS FALSE NEIGHBOUR: 'it returns false'. Refute it at one input. -/
def memoPlaysWrong : ChangeSpec := { name := "memoPlays", fn := fun _ => fun
  | [d1, d2, d3] => { results := [.lit (.bool false)], args := [d1, d2, d3] }
  | _ => none }
def MemoPlaysWrongFalsely : Prop := memoPlaysRow.holds Try.pinned (OpenSpec.ofChange memoPlaysWrong)

/-- 'gleaninglaw17.MemoLast': WHATEVER THE INPUT: true; the input reads as it did. -/
def memoLastSpec : ChangeSpec := { name := "memoLast", fn := fun _ => fun
  | [d1, d2, d3] => { results := [.lit (.bool true)], args := [d1, d2, d3] }
  | _ => none }
def memoLastRow : OpenClaim := { program := "ytomjoccpkknamaa", sum := "b28969dc42de4545d4617eb48951c26ec8f6d706124cff1c93fc23eb7180e371", func := "gleaning/gleaninglaw17.MemoLast", spec := "memoLast", unfollowed := true, recurses := true, apart := false }
def MemoLastSaid : Prop := memoLastRow.holds Try.pinned (OpenSpec.ofChange memoLastSpec)

/-- ITS FALSE NEIGHBOUR: 'it returns false'. Refute it at one input. -/
def memoLastWrong : ChangeSpec := { name := "memoLast", fn := fun _ => fun
  | [d1, d2, d3] => { results := [.lit (.bool false)], args := [d1, d2, d3] }
  | _ => none }
def MemoLastWrongFalsely : Prop := memoLastRow.holds Try.pinned (OpenSpec.ofChange memoLastWrong)

/-- 'gleaninglaw1.IntsShort': WHATEVER THE INPUT: true; the input reads as it did. -/
def intsShortSpec : ChangeSpec := { name := "intsShort", fn := fun _ => fun
  | [d1, d2] => { results := [.lit (.bool true)], args := [d1, d2] }
  | _ => none }
def intsShortRow : OpenClaim := { program := "ytomjoccpkknamaa", sum := "b28969dc42de4545d4617eb48951c26ec8f6d706124cff1c93fc23eb7180e371", func := "gleaning/gleaninglaw1.IntsShort", spec := "intsShort", apart := false }
def IntsShortSaid : Prop := intsShortRow.holds Try.pinned (OpenSpec.ofChange intsShortSpec)

/-- ITS FALSE NEIGHBOUR: 'it returns false'. Refute it at one input. -/
def intsShortWrong : ChangeSpec := { name := "intsShort", fn := fun _ => fun
  | [d1, d2] => { results := [.lit (.bool false)], args := [d1, d2] }
  | _ => none }
def IntsShortWrongFalsely : Prop := intsShortRow.holds Try.pinned (OpenSpec.ofChange intsShortWrong)

/-- 'gleaninglaw9.WindowTells': WHATEVER THE INPUT: true; the input reads as it did. -/
def windowTellsSpec : ChangeSpec := { name := "windowTells", fn := fun _ => fun
  | [d1, d2, d3] => { results := [.lit (.bool true)], args := [d1, d2, d3] }
  | _ => none }
def windowTellsRow : OpenClaim := { program := "ytomjoccpkknamaa", sum := "b28969dc42de4545d4617eb48951c26ec8f6d706124cff1c93fc23eb7180e371", func := "gleaning/gleaninglaw9.WindowTells", spec := "windowTells", apart := false }
def WindowTellsSaid : Prop := windowTellsRow.holds Try.pinned (OpenSpec.ofChange windowTellsSpec)

/-- ITS FALSE NEIGHBOUR: 'it returns false'. Refute it at one input. -/
def windowTellsWrong : ChangeSpec := { name := "windowTells", fn := fun _ => fun
  | [d1, d2, d3] => { results := [.lit (.bool false)], args := [d1, d2, d3] }
  | _ => none }
def WindowTellsWrongFalsely : Prop := windowTellsRow.holds Try.pinned (OpenSpec.ofChange windowTellsWrong)

/-- 'gleaninglaw9.WindowHolds': WHATEVER THE INPUT: true; the input reads as it did. -/
def windowHoldsSpec : ChangeSpec := { name := "windowHolds", fn := fun _ => fun
  | [d1, d2] => { results := [.lit (.bool true)], args := [d1, d2] }
  | _ => none }
def windowHoldsRow : OpenClaim := { program := "ytomjoccpkknamaa", sum := "b28969dc42de4545d4617eb48951c26ec8f6d706124cff1c93fc23eb7180e371", func := "gleaning/gleaninglaw9.WindowHolds", spec := "windowHolds", apart := false }
def WindowHoldsSaid : Prop := windowHoldsRow.holds Try.pinned (OpenSpec.ofChange windowHoldsSpec)

/-- ITS FALSE NEIGHBOUR: 'it returns false'. Refute it at one input. -/
def windowHoldsWrong : ChangeSpec := { name := "windowHolds", fn := fun _ => fun
  | [d1, d2] => { results := [.lit (.bool false)], args := [d1, d2] }
  | _ => none }
def WindowHoldsWrongFalsely : Prop := windowHoldsRow.holds Try.pinned (OpenSpec.ofChange windowHoldsWrong)

/-- 'gleaninglaw9.WindowNest': WHATEVER THE INPUT: true; the input reads as it did. -/
def windowNestSpec : ChangeSpec := { name := "windowNest", fn := fun _ => fun
  | [d1, d2] => { results := [.lit (.bool true)], args := [d1, d2] }
  | _ => none }
def windowNestRow : OpenClaim := { program := "ytomjoccpkknamaa", sum := "b28969dc42de4545d4617eb48951c26ec8f6d706124cff1c93fc23eb7180e371", func := "gleaning/gleaninglaw9.WindowNest", spec := "windowNest", apart := false }
def WindowNestSaid : Prop := windowNestRow.holds Try.pinned (OpenSpec.ofChange windowNestSpec)

/-- ITS FALSE NEIGHBOUR: 'it returns false'. Refute it at one input. -/
def windowNestWrong : ChangeSpec := { name := "windowNest", fn := fun _ => fun
  | [d1, d2] => { results := [.lit (.bool false)], args := [d1, d2] }
  | _ => none }
def WindowNestWrongFalsely : Prop := windowNestRow.holds Try.pinned (OpenSpec.ofChange windowNestWrong)

/-- 'gleaninglaw1.IntsTell': WHATEVER THE INPUT: true; the input reads as it did. -/
def intsTellSpec : ChangeSpec := { name := "intsTell", fn := fun _ => fun
  | [d1, d2, d3] => { results := [.lit (.bool true)], args := [d1, d2, d3] }
  | _ => none }
def intsTellRow : OpenClaim := { program := "ytomjoccpkknamaa", sum := "b28969dc42de4545d4617eb48951c26ec8f6d706124cff1c93fc23eb7180e371", func := "gleaning/gleaninglaw1.IntsTell", spec := "intsTell", apart := false }
def IntsTellSaid : Prop := intsTellRow.holds Try.pinned (OpenSpec.ofChange intsTellSpec)

/-- ITS FALSE NEIGHBOUR: 'it returns false'. Refute it at one input. -/
def intsTellWrong : ChangeSpec := { name := "intsTell", fn := fun _ => fun
  | [d1, d2, d3] => { results := [.lit (.bool false)], args := [d1, d2, d3] }
  | _ => none }
def IntsTellWrongFalsely : Prop := intsTellRow.holds Try.pinned (OpenSpec.ofChange intsTellWrong)

/-- 'gleaninglaw1.IntsBack': WHATEVER THE INPUT: true; the input reads as it did. -/
def intsBackSpec : ChangeSpec := { name := "intsBack", fn := fun _ => fun
  | [d1, d2, d3, d4] => { results := [.lit (.bool true)], args := [d1, d2, d3, d4] }
  | _ => none }
def intsBackRow : OpenClaim := { program := "ytomjoccpkknamaa", sum := "b28969dc42de4545d4617eb48951c26ec8f6d706124cff1c93fc23eb7180e371", func := "gleaning/gleaninglaw1.IntsBack", spec := "intsBack", apart := false }
def IntsBackSaid : Prop := intsBackRow.holds Try.pinned (OpenSpec.ofChange intsBackSpec)

/-- ITS FALSE NEIGHBOUR: 'it returns false'. Refute it at one input. -/
def intsBackWrong : ChangeSpec := { name := "intsBack", fn := fun _ => fun
  | [d1, d2, d3, d4] => { results := [.lit (.bool false)], args := [d1, d2, d3, d4] }
  | _ => none }
def IntsBackWrongFalsely : Prop := intsBackRow.holds Try.pinned (OpenSpec.ofChange intsBackWrong)

/-- 'gleaninglaw1.IntsRow': WHATEVER THE INPUT: true; the input reads as it did. -/
def intsRowSpec : ChangeSpec := { name := "intsRow", fn := fun _ => fun
  | [d1, d2] => { results := [.lit (.bool true)], args := [d1, d2] }
  | _ => none }
def intsRowRow : OpenClaim := { program := "ytomjoccpkknamaa", sum := "b28969dc42de4545d4617eb48951c26ec8f6d706124cff1c93fc23eb7180e371", func := "gleaning/gleaninglaw1.IntsRow", spec := "intsRow", apart := false }
def IntsRowSaid : Prop := intsRowRow.holds Try.pinned (OpenSpec.ofChange intsRowSpec)

/-- ITS FALSE NEIGHBOUR: 'it returns false'. Refute it at one input. -/
def intsRowWrong : ChangeSpec := { name := "intsRow", fn := fun _ => fun
  | [d1, d2] => { results := [.lit (.bool false)], args := [d1, d2] }
  | _ => none }
def IntsRowWrongFalsely : Prop := intsRowRow.holds Try.pinned (OpenSpec.ofChange intsRowWrong)

/- THE SECOND FORM. 'bulk': how many values and letters a reading holds, each counted each time it is reached (what is shared counts as often as it is met; a slice's spare places count too). A statement '..UptoSaid' is the law's where the arguments, and the package variables that the reading takes, are together of bulk at most 1048576: NARROWER than '..Said'. Prove '..Said' where nothing that the law and all that it calls make is longer than what came in: it says more and counts as full. Else prove '..UptoSaid'. A law counts once. -/
mutual
def uptoBulk {H : Type} : DataW H → Nat
  | .lit (.string bytes) => bytes.length + 1
  | .lit _ => 1
  | .nil => 1
  | .ptr d => uptoBulk d + 1
  | .slice elems spare => uptoBulkAll elems + uptoBulkAll spare + 1
  | .agg parts => uptoBulkAll parts + 1
  | .iface _ d => uptoBulk d + 1
  | .map entries => uptoBulkEntries entries + 1
  | .held _ => 1
def uptoBulkAll {H : Type} : List (DataW H) → Nat
  | [] => 0
  | d :: r => uptoBulk d + uptoBulkAll r
def uptoBulkEntries {H : Type} : List (Lit × DataW H) → Nat
  | [] => 0
  | x :: r => uptoBulkEntry x + uptoBulkEntries r
def uptoBulkEntry {H : Type} : Lit × DataW H → Nat
  | (.string bytes, d) => bytes.length + uptoBulk d + 1
  | (_, d) => uptoBulk d + 1
 end
def uptoSmall : (H : Type) → List (DataW H) → Bool := fun _ ds => decide (uptoBulkAll ds ≤ 1048576)
def OpenSpec.upto (s : _root_.Go.ChangeSpec) : _root_.Go.OpenSpec := { _root_.Go.OpenSpec.ofChange s with cond := some uptoSmall }

/-- 'gleaninglaw2.CheckTells', WHERE WHAT IT READS IS OF BULK AT MOST 1048576: true; the input reads as it did. -/
def checkTellsUptoRow : OpenClaim := { program := "ytomjoccpkknamaa", sum := "b28969dc42de4545d4617eb48951c26ec8f6d706124cff1c93fc23eb7180e371", func := "gleaning/gleaninglaw2.CheckTells", spec := "checkTells", apart := false, narrowed := true }
def CheckTellsUptoSaid : Prop := checkTellsUptoRow.holds Try.pinned (OpenSpec.upto checkTellsSpec)

/-- 'gleaninglaw2.CheckTurns', WHERE WHAT IT READS IS OF BULK AT MOST 1048576: true; the input reads as it did. -/
def checkTurnsUptoRow : OpenClaim := { program := "ytomjoccpkknamaa", sum := "b28969dc42de4545d4617eb48951c26ec8f6d706124cff1c93fc23eb7180e371", func := "gleaning/gleaninglaw2.CheckTurns", spec := "checkTurns", apart := false, narrowed := true }
def CheckTurnsUptoSaid : Prop := checkTurnsUptoRow.holds Try.pinned (OpenSpec.upto checkTurnsSpec)

/-- 'gleaninglaw2.CheckAdds', WHERE WHAT IT READS IS OF BULK AT MOST 1048576: true; the input reads as it did. -/
def checkAddsUptoRow : OpenClaim := { program := "ytomjoccpkknamaa", sum := "b28969dc42de4545d4617eb48951c26ec8f6d706124cff1c93fc23eb7180e371", func := "gleaning/gleaninglaw2.CheckAdds", spec := "checkAdds", apart := false, narrowed := true }
def CheckAddsUptoSaid : Prop := checkAddsUptoRow.holds Try.pinned (OpenSpec.upto checkAddsSpec)

/-- 'gleaninglaw2.CheckRest', WHERE WHAT IT READS IS OF BULK AT MOST 1048576: true; the input reads as it did. -/
def checkRestUptoRow : OpenClaim := { program := "ytomjoccpkknamaa", sum := "b28969dc42de4545d4617eb48951c26ec8f6d706124cff1c93fc23eb7180e371", func := "gleaning/gleaninglaw2.CheckRest", spec := "checkRest", apart := false, narrowed := true }
def CheckRestUptoSaid : Prop := checkRestUptoRow.holds Try.pinned (OpenSpec.upto checkRestSpec)

/-- 'gleaninglaw17.MemoPlays', WHERE WHAT IT READS IS OF BULK AT MOST 1048576: true; the input reads as it did. -/
def memoPlaysUptoRow : OpenClaim := { program := "ytomjoccpkknamaa", sum := "b28969dc42de4545d4617eb48951c26ec8f6d706124cff1c93fc23eb7180e371", func := "gleaning/gleaninglaw17.MemoPlays", spec := "memoPlays", unfollowed := true, recurses := true, apart := false, narrowed := true }
def MemoPlaysUptoSaid : Prop := memoPlaysUptoRow.holds Try.pinned (OpenSpec.upto memoPlaysSpec)

/-- 'gleaninglaw17.MemoLast', WHERE WHAT IT READS IS OF BULK AT MOST 1048576: true; the input reads as it did. -/
def memoLastUptoRow : OpenClaim := { program := "ytomjoccpkknamaa", sum := "b28969dc42de4545d4617eb48951c26ec8f6d706124cff1c93fc23eb7180e371", func := "gleaning/gleaninglaw17.MemoLast", spec := "memoLast", unfollowed := true, recurses := true, apart := false, narrowed := true }
def MemoLastUptoSaid : Prop := memoLastUptoRow.holds Try.pinned (OpenSpec.upto memoLastSpec)

/-- 'gleaninglaw1.IntsShort', WHERE WHAT IT READS IS OF BULK AT MOST 1048576: true; the input reads as it did. -/
def intsShortUptoRow : OpenClaim := { program := "ytomjoccpkknamaa", sum := "b28969dc42de4545d4617eb48951c26ec8f6d706124cff1c93fc23eb7180e371", func := "gleaning/gleaninglaw1.IntsShort", spec := "intsShort", apart := false, narrowed := true }
def IntsShortUptoSaid : Prop := intsShortUptoRow.holds Try.pinned (OpenSpec.upto intsShortSpec)

/-- 'gleaninglaw9.WindowTells', WHERE WHAT IT READS IS OF BULK AT MOST 1048576: true; the input reads as it did. -/
def windowTellsUptoRow : OpenClaim := { program := "ytomjoccpkknamaa", sum := "b28969dc42de4545d4617eb48951c26ec8f6d706124cff1c93fc23eb7180e371", func := "gleaning/gleaninglaw9.WindowTells", spec := "windowTells", apart := false, narrowed := true }
def WindowTellsUptoSaid : Prop := windowTellsUptoRow.holds Try.pinned (OpenSpec.upto windowTellsSpec)

/-- 'gleaninglaw9.WindowHolds', WHERE WHAT IT READS IS OF BULK AT MOST 1048576: true; the input reads as it did. -/
def windowHoldsUptoRow : OpenClaim := { program := "ytomjoccpkknamaa", sum := "b28969dc42de4545d4617eb48951c26ec8f6d706124cff1c93fc23eb7180e371", func := "gleaning/gleaninglaw9.WindowHolds", spec := "windowHolds", apart := false, narrowed := true }
def WindowHoldsUptoSaid : Prop := windowHoldsUptoRow.holds Try.pinned (OpenSpec.upto windowHoldsSpec)

/-- 'gleaninglaw9.WindowNest', WHERE WHAT IT READS IS OF BULK AT MOST 1048576: true; the input reads as it did. -/
def windowNestUptoRow : OpenClaim := { program := "ytomjoccpkknamaa", sum := "b28969dc42de4545d4617eb48951c26ec8f6d706124cff1c93fc23eb7180e371", func := "gleaning/gleaninglaw9.WindowNest", spec := "windowNest", apart := false, narrowed := true }
def WindowNestUptoSaid : Prop := windowNestUptoRow.holds Try.pinned (OpenSpec.upto windowNestSpec)

/-- 'gleaninglaw1.IntsTell', WHERE WHAT IT READS IS OF BULK AT MOST 1048576: true; the input reads as it did. -/
def intsTellUptoRow : OpenClaim := { program := "ytomjoccpkknamaa", sum := "b28969dc42de4545d4617eb48951c26ec8f6d706124cff1c93fc23eb7180e371", func := "gleaning/gleaninglaw1.IntsTell", spec := "intsTell", apart := false, narrowed := true }
def IntsTellUptoSaid : Prop := intsTellUptoRow.holds Try.pinned (OpenSpec.upto intsTellSpec)

/-- 'gleaninglaw1.IntsBack', WHERE WHAT IT READS IS OF BULK AT MOST 1048576: true; the input reads as it did. -/
def intsBackUptoRow : OpenClaim := { program := "ytomjoccpkknamaa", sum := "b28969dc42de4545d4617eb48951c26ec8f6d706124cff1c93fc23eb7180e371", func := "gleaning/gleaninglaw1.IntsBack", spec := "intsBack", apart := false, narrowed := true }
def IntsBackUptoSaid : Prop := intsBackUptoRow.holds Try.pinned (OpenSpec.upto intsBackSpec)

/-- 'gleaninglaw1.IntsRow', WHERE WHAT IT READS IS OF BULK AT MOST 1048576: true; the input reads as it did. -/
def intsRowUptoRow : OpenClaim := { program := "ytomjoccpkknamaa", sum := "b28969dc42de4545d4617eb48951c26ec8f6d706124cff1c93fc23eb7180e371", func := "gleaning/gleaninglaw1.IntsRow", spec := "intsRow", apart := false, narrowed := true }
def IntsRowUptoSaid : Prop := intsRowUptoRow.holds Try.pinned (OpenSpec.upto intsRowSpec)

end Rows
end Go.Proofs.Ytomjoccpkknamaa
