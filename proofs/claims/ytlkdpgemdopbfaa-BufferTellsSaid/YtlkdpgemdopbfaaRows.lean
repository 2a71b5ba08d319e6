/-
  No cell of these rows narrows 'for every input' (looked for: loops, veiled, ifaces, maps, wideKeys, modest, calm, conditions, laid).
  DERIVED. THE GIVEN ROWS OF THIS SEAT. 12 by the template 'for every input the law returns true; each argument reads behind the call as it read before'; 0 by the template 'total and deterministic' (their statements: YtlkdpgemdopbfaaTotals.lean).
  GIVEN WITH THE SEED: the statements are not yours to turn. If you find one false, say at which input.
  Laid BY PROGRAM, IN A SANDBOX (cutbox-rows.mjs): the forced cells as the released guide's own fill.sh prints them over the translation 6723d847f3d3f347… (all of the seat's roots in one cut). By AI agents, Wed Nov 11 2026. No macro, syntax, notation, axiom, sorry.
-/
import Derived.Test.YtlkdpgemdopbfaaChecked
import GoSem.Claim
import GoSem.ClaimJoined
import GoSem.ClaimMapViews
import Derived.JoinedTies
import Derived.KernelRfl
namespace Go.Proofs.Ytlkdpgemdopbfaa
/- THE CELL 'sum', in the pinned program and in every row, IS THE sha256 OF THE DUMP (.gsa) THAT YtlkdpgemdopbfaaProg.lean LOADS. Nothing in Lean hashes anything: it is a label: what it is worth is what the hold of that sum in a sandbox is worth. -/
noncomputable def Try.pinned : Pinned := { name := "ytlkdpgemdopbfaa", sum := "6723d847f3d3f347ebc17c6184cea74a9af716ee08e6c27bcddcbaf18c710674", checked := Try.checked }
namespace Rows
def none {H : Type} : Left H := { results := [], args := [] }

/-- 'gleaninglaw15.EpisodeTells': WHATEVER THE INPUT: true; the input reads as it did. -/
def episodeTellsSpec : ChangeSpec := { name := "episodeTells", fn := fun _ => fun
  | [d1, d2, d3, d4] => { results := [.lit (.bool true)], args := [d1, d2, d3, d4] }
  | _ => none }
def episodeTellsRow : OpenClaim := { program := "ytlkdpgemdopbfaa", sum := "6723d847f3d3f347ebc17c6184cea74a9af716ee08e6c27bcddcbaf18c710674", func := "gleaning/gleaninglaw15.EpisodeTells", spec := "episodeTells", unfollowed := true, recurses := true, apart := false }
def EpisodeTellsSaid : Prop := episodeTellsRow.holds Try.pinned (OpenSpec.ofChange episodeTellsSpec)

/-- ITS FALSE NEIGHBOUR: 'it returns false'. Refute it at one input. -/
def episodeTellsWrong : ChangeSpec := { name := "episodeTells", fn := fun _ => fun
  | [d1, d2, d3, d4] => { results := [.lit (.bool false)], args := [d1, d2, d3, d4] }
  | _ => none }
def EpisodeTellsWrongFalsely : Prop := episodeTellsRow.holds Try.pinned (OpenSpec.ofChange episodeTellsWrong)

/-- 'gleaninglaw15.EpisodeOnce': WHATEVER THE INPUT: true; the input reads as it did. -/
def episodeOnceSpec : ChangeSpec := { name := "episodeOnce", fn := fun _ => fun
  | [d1, d2, d3] => { results := [.lit (.bool true)], args := [d1, d2, d3] }
  | _ => none }
def episodeOnceRow : OpenClaim := { program := "ytlkdpgemdopbfaa", sum := "6723d847f3d3f347ebc17c6184cea74a9af716ee08e6c27bcddcbaf18c710674", func := "gleaning/gleaninglaw15.EpisodeOnce", spec := "episodeOnce", unfollowed := true, recurses := true, apart := false }
def EpisodeOnceSaid : Prop := episodeOnceRow.holds Try.pinned (OpenSpec.ofChange episodeOnceSpec)

/-- ITS FALSE NEIGHBOUR: 'it returns false'. Refute it at one input. -/
def episodeOnceWrong : ChangeSpec := { name := "episodeOnce", fn := fun _ => fun
  | [d1, d2, d3] => { results := [.lit (.bool false)], args := [d1, d2, d3] }
  | _ => none }
def EpisodeOnceWrongFalsely : Prop := episodeOnceRow.holds Try.pinned (OpenSpec.ofChange episodeOnceWrong)

/-- 'gleaninglaw15.EpisodeJoins': WHATEVER THE INPUT: true; the input reads as it did. -/
def episodeJoinsSpec : ChangeSpec := { name := "episodeJoins", fn := fun _ => fun
  | [d1, d2, d3] => { results := [.lit (.bool true)], args := [d1, d2, d3] }
  | _ => none }
def episodeJoinsRow : OpenClaim := { program := "ytlkdpgemdopbfaa", sum := "6723d847f3d3f347ebc17c6184cea74a9af716ee08e6c27bcddcbaf18c710674", func := "gleaning/gleaninglaw15.EpisodeJoins", spec := "episodeJoins", unfollowed := true, recurses := true, apart := false }
def EpisodeJoinsSaid : Prop := episodeJoinsRow.holds Try.pinned (OpenSpec.ofChange episodeJoinsSpec)

/-- ITS FALSE NEIGHBOUR: 'it returns false'. Refute it at one input. -/
def episodeJoinsWrong : ChangeSpec := { name := "episodeJoins", fn := fun _ => fun
  | [d1, d2, d3] => { results := [.lit (.bool false)], args := [d1, d2, d3] }
  | _ => none }
def EpisodeJoinsWrongFalsely : Prop := episodeJoinsRow.holds Try.pinned (OpenSpec.ofChange episodeJoinsWrong)

/-- 'gleaninglaw16.BufferOnce': WHATEVER THE INPUT: true; the input reads as it did. -/
def bufferOnceSpec : ChangeSpec := { name := "bufferOnce", fn := fun _ => fun
  | [d1, d2] => { results := [.lit (.bool true)], args := [d1, d2] }
  | _ => none }
def bufferOnceRow : OpenClaim := { program := "ytlkdpgemdopbfaa", sum := "6723d847f3d3f347ebc17c6184cea74a9af716ee08e6c27bcddcbaf18c710674", func := "gleaning/gleaninglaw16.BufferOnce", spec := "bufferOnce", unfollowed := true, recurses := true, apart := false }
def BufferOnceSaid : Prop := bufferOnceRow.holds Try.pinned (OpenSpec.ofChange bufferOnceSpec)

/-- ITS FALSE NEIGHBOUR: 'it returns false'. Refute it at one input. -/
def bufferOnceWrong : ChangeSpec := { name := "bufferOnce", fn := fun _ => fun
  | [d1, d2] => { results := [.lit (.bool false)], args := [d1, d2] }
  | _ => none }
def BufferOnceWrongFalsely : Prop := bufferOnceRow.holds Try.pinned (OpenSpec.ofChange bufferOnceWrong)

/-- 'gleaningtop.TopNames': WHATEVER THE INPUT: true; the input reads as it did. -/
def topNamesSpec : ChangeSpec := { name := "topNames", fn := fun _ => fun
  | [] => { results := [.lit (.bool true)], args := [] }
  | _ => none }
def topNamesRow : OpenClaim := { program := "ytlkdpgemdopbfaa", sum := "6723d847f3d3f347ebc17c6184cea74a9af716ee08e6c27bcddcbaf18c710674", func := "gleaning/gleaningtop.TopNames", spec := "topNames", apart := false }
def TopNamesSaid : Prop := topNamesRow.holds Try.pinned (OpenSpec.ofChange topNamesSpec)

/-- ITS FALSE NEIGHBOUR: 'it returns false'. Refute it at one input. -/
def topNamesWrong : ChangeSpec := { name := "topNames", fn := fun _ => fun
  | [] => { results := [.lit (.bool false)], args := [] }
  | _ => none }
def TopNamesWrongFalsely : Prop := topNamesRow.holds Try.pinned (OpenSpec.ofChange topNamesWrong)

/-- 'gleaninglaw5.FrameTells': WHATEVER THE INPUT: true; the input reads as it did. -/
def frameTellsSpec : ChangeSpec := { name := "frameTells", fn := fun _ => fun
  | [d1, d2] => { results := [.lit (.bool true)], args := [d1, d2] }
  | _ => none }
def frameTellsRow : OpenClaim := { program := "ytlkdpgemdopbfaa", sum := "6723d847f3d3f347ebc17c6184cea74a9af716ee08e6c27bcddcbaf18c710674", func := "gleaning/gleaninglaw5.FrameTells", spec := "frameTells", apart := false }
def FrameTellsSaid : Prop := frameTellsRow.holds Try.pinned (OpenSpec.ofChange frameTellsSpec)

/-- ITS FALSE NEIGHBOUR: 'it returns false'. Refute it at one input. -/
def frameTellsWrong : ChangeSpec := { name := "frameTells", fn := fun _ => fun
  | [d1, d2] => { results := [.lit (.bool false)], args := [d1, d2] }
  | _ => none }
def FrameTellsWrongFalsely : Prop := frameTellsRow.holds Try.pinned (OpenSpec.ofChange frameTellsWrong)

/-- 'gleaninglaw5.FrameTorn': WHATEVER THE INPUT: true; the input reads as it did. -/
def frameTornSpec : ChangeSpec := { name := "frameTorn", fn := fun _ => fun
  | [d1, d2] => { results := [.lit (.bool true)], args := [d1, d2] }
  | _ => none }
def frameTornRow : OpenClaim := { program := "ytlkdpgemdopbfaa", sum := "6723d847f3d3f347ebc17c6184cea74a9af716ee08e6c27bcddcbaf18c710674", func := "gleaning/gleaninglaw5.FrameTorn", spec := "frameTorn", apart := false }
def FrameTornSaid : Prop := frameTornRow.holds Try.pinned (OpenSpec.ofChange frameTornSpec)

/-- ITS FALSE NEIGHBOUR: 'it returns false'. Refute it at one input. -/
def frameTornWrong : ChangeSpec := { name := "frameTorn", fn := fun _ => fun
  | [d1, d2] => { results := [.lit (.bool false)], args := [d1, d2] }
  | _ => none }
def FrameTornWrongFalsely : Prop := frameTornRow.holds Try.pinned (OpenSpec.ofChange frameTornWrong)

/-- 'gleaninglaw5.FrameJoin': WHATEVER THE INPUT: true; the input reads as it did. -/
def frameJoinSpec : ChangeSpec := { name := "frameJoin", fn := fun _ => fun
  | [d1, d2, d3] => { results := [.lit (.bool true)], args := [d1, d2, d3] }
  | _ => none }
def frameJoinRow : OpenClaim := { program := "ytlkdpgemdopbfaa", sum := "6723d847f3d3f347ebc17c6184cea74a9af716ee08e6c27bcddcbaf18c710674", func := "gleaning/gleaninglaw5.FrameJoin", spec := "frameJoin", apart := false }
def FrameJoinSaid : Prop := frameJoinRow.holds Try.pinned (OpenSpec.ofChange frameJoinSpec)

/-- ITS FALSE NEIGHBOUR: 'it returns false'. Refute it at one input. -/
def frameJoinWrong : ChangeSpec := { name := "frameJoin", fn := fun _ => fun
  | [d1, d2, d3] => { results := [.lit (.bool false)], args := [d1, d2, d3] }
  | _ => none }
def FrameJoinWrongFalsely : Prop := frameJoinRow.holds Try.pinned (OpenSpec.ofChange frameJoinWrong)

/-- 'gleaninglaw5.FrameTurned': WHATEVER THE INPUT: true; the input reads as it did. -/
def frameTurnedSpec : ChangeSpec := { name := "frameTurned", fn := fun _ => fun
  | [d1, d2, d3, d4] => { results := [.lit (.bool true)], args := [d1, d2, d3, d4] }
  | _ => none }
def frameTurnedRow : OpenClaim := { program := "ytlkdpgemdopbfaa", sum := "6723d847f3d3f347ebc17c6184cea74a9af716ee08e6c27bcddcbaf18c710674", func := "gleaning/gleaninglaw5.FrameTurned", spec := "frameTurned", apart := false }
def FrameTurnedSaid : Prop := frameTurnedRow.holds Try.pinned (OpenSpec.ofChange frameTurnedSpec)

/-- ITS FALSE NEIGHBOUR: 'it returns false'. Refute it at one input. -/
def frameTurnedWrong : ChangeSpec := { name := "frameTurned", fn := fun _ => fun
  | [d1, d2, d3, d4] => { results := [.lit (.bool false)], args := [d1, d2, d3, d4] }
  | _ => none }
def FrameTurnedWrongFalsely : Prop := frameTurnedRow.holds Try.pinned (OpenSpec.ofChange frameTurnedWrong)

/-- 'gleaninglaw16.BufferClose': WHATEVER THE INPUT: true; the input reads as it did. -/
def bufferCloseSpec : ChangeSpec := { name := "bufferClose", fn := fun _ => fun
  | [d1, d2, d3, d4] => { results := [.lit (.bool true)], args := [d1, d2, d3, d4] }
  | _ => none }
def bufferCloseRow : OpenClaim := { program := "ytlkdpgemdopbfaa", sum := "6723d847f3d3f347ebc17c6184cea74a9af716ee08e6c27bcddcbaf18c710674", func := "gleaning/gleaninglaw16.BufferClose", spec := "bufferClose", unfollowed := true, recurses := true, apart := false }
def BufferCloseSaid : Prop := bufferCloseRow.holds Try.pinned (OpenSpec.ofChange bufferCloseSpec)

/-- ITS FALSE NEIGHBOUR: 'it returns false'. Refute it at one input. -/
def bufferCloseWrong : ChangeSpec := { name := "bufferClose", fn := fun _ => fun
  | [d1, d2, d3, d4] => { results := [.lit (.bool false)], args := [d1, d2, d3, d4] }
  | _ => none }
def BufferCloseWrongFalsely : Prop := bufferCloseRow.holds Try.pinned (OpenSpec.ofChange bufferCloseWrong)

/-- 'gleaninglaw16.BufferOldest': WHATEVER THE INPUT: true; the input reads as it did. -/
def bufferOldestSpec : ChangeSpec := { name := "bufferOldest", fn := fun _ => fun
  | [d] => { results := [.lit (.bool true)], args := [d] }
  | _ => none }
def bufferOldestRow : OpenClaim := { program := "ytlkdpgemdopbfaa", sum := "6723d847f3d3f347ebc17c6184cea74a9af716ee08e6c27bcddcbaf18c710674", func := "gleaning/gleaninglaw16.BufferOldest", spec := "bufferOldest", unfollowed := true, recurses := true, apart := false }
def BufferOldestSaid : Prop := bufferOldestRow.holds Try.pinned (OpenSpec.ofChange bufferOldestSpec)

/-- ITS FALSE NEIGHBOUR: 'it returns false'. Refute it at one input. -/
def bufferOldestWrong : ChangeSpec := { name := "bufferOldest", fn := fun _ => fun
  | [d] => { results := [.lit (.bool false)], args := [d] }
  | _ => none }
def BufferOldestWrongFalsely : Prop := bufferOldestRow.holds Try.pinned (OpenSpec.ofChange bufferOldestWrong)

/-- 'gleaninglaw16.BufferTells': WHATEVER THE INPUT: true; the input reads as it did. -/
def bufferTellsSpec : ChangeSpec := { name := "bufferTells", fn := fun _ => fun
  | [d1, d2, d3, d4, d5, d6] => { results := [.lit (.bool true)], args := [d1, d2, d3, d4, d5, d6] }
  | _ => none }
def bufferTellsRow : OpenClaim := { program := "ytlkdpgemdopbfaa", sum := "6723d847f3d3f347ebc17c6184cea74a9af716ee08e6c27bcddcbaf18c710674", func := "gleaning/gleaninglaw16.BufferTells", spec := "bufferTells", unfollowed := true, recurses := true, apart := false }
def BufferTellsSaid : Prop := bufferTellsRow.holds Try.pinned (OpenSpec.ofChange bufferTellsSpec)

/-- ITS FALSE NEIGHBOUR: 'it returns false'. Refute it at one input. -/
def bufferTellsWrong : ChangeSpec := { name := "bufferTells", fn := fun _ => fun
  | [d1, d2, d3, d4, d5, d6] => { results := [.lit (.bool false)], args := [d1, d2, d3, d4, d5, d6] }
  | _ => none }
def BufferTellsWrongFalsely : Prop := bufferTellsRow.holds Try.pinned (OpenSpec.ofChange bufferTellsWrong)

/- THE SECOND FORM. 'bulk': how many values and letters a reading holds, each counted each time it is reached (what is shared counts as often as it is met; a slice's spare places count too). A statement '..UptoSaid' is the law's where the arguments, and the package variables that the reading takes, are together of bulk at most 1048576: NARROWER than '..Said'. Prove '..Said' where nothing that the law and all that it calls make is longer than what came in: it says more and counts as full. Else prove '..UptoSaid'. A law counts once. -/
mutual
def uptoBulk {H : Type} : DataW H → Nat
  | .lit (.string bytes) => bytes.length + 1
  | .lit _ => 1
  | .nil => 1
  | .ptr d => uptoBulk d + 1
  | .slice elems spare => uptoBulkAll elems + uptoBulkAll spare + 1
  | .agg parts => uptoBulkAll parts + 1
  | .iface _ d => uptoBulk d + 1
  | .map entries => uptoBulkEntries entries + 1
  | .held _ => 1
def uptoBulkAll {H : Type} : List (DataW H) → Nat
  | [] => 0
  | d :: r => uptoBulk d + uptoBulkAll r
def uptoBulkEntries {H : Type} : List (Lit × DataW H) → Nat
  | [] => 0
  | x :: r => uptoBulkEntry x + uptoBulkEntries r
def uptoBulkEntry {H : Type} : Lit × DataW H → Nat
  | (.string bytes, d) => bytes.length + uptoBulk d + 1
  | (_, d) => uptoBulk d + 1
 end
def uptoSmall : (H : Type) → List (DataW H) → Bool := fun _ ds => decide (uptoBulkAll ds ≤ 1048576)
def OpenSpec.upto (s : _root_.Go.ChangeSpec) : _root_.Go.OpenSpec := { _root_.Go.OpenSpec.ofChange s with cond := some uptoSmall }

/-- 'gleaninglaw15.EpisodeTells', WHERE WHAT IT READS IS OF BULK AT MOST 1048576: true; the input reads as it did. -/
def episodeTellsUptoRow : OpenClaim := { program := "ytlkdpgemdopbfaa", sum := "6723d847f3d3f347ebc17c6184cea74a9af716ee08e6c27bcddcbaf18c710674", func := "gleaning/gleaninglaw15.EpisodeTells", spec := "episodeTells", unfollowed := true, recurses := true, apart := false, narrowed := true }
def EpisodeTellsUptoSaid : Prop := episodeTellsUptoRow.holds Try.pinned (OpenSpec.upto episodeTellsSpec)

/-- 'gleaninglaw15.EpisodeOnce', WHERE WHAT IT READS IS OF BULK AT MOST 1048576: true; the input reads as it did. -/
def episodeOnceUptoRow : OpenClaim := { program := "ytlkdpgemdopbfaa", sum := "6723d847f3d3f347ebc17c6184cea74a9af716ee08e6c27bcddcbaf18c710674", func := "gleaning/gleaninglaw15.EpisodeOnce", spec := "episodeOnce", unfollowed := true, recurses := true, apart := false, narrowed := true }
def EpisodeOnceUptoSaid : Prop := episodeOnceUptoRow.holds Try.pinned (OpenSpec.upto episodeOnceSpec)

/-- 'gleaninglaw15.EpisodeJoins', WHERE WHAT IT READS IS OF BULK AT MOST 1048576: true; the input reads as it did. -/
def episodeJoinsUptoRow : OpenClaim := { program := "ytlkdpgemdopbfaa", sum := "6723d847f3d3f347ebc17c6184cea74a9af716ee08e6c27bcddcbaf18c710674", func := "gleaning/gleaninglaw15.EpisodeJoins", spec := "episodeJoins", unfollowed := true, recurses := true, apart := false, narrowed := true }
def EpisodeJoinsUptoSaid : Prop := episodeJoinsUptoRow.holds Try.pinned (OpenSpec.upto episodeJoinsSpec)

/-- 'gleaninglaw16.BufferOnce', WHERE WHAT IT READS IS OF BULK AT MOST 1048576: true; the input reads as it did. -/
def bufferOnceUptoRow : OpenClaim := { program := "ytlkdpgemdopbfaa", sum := "6723d847f3d3f347ebc17c6184cea74a9af716ee08e6c27bcddcbaf18c710674", func := "gleaning/gleaninglaw16.BufferOnce", spec := "bufferOnce", unfollowed := true, recurses := true, apart := false, narrowed := true }
def BufferOnceUptoSaid : Prop := bufferOnceUptoRow.holds Try.pinned (OpenSpec.upto bufferOnceSpec)

/-- 'gleaningtop.TopNames', WHERE WHAT IT READS IS OF BULK AT MOST 1048576: true; the input reads as it did. -/
def topNamesUptoRow : OpenClaim := { program := "ytlkdpgemdopbfaa", sum := "6723d847f3d3f347ebc17c6184cea74a9af716ee08e6c27bcddcbaf18c710674", func := "gleaning/gleaningtop.TopNames", spec := "topNames", apart := false, narrowed := true }
def TopNamesUptoSaid : Prop := topNamesUptoRow.holds Try.pinned (OpenSpec.upto topNamesSpec)

/-- 'gleaninglaw5.FrameTells', WHERE WHAT IT READS IS OF BULK AT MOST 1048576: true; the input reads as it did. -/
def frameTellsUptoRow : OpenClaim := { program := "ytlkdpgemdopbfaa", sum := "6723d847f3d3f347ebc17c6184cea74a9af716ee08e6c27bcddcbaf18c710674", func := "gleaning/gleaninglaw5.FrameTells", spec := "frameTells", apart := false, narrowed := true }
def FrameTellsUptoSaid : Prop := frameTellsUptoRow.holds Try.pinned (OpenSpec.upto frameTellsSpec)

/-- 'gleaninglaw5.FrameTorn', WHERE WHAT IT READS IS OF BULK AT MOST 1048576: true; the input reads as it did. -/
def frameTornUptoRow : OpenClaim := { program := "ytlkdpgemdopbfaa", sum := "6723d847f3d3f347ebc17c6184cea74a9af716ee08e6c27bcddcbaf18c710674", func := "gleaning/gleaninglaw5.FrameTorn", spec := "frameTorn", apart := false, narrowed := true }
def FrameTornUptoSaid : Prop := frameTornUptoRow.holds Try.pinned (OpenSpec.upto frameTornSpec)

/-- 'gleaninglaw5.FrameJoin', WHERE WHAT IT READS IS OF BULK AT MOST 1048576: true; the input reads as it did. -/
def frameJoinUptoRow : OpenClaim := { program := "ytlkdpgemdopbfaa", sum := "6723d847f3d3f347ebc17c6184cea74a9af716ee08e6c27bcddcbaf18c710674", func := "gleaning/gleaninglaw5.FrameJoin", spec := "frameJoin", apart := false, narrowed := true }
def FrameJoinUptoSaid : Prop := frameJoinUptoRow.holds Try.pinned (OpenSpec.upto frameJoinSpec)

/-- 'gleaninglaw5.FrameTurned', WHERE WHAT IT READS IS OF BULK AT MOST 1048576: true; the input reads as it did. -/
def frameTurnedUptoRow : OpenClaim := { program := "ytlkdpgemdopbfaa", sum := "6723d847f3d3f347ebc17c6184cea74a9af716ee08e6c27bcddcbaf18c710674", func := "gleaning/gleaninglaw5.FrameTurned", spec := "frameTurned", apart := false, narrowed := true }
def FrameTurnedUptoSaid : Prop := frameTurnedUptoRow.holds Try.pinned (OpenSpec.upto frameTurnedSpec)

/-- 'gleaninglaw16.BufferClose', WHERE WHAT IT READS IS OF BULK AT MOST 1048576: true; the input reads as it did. -/
def bufferCloseUptoRow : OpenClaim := { program := "ytlkdpgemdopbfaa", sum := "6723d847f3d3f347ebc17c6184cea74a9af716ee08e6c27bcddcbaf18c710674", func := "gleaning/gleaninglaw16.BufferClose", spec := "bufferClose", unfollowed := true, recurses := true, apart := false, narrowed := true }
def BufferCloseUptoSaid : Prop := bufferCloseUptoRow.holds Try.pinned (OpenSpec.upto bufferCloseSpec)

/-- 'gleaninglaw16.BufferOldest', WHERE WHAT IT READS IS OF BULK AT MOST 1048576: true; the input reads as it did. -/
def bufferOldestUptoRow : OpenClaim := { program := "ytlkdpgemdopbfaa", sum := "6723d847f3d3f347ebc17c6184cea74a9af716ee08e6c27bcddcbaf18c710674", func := "gleaning/gleaninglaw16.BufferOldest", spec := "bufferOldest", unfollowed := true, recurses := true, apart := false, narrowed := true }
def BufferOldestUptoSaid : Prop := bufferOldestUptoRow.holds Try.pinned (OpenSpec.upto bufferOldestSpec)

/-- 'gleaninglaw16.BufferTells', WHERE WHAT IT READS IS OF BULK AT MOST 1048576: true; the input reads as it did. -/
def bufferTellsUptoRow : OpenClaim := { program := "ytlkdpgemdopbfaa", sum := "6723d847f3d3f347ebc17c6184cea74a9af716ee08e6c27bcddcbaf18c710674", func := "gleaning/gleaninglaw16.BufferTells", spec := "bufferTells", unfollowed := true, recurses := true, apart := false, narrowed := true }
def BufferTellsUptoSaid : Prop := bufferTellsUptoRow.holds Try.pinned (OpenSpec.upto bufferTellsSpec)

end Rows
end Go.Proofs.Ytlkdpgemdopbfaa
