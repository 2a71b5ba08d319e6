/-
  NARROWER THAN 'FOR EVERY INPUT', by the rows' own cells (each row's printed sentence says how): JudgeTells: loops · JudgeLaws: loops · JudgeGrows: loops · RuleTorn: loops · RuleTells: loops.
  DERIVED. THE GIVEN ROWS OF THIS SEAT. 15 by the template 'for every input the law returns true; each argument reads behind the call as it read before'; 0 by the template 'total and deterministic' (their statements: YtbfmmaabaenhgaaTotals.lean).
  GIVEN WITH THE SEED: the statements are not yours to turn. If you find one false, say at which input.
  Laid BY PROGRAM, IN A SANDBOX (cutbox-rows.mjs): the forced cells as the released guide's own fill.sh prints them over the translation 88e6f4dcb80a0c1a… (all of the seat's roots in one cut). By AI agents, Wed Nov 11 2026. No macro, syntax, notation, axiom, sorry.
-/
import Derived.Test.YtbfmmaabaenhgaaChecked
import GoSem.Claim
import GoSem.ClaimJoined
import GoSem.ClaimMapViews
import Derived.JoinedTies
import Derived.KernelRfl
namespace Go.Proofs.Ytbfmmaabaenhgaa
/- THE CELL 'sum', in the pinned program and in every row, IS THE sha256 OF THE DUMP (.gsa) THAT YtbfmmaabaenhgaaProg.lean LOADS. Nothing in Lean hashes anything: it is a label: what it is worth is what the hold of that sum in a sandbox is worth. -/
noncomputable def Try.pinned : Pinned := { name := "ytbfmmaabaenhgaa", sum := "88e6f4dcb80a0c1a1c5aa39189b1359ad21ac489562204db1dd1e2c44d4b8e43", checked := Try.checked }
namespace Rows
def none {H : Type} : Left H := { results := [], args := [] }

/-- 'gleaninglaw14.JudgeTells': WHATEVER THE INPUT: true; the input reads as it did. -/
def judgeTellsSpec : ChangeSpec := { name := "judgeTells", fn := fun _ => fun
  | [d1, d2, d3, d4] => { results := [.lit (.bool true)], args := [d1, d2, d3, d4] }
  | _ => none }
def judgeTellsRow : OpenClaim := { program := "ytbfmmaabaenhgaa", sum := "88e6f4dcb80a0c1a1c5aa39189b1359ad21ac489562204db1dd1e2c44d4b8e43", func := "gleaning/gleaninglaw14.JudgeTells", spec := "judgeTells", unfollowed := true, recurses := true, loops := true, apart := false }
def JudgeTellsSaid : Prop := judgeTellsRow.holds Try.pinned (OpenSpec.ofChange judgeTellsSpec)

/-- ITS FALSE NEIGHBOUR: 'it returns false'. Refute it at one input. -/
def judgeTellsWrong : ChangeSpec := { name := "judgeTells", fn := fun _ => fun
  | [d1, d2, d3, d4] => { results := [.lit (.bool false)], args := [d1, d2, d3, d4] }
  | _ => none }
def JudgeTellsWrongFalsely : Prop := judgeTellsRow.holds Try.pinned (OpenSpec.ofChange judgeTellsWrong)

/-- 'gleaninglaw14.JudgeLaws': WHATEVER THE INPUT: true; the input reads as it did. -/
def judgeLawsSpec : ChangeSpec := { name := "judgeLaws", fn := fun _ => fun
  | [d1, d2, d3, d4] => { results := [.lit (.bool true)], args := [d1, d2, d3, d4] }
  | _ => none }
def judgeLawsRow : OpenClaim := { program := "ytbfmmaabaenhgaa", sum := "88e6f4dcb80a0c1a1c5aa39189b1359ad21ac489562204db1dd1e2c44d4b8e43", func := "gleaning/gleaninglaw14.JudgeLaws", spec := "judgeLaws", unfollowed := true, recurses := true, loops := true, apart := false }
def JudgeLawsSaid : Prop := judgeLawsRow.holds Try.pinned (OpenSpec.ofChange judgeLawsSpec)

/-- ITS FALSE NEIGHBOUR: 'it returns false'. Refute it at one input. -/
def judgeLawsWrong : ChangeSpec := { name := "judgeLaws", fn := fun _ => fun
  | [d1, d2, d3, d4] => { results := [.lit (.bool false)], args := [d1, d2, d3, d4] }
  | _ => none }
def JudgeLawsWrongFalsely : Prop := judgeLawsRow.holds Try.pinned (OpenSpec.ofChange judgeLawsWrong)

/-- 'gleaninglaw14.JudgeHash': WHATEVER THE INPUT: true; the input reads as it did. -/
def judgeHashSpec : ChangeSpec := { name := "judgeHash", fn := fun _ => fun
  | [d1, d2, d3, d4] => { results := [.lit (.bool true)], args := [d1, d2, d3, d4] }
  | _ => none }
def judgeHashRow : OpenClaim := { program := "ytbfmmaabaenhgaa", sum := "88e6f4dcb80a0c1a1c5aa39189b1359ad21ac489562204db1dd1e2c44d4b8e43", func := "gleaning/gleaninglaw14.JudgeHash", spec := "judgeHash", unfollowed := true, recurses := true, apart := false }
def JudgeHashSaid : Prop := judgeHashRow.holds Try.pinned (OpenSpec.ofChange judgeHashSpec)

/-- ITS FALSE NEIGHBOUR: 'it returns false'. Refute it at one input. -/
def judgeHashWrong : ChangeSpec := { name := "judgeHash", fn := fun _ => fun
  | [d1, d2, d3, d4] => { results := [.lit (.bool false)], args := [d1, d2, d3, d4] }
  | _ => none }
def JudgeHashWrongFalsely : Prop := judgeHashRow.holds Try.pinned (OpenSpec.ofChange judgeHashWrong)

/-- 'gleaninglaw14.JudgeGrows': WHATEVER THE INPUT: true; the input reads as it did. -/
def judgeGrowsSpec : ChangeSpec := { name := "judgeGrows", fn := fun _ => fun
  | [d1, d2, d3, d4] => { results := [.lit (.bool true)], args := [d1, d2, d3, d4] }
  | _ => none }
def judgeGrowsRow : OpenClaim := { program := "ytbfmmaabaenhgaa", sum := "88e6f4dcb80a0c1a1c5aa39189b1359ad21ac489562204db1dd1e2c44d4b8e43", func := "gleaning/gleaninglaw14.JudgeGrows", spec := "judgeGrows", unfollowed := true, recurses := true, loops := true, apart := false }
def JudgeGrowsSaid : Prop := judgeGrowsRow.holds Try.pinned (OpenSpec.ofChange judgeGrowsSpec)

/-- ITS FALSE NEIGHBOUR: 'it returns false'. Refute it at one input. -/
def judgeGrowsWrong : ChangeSpec := { name := "judgeGrows", fn := fun _ => fun
  | [d1, d2, d3, d4] => { results := [.lit (.bool false)], args := [d1, d2, d3, d4] }
  | _ => none }
def JudgeGrowsWrongFalsely : Prop := judgeGrowsRow.holds Try.pinned (OpenSpec.ofChange judgeGrowsWrong)

/-- 'gleaninglaw3.SpanBack': WHATEVER THE INPUT: true; the input reads as it did. -/
def spanBackSpec : ChangeSpec := { name := "spanBack", fn := fun _ => fun
  | [d1, d2, d3] => { results := [.lit (.bool true)], args := [d1, d2, d3] }
  | _ => none }
def spanBackRow : OpenClaim := { program := "ytbfmmaabaenhgaa", sum := "88e6f4dcb80a0c1a1c5aa39189b1359ad21ac489562204db1dd1e2c44d4b8e43", func := "gleaning/gleaninglaw3.SpanBack", spec := "spanBack", unfollowed := true, recurses := true, apart := false }
def SpanBackSaid : Prop := spanBackRow.holds Try.pinned (OpenSpec.ofChange spanBackSpec)

/-- ITS FALSE NEIGHBOUR: 'it returns false'. Refute it at one input. -/
def spanBackWrong : ChangeSpec := { name := "spanBack", fn := fun _ => fun
  | [d1, d2, d3] => { results := [.lit (.bool false)], args := [d1, d2, d3] }
  | _ => none }
def SpanBackWrongFalsely : Prop := spanBackRow.holds Try.pinned (OpenSpec.ofChange spanBackWrong)

/-- 'gleaninglaw3.SpanLimits': WHATEVER THE INPUT: true; the input reads as it did. -/
def spanLimitsSpec : ChangeSpec := { name := "spanLimits", fn := fun _ => fun
  | [d1, d2] => { results := [.lit (.bool true)], args := [d1, d2] }
  | _ => none }
def spanLimitsRow : OpenClaim := { program := "ytbfmmaabaenhgaa", sum := "88e6f4dcb80a0c1a1c5aa39189b1359ad21ac489562204db1dd1e2c44d4b8e43", func := "gleaning/gleaninglaw3.SpanLimits", spec := "spanLimits", unfollowed := true, recurses := true, apart := false }
def SpanLimitsSaid : Prop := spanLimitsRow.holds Try.pinned (OpenSpec.ofChange spanLimitsSpec)

/-- ITS FALSE NEIGHBOUR: 'it returns false'. Refute it at one input. -/
def spanLimitsWrong : ChangeSpec := { name := "spanLimits", fn := fun _ => fun
  | [d1, d2] => { results := [.lit (.bool false)], args := [d1, d2] }
  | _ => none }
def SpanLimitsWrongFalsely : Prop := spanLimitsRow.holds Try.pinned (OpenSpec.ofChange spanLimitsWrong)

/-- 'gleaninglaw3.SpanApart': WHATEVER THE INPUT: true; the input reads as it did. -/
def spanApartSpec : ChangeSpec := { name := "spanApart", fn := fun _ => fun
  | [d1, d2] => { results := [.lit (.bool true)], args := [d1, d2] }
  | _ => none }
def spanApartRow : OpenClaim := { program := "ytbfmmaabaenhgaa", sum := "88e6f4dcb80a0c1a1c5aa39189b1359ad21ac489562204db1dd1e2c44d4b8e43", func := "gleaning/gleaninglaw3.SpanApart", spec := "spanApart", unfollowed := true, recurses := true, apart := false }
def SpanApartSaid : Prop := spanApartRow.holds Try.pinned (OpenSpec.ofChange spanApartSpec)

/-- ITS FALSE NEIGHBOUR: 'it returns false'. Refute it at one input. -/
def spanApartWrong : ChangeSpec := { name := "spanApart", fn := fun _ => fun
  | [d1, d2] => { results := [.lit (.bool false)], args := [d1, d2] }
  | _ => none }
def SpanApartWrongFalsely : Prop := spanApartRow.holds Try.pinned (OpenSpec.ofChange spanApartWrong)

/-- 'gleaninglaw3.SpanTells': WHATEVER THE INPUT: true; the input reads as it did. -/
def spanTellsSpec : ChangeSpec := { name := "spanTells", fn := fun _ => fun
  | [d1, d2, d3] => { results := [.lit (.bool true)], args := [d1, d2, d3] }
  | _ => none }
def spanTellsRow : OpenClaim := { program := "ytbfmmaabaenhgaa", sum := "88e6f4dcb80a0c1a1c5aa39189b1359ad21ac489562204db1dd1e2c44d4b8e43", func := "gleaning/gleaninglaw3.SpanTells", spec := "spanTells", unfollowed := true, recurses := true, apart := false }
def SpanTellsSaid : Prop := spanTellsRow.holds Try.pinned (OpenSpec.ofChange spanTellsSpec)

/-- ITS FALSE NEIGHBOUR: 'it returns false'. Refute it at one input. -/
def spanTellsWrong : ChangeSpec := { name := "spanTells", fn := fun _ => fun
  | [d1, d2, d3] => { results := [.lit (.bool false)], args := [d1, d2, d3] }
  | _ => none }
def SpanTellsWrongFalsely : Prop := spanTellsRow.holds Try.pinned (OpenSpec.ofChange spanTellsWrong)

/-- 'gleaninglaw13.RuleTorn': WHATEVER THE INPUT: true; the input reads as it did. -/
def ruleTornSpec : ChangeSpec := { name := "ruleTorn", fn := fun _ => fun
  | [d1, d2] => { results := [.lit (.bool true)], args := [d1, d2] }
  | _ => none }
def ruleTornRow : OpenClaim := { program := "ytbfmmaabaenhgaa", sum := "88e6f4dcb80a0c1a1c5aa39189b1359ad21ac489562204db1dd1e2c44d4b8e43", func := "gleaning/gleaninglaw13.RuleTorn", spec := "ruleTorn", recurses := true, loops := true, apart := false }
def RuleTornSaid : Prop := ruleTornRow.holds Try.pinned (OpenSpec.ofChange ruleTornSpec)

/-- ITS FALSE NEIGHBOUR: 'it returns false'. Refute it at one input. -/
def ruleTornWrong : ChangeSpec := { name := "ruleTorn", fn := fun _ => fun
  | [d1, d2] => { results := [.lit (.bool false)], args := [d1, d2] }
  | _ => none }
def RuleTornWrongFalsely : Prop := ruleTornRow.holds Try.pinned (OpenSpec.ofChange ruleTornWrong)

/-- 'gleaninglaw13.RuleLimits': WHATEVER THE INPUT: true; the input reads as it did. -/
def ruleLimitsSpec : ChangeSpec := { name := "ruleLimits", fn := fun _ => fun
  | [d1, d2] => { results := [.lit (.bool true)], args := [d1, d2] }
  | _ => none }
def ruleLimitsRow : OpenClaim := { program := "ytbfmmaabaenhgaa", sum := "88e6f4dcb80a0c1a1c5aa39189b1359ad21ac489562204db1dd1e2c44d4b8e43", func := "gleaning/gleaninglaw13.RuleLimits", spec := "ruleLimits", recurses := true, apart := false }
def RuleLimitsSaid : Prop := ruleLimitsRow.holds Try.pinned (OpenSpec.ofChange ruleLimitsSpec)

/-- ITS FALSE NEIGHBOUR: 'it returns false'. Refute it at one input. -/
def ruleLimitsWrong : ChangeSpec := { name := "ruleLimits", fn := fun _ => fun
  | [d1, d2] => { results := [.lit (.bool false)], args := [d1, d2] }
  | _ => none }
def RuleLimitsWrongFalsely : Prop := ruleLimitsRow.holds Try.pinned (OpenSpec.ofChange ruleLimitsWrong)

/-- 'gleaninglaw13.RuleKinds': WHATEVER THE INPUT: true; the input reads as it did. -/
def ruleKindsSpec : ChangeSpec := { name := "ruleKinds", fn := fun _ => fun
  | [d] => { results := [.lit (.bool true)], args := [d] }
  | _ => none }
def ruleKindsRow : OpenClaim := { program := "ytbfmmaabaenhgaa", sum := "88e6f4dcb80a0c1a1c5aa39189b1359ad21ac489562204db1dd1e2c44d4b8e43", func := "gleaning/gleaninglaw13.RuleKinds", spec := "ruleKinds", recurses := true, apart := false }
def RuleKindsSaid : Prop := ruleKindsRow.holds Try.pinned (OpenSpec.ofChange ruleKindsSpec)

/-- ITS FALSE NEIGHBOUR: 'it returns false'. Refute it at one input. -/
def ruleKindsWrong : ChangeSpec := { name := "ruleKinds", fn := fun _ => fun
  | [d] => { results := [.lit (.bool false)], args := [d] }
  | _ => none }
def RuleKindsWrongFalsely : Prop := ruleKindsRow.holds Try.pinned (OpenSpec.ofChange ruleKindsWrong)

/-- 'gleaninglaw13.RuleTells': WHATEVER THE INPUT: true; the input reads as it did. -/
def ruleTellsSpec : ChangeSpec := { name := "ruleTells", fn := fun _ => fun
  | [d1, d2, d3] => { results := [.lit (.bool true)], args := [d1, d2, d3] }
  | _ => none }
def ruleTellsRow : OpenClaim := { program := "ytbfmmaabaenhgaa", sum := "88e6f4dcb80a0c1a1c5aa39189b1359ad21ac489562204db1dd1e2c44d4b8e43", func := "gleaning/gleaninglaw13.RuleTells", spec := "ruleTells", unfollowed := true, recurses := true, loops := true, apart := false }
def RuleTellsSaid : Prop := ruleTellsRow.holds Try.pinned (OpenSpec.ofChange ruleTellsSpec)

/-- ITS FALSE NEIGHBOUR: 'it returns false'. Refute it at one input. -/
def ruleTellsWrong : ChangeSpec := { name := "ruleTells", fn := fun _ => fun
  | [d1, d2, d3] => { results := [.lit (.bool false)], args := [d1, d2, d3] }
  | _ => none }
def RuleTellsWrongFalsely : Prop := ruleTellsRow.holds Try.pinned (OpenSpec.ofChange ruleTellsWrong)

/-- 'gleaninglaw4.BatchTells': WHATEVER THE INPUT: true; the input reads as it did. -/
def batchTellsSpec : ChangeSpec := { name := "batchTells", fn := fun _ => fun
  | [d1, d2] => { results := [.lit (.bool true)], args := [d1, d2] }
  | _ => none }
def batchTellsRow : OpenClaim := { program := "ytbfmmaabaenhgaa", sum := "88e6f4dcb80a0c1a1c5aa39189b1359ad21ac489562204db1dd1e2c44d4b8e43", func := "gleaning/gleaninglaw4.BatchTells", spec := "batchTells", unfollowed := true, recurses := true, apart := false }
def BatchTellsSaid : Prop := batchTellsRow.holds Try.pinned (OpenSpec.ofChange batchTellsSpec)

/-- ITS FALSE NEIGHBOUR: 'it returns false'. Refute it at one input. -/
def batchTellsWrong : ChangeSpec := { name := "batchTells", fn := fun _ => fun
  | [d1, d2] => { results := [.lit (.bool false)], args := [d1, d2] }
  | _ => none }
def BatchTellsWrongFalsely : Prop := batchTellsRow.holds Try.pinned (OpenSpec.ofChange batchTellsWrong)

/-- 'gleaninglaw4.BatchTorn': WHATEVER THE INPUT: true; the input reads as it did. -/
def batchTornSpec : ChangeSpec := { name := "batchTorn", fn := fun _ => fun
  | [d1, d2, d3] => { results := [.lit (.bool true)], args := [d1, d2, d3] }
  | _ => none }
def batchTornRow : OpenClaim := { program := "ytbfmmaabaenhgaa", sum := "88e6f4dcb80a0c1a1c5aa39189b1359ad21ac489562204db1dd1e2c44d4b8e43", func := "gleaning/gleaninglaw4.BatchTorn", spec := "batchTorn", unfollowed := true, recurses := true, apart := false }
def BatchTornSaid : Prop := batchTornRow.holds Try.pinned (OpenSpec.ofChange batchTornSpec)

/-- ITS FALSE NEIGHBOUR: 'it returns false'. Refute it at one input. -/
def batchTornWrong : ChangeSpec := { name := "batchTorn", fn := fun _ => fun
  | [d1, d2, d3] => { results := [.lit (.bool false)], args := [d1, d2, d3] }
  | _ => none }
def BatchTornWrongFalsely : Prop := batchTornRow.holds Try.pinned (OpenSpec.ofChange batchTornWrong)

/-- 'gleaninglaw4.BatchLimits': WHATEVER THE INPUT: true; the input reads as it did. -/
def batchLimitsSpec : ChangeSpec := { name := "batchLimits", fn := fun _ => fun
  | [d1, d2, d3] => { results := [.lit (.bool true)], args := [d1, d2, d3] }
  | _ => none }
def batchLimitsRow : OpenClaim := { program := "ytbfmmaabaenhgaa", sum := "88e6f4dcb80a0c1a1c5aa39189b1359ad21ac489562204db1dd1e2c44d4b8e43", func := "gleaning/gleaninglaw4.BatchLimits", spec := "batchLimits", unfollowed := true, recurses := true, apart := false }
def BatchLimitsSaid : Prop := batchLimitsRow.holds Try.pinned (OpenSpec.ofChange batchLimitsSpec)

/-- ITS FALSE NEIGHBOUR: 'it returns false'. Refute it at one input. -/
def batchLimitsWrong : ChangeSpec := { name := "batchLimits", fn := fun _ => fun
  | [d1, d2, d3] => { results := [.lit (.bool false)], args := [d1, d2, d3] }
  | _ => none }
def BatchLimitsWrongFalsely : Prop := batchLimitsRow.holds Try.pinned (OpenSpec.ofChange batchLimitsWrong)

/- THE SECOND FORM. 'bulk': how many values and letters a reading holds, each counted each time it is reached (what is shared counts as often as it is met; a slice's spare places count too). A statement '..UptoSaid' is the law's where the arguments, and the package variables that the reading takes, are together of bulk at most 1048576: NARROWER than '..Said'. Prove '..Said' where nothing that the law and all that it calls make is longer than what came in: it says more and counts as full. Else prove '..UptoSaid'. A law counts once. -/
mutual
def uptoBulk {H : Type} : DataW H → Nat
  | .lit (.string bytes) => bytes.length + 1
  | .lit _ => 1
  | .nil => 1
  | .ptr d => uptoBulk d + 1
  | .slice elems spare => uptoBulkAll elems + uptoBulkAll spare + 1
  | .agg parts => uptoBulkAll parts + 1
  | .iface _ d => uptoBulk d + 1
  | .map entries => uptoBulkEntries entries + 1
  | .held _ => 1
def uptoBulkAll {H : Type} : List (DataW H) → Nat
  | [] => 0
  | d :: r => uptoBulk d + uptoBulkAll r
def uptoBulkEntries {H : Type} : List (Lit × DataW H) → Nat
  | [] => 0
  | x :: r => uptoBulkEntry x + uptoBulkEntries r
def uptoBulkEntry {H : Type} : Lit × DataW H → Nat
  | (.string bytes, d) => bytes.length + uptoBulk d + 1
  | (_, d) => uptoBulk d + 1
 end
def uptoSmall : (H : Type) → List (DataW H) → Bool := fun _ ds => decide (uptoBulkAll ds ≤ 1048576)
def OpenSpec.upto (s : _root_.Go.ChangeSpec) : _root_.Go.OpenSpec := { _root_.Go.OpenSpec.ofChange s with cond := some uptoSmall }

/-- 'gleaninglaw14.JudgeTells', WHERE WHAT IT READS IS OF BULK AT MOST 1048576: true; the input reads as it did. -/
def judgeTellsUptoRow : OpenClaim := { program := "ytbfmmaabaenhgaa", sum := "88e6f4dcb80a0c1a1c5aa39189b1359ad21ac489562204db1dd1e2c44d4b8e43", func := "gleaning/gleaninglaw14.JudgeTells", spec := "judgeTells", unfollowed := true, recurses := true, loops := true, apart := false, narrowed := true }
def JudgeTellsUptoSaid : Prop := judgeTellsUptoRow.holds Try.pinned (OpenSpec.upto judgeTellsSpec)

/-- 'gleaninglaw14.JudgeLaws', WHERE WHAT IT READS IS OF BULK AT MOST 1048576: true; the input reads as it did. -/
def judgeLawsUptoRow : OpenClaim := { program := "ytbfmmaabaenhgaa", sum := "88e6f4dcb80a0c1a1c5aa39189b1359ad21ac489562204db1dd1e2c44d4b8e43", func := "gleaning/gleaninglaw14.JudgeLaws", spec := "judgeLaws", unfollowed := true, recurses := true, loops := true, apart := false, narrowed := true }
def JudgeLawsUptoSaid : Prop := judgeLawsUptoRow.holds Try.pinned (OpenSpec.upto judgeLawsSpec)

/-- 'gleaninglaw14.JudgeHash', WHERE WHAT IT READS IS OF BULK AT MOST 1048576: true; the input reads as it did. -/
def judgeHashUptoRow : OpenClaim := { program := "ytbfmmaabaenhgaa", sum := "88e6f4dcb80a0c1a1c5aa39189b1359ad21ac489562204db1dd1e2c44d4b8e43", func := "gleaning/gleaninglaw14.JudgeHash", spec := "judgeHash", unfollowed := true, recurses := true, apart := false, narrowed := true }
def JudgeHashUptoSaid : Prop := judgeHashUptoRow.holds Try.pinned (OpenSpec.upto judgeHashSpec)

/-- 'gleaninglaw14.JudgeGrows', WHERE WHAT IT READS IS OF BULK AT MOST 1048576: true; the input reads as it did. -/
def judgeGrowsUptoRow : OpenClaim := { program := "ytbfmmaabaenhgaa", sum := "88e6f4dcb80a0c1a1c5aa39189b1359ad21ac489562204db1dd1e2c44d4b8e43", func := "gleaning/gleaninglaw14.JudgeGrows", spec := "judgeGrows", unfollowed := true, recurses := true, loops := true, apart := false, narrowed := true }
def JudgeGrowsUptoSaid : Prop := judgeGrowsUptoRow.holds Try.pinned (OpenSpec.upto judgeGrowsSpec)

/-- 'gleaninglaw3.SpanBack', WHERE WHAT IT READS IS OF BULK AT MOST 1048576: true; the input reads as it did. -/
def spanBackUptoRow : OpenClaim := { program := "ytbfmmaabaenhgaa", sum := "88e6f4dcb80a0c1a1c5aa39189b1359ad21ac489562204db1dd1e2c44d4b8e43", func := "gleaning/gleaninglaw3.SpanBack", spec := "spanBack", unfollowed := true, recurses := true, apart := false, narrowed := true }
def SpanBackUptoSaid : Prop := spanBackUptoRow.holds Try.pinned (OpenSpec.upto spanBackSpec)

/-- 'gleaninglaw3.SpanLimits', WHERE WHAT IT READS IS OF BULK AT MOST 1048576: true; the input reads as it did. -/
def spanLimitsUptoRow : OpenClaim := { program := "ytbfmmaabaenhgaa", sum := "88e6f4dcb80a0c1a1c5aa39189b1359ad21ac489562204db1dd1e2c44d4b8e43", func := "gleaning/gleaninglaw3.SpanLimits", spec := "spanLimits", unfollowed := true, recurses := true, apart := false, narrowed := true }
def SpanLimitsUptoSaid : Prop := spanLimitsUptoRow.holds Try.pinned (OpenSpec.upto spanLimitsSpec)

/-- 'gleaninglaw3.SpanApart', WHERE WHAT IT READS IS OF BULK AT MOST 1048576: true; the input reads as it did. -/
def spanApartUptoRow : OpenClaim := { program := "ytbfmmaabaenhgaa", sum := "88e6f4dcb80a0c1a1c5aa39189b1359ad21ac489562204db1dd1e2c44d4b8e43", func := "gleaning/gleaninglaw3.SpanApart", spec := "spanApart", unfollowed := true, recurses := true, apart := false, narrowed := true }
def SpanApartUptoSaid : Prop := spanApartUptoRow.holds Try.pinned (OpenSpec.upto spanApartSpec)

/-- 'gleaninglaw3.SpanTells', WHERE WHAT IT READS IS OF BULK AT MOST 1048576: true; the input reads as it did. -/
def spanTellsUptoRow : OpenClaim := { program := "ytbfmmaabaenhgaa", sum := "88e6f4dcb80a0c1a1c5aa39189b1359ad21ac489562204db1dd1e2c44d4b8e43", func := "gleaning/gleaninglaw3.SpanTells", spec := "spanTells", unfollowed := true, recurses := true, apart := false, narrowed := true }
def SpanTellsUptoSaid : Prop := spanTellsUptoRow.holds Try.pinned (OpenSpec.upto spanTellsSpec)

/-- 'gleaninglaw13.RuleTorn', WHERE WHAT IT READS IS OF BULK AT MOST 1048576: true; the input reads as it did. -/
def ruleTornUptoRow : OpenClaim := { program := "ytbfmmaabaenhgaa", sum := "88e6f4dcb80a0c1a1c5aa39189b1359ad21ac489562204db1dd1e2c44d4b8e43", func := "gleaning/gleaninglaw13.RuleTorn", spec := "ruleTorn", recurses := true, loops := true, apart := false, narrowed := true }
def RuleTornUptoSaid : Prop := ruleTornUptoRow.holds Try.pinned (OpenSpec.upto ruleTornSpec)

/-- 'gleaninglaw13.RuleLimits', WHERE WHAT IT READS IS OF BULK AT MOST 1048576: true; the input reads as it did. -/
def ruleLimitsUptoRow : OpenClaim := { program := "ytbfmmaabaenhgaa", sum := "88e6f4dcb80a0c1a1c5aa39189b1359ad21ac489562204db1dd1e2c44d4b8e43", func := "gleaning/gleaninglaw13.RuleLimits", spec := "ruleLimits", recurses := true, apart := false, narrowed := true }
def RuleLimitsUptoSaid : Prop := ruleLimitsUptoRow.holds Try.pinned (OpenSpec.upto ruleLimitsSpec)

/-- 'gleaninglaw13.RuleKinds', WHERE WHAT IT READS IS OF BULK AT MOST 1048576: true; the input reads as it did. -/
def ruleKindsUptoRow : OpenClaim := { program := "ytbfmmaabaenhgaa", sum := "88e6f4dcb80a0c1a1c5aa39189b1359ad21ac489562204db1dd1e2c44d4b8e43", func := "gleaning/gleaninglaw13.RuleKinds", spec := "ruleKinds", recurses := true, apart := false, narrowed := true }
def RuleKindsUptoSaid : Prop := ruleKindsUptoRow.holds Try.pinned (OpenSpec.upto ruleKindsSpec)

/-- 'gleaninglaw13.RuleTells', WHERE WHAT IT READS IS OF BULK AT MOST 1048576: true; the input reads as it did. -/
def ruleTellsUptoRow : OpenClaim := { program := "ytbfmmaabaenhgaa", sum := "88e6f4dcb80a0c1a1c5aa39189b1359ad21ac489562204db1dd1e2c44d4b8e43", func := "gleaning/gleaninglaw13.RuleTells", spec := "ruleTells", unfollowed := true, recurses := true, loops := true, apart := false, narrowed := true }
def RuleTellsUptoSaid : Prop := ruleTellsUptoRow.holds Try.pinned (OpenSpec.upto ruleTellsSpec)

/-- 'gleaninglaw4.BatchTells', WHERE WHAT IT READS IS OF BULK AT MOST 1048576: true; the input reads as it did. -/
def batchTellsUptoRow : OpenClaim := { program := "ytbfmmaabaenhgaa", sum := "88e6f4dcb80a0c1a1c5aa39189b1359ad21ac489562204db1dd1e2c44d4b8e43", func := "gleaning/gleaninglaw4.BatchTells", spec := "batchTells", unfollowed := true, recurses := true, apart := false, narrowed := true }
def BatchTellsUptoSaid : Prop := batchTellsUptoRow.holds Try.pinned (OpenSpec.upto batchTellsSpec)

/-- 'gleaninglaw4.BatchTorn', WHERE WHAT IT READS IS OF BULK AT MOST 1048576: true; the input reads as it did. -/
def batchTornUptoRow : OpenClaim := { program := "ytbfmmaabaenhgaa", sum := "88e6f4dcb80a0c1a1c5aa39189b1359ad21ac489562204db1dd1e2c44d4b8e43", func := "gleaning/gleaninglaw4.BatchTorn", spec := "batchTorn", unfollowed := true, recurses := true, apart := false, narrowed := true }
def BatchTornUptoSaid : Prop := batchTornUptoRow.holds Try.pinned (OpenSpec.upto batchTornSpec)

/-- 'gleaninglaw4.BatchLimits', WHERE WHAT IT READS IS OF BULK AT MOST 1048576: true; the input reads as it did. -/
def batchLimitsUptoRow : OpenClaim := { program := "ytbfmmaabaenhgaa", sum := "88e6f4dcb80a0c1a1c5aa39189b1359ad21ac489562204db1dd1e2c44d4b8e43", func := "gleaning/gleaninglaw4.BatchLimits", spec := "batchLimits", unfollowed := true, recurses := true, apart := false, narrowed := true }
def BatchLimitsUptoSaid : Prop := batchLimitsUptoRow.holds Try.pinned (OpenSpec.upto batchLimitsSpec)

end Rows
end Go.Proofs.Ytbfmmaabaenhgaa
