/- The numbers of package api: the pure function is true. -/
import Derived.Test.YtlkdpgemdopbfaaXNames
import Derived.Test.YtlkdpgemdopbfaaPKit
namespace Go.Proofs.Ytlkdpgemdopbfaa.Ab
open Go Go.RowKit
set_option linter.unusedVariables false
theorem topNames_true : gleaningtop_TopNames = some true := by decide +kernel
end Go.Proofs.Ytlkdpgemdopbfaa.Ab
