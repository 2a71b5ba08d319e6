/- Operations told shorter, and sets of numbers: both at hand. -/
import Derived.Test.YtejimiedoibkcaaAbOps16
import Derived.Test.YtejimiedoibkcaaAbOps17
namespace Go.Proofs.Ytejimiedoibkcaa.Ab
end Go.Proofs.Ytejimiedoibkcaa.Ab
