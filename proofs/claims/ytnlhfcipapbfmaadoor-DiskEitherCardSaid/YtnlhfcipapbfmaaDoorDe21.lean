/- The document's disk: Read, Write. -/
import Derived.Test.YtnlhfcipapbfmaaDoorDe20
namespace Go.Abs.B1d
open Go.Proofs
set_option maxRecDepth 10000
set_option maxHeartbeats 4000000
set_option linter.all false
end Go.Abs.B1d
