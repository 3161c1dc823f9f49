/- Which disks are made, and what nothing answers. -/
import Derived.Test.YtnlhfcipapbfmaaDoorDe30
namespace Go.Abs.B1d
open Go.Proofs
set_option maxRecDepth 10000
set_option maxHeartbeats 4000000
set_option linter.all false
end Go.Abs.B1d
