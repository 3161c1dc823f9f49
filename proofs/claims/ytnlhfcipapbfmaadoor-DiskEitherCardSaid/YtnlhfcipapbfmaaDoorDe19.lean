/- The document's disk: New, All, Crash, Sync, Read. -/
import Derived.Test.YtnlhfcipapbfmaaDoorDe18
namespace Go.Abs.B1d
open Go.Proofs
set_option maxRecDepth 10000
set_option maxHeartbeats 4000000
set_option linter.all false
theorem tRowBl : tRow Tryd.prog 23 = some (1, 1, #[.bool false]) := tRowx23
end Go.Abs.B1d
