/- The layers are awake. -/
import Derived.Test.YtnlhfcipapbfmaaSh0
namespace Go.Abs.B1
open Go.Proofs
set_option linter.all false
def gT := gOf Dec.nil fun _ => .bool true
theorem con12 : Con Try.prog (CKb Try.prog) 12 gT := Con.closed base ok0 100 (by simp [flatB]) (by kernel_rfl)
end Go.Abs.B1
