/- The program of the seat: what is asked of it. -/
import Derived.Test.YtnlhfcipapbfmaaProg
import Derived.KernelRfl
import Derived.Test.YtnlhfcipapbfmaaAbsE
namespace Go.Abs.B1
open Go.Proofs
theorem base : Base Try.prog := base_of (by kernel_rfl)
abbrev I0 : Intr := fun _ => none
theorem ok0 : IntrOk Try.prog (CKb Try.prog) I0 := fun f g hg => by cases hg
theorem own : ownKnob Try.prog.godebug = none := by kernel_rfl
theorem laid : laidOutB Try.prog = true := by kernel_rfl
end Go.Abs.B1
