/- The program of the door seat: what is asked of it. -/
import Derived.Test.YtnlhfcipapbfmaaDoorProg
import Derived.KernelRfl
import Derived.Test.YtnlhfcipapbfmaaDoorAbsE
namespace Go.Abs.B1d
open Go.Proofs
theorem base : Base Tryd.prog := base_of (by kernel_rfl)
abbrev I0 : Intr := fun _ => none
theorem ok0 : IntrOk Tryd.prog (CKb Tryd.prog) I0 := fun f g hg => by cases hg
theorem own : ownKnob Tryd.prog.godebug = none := by kernel_rfl
theorem laid : laidOutB Tryd.prog = true := by kernel_rfl
end Go.Abs.B1d
