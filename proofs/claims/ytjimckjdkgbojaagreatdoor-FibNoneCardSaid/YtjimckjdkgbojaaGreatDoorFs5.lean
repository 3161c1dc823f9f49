/- A long run: steps (printed). -/
import Derived.Test.YtjimckjdkgbojaaGreatDoorFs0
namespace Go.Abs.D1
open Go.Proofs
set_option maxRecDepth 100000
set_option linter.all false
theorem sk13 : evalV Tryz.prog IF 2999 (.fn 34) #[(Value.pointer (Option.some (Addr.mk 8 0 Option.none)))] hk12 = some ((Value.int IntKind.i64 0), hk13) := by
  have h : stepK IF 34 [(Value.pointer (Option.some (Addr.mk 8 0 Option.none)))] hk12 = some ((Value.int IntKind.i64 0), hk13) := by kernel_rfl
  rw [stepK_eq] at h
  exact h
end Go.Abs.D1
