/- A long run: steps (printed). -/
import Derived.Test.YtjimckjdkgbojaaGreatDoorFs0
namespace Go.Abs.D1
open Go.Proofs
set_option maxRecDepth 100000
set_option linter.all false
theorem sk14 : evalV Tryz.prog IF 2999 (.fn 39) #[(Value.pointer (Option.some (Addr.mk 4 0 Option.none)))] hk13 = some ((Value.tuple #[(Value.slice (Option.some (Addr.mk 759 0 Option.none)) 1 4611686018427387923), (Value.int IntKind.i64 0)]), hk14) := by
  have h : stepK IF 39 [(Value.pointer (Option.some (Addr.mk 4 0 Option.none)))] hk13 = some ((Value.tuple #[(Value.slice (Option.some (Addr.mk 759 0 Option.none)) 1 4611686018427387923), (Value.int IntKind.i64 0)]), hk14) := by kernel_rfl
  rw [stepK_eq] at h
  exact h
end Go.Abs.D1
