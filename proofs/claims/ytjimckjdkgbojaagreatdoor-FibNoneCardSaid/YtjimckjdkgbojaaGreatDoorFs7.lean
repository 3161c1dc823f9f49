/- A long run: steps (printed). -/
import Derived.Test.YtjimckjdkgbojaaGreatDoorFs0
namespace Go.Abs.D1
open Go.Proofs
set_option maxRecDepth 100000
set_option linter.all false
theorem sk15 : evalV Tryz.prog IF 2999 (.fn 35) #[(Value.pointer (Option.some (Addr.mk 8 0 Option.none)))] hk14 = some ((Value.bool Bool.false), hk15) := by
  have h : stepK IF 35 [(Value.pointer (Option.some (Addr.mk 8 0 Option.none)))] hk14 = some ((Value.bool Bool.false), hk15) := by kernel_rfl
  rw [stepK_eq] at h
  exact h
theorem sk16 : evalV Tryz.prog IF 2999 (.fn 36) #[(Value.pointer (Option.some (Addr.mk 8 0 Option.none)))] hk15 = some ((Value.slice Option.none 0 0), hk16) := by
  have h : stepK IF 36 [(Value.pointer (Option.some (Addr.mk 8 0 Option.none)))] hk15 = some ((Value.slice Option.none 0 0), hk16) := by kernel_rfl
  rw [stepK_eq] at h
  exact h
end Go.Abs.D1
