/- A long run: steps (printed). -/
import Derived.Test.YtjimckjdkgbojaaGreatDoorFs0
namespace Go.Abs.D1
open Go.Proofs
set_option maxRecDepth 100000
set_option linter.all false
theorem sk8 : evalV Tryz.prog IF 2999 (.fn 39) #[(Value.pointer (Option.some (Addr.mk 4 0 Option.none)))] hk7 = some ((Value.tuple #[(Value.slice Option.none 0 0), (Value.int IntKind.i64 0)]), hk8) := by
  have h : stepK IF 39 [(Value.pointer (Option.some (Addr.mk 4 0 Option.none)))] hk7 = some ((Value.tuple #[(Value.slice Option.none 0 0), (Value.int IntKind.i64 0)]), hk8) := by kernel_rfl
  rw [stepK_eq] at h
  exact h
theorem sk9 : evalV Tryz.prog IF 2999 (.fn 33) #[(Value.pointer (Option.some (Addr.mk 8 0 Option.none))), (Value.int IntKind.u64 1), (Value.int IntKind.u64 1)] hk8 = some ((Value.int IntKind.i64 0), hk9) := by
  have h : stepK IF 33 [(Value.pointer (Option.some (Addr.mk 8 0 Option.none))), (Value.int IntKind.u64 1), (Value.int IntKind.u64 1)] hk8 = some ((Value.int IntKind.i64 0), hk9) := by kernel_rfl
  rw [stepK_eq] at h
  exact h
theorem sk10 : evalV Tryz.prog IF 2999 (.fn 30) #[(Value.pointer (Option.some (Addr.mk 8 0 Option.none)))] hk9 = some ((Value.int IntKind.i64 0), hk10) := by
  have h : stepK IF 30 [(Value.pointer (Option.some (Addr.mk 8 0 Option.none)))] hk9 = some ((Value.int IntKind.i64 0), hk10) := by kernel_rfl
  rw [stepK_eq] at h
  exact h
theorem sk11 : evalV Tryz.prog IF 2999 (.fn 77) #[(Value.int IntKind.u8 10), (Value.int IntKind.i64 8)] hk10 = some ((Value.agg #[(Value.int IntKind.i64 4), (Value.int IntKind.u8 10), (Value.int IntKind.u8 0), (Value.int IntKind.u8 0), (Value.int IntKind.u8 0), (Value.int IntKind.u8 0), (Value.int IntKind.u8 0), (Value.int IntKind.u8 0), (Value.int IntKind.u8 0), (Value.int IntKind.u8 0), (Value.int IntKind.u8 0), (Value.int IntKind.u8 0), (Value.int IntKind.u8 0), (Value.int IntKind.u8 0), (Value.int IntKind.u8 0), (Value.int IntKind.u8 0), (Value.int IntKind.u8 0), (Value.int IntKind.i64 8)]), hk11) := by
  have h : stepK IF 77 [(Value.int IntKind.u8 10), (Value.int IntKind.i64 8)] hk10 = some ((Value.agg #[(Value.int IntKind.i64 4), (Value.int IntKind.u8 10), (Value.int IntKind.u8 0), (Value.int IntKind.u8 0), (Value.int IntKind.u8 0), (Value.int IntKind.u8 0), (Value.int IntKind.u8 0), (Value.int IntKind.u8 0), (Value.int IntKind.u8 0), (Value.int IntKind.u8 0), (Value.int IntKind.u8 0), (Value.int IntKind.u8 0), (Value.int IntKind.u8 0), (Value.int IntKind.u8 0), (Value.int IntKind.u8 0), (Value.int IntKind.u8 0), (Value.int IntKind.u8 0), (Value.int IntKind.i64 8)]), hk11) := by kernel_rfl
  rw [stepK_eq] at h
  exact h
end Go.Abs.D1
