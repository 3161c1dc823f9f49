/- A long run: steps (printed). -/
import Derived.Test.YtjimckjdkgbojaaGreatDoorFs0
namespace Go.Abs.D1
open Go.Proofs
set_option maxRecDepth 100000
set_option linter.all false
theorem sk1 : evalV Tryz.prog IF 2999 (.fn 15) #[(Value.int IntKind.i64 800)] hL = some ((Value.tuple #[(Value.pointer (Option.some (Addr.mk 4 0 Option.none))), (Value.int IntKind.i64 0)]), hk1) := by
  have h : stepK IF 15 [(Value.int IntKind.i64 800)] hL = some ((Value.tuple #[(Value.pointer (Option.some (Addr.mk 4 0 Option.none))), (Value.int IntKind.i64 0)]), hk1) := by kernel_rfl
  rw [stepK_eq] at h
  exact h
theorem sk2 : evalV Tryz.prog IF 2999 (.fn 38) #[(Value.pointer (Option.some (Addr.mk 4 0 Option.none)))] hk1 = some ((Value.tuple #[(Value.pointer (Option.some (Addr.mk 8 0 Option.none))), (Value.int IntKind.i64 0)]), hk2) := by
  have h : stepK IF 38 [(Value.pointer (Option.some (Addr.mk 4 0 Option.none)))] hk1 = some ((Value.tuple #[(Value.pointer (Option.some (Addr.mk 8 0 Option.none))), (Value.int IntKind.i64 0)]), hk2) := by kernel_rfl
  rw [stepK_eq] at h
  exact h
theorem sk3 : evalV Tryz.prog IF 2999 (.fn 77) #[(Value.int IntKind.u8 10), (Value.int IntKind.i64 8)] hk2 = some ((Value.agg #[(Value.int IntKind.i64 4), (Value.int IntKind.u8 10), (Value.int IntKind.u8 0), (Value.int IntKind.u8 0), (Value.int IntKind.u8 0), (Value.int IntKind.u8 0), (Value.int IntKind.u8 0), (Value.int IntKind.u8 0), (Value.int IntKind.u8 0), (Value.int IntKind.u8 0), (Value.int IntKind.u8 0), (Value.int IntKind.u8 0), (Value.int IntKind.u8 0), (Value.int IntKind.u8 0), (Value.int IntKind.u8 0), (Value.int IntKind.u8 0), (Value.int IntKind.u8 0), (Value.int IntKind.i64 8)]), hk3) := by
  have h : stepK IF 77 [(Value.int IntKind.u8 10), (Value.int IntKind.i64 8)] hk2 = some ((Value.agg #[(Value.int IntKind.i64 4), (Value.int IntKind.u8 10), (Value.int IntKind.u8 0), (Value.int IntKind.u8 0), (Value.int IntKind.u8 0), (Value.int IntKind.u8 0), (Value.int IntKind.u8 0), (Value.int IntKind.u8 0), (Value.int IntKind.u8 0), (Value.int IntKind.u8 0), (Value.int IntKind.u8 0), (Value.int IntKind.u8 0), (Value.int IntKind.u8 0), (Value.int IntKind.u8 0), (Value.int IntKind.u8 0), (Value.int IntKind.u8 0), (Value.int IntKind.u8 0), (Value.int IntKind.i64 8)]), hk3) := by kernel_rfl
  rw [stepK_eq] at h
  exact h
theorem sk4 : evalV Tryz.prog IF 2999 (.fn 31) #[(Value.pointer (Option.some (Addr.mk 8 0 Option.none))), (Value.agg #[(Value.int IntKind.i64 4), (Value.int IntKind.u8 10), (Value.int IntKind.u8 0), (Value.int IntKind.u8 0), (Value.int IntKind.u8 0), (Value.int IntKind.u8 0), (Value.int IntKind.u8 0), (Value.int IntKind.u8 0), (Value.int IntKind.u8 0), (Value.int IntKind.u8 0), (Value.int IntKind.u8 0), (Value.int IntKind.u8 0), (Value.int IntKind.u8 0), (Value.int IntKind.u8 0), (Value.int IntKind.u8 0), (Value.int IntKind.u8 0), (Value.int IntKind.u8 0), (Value.int IntKind.i64 8)]), (Value.int IntKind.i64 3)] hk3 = some ((Value.int IntKind.i64 201), hk4) := by
  have h : stepK IF 31 [(Value.pointer (Option.some (Addr.mk 8 0 Option.none))), (Value.agg #[(Value.int IntKind.i64 4), (Value.int IntKind.u8 10), (Value.int IntKind.u8 0), (Value.int IntKind.u8 0), (Value.int IntKind.u8 0), (Value.int IntKind.u8 0), (Value.int IntKind.u8 0), (Value.int IntKind.u8 0), (Value.int IntKind.u8 0), (Value.int IntKind.u8 0), (Value.int IntKind.u8 0), (Value.int IntKind.u8 0), (Value.int IntKind.u8 0), (Value.int IntKind.u8 0), (Value.int IntKind.u8 0), (Value.int IntKind.u8 0), (Value.int IntKind.u8 0), (Value.int IntKind.i64 8)]), (Value.int IntKind.i64 3)] hk3 = some ((Value.int IntKind.i64 201), hk4) := by kernel_rfl
  rw [stepK_eq] at h
  exact h
theorem sk5 : evalV Tryz.prog IF 2999 (.fn 30) #[(Value.pointer (Option.some (Addr.mk 8 0 Option.none)))] hk4 = some ((Value.int IntKind.i64 0), hk5) := by
  have h : stepK IF 30 [(Value.pointer (Option.some (Addr.mk 8 0 Option.none)))] hk4 = some ((Value.int IntKind.i64 0), hk5) := by kernel_rfl
  rw [stepK_eq] at h
  exact h
theorem sk6 : evalV Tryz.prog IF 2999 (.fn 77) #[(Value.int IntKind.u8 10), (Value.int IntKind.i64 8)] hk5 = some ((Value.agg #[(Value.int IntKind.i64 4), (Value.int IntKind.u8 10), (Value.int IntKind.u8 0), (Value.int IntKind.u8 0), (Value.int IntKind.u8 0), (Value.int IntKind.u8 0), (Value.int IntKind.u8 0), (Value.int IntKind.u8 0), (Value.int IntKind.u8 0), (Value.int IntKind.u8 0), (Value.int IntKind.u8 0), (Value.int IntKind.u8 0), (Value.int IntKind.u8 0), (Value.int IntKind.u8 0), (Value.int IntKind.u8 0), (Value.int IntKind.u8 0), (Value.int IntKind.u8 0), (Value.int IntKind.i64 8)]), hk6) := by
  have h : stepK IF 77 [(Value.int IntKind.u8 10), (Value.int IntKind.i64 8)] hk5 = some ((Value.agg #[(Value.int IntKind.i64 4), (Value.int IntKind.u8 10), (Value.int IntKind.u8 0), (Value.int IntKind.u8 0), (Value.int IntKind.u8 0), (Value.int IntKind.u8 0), (Value.int IntKind.u8 0), (Value.int IntKind.u8 0), (Value.int IntKind.u8 0), (Value.int IntKind.u8 0), (Value.int IntKind.u8 0), (Value.int IntKind.u8 0), (Value.int IntKind.u8 0), (Value.int IntKind.u8 0), (Value.int IntKind.u8 0), (Value.int IntKind.u8 0), (Value.int IntKind.u8 0), (Value.int IntKind.i64 8)]), hk6) := by kernel_rfl
  rw [stepK_eq] at h
  exact h
end Go.Abs.D1
