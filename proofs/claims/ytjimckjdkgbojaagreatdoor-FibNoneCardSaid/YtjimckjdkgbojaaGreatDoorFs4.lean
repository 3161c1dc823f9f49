/- A long run: steps (printed). -/
import Derived.Test.YtjimckjdkgbojaaGreatDoorFs0
namespace Go.Abs.D1
open Go.Proofs
set_option maxRecDepth 100000
set_option linter.all false
theorem sk12 : evalV Tryz.prog IF 2999 (.fn 32) #[(Value.pointer (Option.some (Addr.mk 8 0 Option.none))), (Value.agg #[(Value.int IntKind.i64 4), (Value.int IntKind.u8 10), (Value.int IntKind.u8 0), (Value.int IntKind.u8 0), (Value.int IntKind.u8 0), (Value.int IntKind.u8 0), (Value.int IntKind.u8 0), (Value.int IntKind.u8 0), (Value.int IntKind.u8 0), (Value.int IntKind.u8 0), (Value.int IntKind.u8 0), (Value.int IntKind.u8 0), (Value.int IntKind.u8 0), (Value.int IntKind.u8 0), (Value.int IntKind.u8 0), (Value.int IntKind.u8 0), (Value.int IntKind.u8 0), (Value.int IntKind.i64 8)])] hk11 = some ((Value.int IntKind.i64 0), hk12) := by
  have h : stepK IF 32 [(Value.pointer (Option.some (Addr.mk 8 0 Option.none))), (Value.agg #[(Value.int IntKind.i64 4), (Value.int IntKind.u8 10), (Value.int IntKind.u8 0), (Value.int IntKind.u8 0), (Value.int IntKind.u8 0), (Value.int IntKind.u8 0), (Value.int IntKind.u8 0), (Value.int IntKind.u8 0), (Value.int IntKind.u8 0), (Value.int IntKind.u8 0), (Value.int IntKind.u8 0), (Value.int IntKind.u8 0), (Value.int IntKind.u8 0), (Value.int IntKind.u8 0), (Value.int IntKind.u8 0), (Value.int IntKind.u8 0), (Value.int IntKind.u8 0), (Value.int IntKind.i64 8)])] hk11 = some ((Value.int IntKind.i64 0), hk12) := by kernel_rfl
  rw [stepK_eq] at h
  exact h
end Go.Abs.D1
