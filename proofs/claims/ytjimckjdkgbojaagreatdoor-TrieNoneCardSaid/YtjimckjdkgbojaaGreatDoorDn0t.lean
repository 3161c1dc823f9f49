/- What the tables of the program say: printed by tables.py. -/
import Derived.Test.YtjimckjdkgbojaaGreatDoorProg
import Derived.KernelRfl
import Derived.Test.YtjimckjdkgbojaaGreatDoorDn0
namespace Go.Abs.D1
open Go.Proofs
theorem hasBx119 : hasB Tryz.prog 119 = Bool.true := by kernel_rfl
theorem hasBx149 : hasB Tryz.prog 149 = Bool.true := by kernel_rfl
theorem hasBx205 : hasB Tryz.prog 205 = Bool.true := by kernel_rfl
theorem hasBx206 : hasB Tryz.prog 206 = Bool.true := by kernel_rfl
theorem tArrx31 : tArr Tryz.prog 31 = (Option.some (16, 1)) := by kernel_rfl
theorem tArrx237 : tArr Tryz.prog 237 = (Option.some (7, 1)) := by kernel_rfl
theorem tBuildFx152x0 : tBuildF Tryz.prog 152 0 = (Option.some (0, 1)) := by kernel_rfl
theorem tBuildFx152x1 : tBuildF Tryz.prog 152 1 = (Option.some (1, 1)) := by kernel_rfl
theorem tBuildOkx152 : tBuildOk Tryz.prog 152 = Bool.true := by kernel_rfl
theorem tElemx22 : tElem Tryz.prog 22 = (Option.some 1) := by kernel_rfl
theorem tFieldAx99x0 : tFieldA Tryz.prog 99 0 = (Option.some 0) := by kernel_rfl
theorem tFieldAx152x0 : tFieldA Tryz.prog 152 0 = (Option.some 0) := by kernel_rfl
theorem tIntx85x3 : tInt Tryz.prog 85 3 = (Option.some IntKind.i64) := by kernel_rfl
theorem tPartx3 : tPart Tryz.prog 3 = (Option.some Option.none) := by kernel_rfl
theorem tPartx4 : tPart Tryz.prog 4 = (Option.some Option.none) := by kernel_rfl
theorem tPartx5 : tPart Tryz.prog 5 = (Option.some Option.none) := by kernel_rfl
theorem tPartx22 : tPart Tryz.prog 22 = (Option.some Option.none) := by kernel_rfl
theorem tPartx40 : tPart Tryz.prog 40 = (Option.some Option.none) := by kernel_rfl
theorem tPartx85 : tPart Tryz.prog 85 = (Option.some Option.none) := by kernel_rfl
theorem tPartx152 : tPart Tryz.prog 152 = (Option.some (Option.some 2)) := by kernel_rfl
theorem tSizex4 : tSize Tryz.prog 4 = (Option.some 1) := by kernel_rfl
theorem tSizex152 : tSize Tryz.prog 152 = (Option.some 2) := by kernel_rfl
theorem tZerox4 : tZero Tryz.prog 4 = (Option.some #[(Value.bool Bool.false)]) := by kernel_rfl
theorem tZerox152 : tZero Tryz.prog 152 = (Option.some #[(Value.int IntKind.i64 0), (Value.int IntKind.i64 0)]) := by kernel_rfl
end Go.Abs.D1
