/- What the tables of the program say: printed by tables.py. -/
import Derived.Test.YtgdbkohmdflckaaDoorProg
import Derived.KernelRfl
import Derived.Test.YtgdbkohmdflckaaDoorAbsD
namespace Go.Abs.A1d
open Go.Proofs
theorem hasBx5 : hasB Tryd.prog 5 = Bool.true := by kernel_rfl
theorem hasBx6 : hasB Tryd.prog 6 = Bool.true := by kernel_rfl
theorem hasBx7 : hasB Tryd.prog 7 = Bool.true := by kernel_rfl
theorem hasBx8 : hasB Tryd.prog 8 = Bool.true := by kernel_rfl
theorem hasBx9 : hasB Tryd.prog 9 = Bool.true := by kernel_rfl
theorem hasBx10 : hasB Tryd.prog 10 = Bool.true := by kernel_rfl
theorem hasBx11 : hasB Tryd.prog 11 = Bool.true := by kernel_rfl
theorem hasBx12 : hasB Tryd.prog 12 = Bool.true := by kernel_rfl
theorem hasBx13 : hasB Tryd.prog 13 = Bool.true := by kernel_rfl
theorem hasBx14 : hasB Tryd.prog 14 = Bool.true := by kernel_rfl
theorem hasBx15 : hasB Tryd.prog 15 = Bool.true := by kernel_rfl
theorem hasBx16 : hasB Tryd.prog 16 = Bool.true := by kernel_rfl
theorem hasBx17 : hasB Tryd.prog 17 = Bool.true := by kernel_rfl
theorem hasBx18 : hasB Tryd.prog 18 = Bool.true := by kernel_rfl
theorem hasBx19 : hasB Tryd.prog 19 = Bool.true := by kernel_rfl
theorem hasBx20 : hasB Tryd.prog 20 = Bool.true := by kernel_rfl
theorem hasBx21 : hasB Tryd.prog 21 = Bool.true := by kernel_rfl
theorem hasBx22 : hasB Tryd.prog 22 = Bool.true := by kernel_rfl
theorem hasBx23 : hasB Tryd.prog 23 = Bool.true := by kernel_rfl
theorem hasBx24 : hasB Tryd.prog 24 = Bool.true := by kernel_rfl
theorem tArrx49 : tArr Tryd.prog 49 = (Option.some (32, 1)) := by kernel_rfl
theorem tBoolx4 : tBool Tryd.prog 4 = Bool.true := by kernel_rfl
theorem tElemx29 : tElem Tryd.prog 29 = (Option.some 1) := by kernel_rfl
theorem tElemx31 : tElem Tryd.prog 31 = (Option.some 1) := by kernel_rfl
theorem tFieldAx36x0 : tFieldA Tryd.prog 36 0 = (Option.some 0) := by kernel_rfl
theorem tFieldAx36x1 : tFieldA Tryd.prog 36 1 = (Option.some 1) := by kernel_rfl
theorem tFieldAx36x2 : tFieldA Tryd.prog 36 2 = (Option.some 2) := by kernel_rfl
theorem tFieldAx36x3 : tFieldA Tryd.prog 36 3 = (Option.some 3) := by kernel_rfl
theorem tIntx5x3 : tInt Tryd.prog 5 3 = (Option.some IntKind.i64) := by kernel_rfl
theorem tLenx29 : tLen Tryd.prog 29 = (Option.some Bool.false) := by kernel_rfl
theorem tLenx31 : tLen Tryd.prog 31 = (Option.some Bool.false) := by kernel_rfl
theorem tPartx3 : tPart Tryd.prog 3 = (Option.some Option.none) := by kernel_rfl
theorem tPartx5 : tPart Tryd.prog 5 = (Option.some Option.none) := by kernel_rfl
theorem tPartx22 : tPart Tryd.prog 22 = (Option.some Option.none) := by kernel_rfl
theorem tPartx29 : tPart Tryd.prog 29 = (Option.some Option.none) := by kernel_rfl
theorem tPartx36 : tPart Tryd.prog 36 = (Option.some (Option.some 4)) := by kernel_rfl
theorem tRowx29 : tRow Tryd.prog 29 = (Option.some (1, (8, #[(Value.int IntKind.i64 0)]))) := by kernel_rfl
theorem tRowx31 : tRow Tryd.prog 31 = (Option.some (1, (4, #[(Value.int IntKind.u32 0)]))) := by kernel_rfl
theorem tSizex22 : tSize Tryd.prog 22 = (Option.some 1) := by kernel_rfl
theorem tSizex29 : tSize Tryd.prog 29 = (Option.some 1) := by kernel_rfl
theorem tZerox29 : tZero Tryd.prog 29 = (Option.some #[(Value.slice Option.none 0 0)]) := by kernel_rfl
end Go.Abs.A1d
