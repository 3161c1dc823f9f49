/- What the tables of the program say: printed by tables.py. -/
import Derived.Test.YtgdbkohmdflckaaProg
import Derived.KernelRfl
import Derived.Test.YtgdbkohmdflckaaAbsD
namespace Go.Abs.A1
open Go.Proofs
theorem hasBx11 : hasB Try.prog 11 = Bool.true := by kernel_rfl
theorem hasBx12 : hasB Try.prog 12 = Bool.true := by kernel_rfl
theorem hasBx13 : hasB Try.prog 13 = Bool.true := by kernel_rfl
theorem hasBx14 : hasB Try.prog 14 = Bool.true := by kernel_rfl
theorem hasBx15 : hasB Try.prog 15 = Bool.true := by kernel_rfl
theorem hasBx16 : hasB Try.prog 16 = Bool.true := by kernel_rfl
theorem hasBx17 : hasB Try.prog 17 = Bool.true := by kernel_rfl
theorem hasBx18 : hasB Try.prog 18 = Bool.true := by kernel_rfl
theorem hasBx19 : hasB Try.prog 19 = Bool.true := by kernel_rfl
theorem hasBx20 : hasB Try.prog 20 = Bool.true := by kernel_rfl
theorem hasBx21 : hasB Try.prog 21 = Bool.true := by kernel_rfl
theorem hasBx22 : hasB Try.prog 22 = Bool.true := by kernel_rfl
theorem hasBx23 : hasB Try.prog 23 = Bool.true := by kernel_rfl
theorem hasBx24 : hasB Try.prog 24 = Bool.true := by kernel_rfl
theorem hasBx25 : hasB Try.prog 25 = Bool.true := by kernel_rfl
theorem hasBx26 : hasB Try.prog 26 = Bool.true := by kernel_rfl
theorem hasBx27 : hasB Try.prog 27 = Bool.true := by kernel_rfl
theorem hasBx28 : hasB Try.prog 28 = Bool.true := by kernel_rfl
theorem hasBx29 : hasB Try.prog 29 = Bool.true := by kernel_rfl
theorem hasBx30 : hasB Try.prog 30 = Bool.true := by kernel_rfl
theorem hasBx31 : hasB Try.prog 31 = Bool.true := by kernel_rfl
theorem hasBx32 : hasB Try.prog 32 = Bool.true := by kernel_rfl
theorem hasBx33 : hasB Try.prog 33 = Bool.true := by kernel_rfl
theorem hasBx34 : hasB Try.prog 34 = Bool.true := by kernel_rfl
theorem hasBx35 : hasB Try.prog 35 = Bool.true := by kernel_rfl
theorem hasBx36 : hasB Try.prog 36 = Bool.true := by kernel_rfl
theorem hasBx37 : hasB Try.prog 37 = Bool.true := by kernel_rfl
theorem hasBx38 : hasB Try.prog 38 = Bool.true := by kernel_rfl
theorem hasBx39 : hasB Try.prog 39 = Bool.true := by kernel_rfl
theorem hasBx40 : hasB Try.prog 40 = Bool.true := by kernel_rfl
theorem hasBx41 : hasB Try.prog 41 = Bool.true := by kernel_rfl
theorem hasBx42 : hasB Try.prog 42 = Bool.true := by kernel_rfl
theorem tBoolx4 : tBool Try.prog 4 = Bool.true := by kernel_rfl
theorem tElemx40 : tElem Try.prog 40 = (Option.some 2) := by kernel_rfl
theorem tElemx41 : tElem Try.prog 41 = (Option.some 1) := by kernel_rfl
theorem tElemx42 : tElem Try.prog 42 = (Option.some 2) := by kernel_rfl
theorem tElemx50 : tElem Try.prog 50 = (Option.some 1) := by kernel_rfl
theorem tFieldAx33x0 : tFieldA Try.prog 33 0 = (Option.some 0) := by kernel_rfl
theorem tFieldAx33x1 : tFieldA Try.prog 33 1 = (Option.some 1) := by kernel_rfl
theorem tFieldAx33x2 : tFieldA Try.prog 33 2 = (Option.some 2) := by kernel_rfl
theorem tFieldAx44x0 : tFieldA Try.prog 44 0 = (Option.some 0) := by kernel_rfl
theorem tFieldAx44x1 : tFieldA Try.prog 44 1 = (Option.some 1) := by kernel_rfl
theorem tFieldAx46x0 : tFieldA Try.prog 46 0 = (Option.some 0) := by kernel_rfl
theorem tFieldAx46x1 : tFieldA Try.prog 46 1 = (Option.some 1) := by kernel_rfl
theorem tFieldAx49x0 : tFieldA Try.prog 49 0 = (Option.some 0) := by kernel_rfl
theorem tFieldAx49x1 : tFieldA Try.prog 49 1 = (Option.some 1) := by kernel_rfl
theorem tFieldAx49x2 : tFieldA Try.prog 49 2 = (Option.some 2) := by kernel_rfl
theorem tFieldAx49x3 : tFieldA Try.prog 49 3 = (Option.some 3) := by kernel_rfl
theorem tIntx5x3 : tInt Try.prog 5 3 = (Option.some IntKind.i64) := by kernel_rfl
theorem tLenx40 : tLen Try.prog 40 = (Option.some Bool.false) := by kernel_rfl
theorem tLenx41 : tLen Try.prog 41 = (Option.some Bool.false) := by kernel_rfl
theorem tLenx42 : tLen Try.prog 42 = (Option.some Bool.false) := by kernel_rfl
theorem tLenx50 : tLen Try.prog 50 = (Option.some Bool.false) := by kernel_rfl
theorem tPartx3 : tPart Try.prog 3 = (Option.some Option.none) := by kernel_rfl
theorem tPartx22 : tPart Try.prog 22 = (Option.some Option.none) := by kernel_rfl
theorem tPartx31 : tPart Try.prog 31 = (Option.some Option.none) := by kernel_rfl
theorem tPartx33 : tPart Try.prog 33 = (Option.some (Option.some 3)) := by kernel_rfl
theorem tPartx44 : tPart Try.prog 44 = (Option.some (Option.some 2)) := by kernel_rfl
theorem tPartx46 : tPart Try.prog 46 = (Option.some (Option.some 2)) := by kernel_rfl
theorem tPartx49 : tPart Try.prog 49 = (Option.some (Option.some 4)) := by kernel_rfl
theorem tRowx41 : tRow Try.prog 41 = (Option.some (1, (8, #[(Value.int IntKind.u64 0)]))) := by kernel_rfl
theorem tRowx42 : tRow Try.prog 42 = (Option.some (2, (16, #[(Value.int IntKind.u64 0), (Value.int IntKind.u64 0)]))) := by kernel_rfl
theorem tRowx50 : tRow Try.prog 50 = (Option.some (1, (4, #[(Value.int IntKind.u32 0)]))) := by kernel_rfl
theorem tSizex31 : tSize Try.prog 31 = (Option.some 1) := by kernel_rfl
theorem tSizex33 : tSize Try.prog 33 = (Option.some 3) := by kernel_rfl
theorem tSizex44 : tSize Try.prog 44 = (Option.some 2) := by kernel_rfl
theorem tSizex46 : tSize Try.prog 46 = (Option.some 2) := by kernel_rfl
theorem tSizex49 : tSize Try.prog 49 = (Option.some 4) := by kernel_rfl
theorem tZerox33 : tZero Try.prog 33 = (Option.some #[(Value.int IntKind.u64 0), (Value.int IntKind.u64 0), (Value.int IntKind.u64 0)]) := by kernel_rfl
theorem tZerox44 : tZero Try.prog 44 = (Option.some #[(Value.int IntKind.i64 0), (Value.int IntKind.i64 0)]) := by kernel_rfl
theorem tZerox46 : tZero Try.prog 46 = (Option.some #[(Value.int IntKind.u64 0), (Value.int IntKind.u64 0)]) := by kernel_rfl
theorem tZerox49 : tZero Try.prog 49 = (Option.some #[(Value.int IntKind.u32 0), (Value.int IntKind.u32 0), (Value.int IntKind.u32 0), (Value.int IntKind.u32 0)]) := by kernel_rfl
end Go.Abs.A1
