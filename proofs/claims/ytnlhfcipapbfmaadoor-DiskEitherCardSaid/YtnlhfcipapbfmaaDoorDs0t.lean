/- What the tables of the program say: printed by tables.py. -/
import Derived.Test.YtnlhfcipapbfmaaDoorProg
import Derived.KernelRfl
import Derived.Test.YtnlhfcipapbfmaaDoorAbsE
namespace Go.Abs.B1d
open Go.Proofs
theorem hasBx6 : hasB Tryd.prog 6 = Bool.true := by kernel_rfl
theorem hasBx7 : hasB Tryd.prog 7 = Bool.true := by kernel_rfl
theorem hasBx8 : hasB Tryd.prog 8 = Bool.true := by kernel_rfl
theorem hasBx9 : hasB Tryd.prog 9 = Bool.true := by kernel_rfl
theorem hasBx10 : hasB Tryd.prog 10 = Bool.true := by kernel_rfl
theorem hasBx11 : hasB Tryd.prog 11 = Bool.true := by kernel_rfl
theorem hasBx12 : hasB Tryd.prog 12 = Bool.true := by kernel_rfl
theorem hasBx13 : hasB Tryd.prog 13 = Bool.true := by kernel_rfl
theorem hasBx14 : hasB Tryd.prog 14 = Bool.true := by kernel_rfl
theorem hasBx15 : hasB Tryd.prog 15 = Bool.true := by kernel_rfl
theorem hasBx16 : hasB Tryd.prog 16 = Bool.true := by kernel_rfl
theorem hasBx17 : hasB Tryd.prog 17 = Bool.true := by kernel_rfl
theorem hasBx18 : hasB Tryd.prog 18 = Bool.true := by kernel_rfl
theorem hasBx19 : hasB Tryd.prog 19 = Bool.true := by kernel_rfl
theorem hasBx20 : hasB Tryd.prog 20 = Bool.true := by kernel_rfl
theorem hasBx21 : hasB Tryd.prog 21 = Bool.true := by kernel_rfl
theorem hasBx22 : hasB Tryd.prog 22 = Bool.true := by kernel_rfl
theorem hasBx23 : hasB Tryd.prog 23 = Bool.true := by kernel_rfl
theorem hasBx24 : hasB Tryd.prog 24 = Bool.true := by kernel_rfl
theorem hasBx25 : hasB Tryd.prog 25 = Bool.true := by kernel_rfl
theorem hasBx26 : hasB Tryd.prog 26 = Bool.true := by kernel_rfl
theorem hasBx27 : hasB Tryd.prog 27 = Bool.true := by kernel_rfl
theorem hasBx28 : hasB Tryd.prog 28 = Bool.true := by kernel_rfl
theorem hasBx29 : hasB Tryd.prog 29 = Bool.true := by kernel_rfl
theorem hasBx30 : hasB Tryd.prog 30 = Bool.true := by kernel_rfl
theorem hasBx31 : hasB Tryd.prog 31 = Bool.true := by kernel_rfl
theorem hasBx32 : hasB Tryd.prog 32 = Bool.true := by kernel_rfl
theorem hasBx33 : hasB Tryd.prog 33 = Bool.true := by kernel_rfl
theorem hasBx34 : hasB Tryd.prog 34 = Bool.true := by kernel_rfl
theorem hasBx35 : hasB Tryd.prog 35 = Bool.true := by kernel_rfl
theorem hasBx36 : hasB Tryd.prog 36 = Bool.true := by kernel_rfl
theorem hasBx37 : hasB Tryd.prog 37 = Bool.true := by kernel_rfl
theorem hasBx38 : hasB Tryd.prog 38 = Bool.true := by kernel_rfl
theorem hasBx39 : hasB Tryd.prog 39 = Bool.true := by kernel_rfl
theorem hasBx40 : hasB Tryd.prog 40 = Bool.true := by kernel_rfl
theorem hasBx41 : hasB Tryd.prog 41 = Bool.true := by kernel_rfl
theorem hasBx42 : hasB Tryd.prog 42 = Bool.true := by kernel_rfl
theorem tArrx29 : tArr Tryd.prog 29 = (Option.some (64, 1)) := by kernel_rfl
theorem tArrx30 : tArr Tryd.prog 30 = (Option.some (14, 64)) := by kernel_rfl
theorem tArrx40 : tArr Tryd.prog 40 = (Option.some (14, 1)) := by kernel_rfl
theorem tBuildFx29x0 : tBuildF Tryd.prog 29 0 = (Option.some (0, 1)) := by kernel_rfl
theorem tBuildFx62x0 : tBuildF Tryd.prog 62 0 = (Option.some (0, 1)) := by kernel_rfl
theorem tBuildFx62x1 : tBuildF Tryd.prog 62 1 = (Option.some (1, 64)) := by kernel_rfl
theorem tBuildFx69x0 : tBuildF Tryd.prog 69 0 = (Option.some (0, 1)) := by kernel_rfl
theorem tBuildFx69x2 : tBuildF Tryd.prog 69 2 = (Option.some (2, 1)) := by kernel_rfl
theorem tBuildFx69x3 : tBuildF Tryd.prog 69 3 = (Option.some (3, 1)) := by kernel_rfl
theorem tBuildOkx29 : tBuildOk Tryd.prog 29 = Bool.true := by kernel_rfl
theorem tBuildOkx40 : tBuildOk Tryd.prog 40 = Bool.true := by kernel_rfl
theorem tBuildOkx62 : tBuildOk Tryd.prog 62 = Bool.true := by kernel_rfl
theorem tBuildOkx69 : tBuildOk Tryd.prog 69 = Bool.true := by kernel_rfl
theorem tElemx22 : tElem Tryd.prog 22 = (Option.some 5) := by kernel_rfl
theorem tElemx23 : tElem Tryd.prog 23 = (Option.some 1) := by kernel_rfl
theorem tElemx34 : tElem Tryd.prog 34 = (Option.some 1) := by kernel_rfl
theorem tElemx66 : tElem Tryd.prog 66 = (Option.some 64) := by kernel_rfl
theorem tElemx67 : tElem Tryd.prog 67 = (Option.some 65) := by kernel_rfl
theorem tFieldAx42x0 : tFieldA Tryd.prog 42 0 = (Option.some 0) := by kernel_rfl
theorem tFieldAx42x1 : tFieldA Tryd.prog 42 1 = (Option.some 1) := by kernel_rfl
theorem tFieldAx42x2 : tFieldA Tryd.prog 42 2 = (Option.some 2) := by kernel_rfl
theorem tFieldAx42x3 : tFieldA Tryd.prog 42 3 = (Option.some 3) := by kernel_rfl
theorem tFieldAx42x4 : tFieldA Tryd.prog 42 4 = (Option.some 4) := by kernel_rfl
theorem tFieldAx62x0 : tFieldA Tryd.prog 62 0 = (Option.some 0) := by kernel_rfl
theorem tFieldAx62x1 : tFieldA Tryd.prog 62 1 = (Option.some 1) := by kernel_rfl
theorem tFieldAx69x0 : tFieldA Tryd.prog 69 0 = (Option.some 0) := by kernel_rfl
theorem tFieldAx69x1 : tFieldA Tryd.prog 69 1 = (Option.some 1) := by kernel_rfl
theorem tFieldAx69x2 : tFieldA Tryd.prog 69 2 = (Option.some 2) := by kernel_rfl
theorem tFieldAx69x3 : tFieldA Tryd.prog 69 3 = (Option.some 3) := by kernel_rfl
theorem tFieldAx69x4 : tFieldA Tryd.prog 69 4 = (Option.some 4) := by kernel_rfl
theorem tFieldAx69x5 : tFieldA Tryd.prog 69 5 = (Option.some 5) := by kernel_rfl
theorem tIntx3x5 : tInt Tryd.prog 3 5 = (Option.some IntKind.u8) := by kernel_rfl
theorem tIntx3x45 : tInt Tryd.prog 3 45 = (Option.some IntKind.u64) := by kernel_rfl
theorem tIntx45x3 : tInt Tryd.prog 45 3 = (Option.some IntKind.i64) := by kernel_rfl
theorem tLenx22 : tLen Tryd.prog 22 = (Option.some Bool.false) := by kernel_rfl
theorem tLenx23 : tLen Tryd.prog 23 = (Option.some Bool.false) := by kernel_rfl
theorem tLenx34 : tLen Tryd.prog 34 = (Option.some Bool.false) := by kernel_rfl
theorem tLenx66 : tLen Tryd.prog 66 = (Option.some Bool.false) := by kernel_rfl
theorem tLenx67 : tLen Tryd.prog 67 = (Option.some Bool.false) := by kernel_rfl
theorem tPartx3 : tPart Tryd.prog 3 = (Option.some Option.none) := by kernel_rfl
theorem tPartx4 : tPart Tryd.prog 4 = (Option.some Option.none) := by kernel_rfl
theorem tPartx5 : tPart Tryd.prog 5 = (Option.some Option.none) := by kernel_rfl
theorem tPartx23 : tPart Tryd.prog 23 = (Option.some Option.none) := by kernel_rfl
theorem tPartx25 : tPart Tryd.prog 25 = (Option.some Option.none) := by kernel_rfl
theorem tPartx29 : tPart Tryd.prog 29 = (Option.some (Option.some 64)) := by kernel_rfl
theorem tPartx30 : tPart Tryd.prog 30 = (Option.some (Option.some 896)) := by kernel_rfl
theorem tPartx34 : tPart Tryd.prog 34 = (Option.some Option.none) := by kernel_rfl
theorem tPartx42 : tPart Tryd.prog 42 = (Option.some (Option.some 5)) := by kernel_rfl
theorem tPartx62 : tPart Tryd.prog 62 = (Option.some (Option.some 65)) := by kernel_rfl
theorem tPartx64 : tPart Tryd.prog 64 = (Option.some Option.none) := by kernel_rfl
theorem tPartx65 : tPart Tryd.prog 65 = (Option.some Option.none) := by kernel_rfl
theorem tPartx66 : tPart Tryd.prog 66 = (Option.some Option.none) := by kernel_rfl
theorem tPartx67 : tPart Tryd.prog 67 = (Option.some Option.none) := by kernel_rfl
theorem tPartx69 : tPart Tryd.prog 69 = (Option.some (Option.some 6)) := by kernel_rfl
theorem tPartx74 : tPart Tryd.prog 74 = (Option.some Option.none) := by kernel_rfl
theorem tPtrx25 : tPtr Tryd.prog 25 = Bool.true := by kernel_rfl
theorem tRowx23 : tRow Tryd.prog 23 = (Option.some (1, (1, #[(Value.bool Bool.false)]))) := by kernel_rfl
theorem tRowx34 : tRow Tryd.prog 34 = (Option.some (1, (8, #[(Value.int IntKind.i64 0)]))) := by kernel_rfl
theorem tRowx66 : tRow Tryd.prog 66 = (Option.some (64, (64, #[(Value.int IntKind.u8 0), (Value.int IntKind.u8 0), (Value.int IntKind.u8 0), (Value.int IntKind.u8 0), (Value.int IntKind.u8 0), (Value.int IntKind.u8 0), (Value.int IntKind.u8 0), (Value.int IntKind.u8 0), (Value.int IntKind.u8 0), (Value.int IntKind.u8 0), (Value.int IntKind.u8 0), (Value.int IntKind.u8 0), (Value.int IntKind.u8 0), (Value.int IntKind.u8 0), (Value.int IntKind.u8 0), (Value.int IntKind.u8 0), (Value.int IntKind.u8 0), (Value.int IntKind.u8 0), (Value.int IntKind.u8 0), (Value.int IntKind.u8 0), (Value.int IntKind.u8 0), (Value.int IntKind.u8 0), (Value.int IntKind.u8 0), (Value.int IntKind.u8 0), (Value.int IntKind.u8 0), (Value.int IntKind.u8 0), (Value.int IntKind.u8 0), (Value.int IntKind.u8 0), (Value.int IntKind.u8 0), (Value.int IntKind.u8 0), (Value.int IntKind.u8 0), (Value.int IntKind.u8 0), (Value.int IntKind.u8 0), (Value.int IntKind.u8 0), (Value.int IntKind.u8 0), (Value.int IntKind.u8 0), (Value.int IntKind.u8 0), (Value.int IntKind.u8 0), (Value.int IntKind.u8 0), (Value.int IntKind.u8 0), (Value.int IntKind.u8 0), (Value.int IntKind.u8 0), (Value.int IntKind.u8 0), (Value.int IntKind.u8 0), (Value.int IntKind.u8 0), (Value.int IntKind.u8 0), (Value.int IntKind.u8 0), (Value.int IntKind.u8 0), (Value.int IntKind.u8 0), (Value.int IntKind.u8 0), (Value.int IntKind.u8 0), (Value.int IntKind.u8 0), (Value.int IntKind.u8 0), (Value.int IntKind.u8 0), (Value.int IntKind.u8 0), (Value.int IntKind.u8 0), (Value.int IntKind.u8 0), (Value.int IntKind.u8 0), (Value.int IntKind.u8 0), (Value.int IntKind.u8 0), (Value.int IntKind.u8 0), (Value.int IntKind.u8 0), (Value.int IntKind.u8 0), (Value.int IntKind.u8 0)]))) := by kernel_rfl
theorem tRowx67 : tRow Tryd.prog 67 = (Option.some (65, (72, #[(Value.int IntKind.i64 0), (Value.int IntKind.u8 0), (Value.int IntKind.u8 0), (Value.int IntKind.u8 0), (Value.int IntKind.u8 0), (Value.int IntKind.u8 0), (Value.int IntKind.u8 0), (Value.int IntKind.u8 0), (Value.int IntKind.u8 0), (Value.int IntKind.u8 0), (Value.int IntKind.u8 0), (Value.int IntKind.u8 0), (Value.int IntKind.u8 0), (Value.int IntKind.u8 0), (Value.int IntKind.u8 0), (Value.int IntKind.u8 0), (Value.int IntKind.u8 0), (Value.int IntKind.u8 0), (Value.int IntKind.u8 0), (Value.int IntKind.u8 0), (Value.int IntKind.u8 0), (Value.int IntKind.u8 0), (Value.int IntKind.u8 0), (Value.int IntKind.u8 0), (Value.int IntKind.u8 0), (Value.int IntKind.u8 0), (Value.int IntKind.u8 0), (Value.int IntKind.u8 0), (Value.int IntKind.u8 0), (Value.int IntKind.u8 0), (Value.int IntKind.u8 0), (Value.int IntKind.u8 0), (Value.int IntKind.u8 0), (Value.int IntKind.u8 0), (Value.int IntKind.u8 0), (Value.int IntKind.u8 0), (Value.int IntKind.u8 0), (Value.int IntKind.u8 0), (Value.int IntKind.u8 0), (Value.int IntKind.u8 0), (Value.int IntKind.u8 0), (Value.int IntKind.u8 0), (Value.int IntKind.u8 0), (Value.int IntKind.u8 0), (Value.int IntKind.u8 0), (Value.int IntKind.u8 0), (Value.int IntKind.u8 0), (Value.int IntKind.u8 0), (Value.int IntKind.u8 0), (Value.int IntKind.u8 0), (Value.int IntKind.u8 0), (Value.int IntKind.u8 0), (Value.int IntKind.u8 0), (Value.int IntKind.u8 0), (Value.int IntKind.u8 0), (Value.int IntKind.u8 0), (Value.int IntKind.u8 0), (Value.int IntKind.u8 0), (Value.int IntKind.u8 0), (Value.int IntKind.u8 0), (Value.int IntKind.u8 0), (Value.int IntKind.u8 0), (Value.int IntKind.u8 0), (Value.int IntKind.u8 0), (Value.int IntKind.u8 0)]))) := by kernel_rfl
theorem tSizex3 : tSize Tryd.prog 3 = (Option.some 1) := by kernel_rfl
theorem tSizex4 : tSize Tryd.prog 4 = (Option.some 1) := by kernel_rfl
theorem tSizex5 : tSize Tryd.prog 5 = (Option.some 1) := by kernel_rfl
theorem tSizex29 : tSize Tryd.prog 29 = (Option.some 64) := by kernel_rfl
theorem tSizex30 : tSize Tryd.prog 30 = (Option.some 896) := by kernel_rfl
theorem tSizex34 : tSize Tryd.prog 34 = (Option.some 1) := by kernel_rfl
theorem tSizex40 : tSize Tryd.prog 40 = (Option.some 14) := by kernel_rfl
theorem tSizex42 : tSize Tryd.prog 42 = (Option.some 5) := by kernel_rfl
theorem tSizex62 : tSize Tryd.prog 62 = (Option.some 65) := by kernel_rfl
theorem tSizex65 : tSize Tryd.prog 65 = (Option.some 1) := by kernel_rfl
theorem tSizex66 : tSize Tryd.prog 66 = (Option.some 1) := by kernel_rfl
theorem tSizex67 : tSize Tryd.prog 67 = (Option.some 1) := by kernel_rfl
theorem tSizex69 : tSize Tryd.prog 69 = (Option.some 6) := by kernel_rfl
theorem tSizex74 : tSize Tryd.prog 74 = (Option.some 1) := by kernel_rfl
theorem tSlix23 : tSli Tryd.prog 23 = Bool.true := by kernel_rfl
theorem tSlix67 : tSli Tryd.prog 67 = Bool.true := by kernel_rfl
theorem tZerox29 : tZero Tryd.prog 29 = (Option.some #[(Value.int IntKind.u8 0), (Value.int IntKind.u8 0), (Value.int IntKind.u8 0), (Value.int IntKind.u8 0), (Value.int IntKind.u8 0), (Value.int IntKind.u8 0), (Value.int IntKind.u8 0), (Value.int IntKind.u8 0), (Value.int IntKind.u8 0), (Value.int IntKind.u8 0), (Value.int IntKind.u8 0), (Value.int IntKind.u8 0), (Value.int IntKind.u8 0), (Value.int IntKind.u8 0), (Value.int IntKind.u8 0), (Value.int IntKind.u8 0), (Value.int IntKind.u8 0), (Value.int IntKind.u8 0), (Value.int IntKind.u8 0), (Value.int IntKind.u8 0), (Value.int IntKind.u8 0), (Value.int IntKind.u8 0), (Value.int IntKind.u8 0), (Value.int IntKind.u8 0), (Value.int IntKind.u8 0), (Value.int IntKind.u8 0), (Value.int IntKind.u8 0), (Value.int IntKind.u8 0), (Value.int IntKind.u8 0), (Value.int IntKind.u8 0), (Value.int IntKind.u8 0), (Value.int IntKind.u8 0), (Value.int IntKind.u8 0), (Value.int IntKind.u8 0), (Value.int IntKind.u8 0), (Value.int IntKind.u8 0), (Value.int IntKind.u8 0), (Value.int IntKind.u8 0), (Value.int IntKind.u8 0), (Value.int IntKind.u8 0), (Value.int IntKind.u8 0), (Value.int IntKind.u8 0), (Value.int IntKind.u8 0), (Value.int IntKind.u8 0), (Value.int IntKind.u8 0), (Value.int IntKind.u8 0), (Value.int IntKind.u8 0), (Value.int IntKind.u8 0), (Value.int IntKind.u8 0), (Value.int IntKind.u8 0), (Value.int IntKind.u8 0), (Value.int IntKind.u8 0), (Value.int IntKind.u8 0), (Value.int IntKind.u8 0), (Value.int IntKind.u8 0), (Value.int IntKind.u8 0), (Value.int IntKind.u8 0), (Value.int IntKind.u8 0), (Value.int IntKind.u8 0), (Value.int IntKind.u8 0), (Value.int IntKind.u8 0), (Value.int IntKind.u8 0), (Value.int IntKind.u8 0), (Value.int IntKind.u8 0)]) := by kernel_rfl
def zero30 : Array Value := (List.replicate 896 (Value.int IntKind.u8 0)).toArray
theorem tZerox30 : tZero Tryd.prog 30 = (Option.some zero30) := by kernel_rfl
theorem tZerox34 : tZero Tryd.prog 34 = (Option.some #[(Value.slice Option.none 0 0)]) := by kernel_rfl
theorem tZerox40 : tZero Tryd.prog 40 = (Option.some #[(Value.bool Bool.false), (Value.bool Bool.false), (Value.bool Bool.false), (Value.bool Bool.false), (Value.bool Bool.false), (Value.bool Bool.false), (Value.bool Bool.false), (Value.bool Bool.false), (Value.bool Bool.false), (Value.bool Bool.false), (Value.bool Bool.false), (Value.bool Bool.false), (Value.bool Bool.false), (Value.bool Bool.false)]) := by kernel_rfl
theorem tZerox42 : tZero Tryd.prog 42 = (Option.some #[(Value.int IntKind.i64 0), (Value.int IntKind.i64 0), (Value.int IntKind.i64 0), (Value.int IntKind.u8 0), (Value.slice Option.none 0 0)]) := by kernel_rfl
theorem tZerox62 : tZero Tryd.prog 62 = (Option.some #[(Value.int IntKind.i64 0), (Value.int IntKind.u8 0), (Value.int IntKind.u8 0), (Value.int IntKind.u8 0), (Value.int IntKind.u8 0), (Value.int IntKind.u8 0), (Value.int IntKind.u8 0), (Value.int IntKind.u8 0), (Value.int IntKind.u8 0), (Value.int IntKind.u8 0), (Value.int IntKind.u8 0), (Value.int IntKind.u8 0), (Value.int IntKind.u8 0), (Value.int IntKind.u8 0), (Value.int IntKind.u8 0), (Value.int IntKind.u8 0), (Value.int IntKind.u8 0), (Value.int IntKind.u8 0), (Value.int IntKind.u8 0), (Value.int IntKind.u8 0), (Value.int IntKind.u8 0), (Value.int IntKind.u8 0), (Value.int IntKind.u8 0), (Value.int IntKind.u8 0), (Value.int IntKind.u8 0), (Value.int IntKind.u8 0), (Value.int IntKind.u8 0), (Value.int IntKind.u8 0), (Value.int IntKind.u8 0), (Value.int IntKind.u8 0), (Value.int IntKind.u8 0), (Value.int IntKind.u8 0), (Value.int IntKind.u8 0), (Value.int IntKind.u8 0), (Value.int IntKind.u8 0), (Value.int IntKind.u8 0), (Value.int IntKind.u8 0), (Value.int IntKind.u8 0), (Value.int IntKind.u8 0), (Value.int IntKind.u8 0), (Value.int IntKind.u8 0), (Value.int IntKind.u8 0), (Value.int IntKind.u8 0), (Value.int IntKind.u8 0), (Value.int IntKind.u8 0), (Value.int IntKind.u8 0), (Value.int IntKind.u8 0), (Value.int IntKind.u8 0), (Value.int IntKind.u8 0), (Value.int IntKind.u8 0), (Value.int IntKind.u8 0), (Value.int IntKind.u8 0), (Value.int IntKind.u8 0), (Value.int IntKind.u8 0), (Value.int IntKind.u8 0), (Value.int IntKind.u8 0), (Value.int IntKind.u8 0), (Value.int IntKind.u8 0), (Value.int IntKind.u8 0), (Value.int IntKind.u8 0), (Value.int IntKind.u8 0), (Value.int IntKind.u8 0), (Value.int IntKind.u8 0), (Value.int IntKind.u8 0), (Value.int IntKind.u8 0)]) := by kernel_rfl
theorem tZerox69 : tZero Tryd.prog 69 = (Option.some #[(Value.slice Option.none 0 0), (Value.slice Option.none 0 0), (Value.int IntKind.i64 0), (Value.int IntKind.i64 0), (Value.bool Bool.false), (Value.int IntKind.i64 0)]) := by kernel_rfl
theorem tZerox74 : tZero Tryd.prog 74 = (Option.some #[Value.nilFunc]) := by kernel_rfl
end Go.Abs.B1d
