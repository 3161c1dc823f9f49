/- What the tables of the program say: printed by tables.py. -/
import Derived.Test.YtnlhfcipapbfmaaProg
import Derived.KernelRfl
import Derived.Test.YtnlhfcipapbfmaaAbsE
namespace Go.Abs.B1
open Go.Proofs
theorem hasBx12 : hasB Try.prog 12 = Bool.true := by kernel_rfl
theorem hasBx13 : hasB Try.prog 13 = Bool.true := by kernel_rfl
theorem hasBx14 : hasB Try.prog 14 = Bool.true := by kernel_rfl
theorem hasBx15 : hasB Try.prog 15 = Bool.true := by kernel_rfl
theorem hasBx16 : hasB Try.prog 16 = Bool.true := by kernel_rfl
theorem hasBx17 : hasB Try.prog 17 = Bool.true := by kernel_rfl
theorem hasBx18 : hasB Try.prog 18 = Bool.true := by kernel_rfl
theorem hasBx19 : hasB Try.prog 19 = Bool.true := by kernel_rfl
theorem hasBx20 : hasB Try.prog 20 = Bool.true := by kernel_rfl
theorem hasBx21 : hasB Try.prog 21 = Bool.true := by kernel_rfl
theorem hasBx22 : hasB Try.prog 22 = Bool.true := by kernel_rfl
theorem hasBx23 : hasB Try.prog 23 = Bool.true := by kernel_rfl
theorem hasBx24 : hasB Try.prog 24 = Bool.true := by kernel_rfl
theorem hasBx25 : hasB Try.prog 25 = Bool.true := by kernel_rfl
theorem hasBx26 : hasB Try.prog 26 = Bool.true := by kernel_rfl
theorem hasBx27 : hasB Try.prog 27 = Bool.true := by kernel_rfl
theorem hasBx28 : hasB Try.prog 28 = Bool.true := by kernel_rfl
theorem hasBx29 : hasB Try.prog 29 = Bool.true := by kernel_rfl
theorem hasBx30 : hasB Try.prog 30 = Bool.true := by kernel_rfl
theorem hasBx31 : hasB Try.prog 31 = Bool.true := by kernel_rfl
theorem hasBx32 : hasB Try.prog 32 = Bool.true := by kernel_rfl
theorem hasBx33 : hasB Try.prog 33 = Bool.true := by kernel_rfl
theorem hasBx34 : hasB Try.prog 34 = Bool.true := by kernel_rfl
theorem hasBx35 : hasB Try.prog 35 = Bool.true := by kernel_rfl
theorem hasBx36 : hasB Try.prog 36 = Bool.true := by kernel_rfl
theorem hasBx37 : hasB Try.prog 37 = Bool.true := by kernel_rfl
theorem hasBx38 : hasB Try.prog 38 = Bool.true := by kernel_rfl
theorem hasBx39 : hasB Try.prog 39 = Bool.true := by kernel_rfl
theorem hasBx40 : hasB Try.prog 40 = Bool.true := by kernel_rfl
theorem hasBx41 : hasB Try.prog 41 = Bool.true := by kernel_rfl
theorem hasBx42 : hasB Try.prog 42 = Bool.true := by kernel_rfl
theorem hasBx43 : hasB Try.prog 43 = Bool.true := by kernel_rfl
theorem hasBx44 : hasB Try.prog 44 = Bool.true := by kernel_rfl
theorem hasBx45 : hasB Try.prog 45 = Bool.true := by kernel_rfl
theorem hasBx46 : hasB Try.prog 46 = Bool.true := by kernel_rfl
theorem hasBx47 : hasB Try.prog 47 = Bool.true := by kernel_rfl
theorem hasBx48 : hasB Try.prog 48 = Bool.true := by kernel_rfl
theorem hasBx49 : hasB Try.prog 49 = Bool.true := by kernel_rfl
theorem hasBx50 : hasB Try.prog 50 = Bool.true := by kernel_rfl
theorem hasBx51 : hasB Try.prog 51 = Bool.true := by kernel_rfl
theorem hasBx52 : hasB Try.prog 52 = Bool.true := by kernel_rfl
theorem hasBx53 : hasB Try.prog 53 = Bool.true := by kernel_rfl
theorem hasBx54 : hasB Try.prog 54 = Bool.true := by kernel_rfl
theorem hasBx55 : hasB Try.prog 55 = Bool.true := by kernel_rfl
theorem hasBx56 : hasB Try.prog 56 = Bool.true := by kernel_rfl
theorem hasBx57 : hasB Try.prog 57 = Bool.true := by kernel_rfl
theorem hasBx58 : hasB Try.prog 58 = Bool.true := by kernel_rfl
theorem hasBx59 : hasB Try.prog 59 = Bool.true := by kernel_rfl
theorem hasBx60 : hasB Try.prog 60 = Bool.true := by kernel_rfl
theorem hasBx61 : hasB Try.prog 61 = Bool.true := by kernel_rfl
theorem hasBx62 : hasB Try.prog 62 = Bool.true := by kernel_rfl
theorem hasBx63 : hasB Try.prog 63 = Bool.true := by kernel_rfl
theorem hasBx64 : hasB Try.prog 64 = Bool.true := by kernel_rfl
theorem hasBx65 : hasB Try.prog 65 = Bool.true := by kernel_rfl
theorem hasBx66 : hasB Try.prog 66 = Bool.true := by kernel_rfl
theorem hasBx67 : hasB Try.prog 67 = Bool.true := by kernel_rfl
theorem hasBx68 : hasB Try.prog 68 = Bool.true := by kernel_rfl
theorem hasBx69 : hasB Try.prog 69 = Bool.true := by kernel_rfl
theorem hasBx70 : hasB Try.prog 70 = Bool.true := by kernel_rfl
theorem hasBx71 : hasB Try.prog 71 = Bool.true := by kernel_rfl
theorem hasBx72 : hasB Try.prog 72 = Bool.true := by kernel_rfl
theorem hasBx73 : hasB Try.prog 73 = Bool.true := by kernel_rfl
theorem hasBx74 : hasB Try.prog 74 = Bool.true := by kernel_rfl
theorem hasBx75 : hasB Try.prog 75 = Bool.true := by kernel_rfl
theorem hasBx76 : hasB Try.prog 76 = Bool.true := by kernel_rfl
theorem hasBx77 : hasB Try.prog 77 = Bool.true := by kernel_rfl
theorem hasBx78 : hasB Try.prog 78 = Bool.true := by kernel_rfl
theorem hasBx79 : hasB Try.prog 79 = Bool.true := by kernel_rfl
theorem hasBx80 : hasB Try.prog 80 = Bool.true := by kernel_rfl
theorem hasBx81 : hasB Try.prog 81 = Bool.true := by kernel_rfl
theorem hasBx82 : hasB Try.prog 82 = Bool.true := by kernel_rfl
theorem hasBx83 : hasB Try.prog 83 = Bool.true := by kernel_rfl
theorem hasBx84 : hasB Try.prog 84 = Bool.true := by kernel_rfl
theorem hasBx85 : hasB Try.prog 85 = Bool.true := by kernel_rfl
theorem hasBx86 : hasB Try.prog 86 = Bool.true := by kernel_rfl
theorem hasBx87 : hasB Try.prog 87 = Bool.true := by kernel_rfl
theorem hasBx88 : hasB Try.prog 88 = Bool.true := by kernel_rfl
theorem hasBx89 : hasB Try.prog 89 = Bool.true := by kernel_rfl
theorem hasBx90 : hasB Try.prog 90 = Bool.true := by kernel_rfl
theorem hasBx91 : hasB Try.prog 91 = Bool.true := by kernel_rfl
theorem hasBx92 : hasB Try.prog 92 = Bool.true := by kernel_rfl
theorem hasBx93 : hasB Try.prog 93 = Bool.true := by kernel_rfl
theorem hasBx94 : hasB Try.prog 94 = Bool.true := by kernel_rfl
theorem hasBx95 : hasB Try.prog 95 = Bool.true := by kernel_rfl
theorem hasBx96 : hasB Try.prog 96 = Bool.true := by kernel_rfl
theorem hasBx97 : hasB Try.prog 97 = Bool.true := by kernel_rfl
theorem hasBx98 : hasB Try.prog 98 = Bool.true := by kernel_rfl
theorem hasBx99 : hasB Try.prog 99 = Bool.true := by kernel_rfl
theorem hasBx100 : hasB Try.prog 100 = Bool.true := by kernel_rfl
theorem hasBx101 : hasB Try.prog 101 = Bool.true := by kernel_rfl
theorem hasBx102 : hasB Try.prog 102 = Bool.true := by kernel_rfl
theorem hasBx103 : hasB Try.prog 103 = Bool.true := by kernel_rfl
theorem hasBx104 : hasB Try.prog 104 = Bool.true := by kernel_rfl
theorem hasBx105 : hasB Try.prog 105 = Bool.true := by kernel_rfl
theorem hasBx106 : hasB Try.prog 106 = Bool.true := by kernel_rfl
theorem hasBx107 : hasB Try.prog 107 = Bool.true := by kernel_rfl
theorem hasBx108 : hasB Try.prog 108 = Bool.true := by kernel_rfl
theorem hasBx109 : hasB Try.prog 109 = Bool.true := by kernel_rfl
theorem hasBx110 : hasB Try.prog 110 = Bool.true := by kernel_rfl
theorem hasBx111 : hasB Try.prog 111 = Bool.true := by kernel_rfl
theorem tArrx31 : tArr Try.prog 31 = (Option.some (3, 2)) := by kernel_rfl
theorem tArrx98 : tArr Try.prog 98 = (Option.some (64, 1)) := by kernel_rfl
theorem tBoolx4 : tBool Try.prog 4 = Bool.true := by kernel_rfl
theorem tBuildFx24x0 : tBuildF Try.prog 24 0 = (Option.some (0, 1)) := by kernel_rfl
theorem tBuildFx24x1 : tBuildF Try.prog 24 1 = (Option.some (1, 1)) := by kernel_rfl
theorem tBuildFx27x0 : tBuildF Try.prog 27 0 = (Option.some (0, 1)) := by kernel_rfl
theorem tBuildFx30x0 : tBuildF Try.prog 30 0 = (Option.some (0, 1)) := by kernel_rfl
theorem tBuildFx30x1 : tBuildF Try.prog 30 1 = (Option.some (1, 1)) := by kernel_rfl
theorem tBuildFx36x0 : tBuildF Try.prog 36 0 = (Option.some (0, 1)) := by kernel_rfl
theorem tBuildFx36x1 : tBuildF Try.prog 36 1 = (Option.some (1, 9)) := by kernel_rfl
theorem tBuildFx36x2 : tBuildF Try.prog 36 2 = (Option.some (10, 1)) := by kernel_rfl
theorem tBuildFx45x0 : tBuildF Try.prog 45 0 = (Option.some (0, 1)) := by kernel_rfl
theorem tBuildFx47x0 : tBuildF Try.prog 47 0 = (Option.some (0, 1)) := by kernel_rfl
theorem tBuildFx47x4 : tBuildF Try.prog 47 4 = (Option.some (4, 2)) := by kernel_rfl
theorem tBuildFx47x5 : tBuildF Try.prog 47 5 = (Option.some (6, 1)) := by kernel_rfl
theorem tBuildFx47x10 : tBuildF Try.prog 47 10 = (Option.some (11, 9)) := by kernel_rfl
theorem tBuildFx72x0 : tBuildF Try.prog 72 0 = (Option.some (0, 1)) := by kernel_rfl
theorem tBuildFx72x3 : tBuildF Try.prog 72 3 = (Option.some (3, 1)) := by kernel_rfl
theorem tBuildFx85x0 : tBuildF Try.prog 85 0 = (Option.some (0, 1)) := by kernel_rfl
theorem tBuildFx85x1 : tBuildF Try.prog 85 1 = (Option.some (1, 1)) := by kernel_rfl
theorem tBuildFx85x2 : tBuildF Try.prog 85 2 = (Option.some (2, 1)) := by kernel_rfl
theorem tBuildFx85x3 : tBuildF Try.prog 85 3 = (Option.some (3, 1)) := by kernel_rfl
theorem tBuildFx98x0 : tBuildF Try.prog 98 0 = (Option.some (0, 1)) := by kernel_rfl
theorem tBuildFx113x0 : tBuildF Try.prog 113 0 = (Option.some (0, 1)) := by kernel_rfl
theorem tBuildFx113x2 : tBuildF Try.prog 113 2 = (Option.some (2, 1)) := by kernel_rfl
theorem tBuildFx113x3 : tBuildF Try.prog 113 3 = (Option.some (3, 1)) := by kernel_rfl
theorem tBuildFx113x5 : tBuildF Try.prog 113 5 = (Option.some (5, 1)) := by kernel_rfl
theorem tBuildFx135x0 : tBuildF Try.prog 135 0 = (Option.some (0, 1)) := by kernel_rfl
theorem tBuildFx135x1 : tBuildF Try.prog 135 1 = (Option.some (1, 9)) := by kernel_rfl
theorem tBuildFx135x2 : tBuildF Try.prog 135 2 = (Option.some (10, 1)) := by kernel_rfl
theorem tBuildFx149x0 : tBuildF Try.prog 149 0 = (Option.some (0, 1)) := by kernel_rfl
theorem tBuildFx149x2 : tBuildF Try.prog 149 2 = (Option.some (2, 1)) := by kernel_rfl
theorem tBuildFx149x3 : tBuildF Try.prog 149 3 = (Option.some (3, 1)) := by kernel_rfl
theorem tBuildFx154x0 : tBuildF Try.prog 154 0 = (Option.some (0, 1)) := by kernel_rfl
theorem tBuildFx154x1 : tBuildF Try.prog 154 1 = (Option.some (1, 64)) := by kernel_rfl
theorem tBuildFx167x0 : tBuildF Try.prog 167 0 = (Option.some (0, 1)) := by kernel_rfl
theorem tBuildFx167x1 : tBuildF Try.prog 167 1 = (Option.some (1, 64)) := by kernel_rfl
theorem tBuildOkx24 : tBuildOk Try.prog 24 = Bool.true := by kernel_rfl
theorem tBuildOkx27 : tBuildOk Try.prog 27 = Bool.true := by kernel_rfl
theorem tBuildOkx30 : tBuildOk Try.prog 30 = Bool.true := by kernel_rfl
theorem tBuildOkx36 : tBuildOk Try.prog 36 = Bool.true := by kernel_rfl
theorem tBuildOkx45 : tBuildOk Try.prog 45 = Bool.true := by kernel_rfl
theorem tBuildOkx47 : tBuildOk Try.prog 47 = Bool.true := by kernel_rfl
theorem tBuildOkx72 : tBuildOk Try.prog 72 = Bool.true := by kernel_rfl
theorem tBuildOkx85 : tBuildOk Try.prog 85 = Bool.true := by kernel_rfl
theorem tBuildOkx98 : tBuildOk Try.prog 98 = Bool.true := by kernel_rfl
theorem tBuildOkx113 : tBuildOk Try.prog 113 = Bool.true := by kernel_rfl
theorem tBuildOkx135 : tBuildOk Try.prog 135 = Bool.true := by kernel_rfl
theorem tBuildOkx149 : tBuildOk Try.prog 149 = Bool.true := by kernel_rfl
theorem tBuildOkx154 : tBuildOk Try.prog 154 = Bool.true := by kernel_rfl
theorem tBuildOkx167 : tBuildOk Try.prog 167 = Bool.true := by kernel_rfl
theorem tElemx25 : tElem Try.prog 25 = (Option.some 21) := by kernel_rfl
theorem tElemx34 : tElem Try.prog 34 = (Option.some 4) := by kernel_rfl
theorem tElemx37 : tElem Try.prog 37 = (Option.some 1) := by kernel_rfl
theorem tElemx43 : tElem Try.prog 43 = (Option.some 22) := by kernel_rfl
theorem tElemx64 : tElem Try.prog 64 = (Option.some 25) := by kernel_rfl
theorem tElemx70 : tElem Try.prog 70 = (Option.some 23) := by kernel_rfl
theorem tElemx88 : tElem Try.prog 88 = (Option.some 5) := by kernel_rfl
theorem tElemx92 : tElem Try.prog 92 = (Option.some 1) := by kernel_rfl
theorem tElemx95 : tElem Try.prog 95 = (Option.some 1) := by kernel_rfl
theorem tElemx110 : tElem Try.prog 110 = (Option.some 64) := by kernel_rfl
theorem tElemx111 : tElem Try.prog 111 = (Option.some 65) := by kernel_rfl
theorem tElemx147 : tElem Try.prog 147 = (Option.some 65) := by kernel_rfl
theorem tElemx178 : tElem Try.prog 178 = (Option.some 1) := by kernel_rfl
theorem tFieldx24x0 : tField Try.prog 24 0 = (Option.some (0, Option.none)) := by kernel_rfl
theorem tFieldx113x0 : tField Try.prog 113 0 = (Option.some (0, Option.none)) := by kernel_rfl
theorem tFieldAx24x0 : tFieldA Try.prog 24 0 = (Option.some 0) := by kernel_rfl
theorem tFieldAx24x1 : tFieldA Try.prog 24 1 = (Option.some 1) := by kernel_rfl
theorem tFieldAx27x0 : tFieldA Try.prog 27 0 = (Option.some 0) := by kernel_rfl
theorem tFieldAx33x0 : tFieldA Try.prog 33 0 = (Option.some 0) := by kernel_rfl
theorem tFieldAx33x1 : tFieldA Try.prog 33 1 = (Option.some 2) := by kernel_rfl
theorem tFieldAx33x2 : tFieldA Try.prog 33 2 = (Option.some 3) := by kernel_rfl
theorem tFieldAx36x0 : tFieldA Try.prog 36 0 = (Option.some 0) := by kernel_rfl
theorem tFieldAx36x1 : tFieldA Try.prog 36 1 = (Option.some 1) := by kernel_rfl
theorem tFieldAx36x2 : tFieldA Try.prog 36 2 = (Option.some 10) := by kernel_rfl
theorem tFieldAx45x0 : tFieldA Try.prog 45 0 = (Option.some 0) := by kernel_rfl
theorem tFieldAx47x0 : tFieldA Try.prog 47 0 = (Option.some 0) := by kernel_rfl
theorem tFieldAx47x1 : tFieldA Try.prog 47 1 = (Option.some 1) := by kernel_rfl
theorem tFieldAx47x2 : tFieldA Try.prog 47 2 = (Option.some 2) := by kernel_rfl
theorem tFieldAx47x3 : tFieldA Try.prog 47 3 = (Option.some 3) := by kernel_rfl
theorem tFieldAx47x4 : tFieldA Try.prog 47 4 = (Option.some 4) := by kernel_rfl
theorem tFieldAx47x5 : tFieldA Try.prog 47 5 = (Option.some 6) := by kernel_rfl
theorem tFieldAx47x6 : tFieldA Try.prog 47 6 = (Option.some 7) := by kernel_rfl
theorem tFieldAx47x7 : tFieldA Try.prog 47 7 = (Option.some 8) := by kernel_rfl
theorem tFieldAx47x8 : tFieldA Try.prog 47 8 = (Option.some 9) := by kernel_rfl
theorem tFieldAx47x9 : tFieldA Try.prog 47 9 = (Option.some 10) := by kernel_rfl
theorem tFieldAx47x10 : tFieldA Try.prog 47 10 = (Option.some 11) := by kernel_rfl
theorem tFieldAx47x11 : tFieldA Try.prog 47 11 = (Option.some 20) := by kernel_rfl
theorem tFieldAx47x12 : tFieldA Try.prog 47 12 = (Option.some 21) := by kernel_rfl
theorem tFieldAx47x13 : tFieldA Try.prog 47 13 = (Option.some 22) := by kernel_rfl
theorem tFieldAx61x3 : tFieldA Try.prog 61 3 = (Option.some 20) := by kernel_rfl
theorem tFieldAx66x0 : tFieldA Try.prog 66 0 = (Option.some 0) := by kernel_rfl
theorem tFieldAx66x1 : tFieldA Try.prog 66 1 = (Option.some 1) := by kernel_rfl
theorem tFieldAx66x2 : tFieldA Try.prog 66 2 = (Option.some 2) := by kernel_rfl
theorem tFieldAx72x0 : tFieldA Try.prog 72 0 = (Option.some 0) := by kernel_rfl
theorem tFieldAx72x1 : tFieldA Try.prog 72 1 = (Option.some 1) := by kernel_rfl
theorem tFieldAx72x2 : tFieldA Try.prog 72 2 = (Option.some 2) := by kernel_rfl
theorem tFieldAx72x3 : tFieldA Try.prog 72 3 = (Option.some 3) := by kernel_rfl
theorem tFieldAx85x0 : tFieldA Try.prog 85 0 = (Option.some 0) := by kernel_rfl
theorem tFieldAx85x1 : tFieldA Try.prog 85 1 = (Option.some 1) := by kernel_rfl
theorem tFieldAx85x2 : tFieldA Try.prog 85 2 = (Option.some 2) := by kernel_rfl
theorem tFieldAx85x3 : tFieldA Try.prog 85 3 = (Option.some 3) := by kernel_rfl
theorem tFieldAx94x0 : tFieldA Try.prog 94 0 = (Option.some 0) := by kernel_rfl
theorem tFieldAx94x1 : tFieldA Try.prog 94 1 = (Option.some 1) := by kernel_rfl
theorem tFieldAx94x2 : tFieldA Try.prog 94 2 = (Option.some 2) := by kernel_rfl
theorem tFieldAx94x3 : tFieldA Try.prog 94 3 = (Option.some 3) := by kernel_rfl
theorem tFieldAx94x4 : tFieldA Try.prog 94 4 = (Option.some 4) := by kernel_rfl
theorem tFieldAx106x0 : tFieldA Try.prog 106 0 = (Option.some 0) := by kernel_rfl
theorem tFieldAx106x1 : tFieldA Try.prog 106 1 = (Option.some 1) := by kernel_rfl
theorem tFieldAx106x2 : tFieldA Try.prog 106 2 = (Option.some 2) := by kernel_rfl
theorem tFieldAx106x3 : tFieldA Try.prog 106 3 = (Option.some 3) := by kernel_rfl
theorem tFieldAx106x4 : tFieldA Try.prog 106 4 = (Option.some 4) := by kernel_rfl
theorem tFieldAx106x5 : tFieldA Try.prog 106 5 = (Option.some 5) := by kernel_rfl
theorem tFieldAx113x0 : tFieldA Try.prog 113 0 = (Option.some 0) := by kernel_rfl
theorem tFieldAx113x1 : tFieldA Try.prog 113 1 = (Option.some 1) := by kernel_rfl
theorem tFieldAx113x2 : tFieldA Try.prog 113 2 = (Option.some 2) := by kernel_rfl
theorem tFieldAx113x3 : tFieldA Try.prog 113 3 = (Option.some 3) := by kernel_rfl
theorem tFieldAx113x4 : tFieldA Try.prog 113 4 = (Option.some 4) := by kernel_rfl
theorem tFieldAx113x5 : tFieldA Try.prog 113 5 = (Option.some 5) := by kernel_rfl
theorem tFieldAx135x1 : tFieldA Try.prog 135 1 = (Option.some 1) := by kernel_rfl
theorem tFieldAx135x2 : tFieldA Try.prog 135 2 = (Option.some 10) := by kernel_rfl
theorem tFieldAx139x4 : tFieldA Try.prog 139 4 = (Option.some 21) := by kernel_rfl
theorem tFieldAx149x0 : tFieldA Try.prog 149 0 = (Option.some 0) := by kernel_rfl
theorem tFieldAx149x1 : tFieldA Try.prog 149 1 = (Option.some 1) := by kernel_rfl
theorem tFieldAx149x2 : tFieldA Try.prog 149 2 = (Option.some 2) := by kernel_rfl
theorem tFieldAx149x3 : tFieldA Try.prog 149 3 = (Option.some 3) := by kernel_rfl
theorem tFieldAx149x4 : tFieldA Try.prog 149 4 = (Option.some 4) := by kernel_rfl
theorem tFieldAx149x5 : tFieldA Try.prog 149 5 = (Option.some 5) := by kernel_rfl
theorem tFieldAx154x0 : tFieldA Try.prog 154 0 = (Option.some 0) := by kernel_rfl
theorem tFieldAx154x1 : tFieldA Try.prog 154 1 = (Option.some 1) := by kernel_rfl
theorem tFieldAx167x0 : tFieldA Try.prog 167 0 = (Option.some 0) := by kernel_rfl
theorem tFieldAx167x1 : tFieldA Try.prog 167 1 = (Option.some 1) := by kernel_rfl
theorem tIntx3x22 : tInt Try.prog 3 22 = (Option.some IntKind.u64) := by kernel_rfl
theorem tIntx3x28 : tInt Try.prog 3 28 = (Option.some IntKind.u32) := by kernel_rfl
theorem tIntx3x102 : tInt Try.prog 3 102 = (Option.some IntKind.u64) := by kernel_rfl
theorem tIntx102x3 : tInt Try.prog 102 3 = (Option.some IntKind.i64) := by kernel_rfl
theorem tLenx25 : tLen Try.prog 25 = (Option.some Bool.false) := by kernel_rfl
theorem tLenx34 : tLen Try.prog 34 = (Option.some Bool.false) := by kernel_rfl
theorem tLenx37 : tLen Try.prog 37 = (Option.some Bool.false) := by kernel_rfl
theorem tLenx43 : tLen Try.prog 43 = (Option.some Bool.false) := by kernel_rfl
theorem tLenx64 : tLen Try.prog 64 = (Option.some Bool.false) := by kernel_rfl
theorem tLenx70 : tLen Try.prog 70 = (Option.some Bool.false) := by kernel_rfl
theorem tLenx88 : tLen Try.prog 88 = (Option.some Bool.false) := by kernel_rfl
theorem tLenx92 : tLen Try.prog 92 = (Option.some Bool.false) := by kernel_rfl
theorem tLenx95 : tLen Try.prog 95 = (Option.some Bool.false) := by kernel_rfl
theorem tLenx110 : tLen Try.prog 110 = (Option.some Bool.false) := by kernel_rfl
theorem tLenx111 : tLen Try.prog 111 = (Option.some Bool.false) := by kernel_rfl
theorem tLenx147 : tLen Try.prog 147 = (Option.some Bool.false) := by kernel_rfl
theorem tLenx178 : tLen Try.prog 178 = (Option.some Bool.false) := by kernel_rfl
theorem tPartx3 : tPart Try.prog 3 = (Option.some Option.none) := by kernel_rfl
theorem tPartx4 : tPart Try.prog 4 = (Option.some Option.none) := by kernel_rfl
theorem tPartx5 : tPart Try.prog 5 = (Option.some Option.none) := by kernel_rfl
theorem tPartx22 : tPart Try.prog 22 = (Option.some Option.none) := by kernel_rfl
theorem tPartx24 : tPart Try.prog 24 = (Option.some (Option.some 2)) := by kernel_rfl
theorem tPartx25 : tPart Try.prog 25 = (Option.some Option.none) := by kernel_rfl
theorem tPartx27 : tPart Try.prog 27 = (Option.some (Option.some 1)) := by kernel_rfl
theorem tPartx28 : tPart Try.prog 28 = (Option.some Option.none) := by kernel_rfl
theorem tPartx31 : tPart Try.prog 31 = (Option.some (Option.some 6)) := by kernel_rfl
theorem tPartx33 : tPart Try.prog 33 = (Option.some (Option.some 9)) := by kernel_rfl
theorem tPartx34 : tPart Try.prog 34 = (Option.some Option.none) := by kernel_rfl
theorem tPartx36 : tPart Try.prog 36 = (Option.some (Option.some 11)) := by kernel_rfl
theorem tPartx41 : tPart Try.prog 41 = (Option.some Option.none) := by kernel_rfl
theorem tPartx43 : tPart Try.prog 43 = (Option.some Option.none) := by kernel_rfl
theorem tPartx45 : tPart Try.prog 45 = (Option.some (Option.some 1)) := by kernel_rfl
theorem tPartx47 : tPart Try.prog 47 = (Option.some (Option.some 23)) := by kernel_rfl
theorem tPartx61 : tPart Try.prog 61 = (Option.some (Option.some 21)) := by kernel_rfl
theorem tPartx66 : tPart Try.prog 66 = (Option.some (Option.some 25)) := by kernel_rfl
theorem tPartx72 : tPart Try.prog 72 = (Option.some (Option.some 4)) := by kernel_rfl
theorem tPartx85 : tPart Try.prog 85 = (Option.some (Option.some 4)) := by kernel_rfl
theorem tPartx89 : tPart Try.prog 89 = (Option.some Option.none) := by kernel_rfl
theorem tPartx92 : tPart Try.prog 92 = (Option.some Option.none) := by kernel_rfl
theorem tPartx94 : tPart Try.prog 94 = (Option.some (Option.some 5)) := by kernel_rfl
theorem tPartx95 : tPart Try.prog 95 = (Option.some Option.none) := by kernel_rfl
theorem tPartx98 : tPart Try.prog 98 = (Option.some (Option.some 64)) := by kernel_rfl
theorem tPartx106 : tPart Try.prog 106 = (Option.some (Option.some 6)) := by kernel_rfl
theorem tPartx110 : tPart Try.prog 110 = (Option.some Option.none) := by kernel_rfl
theorem tPartx111 : tPart Try.prog 111 = (Option.some Option.none) := by kernel_rfl
theorem tPartx113 : tPart Try.prog 113 = (Option.some (Option.some 6)) := by kernel_rfl
theorem tPartx135 : tPart Try.prog 135 = (Option.some (Option.some 11)) := by kernel_rfl
theorem tPartx139 : tPart Try.prog 139 = (Option.some (Option.some 22)) := by kernel_rfl
theorem tPartx146 : tPart Try.prog 146 = (Option.some Option.none) := by kernel_rfl
theorem tPartx147 : tPart Try.prog 147 = (Option.some Option.none) := by kernel_rfl
theorem tPartx149 : tPart Try.prog 149 = (Option.some (Option.some 6)) := by kernel_rfl
theorem tPartx154 : tPart Try.prog 154 = (Option.some (Option.some 65)) := by kernel_rfl
theorem tPartx167 : tPart Try.prog 167 = (Option.some (Option.some 65)) := by kernel_rfl
theorem tPartx169 : tPart Try.prog 169 = (Option.some Option.none) := by kernel_rfl
theorem tPartx180 : tPart Try.prog 180 = (Option.some Option.none) := by kernel_rfl
theorem tPtrx89 : tPtr Try.prog 89 = Bool.true := by kernel_rfl
theorem tRowx25 : tRow Try.prog 25 = (Option.some (21, (56, #[(Value.int IntKind.i64 0), (Value.int IntKind.u8 0), (Value.int IntKind.u8 0), (Value.int IntKind.u8 0), (Value.int IntKind.u8 0), (Value.int IntKind.u8 0), (Value.int IntKind.u8 0), (Value.int IntKind.u8 0), (Value.int IntKind.u8 0), (Value.int IntKind.u8 0), (Value.int IntKind.u8 0), (Value.int IntKind.u8 0), (Value.int IntKind.u8 0), (Value.int IntKind.u8 0), (Value.int IntKind.u8 0), (Value.int IntKind.u8 0), (Value.int IntKind.u8 0), (Value.int IntKind.i64 0), (Value.int IntKind.i64 0), (Value.int IntKind.i64 0), (Value.int IntKind.i64 0)]))) := by kernel_rfl
theorem tRowx34 : tRow Try.prog 34 = (Option.some (4, (48, #[(Value.int IntKind.u64 0), (Value.int IntKind.i64 0), (Value.int IntKind.u32 0), (Value.slice Option.none 0 0)]))) := by kernel_rfl
theorem tRowx43 : tRow Try.prog 43 = (Option.some (22, (64, #[(Value.int IntKind.i64 0), (Value.int IntKind.u8 0), (Value.int IntKind.u8 0), (Value.int IntKind.u8 0), (Value.int IntKind.u8 0), (Value.int IntKind.u8 0), (Value.int IntKind.u8 0), (Value.int IntKind.u8 0), (Value.int IntKind.u8 0), (Value.int IntKind.u8 0), (Value.int IntKind.u8 0), (Value.int IntKind.u8 0), (Value.int IntKind.u8 0), (Value.int IntKind.u8 0), (Value.int IntKind.u8 0), (Value.int IntKind.u8 0), (Value.int IntKind.u8 0), (Value.int IntKind.i64 0), (Value.int IntKind.i64 0), (Value.bool Bool.false), (Value.int IntKind.i64 0), (Value.int IntKind.i64 0)]))) := by kernel_rfl
theorem tRowx92 : tRow Try.prog 92 = (Option.some (1, (1, #[(Value.bool Bool.false)]))) := by kernel_rfl
theorem tRowx95 : tRow Try.prog 95 = (Option.some (1, (8, #[(Value.int IntKind.i64 0)]))) := by kernel_rfl
theorem tRowx110 : tRow Try.prog 110 = (Option.some (64, (64, #[(Value.int IntKind.u8 0), (Value.int IntKind.u8 0), (Value.int IntKind.u8 0), (Value.int IntKind.u8 0), (Value.int IntKind.u8 0), (Value.int IntKind.u8 0), (Value.int IntKind.u8 0), (Value.int IntKind.u8 0), (Value.int IntKind.u8 0), (Value.int IntKind.u8 0), (Value.int IntKind.u8 0), (Value.int IntKind.u8 0), (Value.int IntKind.u8 0), (Value.int IntKind.u8 0), (Value.int IntKind.u8 0), (Value.int IntKind.u8 0), (Value.int IntKind.u8 0), (Value.int IntKind.u8 0), (Value.int IntKind.u8 0), (Value.int IntKind.u8 0), (Value.int IntKind.u8 0), (Value.int IntKind.u8 0), (Value.int IntKind.u8 0), (Value.int IntKind.u8 0), (Value.int IntKind.u8 0), (Value.int IntKind.u8 0), (Value.int IntKind.u8 0), (Value.int IntKind.u8 0), (Value.int IntKind.u8 0), (Value.int IntKind.u8 0), (Value.int IntKind.u8 0), (Value.int IntKind.u8 0), (Value.int IntKind.u8 0), (Value.int IntKind.u8 0), (Value.int IntKind.u8 0), (Value.int IntKind.u8 0), (Value.int IntKind.u8 0), (Value.int IntKind.u8 0), (Value.int IntKind.u8 0), (Value.int IntKind.u8 0), (Value.int IntKind.u8 0), (Value.int IntKind.u8 0), (Value.int IntKind.u8 0), (Value.int IntKind.u8 0), (Value.int IntKind.u8 0), (Value.int IntKind.u8 0), (Value.int IntKind.u8 0), (Value.int IntKind.u8 0), (Value.int IntKind.u8 0), (Value.int IntKind.u8 0), (Value.int IntKind.u8 0), (Value.int IntKind.u8 0), (Value.int IntKind.u8 0), (Value.int IntKind.u8 0), (Value.int IntKind.u8 0), (Value.int IntKind.u8 0), (Value.int IntKind.u8 0), (Value.int IntKind.u8 0), (Value.int IntKind.u8 0), (Value.int IntKind.u8 0), (Value.int IntKind.u8 0), (Value.int IntKind.u8 0), (Value.int IntKind.u8 0), (Value.int IntKind.u8 0)]))) := by kernel_rfl
theorem tRowx111 : tRow Try.prog 111 = (Option.some (65, (72, #[(Value.int IntKind.i64 0), (Value.int IntKind.u8 0), (Value.int IntKind.u8 0), (Value.int IntKind.u8 0), (Value.int IntKind.u8 0), (Value.int IntKind.u8 0), (Value.int IntKind.u8 0), (Value.int IntKind.u8 0), (Value.int IntKind.u8 0), (Value.int IntKind.u8 0), (Value.int IntKind.u8 0), (Value.int IntKind.u8 0), (Value.int IntKind.u8 0), (Value.int IntKind.u8 0), (Value.int IntKind.u8 0), (Value.int IntKind.u8 0), (Value.int IntKind.u8 0), (Value.int IntKind.u8 0), (Value.int IntKind.u8 0), (Value.int IntKind.u8 0), (Value.int IntKind.u8 0), (Value.int IntKind.u8 0), (Value.int IntKind.u8 0), (Value.int IntKind.u8 0), (Value.int IntKind.u8 0), (Value.int IntKind.u8 0), (Value.int IntKind.u8 0), (Value.int IntKind.u8 0), (Value.int IntKind.u8 0), (Value.int IntKind.u8 0), (Value.int IntKind.u8 0), (Value.int IntKind.u8 0), (Value.int IntKind.u8 0), (Value.int IntKind.u8 0), (Value.int IntKind.u8 0), (Value.int IntKind.u8 0), (Value.int IntKind.u8 0), (Value.int IntKind.u8 0), (Value.int IntKind.u8 0), (Value.int IntKind.u8 0), (Value.int IntKind.u8 0), (Value.int IntKind.u8 0), (Value.int IntKind.u8 0), (Value.int IntKind.u8 0), (Value.int IntKind.u8 0), (Value.int IntKind.u8 0), (Value.int IntKind.u8 0), (Value.int IntKind.u8 0), (Value.int IntKind.u8 0), (Value.int IntKind.u8 0), (Value.int IntKind.u8 0), (Value.int IntKind.u8 0), (Value.int IntKind.u8 0), (Value.int IntKind.u8 0), (Value.int IntKind.u8 0), (Value.int IntKind.u8 0), (Value.int IntKind.u8 0), (Value.int IntKind.u8 0), (Value.int IntKind.u8 0), (Value.int IntKind.u8 0), (Value.int IntKind.u8 0), (Value.int IntKind.u8 0), (Value.int IntKind.u8 0), (Value.int IntKind.u8 0), (Value.int IntKind.u8 0)]))) := by kernel_rfl
theorem tRowx147 : tRow Try.prog 147 = (Option.some (65, (72, #[(Value.int IntKind.i64 0), (Value.int IntKind.u8 0), (Value.int IntKind.u8 0), (Value.int IntKind.u8 0), (Value.int IntKind.u8 0), (Value.int IntKind.u8 0), (Value.int IntKind.u8 0), (Value.int IntKind.u8 0), (Value.int IntKind.u8 0), (Value.int IntKind.u8 0), (Value.int IntKind.u8 0), (Value.int IntKind.u8 0), (Value.int IntKind.u8 0), (Value.int IntKind.u8 0), (Value.int IntKind.u8 0), (Value.int IntKind.u8 0), (Value.int IntKind.u8 0), (Value.int IntKind.u8 0), (Value.int IntKind.u8 0), (Value.int IntKind.u8 0), (Value.int IntKind.u8 0), (Value.int IntKind.u8 0), (Value.int IntKind.u8 0), (Value.int IntKind.u8 0), (Value.int IntKind.u8 0), (Value.int IntKind.u8 0), (Value.int IntKind.u8 0), (Value.int IntKind.u8 0), (Value.int IntKind.u8 0), (Value.int IntKind.u8 0), (Value.int IntKind.u8 0), (Value.int IntKind.u8 0), (Value.int IntKind.u8 0), (Value.int IntKind.u8 0), (Value.int IntKind.u8 0), (Value.int IntKind.u8 0), (Value.int IntKind.u8 0), (Value.int IntKind.u8 0), (Value.int IntKind.u8 0), (Value.int IntKind.u8 0), (Value.int IntKind.u8 0), (Value.int IntKind.u8 0), (Value.int IntKind.u8 0), (Value.int IntKind.u8 0), (Value.int IntKind.u8 0), (Value.int IntKind.u8 0), (Value.int IntKind.u8 0), (Value.int IntKind.u8 0), (Value.int IntKind.u8 0), (Value.int IntKind.u8 0), (Value.int IntKind.u8 0), (Value.int IntKind.u8 0), (Value.int IntKind.u8 0), (Value.int IntKind.u8 0), (Value.int IntKind.u8 0), (Value.int IntKind.u8 0), (Value.int IntKind.u8 0), (Value.int IntKind.u8 0), (Value.int IntKind.u8 0), (Value.int IntKind.u8 0), (Value.int IntKind.u8 0), (Value.int IntKind.u8 0), (Value.int IntKind.u8 0), (Value.int IntKind.u8 0), (Value.int IntKind.u8 0)]))) := by kernel_rfl
theorem tRowx178 : tRow Try.prog 178 = (Option.some (1, (24, #[(Value.slice Option.none 0 0)]))) := by kernel_rfl
theorem tSizex3 : tSize Try.prog 3 = (Option.some 1) := by kernel_rfl
theorem tSizex4 : tSize Try.prog 4 = (Option.some 1) := by kernel_rfl
theorem tSizex5 : tSize Try.prog 5 = (Option.some 1) := by kernel_rfl
theorem tSizex22 : tSize Try.prog 22 = (Option.some 1) := by kernel_rfl
theorem tSizex24 : tSize Try.prog 24 = (Option.some 2) := by kernel_rfl
theorem tSizex25 : tSize Try.prog 25 = (Option.some 1) := by kernel_rfl
theorem tSizex27 : tSize Try.prog 27 = (Option.some 1) := by kernel_rfl
theorem tSizex30 : tSize Try.prog 30 = (Option.some 2) := by kernel_rfl
theorem tSizex33 : tSize Try.prog 33 = (Option.some 9) := by kernel_rfl
theorem tSizex34 : tSize Try.prog 34 = (Option.some 1) := by kernel_rfl
theorem tSizex36 : tSize Try.prog 36 = (Option.some 11) := by kernel_rfl
theorem tSizex43 : tSize Try.prog 43 = (Option.some 1) := by kernel_rfl
theorem tSizex45 : tSize Try.prog 45 = (Option.some 1) := by kernel_rfl
theorem tSizex47 : tSize Try.prog 47 = (Option.some 23) := by kernel_rfl
theorem tSizex66 : tSize Try.prog 66 = (Option.some 25) := by kernel_rfl
theorem tSizex72 : tSize Try.prog 72 = (Option.some 4) := by kernel_rfl
theorem tSizex85 : tSize Try.prog 85 = (Option.some 4) := by kernel_rfl
theorem tSizex94 : tSize Try.prog 94 = (Option.some 5) := by kernel_rfl
theorem tSizex95 : tSize Try.prog 95 = (Option.some 1) := by kernel_rfl
theorem tSizex98 : tSize Try.prog 98 = (Option.some 64) := by kernel_rfl
theorem tSizex110 : tSize Try.prog 110 = (Option.some 1) := by kernel_rfl
theorem tSizex111 : tSize Try.prog 111 = (Option.some 1) := by kernel_rfl
theorem tSizex113 : tSize Try.prog 113 = (Option.some 6) := by kernel_rfl
theorem tSizex135 : tSize Try.prog 135 = (Option.some 11) := by kernel_rfl
theorem tSizex146 : tSize Try.prog 146 = (Option.some 1) := by kernel_rfl
theorem tSizex147 : tSize Try.prog 147 = (Option.some 1) := by kernel_rfl
theorem tSizex149 : tSize Try.prog 149 = (Option.some 6) := by kernel_rfl
theorem tSizex154 : tSize Try.prog 154 = (Option.some 65) := by kernel_rfl
theorem tSizex167 : tSize Try.prog 167 = (Option.some 65) := by kernel_rfl
theorem tSizex180 : tSize Try.prog 180 = (Option.some 1) := by kernel_rfl
theorem tSlix25 : tSli Try.prog 25 = Bool.true := by kernel_rfl
theorem tSlix34 : tSli Try.prog 34 = Bool.true := by kernel_rfl
theorem tSlix43 : tSli Try.prog 43 = Bool.true := by kernel_rfl
theorem tSlix92 : tSli Try.prog 92 = Bool.true := by kernel_rfl
theorem tSlix147 : tSli Try.prog 147 = Bool.true := by kernel_rfl
theorem tZerox3 : tZero Try.prog 3 = (Option.some #[(Value.int IntKind.i64 0)]) := by kernel_rfl
theorem tZerox22 : tZero Try.prog 22 = (Option.some #[(Value.int IntKind.u64 0)]) := by kernel_rfl
theorem tZerox24 : tZero Try.prog 24 = (Option.some #[(Value.int IntKind.u64 0), (Value.int IntKind.u64 0)]) := by kernel_rfl
theorem tZerox27 : tZero Try.prog 27 = (Option.some #[(Value.slice Option.none 0 0)]) := by kernel_rfl
theorem tZerox30 : tZero Try.prog 30 = (Option.some #[(Value.int IntKind.u32 0), (Value.int IntKind.u64 0)]) := by kernel_rfl
theorem tZerox33 : tZero Try.prog 33 = (Option.some #[(Value.int IntKind.u64 0), (Value.int IntKind.u64 0), (Value.slice Option.none 0 0), (Value.int IntKind.u32 0), (Value.int IntKind.u64 0), (Value.int IntKind.u32 0), (Value.int IntKind.u64 0), (Value.int IntKind.u32 0), (Value.int IntKind.u64 0)]) := by kernel_rfl
theorem tZerox36 : tZero Try.prog 36 = (Option.some #[(Value.int IntKind.u64 0), (Value.int IntKind.u64 0), (Value.int IntKind.u64 0), (Value.slice Option.none 0 0), (Value.int IntKind.u32 0), (Value.int IntKind.u64 0), (Value.int IntKind.u32 0), (Value.int IntKind.u64 0), (Value.int IntKind.u32 0), (Value.int IntKind.u64 0), (Value.slice Option.none 0 0)]) := by kernel_rfl
theorem tZerox45 : tZero Try.prog 45 = (Option.some #[(Value.slice Option.none 0 0)]) := by kernel_rfl
theorem tZerox47 : tZero Try.prog 47 = (Option.some #[(Value.int IntKind.i64 0), (Value.int IntKind.i64 0), (Value.int IntKind.i64 0), (Value.int IntKind.u64 0), (Value.int IntKind.u64 0), (Value.int IntKind.u64 0), (Value.slice Option.none 0 0), (Value.int IntKind.u64 0), (Value.bool Bool.false), (Value.int IntKind.u64 0), (Value.int IntKind.u64 0), (Value.int IntKind.u64 0), (Value.int IntKind.u64 0), (Value.slice Option.none 0 0), (Value.int IntKind.u32 0), (Value.int IntKind.u64 0), (Value.int IntKind.u32 0), (Value.int IntKind.u64 0), (Value.int IntKind.u32 0), (Value.int IntKind.u64 0), (Value.int IntKind.u32 0), (Value.slice Option.none 0 0), (Value.int IntKind.i64 0)]) := by kernel_rfl
theorem tZerox66 : tZero Try.prog 66 = (Option.some #[(Value.int IntKind.u64 0), (Value.int IntKind.u64 0), (Value.int IntKind.i64 0), (Value.int IntKind.i64 0), (Value.int IntKind.i64 0), (Value.int IntKind.u64 0), (Value.int IntKind.u64 0), (Value.int IntKind.u64 0), (Value.slice Option.none 0 0), (Value.int IntKind.u64 0), (Value.bool Bool.false), (Value.int IntKind.u64 0), (Value.int IntKind.u64 0), (Value.int IntKind.u64 0), (Value.int IntKind.u64 0), (Value.slice Option.none 0 0), (Value.int IntKind.u32 0), (Value.int IntKind.u64 0), (Value.int IntKind.u32 0), (Value.int IntKind.u64 0), (Value.int IntKind.u32 0), (Value.int IntKind.u64 0), (Value.int IntKind.u32 0), (Value.slice Option.none 0 0), (Value.int IntKind.i64 0)]) := by kernel_rfl
theorem tZerox72 : tZero Try.prog 72 = (Option.some #[(Value.bool Bool.false), (Value.int IntKind.u64 0), (Value.slice Option.none 0 0), (Value.int IntKind.u64 0)]) := by kernel_rfl
theorem tZerox85 : tZero Try.prog 85 = (Option.some #[(Value.int IntKind.u64 0), (Value.int IntKind.i64 0), (Value.int IntKind.u32 0), (Value.slice Option.none 0 0)]) := by kernel_rfl
theorem tZerox94 : tZero Try.prog 94 = (Option.some #[(Value.int IntKind.i64 0), (Value.int IntKind.i64 0), (Value.int IntKind.i64 0), (Value.int IntKind.u8 0), (Value.slice Option.none 0 0)]) := by kernel_rfl
theorem tZerox95 : tZero Try.prog 95 = (Option.some #[(Value.slice Option.none 0 0)]) := by kernel_rfl
theorem tZerox98 : tZero Try.prog 98 = (Option.some #[(Value.int IntKind.u8 0), (Value.int IntKind.u8 0), (Value.int IntKind.u8 0), (Value.int IntKind.u8 0), (Value.int IntKind.u8 0), (Value.int IntKind.u8 0), (Value.int IntKind.u8 0), (Value.int IntKind.u8 0), (Value.int IntKind.u8 0), (Value.int IntKind.u8 0), (Value.int IntKind.u8 0), (Value.int IntKind.u8 0), (Value.int IntKind.u8 0), (Value.int IntKind.u8 0), (Value.int IntKind.u8 0), (Value.int IntKind.u8 0), (Value.int IntKind.u8 0), (Value.int IntKind.u8 0), (Value.int IntKind.u8 0), (Value.int IntKind.u8 0), (Value.int IntKind.u8 0), (Value.int IntKind.u8 0), (Value.int IntKind.u8 0), (Value.int IntKind.u8 0), (Value.int IntKind.u8 0), (Value.int IntKind.u8 0), (Value.int IntKind.u8 0), (Value.int IntKind.u8 0), (Value.int IntKind.u8 0), (Value.int IntKind.u8 0), (Value.int IntKind.u8 0), (Value.int IntKind.u8 0), (Value.int IntKind.u8 0), (Value.int IntKind.u8 0), (Value.int IntKind.u8 0), (Value.int IntKind.u8 0), (Value.int IntKind.u8 0), (Value.int IntKind.u8 0), (Value.int IntKind.u8 0), (Value.int IntKind.u8 0), (Value.int IntKind.u8 0), (Value.int IntKind.u8 0), (Value.int IntKind.u8 0), (Value.int IntKind.u8 0), (Value.int IntKind.u8 0), (Value.int IntKind.u8 0), (Value.int IntKind.u8 0), (Value.int IntKind.u8 0), (Value.int IntKind.u8 0), (Value.int IntKind.u8 0), (Value.int IntKind.u8 0), (Value.int IntKind.u8 0), (Value.int IntKind.u8 0), (Value.int IntKind.u8 0), (Value.int IntKind.u8 0), (Value.int IntKind.u8 0), (Value.int IntKind.u8 0), (Value.int IntKind.u8 0), (Value.int IntKind.u8 0), (Value.int IntKind.u8 0), (Value.int IntKind.u8 0), (Value.int IntKind.u8 0), (Value.int IntKind.u8 0), (Value.int IntKind.u8 0)]) := by kernel_rfl
theorem tZerox113 : tZero Try.prog 113 = (Option.some #[(Value.slice Option.none 0 0), (Value.slice Option.none 0 0), (Value.int IntKind.i64 0), (Value.int IntKind.i64 0), (Value.bool Bool.false), (Value.int IntKind.i64 0)]) := by kernel_rfl
theorem tZerox135 : tZero Try.prog 135 = (Option.some #[(Value.int IntKind.u64 0), (Value.int IntKind.u64 0), (Value.int IntKind.u64 0), (Value.slice Option.none 0 0), (Value.int IntKind.u32 0), (Value.int IntKind.u64 0), (Value.int IntKind.u32 0), (Value.int IntKind.u64 0), (Value.int IntKind.u32 0), (Value.int IntKind.u64 0), (Value.slice Option.none 0 0)]) := by kernel_rfl
theorem tZerox149 : tZero Try.prog 149 = (Option.some #[(Value.slice Option.none 0 0), (Value.slice Option.none 0 0), (Value.int IntKind.i64 0), (Value.int IntKind.i64 0), (Value.bool Bool.false), (Value.int IntKind.i64 0)]) := by kernel_rfl
theorem tZerox154 : tZero Try.prog 154 = (Option.some #[(Value.int IntKind.i64 0), (Value.int IntKind.u8 0), (Value.int IntKind.u8 0), (Value.int IntKind.u8 0), (Value.int IntKind.u8 0), (Value.int IntKind.u8 0), (Value.int IntKind.u8 0), (Value.int IntKind.u8 0), (Value.int IntKind.u8 0), (Value.int IntKind.u8 0), (Value.int IntKind.u8 0), (Value.int IntKind.u8 0), (Value.int IntKind.u8 0), (Value.int IntKind.u8 0), (Value.int IntKind.u8 0), (Value.int IntKind.u8 0), (Value.int IntKind.u8 0), (Value.int IntKind.u8 0), (Value.int IntKind.u8 0), (Value.int IntKind.u8 0), (Value.int IntKind.u8 0), (Value.int IntKind.u8 0), (Value.int IntKind.u8 0), (Value.int IntKind.u8 0), (Value.int IntKind.u8 0), (Value.int IntKind.u8 0), (Value.int IntKind.u8 0), (Value.int IntKind.u8 0), (Value.int IntKind.u8 0), (Value.int IntKind.u8 0), (Value.int IntKind.u8 0), (Value.int IntKind.u8 0), (Value.int IntKind.u8 0), (Value.int IntKind.u8 0), (Value.int IntKind.u8 0), (Value.int IntKind.u8 0), (Value.int IntKind.u8 0), (Value.int IntKind.u8 0), (Value.int IntKind.u8 0), (Value.int IntKind.u8 0), (Value.int IntKind.u8 0), (Value.int IntKind.u8 0), (Value.int IntKind.u8 0), (Value.int IntKind.u8 0), (Value.int IntKind.u8 0), (Value.int IntKind.u8 0), (Value.int IntKind.u8 0), (Value.int IntKind.u8 0), (Value.int IntKind.u8 0), (Value.int IntKind.u8 0), (Value.int IntKind.u8 0), (Value.int IntKind.u8 0), (Value.int IntKind.u8 0), (Value.int IntKind.u8 0), (Value.int IntKind.u8 0), (Value.int IntKind.u8 0), (Value.int IntKind.u8 0), (Value.int IntKind.u8 0), (Value.int IntKind.u8 0), (Value.int IntKind.u8 0), (Value.int IntKind.u8 0), (Value.int IntKind.u8 0), (Value.int IntKind.u8 0), (Value.int IntKind.u8 0), (Value.int IntKind.u8 0)]) := by kernel_rfl
theorem tZerox167 : tZero Try.prog 167 = (Option.some #[(Value.int IntKind.i64 0), (Value.int IntKind.u8 0), (Value.int IntKind.u8 0), (Value.int IntKind.u8 0), (Value.int IntKind.u8 0), (Value.int IntKind.u8 0), (Value.int IntKind.u8 0), (Value.int IntKind.u8 0), (Value.int IntKind.u8 0), (Value.int IntKind.u8 0), (Value.int IntKind.u8 0), (Value.int IntKind.u8 0), (Value.int IntKind.u8 0), (Value.int IntKind.u8 0), (Value.int IntKind.u8 0), (Value.int IntKind.u8 0), (Value.int IntKind.u8 0), (Value.int IntKind.u8 0), (Value.int IntKind.u8 0), (Value.int IntKind.u8 0), (Value.int IntKind.u8 0), (Value.int IntKind.u8 0), (Value.int IntKind.u8 0), (Value.int IntKind.u8 0), (Value.int IntKind.u8 0), (Value.int IntKind.u8 0), (Value.int IntKind.u8 0), (Value.int IntKind.u8 0), (Value.int IntKind.u8 0), (Value.int IntKind.u8 0), (Value.int IntKind.u8 0), (Value.int IntKind.u8 0), (Value.int IntKind.u8 0), (Value.int IntKind.u8 0), (Value.int IntKind.u8 0), (Value.int IntKind.u8 0), (Value.int IntKind.u8 0), (Value.int IntKind.u8 0), (Value.int IntKind.u8 0), (Value.int IntKind.u8 0), (Value.int IntKind.u8 0), (Value.int IntKind.u8 0), (Value.int IntKind.u8 0), (Value.int IntKind.u8 0), (Value.int IntKind.u8 0), (Value.int IntKind.u8 0), (Value.int IntKind.u8 0), (Value.int IntKind.u8 0), (Value.int IntKind.u8 0), (Value.int IntKind.u8 0), (Value.int IntKind.u8 0), (Value.int IntKind.u8 0), (Value.int IntKind.u8 0), (Value.int IntKind.u8 0), (Value.int IntKind.u8 0), (Value.int IntKind.u8 0), (Value.int IntKind.u8 0), (Value.int IntKind.u8 0), (Value.int IntKind.u8 0), (Value.int IntKind.u8 0), (Value.int IntKind.u8 0), (Value.int IntKind.u8 0), (Value.int IntKind.u8 0), (Value.int IntKind.u8 0), (Value.int IntKind.u8 0)]) := by kernel_rfl
theorem tZerox180 : tZero Try.prog 180 = (Option.some #[Value.nilFunc]) := by kernel_rfl
end Go.Abs.B1
