/- How the arguments lie: printed by rps.py. -/
import Derived.Test.YtjimckjdkgbojaaGreatDoorDn0t
import Derived.Test.YtjimckjdkgbojaaGreatDoorAbsF
namespace Go.Abs.D1
open Go.Proofs
set_option linter.all false
abbrev T37 := List Value
abbrev K37 : List Sc := [.int .i64, .int .u8, .int .u8, .int .u8, .int .u8, .int .u8, .int .u8, .int .u8, .int .u8, .int .u8, .int .u8, .int .u8, .int .u8, .int .u8, .int .u8, .int .u8, .int .u8, .int .i64, .int .i64]
def R37 : Rp T37 := Rp.flat K37
abbrev T39 := List Value
abbrev K39 : List Sc := [.int .i64, .int .u8, .int .u8, .int .u8, .int .u8, .int .u8, .int .u8, .int .u8, .int .u8, .int .u8, .int .u8, .int .u8, .int .u8, .int .u8, .int .u8, .int .u8, .int .u8, .int .i64, .int .i64, .int .i64, .int .i64, .bool, .bool]
def R39 : Rp T39 := Rp.flat K39
theorem lies37_12 : LiesRp Tryz.prog 12 37 R37 := liesRp_flat (k := K37) (by kernel_rfl) (by decide)
theorem lies39_12 : LiesRp Tryz.prog 12 39 R39 := liesRp_flat (k := K39) (by kernel_rfl) (by decide)
end Go.Abs.D1
