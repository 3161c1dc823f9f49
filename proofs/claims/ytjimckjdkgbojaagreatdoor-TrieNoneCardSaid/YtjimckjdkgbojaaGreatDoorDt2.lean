/- A trie's first line is true. -/
import Derived.Test.YtjimckjdkgbojaaGreatDoorDt1
namespace Go.Abs.D1
open Go.Proofs
set_option maxRecDepth 100000
set_option linter.all false
theorem con14 : Con Tryz.prog (CKb Tryz.prog) 14 (gS hL #[] (.bool true)) := Con.closedS base okK plainL 3000 (by simp) (by kernel_rfl) (by kernel_rfl)
end Go.Abs.D1
