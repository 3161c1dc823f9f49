/- A sweep's first line is true. -/
import Derived.Test.YtjimckjdkgbojaaGreatDoorDt1
import Derived.Test.YtjimckjdkgbojaaGreatDoorSk2
namespace Go.Abs.D1
open Go.Proofs
set_option maxRecDepth 100000
set_option linter.all false
noncomputable def TW : List (FuncId × (Array Value → Hp → Option (Value × Hp))) := [(112, fun args h => (F112 args h).map fun v => (v, h)), (178, fun args h => (F178 args h).map fun v => (v, h)), (28, G28)]
noncomputable abbrev IW : Intr := fun f => TW.lookup f
theorem okW : IntrOk Tryz.prog (CKb Tryz.prog) IW := Con.table fun x hx => by
  simp only [TW, List.mem_cons, List.not_mem_nil, or_false] at hx
  rcases hx with rfl | rfl | rfl
  · exact con112
  · exact con178
  · exact con28
theorem con23 : Con Tryz.prog (CKb Tryz.prog) 23 (gS hL #[] (.bool true)) := Con.closedS base okW plainL 3000 (by simp) (by kernel_rfl) (by kernel_rfl)
end Go.Abs.D1
