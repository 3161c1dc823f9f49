/- The program of the seat: what is asked of it. -/
import Derived.Test.YtjimckjdkgbojaaGreatDoorProg
import Derived.KernelRfl
import Derived.Test.YtjimckjdkgbojaaGreatDoorAbsF
namespace Go.Abs.D1
open Go.Proofs
set_option maxRecDepth 100000
set_option linter.all false
theorem b0 : typesOk Tryz.prog = true := by kernel_rfl
theorem b1 : Tryz.prog.follows .mixedOrders = true := by kernel_rfl
theorem g0 : okFns Tryz.prog 0 20 = true := by kernel_rfl
theorem g20 : okFns Tryz.prog 20 20 = true := by kernel_rfl
theorem g40 : okFns Tryz.prog 40 20 = true := by kernel_rfl
theorem g60 : okFns Tryz.prog 60 20 = true := by kernel_rfl
theorem g80 : okFns Tryz.prog 80 20 = true := by kernel_rfl
theorem g100 : okFns Tryz.prog 100 20 = true := by kernel_rfl
theorem g120 : okFns Tryz.prog 120 20 = true := by kernel_rfl
theorem g140 : okFns Tryz.prog 140 20 = true := by kernel_rfl
theorem g160 : okFns Tryz.prog 160 20 = true := by kernel_rfl
theorem g180 : okFns Tryz.prog 180 20 = true := by kernel_rfl
theorem g200 : okFns Tryz.prog 200 20 = true := by kernel_rfl
theorem g220 : okFns Tryz.prog 220 20 = true := by kernel_rfl
theorem g240 : okFns Tryz.prog 240 20 = true := by kernel_rfl
theorem g260 : okFns Tryz.prog 260 20 = true := by kernel_rfl
theorem base : Base Tryz.prog := base_parts b0 b1 fun i hi => by
  have hs : Tryz.prog.funcs.size ≤ 280 := of_decide_eq_true (by kernel_rfl)
  have hi := Nat.lt_of_lt_of_le hi hs
  by_cases h0 : i < 20
  · exact okFns_at g0 i (by omega) (by omega)
  by_cases h20 : i < 40
  · exact okFns_at g20 i (by omega) (by omega)
  by_cases h40 : i < 60
  · exact okFns_at g40 i (by omega) (by omega)
  by_cases h60 : i < 80
  · exact okFns_at g60 i (by omega) (by omega)
  by_cases h80 : i < 100
  · exact okFns_at g80 i (by omega) (by omega)
  by_cases h100 : i < 120
  · exact okFns_at g100 i (by omega) (by omega)
  by_cases h120 : i < 140
  · exact okFns_at g120 i (by omega) (by omega)
  by_cases h140 : i < 160
  · exact okFns_at g140 i (by omega) (by omega)
  by_cases h160 : i < 180
  · exact okFns_at g160 i (by omega) (by omega)
  by_cases h180 : i < 200
  · exact okFns_at g180 i (by omega) (by omega)
  by_cases h200 : i < 220
  · exact okFns_at g200 i (by omega) (by omega)
  by_cases h220 : i < 240
  · exact okFns_at g220 i (by omega) (by omega)
  by_cases h240 : i < 260
  · exact okFns_at g240 i (by omega) (by omega)
  by_cases h260 : i < 280
  · exact okFns_at g260 i (by omega) (by omega)
  omega
abbrev I0 : Intr := fun _ => none
theorem ok0 : IntrOk Tryz.prog (CKb Tryz.prog) I0 := fun f g hg => by cases hg
theorem own : ownKnob Tryz.prog.godebug = none := by kernel_rfl
theorem laid : laidOutB Tryz.prog = true := by kernel_rfl
end Go.Abs.D1
