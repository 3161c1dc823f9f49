/- A fib's first line is true. -/
import Derived.Test.YtjimckjdkgbojaaGreatDoorFs1
import Derived.Test.YtjimckjdkgbojaaGreatDoorFs2
import Derived.Test.YtjimckjdkgbojaaGreatDoorFs3
import Derived.Test.YtjimckjdkgbojaaGreatDoorFs4
import Derived.Test.YtjimckjdkgbojaaGreatDoorFs5
import Derived.Test.YtjimckjdkgbojaaGreatDoorFs6
import Derived.Test.YtjimckjdkgbojaaGreatDoorFs7
namespace Go.Abs.D1
open Go.Proofs
set_option maxRecDepth 100000
set_option maxHeartbeats 4000000
set_option linter.all false
theorem run29 : (evalV Tryz.prog IF 3000 (.fn 29) #[] hL).map Prod.fst = some (.bool true) := by
  rw [show (3000 : Nat) = 2999 + 1 from rfl]
  rw [evalV_call (P := Tryz.prog) (intr := IF) (f := 29) (m := 107) (rs := #[.tmp 0]) rfl Tryz.func29 rfl rfl rfl]
  have z14 : hk14.size = 760 := by kernel_rfl
  have n14 : 759 < hk14.size := by omega
  have g : ∃ cs o, hk14.get 759 = some (.cells cs o) ∧ cs[18]? = some (.int .i64 3) := by
    have h : ((hk14.get 759).bind fun b => match b with
      | .cells cs _ => cs[18]?
      | _ => none) = some (.int .i64 3) := by kernel_rfl
    cases hg : hk14.get 759 with
    | none => rw [hg] at h; cases h
    | some b =>
      rw [hg] at h
      cases b with
      | cells cs o => exact ⟨cs, o, rfl, h⟩
      | _ => cases h
  obtain ⟨cs, o, g1, g2⟩ := g
  simp (maxDischargeDepth := 16) only [z04, z08, z09, z0a, z0c, z0d, z0e, z0p, z0q, z0r, z0s, z0t, z0v, z0w, z0x, z0z, z10, z11, z12, z13, z16, z18, z1a, z1e, z1l, z1p, z1r, z1v, z1y, z1z, z2b, z2c, z2t, z2u, z2w, z2x, z3b, z3h, z4e, z4f, z4g, z4h, z4i, z4j, z4k, z4l, z4m, z4n, z4o, z4p, z4r, z4s, z4u, z4v, z4w, z4x, z4y, z50, z51, z52, z53, z54, z59, z5a, z5c, z5e, z7i, z7m, z7n, z7o, z7p, Nat.reduceSub, Nat.reduceMul, ↓reduceIte, Nat.reduceLT, Int.reduceLT, Int.reduceLE, Int.reduceToNat, yielded, Hp.cell, hasBx15, hasBx30, hasBx31, hasBx32, hasBx33, hasBx34, hasBx35, hasBx38, hasBx39, hasBx77, tElemx44, tFieldAx37x1, tLenx44, tPartx3, tPtrx40, tPtrx69, sk1, sk2, sk3, sk4, sk5, sk6, sk7, sk8, sk9, sk10, sk11, sk12, sk13, sk14, sk15, g1, g2, ne_f n14, ne_f0 n14, lt_t n14, lt_t0 n14]
  rw [op_un]
  simp (maxDischargeDepth := 16) only [z05, z0d, z0e, z0o, z0p, z0q, z0r, z0s, z0t, z0v, z0w, z0x, z0z, z10, z11, z12, z13, z1l, z1p, z1r, z1y, z2b, z2h, z3b, z3c, z3f, z3h, z4e, z4f, z4g, z4h, z4i, z4j, z4k, z4l, z4m, z4n, z4o, z4s, z4u, z4v, z4z, z52, z5a, z5d, z5e, z7o, ↓reduceIte, yielded, hasBx36, tLenx47, sk16]
theorem con29 : Con Tryz.prog (CKb Tryz.prog) 29 (gS hL #[] (.bool true)) := Con.closedS base okF plainL 3000 (by simp) (by kernel_rfl) (by rw [evalVK_eq]; exact run29)
end Go.Abs.D1
