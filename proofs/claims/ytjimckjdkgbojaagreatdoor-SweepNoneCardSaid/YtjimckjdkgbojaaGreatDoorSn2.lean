/- A new arena of so many words. -/
import Derived.Test.YtjimckjdkgbojaaGreatDoorSn1
import Derived.Test.YtjimckjdkgbojaaGreatDoorAbsF
namespace Go.Abs.D1
open Go.Proofs
set_option maxRecDepth 10000
set_option maxHeartbeats 4000000
set_option linter.all false
def z32 : Value := .int .u32 0
/-- The words of a new arena. -/
def newW (m : Nat) : Array Value := (.int .u32 ((m + 16 : Nat) : Int) :: z32 :: z32 :: z32 :: z32 :: z32 :: z32 :: z32 :: z32 :: z32 :: z32 :: z32 :: z32 :: z32 :: z32 :: .int .u32 16 :: List.replicate m z32).toArray
theorem zeros_new (m : Nat) : ((Builtin.zeroCells #[.int .u32 0] (m + 16)).setIfInBounds 0 (.int .u32 ((m + 16 : Nat) : Int))).setIfInBounds 15 (.int .u32 16) = newW m := by
  apply Array.ext'
  rw [Array.toList_setIfInBounds, Array.toList_setIfInBounds, zeroCells_toList, newW]
  have : (List.replicate (m + 16) (#[Value.int .u32 0] : Array Value).toList).flatten = z32 :: z32 :: z32 :: z32 :: z32 :: z32 :: z32 :: z32 :: z32 :: z32 :: z32 :: z32 :: z32 :: z32 :: z32 :: z32 :: List.replicate m z32 := by
    have h1 : ∀ k, (List.replicate k (#[Value.int .u32 0] : Array Value).toList).flatten = List.replicate k z32 := by
      intro k
      induction k with
      | zero => rfl
      | succ k ih => rw [List.replicate_succ, List.flatten_cons, ih, List.replicate_succ]; rfl
    rw [h1]
    simp only [List.replicate_succ]
  rw [this]
  rfl
theorem run15 {I : Intr} (h1 : I 15 = none) {N : Nat} {h : Hp} (m : Nat) (hm : 48 ≤ m) (hm2 : m ≤ 16368) (hro : h.ro ≤ h.size) :
    evalV Tryz.prog I (N + 1) (.fn 15) #[.int .i64 ((m + 16 : Nat) : Int)] h = some (.tuple #[.pointer (some ⟨h.size + 1, 0, none⟩), .int .i64 0], (((h.push (some (.cells (Builtin.zeroCells #[.int .u32 0] (m + 16)) true))).push (some (.cells #[.slice (some ⟨h.size, 0, none⟩) (m + 16) (m + 16)] true))).setB h.size (some (.cells ((Builtin.zeroCells #[.int .u32 0] (m + 16)).setIfInBounds 0 (.int .u32 ((m + 16 : Nat) : Int))) true))).setB h.size (some (.cells (newW m) true))) := by
  have q1 : ¬ ((m + 16 : Nat) : Int) < 64 := by omega
  have q2 : ¬ (16384 : Int) < ((m + 16 : Nat) : Int) := by omega
  have mk : ∀ h : Hp, aMakeSlice Tryz.prog 22 (.int .i64 ((m + 16 : Nat) : Int)) (.int .i64 ((m + 16 : Nat) : Int)) h = some (.slice (some ⟨h.size, 0, none⟩) (m + 16) (m + 16), h.push (some (.cells (Builtin.zeroCells #[.int .u32 0] (m + 16)) true))) := fun h => makeSlice_val tRowx22 rfl (by omega) (by omega)
  have wu : IntKind.u32.wrap ((m + 16 : Nat) : Int) = ((m + 16 : Nat) : Int) := u32_in (by omega) (by omega)
  have b0 : (0 : Int) < ((m + 16 : Nat) : Int) := by omega
  have b15 : (15 : Int) < ((m + 16 : Nat) : Int) := by omega
  rw [evalV_call (P := Tryz.prog) (intr := I) (f := 15) (m := 28) (rs := #[.tmp 2, .tmp 3]) h1 Tryz.func15 rfl rfl rfl]
  simp (maxDischargeDepth := 16) only [z04, z08, z09, z0a, z0c, z0d, z0e, z0p, z0q, z0r, z0s, z0t, z0v, z0w, z0z, z10, z11, z12, z13, z1b, z1h, z1j, z1y, z2d, z2f, z2o, z2q, z3b, z3v, z3w, z46, z49, z4a, z4e, z4f, z4g, z4h, z4i, z4j, z4k, z4l, z4m, z4n, z4o, z4p, z4q, z4r, z4s, z4t, z4u, z4w, z4x, z4y, z4z, z50, z51, z52, z53, z59, z5b, z5e, z72, z7n, z7t, z80, z81, z82, z83, Nat.reduceSub, ↓reduceIte, yielded, tBuildFx99x0, tBuildOkx99, tZerox99, q1, q2, mk]
  rw [evalDraw_modes _ _ [(0, 0, 1), (0, 1, 3), (0, 3, 7), (2, 7, 15), (0, 0, 16), (0, 16, 48), (0, 48, 112), (2, 112, 240), (0, 0, 256), (0, 256, 768), (0, 1023, 2047), (4, 2047, 4095), (0, 4095, 8191), (4, 8191, 16383)] (by kernel_rfl)]
  have zs : (Builtin.zeroCells #[Value.int .u32 0] (m + 16)).size = m + 16 := by rw [zeroCells_size]; simp
  have g1 : (1 ≤ m + 16) = True := eq_true (by omega)
  have g2 : (15 + 1 ≤ m + 16) = True := eq_true (by omega)
  have g3 : (16 ≤ m + 16) = True := eq_true (by omega)
  have hrr : (h.ro ≤ h.size) = True := eq_true hro
  simp (maxDischargeDepth := 16) only [z05, z08, z09, z0d, z0e, z0o, z0p, z0q, z0s, z0t, z0u, z0v, z0w, z0z, z10, z11, z15, z16, z18, z1c, z1e, z1f, z1v, z1w, z1x, z1z, z21, z2m, z2u, z2w, z2x, z2y, z33, z34, z38, z39, z3a, z3b, z3d, z3f, z3p, z3v, z3w, z44, z45, z46, z49, z4a, z4b, z4c, z4d, z4e, z4f, z4g, z4h, z4i, z4m, z4n, z4p, z4q, z4r, z4z, z50, z51, z52, z53, z54, z5a, z5f, z5j, z5k, z5l, z5t, z5u, z5x, z62, z66, z6a, z6b, z6h, z6p, z6t, z6v, z6x, z70, z71, z72, z79, z7c, z7d, z7n, z7z, z8d, Nat.reduceAdd, ↓reduceIte, Nat.reduceLT, Int.reduceLT, Int.reduceLE, Int.reduceToNat, keepR, Hp.cell, Hp.wr, tElemx22, tFieldAx99x0, tIntx3x85, tPartx22, tSizex85, b0, b15, wu, zs, g1, g2, hrr, Array.size_setIfInBounds, Int.reduceToNat, Nat.mul_one, zeros_new]
end Go.Abs.D1
