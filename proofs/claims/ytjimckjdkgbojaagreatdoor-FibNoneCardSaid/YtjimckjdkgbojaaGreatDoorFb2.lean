/- FibNone: what is told without a fib. -/
import Derived.Test.YtjimckjdkgbojaaGreatDoorFb1
import Derived.Test.YtjimckjdkgbojaaGreatDoorDt1
namespace Go.Abs.D1
open Go.Proofs
set_option maxRecDepth 10000
set_option maxHeartbeats 4000000
set_option linter.all false
theorem fnil80 {I : Intr} (h1 : I 80 = none) {N : Nat} {h : Hp} : evalV Tryz.prog I (N + 1) (.fn 80) #[.pointer none] h = some (.int .i64 1, h) := by
  rw [evalV_call (P := Tryz.prog) (intr := I) (f := 80) (m := 12) (rs := #[.tmp 2]) h1 Tryz.func80 rfl rfl rfl]
  simp (maxDischargeDepth := 16) only [z05, z08, z09, z0a, z0b, z0d, z0e, z0f, z0i, z0o, z0p, z0q, z0s, z0t, z0v, z0w, z0z, z10, z11, z13, z3b, z3c, z3f, z4e, z4f, z4g, z4h, z4i, z4p, z4q, z4r, z4s, z4t, z4u, z4w, z4x, z4y, z4z, z53, z7i, z7n, evalC_block, Nat.reduceSub, tPtrx69]
theorem fnil30 {I : Intr} (h1 : I 30 = none) {N : Nat} {h : Hp} : evalV Tryz.prog I (N + 1) (.fn 30) #[.pointer none] h = some (.int .i64 1, h) := by
  rw [evalV_call (P := Tryz.prog) (intr := I) (f := 30) (m := 56) (rs := #[.tmp 2]) h1 Tryz.func30 rfl rfl rfl]
  simp (maxDischargeDepth := 16) only [z05, z08, z09, z0a, z0b, z0d, z0e, z0f, z0i, z0o, z0p, z0q, z0s, z0t, z0v, z0w, z0z, z10, z11, z13, z3b, z3c, z3f, z4e, z4f, z4g, z4h, z4i, z4p, z4q, z4r, z4s, z4t, z4u, z4w, z4x, z4y, z4z, z53, z7i, z7n, evalC_block, Nat.reduceSub, tPtrx69]
theorem fnil35 {I : Intr} (h1 : I 35 = none) {N : Nat} {h : Hp} : evalV Tryz.prog I (N + 1) (.fn 35) #[.pointer none] h = some (.bool false, h) := by
  rw [evalV_call (P := Tryz.prog) (intr := I) (f := 35) (m := 11) (rs := #[.tmp 2]) h1 Tryz.func35 rfl rfl rfl]
  simp (maxDischargeDepth := 16) only [z05, z08, z09, z0d, z0e, z0o, z0p, z0q, z0r, z0s, z0t, z0v, z0w, z0z, z10, z11, z12, z13, z1y, z3b, z3c, z3f, z3l, z4e, z4f, z4g, z4h, z4i, z4m, z4n, z4o, z4p, z4q, z4r, z4s, z4t, z4u, z4w, z4x, z4y, z4z, z52, z53, z59, z5c, z7j, z7n, Nat.reduceSub, ↓reduceIte, yielded, tPtrx69]
theorem fnil36 {I : Intr} (h1 : I 36 = none) {N : Nat} {h : Hp} : evalV Tryz.prog I (N + 1) (.fn 36) #[.pointer none] h = some (.slice none 0 0, h) := by
  rw [evalV_call (P := Tryz.prog) (intr := I) (f := 36) (m := 10) (rs := #[.tmp 2]) h1 Tryz.func36 rfl rfl rfl]
  simp (maxDischargeDepth := 16) only [z05, z08, z09, z0a, z0b, z0d, z0e, z0f, z0o, z0p, z0q, z0s, z0t, z0v, z0w, z0z, z10, z11, z13, z3b, z3c, z3f, z4e, z4f, z4g, z4h, z4i, z4p, z4q, z4r, z4s, z4t, z4u, z4w, z4x, z4y, z4z, z53, z7i, z7n, Nat.reduceSub, tPtrx69]
theorem fnil37 {I : Intr} (h1 : I 37 = none) {N : Nat} {h : Hp} : evalV Tryz.prog I (N + 1) (.fn 37) #[.pointer none] h = some (.tuple #[.int .i64 0, .int .i64 0], h) := by
  rw [evalV_call (P := Tryz.prog) (intr := I) (f := 37) (m := 30) (rs := #[.tmp 2, .tmp 3]) h1 Tryz.func37 rfl rfl rfl]
  simp (maxDischargeDepth := 16) only [z05, z08, z09, z0a, z0b, z0d, z0e, z0f, z0i, z0o, z0p, z0q, z0s, z0t, z0v, z0w, z0z, z10, z11, z13, z3b, z3d, z3f, z4e, z4f, z4g, z4h, z4i, z4p, z4q, z4r, z4s, z4t, z4u, z4w, z4x, z4y, z4z, z52, z53, z7i, z7n, evalC_block, Nat.reduceSub, tPtrx69]
theorem fnil38 {I : Intr} (h1 : I 38 = none) {N : Nat} {h : Hp} : evalV Tryz.prog I (N + 1) (.fn 38) #[.pointer none] h = some (.tuple #[.pointer none, .int .i64 1], h) := by
  rw [evalV_call (P := Tryz.prog) (intr := I) (f := 38) (m := 19) (rs := #[.tmp 2, .tmp 3]) h1 Tryz.func38 rfl rfl rfl]
  simp (maxDischargeDepth := 16) only [z05, z08, z09, z0a, z0b, z0d, z0e, z0f, z0o, z0p, z0q, z0s, z0t, z0v, z0w, z0z, z10, z11, z13, z3b, z3d, z3f, z4e, z4f, z4g, z4h, z4i, z4p, z4q, z4r, z4s, z4t, z4u, z4w, z4x, z4y, z4z, z52, z53, z7i, z7n, Nat.reduceSub, tPtrx40]
theorem fnil39 {I : Intr} (h1 : I 39 = none) {N : Nat} {h : Hp} : evalV Tryz.prog I (N + 1) (.fn 39) #[.pointer none] h = some (.tuple #[.slice none 0 0, .int .i64 1], h) := by
  rw [evalV_call (P := Tryz.prog) (intr := I) (f := 39) (m := 41) (rs := #[.tmp 2, .tmp 3]) h1 Tryz.func39 rfl rfl rfl]
  simp (maxDischargeDepth := 16) only [z05, z08, z09, z0a, z0b, z0d, z0e, z0f, z0o, z0p, z0q, z0s, z0t, z0v, z0w, z0z, z10, z11, z13, z3b, z3d, z3f, z4e, z4f, z4g, z4h, z4i, z4p, z4q, z4r, z4s, z4t, z4u, z4w, z4x, z4y, z4z, z52, z53, z7i, z7n, Nat.reduceSub, tPtrx40]
theorem fnil33 {I : Intr} (h1 : I 33 = none) (h80 : I 80 = none) {N : Nat} {x y : Int} {h : Hp} : evalV Tryz.prog I (N + 2) (.fn 33) #[.pointer none, .int .u64 x, .int .u64 y] h = some (.int .i64 1, h) := by
  rw [evalV_call (P := Tryz.prog) (intr := I) (f := 33) (m := 52) (rs := #[.tmp 6]) h1 Tryz.func33 rfl rfl rfl]
  simp (maxDischargeDepth := 16) only [z05, z08, z09, z0a, z0b, z0d, z0e, z0f, z0o, z0p, z0q, z0s, z0t, z0v, z0w, z0x, z0z, z10, z11, z13, z1l, z2c, z3b, z3c, z3f, z3h, z4e, z4f, z4g, z4h, z4i, z4j, z4k, z4l, z4p, z4q, z4r, z4s, z4t, z4u, z4v, z4w, z4x, z4y, z4z, z53, z5b, z5d, z7n, Nat.reduceAdd, Nat.reduceSub, ↓reduceIte, Int.reduceEq, hasBx80, fnil80 h80]
theorem fnil34 {I : Intr} (h1 : I 34 = none) (h80 : I 80 = none) {N : Nat} {h : Hp} : evalV Tryz.prog I (N + 2) (.fn 34) #[.pointer none] h = some (.int .i64 1, h) := by
  rw [evalV_call (P := Tryz.prog) (intr := I) (f := 34) (m := 41) (rs := #[.tmp 2]) h1 Tryz.func34 rfl rfl rfl]
  simp (maxDischargeDepth := 16) only [z05, z08, z09, z0a, z0b, z0d, z0e, z0f, z0o, z0p, z0q, z0s, z0t, z0v, z0w, z0x, z0z, z10, z11, z13, z1l, z2c, z3b, z3c, z3f, z3h, z4e, z4f, z4g, z4h, z4i, z4j, z4k, z4l, z4p, z4q, z4r, z4s, z4t, z4u, z4v, z4w, z4x, z4y, z4z, z53, z5b, z5d, z7n, Nat.reduceSub, ↓reduceIte, Int.reduceEq, hasBx80, fnil80 h80]
theorem fnil78 {I : Intr} (h1 : I 78 = none) (h80 : I 80 = none) {N : Nat} {n : Int} {g x : Value} {h : Hp} : evalV Tryz.prog I (N + 2) (.fn 78) #[.pointer none, .int .i64 n, g, x] h = some (.int .i64 1, h.push (some (.cells x.cells true))) := by
  rw [evalV_call (P := Tryz.prog) (intr := I) (f := 78) (m := 76) (rs := #[.tmp 8]) h1 Tryz.func78 rfl rfl rfl]
  simp (maxDischargeDepth := 16) only [z05, z08, z09, z0a, z0b, z0d, z0e, z0f, z0o, z0p, z0q, z0s, z0t, z0v, z0w, z0x, z0z, z10, z11, z13, z1h, z1l, z2c, z3b, z3c, z3f, z3h, z4e, z4f, z4g, z4h, z4i, z4j, z4k, z4l, z4p, z4q, z4r, z4s, z4t, z4u, z4v, z4w, z4x, z4y, z4z, z53, z5b, z5d, z7n, Nat.reduceAdd, Nat.reduceSub, ↓reduceIte, Int.reduceEq, hasBx80, fnil80 h80]
theorem fnil79 {I : Intr} (h1 : I 79 = none) (h80 : I 80 = none) {N : Nat} {n : Int} {g x : Value} {h : Hp} : evalV Tryz.prog I (N + 2) (.fn 79) #[.pointer none, .int .i64 n, g, x] h = some (.int .i64 1, h.push (some (.cells x.cells true))) := by
  rw [evalV_call (P := Tryz.prog) (intr := I) (f := 79) (m := 76) (rs := #[.tmp 8]) h1 Tryz.func79 rfl rfl rfl]
  simp (maxDischargeDepth := 16) only [z05, z08, z09, z0a, z0b, z0d, z0e, z0f, z0o, z0p, z0q, z0s, z0t, z0v, z0w, z0x, z0z, z10, z11, z13, z1h, z1l, z2c, z3b, z3c, z3f, z3h, z4e, z4f, z4g, z4h, z4i, z4j, z4k, z4l, z4p, z4q, z4r, z4s, z4t, z4u, z4v, z4w, z4x, z4y, z4z, z53, z5b, z5d, z7n, Nat.reduceAdd, Nat.reduceSub, ↓reduceIte, Int.reduceEq, hasBx80, fnil80 h80]
theorem fnil31 {I : Intr} (h31 : I 31 = none) (h1 : I 78 = none) (h80 : I 80 = none) {N : Nat} {a0 a1 a2 a3 a4 a5 a6 a7 a8 a9 a10 a11 a12 a13 a14 a15 a16 a17 n : Int} {h : Hp} : ∃ h', Keeps h h' ∧ h'.ro = h.ro ∧ evalV Tryz.prog I (N + 3) (.fn 31) #[.pointer none, prefV a0 a1 a2 a3 a4 a5 a6 a7 a8 a9 a10 a11 a12 a13 a14 a15 a16 a17, .int .i64 n] h = some (.int .i64 1, h') := by
  rw [evalV_call (P := Tryz.prog) (intr := I) (f := 31) (m := 15) (rs := #[.tmp 6]) h31 Tryz.func31 rfl rfl rfl]
  simp (maxDischargeDepth := 16) only [z05, z08, z09, z0d, z0e, z0o, z0p, z0q, z0s, z0t, z0v, z0w, z0x, z0z, z10, z11, z16, z1b, z1e, z1h, z1l, z1v, z2m, z2o, z2w, z2x, z34, z3b, z3c, z3f, z3h, z3v, z3w, z3x, z3y, z3z, z41, z43, z46, z49, z4e, z4f, z4g, z4h, z4i, z4j, z4k, z4l, z4m, z4n, z4p, z4q, z4r, z4s, z4t, z4u, z4v, z4w, z4x, z4y, z4z, z50, z51, z53, z54, z72, z7n, z80, z81, z82, z83, Nat.reduceLeDiff, Nat.reduceAdd, Nat.reduceSub, ↓reduceIte, Hp.cell, Hp.row, hasBx78, tBuildFx37x0, tBuildFx37x1, tBuildOkx37, tFieldAx33x0, tFieldAx35x0, tPartx3, tPartx35, tZerox37, fnil78 h1 h80]
  exact ⟨_, ((Keeps.refl h).push _).push _, by simp, rfl⟩
theorem fnil32 {I : Intr} (h32 : I 32 = none) (h1 : I 79 = none) (h80 : I 80 = none) {N : Nat} {a0 a1 a2 a3 a4 a5 a6 a7 a8 a9 a10 a11 a12 a13 a14 a15 a16 a17 : Int} {h : Hp} : ∃ h', Keeps h h' ∧ h'.ro = h.ro ∧ evalV Tryz.prog I (N + 3) (.fn 32) #[.pointer none, prefV a0 a1 a2 a3 a4 a5 a6 a7 a8 a9 a10 a11 a12 a13 a14 a15 a16 a17] h = some (.int .i64 1, h') := by
  rw [evalV_call (P := Tryz.prog) (intr := I) (f := 32) (m := 11) (rs := #[.tmp 4]) h32 Tryz.func32 rfl rfl rfl]
  simp (maxDischargeDepth := 16) only [z05, z08, z09, z0d, z0e, z0o, z0p, z0q, z0s, z0t, z0v, z0w, z0x, z0z, z10, z11, z16, z1e, z1h, z1l, z1v, z2o, z2w, z2x, z34, z3b, z3c, z3f, z3h, z3x, z3y, z3z, z41, z43, z46, z4e, z4f, z4g, z4h, z4i, z4j, z4k, z4l, z4m, z4n, z4p, z4q, z4r, z4s, z4t, z4u, z4v, z4w, z4x, z4y, z4z, z50, z51, z53, z54, z7n, Nat.reduceAdd, Nat.reduceSub, ↓reduceIte, Hp.cell, Hp.row, hasBx79, tFieldAx33x0, tFieldAx35x0, tPartx3, tPartx35, fnil79 h1 h80]
  exact ⟨_, ((Keeps.refl h).push _).push _, by simp, rfl⟩
theorem fnil40 {I : Intr} (h40 : I 40 = none) {N : Nat} {x : Value} {h : Hp} (hro : h.ro ≤ h.size) : ∃ h', Keeps h h' ∧ h'.ro = h.ro ∧ evalV Tryz.prog I (N + 1) (.fn 40) #[.pointer none, x] h = some (.tuple #[.agg #[.int .i64 0, .int .u8 0, .int .u8 0, .int .u8 0, .int .u8 0, .int .u8 0, .int .u8 0, .int .u8 0, .int .u8 0, .int .u8 0, .int .u8 0, .int .u8 0, .int .u8 0, .int .u8 0, .int .u8 0, .int .u8 0, .int .u8 0, .int .i64 0, .int .i64 0, .int .i64 0, .int .i64 0, .bool false, .bool false], .int .u64 0, .int .i64 1], h') := by
  have hrr : ∀ j, (h.ro ≤ h.size + j) = True := fun j => by simp; omega
  rw [evalV_call (P := Tryz.prog) (intr := I) (f := 40) (m := 40) (rs := #[.cell 4 39, .tmp 5, .tmp 6]) h40 Tryz.func40 rfl rfl rfl]
  simp (maxDischargeDepth := 16) only [z05, z08, z09, z0a, z0b, z0d, z0e, z0f, z0o, z0p, z0q, z0s, z0t, z0u, z0v, z0w, z0z, z10, z11, z13, z1b, z1f, z1g, z1h, z1w, z1x, z2o, z2x, z2y, z2z, z33, z34, z3b, z3f, z3g, z3v, z3w, z3x, z3y, z3z, z41, z43, z44, z45, z46, z49, z4a, z4c, z4e, z4f, z4g, z4h, z4i, z4j, z4l, z4p, z4q, z4r, z4s, z4t, z4u, z4w, z4x, z4y, z4z, z50, z51, z52, z53, z5f, z72, z7i, z7n, z80, z81, Nat.reduceAdd, Nat.reduceSub, ↓reduceIte, Hp.row, Hp.wr, tBuildOkx39, tPartx39, tPtrx40, tSizex39, tZerox39, oneC, hrr, finR_three]
  exact ⟨_, (((Keeps.refl h).push _).push _).set (by omega) _, by simp, rfl⟩
end Go.Abs.D1
