/- FibNone: the law's run. -/
import Derived.Test.YtjimckjdkgbojaaGreatDoorFb3
import Derived.Test.YtjimckjdkgbojaaGreatDoorFb2
namespace Go.Abs.D1
open Go.Proofs
set_option maxRecDepth 100000
set_option maxHeartbeats 4000000
set_option linter.all false
noncomputable def TL6 : List (FuncId × (Array Value → Hp → Option (Value × Hp))) := [(29, gS hL #[] (.bool true)), (112, fun args h => (F112 args h).map fun v => (v, h)), (178, fun args h => (F178 args h).map fun v => (v, h))]
noncomputable abbrev IL6 : Intr := fun f => TL6.lookup f
theorem okL6 : IntrOk Tryz.prog (CKb Tryz.prog) IL6 := Con.table fun x hx => by
  simp only [TL6, List.mem_cons, List.not_mem_nil, or_false] at hx
  rcases hx with rfl | rfl | rfl
  · exact con29
  · exact con112
  · exact con178
theorem run6p {h : Hp} (hs : SubH hL h) (hsz : 3 ≤ h.size) (hro : h.ro ≤ h.size) (a0 a1 a2 a3 a4 a5 a6 a7 a8 a9 a10 a11 a12 a13 a14 a15 a16 a17 b0 b1 b2 b3 b4 b5 b6 b7 b8 b9 b10 b11 b12 b13 b14 b15 b16 n : Int) : ∃ h', evalV Tryz.prog IL6 3000 (.fn 6) #[prefV a0 a1 a2 a3 a4 a5 a6 a7 a8 a9 a10 a11 a12 a13 a14 a15 a16 a17, addrV b0 b1 b2 b3 b4 b5 b6 b7 b8 b9 b10 b11 b12 b13 b14 b15 b16, .int .u64 n] h = some (.bool true, h') := by
  obtain ⟨k0, hk0⟩ : ∃ k0, k0 = (h.push (some (.cells #[.int .i64 a0, .int .u8 a1, .int .u8 a2, .int .u8 a3, .int .u8 a4, .int .u8 a5, .int .u8 a6, .int .u8 a7, .int .u8 a8, .int .u8 a9, .int .u8 a10, .int .u8 a11, .int .u8 a12, .int .u8 a13, .int .u8 a14, .int .u8 a15, .int .u8 a16, .int .i64 a17] true))).push (some (.cells #[.int .i64 b0, .int .u8 b1, .int .u8 b2, .int .u8 b3, .int .u8 b4, .int .u8 b5, .int .u8 b6, .int .u8 b7, .int .u8 b8, .int .u8 b9, .int .u8 b10, .int .u8 b11, .int .u8 b12, .int .u8 b13, .int .u8 b14, .int .u8 b15, .int .u8 b16] true)) := ⟨_, rfl⟩
  have kk : Keeps h k0 := by rw [hk0]; exact ((Keeps.refl h).push _).push _
  have rk : k0.ro = h.ro := by rw [hk0]; simp
  have sk : k0.size = h.size + 2 := by rw [hk0]; simp
  have gp : k0.get h.size = some (.cells #[.int .i64 a0, .int .u8 a1, .int .u8 a2, .int .u8 a3, .int .u8 a4, .int .u8 a5, .int .u8 a6, .int .u8 a7, .int .u8 a8, .int .u8 a9, .int .u8 a10, .int .u8 a11, .int .u8 a12, .int .u8 a13, .int .u8 a14, .int .u8 a15, .int .u8 a16, .int .i64 a17] true) := by rw [hk0, get_push_ne (by simp)]; exact get_push_self
  have gx : k0.get (h.size + 1) = some (.cells #[.int .i64 b0, .int .u8 b1, .int .u8 b2, .int .u8 b3, .int .u8 b4, .int .u8 b5, .int .u8 b6, .int .u8 b7, .int .u8 b8, .int .u8 b9, .int .u8 b10, .int .u8 b11, .int .u8 b12, .int .u8 b13, .int .u8 b14, .int .u8 b15, .int .u8 b16] true) := by rw [hk0]; exact get_push_self
  have c29 : evalV Tryz.prog IL6 2999 (.fn 29) #[] k0 = some (.bool true, k0) := gS_at fun b y hy => by
    have hb : b < 3 := by have := (plainL.cells b y hy).1; rw [gsz] at this; exact this
    have := hsz
    rw [kk.get _ (by omega)]; exact hs b y hy
  have c30 := fun h => fnil30 (I := IL6) rfl (N := 2998) (h := h)
  obtain ⟨h1, s1, r1, e1⟩ := fnil31 (I := IL6) rfl rfl rfl (N := 2996) (a0 := a0) (a1 := a1) (a2 := a2) (a3 := a3) (a4 := a4) (a5 := a5) (a6 := a6) (a7 := a7) (a8 := a8) (a9 := a9) (a10 := a10) (a11 := a11) (a12 := a12) (a13 := a13) (a14 := a14) (a15 := a15) (a16 := a16) (a17 := a17) (n := 1) (h := k0)
  obtain ⟨h2, s2, r2, e2⟩ := fnil32 (I := IL6) rfl rfl rfl (N := 2996) (a0 := a0) (a1 := a1) (a2 := a2) (a3 := a3) (a4 := a4) (a5 := a5) (a6 := a6) (a7 := a7) (a8 := a8) (a9 := a9) (a10 := a10) (a11 := a11) (a12 := a12) (a13 := a13) (a14 := a14) (a15 := a15) (a16 := a16) (a17 := a17) (h := h1)
  have z1 := s1.size
  have z2 := s2.size
  have gp1 : h1.get h.size = some (.cells #[.int .i64 a0, .int .u8 a1, .int .u8 a2, .int .u8 a3, .int .u8 a4, .int .u8 a5, .int .u8 a6, .int .u8 a7, .int .u8 a8, .int .u8 a9, .int .u8 a10, .int .u8 a11, .int .u8 a12, .int .u8 a13, .int .u8 a14, .int .u8 a15, .int .u8 a16, .int .i64 a17] true) := (s1.get _ (by omega)).trans gp
  have gx2 : h2.get (h.size + 1) = some (.cells #[.int .i64 b0, .int .u8 b1, .int .u8 b2, .int .u8 b3, .int .u8 b4, .int .u8 b5, .int .u8 b6, .int .u8 b7, .int .u8 b8, .int .u8 b9, .int .u8 b10, .int .u8 b11, .int .u8 b12, .int .u8 b13, .int .u8 b14, .int .u8 b15, .int .u8 b16] true) := ((s2.get _ (by omega)).trans (s1.get _ (by omega))).trans gx
  have n0 : h.size < k0.size := by omega
  have n1 : h.size < h1.size := by omega
  have n2 : h.size + 1 < h2.size := by omega
  have c33 := fun h => fnil33 (I := IL6) rfl rfl (N := 2997) (x := n) (y := n) (h := h)
  have c34 := fun h => fnil34 (I := IL6) rfl rfl (N := 2997) (h := h)
  have c35 := fun h => fnil35 (I := IL6) rfl (N := 2998) (h := h)
  have c36 := fun h => fnil36 (I := IL6) rfl (N := 2998) (h := h)
  have c37 := fun h => fnil37 (I := IL6) rfl (N := 2998) (h := h)
  have c38 := fun h => fnil38 (I := IL6) rfl (N := 2998) (h := h)
  have c39 := fun h => fnil39 (I := IL6) rfl (N := 2998) (h := h)
  obtain ⟨h3, s3, r3, e3⟩ := fnil40 (I := IL6) rfl (N := 2998) (x := addrV b0 b1 b2 b3 b4 b5 b6 b7 b8 b9 b10 b11 b12 b13 b14 b15 b16) (h := h2) (by omega)
  have hr3 : (h3.ro ≤ h3.size) = True := eq_true (by have := s3.size; omega)
  have sq : aBin Tryz.prog .eql 39 (.agg #[.int .i64 0, .int .u8 0, .int .u8 0, .int .u8 0, .int .u8 0, .int .u8 0, .int .u8 0, .int .u8 0, .int .u8 0, .int .u8 0, .int .u8 0, .int .u8 0, .int .u8 0, .int .u8 0, .int .u8 0, .int .u8 0, .int .u8 0, .int .i64 0, .int .i64 0, .int .i64 0, .int .i64 0, .bool false, .bool false]) (.agg #[.int .i64 0, .int .u8 0, .int .u8 0, .int .u8 0, .int .u8 0, .int .u8 0, .int .u8 0, .int .u8 0, .int .u8 0, .int .u8 0, .int .u8 0, .int .u8 0, .int .u8 0, .int .u8 0, .int .u8 0, .int .u8 0, .int .u8 0, .int .i64 0, .int .i64 0, .int .i64 0, .int .i64 0, .bool false, .bool false]) = some (.bool true) := by kernel_rfl
  rw [show (3000 : Nat) = 2999 + 1 from rfl]
  rw [evalV_call (P := Tryz.prog) (intr := IL6) (f := 6) (m := 111) (rs := #[.tmp 6]) rfl Tryz.func6 rfl rfl rfl]
  simp (maxDischargeDepth := 16) only [z08, z09, z0d, z0e, z0p, z0q, z0s, z0t, z0v, z0w, z0x, z11, z1h, z1l, z2o, z3b, z3h, z4a, z4e, z4f, z4g, z4h, z4i, z4j, z4l, z4p, z4q, z4r, z4s, z4t, z4u, z4v, z4w, z4x, z4y, z53, z7n, Nat.reduceAdd, Nat.reduceSub, ↓reduceIte, hasBx29]
  rw [← hk0]
  simp (maxDischargeDepth := 16) only [z04, z08, z09, z0a, z0c, z0d, z0e, z0p, z0q, z0r, z0s, z0t, z0v, z0w, z0x, z0z, z10, z11, z12, z13, z14, z1e, z1l, z1v, z1y, z2c, z2h, z2x, z3b, z3h, z3x, z3y, z3z, z41, z43, z46, z4e, z4f, z4g, z4h, z4i, z4j, z4k, z4l, z4m, z4n, z4o, z4p, z4q, z4r, z4s, z4u, z4v, z4z, z52, z53, z59, z5a, z5c, z5e, z7n, Nat.reduceAdd, Nat.reduceSub, ↓reduceIte, yielded, Hp.row, hasBx30, hasBx31, tPartx35, c29, c30, gp, ne_f n0, ne_f0 n0, lt_t n0, lt_t0 n0, e1]
  simp (maxDischargeDepth := 16) only [z0q, z0r, z0s, z0t, z0v, z0w, z0x, z0z, z10, z12, z13, z1l, z1y, z2c, z3b, z3h, z3x, z3y, z3z, z41, z43, z46, z4e, z4f, z4g, z4h, z4i, z4j, z4k, z4l, z4m, z4n, z4o, z4p, z4q, z4r, z4s, z4u, z4v, z4z, z52, z53, z59, z5a, z5c, z5e, Nat.reduceAdd, Nat.reduceSub, ↓reduceIte, yielded, hasBx32, hasBx33, gp1, ne_f n1, ne_f0 n1, lt_t n1, lt_t0 n1, e2]
  simp (maxDischargeDepth := 16) only [z04, z08, z09, z0a, z0c, z0d, z0e, z0p, z0q, z0r, z0s, z0t, z0v, z0w, z0x, z0z, z10, z11, z12, z13, z1a, z1e, z1l, z1p, z1r, z1v, z1y, z2c, z2t, z2x, z3b, z3h, z4e, z4f, z4g, z4h, z4i, z4j, z4k, z4l, z4m, z4n, z4o, z4s, z4u, z4v, z52, z53, z59, z5a, z5c, z5e, z7n, z7o, ↓reduceIte, yielded, Hp.row, hasBx34, hasBx35, hasBx36, hasBx37, hasBx38, hasBx39, tLenx47, tPartx33, c33, c34, c35, c36, c37, c38, c39]
  simp (maxDischargeDepth := 16) only [z05, z08, z09, z0d, z0e, z0o, z0p, z0q, z0r, z0s, z0t, z0u, z0v, z0w, z0x, z0z, z10, z11, z12, z13, z1a, z1b, z1e, z1f, z1g, z1l, z1p, z1r, z1v, z1w, z1x, z1y, z2b, z2o, z2t, z2x, z2y, z2z, z33, z34, z3b, z3c, z3f, z3h, z3v, z3w, z3x, z3y, z3z, z41, z43, z44, z45, z46, z49, z4c, z4e, z4f, z4g, z4h, z4i, z4j, z4k, z4l, z4m, z4n, z4o, z4p, z4q, z4r, z4s, z4u, z4v, z4z, z50, z51, z52, z53, z5a, z5e, z5f, z72, z7i, z7n, z7o, z80, z81, Nat.reduceAdd, Nat.reduceSub, ↓reduceIte, yielded, Hp.row, Hp.wr, hasBx40, tBuildOkx39, tLenx44, tPartx39, tPtrx69, tSizex39, tZerox39, gx2, ne_f n2, ne_f0 n2, lt_t n2, lt_t0 n2, e3, oneC, hr3, sq]
  exact ⟨_, rfl⟩
end Go.Abs.D1
