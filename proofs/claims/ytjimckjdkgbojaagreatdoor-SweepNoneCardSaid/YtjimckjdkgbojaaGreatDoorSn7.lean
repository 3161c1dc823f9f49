/- SweepNone: the law's run. -/
import Derived.Test.YtjimckjdkgbojaaGreatDoorSn3
import Derived.Test.YtjimckjdkgbojaaGreatDoorSn6
namespace Go.Abs.D1
open Go.Proofs
set_option maxRecDepth 100000
set_option maxHeartbeats 4000000
set_option linter.all false
theorem JL5 : JS IL5 := ⟨rfl, rfl, rfl, rfl, rfl, rfl, rfl, rfl, rfl, rfl, rfl, rfl, rfl, rfl⟩
theorem SwAt.mono {k k' : Hp} {sb ab : Nat} {nx : Value} {dn : Bool} (s : SwAt k sb ab nx dn) (hk : Keeps k k') (r : k'.ro = k.ro) : SwAt k' sb ab nx dn := by
  obtain ⟨mb, h1, h2, h3⟩ := s
  exact ⟨mb, (hk.get _ h2).trans h1, Nat.lt_of_lt_of_le h2 hk.size, by omega⟩
theorem run5 {h : Hp} (hs : SubH hL h) (hro : h.ro ≤ h.size) (n : Int) : ∃ h', evalV Tryz.prog IL5 3000 (.fn 5) #[.int .i64 n] h = some (.bool true, h') := by
  have c23 : evalV Tryz.prog IL5 2999 (.fn 23) #[] h = some (.bool true, h) := gS_at hs
  have c24 := fun h => nil24 (I := IL5) rfl (N := 2998) (h := h)
  have c25 := fun h => nil25 (I := IL5) rfl (N := 2998) (h := h)
  have c26 := fun h => nil26 (I := IL5) rfl (N := 2998) (h := h)
  have c27 := fun h => nil27 (I := IL5) rfl (N := 2998) (h := h)
  have c28 := fun h => nil28 (I := IL5) rfl (N := 2998) (h := h)
  obtain ⟨kk, hk, hk2⟩ : ∃ kk : Nat, (IntKind.u64.wrap n).tmod 1000 = (kk : Int) ∧ kk < 1000 := by
    have h0 : 0 ≤ IntKind.u64.wrap n := by rw [wrapU64]; omega
    obtain ⟨u, hu⟩ := Int.eq_ofNat_of_zero_le h0
    rw [hu]
    exact ⟨u % 1000, rfl, Nat.mod_lt _ (by decide)⟩
  have w1 : IntKind.i64.wrap (kk : Int) = (kk : Int) := i64_in (by omega) (by omega)
  have w2 : IntKind.i64.wrap (64 + (kk : Int)) = ((48 + kk + 16 : Nat) : Int) := by rw [i64_in (by omega) (by omega)]; omega
  obtain ⟨m, hm⟩ : ∃ m, m = 48 + kk := ⟨_, rfl⟩
  rw [← hm] at w2
  obtain ⟨k, hkk⟩ : ∃ k, k = (((h.push (some (.cells (Builtin.zeroCells #[.int .u32 0] (m + 16)) true))).push (some (.cells #[.slice (some ⟨h.size, 0, none⟩) (m + 16) (m + 16)] true))).setB h.size (some (.cells ((Builtin.zeroCells #[.int .u32 0] (m + 16)).setIfInBounds 0 (.int .u32 ((m + 16 : Nat) : Int))) true))).setB h.size (some (.cells (newW m) true)) := ⟨_, rfl⟩
  have c15 : evalV Tryz.prog IL5 2999 (.fn 15) #[.int .i64 ((m + 16 : Nat) : Int)] h = some (.tuple #[.pointer (some ⟨h.size + 1, 0, none⟩), .int .i64 0], k) := by
    rw [hkk]; exact run15 (I := IL5) rfl (N := 2998) (h := h) m (by omega) (by omega) hro
  have nk : NewAt k (h.size + 1) h.size m := by
    rw [hkk]
    refine ⟨⟨true, ?_⟩, ⟨true, ?_⟩, by simp, by simp; omega, by omega, by omega⟩
    · rw [get_set_ne (by omega), get_set_ne (by omega)]
      exact get_push_self
    · exact get_set_self
  have rk : k.ro ≤ k.size := by rw [hkk]; simp; omega
  have sk : k.size = h.size + 2 := by rw [hkk]; simp
  have rok : k.ro = h.ro := by rw [hkk]; simp
  clear hkk
  obtain ⟨v1, k1, e1, sb, rfl, hsb, s1, h1, r1⟩ := run25 (N := 2998) JL5 nk rk (by omega)
  have n1 := nk.mono h1
  have rk1 : k1.ro ≤ k1.size := by have := h1.size; omega
  obtain ⟨v2, k2, e2, h2, r2, rfl⟩ := run26 (N := 2998) JL5 s1 n1 rk1 (by omega)
  have s2 : SwAt k2 sb (h.size + 1) (.func (.func 73) #[.pointer (some ⟨sb, 0, none⟩)] #[]) false := s1.mono h2 r2
  have n2 := n1.mono h2
  have rk2 : k2.ro ≤ k2.size := by have := h2.size; omega
  have e3 := run27 (N := 2998) JL5 s2
  obtain ⟨v4, k4, e4, rfl, ⟨nx, s4⟩, h4⟩ := run24 (N := 2998) JL5 s2 n2 (by omega) (by omega) rk2 (by omega)
  have e5 := run27 (N := 2998) JL5 s4
  have e6 := run26d (N := 2998) JL5 s4
  rw [show (3000 : Nat) = 2999 + 1 from rfl]
  rw [evalV_call (P := Tryz.prog) (intr := IL5) (f := 5) (m := 98) (rs := #[.tmp 2]) rfl Tryz.func5 rfl rfl rfl]
  simp (maxDischargeDepth := 16) only [z04, z08, z09, z0a, z0c, z0d, z0e, z0p, z0q, z0r, z0s, z0t, z0v, z0w, z0x, z0z, z10, z11, z12, z13, z14, z15, z1a, z1l, z1p, z1r, z1y, z24, z2c, z2h, z2t, z3b, z3h, z4e, z4f, z4g, z4h, z4i, z4j, z4k, z4l, z4m, z4n, z4o, z4p, z4q, z4r, z4s, z4t, z4u, z4v, z4w, z4x, z4y, z50, z51, z52, z53, z59, z5a, z5c, z5e, z7i, z7j, z7m, z7n, z7o, z7z, Nat.reduceSub, ↓reduceIte, yielded, hasBx15, hasBx23, hasBx24, hasBx25, hasBx26, hasBx27, hasBx28, tIntx3x66, tIntx66x3, tLenx47, tPtrx59, c23, c24, c25, c26, c27, c28, bin_rem (show (1000 : Int) ≠ 0 by decide), hk, w1, w2, c15, e1]
  simp (maxDischargeDepth := 16) only [z04, z05, z08, z09, z0a, z0c, z0d, z0e, z0o, z0p, z0q, z0r, z0s, z0t, z0v, z0w, z0x, z0z, z10, z11, z12, z13, z1a, z1l, z1y, z2b, z2c, z2t, z3b, z3c, z3f, z3h, z4e, z4f, z4g, z4h, z4i, z4j, z4k, z4l, z4m, z4n, z4o, z4s, z4u, z4v, z4z, z52, z59, z5a, z5c, z5e, z7n, ↓reduceIte, yielded, hasBx24, hasBx26, hasBx27, e2, e3, e4, e5, e6]
  exact ⟨_, rfl⟩
end Go.Abs.D1
