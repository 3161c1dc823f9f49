/- A sweep of an arena without blocks: what it tells, and its one step. -/
import Derived.Test.YtjimckjdkgbojaaGreatDoorSn5
import Derived.Test.YtjimckjdkgbojaaGreatDoorAbsF
namespace Go.Abs.D1
open Go.Proofs
set_option maxRecDepth 10000
set_option maxHeartbeats 4000000
set_option linter.all false
def swC (ab mb : Nat) (nx : Value) (dn : Bool) : Array Value := #[.pointer (some ⟨ab, 0, none⟩), .int .u64 0, .int .u64 0, .int .i64 0, .int .i64 0, .slice none 0 0, .map (some mb), nx, .bool false, .bool dn]
def SwAt (k : Hp) (sb ab : Nat) (nx : Value) (dn : Bool) : Prop := ∃ mb, k.get sb = some (.cells #[.pointer (some ⟨ab, 0, none⟩), .int .u64 0, .int .u64 0, .int .i64 0, .int .i64 0, .slice none 0 0, .map (some mb), nx, .bool false, .bool dn] true) ∧ sb < k.size ∧ k.ro ≤ sb
structure JS (I : Intr) : Prop where
  i24 : I 24 = none
  i25 : I 25 = none
  i26 : I 26 = none
  i27 : I 27 = none
  i49 : I 49 = none
  i72 : I 72 = none
  i73 : I 73 = none
  i74 : I 74 = none
  i92 : I 92 = none
  i121 : I 121 = none
  i122 : I 122 = none
  i125 : I 125 = none
  i149 : I 149 = none
  i205 : I 205 = none
section
variable {I : Intr} {N : Nat} {k : Hp} {ab wb m sb : Nat} {nx : Value} {dn : Bool}
theorem run27 (J : JS I) (s : SwAt k sb ab nx dn) : evalV Tryz.prog I (N + 1) (.fn 27) #[.pointer (some ⟨sb, 0, none⟩)] k = some (.bool dn, k) := by
  obtain ⟨mb, hS, nS, -⟩ := s
  rw [evalV_call (P := Tryz.prog) (intr := I) (f := 27) (m := 11) (rs := #[.tmp 2]) J.i27 Tryz.func27 rfl rfl rfl]
  simp (maxDischargeDepth := 16) only [z05, z08, z09, z0d, z0e, z0o, z0p, z0q, z0r, z0s, z0t, z0v, z0w, z0z, z10, z11, z12, z13, z16, z1c, z1e, z1v, z1y, z21, z2w, z2x, z3b, z3c, z3f, z4e, z4f, z4g, z4h, z4i, z4m, z4n, z4o, z4p, z4q, z4r, z4s, z4t, z4u, z4w, z4x, z4y, z4z, z50, z51, z52, z53, z5d, z5e, z7j, z7m, z7n, Nat.reduceSub, ↓reduceIte, yielded, Hp.cell, tFieldAx140x6, tPartx4, tPtrx59, hS, ne_f nS, ne_f0 nS, lt_t nS, lt_t0 nS]
theorem run74 (J : JS I) (s : SwAt k sb ab nx dn) (n : NewAt k ab wb m) (hro : k.ro ≤ k.size) (hN : 50 < N) : Al k (fun _ v => v = .slice none 0 0) (evalV Tryz.prog I (N + 1) (.fn 74) #[.pointer (some ⟨sb, 0, none⟩)] k) := by
  obtain ⟨N, rfl⟩ : ∃ n, N = n + 1 := ⟨N - 1, by omega⟩
  obtain ⟨mb, hS, nS, -⟩ := s
  have x := run49 (N := N) J.i49 J.i92 J.i149 J.i205 n hro (by omega)
  rw [evalV_call (P := Tryz.prog) (intr := I) (f := 74) (m := 31) (rs := #[.tmp 2]) J.i74 Tryz.func74 rfl rfl rfl]
  simp (maxDischargeDepth := 16) only [z08, z09, z0d, z0e, z0p, z0q, z0s, z0t, z0v, z0w, z0x, z0z, z10, z11, z16, z1c, z1e, z1l, z1v, z21, z2w, z2x, z3b, z3h, z4e, z4f, z4g, z4h, z4i, z4j, z4k, z4l, z4m, z4n, z4p, z4q, z4r, z4s, z4t, z4u, z4v, z4w, z4x, z4y, z50, z51, z53, z54, z7n, Nat.reduceSub, ↓reduceIte, Hp.cell, hasBx49, tFieldAx140x0, tPartx40, hS, ne_f nS, ne_f0 nS, lt_t nS, lt_t0 nS]
  refine al_kops x fun v k' q1 q2 q3 => ?_
  subst q3
  simp (maxDischargeDepth := 16) only [z0d, z0e, z0p, z0q, z0s, z0t, z0v, z0w, z0z, z10, z1p, z1r, z3b, z4e, z4f, z4g, z4h, z4i, z7o, evalC_block, tLenx96]
  rw [evalC_loop, evalLoop_succ]
  simp (maxDischargeDepth := 16) only [z05, z06, z08, z09, z0a, z0c, z0d, z0e, z0g, z0j, z0m, z0o, z0p, z0q, z0s, z0t, z0v, z0z, z10, z11, z13, z2d, z3b, z3c, z3f, z4e, z4f, z4g, z4h, z4i, z4z, z5b, z7n, ↓reduceIte, Nat.reduceLT, Int.reduceLT]
  exact Al.done q1 q2 rfl
theorem run26 (J : JS I) (s : SwAt k sb ab nx false) (n : NewAt k ab wb m) (hro : k.ro ≤ k.size) (hN : 60 < N) : Al k (fun _ v => v = .int .i64 1) (evalV Tryz.prog I (N + 1) (.fn 26) #[.pointer (some ⟨sb, 0, none⟩)] k) := by
  obtain ⟨N, rfl⟩ : ∃ n, N = n + 1 := ⟨N - 1, by omega⟩
  have x := run74 (N := N) J s n hro (by omega)
  obtain ⟨mb, hS, nS, -⟩ := s
  have w1 : IntKind.i64.wrap (0 + 1) = 1 := by decide
  rw [evalV_call (P := Tryz.prog) (intr := I) (f := 26) (m := 21) (rs := #[.tmp 2]) J.i26 Tryz.func26 rfl rfl rfl]
  simp (maxDischargeDepth := 16) only [z04, z08, z09, z0a, z0c, z0d, z0e, z0p, z0q, z0r, z0s, z0t, z0v, z0w, z0x, z0z, z10, z11, z12, z13, z16, z1c, z1e, z1l, z1v, z1y, z21, z2w, z2x, z3b, z3h, z4e, z4f, z4g, z4h, z4i, z4j, z4k, z4l, z4m, z4n, z4o, z4p, z4q, z4r, z4s, z4t, z4u, z4v, z4w, z4x, z4y, z50, z51, z52, z53, z59, z5e, z7i, z7m, z7n, Nat.reduceSub, ↓reduceIte, yielded, Hp.cell, hasBx74, tFieldAx140x5, tFieldAx140x6, tPartx4, tPtrx59, hS, ne_f nS, ne_f0 nS, lt_t nS, lt_t0 nS]
  refine al_kops x fun v k' q1 q2 q3 => ?_
  subst q3
  simp (maxDischargeDepth := 16) only [z05, z0d, z0e, z0o, z0p, z0q, z0s, z0t, z0v, z0w, z0z, z11, z13, z1p, z1r, z24, z3b, z3c, z3f, z4e, z4f, z4g, z4h, z4i, z4z, z7o, tLenx47, w1]
  exact Al.done q1 q2 rfl
theorem run26d (J : JS I) (s : SwAt k sb ab nx true) : evalV Tryz.prog I (N + 1) (.fn 26) #[.pointer (some ⟨sb, 0, none⟩)] k = some (.int .i64 0, k) := by
  obtain ⟨mb, hS, nS, -⟩ := s
  rw [evalV_call (P := Tryz.prog) (intr := I) (f := 26) (m := 21) (rs := #[.tmp 2]) J.i26 Tryz.func26 rfl rfl rfl]
  simp (maxDischargeDepth := 16) only [z05, z08, z09, z0a, z0b, z0d, z0e, z0f, z0o, z0p, z0q, z0r, z0s, z0t, z0v, z0w, z0z, z10, z11, z12, z13, z16, z1c, z1e, z1v, z1y, z21, z2w, z2x, z3b, z3c, z3f, z3k, z4e, z4f, z4g, z4h, z4i, z4m, z4n, z4o, z4p, z4q, z4r, z4s, z4t, z4u, z4w, z4x, z4y, z4z, z50, z51, z52, z53, z59, z5e, z7i, z7m, z7n, Nat.reduceSub, ↓reduceIte, yielded, Hp.cell, tFieldAx140x6, tPartx4, tPtrx59, hS, ne_f nS, ne_f0 nS, lt_t nS, lt_t0 nS]
theorem run125 (J : JS I) (s : SwAt k sb ab nx false) (n : NewAt k ab wb m) (hro : k.ro ≤ k.size) (hN : 60 < N) : Ex (fun v k' => v = .int .i64 0 ∧ SwAt k' sb ab nx true ∧ Chg (· = sb) k k') (evalV Tryz.prog I (N + 1) (.fn 125) #[.pointer (some ⟨sb, 0, none⟩)] k) := by
  obtain ⟨N, rfl⟩ : ∃ n, N = n + 1 := ⟨N - 1, by omega⟩
  have x := (run74 (N := N) J s n hro (by omega)).ex
  obtain ⟨mb, hS, nS, hrs⟩ := s
  rw [evalV_call (P := Tryz.prog) (intr := I) (f := 125) (m := 20) (rs := #[.tmp 2]) J.i125 Tryz.func125 rfl rfl rfl]
  simp (maxDischargeDepth := 16) only [z08, z09, z0d, z0e, z0p, z0q, z0s, z0t, z0v, z0w, z0x, z10, z11, z1l, z3b, z3h, z4e, z4f, z4g, z4h, z4i, z4j, z4k, z4l, z4p, z4q, z4r, z4s, z4t, z4u, z4v, z4w, z4x, z4y, z53, z7n, Nat.reduceSub, ↓reduceIte, hasBx74]
  refine ex_any (Ex _) x fun v k' ⟨q1, q2, q3⟩ => ?_
  subst q3
  have hS' := (q1.get _ nS).trans hS
  have nS' : sb < k'.size := Nat.lt_of_lt_of_le nS q1.size
  have hrr : (k'.ro ≤ sb) = True := eq_true (by omega)
  simp (maxDischargeDepth := 16) only [z05, z08, z09, z0a, z0b, z0d, z0e, z0f, z0o, z0p, z0q, z0s, z0t, z0u, z0v, z0w, z0z, z10, z11, z13, z16, z1c, z1f, z1p, z1r, z1w, z1x, z21, z2b, z2n, z2w, z2y, z3b, z3c, z3f, z3q, z3v, z3w, z44, z45, z46, z49, z4e, z4f, z4g, z4h, z4i, z4p, z4q, z4r, z4z, z50, z51, z53, z5a, z5f, z72, z7n, z7o, Nat.reduceAdd, ↓reduceIte, Hp.wr, tFieldAx140x6, tLenx47, tSizex4, hS', ne_f nS', ne_f0 nS', lt_t nS', lt_t0 nS', hrr]
  refine ⟨_, _, rfl, rfl, ⟨mb, get_set_self, by simpa using nS', by simp; omega⟩, Chg.set (S := (· = sb)) (Chg.of q1 q2) (b := sb) (.inl rfl) _⟩
theorem NewAt.chg {k' : Hp} (n : NewAt k ab wb m) (c : Chg (· = sb) k k') (ha : ab ≠ sb) (hw : wb ≠ sb) : NewAt k' ab wb m := by
  obtain ⟨o1, h1⟩ := n.A
  obtain ⟨o2, h2⟩ := n.W
  have := c.1
  exact ⟨⟨o1, (c.2.2 _ n.a ha).trans h1⟩, ⟨o2, (c.2.2 _ n.w hw).trans h2⟩, Nat.lt_of_lt_of_le n.a c.1, Nat.lt_of_lt_of_le n.w c.1, n.m1, n.m2⟩
theorem run73 (J : JS I) (s : SwAt k sb ab nx false) (n : NewAt k ab wb m) (ha : ab ≠ sb) (hw : wb ≠ sb) (hro : k.ro ≤ k.size) (hN : 70 < N) : Ex (fun v k' => v = .int .i64 0 ∧ (∃ nx', SwAt k' sb ab nx' true) ∧ Chg (· = sb) k k') (evalV Tryz.prog I (N + 1) (.fn 73) #[.pointer (some ⟨sb, 0, none⟩)] k) := by
  obtain ⟨N, rfl⟩ : ∃ n, N = n + 1 := ⟨N - 1, by omega⟩
  obtain ⟨mb, hS, nS, hrs⟩ := s
  have hrr : (k.ro ≤ sb) = True := eq_true hrs
  rw [evalV_call (P := Tryz.prog) (intr := I) (f := 73) (m := 145) (rs := #[.tmp 2]) J.i73 Tryz.func73 rfl rfl rfl]
  obtain ⟨k2, hk2⟩ : ∃ k2, k2 = k.setB sb (some (.cells #[.pointer (some ⟨ab, 0, none⟩), .int .u64 0, .int .u64 0, .int .i64 0, .int .i64 0, .slice none 0 0, .map (some mb), .func (.func 125) #[.pointer (some ⟨sb, 0, none⟩)] #[], .bool false, .bool false] true)) := ⟨_, rfl⟩
  have c2 : Chg (· = sb) k k2 := by rw [hk2]; exact Chg.set (S := (· = sb)) (Chg.refl k) (b := sb) (.inl rfl) _
  have s2 : SwAt k2 sb ab (.func (.func 125) #[.pointer (some ⟨sb, 0, none⟩)] #[]) false := by rw [hk2]; exact ⟨mb, get_set_self, by simpa using nS, by simpa using hrs⟩
  have r2 : k2.ro ≤ k2.size := by have := c2.1; have := c2.2.1; omega
  have x := run125 (N := N) J s2 (n.chg c2 ha hw) r2 (by omega)
  simp (maxDischargeDepth := 16) only [z08, z09, z0a, z0b, z0d, z0e, z0p, z0q, z0s, z0t, z0u, z0v, z0w, z0z, z10, z11, z13, z16, z1c, z1d, z1e, z1f, z1l, z1p, z1r, z1v, z1w, z1x, z21, z2b, z2w, z2x, z2y, z33, z3b, z3h, z3v, z3w, z44, z45, z49, z4e, z4f, z4g, z4h, z4i, z4j, z4k, z4l, z4m, z4n, z4o, z4p, z4q, z4r, z4s, z4t, z4u, z4v, z4w, z4x, z4y, z50, z51, z53, z5a, z5f, z72, z7n, z7o, Nat.reduceLeDiff, Nat.reduceAdd, Nat.reduceSub, ↓reduceIte, Hp.cell, Hp.wr, hasBx125, tFieldAx140x2, tFieldAx140x4, tLenx137, tPartx70, tPartx137, tSizex70, hS, ne_f nS, ne_f0 nS, lt_t nS, lt_t0 nS, hrr, cells_func, oneC]
  rw [← hk2]
  refine ex_any (Ex _) x fun v k' ⟨q1, q2, q3⟩ => ?_
  subst q1
  simp (maxDischargeDepth := 16) only [z05, z0d, z0e, z0f, z0o, z0p, z0q, z0s, z0t, z0v, z11, z3b, z3c, z3f, z4e, z4f, z4g, z4h, z4i, z4z]
  exact ⟨_, _, rfl, rfl, ⟨_, q2⟩, c2.trans q3⟩
theorem run24 (J : JS I) (s : SwAt k sb ab (.func (.func 73) #[.pointer (some ⟨sb, 0, none⟩)] #[]) false) (n : NewAt k ab wb m) (ha : ab ≠ sb) (hw : wb ≠ sb) (hro : k.ro ≤ k.size) (hN : 80 < N) : Ex (fun v k' => v = .tuple #[.bool true, .int .i64 0] ∧ (∃ nx', SwAt k' sb ab nx' true) ∧ Chg (· = sb) k k') (evalV Tryz.prog I (N + 1) (.fn 24) #[.pointer (some ⟨sb, 0, none⟩)] k) := by
  obtain ⟨N, rfl⟩ : ∃ n, N = n + 1 := ⟨N - 1, by omega⟩
  have s0 := s
  obtain ⟨mb, hS, nS, hrs⟩ := s
  have nA := n.a
  have hkv : Keeps k (k.view 15 []) := view_keeps (Keeps.refl k) (by simp)
  obtain ⟨v, k1, er, h1, h2, h3⟩ := run72 (N := N - 1) (k := k.view 15 []) J.i72 J.i122 J.i121 (by rw [view_ro, view_size]; exact Nat.le_refl _) (n.mono hkv)
  rw [show N - 1 + 2 = N + 1 by omega] at er
  subst h3
  rw [evalV_call (P := Tryz.prog) (intr := I) (f := 24) (m := 43) (rs := #[.tmp 2, .tmp 3]) J.i24 Tryz.func24 rfl rfl rfl]
  simp (maxDischargeDepth := 16) only [z08, z09, z0a, z0c, z0d, z0e, z0p, z0q, z0s, z0t, z0v, z0w, z0z, z10, z11, z13, z16, z1c, z1e, z1v, z21, z2w, z2x, z3b, z4e, z4f, z4g, z4h, z4i, z4m, z4n, z4o, z4p, z4q, z4r, z4s, z4t, z4u, z4w, z4x, z4y, z50, z51, z53, z7i, z7m, z7n, z7t, evalC_block, Nat.reduceSub, Hp.cell, tFieldAx140x5, tPartx4, tPtrx59, hS, ne_f nS, ne_f0 nS, lt_t nS, lt_t0 nS]
  rw [evalDraw_modes _ _ [(0, 0, 1), (0, 1, 3), (0, 3, 7), (2, 7, 15), (2, 15, 31), (0, 0, 32), (0, 32, 96), (0, 96, 224), (2, 224, 480), (0, 511, 1023), (0, 1023, 2047)] (by kernel_rfl)]
  simp (maxDischargeDepth := 16) only [z0t, z0v, z0x, z0z, z10, z16, z1c, z1e, z1l, z1v, z21, z2w, z2x, z3b, z3h, z46, z4e, z4f, z4g, z4h, z4i, z4j, z4k, z4l, z4m, z4n, z4s, z4u, z4v, z50, z51, z53, z54, z5a, z5j, z5l, z5u, z5x, z6a, z6h, z6o, z6t, z6v, z6x, z70, z71, Nat.reduceAdd, ↓reduceIte, keepR, Hp.cell, hasBx72, tFieldAx140x0, tPartx40, hS, ne_f nS, ne_f0 nS, lt_t nS, lt_t0 nS, ne_f nA, ne_f0 nA, lt_t nA, lt_t0 nA]
  rw [er]
  refine KD2_fresh (Ex _) h1 (vin_flat (v := .agg #[.int .u64 0, .int .u64 0, .int .i64 0, .int .i64 0]) (by simp [flatB])) (show Nat.testBit 31 4 = true by decide) fun mm m1 m2 m3 m4 => ?_
  rw [show keepR 4 k.size k1.size [] = keepS 4 k.size k1.size [] from rfl]
  have hS1 := (m3 _ nS).trans hS
  have vS : ∀ bits, (mm.view bits (keepS 4 k.size k1.size [])).get sb = some (.cells #[.pointer (some ⟨ab, 0, none⟩), .int .u64 0, .int .u64 0, .int .i64 0, .int .i64 0, .slice none 0 0, .map (some mb), .func (.func 73) #[.pointer (some ⟨sb, 0, none⟩)] #[], .bool false, .bool false] true) := fun bits => by
    rw [view_keepS nS, (view_keeps (Keeps.refl mm) (by simp)).get _ (by have := h1.size; rw [view_size] at this; omega)]
    exact hS1
  have nq : aBin Tryz.prog .neq 136 (.agg #[.int .u64 0, .int .u64 0, .int .i64 0, .int .i64 0]) (.agg #[.int .u64 0, .int .u64 0, .int .i64 0, .int .i64 0]) = some (.bool false) := by kernel_rfl
  have hkm : Keeps k mm := ⟨by rw [m1]; have := h1.size; rw [view_size] at this; omega, fun b hb => m3 b hb⟩
  have nSm : sb < mm.size := by have := hkm.size; omega
  have hgm : mm.get sb = some (.cells #[.pointer (some ⟨ab, 0, none⟩), .int .u64 0, .int .u64 0, .int .i64 0, .int .i64 0, .slice none 0 0, .map (some mb), .func (.func 73) #[.pointer (some ⟨sb, 0, none⟩)] #[], .bool false, .bool false] true) := hS1
  have sm : SwAt mm sb ab (.func (.func 73) #[.pointer (some ⟨sb, 0, none⟩)] #[]) false := ⟨mb, hgm, nSm, by rw [m2]; exact hrs⟩
  have rm : mm.ro ≤ mm.size := by have := hkm.size; omega
  obtain ⟨v, k2, er2, g1, ⟨nx', s2⟩, g3⟩ := run73 (N := N) J sm (n.mono hkm) ha hw rm (by omega)
  simp (maxDischargeDepth := 16) only [z04, z08, z09, z0a, z0c, z0d, z0e, z0h, z0p, z0q, z0s, z0t, z0v, z0z, z10, z11, z13, z16, z1c, z1e, z1l, z1v, z21, z2w, z2x, z3b, z3h, z3x, z3y, z3z, z40, z41, z42, z44, z45, z46, z4e, z4f, z4g, z4h, z4i, z4j, z4l, z4m, z4n, z4o, z4p, z4q, z4r, z4s, z4v, z4z, z50, z51, z53, z5a, z5f, z5j, z5l, z5t, z5u, z5x, z62, z63, z6a, z6d, z6g, z6h, z6t, z6x, z7n, z8b, Nat.reduceLeDiff, Nat.reduceAdd, Nat.reduceSub, ↓reduceIte, keepR, Hp.cell, Hp.row, tFieldAx140x1, tFieldAx140x4, tFieldAx140x6, tPartx4, tPartx70, tPartx136, vS, ne_f nS, ne_f0 nS, lt_t nS, lt_t0 nS, nq, hgm, ne_f nSm, ne_f0 nSm, lt_t nSm, lt_t0 nSm, hasBx73]
  subst g1
  obtain ⟨mb2, hg2, n2, hr2⟩ := s2
  rw [er2]
  simp (maxDischargeDepth := 16) only [z05, z08, z09, z0d, z0e, z0o, z0p, z0q, z0r, z0s, z0t, z0v, z0w, z0z, z10, z11, z12, z13, z16, z1c, z1e, z1v, z1y, z21, z2b, z2w, z2x, z3b, z3d, z3f, z4e, z4f, z4g, z4h, z4i, z4m, z4n, z4o, z4z, z50, z51, z52, z53, z5a, z5e, z7n, ↓reduceIte, yielded, Hp.cell, tFieldAx140x6, tPartx4, hg2, ne_f n2, ne_f0 n2, lt_t n2, lt_t0 n2]
  exact ⟨_, _, rfl, rfl, ⟨nx', mb2, hg2, n2, hr2⟩, (Chg.of hkm m2).trans g3⟩
theorem run25 (J : JS I) (n : NewAt k ab wb m) (hro : k.ro ≤ k.size) (hN : 80 < N) : Ex (fun v k' => ∃ sb, v = .tuple #[.pointer (some ⟨sb, 0, none⟩), .int .i64 0] ∧ k.size ≤ sb ∧ SwAt k' sb ab (.func (.func 73) #[.pointer (some ⟨sb, 0, none⟩)] #[]) false ∧ Keeps k k' ∧ k'.ro = k.ro) (evalV Tryz.prog I (N + 1) (.fn 25) #[.pointer (some ⟨ab, 0, none⟩)] k) := by
  obtain ⟨N, rfl⟩ : ∃ n, N = n + 3 := ⟨N - 3, by omega⟩
  have x := (run72 (N := N + 1) J.i72 J.i122 J.i121 hro n).ex
  have x0 : pureP Tryz.prog (Instr.index 142 (.agg #[.int .i64 0, .int .i64 0]) (.int .i64 0)) = some (.int .i64 0) := by kernel_rfl
  have x1 : pureP Tryz.prog (Instr.index 142 (.agg #[.int .i64 0, .int .i64 0]) (.int .i64 1)) = some (.int .i64 0) := by kernel_rfl
  have w1 : IntKind.i64.wrap (0 + 1) = 1 := by decide
  have w2 : IntKind.i64.wrap (1 + 1) = 2 := by decide
  have e0 : ∀ x : Option Nat, (Value.map x).cells = #[.map x] := fun x => rfl
  rw [evalV_call (P := Tryz.prog) (intr := I) (f := 25) (m := 53) (rs := #[.tmp 2, .tmp 3]) J.i25 Tryz.func25 rfl rfl rfl]
  simp (maxDischargeDepth := 16) only [z04, z08, z09, z0a, z0c, z0d, z0e, z0p, z0q, z0s, z0t, z0v, z0w, z0x, z0z, z10, z11, z13, z1l, z3b, z3h, z4e, z4f, z4g, z4h, z4i, z4j, z4k, z4l, z4p, z4q, z4r, z4s, z4t, z4u, z4v, z4w, z4x, z4y, z53, z7i, z7m, z7n, Nat.reduceSub, ↓reduceIte, hasBx72, tPtrx40]
  refine ex_any (Ex _) x fun v k1 ⟨q1, q2, q3⟩ => ?_
  subst q3
  simp (maxDischargeDepth := 16) only [z09, z0d, z0e, z0p, z0q, z0s, z0t, z0v, z0z, z11, z1b, z1h, z2o, z2p, z3b, z3v, z3w, z49, z4a, z4e, z4f, z4g, z4h, z4i, z4j, z4k, z4l, z4p, z4q, z4r, z4z, z50, z51, z53, z72, z7t, z80, z81, z82, z83, Nat.reduceLeDiff, Nat.reduceAdd, ↓reduceIte, tBuildFx140x0, tBuildFx140x1, tBuildFx140x3, tBuildOkx140, tZerox140, op_makeMap, e0]
  rw [evalDraw_modes _ _ [(0, 0, 1), (0, 1, 3), (0, 3, 7), (0, 7, 15), (2, 15, 31), (0, 0, 32), (0, 32, 96), (0, 96, 224), (0, 224, 480), (2, 480, 992), (0, 1023, 2047), (0, 0, 2048)] (by kernel_rfl)]
  simp (maxDischargeDepth := 16) only [z0d, z0e, z0t, z0v, z0w, z0z, z10, z16, z1b, z1c, z1e, z1v, z21, z2m, z2w, z2x, z34, z3a, z3b, z3v, z3w, z44, z45, z46, z49, z4a, z4e, z4f, z4g, z4h, z4i, z4j, z4k, z4l, z4m, z4n, z4o, z4p, z4q, z4r, z4z, z50, z51, z53, z5a, z5f, z5j, z5l, z5t, z5u, z5x, z62, z6a, z6d, z6g, z6h, z6j, z6t, z6v, z6x, z70, z71, z72, z79, z80, z81, z82, z83, evalC_block, Nat.reduceLeDiff, Nat.reduceAdd, ↓reduceIte, Nat.reduceLT, Int.reduceLT, keepR, Hp.cell, tBuildFx142x0, tBuildFx142x1, tBuildOkx142, tFieldAx136x2, tFieldAx136x3, tFieldAx140x1, tPartx3, tZerox142]
  rw [evalC_loop, evalLoop_succ]
  simp (maxDischargeDepth := 16) only [z04, z08, z09, z0a, z0b, z0c, z0d, z0e, z0h, z0k, z0p, z0q, z0s, z0t, z0v, z0w, z0z, z10, z11, z13, z19, z20, z24, z2c, z2d, z3b, z4e, z4f, z4g, z4h, z4i, z5a, z5c, z7n, evalC_block, Nat.reduceLT, Int.reduceLT, x0, w1]
  rw [evalLoop_succ]
  simp (maxDischargeDepth := 16) only [z04, z08, z09, z0a, z0b, z0c, z0d, z0e, z0h, z0k, z0p, z0q, z0s, z0t, z0v, z0w, z0z, z10, z11, z13, z19, z20, z24, z2c, z2d, z3b, z4e, z4f, z4g, z4h, z4i, z5a, z5c, z7n, evalC_block, Nat.reduceLT, Int.reduceLT, x1, w2]
  rw [evalLoop_succ]
  have hro1 : ∀ j, (k1.ro ≤ k1.size + j) = True := fun j => by have := q1.size; simp; omega
  simp (maxDischargeDepth := 16) only [z05, z06, z08, z09, z0a, z0c, z0d, z0e, z0g, z0j, z0m, z0o, z0p, z0q, z0s, z0t, z0u, z0v, z0w, z0z, z10, z11, z13, z16, z1c, z1d, z1f, z1w, z1x, z21, z2d, z2w, z2y, z34, z3b, z3d, z3f, z3v, z3w, z44, z45, z49, z4a, z4c, z4e, z4f, z4g, z4h, z4i, z4j, z4k, z4l, z4p, z4q, z4r, z4z, z50, z51, z52, z53, z5b, z5f, z72, z7n, Nat.reduceLeDiff, Nat.reduceAdd, ↓reduceIte, Nat.reduceLT, Int.reduceLT, Hp.wr, tFieldAx140x4, tSizex70, hro1, cells_func, oneC]
  refine ⟨_, _, rfl, k1.size + 1, rfl, by have := q1.size; omega, ⟨k1.size, get_set_self, by simp, by have := q1.size; simp; omega⟩, ?_, by simpa using q2⟩
  exact ((q1.push _).push _).set (by have := q1.size; omega) _
end
end Go.Abs.D1
