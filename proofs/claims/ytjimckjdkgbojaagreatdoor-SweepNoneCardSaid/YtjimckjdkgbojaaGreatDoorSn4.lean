/- What an arena without blocks tells. -/
import Derived.Test.YtjimckjdkgbojaaGreatDoorSn2
namespace Go.Abs.D1
open Go.Proofs
set_option maxRecDepth 10000
set_option maxHeartbeats 4000000
set_option linter.all false
theorem op_s2a {call : CallF} {a : Act} {h : Hp} {ty arr : TypeId} {x : Operand} : opVal Tryz.prog call (bare (.sliceToArrayPointer arr x) ty) a h = liftP (pureP Tryz.prog (Instr.arrayAt arr (a.eval x))) h := by
  rw [opVal_pure rfl (by intro c hc; cases hc)]; rfl
theorem s2a_val {a : Option Addr} {c : Nat} : pureP Tryz.prog (Instr.arrayAt 333 (.slice a 2 c)) = some (.pointer a) := by
  have hu : Tryz.prog.underlying 333 = some (.array 2 85) := by kernel_rfl
  unfold Instr.arrayAt
  rw [pureP_bind, pureP_underlying, hu]
  simp
structure NewAt (k : Hp) (ab wb m : Nat) : Prop where
  A : ∃ o, k.get ab = some (.cells #[.slice (some ⟨wb, 0, none⟩) (m + 16) (m + 16)] o)
  W : ∃ o, k.get wb = some (.cells (newW m) o)
  a : ab < k.size
  w : wb < k.size
  m1 : 48 ≤ m
  m2 : m ≤ 16368
theorem NewAt.mono {k k' : Hp} {ab wb m : Nat} (n : NewAt k ab wb m) (hk : Keeps k k') : NewAt k' ab wb m := by
  obtain ⟨o1, h1⟩ := n.A
  obtain ⟨o2, h2⟩ := n.W
  exact ⟨⟨o1, (hk.get _ n.a).trans h1⟩, ⟨o2, (hk.get _ n.w).trans h2⟩, Nat.lt_of_lt_of_le n.a hk.size, Nat.lt_of_lt_of_le n.w hk.size, n.m1, n.m2⟩
section
variable {I : Intr} {N : Nat} {k : Hp} {ab wb m : Nat}
theorem slice_new {l : Nat} (hl : l + 2 ≤ m + 16) (hm : m ≤ 16368) : aSlice Tryz.prog 22 (.slice (some ⟨wb, 0, none⟩) (m + 16) (m + 16)) (some (.int .i64 (l : Int))) (some (.int .i64 ((l + 2 : Nat) : Int))) none k = some (.slice (some ⟨wb, l, none⟩) 2 (m + 16 - l), k) := by
  have := aSlice_own (P := Tryz.prog) (t := 22) (s := 1) (k := k) (b := wb) (off := 0) (n := m + 16) (c := m + 16) (l := l) (hh := l + 2) (lov := some (.int .i64 (l : Int))) (hiv := some (.int .i64 ((l + 2 : Nat) : Int))) tElemx22 (by decide) (by simp [bndOk]) (by simp [bndOk]) (.inl ⟨by unfold capOpen; omega, hl⟩) (by omega) (by omega)
  rw [if_pos (by unfold capOpen; omega)] at this
  simpa using this
theorem run122 (h1 : I 122 = none) (n : NewAt k ab wb m) {l : Nat} (hl : l + 2 ≤ 16) : evalV Tryz.prog I (N + 1) (.fn 122) #[.pointer (some ⟨ab, 0, none⟩), .int .i64 (l : Int)] k = some (.pointer (some ⟨wb, l, none⟩), k) := by
  obtain ⟨o1, hA⟩ := n.A
  have w2 : IntKind.i64.wrap ((l : Int) + 2) = ((l + 2 : Nat) : Int) := by rw [i64_in (by omega) (by omega)]; omega
  have sl := fun k => slice_new (k := k) (wb := wb) (m := m) (l := l) (by omega) n.m2
  have nA := n.a
  rw [evalV_call (P := Tryz.prog) (intr := I) (f := 122) (m := 14) (rs := #[.tmp 4]) h1 Tryz.func122 rfl rfl rfl]
  simp (maxDischargeDepth := 16) only [z05, z08, z09, z0d, z0e, z0o, z0p, z0q, z0s, z0t, z0v, z0w, z0z, z10, z11, z13, z16, z1c, z1e, z1k, z1v, z21, z24, z2w, z2x, z3b, z3c, z3f, z4e, z4f, z4g, z4h, z4i, z4m, z4n, z4p, z4q, z4r, z4s, z4t, z4u, z4w, z4x, z4y, z4z, z50, z51, z53, z54, z7n, z87, Nat.reduceAdd, Nat.reduceSub, Hp.cell, tFieldAx99x0, tPartx22, hA, ne_f nA, ne_f0 nA, lt_t nA, lt_t0 nA, w2, sl, op_s2a, s2a_val]
theorem run121 (h1 : I 121 = none) (n : NewAt k ab wb m) {l : Nat} (h0 : 1 ≤ l) (hl : l ≤ 13) : evalV Tryz.prog I (N + 1) (.fn 121) #[.pointer (some ⟨wb, l, none⟩)] k = some (.int .u64 0, k) := by
  obtain ⟨o2, hW⟩ := n.W
  have nW := n.w
  have g1 : (newW m)[l]? = some (.int .u32 0) := by
    match l, h0, hl with
    | 1, _, _ => rfl
    | 2, _, _ => rfl
    | 3, _, _ => rfl
    | 4, _, _ => rfl
    | 5, _, _ => rfl
    | 6, _, _ => rfl
    | 7, _, _ => rfl
    | 8, _, _ => rfl
    | 9, _, _ => rfl
    | 10, _, _ => rfl
    | 11, _, _ => rfl
    | 12, _, _ => rfl
    | 13, _, _ => rfl
  have g2 : (newW m)[l + 1]? = some (.int .u32 0) := by
    match l, h0, hl with
    | 1, _, _ => rfl
    | 2, _, _ => rfl
    | 3, _, _ => rfl
    | 4, _, _ => rfl
    | 5, _, _ => rfl
    | 6, _, _ => rfl
    | 7, _, _ => rfl
    | 8, _, _ => rfl
    | 9, _, _ => rfl
    | 10, _, _ => rfl
    | 11, _, _ => rfl
    | 12, _, _ => rfl
    | 13, _, _ => rfl
  have w0 : IntKind.u64.wrap 0 = 0 := by decide
  have s0 : ishl .u64 0 32 = 0 := by decide
  have o0 : ibOr .u64 0 0 = 0 := by decide
  rw [evalV_call (P := Tryz.prog) (intr := I) (f := 121) (m := 15) (rs := #[.tmp 2]) h1 Tryz.func121 rfl rfl rfl]
  simp (maxDischargeDepth := 16) only [z08, z09, z0d, z0e, z0p, z0q, z0s, z0t, z0w, z11, z4g, z4h, z4i, z4p, z4q, z4r, z4s, z4t, z4u, z4w, z4x, z4y, z53, z7n, z7t, Nat.reduceSub]
  rw [evalDraw_modes _ _ [(0, 0, 1), (0, 1, 3), (0, 3, 7), (2, 7, 15), (0, 15, 31), (0, 31, 63), (0, 0, 64), (0, 64, 192), (0, 192, 448), (2, 448, 960), (0, 960, 1984), (0, 2047, 4095), (0, 4095, 8191)] (by kernel_rfl)]
  simp (maxDischargeDepth := 16) only [z05, z0d, z0e, z0o, z0t, z0v, z0w, z0z, z10, z11, z13, z15, z18, z1c, z1e, z1v, z1z, z21, z28, z2v, z2x, z3b, z3c, z3f, z46, z4e, z4f, z4g, z4h, z4i, z4z, z50, z51, z53, z54, z5a, z5j, z5l, z5t, z5u, z5x, z62, z6a, z6h, z6j, z6t, z6v, z6x, z70, z71, z7q, z7z, Nat.reduceAdd, Nat.reduceMul, ↓reduceIte, Nat.reduceLT, Int.reduceLT, Int.reduceLE, Int.reduceToNat, keepR, Hp.cell, tArrx333, tIntx85x68, tPartx85, hW, ne_f nW, ne_f0 nW, lt_t nW, lt_t0 nW, g1, g2, w0, s0, o0, bin_shl (show (0 : Int) ≤ 32 by decide)]
theorem run72 (i0 : I 72 = none) (i1 : I 122 = none) (i2 : I 121 = none) (hro : k.ro ≤ k.size) (n : NewAt k ab wb m) : Al k (fun _ v => v = .agg #[.int .u64 0, .int .u64 0, .int .i64 0, .int .i64 0]) (evalV Tryz.prog I (N + 2) (.fn 72) #[.pointer (some ⟨ab, 0, none⟩)] k) := by
  obtain ⟨k1, hk1⟩ : ∃ k1, k1 = (k.push (some (.cells #[.int .u64 0, .int .u64 0, .int .i64 0, .int .i64 0] true))) := ⟨_, rfl⟩
  have kk : Keeps k k1 := by rw [hk1]; exact (by repeat (first | assumption | exact Keeps.refl _ | refine Keeps.push ?_ _ | refine Keeps.set ?_ (by first | omega | (simp only [Hp.size_push, Hp.size_setB]; omega)) _))
  have n1 := n.mono kk
  obtain ⟨o1, hA⟩ := n1.A
  obtain ⟨o2, hW⟩ := n1.W
  have nA := n1.a
  have nW := n1.w
  have nnW := n.w
  have nnA := n.a
  have hA0 : k.get ab = _ := (kk.get ab n.a).symm.trans hA
  have hW0 : k.get wb = _ := (kk.get wb n.w).symm.trans hW
  have c122 : ∀ (k' : Hp) (hk : Keeps k k') (l : Nat) (hl : l + 2 ≤ 16), evalV Tryz.prog I (N + 1) (.fn 122) #[.pointer (some ⟨ab, 0, none⟩), .int .i64 (l : Int)] k' = some (.pointer (some ⟨wb, l, none⟩), k') := fun k' hk l hl => run122 i1 (n.mono hk) hl
  have c121 : ∀ (k' : Hp) (hk : Keeps k k') (l : Nat) (h0 : 1 ≤ l) (hl : l ≤ 13), evalV Tryz.prog I (N + 1) (.fn 121) #[.pointer (some ⟨wb, l, none⟩)] k' = some (.int .u64 0, k') := fun k' hk l h0 hl => run121 i2 (n.mono hk) h0 hl
  have e1 := fun k' hk => c122 k' hk 1 (by decide)
  have e3 := fun k' hk => c122 k' hk 3 (by decide)
  have d1 := fun k' hk => c121 k' hk 1 (by decide) (by decide)
  have d3 := fun k' hk => c121 k' hk 3 (by decide) (by decide)
  simp only [nc1, nc3] at e1 e3
  have b5 : (5 : Int) < ((m + 16 : Nat) : Int) := by omega
  have b6 : (6 : Int) < ((m + 16 : Nat) : Int) := by omega
  have g5 : (newW m)[5]? = some (.int .u32 0) := rfl
  have g6 : (newW m)[6]? = some (.int .u32 0) := rfl
  have w0 : IntKind.i64.wrap 0 = 0 := by decide
  have kp : Keeps k (k.push (some (.cells #[.int .u64 0, .int .u64 0, .int .i64 0, .int .i64 0] true))) = True := eq_true (by repeat (first | assumption | exact Keeps.refl _ | refine Keeps.push ?_ _ | refine Keeps.set ?_ (by first | omega | (simp only [Hp.size_push, Hp.size_setB]; omega)) _))
  rw [evalV_call (P := Tryz.prog) (intr := I) (f := 72) (m := 27) (rs := #[.cell 2 136]) i0 Tryz.func72 rfl rfl rfl]
  simp (maxDischargeDepth := 16) only [z04, z08, z09, z0a, z0c, z0d, z0e, z0p, z0q, z0s, z0t, z0v, z0w, z0z, z10, z13, z1g, z2z, z3b, z4e, z4f, z4g, z4h, z4i, z4p, z4q, z4r, z4s, z4t, z4u, z4w, z4x, z4y, z4z, z53, z7i, z7m, z7n, z7t, Nat.reduceSub, tPtrx40, tZerox136]
  rw [evalDraw_modes _ _ [(0, 0, 1), (2, 1, 3), (2, 3, 7), (0, 0, 8), (2, 15, 31), (2, 31, 63), (0, 0, 64), (0, 64, 192), (0, 192, 448), (2, 448, 960), (0, 960, 1984), (2, 1984, 4032), (0, 4032, 8128), (0, 0, 8192), (0, 8192, 24576), (0, 24576, 57344), (2, 57344, 122880), (0, 122880, 253952), (2, 253952, 516096), (0, 516096, 1040384), (0, 1048575, 2097151), (4, 2097151, 4194303)] (by kernel_rfl)]
  have hrr : (k.ro ≤ k.size) = True := eq_true hro
  simp (maxDischargeDepth := 16) only [z05, z0d, z0e, z0o, z0t, z0u, z0v, z0w, z0x, z0z, z10, z15, z16, z18, z1b, z1c, z1e, z1f, z1l, z1v, z1w, z1x, z1z, z21, z2m, z2o, z2u, z2w, z2x, z2y, z33, z34, z3b, z3c, z3g, z3h, z3p, z3v, z3w, z3x, z3y, z3z, z41, z43, z44, z45, z46, z49, z4a, z4b, z4c, z4e, z4f, z4g, z4h, z4i, z4j, z4k, z4l, z4m, z4n, z4p, z4q, z4r, z4s, z4u, z4v, z4z, z50, z51, z53, z54, z5a, z5f, z5j, z5k, z5l, z5t, z5u, z5x, z62, z66, z6a, z6b, z6d, z6g, z6h, z6j, z6o, z6p, z6t, z6v, z6x, z70, z71, z72, z7y, z7z, z80, z81, z82, z83, z8d, Nat.reduceLeDiff, Nat.reduceAdd, Nat.reduceSub, Nat.reduceMul, ↓reduceIte, Int.reduceLE, Int.reduceToNat, keepR, Hp.cell, Hp.row, Hp.wr, hasBx121, hasBx122, tBuildFx136x0, tBuildFx136x1, tBuildFx136x2, tBuildFx136x3, tBuildOkx136, tElemx22, tFieldAx99x0, tIntx85x3, tPartx22, tPartx85, tPartx136, tSizex136, tZerox136, e1, e3, d1, d3, hA0, hW0, ne_f nnA, ne_f0 nnA, lt_t nnA, lt_t0 nnA, ne_f nnW, ne_f0 nnW, lt_t nnW, lt_t0 nnW, b5, b6, g5, g6, w0, kp, hrr]
  exact Al.done (by repeat (first | assumption | exact Keeps.refl _ | refine Keeps.push ?_ _ | refine Keeps.set ?_ (by first | omega | (simp only [Hp.size_push, Hp.size_setB]; omega)) _)) rfl rfl
end
end Go.Abs.D1
