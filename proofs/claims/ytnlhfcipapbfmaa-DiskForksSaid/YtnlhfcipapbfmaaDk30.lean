/- What nothing answers. -/
import Derived.Test.YtnlhfcipapbfmaaDk29
namespace Go.Abs.B1
open Go.Proofs
set_option maxRecDepth 10000
set_option maxHeartbeats 4000000
set_option linter.all false
section
variable {I : Intr} {N : Nat} {k : Hp} {S : Nat → Prop} {b : Nat} {D : DV} {p : Nat → Prop}
theorem nil_act (J : IDk I) (hN : 2 < N) {i : Int} {w : Bool} {g : Value} : evalV Try.prog I N (.fn 85) #[.pointer none, .int .i64 i, .bool w, g] k = some (.int .i64 1, k) := by
  obtain ⟨N, rfl⟩ : ∃ n, N = n + 1 := ⟨N - 1, by omega⟩
  have h := fun k => run_power_nil (N := N) (k := k) J.power (by omega)
  rw [evalV_call (P := Try.prog) (intr := I) (f := 85) (m := 57) (rs := #[.tmp 8]) J.act Try.func85 rfl rfl rfl]
  simp (maxDischargeDepth := 16) only [z05, z08, z09, z0a, z0b, z0d, z0e, z0f, z0o, z0p, z0q, z0s, z0t, z0v, z0w, z0x, z0z, z10, z11, z13, z1l, z2c, z3b, z3c, z3f, z3h, z4e, z4f, z4g, z4h, z4i, z4j, z4k, z4l, z4p, z4q, z4r, z4s, z4t, z4u, z4v, z4w, z4x, z4y, z4z, z53, z5b, z5d, Nat.reduceAdd, Nat.reduceSub, ↓reduceIte, Int.reduceEq, hasBx103, h]
theorem nil_Len (J : IDk I) (hN : 2 < N) : evalV Try.prog I N (.fn 49) #[.pointer none] k = some (.int .i64 0, k) := by
  obtain ⟨N, rfl⟩ : ∃ n, N = n + 1 := ⟨N - 1, by omega⟩
  rw [evalV_call (P := Try.prog) (intr := I) (f := 49) (m := 10) (rs := #[.tmp 2]) J.Len Try.func49 rfl rfl rfl]
  simp (maxDischargeDepth := 16) only [z05, z08, z09, z0a, z0b, z0d, z0e, z0f, z0o, z0p, z0q, z0s, z0t, z0v, z0w, z0z, z10, z11, z13, z3b, z3c, z3f, z4e, z4f, z4g, z4h, z4i, z4p, z4q, z4r, z4s, z4t, z4u, z4w, z4x, z4y, z4z, z53, z7i, z7n, Nat.reduceSub, tPtrx89]
theorem nil_Dead (J : IDk I) (hN : 2 < N) : evalV Try.prog I N (.fn 50) #[.pointer none] k = some (.bool false, k) := by
  obtain ⟨N, rfl⟩ : ∃ n, N = n + 1 := ⟨N - 1, by omega⟩
  rw [evalV_call (P := Try.prog) (intr := I) (f := 50) (m := 11) (rs := #[.tmp 2]) J.Dead Try.func50 rfl rfl rfl]
  simp (maxDischargeDepth := 16) only [z05, z08, z09, z0d, z0e, z0o, z0p, z0q, z0r, z0s, z0t, z0v, z0w, z0z, z10, z11, z12, z13, z1y, z3b, z3c, z3f, z3l, z4e, z4f, z4g, z4h, z4i, z4m, z4n, z4o, z4p, z4q, z4r, z4s, z4t, z4u, z4w, z4x, z4y, z4z, z52, z53, z59, z5c, z7j, z7n, Nat.reduceSub, ↓reduceIte, yielded, tPtrx89]
theorem nil_Ops (J : IDk I) (hN : 2 < N) : evalV Try.prog I N (.fn 51) #[.pointer none] k = some (.int .i64 0, k) := by
  obtain ⟨N, rfl⟩ : ∃ n, N = n + 1 := ⟨N - 1, by omega⟩
  rw [evalV_call (P := Try.prog) (intr := I) (f := 51) (m := 9) (rs := #[.tmp 2]) J.Ops Try.func51 rfl rfl rfl]
  simp (maxDischargeDepth := 16) only [z05, z08, z09, z0a, z0b, z0d, z0e, z0f, z0o, z0p, z0q, z0s, z0t, z0v, z0w, z0z, z10, z11, z13, z3b, z3c, z3f, z4e, z4f, z4g, z4h, z4i, z4p, z4q, z4r, z4s, z4t, z4u, z4w, z4x, z4y, z4z, z53, z7i, z7n, Nat.reduceSub, tPtrx89]
theorem nil_Copy (J : IDk I) (hN : 2 < N) : evalV Try.prog I N (.fn 48) #[.pointer none] k = some (.pointer none, k) := by
  obtain ⟨N, rfl⟩ : ∃ n, N = n + 1 := ⟨N - 1, by omega⟩
  rw [evalV_call (P := Try.prog) (intr := I) (f := 48) (m := 29) (rs := #[.tmp 2]) J.Copy Try.func48 rfl rfl rfl]
  simp (maxDischargeDepth := 16) only [z05, z08, z09, z0a, z0b, z0d, z0e, z0f, z0o, z0p, z0q, z0s, z0t, z0v, z0w, z0z, z10, z11, z13, z3b, z3c, z3f, z4e, z4f, z4g, z4h, z4i, z4p, z4q, z4r, z4s, z4t, z4u, z4w, z4x, z4y, z4z, z53, z7i, z7n, Nat.reduceSub, tPtrx89]
theorem nil_Pending (J : IDk I) (hN : 2 < N) : evalV Try.prog I N (.fn 37) #[.pointer none] k = some (.slice none 0 0, k) := by
  obtain ⟨N, rfl⟩ : ∃ n, N = n + 1 := ⟨N - 1, by omega⟩
  rw [evalV_call (P := Try.prog) (intr := I) (f := 37) (m := 18) (rs := #[.tmp 2]) J.Pending Try.func37 rfl rfl rfl]
  simp (maxDischargeDepth := 16) only [z05, z08, z09, z0a, z0b, z0d, z0e, z0f, z0o, z0p, z0q, z0s, z0t, z0v, z0w, z0z, z10, z11, z13, z3b, z3c, z3f, z4e, z4f, z4g, z4h, z4i, z4p, z4q, z4r, z4s, z4t, z4u, z4w, z4x, z4y, z4z, z53, z7i, z7n, Nat.reduceSub, tPtrx89]
theorem nil_Read (J : IDk I) (hN : 3 < N) (hro : k.ro ≤ k.size) {i : Int} : Al k (fun _ v => v = .tuple #[.agg zeroB.toArray, .int .i64 1]) (evalV Try.prog I N (.fn 46) #[.pointer none, .int .i64 i] k) := by
  obtain ⟨N, rfl⟩ : ∃ n, N = n + 1 := ⟨N - 1, by omega⟩
  have h := fun k i w g => nil_act (N := N) (k := k) (i := i) (w := w) (g := g) J (by omega)
  rw [evalV_call (P := Try.prog) (intr := I) (f := 46) (m := 12) (rs := #[.cell 4 98, .tmp 5]) J.Read Try.func46 rfl rfl rfl]
  have r2 : (k.ro ≤ k.size + 2) = True := by simp; omega
  simp (maxDischargeDepth := 16) only [z05, z08, z09, z0d, z0e, z0o, z0p, z0q, z0s, z0t, z0u, z0v, z0w, z0x, z0z, z10, z11, z1d, z1e, z1f, z1g, z1h, z1l, z1v, z1w, z1x, z2m, z2o, z2p, z2x, z2y, z2z, z33, z34, z36, z38, z39, z3a, z3b, z3d, z3f, z3g, z3h, z3p, z3v, z3w, z3x, z3y, z3z, z41, z43, z44, z45, z46, z49, z4a, z4c, z4e, z4f, z4g, z4h, z4i, z4j, z4k, z4l, z4m, z4n, z4p, z4q, z4r, z4s, z4t, z4u, z4v, z4w, z4x, z4y, z4z, z52, z53, z5f, z72, Nat.reduceEqDiff, Nat.reduceAdd, Nat.reduceSub, ↓reduceIte, Hp.cell, Hp.row, Hp.wr, hasBx85, tPartx3, tPartx89, tPartx98, tSizex98, tZerox98, h, r2]
  exact Al.done (by repeat (first | assumption | exact Keeps.refl _ | refine Keeps.push ?_ _ | refine Keeps.set ?_ (by first | omega | (simp only [Hp.size_push, Hp.size_setB]; omega)) _)) rfl rfl
theorem nil_Write (J : IDk I) (hN : 3 < N) (hro : k.ro ≤ k.size) {i : Int} {x : List Value} (hf : flatOk K98 x) : Al k (fun _ v => v = .int .i64 1) (evalV Try.prog I N (.fn 69) #[.pointer none, .int .i64 i, .agg x.toArray] k) := by
  obtain ⟨N, rfl⟩ : ∃ n, N = n + 1 := ⟨N - 1, by omega⟩
  have h := fun k i w g => nil_act (N := N) (k := k) (i := i) (w := w) (g := g) J (by omega)
  rw [evalV_call (P := Try.prog) (intr := I) (f := 69) (m := 11) (rs := #[.tmp 6]) J.Write Try.func69 rfl rfl rfl]
  simp (maxDischargeDepth := 16) only [z05, z08, z09, z0d, z0e, z0o, z0p, z0q, z0s, z0t, z0v, z0w, z0x, z0z, z11, z1d, z1e, z1h, z1l, z1v, z2m, z2o, z2p, z2x, z34, z36, z38, z39, z3a, z3b, z3c, z3f, z3h, z4a, z4e, z4f, z4g, z4h, z4i, z4j, z4k, z4l, z4m, z4n, z4p, z4q, z4r, z4s, z4t, z4u, z4v, z4w, z4x, z4y, z4z, z53, Nat.reduceEqDiff, Nat.reduceAdd, Nat.reduceSub, ↓reduceIte, Hp.cell, hasBx85, tPartx3, tPartx89, h, flat_all1 hf]
  exact Al.done (by repeat (first | assumption | exact Keeps.refl _ | refine Keeps.push ?_ _ | refine Keeps.set ?_ (by first | omega | (simp only [Hp.size_push, Hp.size_setB]; omega)) _)) rfl rfl
theorem nil_Sync (J : IDk I) (hN : 3 < N) : Al k (fun _ v => v = .int .i64 1) (evalV Try.prog I N (.fn 71) #[.pointer none] k) := by
  obtain ⟨N, rfl⟩ : ∃ n, N = n + 1 := ⟨N - 1, by omega⟩
  have h := fun k i w g => nil_act (N := N) (k := k) (i := i) (w := w) (g := g) J (by omega)
  rw [evalV_call (P := Try.prog) (intr := I) (f := 71) (m := 6) (rs := #[.tmp 2]) J.Sync Try.func71 rfl rfl rfl]
  simp (maxDischargeDepth := 16) only [z05, z08, z09, z0d, z0e, z0o, z0p, z0q, z0s, z0t, z0v, z0w, z0x, z0z, z11, z1d, z1e, z1h, z1l, z1v, z2p, z2x, z34, z3b, z3c, z3f, z3h, z4e, z4f, z4g, z4h, z4i, z4j, z4k, z4l, z4m, z4n, z4p, z4q, z4r, z4s, z4t, z4u, z4v, z4w, z4x, z4y, z4z, z53, Nat.reduceSub, ↓reduceIte, Hp.cell, hasBx85, tPartx89, h]
  exact Al.done (by repeat (first | assumption | exact Keeps.refl _ | refine Keeps.push ?_ _ | refine Keeps.set ?_ (by first | omega | (simp only [Hp.size_push, Hp.size_setB]; omega)) _)) rfl rfl
theorem nil_Arm (J : IDk I) (hN : 3 < N) {n : Int} : Al k (fun _ v => v = .int .i64 1) (evalV Try.prog I N (.fn 72) #[.pointer none, .int .i64 n] k) := by
  obtain ⟨N, rfl⟩ : ∃ n, N = n + 1 := ⟨N - 1, by omega⟩
  have h := fun k => run_power_nil (N := N) (k := k) J.power (by omega)
  rw [evalV_call (P := Try.prog) (intr := I) (f := 72) (m := 16) (rs := #[.tmp 4]) J.Arm Try.func72 rfl rfl rfl]
  simp (maxDischargeDepth := 16) only [z04, z05, z08, z09, z0a, z0c, z0d, z0e, z0o, z0p, z0q, z0s, z0t, z0v, z0w, z0x, z0z, z10, z11, z13, z1l, z2b, z3b, z3c, z3f, z3h, z4e, z4f, z4g, z4h, z4i, z4j, z4k, z4l, z4p, z4q, z4r, z4s, z4t, z4u, z4v, z4w, z4x, z4y, z4z, z53, z5b, Nat.reduceAdd, Nat.reduceSub, ↓reduceIte, Int.reduceEq, hasBx103, h]
  exact Al.done (by repeat (first | assumption | exact Keeps.refl _ | refine Keeps.push ?_ _ | refine Keeps.set ?_ (by first | omega | (simp only [Hp.size_push, Hp.size_setB]; omega)) _)) rfl rfl
theorem nil_Fail (J : IDk I) (hN : 3 < N) {n : Int} : Al k (fun _ v => v = .int .i64 1) (evalV Try.prog I N (.fn 73) #[.pointer none, .int .i64 n] k) := by
  obtain ⟨N, rfl⟩ : ∃ n, N = n + 1 := ⟨N - 1, by omega⟩
  have h := fun k => run_power_nil (N := N) (k := k) J.power (by omega)
  rw [evalV_call (P := Try.prog) (intr := I) (f := 73) (m := 16) (rs := #[.tmp 4]) J.Fail Try.func73 rfl rfl rfl]
  simp (maxDischargeDepth := 16) only [z04, z05, z08, z09, z0a, z0c, z0d, z0e, z0o, z0p, z0q, z0s, z0t, z0v, z0w, z0x, z0z, z10, z11, z13, z1l, z2b, z3b, z3c, z3f, z3h, z4e, z4f, z4g, z4h, z4i, z4j, z4k, z4l, z4p, z4q, z4r, z4s, z4t, z4u, z4v, z4w, z4x, z4y, z4z, z53, z5b, Nat.reduceAdd, Nat.reduceSub, ↓reduceIte, Int.reduceEq, hasBx103, h]
  exact Al.done (by repeat (first | assumption | exact Keeps.refl _ | refine Keeps.push ?_ _ | refine Keeps.set ?_ (by first | omega | (simp only [Hp.size_push, Hp.size_setB]; omega)) _)) rfl rfl
theorem nil_Crash (J : IDk I) (hN : 3 < N) {a : Option Addr} {n c : Nat} : Al k (fun _ v => v = .int .i64 1) (evalV Try.prog I N (.fn 44) #[.pointer none, .slice a n c] k) := by
  obtain ⟨N, rfl⟩ : ∃ n, N = n + 1 := ⟨N - 1, by omega⟩
  rw [evalV_call (P := Try.prog) (intr := I) (f := 44) (m := 19) (rs := #[.tmp 4]) J.Crash Try.func44 rfl rfl rfl]
  simp (maxDischargeDepth := 16) only [z05, z08, z09, z0a, z0b, z0d, z0e, z0f, z0o, z0p, z0q, z0s, z0t, z0v, z0w, z0z, z10, z11, z13, z1h, z2q, z3b, z3c, z3f, z4e, z4f, z4g, z4h, z4i, z4p, z4q, z4r, z4s, z4t, z4u, z4w, z4x, z4y, z4z, z53, z7i, z7n, Nat.reduceAdd, Nat.reduceSub, tPtrx89]
  exact Al.done (by repeat (first | assumption | exact Keeps.refl _ | refine Keeps.push ?_ _ | refine Keeps.set ?_ (by first | omega | (simp only [Hp.size_push, Hp.size_setB]; omega)) _)) rfl rfl
theorem nil_does (J : IDk I) (L : ILw I) (hN : 120 < N) (hro : k.ro ≤ k.size) {cs : List Value} {x : T94} (r : R94.r false p k cs x) (hp : ∀ c, p c → c < k.size) :
    Al k (fun _ v => v = .tuple #[.agg zeroB.toArray, .int .i64 1]) (evalV Try.prog I N (.fn 38) #[.pointer none, .agg cs.toArray] k) := by
  obtain ⟨N, rfl⟩ : ∃ n, N = n + 1 := ⟨N - 1, by omega⟩
  have r00 := r
  obtain ⟨v1, rfl, b1, b2, b3, b4, r5⟩ := R94_inv r
  have o1 := (Rp.slice Rp.bool).rone r5 v1 (List.mem_singleton.2 rfl)
  have hzb : zeroB.length = 64 := rfl
  have hz64 : 64 ≤ zeroB.length := by decide
  have oz : zeroB.all oneC = true := rfl
  have tkz : zeroB.take 64 = zeroB := rfl
  have spzz : splice zeroB.toArray 0 zeroB = zeroB.toArray := splice_full (by simp)
  rw [evalV_call (P := Try.prog) (intr := I) (f := 38) (m := 48) (rs := #[.cell 4 98, .tmp 5]) L.does Try.func38 rfl rfl rfl]
  simp (maxDischargeDepth := 16) only [z08, z09, z0d, z0e, z0p, z0q, z0s, z0t, z0v, z0w, z0x, z0z, z11, z1e, z1g, z1h, z1l, z1v, z2o, z2x, z2z, z34, z38, z39, z3b, z3h, z3x, z3y, z3z, z41, z43, z46, z4a, z4e, z4f, z4g, z4h, z4i, z4j, z4k, z4l, z4p, z4q, z4r, z4s, z4t, z4u, z4v, z4w, z4x, z4y, z4z, z53, Nat.reduceAdd, Nat.reduceSub, ↓reduceIte, Hp.row, hasBx39, tPartx94, tZerox98]
  refine ex_any (Al k _) (Al.ex (run_kind L (N := N) (p := p) (by omega) (R94.mono r00 (fun _ h => h) id (Keeps.fr (h := k) (by repeat (first | assumption | exact Keeps.refl _ | refine Keeps.push ?_ _ | refine Keeps.set ?_ (by first | omega | (simp only [Hp.size_push, Hp.size_setB]; omega)) _)) hp)))) ?_
  rintro _ k1 ⟨hk1, hr1, rfl⟩
  simp only [Hp.ro_push] at hr1
  have s1 := hk1.size
  simp only [Hp.size_push] at s1
  have kk : Keeps k k1 := Keeps.trans (by repeat (first | assumption | exact Keeps.refl _ | refine Keeps.push ?_ _ | refine Keeps.set ?_ (by first | omega | (simp only [Hp.size_push, Hp.size_setB]; omega)) _)) hk1
  have g0 := hk1.get k.size (by simp only [Hp.size_push]; omega)
  have g1 := hk1.get (k.size + 1) (by simp only [Hp.size_push]; omega)
  simp (maxDischargeDepth := 16) only [z34, z38, z39, z4a, ↓reduceIte] at g0 g1
  have g1 : k1.get (k.size + 1) = some (.cells zeroB.toArray true) := g1
  have n0 : k.size < k1.size := by omega
  have n1 : k.size + 1 < k1.size := by omega
  have r1 := R94.mono r00 (fun _ h => h) id (kk.fr hp)
  clear hk1
  simp (maxDischargeDepth := 16) only [z08, z09, z0a, z0d, z0e, z0p, z0q, z0s, z0t, z0v, z0w, z0z, z11, z13, z2b, z3b, z4e, z4f, z4g, z4h, z4i, evalC_block]
  by_cases h5 : kindN x = 5
  · simp (maxDischargeDepth := 16) only [z08, z0b, z0q, z0s, z0t, z0v, z0x, z0z, z10, z16, z1e, z1l, z1v, z2w, z2x, z3b, z3h, z4e, z4f, z4g, z4h, z4i, z4j, z4k, z4l, z4m, z4n, z4o, z4s, z4u, z4v, z50, z51, z53, z5a, ↓reduceIte, Hp.cell, hasBx46, tFieldAx94x1, tPartx3, eq_true h5, g0, ne_f n0, ne_f0 n0, lt_t n0, lt_t0 n0, ne_f n1, ne_f0 n1, lt_t n1, lt_t0 n1]
    refine ex_any (Al k _) (Al.ex (nil_Read (N := N) (k := k1) J (by omega) (by omega))) ?_
    rintro _ k2 ⟨hk2, hr2, rfl⟩
    have s2 := hk2.size
    have z1 := (hk2.get (k.size + 1) n1).trans g1
    have m1 : k.size + 1 < k2.size := by omega
    have q1 : (k2.ro ≤ k.size + 1) = True := by simp; omega
    simp (maxDischargeDepth := 16) only [z05, z08, z09, z0d, z0e, z0h, z0o, z0p, z0q, z0s, z0t, z0u, z0v, z0z, z10, z11, z1a, z1e, z1f, z1v, z1w, z1x, z2o, z2t, z2x, z2y, z33, z3b, z3d, z3f, z3g, z3x, z3y, z3z, z46, z49, z4d, z4e, z4f, z4g, z4h, z4i, z4m, z4n, z4o, z4p, z4z, z52, z53, z72, Nat.reduceSub, ↓reduceIte, Hp.row, Hp.wr, tPartx98, tSizex98, z1, ne_f m1, ne_f0 m1, lt_t m1, lt_t0 m1, q1, hzb, oz, tkz, spzz]
    exact Al.done ⟨by simp only [Hp.size_setB]; omega, fun c hc => by rw [get_set_ne (by omega), get_set_ne (by omega)]; exact (kk.trans hk2).get c hc⟩ (by simp only [Hp.ro_setB]; omega) rfl
  by_cases h6 : kindN x = 6
  · simp (maxDischargeDepth := 16) only [z08, z09, z0a, z0b, z0c, z0d, z0e, z0p, z0q, z0s, z0t, z0v, z0w, z0x, z0z, z10, z11, z13, z1l, z2b, z3b, z3h, z4e, z4f, z4g, z4h, z4i, z4j, z4k, z4l, z4s, z4u, z4v, z5a, z5b, ↓reduceIte, hasBx71, h5, eq_true h6, ne_f n0, ne_f0 n0, lt_t n0, lt_t0 n0, ne_f n1, ne_f0 n1, lt_t n1, lt_t0 n1]
    refine ex_any (Al k _) (Al.ex (nil_Sync (N := N) J (by omega))) ?_
    rintro _ k2 ⟨hk2, hr2, rfl⟩
    have s2 := hk2.size
    have z1 := (hk2.get (k.size + 1) n1).trans g1
    have m1 : k.size + 1 < k2.size := by omega
    have q1 : (k2.ro ≤ k.size + 1) = True := by simp; omega
    simp (maxDischargeDepth := 16) only [z05, z08, z09, z0d, z0e, z0h, z0o, z0p, z0q, z0s, z0t, z0u, z0v, z0z, z10, z11, z1e, z1f, z1v, z1w, z1x, z2o, z2x, z2y, z33, z3b, z3d, z3f, z3g, z3x, z3y, z3z, z46, z49, z4e, z4f, z4g, z4h, z4i, z4p, z4z, z52, z53, z72, Nat.reduceSub, ↓reduceIte, Hp.row, Hp.wr, tPartx98, tSizex98, z1, ne_f m1, ne_f0 m1, lt_t m1, lt_t0 m1, q1, hzb, oz, tkz, spzz]
    exact Al.done ⟨by simp only [Hp.size_setB]; omega, fun c hc => by rw [get_set_ne (by omega)]; exact (kk.trans hk2).get c hc⟩ (by simp only [Hp.ro_setB]; omega) rfl
  by_cases h7 : kindN x = 7
  · simp (maxDischargeDepth := 16) only [z08, z09, z0a, z0b, z0c, z0d, z0e, z0p, z0q, z0s, z0t, z0v, z0w, z0x, z0z, z10, z11, z13, z16, z1e, z1l, z1v, z2b, z2w, z2x, z3b, z3h, z4e, z4f, z4g, z4h, z4i, z4j, z4k, z4l, z4m, z4n, z4o, z4s, z4u, z4v, z50, z51, z53, z5a, z5b, ↓reduceIte, Hp.cell, hasBx72, tFieldAx94x2, tPartx3, h5, h6, eq_true h7, g0, ne_f n0, ne_f0 n0, lt_t n0, lt_t0 n0, ne_f n1, ne_f0 n1, lt_t n1, lt_t0 n1]
    refine ex_any (Al k _) (Al.ex (nil_Arm (N := N) J (by omega))) ?_
    rintro _ k2 ⟨hk2, hr2, rfl⟩
    have s2 := hk2.size
    have z1 := (hk2.get (k.size + 1) n1).trans g1
    have m1 : k.size + 1 < k2.size := by omega
    have q1 : (k2.ro ≤ k.size + 1) = True := by simp; omega
    simp (maxDischargeDepth := 16) only [z05, z08, z09, z0d, z0e, z0h, z0o, z0p, z0q, z0s, z0t, z0u, z0v, z0z, z10, z11, z1e, z1f, z1v, z1w, z1x, z2o, z2x, z2y, z33, z3b, z3d, z3f, z3g, z3x, z3y, z3z, z46, z49, z4e, z4f, z4g, z4h, z4i, z4p, z4z, z52, z53, z72, Nat.reduceSub, ↓reduceIte, Hp.row, Hp.wr, tPartx98, tSizex98, z1, ne_f m1, ne_f0 m1, lt_t m1, lt_t0 m1, q1, hzb, oz, tkz, spzz]
    exact Al.done ⟨by simp only [Hp.size_setB]; omega, fun c hc => by rw [get_set_ne (by omega)]; exact (kk.trans hk2).get c hc⟩ (by simp only [Hp.ro_setB]; omega) rfl
  by_cases h8 : kindN x = 8
  · simp (maxDischargeDepth := 16) only [z08, z09, z0a, z0b, z0c, z0d, z0e, z0p, z0q, z0s, z0t, z0v, z0w, z0x, z0z, z10, z11, z13, z16, z1e, z1l, z1v, z2b, z2w, z2x, z3b, z3h, z4e, z4f, z4g, z4h, z4i, z4j, z4k, z4l, z4m, z4n, z4o, z4s, z4u, z4v, z50, z51, z53, z5a, z5b, ↓reduceIte, Hp.cell, hasBx73, tFieldAx94x2, tPartx3, h5, h6, h7, eq_true h8, g0, ne_f n0, ne_f0 n0, lt_t n0, lt_t0 n0, ne_f n1, ne_f0 n1, lt_t n1, lt_t0 n1]
    refine ex_any (Al k _) (Al.ex (nil_Fail (N := N) J (by omega))) ?_
    rintro _ k2 ⟨hk2, hr2, rfl⟩
    have s2 := hk2.size
    have z1 := (hk2.get (k.size + 1) n1).trans g1
    have m1 : k.size + 1 < k2.size := by omega
    have q1 : (k2.ro ≤ k.size + 1) = True := by simp; omega
    simp (maxDischargeDepth := 16) only [z05, z08, z09, z0d, z0e, z0h, z0o, z0p, z0q, z0s, z0t, z0u, z0v, z0z, z10, z11, z1e, z1f, z1v, z1w, z1x, z2o, z2x, z2y, z33, z3b, z3d, z3f, z3g, z3x, z3y, z3z, z46, z49, z4e, z4f, z4g, z4h, z4i, z4p, z4z, z52, z53, z72, Nat.reduceSub, ↓reduceIte, Hp.row, Hp.wr, tPartx98, tSizex98, z1, ne_f m1, ne_f0 m1, lt_t m1, lt_t0 m1, q1, hzb, oz, tkz, spzz]
    exact Al.done ⟨by simp only [Hp.size_setB]; omega, fun c hc => by rw [get_set_ne (by omega)]; exact (kk.trans hk2).get c hc⟩ (by simp only [Hp.ro_setB]; omega) rfl
  by_cases h9 : kindN x = 9
  · simp (maxDischargeDepth := 16) only [z08, z09, z0a, z0b, z0c, z0d, z0e, z0p, z0q, z0s, z0t, z0v, z0w, z0x, z0z, z10, z11, z13, z1e, z1l, z1v, z2b, z2x, z3b, z3h, z3x, z3y, z3z, z41, z43, z46, z4e, z4f, z4g, z4h, z4i, z4j, z4k, z4l, z4p, z4q, z4r, z4s, z4u, z4v, z4z, z53, z5a, z5b, Nat.reduceAdd, Nat.reduceSub, ↓reduceIte, Hp.row, hasBx74, tPartx94, h5, h6, h7, h8, eq_true h9, g0, ne_f n0, ne_f0 n0, lt_t n0, lt_t0 n0, ne_f n1, ne_f0 n1, lt_t n1, lt_t0 n1]
    refine ex_any (Al k _) (Al.ex (run_keep L (N := N) (by omega) (by omega) r1 (fun c hc => by have := hp c hc; omega))) ?_
    rintro u k3 ⟨hk3, hr3, q, ok, hq⟩
    have g1 := (hk3.get _ n1).trans g1
    have n1 : k.size + 1 < k3.size := by have := hk3.size; omega
    obtain ⟨au, cu, rfl⟩ := ok.form
    simp (maxDischargeDepth := 16) only [z0q, z0s, z0t, z0v, z0x, z1l, z3b, z3h, z4e, z4f, z4g, z4h, z4i, z4j, z4k, z4l, z4s, z4u, z4v, ↓reduceIte, hasBx44]
    refine ex_any (Al k _) (Al.ex (nil_Crash (N := N) J (by omega))) ?_
    rintro _ k2 ⟨hk2, hr2, rfl⟩
    have kk := kk.trans hk3
    have s2 := hk2.size
    have z1 := (hk2.get (k.size + 1) n1).trans g1
    have m1 : k.size + 1 < k2.size := by omega
    have q1 : (k2.ro ≤ k.size + 1) = True := by simp; omega
    simp (maxDischargeDepth := 16) only [z05, z08, z09, z0d, z0e, z0h, z0o, z0p, z0q, z0s, z0t, z0u, z0v, z0z, z10, z11, z1e, z1f, z1v, z1w, z1x, z2o, z2x, z2y, z33, z3b, z3d, z3f, z3g, z3x, z3y, z3z, z46, z49, z4e, z4f, z4g, z4h, z4i, z4p, z4z, z52, z53, z72, Nat.reduceSub, ↓reduceIte, Hp.row, Hp.wr, tPartx98, tSizex98, z1, ne_f m1, ne_f0 m1, lt_t m1, lt_t0 m1, q1, hzb, oz, tkz, spzz]
    exact Al.done ⟨by simp only [Hp.size_setB]; omega, fun c hc => by rw [get_set_ne (by omega)]; exact (kk.trans hk2).get c hc⟩ (by simp only [Hp.ro_setB]; omega) rfl
  simp (maxDischargeDepth := 16) only [z08, z09, z0a, z0c, z0d, z0e, z0p, z0q, z0s, z0t, z0v, z0w, z0z, z11, z13, z2b, z3b, z4e, z4f, z4g, z4h, z4i, z5b, z7t, h5, h6, h7, h8, h9]
  rw [evalDraw_modes _ _ [(0, 0, 1), (0, 0, 2), (2, 2, 6), (0, 0, 8), (2, 8, 24), (2, 24, 56), (4, 63, 127), (0, 127, 255)] (by kernel_rfl)]
  simp (maxDischargeDepth := 16) only [z0t, z0v, z0x, z0z, z10, z16, z1e, z1l, z1v, z2w, z2x, z3b, z3h, z46, z4e, z4f, z4g, z4h, z4i, z4j, z4k, z4l, z4m, z4n, z4o, z4s, z4u, z4v, z50, z51, z53, z5a, z5j, z5l, z5u, z5x, z62, z65, z6a, z6h, z6j, z6t, z6v, z6x, z70, z71, Nat.reduceAdd, ↓reduceIte, keepR, Hp.cell, hasBx75, tFieldAx94x1, tFieldAx94x3, tPartx3, tPartx5, g0, ne_f n0, ne_f0 n0, lt_t n0, lt_t0 n0, ne_f n1, ne_f0 n1, lt_t n1, lt_t0 n1]
  refine kd2Q (Al k _) (run_block L (N := N) (f := x.2.2.2.1) (by omega) (by rw [view_ro, view_size]; omega) b4) (fun v k' _ h => by rw [h]; exact vin_agg (vin_flatOk (blockL_flat b4))) (by decide) ?_
  rintro _ k3 m hk3 rfl ms mr mg -
  have s3 := hk3.size
  rw [view_size] at s3
  have km : Keeps k1 m := ⟨by omega, mg⟩
  simp (maxDischargeDepth := 16) only [z0t, z0v, z0x, z1l, z3b, z3h, z4e, z4f, z4g, z4h, z4i, z4j, z4k, z4l, z4s, z4u, z4v, z8d, Nat.reduceAdd, ↓reduceIte, hasBx69]
  refine ex_kd1 (Al k _) (Al.ex (nil_Write (N := N) J (by omega) (by omega) (blockL_flat b4))) (fun v k' h => h.1.size) (fun v k' h => by rw [h.2.2]; exact vin_flat flatB_int) (by decide) ?_
  rintro _ k2 ⟨hk2, hr2, rfl⟩
  have kk := kk.trans km
  have g1 := (mg _ n1).trans g1
  have n1 : k.size + 1 < m.size := by omega
  have s2 := hk2.size
  have z1 := (hk2.get (k.size + 1) n1).trans g1
  have m1 : k.size + 1 < k2.size := by omega
  have q1 : (k2.ro ≤ k.size + 1) = True := by simp; omega
  simp (maxDischargeDepth := 16) only [z05, z08, z09, z0d, z0e, z0h, z0o, z0p, z0q, z0s, z0t, z0u, z0v, z0z, z10, z11, z1e, z1f, z1v, z1w, z1x, z2o, z2x, z2y, z33, z3b, z3d, z3f, z3g, z3x, z3y, z3z, z46, z49, z4e, z4f, z4g, z4h, z4i, z4p, z4z, z52, z53, z5j, z5t, z5u, z62, z72, Nat.reduceAdd, Nat.reduceSub, ↓reduceIte, Hp.row, Hp.wr, tPartx98, tSizex98, z1, ne_f m1, ne_f0 m1, lt_t m1, lt_t0 m1, q1, hzb, oz, tkz, spzz]
  exact Al.done ⟨by simp only [Hp.size_setB]; omega, fun c hc => by rw [get_set_ne (by omega)]; exact (kk.trans hk2).get c hc⟩ (by simp only [Hp.ro_setB]; omega) rfl
end
end Go.Abs.B1
