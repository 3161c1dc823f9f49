/- The document's disk: acts, what is shown. -/
import Derived.Test.YtnlhfcipapbfmaaDk15
namespace Go.Abs.B1
open Go.Proofs
set_option maxRecDepth 10000
set_option maxHeartbeats 4000000
set_option linter.all false
def mdV (v1 v2 : Value) (E : DV) : Value := .agg #[v1, v2, .int .i64 E.2.2.1, .int .i64 E.2.2.2.1, .bool E.2.2.2.2.1, .int .i64 E.2.2.2.2.2]
structure IRf (I : Intr) : Prop where
  New : I 41 = none
  All : I 45 = none
  Shows : I 47 = none
  Read : I 79 = none
  Sync : I 80 = none
  Crash : I 81 = none
  Write : I 82 = none
  Act : I 107 = none
  Down : I 108 = none
section
variable {I : Intr} {N : Nat} {k : Hp} {S : Nat → Prop} {b : Nat} {D : DV} {p : Nat → Prop}
theorem run_rAct (J : IRf I) (hN : 0 < N) (hro : k.ro ≤ k.size) {v1 v2 : Value} {a : Option Addr} {c : Nat} (hv1 : v1 = .slice a D.1.length c) (hv2 : oneC v2 = true) {i : Int} {w : Bool} :
    Al k (fun _ u => u = .tuple #[mdV v1 v2 (actS D i w).1, .int .i64 (actS D i w).2]) (evalV Try.prog I N (.fn 107) #[mdV v1 v2 D, .int .i64 i, .bool w] k) := by
  obtain ⟨N, rfl⟩ : ∃ n, N = n + 1 := ⟨N - 1, by omega⟩
  subst hv1
  have r0 : ∀ j, (k.ro ≤ k.size + j) = True := fun j => by simp; omega
  have r00 : (k.ro ≤ k.size) = True := by simp [hro]
  rw [evalV_call (P := Try.prog) (intr := I) (f := 107) (m := 57) (rs := #[.cell 6 113, .tmp 7]) J.Act Try.func107 rfl rfl rfl]
  unfold mdV
  by_cases q1 : D.2.2.2.2.1 = true
  · have ea : actS D i w = (D, 9) := by unfold actS; rw [if_pos q1]
    simp (maxDischargeDepth := 16) only [z05, z08, z09, z0a, z0b, z0d, z0e, z0f, z0o, z0p, z0q, z0s, z0t, z0u, z0v, z0w, z0z, z11, z16, z1e, z1f, z1g, z1h, z1v, z1w, z1x, z2o, z2w, z2x, z2y, z2z, z33, z34, z38, z39, z3b, z3d, z3f, z3g, z3p, z3q, z3s, z3v, z3w, z3x, z3y, z3z, z41, z43, z44, z45, z46, z49, z4a, z4c, z4e, z4f, z4g, z4h, z4i, z4m, z4n, z4o, z4p, z4q, z4r, z4s, z4t, z4u, z4w, z4x, z4y, z4z, z50, z51, z52, z53, z5f, z72, Nat.reduceAdd, Nat.reduceSub, ↓reduceIte, Hp.cell, Hp.row, Hp.wr, tFieldAx113x4, tPartx4, tPartx113, tSizex113, tZerox113, r0, q1, hv2]
    rw [ea]
    exact Al.done (by repeat (first | assumption | exact Keeps.refl _ | refine Keeps.push ?_ _ | refine Keeps.set ?_ (by first | omega | (simp only [Hp.size_push, Hp.size_setB]; omega)) _)) rfl (by rw [q1])
  have q1' : D.2.2.2.2.1 = false := by simpa using q1
  by_cases q2 : i < 0
  · have ea : actS D i w = (D, 2) := by unfold actS; rw [if_neg q1, if_pos (.inl q2)]
    simp (maxDischargeDepth := 16) only [z04, z05, z08, z09, z0a, z0b, z0c, z0d, z0e, z0f, z0o, z0p, z0q, z0r, z0s, z0t, z0u, z0v, z0w, z0z, z10, z11, z12, z13, z16, z1e, z1f, z1g, z1h, z1v, z1w, z1x, z1y, z2d, z2o, z2w, z2x, z2y, z2z, z33, z34, z38, z39, z3b, z3d, z3f, z3g, z3k, z3p, z3q, z3s, z3v, z3w, z3x, z3y, z3z, z41, z43, z44, z45, z46, z49, z4a, z4c, z4e, z4f, z4g, z4h, z4i, z4m, z4n, z4o, z4p, z4q, z4r, z4s, z4t, z4u, z4w, z4x, z4y, z4z, z50, z51, z52, z53, z59, z5a, z5f, z72, Nat.reduceAdd, Nat.reduceSub, ↓reduceIte, yielded, Hp.cell, Hp.row, Hp.wr, tFieldAx113x4, tPartx4, tPartx113, tSizex113, tZerox113, r0, q1', q2, hv2]
    rw [ea]
    exact Al.done (by repeat (first | assumption | exact Keeps.refl _ | refine Keeps.push ?_ _ | refine Keeps.set ?_ (by first | omega | (simp only [Hp.size_push, Hp.size_setB]; omega)) _)) rfl (by rw [q1'])
  by_cases q3 : (D.1.length : Int) ≤ i
  · have ea : actS D i w = (D, 2) := by unfold actS; rw [if_neg q1, if_pos (.inr q3)]
    simp (maxDischargeDepth := 16) only [z04, z05, z08, z09, z0a, z0b, z0c, z0d, z0e, z0f, z0o, z0p, z0q, z0r, z0s, z0t, z0u, z0v, z0w, z0z, z10, z11, z12, z13, z16, z1e, z1f, z1g, z1h, z1p, z1r, z1v, z1w, z1x, z1y, z2d, z2g, z2o, z2w, z2x, z2y, z2z, z33, z34, z38, z39, z3b, z3d, z3f, z3g, z3p, z3q, z3s, z3v, z3w, z3x, z3y, z3z, z41, z43, z44, z45, z46, z49, z4a, z4c, z4e, z4f, z4g, z4h, z4i, z4m, z4n, z4o, z4p, z4q, z4r, z4s, z4t, z4u, z4w, z4x, z4y, z4z, z50, z51, z52, z53, z54, z59, z5a, z5b, z5e, z5f, z72, Nat.reduceAdd, Nat.reduceSub, ↓reduceIte, yielded, Hp.cell, Hp.row, Hp.wr, tFieldAx113x0, tFieldAx113x4, tLenx110, tPartx4, tPartx110, tPartx113, tSizex113, tZerox113, r0, q1', q2, q3, hv2]
    rw [ea]
    exact Al.done (by repeat (first | assumption | exact Keeps.refl _ | refine Keeps.push ?_ _ | refine Keeps.set ?_ (by first | omega | (simp only [Hp.size_push, Hp.size_setB]; omega)) _)) rfl (by rw [q1'])
  have q23 : ¬ (i < 0 ∨ (D.1.length : Int) ≤ i) := by simp [q2, q3]
  have ea : actS D i w = if w = true ∧ D.2.2.1 = 0 then ((D.1, D.2.1, D.2.2.1, dn D.2.2.2.1, true, D.2.2.2.2.2), 9) else
      if D.2.2.2.1 = 0 then ((D.1, D.2.1, D.2.2.1, dn D.2.2.2.1, D.2.2.2.2.1, D.2.2.2.2.2), 8) else
      ((D.1, D.2.1, if w = true then dn D.2.2.1 else D.2.2.1, dn D.2.2.2.1, D.2.2.2.2.1, IntKind.i64.wrap (D.2.2.2.2.2 + 1)), 0) := by unfold actS; rw [if_neg q1, if_neg q23]
  by_cases q4 : 0 ≤ D.2.2.2.1
  case' pos => have hdn : dn D.2.2.2.1 = IntKind.i64.wrap (D.2.2.2.1 - 1) := if_pos q4
  case' neg =>
    have hdn : dn D.2.2.2.1 = D.2.2.2.1 := if_neg q4
    have q6' : ¬ D.2.2.2.1 = 0 := by omega
  all_goals
    cases w with
    | true =>
      by_cases q5 : D.2.2.1 = 0
      · rw [if_pos ⟨rfl, q5⟩, hdn] at ea
        rw [ea]
        by_cases q6 : D.2.2.2.1 = 0 <;> simp (maxDischargeDepth := 16) only [z04, z05, z08, z09, z0a, z0b, z0c, z0d, z0e, z0f, z0o, z0p, z0q, z0r, z0s, z0t, z0u, z0v, z0w, z0z, z10, z11, z12, z13, z16, z1e, z1f, z1g, z1h, z1p, z1r, z1v, z1w, z1x, z1y, z25, z2b, z2d, z2g, z2m, z2n, z2o, z2w, z2x, z2y, z2z, z33, z34, z35, z37, z38, z39, z3b, z3d, z3f, z3g, z3p, z3q, z3s, z3v, z3w, z3x, z3y, z3z, z41, z43, z44, z45, z46, z49, z4a, z4c, z4d, z4e, z4f, z4g, z4h, z4i, z4m, z4n, z4o, z4p, z4q, z4r, z4s, z4t, z4u, z4w, z4x, z4y, z4z, z50, z51, z52, z53, z54, z59, z5a, z5b, z5e, z5f, z72, Nat.reduceLeDiff, Nat.reduceAdd, Nat.reduceSub, ↓reduceIte, Int.reduceLE, yielded, Hp.cell, Hp.row, Hp.wr, tFieldAx113x0, tFieldAx113x2, tFieldAx113x3, tFieldAx113x4, tLenx110, tPartx3, tPartx4, tPartx110, tPartx113, tSizex3, tSizex4, tSizex113, tZerox113, r0, r00, q1', q2, q3, q4, eq_true q5, q6, hv2] <;> exact Al.done (by repeat (first | assumption | exact Keeps.refl _ | refine Keeps.push ?_ _ | refine Keeps.set ?_ (by first | omega | (simp only [Hp.size_push, Hp.size_setB]; omega)) _)) rfl (by first | (exfalso; omega) | rfl | (rw [q5]) | simp [q5, q6])
      · rw [if_neg (by simp [q5]), hdn] at ea
        by_cases q6 : D.2.2.2.1 = 0
        · rw [if_pos q6] at ea
          rw [ea]
          simp (maxDischargeDepth := 16) only [z04, z05, z08, z09, z0a, z0b, z0c, z0d, z0e, z0f, z0o, z0p, z0q, z0r, z0s, z0t, z0u, z0v, z0w, z0z, z10, z11, z12, z13, z16, z1e, z1f, z1g, z1h, z1p, z1r, z1v, z1w, z1x, z1y, z25, z2b, z2d, z2g, z2m, z2o, z2w, z2x, z2y, z2z, z33, z34, z35, z37, z38, z39, z3b, z3d, z3f, z3g, z3p, z3q, z3s, z3v, z3w, z3x, z3y, z3z, z41, z43, z44, z45, z46, z49, z4a, z4c, z4d, z4e, z4f, z4g, z4h, z4i, z4m, z4n, z4o, z4p, z4q, z4r, z4s, z4t, z4u, z4w, z4x, z4y, z4z, z50, z51, z52, z53, z54, z59, z5a, z5b, z5e, z5f, z72, Nat.reduceLeDiff, Nat.reduceAdd, Nat.reduceSub, ↓reduceIte, yielded, Hp.cell, Hp.row, Hp.wr, tFieldAx113x0, tFieldAx113x2, tFieldAx113x3, tFieldAx113x4, tLenx110, tPartx3, tPartx4, tPartx110, tPartx113, tSizex3, tSizex113, tZerox113, r0, r00, q1', q2, q3, q4, q5, eq_true q6, hv2]
          exact Al.done (by repeat (first | assumption | exact Keeps.refl _ | refine Keeps.push ?_ _ | refine Keeps.set ?_ (by first | omega | (simp only [Hp.size_push, Hp.size_setB]; omega)) _)) rfl rfl
        · rw [if_neg q6] at ea
          rw [ea]
          by_cases q7 : 0 < D.2.2.1
          · have h7 : dn D.2.2.1 = IntKind.i64.wrap (D.2.2.1 - 1) := if_pos (by omega)
            simp (maxDischargeDepth := 16) only [z04, z05, z08, z09, z0a, z0b, z0c, z0d, z0e, z0o, z0p, z0q, z0r, z0s, z0t, z0u, z0v, z0w, z0z, z10, z11, z12, z13, z16, z1e, z1f, z1g, z1h, z1p, z1r, z1v, z1w, z1x, z1y, z24, z25, z2b, z2d, z2f, z2g, z2m, z2o, z2w, z2x, z2y, z2z, z33, z34, z35, z37, z38, z39, z3b, z3d, z3f, z3g, z3p, z3q, z3s, z3v, z3w, z3x, z3y, z3z, z41, z43, z44, z45, z46, z49, z4a, z4c, z4d, z4e, z4f, z4g, z4h, z4i, z4m, z4n, z4o, z4p, z4q, z4r, z4s, z4t, z4u, z4w, z4x, z4y, z4z, z50, z51, z52, z53, z54, z59, z5a, z5b, z5e, z5f, z72, Nat.reduceLeDiff, Nat.reduceAdd, Nat.reduceSub, ↓reduceIte, yielded, Hp.cell, Hp.row, Hp.wr, tFieldAx113x0, tFieldAx113x2, tFieldAx113x3, tFieldAx113x4, tFieldAx113x5, tLenx110, tPartx3, tPartx4, tPartx110, tPartx113, tSizex3, tSizex113, tZerox113, r0, r00, q1', q2, q3, q4, q5, q6, q7, hv2, h7]
            exact Al.done (by repeat (first | assumption | exact Keeps.refl _ | refine Keeps.push ?_ _ | refine Keeps.set ?_ (by first | omega | (simp only [Hp.size_push, Hp.size_setB]; omega)) _)) rfl rfl
          · have h7 : dn D.2.2.1 = D.2.2.1 := if_neg (by omega)
            simp (maxDischargeDepth := 16) only [z04, z05, z08, z09, z0a, z0b, z0c, z0d, z0e, z0o, z0p, z0q, z0r, z0s, z0t, z0u, z0v, z0w, z0z, z10, z11, z12, z13, z16, z1e, z1f, z1g, z1h, z1p, z1r, z1v, z1w, z1x, z1y, z24, z25, z2b, z2d, z2f, z2g, z2m, z2o, z2w, z2x, z2y, z2z, z33, z34, z35, z37, z38, z39, z3b, z3d, z3f, z3g, z3p, z3q, z3s, z3v, z3w, z3x, z3y, z3z, z41, z43, z44, z45, z46, z49, z4a, z4c, z4d, z4e, z4f, z4g, z4h, z4i, z4m, z4n, z4o, z4p, z4q, z4r, z4s, z4t, z4u, z4w, z4x, z4y, z4z, z50, z51, z52, z53, z54, z59, z5a, z5b, z5e, z5f, z72, Nat.reduceLeDiff, Nat.reduceAdd, Nat.reduceSub, ↓reduceIte, yielded, Hp.cell, Hp.row, Hp.wr, tFieldAx113x0, tFieldAx113x2, tFieldAx113x3, tFieldAx113x4, tFieldAx113x5, tLenx110, tPartx3, tPartx4, tPartx110, tPartx113, tSizex3, tSizex113, tZerox113, r0, r00, q1', q2, q3, q4, q5, q6, q7, hv2, h7]
            exact Al.done (by repeat (first | assumption | exact Keeps.refl _ | refine Keeps.push ?_ _ | refine Keeps.set ?_ (by first | omega | (simp only [Hp.size_push, Hp.size_setB]; omega)) _)) rfl rfl
    | false =>
      rw [if_neg (by simp), hdn] at ea
      by_cases q6 : D.2.2.2.1 = 0
      · rw [if_pos q6] at ea
        rw [ea]
        simp (maxDischargeDepth := 16) only [z04, z05, z08, z09, z0a, z0b, z0c, z0d, z0e, z0f, z0o, z0p, z0q, z0r, z0s, z0t, z0u, z0v, z0w, z0z, z10, z11, z12, z13, z16, z1e, z1f, z1g, z1h, z1p, z1r, z1v, z1w, z1x, z1y, z25, z2b, z2d, z2g, z2m, z2o, z2w, z2x, z2y, z2z, z33, z34, z35, z37, z38, z39, z3b, z3d, z3f, z3g, z3l, z3p, z3q, z3s, z3v, z3w, z3x, z3y, z3z, z41, z43, z44, z45, z46, z49, z4a, z4c, z4d, z4e, z4f, z4g, z4h, z4i, z4m, z4n, z4o, z4p, z4q, z4r, z4s, z4t, z4u, z4w, z4x, z4y, z4z, z50, z51, z52, z53, z54, z59, z5a, z5b, z5e, z5f, z72, Nat.reduceLeDiff, Nat.reduceAdd, Nat.reduceSub, ↓reduceIte, yielded, Hp.cell, Hp.row, Hp.wr, tFieldAx113x0, tFieldAx113x3, tFieldAx113x4, tLenx110, tPartx3, tPartx4, tPartx110, tPartx113, tSizex3, tSizex113, tZerox113, r0, r00, q1', q2, q3, q4, eq_true q6, hv2]
        exact Al.done (by repeat (first | assumption | exact Keeps.refl _ | refine Keeps.push ?_ _ | refine Keeps.set ?_ (by first | omega | (simp only [Hp.size_push, Hp.size_setB]; omega)) _)) rfl rfl
      · rw [if_neg q6] at ea
        rw [ea]
        simp (maxDischargeDepth := 16) only [z04, z05, z08, z09, z0a, z0b, z0c, z0d, z0e, z0o, z0p, z0q, z0r, z0s, z0t, z0u, z0v, z0w, z0z, z10, z11, z12, z13, z16, z1e, z1f, z1g, z1h, z1p, z1r, z1v, z1w, z1x, z1y, z24, z25, z2b, z2d, z2g, z2m, z2o, z2w, z2x, z2y, z2z, z33, z34, z35, z37, z38, z39, z3b, z3d, z3f, z3g, z3l, z3p, z3q, z3s, z3v, z3w, z3x, z3y, z3z, z41, z43, z44, z45, z46, z49, z4a, z4c, z4d, z4e, z4f, z4g, z4h, z4i, z4m, z4n, z4o, z4p, z4q, z4r, z4s, z4t, z4u, z4w, z4x, z4y, z4z, z50, z51, z52, z53, z54, z59, z5a, z5b, z5e, z5f, z72, Nat.reduceLeDiff, Nat.reduceAdd, Nat.reduceSub, ↓reduceIte, yielded, Hp.cell, Hp.row, Hp.wr, tFieldAx113x0, tFieldAx113x3, tFieldAx113x4, tFieldAx113x5, tLenx110, tPartx3, tPartx4, tPartx110, tPartx113, tSizex3, tSizex113, tZerox113, r0, r00, q1', q2, q3, q4, q6, hv2]
        exact Al.done (by repeat (first | assumption | exact Keeps.refl _ | refine Keeps.push ?_ _ | refine Keeps.set ?_ (by first | omega | (simp only [Hp.size_push, Hp.size_setB]; omega)) _)) rfl rfl
end
end Go.Abs.B1
