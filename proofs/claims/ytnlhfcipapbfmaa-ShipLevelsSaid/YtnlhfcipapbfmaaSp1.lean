/- Ships: what a change puts: the last index, same entries. -/
import Derived.Test.YtnlhfcipapbfmaaSh6
namespace Go.Abs.B1
open Go.Proofs
set_option maxRecDepth 10000
set_option maxHeartbeats 4000000
set_option linter.all false
noncomputable def g33 := gRd A36 fun x => .int .u64 (f55 x.1)
theorem con33 : Con Try.prog (CKb Try.prog) 33 g33 := by
  refine Con.rd base ok0 _ (fun a => by simp [flatB]) ?_
  rintro h _ ⟨x, ⟨⟩⟩ hro ⟨cs, vs, rfl, r, rfl⟩
  obtain ⟨v1, v2, rfl, -, -, -, -, -, -, -, -, -, -, h2⟩ := R36_inv r
  obtain ⟨a2, c2, rfl, _, hl2⟩ := slice_form h2
  refine ⟨1, ?_⟩
  show ∃ h', evalV Try.prog I0 (0 + 1) (.fn 33) _ h = _ ∧ _
  rw [evalV_call (P := Try.prog) (intr := I0) (f := 33) (m := 12) (rs := #[.tmp 2]) rfl Try.func33 rfl rfl rfl]
  simp (maxDischargeDepth := 16) only [z05, z08, z09, z0d, z0e, z0o, z0p, z0q, z0s, z0t, z0v, z0w, z0z, z11, z13, z15, z16, z1e, z1h, z1p, z1r, z1v, z24, z2o, z2w, z2x, z34, z3b, z3c, z3f, z4e, z4f, z4g, z4h, z4i, z4m, z4n, z4o, z4p, z4q, z4r, z4s, z4t, z4u, z4w, z4x, z4y, z4z, z50, z51, z53, z54, z7z, Nat.reduceSub, ↓reduceIte, Hp.cell, tFieldAx24x0, tFieldAx33x0, tFieldAx36x1, tFieldAx36x2, tIntx3x22, tLenx34, tPartx22, tPartx34, f55]
  exact ⟨_, rfl, (Keeps.get (by repeat (first | exact Keeps.refl _ | refine Keeps.push ?_ _ | refine Keeps.set ?_ (by first | omega | (simp only [Hp.size_push, Hp.size_setB]; omega)) _)))⟩
abbrev A85 := Ar.agg R85 (Ar.agg R85 Ar.nil)
noncomputable def TSp : TB := [(68, g68)]
noncomputable abbrev ISp : Intr := fun f => TSp.lookup f
theorem okSp : IntrOk Try.prog (CKb Try.prog) ISp := Con.table fun x hx => by
  simp only [TSp, List.mem_cons, List.not_mem_nil, or_false] at hx
  subst hx
  exact con68
noncomputable def g34 := gRd A85 fun x => .bool (decide (x.1 = x.2.1))
theorem con34 : Con Try.prog (CKb Try.prog) 34 g34 := by
  refine Con.rd base okSp _ (fun a => by simp [flatB]) ?_
  rintro h _ ⟨e, e', ⟨⟩⟩ hro ⟨cs, _, rfl, r, ds, _, rfl, s, rfl⟩
  dsimp only at r s ⊢
  obtain ⟨u, rfl, d1, d2, d3, hu⟩ := R85_inv r
  obtain ⟨u', rfl, d1', d2', d3', hu'⟩ := R85_inv s
  have o1 : oneC u = true := R43.rone hu u (List.mem_singleton.2 rfl)
  have o2 : oneC u' = true := R43.rone hu' u' (List.mem_singleton.2 rfl)
  have c68 := call_rdk (P := Try.prog) (I := ISp) (f := 68) (spec := fun x => .bool (decide (x.1 = x.2.1))) rfl 9 (show A45.r (· < h.size) h [.agg [u].toArray, .agg [u'].toArray] (e.2.2.2, e'.2.2.2, ()) from ⟨_, _, rfl, R45_mk (x := e.2.2.2) hu, _, _, rfl, R45_mk (x := e'.2.2.2) hu', rfl⟩)
  have hee : e = e' ↔ e.1 = e'.1 ∧ e.2.1 = e'.2.1 ∧ e.2.2.1 = e'.2.2.1 ∧ e.2.2.2 = e'.2.2.2 := by
    obtain ⟨a1, a2, a3, a4⟩ := e
    obtain ⟨b1, b2, b3, b4⟩ := e'
    simp
  refine ⟨10, ?_⟩
  show ∃ h', evalV Try.prog ISp (9 + 1) (.fn 34) _ h = _ ∧ _
  rw [evalV_call (P := Try.prog) (intr := ISp) (f := 34) (m := 31) (rs := #[.tmp 4]) rfl Try.func34 rfl rfl rfl]
  have fin : ∀ q : Bool, (decide (e = e')) = q → ((decide (e = e')) = q) := fun _ h => h
  by_cases q1 : e.1 = e'.1
  · by_cases q2 : e.2.1 = e'.2.1
    · by_cases q3 : e.2.2.1 = e'.2.2.1
      · have hd : decide (e = e') = decide (e.2.2.2 = e'.2.2.2) := by simp only [hee, q1, q2, q3, true_and]
        simp (maxDischargeDepth := 16) only [z05, z08, z09, z0d, z0e, z0o, z0p, z0q, z0r, z0s, z0t, z0v, z0w, z0x, z0z, z10, z11, z12, z13, z16, z1e, z1h, z1l, z1v, z1y, z2b, z2o, z2w, z2x, z34, z38, z39, z3b, z3c, z3f, z3h, z3x, z3y, z3z, z40, z41, z43, z46, z4a, z4e, z4f, z4g, z4h, z4i, z4j, z4k, z4l, z4m, z4n, z4o, z4p, z4q, z4r, z4s, z4t, z4u, z4v, z4w, z4x, z4y, z4z, z50, z51, z52, z53, z54, z5a, z5e, z7v, z7w, Nat.reduceAdd, Nat.reduceSub, ↓reduceIte, yielded, Hp.cell, Hp.row, hasBx68, tFieldAx85x0, tFieldAx85x1, tFieldAx85x2, tFieldAx85x3, tPartx3, tPartx22, tPartx28, tPartx45, q1, q2, q3, c68, hd]
        exact ⟨_, rfl, (Keeps.get (by repeat (first | exact Keeps.refl _ | refine Keeps.push ?_ _ | refine Keeps.set ?_ (by first | omega | (simp only [Hp.size_push, Hp.size_setB]; omega)) _)))⟩
      · have hd : decide (e = e') = false := by simp only [hee, q3, false_and, and_false, decide_false]
        simp (maxDischargeDepth := 16) only [z05, z08, z09, z0d, z0e, z0o, z0p, z0q, z0r, z0s, z0t, z0v, z0w, z0z, z10, z11, z12, z13, z16, z1e, z1h, z1v, z1y, z2b, z2o, z2w, z2x, z34, z38, z39, z3b, z3c, z3f, z3l, z4a, z4e, z4f, z4g, z4h, z4i, z4m, z4n, z4o, z4p, z4q, z4r, z4s, z4t, z4u, z4w, z4x, z4y, z4z, z50, z51, z52, z53, z54, z59, z5a, z5b, z5e, Nat.reduceAdd, Nat.reduceSub, ↓reduceIte, yielded, Hp.cell, tFieldAx85x0, tFieldAx85x1, tFieldAx85x2, tPartx3, tPartx22, tPartx28, q1, q2, q3, hd]
        exact ⟨_, rfl, (Keeps.get (by repeat (first | exact Keeps.refl _ | refine Keeps.push ?_ _ | refine Keeps.set ?_ (by first | omega | (simp only [Hp.size_push, Hp.size_setB]; omega)) _)))⟩
    · have hd : decide (e = e') = false := by simp only [hee, q2, false_and, and_false, decide_false]
      simp (maxDischargeDepth := 16) only [z05, z08, z09, z0d, z0e, z0o, z0p, z0q, z0r, z0s, z0t, z0v, z0w, z0z, z10, z11, z12, z13, z16, z1e, z1h, z1v, z1y, z2b, z2o, z2w, z2x, z34, z38, z39, z3b, z3c, z3f, z3l, z4a, z4e, z4f, z4g, z4h, z4i, z4m, z4n, z4o, z4p, z4q, z4r, z4s, z4t, z4u, z4w, z4x, z4y, z4z, z50, z51, z52, z53, z54, z59, z5a, z5b, z5e, Nat.reduceAdd, Nat.reduceSub, ↓reduceIte, yielded, Hp.cell, tFieldAx85x0, tFieldAx85x1, tPartx3, tPartx22, q1, q2, hd]
      exact ⟨_, rfl, (Keeps.get (by repeat (first | exact Keeps.refl _ | refine Keeps.push ?_ _ | refine Keeps.set ?_ (by first | omega | (simp only [Hp.size_push, Hp.size_setB]; omega)) _)))⟩
  · have hd : decide (e = e') = false := by simp only [hee, q1, false_and, decide_false]
    simp (maxDischargeDepth := 16) only [z05, z08, z09, z0d, z0e, z0o, z0p, z0q, z0r, z0s, z0t, z0v, z0w, z0z, z10, z11, z12, z13, z16, z1e, z1h, z1v, z1y, z2b, z2o, z2w, z2x, z34, z38, z39, z3b, z3c, z3f, z3l, z4a, z4e, z4f, z4g, z4h, z4i, z4m, z4n, z4o, z4p, z4q, z4r, z4s, z4t, z4u, z4w, z4x, z4y, z4z, z50, z51, z52, z53, z54, z59, z5b, Nat.reduceAdd, Nat.reduceSub, ↓reduceIte, yielded, Hp.cell, tFieldAx85x0, tPartx22, q1, hd]
    exact ⟨_, rfl, (Keeps.get (by repeat (first | exact Keeps.refl _ | refine Keeps.push ?_ _ | refine Keeps.set ?_ (by first | omega | (simp only [Hp.size_push, Hp.size_setB]; omega)) _)))⟩
end Go.Abs.B1
