/- Ships: equality of messages, of changes. -/
import Derived.Test.YtnlhfcipapbfmaaSh8
namespace Go.Abs.B1
open Go.Proofs
set_option maxRecDepth 10000
set_option maxHeartbeats 4000000
set_option linter.all false
/-- Are two messages one, but for the batches' updates? -/
def same18 (x y : T47) : Prop := x.1 = y.1 ∧ x.2.1 = y.2.1 ∧ x.2.2.1 = y.2.2.1 ∧ x.2.2.2.1 = y.2.2.2.1 ∧ x.2.2.2.2.1 = y.2.2.2.2.1 ∧ x.2.2.2.2.2.2.1 = y.2.2.2.2.2.2.1 ∧ x.2.2.2.2.2.2.2.1 = y.2.2.2.2.2.2.2.1 ∧ x.2.2.2.2.2.2.2.2.1 = y.2.2.2.2.2.2.2.2.1 ∧ x.2.2.2.2.2.2.2.2.2.1 = y.2.2.2.2.2.2.2.2.2.1 ∧ x.2.2.2.2.2.2.2.2.2.2.2.1 = y.2.2.2.2.2.2.2.2.2.2.2.1 ∧ x.2.2.2.2.2.2.2.2.2.2.2.2.2 = y.2.2.2.2.2.2.2.2.2.2.2.2.2 ∧ ((x.2.2.2.2.2.2.2.2.2.2.2.2.1.length : Int) = (y.2.2.2.2.2.2.2.2.2.2.2.2.1.length : Int)) ∧ x.2.2.2.2.2.1 = y.2.2.2.2.2.1 ∧ x.2.2.2.2.2.2.2.2.2.2.1 = y.2.2.2.2.2.2.2.2.2.2.1
noncomputable instance (x y : T47) : Decidable (same18 x y) := Classical.propDecidable _
abbrev A47 := Ar.agg R47 (Ar.agg R47 Ar.nil)
noncomputable def g18 := gRd A47 fun x => .bool (decide (same18 x.1 x.2.1))
theorem con18 : Con Try.prog (CKb Try.prog) 18 g18 := by
  refine Con.rd base okS8 _ (fun a => by simp [flatB]) ?_
  rintro h _ ⟨x, y, ⟨⟩⟩ hro ⟨cs, _, rfl, r, ds, _, rfl, s, rfl⟩
  dsimp only at r s ⊢
  obtain ⟨v1, v2, v3, rfl, -, -, -, -, -, -, hv, -, -, -, b1, b2, hv2, b3, b4, b5, b6, b7, b8, -, hv3, -⟩ := R47_inv r
  obtain ⟨w1, w2, w3, rfl, -, -, -, -, -, -, hw, -, -, -, d1, d2, hw2, d3, d4, d5, d6, d7, d8, -, hw3, -⟩ := R47_inv s
  have c60 := call_rdk (P := Try.prog) (I := IS8) (f := 60) (spec := fun x => .bool (decide (x.1 = x.2.1))) rfl 9 (show A33.r (· < h.size) h [_, _] (x.2.2.2.2.2.2.2.2.2.2.1, y.2.2.2.2.2.2.2.2.2.2.1, ()) from ⟨_, _, rfl, R33_mk (x := x.2.2.2.2.2.2.2.2.2.2.1) b1 b2 hv2 b3 b4 b5 b6 b7 b8, _, _, rfl, R33_mk (x := y.2.2.2.2.2.2.2.2.2.2.1) d1 d2 hw2 d3 d4 d5 d6 d7 d8, rfl⟩)
  have c59 := call_rdk (P := Try.prog) (I := IS8) (f := 59) (spec := fun x => .bool (decide (x.1 = x.2.1))) rfl 9 (show A34.r (· < h.size) h [_, _] (x.2.2.2.2.2.1, y.2.2.2.2.2.1, ()) from ⟨_, _, rfl, hv, _, _, rfl, hw, rfl⟩)
  have e24 := eq24 x.2.2.2.2.1 y.2.2.2.2.1
  obtain ⟨_, _, rfl, _⟩ := slice_form hv3
  obtain ⟨_, _, rfl, _⟩ := slice_form hw3
  refine ⟨10, ?_⟩
  show ∃ h', evalV Try.prog IS8 (9 + 1) (.fn 18) _ h = _ ∧ _
  rw [evalV_call (P := Try.prog) (intr := IS8) (f := 18) (m := 105) (rs := #[.tmp 4]) rfl Try.func18 rfl rfl rfl]
  by_cases h0 : x.1 = y.1
  case neg =>
    have he : ¬ same18 x y := fun e => by unfold same18 at e; exact h0 e.1
    simp (maxDischargeDepth := 16) only [z05, z08, z09, z0d, z0e, z0o, z0p, z0q, z0r, z0s, z0t, z0v, z0w, z0z, z10, z11, z12, z13, z16, z1e, z1h, z1v, z1y, z2b, z2o, z2w, z2x, z34, z38, z39, z3b, z3c, z3f, z3l, z4a, z4e, z4f, z4g, z4h, z4i, z4m, z4n, z4o, z4p, z4q, z4r, z4s, z4t, z4u, z4w, z4x, z4y, z4z, z50, z51, z52, z53, z54, z59, z5b, z84, z85, Nat.reduceAdd, Nat.reduceSub, ↓reduceIte, yielded, Hp.cell, tFieldAx47x0, tPartx3, he, h0]
    exact ⟨_, rfl, (Keeps.get (by repeat (first | exact Keeps.refl _ | refine Keeps.push ?_ _ | refine Keeps.set ?_ (by first | omega | (simp only [Hp.size_push, Hp.size_setB]; omega)) _)))⟩
  by_cases h1 : x.2.1 = y.2.1
  case neg =>
    have he : ¬ same18 x y := fun e => by unfold same18 at e; exact h1 e.2.1
    simp (maxDischargeDepth := 16) only [z05, z08, z09, z0d, z0e, z0o, z0p, z0q, z0r, z0s, z0t, z0v, z0w, z0z, z10, z11, z12, z13, z16, z1e, z1h, z1v, z1y, z2b, z2o, z2w, z2x, z34, z38, z39, z3b, z3c, z3f, z3l, z4a, z4e, z4f, z4g, z4h, z4i, z4m, z4n, z4o, z4p, z4q, z4r, z4s, z4t, z4u, z4w, z4x, z4y, z4z, z50, z51, z52, z53, z54, z59, z5a, z5b, z5e, z84, z85, Nat.reduceAdd, Nat.reduceSub, ↓reduceIte, yielded, Hp.cell, tFieldAx47x0, tFieldAx47x1, tPartx3, eq_true h0, he, h1]
    exact ⟨_, rfl, (Keeps.get (by repeat (first | exact Keeps.refl _ | refine Keeps.push ?_ _ | refine Keeps.set ?_ (by first | omega | (simp only [Hp.size_push, Hp.size_setB]; omega)) _)))⟩
  by_cases h2 : x.2.2.1 = y.2.2.1
  case neg =>
    have he : ¬ same18 x y := fun e => by unfold same18 at e; exact h2 e.2.2.1
    simp (maxDischargeDepth := 16) only [z05, z08, z09, z0d, z0e, z0o, z0p, z0q, z0r, z0s, z0t, z0v, z0w, z0z, z10, z11, z12, z13, z16, z1e, z1h, z1v, z1y, z2b, z2o, z2w, z2x, z34, z38, z39, z3b, z3c, z3f, z3l, z4a, z4e, z4f, z4g, z4h, z4i, z4m, z4n, z4o, z4p, z4q, z4r, z4s, z4t, z4u, z4w, z4x, z4y, z4z, z50, z51, z52, z53, z54, z59, z5a, z5b, z5e, z84, z85, Nat.reduceAdd, Nat.reduceSub, ↓reduceIte, yielded, Hp.cell, tFieldAx47x0, tFieldAx47x1, tFieldAx47x2, tPartx3, eq_true h0, eq_true h1, he, h2]
    exact ⟨_, rfl, (Keeps.get (by repeat (first | exact Keeps.refl _ | refine Keeps.push ?_ _ | refine Keeps.set ?_ (by first | omega | (simp only [Hp.size_push, Hp.size_setB]; omega)) _)))⟩
  by_cases h3 : x.2.2.2.1 = y.2.2.2.1
  case neg =>
    have he : ¬ same18 x y := fun e => by unfold same18 at e; exact h3 e.2.2.2.1
    simp (maxDischargeDepth := 16) only [z05, z08, z09, z0d, z0e, z0o, z0p, z0q, z0r, z0s, z0t, z0v, z0w, z0z, z10, z11, z12, z13, z16, z1e, z1h, z1v, z1y, z2b, z2o, z2w, z2x, z34, z38, z39, z3b, z3c, z3f, z3l, z4a, z4e, z4f, z4g, z4h, z4i, z4m, z4n, z4o, z4p, z4q, z4r, z4s, z4t, z4u, z4w, z4x, z4y, z4z, z50, z51, z52, z53, z54, z59, z5a, z5b, z5e, z84, z85, Nat.reduceAdd, Nat.reduceSub, ↓reduceIte, yielded, Hp.cell, tFieldAx47x0, tFieldAx47x1, tFieldAx47x2, tFieldAx47x3, tPartx3, tPartx22, eq_true h0, eq_true h1, eq_true h2, he, h3]
    exact ⟨_, rfl, (Keeps.get (by repeat (first | exact Keeps.refl _ | refine Keeps.push ?_ _ | refine Keeps.set ?_ (by first | omega | (simp only [Hp.size_push, Hp.size_setB]; omega)) _)))⟩
  by_cases h4 : x.2.2.2.2.1 = y.2.2.2.2.1
  case neg =>
    have he : ¬ same18 x y := fun e => by unfold same18 at e; exact h4 e.2.2.2.2.1
    simp (maxDischargeDepth := 16) only [z05, z08, z09, z0d, z0e, z0o, z0p, z0q, z0r, z0s, z0t, z0v, z0w, z0z, z10, z11, z12, z13, z16, z1e, z1h, z1v, z1y, z2b, z2o, z2w, z2x, z34, z38, z39, z3b, z3c, z3f, z3l, z3x, z3y, z3z, z40, z41, z42, z4a, z4e, z4f, z4g, z4h, z4i, z4m, z4n, z4o, z4p, z4q, z4r, z4s, z4t, z4u, z4w, z4x, z4y, z4z, z50, z51, z52, z53, z54, z59, z5a, z5b, z5e, z84, z85, Nat.reduceLeDiff, Nat.reduceAdd, Nat.reduceSub, ↓reduceIte, yielded, Hp.cell, Hp.row, tFieldAx47x0, tFieldAx47x1, tFieldAx47x2, tFieldAx47x3, tFieldAx47x4, tPartx3, tPartx22, tPartx24, e24, eq_true h0, eq_true h1, eq_true h2, eq_true h3, he, h4]
    exact ⟨_, rfl, (Keeps.get (by repeat (first | exact Keeps.refl _ | refine Keeps.push ?_ _ | refine Keeps.set ?_ (by first | omega | (simp only [Hp.size_push, Hp.size_setB]; omega)) _)))⟩
  by_cases h5 : x.2.2.2.2.2.2.1 = y.2.2.2.2.2.2.1
  case neg =>
    have he : ¬ same18 x y := fun e => by unfold same18 at e; exact h5 e.2.2.2.2.2.1
    simp (maxDischargeDepth := 16) only [z05, z08, z09, z0d, z0e, z0o, z0p, z0q, z0r, z0s, z0t, z0v, z0w, z0z, z10, z11, z12, z13, z16, z1e, z1h, z1v, z1y, z2b, z2o, z2w, z2x, z34, z38, z39, z3b, z3c, z3f, z3l, z3x, z3y, z3z, z40, z41, z42, z4a, z4e, z4f, z4g, z4h, z4i, z4m, z4n, z4o, z4p, z4q, z4r, z4s, z4t, z4u, z4w, z4x, z4y, z4z, z50, z51, z52, z53, z54, z59, z5a, z5b, z5e, z84, z85, Nat.reduceLeDiff, Nat.reduceAdd, Nat.reduceSub, ↓reduceIte, yielded, Hp.cell, Hp.row, tFieldAx47x0, tFieldAx47x1, tFieldAx47x2, tFieldAx47x3, tFieldAx47x4, tFieldAx47x6, tPartx3, tPartx22, tPartx24, e24, eq_true h0, eq_true h1, eq_true h2, eq_true h3, eq_true h4, he, h5]
    exact ⟨_, rfl, (Keeps.get (by repeat (first | exact Keeps.refl _ | refine Keeps.push ?_ _ | refine Keeps.set ?_ (by first | omega | (simp only [Hp.size_push, Hp.size_setB]; omega)) _)))⟩
  by_cases h6 : x.2.2.2.2.2.2.2.1 = y.2.2.2.2.2.2.2.1
  case neg =>
    have he : ¬ same18 x y := fun e => by unfold same18 at e; exact h6 e.2.2.2.2.2.2.1
    simp (maxDischargeDepth := 16) only [z05, z08, z09, z0d, z0e, z0o, z0p, z0q, z0r, z0s, z0t, z0v, z0w, z0z, z10, z11, z12, z13, z16, z1e, z1h, z1v, z1y, z2b, z2o, z2w, z2x, z34, z38, z39, z3b, z3c, z3f, z3l, z3x, z3y, z3z, z40, z41, z42, z4a, z4e, z4f, z4g, z4h, z4i, z4m, z4n, z4o, z4p, z4q, z4r, z4s, z4t, z4u, z4w, z4x, z4y, z4z, z50, z51, z52, z53, z54, z59, z5a, z5b, z5e, z7g, z84, z85, Nat.reduceLeDiff, Nat.reduceAdd, Nat.reduceSub, ↓reduceIte, yielded, Hp.cell, Hp.row, tBoolx4, tFieldAx47x0, tFieldAx47x1, tFieldAx47x2, tFieldAx47x3, tFieldAx47x4, tFieldAx47x6, tFieldAx47x7, tPartx3, tPartx4, tPartx22, tPartx24, e24, eq_true h0, eq_true h1, eq_true h2, eq_true h3, eq_true h4, eq_true h5, he, h6]
    exact ⟨_, rfl, (Keeps.get (by repeat (first | exact Keeps.refl _ | refine Keeps.push ?_ _ | refine Keeps.set ?_ (by first | omega | (simp only [Hp.size_push, Hp.size_setB]; omega)) _)))⟩
  by_cases h7 : x.2.2.2.2.2.2.2.2.1 = y.2.2.2.2.2.2.2.2.1
  case neg =>
    have he : ¬ same18 x y := fun e => by unfold same18 at e; exact h7 e.2.2.2.2.2.2.2.1
    simp (maxDischargeDepth := 16) only [z05, z08, z09, z0d, z0e, z0o, z0p, z0q, z0r, z0s, z0t, z0v, z0w, z0z, z10, z11, z12, z13, z16, z1e, z1h, z1v, z1y, z2b, z2o, z2w, z2x, z34, z38, z39, z3b, z3c, z3f, z3l, z3x, z3y, z3z, z40, z41, z42, z4a, z4e, z4f, z4g, z4h, z4i, z4m, z4n, z4o, z4p, z4q, z4r, z4s, z4t, z4u, z4w, z4x, z4y, z4z, z50, z51, z52, z53, z54, z59, z5a, z5b, z5e, z7g, z84, z85, Nat.reduceLeDiff, Nat.reduceAdd, Nat.reduceSub, ↓reduceIte, yielded, Hp.cell, Hp.row, tBoolx4, tFieldAx47x0, tFieldAx47x1, tFieldAx47x2, tFieldAx47x3, tFieldAx47x4, tFieldAx47x6, tFieldAx47x7, tFieldAx47x8, tPartx3, tPartx4, tPartx22, tPartx24, e24, eq_true h0, eq_true h1, eq_true h2, eq_true h3, eq_true h4, eq_true h5, eq_true h6, he, h7]
    exact ⟨_, rfl, (Keeps.get (by repeat (first | exact Keeps.refl _ | refine Keeps.push ?_ _ | refine Keeps.set ?_ (by first | omega | (simp only [Hp.size_push, Hp.size_setB]; omega)) _)))⟩
  by_cases h8 : x.2.2.2.2.2.2.2.2.2.1 = y.2.2.2.2.2.2.2.2.2.1
  case neg =>
    have he : ¬ same18 x y := fun e => by unfold same18 at e; exact h8 e.2.2.2.2.2.2.2.2.1
    simp (maxDischargeDepth := 16) only [z05, z08, z09, z0d, z0e, z0o, z0p, z0q, z0r, z0s, z0t, z0v, z0w, z0z, z10, z11, z12, z13, z16, z1e, z1h, z1v, z1y, z2b, z2o, z2w, z2x, z34, z38, z39, z3b, z3c, z3f, z3l, z3x, z3y, z3z, z40, z41, z42, z4a, z4e, z4f, z4g, z4h, z4i, z4m, z4n, z4o, z4p, z4q, z4r, z4s, z4t, z4u, z4w, z4x, z4y, z4z, z50, z51, z52, z53, z54, z59, z5a, z5b, z5e, z7g, z84, z85, Nat.reduceLeDiff, Nat.reduceAdd, Nat.reduceSub, ↓reduceIte, yielded, Hp.cell, Hp.row, tBoolx4, tFieldAx47x0, tFieldAx47x1, tFieldAx47x2, tFieldAx47x3, tFieldAx47x4, tFieldAx47x6, tFieldAx47x7, tFieldAx47x8, tFieldAx47x9, tPartx3, tPartx4, tPartx22, tPartx24, e24, eq_true h0, eq_true h1, eq_true h2, eq_true h3, eq_true h4, eq_true h5, eq_true h6, eq_true h7, he, h8]
    exact ⟨_, rfl, (Keeps.get (by repeat (first | exact Keeps.refl _ | refine Keeps.push ?_ _ | refine Keeps.set ?_ (by first | omega | (simp only [Hp.size_push, Hp.size_setB]; omega)) _)))⟩
  by_cases h9 : x.2.2.2.2.2.2.2.2.2.2.2.1 = y.2.2.2.2.2.2.2.2.2.2.2.1
  case neg =>
    have he : ¬ same18 x y := fun e => by unfold same18 at e; exact h9 e.2.2.2.2.2.2.2.2.2.1
    simp (maxDischargeDepth := 16) only [z05, z08, z09, z0d, z0e, z0o, z0p, z0q, z0r, z0s, z0t, z0v, z0w, z0z, z10, z11, z12, z13, z16, z1e, z1h, z1v, z1y, z2b, z2o, z2w, z2x, z34, z38, z39, z3b, z3c, z3f, z3l, z3x, z3y, z3z, z40, z41, z42, z4a, z4e, z4f, z4g, z4h, z4i, z4m, z4n, z4o, z4p, z4q, z4r, z4s, z4t, z4u, z4w, z4x, z4y, z4z, z50, z51, z52, z53, z54, z59, z5a, z5b, z5e, z7g, z84, z85, Nat.reduceLeDiff, Nat.reduceAdd, Nat.reduceSub, ↓reduceIte, yielded, Hp.cell, Hp.row, tBoolx4, tFieldAx47x0, tFieldAx47x1, tFieldAx47x2, tFieldAx47x3, tFieldAx47x4, tFieldAx47x6, tFieldAx47x7, tFieldAx47x8, tFieldAx47x9, tFieldAx47x11, tPartx3, tPartx4, tPartx22, tPartx24, tPartx28, e24, eq_true h0, eq_true h1, eq_true h2, eq_true h3, eq_true h4, eq_true h5, eq_true h6, eq_true h7, eq_true h8, he, h9]
    exact ⟨_, rfl, (Keeps.get (by repeat (first | exact Keeps.refl _ | refine Keeps.push ?_ _ | refine Keeps.set ?_ (by first | omega | (simp only [Hp.size_push, Hp.size_setB]; omega)) _)))⟩
  by_cases h10 : x.2.2.2.2.2.2.2.2.2.2.2.2.2 = y.2.2.2.2.2.2.2.2.2.2.2.2.2
  case neg =>
    have he : ¬ same18 x y := fun e => by unfold same18 at e; exact h10 e.2.2.2.2.2.2.2.2.2.2.1
    simp (maxDischargeDepth := 16) only [z05, z08, z09, z0d, z0e, z0o, z0p, z0q, z0r, z0s, z0t, z0v, z0w, z0z, z10, z11, z12, z13, z16, z1e, z1h, z1v, z1y, z2b, z2o, z2w, z2x, z34, z38, z39, z3b, z3c, z3f, z3l, z3x, z3y, z3z, z40, z41, z42, z4a, z4e, z4f, z4g, z4h, z4i, z4m, z4n, z4o, z4p, z4q, z4r, z4s, z4t, z4u, z4w, z4x, z4y, z4z, z50, z51, z52, z53, z54, z59, z5a, z5b, z5e, z7g, z84, z85, Nat.reduceLeDiff, Nat.reduceAdd, Nat.reduceSub, ↓reduceIte, yielded, Hp.cell, Hp.row, tBoolx4, tFieldAx47x0, tFieldAx47x1, tFieldAx47x2, tFieldAx47x3, tFieldAx47x4, tFieldAx47x6, tFieldAx47x7, tFieldAx47x8, tFieldAx47x9, tFieldAx47x11, tFieldAx47x13, tPartx3, tPartx4, tPartx22, tPartx24, tPartx28, tPartx41, e24, eq_true h0, eq_true h1, eq_true h2, eq_true h3, eq_true h4, eq_true h5, eq_true h6, eq_true h7, eq_true h8, eq_true h9, he, h10]
    exact ⟨_, rfl, (Keeps.get (by repeat (first | exact Keeps.refl _ | refine Keeps.push ?_ _ | refine Keeps.set ?_ (by first | omega | (simp only [Hp.size_push, Hp.size_setB]; omega)) _)))⟩
  by_cases h11 : ((x.2.2.2.2.2.2.2.2.2.2.2.2.1.length : Int) = (y.2.2.2.2.2.2.2.2.2.2.2.2.1.length : Int))
  case neg =>
    have he : ¬ same18 x y := fun e => by unfold same18 at e; exact h11 e.2.2.2.2.2.2.2.2.2.2.2.1
    simp (maxDischargeDepth := 16) only [z05, z08, z09, z0d, z0e, z0o, z0p, z0q, z0r, z0s, z0t, z0v, z0w, z0z, z10, z11, z12, z13, z16, z1e, z1h, z1p, z1r, z1v, z1y, z2b, z2o, z2w, z2x, z34, z38, z39, z3b, z3c, z3f, z3l, z3x, z3y, z3z, z40, z41, z42, z4a, z4e, z4f, z4g, z4h, z4i, z4m, z4n, z4o, z4p, z4q, z4r, z4s, z4t, z4u, z4w, z4x, z4y, z4z, z50, z51, z52, z53, z54, z59, z5a, z5b, z5e, z7g, z84, z85, Nat.reduceLeDiff, Nat.reduceAdd, Nat.reduceSub, ↓reduceIte, yielded, Hp.cell, Hp.row, tBoolx4, tFieldAx45x0, tFieldAx47x0, tFieldAx47x1, tFieldAx47x2, tFieldAx47x3, tFieldAx47x4, tFieldAx47x6, tFieldAx47x7, tFieldAx47x8, tFieldAx47x9, tFieldAx47x11, tFieldAx47x12, tFieldAx47x13, tLenx43, tPartx3, tPartx4, tPartx22, tPartx24, tPartx28, tPartx41, tPartx43, e24, eq_true h0, eq_true h1, eq_true h2, eq_true h3, eq_true h4, eq_true h5, eq_true h6, eq_true h7, eq_true h8, eq_true h9, eq_true h10, he, h11]
    exact ⟨_, rfl, (Keeps.get (by repeat (first | exact Keeps.refl _ | refine Keeps.push ?_ _ | refine Keeps.set ?_ (by first | omega | (simp only [Hp.size_push, Hp.size_setB]; omega)) _)))⟩
  by_cases h12 : x.2.2.2.2.2.1 = y.2.2.2.2.2.1
  case neg =>
    have he : ¬ same18 x y := fun e => by unfold same18 at e; exact h12 e.2.2.2.2.2.2.2.2.2.2.2.2.1
    simp (maxDischargeDepth := 16) only [z05, z08, z09, z0d, z0e, z0o, z0p, z0q, z0r, z0s, z0t, z0v, z0w, z0x, z0z, z10, z11, z12, z13, z16, z1e, z1h, z1l, z1p, z1r, z1v, z1y, z2b, z2o, z2w, z2x, z34, z38, z39, z3b, z3c, z3f, z3h, z3l, z3x, z3y, z3z, z40, z41, z42, z4a, z4e, z4f, z4g, z4h, z4i, z4j, z4k, z4l, z4m, z4n, z4o, z4p, z4q, z4r, z4s, z4t, z4u, z4v, z4w, z4x, z4y, z4z, z50, z51, z52, z53, z54, z59, z5a, z5b, z5e, z7g, z7v, z7w, z84, z85, Nat.reduceLeDiff, Nat.reduceAdd, Nat.reduceSub, ↓reduceIte, yielded, Hp.cell, Hp.row, hasBx59, tBoolx4, tFieldAx45x0, tFieldAx47x0, tFieldAx47x1, tFieldAx47x2, tFieldAx47x3, tFieldAx47x4, tFieldAx47x5, tFieldAx47x6, tFieldAx47x7, tFieldAx47x8, tFieldAx47x9, tFieldAx47x11, tFieldAx47x12, tFieldAx47x13, tLenx43, tPartx3, tPartx4, tPartx22, tPartx24, tPartx28, tPartx34, tPartx41, tPartx43, e24, c59, eq_true h0, eq_true h1, eq_true h2, eq_true h3, eq_true h4, eq_true h5, eq_true h6, eq_true h7, eq_true h8, eq_true h9, eq_true h10, eq_true h11, he, h12]
    exact ⟨_, rfl, (Keeps.get (by repeat (first | exact Keeps.refl _ | refine Keeps.push ?_ _ | refine Keeps.set ?_ (by first | omega | (simp only [Hp.size_push, Hp.size_setB]; omega)) _)))⟩
  by_cases h13 : x.2.2.2.2.2.2.2.2.2.2.1 = y.2.2.2.2.2.2.2.2.2.2.1
  case neg =>
    have he : ¬ same18 x y := fun e => by unfold same18 at e; exact h13 e.2.2.2.2.2.2.2.2.2.2.2.2.2
    simp (maxDischargeDepth := 16) only [z05, z08, z09, z0d, z0e, z0o, z0p, z0q, z0r, z0s, z0t, z0v, z0w, z0x, z0z, z10, z11, z12, z13, z16, z1e, z1h, z1l, z1p, z1r, z1v, z1y, z2b, z2o, z2w, z2x, z34, z38, z39, z3b, z3c, z3f, z3h, z3x, z3y, z3z, z40, z41, z42, z4a, z4e, z4f, z4g, z4h, z4i, z4j, z4k, z4l, z4m, z4n, z4o, z4p, z4q, z4r, z4s, z4t, z4u, z4v, z4w, z4x, z4y, z4z, z50, z51, z52, z53, z54, z5a, z5b, z5e, z7g, z7v, z7w, z84, z85, Nat.reduceLeDiff, Nat.reduceAdd, Nat.reduceSub, ↓reduceIte, yielded, Hp.cell, Hp.row, hasBx59, hasBx60, tBoolx4, tFieldAx45x0, tFieldAx47x0, tFieldAx47x1, tFieldAx47x2, tFieldAx47x3, tFieldAx47x4, tFieldAx47x5, tFieldAx47x6, tFieldAx47x7, tFieldAx47x8, tFieldAx47x9, tFieldAx47x10, tFieldAx47x11, tFieldAx47x12, tFieldAx47x13, tLenx43, tPartx3, tPartx4, tPartx22, tPartx24, tPartx28, tPartx33, tPartx34, tPartx41, tPartx43, e24, c59, c60, eq_true h0, eq_true h1, eq_true h2, eq_true h3, eq_true h4, eq_true h5, eq_true h6, eq_true h7, eq_true h8, eq_true h9, eq_true h10, eq_true h11, eq_true h12, he, h13]
    exact ⟨_, rfl, (Keeps.get (by repeat (first | exact Keeps.refl _ | refine Keeps.push ?_ _ | refine Keeps.set ?_ (by first | omega | (simp only [Hp.size_push, Hp.size_setB]; omega)) _)))⟩
  have he : same18 x y := ⟨h0, h1, h2, h3, h4, h5, h6, h7, h8, h9, h10, h11, h12, h13⟩
  simp (maxDischargeDepth := 16) only [z05, z08, z09, z0d, z0e, z0o, z0p, z0q, z0r, z0s, z0t, z0v, z0w, z0x, z0z, z10, z11, z12, z13, z16, z1e, z1h, z1l, z1p, z1r, z1v, z1y, z2b, z2o, z2w, z2x, z34, z38, z39, z3b, z3c, z3f, z3h, z3x, z3y, z3z, z40, z41, z42, z4a, z4e, z4f, z4g, z4h, z4i, z4j, z4k, z4l, z4m, z4n, z4o, z4p, z4q, z4r, z4s, z4t, z4u, z4v, z4w, z4x, z4y, z4z, z50, z51, z52, z53, z54, z5a, z5e, z7g, z7v, z7w, z84, z85, Nat.reduceLeDiff, Nat.reduceAdd, Nat.reduceSub, ↓reduceIte, yielded, Hp.cell, Hp.row, hasBx59, hasBx60, tBoolx4, tFieldAx45x0, tFieldAx47x0, tFieldAx47x1, tFieldAx47x2, tFieldAx47x3, tFieldAx47x4, tFieldAx47x5, tFieldAx47x6, tFieldAx47x7, tFieldAx47x8, tFieldAx47x9, tFieldAx47x10, tFieldAx47x11, tFieldAx47x12, tFieldAx47x13, tLenx43, tPartx3, tPartx4, tPartx22, tPartx24, tPartx28, tPartx33, tPartx34, tPartx41, tPartx43, e24, c59, c60, eq_true h0, eq_true h1, eq_true h2, eq_true h3, eq_true h4, eq_true h5, eq_true h6, eq_true h7, eq_true h8, eq_true h9, eq_true h10, eq_true h11, eq_true h12, eq_true h13, eq_true he]
  exact ⟨_, rfl, (Keeps.get (by repeat (first | exact Keeps.refl _ | refine Keeps.push ?_ _ | refine Keeps.set ?_ (by first | omega | (simp only [Hp.size_push, Hp.size_setB]; omega)) _)))⟩
abbrev A72 := Ar.agg R72 (Ar.agg R72 Ar.nil)
noncomputable def g28 := gRd A72 fun x => .bool (decide (x.1 = x.2.1))
theorem con28 : Con Try.prog (CKb Try.prog) 28 g28 := by
  refine Con.rd base okS8 _ (fun a => by simp [flatB]) ?_
  rintro h _ ⟨x, y, ⟨⟩⟩ hro ⟨cs, _, rfl, r, ds, _, rfl, s, rfl⟩
  dsimp only at r s ⊢
  obtain ⟨v1, rfl, -, hv, -⟩ := R72_inv r
  obtain ⟨w1, rfl, -, hw, -⟩ := R72_inv s
  have c59 := call_rdk (P := Try.prog) (I := IS8) (f := 59) (spec := fun x => .bool (decide (x.1 = x.2.1))) rfl 9 (show A34.r (· < h.size) h [_, _] (x.2.2.1, y.2.2.1, ()) from ⟨_, _, rfl, hv, _, _, rfl, hw, rfl⟩)
  refine ⟨10, ?_⟩
  show ∃ h', evalV Try.prog IS8 (9 + 1) (.fn 28) _ h = _ ∧ _
  rw [evalV_call (P := Try.prog) (intr := IS8) (f := 28) (m := 31) (rs := #[.tmp 4]) rfl Try.func28 rfl rfl rfl]
  by_cases h0 : x.1 = y.1
  case neg =>
    have he : ¬ x = y := fun e => h0 (by rw [e])
    simp (maxDischargeDepth := 16) only [z05, z08, z09, z0d, z0e, z0o, z0p, z0q, z0r, z0s, z0t, z0v, z0w, z0z, z10, z11, z12, z13, z16, z1e, z1h, z1v, z1y, z2o, z2w, z2x, z34, z38, z39, z3b, z3c, z3f, z3l, z4a, z4e, z4f, z4g, z4h, z4i, z4m, z4n, z4o, z4p, z4q, z4r, z4s, z4t, z4u, z4w, z4x, z4y, z4z, z50, z51, z52, z53, z54, z59, z5b, z7g, Nat.reduceAdd, Nat.reduceSub, ↓reduceIte, yielded, Hp.cell, tBoolx4, tFieldAx72x0, tPartx4, he, h0]
    exact ⟨_, rfl, (Keeps.get (by repeat (first | exact Keeps.refl _ | refine Keeps.push ?_ _ | refine Keeps.set ?_ (by first | omega | (simp only [Hp.size_push, Hp.size_setB]; omega)) _)))⟩
  by_cases h1 : x.2.1 = y.2.1
  case neg =>
    have he : ¬ x = y := fun e => h1 (by rw [e])
    simp (maxDischargeDepth := 16) only [z05, z08, z09, z0d, z0e, z0o, z0p, z0q, z0r, z0s, z0t, z0v, z0w, z0z, z10, z11, z12, z13, z16, z1e, z1h, z1v, z1y, z2b, z2o, z2w, z2x, z34, z38, z39, z3b, z3c, z3f, z3l, z4a, z4e, z4f, z4g, z4h, z4i, z4m, z4n, z4o, z4p, z4q, z4r, z4s, z4t, z4u, z4w, z4x, z4y, z4z, z50, z51, z52, z53, z54, z59, z5a, z5b, z5e, z7g, Nat.reduceAdd, Nat.reduceSub, ↓reduceIte, yielded, Hp.cell, tBoolx4, tFieldAx72x0, tFieldAx72x1, tPartx4, tPartx22, eq_true h0, he, h1]
    exact ⟨_, rfl, (Keeps.get (by repeat (first | exact Keeps.refl _ | refine Keeps.push ?_ _ | refine Keeps.set ?_ (by first | omega | (simp only [Hp.size_push, Hp.size_setB]; omega)) _)))⟩
  by_cases h2 : x.2.2.2 = y.2.2.2
  case neg =>
    have he : ¬ x = y := fun e => h2 (by rw [e])
    simp (maxDischargeDepth := 16) only [z05, z08, z09, z0d, z0e, z0o, z0p, z0q, z0r, z0s, z0t, z0v, z0w, z0z, z10, z11, z12, z13, z16, z1e, z1h, z1v, z1y, z2b, z2o, z2w, z2x, z34, z38, z39, z3b, z3c, z3f, z3l, z4a, z4e, z4f, z4g, z4h, z4i, z4m, z4n, z4o, z4p, z4q, z4r, z4s, z4t, z4u, z4w, z4x, z4y, z4z, z50, z51, z52, z53, z54, z59, z5a, z5b, z5e, z7g, Nat.reduceAdd, Nat.reduceSub, ↓reduceIte, yielded, Hp.cell, tBoolx4, tFieldAx72x0, tFieldAx72x1, tFieldAx72x3, tPartx4, tPartx22, eq_true h0, eq_true h1, he, h2]
    exact ⟨_, rfl, (Keeps.get (by repeat (first | exact Keeps.refl _ | refine Keeps.push ?_ _ | refine Keeps.set ?_ (by first | omega | (simp only [Hp.size_push, Hp.size_setB]; omega)) _)))⟩
  by_cases h3 : x.2.2.1 = y.2.2.1
  case neg =>
    have he : ¬ x = y := fun e => h3 (by rw [e])
    simp (maxDischargeDepth := 16) only [z05, z08, z09, z0d, z0e, z0o, z0p, z0q, z0r, z0s, z0t, z0v, z0w, z0x, z0z, z10, z11, z12, z13, z16, z1e, z1h, z1l, z1v, z1y, z2b, z2o, z2w, z2x, z34, z38, z39, z3b, z3c, z3f, z3h, z4a, z4e, z4f, z4g, z4h, z4i, z4j, z4k, z4l, z4m, z4n, z4o, z4p, z4q, z4r, z4s, z4t, z4u, z4v, z4w, z4x, z4y, z4z, z50, z51, z52, z53, z54, z5a, z5b, z5e, z7g, z7v, z7w, Nat.reduceAdd, Nat.reduceSub, ↓reduceIte, yielded, Hp.cell, hasBx59, tBoolx4, tFieldAx72x0, tFieldAx72x1, tFieldAx72x2, tFieldAx72x3, tPartx4, tPartx22, tPartx34, c59, eq_true h0, eq_true h1, eq_true h2, he, h3]
    exact ⟨_, rfl, (Keeps.get (by repeat (first | exact Keeps.refl _ | refine Keeps.push ?_ _ | refine Keeps.set ?_ (by first | omega | (simp only [Hp.size_push, Hp.size_setB]; omega)) _)))⟩
  have he : x = y := Prod.ext h0 (Prod.ext h1 (Prod.ext h3 h2))
  simp (maxDischargeDepth := 16) only [z05, z08, z09, z0d, z0e, z0o, z0p, z0q, z0r, z0s, z0t, z0v, z0w, z0x, z0z, z10, z11, z12, z13, z16, z1e, z1h, z1l, z1v, z1y, z2b, z2o, z2w, z2x, z34, z38, z39, z3b, z3c, z3f, z3h, z4a, z4e, z4f, z4g, z4h, z4i, z4j, z4k, z4l, z4m, z4n, z4o, z4p, z4q, z4r, z4s, z4t, z4u, z4v, z4w, z4x, z4y, z4z, z50, z51, z52, z53, z54, z5a, z5e, z7g, z7v, z7w, Nat.reduceAdd, Nat.reduceSub, ↓reduceIte, yielded, Hp.cell, hasBx59, tBoolx4, tFieldAx72x0, tFieldAx72x1, tFieldAx72x2, tFieldAx72x3, tPartx4, tPartx22, tPartx34, c59, eq_true h0, eq_true h1, eq_true h2, eq_true h3, eq_true he]
  exact ⟨_, rfl, (Keeps.get (by repeat (first | exact Keeps.refl _ | refine Keeps.push ?_ _ | refine Keeps.set ?_ (by first | omega | (simp only [Hp.size_push, Hp.size_setB]; omega)) _)))⟩
end Go.Abs.B1
