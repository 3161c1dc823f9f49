/- Ships: is a base to be taken; offers that may be. -/
import Derived.Test.YtnlhfcipapbfmaaSh18
import Derived.Test.YtnlhfcipapbfmaaSh9
namespace Go.Abs.B1
open Go.Proofs
set_option maxRecDepth 10000
set_option maxHeartbeats 4000000
set_option linter.all false
/-- A guard whose holder was passed over. -/
theorem guU : yielded.match_1 (fun _ => Option Bool) (some undef) (fun b => some b) (fun _ => none) = none := rfl
abbrev Avm := Ar.agg R36 (Ar.agg R47 Ar.nil)
def tookB (x : T36) (i e : Int) : Bool := decide (x.2.1.1.1 ≤ i) && !((f57 x i).2.2 && decide ((f57 x i).2.1 = e))
def f27 (x : T36) (y : T47) : Bool × Int :=
  if f15 x = 0 then (if y.1 = 3 then (if 4611686018427387904 < y.2.2.2.2.2.2.2.2.2.2.1.1.1 then (false, 2) else (tookB x y.2.2.2.2.2.2.2.2.2.2.1.1.1 y.2.2.2.2.2.2.2.2.2.2.1.1.2, 0)) else (false, 2)) else (false, f15 x)
noncomputable def g27 := gRd Avm fun x => .tuple #[.bool (f27 x.1 x.2.1).1, .int .i64 (f27 x.1 x.2.1).2]
noncomputable def TT21 : TB := [(15, g15), (57, g57)]
noncomputable abbrev IT21 : Intr := fun f => TT21.lookup f
theorem okT21 : IntrOk Try.prog (CKb Try.prog) IT21 := Con.table fun x hx => by
  simp only [TT21, List.mem_cons, List.not_mem_nil, or_false] at hx
  rcases hx with rfl | rfl
  · exact con15
  · exact con57
theorem con27 : Con Try.prog (CKb Try.prog) 27 g27 := by
  refine Con.rd base okT21 _ (fun a => by simp [flatB]) ?_
  rintro h _ ⟨x, y, ⟨⟩⟩ hro ⟨cs, _, rfl, r, ds, _, rfl, s, rfl⟩
  dsimp only at r s ⊢
  have c15 := call_rdk (P := Try.prog) (A := A36) (I := IT21) (f := 15) (spec := fun x => .int .i64 (f15 x.1)) rfl 9 (show A36.r (· < h.size) h [_] (x, ()) from ⟨_, _, rfl, r, rfl⟩)
  have c57 := fun i hi => call_rdk (P := Try.prog) (A := A36i) (I := IT21) (f := 57) (spec := fun x => .tuple #[vAt (f57 x.1 x.2.1).1 (f57 x.1 x.2.1).2.1, .bool (f57 x.1 x.2.1).2.2]) rfl 9 (show A36i.r (· < h.size) h [_, _] (x, i, ()) from ⟨_, _, rfl, r, _, _, rfl, ⟨rfl, hi⟩, rfl⟩)
  obtain ⟨v1, v2, rfl, -, hx, -, -, -, -, -, -, -, -, h2⟩ := R36_inv r
  obtain ⟨w1, w2, w3, rfl, -, -, -, -, -, -, hw, -, -, -, d1, d2, hw2, d3, d4, d5, d6, d7, d8, -, hw3, -⟩ := R47_inv s
  refine ⟨10, ?_⟩
  show ∃ h', evalV Try.prog IT21 (9 + 1) (.fn 27) _ h = _ ∧ _
  rw [evalV_call (P := Try.prog) (intr := IT21) (f := 27) (m := 51) (rs := #[.tmp 4, .tmp 5]) rfl Try.func27 rfl rfl rfl]
  by_cases q0 : f15 x = 0
  case neg =>
    simp (maxDischargeDepth := 16) only [z05, z08, z09, z0a, z0b, z0d, z0e, z0f, z0o, z0p, z0q, z0s, z0t, z0v, z0w, z0x, z0z, z10, z11, z13, z1e, z1h, z1l, z1v, z2c, z2o, z2x, z34, z38, z39, z3b, z3d, z3f, z3h, z3x, z3y, z3z, z41, z43, z46, z4a, z4e, z4f, z4g, z4h, z4i, z4j, z4k, z4l, z4p, z4q, z4r, z4s, z4t, z4u, z4v, z4w, z4x, z4y, z4z, z52, z53, z5b, z5d, z7v, z7w, Nat.reduceAdd, Nat.reduceSub, ↓reduceIte, Hp.row, hasBx15, tPartx36, ro_le hro, c15, q0, f27]
    exact ⟨_, rfl, (Keeps.get (by repeat (first | exact Keeps.refl _ | refine Keeps.push ?_ _ | refine Keeps.set ?_ (by first | omega | (simp only [Hp.size_push, Hp.size_setB]; omega)) _)))⟩
  by_cases q1 : y.1 = 3
  case neg =>
    simp (maxDischargeDepth := 16) only [z04, z05, z08, z09, z0a, z0b, z0c, z0d, z0e, z0f, z0o, z0p, z0q, z0r, z0s, z0t, z0u, z0v, z0w, z0x, z0z, z10, z11, z12, z13, z16, z1e, z1f, z1g, z1h, z1l, z1v, z1w, z1x, z1y, z2c, z2o, z2w, z2x, z2y, z2z, z34, z35, z36, z38, z39, z3a, z3b, z3d, z3f, z3h, z3k, z3p, z3v, z3w, z3x, z3y, z3z, z40, z41, z42, z43, z44, z45, z46, z49, z4a, z4c, z4e, z4f, z4g, z4h, z4i, z4j, z4k, z4l, z4m, z4n, z4o, z4p, z4q, z4r, z4s, z4t, z4u, z4v, z4w, z4x, z4y, z4z, z50, z51, z52, z53, z54, z59, z5a, z5b, z5c, z5d, z5f, z72, z7v, z7w, Nat.reduceEqDiff, Nat.reduceLeDiff, Nat.reduceAdd, Nat.reduceSub, ↓reduceIte, yielded, Hp.cell, Hp.row, Hp.wr, hasBx15, tFieldAx33x0, tFieldAx47x0, tFieldAx47x10, tPartx3, tPartx24, tPartx36, tSizex24, tZerox24, ro_le hro, hro, c15, eq_true q0, q1, f27]
    exact ⟨_, rfl, (Keeps.get (by repeat (first | exact Keeps.refl _ | refine Keeps.push ?_ _ | refine Keeps.set ?_ (by first | omega | (simp only [Hp.size_push, Hp.size_setB]; omega)) _)))⟩
  by_cases q2 : 4611686018427387904 < y.2.2.2.2.2.2.2.2.2.2.1.1.1
  · simp (maxDischargeDepth := 16) only [z04, z05, z08, z09, z0a, z0b, z0c, z0d, z0e, z0f, z0o, z0p, z0q, z0r, z0s, z0t, z0u, z0v, z0w, z0x, z0z, z10, z11, z12, z13, z16, z1e, z1f, z1g, z1h, z1l, z1v, z1w, z1x, z1y, z2c, z2f, z2o, z2w, z2x, z2y, z2z, z33, z34, z35, z36, z38, z39, z3a, z3b, z3d, z3f, z3h, z3p, z3v, z3w, z3x, z3y, z3z, z40, z41, z42, z43, z44, z45, z46, z49, z4a, z4c, z4e, z4f, z4g, z4h, z4i, z4j, z4k, z4l, z4m, z4n, z4o, z4p, z4q, z4r, z4s, z4t, z4u, z4v, z4w, z4x, z4y, z4z, z50, z51, z52, z53, z54, z59, z5a, z5c, z5e, z5f, z72, z7v, z7w, Nat.reduceEqDiff, Nat.reduceLeDiff, Nat.reduceAdd, Nat.reduceSub, ↓reduceIte, yielded, Hp.cell, Hp.row, Hp.wr, hasBx15, tFieldAx24x0, tFieldAx33x0, tFieldAx47x0, tFieldAx47x10, tPartx3, tPartx22, tPartx24, tPartx36, tSizex24, tZerox24, ro_le hro, hro, c15, eq_true q0, eq_true q1, q2, f27]
    exact ⟨_, rfl, (Keeps.get (by repeat (first | exact Keeps.refl _ | refine Keeps.push ?_ _ | refine Keeps.set ?_ (by first | omega | (simp only [Hp.size_push, Hp.size_setB]; omega)) _)))⟩
  replace c57 := c57 _ d1
  by_cases q3 : x.2.1.1.1 ≤ y.2.2.2.2.2.2.2.2.2.2.1.1.1 <;> cases q4 : (f57 x y.2.2.2.2.2.2.2.2.2.2.1.1.1).2.2 <;> by_cases q5 : (f57 x y.2.2.2.2.2.2.2.2.2.2.1.1.1).2.1 = y.2.2.2.2.2.2.2.2.2.2.1.1.2 <;>
    simp (maxDischargeDepth := 16) only [z04, z05, z08, z09, z0a, z0c, z0d, z0e, z0o, z0p, z0q, z0r, z0s, z0t, z0u, z0v, z0w, z0x, z0z, z10, z11, z12, z13, z14, z16, z1a, z1e, z1f, z1g, z1h, z1l, z1v, z1w, z1x, z1y, z2b, z2c, z2f, z2g, z2h, z2o, z2t, z2w, z2x, z2y, z2z, z33, z34, z35, z36, z38, z39, z3a, z3b, z3d, z3f, z3h, z3l, z3n, z3p, z3v, z3w, z3x, z3y, z3z, z40, z41, z42, z43, z44, z45, z46, z49, z4a, z4b, z4c, z4d, z4e, z4f, z4g, z4h, z4i, z4j, z4k, z4l, z4m, z4n, z4o, z4p, z4q, z4r, z4s, z4t, z4u, z4v, z4w, z4x, z4y, z4z, z50, z51, z52, z53, z54, z59, z5a, z5b, z5c, z5d, z5e, z5f, z5h, z72, z7b, z7v, z7w, z7x, Nat.reduceEqDiff, Nat.reduceLeDiff, Nat.reduceAdd, Nat.reduceSub, ↓reduceIte, yielded, Hp.cell, Hp.row, Hp.wr, hasBx15, hasBx57, tFieldAx24x0, tFieldAx24x1, tFieldAx33x0, tFieldAx36x1, tFieldAx47x0, tFieldAx47x10, tPartx3, tPartx22, tPartx24, tPartx36, tSizex24, tZerox24, ro_le hro, hro, c15, eq_true q0, eq_true q1, q2, q3, q4, q5, c57, f27, tookB, guU] <;> exact ⟨_, rfl, (Keeps.get (by repeat (first | exact Keeps.refl _ | refine Keeps.push ?_ _ | refine Keeps.set ?_ (by first | omega | (simp only [Hp.size_push, Hp.size_setB]; omega)) _)))⟩
def tookF (x : T36) (i e : Int) : Bool := decide (x.2.1.1.1 ≤ i) && !((f61 x i).2.2 && decide ((f61 x i).2.1 = e))
noncomputable def g31 := gRd Avm fun x => .bool (tookF x.1 x.2.1.2.2.2.2.2.2.2.2.2.2.1.1.1 x.2.1.2.2.2.2.2.2.2.2.2.2.1.1.2)
noncomputable def TU21 : TB := [(19, g19)]
noncomputable abbrev IU21 : Intr := fun f => TU21.lookup f
theorem okU21 : IntrOk Try.prog (CKb Try.prog) IU21 := Con.table fun x hx => by
  simp only [TU21, List.mem_cons, List.not_mem_nil, or_false] at hx
  rcases hx with rfl
  · exact con19
theorem con31 : Con Try.prog (CKb Try.prog) 31 g31 := by
  refine Con.rd base okU21 _ (fun a => by simp [flatB]) ?_
  rintro h _ ⟨x, y, ⟨⟩⟩ hro ⟨cs, _, rfl, r, ds, _, rfl, s, rfl⟩
  dsimp only at r s ⊢
  have c19 := fun i hi => call_rdk (P := Try.prog) (A := A36i) (I := IU21) (f := 19) (spec := fun x => .tuple #[vAt (f61 x.1 x.2.1).1 (f61 x.1 x.2.1).2.1, .bool (f61 x.1 x.2.1).2.2]) rfl 9 (show A36i.r (· < h.size) h [_, _] (x, i, ()) from ⟨_, _, rfl, r, _, _, rfl, ⟨rfl, hi⟩, rfl⟩)
  obtain ⟨v1, v2, rfl, -, hx, -, -, -, -, -, -, -, -, h2⟩ := R36_inv r
  obtain ⟨w1, w2, w3, rfl, -, -, -, -, -, -, hw, -, -, -, d1, d2, hw2, d3, d4, d5, d6, d7, d8, -, hw3, -⟩ := R47_inv s
  refine ⟨10, ?_⟩
  show ∃ h', evalV Try.prog IU21 (9 + 1) (.fn 31) _ h = _ ∧ _
  rw [evalV_call (P := Try.prog) (intr := IU21) (f := 31) (m := 38) (rs := #[.tmp 4]) rfl Try.func31 rfl rfl rfl]
  replace c19 := c19 _ d1
  by_cases q3 : x.2.1.1.1 ≤ y.2.2.2.2.2.2.2.2.2.2.1.1.1 <;> cases q4 : (f61 x y.2.2.2.2.2.2.2.2.2.2.1.1.1).2.2 <;> by_cases q5 : (f61 x y.2.2.2.2.2.2.2.2.2.2.1.1.1).2.1 = y.2.2.2.2.2.2.2.2.2.2.1.1.2 <;>
    simp (maxDischargeDepth := 16) only [z05, z08, z09, z0d, z0e, z0o, z0p, z0q, z0r, z0s, z0t, z0u, z0v, z0w, z0x, z0z, z10, z11, z12, z13, z14, z16, z1a, z1e, z1f, z1g, z1h, z1l, z1v, z1w, z1x, z1y, z2b, z2g, z2h, z2o, z2t, z2w, z2x, z2y, z2z, z33, z34, z35, z36, z38, z39, z3a, z3b, z3c, z3f, z3h, z3l, z3n, z3p, z3v, z3w, z3x, z3y, z3z, z41, z43, z44, z45, z46, z49, z4a, z4c, z4e, z4f, z4g, z4h, z4i, z4j, z4k, z4l, z4m, z4n, z4o, z4p, z4q, z4r, z4s, z4t, z4u, z4v, z4w, z4x, z4y, z4z, z50, z51, z52, z53, z54, z59, z5a, z5b, z5c, z5d, z5e, z5f, z5h, z72, z7v, z7w, Nat.reduceEqDiff, Nat.reduceAdd, Nat.reduceSub, ↓reduceIte, yielded, Hp.cell, Hp.row, Hp.wr, hasBx19, tFieldAx24x0, tFieldAx24x1, tFieldAx33x0, tFieldAx36x1, tFieldAx47x10, tPartx22, tPartx36, tSizex24, tZerox24, ro_le hro, hro, q3, q4, q5, c19, tookF, guU] <;> exact ⟨_, rfl, (Keeps.get (by repeat (first | exact Keeps.refl _ | refine Keeps.push ?_ _ | refine Keeps.set ?_ (by first | omega | (simp only [Hp.size_push, Hp.size_setB]; omega)) _)))⟩
abbrev Amsg := Ar.agg R47 Ar.nil
def f29 (y : T47) : Bool := decide (y.1 = 1) && decide ((y.2.2.2.2.2.1.length : Int) ≤ 8) && decide (y.2.2.2.2.1.1 ≤ 4611686018427387904)
noncomputable def g29 := gRd Amsg fun x => .bool (f29 x.1)
theorem con29 : Con Try.prog (CKb Try.prog) 29 g29 := by
  refine Con.rd base ok0 _ (fun a => by simp [flatB]) ?_
  rintro h _ ⟨y, ⟨⟩⟩ hro ⟨ds, _, rfl, s, rfl⟩
  dsimp only at s ⊢
  obtain ⟨w1, w2, w3, rfl, -, -, -, -, -, -, hw, -⟩ := R47_inv s
  obtain ⟨o, c, rfl, -⟩ := slice_form hw
  refine ⟨10, ?_⟩
  show ∃ h', evalV Try.prog I0 (9 + 1) (.fn 29) _ h = _ ∧ _
  rw [evalV_call (P := Try.prog) (intr := I0) (f := 29) (m := 18) (rs := #[.tmp 2]) rfl Try.func29 rfl rfl rfl]
  by_cases q1 : y.1 = 1
  case neg =>
    simp (maxDischargeDepth := 16) only [z05, z08, z09, z0d, z0e, z0o, z0p, z0q, z0r, z0s, z0t, z0v, z0w, z0z, z10, z11, z12, z13, z16, z1e, z1h, z1v, z1y, z2b, z2o, z2w, z2x, z34, z3b, z3c, z3f, z3l, z4e, z4f, z4g, z4h, z4i, z4m, z4n, z4o, z4p, z4q, z4r, z4s, z4t, z4u, z4w, z4x, z4y, z4z, z50, z51, z52, z53, z54, z59, z5b, z5i, Nat.reduceSub, ↓reduceIte, yielded, Hp.cell, tFieldAx47x0, tPartx3, q1, f29]
    exact ⟨_, rfl, (Keeps.get (by repeat (first | exact Keeps.refl _ | refine Keeps.push ?_ _ | refine Keeps.set ?_ (by first | omega | (simp only [Hp.size_push, Hp.size_setB]; omega)) _)))⟩
  by_cases q2 : (y.2.2.2.2.2.1.length : Int) ≤ 8 <;> by_cases q3 : y.2.2.2.2.1.1 ≤ 4611686018427387904 <;>
    simp (maxDischargeDepth := 16) only [z05, z08, z09, z0d, z0e, z0o, z0p, z0q, z0r, z0s, z0t, z0v, z0w, z0z, z10, z11, z12, z13, z16, z1e, z1h, z1p, z1r, z1v, z1y, z2b, z2e, z2o, z2w, z2x, z34, z3b, z3c, z3f, z3l, z4e, z4f, z4g, z4h, z4i, z4m, z4n, z4o, z4p, z4q, z4r, z4s, z4t, z4u, z4w, z4x, z4y, z4z, z50, z51, z52, z53, z54, z59, z5a, z5b, z5e, z5f, z5h, Nat.reduceSub, ↓reduceIte, yielded, Hp.cell, tFieldAx24x0, tFieldAx47x0, tFieldAx47x4, tFieldAx47x5, tLenx34, tPartx3, tPartx22, tPartx34, eq_true q1, q2, q3, f29] <;> exact ⟨_, rfl, (Keeps.get (by repeat (first | exact Keeps.refl _ | refine Keeps.push ?_ _ | refine Keeps.set ?_ (by first | omega | (simp only [Hp.size_push, Hp.size_setB]; omega)) _)))⟩
end Go.Abs.B1
