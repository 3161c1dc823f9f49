/- Ships: equality of bases, views, messages, changes. -/
import Derived.Test.YtnlhfcipapbfmaaSh7
namespace Go.Abs.B1
open Go.Proofs
set_option maxRecDepth 10000
set_option linter.all false
theorem eq24 (x y : T24) : aBin Try.prog .eql 24 (.agg #[.int .u64 x.1, .int .u64 x.2]) (.agg #[.int .u64 y.1, .int .u64 y.2]) = some (.bool (decide (x = y))) := by
  obtain ⟨a, b⟩ := x
  obtain ⟨c, d⟩ := y
  have := (bin_eql_agg (P := Try.prog) (t := 24) (k := [.int .u64, .int .u64]) (xs := #[.int .u64 a, .int .u64 b]) (ys := #[.int .u64 c, .int .u64 d]) (b := decide (a = c) && decide (b = d)) (by kernel_rfl) (by kernel_rfl) (by kernel_rfl) (by simp [cellsEq, scEq, andO])).1
  rw [this]
  congr 2
  simp [Prod.ext_iff]
theorem eq31 (x y : T31) : aBin Try.prog .eql 31 (.agg #[.int .u32 x.1.1, .int .u64 x.1.2, .int .u32 x.2.1.1, .int .u64 x.2.1.2, .int .u32 x.2.2.1, .int .u64 x.2.2.2]) (.agg #[.int .u32 y.1.1, .int .u64 y.1.2, .int .u32 y.2.1.1, .int .u64 y.2.1.2, .int .u32 y.2.2.1, .int .u64 y.2.2.2]) = some (.bool (decide (x = y))) := by
  obtain ⟨⟨a, b⟩, ⟨c, d⟩, e, f⟩ := x
  obtain ⟨⟨a', b'⟩, ⟨c', d'⟩, e', f'⟩ := y
  have := (bin_eql_agg (P := Try.prog) (t := 31) (k := [.int .u32, .int .u64, .int .u32, .int .u64, .int .u32, .int .u64]) (xs := #[.int .u32 a, .int .u64 b, .int .u32 c, .int .u64 d, .int .u32 e, .int .u64 f]) (ys := #[.int .u32 a', .int .u64 b', .int .u32 c', .int .u64 d', .int .u32 e', .int .u64 f'])
    (b := decide (a = a') && (decide (b = b') && (decide (c = c') && (decide (d = d') && (decide (e = e') && decide (f = f')))))) (by kernel_rfl) (by kernel_rfl) (by kernel_rfl) (by simp [cellsEq, scEq, andO])).1
  dsimp only
  rw [this]
  congr 2
  simp [Prod.ext_iff, Bool.and_assoc, and_assoc]
abbrev A33 := Ar.agg R33 (Ar.agg R33 Ar.nil)
noncomputable def g60 := gRd A33 fun x => .bool (decide (x.1 = x.2.1))
theorem con60 : Con Try.prog (CKb Try.prog) 60 g60 := by
  refine Con.rd base okS7 _ (fun a => by simp [flatB]) ?_
  rintro h _ ⟨x, y, ⟨⟩⟩ hro ⟨cs, _, rfl, r, ds, _, rfl, s, rfl⟩
  dsimp only at r s ⊢
  obtain ⟨v1, rfl, -, -, hv, -⟩ := R33_inv r
  obtain ⟨w1, rfl, -, -, hw, -⟩ := R33_inv s
  have c91 := call_rdk (P := Try.prog) (I := IS7) (f := 91) (spec := fun x => .bool (decide (x.1 = x.2.1))) rfl 9 (show A27.r (· < h.size) h [_, _] (x.2.1, y.2.1, ()) from ⟨_, _, rfl, hv, _, _, rfl, hw, rfl⟩)
  have o1 : oneC v1 = true := R25.rone hv v1 (by simp)
  have o2 : oneC w1 = true := R25.rone hw w1 (by simp)
  have e1 := eq24 x.1 y.1
  have e2 := eq31 x.2.2 y.2.2
  refine ⟨10, ?_⟩
  show ∃ h', evalV Try.prog IS7 (9 + 1) (.fn 60) _ h = _ ∧ _
  rw [evalV_call (P := Try.prog) (intr := IS7) (f := 60) (m := 24) (rs := #[.tmp 4]) rfl Try.func60 rfl rfl rfl]
  by_cases h1 : x.1 = y.1
  · by_cases h2 : x.2.2 = y.2.2
    · by_cases h3 : x.2.1 = y.2.1
      · have he : (x = y) = True := eq_true (Prod.ext h1 (Prod.ext h3 h2))
        simp (maxDischargeDepth := 16) only [z05, z08, z09, z0d, z0e, z0o, z0p, z0q, z0r, z0s, z0t, z0v, z0w, z0x, z0z, z10, z11, z12, z13, z16, z1e, z1h, z1l, z1v, z1y, z2o, z2w, z2x, z34, z38, z39, z3b, z3c, z3f, z3h, z3x, z3y, z3z, z40, z41, z42, z43, z46, z4a, z4e, z4f, z4g, z4h, z4i, z4j, z4k, z4l, z4m, z4n, z4o, z4p, z4q, z4r, z4s, z4t, z4u, z4v, z4w, z4x, z4y, z4z, z50, z51, z52, z53, z54, z5a, z5e, z7v, z7w, Nat.reduceLeDiff, Nat.reduceAdd, Nat.reduceSub, ↓reduceIte, yielded, Hp.row, hasBx91, tFieldAx33x0, tFieldAx33x1, tFieldAx33x2, tPartx24, tPartx27, tPartx31, e1, e2, c91, eq_true h1, eq_true h2, eq_true h3, he]
        exact ⟨_, rfl, (Keeps.get (by repeat (first | exact Keeps.refl _ | refine Keeps.push ?_ _ | refine Keeps.set ?_ (by first | omega | (simp only [Hp.size_push, Hp.size_setB]; omega)) _)))⟩
      · have he : ¬ x = y := fun e => h3 (by rw [e])
        simp (maxDischargeDepth := 16) only [z05, z08, z09, z0d, z0e, z0o, z0p, z0q, z0r, z0s, z0t, z0v, z0w, z0x, z0z, z10, z11, z12, z13, z16, z1e, z1h, z1l, z1v, z1y, z2o, z2w, z2x, z34, z38, z39, z3b, z3c, z3f, z3h, z3x, z3y, z3z, z40, z41, z42, z43, z46, z4a, z4e, z4f, z4g, z4h, z4i, z4j, z4k, z4l, z4m, z4n, z4o, z4p, z4q, z4r, z4s, z4t, z4u, z4v, z4w, z4x, z4y, z4z, z50, z51, z52, z53, z54, z5a, z5b, z5e, z7v, z7w, Nat.reduceLeDiff, Nat.reduceAdd, Nat.reduceSub, ↓reduceIte, yielded, Hp.row, hasBx91, tFieldAx33x0, tFieldAx33x1, tFieldAx33x2, tPartx24, tPartx27, tPartx31, e1, e2, c91, eq_true h1, eq_true h2, h3, he]
        exact ⟨_, rfl, (Keeps.get (by repeat (first | exact Keeps.refl _ | refine Keeps.push ?_ _ | refine Keeps.set ?_ (by first | omega | (simp only [Hp.size_push, Hp.size_setB]; omega)) _)))⟩
    · have he : ¬ x = y := fun e => h2 (by rw [e])
      simp (maxDischargeDepth := 16) only [z05, z08, z09, z0d, z0e, z0o, z0p, z0q, z0r, z0s, z0t, z0v, z0w, z0z, z10, z11, z12, z13, z16, z1e, z1h, z1v, z1y, z2o, z2w, z2x, z34, z38, z39, z3b, z3c, z3f, z3l, z3x, z3y, z3z, z40, z41, z42, z43, z46, z4a, z4e, z4f, z4g, z4h, z4i, z4m, z4n, z4o, z4p, z4q, z4r, z4s, z4t, z4u, z4w, z4x, z4y, z4z, z50, z51, z52, z53, z54, z59, z5a, z5b, z5e, Nat.reduceLeDiff, Nat.reduceAdd, Nat.reduceSub, ↓reduceIte, yielded, Hp.row, tFieldAx33x0, tFieldAx33x2, tPartx24, tPartx31, e1, e2, eq_true h1, h2, he]
      exact ⟨_, rfl, (Keeps.get (by repeat (first | exact Keeps.refl _ | refine Keeps.push ?_ _ | refine Keeps.set ?_ (by first | omega | (simp only [Hp.size_push, Hp.size_setB]; omega)) _)))⟩
  · have he : ¬ x = y := fun e => h1 (by rw [e])
    simp (maxDischargeDepth := 16) only [z05, z08, z09, z0d, z0e, z0o, z0p, z0q, z0r, z0s, z0t, z0v, z0w, z0z, z10, z11, z12, z13, z16, z1e, z1h, z1v, z1y, z2o, z2w, z2x, z34, z38, z39, z3b, z3c, z3f, z3l, z3x, z3y, z3z, z41, z42, z4a, z4e, z4f, z4g, z4h, z4i, z4m, z4n, z4o, z4p, z4q, z4r, z4s, z4t, z4u, z4w, z4x, z4y, z4z, z50, z51, z52, z53, z54, z59, z5b, Nat.reduceLeDiff, Nat.reduceAdd, Nat.reduceSub, ↓reduceIte, yielded, Hp.row, tFieldAx33x0, tPartx24, e1, h1, he]
    exact ⟨_, rfl, (Keeps.get (by repeat (first | exact Keeps.refl _ | refine Keeps.push ?_ _ | refine Keeps.set ?_ (by first | omega | (simp only [Hp.size_push, Hp.size_setB]; omega)) _)))⟩
noncomputable def TS8 : TB := [(59, g59), (60, g60)]
noncomputable abbrev IS8 : Intr := fun f => TS8.lookup f
theorem okS8 : IntrOk Try.prog (CKb Try.prog) IS8 := Con.table fun x hx => by
  simp only [TS8, List.mem_cons, List.not_mem_nil, or_false] at hx
  rcases hx with rfl | rfl
  · exact con59
  · exact con60
noncomputable instance : DecidableEq T36 := fun a b => Classical.propDecidable _
noncomputable instance : DecidableEq T47 := fun a b => Classical.propDecidable _
noncomputable instance : DecidableEq T72 := fun a b => Classical.propDecidable _
abbrev A362 := Ar.agg R36 (Ar.agg R36 Ar.nil)
noncomputable def g22 := gRd A362 fun x => .bool (decide (x.1 = x.2.1))
theorem con22 : Con Try.prog (CKb Try.prog) 22 g22 := by
  refine Con.rd base okS8 _ (fun a => by simp [flatB]) ?_
  rintro h _ ⟨x, y, ⟨⟩⟩ hro ⟨cs, _, rfl, r, ds, _, rfl, s, rfl⟩
  dsimp only at r s ⊢
  obtain ⟨v1, v2, rfl, -, b1, b2, hv, b3, b4, b5, b6, b7, b8, hv2⟩ := R36_inv r
  obtain ⟨w1, w2, rfl, -, d1, d2, hw, d3, d4, d5, d6, d7, d8, hw2⟩ := R36_inv s
  have c60 := call_rdk (P := Try.prog) (I := IS8) (f := 60) (spec := fun x => .bool (decide (x.1 = x.2.1))) rfl 9 (show A33.r (· < h.size) h [_, _] (x.2.1, y.2.1, ()) from ⟨_, _, rfl, R33_mk (x := x.2.1) b1 b2 hv b3 b4 b5 b6 b7 b8, _, _, rfl, R33_mk (x := y.2.1) d1 d2 hw d3 d4 d5 d6 d7 d8, rfl⟩)
  have c59 := call_rdk (P := Try.prog) (I := IS8) (f := 59) (spec := fun x => .bool (decide (x.1 = x.2.1))) rfl 9 (show A34.r (· < h.size) h [_, _] (x.2.2, y.2.2, ()) from ⟨_, _, rfl, hv2, _, _, rfl, hw2, rfl⟩)
  refine ⟨10, ?_⟩
  show ∃ h', evalV Try.prog IS8 (9 + 1) (.fn 22) _ h = _ ∧ _
  rw [evalV_call (P := Try.prog) (intr := IS8) (f := 22) (m := 24) (rs := #[.tmp 4]) rfl Try.func22 rfl rfl rfl]
  by_cases h1 : x.1 = y.1
  · by_cases h2 : x.2.1 = y.2.1
    · by_cases h3 : x.2.2 = y.2.2
      · have he : (x = y) = True := eq_true (Prod.ext h1 (Prod.ext h2 h3))
        simp (maxDischargeDepth := 16) only [z05, z08, z09, z0d, z0e, z0o, z0p, z0q, z0r, z0s, z0t, z0v, z0w, z0x, z0z, z10, z11, z12, z13, z16, z1e, z1h, z1l, z1v, z1y, z2b, z2o, z2w, z2x, z34, z38, z39, z3b, z3c, z3f, z3h, z3x, z3y, z3z, z40, z41, z42, z4a, z4e, z4f, z4g, z4h, z4i, z4j, z4k, z4l, z4m, z4n, z4o, z4p, z4q, z4r, z4s, z4t, z4u, z4v, z4w, z4x, z4y, z4z, z50, z51, z52, z53, z54, z5a, z5e, z7v, z7w, Nat.reduceLeDiff, Nat.reduceAdd, Nat.reduceSub, ↓reduceIte, yielded, Hp.cell, Hp.row, hasBx59, hasBx60, tFieldAx36x0, tFieldAx36x1, tFieldAx36x2, tPartx22, tPartx33, tPartx34, c59, c60, eq_true h1, eq_true h2, eq_true h3, he]
        exact ⟨_, rfl, (Keeps.get (by repeat (first | exact Keeps.refl _ | refine Keeps.push ?_ _ | refine Keeps.set ?_ (by first | omega | (simp only [Hp.size_push, Hp.size_setB]; omega)) _)))⟩
      · have he : ¬ x = y := fun e => h3 (by rw [e])
        simp (maxDischargeDepth := 16) only [z05, z08, z09, z0d, z0e, z0o, z0p, z0q, z0r, z0s, z0t, z0v, z0w, z0x, z0z, z10, z11, z12, z13, z16, z1e, z1h, z1l, z1v, z1y, z2b, z2o, z2w, z2x, z34, z38, z39, z3b, z3c, z3f, z3h, z3x, z3y, z3z, z40, z41, z42, z4a, z4e, z4f, z4g, z4h, z4i, z4j, z4k, z4l, z4m, z4n, z4o, z4p, z4q, z4r, z4s, z4t, z4u, z4v, z4w, z4x, z4y, z4z, z50, z51, z52, z53, z54, z5a, z5b, z5e, z7v, z7w, Nat.reduceLeDiff, Nat.reduceAdd, Nat.reduceSub, ↓reduceIte, yielded, Hp.cell, Hp.row, hasBx59, hasBx60, tFieldAx36x0, tFieldAx36x1, tFieldAx36x2, tPartx22, tPartx33, tPartx34, c59, c60, eq_true h1, eq_true h2, h3, he]
        exact ⟨_, rfl, (Keeps.get (by repeat (first | exact Keeps.refl _ | refine Keeps.push ?_ _ | refine Keeps.set ?_ (by first | omega | (simp only [Hp.size_push, Hp.size_setB]; omega)) _)))⟩
    · have he : ¬ x = y := fun e => h2 (by rw [e])
      simp (maxDischargeDepth := 16) only [z05, z08, z09, z0d, z0e, z0o, z0p, z0q, z0r, z0s, z0t, z0v, z0w, z0x, z0z, z10, z11, z12, z13, z16, z1e, z1h, z1l, z1v, z1y, z2b, z2o, z2w, z2x, z34, z38, z39, z3b, z3c, z3f, z3h, z3l, z3x, z3y, z3z, z40, z41, z42, z4a, z4e, z4f, z4g, z4h, z4i, z4j, z4k, z4l, z4m, z4n, z4o, z4p, z4q, z4r, z4s, z4t, z4u, z4v, z4w, z4x, z4y, z4z, z50, z51, z52, z53, z54, z59, z5a, z5b, z5e, z7v, z7w, Nat.reduceLeDiff, Nat.reduceAdd, Nat.reduceSub, ↓reduceIte, yielded, Hp.cell, Hp.row, hasBx60, tFieldAx36x0, tFieldAx36x1, tPartx22, tPartx33, c60, eq_true h1, h2, he]
      exact ⟨_, rfl, (Keeps.get (by repeat (first | exact Keeps.refl _ | refine Keeps.push ?_ _ | refine Keeps.set ?_ (by first | omega | (simp only [Hp.size_push, Hp.size_setB]; omega)) _)))⟩
  · have he : ¬ x = y := fun e => h1 (by rw [e])
    simp (maxDischargeDepth := 16) only [z05, z08, z09, z0d, z0e, z0o, z0p, z0q, z0r, z0s, z0t, z0v, z0w, z0z, z10, z11, z12, z13, z16, z1e, z1h, z1v, z1y, z2b, z2o, z2w, z2x, z34, z38, z39, z3b, z3c, z3f, z3l, z4a, z4e, z4f, z4g, z4h, z4i, z4m, z4n, z4o, z4p, z4q, z4r, z4s, z4t, z4u, z4w, z4x, z4y, z4z, z50, z51, z52, z53, z54, z59, z5b, Nat.reduceAdd, Nat.reduceSub, ↓reduceIte, yielded, Hp.cell, tFieldAx36x0, tPartx22, h1, he]
    exact ⟨_, rfl, (Keeps.get (by repeat (first | exact Keeps.refl _ | refine Keeps.push ?_ _ | refine Keeps.set ?_ (by first | omega | (simp only [Hp.size_push, Hp.size_setB]; omega)) _)))⟩
end Go.Abs.B1
