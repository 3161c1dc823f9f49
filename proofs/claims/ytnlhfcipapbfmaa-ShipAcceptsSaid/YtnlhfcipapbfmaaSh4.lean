/- Ships: places by the document; matches; what is to be taken. -/
import Derived.Test.YtnlhfcipapbfmaaSh3
namespace Go.Abs.B1
open Go.Proofs
set_option maxRecDepth 10000
set_option linter.all false
noncomputable def TS2 : TB := [(15, g15), (14, g14), (55, g55), (57, g57)]
noncomputable abbrev IS2 : Intr := fun f => TS2.lookup f
theorem okS2 : IntrOk Try.prog (CKb Try.prog) IS2 := Con.table fun x hx => by
  simp only [TS2, List.mem_cons, List.not_mem_nil, or_false] at hx
  rcases hx with rfl | rfl | rfl | rfl
  · exact con15
  · exact con14
  · exact con55
  · exact con57
def f17 (x : T36) (i : Int) : Int × Int × Bool := if f15 x = 0 then f57 x i else (0, 0, false)
noncomputable def g17 := gRd A36i fun x => .tuple #[vAt (f17 x.1 x.2.1).1 (f17 x.1 x.2.1).2.1, .bool (f17 x.1 x.2.1).2.2]
theorem con17 : Con Try.prog (CKb Try.prog) 17 g17 := by
  refine Con.rd base okS2 _ (fun a => by simp [flatB]) ?_
  rintro h _ ⟨x, i, ⟨⟩⟩ hro ⟨cs, vs, rfl, r, v, vs', rfl, ⟨e, hi⟩, rfl⟩
  simp only [List.cons.injEq, and_true] at e
  subst e
  dsimp only at r hi
  have c15 := call_rdk (P := Try.prog) (I := IS2) (f := 15) (spec := fun x => .int .i64 (f15 x.1)) rfl 9 (show A36.r (· < h.size) h [_] (x, ()) from ⟨_, _, rfl, r, rfl⟩)
  have c57 := call_rdk (P := Try.prog) (I := IS2) (f := 57) (spec := fun x => .tuple #[vAt (f57 x.1 x.2.1).1 (f57 x.1 x.2.1).2.1, .bool (f57 x.1 x.2.1).2.2]) rfl 9 (show A36i.r (· < h.size) h [_, _] (x, i, ()) from ⟨_, _, rfl, r, _, _, rfl, ⟨rfl, hi⟩, rfl⟩)
  obtain ⟨v1, v2, rfl, -⟩ := R36_inv r
  refine ⟨10, ?_⟩
  show ∃ h', evalV Try.prog IS2 (9 + 1) (.fn 17) _ h = _ ∧ _
  rw [evalV_call (P := Try.prog) (intr := IS2) (f := 17) (m := 15) (rs := #[.cell 4 24, .tmp 5]) rfl Try.func17 rfl rfl rfl]
  by_cases q : f15 x = 0 <;> simp (maxDischargeDepth := 16) only [z04, z05, z08, z09, z0a, z0b, z0c, z0d, z0e, z0f, z0o, z0p, z0q, z0s, z0t, z0u, z0v, z0w, z0x, z0z, z10, z11, z13, z1a, z1b, z1e, z1f, z1g, z1h, z1l, z1v, z1w, z1x, z2c, z2o, z2t, z2x, z2y, z2z, z33, z34, z38, z39, z3b, z3d, z3f, z3g, z3h, z3p, z3v, z3w, z3x, z3y, z3z, z41, z43, z44, z45, z46, z49, z4a, z4c, z4e, z4f, z4g, z4h, z4i, z4j, z4k, z4l, z4m, z4n, z4o, z4p, z4q, z4r, z4s, z4t, z4u, z4v, z4w, z4x, z4y, z4z, z50, z51, z52, z53, z5a, z5b, z5c, z5d, z5f, z72, z7v, z7w, z80, z81, Nat.reduceAdd, Nat.reduceSub, ↓reduceIte, Hp.row, Hp.wr, hasBx15, hasBx57, tBuildOkx24, tPartx24, tPartx36, tSizex24, tZerox24, ro_le hro, hro, q, f17, c15, c57] <;> exact ⟨_, rfl, (Keeps.get (by repeat (first | exact Keeps.refl _ | refine Keeps.push ?_ _ | refine Keeps.set ?_ (by first | omega | (simp only [Hp.size_push, Hp.size_setB]; omega)) _)))⟩

noncomputable def g62 := gRdv A36 fun vs _ => vs.getD 0 undef
theorem con62 : Con Try.prog (CKb Try.prog) 62 g62 := by
  refine Con.rdv base ok0 _ (fun h vs x hx => ?_) ?_
  · obtain ⟨cs, vs', rfl, r, rfl⟩ := hx
    simp only [List.getD_cons_zero, vok_agg]
    exact fun c hc => vin_vok (R36.rvin r c (by simpa using hc)) fun b hb => hb
  rintro h _ ⟨x, ⟨⟩⟩ hro ⟨cs, vs, rfl, r, rfl⟩
  dsimp only at r ⊢
  obtain ⟨v1, v2, rfl, -, -, -, k1, -, -, -, -, -, -, k2⟩ := R36_inv r
  obtain ⟨_, _, rfl, _⟩ := slice_form k1
  obtain ⟨_, _, rfl, _⟩ := slice_form k2
  refine ⟨1, ?_⟩
  show ∃ h', evalV Try.prog I0 (0 + 1) (.fn 62) _ h = _ ∧ _
  rw [evalV_call (P := Try.prog) (intr := I0) (f := 62) (m := 10) (rs := #[.cell 2 135]) rfl Try.func62 rfl rfl rfl]
  simp (maxDischargeDepth := 16) only [z05, z08, z09, z0d, z0e, z0o, z0p, z0q, z0s, z0t, z0u, z0v, z0z, z16, z1b, z1e, z1f, z1g, z1h, z1v, z1w, z1x, z2m, z2o, z2q, z2w, z2x, z2y, z2z, z33, z34, z38, z39, z3b, z3c, z3g, z3p, z3s, z3v, z3w, z3x, z3y, z3z, z40, z41, z42, z43, z44, z45, z46, z49, z4a, z4c, z4e, z4f, z4g, z4h, z4i, z4j, z4k, z4l, z4m, z4n, z4o, z4p, z4q, z4r, z4s, z4t, z4u, z4w, z4x, z4y, z4z, z50, z51, z53, z54, z5f, z72, z80, z81, z82, z83, Nat.reduceLeDiff, Nat.reduceAdd, Nat.reduceSub, ↓reduceIte, Hp.cell, Hp.row, Hp.wr, tBuildFx135x0, tBuildFx135x1, tBuildFx135x2, tBuildOkx135, tFieldAx36x0, tFieldAx36x1, tFieldAx36x2, tPartx22, tPartx33, tPartx34, tPartx135, tSizex135, tZerox135, ro_le hro, hro]
  exact ⟨_, rfl, (Keeps.get (by repeat (first | exact Keeps.refl _ | refine Keeps.push ?_ _ | refine Keeps.set ?_ (by first | omega | (simp only [Hp.size_push, Hp.size_setB]; omega)) _)))⟩

/-- The place of the last entry, as the document has it. -/
def f92 (x : T36) : Int × Int := if (x.2.2.length : Int) = 0 then (x.2.1.1.1, x.2.1.1.2) else (f55 x, epoAt x (x.2.2.length - 1))
noncomputable def g92 := gRd A36 fun x => vAt (f92 x.1).1 (f92 x.1).2
theorem con92 : Con Try.prog (CKb Try.prog) 92 g92 := by
  refine Con.rd base ok0 _ (fun a => by simp [flatB]) ?_
  rintro h _ ⟨x, ⟨⟩⟩ hro ⟨cs, vs, rfl, r, rfl⟩
  dsimp only at r ⊢
  obtain ⟨v1, v2, rfl, -, -, -, k1, -, -, -, -, -, -, h2⟩ := R36_inv r
  refine ⟨1, ?_⟩
  show ∃ h', evalV Try.prog I0 (0 + 1) (.fn 92) _ h = _ ∧ _
  rw [evalV_call (P := Try.prog) (intr := I0) (f := 92) (m := 27) (rs := #[.cell 2 24]) rfl Try.func92 rfl rfl rfl]
  obtain ⟨a2, c2, rfl, _, hl2⟩ := slice_form h2
  by_cases q : (x.2.2.length : Int) = 0
  · simp (maxDischargeDepth := 16) only [z05, z08, z09, z0a, z0b, z0d, z0e, z0f, z0o, z0p, z0q, z0s, z0t, z0u, z0v, z0w, z0z, z10, z11, z13, z16, z1e, z1f, z1g, z1h, z1p, z1r, z1v, z1w, z1x, z2b, z2o, z2w, z2x, z2y, z2z, z33, z34, z38, z39, z3b, z3c, z3g, z3p, z3v, z3w, z3x, z3y, z3z, z40, z41, z42, z43, z44, z45, z46, z49, z4a, z4c, z4e, z4f, z4g, z4h, z4i, z4m, z4n, z4o, z4p, z4q, z4r, z4s, z4t, z4u, z4w, z4x, z4y, z4z, z50, z51, z53, z54, z5a, z5f, z72, Nat.reduceLeDiff, Nat.reduceAdd, Nat.reduceSub, ↓reduceIte, Hp.cell, Hp.row, Hp.wr, tFieldAx33x0, tFieldAx135x1, tFieldAx135x2, tLenx34, tPartx24, tPartx34, tSizex24, tZerox24, ro_le hro, hro, q, f92]
    exact ⟨_, rfl, (Keeps.get (by repeat (first | exact Keeps.refl _ | refine Keeps.push ?_ _ | refine Keeps.set ?_ (by first | omega | (simp only [Hp.size_push, Hp.size_setB]; omega)) _)))⟩
  unfold capOpen at hl2
  obtain ⟨n, hn⟩ : ∃ n : Nat, x.2.2.length = n + 1 := ⟨x.2.2.length - 1, by omega⟩
  obtain ⟨y, hy⟩ : ∃ y, x.2.2[n]? = some y := ⟨_, List.getElem?_eq_getElem (by omega)⟩
  obtain ⟨b, off, c, cells, ow, part, e, hb, hg, -, -, -, hp, he, -⟩ := slice_elem (e := R85) h2 hy (by decide)
  cases e
  obtain ⟨w, rfl, -⟩ := R85_inv hp
  have e0 : cells[off + n * 4]? = some (.int .u64 y.1) := he 0 (by decide)
  have hep : epoAt x (x.2.2.length - 1) = y.1 := by rw [hn]; simp [epoAt, hy]
  have hw : IntKind.i64.wrap ((x.2.2.length : Int) - 1) = (n : Int) := by rw [i64_in] <;> omega
  have n1 : (0 : Int) ≤ (n : Int) := by omega
  have n2 : (n : Int) < (x.2.2.length : Int) := by omega
  simp (maxDischargeDepth := 16) only [z04, z08, z09, z0a, z0c, z0d, z0e, z0p, z0q, z0s, z0t, z0v, z0w, z0z, z10, z11, z13, z16, z1e, z1g, z1h, z1p, z1r, z1v, z2b, z2o, z2w, z2x, z2z, z34, z38, z39, z3b, z4a, z4e, z4f, z4g, z4h, z4i, z4m, z4n, z4o, z4p, z4q, z4r, z4s, z4t, z4u, z4w, z4x, z4y, z4z, z50, z51, z53, z5b, z7t, Nat.reduceSub, ↓reduceIte, Hp.cell, tFieldAx135x2, tLenx34, tPartx34, tZerox24, ro_le hro, q, f92, f55]
  rw [evalDraw_modes _ _ [(0, 0, 1), (0, 1, 3), (0, 3, 7), (2, 7, 15), (0, 0, 16), (0, 16, 48), (0, 63, 127), (0, 0, 128), (2, 128, 384), (0, 0, 512), (0, 512, 1536), (0, 1920, 3968), (0, 3968, 8064), (2, 8064, 16256), (0, 16383, 32767), (1, 32767, 65535)] (by kernel_rfl)]
  simp (maxDischargeDepth := 16) only [z05, z0d, z0e, z0o, z0t, z0u, z0v, z0w, z0z, z10, z13, z15, z16, z18, z1b, z1e, z1f, z1v, z1w, z1x, z1z, z24, z25, z2m, z2o, z2u, z2w, z2x, z2y, z33, z34, z38, z39, z3a, z3b, z3c, z3g, z3p, z3v, z3w, z3x, z3y, z3z, z41, z43, z44, z45, z46, z48, z49, z4a, z4b, z4c, z4e, z4f, z4g, z4h, z4i, z4j, z4k, z4l, z4m, z4n, z4o, z4p, z4q, z4r, z4z, z50, z51, z53, z54, z5a, z5f, z5j, z5k, z5l, z5m, z5o, z5t, z5u, z5w, z5x, z62, z66, z6a, z6b, z6d, z6g, z6h, z6j, z6p, z6t, z6u, z6v, z6x, z70, z71, z72, z7a, z7c, z7d, z7z, z80, z81, z82, z83, Nat.reduceLeDiff, Nat.reduceAdd, Nat.reduceSub, ↓reduceIte, keepR, Hp.cell, Hp.row, Hp.wr, tBuildFx24x0, tBuildFx24x1, tBuildOkx24, tElemx34, tFieldAx24x0, tFieldAx33x0, tFieldAx85x0, tFieldAx135x1, tFieldAx135x2, tIntx3x22, tPartx22, tPartx24, tPartx34, tSizex24, tZerox24, ro_le hro, hro, hw, n1, n2, ne_f hb, ne_f0 hb, lt_t hb, lt_t0 hb, hg, Int.toNat_natCast, e0, hep]
  exact ⟨_, rfl, (Keeps.get (by repeat (first | exact Keeps.refl _ | refine Keeps.push ?_ _ | refine Keeps.set ?_ (by first | omega | (simp only [Hp.size_push, Hp.size_setB]; omega)) _)))⟩
end Go.Abs.B1
