/- Ships: places by the document; what is to be taken; matches. -/
import Derived.Test.YtnlhfcipapbfmaaSh4
namespace Go.Abs.B1
open Go.Proofs
set_option maxRecDepth 10000
set_option linter.all false
noncomputable def TS3 : TB := [(15, g15), (14, g14), (55, g55), (57, g57), (17, g17), (62, g62), (92, g92)]
noncomputable abbrev IS3 : Intr := fun f => TS3.lookup f
theorem okS3 : IntrOk Try.prog (CKb Try.prog) IS3 := Con.table fun x hx => by
  simp only [TS3, List.mem_cons, List.not_mem_nil, or_false] at hx
  rcases hx with rfl | rfl | rfl | rfl | rfl | rfl | rfl
  · exact con15
  · exact con14
  · exact con55
  · exact con57
  · exact con17
  · exact con62
  · exact con92
def f61 (x : T36) (i : Int) : Int × Int × Bool :=
  if i = x.2.1.1.1 then (x.2.1.1.1, x.2.1.1.2, true) else if i < x.2.1.1.1 then (0, 0, false) else if (f92 x).1 < i then (0, 0, false) else (i, epoAt x (elemI x i).toNat, true)
noncomputable def g61 := gRd A36i fun x => .tuple #[vAt (f61 x.1 x.2.1).1 (f61 x.1 x.2.1).2.1, .bool (f61 x.1 x.2.1).2.2]
theorem con61 : Con Try.prog (CKb Try.prog) 61 g61 := by
  refine Con.rd base okS3 _ (fun a => by simp [flatB]) ?_
  rintro h _ ⟨x, i, ⟨⟩⟩ hro ⟨cs, vs, rfl, r, v, vs', rfl, ⟨e, hi⟩, rfl⟩
  simp only [List.cons.injEq, and_true] at e
  subst e
  dsimp only at r hi
  have c92 := call_rdk (P := Try.prog) (I := IS3) (f := 92) (spec := fun x => vAt (f92 x.1).1 (f92 x.1).2) rfl 9 (show A36.r (· < h.size) h [_] (x, ()) from ⟨_, _, rfl, r, rfl⟩)
  obtain ⟨v1, v2, rfl, -, hx, -, -, -, -, -, -, -, -, h2⟩ := R36_inv r
  refine ⟨10, ?_⟩
  show ∃ h', evalV Try.prog IS3 (9 + 1) (.fn 61) _ h = _ ∧ _
  rw [evalV_call (P := Try.prog) (intr := IS3) (f := 61) (m := 43) (rs := #[.cell 4 24, .tmp 5]) rfl Try.func61 rfl rfl rfl]
  by_cases q3 : i = x.2.1.1.1
  · simp (maxDischargeDepth := 16) only [z05, z08, z09, z0a, z0b, z0d, z0e, z0f, z0o, z0p, z0q, z0s, z0t, z0u, z0v, z0w, z0z, z10, z11, z13, z16, z1e, z1f, z1g, z1h, z1v, z1w, z1x, z2b, z2o, z2w, z2x, z2y, z2z, z33, z34, z38, z39, z3b, z3d, z3f, z3g, z3p, z3v, z3w, z3x, z3y, z3z, z40, z41, z42, z43, z44, z45, z46, z49, z4a, z4c, z4e, z4f, z4g, z4h, z4i, z4m, z4n, z4o, z4p, z4q, z4r, z4s, z4t, z4u, z4w, z4x, z4y, z4z, z50, z51, z52, z53, z54, z5a, z5f, z72, Nat.reduceLeDiff, Nat.reduceAdd, Nat.reduceSub, ↓reduceIte, Hp.cell, Hp.row, Hp.wr, tFieldAx24x0, tFieldAx33x0, tFieldAx135x1, tPartx22, tPartx24, tSizex24, tZerox24, ro_le hro, hro, q3, f61]
    exact ⟨_, rfl, (Keeps.get (by repeat (first | exact Keeps.refl _ | refine Keeps.push ?_ _ | refine Keeps.set ?_ (by first | omega | (simp only [Hp.size_push, Hp.size_setB]; omega)) _)))⟩
  by_cases q1 : i < x.2.1.1.1
  · simp (maxDischargeDepth := 16) only [z04, z05, z08, z09, z0a, z0b, z0c, z0d, z0e, z0f, z0o, z0p, z0q, z0r, z0s, z0t, z0u, z0v, z0w, z0z, z10, z11, z12, z13, z16, z1b, z1e, z1f, z1g, z1h, z1v, z1w, z1x, z1y, z2b, z2d, z2o, z2w, z2x, z2y, z2z, z33, z34, z38, z39, z3b, z3d, z3f, z3g, z3k, z3p, z3v, z3w, z3x, z3y, z3z, z41, z43, z44, z45, z46, z49, z4a, z4c, z4e, z4f, z4g, z4h, z4i, z4j, z4l, z4m, z4n, z4o, z4p, z4q, z4r, z4s, z4t, z4u, z4w, z4x, z4y, z4z, z50, z51, z52, z53, z54, z59, z5a, z5b, z5f, z72, z80, z81, Nat.reduceAdd, Nat.reduceSub, ↓reduceIte, yielded, Hp.cell, Hp.row, Hp.wr, tBuildOkx24, tFieldAx24x0, tFieldAx33x0, tFieldAx135x1, tPartx22, tPartx24, tSizex24, tZerox24, ro_le hro, hro, q3, q1, f61]
    exact ⟨_, rfl, (Keeps.get (by repeat (first | exact Keeps.refl _ | refine Keeps.push ?_ _ | refine Keeps.set ?_ (by first | omega | (simp only [Hp.size_push, Hp.size_setB]; omega)) _)))⟩
  by_cases q2 : (f92 x).1 < i
  · simp (maxDischargeDepth := 16) only [z04, z05, z08, z09, z0a, z0b, z0c, z0d, z0e, z0f, z0o, z0p, z0q, z0r, z0s, z0t, z0u, z0v, z0w, z0x, z0z, z10, z11, z12, z13, z16, z17, z1b, z1e, z1f, z1g, z1h, z1l, z1v, z1w, z1x, z1y, z2b, z2d, z2f, z2o, z2s, z2w, z2x, z2y, z2z, z31, z33, z34, z38, z39, z3b, z3d, z3f, z3g, z3h, z3p, z3v, z3w, z3x, z3y, z3z, z41, z43, z44, z45, z46, z49, z4a, z4c, z4e, z4f, z4g, z4h, z4i, z4j, z4k, z4l, z4m, z4n, z4o, z4p, z4q, z4r, z4s, z4t, z4u, z4v, z4w, z4x, z4y, z4z, z50, z51, z52, z53, z54, z59, z5a, z5b, z5e, z5f, z72, z7v, z7w, z80, z81, Nat.reduceAdd, Nat.reduceSub, ↓reduceIte, yielded, Hp.cell, Hp.row, Hp.wr, hasBx92, tBuildOkx24, tFieldx24x0, tFieldAx24x0, tFieldAx33x0, tFieldAx135x1, tPartx22, tPartx24, tPartx135, tSizex24, tZerox24, ro_le hro, hro, q3, q1, q2, f61, c92]
    exact ⟨_, rfl, (Keeps.get (by repeat (first | exact Keeps.refl _ | refine Keeps.push ?_ _ | refine Keeps.set ?_ (by first | omega | (simp only [Hp.size_push, Hp.size_setB]; omega)) _)))⟩
  obtain ⟨a2, c2, rfl, _, hl2⟩ := slice_form h2
  have q2' : ¬ f55 x < i := by
    intro hh
    apply q2
    unfold f92
    split
    · omega
    · exact hh
  obtain ⟨k1, k2⟩ := in_view hx hi hl2 q1 q2' q3
  obtain ⟨n, hn⟩ : ∃ n : Nat, elemI x i = (n : Int) := ⟨(elemI x i).toNat, by omega⟩
  obtain ⟨y, hy⟩ : ∃ y, x.2.2[n]? = some y := ⟨_, List.getElem?_eq_getElem (by omega)⟩
  obtain ⟨b, off, c, cells, ow, part, e, hb, hg, -, -, -, hp, he, -⟩ := slice_elem (e := R85) h2 hy (by decide)
  cases e
  obtain ⟨w, rfl, -⟩ := R85_inv hp
  have e0 : cells[off + n * 4]? = some (.int .u64 y.1) := he 0 (by decide)
  have hep : epoAt x n = y.1 := by simp [epoAt, hy]
  have hn' : (elemI x i).toNat = n := by omega
  have hn2 := hn
  unfold elemI at hn2
  have n1 : (0 : Int) ≤ (n : Int) := by omega
  have n2 : (n : Int) < (x.2.2.length : Int) := by omega
  simp (maxDischargeDepth := 16) only [z04, z05, z08, z09, z0a, z0c, z0d, z0e, z0o, z0p, z0q, z0r, z0s, z0t, z0u, z0v, z0w, z0x, z0z, z10, z11, z12, z13, z16, z17, z18, z1b, z1e, z1f, z1g, z1h, z1l, z1v, z1w, z1x, z1y, z1z, z25, z2b, z2d, z2f, z2m, z2o, z2s, z2u, z2w, z2x, z2y, z2z, z31, z33, z34, z38, z39, z3b, z3d, z3f, z3g, z3h, z3p, z3v, z3w, z3x, z3y, z3z, z41, z43, z44, z45, z46, z49, z4a, z4c, z4e, z4f, z4g, z4h, z4i, z4j, z4k, z4l, z4m, z4n, z4o, z4p, z4q, z4r, z4s, z4t, z4u, z4v, z4w, z4x, z4y, z4z, z50, z51, z52, z53, z54, z59, z5b, z5e, z5f, z72, z7v, z7w, z80, z81, z82, z83, Nat.reduceLeDiff, Nat.reduceAdd, Nat.reduceSub, ↓reduceIte, yielded, Hp.cell, Hp.row, Hp.wr, hasBx92, tBuildFx24x0, tBuildFx24x1, tBuildOkx24, tElemx34, tFieldx24x0, tFieldAx24x0, tFieldAx33x0, tFieldAx85x0, tFieldAx135x1, tFieldAx135x2, tPartx22, tPartx24, tPartx34, tPartx135, tSizex24, tZerox24, ro_le hro, hro, q1, q2, q3, f61, c92, hn', hep, hn2, n1, n2, ne_f hb, ne_f0 hb, lt_t hb, lt_t0 hb, hg, Int.toNat_natCast, e0]
  exact ⟨_, rfl, (Keeps.get (by repeat (first | exact Keeps.refl _ | refine Keeps.push ?_ _ | refine Keeps.set ?_ (by first | omega | (simp only [Hp.size_push, Hp.size_setB]; omega)) _)))⟩
noncomputable def g63 := gRd A36 fun x => vAt (f92 x.1).1 (f92 x.1).2
theorem con63 : Con Try.prog (CKb Try.prog) 63 g63 := by
  refine Con.rd base okS3 _ (fun a => by simp [flatB]) ?_
  rintro h _ ⟨x, ⟨⟩⟩ hro ⟨cs, vs, rfl, r, rfl⟩
  dsimp only at r ⊢
  have c92 := call_rdk (P := Try.prog) (I := IS3) (f := 92) (spec := fun x => vAt (f92 x.1).1 (f92 x.1).2) rfl 9 (show A36.r (· < h.size) h [_] (x, ()) from ⟨_, _, rfl, r, rfl⟩)
  have c62 := call_rdv (P := Try.prog) (I := IS3) (f := 62) (spec := fun vs _ => vs.getD 0 undef) rfl 9 (show A36.r (· < h.size) h [_] (x, ()) from ⟨_, _, rfl, r, rfl⟩)
  obtain ⟨v1, v2, rfl, -⟩ := R36_inv r
  refine ⟨10, ?_⟩
  show ∃ h', evalV Try.prog IS3 (9 + 1) (.fn 63) _ h = _ ∧ _
  rw [evalV_call (P := Try.prog) (intr := IS3) (f := 63) (m := 6) (rs := #[.cell 2 24]) rfl Try.func63 rfl rfl rfl]
  simp (maxDischargeDepth := 16) only [z05, z08, z09, z0d, z0e, z0o, z0p, z0q, z0s, z0t, z0u, z0v, z0x, z0z, z1e, z1f, z1g, z1h, z1l, z1v, z1w, z1x, z2o, z2x, z2y, z2z, z33, z34, z38, z39, z3b, z3c, z3g, z3h, z3p, z3v, z3w, z3x, z3y, z3z, z41, z43, z44, z45, z46, z49, z4a, z4c, z4e, z4f, z4g, z4h, z4i, z4j, z4k, z4l, z4p, z4q, z4r, z4s, z4t, z4u, z4v, z4w, z4x, z4y, z4z, z53, z5f, z72, z7v, z7w, Nat.reduceAdd, Nat.reduceSub, ↓reduceIte, Hp.row, Hp.wr, hasBx62, hasBx92, tPartx24, tPartx36, tSizex24, tZerox24, ro_le hro, hro, c62, c92]
  exact ⟨_, rfl, (Keeps.get (by repeat (first | exact Keeps.refl _ | refine Keeps.push ?_ _ | refine Keeps.set ?_ (by first | omega | (simp only [Hp.size_push, Hp.size_setB]; omega)) _)))⟩
noncomputable def TS4 : TB := [(15, g15), (14, g14), (55, g55), (57, g57), (17, g17), (62, g62), (92, g92), (61, g61), (63, g63)]
noncomputable abbrev IS4 : Intr := fun f => TS4.lookup f
theorem okS4 : IntrOk Try.prog (CKb Try.prog) IS4 := Con.table fun x hx => by
  simp only [TS4, List.mem_cons, List.not_mem_nil, or_false] at hx
  rcases hx with rfl | rfl | rfl | rfl | rfl | rfl | rfl | rfl | rfl
  · exact con15
  · exact con14
  · exact con55
  · exact con57
  · exact con17
  · exact con62
  · exact con92
  · exact con61
  · exact con63
noncomputable def g19 := gRd A36i fun x => .tuple #[vAt (f61 x.1 x.2.1).1 (f61 x.1 x.2.1).2.1, .bool (f61 x.1 x.2.1).2.2]
theorem con19 : Con Try.prog (CKb Try.prog) 19 g19 := by
  refine Con.rd base okS4 _ (fun a => by simp [flatB]) ?_
  rintro h _ ⟨x, i, ⟨⟩⟩ hro ⟨cs, vs, rfl, r, v, vs', rfl, ⟨e, hi⟩, rfl⟩
  simp only [List.cons.injEq, and_true] at e
  subst e
  dsimp only at r hi
  have c62 := call_rdv (P := Try.prog) (I := IS4) (f := 62) (spec := fun vs _ => vs.getD 0 undef) rfl 9 (show A36.r (· < h.size) h [_] (x, ()) from ⟨_, _, rfl, r, rfl⟩)
  have c61 := call_rdk (P := Try.prog) (I := IS4) (f := 61) (spec := fun x => .tuple #[vAt (f61 x.1 x.2.1).1 (f61 x.1 x.2.1).2.1, .bool (f61 x.1 x.2.1).2.2]) rfl 9 (show A36i.r (· < h.size) h [_, _] (x, i, ()) from ⟨_, _, rfl, r, _, _, rfl, ⟨rfl, hi⟩, rfl⟩)
  obtain ⟨v1, v2, rfl, -⟩ := R36_inv r
  refine ⟨10, ?_⟩
  show ∃ h', evalV Try.prog IS4 (9 + 1) (.fn 19) _ h = _ ∧ _
  rw [evalV_call (P := Try.prog) (intr := IS4) (f := 19) (m := 12) (rs := #[.cell 4 24, .tmp 5]) rfl Try.func19 rfl rfl rfl]
  simp (maxDischargeDepth := 16) only [z05, z08, z09, z0d, z0e, z0o, z0p, z0q, z0s, z0t, z0u, z0v, z0w, z0x, z0z, z10, z11, z1a, z1e, z1f, z1g, z1h, z1l, z1v, z1w, z1x, z2o, z2t, z2x, z2y, z2z, z33, z34, z38, z39, z3b, z3d, z3f, z3g, z3h, z3p, z3v, z3w, z3x, z3y, z3z, z41, z43, z44, z45, z46, z49, z4a, z4c, z4e, z4f, z4g, z4h, z4i, z4j, z4k, z4l, z4m, z4n, z4o, z4p, z4q, z4r, z4s, z4t, z4u, z4v, z4w, z4x, z4y, z4z, z52, z53, z5f, z72, z7v, z7w, Nat.reduceAdd, Nat.reduceSub, ↓reduceIte, Hp.row, Hp.wr, hasBx61, hasBx62, tPartx24, tPartx36, tSizex24, tZerox24, ro_le hro, hro, c62, c61]
  exact ⟨_, rfl, (Keeps.get (by repeat (first | exact Keeps.refl _ | refine Keeps.push ?_ _ | refine Keeps.set ?_ (by first | omega | (simp only [Hp.size_push, Hp.size_setB]; omega)) _)))⟩
end Go.Abs.B1
