/- Ships: places by the document; what is to be taken; matches. -/
import Derived.Test.YtnlhfcipapbfmaaSh4
namespace Go.Abs.B1
open Go.Proofs
set_option maxRecDepth 10000
set_option linter.all false
noncomputable def TS3 : TB := [(15, g15), (14, g14), (55, g55), (57, g57), (17, g17), (62, g62), (92, g92)]
noncomputable abbrev IS3 : Intr := fun f => TS3.lookup f
theorem okS3 : IntrOk Try.prog (CKb Try.prog) IS3 := Con.table fun x hx => by
  simp only [TS3, List.mem_cons, List.not_mem_nil, or_false] at hx
  rcases hx with rfl | rfl | rfl | rfl | rfl | rfl | rfl
  · exact con15
  · exact con14
  · exact con55
  · exact con57
  · exact con17
  · exact con62
  · exact con92
def f61 (x : T36) (i : Int) : Int × Int × Bool :=
  if i = x.2.1.1.1 then (x.2.1.1.1, x.2.1.1.2, true) else if i < x.2.1.1.1 then (0, 0, false) else if (f92 x).1 < i then (0, 0, false) else (i, epoAt x (elemI x i).toNat, true)
noncomputable def g61 := gRd A36i fun x => .tuple #[vAt (f61 x.1 x.2.1).1 (f61 x.1 x.2.1).2.1, .bool (f61 x.1 x.2.1).2.2]
theorem con61 : Con Try.prog (CKb Try.prog) 61 g61 := by
  refine Con.rd base okS3 _ (fun a => by simp [flatB]) ?_
  rintro h _ ⟨x, i, ⟨⟩⟩ hro ⟨cs, vs, rfl, r, v, vs', rfl, ⟨e, hi⟩, rfl⟩
  simp only [List.cons.injEq, and_true] at e
  subst e
  dsimp only at r hi
  have c92 := call_rdk (P := Try.prog) (I := IS3) (f := 92) (spec := fun x => vAt (f92 x.1).1 (f92 x.1).2) rfl 9 (show A36.r (· < h.size) h [_] (x, ()) from ⟨_, _, rfl, r, rfl⟩)
  obtain ⟨v1, v2, rfl, -, hx, -, -, -, -, -, -, -, -, h2⟩ := R36_inv r
  refine ⟨10, ?_⟩
  show ∃ h', evalV Try.prog IS3 (9 + 1) (.fn 61) _ h = _ ∧ _
  rw [evalV_call (P := Try.prog) (intr := IS3) (f := 61) (m := 43) (rs := #[.cell 4 24, .tmp 5]) rfl Try.func61 rfl rfl rfl]
  by_cases q3 : i = x.2.1.1.1
  · simp (maxDischargeDepth := 16) only [z00, z01, z02, z03, z04, z05, z06, z07, z08, z09, z0a, z0b, z0c, z0d, z0e, z0f, z0g, z0h, z0i, z0j, z0k, z0l, z0m, z0n, z0o, z0p, z0q, z0r, z0s, z0t, z0u, z0v, z0w, z0x, z0y, z0z, z10, z11, z12, z13, z14, z15, z16, z17, z18, z19, z1a, z1b, z1c, z1d, z1e, z1f, z1g, z1h, z1i, z1j, z1k, z1l, z1m, z1n, z1o, z1p, z1q, z1r, z1s, z1t, z1u, z1v, z1w, z1x, z1y, z1z, z20, z21, z22, z23, z24, z25, z26, z27, z28, z29, z2a, z2b, z2c, z2d, z2e, z2f, z2g, z2h, z2i, z2j, z2k, z2l, z2m, z2n, z2o, z2p, z2q, z2r, z2s, z2t, z2u, z2v, z2w, z2x, z2y, z2z, z30, z31, z32, z33, z34, z35, z36, z37, z38, z39, z3a, z3b, z3c, z3d, z3e, z3f, z3g, z3h, z3i, z3j, z3k, z3l, z3m, z3n, z3o, z3p, z3q, z3r, z3s, z3t, z3u, z3v, z3w, z3x, z3y, z3z, z40, z41, z42, z43, z44, z45, z46, z47, z48, z49, z4a, z4b, z4c, z4d, z4e, z4f, z4g, z4h, z4i, z4j, z4k, z4l, z4m, z4n, z4o, z4p, z4q, z4r, z4s, z4t, z4u, z4v, z4w, z4x, z4y, z4z, z50, z51, z52, z53, z54, z55, z56, z57, z58, z59, z5a, z5b, z5c, z5d, z5e, z5f, z5g, z5h, z5i, z5j, z5k, z5l, z5m, z5n, z5o, z5p, z5q, z5r, z5s, z5t, z5u, z5v, z5w, z5x, z5y, z5z, z60, z61, z62, z63, z64, z65, z66, z67, z68, z69, z6a, z6b, z6c, z6d, z6e, z6f, z6g, z6h, z6i, z6j, z6k, z6l, z6m, z6n, z6o, z6p, z6q, z6r, z6s, z6t, z6u, z6v, z6w, z6x, z6y, z6z, z70, z71, z72, z73, z74, z75, z76, z77, z78, z79, z7a, z7b, z7c, z7d, z7e, z7f, z7g, z7h, z7i, z7j, z7k, z7l, z7m, z7n, z7o, z7p, z7q, z7r, z7s, z7t, z7u, z7v, z7w, z7x, z7y, z7z, z80, z81, z82, z83, z84, z85, z86, z87, z88, z89, z8a, z8b, evalC_block, Nat.reduceEqDiff, Nat.reduceLeDiff, Nat.reduceAdd, Nat.reduceSub, Nat.reduceMul, ↓reduceIte, Nat.reduceDiv, Nat.reduceMod, Nat.reducePow, Nat.reduceLT, Int.reduceEq, Int.reduceNe, Int.reduceLT, Int.reduceLE, Int.reduceToNat, yielded, keepR, Hp.cell, Hp.row, Hp.wr, hasBx92, tBuildFx24x0, tBuildFx24x1, tBuildOkx24, tElemx34, tFieldx24x0, tFieldAx24x0, tFieldAx33x0, tFieldAx85x0, tFieldAx135x1, tFieldAx135x2, tPartx22, tPartx24, tPartx34, tPartx135, tSizex24, tZerox24, ro_le hro, hro, q3, f61]
    exact ⟨_, rfl, (Keeps.get (by repeat (first | exact Keeps.refl _ | refine Keeps.push ?_ _ | refine Keeps.set ?_ (by first | omega | (simp only [Hp.size_push, Hp.size_setB]; omega)) _)))⟩
  by_cases q1 : i < x.2.1.1.1
  · simp (maxDischargeDepth := 16) only [z00, z01, z02, z03, z04, z05, z06, z07, z08, z09, z0a, z0b, z0c, z0d, z0e, z0f, z0g, z0h, z0i, z0j, z0k, z0l, z0m, z0n, z0o, z0p, z0q, z0r, z0s, z0t, z0u, z0v, z0w, z0x, z0y, z0z, z10, z11, z12, z13, z14, z15, z16, z17, z18, z19, z1a, z1b, z1c, z1d, z1e, z1f, z1g, z1h, z1i, z1j, z1k, z1l, z1m, z1n, z1o, z1p, z1q, z1r, z1s, z1t, z1u, z1v, z1w, z1x, z1y, z1z, z20, z21, z22, z23, z24, z25, z26, z27, z28, z29, z2a, z2b, z2c, z2d, z2e, z2f, z2g, z2h, z2i, z2j, z2k, z2l, z2m, z2n, z2o, z2p, z2q, z2r, z2s, z2t, z2u, z2v, z2w, z2x, z2y, z2z, z30, z31, z32, z33, z34, z35, z36, z37, z38, z39, z3a, z3b, z3c, z3d, z3e, z3f, z3g, z3h, z3i, z3j, z3k, z3l, z3m, z3n, z3o, z3p, z3q, z3r, z3s, z3t, z3u, z3v, z3w, z3x, z3y, z3z, z40, z41, z42, z43, z44, z45, z46, z47, z48, z49, z4a, z4b, z4c, z4d, z4e, z4f, z4g, z4h, z4i, z4j, z4k, z4l, z4m, z4n, z4o, z4p, z4q, z4r, z4s, z4t, z4u, z4v, z4w, z4x, z4y, z4z, z50, z51, z52, z53, z54, z55, z56, z57, z58, z59, z5a, z5b, z5c, z5d, z5e, z5f, z5g, z5h, z5i, z5j, z5k, z5l, z5m, z5n, z5o, z5p, z5q, z5r, z5s, z5t, z5u, z5v, z5w, z5x, z5y, z5z, z60, z61, z62, z63, z64, z65, z66, z67, z68, z69, z6a, z6b, z6c, z6d, z6e, z6f, z6g, z6h, z6i, z6j, z6k, z6l, z6m, z6n, z6o, z6p, z6q, z6r, z6s, z6t, z6u, z6v, z6w, z6x, z6y, z6z, z70, z71, z72, z73, z74, z75, z76, z77, z78, z79, z7a, z7b, z7c, z7d, z7e, z7f, z7g, z7h, z7i, z7j, z7k, z7l, z7m, z7n, z7o, z7p, z7q, z7r, z7s, z7t, z7u, z7v, z7w, z7x, z7y, z7z, z80, z81, z82, z83, z84, z85, z86, z87, z88, z89, z8a, z8b, evalC_block, Nat.reduceEqDiff, Nat.reduceLeDiff, Nat.reduceAdd, Nat.reduceSub, Nat.reduceMul, ↓reduceIte, Nat.reduceDiv, Nat.reduceMod, Nat.reducePow, Nat.reduceLT, Int.reduceEq, Int.reduceNe, Int.reduceLT, Int.reduceLE, Int.reduceToNat, yielded, keepR, Hp.cell, Hp.row, Hp.wr, hasBx92, tBuildFx24x0, tBuildFx24x1, tBuildOkx24, tElemx34, tFieldx24x0, tFieldAx24x0, tFieldAx33x0, tFieldAx85x0, tFieldAx135x1, tFieldAx135x2, tPartx22, tPartx24, tPartx34, tPartx135, tSizex24, tZerox24, ro_le hro, hro, q3, q1, f61]
    exact ⟨_, rfl, (Keeps.get (by repeat (first | exact Keeps.refl _ | refine Keeps.push ?_ _ | refine Keeps.set ?_ (by first | omega | (simp only [Hp.size_push, Hp.size_setB]; omega)) _)))⟩
  by_cases q2 : (f92 x).1 < i
  · simp (maxDischargeDepth := 16) only [z00, z01, z02, z03, z04, z05, z06, z07, z08, z09, z0a, z0b, z0c, z0d, z0e, z0f, z0g, z0h, z0i, z0j, z0k, z0l, z0m, z0n, z0o, z0p, z0q, z0r, z0s, z0t, z0u, z0v, z0w, z0x, z0y, z0z, z10, z11, z12, z13, z14, z15, z16, z17, z18, z19, z1a, z1b, z1c, z1d, z1e, z1f, z1g, z1h, z1i, z1j, z1k, z1l, z1m, z1n, z1o, z1p, z1q, z1r, z1s, z1t, z1u, z1v, z1w, z1x, z1y, z1z, z20, z21, z22, z23, z24, z25, z26, z27, z28, z29, z2a, z2b, z2c, z2d, z2e, z2f, z2g, z2h, z2i, z2j, z2k, z2l, z2m, z2n, z2o, z2p, z2q, z2r, z2s, z2t, z2u, z2v, z2w, z2x, z2y, z2z, z30, z31, z32, z33, z34, z35, z36, z37, z38, z39, z3a, z3b, z3c, z3d, z3e, z3f, z3g, z3h, z3i, z3j, z3k, z3l, z3m, z3n, z3o, z3p, z3q, z3r, z3s, z3t, z3u, z3v, z3w, z3x, z3y, z3z, z40, z41, z42, z43, z44, z45, z46, z47, z48, z49, z4a, z4b, z4c, z4d, z4e, z4f, z4g, z4h, z4i, z4j, z4k, z4l, z4m, z4n, z4o, z4p, z4q, z4r, z4s, z4t, z4u, z4v, z4w, z4x, z4y, z4z, z50, z51, z52, z53, z54, z55, z56, z57, z58, z59, z5a, z5b, z5c, z5d, z5e, z5f, z5g, z5h, z5i, z5j, z5k, z5l, z5m, z5n, z5o, z5p, z5q, z5r, z5s, z5t, z5u, z5v, z5w, z5x, z5y, z5z, z60, z61, z62, z63, z64, z65, z66, z67, z68, z69, z6a, z6b, z6c, z6d, z6e, z6f, z6g, z6h, z6i, z6j, z6k, z6l, z6m, z6n, z6o, z6p, z6q, z6r, z6s, z6t, z6u, z6v, z6w, z6x, z6y, z6z, z70, z71, z72, z73, z74, z75, z76, z77, z78, z79, z7a, z7b, z7c, z7d, z7e, z7f, z7g, z7h, z7i, z7j, z7k, z7l, z7m, z7n, z7o, z7p, z7q, z7r, z7s, z7t, z7u, z7v, z7w, z7x, z7y, z7z, z80, z81, z82, z83, z84, z85, z86, z87, z88, z89, z8a, z8b, evalC_block, Nat.reduceEqDiff, Nat.reduceLeDiff, Nat.reduceAdd, Nat.reduceSub, Nat.reduceMul, ↓reduceIte, Nat.reduceDiv, Nat.reduceMod, Nat.reducePow, Nat.reduceLT, Int.reduceEq, Int.reduceNe, Int.reduceLT, Int.reduceLE, Int.reduceToNat, yielded, keepR, Hp.cell, Hp.row, Hp.wr, hasBx92, tBuildFx24x0, tBuildFx24x1, tBuildOkx24, tElemx34, tFieldx24x0, tFieldAx24x0, tFieldAx33x0, tFieldAx85x0, tFieldAx135x1, tFieldAx135x2, tPartx22, tPartx24, tPartx34, tPartx135, tSizex24, tZerox24, ro_le hro, hro, q3, q1, q2, f61, c92]
    exact ⟨_, rfl, (Keeps.get (by repeat (first | exact Keeps.refl _ | refine Keeps.push ?_ _ | refine Keeps.set ?_ (by first | omega | (simp only [Hp.size_push, Hp.size_setB]; omega)) _)))⟩
  obtain ⟨a2, c2, rfl, _, hl2⟩ := slice_form h2
  have q2' : ¬ f55 x < i := by
    intro hh
    apply q2
    unfold f92
    split
    · omega
    · exact hh
  obtain ⟨k1, k2⟩ := in_view hx hi hl2 q1 q2' q3
  obtain ⟨n, hn⟩ : ∃ n : Nat, elemI x i = (n : Int) := ⟨(elemI x i).toNat, by omega⟩
  obtain ⟨y, hy⟩ : ∃ y, x.2.2[n]? = some y := ⟨_, List.getElem?_eq_getElem (by omega)⟩
  obtain ⟨b, off, c, cells, ow, part, e, hb, hg, -, -, -, hp, he, -⟩ := slice_elem (e := R85) h2 hy (by decide)
  cases e
  obtain ⟨w, rfl, -⟩ := R85_inv hp
  have e0 : cells[off + n * 4]? = some (.int .u64 y.1) := he 0 (by decide)
  have hep : epoAt x n = y.1 := by simp [epoAt, hy]
  have hn' : (elemI x i).toNat = n := by omega
  have hn2 := hn
  unfold elemI at hn2
  have n1 : (0 : Int) ≤ (n : Int) := by omega
  have n2 : (n : Int) < (x.2.2.length : Int) := by omega
  simp (maxDischargeDepth := 16) only [z00, z01, z02, z03, z04, z05, z06, z07, z08, z09, z0a, z0b, z0c, z0d, z0e, z0f, z0g, z0h, z0i, z0j, z0k, z0l, z0m, z0n, z0o, z0p, z0q, z0r, z0s, z0t, z0u, z0v, z0w, z0x, z0y, z0z, z10, z11, z12, z13, z14, z15, z16, z17, z18, z19, z1a, z1b, z1c, z1d, z1e, z1f, z1g, z1h, z1i, z1j, z1k, z1l, z1m, z1n, z1o, z1p, z1q, z1r, z1s, z1t, z1u, z1v, z1w, z1x, z1y, z1z, z20, z21, z22, z23, z24, z25, z26, z27, z28, z29, z2a, z2b, z2c, z2d, z2e, z2f, z2g, z2h, z2i, z2j, z2k, z2l, z2m, z2n, z2o, z2p, z2q, z2r, z2s, z2t, z2u, z2v, z2w, z2x, z2y, z2z, z30, z31, z32, z33, z34, z35, z36, z37, z38, z39, z3a, z3b, z3c, z3d, z3e, z3f, z3g, z3h, z3i, z3j, z3k, z3l, z3m, z3n, z3o, z3p, z3q, z3r, z3s, z3t, z3u, z3v, z3w, z3x, z3y, z3z, z40, z41, z42, z43, z44, z45, z46, z47, z48, z49, z4a, z4b, z4c, z4d, z4e, z4f, z4g, z4h, z4i, z4j, z4k, z4l, z4m, z4n, z4o, z4p, z4q, z4r, z4s, z4t, z4u, z4v, z4w, z4x, z4y, z4z, z50, z51, z52, z53, z54, z55, z56, z57, z58, z59, z5a, z5b, z5c, z5d, z5e, z5f, z5g, z5h, z5i, z5j, z5k, z5l, z5m, z5n, z5o, z5p, z5q, z5r, z5s, z5t, z5u, z5v, z5w, z5x, z5y, z5z, z60, z61, z62, z63, z64, z65, z66, z67, z68, z69, z6a, z6b, z6c, z6d, z6e, z6f, z6g, z6h, z6i, z6j, z6k, z6l, z6m, z6n, z6o, z6p, z6q, z6r, z6s, z6t, z6u, z6v, z6w, z6x, z6y, z6z, z70, z71, z72, z73, z74, z75, z76, z77, z78, z79, z7a, z7b, z7c, z7d, z7e, z7f, z7g, z7h, z7i, z7j, z7k, z7l, z7m, z7n, z7o, z7p, z7q, z7r, z7s, z7t, z7u, z7v, z7w, z7x, z7y, z7z, z80, z81, z82, z83, z84, z85, z86, z87, z88, z89, z8a, z8b, evalC_block, Nat.reduceEqDiff, Nat.reduceLeDiff, Nat.reduceAdd, Nat.reduceSub, Nat.reduceMul, ↓reduceIte, Nat.reduceDiv, Nat.reduceMod, Nat.reducePow, Nat.reduceLT, Int.reduceEq, Int.reduceNe, Int.reduceLT, Int.reduceLE, Int.reduceToNat, yielded, keepR, Hp.cell, Hp.row, Hp.wr, hasBx92, tBuildFx24x0, tBuildFx24x1, tBuildOkx24, tElemx34, tFieldx24x0, tFieldAx24x0, tFieldAx33x0, tFieldAx85x0, tFieldAx135x1, tFieldAx135x2, tPartx22, tPartx24, tPartx34, tPartx135, tSizex24, tZerox24, ro_le hro, hro, q1, q2, q3, f61, c92, hn', hep, hn2, n1, n2, ne_f hb, ne_f0 hb, lt_t hb, lt_t0 hb, hg, Int.toNat_natCast, e0]
  exact ⟨_, rfl, (Keeps.get (by repeat (first | exact Keeps.refl _ | refine Keeps.push ?_ _ | refine Keeps.set ?_ (by first | omega | (simp only [Hp.size_push, Hp.size_setB]; omega)) _)))⟩
noncomputable def g63 := gRd A36 fun x => vAt (f92 x.1).1 (f92 x.1).2
theorem con63 : Con Try.prog (CKb Try.prog) 63 g63 := by
  refine Con.rd base okS3 _ (fun a => by simp [flatB]) ?_
  rintro h _ ⟨x, ⟨⟩⟩ hro ⟨cs, vs, rfl, r, rfl⟩
  dsimp only at r ⊢
  have c92 := call_rdk (P := Try.prog) (I := IS3) (f := 92) (spec := fun x => vAt (f92 x.1).1 (f92 x.1).2) rfl 9 (show A36.r (· < h.size) h [_] (x, ()) from ⟨_, _, rfl, r, rfl⟩)
  have c62 := call_rdv (P := Try.prog) (I := IS3) (f := 62) (spec := fun vs _ => vs.getD 0 undef) rfl 9 (show A36.r (· < h.size) h [_] (x, ()) from ⟨_, _, rfl, r, rfl⟩)
  obtain ⟨v1, v2, rfl, -⟩ := R36_inv r
  refine ⟨10, ?_⟩
  show ∃ h', evalV Try.prog IS3 (9 + 1) (.fn 63) _ h = _ ∧ _
  rw [evalV_call (P := Try.prog) (intr := IS3) (f := 63) (m := 6) (rs := #[.cell 2 24]) rfl Try.func63 rfl rfl rfl]
  simp (maxDischargeDepth := 16) only [z00, z01, z02, z03, z04, z05, z06, z07, z08, z09, z0a, z0b, z0c, z0d, z0e, z0f, z0g, z0h, z0i, z0j, z0k, z0l, z0m, z0n, z0o, z0p, z0q, z0r, z0s, z0t, z0u, z0v, z0w, z0x, z0y, z0z, z10, z11, z12, z13, z14, z15, z16, z17, z18, z19, z1a, z1b, z1c, z1d, z1e, z1f, z1g, z1h, z1i, z1j, z1k, z1l, z1m, z1n, z1o, z1p, z1q, z1r, z1s, z1t, z1u, z1v, z1w, z1x, z1y, z1z, z20, z21, z22, z23, z24, z25, z26, z27, z28, z29, z2a, z2b, z2c, z2d, z2e, z2f, z2g, z2h, z2i, z2j, z2k, z2l, z2m, z2n, z2o, z2p, z2q, z2r, z2s, z2t, z2u, z2v, z2w, z2x, z2y, z2z, z30, z31, z32, z33, z34, z35, z36, z37, z38, z39, z3a, z3b, z3c, z3d, z3e, z3f, z3g, z3h, z3i, z3j, z3k, z3l, z3m, z3n, z3o, z3p, z3q, z3r, z3s, z3t, z3u, z3v, z3w, z3x, z3y, z3z, z40, z41, z42, z43, z44, z45, z46, z47, z48, z49, z4a, z4b, z4c, z4d, z4e, z4f, z4g, z4h, z4i, z4j, z4k, z4l, z4m, z4n, z4o, z4p, z4q, z4r, z4s, z4t, z4u, z4v, z4w, z4x, z4y, z4z, z50, z51, z52, z53, z54, z55, z56, z57, z58, z59, z5a, z5b, z5c, z5d, z5e, z5f, z5g, z5h, z5i, z5j, z5k, z5l, z5m, z5n, z5o, z5p, z5q, z5r, z5s, z5t, z5u, z5v, z5w, z5x, z5y, z5z, z60, z61, z62, z63, z64, z65, z66, z67, z68, z69, z6a, z6b, z6c, z6d, z6e, z6f, z6g, z6h, z6i, z6j, z6k, z6l, z6m, z6n, z6o, z6p, z6q, z6r, z6s, z6t, z6u, z6v, z6w, z6x, z6y, z6z, z70, z71, z72, z73, z74, z75, z76, z77, z78, z79, z7a, z7b, z7c, z7d, z7e, z7f, z7g, z7h, z7i, z7j, z7k, z7l, z7m, z7n, z7o, z7p, z7q, z7r, z7s, z7t, z7u, z7v, z7w, z7x, z7y, z7z, z80, z81, z82, z83, z84, z85, z86, z87, z88, z89, z8a, z8b, evalC_block, Nat.reduceEqDiff, Nat.reduceLeDiff, Nat.reduceAdd, Nat.reduceSub, Nat.reduceMul, ↓reduceIte, Nat.reduceDiv, Nat.reduceMod, Nat.reducePow, Nat.reduceLT, Int.reduceEq, Int.reduceNe, Int.reduceLT, Int.reduceLE, Int.reduceToNat, yielded, keepR, Hp.cell, Hp.row, Hp.wr, hasBx62, hasBx92, tPartx24, tPartx36, tSizex24, tZerox24, ro_le hro, hro, c62, c92]
  exact ⟨_, rfl, (Keeps.get (by repeat (first | exact Keeps.refl _ | refine Keeps.push ?_ _ | refine Keeps.set ?_ (by first | omega | (simp only [Hp.size_push, Hp.size_setB]; omega)) _)))⟩
noncomputable def TS4 : TB := [(15, g15), (14, g14), (55, g55), (57, g57), (17, g17), (62, g62), (92, g92), (61, g61), (63, g63)]
noncomputable abbrev IS4 : Intr := fun f => TS4.lookup f
theorem okS4 : IntrOk Try.prog (CKb Try.prog) IS4 := Con.table fun x hx => by
  simp only [TS4, List.mem_cons, List.not_mem_nil, or_false] at hx
  rcases hx with rfl | rfl | rfl | rfl | rfl | rfl | rfl | rfl | rfl
  · exact con15
  · exact con14
  · exact con55
  · exact con57
  · exact con17
  · exact con62
  · exact con92
  · exact con61
  · exact con63
noncomputable def g19 := gRd A36i fun x => .tuple #[vAt (f61 x.1 x.2.1).1 (f61 x.1 x.2.1).2.1, .bool (f61 x.1 x.2.1).2.2]
theorem con19 : Con Try.prog (CKb Try.prog) 19 g19 := by
  refine Con.rd base okS4 _ (fun a => by simp [flatB]) ?_
  rintro h _ ⟨x, i, ⟨⟩⟩ hro ⟨cs, vs, rfl, r, v, vs', rfl, ⟨e, hi⟩, rfl⟩
  simp only [List.cons.injEq, and_true] at e
  subst e
  dsimp only at r hi
  have c62 := call_rdv (P := Try.prog) (I := IS4) (f := 62) (spec := fun vs _ => vs.getD 0 undef) rfl 9 (show A36.r (· < h.size) h [_] (x, ()) from ⟨_, _, rfl, r, rfl⟩)
  have c61 := call_rdk (P := Try.prog) (I := IS4) (f := 61) (spec := fun x => .tuple #[vAt (f61 x.1 x.2.1).1 (f61 x.1 x.2.1).2.1, .bool (f61 x.1 x.2.1).2.2]) rfl 9 (show A36i.r (· < h.size) h [_, _] (x, i, ()) from ⟨_, _, rfl, r, _, _, rfl, ⟨rfl, hi⟩, rfl⟩)
  obtain ⟨v1, v2, rfl, -⟩ := R36_inv r
  refine ⟨10, ?_⟩
  show ∃ h', evalV Try.prog IS4 (9 + 1) (.fn 19) _ h = _ ∧ _
  rw [evalV_call (P := Try.prog) (intr := IS4) (f := 19) (m := 12) (rs := #[.cell 4 24, .tmp 5]) rfl Try.func19 rfl rfl rfl]
  simp (maxDischargeDepth := 16) only [z00, z01, z02, z03, z04, z05, z06, z07, z08, z09, z0a, z0b, z0c, z0d, z0e, z0f, z0g, z0h, z0i, z0j, z0k, z0l, z0m, z0n, z0o, z0p, z0q, z0r, z0s, z0t, z0u, z0v, z0w, z0x, z0y, z0z, z10, z11, z12, z13, z14, z15, z16, z17, z18, z19, z1a, z1b, z1c, z1d, z1e, z1f, z1g, z1h, z1i, z1j, z1k, z1l, z1m, z1n, z1o, z1p, z1q, z1r, z1s, z1t, z1u, z1v, z1w, z1x, z1y, z1z, z20, z21, z22, z23, z24, z25, z26, z27, z28, z29, z2a, z2b, z2c, z2d, z2e, z2f, z2g, z2h, z2i, z2j, z2k, z2l, z2m, z2n, z2o, z2p, z2q, z2r, z2s, z2t, z2u, z2v, z2w, z2x, z2y, z2z, z30, z31, z32, z33, z34, z35, z36, z37, z38, z39, z3a, z3b, z3c, z3d, z3e, z3f, z3g, z3h, z3i, z3j, z3k, z3l, z3m, z3n, z3o, z3p, z3q, z3r, z3s, z3t, z3u, z3v, z3w, z3x, z3y, z3z, z40, z41, z42, z43, z44, z45, z46, z47, z48, z49, z4a, z4b, z4c, z4d, z4e, z4f, z4g, z4h, z4i, z4j, z4k, z4l, z4m, z4n, z4o, z4p, z4q, z4r, z4s, z4t, z4u, z4v, z4w, z4x, z4y, z4z, z50, z51, z52, z53, z54, z55, z56, z57, z58, z59, z5a, z5b, z5c, z5d, z5e, z5f, z5g, z5h, z5i, z5j, z5k, z5l, z5m, z5n, z5o, z5p, z5q, z5r, z5s, z5t, z5u, z5v, z5w, z5x, z5y, z5z, z60, z61, z62, z63, z64, z65, z66, z67, z68, z69, z6a, z6b, z6c, z6d, z6e, z6f, z6g, z6h, z6i, z6j, z6k, z6l, z6m, z6n, z6o, z6p, z6q, z6r, z6s, z6t, z6u, z6v, z6w, z6x, z6y, z6z, z70, z71, z72, z73, z74, z75, z76, z77, z78, z79, z7a, z7b, z7c, z7d, z7e, z7f, z7g, z7h, z7i, z7j, z7k, z7l, z7m, z7n, z7o, z7p, z7q, z7r, z7s, z7t, z7u, z7v, z7w, z7x, z7y, z7z, z80, z81, z82, z83, z84, z85, z86, z87, z88, z89, z8a, z8b, evalC_block, Nat.reduceEqDiff, Nat.reduceLeDiff, Nat.reduceAdd, Nat.reduceSub, Nat.reduceMul, ↓reduceIte, Nat.reduceDiv, Nat.reduceMod, Nat.reducePow, Nat.reduceLT, Int.reduceEq, Int.reduceNe, Int.reduceLT, Int.reduceLE, Int.reduceToNat, yielded, keepR, Hp.cell, Hp.row, Hp.wr, hasBx61, hasBx62, tPartx24, tPartx36, tSizex24, tZerox24, ro_le hro, hro, c62, c61]
  exact ⟨_, rfl, (Keeps.get (by repeat (first | exact Keeps.refl _ | refine Keeps.push ?_ _ | refine Keeps.set ?_ (by first | omega | (simp only [Hp.size_push, Hp.size_setB]; omega)) _)))⟩
end Go.Abs.B1
